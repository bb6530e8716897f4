/- The program's slots (chapter 37): Give, Copy. -/
import Derived.Test.YtkjpdciccablpaaGreatDoorHSlot1
import Derived.Test.YtkjpdciccablpaaGreatDoorHStTab
import Derived.Test.YtkjpdciccablpaaGreatDoorHRes3
import Derived.WalkSpells
import Derived.Test.YtkjpdciccablpaaGreatDoorL2a
import Derived.Test.YtkjpdciccablpaaGreatDoorL0a
import Derived.BigQuiet
import Derived.Test.YtkjpdciccablpaaGreatDoorHStats1
import Derived.Maps.RangeRun
import Derived.Laws.IdiomRangeMap
import Derived.Deep.LoopGhost
namespace Go.Proofs.YtkjpdciccablpaaGreatDoor
open Go.RowKit
set_option linter.unusedVariables false
set_option linter.unusedSimpArgs false
set_option maxHeartbeats 16000000
set_option maxRecDepth 20000
theorem give_c {w : World} {z : Nat} {cs : Array Value} {l : List SlotR} (h : Row w z cs SlT) (ha : SlA cs l) {i k : Nat} {g : Int} (hi : l[i]? = some ⟨some k, g⟩) (g0 : 1 ≤ g) (g1 : g ≤ 1000) :
    Calls Tryz.prog 90 #[ptr z, .agg #[.int .i64 i, .int .u32 g]] w fun e w' => e = .returned (.int .i64 0) ∧ Row w' z ((cs.setIfInBounds (1 + i * 2) (.int .i64 0)).setIfInBounds (1 + i * 2 + 1) (.int .u32 (g + 1))) SlT ∧ But (fun b => b = z) w w' := by
  have hl := (List.getElem?_eq_some_iff.1 hi).1
  have hlen := ha.len
  have hsz := ha.size
  have CC := Lib.hid (fun W (hW : Row W z cs SlT) => sl_check hW ha hi)
  have cn := fun W => next_any g W (by omega) (by omega)
  have e1 : gAfter g 1 = g + 1 := by unfold gAfter; rw [if_neg (by omega), if_neg (by omega)]
  have e2 : gAfterB g 1 = true := by unfold gAfterB; simp; (try omega)
  rw [gErr_pos g0, e1, e2] at cn
  have CN := Lib.hid cn
  clear cn e1 e2 ha hi
  have i0 : (0 : Int) ≤ (i : Int) := by omega
  have i1 : (i : Int) < 256 := by omega
  go_enter Tryz.func90, Tryz.ntmps90
  go_upto_region 1 with fail
  have hb := below_alloc w (.cells #[.int .i64 i, .int .u32 g] 85)
  have r1 := Row.new (W := w) (cs := #[.int .i64 i, .int .u32 g]) (t := 85)
  have hzw := h.lt
  replace h := h.on hb
  have hc := hb
  clear hb
  generalize w.alloc (.cells #[.int .i64 i, .int .u32 g] 85) = V at *
  have y1 := r1.cell
  have z1 := r1.lt
  go_wp2_with fail
  refine Calls.mono (CC.out _ h) ?_
  rintro e V1 ⟨rfl, hn⟩
  clear y1 z1
  replace h := h.on hn
  replace r1 := r1.on hn
  replace hc := chain hc hn
  clear hn
  have y1 := r1.cell
  have z1 := r1.lt
  go_wp2_with fail
  refine Calls.mono (CN.out _) ?_
  rintro e V2 ⟨rfl, hn⟩
  clear y1 z1 CC CN
  replace h := h.on hn
  replace r1 := r1.on hn
  replace hc := chain hc hn
  clear hn
  have hbut := but_of (fun b => b = z) hc
  clear hc
  go_upto_region 6 with fail
  refine wp_region_held_drew (S := fun W' => ∀ j, W'.cell? ⟨w.heap.size, j, none⟩ = (#[.int .i64 i, .int .u32 g] : Array Value)[j]?) (by kernel_rfl) r1.cell (fun hHeld => ?_)
  replace h := h.drew
  replace r1 := r1.drew
  replace hbut := hbut.drew
  generalize V2.drew = X at *
  refine' wpAnyH_take (i := 0) (oi := _) (v := _) ?_ (by kernel_rfl) (by kernel_rfl) (by kernel_rfl) ?_ (Or.inl ⟨?_, ?_⟩) (by assumption) ?_
  rotate_left 2
  · (simp only [List.getElem?_toArray, List.getElem?_cons_succ, List.getElem?_cons_zero]; rfl)
  · first | exact fun _ _ _ h => h | exact fun _ _ _ h => nomatch h.1
  · rfl
  · (intro W hSW; (try dsimp only at hSW); go_split_ands; first | (go_simp; done) | (go_simp; with_reducible rfl))
  try simp only [Act.put, List.setIfInBounds_toArray, List.set_cons_zero, List.set_cons_succ]
  refine' wpAnyH_take (i := 1) (oi := _) (v := _) ?_ (by kernel_rfl) (by kernel_rfl) (by kernel_rfl) ?_ (Or.inl ⟨?_, ?_⟩) (by assumption) ?_
  rotate_left 2
  · (simp only [List.getElem?_toArray, List.getElem?_cons_succ, List.getElem?_cons_zero]; rfl)
  · first | exact fun _ _ _ h => h | exact fun _ _ _ h => nomatch h.1
  · rfl
  · (intro W hSW; (try dsimp only at hSW); go_split_ands; first | (go_simp; done) | (go_simp; with_reducible rfl))
  try simp only [Act.put, List.setIfInBounds_toArray, List.set_cons_zero, List.set_cons_succ]
  refine' wpAnyH_take (i := 2) (oi := _) (v := _) ?_ (by kernel_rfl) (by kernel_rfl) (by kernel_rfl) ?_ (Or.inl ⟨?_, ?_⟩) (by assumption) ?_
  rotate_left 2
  · (simp only [List.getElem?_toArray, List.getElem?_cons_succ, List.getElem?_cons_zero]; rfl)
  · first | exact fun _ _ _ h => h | exact fun _ _ _ h => nomatch h.1
  · rfl
  · (intro W hSW; (try dsimp only at hSW); go_split_ands; first | (go_simp; done) | (go_simp; with_reducible rfl))
  try simp only [Act.put, List.setIfInBounds_toArray, List.set_cons_zero, List.set_cons_succ]
  refine' wpAnyH_take (i := 3) (oi := _) (v := _) ?_ (by kernel_rfl) (by kernel_rfl) (by kernel_rfl) ?_ (Or.inl ⟨?_, ?_⟩) (by assumption) ?_
  rotate_left 2
  · (simp only [List.getElem?_toArray, List.getElem?_cons_succ, List.getElem?_cons_zero]; rfl)
  · first | exact fun _ _ _ h => h | exact fun _ _ _ h => nomatch h.1
  · rfl
  · (intro W hSW; (try dsimp only at hSW); go_split_ands; first | (go_simp; done) | (go_simp; with_reducible rfl))
  try simp only [Act.put, List.setIfInBounds_toArray, List.set_cons_zero, List.set_cons_succ]
  refine' wpAnyH_take (i := 4) (oi := _) (v := _) ?_ (by kernel_rfl) (by kernel_rfl) (by kernel_rfl) ?_ (Or.inl ⟨?_, ?_⟩) (by assumption) ?_
  rotate_left 2
  · (simp only [List.getElem?_toArray, List.getElem?_cons_succ, List.getElem?_cons_zero]; rfl)
  · first | exact fun _ _ _ h => h | exact fun _ _ _ h => nomatch h.1
  · rfl
  · (intro W hSW; (try dsimp only at hSW); go_split_ands; first | (go_simp; done) | (go_simp; with_reducible rfl))
  try simp only [Act.put, List.setIfInBounds_toArray, List.set_cons_zero, List.set_cons_succ]
  refine' wpAnyH_take (i := 5) (oi := _) (v := _) ?_ (by kernel_rfl) (by kernel_rfl) (by kernel_rfl) ?_ (Or.inl ⟨?_, ?_⟩) (by assumption) ?_
  rotate_left 2
  · (simp only [List.getElem?_toArray, List.getElem?_cons_succ, List.getElem?_cons_zero]; rfl)
  · first | exact fun _ _ _ h => h | exact fun _ _ _ h => nomatch h.1
  · rfl
  · (intro W hSW; (try dsimp only at hSW); go_split_ands; first | (go_simp; done) | (go_simp; with_reducible rfl))
  try simp only [Act.put, List.setIfInBounds_toArray, List.set_cons_zero, List.set_cons_succ]
  refine' wpAnyH_take (i := 6) (oi := _) (v := _) ?_ (by kernel_rfl) (by kernel_rfl) (by kernel_rfl) ?_ (Or.inl ⟨?_, ?_⟩) (by assumption) ?_
  rotate_left 2
  · (simp only [List.getElem?_toArray, List.getElem?_cons_succ, List.getElem?_cons_zero]; rfl)
  · first | exact fun _ _ _ h => h | exact fun _ _ _ h => nomatch h.1
  · rfl
  · (intro W hSW; (try dsimp only at hSW); go_split_ands; first | (go_simp; done) | (go_simp; with_reducible rfl))
  try simp only [Act.put, List.setIfInBounds_toArray, List.set_cons_zero, List.set_cons_succ]
  refine' wpAnyH_take (i := 7) (oi := _) (v := _) ?_ (by kernel_rfl) (by kernel_rfl) (by kernel_rfl) ?_ (Or.inl ⟨?_, ?_⟩) (by assumption) ?_
  rotate_left 2
  · (simp only [List.getElem?_toArray, List.getElem?_cons_succ, List.getElem?_cons_zero]; rfl)
  · first | exact fun _ _ _ h => h | exact fun _ _ _ h => nomatch h.1
  · rfl
  · (intro W hSW; (try dsimp only at hSW); go_split_ands; first | (go_simp; done) | (go_simp; with_reducible rfl))
  try simp only [Act.put, List.setIfInBounds_toArray, List.set_cons_zero, List.set_cons_succ]
  clear hHeld
  have yz0 : X.cell? ⟨z, 1 + i * 2, none⟩ = cs[1 + i * 2]? := h.cell _
  have yz1 : X.cell? ⟨z, 1 + i * 2 + 1, none⟩ = cs[1 + i * 2 + 1]? := h.cell _
  obtain ⟨u0, hu0⟩ : ∃ u, cs[1 + i * 2]? = some u := ⟨_, Array.getElem?_eq_getElem (by omega)⟩
  obtain ⟨u1, hu1⟩ : ∃ u, cs[1 + i * 2 + 1]? = some u := ⟨_, Array.getElem?_eq_getElem (by omega)⟩
  rw [hu0] at yz0
  rw [hu1] at yz1
  clear hu0 hu1
  have fz := h.free
  have zz := h.lt
  refine wpAnyH_ready (rs := [8]) (by kernel_rfl) (by simp) ?_
  refine' AllReadyH.cons (o := _) ?_ (fun K hK => ?_) AllReadyH.nil
  rotate_left 1
  · (simp only [List.getElem?_toArray, List.getElem?_cons_succ, List.getElem?_cons_zero]; rfl)
  go_simp
  refine hK.out _ _ ((r1.other (by omega) _ _).other (by omega) _ _).cell (fun hHeld => ?_)
  clear hK K hHeld
  refine wpAnyH_done (by kernel_rfl) ?_ _
  go_wp2_with fail
  go_returns
  exact ⟨rfl, (h.set _ _).set _ _, (hbut.setCell (fun _ => rfl) _ _).setCell (fun _ => rfl) _ _⟩
theorem zs_info : (Tryz.prog.info? 121).map (·.size) = some 513 := by kernel_rfl
theorem slcopy_c {w : World} {z : Nat} {cs : Array Value} (h : Row w z cs SlT) (hs : cs.size = 513) (h1 : cs.all (·.oneCell') = true) (h0 : cs[0]? = some (.int .i64 64)) : Calls Tryz.prog 42 #[ptr z] w fun e w' => e = .returned (ptr w.heap.size) ∧ Below w.heap.size w w' := by
  have hN := h.eq
  have CV := Lib.hid (sl_valid h h0)
  have HN := Lib.hid hN
  have HS := Lib.hid hs
  have H1 := Lib.hid h1
  clear hN hs h1 h0 h
  go_enter Tryz.func42, Tryz.ntmps42
  go_wp2_with fail
  refine Calls.mono CV.out ?_
  rintro e V ⟨rfl, hW⟩
  subst V
  go_wp2_with (first
    | (refine wpList_load_row rfl 121 (.tmp 8) rfl z rfl 121 cs (0, 0) _ HN.out Tryz.underlying121 rfl (by rw [zs_info, HS.out]) ?_)
    | (refine wpList_store_row rfl 121 (.tmp 3) (.tmp 9) rfl w.heap.size cs rfl rfl 121 Tryz.zeroCells121 (heap_alloc_new w _) (by rw [zs_info, HS.out]) (by rw [zcs_size, HS.out]) H1.out ?_))
  go_returns
  exact ⟨rfl, below_setRow ((Below.refl _ _).alloc (Nat.le_refl _) _) (Nat.le_refl _) _⟩
end Go.Proofs.YtkjpdciccablpaaGreatDoor

/- The program's table (chapter 37): what it is in memory; what only looks. -/
namespace Go.Proofs.YtkjpdciccablpaaGreatDoor
open Go.RowKit
set_option linter.unusedVariables false
set_option linter.unusedSimpArgs false
set_option maxHeartbeats 16000000
set_option maxRecDepth 20000
abbrev TabT : TypeId := 74
abbrev ResT : TypeId := 91
def tagB : ByteArray := ⟨#[116, 97, 103]⟩
def whyS (s : Int) : Int := if s = 1 then 0 else 1
def resC (k : Nat) (r : RS) : List Value := [.int .i64 1, .int .i64 k, .int .u32 1, .int .i64 r.st, .int .i64 (whyS r.st), .int .i64 r.tr, .int .i64 r.nx, .string tagB]
def resV (k : Nat) (r : RS) : Value := .agg (resC k r).toArray
def resL (l : List RS) : List (List Value) := l.mapIdx resC
theorem resL_len (l : List RS) : (resL l).length = l.length := by simp [resL]
theorem resL_get {l : List RS} {k : Nat} {r : RS} (h : l[k]? = some r) : (resL l)[k]? = some (resC k r) := by simp [resL, h]
theorem resL_snoc (l : List RS) (r : RS) : resL (l ++ [r]) = resL l ++ [resC l.length r] := by simp [resL]
theorem resL_set (l : List RS) (k : Nat) (r : RS) : resL (l.set k r) = (resL l).set k (resC k r) := by
  unfold resL
  apply List.ext_getElem?
  intro j
  rw [List.getElem?_mapIdx, List.getElem?_set, List.getElem?_set, List.length_mapIdx, List.getElem?_mapIdx]
  by_cases e : k = j
  · subst e
    by_cases h : k < l.length <;> simp [h]
  · simp [e]
theorem res_info : (Tryz.prog.info? 91).map (fun i => (i.zero, i.size, i.bytes)) = some (some (.agg #[.int .i64 0, .int .i64 0, .int .u32 0, .int .i64 0, .int .i64 0, .int .i64 0, .int .i64 0, .string ⟨#[]⟩]), 8, 72) := by kernel_rfl
/-- An entry of the table. -/
def entV (i : Nat) (g : Int) (k : Nat) : Value := .agg #[.int .i64 1, .int .i64 i, .int .u32 g, .int .i64 ((k : Int) + 1), .int .i64 k, .int .u32 1]
def mapT (l : List SlotR) (n : Int) : Option Value := if 0 ≤ n then (l[n.toNat]?).bind (fun s => s.own.map (entV n.toNat s.gen)) else none
theorem mapT_at {l : List SlotR} {i : Nat} {s : SlotR} (h : l[i]? = some s) : mapT l (i : Nat) = s.own.map (entV i s.gen) := by
  unfold mapT
  rw [if_pos (by omega), Int.toNat_natCast, h]
  rfl
theorem mapT_out {l : List SlotR} {i : Nat} (h : l.length ≤ i) : mapT l (i : Nat) = none := by
  unfold mapT
  rw [if_pos (by omega), Int.toNat_natCast, List.getElem?_eq_none h]
  rfl
theorem mapT_put {l : List SlotR} {i : Nat} (hi : i < l.length) (k : Nat) (g : Int) : putM (mapT l) (i : Nat) (entV i g k) = mapT (l.set i ⟨some k, g⟩) := by
  funext n
  unfold putM mapT
  by_cases h0 : 0 ≤ n
  · rw [if_pos h0, if_pos h0, List.getElem?_set]
    by_cases e : n = i
    · subst e
      simp [hi]
    · rw [if_neg e, if_neg (by omega)]
  · rw [if_neg h0, if_neg h0, if_neg (by omega)]
theorem mapT_del {l : List SlotR} {i : Nat} (hi : i < l.length) (g : Int) : delM (mapT l) (i : Nat) = mapT (l.set i ⟨none, g⟩) := by
  funext n
  unfold delM mapT
  by_cases h0 : 0 ≤ n
  · rw [if_pos h0, if_pos h0, List.getElem?_set]
    by_cases e : n = i
    · subst e
      simp [hi]
    · rw [if_neg e, if_neg (by omega)]
  · rw [if_neg h0, if_neg h0]
    split <;> rfl
structure TabIs (W : World) (F : Nat → Prop) (p : Nat) (sl : List SlotR) (rs : List RS) (z m : Nat) (cs : Array Value) (v : Value) : Prop where
  row : Row W p #[ptr z, .map (some m), v] TabT
  rz : Row W z cs SlT
  sa : SlA cs sl
  mp : IMap W m (mapT sl)
  own : OwnsC ResT 8 0 W v (resL rs)
  fp : F p
  fz : F z
  fm : F m
  fv : ∀ b, v.ownBlock = some b → F b
  fin : ∀ b, F b → b < W.heap.size
  most : rs.length ≤ 60
  gens : ∀ s ∈ sl, 1 ≤ s.gen ∧ s.gen ≤ 1000
  owns : ∀ (i : Nat) (s : SlotR) (k : Nat), sl[i]? = some s → s.own = some k → k < rs.length
def Tab (W : World) (F : Nat → Prop) (p : Nat) (sl : List SlotR) (rs : List RS) : Prop := ∃ z m cs v, TabIs W F p sl rs z m cs v
section
variable {W W' : World} {F : Nat → Prop} {p : Nat} {sl : List SlotR} {rs : List RS} {z m : Nat} {cs : Array Value} {v : Value}
theorem TabIs.via (h : TabIs W F p sl rs z m cs v) (hs : W.heap.size ≤ W'.heap.size) (hb : ∀ b, F b → W'.heap[b]? = W.heap[b]?) : TabIs W' F p sl rs z m cs v :=
  { h with
    row := ⟨(hb p h.fp).trans h.row.eq⟩
    rz := ⟨(hb z h.fz).trans h.rz.eq⟩
    mp := h.mp.via (hb m h.fm)
    own := h.own.via (fun k hk => hb k (h.fv k hk))
    fin := fun b hF => Nat.lt_of_lt_of_le (h.fin b hF) hs }
theorem TabIs.on (h : TabIs W F p sl rs z m cs v) (hb : Below W.heap.size W W') : TabIs W' F p sl rs z m cs v := h.via hb.size (fun b hF => hb.block b (h.fin b hF))
theorem TabIs.drew (h : TabIs W F p sl rs z m cs v) : TabIs W.drew F p sl rs z m cs v := h.via (Nat.le_refl _) (fun b _ => rfl)
theorem TabIs.wide {G : Nat → Prop} (h : TabIs W F p sl rs z m cs v) (hF : ∀ b, F b → G b) (hG : ∀ b, G b → b < W.heap.size) : TabIs W G p sl rs z m cs v :=
  { h with fp := hF _ h.fp, fz := hF _ h.fz, fm := hF _ h.fm, fv := fun b hb => hF _ (h.fv b hb), fin := hG }
theorem Tab.on (h : Tab W F p sl rs) (hb : Below W.heap.size W W') : Tab W' F p sl rs := by
  obtain ⟨z, m, cs, v, h⟩ := h
  exact ⟨z, m, cs, v, h.on hb⟩
theorem Tab.but {G : Nat → Prop} (h : Tab W F p sl rs) (hb : But G W W') (hd : ∀ b, F b → ¬ G b) : Tab W' F p sl rs := by
  obtain ⟨z, m, cs, v, h⟩ := h
  exact ⟨z, m, cs, v, h.via hb.size (fun b hF => hb.block b (h.fin b hF) (hd b hF))⟩
theorem Tab.fin (h : Tab W F p sl rs) : ∀ b, F b → b < W.heap.size := by
  obtain ⟨z, m, cs, v, h⟩ := h
  exact h.fin
theorem Tab.wide {G : Nat → Prop} (h : Tab W F p sl rs) (hF : ∀ b, F b → G b) (hG : ∀ b, G b → b < W.heap.size) : Tab W G p sl rs := by
  obtain ⟨z, m, cs, v, h⟩ := h
  exact ⟨z, m, cs, v, h.wide hF hG⟩
/-- The list, as the table's field. -/
theorem TabIs.list (h : TabIs W F p sl rs z m cs v) : ∃ a c, v = .slice a rs.length c := by
  obtain ⟨a, c, e⟩ := h.own.len
  rw [resL_len] at e
  exact ⟨a, c, e⟩
theorem TabIs.res (h : TabIs W F p sl rs z m cs v) {k : Nat} {r : RS} (hk : rs[k]? = some r) : ∃ g c, v = .slice (some ⟨g, 0, none⟩) rs.length c ∧ g < W.heap.size ∧ F g ∧ ∀ q, q < 8 → W.cell? ⟨g, k * 8 + q, none⟩ = (resC k r)[q]? := by
  obtain ⟨g, c, e, h1, h2⟩ := h.own.cells (resL_get hk)
  rw [resL_len] at e
  exact ⟨g, c, e, h1, h.fv g (by rw [e]; rfl), h2⟩
end
theorem res_eight {W : World} {g k : Nat} {r : RS} (h : ∀ q, q < 8 → W.cell? ⟨g, k * 8 + q, none⟩ = (resC k r)[q]?) : W.cell? ⟨g, k * 8, none⟩ = some (.int .i64 1) ∧ W.cell? ⟨g, k * 8 + 1, none⟩ = some (.int .i64 k) ∧ W.cell? ⟨g, k * 8 + 2, none⟩ = some (.int .u32 1) ∧ W.cell? ⟨g, k * 8 + 3, none⟩ = some (.int .i64 r.st) ∧ W.cell? ⟨g, k * 8 + 4, none⟩ = some (.int .i64 (whyS r.st)) ∧ W.cell? ⟨g, k * 8 + 5, none⟩ = some (.int .i64 r.tr) ∧ W.cell? ⟨g, k * 8 + 6, none⟩ = some (.int .i64 r.nx) ∧ W.cell? ⟨g, k * 8 + 7, none⟩ = some (.string tagB) :=
  ⟨h 0 (by omega), h 1 (by omega), h 2 (by omega), h 3 (by omega), h 4 (by omega), h 5 (by omega), h 6 (by omega), h 7 (by omega)⟩
theorem tvalid_c {W : World} {p z m : Nat} {v : Value} (h : Row W p #[ptr z, .map (some m), v] TabT) : Calls Tryz.prog 41 #[ptr p] W fun e w' => e = .returned (.bool true) ∧ w' = W := by
  have y := h.cell
  have zz := h.lt
  have hne := fun w r => run_neq_map_nil (P := Tryz.prog) w 71 _ _ r Tryz.underlying71
  go_enter Tryz.func41, Tryz.ntmps41
  go_wp2_with fail
  go_returns
  exact ⟨rfl, rfl⟩
theorem tbcheck_c {W : World} {p z m N c k : Nat} {a : Option Addr} (h : Row W p #[ptr z, .map (some m), .slice a N c] TabT) (hk : k < N) : Calls Tryz.prog 62 #[ptr p, .int .i64 ((k : Int) + 1)] W fun e w' => e = .returned (.int .i64 0) ∧ w' = W := by
  have y := h.cell
  have zz := h.lt
  have d1 : ¬ ((k : Int) + 1 < 1) := by omega
  have d2 : ¬ ((N : Int) < (k : Int) + 1) := by omega
  have CV := Lib.hid (tvalid_c h)
  clear h
  go_enter Tryz.func62, Tryz.ntmps62
  go_wp2_with fail
  refine Calls.mono CV.out ?_
  rintro e V ⟨rfl, hW⟩
  subst V
  go_wp2_with fail
  go_returns
  exact ⟨rfl, rfl⟩
theorem tlen_c {W : World} {p z m N c : Nat} {a : Option Addr} (h : Row W p #[ptr z, .map (some m), .slice a N c] TabT) : Calls Tryz.prog 19 #[ptr p] W fun e w' => e = .returned (.int .i64 N) ∧ w' = W := by
  have y := h.cell
  have zz := h.lt
  have CV := Lib.hid (tvalid_c h)
  clear h
  go_enter Tryz.func19, Tryz.ntmps19
  go_wp2_with fail
  refine Calls.mono CV.out ?_
  rintro e V ⟨rfl, hW⟩
  subst V
  go_wp2_with fail
  go_returns
  exact ⟨rfl, rfl⟩
theorem tget_c {w : World} {F : Nat → Prop} {p : Nat} {sl : List SlotR} {rs : List RS} {z m : Nat} {cs : Array Value} {v : Value} {k : Nat} {r : RS} (h : TabIs w F p sl rs z m cs v) (hk : rs[k]? = some r) : Ret 31 #[ptr p, .int .i64 ((k : Int) + 1)] w (.tuple #[resV k r, .int .i64 0]) := by
  have hkl := (List.getElem?_eq_some_iff.1 hk).1
  have hm := h.most
  obtain ⟨g, c, rfl, hg, _, hc8⟩ := h.res hk
  obtain ⟨c0, c1, c2, c3, c4, c5, c6, c7⟩ := res_eight hc8
  have rp := h.row
  have e1 : IntKind.i64.wrap ((k : Int) + 1 - 1) = (k : Int) := by rw [show (k : Int) + 1 - 1 = k by omega]; exact IntWalk.i64_in _ ⟨by omega, by omega⟩
  have k0 : (0 : Int) ≤ (k : Int) := by omega
  have k1 : (k : Int) < (rs.length : Int) := by omega
  generalize rs.length = N at *
  have hrV : resV k r = .agg #[.int .i64 1, .int .i64 k, .int .u32 1, .int .i64 r.st, .int .i64 (whyS r.st), .int .i64 r.tr, .int .i64 r.nx, .string tagB] := rfl
  rw [hrV]
  generalize whyS r.st = wy at *
  clear hrV hc8 h hk
  go_enter Tryz.func31, Tryz.ntmps31
  go_upto_region 1 with fail
  have hb := below_alloc w (.cells #[.int .i64 0, .int .i64 0, .int .u32 0, .int .i64 0, .int .i64 0, .int .i64 0, .int .i64 0, .string ⟨#[]⟩] ResT)
  have r1 := Row.new (W := w) (cs := #[.int .i64 0, .int .i64 0, .int .u32 0, .int .i64 0, .int .i64 0, .int .i64 0, .int .i64 0, .string ⟨#[]⟩]) (t := ResT)
  have hgw := block_lt_of_cell (a := ⟨g, k * 8, none⟩) c0
  replace rp := rp.on hb
  replace c0 := keep_cell hb hgw c0
  replace c1 := keep_cell hb hgw c1
  replace c2 := keep_cell hb hgw c2
  replace c3 := keep_cell hb hgw c3
  replace c4 := keep_cell hb hgw c4
  replace c5 := keep_cell hb hgw c5
  replace c6 := keep_cell hb hgw c6
  replace c7 := keep_cell hb hgw c7
  generalize w.alloc _ = V at *
  have CK := Lib.hid (tbcheck_c rp (show k < N by omega))
  go_wp2_with fail
  refine Calls.mono CK.out ?_
  rintro e V1 ⟨rfl, hW⟩
  subst V1
  have y1 := rp.cell
  have z1 := rp.lt
  have y2 := r1.cell
  have f2 := r1.free
  have z2 := r1.lt
  clear CK
  go_wp2_with fail
  refine bodyPost_ret (v := .tuple #[.agg #[.int .i64 1, .int .i64 k, .int .u32 1, .int .i64 r.st, .int .i64 wy, .int .i64 r.tr, .int .i64 r.nx, .string tagB], .int .i64 0]) (by simp [results, Tryz.results31, go_sem, y2, z2]) rfl ⟨rfl, ?_⟩
  refine Below.setCell ?_ (by simp) _
  refine Below.setCell ?_ (by simp) _
  refine Below.setCell ?_ (by simp) _
  refine Below.setCell ?_ (by simp) _
  refine Below.setCell ?_ (by simp) _
  refine Below.setCell ?_ (by simp) _
  refine Below.setCell ?_ (by simp) _
  exact hb.setCell (by simp) _
theorem int_infoT : (Tryz.prog.info? 3).map (fun i => (i.zero, i.size, i.bytes)) = some (some (.int .i64 0), 1, 8) := by kernel_rfl
theorem cntS_take {l : List RS} {j : Nat} {r : RS} (h : l[j]? = some r) (s : Int) : cntS (l.take (j + 1)) s = cntS (l.take j) s + (if r.st = s then 1 else 0) := by
  have e : l.take (j + 1) = l.take j ++ [r] := by rw [List.take_add_one, h]; rfl
  unfold cntS
  rw [e, List.countP_append, List.countP_singleton]
  simp
theorem tnumbers_c {w : World} {F : Nat → Prop} {p : Nat} {sl : List SlotR} {rs : List RS} {z m : Nat} {cs : Array Value} {v : Value} (s : Int) (h : TabIs w F p sl rs z m cs v) : Calls Tryz.prog 20 #[ptr p, .int .i64 s] w fun e w' => ∃ a c, e = .returned (.slice a (cntS rs s) c) ∧ Below w.heap.size w w' := by
  obtain ⟨i0, hi, hz0, hz1, hz2⟩ := info_parts int_infoT
  have HI0 := Lib.hid hi
  have HZ0 := Lib.hid hz0
  have HZ1 := Lib.hid hz1
  have HZ2 := Lib.hid hz2
  clear hi hz0 hz1 hz2
  have HH := Lib.hid h
  obtain ⟨a, c, rfl⟩ := h.list
  have rp := h.row
  have hm := h.most
  clear h
  have hc := Below.refl w.heap.size w
  have CV := Lib.hid (tvalid_c rp)
  have y1 := rp.cell
  have z1 := rp.lt
  generalize hN : rs.length = N at *
  have HN := Lib.hid hN
  clear hN
  go_enter Tryz.func20, Tryz.ntmps20
  go_wp2_with fail
  refine Calls.mono CV.out ?_
  rintro e V1 ⟨rfl, hW⟩
  subst V1
  clear CV
  go_wp2_with fail
  go_loopw [5, 16] (fun ov iv wr => ∃ (j : Nat) (q : List (List Value)), j ≤ N ∧ iv = .int .i64 j ∧ OwnsC 3 1 w.heap.size wr ov q ∧ q.length = cntS (rs.take j) s ∧ Below w.heap.size w wr) (fun _ iv _ => N - (intOf iv).toNat)
  case atStart => exact ⟨0, [], by omega, rfl, OwnsC.nil _ _ _ _, rfl, hc⟩
  case round =>
    clear y1 z1 rp hc
    obtain ⟨j, q, hj, rfl, hq, hql, hc⟩ := hrel
    have hqn : q.length ≤ 100 := by
      rw [hql]
      have : cntS (rs.take j) s ≤ (rs.take j).length := List.countP_le_length
      rw [List.length_take] at this
      omega
    by_cases hlt : j < N
    · obtain ⟨r, hr⟩ : ∃ r, rs[j]? = some r := ⟨_, List.getElem?_eq_getElem (by have := HN.out; omega)⟩
      obtain ⟨g, c', hv, hg, _, hc8⟩ := (HH.out.on hc).res hr
      injection hv with hv1 hv2 hv3
      subst hv1
      subst hv3
      obtain ⟨c0, c1, c2, c3, c4, c5, c6, c7⟩ := res_eight hc8
      have hcn := cntS_take hr s
      rw [← hql] at hcn
      have j0 : (0 : Int) ≤ (j : Int) := by omega
      have j1 : (j : Int) < (N : Int) := by omega
      have HCN := Lib.hid hcn
      have HQ := Lib.hid hq
      obtain ⟨ao, co, rfl⟩ := hq.len
      have HQN := Lib.hid hqn
      clear hcn hql hv2 hc8 hr hq hqn
      obtain ⟨qn, hqn⟩ : ∃ n, q.length = n := ⟨_, rfl⟩
      rw [hqn] at HCN HQN HQ ⊢
      have HQL := Lib.hid hqn
      clear hqn
      generalize whyS r.st = wy at *
      generalize hst : r.st = st at *
      have kb := below_alloc wr (.cells #[.int .i64 1, .int .i64 j, .int .u32 1, .int .i64 st, .int .i64 wy, .int .i64 r.tr, .int .i64 r.nx, .string tagB] ResT)
      have HK := Lib.hid kb
      clear kb hst
      by_cases hs : st = s
      · subst hs
        go_upto_region 8 with fail
        generalize wr.alloc _ = X at *
        have e1 : IntKind.i64.wrap ((j : Int) + 1) = (j : Int) + 1 := IntWalk.i64_in _ ⟨by omega, by omega⟩
        have kx := below_alloc X (.cells #[.int .i64 ((j : Int) + 1)] 3)
        have hsrc := row_src X #[.int .i64 ((j : Int) + 1)] 3
        have hq2 := ((HQ.out.on HK.out).on kx).2
        rw [HQL.out] at hq2
        have HQ2 := Lib.hid hq2
        have HSRC := Lib.hid hsrc
        have HB := Lib.hid (chain (chain hc HK.out) kx)
        have HX := Lib.hid (Nat.le_trans hc.size (Nat.le_trans HK.out.size kx.size))
        clear kx hsrc hq2 hc HK
        go_wp2_with (at_builtin; refine wpList_append_own _ rfl _ _ 38 rfl w.heap.size 3 i0 (.int .i64 0) 1 8 Tryz.underlying38 HI0.out HZ0.out HZ1.out HZ2.out rfl (by decide) _ qn q.flatten rfl HQ2.out ⟨X.heap.size, 0, none⟩ 1 1 [.int .i64 ((j : Int) + 1)] rfl rfl HSRC.out (by intro u hu; rw [List.mem_singleton.1 hu]; rfl) (by have := HQN.out; unfold maxLen; omega) (by have := HQN.out; omega) HX.out ?_; intro v' w1 hown' hgrow hnil; have HOWN := Lib.hid hown'; have HGR := Lib.hid hgrow; clear hown' hgrow hnil)
        go_roundw
        case rel =>
          rw [if_pos rfl] at HCN
          exact ⟨j + 1, q ++ [[.int .i64 ((j : Int) + 1)]], by omega, by go_num, OwnsC.more (HQ.out) rfl (by rw [HQL.out]) HOWN.out, by rw [List.length_append, HCN.out, HQL.out]; rfl, HB.out.grown HGR.out (by have := HB.out.size; omega) (fun k hk => (World.ownsRow.lt HQ2.out k hk).1)⟩
        case measure => simp [intOf]; omega
      · have hs2 : (st == s) = false := by simpa using hs
        rw [if_neg hs] at HCN
        clear hs
        go_wp2_with fail
        go_roundw
        case rel => exact ⟨j + 1, q, by omega, by go_num, HQ.out.on HK.out, by rw [HCN.out, HQL.out]; rfl, chain hc HK.out⟩
        case measure => simp [intOf]; omega
    · obtain rfl : j = N := by omega
      rw [List.take_of_length_le (Nat.le_of_eq HN.out)] at hql
      obtain ⟨ao, co, rfl⟩ := hq.len
      have HQL := Lib.hid hql
      generalize q.length = M at *
      clear hq hqn hql
      go_wp2_with fail
      go_returns
      exact ⟨_, _, by rw [HQL.out]; rfl, hc⟩
end Go.Proofs.YtkjpdciccablpaaGreatDoor

/- The program's table (chapter 37): the iterator over its entries; handled, Descs. -/
namespace Go.Proofs.YtkjpdciccablpaaGreatDoor
open Go.RowKit Go.Shelf
set_option linter.unusedVariables false
set_option linter.unusedSimpArgs false
set_option maxHeartbeats 16000000
set_option maxRecDepth 20000
attribute [local go_sem] Oper.semAt_some
structure EnR where
  i : Nat
  g : Int
  k : Nat
abbrev EntT : TypeId := 108
abbrev mapTy : TypeId := 71
abbrev entC (i : Nat) (g : Int) (k : Nat) : Array Value := #[.int .i64 1, .int .i64 i, .int .u32 g, .int .i64 ((k : Int) + 1), .int .i64 k, .int .u32 1]
abbrev ent0 : Value := .agg #[.int .i64 0, .int .i64 0, .int .u32 0, .int .i64 0, .int .i64 0, .int .u32 0]
theorem ent_zero : ∀ w, (zeroValue 108).run Tryz.prog w = .ok ent0 w := fun _ => by kernel_rfl
theorem look_some {W : World} {m : Nat} {sl : List SlotR} (h : IMap W m (mapT sl)) {i k : Nat} {g : Int} (hi : sl[i]? = some ⟨some k, g⟩) : (Instr.lookup mapTy (.map (some m)) (.int .i64 i) true).run Tryz.prog W = .ok (.tuple #[.agg (entC i g k), .bool true]) W := by
  have := h.lookup Tryz.underlying71 Tryz.underlying3 ent_zero (i : Nat)
  rw [mapT_at hi] at this
  exact this
theorem look_none {W : World} {m : Nat} {sl : List SlotR} (h : IMap W m (mapT sl)) {i : Nat} (hi : mapT sl (i : Nat) = none) : (Instr.lookup mapTy (.map (some m)) (.int .i64 i) true).run Tryz.prog W = .ok (.tuple #[ent0, .bool false]) W := by
  have := h.lookup Tryz.underlying71 Tryz.underlying3 ent_zero (i : Nat)
  rw [hi] at this
  exact this
def encE {P : EnR → Prop} (x : {x : EnR // P x}) : Array Value := #[.agg (entC x.1.i x.1.g x.1.k)]
/-- What an iterator over the entries looks at. -/
structure AllEnv (W : World) (n0 bT p : Nat) (F : Nat → Prop) (sl : List SlotR) (rs : List RS) (z m : Nat) (cs : Array Value) (v : Value) : Prop where
  rT : Row W bT #[ptr p] 35
  tab : TabIs W F p sl rs z m cs v
  nT : bT < n0
  nF : ∀ b, F b → b < n0
theorem AllEnv.on {W W' : World} {n0 bT p : Nat} {F : Nat → Prop} {sl : List SlotR} {rs : List RS} {z m : Nat} {cs : Array Value} {v : Value} (h : AllEnv W n0 bT p F sl rs z m cs v) (hs : W.heap.size ≤ W'.heap.size) (hb : ∀ b, b < n0 → W'.heap[b]? = W.heap[b]?) : AllEnv W' n0 bT p F sl rs z m cs v where
  rT := ⟨(hb bT h.nT).trans h.rT.eq⟩
  tab := h.tab.via hs (fun b hF => hb b (h.nF b hF))
  nT := h.nT
  nF := h.nF
theorem AllEnv.below {W W' : World} {n0 bT p : Nat} {F : Nat → Prop} {sl : List SlotR} {rs : List RS} {z m : Nat} {cs : Array Value} {v : Value} (h : AllEnv W n0 bT p F sl rs z m cs v) (hb : Below n0 W W') : AllEnv W' n0 bT p F sl rs z m cs v := h.on hb.size (fun b hlt => hb.block b hlt)
theorem AllEnv.grow {W W' : World} {n0 bT p : Nat} {F : Nat → Prop} {sl : List SlotR} {rs : List RS} {z m : Nat} {cs : Array Value} {v : Value} (h : AllEnv W n0 bT p F sl rs z m cs v) (hb : Below W.heap.size W W') : AllEnv W' n0 bT p F sl rs z m cs v where
  rT := h.rT.on hb
  tab := h.tab.on hb
  nT := h.nT
  nF := h.nF
theorem all1_in (P : EnR → Prop) (n : Nat) (hn : 1 ≤ n) (l n0 bT p : Nat) (F : Nat → Prop) (sl : List SlotR) (rs : List RS) (z m : Nat) (cs : Array Value) (v : Value) (hP : ∀ (i k : Nat) (g : Int), sl[i]? = some ⟨some k, g⟩ → P ⟨i, g, k⟩) (J Jx : List {x : EnR // P x} → World → Prop) (W : World)
    (hJa : ∀ s W o, J s W → J s (W.alloc o))
    (hY : ∀ pre x W1, J pre W1 → pre.length < 257 → YieldAt Fence.wide (n - 1) Tryz.prog l (encE x) W1 fun e W' => (e = .returned (.bool true) ∧ J (pre ++ [x]) W' ∧ Below n0 W1 W') ∨ (e = .returned (.bool false) ∧ Jx (pre ++ [x]) W'))
    (hE : AllEnv W n0 bT p F sl rs z m cs v) (h0 : J [] W) :
    CallsIn Fence.wide n Tryz.prog 101 #[.func (.yield l) #[] #[], .pointer (some ⟨bT, 0, none⟩)] W fun e W' => (∃ v, e = .returned v) ∧
      ((∃ ys, True ∧ J ys W') ∨ (∃ pre, True ∧ Jx pre W')) := by
  have HJA := Lib.hid hJa
  have HY := Lib.hid hY
  have HE := Lib.hid hE
  have HP := Lib.hid hP
  have H0 := Lib.hid h0
  clear hY hE hJa hP h0
  refine callsIn_of_wp Tryz.func101 rfl trivial ?_ rfl
  simp only [Tryz.ntmps101, List.size_toArray, List.length_cons, List.length_nil, Nat.reduceAdd, Nat.reduceSub, Array.replicate_succ, Array.replicate_zero, List.push_toArray, List.append_toArray, List.nil_append, List.cons_append]
  gi_wp2_with fail
  gi_loopw [6] (fun iv wr => ∃ (j : Nat) (pre : List {x : EnR // P x}), j ≤ 256 ∧ iv = .int .i64 j ∧ pre.length ≤ j ∧ J pre wr ∧ AllEnv wr n0 bT p F sl rs z m cs v) (fun iv _ => 256 - (intOf iv).toNat)
  case atStart => exact ⟨0, [], by omega, rfl, Nat.le_refl _, H0.out, HE.out⟩
  case round =>
    obtain ⟨j, pre, hj, rfl, hpl, hJj, hEj⟩ := hrel
    clear HE H0
    by_cases hlt : j < 256
    · have j0 : (0 : Int) ≤ (j : Int) := by omega
      have j1 : (j : Int) < 256 := by omega
      have y1 := hEj.rT.cell
      have y2 := hEj.tab.row.cell
      have z1 := hEj.rT.lt
      have z2 := hEj.tab.row.lt
      by_cases hx : ∃ k g, sl[j]? = some ⟨some k, g⟩
      · obtain ⟨k, g, hs⟩ := hx
        have hlk := look_some hEj.tab.mp hs
        have hJ2 := HJA.out _ _ (.cells (entC j g k) EntT) hJj
        have hp := HP.out j k g hs
        obtain ⟨fn, tmps, assign, body, hy, hR⟩ := HY.out _ (⟨⟨j, g, k⟩, hp⟩ : {x : EnR // P x}) _ hJ2 (by omega)
        dsimp only [encE] at hy
        have HR := Lib.hid hR
        have HEj := Lib.hid hEj
        clear hR hJj hEj hJ2 hs HY HJA HP
        gi_wp2_with fail
        refine HR.out.mono ?_
        rintro e W3 (⟨rfl, hJ3, hk3⟩ | ⟨rfl, hJx3⟩)
        · have HJ3 := Lib.hid hJ3
          have HE3 := Lib.hid ((HEj.out.grow (below_alloc _ _)).below hk3)
          clear hJ3 hk3 HEj HR
          gi_wp2
          go_roundw
          case rel => exact ⟨j + 1, _, by omega, by go_num, by rw [List.length_append, List.length_singleton]; omega, HJ3.out, HE3.out⟩
          case measure => simp [intOf]; omega
        · have HJ3 := Lib.hid hJx3
          clear hJx3 HEj HR
          gi_wp2
          refine bodyPost_ret (results_none rfl _ _ _) rfl ?_
          exact ⟨⟨_, rfl⟩, .inr ⟨_, trivial, HJ3.out⟩⟩
      · have hmn : mapT sl (j : Nat) = none := by
          cases hs : sl[j]? with
          | none => exact mapT_out (List.getElem?_eq_none_iff.1 hs)
          | some s =>
            rw [mapT_at hs]
            cases ho : s.own with
            | none => rfl
            | some k => exact absurd ⟨k, s.gen, by rw [hs, ← ho]⟩ hx
        have hlk := look_none hEj.tab.mp hmn
        have hJ2 := HJA.out _ _ (.cells #[.int .i64 0, .int .i64 0, .int .u32 0, .int .i64 0, .int .i64 0, .int .u32 0] EntT) hJj
        have HJ3 := Lib.hid hJ2
        have HEj := Lib.hid hEj
        clear hJj hEj hJ2 hx hmn HY HJA HP
        gi_wp2_with fail
        refine ⟨fun _ h => (by cases h), ?_⟩
        gi_wp2
        go_roundw
        case rel => exact ⟨j + 1, pre, by omega, by go_num, by omega, HJ3.out, HEj.out.grow (below_alloc _ _)⟩
        case measure => simp [intOf]; omega
    · obtain rfl : j = 256 := by omega
      have HJ3 := Lib.hid hJj
      clear hJj
      gi_wp2
      go_end0
      exact ⟨⟨_, rfl⟩, .inl ⟨_, trivial, HJ3.out⟩⟩
theorem all1_stops (P : EnR → Prop) (q : Nat) (hm : 1 ≤ q) (n0 bT p : Nat) (F : Nat → Prop) (sl : List SlotR) (rs : List RS) (z m : Nat) (cs : Array Value) (v : Value) (hP : ∀ (i k : Nat) (g : Int), sl[i]? = some ⟨some k, g⟩ → P ⟨i, g, k⟩) (w : World) (hE : AllEnv w n0 bT p F sl rs z m cs v) (hn0 : n0 ≤ w.heap.size) :
    SeqStopsK Fence.wide q Tryz.prog 101 #[.pointer (some ⟨bT, 0, none⟩)] (encE (P := P)) (Below n0) (fun _ => True) (fun _ => True) 257 w := fun l J Jx W hW hJ hJx hY h0 =>
  all1_in P q hm l n0 bT p F sl rs z m cs v hP J Jx W (fun s W o h => hJ s W _ none h (World.grownBy_alloc W o none) (fun r e => by cases e)) hY (hE.on hW.size (fun b hb => hW.block b (Nat.lt_of_lt_of_le hb hn0))) h0
theorem tall_c (p : Nat) (w : World) : Calls Tryz.prog 83 #[ptr p] w fun e w' => e = .returned (.func (.func 101) #[] #[.pointer (some ⟨w.heap.size, 0, none⟩)]) ∧ w' = w.alloc (.cells #[ptr p] 35) := by
  go_enter Tryz.func83, Tryz.ntmps83
  go_wp2_with fail
  go_returns
  exact ⟨by simp, rfl⟩
theorem entE_size {P : EnR → Prop} (x : {x : EnR // P x}) : (encE x).size = 1 := rfl
/-- No entry has this handle. -/
theorem handled_c {w : World} {F : Nat → Prop} {p : Nat} {sl : List SlotR} {rs : List RS} {z m : Nat} {cs : Array Value} {v : Value} {n : Nat} (h : TabIs w F p sl rs z m cs v) (hn : ∀ (i k : Nat) (g : Int), sl[i]? = some ⟨some k, g⟩ → k ≠ n) : Ret 54 #[ptr p, .agg #[.int .i64 n, .int .u32 1]] w (.bool false) := by
  have HH := Lib.hid h
  have HN := Lib.hid hn
  clear h hn
  refine (callsIn_wide (n := 3)).1 ?_
  refine callsIn_of_wp_marks Tryz.func54 rfl trivial ?_ rfl
  simp only [Tryz.ntmps54, List.size_toArray, List.length_cons, List.length_nil, Nat.reduceAdd, Nat.reduceSub, Array.replicate_succ, Array.replicate_zero, List.push_toArray, List.append_toArray, List.nil_append, List.cons_append]
  refine wpIn_wide.2 ?_
  go_upto_region 1 with fail
  have hb1 := below_alloc w (.cells #[.int .i64 n, .int .u32 1] 85)
  have r1 := Row.new (W := w) (cs := #[.int .i64 n, .int .u32 1]) (t := 85)
  have hs1 : (w.alloc (.cells #[.int .i64 n, .int .u32 1] 85)).heap.size = w.heap.size + 1 := by simp
  generalize w.alloc (.cells #[.int .i64 n, .int .u32 1] 85) = V1 at *
  have hb2 := below_alloc V1 (.cells #[.bool false] 4)
  have r2 := Row.new (W := V1) (cs := #[.bool false]) (t := 4)
  have hs2 : (V1.alloc (.cells #[.bool false] 4)).heap.size = w.heap.size + 2 := by simp; omega
  rw [hs1] at r2
  generalize V1.alloc (.cells #[.bool false] 4) = V2 at *
  have hB2 := chain hb1 hb2
  replace r1 := r1.on hb2
  clear hb1 hb2 hs1
  go_wp2_with fail
  refine Calls.mono (tall_c p _) ?_
  rintro e V3 ⟨rfl, hW⟩
  rw [hs2]
  have hb3 := below_alloc V2 (.cells #[ptr p] 35)
  have r3 := Row.new (W := V2) (cs := #[ptr p]) (t := 35)
  have hs3 : V3.heap.size = w.heap.size + 3 := by rw [hW]; simp; omega
  rw [← hW] at hb3 r3
  rw [hs2] at r3
  replace r1 := r1.on hb3
  replace r2 := r2.on hb3
  have hB3 := chain hB2 hb3
  have hE0 : AllEnv V3 V3.heap.size (w.heap.size + 2) p F sl rs z m cs v := ⟨r3, HH.out.on hB3, by omega, fun b hb => Nat.lt_of_lt_of_le (HH.out.fin b hb) hB3.size⟩
  clear hb3 hW hB2 hs2
  go_wp2_with fail
  have hro : Fence.wide.round = none := rfl
  refine wpIn_wide.1 (?_ : Code.wpIn Fence.wide 3 _ _ _ _ _)
  refine wpIn_rangeFunc_ownH hro (by omega) (gf := 101) (lb := #[.pointer (some ⟨w.heap.size + 2, 0, none⟩)]) rfl trivial (enters_of Tryz.func101 (by kernel_rfl) rfl)
    (all1_stops (fun x => x.k ≠ n) 2 (by omega) V3.heap.size (w.heap.size + 2) p F sl rs z m cs v (fun i k g hs => HN.out i k g hs) V3 hE0 (Nat.le_refl _)) belowK_t (belowK_b (by omega)) (Below.refl _ _) (fun _ => rfl)
    (fun _ W => (Row W w.heap.size #[.int .i64 n, .int .u32 1] 85 ∧ Row W (w.heap.size + 1) #[.bool false] 4 ∧ w.heap.size + 3 ≤ W.heap.size) ∧ Below w.heap.size w W)
    (fun _ _ _ => False)
    (OwnFrom.and (Own.from (fun s A B row hs hg hr => ⟨row_kept hs.1 hg hr, row_kept hs.2.1 hg hr, Nat.le_trans hs.2.2 hg.size⟩) _) (ownFrom_below (Nat.le_refl _) (by omega)))
    (fun _ _ _ _ _ hs _ _ => hs)
    ⟨⟨r1, r2, by omega⟩, hB3⟩
    (fun x a' W => ∃ Bx, w.heap.size + 1 < Bx ∧ Row W Bx (entC x.1.i x.1.g x.1.k) EntT ∧ a' = { tmps := #[ptr p, .agg #[.int .i64 n, .int .u32 1], undef, .pointer (some ⟨w.heap.size, 0, none⟩), .pointer (some ⟨w.heap.size + 1, 0, none⟩), .pointer (some ⟨Bx, 0, none⟩), ptr p, .func (.func 101) #[] #[.pointer (some ⟨w.heap.size + 2, 0, none⟩)], .agg (entC x.1.i x.1.g x.1.k), undef, undef, undef, undef], defers := [] })
    (fun x a' _ X Y row hs hg hr => by obtain ⟨Bx, h1, h2, h3⟩ := hs; exact ⟨Bx, h1, row_kept h2 hg (fun r e => (hr r e).2), h3⟩)
    ?assign ?body ?done ?stop
  case assign =>
    rintro l pre x W K ⟨⟨q1, q2, q3⟩, hB⟩ hK
    have z2 := q2.lt
    have hwz := hB.size
    dsimp only [encE]
    gi_wp2
    have kb := below_alloc W (.cells (entC x.1.i x.1.g x.1.k) EntT)
    exact hK _ _ ((KeepsOthers.alloc _ _).from _) ((Below.refl _ W).alloc (by omega) _) ⟨⟨q1.on kb, q2.on kb, Nat.le_trans q3 kb.size⟩, hB.alloc hB.size _⟩ ⟨W.heap.size, by omega, Row.new, rfl⟩
  case body =>
    rintro l pre ⟨⟨i, g, k⟩, hk⟩ a' W hl ⟨r, hr⟩ ⟨⟨q1, q2, q3⟩, hB⟩ ⟨Bx, hBx, qx0, rfl⟩ hlt
    have hk' : k ≠ n := hk
    have qx : Row W Bx (entC i g k) EntT := qx0
    clear qx0
    have y1 := q1.cell
    have z1 := q1.lt
    have yx := qx.cell
    have zx := qx.lt
    have qe : ∀ W, (binOp .eql 85 (.agg #[.int .i64 k, .int .u32 1]) (.agg #[.int .i64 n, .int .u32 1])).run Tryz.prog W = .ok (.bool false) W := by
      intro W
      have : ¬ ((k : Int) = (n : Int)) := by omega
      go_simp
    clear hk'
    gi_wp2
    exact ⟨(KeepsOthers.refl _).from _, Below.refl _ _, ⟨q1, q2, q3⟩, hB⟩
  case done =>
    rintro D zs W hD _ ⟨⟨q1, q2, q3⟩, hB⟩ hK
    have y2 := q2.cell
    have f2 := q2.free
    have z2 := q2.lt
    go_wp2_with fail
    replace q2 := q2.set 0 (.bool false)
    replace hB := hB.setCell (p := ⟨w.heap.size + 1, 0, none⟩) (by simp) (.bool false)
    have hK' := (KeepsOthers.setCell W ⟨w.heap.size + 1, 0, none⟩ (.bool false)).same D _ hK rfl
    refine ⟨by simp, .inl ⟨_, _, rfl, run_takeDeferred hK', ?_⟩⟩
    have k2 := row_kept q2 (grownBy_putObj' _ D (.deferred none)) (fun r e => by cases e; exact ⟨_, hK', rfl⟩)
    have y3 := k2.cell
    refine ⟨.bool false, ?_, rfl, hB.trans (belowK_b (w := w) (Nat.le_refl _) _ D _ _ (by omega) hK' rfl rfl)⟩
    simp [results, Tryz.f54, Tryz.results54, go_sem, y3]
  case stop =>
    rintro D c pre W _ _ h _
    exact h.elim
/-- No entry is of this resource. -/
theorem descs_c {w : World} {F : Nat → Prop} {p : Nat} {sl : List SlotR} {rs : List RS} {z m : Nat} {cs : Array Value} {v : Value} {n : Nat} (h : TabIs w F p sl rs z m cs v) (hl : n < rs.length) (hn : ∀ (i k : Nat) (g : Int), sl[i]? = some ⟨some k, g⟩ → k ≠ n) : Ret 66 #[ptr p, .int .i64 ((n : Int) + 1)] w (.tuple #[.slice none 0 0, .int .i64 0]) := by
  have HH := Lib.hid h
  have HN := Lib.hid hn
  obtain ⟨a0, c0, rfl⟩ := h.list
  have rp := h.row
  generalize hM : rs.length = M at *
  clear h hn hM
  refine (callsIn_wide (n := 3)).1 ?_
  refine callsIn_of_wp_marks Tryz.func66 rfl trivial ?_ rfl
  simp only [Tryz.ntmps66, List.size_toArray, List.length_cons, List.length_nil, Nat.reduceAdd, Nat.reduceSub, Array.replicate_succ, Array.replicate_zero, List.push_toArray, List.append_toArray, List.nil_append, List.cons_append]
  refine wpIn_wide.2 ?_
  go_upto_region 1 with fail
  have hb1 := below_alloc w (.cells #[.int .i64 ((n : Int) + 1)] 3)
  have r1 := Row.new (W := w) (cs := #[.int .i64 ((n : Int) + 1)]) (t := 3)
  have hs1 : (w.alloc (.cells #[.int .i64 ((n : Int) + 1)] 3)).heap.size = w.heap.size + 1 := by simp
  generalize w.alloc (.cells #[.int .i64 ((n : Int) + 1)] 3) = V1 at *
  have CK := Lib.hid (tbcheck_c (rp.on hb1) hl)
  clear rp hl
  have y1 := r1.cell
  have z1 := r1.lt
  go_wp2_with fail
  refine Calls.mono CK.out ?_
  rintro e V ⟨rfl, hW⟩
  subst V
  clear y1 z1 CK
  go_upto_region 5 with fail
  have hb2 := below_alloc V1 (.cells #[.slice none 0 0] 37)
  have r2 := Row.new (W := V1) (cs := #[.slice none 0 0]) (t := 37)
  have hs2 : (V1.alloc (.cells #[.slice none 0 0] 37)).heap.size = w.heap.size + 2 := by simp; omega
  rw [hs1] at r2
  generalize V1.alloc (.cells #[.slice none 0 0] 37) = V2 at *
  have hB2 := chain hb1 hb2
  replace r1 := r1.on hb2
  clear hb1 hb2 hs1
  go_wp2_with fail
  refine Calls.mono (tall_c p _) ?_
  rintro e V3 ⟨rfl, hW⟩
  rw [hs2]
  have hb3 := below_alloc V2 (.cells #[ptr p] 35)
  have r3 := Row.new (W := V2) (cs := #[ptr p]) (t := 35)
  have hs3 : V3.heap.size = w.heap.size + 3 := by rw [hW]; simp; omega
  rw [← hW] at hb3 r3
  rw [hs2] at r3
  replace r1 := r1.on hb3
  replace r2 := r2.on hb3
  have hB3 := chain hB2 hb3
  have hE0 : AllEnv V3 V3.heap.size (w.heap.size + 2) p F sl rs z m cs (.slice a0 M c0) := ⟨r3, HH.out.on hB3, by omega, fun b hb => Nat.lt_of_lt_of_le (HH.out.fin b hb) hB3.size⟩
  clear hb3 hW hB2 hs2
  go_wp2_with fail
  have hro : Fence.wide.round = none := rfl
  refine wpIn_wide.1 (?_ : Code.wpIn Fence.wide 3 _ _ _ _ _)
  refine wpIn_rangeFunc_ownH hro (by omega) (gf := 101) (lb := #[.pointer (some ⟨w.heap.size + 2, 0, none⟩)]) rfl trivial (enters_of Tryz.func101 (by kernel_rfl) rfl)
    (all1_stops (fun x => x.k ≠ n) 2 (by omega) V3.heap.size (w.heap.size + 2) p F sl rs z m cs (.slice a0 M c0) (fun i k g hs => HN.out i k g hs) V3 hE0 (Nat.le_refl _)) belowK_t (belowK_b (by omega)) (Below.refl _ _) (fun _ => rfl)
    (fun _ W => (Row W w.heap.size #[.int .i64 ((n : Int) + 1)] 3 ∧ Row W (w.heap.size + 1) #[.slice none 0 0] 37 ∧ w.heap.size + 3 ≤ W.heap.size) ∧ Below w.heap.size w W)
    (fun _ _ _ => False)
    (OwnFrom.and (Own.from (fun s A B row hs hg hr => ⟨row_kept hs.1 hg hr, row_kept hs.2.1 hg hr, Nat.le_trans hs.2.2 hg.size⟩) _) (ownFrom_below (Nat.le_refl _) (by omega)))
    (fun _ _ _ _ _ hs _ _ => hs)
    ⟨⟨r1, r2, by omega⟩, hB3⟩
    (fun x a' W => ∃ Bx, w.heap.size + 1 < Bx ∧ Row W Bx (entC x.1.i x.1.g x.1.k) EntT ∧ a' = { tmps := #[ptr p, .int .i64 ((n : Int) + 1), undef, .pointer (some ⟨w.heap.size, 0, none⟩), .slice none 0 0, .int .i64 0, .int .i64 0, .pointer (some ⟨w.heap.size + 1, 0, none⟩), .pointer (some ⟨Bx, 0, none⟩), ptr p, .int .i64 ((n : Int) + 1), .int .i64 0, .int .i64 0, .bool false, undef, ptr p, .func (.func 101) #[] #[.pointer (some ⟨w.heap.size + 2, 0, none⟩)], .agg (entC x.1.i x.1.g x.1.k), undef, undef, undef, undef, undef, undef, undef, undef, undef, undef], defers := [] })
    (fun x a' _ X Y row hs hg hr => by obtain ⟨Bx, h1, h2, h3⟩ := hs; exact ⟨Bx, h1, row_kept h2 hg (fun r e => (hr r e).2), h3⟩)
    ?assign ?body ?done ?stop
  case assign =>
    rintro l pre x W K ⟨⟨q1, q2, q3⟩, hB⟩ hK
    have z2 := q2.lt
    have hwz := hB.size
    dsimp only [encE]
    gi_wp2
    have kb := below_alloc W (.cells (entC x.1.i x.1.g x.1.k) EntT)
    exact hK _ _ ((KeepsOthers.alloc _ _).from _) ((Below.refl _ W).alloc (by omega) _) ⟨⟨q1.on kb, q2.on kb, Nat.le_trans q3 kb.size⟩, hB.alloc hB.size _⟩ ⟨W.heap.size, by omega, Row.new, rfl⟩
  case body =>
    rintro l pre ⟨⟨i, g, k⟩, hk⟩ a' W hl ⟨r, hr⟩ ⟨⟨q1, q2, q3⟩, hB⟩ ⟨Bx, hBx, qx0, rfl⟩ hlt
    have hk' : k ≠ n := hk
    have qx : Row W Bx (entC i g k) EntT := qx0
    clear qx0
    have y1 := q1.cell
    have z1 := q1.lt
    have yx := qx.cell
    have zx := qx.lt
    have qe : ((k : Int) + 1 == (n : Int) + 1) = false := beq_eq_false_iff_ne.2 (by omega)
    clear hk'
    gi_wp2
    exact ⟨(KeepsOthers.refl _).from _, Below.refl _ _, ⟨q1, q2, q3⟩, hB⟩
  case done =>
    rintro D zs W hD _ ⟨⟨q1, q2, q3⟩, hB⟩ hK
    have y2 := q2.cell
    have z2 := q2.lt
    go_wp2_with fail
    refine ⟨by simp, .inl ⟨_, _, rfl, run_takeDeferred hK, ?_⟩⟩
    refine ⟨.tuple #[.slice none 0 0, .int .i64 0], ?_, rfl, hB.trans (belowK_b (w := w) (Nat.le_refl _) _ D _ _ (by omega) hK rfl rfl)⟩
    simp [results, Tryz.f66, Tryz.results66, go_sem]
  case stop =>
    rintro D c pre W _ _ h _
    exact h.elim
end Go.Proofs.YtkjpdciccablpaaGreatDoor

/- The program's table (chapter 37): find, slices.ContainsFunc, New. -/
namespace Go.Proofs.YtkjpdciccablpaaGreatDoor
open Go.RowKit
set_option linter.unusedVariables false
set_option linter.unusedSimpArgs false
set_option maxHeartbeats 16000000
set_option maxRecDepth 20000
theorem find_ent_zero : ∀ w, (zeroValue 108).run Tryz.prog w = .ok (.agg #[.int .i64 0, .int .i64 0, .int .u32 0, .int .i64 0, .int .i64 0, .int .u32 0]) w := fun _ => by kernel_rfl
theorem tfind_c {w : World} {F : Nat → Prop} {p : Nat} {sl : List SlotR} {rs : List RS} {z m : Nat} {cs : Array Value} {v : Value} {i k : Nat} {g : Int} (h : TabIs w F p sl rs z m cs v) (hi : sl[i]? = some ⟨some k, g⟩) : Ret 64 #[ptr p, dV 1 i g] w (.tuple #[entV i g k, .int .i64 0]) := by
  have hil : i < 64 := by have := (List.getElem?_eq_some_iff.1 hi).1; rw [h.sa.len] at this; exact this
  have hg := h.gens _ (List.mem_of_getElem? hi)
  simp only at hg
  have cd := fun W => d_check 1 i g W (by omega) (by omega)
  rw [dErr_ok (show dOk 256 1 i g = true by unfold dOk; simp; omega)] at cd
  have CD := Lib.hid cd
  have HH := Lib.hid h
  have rp := h.row
  have hev : entV i g k = .agg #[.int .i64 1, .int .i64 i, .int .u32 g, .int .i64 ((k : Int) + 1), .int .i64 k, .int .u32 1] := rfl
  rw [hev]
  have HI := Lib.hid hi
  clear cd h hi hev
  go_enter Tryz.func64, Tryz.ntmps64
  go_upto_region 1 with fail
  have hb1 := below_alloc w (.cells #[.int .i64 1, .int .i64 i, .int .u32 g] 87)
  have r1 := Row.new (W := w) (cs := #[.int .i64 1, .int .i64 i, .int .u32 g]) (t := 87)
  have hs1 : (w.alloc (.cells #[.int .i64 1, .int .i64 i, .int .u32 g] 87)).heap.size = w.heap.size + 1 := by simp
  generalize w.alloc (.cells #[.int .i64 1, .int .i64 i, .int .u32 g] 87) = V1 at *
  have hb2 := below_alloc V1 (.cells #[.int .i64 0, .int .i64 0, .int .u32 0, .int .i64 0, .int .i64 0, .int .u32 0] 108)
  have r2 := Row.new (W := V1) (cs := #[.int .i64 0, .int .i64 0, .int .u32 0, .int .i64 0, .int .i64 0, .int .u32 0]) (t := 108)
  rw [hs1] at r2
  generalize V1.alloc _ = V2 at *
  have hc := chain hb1 hb2
  replace r1 := r1.on hb2
  replace rp := rp.on hc
  clear hb1 hb2 hs1
  have CV := Lib.hid (tvalid_c rp)
  go_wp2_with fail
  refine Calls.mono CV.out ?_
  rintro e V ⟨rfl, hW⟩
  subst V
  clear CV
  have y1 := r1.cell
  have z1 := r1.lt
  go_wp2_with fail
  refine Calls.mono (CD.out _) ?_
  rintro e V3 ⟨rfl, hn⟩
  clear y1 z1 CD
  replace rp := rp.on hn
  replace r1 := r1.on hn
  replace r2 := r2.on hn
  replace hc := chain hc hn
  clear hn
  go_wp2_with fail
  have hmp := (HH.out.on hc).mp
  have hlk : ∀ W, IMap W m (mapT sl) → (Instr.lookup 71 (.map (some m)) (.int .i64 i) true).run Tryz.prog W = .ok (.tuple #[.agg #[.int .i64 1, .int .i64 i, .int .u32 g, .int .i64 ((k : Int) + 1), .int .i64 k, .int .u32 1], .bool true]) W := fun W hW =>
    (hW.lookup Tryz.underlying71 Tryz.underlying3 find_ent_zero (i : Nat)).trans (by rw [mapT_at HI.out]; rfl)
  refine wp_region_held_drew (S := fun W' => (∀ j, W'.cell? ⟨w.heap.size, j, none⟩ = (#[.int .i64 1, .int .i64 i, .int .u32 g] : Array Value)[j]?) ∧ (∀ j, W'.cell? ⟨p, j, none⟩ = (#[ptr z, .map (some m), v] : Array Value)[j]?) ∧ (Instr.lookup 71 (.map (some m)) (.int .i64 i) true).run Tryz.prog W' = .ok (.tuple #[.agg #[.int .i64 1, .int .i64 i, .int .u32 g, .int .i64 ((k : Int) + 1), .int .i64 k, .int .u32 1], .bool true]) W') (by kernel_rfl) ⟨r1.cell, rp.cell, hlk _ hmp.drew⟩ (fun hHeld => ?_)
  replace r1 := r1.drew
  replace r2 := r2.drew
  replace rp := rp.drew
  replace hmp := hmp.drew
  replace hc := hc.drew
  generalize V3.drew = X at *
  have HLK := Lib.hid hlk
  clear hlk
  refine' wpAnyH_take (i := 0) (oi := _) (v := _) ?_ (by kernel_rfl) (by kernel_rfl) (by kernel_rfl) ?_ (Or.inl ⟨?_, ?_⟩) (by assumption) ?_
  rotate_left 2
  · (simp only [List.getElem?_toArray, List.getElem?_cons_succ, List.getElem?_cons_zero]; rfl)
  · first | exact fun _ _ _ h => h | exact fun _ _ _ h => nomatch h.1
  · rfl
  · (intro W hSW; (try dsimp only at hSW); go_split_ands; first | (go_simp; done) | (go_simp; with_reducible rfl))
  try simp only [Act.put, List.setIfInBounds_toArray, List.set_cons_zero, List.set_cons_succ]
  refine' wpAnyH_take (i := 1) (oi := _) (v := _) ?_ (by kernel_rfl) (by kernel_rfl) (by kernel_rfl) ?_ (Or.inl ⟨?_, ?_⟩) (by assumption) ?_
  rotate_left 2
  · (simp only [List.getElem?_toArray, List.getElem?_cons_succ, List.getElem?_cons_zero]; rfl)
  · first | exact fun _ _ _ h => h | exact fun _ _ _ h => nomatch h.1
  · rfl
  · (intro W hSW; (try dsimp only at hSW); go_split_ands; first | (go_simp; done) | (go_simp; with_reducible rfl))
  try simp only [Act.put, List.setIfInBounds_toArray, List.set_cons_zero, List.set_cons_succ]
  refine' wpAnyH_take (i := 2) (oi := _) (v := _) ?_ (by kernel_rfl) (by kernel_rfl) (by kernel_rfl) ?_ (Or.inl ⟨?_, ?_⟩) (by assumption) ?_
  rotate_left 2
  · (simp only [List.getElem?_toArray, List.getElem?_cons_succ, List.getElem?_cons_zero]; rfl)
  · first | exact fun _ _ _ h => h | exact fun _ _ _ h => nomatch h.1
  · rfl
  · (intro W hSW; (try dsimp only at hSW); go_split_ands; first | (go_simp; done) | (go_simp; with_reducible rfl))
  try simp only [Act.put, List.setIfInBounds_toArray, List.set_cons_zero, List.set_cons_succ]
  refine' wpAnyH_take (i := 3) (oi := _) (v := _) ?_ (by kernel_rfl) (by kernel_rfl) (by kernel_rfl) ?_ (Or.inl ⟨?_, ?_⟩) (by assumption) ?_
  rotate_left 2
  · (simp only [List.getElem?_toArray, List.getElem?_cons_succ, List.getElem?_cons_zero]; rfl)
  · first | exact fun _ _ _ h => h | exact fun _ _ _ h => nomatch h.1
  · rfl
  · (intro W hSW; (try dsimp only at hSW); go_split_ands; first | (go_simp; done) | (go_simp; with_reducible rfl))
  try simp only [Act.put, List.setIfInBounds_toArray, List.set_cons_zero, List.set_cons_succ]
  refine' wpAnyH_take (i := 4) (oi := _) (v := _) ?_ (by kernel_rfl) (by kernel_rfl) (by kernel_rfl) ?_ (Or.inl ⟨?_, ?_⟩) (by assumption) ?_
  rotate_left 2
  · (simp only [List.getElem?_toArray, List.getElem?_cons_succ, List.getElem?_cons_zero]; rfl)
  · first | exact fun _ _ _ h => h | exact fun _ _ _ h => nomatch h.1
  · rfl
  · (intro W hSW; (try dsimp only at hSW); go_split_ands; first | (go_simp; done) | (go_simp; with_reducible rfl))
  try simp only [Act.put, List.setIfInBounds_toArray, List.set_cons_zero, List.set_cons_succ]
  refine' wpAnyH_take (i := 5) (oi := _) (v := _) ?_ (by kernel_rfl) (by kernel_rfl) (by kernel_rfl) ?_ (Or.inl ⟨?_, ?_⟩) (by assumption) ?_
  rotate_left 2
  · (simp only [List.getElem?_toArray, List.getElem?_cons_succ, List.getElem?_cons_zero]; rfl)
  · first | exact fun _ _ _ h => h | exact fun _ _ _ h => nomatch h.1
  · rfl
  · (intro W hSW; (try dsimp only at hSW); go_split_ands; first | (go_simp; done) | (go_simp; with_reducible rfl))
  try simp only [Act.put, List.setIfInBounds_toArray, List.set_cons_zero, List.set_cons_succ]
  refine' wpAnyH_take (i := 6) (oi := _) (v := _) ?_ (by kernel_rfl) (by kernel_rfl) (by kernel_rfl) ?_ (Or.inl ⟨?_, ?_⟩) (by assumption) ?_
  rotate_left 2
  · (simp only [List.getElem?_toArray, List.getElem?_cons_succ, List.getElem?_cons_zero]; rfl)
  · first | exact fun _ _ _ h => h | exact fun _ _ _ h => nomatch h.1
  · rfl
  · (intro W hSW; (try dsimp only at hSW); go_split_ands; first | (go_simp; done) | (go_simp; with_reducible rfl))
  try simp only [Act.put, List.setIfInBounds_toArray, List.set_cons_zero, List.set_cons_succ]
  refine' wpAnyH_take (i := 7) (oi := _) (v := _) ?_ (by kernel_rfl) (by kernel_rfl) (by kernel_rfl) ?_ (Or.inl ⟨?_, ?_⟩) (by assumption) ?_
  rotate_left 2
  · (simp only [List.getElem?_toArray, List.getElem?_cons_succ, List.getElem?_cons_zero]; rfl)
  · first | exact fun _ _ _ h => h | exact fun _ _ _ h => nomatch h.1
  · rfl
  · (intro W hSW; (try dsimp only at hSW); go_split_ands; first | (go_simp; done) | (go_simp; with_reducible rfl))
  try simp only [Act.put, List.setIfInBounds_toArray, List.set_cons_zero, List.set_cons_succ]
  refine' wpAnyH_take (i := 8) (oi := _) (v := _) ?_ (by kernel_rfl) (by kernel_rfl) (by kernel_rfl) ?_ (Or.inl ⟨?_, ?_⟩) (by assumption) ?_
  rotate_left 2
  · (simp only [List.getElem?_toArray, List.getElem?_cons_succ, List.getElem?_cons_zero]; rfl)
  · first | exact fun _ _ _ h => h | exact fun _ _ _ h => nomatch h.1
  · rfl
  · (intro W hSW; (try dsimp only at hSW); go_split_ands; first | (go_simp; done) | (go_simp; with_reducible rfl))
  try simp only [Act.put, List.setIfInBounds_toArray, List.set_cons_zero, List.set_cons_succ]
  refine' wpAnyH_take (i := 9) (oi := _) (v := _) ?_ (by kernel_rfl) (by kernel_rfl) (by kernel_rfl) ?_ (Or.inl ⟨?_, ?_⟩) (by assumption) ?_
  rotate_left 2
  · (simp only [List.getElem?_toArray, List.getElem?_cons_succ, List.getElem?_cons_zero]; rfl)
  · first | exact fun _ _ _ h => h | exact fun _ _ _ h => nomatch h.1
  · rfl
  · (intro W hSW; (try dsimp only at hSW); go_split_ands; first | (go_simp; done) | (go_simp; with_reducible rfl))
  try simp only [Act.put, List.setIfInBounds_toArray, List.set_cons_zero, List.set_cons_succ]
  clear hHeld
  refine wpAnyH_ready (rs := [10]) (by kernel_rfl) (by simp) ?_
  refine' AllReadyH.cons (o := _) ?_ (fun K hK => ?_) AllReadyH.nil
  rotate_left 1
  · (simp only [List.getElem?_toArray, List.getElem?_cons_succ, List.getElem?_cons_zero]; rfl)
  go_simp
  have hn := below_alloc X (.cells #[.int .i64 0, .int .i64 0, .int .u32 0, .int .i64 0, .int .i64 0, .int .u32 0] 108)
  have r3 := Row.new (W := X) (cs := #[.int .i64 0, .int .i64 0, .int .u32 0, .int .i64 0, .int .i64 0, .int .u32 0]) (t := 108)
  have hra := r2.lt
  replace r1 := r1.on hn
  replace r2 := r2.on hn
  replace rp := rp.on hn
  replace hmp := hmp.on hn
  have hX := hc.size
  replace hc := chain hc hn
  clear hn
  generalize X.alloc _ = X1 at *
  generalize X.heap.size = a3 at *
  refine hK.out _ _ ⟨r1.cell, rp.cell, HLK.out _ hmp⟩ (fun hHeld => ?_)
  clear hK K hHeld
  have y3 := r3.cell
  have f3 := r3.free
  have z3 := r3.lt
  refine wpAnyH_ready (rs := [11]) (by kernel_rfl) (by simp) ?_
  refine' AllReadyH.cons (o := _) ?_ (fun K hK => ?_) AllReadyH.nil
  rotate_left 1
  · (simp only [List.getElem?_toArray, List.getElem?_cons_succ, List.getElem?_cons_zero]; rfl)
  go_simp
  have ha1 : w.heap.size ≠ a3 := by have := r1.lt; intro e; have h1 := r1.eq; rw [e, r3.eq] at h1; cases h1
  replace r1 := (((((r1.other ha1.symm 0 (.int .i64 1)).other ha1.symm 1 (.int .i64 i)).other ha1.symm 2 (.int .u32 g)).other ha1.symm 3 (.int .i64 ((k : Int) + 1))).other ha1.symm 4 (.int .i64 k)).other ha1.symm 5 (.int .u32 1)
  have ha3 : a3 ≠ w.heap.size + 1 := by omega
  replace r2 := (((((r2.other ha3 0 (.int .i64 1)).other ha3 1 (.int .i64 i)).other ha3 2 (.int .u32 g)).other ha3 3 (.int .i64 ((k : Int) + 1))).other ha3 4 (.int .i64 k)).other ha3 5 (.int .u32 1)
  have hpa : a3 ≠ p := row_ne_row r3 rp (by decide)
  replace rp := (((((rp.other hpa 0 (.int .i64 1)).other hpa 1 (.int .i64 i)).other hpa 2 (.int .u32 g)).other hpa 3 (.int .i64 ((k : Int) + 1))).other hpa 4 (.int .i64 k)).other hpa 5 (.int .u32 1)
  have hma : m ≠ a3 := hmp.ne_row r3
  replace hmp := (((((hmp.other hma 0 (.int .i64 1)).other hma 1 (.int .i64 i)).other hma 2 (.int .u32 g)).other hma 3 (.int .i64 ((k : Int) + 1))).other hma 4 (.int .i64 k)).other hma 5 (.int .u32 1)
  replace hc := (((((hc.setCell (p := ⟨a3, 0, none⟩) (by omega) (.int .i64 1)).setCell (p := ⟨a3, 1, none⟩) (by omega) (.int .i64 i)).setCell (p := ⟨a3, 2, none⟩) (by omega) (.int .u32 g)).setCell (p := ⟨a3, 3, none⟩) (by omega) (.int .i64 ((k : Int) + 1))).setCell (p := ⟨a3, 4, none⟩) (by omega) (.int .i64 k)).setCell (p := ⟨a3, 5, none⟩) (by omega) (.int .u32 1)
  replace r3 := (((((r3.set 0 (.int .i64 1)).set 1 (.int .i64 i)).set 2 (.int .u32 g)).set 3 (.int .i64 ((k : Int) + 1))).set 4 (.int .i64 k)).set 5 (.int .u32 1)
  simp only [List.setIfInBounds_toArray, List.set_cons_zero, List.set_cons_succ] at r3
  refine hK.out _ _ ⟨r1.cell, rp.cell, HLK.out _ hmp⟩ (fun hHeld => ?_)
  clear hK K y3 f3 z3
  generalize World.setCell _ _ _ = X2 at *
  refine' wpAnyH_take (i := 12) (oi := _) (v := _) ?_ (by kernel_rfl) (by kernel_rfl) (by kernel_rfl) ?_ (Or.inl ⟨?_, ?_⟩) (by assumption) ?_
  rotate_left 2
  · (simp only [List.getElem?_toArray, List.getElem?_cons_succ, List.getElem?_cons_zero]; rfl)
  · first | exact fun _ _ _ h => h | exact fun _ _ _ h => nomatch h.1
  · rfl
  · (intro W hSW; (try dsimp only at hSW); go_split_ands; first | (go_simp; done) | (go_simp; with_reducible rfl))
  try simp only [Act.put, List.setIfInBounds_toArray, List.set_cons_zero, List.set_cons_succ]
  clear hHeld
  refine wpAnyH_done (by kernel_rfl) ?_ _
  have y3 := r3.cell
  have z3 := r3.lt
  have y1 := r1.cell
  have z1 := r1.lt
  have y2 := r2.cell
  have z2 := r2.lt
  have f2 := r2.free
  have qn : ∀ W, (binOp .neq 87 (.agg #[.int .i64 1, .int .i64 i, .int .u32 g]) (.agg #[.int .i64 1, .int .i64 i, .int .u32 g])).run Tryz.prog W = .ok (.bool false) W := by intro W; go_simp
  go_wp2_with fail
  refine bodyPost_ret (v := .tuple #[.agg #[.int .i64 1, .int .i64 i, .int .u32 g, .int .i64 ((k : Int) + 1), .int .i64 k, .int .u32 1], .int .i64 0]) (by simp [results, Tryz.results64, go_sem, y2, z2]) rfl ⟨rfl, ?_⟩
  refine Below.setCell ?_ (by simp) _
  refine Below.setCell ?_ (by simp) _
  refine Below.setCell ?_ (by simp) _
  refine Below.setCell ?_ (by simp) _
  refine Below.setCell ?_ (by simp) _
  exact hc.setCell (by simp) _
theorem open1_c (k n : Nat) (r : RS) (b : Nat) (w : World) (hb : Row w b #[.int .i64 1, .int .i64 n, .int .u32 1] 83) (hk : k ≠ n) : Ret 53 #[.agg (resC k r).toArray, .pointer (some ⟨b, 0, none⟩)] w (.bool false) := by
  have hrV : (resC k r).toArray = #[.int .i64 1, .int .i64 k, .int .u32 1, .int .i64 r.st, .int .i64 (whyS r.st), .int .i64 r.tr, .int .i64 r.nx, .string tagB] := rfl
  rw [hrV]
  generalize whyS r.st = wy at *
  have y := hb.cell
  have zz := hb.lt
  have qe : ∀ W, (binOp .eql 83 (.agg #[.int .i64 1, .int .i64 k, .int .u32 1]) (.agg #[.int .i64 1, .int .i64 n, .int .u32 1])).run Tryz.prog W = .ok (.bool false) W := by
    intro W
    have : ¬ ((k : Int) = (n : Int)) := by omega
    go_simp
  clear hrV hk hb
  go_enter Tryz.func53, Tryz.ntmps53
  go_wp2_with fail
  go_returns
  exact ⟨rfl, by go_grown⟩
theorem index_c {w : World} {F : Nat → Prop} {p : Nat} {sl : List SlotR} {rs : List RS} {z m : Nat} {cs : Array Value} {v : Value} (h : TabIs w F p sl rs z m cs v) (b : Nat) (hb : Row w b #[.int .i64 1, .int .i64 rs.length, .int .u32 1] 83) : Ret 82 #[v, .func (.func 53) #[] #[.pointer (some ⟨b, 0, none⟩)]] w (.int .i64 (-1)) := by
  have HH := Lib.hid h
  have HB := Lib.hid hb
  obtain ⟨a, c, rfl⟩ := h.list
  have hm := h.most
  obtain ⟨N, hN⟩ : ∃ N, rs.length = N := ⟨_, rfl⟩
  rw [hN] at HH HB hm ⊢
  have HN := Lib.hid hN
  clear h hb hN
  have hc := Below.refl w.heap.size w
  go_enter Tryz.func82, Tryz.ntmps82
  go_wp2_with fail
  go_loopw [8] (fun iv wr => ∃ (j : Nat), j ≤ N ∧ iv = .int .i64 j ∧ Below w.heap.size w wr) (fun iv _ => N - (intOf iv).toNat)
  case atStart => exact ⟨0, by omega, rfl, hc⟩
  case round =>
    clear hc
    obtain ⟨j, hj, rfl, hc⟩ := hrel
    by_cases hlt : j < N
    · obtain ⟨r, hr⟩ : ∃ r, rs[j]? = some r := ⟨_, List.getElem?_eq_getElem (by have := HN.out; omega)⟩
      obtain ⟨g, c', hv, hg, _, hc8⟩ := (HH.out.on hc).res hr
      rw [HN.out] at hv
      injection hv with hv1 hv2 hv3
      subst hv1
      subst hv3
      obtain ⟨c0, c1, c2, c3, c4, c5, c6, c7⟩ := res_eight hc8
      have j0 : (0 : Int) ≤ (j : Int) := by omega
      have j1 : (j : Int) < (N : Int) := by omega
      have CO := open1_c j N r b wr (HB.out.on hc) (by omega)
      rw [show (resC j r).toArray = #[.int .i64 1, .int .i64 j, .int .u32 1, .int .i64 r.st, .int .i64 (whyS r.st), .int .i64 r.tr, .int .i64 r.nx, .string tagB] from rfl] at CO
      generalize whyS r.st = wy at *
      have HCO := Lib.hid CO
      clear hv2 hc8 hr CO
      go_wp2_with fail
      refine Calls.mono HCO.out ?_
      rintro e V ⟨rfl, hn⟩
      have HC := Lib.hid (chain hc hn)
      clear c0 c1 c2 c3 c4 c5 c6 c7 hn hc HCO hg
      go_wp2_with fail
      go_roundw
      case rel => exact ⟨j + 1, by omega, by go_num, HC.out⟩
      case measure => simp [intOf]; omega
    · obtain rfl : j = N := by omega
      go_wp2_with fail
      go_returns
      exact ⟨rfl, hc⟩
theorem contains_c {w : World} {F : Nat → Prop} {p : Nat} {sl : List SlotR} {rs : List RS} {z m : Nat} {cs : Array Value} {v : Value} (h : TabIs w F p sl rs z m cs v) (b : Nat) (hb : Row w b #[.int .i64 1, .int .i64 rs.length, .int .u32 1] 83) : Ret 52 #[v, .func (.func 53) #[] #[.pointer (some ⟨b, 0, none⟩)]] w (.bool false) := by
  have ci := Lib.hid (index_c h b hb)
  clear h hb
  go_enter Tryz.func52, Tryz.ntmps52
  go_wp2_with fail
  refine Calls.mono ci.out ?_
  rintro e V ⟨rfl, hn⟩
  clear ci
  go_wp2_with fail
  go_returns
  exact ⟨rfl, hn⟩
theorem tnew_c (w : World) : Calls Tryz.prog 14 #[.int .i64 64, .int .u32 1] w fun e w' => ∃ p, e = .returned (.tuple #[ptr p, .int .i64 0]) ∧ Tab w' (FreshL w w') p emptyT.sl [] ∧ Below w.heap.size w w' := by
  have hmm := @run_makeMap Tryz.prog
  go_enter Tryz.func14, Tryz.ntmps14
  go_wp2_with fail
  refine Calls.mono (sl_new _) ?_
  rintro e V ⟨z, cs, rfl, hz, ha, hzw, hc⟩
  have HZ := Lib.hid hz
  have HA := Lib.hid ha
  have HC := Lib.hid hc
  clear hz ha hc
  go_wp2_with fail
  go_returns
  have hb1 := below_alloc V (.map #[] 0)
  have him := IMap.new V
  have hsA : (V.alloc (.map #[] 0)).heap.size = V.heap.size + 1 := by simp
  have hb2 := below_alloc (V.alloc (.map #[] 0)) (.cells #[ptr z, .map (some V.heap.size), .slice none 0 0] TabT)
  have rp := Row.new (W := V.alloc (.map #[] 0)) (cs := #[ptr z, .map (some V.heap.size), .slice none 0 0]) (t := TabT)
  have hB := chain (chain HC.out hb1) hb2
  have hsz := hb1.size
  have hsz2 := hb2.size
  rw [hsA] at rp hsz
  refine ⟨_, rfl, ⟨z, V.heap.size, cs, .slice none 0 0, ?_⟩, hB⟩
  have hem : mapT emptyT.sl = fun _ => none := by
    funext n
    unfold mapT
    split
    · cases hn : emptyT.sl[n.toNat]? with
      | none => rfl
      | some s =>
        have := List.eq_of_mem_replicate (List.mem_of_getElem? hn)
        rw [this]
        rfl
    · rfl
  exact {
    row := rp
    rz := (HZ.out.on hb1).on hb2
    sa := HA.out
    mp := by rw [hem]; exact him.on hb2
    own := OwnsC.nil _ _ _ _
    fp := ⟨Nat.le_trans HC.out.size hsz, rp.lt⟩
    fz := ⟨hzw, ((HZ.out.on hb1).on hb2).lt⟩
    fm := ⟨HC.out.size, Nat.lt_of_lt_of_le (him.lt) hsz2⟩
    fv := fun b hb => by simp [Value.ownBlock] at hb
    fin := fun b hb => hb.2
    most := by simp
    gens := fun s hs => by
      have := List.eq_of_mem_replicate hs
      rw [this]
      exact ⟨by decide, by decide⟩
    owns := fun i s k hi hk => by
      have := List.eq_of_mem_replicate (List.mem_of_getElem? hi)
      rw [this] at hk
      cases hk }
end Go.Proofs.YtkjpdciccablpaaGreatDoor

/- The program's table (chapter 37): drop, Close. -/
namespace Go.Proofs.YtkjpdciccablpaaGreatDoor
open Go.RowKit
open Go.ChangeMaps (setBlock)
set_option linter.unusedVariables false
set_option linter.unusedSimpArgs false
set_option maxHeartbeats 16000000
set_option maxRecDepth 20000
theorem OwnsC.drew5 {t : TypeId} {k b : Nat} {W : World} {v : Value} {L : List (List Value)} (h : OwnsC t k b W v L) : OwnsC t k b W.drew v L := h
theorem OwnsC.setBlock5 {t : TypeId} {k b : Nat} {W : World} {v : Value} {L : List (List Value)} (h : OwnsC t k b W v L) {m : Nat} {o : Obj} (hn : v.ownBlock ≠ some m) : OwnsC t k b (setBlock W m o) v L := h.via fun i hi => setBlock_heap i (fun e => hn (by rw [← e]; exact hi))
theorem IMap.but5 {F : Nat → Prop} {W W' : World} {m : Nat} {f : Int → Option Value} (h : IMap W m f) (hb : But F W W') (hm : ¬ F m) : IMap W' m f := h.via (hb.block m h.lt hm)
theorem OwnsC.but5 {F : Nat → Prop} {t : TypeId} {k b : Nat} {W W' : World} {v : Value} {L : List (List Value)} (h : OwnsC t k b W v L) (hb : But F W W') (hF : ∀ i, v.ownBlock = some i → ¬ F i) : OwnsC t k b W' v L := h.via fun i hi => hb.block i (h.lt i hi).2 (hF i hi)
theorem tdrop_c {w : World} {F : Nat → Prop} {p : Nat} {sl : List SlotR} {rs : List RS} {z m : Nat} {cs : Array Value} {v : Value} {i k : Nat} {g : Int} (h : TabIs w F p sl rs z m cs v) (hi : sl[i]? = some ⟨some k, g⟩) (hg9 : g ≤ 900) :
    Calls Tryz.prog 65 #[ptr p, dV 1 i g] w fun e w' => (∃ u, e = .returned u) ∧ (∃ cs', TabIs w' F p (sl.set i ⟨none, g + 1⟩) rs z m cs' v) ∧ But F w w' := by
  have HH := Lib.hid h
  have hil : i < 64 := by have := (List.getElem?_eq_some_iff.1 hi).1; rw [h.sa.len] at this; exact this
  have hg := h.gens _ (List.mem_of_getElem? hi)
  simp only at hg
  have CG := Lib.hid (fun W (hW : Row W z cs SlT) => give_c hW h.sa hi hg.1 hg.2)
  have HI := Lib.hid hi
  have hl := h.sa.len
  have HL := Lib.hid hl
  have rp := h.row
  have rz := h.rz
  have mp := h.mp
  have own := h.own
  obtain ⟨a0, c0, rfl⟩ := h.list
  clear h hi hl
  generalize hM : rs.length = M at *
  have HM := Lib.hid hM
  clear hM
  have hpz : p ≠ z := row_ne_row rp rz (by decide)
  have hmz : m ≠ z := mp.ne_row rz
  have hoz := own.ne_row rz (by decide)
  go_enter Tryz.func65, Tryz.ntmps65
  go_upto_region 1 with fail
  have hc := below_alloc w (.cells #[.int .i64 1, .int .i64 i, .int .u32 g] 87)
  have r1 := Row.new (W := w) (cs := #[.int .i64 1, .int .i64 i, .int .u32 g]) (t := 87)
  have hmw := mp.lt
  have hzw := rz.lt
  replace rp := rp.on hc
  replace rz := rz.on hc
  replace mp := mp.on hc
  replace own := own.on hc
  generalize w.alloc _ = V1 at *
  refine wp_region_held_drew (S := fun W' => (∀ j, W'.cell? ⟨p, j, none⟩ = (#[ptr z, .map (some m), .slice a0 M c0] : Array Value)[j]?) ∧ (∀ j, W'.cell? ⟨w.heap.size, j, none⟩ = (#[.int .i64 1, .int .i64 i, .int .u32 g] : Array Value)[j]?)) (by kernel_rfl) ⟨rp.cell, r1.cell⟩ (fun hHeld => ?_)
  replace r1 := r1.drew
  replace rp := rp.drew
  replace rz := rz.drew
  replace mp := mp.drew
  replace own := own.drew5
  replace hc := hc.drew
  generalize V1.drew = X at *
  refine' wpAnyH_take (i := 0) (oi := _) (v := _) ?_ (by kernel_rfl) (by kernel_rfl) (by kernel_rfl) ?_ (Or.inl ⟨?_, ?_⟩) (by assumption) ?_
  rotate_left 2
  · (simp only [List.getElem?_toArray, List.getElem?_cons_succ, List.getElem?_cons_zero]; rfl)
  · first | exact fun _ _ _ h => h | exact fun _ _ _ h => nomatch h.1
  · rfl
  · (intro W hSW; (try dsimp only at hSW); go_split_ands; first | (go_simp; done) | (go_simp; with_reducible rfl))
  try simp only [Act.put, List.setIfInBounds_toArray, List.set_cons_zero, List.set_cons_succ]
  refine' wpAnyH_take (i := 1) (oi := _) (v := _) ?_ (by kernel_rfl) (by kernel_rfl) (by kernel_rfl) ?_ (Or.inl ⟨?_, ?_⟩) (by assumption) ?_
  rotate_left 2
  · (simp only [List.getElem?_toArray, List.getElem?_cons_succ, List.getElem?_cons_zero]; rfl)
  · first | exact fun _ _ _ h => h | exact fun _ _ _ h => nomatch h.1
  · rfl
  · (intro W hSW; (try dsimp only at hSW); go_split_ands; first | (go_simp; done) | (go_simp; with_reducible rfl))
  try simp only [Act.put, List.setIfInBounds_toArray, List.set_cons_zero, List.set_cons_succ]
  refine' wpAnyH_take (i := 2) (oi := _) (v := _) ?_ (by kernel_rfl) (by kernel_rfl) (by kernel_rfl) ?_ (Or.inl ⟨?_, ?_⟩) (by assumption) ?_
  rotate_left 2
  · (simp only [List.getElem?_toArray, List.getElem?_cons_succ, List.getElem?_cons_zero]; rfl)
  · first | exact fun _ _ _ h => h | exact fun _ _ _ h => nomatch h.1
  · rfl
  · (intro W hSW; (try dsimp only at hSW); go_split_ands; first | (go_simp; done) | (go_simp; with_reducible rfl))
  try simp only [Act.put, List.setIfInBounds_toArray, List.set_cons_zero, List.set_cons_succ]
  refine' wpAnyH_take (i := 3) (oi := _) (v := _) ?_ (by kernel_rfl) (by kernel_rfl) (by kernel_rfl) ?_ (Or.inl ⟨?_, ?_⟩) (by assumption) ?_
  rotate_left 2
  · (simp only [List.getElem?_toArray, List.getElem?_cons_succ, List.getElem?_cons_zero]; rfl)
  · first | exact fun _ _ _ h => h | exact fun _ _ _ h => nomatch h.1
  · rfl
  · (intro W hSW; (try dsimp only at hSW); go_split_ands; first | (go_simp; done) | (go_simp; with_reducible rfl))
  try simp only [Act.put, List.setIfInBounds_toArray, List.set_cons_zero, List.set_cons_succ]
  refine' wpAnyH_take (i := 4) (oi := _) (v := _) ?_ (by kernel_rfl) (by kernel_rfl) (by kernel_rfl) ?_ (Or.inl ⟨?_, ?_⟩) (by assumption) ?_
  rotate_left 2
  · (simp only [List.getElem?_toArray, List.getElem?_cons_succ, List.getElem?_cons_zero]; rfl)
  · first | exact fun _ _ _ h => h | exact fun _ _ _ h => nomatch h.1
  · rfl
  · (intro W hSW; (try dsimp only at hSW); go_split_ands; first | (go_simp; done) | (go_simp; with_reducible rfl))
  try simp only [Act.put, List.setIfInBounds_toArray, List.set_cons_zero, List.set_cons_succ]
  refine' wpAnyH_take (i := 5) (oi := _) (v := _) ?_ (by kernel_rfl) (by kernel_rfl) (by kernel_rfl) ?_ (Or.inl ⟨?_, ?_⟩) (by assumption) ?_
  rotate_left 2
  · (simp only [List.getElem?_toArray, List.getElem?_cons_succ, List.getElem?_cons_zero]; rfl)
  · first | exact fun _ _ _ h => h | exact fun _ _ _ h => nomatch h.1
  · rfl
  · (intro W hSW; (try dsimp only at hSW); go_split_ands; first | (go_simp; done) | (go_simp; with_reducible rfl))
  try simp only [Act.put, List.setIfInBounds_toArray, List.set_cons_zero, List.set_cons_succ]
  clear hHeld
  have hmi : mapT sl (i : Nat) = some (entV i g k) := by rw [mapT_at HI.out]; rfl
  obtain ⟨o, hdel, mp2⟩ := mp.delete (P := Tryz.prog) (ty := 0) Tryz.underlying71 Tryz.underlying3 hmi
  refine wpAnyH_ready (rs := [6]) (by kernel_rfl) (by simp) ?_
  refine' AllReadyH.cons (o := _) ?_ (fun K hK => ?_) AllReadyH.nil
  rotate_left 1
  · (simp only [List.getElem?_toArray, List.getElem?_cons_succ, List.getElem?_cons_zero]; rfl)
  go_simp
  have qm1 : w.heap.size ≠ m := by omega
  have qm5 : p ≠ m := fun e => mp.ne_row rp e.symm
  have qm6 : z ≠ m := fun e => mp.ne_row rz e.symm
  have qm7 := mp.ne_own own
  replace r1 := r1.setBlock (o := o) qm1
  replace rp := rp.setBlock (o := o) qm5
  replace rz := rz.setBlock (o := o) qm6
  replace own := own.setBlock5 (o := o) qm7
  have hbut := (but_of F hc).setBlock (fun _ => HH.out.fm) o
  have hsz := hc.size
  refine hK.out _ _ ⟨rp.cell, r1.cell⟩ (fun hHeld => ?_)
  clear hK K hHeld mp hc
  have hszX : w.heap.size ≤ (setBlock X m o).heap.size := by rw [setBlock_size]; exact hsz
  generalize setBlock X m o = X1 at *
  refine wpAnyH_done (by kernel_rfl) ?_ _
  go_upto_region 2 with fail
  refine wp_region_held_drew (S := fun W' => (∀ j, W'.cell? ⟨p, j, none⟩ = (#[ptr z, .map (some m), .slice a0 M c0] : Array Value)[j]?) ∧ (∀ j, W'.cell? ⟨w.heap.size, j, none⟩ = (#[.int .i64 1, .int .i64 i, .int .u32 g] : Array Value)[j]?)) (by kernel_rfl) ⟨rp.cell, r1.cell⟩ (fun hHeld => ?_)
  replace r1 := r1.drew
  replace rp := rp.drew
  replace rz := rz.drew
  replace mp2 := mp2.drew
  replace own := own.drew5
  replace hbut := hbut.drew
  replace hszX : w.heap.size ≤ X1.drew.heap.size := hszX
  generalize X1.drew = X2 at *
  refine' wpAnyH_take (i := 0) (oi := _) (v := _) ?_ (by kernel_rfl) (by kernel_rfl) (by kernel_rfl) ?_ (Or.inl ⟨?_, ?_⟩) (by assumption) ?_
  rotate_left 2
  · (simp only [List.getElem?_toArray, List.getElem?_cons_succ, List.getElem?_cons_zero]; rfl)
  · first | exact fun _ _ _ h => h | exact fun _ _ _ h => nomatch h.1
  · rfl
  · (intro W hSW; (try dsimp only at hSW); go_split_ands; first | (go_simp; done) | (go_simp; with_reducible rfl))
  try simp only [Act.put, List.setIfInBounds_toArray, List.set_cons_zero, List.set_cons_succ]
  refine' wpAnyH_take (i := 1) (oi := _) (v := _) ?_ (by kernel_rfl) (by kernel_rfl) (by kernel_rfl) ?_ (Or.inl ⟨?_, ?_⟩) (by assumption) ?_
  rotate_left 2
  · (simp only [List.getElem?_toArray, List.getElem?_cons_succ, List.getElem?_cons_zero]; rfl)
  · first | exact fun _ _ _ h => h | exact fun _ _ _ h => nomatch h.1
  · rfl
  · (intro W hSW; (try dsimp only at hSW); go_split_ands; first | (go_simp; done) | (go_simp; with_reducible rfl))
  try simp only [Act.put, List.setIfInBounds_toArray, List.set_cons_zero, List.set_cons_succ]
  refine' wpAnyH_take (i := 2) (oi := _) (v := _) ?_ (by kernel_rfl) (by kernel_rfl) (by kernel_rfl) ?_ (Or.inl ⟨?_, ?_⟩) (by assumption) ?_
  rotate_left 2
  · (simp only [List.getElem?_toArray, List.getElem?_cons_succ, List.getElem?_cons_zero]; rfl)
  · first | exact fun _ _ _ h => h | exact fun _ _ _ h => nomatch h.1
  · rfl
  · (intro W hSW; (try dsimp only at hSW); go_split_ands; first | (go_simp; done) | (go_simp; with_reducible rfl))
  try simp only [Act.put, List.setIfInBounds_toArray, List.set_cons_zero, List.set_cons_succ]
  refine' wpAnyH_take (i := 3) (oi := _) (v := _) ?_ (by kernel_rfl) (by kernel_rfl) (by kernel_rfl) ?_ (Or.inl ⟨?_, ?_⟩) (by assumption) ?_
  rotate_left 2
  · (simp only [List.getElem?_toArray, List.getElem?_cons_succ, List.getElem?_cons_zero]; rfl)
  · first | exact fun _ _ _ h => h | exact fun _ _ _ h => nomatch h.1
  · rfl
  · (intro W hSW; (try dsimp only at hSW); go_split_ands; first | (go_simp; done) | (go_simp; with_reducible rfl))
  try simp only [Act.put, List.setIfInBounds_toArray, List.set_cons_zero, List.set_cons_succ]
  refine' wpAnyH_take (i := 4) (oi := _) (v := _) ?_ (by kernel_rfl) (by kernel_rfl) (by kernel_rfl) ?_ (Or.inl ⟨?_, ?_⟩) (by assumption) ?_
  rotate_left 2
  · (simp only [List.getElem?_toArray, List.getElem?_cons_succ, List.getElem?_cons_zero]; rfl)
  · first | exact fun _ _ _ h => h | exact fun _ _ _ h => nomatch h.1
  · rfl
  · (intro W hSW; (try dsimp only at hSW); go_split_ands; first | (go_simp; done) | (go_simp; with_reducible rfl))
  try simp only [Act.put, List.setIfInBounds_toArray, List.set_cons_zero, List.set_cons_succ]
  refine' wpAnyH_take (i := 5) (oi := _) (v := _) ?_ (by kernel_rfl) (by kernel_rfl) (by kernel_rfl) ?_ (Or.inl ⟨?_, ?_⟩) (by assumption) ?_
  rotate_left 2
  · (simp only [List.getElem?_toArray, List.getElem?_cons_succ, List.getElem?_cons_zero]; rfl)
  · first | exact fun _ _ _ h => h | exact fun _ _ _ h => nomatch h.1
  · rfl
  · (intro W hSW; (try dsimp only at hSW); go_split_ands; first | (go_simp; done) | (go_simp; with_reducible rfl))
  try simp only [Act.put, List.setIfInBounds_toArray, List.set_cons_zero, List.set_cons_succ]
  refine' wpAnyH_take (i := 6) (oi := _) (v := _) ?_ (by kernel_rfl) (by kernel_rfl) (by kernel_rfl) ?_ (Or.inl ⟨?_, ?_⟩) (by assumption) ?_
  rotate_left 2
  · (simp only [List.getElem?_toArray, List.getElem?_cons_succ, List.getElem?_cons_zero]; rfl)
  · first | exact fun _ _ _ h => h | exact fun _ _ _ h => nomatch h.1
  · rfl
  · (intro W hSW; (try dsimp only at hSW); go_split_ands; first | (go_simp; done) | (go_simp; with_reducible rfl))
  try simp only [Act.put, List.setIfInBounds_toArray, List.set_cons_zero, List.set_cons_succ]
  refine' wpAnyH_take (i := 7) (oi := _) (v := _) ?_ (by kernel_rfl) (by kernel_rfl) (by kernel_rfl) ?_ (Or.inl ⟨?_, ?_⟩) (by assumption) ?_
  rotate_left 2
  · (simp only [List.getElem?_toArray, List.getElem?_cons_succ, List.getElem?_cons_zero]; rfl)
  · first | exact fun _ _ _ h => h | exact fun _ _ _ h => nomatch h.1
  · rfl
  · (intro W hSW; (try dsimp only at hSW); go_split_ands; first | (go_simp; done) | (go_simp; with_reducible rfl))
  try simp only [Act.put, List.setIfInBounds_toArray, List.set_cons_zero, List.set_cons_succ]
  refine' wpAnyH_take (i := 8) (oi := _) (v := _) ?_ (by kernel_rfl) (by kernel_rfl) (by kernel_rfl) ?_ (Or.inl ⟨?_, ?_⟩) (by assumption) ?_
  rotate_left 2
  · (simp only [List.getElem?_toArray, List.getElem?_cons_succ, List.getElem?_cons_zero]; rfl)
  · first | exact fun _ _ _ h => h | exact fun _ _ _ h => nomatch h.1
  · rfl
  · (intro W hSW; (try dsimp only at hSW); go_split_ands; first | (go_simp; done) | (go_simp; with_reducible rfl))
  try simp only [Act.put, List.setIfInBounds_toArray, List.set_cons_zero, List.set_cons_succ]
  clear hHeld
  refine wpAnyH_ready (rs := [9]) (by kernel_rfl) (by simp) ?_
  refine' AllReadyH.cons (o := _) ?_ (fun K hK => ?_) AllReadyH.nil
  rotate_left 1
  · (simp only [List.getElem?_toArray, List.getElem?_cons_succ, List.getElem?_cons_zero]; rfl)
  go_simp
  refine (CG.out _ rz).mono ?_
  rintro e W3 ⟨rfl, rz3, hbz⟩
  have hn1 : w.heap.size ≠ z := by omega
  replace rp := hbz.row rp hpz
  replace r1 := hbz.row r1 hn1
  replace mp2 := mp2.but5 hbz hmz
  replace own := own.but5 hbz (fun i hi e => hoz (by rw [← e]; exact hi))
  replace hbut := hbut.trans hbz (fun k hk e => by rw [e]; exact HH.out.fz)
  clear rz hbz
  go_simp
  refine hK.out _ _ ⟨rp.cell, r1.cell⟩ (fun hHeld => ?_)
  clear hK K hHeld CG
  refine wpAnyH_done (by kernel_rfl) ?_ _
  go_wp2_with fail
  have hL := HH.out
  have hsl : i < sl.length := by rw [HL.out]; exact hil
  rw [mapT_del hsl (g + 1)] at mp2
  go_returns
  refine ⟨⟨_, rfl⟩, ⟨(cs.setIfInBounds (1 + i * 2) (.int .i64 0)).setIfInBounds (1 + i * 2 + 1) (.int .u32 (g + 1)), ?_⟩, hbut⟩
  exact {
    row := rp
    rz := rz3
    sa := hL.sa.give hsl (g + 1)
    mp := mp2
    own := own
    fp := hL.fp
    fz := hL.fz
    fm := hL.fm
    fv := hL.fv
    fin := fun b hb => Nat.lt_of_lt_of_le (hL.fin b hb) hbut.size
    most := hL.most
    gens := fun x hx => by
      rcases List.mem_or_eq_of_mem_set hx with h1 | h1
      · exact hL.gens x h1
      · rw [h1]
        show 1 ≤ g + 1 ∧ g + 1 ≤ 1000
        omega
    owns := fun j x k' hj hk => by
      rw [List.getElem?_set] at hj
      split at hj
      · have hj2 : some (⟨none, g + 1⟩ : SlotR) = some x := by simpa [hsl] using hj
        cases hj2
        cases hk
      · exact hL.owns j x k' hj hk }
theorem tclose_c {w : World} {F : Nat → Prop} {p : Nat} {sl : List SlotR} {rs : List RS} {z m : Nat} {cs : Array Value} {v : Value} {i k : Nat} {g : Int} (h : TabIs w F p sl rs z m cs v) (hi : sl[i]? = some ⟨some k, g⟩) (hg9 : g ≤ 900) (hu : ∀ (j : Nat) (g' : Int), sl[j]? = some ⟨some k, g'⟩ → j = i) :
    Calls Tryz.prog 33 #[ptr p, dV 1 i g] w fun e w' => (∃ b, e = .returned (.tuple #[.int .i64 ((k : Int) + 1), .bool b, .int .i64 0])) ∧ (∃ cs', TabIs w' F p (sl.set i ⟨none, g + 1⟩) rs z m cs' v) ∧ But F w w' := by
  have CF := Lib.hid (fun W (hb : Below w.heap.size w W) => tfind_c (h.on hb) hi)
  have CD := Lib.hid (fun W (hb : Below w.heap.size w W) => tdrop_c (h.on hb) hi hg9)
  have hkl := h.owns i _ k hi rfl
  have hun : ∀ (j k' : Nat) (g' : Int), (sl.set i ⟨none, g + 1⟩)[j]? = some ⟨some k', g'⟩ → k' ≠ k := fun j k' g' hj e => by
    subst e
    rw [List.getElem?_set] at hj
    split at hj
    · split at hj
      · cases hj
      · cases hj
    · rename_i hne
      exact hne (hu j g' hj).symm
  have CE := Lib.hid (fun W cs' (hW : TabIs W F p (sl.set i ⟨none, g + 1⟩) rs z m cs' v) => descs_c hW hkl hun)
  have HH := Lib.hid h
  clear h hi hu hun
  simp only [entV] at CF
  go_enter Tryz.func33, Tryz.ntmps33
  go_upto_region 1 with fail
  have hc := below_alloc w (.cells #[.int .i64 1, .int .i64 i, .int .u32 g] 87)
  have r1 := Row.new (W := w) (cs := #[.int .i64 1, .int .i64 i, .int .u32 g]) (t := 87)
  generalize w.alloc _ = V1 at *
  have y1 := r1.cell
  have z1 := r1.lt
  go_wp2_with fail
  refine Calls.mono (CF.out _ hc) ?_
  rintro e V2 ⟨rfl, hn⟩
  clear y1 z1
  replace r1 := r1.on hn
  replace hc := chain hc hn
  clear hn CF
  go_upto_region 2 with fail
  have hn := below_alloc V2 (.cells #[.int .i64 1, .int .i64 i, .int .u32 g, .int .i64 ((k : Int) + 1), .int .i64 k, .int .u32 1] 108)
  have r2 := Row.new (W := V2) (cs := #[.int .i64 1, .int .i64 i, .int .u32 g, .int .i64 ((k : Int) + 1), .int .i64 k, .int .u32 1]) (t := 108)
  have ha2 : w.heap.size < V2.heap.size := r1.lt
  replace r1 := r1.on hn
  replace hc := chain hc hn
  clear hn
  generalize V2.alloc _ = V3 at *
  generalize V2.heap.size = a2 at *
  have y1 := r1.cell
  have z1 := r1.lt
  go_wp2_with fail
  refine Calls.mono (CD.out _ hc) ?_
  rintro e V4 ⟨⟨u, rfl⟩, ⟨cs', hT⟩, hb⟩
  clear y1 z1 CD
  have hfin := HH.out.fin
  have hnF : ∀ b, w.heap.size ≤ b → ¬ F b := fun b hb2 hF => by have := hfin b hF; omega
  replace r1 := hb.row r1 (hnF _ (Nat.le_refl _))
  replace r2 := hb.row r2 (hnF _ (by omega))
  have hbut := (but_of F hc).trans hb (fun k _ e => e)
  have y2 := r2.cell
  have z2 := r2.lt
  clear hb hc r1
  go_wp2_with fail
  refine Calls.mono (CE.out _ cs' hT) ?_
  rintro e V5 ⟨rfl, hn⟩
  replace hT := hT.on hn
  replace hbut := hbut.on hn
  clear y2 z2
  replace r2 := r2.on hn
  have y2 := r2.cell
  have z2 := r2.lt
  clear hn CE
  go_wp2_with fail
  go_returns
  exact ⟨⟨_, rfl⟩, ⟨cs', hT⟩, hbut⟩
end Go.Proofs.YtkjpdciccablpaaGreatDoor

/- The program's table (chapter 37): add. -/
namespace Go.Proofs.YtkjpdciccablpaaGreatDoor
open Go.RowKit
open Go.ChangeMaps (setBlock)
set_option linter.unusedVariables false
set_option linter.unusedSimpArgs false
set_option maxHeartbeats 16000000
set_option maxRecDepth 20000
theorem OwnsC.drew {t : TypeId} {k b : Nat} {W : World} {v : Value} {L : List (List Value)} (h : OwnsC t k b W v L) : OwnsC t k b W.drew v L := h
theorem OwnsC.setBlock {t : TypeId} {k b : Nat} {W : World} {v : Value} {L : List (List Value)} (h : OwnsC t k b W v L) {m : Nat} {o : Obj} (hn : v.ownBlock ≠ some m) : OwnsC t k b (setBlock W m o) v L := h.via fun i hi => setBlock_heap i (fun e => hn (by rw [← e]; exact hi))
theorem IMap.but {F : Nat → Prop} {W W' : World} {m : Nat} {f : Int → Option Value} (h : IMap W m f) (hb : But F W W') (hm : ¬ F m) : IMap W' m f := h.via (hb.block m h.lt hm)
theorem OwnsC.but {F : Nat → Prop} {t : TypeId} {k b : Nat} {W W' : World} {v : Value} {L : List (List Value)} (h : OwnsC t k b W v L) (hb : But F W W') (hF : ∀ i, v.ownBlock = some i → ¬ F i) : OwnsC t k b W' v L := h.via fun i hi => hb.block i (h.lt i hi).2 (hF i hi)
theorem tadd_c {w : World} {F : Nat → Prop} {p : Nat} {sl : List SlotR} {rs : List RS} {z m : Nat} {cs : Array Value} {v : Value} {N : Nat} (h : TabIs w F p sl rs z m cs v) (hN : rs.length = N + 1) (hf : 0 < freeN sl) :
    Calls Tryz.prog 56 #[ptr p, .int .i64 ((N : Int) + 1), .agg #[.int .i64 N, .int .u32 1]] w fun e w' => ∃ s, sl[firstF sl]? = some s ∧ isFree s = true ∧ e = .returned (.tuple #[dV 1 (firstF sl : Nat) s.gen, .int .i64 0]) ∧ (∃ cs', TabIs w' F p (sl.set (firstF sl) ⟨some N, s.gen⟩) rs z m cs' v) ∧ But F w w' := by
  have HH := Lib.hid h
  have hm := h.most
  obtain ⟨r, hr⟩ : ∃ r, rs[N]? = some r := ⟨_, List.getElem?_eq_getElem (by omega)⟩
  obtain ⟨g, c, rfl, hg, hFg, hc8⟩ := h.res hr
  have c0 := (res_eight hc8).1
  have hN60 : N ≤ 60 := by omega
  rw [hN] at HH ⊢
  have HN := Lib.hid hN
  have CT := Lib.hid (fun W (hW : Row W z cs SlT) => take_c hW h.sa hf)
  have hl := h.sa.len
  have HL := Lib.hid hl
  have rp := h.row
  rw [hN] at rp
  have rz := h.rz
  have mp := h.mp
  have own := h.own
  rw [hN] at own
  clear h hr hc8 hN hf hl
  have hpz : p ≠ z := row_ne_row rp rz (by decide)
  have hmz : m ≠ z := mp.ne_row rz
  have hgz : g ≠ z := fun e => own.ne_row rz (by decide) (by rw [e]; rfl)
  have e1 : IntKind.i64.wrap ((N : Int) + 1 - 1) = (N : Int) := by rw [show (N : Int) + 1 - 1 = N by omega]; exact IntWalk.i64_in _ ⟨by omega, by omega⟩
  have e2 : IntKind.i64.wrap (N : Int) = (N : Int) := IntWalk.i64_in _ ⟨by omega, by omega⟩
  have n0 : (0 : Int) ≤ (N : Int) := by omega
  have n1 : (N : Int) < (N : Int) + 1 := by omega
  go_enter Tryz.func56, Tryz.ntmps56
  go_upto_region 1 with fail
  have hb1 := below_alloc w (.cells #[.int .i64 N, .int .u32 1] 85)
  have r1 := Row.new (W := w) (cs := #[.int .i64 N, .int .u32 1]) (t := 85)
  have hs1 : (w.alloc (.cells #[.int .i64 N, .int .u32 1] 85)).heap.size = w.heap.size + 1 := by simp
  generalize w.alloc (.cells #[.int .i64 N, .int .u32 1] 85) = V1 at *
  have hb2 := below_alloc V1 (.cells #[.int .i64 0, .int .i64 0, .int .u32 0] 87)
  have r2 := Row.new (W := V1) (cs := #[.int .i64 0, .int .i64 0, .int .u32 0]) (t := 87)
  rw [hs1] at r2
  generalize V1.alloc _ = V2 at *
  have hc := chain hb1 hb2
  have hzw := rz.lt
  have hpw := rp.lt
  have hmw := mp.lt
  replace r1 := r1.on hb2
  replace rp := rp.on hc
  replace rz := rz.on hc
  replace mp := mp.on hc
  replace own := own.on hc
  have hgw := block_lt_of_cell (a := ⟨g, N * 8, none⟩) c0
  replace c0 := keep_cell hc hgw c0
  clear hb1 hb2 hs1
  have y1 := rp.cell
  have z1 := rp.lt
  go_wp2_with fail
  refine Calls.mono (CT.out _ rz) ?_
  rintro e V3 ⟨s, hs, hfr, rfl, rz3, hbz⟩
  clear y1 z1 CT rz
  have hil : firstF sl < 64 := by have := (List.getElem?_eq_some_iff.1 hs).1; rw [HL.out] at this; exact this
  generalize hi : firstF sl = i at *
  generalize hsg : s.gen = sg at *
  have hsz := hbz.size
  have hszc := hc.size
  replace c0 : V3.cell? ⟨g, N * 8, none⟩ = _ := (World.cell?_of_block (a := ⟨g, N * 8, none⟩) (hbz.block g (by omega) hgz)).trans c0
  replace rp := hbz.row rp hpz
  have hn1 : w.heap.size ≠ z := by omega
  have hn2 : w.heap.size + 1 ≠ z := by omega
  replace r1 := hbz.row r1 hn1
  replace r2 := hbz.row r2 hn2
  replace mp := mp.but hbz hmz
  replace own := own.but hbz (fun k hk => by cases hk; exact hgz)
  have hbut : But F w V3 := (but_of F hc).trans hbz (fun k hk e => by rw [e]; exact HH.out.fz)
  clear hbz hc
  have HS := Lib.hid (show sl[i]? = some s ∧ isFree s = true from ⟨hs, hfr⟩)
  clear hs hfr
  go_upto_region 4 with fail
  have hb3 := below_alloc V3 (.cells #[.int .i64 i, .int .u32 sg] 85)
  have r3 := Row.new (W := V3) (cs := #[.int .i64 i, .int .u32 sg]) (t := 85)
  have ha3 : w.heap.size + 2 ≤ V3.heap.size := by have := r2.lt; omega
  replace c0 := keep_cell hb3 (by omega) c0
  replace rp := rp.on hb3
  replace r1 := r1.on hb3
  replace r2 := r2.on hb3
  replace rz3 := rz3.on hb3
  replace mp := mp.on hb3
  replace own := own.on hb3
  replace hbut := hbut.on hb3
  clear hb3
  generalize V3.alloc _ = V4 at *
  generalize V3.heap.size = a3 at *
  refine wp_region_held_drew (S := fun W' => (∀ j, W'.cell? ⟨p, j, none⟩ = (#[ptr z, .map (some m), .slice (some ⟨g, 0, none⟩) (N + 1) c] : Array Value)[j]?) ∧ (∀ j, W'.cell? ⟨a3, j, none⟩ = (#[.int .i64 i, .int .u32 sg] : Array Value)[j]?) ∧ W'.cell? ⟨g, N * 8, none⟩ = some (.int .i64 1)) (by kernel_rfl) ⟨rp.cell, r3.cell, c0⟩ (fun hHeld => ?_)
  replace c0 : V4.drew.cell? ⟨g, N * 8, none⟩ = some (.int .i64 1) := c0
  replace r1 := r1.drew
  replace r2 := r2.drew
  replace r3 := r3.drew
  replace rp := rp.drew
  replace rz3 := rz3.drew
  replace mp := mp.drew
  replace own := own.drew
  replace hbut := hbut.drew
  generalize V4.drew = X at *
  refine' wpAnyH_take (i := 0) (oi := _) (v := _) ?_ (by kernel_rfl) (by kernel_rfl) (by kernel_rfl) ?_ (Or.inl ⟨?_, ?_⟩) (by assumption) ?_
  rotate_left 2
  · (simp only [List.getElem?_toArray, List.getElem?_cons_succ, List.getElem?_cons_zero]; rfl)
  · first | exact fun _ _ _ h => h | exact fun _ _ _ h => nomatch h.1
  · rfl
  · (intro W hSW; (try dsimp only at hSW); go_split_ands; first | (go_simp; done) | (go_simp; with_reducible rfl))
  try simp only [Act.put, List.setIfInBounds_toArray, List.set_cons_zero, List.set_cons_succ]
  refine' wpAnyH_take (i := 1) (oi := _) (v := _) ?_ (by kernel_rfl) (by kernel_rfl) (by kernel_rfl) ?_ (Or.inl ⟨?_, ?_⟩) (by assumption) ?_
  rotate_left 2
  · (simp only [List.getElem?_toArray, List.getElem?_cons_succ, List.getElem?_cons_zero]; rfl)
  · first | exact fun _ _ _ h => h | exact fun _ _ _ h => nomatch h.1
  · rfl
  · (intro W hSW; (try dsimp only at hSW); go_split_ands; first | (go_simp; done) | (go_simp; with_reducible rfl))
  try simp only [Act.put, List.setIfInBounds_toArray, List.set_cons_zero, List.set_cons_succ]
  refine' wpAnyH_take (i := 2) (oi := _) (v := _) ?_ (by kernel_rfl) (by kernel_rfl) (by kernel_rfl) ?_ (Or.inl ⟨?_, ?_⟩) (by assumption) ?_
  rotate_left 2
  · (simp only [List.getElem?_toArray, List.getElem?_cons_succ, List.getElem?_cons_zero]; rfl)
  · first | exact fun _ _ _ h => h | exact fun _ _ _ h => nomatch h.1
  · rfl
  · (intro W hSW; (try dsimp only at hSW); go_split_ands; first | (go_simp; done) | (go_simp; with_reducible rfl))
  try simp only [Act.put, List.setIfInBounds_toArray, List.set_cons_zero, List.set_cons_succ]
  refine' wpAnyH_take (i := 3) (oi := _) (v := _) ?_ (by kernel_rfl) (by kernel_rfl) (by kernel_rfl) ?_ (Or.inl ⟨?_, ?_⟩) (by assumption) ?_
  rotate_left 2
  · (simp only [List.getElem?_toArray, List.getElem?_cons_succ, List.getElem?_cons_zero]; rfl)
  · first | exact fun _ _ _ h => h | exact fun _ _ _ h => nomatch h.1
  · rfl
  · (intro W hSW; (try dsimp only at hSW); go_split_ands; first | (go_simp; done) | (go_simp; with_reducible rfl))
  try simp only [Act.put, List.setIfInBounds_toArray, List.set_cons_zero, List.set_cons_succ]
  refine' wpAnyH_take (i := 4) (oi := _) (v := _) ?_ (by kernel_rfl) (by kernel_rfl) (by kernel_rfl) ?_ (Or.inl ⟨?_, ?_⟩) (by assumption) ?_
  rotate_left 2
  · (simp only [List.getElem?_toArray, List.getElem?_cons_succ, List.getElem?_cons_zero]; rfl)
  · first | exact fun _ _ _ h => h | exact fun _ _ _ h => nomatch h.1
  · rfl
  · (intro W hSW; (try dsimp only at hSW); go_split_ands; first | (go_simp; done) | (go_simp; with_reducible rfl))
  try simp only [Act.put, List.setIfInBounds_toArray, List.set_cons_zero, List.set_cons_succ]
  refine' wpAnyH_take (i := 5) (oi := _) (v := _) ?_ (by kernel_rfl) (by kernel_rfl) (by kernel_rfl) ?_ (Or.inl ⟨?_, ?_⟩) (by assumption) ?_
  rotate_left 2
  · (simp only [List.getElem?_toArray, List.getElem?_cons_succ, List.getElem?_cons_zero]; rfl)
  · first | exact fun _ _ _ h => h | exact fun _ _ _ h => nomatch h.1
  · rfl
  · (intro W hSW; (try dsimp only at hSW); go_split_ands; first | (go_simp; done) | (go_simp; with_reducible rfl))
  try simp only [Act.put, List.setIfInBounds_toArray, List.set_cons_zero, List.set_cons_succ]
  refine' wpAnyH_take (i := 6) (oi := _) (v := _) ?_ (by kernel_rfl) (by kernel_rfl) (by kernel_rfl) ?_ (Or.inl ⟨?_, ?_⟩) (by assumption) ?_
  rotate_left 2
  · (simp only [List.getElem?_toArray, List.getElem?_cons_succ, List.getElem?_cons_zero]; rfl)
  · first | exact fun _ _ _ h => h | exact fun _ _ _ h => nomatch h.1
  · rfl
  · (intro W hSW; (try dsimp only at hSW); go_split_ands; first | (go_simp; done) | (go_simp; with_reducible rfl))
  try simp only [Act.put, List.setIfInBounds_toArray, List.set_cons_zero, List.set_cons_succ]
  refine' wpAnyH_take (i := 7) (oi := _) (v := _) ?_ (by kernel_rfl) (by kernel_rfl) (by kernel_rfl) ?_ (Or.inl ⟨?_, ?_⟩) (by assumption) ?_
  rotate_left 2
  · (simp only [List.getElem?_toArray, List.getElem?_cons_succ, List.getElem?_cons_zero]; rfl)
  · first | exact fun _ _ _ h => h | exact fun _ _ _ h => nomatch h.1
  · rfl
  · (intro W hSW; (try dsimp only at hSW); go_split_ands; first | (go_simp; done) | (go_simp; with_reducible rfl))
  try simp only [Act.put, List.setIfInBounds_toArray, List.set_cons_zero, List.set_cons_succ]
  refine' wpAnyH_take (i := 8) (oi := _) (v := _) ?_ (by kernel_rfl) (by kernel_rfl) (by kernel_rfl) ?_ (Or.inl ⟨?_, ?_⟩) (by assumption) ?_
  rotate_left 2
  · (simp only [List.getElem?_toArray, List.getElem?_cons_succ, List.getElem?_cons_zero]; rfl)
  · first | exact fun _ _ _ h => h | exact fun _ _ _ h => nomatch h.1
  · rfl
  · (intro W hSW; (try dsimp only at hSW); go_split_ands; first | (go_simp; done) | (go_simp; with_reducible rfl))
  try simp only [Act.put, List.setIfInBounds_toArray, List.set_cons_zero, List.set_cons_succ]
  refine' wpAnyH_take (i := 9) (oi := _) (v := _) ?_ (by kernel_rfl) (by kernel_rfl) (by kernel_rfl) ?_ (Or.inl ⟨?_, ?_⟩) (by assumption) ?_
  rotate_left 2
  · (simp only [List.getElem?_toArray, List.getElem?_cons_succ, List.getElem?_cons_zero]; rfl)
  · first | exact fun _ _ _ h => h | exact fun _ _ _ h => nomatch h.1
  · rfl
  · (intro W hSW; (try dsimp only at hSW); go_split_ands; first | (go_simp; done) | (go_simp; with_reducible rfl))
  try simp only [Act.put, List.setIfInBounds_toArray, List.set_cons_zero, List.set_cons_succ]
  refine' wpAnyH_take (i := 10) (oi := _) (v := _) ?_ (by kernel_rfl) (by kernel_rfl) (by kernel_rfl) ?_ (Or.inl ⟨?_, ?_⟩) (by assumption) ?_
  rotate_left 2
  · (simp only [List.getElem?_toArray, List.getElem?_cons_succ, List.getElem?_cons_zero]; rfl)
  · first | exact fun _ _ _ h => h | exact fun _ _ _ h => nomatch h.1
  · rfl
  · (intro W hSW; (try dsimp only at hSW); go_split_ands; first | (go_simp; done) | (go_simp; with_reducible rfl))
  try simp only [Act.put, List.setIfInBounds_toArray, List.set_cons_zero, List.set_cons_succ]
  refine' wpAnyH_take (i := 11) (oi := _) (v := _) ?_ (by kernel_rfl) (by kernel_rfl) (by kernel_rfl) ?_ (Or.inl ⟨?_, ?_⟩) (by assumption) ?_
  rotate_left 2
  · (simp only [List.getElem?_toArray, List.getElem?_cons_succ, List.getElem?_cons_zero]; rfl)
  · first | exact fun _ _ _ h => h | exact fun _ _ _ h => nomatch h.1
  · rfl
  · (intro W hSW; (try dsimp only at hSW); go_split_ands; first | (go_simp; done) | (go_simp; with_reducible rfl))
  try simp only [Act.put, List.setIfInBounds_toArray, List.set_cons_zero, List.set_cons_succ]
  refine' wpAnyH_take (i := 12) (oi := _) (v := _) ?_ (by kernel_rfl) (by kernel_rfl) (by kernel_rfl) ?_ (Or.inl ⟨?_, ?_⟩) (by assumption) ?_
  rotate_left 2
  · (simp only [List.getElem?_toArray, List.getElem?_cons_succ, List.getElem?_cons_zero]; rfl)
  · first | exact fun _ _ _ h => h | exact fun _ _ _ h => nomatch h.1
  · rfl
  · (intro W hSW; (try dsimp only at hSW); go_split_ands; first | (go_simp; done) | (go_simp; with_reducible rfl))
  try simp only [Act.put, List.setIfInBounds_toArray, List.set_cons_zero, List.set_cons_succ]
  refine' wpAnyH_take (i := 13) (oi := _) (v := _) ?_ (by kernel_rfl) (by kernel_rfl) (by kernel_rfl) ?_ (Or.inl ⟨?_, ?_⟩) (by assumption) ?_
  rotate_left 2
  · (simp only [List.getElem?_toArray, List.getElem?_cons_succ, List.getElem?_cons_zero]; rfl)
  · first | exact fun _ _ _ h => h | exact fun _ _ _ h => nomatch h.1
  · rfl
  · (intro W hSW; (try dsimp only at hSW); go_split_ands; first | (go_simp; done) | (go_simp; with_reducible rfl))
  try simp only [Act.put, List.setIfInBounds_toArray, List.set_cons_zero, List.set_cons_succ]
  refine' wpAnyH_take (i := 14) (oi := _) (v := _) ?_ (by kernel_rfl) (by kernel_rfl) (by kernel_rfl) ?_ (Or.inl ⟨?_, ?_⟩) (by assumption) ?_
  rotate_left 2
  · (simp only [List.getElem?_toArray, List.getElem?_cons_succ, List.getElem?_cons_zero]; rfl)
  · first | exact fun _ _ _ h => h | exact fun _ _ _ h => nomatch h.1
  · rfl
  · (intro W hSW; (try dsimp only at hSW); go_split_ands; first | (go_simp; done) | (go_simp; with_reducible rfl))
  try simp only [Act.put, List.setIfInBounds_toArray, List.set_cons_zero, List.set_cons_succ]
  clear hHeld
  refine wpAnyH_ready (rs := [15]) (by kernel_rfl) (by simp) ?_
  refine' AllReadyH.cons (o := _) ?_ (fun K hK => ?_) AllReadyH.nil
  rotate_left 1
  · (simp only [List.getElem?_toArray, List.getElem?_cons_succ, List.getElem?_cons_zero]; rfl)
  go_simp
  have hn := below_alloc X (.cells #[.int .i64 0, .int .i64 0, .int .u32 0] 87)
  have r4 := Row.new (W := X) (cs := #[.int .i64 0, .int .i64 0, .int .u32 0]) (t := 87)
  have ha4 := r3.lt
  have ha5 := r2.lt
  replace c0 := keep_cell hn (block_lt_of_cell (a := ⟨g, N * 8, none⟩) c0) c0
  have hgX := own.lt g rfl
  replace rp := rp.on hn
  replace r1 := r1.on hn
  replace r2 := r2.on hn
  replace r3 := r3.on hn
  replace rz3 := rz3.on hn
  replace mp := mp.on hn
  replace own := own.on hn
  replace hbut := hbut.on hn
  clear hn
  generalize X.alloc _ = X1 at *
  generalize X.heap.size = a4 at *
  refine hK.out _ _ ⟨rp.cell, r3.cell, c0⟩ (fun hHeld => ?_)
  clear hK K hHeld
  have y4 := r4.cell
  have f4 := r4.free
  have z4 := r4.lt
  refine wpAnyH_ready (rs := [16]) (by kernel_rfl) (by simp) ?_
  refine' AllReadyH.cons (o := _) ?_ (fun K hK => ?_) AllReadyH.nil
  rotate_left 1
  · (simp only [List.getElem?_toArray, List.getElem?_cons_succ, List.getElem?_cons_zero]; rfl)
  go_simp
  have q1 : a4 ≠ w.heap.size := by omega
  have q2 : a4 ≠ w.heap.size + 1 := by omega
  have q3 : a4 ≠ a3 := by omega
  have qp : a4 ≠ p := by omega
  have qg : a4 ≠ g := by omega
  have qz : a4 ≠ z := by omega
  have qm : m ≠ a4 := by omega
  replace r1 := ((r1.other q1 0 (.int .i64 1)).other q1 1 (.int .i64 i)).other q1 2 (.int .u32 sg)
  replace r2 := ((r2.other q2 0 (.int .i64 1)).other q2 1 (.int .i64 i)).other q2 2 (.int .u32 sg)
  replace r3 := ((r3.other q3 0 (.int .i64 1)).other q3 1 (.int .i64 i)).other q3 2 (.int .u32 sg)
  replace rp := ((rp.other qp 0 (.int .i64 1)).other qp 1 (.int .i64 i)).other qp 2 (.int .u32 sg)
  replace rz3 := ((rz3.other qz 0 (.int .i64 1)).other qz 1 (.int .i64 i)).other qz 2 (.int .u32 sg)
  replace mp := ((mp.other qm 0 (.int .i64 1)).other qm 1 (.int .i64 i)).other qm 2 (.int .u32 sg)
  have qo : (Value.slice (some ⟨g, 0, none⟩) (N + 1) c).ownBlock ≠ some a4 := fun e => qg (by cases e; rfl)
  replace own := ((own.other qo 0 (.int .i64 1)).other qo 1 (.int .i64 i)).other qo 2 (.int .u32 sg)
  replace c0 := cell_other (cell_other (cell_other c0 qg (j := 0) (.int .i64 1)) qg (j := 1) (.int .i64 i)) qg (j := 2) (.int .u32 sg)
  have hnb : a4 < w.heap.size → F a4 := fun h => absurd h (by omega)
  replace hbut := ((hbut.setCell hnb 0 (.int .i64 1)).setCell hnb 1 (.int .i64 i)).setCell hnb 2 (.int .u32 sg)
  replace r4 := ((r4.set 0 (.int .i64 1)).set 1 (.int .i64 i)).set 2 (.int .u32 sg)
  simp only [List.setIfInBounds_toArray, List.set_cons_zero, List.set_cons_succ] at r4
  refine hK.out _ _ ⟨rp.cell, r3.cell, c0⟩ (fun hHeld => ?_)
  clear hK K hHeld y4 f4 z4
  generalize World.setCell _ _ _ = X2 at *
  refine wpAnyH_done (by kernel_rfl) ?_ _
  go_upto_region 5 with fail
  refine wp_region_held_drew (S := fun W' => (∀ j, W'.cell? ⟨p, j, none⟩ = (#[ptr z, .map (some m), .slice (some ⟨g, 0, none⟩) (N + 1) c] : Array Value)[j]?) ∧ (∀ j, W'.cell? ⟨a3, j, none⟩ = (#[.int .i64 i, .int .u32 sg] : Array Value)[j]?) ∧ (∀ j, W'.cell? ⟨a4, j, none⟩ = (#[.int .i64 1, .int .i64 i, .int .u32 sg] : Array Value)[j]?) ∧ (∀ j, W'.cell? ⟨w.heap.size, j, none⟩ = (#[.int .i64 N, .int .u32 1] : Array Value)[j]?)) (by kernel_rfl) ⟨rp.cell, r3.cell, r4.cell, r1.cell⟩ (fun hHeld => ?_)
  replace r1 := r1.drew
  replace r2 := r2.drew
  replace r3 := r3.drew
  replace r4 := r4.drew
  replace rp := rp.drew
  replace rz3 := rz3.drew
  replace mp := mp.drew
  replace own := own.drew
  replace hbut := hbut.drew
  generalize X2.drew = X3 at *
  clear c0
  refine' wpAnyH_take (i := 0) (oi := _) (v := _) ?_ (by kernel_rfl) (by kernel_rfl) (by kernel_rfl) ?_ (Or.inl ⟨?_, ?_⟩) (by assumption) ?_
  rotate_left 2
  · (simp only [List.getElem?_toArray, List.getElem?_cons_succ, List.getElem?_cons_zero]; rfl)
  · first | exact fun _ _ _ h => h | exact fun _ _ _ h => nomatch h.1
  · rfl
  · (intro W hSW; (try dsimp only at hSW); go_split_ands; first | (go_simp; done) | (go_simp; with_reducible rfl))
  try simp only [Act.put, List.setIfInBounds_toArray, List.set_cons_zero, List.set_cons_succ]
  refine' wpAnyH_take (i := 1) (oi := _) (v := _) ?_ (by kernel_rfl) (by kernel_rfl) (by kernel_rfl) ?_ (Or.inl ⟨?_, ?_⟩) (by assumption) ?_
  rotate_left 2
  · (simp only [List.getElem?_toArray, List.getElem?_cons_succ, List.getElem?_cons_zero]; rfl)
  · first | exact fun _ _ _ h => h | exact fun _ _ _ h => nomatch h.1
  · rfl
  · (intro W hSW; (try dsimp only at hSW); go_split_ands; first | (go_simp; done) | (go_simp; with_reducible rfl))
  try simp only [Act.put, List.setIfInBounds_toArray, List.set_cons_zero, List.set_cons_succ]
  refine' wpAnyH_take (i := 2) (oi := _) (v := _) ?_ (by kernel_rfl) (by kernel_rfl) (by kernel_rfl) ?_ (Or.inl ⟨?_, ?_⟩) (by assumption) ?_
  rotate_left 2
  · (simp only [List.getElem?_toArray, List.getElem?_cons_succ, List.getElem?_cons_zero]; rfl)
  · first | exact fun _ _ _ h => h | exact fun _ _ _ h => nomatch h.1
  · rfl
  · (intro W hSW; (try dsimp only at hSW); go_split_ands; first | (go_simp; done) | (go_simp; with_reducible rfl))
  try simp only [Act.put, List.setIfInBounds_toArray, List.set_cons_zero, List.set_cons_succ]
  refine' wpAnyH_take (i := 3) (oi := _) (v := _) ?_ (by kernel_rfl) (by kernel_rfl) (by kernel_rfl) ?_ (Or.inl ⟨?_, ?_⟩) (by assumption) ?_
  rotate_left 2
  · (simp only [List.getElem?_toArray, List.getElem?_cons_succ, List.getElem?_cons_zero]; rfl)
  · first | exact fun _ _ _ h => h | exact fun _ _ _ h => nomatch h.1
  · rfl
  · (intro W hSW; (try dsimp only at hSW); go_split_ands; first | (go_simp; done) | (go_simp; with_reducible rfl))
  try simp only [Act.put, List.setIfInBounds_toArray, List.set_cons_zero, List.set_cons_succ]
  refine' wpAnyH_take (i := 4) (oi := _) (v := _) ?_ (by kernel_rfl) (by kernel_rfl) (by kernel_rfl) ?_ (Or.inl ⟨?_, ?_⟩) (by assumption) ?_
  rotate_left 2
  · (simp only [List.getElem?_toArray, List.getElem?_cons_succ, List.getElem?_cons_zero]; rfl)
  · first | exact fun _ _ _ h => h | exact fun _ _ _ h => nomatch h.1
  · rfl
  · (intro W hSW; (try dsimp only at hSW); go_split_ands; first | (go_simp; done) | (go_simp; with_reducible rfl))
  try simp only [Act.put, List.setIfInBounds_toArray, List.set_cons_zero, List.set_cons_succ]
  refine' wpAnyH_take (i := 5) (oi := _) (v := _) ?_ (by kernel_rfl) (by kernel_rfl) (by kernel_rfl) ?_ (Or.inl ⟨?_, ?_⟩) (by assumption) ?_
  rotate_left 2
  · (simp only [List.getElem?_toArray, List.getElem?_cons_succ, List.getElem?_cons_zero]; rfl)
  · first | exact fun _ _ _ h => h | exact fun _ _ _ h => nomatch h.1
  · rfl
  · (intro W hSW; (try dsimp only at hSW); go_split_ands; first | (go_simp; done) | (go_simp; with_reducible rfl))
  try simp only [Act.put, List.setIfInBounds_toArray, List.set_cons_zero, List.set_cons_succ]
  refine' wpAnyH_take (i := 6) (oi := _) (v := _) ?_ (by kernel_rfl) (by kernel_rfl) (by kernel_rfl) ?_ (Or.inl ⟨?_, ?_⟩) (by assumption) ?_
  rotate_left 2
  · (simp only [List.getElem?_toArray, List.getElem?_cons_succ, List.getElem?_cons_zero]; rfl)
  · first | exact fun _ _ _ h => h | exact fun _ _ _ h => nomatch h.1
  · rfl
  · (intro W hSW; (try dsimp only at hSW); go_split_ands; first | (go_simp; done) | (go_simp; with_reducible rfl))
  try simp only [Act.put, List.setIfInBounds_toArray, List.set_cons_zero, List.set_cons_succ]
  refine' wpAnyH_take (i := 7) (oi := _) (v := _) ?_ (by kernel_rfl) (by kernel_rfl) (by kernel_rfl) ?_ (Or.inl ⟨?_, ?_⟩) (by assumption) ?_
  rotate_left 2
  · (simp only [List.getElem?_toArray, List.getElem?_cons_succ, List.getElem?_cons_zero]; rfl)
  · first | exact fun _ _ _ h => h | exact fun _ _ _ h => nomatch h.1
  · rfl
  · (intro W hSW; (try dsimp only at hSW); go_split_ands; first | (go_simp; done) | (go_simp; with_reducible rfl))
  try simp only [Act.put, List.setIfInBounds_toArray, List.set_cons_zero, List.set_cons_succ]
  refine' wpAnyH_take (i := 8) (oi := _) (v := _) ?_ (by kernel_rfl) (by kernel_rfl) (by kernel_rfl) ?_ (Or.inl ⟨?_, ?_⟩) (by assumption) ?_
  rotate_left 2
  · (simp only [List.getElem?_toArray, List.getElem?_cons_succ, List.getElem?_cons_zero]; rfl)
  · first | exact fun _ _ _ h => h | exact fun _ _ _ h => nomatch h.1
  · rfl
  · (intro W hSW; (try dsimp only at hSW); go_split_ands; first | (go_simp; done) | (go_simp; with_reducible rfl))
  try simp only [Act.put, List.setIfInBounds_toArray, List.set_cons_zero, List.set_cons_succ]
  refine' wpAnyH_take (i := 9) (oi := _) (v := _) ?_ (by kernel_rfl) (by kernel_rfl) (by kernel_rfl) ?_ (Or.inl ⟨?_, ?_⟩) (by assumption) ?_
  rotate_left 2
  · (simp only [List.getElem?_toArray, List.getElem?_cons_succ, List.getElem?_cons_zero]; rfl)
  · first | exact fun _ _ _ h => h | exact fun _ _ _ h => nomatch h.1
  · rfl
  · (intro W hSW; (try dsimp only at hSW); go_split_ands; first | (go_simp; done) | (go_simp; with_reducible rfl))
  try simp only [Act.put, List.setIfInBounds_toArray, List.set_cons_zero, List.set_cons_succ]
  clear hHeld
  have hmn : mapT sl (i : Nat) = none := by
    rw [mapT_at HS.out.1]
    have := HS.out.2
    unfold isFree at this
    cases ho : s.own with
    | none => rfl
    | some k => rw [ho] at this; cases this
  obtain ⟨o, hmu, mp2⟩ := mp.update (P := Tryz.prog) Tryz.underlying71 Tryz.underlying3 hmn (entV i sg N)
  simp only [entV] at hmu
  refine wpAnyH_ready (rs := [10]) (by kernel_rfl) (by simp) ?_
  refine' AllReadyH.cons (o := _) ?_ (fun K hK => ?_) AllReadyH.nil
  rotate_left 1
  · (simp only [List.getElem?_toArray, List.getElem?_cons_succ, List.getElem?_cons_zero]; rfl)
  go_simp
  have qm1 : w.heap.size ≠ m := by omega
  have qm2 : w.heap.size + 1 ≠ m := by omega
  have qm3 : a3 ≠ m := by omega
  have qm5 : p ≠ m := fun e => mp.ne_row rp e.symm
  have qm6 : z ≠ m := fun e => mp.ne_row rz3 e.symm
  have qm7 := mp.ne_own own
  replace r1 := r1.setBlock (o := o) qm1
  replace r2 := r2.setBlock (o := o) qm2
  replace r3 := r3.setBlock (o := o) qm3
  replace r4 := r4.setBlock (o := o) qm.symm
  replace rp := rp.setBlock (o := o) qm5
  replace rz3 := rz3.setBlock (o := o) qm6
  replace own := own.setBlock (o := o) qm7
  replace hbut := hbut.setBlock (fun _ => HH.out.fm) o
  refine hK.out _ _ ⟨rp.cell, r3.cell, r4.cell, r1.cell⟩ (fun hHeld => ?_)
  clear hK K hHeld mp
  generalize setBlock X3 m o = X4 at *
  refine wpAnyH_done (by kernel_rfl) ?_ _
  have y2 := r2.cell
  have f2 := r2.free
  have z2 := r2.lt
  have y4 := r4.cell
  have z4 := r4.lt
  clear r1 r3
  go_wp2_with fail
  subst hi
  subst hsg
  refine bodyPost_ret (v := .tuple #[dV 1 (firstF sl : Nat) s.gen, .int .i64 0]) (by simp [results, Tryz.results56, go_sem, y2, z2]) rfl ⟨s, HS.out.1, HS.out.2, rfl, ?_, ?_⟩
  · have p1 : w.heap.size + 1 ≠ p := by omega
    have p2 : w.heap.size + 1 ≠ z := by omega
    have p3 : m ≠ w.heap.size + 1 := by omega
    have p4 : (Value.slice (some ⟨g, 0, none⟩) (N + 1) c).ownBlock ≠ some (w.heap.size + 1) := fun e => by have := Option.some.inj (show some g = some (w.heap.size + 1) from e); omega
    replace rp := ((rp.other p1 0 (.int .i64 1)).other p1 1 (.int .i64 (firstF sl : Nat))).other p1 2 (.int .u32 s.gen)
    replace rz3 := ((rz3.other p2 0 (.int .i64 1)).other p2 1 (.int .i64 (firstF sl : Nat))).other p2 2 (.int .u32 s.gen)
    replace mp2 := ((mp2.other p3 0 (.int .i64 1)).other p3 1 (.int .i64 (firstF sl : Nat))).other p3 2 (.int .u32 s.gen)
    replace own := ((own.other p4 0 (.int .i64 1)).other p4 1 (.int .i64 (firstF sl : Nat))).other p4 2 (.int .u32 s.gen)
    refine ⟨cs.setIfInBounds (1 + firstF sl * 2) (.int .i64 1), ?_⟩
    have hL := HH.out
    have hsl : firstF sl < sl.length := by rw [HL.out]; exact hil
    rw [mapT_put hsl] at mp2
    exact {
      row := rp
      rz := rz3
      sa := hL.sa.take HS.out.1 rfl N
      mp := mp2
      own := own
      fp := hL.fp
      fz := hL.fz
      fm := hL.fm
      fv := hL.fv
      fin := fun b hb => by
        have := hL.fin b hb
        have h2 := hbut.size
        simp
        omega
      most := hL.most
      gens := fun x hx => by
        rcases List.mem_or_eq_of_mem_set hx with h1 | h1
        · exact hL.gens x h1
        · have := hL.gens s (List.mem_of_getElem? HS.out.1)
          rw [h1]
          exact this
      owns := fun j x k hj hk => by
        rw [List.getElem?_set] at hj
        split at hj
        · have hj2 : some (⟨some N, s.gen⟩ : SlotR) = some x := by simpa [hsl] using hj
          cases hj2
          cases hk
          rw [HN.out]
          omega
        · exact hL.owns j x k hj hk }
  · have hnb : w.heap.size + 1 < w.heap.size → F (w.heap.size + 1) := fun h => absurd h (by omega)
    exact ((hbut.setCell hnb 0 (.int .i64 1)).setCell hnb 1 (.int .i64 (firstF sl : Nat))).setCell hnb 2 (.int .u32 s.gen)
end Go.Proofs.YtkjpdciccablpaaGreatDoor

/- The program's table (chapter 37): Set. -/
namespace Go.Proofs.YtkjpdciccablpaaGreatDoor
open Go.RowKit
set_option linter.unusedVariables false
set_option linter.unusedSimpArgs false
set_option maxHeartbeats 16000000
set_option maxRecDepth 20000
theorem tag_fine : tagOk tagB.data.toList = true := by decide
/-- A resource that is possible. -/
theorem res_ok {k : Nat} {r : RS} (hk : k < 60) (hr : (r.st = 2 ∧ 0 ≤ r.tr ∧ r.tr ≤ 200 ∧ (r.nx = 1 ∨ r.nx = 2)) ∨ ((r.st = 3 ∨ r.st = 4) ∧ 0 ≤ r.tr ∧ r.tr ≤ 200 ∧ r.nx = 0)) : rErr 1 k 1 r.st (whyS r.st) r.tr r.nx tagB = 0 := by
  have hd : dOk 64 1 k 1 = true := by unfold dOk; simp; omega
  have hp : pOk 1 k 1 r.st (whyS r.st) r.tr r.nx = true := by
    rcases hr with ⟨h1, h2, h3, h4⟩ | ⟨h1, h2, h3, h4⟩
    · rw [h1, pOk_2 hd]
      unfold whyS inB isT
      simp
      omega
    · rw [pOk_34 hd h1]
      unfold whyS inB isT
      rw [if_neg (by omega)]
      simp
      omega
  unfold rErr
  rw [if_pos hp]
  decide
theorem put_again {t : TypeId} {k b : Nat} {W : World} {g n c : Nat} {L : List (List Value)} {j q : Nat} {e : List Value} (h : OwnsC t k b W (.slice (some ⟨g, 0, none⟩) n c) (L.set j e)) (hj : j < L.length) (hq : q < k) (u : Value) : OwnsC t k b (W.setCell ⟨g, j * k + q, none⟩ u) (.slice (some ⟨g, 0, none⟩) n c) (L.set j (e.set q u)) := by
  have h1 := h.put (q := q) (j := j) (e := e) rfl (by rw [List.getElem?_set, if_pos rfl, if_pos hj]) hq u
  rw [List.set_set] at h1
  exact h1
theorem set_self {α : Type} {L : List α} {j : Nat} {e : α} (h : L[j]? = some e) : L.set j e = L := by
  apply List.ext_getElem?
  intro i
  rw [List.getElem?_set]
  split
  · rename_i hi
    subst hi
    rw [if_pos (List.getElem?_eq_some_iff.1 h).1, h]
  · rfl
theorem put8 {t : TypeId} {b : Nat} {W : World} {g n c : Nat} {L : List (List Value)} {j : Nat} {e : List Value} (h : OwnsC t 8 b W (.slice (some ⟨g, 0, none⟩) n c) L) (hj : L[j]? = some e) (u0 u1 u2 u3 u4 u5 u6 u7 : Value) :
    OwnsC t 8 b ((((((((W.setCell ⟨g, j * 8, none⟩ u0).setCell ⟨g, j * 8 + 1, none⟩ u1).setCell ⟨g, j * 8 + 2, none⟩ u2).setCell ⟨g, j * 8 + 3, none⟩ u3).setCell ⟨g, j * 8 + 4, none⟩ u4).setCell ⟨g, j * 8 + 5, none⟩ u5).setCell ⟨g, j * 8 + 6, none⟩ u6).setCell ⟨g, j * 8 + 7, none⟩ u7) (.slice (some ⟨g, 0, none⟩) n c) (L.set j [u0, u1, u2, u3, u4, u5, u6, u7]) := by
  have hl := (List.getElem?_eq_some_iff.1 hj).1
  have he := h.1 e (List.mem_of_getElem? hj)
  rw [← set_self hj] at h
  have h7 := put_again (q := 7) (put_again (q := 6) (put_again (q := 5) (put_again (q := 4) (put_again (q := 3) (put_again (q := 2) (put_again (q := 1) (put_again (q := 0) h hl (by omega) u0) hl (by omega) u1) hl (by omega) u2) hl (by omega) u3) hl (by omega) u4) hl (by omega) u5) hl (by omega) u6) hl (by omega) u7
  have e8 : (((((((e.set 0 u0).set 1 u1).set 2 u2).set 3 u3).set 4 u4).set 5 u5).set 6 u6).set 7 u7 = [u0, u1, u2, u3, u4, u5, u6, u7] := by
    match e, he with
    | [_, _, _, _, _, _, _, _], _ => rfl
  rw [e8] at h7
  exact h7
theorem tset_c {w : World} {F : Nat → Prop} {p : Nat} {sl : List SlotR} {rs : List RS} {z m : Nat} {cs : Array Value} {v : Value} {k : Nat} {r r' : RS} (h : TabIs w F p sl rs z m cs v) (hr : rs[k]? = some r) (hst : r'.st ≠ 1) (hok : rErr 1 k 1 r'.st (whyS r'.st) r'.tr r'.nx tagB = 0) (hn : ∀ (i k' : Nat) (g : Int), sl[i]? = some ⟨some k', g⟩ → k' ≠ k) :
    Calls Tryz.prog 39 #[ptr p, .int .i64 ((k : Int) + 1), resV k r'] w fun e w' => e = .returned (.int .i64 0) ∧ TabIs w' F p sl (rs.set k r') z m cs v ∧ But F w w' := by
  have hkl := (List.getElem?_eq_some_iff.1 hr).1
  have hm := h.most
  have CG := Lib.hid (fun W (hb : Below w.heap.size w W) => tget_c (h.on hb) hr)
  have CD := Lib.hid (fun W (hb : Below w.heap.size w W) => descs_c (h.on hb) hkl hn)
  have cc := fun W => rerr_c 1 k 1 r'.st (whyS r'.st) r'.tr r'.nx tagB W (by omega) (by omega) (by decide)
  rw [hok] at cc
  have CC := Lib.hid cc
  have HH := Lib.hid h
  have HR := Lib.hid hr
  obtain ⟨g, c, hv, hg, hFg, hc8⟩ := h.res hr
  clear hc8
  have e1 : IntKind.i64.wrap ((k : Int) + 1 - 1) = (k : Int) := by rw [show (k : Int) + 1 - 1 = k by omega]; exact IntWalk.i64_in _ ⟨by omega, by omega⟩
  have e2 : IntKind.i64.wrap (k : Int) = (k : Int) := IntWalk.i64_in _ ⟨by omega, by omega⟩
  have k0 : (0 : Int) ≤ (k : Int) := by omega
  have k1 : (k : Int) < (rs.length : Int) := by omega
  subst hv
  obtain ⟨M, hM⟩ : ∃ M, rs.length = M := ⟨_, rfl⟩
  rw [hM] at HH k1 hm hkl ⊢
  have HM := Lib.hid hM
  have rp := h.row
  rw [hM] at rp
  clear h hr hok hn cc hM
  have hrV : ∀ x : RS, resV k x = .agg #[.int .i64 1, .int .i64 k, .int .u32 1, .int .i64 x.st, .int .i64 (whyS x.st), .int .i64 x.tr, .int .i64 x.nx, .string tagB] := fun x => rfl
  rw [hrV] at CG ⊢
  have qo : ∀ W, (binOp .neq 83 (.agg #[.int .i64 1, .int .i64 k, .int .u32 1]) (.agg #[.int .i64 1, .int .i64 k, .int .u32 1])).run Tryz.prog W = .ok (.bool false) W := by intro W; go_simp
  have HRV := Lib.hid hrV
  have hst2 : (r'.st != (1 : Int)) = true := by simpa using hst
  clear hrV hst
  generalize hwy : whyS r.st = wy at *
  generalize hwy' : whyS r'.st = wy' at *
  go_enter Tryz.func39, Tryz.ntmps39
  go_upto_region 1 with fail
  have hc := below_alloc w (.cells #[.int .i64 1, .int .i64 k, .int .u32 1, .int .i64 r'.st, .int .i64 wy', .int .i64 r'.tr, .int .i64 r'.nx, .string tagB] ResT)
  have r1 := Row.new (W := w) (cs := #[.int .i64 1, .int .i64 k, .int .u32 1, .int .i64 r'.st, .int .i64 wy', .int .i64 r'.tr, .int .i64 r'.nx, .string tagB]) (t := ResT)
  generalize w.alloc _ = V1 at *
  go_wp2_with fail
  refine Calls.mono (CG.out _ hc) ?_
  rintro e V2 ⟨rfl, hn⟩
  replace r1 := r1.on hn
  replace hc := chain hc hn
  clear hn CG
  go_upto_region 2 with fail
  have hn := below_alloc V2 (.cells #[.int .i64 1, .int .i64 k, .int .u32 1, .int .i64 r.st, .int .i64 wy, .int .i64 r.tr, .int .i64 r.nx, .string tagB] ResT)
  have r2 := Row.new (W := V2) (cs := #[.int .i64 1, .int .i64 k, .int .u32 1, .int .i64 r.st, .int .i64 wy, .int .i64 r.tr, .int .i64 r.nx, .string tagB]) (t := ResT)
  have ha2 : w.heap.size < V2.heap.size := r1.lt
  replace r1 := r1.on hn
  replace hc := chain hc hn
  clear hn
  generalize V2.alloc _ = V3 at *
  generalize V2.heap.size = a2 at *
  have y1 := r1.cell
  have z1 := r1.lt
  go_wp2_with fail
  refine Calls.mono (CC.out _) ?_
  rintro e V4 ⟨rfl, hn⟩
  clear y1 z1 CC
  replace r1 := r1.on hn
  replace r2 := r2.on hn
  replace hc := chain hc hn
  clear hn
  go_wp2_with fail
  refine Calls.mono (CD.out _ hc) ?_
  rintro e V5 ⟨rfl, hn⟩
  replace r1 := r1.on hn
  replace r2 := r2.on hn
  replace hc := chain hc hn
  clear hn CD
  have y1 := r1.cell
  have z1 := r1.lt
  have y2 := r2.cell
  have z2 := r2.lt
  go_upto_region 12 with fail
  clear y1 z1 y2 z2
  refine wp_region_held_drew (S := fun W' => (∀ j, W'.cell? ⟨p, j, none⟩ = (#[ptr z, .map (some m), .slice (some ⟨g, 0, none⟩) M c] : Array Value)[j]?) ∧ (∀ j, W'.cell? ⟨w.heap.size, j, none⟩ = (#[.int .i64 1, .int .i64 k, .int .u32 1, .int .i64 r'.st, .int .i64 wy', .int .i64 r'.tr, .int .i64 r'.nx, .string tagB] : Array Value)[j]?)) (by kernel_rfl) ⟨(rp.on hc).cell, r1.cell⟩ (fun hHeld => ?_)
  have hT := (HH.out.on hc).drew
  replace r1 := r1.drew
  replace hc := hc.drew
  replace rp := hT.row
  generalize V5.drew = X at *
  obtain ⟨g', c', hv', hgX, _, hc8⟩ := hT.res HR.out
  injection hv' with hv1 hv2 hv3
  obtain rfl : g' = g := by injection hv1 with hv1; injection hv1 with h1; exact h1.symm
  clear hv1 hv2 hv3
  obtain ⟨c0, c1, c2, c3, c4, c5, c6, c7⟩ := res_eight hc8
  have fg := hT.own.free rfl
  rw [hwy] at c4
  have HT := Lib.hid hT
  clear hc8 hT
  refine' wpAnyH_take (i := 0) (oi := _) (v := _) ?_ (by kernel_rfl) (by kernel_rfl) (by kernel_rfl) ?_ (Or.inl ⟨?_, ?_⟩) (by assumption) ?_
  rotate_left 2
  · (simp only [List.getElem?_toArray, List.getElem?_cons_succ, List.getElem?_cons_zero]; rfl)
  · first | exact fun _ _ _ h => h | exact fun _ _ _ h => nomatch h.1
  · rfl
  · (intro W hSW; (try dsimp only at hSW); go_split_ands; first | (go_simp; done) | (go_simp; with_reducible rfl))
  try simp only [Act.put, List.setIfInBounds_toArray, List.set_cons_zero, List.set_cons_succ]
  refine' wpAnyH_take (i := 1) (oi := _) (v := _) ?_ (by kernel_rfl) (by kernel_rfl) (by kernel_rfl) ?_ (Or.inl ⟨?_, ?_⟩) (by assumption) ?_
  rotate_left 2
  · (simp only [List.getElem?_toArray, List.getElem?_cons_succ, List.getElem?_cons_zero]; rfl)
  · first | exact fun _ _ _ h => h | exact fun _ _ _ h => nomatch h.1
  · rfl
  · (intro W hSW; (try dsimp only at hSW); go_split_ands; first | (go_simp; done) | (go_simp; with_reducible rfl))
  try simp only [Act.put, List.setIfInBounds_toArray, List.set_cons_zero, List.set_cons_succ]
  refine' wpAnyH_take (i := 2) (oi := _) (v := _) ?_ (by kernel_rfl) (by kernel_rfl) (by kernel_rfl) ?_ (Or.inl ⟨?_, ?_⟩) (by assumption) ?_
  rotate_left 2
  · (simp only [List.getElem?_toArray, List.getElem?_cons_succ, List.getElem?_cons_zero]; rfl)
  · first | exact fun _ _ _ h => h | exact fun _ _ _ h => nomatch h.1
  · rfl
  · (intro W hSW; (try dsimp only at hSW); go_split_ands; first | (go_simp; done) | (go_simp; with_reducible rfl))
  try simp only [Act.put, List.setIfInBounds_toArray, List.set_cons_zero, List.set_cons_succ]
  refine' wpAnyH_take (i := 3) (oi := _) (v := _) ?_ (by kernel_rfl) (by kernel_rfl) (by kernel_rfl) ?_ (Or.inl ⟨?_, ?_⟩) (by assumption) ?_
  rotate_left 2
  · (simp only [List.getElem?_toArray, List.getElem?_cons_succ, List.getElem?_cons_zero]; rfl)
  · first | exact fun _ _ _ h => h | exact fun _ _ _ h => nomatch h.1
  · rfl
  · (intro W hSW; (try dsimp only at hSW); go_split_ands; first | (go_simp; done) | (go_simp; with_reducible rfl))
  try simp only [Act.put, List.setIfInBounds_toArray, List.set_cons_zero, List.set_cons_succ]
  refine' wpAnyH_take (i := 4) (oi := _) (v := _) ?_ (by kernel_rfl) (by kernel_rfl) (by kernel_rfl) ?_ (Or.inl ⟨?_, ?_⟩) (by assumption) ?_
  rotate_left 2
  · (simp only [List.getElem?_toArray, List.getElem?_cons_succ, List.getElem?_cons_zero]; rfl)
  · first | exact fun _ _ _ h => h | exact fun _ _ _ h => nomatch h.1
  · rfl
  · (intro W hSW; (try dsimp only at hSW); go_split_ands; first | (go_simp; done) | (go_simp; with_reducible rfl))
  try simp only [Act.put, List.setIfInBounds_toArray, List.set_cons_zero, List.set_cons_succ]
  refine' wpAnyH_take (i := 5) (oi := _) (v := _) ?_ (by kernel_rfl) (by kernel_rfl) (by kernel_rfl) ?_ (Or.inl ⟨?_, ?_⟩) (by assumption) ?_
  rotate_left 2
  · (simp only [List.getElem?_toArray, List.getElem?_cons_succ, List.getElem?_cons_zero]; rfl)
  · first | exact fun _ _ _ h => h | exact fun _ _ _ h => nomatch h.1
  · rfl
  · (intro W hSW; (try dsimp only at hSW); go_split_ands; first | (go_simp; done) | (go_simp; with_reducible rfl))
  try simp only [Act.put, List.setIfInBounds_toArray, List.set_cons_zero, List.set_cons_succ]
  refine' wpAnyH_take (i := 6) (oi := _) (v := _) ?_ (by kernel_rfl) (by kernel_rfl) (by kernel_rfl) ?_ (Or.inl ⟨?_, ?_⟩) (by assumption) ?_
  rotate_left 2
  · (simp only [List.getElem?_toArray, List.getElem?_cons_succ, List.getElem?_cons_zero]; rfl)
  · first | exact fun _ _ _ h => h | exact fun _ _ _ h => nomatch h.1
  · rfl
  · (intro W hSW; (try dsimp only at hSW); go_split_ands; first | (go_simp; done) | (go_simp; with_reducible rfl))
  try simp only [Act.put, List.setIfInBounds_toArray, List.set_cons_zero, List.set_cons_succ]
  refine' wpAnyH_take (i := 7) (oi := _) (v := _) ?_ (by kernel_rfl) (by kernel_rfl) (by kernel_rfl) ?_ (Or.inl ⟨?_, ?_⟩) (by assumption) ?_
  rotate_left 2
  · (simp only [List.getElem?_toArray, List.getElem?_cons_succ, List.getElem?_cons_zero]; rfl)
  · first | exact fun _ _ _ h => h | exact fun _ _ _ h => nomatch h.1
  · rfl
  · (intro W hSW; (try dsimp only at hSW); go_split_ands; first | (go_simp; done) | (go_simp; with_reducible rfl))
  try simp only [Act.put, List.setIfInBounds_toArray, List.set_cons_zero, List.set_cons_succ]
  clear hHeld
  refine wpAnyH_ready (rs := [8]) (by kernel_rfl) (by simp) ?_
  refine' AllReadyH.cons (o := _) ?_ (fun K hK => ?_) AllReadyH.nil
  rotate_left 1
  · (simp only [List.getElem?_toArray, List.getElem?_cons_succ, List.getElem?_cons_zero]; rfl)
  go_simp
  have hL := HT.out
  have own := put8 hL.own (resL_get HR.out) (.int .i64 1) (.int .i64 k) (.int .u32 1) (.int .i64 r'.st) (.int .i64 wy') (.int .i64 r'.tr) (.int .i64 r'.nx) (.string tagB)
  have gp : g' ≠ p := fun e => hL.own.ne_row hL.row (by decide) (by rw [← e]; rfl)
  have gz : g' ≠ z := fun e => hL.own.ne_row hL.rz (by decide) (by rw [← e]; rfl)
  have gm : m ≠ g' := fun e => hL.mp.ne_own hL.own (by rw [e]; rfl)
  have gb : g' ≠ w.heap.size := by omega
  have rp8 := (((((((hL.row.other gp (k * 8) (.int .i64 1)).other gp (k * 8 + 1) (.int .i64 k)).other gp (k * 8 + 2) (.int .u32 1)).other gp (k * 8 + 3) (.int .i64 r'.st)).other gp (k * 8 + 4) (.int .i64 wy')).other gp (k * 8 + 5) (.int .i64 r'.tr)).other gp (k * 8 + 6) (.int .i64 r'.nx)).other gp (k * 8 + 7) (.string tagB)
  have rz8 := (((((((hL.rz.other gz (k * 8) (.int .i64 1)).other gz (k * 8 + 1) (.int .i64 k)).other gz (k * 8 + 2) (.int .u32 1)).other gz (k * 8 + 3) (.int .i64 r'.st)).other gz (k * 8 + 4) (.int .i64 wy')).other gz (k * 8 + 5) (.int .i64 r'.tr)).other gz (k * 8 + 6) (.int .i64 r'.nx)).other gz (k * 8 + 7) (.string tagB)
  have mp8 := (((((((hL.mp.other gm (k * 8) (.int .i64 1)).other gm (k * 8 + 1) (.int .i64 k)).other gm (k * 8 + 2) (.int .u32 1)).other gm (k * 8 + 3) (.int .i64 r'.st)).other gm (k * 8 + 4) (.int .i64 wy')).other gm (k * 8 + 5) (.int .i64 r'.tr)).other gm (k * 8 + 6) (.int .i64 r'.nx)).other gm (k * 8 + 7) (.string tagB)
  have rb8 := (((((((r1.other gb (k * 8) (.int .i64 1)).other gb (k * 8 + 1) (.int .i64 k)).other gb (k * 8 + 2) (.int .u32 1)).other gb (k * 8 + 3) (.int .i64 r'.st)).other gb (k * 8 + 4) (.int .i64 wy')).other gb (k * 8 + 5) (.int .i64 r'.tr)).other gb (k * 8 + 6) (.int .i64 r'.nx)).other gb (k * 8 + 7) (.string tagB)
  have hFg2 : g' < w.heap.size → F g' := fun _ => hFg
  have hbut := ((((((((but_of F hc).setCell hFg2 (k * 8) (.int .i64 1)).setCell hFg2 (k * 8 + 1) (.int .i64 k)).setCell hFg2 (k * 8 + 2) (.int .u32 1)).setCell hFg2 (k * 8 + 3) (.int .i64 r'.st)).setCell hFg2 (k * 8 + 4) (.int .i64 wy')).setCell hFg2 (k * 8 + 5) (.int .i64 r'.tr)).setCell hFg2 (k * 8 + 6) (.int .i64 r'.nx)).setCell hFg2 (k * 8 + 7) (.string tagB)
  refine hK.out _ _ ⟨rp8.cell, rb8.cell⟩ (fun hHeld => ?_)
  clear hK K hHeld c0 c1 c2 c3 c4 c5 c6 c7 fg r1 rp hc
  generalize World.setCell _ _ _ = X8 at *
  refine wpAnyH_done (by kernel_rfl) ?_ _
  go_wp2_with fail
  go_returns
  have hL0 := HH.out
  have er : [.int .i64 1, .int .i64 k, .int .u32 1, .int .i64 r'.st, .int .i64 wy', .int .i64 r'.tr, .int .i64 r'.nx, .string tagB] = resC k r' := by rw [← hwy']; rfl
  rw [er, ← resL_set] at own
  refine ⟨rfl, ?_, hbut⟩
  exact {
    row := rp8
    rz := rz8
    sa := hL0.sa
    mp := mp8
    own := own
    fp := hL0.fp
    fz := hL0.fz
    fm := hL0.fm
    fv := hL0.fv
    fin := fun b hb => Nat.lt_of_lt_of_le (hL0.fin b hb) hbut.size
    most := by rw [List.length_set]; exact hL0.most
    gens := hL0.gens
    owns := fun j x k' hj hk => by rw [List.length_set]; exact hL0.owns j x k' hj hk }
end Go.Proofs.YtkjpdciccablpaaGreatDoor

/- The reference's slots (chapter 37): Take, Check, Give. -/
namespace Go.Proofs.YtkjpdciccablpaaGreatDoor
open Go.RowKit
set_option linter.unusedVariables false
set_option linter.unusedSimpArgs false
set_option maxHeartbeats 16000000
set_option maxRecDepth 20000
abbrev RefT : TypeId := 85
theorem rs_take {w : World} {F : Nat → Prop} {z : Nat} {sl : List SlotR} {v : Value} {i : Nat} {s : SlotR} (h : RSl w F z sl v) (hi : sl[i]? = some s) (hs : isFree s = true) (hb : ∀ j x, j < i → sl[j]? = some x → isFree x = false) (k : Nat) :
    Calls Tryz.prog 88 #[ptr z] w fun e w' => e = .returned (.tuple #[.agg #[.int .i64 i, .int .u32 s.gen], .int .i64 0]) ∧ RSl w' F z (sl.set i ⟨some k, s.gen⟩) v ∧ But F w w' := by
  have hil := (List.getElem?_eq_some_iff.1 hi).1
  have h64 := h.len
  rw [h64] at hil
  obtain ⟨g, c, rfl, hFg, hg⟩ := h.list
  have HH := Lib.hid h
  have HB := Lib.hid hb
  have HI := Lib.hid hi
  have e0 : stS s = 0 := by unfold stS; rw [hs]; rfl
  clear hb hi h
  go_enter Tryz.func88, Tryz.ntmps88
  go_upto_region 1 with fail
  have r2 := Row.new (W := w) (cs := #[.int .i64 0, .int .u32 0]) (t := RefT)
  have hc := below_alloc w (.cells #[.int .i64 0, .int .u32 0] RefT)
  generalize w.alloc _ = V at *
  go_wp2_with fail
  refine Calls.mono (rs_valid (HH.out.on hc).row) ?_
  rintro e V1 ⟨rfl, hW⟩
  subst V1
  go_wp2_with fail
  go_loopw [4] (fun iv wr => ∃ j : Nat, j ≤ i ∧ iv = .int .i64 j ∧ Row wr w.heap.size #[.int .i64 0, .int .u32 0] RefT ∧ Below w.heap.size w wr) (fun iv _ => 64 - (intOf iv).toNat)
  case atStart => exact ⟨0, by omega, rfl, r2, hc⟩
  case round =>
    clear r2 hc
    obtain ⟨j, hj, rfl, r2, hc⟩ := hrel
    have hT := HH.out.on hc
    have y1 := hT.row.cell
    have z1 := hT.row.lt
    have j0 : (0 : Int) ≤ (j : Int) := by omega
    have j1 : (j : Int) < 64 := by omega
    by_cases hlt : j < i
    · obtain ⟨x, hx⟩ : ∃ x, sl[j]? = some x := ⟨_, List.getElem?_eq_getElem (by omega)⟩
      obtain ⟨y2, _⟩ := hT.slot hx
      have e1 : stS x = 1 := by unfold stS; rw [HB.out j x hlt hx]; rfl
      rw [e1] at y2
      clear hT hx e1
      go_wp2_with fail
      go_roundw
      case rel => exact ⟨j + 1, by omega, by go_num, r2, hc⟩
      case measure => simp [intOf]; omega
    · obtain rfl : j = i := by omega
      obtain ⟨y2, _⟩ := hT.slot HI.out
      rw [e0] at y2
      have u2 := hT.own.free rfl
      have zg := Nat.lt_of_lt_of_le hg hc.size
      go_upto_region 8 with fail
      have hgz : g ≠ z := fun e => hT.own.ne_row hT.row (by decide) (by rw [e]; rfl)
      have ho2 := hT.own.put (q := 0) rfl (slL_get HI.out) (by omega) (.int .i64 1)
      have hrow2 := hT.row.other hgz (j * 2 + 0) (.int .i64 1)
      have hga : g ≠ w.heap.size := by omega
      replace r2 := r2.other hga (j * 2 + 0) (.int .i64 1)
      have hbut := (but_of F hc).setCell (y := g) (fun _ => hFg) (j * 2 + 0) (.int .i64 1)
      have hfin : ∀ b, F b → b < (wr.setCell ⟨g, j * 2 + 0, none⟩ (.int .i64 1)).heap.size := fun b hb => by
        have := hT.fin b hb
        simpa [World.setCell] using this
      change Code.wp _ _ _ _ (wr.setCell ⟨g, j * 2 + 0, none⟩ (.int .i64 1))
      have hT2 : RSl (wr.setCell ⟨g, j * 2 + 0, none⟩ (.int .i64 1)) F z (sl.set j ⟨some k, s.gen⟩) (.slice (some ⟨g, 0, none⟩) 64 c) := { row := hrow2, own := by rw [slL_set]; exact ho2, len := by rw [List.length_set]; exact h64, fz := hT.fz, fv := hT.fv, fin := hfin }
      clear ho2 hrow2 hT y1 y2 z1 u2 hc
      generalize wr.setCell _ _ = X at *
      have y1 := hT2.row.cell
      have z1 := hT2.row.lt
      obtain ⟨_, y3⟩ := hT2.slot (i := j) (s := ⟨some k, s.gen⟩) (by rw [List.getElem?_set]; simp [h64, hil])
      have y2 := r2.cell
      have u2 := r2.free
      have z2 := r2.lt
      simp only at y3
      go_wp2_with fail
      refine bodyPost_ret (v := .tuple #[.agg #[.int .i64 j, .int .u32 s.gen], .int .i64 0]) (by simp [results, Tryz.results88, go_sem, y2, z2]) rfl ⟨rfl, ?_, ?_⟩
      · refine hT2.via (by simp [World.setCell]) (fun b hb => ?_)
        have hbw := HH.out.fin b hb
        rw [Below.heap_setCell _ _ _ b (fun e => by have : b = w.heap.size := e; omega), Below.heap_setCell _ _ _ b (fun e => by have : b = w.heap.size := e; omega)]
      · have hnb : w.heap.size < w.heap.size → F w.heap.size := fun h => absurd h (by omega)
        exact (hbut.setCell hnb _ _).setCell hnb _ _
theorem rs_check {w : World} {F : Nat → Prop} {z : Nat} {sl : List SlotR} {v : Value} {i k : Nat} {g0 : Int} (h : RSl w F z sl v) (hi : sl[i]? = some ⟨some k, g0⟩) : Ret 92 #[ptr z, .agg #[.int .i64 i, .int .u32 g0]] w (.int .i64 0) := by
  have hil := (List.getElem?_eq_some_iff.1 hi).1
  rw [h.len] at hil
  obtain ⟨g, c, rfl, hFg, hg⟩ := h.list
  have hc := below_alloc w (.cells #[.int .i64 i, .int .u32 g0] RefT)
  have hr := Row.new (W := w) (cs := #[.int .i64 i, .int .u32 g0]) (t := RefT)
  have HC := Lib.hid hc
  have CV := Lib.hid (rs_valid (h.on hc).row)
  obtain ⟨y1, y2⟩ := (h.on hc).slot hi
  have e1 : stS ⟨some k, g0⟩ = 1 := rfl
  rw [e1] at y1
  simp only at y2
  have y0 := (h.on hc).row.cell
  have z0 := (h.on hc).row.lt
  have i0 : ¬ ((i : Int) < 0) := by omega
  have i1 : ¬ ((i : Int) ≥ 64) := by omega
  have i2 : (0 : Int) ≤ (i : Int) := by omega
  have i3 : (i : Int) < 64 := by omega
  clear h hi
  go_enter Tryz.func92, Tryz.ntmps92
  go_upto_region 1 with fail
  have y5 := hr.cell
  have z5 := hr.lt
  have f5 := hr.free
  generalize w.alloc _ = V at *
  go_wp2_with fail
  refine Calls.mono CV.out ?_
  rintro e V1 ⟨rfl, hW⟩
  subst V1
  go_wp2_with fail
  go_quiet (fail)
  go_wp2_with fail
  go_quiet (fail)
  go_wp2_with fail
  go_returns
  exact ⟨rfl, below_nth (below_nth HC.out _) _⟩
theorem rs_give {w : World} {F : Nat → Prop} {z : Nat} {sl : List SlotR} {v : Value} {i k : Nat} {g0 : Int} (h : RSl w F z sl v) (hi : sl[i]? = some ⟨some k, g0⟩) (g1 : 1 ≤ g0) (g2 : g0 ≤ 1000) :
    Calls Tryz.prog 68 #[ptr z, .agg #[.int .i64 i, .int .u32 g0]] w fun e w' => e = .returned (.int .i64 0) ∧ RSl w' F z (sl.set i ⟨none, g0 + 1⟩) v ∧ But F w w' := by
  have hil := (List.getElem?_eq_some_iff.1 hi).1
  have h64 := h.len
  rw [h64] at hil
  obtain ⟨g, c, rfl, hFg, hg⟩ := h.list
  have HH := Lib.hid h
  have HI := Lib.hid hi
  have cn := fun W => ref_Next g0 W (by omega) (by omega)
  rw [gErr_pos g1, gAfter_in g1 (by omega), gAfterB_in g1 (by omega)] at cn
  have CN := Lib.hid cn
  clear hi h cn
  go_enter Tryz.func68, Tryz.ntmps68
  go_upto_region 1 with fail
  have r2 := Row.new (W := w) (cs := #[.int .i64 i, .int .u32 g0]) (t := RefT)
  have hc := below_alloc w (.cells #[.int .i64 i, .int .u32 g0] RefT)
  have z2 := r2.lt
  generalize w.alloc _ = V at *
  have y2 := r2.cell
  go_wp2_with fail
  refine Calls.mono (rs_check (HH.out.on hc) HI.out) ?_
  rintro e V1 ⟨rfl, hn⟩
  replace r2 := r2.on hn
  replace hc := chain hc hn
  clear hn y2 z2
  have z2 := r2.lt
  have y2 := r2.cell
  go_wp2_with fail
  refine Calls.mono (CN.out _) ?_
  rintro e V2 ⟨rfl, hn⟩
  replace r2 := r2.on hn
  replace hc := chain hc hn
  clear hn y2 z2
  go_wp2_with fail
  have hT := HH.out.on hc
  have hgz : g ≠ z := fun e => hT.own.ne_row hT.row (by decide) (by rw [e]; rfl)
  have hga : g ≠ w.heap.size := by omega
  have i0 : (0 : Int) ≤ (i : Int) := by omega
  have i1 : (i : Int) < 64 := by omega
  refine wp_region_held_drew (S := fun W' => (∀ j, W'.cell? ⟨z, j, none⟩ = (#[.slice (some ⟨g, 0, none⟩) 64 c] : Array Value)[j]?) ∧ (∀ j, W'.cell? ⟨w.heap.size, j, none⟩ = (#[.int .i64 i, .int .u32 g0] : Array Value)[j]?)) (by kernel_rfl) ⟨hT.row.cell, r2.cell⟩ (fun hHeld => ?_)
  replace hT := hT.drew
  replace r2 := r2.drew
  replace hc := hc.drew
  generalize V2.drew = X at *
  refine' wpAnyH_take (i := 0) (oi := _) (v := _) ?_ (by kernel_rfl) (by kernel_rfl) (by kernel_rfl) ?_ (Or.inl ⟨?_, ?_⟩) (by assumption) ?_
  rotate_left 2
  · (simp only [List.getElem?_toArray, List.getElem?_cons_succ, List.getElem?_cons_zero]; rfl)
  · first | exact fun _ _ _ h => h | exact fun _ _ _ h => nomatch h.1
  · rfl
  · (intro W hSW; (try dsimp only at hSW); go_split_ands; first | (go_simp; done) | (go_simp; with_reducible rfl))
  try simp only [Act.put, List.setIfInBounds_toArray, List.set_cons_zero, List.set_cons_succ]
  refine' wpAnyH_take (i := 1) (oi := _) (v := _) ?_ (by kernel_rfl) (by kernel_rfl) (by kernel_rfl) ?_ (Or.inl ⟨?_, ?_⟩) (by assumption) ?_
  rotate_left 2
  · (simp only [List.getElem?_toArray, List.getElem?_cons_succ, List.getElem?_cons_zero]; rfl)
  · first | exact fun _ _ _ h => h | exact fun _ _ _ h => nomatch h.1
  · rfl
  · (intro W hSW; (try dsimp only at hSW); go_split_ands; first | (go_simp; done) | (go_simp; with_reducible rfl))
  try simp only [Act.put, List.setIfInBounds_toArray, List.set_cons_zero, List.set_cons_succ]
  refine' wpAnyH_take (i := 2) (oi := _) (v := _) ?_ (by kernel_rfl) (by kernel_rfl) (by kernel_rfl) ?_ (Or.inl ⟨?_, ?_⟩) (by assumption) ?_
  rotate_left 2
  · (simp only [List.getElem?_toArray, List.getElem?_cons_succ, List.getElem?_cons_zero]; rfl)
  · first | exact fun _ _ _ h => h | exact fun _ _ _ h => nomatch h.1
  · rfl
  · (intro W hSW; (try dsimp only at hSW); go_split_ands; first | (go_simp; done) | (go_simp; with_reducible rfl))
  try simp only [Act.put, List.setIfInBounds_toArray, List.set_cons_zero, List.set_cons_succ]
  refine' wpAnyH_take (i := 3) (oi := _) (v := _) ?_ (by kernel_rfl) (by kernel_rfl) (by kernel_rfl) ?_ (Or.inl ⟨?_, ?_⟩) (by assumption) ?_
  rotate_left 2
  · (simp only [List.getElem?_toArray, List.getElem?_cons_succ, List.getElem?_cons_zero]; rfl)
  · first | exact fun _ _ _ h => h | exact fun _ _ _ h => nomatch h.1
  · rfl
  · (intro W hSW; (try dsimp only at hSW); go_split_ands; first | (go_simp; done) | (go_simp; with_reducible rfl))
  try simp only [Act.put, List.setIfInBounds_toArray, List.set_cons_zero, List.set_cons_succ]
  refine' wpAnyH_take (i := 4) (oi := _) (v := _) ?_ (by kernel_rfl) (by kernel_rfl) (by kernel_rfl) ?_ (Or.inl ⟨?_, ?_⟩) (by assumption) ?_
  rotate_left 2
  · (simp only [List.getElem?_toArray, List.getElem?_cons_succ, List.getElem?_cons_zero]; rfl)
  · first | exact fun _ _ _ h => h | exact fun _ _ _ h => nomatch h.1
  · rfl
  · (intro W hSW; (try dsimp only at hSW); go_split_ands; first | (go_simp; done) | (go_simp; with_reducible rfl))
  try simp only [Act.put, List.setIfInBounds_toArray, List.set_cons_zero, List.set_cons_succ]
  refine' wpAnyH_take (i := 5) (oi := _) (v := _) ?_ (by kernel_rfl) (by kernel_rfl) (by kernel_rfl) ?_ (Or.inl ⟨?_, ?_⟩) (by assumption) ?_
  rotate_left 2
  · (simp only [List.getElem?_toArray, List.getElem?_cons_succ, List.getElem?_cons_zero]; rfl)
  · first | exact fun _ _ _ h => h | exact fun _ _ _ h => nomatch h.1
  · rfl
  · (intro W hSW; (try dsimp only at hSW); go_split_ands; first | (go_simp; done) | (go_simp; with_reducible rfl))
  try simp only [Act.put, List.setIfInBounds_toArray, List.set_cons_zero, List.set_cons_succ]
  refine' wpAnyH_take (i := 6) (oi := _) (v := _) ?_ (by kernel_rfl) (by kernel_rfl) (by kernel_rfl) ?_ (Or.inl ⟨?_, ?_⟩) (by assumption) ?_
  rotate_left 2
  · (simp only [List.getElem?_toArray, List.getElem?_cons_succ, List.getElem?_cons_zero]; rfl)
  · first | exact fun _ _ _ h => h | exact fun _ _ _ h => nomatch h.1
  · rfl
  · (intro W hSW; (try dsimp only at hSW); go_split_ands; first | (go_simp; done) | (go_simp; with_reducible rfl))
  try simp only [Act.put, List.setIfInBounds_toArray, List.set_cons_zero, List.set_cons_succ]
  refine' wpAnyH_take (i := 7) (oi := _) (v := _) ?_ (by kernel_rfl) (by kernel_rfl) (by kernel_rfl) ?_ (Or.inl ⟨?_, ?_⟩) (by assumption) ?_
  rotate_left 2
  · (simp only [List.getElem?_toArray, List.getElem?_cons_succ, List.getElem?_cons_zero]; rfl)
  · first | exact fun _ _ _ h => h | exact fun _ _ _ h => nomatch h.1
  · rfl
  · (intro W hSW; (try dsimp only at hSW); go_split_ands; first | (go_simp; done) | (go_simp; with_reducible rfl))
  try simp only [Act.put, List.setIfInBounds_toArray, List.set_cons_zero, List.set_cons_succ]
  clear hHeld
  obtain ⟨y3, _⟩ := hT.slot HI.out
  have u3 := hT.own.free rfl
  have z3 : g < X.heap.size := hT.fin g hFg
  refine wpAnyH_ready (rs := [8]) (by kernel_rfl) (by simp) ?_
  refine' AllReadyH.cons (o := _) ?_ (fun K hK => ?_) AllReadyH.nil
  rotate_left 1
  · (simp only [List.getElem?_toArray, List.getElem?_cons_succ, List.getElem?_cons_zero]; rfl)
  go_simp
  have ho2 := hT.own.put (q := 0) rfl (slL_get HI.out) (by omega) (.int .i64 2)
  have hrow2 := hT.row.other hgz (i * 2 + 0) (.int .i64 2)
  replace r2 := r2.other hga (i * 2 + 0) (.int .i64 2)
  have hbut := (but_of F hc).setCell (y := g) (fun _ => hFg) (i * 2 + 0) (.int .i64 2)
  have hfin : ∀ b, F b → b < (X.setCell ⟨g, i * 2 + 0, none⟩ (.int .i64 2)).heap.size := fun b hb => by
    have := hT.fin b hb
    simpa [World.setCell] using this
  have hFz := hT.fz
  have hFv := hT.fv
  clear hT y3 u3 z3 hc
  rw [Nat.add_zero] at ho2 hrow2 r2 hbut hfin
  generalize X.setCell _ _ = X1 at *
  refine hK.out _ _ ⟨hrow2.cell, r2.cell⟩ (fun hHeld => ?_)
  clear hK K hHeld
  refine wpAnyH_done (by kernel_rfl) ?_ _
  go_upto_region 7 with fail
  refine wp_region_held_drew (S := fun W' => (∀ j, W'.cell? ⟨z, j, none⟩ = (#[.slice (some ⟨g, 0, none⟩) 64 c] : Array Value)[j]?) ∧ (∀ j, W'.cell? ⟨w.heap.size, j, none⟩ = (#[.int .i64 i, .int .u32 g0] : Array Value)[j]?)) (by kernel_rfl) ⟨hrow2.cell, r2.cell⟩ (fun hHeld => ?_)
  replace hrow2 := hrow2.drew
  replace ho2 : OwnsC RslT 2 0 X1.drew (.slice (some ⟨g, 0, none⟩) 64 c) _ := ho2
  replace r2 := r2.drew
  replace hbut := hbut.drew
  replace hfin : ∀ b, F b → b < X1.drew.heap.size := hfin
  generalize X1.drew = X2 at *
  refine' wpAnyH_take (i := 0) (oi := _) (v := _) ?_ (by kernel_rfl) (by kernel_rfl) (by kernel_rfl) ?_ (Or.inl ⟨?_, ?_⟩) (by assumption) ?_
  rotate_left 2
  · (simp only [List.getElem?_toArray, List.getElem?_cons_succ, List.getElem?_cons_zero]; rfl)
  · first | exact fun _ _ _ h => h | exact fun _ _ _ h => nomatch h.1
  · rfl
  · (intro W hSW; (try dsimp only at hSW); go_split_ands; first | (go_simp; done) | (go_simp; with_reducible rfl))
  try simp only [Act.put, List.setIfInBounds_toArray, List.set_cons_zero, List.set_cons_succ]
  refine' wpAnyH_take (i := 1) (oi := _) (v := _) ?_ (by kernel_rfl) (by kernel_rfl) (by kernel_rfl) ?_ (Or.inl ⟨?_, ?_⟩) (by assumption) ?_
  rotate_left 2
  · (simp only [List.getElem?_toArray, List.getElem?_cons_succ, List.getElem?_cons_zero]; rfl)
  · first | exact fun _ _ _ h => h | exact fun _ _ _ h => nomatch h.1
  · rfl
  · (intro W hSW; (try dsimp only at hSW); go_split_ands; first | (go_simp; done) | (go_simp; with_reducible rfl))
  try simp only [Act.put, List.setIfInBounds_toArray, List.set_cons_zero, List.set_cons_succ]
  refine' wpAnyH_take (i := 2) (oi := _) (v := _) ?_ (by kernel_rfl) (by kernel_rfl) (by kernel_rfl) ?_ (Or.inl ⟨?_, ?_⟩) (by assumption) ?_
  rotate_left 2
  · (simp only [List.getElem?_toArray, List.getElem?_cons_succ, List.getElem?_cons_zero]; rfl)
  · first | exact fun _ _ _ h => h | exact fun _ _ _ h => nomatch h.1
  · rfl
  · (intro W hSW; (try dsimp only at hSW); go_split_ands; first | (go_simp; done) | (go_simp; with_reducible rfl))
  try simp only [Act.put, List.setIfInBounds_toArray, List.set_cons_zero, List.set_cons_succ]
  refine' wpAnyH_take (i := 3) (oi := _) (v := _) ?_ (by kernel_rfl) (by kernel_rfl) (by kernel_rfl) ?_ (Or.inl ⟨?_, ?_⟩) (by assumption) ?_
  rotate_left 2
  · (simp only [List.getElem?_toArray, List.getElem?_cons_succ, List.getElem?_cons_zero]; rfl)
  · first | exact fun _ _ _ h => h | exact fun _ _ _ h => nomatch h.1
  · rfl
  · (intro W hSW; (try dsimp only at hSW); go_split_ands; first | (go_simp; done) | (go_simp; with_reducible rfl))
  try simp only [Act.put, List.setIfInBounds_toArray, List.set_cons_zero, List.set_cons_succ]
  refine' wpAnyH_take (i := 4) (oi := _) (v := _) ?_ (by kernel_rfl) (by kernel_rfl) (by kernel_rfl) ?_ (Or.inl ⟨?_, ?_⟩) (by assumption) ?_
  rotate_left 2
  · (simp only [List.getElem?_toArray, List.getElem?_cons_succ, List.getElem?_cons_zero]; rfl)
  · first | exact fun _ _ _ h => h | exact fun _ _ _ h => nomatch h.1
  · rfl
  · (intro W hSW; (try dsimp only at hSW); go_split_ands; first | (go_simp; done) | (go_simp; with_reducible rfl))
  try simp only [Act.put, List.setIfInBounds_toArray, List.set_cons_zero, List.set_cons_succ]
  refine' wpAnyH_take (i := 5) (oi := _) (v := _) ?_ (by kernel_rfl) (by kernel_rfl) (by kernel_rfl) ?_ (Or.inl ⟨?_, ?_⟩) (by assumption) ?_
  rotate_left 2
  · (simp only [List.getElem?_toArray, List.getElem?_cons_succ, List.getElem?_cons_zero]; rfl)
  · first | exact fun _ _ _ h => h | exact fun _ _ _ h => nomatch h.1
  · rfl
  · (intro W hSW; (try dsimp only at hSW); go_split_ands; first | (go_simp; done) | (go_simp; with_reducible rfl))
  try simp only [Act.put, List.setIfInBounds_toArray, List.set_cons_zero, List.set_cons_succ]
  refine' wpAnyH_take (i := 6) (oi := _) (v := _) ?_ (by kernel_rfl) (by kernel_rfl) (by kernel_rfl) ?_ (Or.inl ⟨?_, ?_⟩) (by assumption) ?_
  rotate_left 2
  · (simp only [List.getElem?_toArray, List.getElem?_cons_succ, List.getElem?_cons_zero]; rfl)
  · first | exact fun _ _ _ h => h | exact fun _ _ _ h => nomatch h.1
  · rfl
  · (intro W hSW; (try dsimp only at hSW); go_split_ands; first | (go_simp; done) | (go_simp; with_reducible rfl))
  try simp only [Act.put, List.setIfInBounds_toArray, List.set_cons_zero, List.set_cons_succ]
  refine' wpAnyH_take (i := 7) (oi := _) (v := _) ?_ (by kernel_rfl) (by kernel_rfl) (by kernel_rfl) ?_ (Or.inl ⟨?_, ?_⟩) (by assumption) ?_
  rotate_left 2
  · (simp only [List.getElem?_toArray, List.getElem?_cons_succ, List.getElem?_cons_zero]; rfl)
  · first | exact fun _ _ _ h => h | exact fun _ _ _ h => nomatch h.1
  · rfl
  · (intro W hSW; (try dsimp only at hSW); go_split_ands; first | (go_simp; done) | (go_simp; with_reducible rfl))
  try simp only [Act.put, List.setIfInBounds_toArray, List.set_cons_zero, List.set_cons_succ]
  refine' wpAnyH_take (i := 8) (oi := _) (v := _) ?_ (by kernel_rfl) (by kernel_rfl) (by kernel_rfl) ?_ (Or.inl ⟨?_, ?_⟩) (by assumption) ?_
  rotate_left 2
  · (simp only [List.getElem?_toArray, List.getElem?_cons_succ, List.getElem?_cons_zero]; rfl)
  · first | exact fun _ _ _ h => h | exact fun _ _ _ h => nomatch h.1
  · rfl
  · (intro W hSW; (try dsimp only at hSW); go_split_ands; first | (go_simp; done) | (go_simp; with_reducible rfl))
  try simp only [Act.put, List.setIfInBounds_toArray, List.set_cons_zero, List.set_cons_succ]
  clear hHeld
  have hl4 : (slL sl).length = 64 := by rw [slL_len, h64]
  have hj2 : ((slL sl).set i ((slC ⟨some k, g0⟩).set 0 (.int .i64 2)))[i]? = some ((slC ⟨some k, g0⟩).set 0 (.int .i64 2)) := by rw [List.getElem?_set]; simp [hl4, hil]
  obtain ⟨g', c', e', z3, hc2⟩ := ho2.cells hj2
  injection e' with e1 e2 e3
  injection e1 with e1
  injection e1 with e1
  subst e1
  have y3 := hc2 0 (by omega)
  have y4 := hc2 1 (by omega)
  have u3 := ho2.free rfl
  simp only [slC, List.set_cons_zero, List.getElem?_cons_zero, List.getElem?_cons_succ, Nat.add_zero] at y3 y4
  clear hc2 e2 e3
  refine wpAnyH_ready (rs := [9]) (by kernel_rfl) (by simp) ?_
  refine' AllReadyH.cons (o := _) ?_ (fun K hK => ?_) AllReadyH.nil
  rotate_left 1
  · (simp only [List.getElem?_toArray, List.getElem?_cons_succ, List.getElem?_cons_zero]; rfl)
  go_simp
  have hlt4 : i < (slL sl).length := by rw [hl4]; exact hil
  have ho3 := put_again ho2 hlt4 (q := 0) (by omega) (.int .i64 0)
  rw [Nat.add_zero] at ho3
  have ho4 := put_again ho3 hlt4 (q := 1) (by omega) (.int .u32 (g0 + 1))
  replace hrow2 := (hrow2.other hgz (i * 2) (.int .i64 0)).other hgz (i * 2 + 1) (.int .u32 (g0 + 1))
  replace r2 := (r2.other hga (i * 2) (.int .i64 0)).other hga (i * 2 + 1) (.int .u32 (g0 + 1))
  replace hbut := (hbut.setCell (y := g) (fun _ => hFg) (i * 2) (.int .i64 0)).setCell (y := g) (fun _ => hFg) (i * 2 + 1) (.int .u32 (g0 + 1))
  replace hfin : ∀ b, F b → b < ((X2.setCell ⟨g, i * 2, none⟩ (.int .i64 0)).setCell ⟨g, i * 2 + 1, none⟩ (.int .u32 (g0 + 1))).heap.size := fun b hb => by
    have := hfin b hb
    simpa [World.setCell] using this
  clear ho2 ho3 y3 y4 u3 z3 hj2
  generalize (X2.setCell _ _).setCell _ _ = X3 at *
  have e3 : (slL sl).set i ((((slC ⟨some k, g0⟩).set 0 (.int .i64 2)).set 0 (.int .i64 0)).set 1 (.int .u32 (g0 + 1))) = slL (sl.set i ⟨none, g0 + 1⟩) := by rw [slL_set]; rfl
  rw [e3] at ho4
  refine hK.out _ _ ⟨hrow2.cell, r2.cell⟩ (fun hHeld => ?_)
  clear hK K hHeld
  refine wpAnyH_done (by kernel_rfl) ?_ _
  go_wp2_with fail
  go_returns
  exact ⟨rfl, { row := hrow2, own := ho4, len := by rw [List.length_set]; exact h64, fz := hFz, fv := hFv, fin := hfin }, hbut⟩
end Go.Proofs.YtkjpdciccablpaaGreatDoor

/- The reference's table (chapter 37): what it is in memory; valid, number, Len, Get, Numbers. -/
namespace Go.Proofs.YtkjpdciccablpaaGreatDoor
open Go.RowKit
set_option linter.unusedVariables false
set_option linter.unusedSimpArgs false
set_option maxHeartbeats 16000000
set_option maxRecDepth 20000
abbrev RtT : TypeId := 81
abbrev RenT : TypeId := 142
abbrev RrT : TypeId := 94
/-- The descriptors, in the order of their slots; the first slot's number is o. -/
def enC (i : Nat) (g : Int) (k : Nat) : List Value := [.int .i64 1, .int .i64 i, .int .u32 g, .int .i64 ((k : Int) + 1), .int .i64 k, .int .u32 1]
def enS (i : Nat) (s : SlotR) : List (List Value) := match s.own with
  | none => []
  | some k => [enC i s.gen k]
def enL (o : Nat) : List SlotR → List (List Value)
  | [] => []
  | s :: l => enS o s ++ enL (o + 1) l
theorem enL_app : ∀ (l m : List SlotR) (o : Nat), enL o (l ++ m) = enL o l ++ enL (o + l.length) m
  | [], m, o => by simp [enL]
  | s :: l, m, o => by
    rw [List.cons_append, enL, enL, enL_app l m (o + 1), List.append_assoc, List.length_cons, show o + 1 + l.length = o + (l.length + 1) by omega]
theorem enL_len : ∀ (l : List SlotR) (o : Nat), (enL o l).length ≤ l.length
  | [], o => by simp [enL]
  | s :: l, o => by
    have := enL_len l (o + 1)
    rw [enL, List.length_append, List.length_cons]
    have h2 : (enS o s).length ≤ 1 := by
      unfold enS
      split <;> simp
    omega
theorem enL_mem : ∀ (l : List SlotR) (o : Nat) {c : List Value}, c ∈ enL o l → ∃ i g k, c = enC i g k ∧ o ≤ i ∧ i < o + l.length ∧ l[i - o]? = some ⟨some k, g⟩
  | [], o, c, h => by simp [enL] at h
  | s :: l, o, c, h => by
    rw [enL] at h
    rcases List.mem_append.1 h with h1 | h1
    · unfold enS at h1
      split at h1
      · simp at h1
      · rename_i k hk
        rw [List.mem_singleton.1 h1]
        refine ⟨o, s.gen, k, rfl, Nat.le_refl _, by simp, ?_⟩
        simp only [Nat.sub_self, List.getElem?_cons_zero, ← hk]
    · obtain ⟨i, g, k, h2, h3, h4, h5⟩ := enL_mem l (o + 1) h1
      refine ⟨i, g, k, h2, by omega, by rw [List.length_cons]; omega, ?_⟩
      rw [show i - o = (i - (o + 1)) + 1 by omega, List.getElem?_cons_succ]
      exact h5
theorem cutS_at {l : List SlotR} {i : Nat} {s : SlotR} (h : l[i]? = some s) : l = l.take i ++ s :: l.drop (i + 1) := by
  obtain ⟨h1, h2⟩ := List.getElem?_eq_some_iff.1 h
  rw [← h2, ← List.drop_eq_getElem_cons h1, List.take_append_drop]
theorem setS_at {l : List SlotR} {i : Nat} (h : i < l.length) (s : SlotR) : l.set i s = l.take i ++ s :: l.drop (i + 1) := by
  rw [List.set_eq_take_append_cons_drop, if_pos h]
/-- The table's list, cut at a slot. -/
theorem enL_cut {l : List SlotR} {i : Nat} {s : SlotR} (h : l[i]? = some s) : enL 0 l = enL 0 (l.take i) ++ (enS i s ++ enL (i + 1) (l.drop (i + 1))) := by
  have hi := (List.getElem?_eq_some_iff.1 h).1
  have e := enL_app (l.take i) (s :: l.drop (i + 1)) 0
  rw [← cutS_at h, List.length_take, Nat.min_eq_left (Nat.le_of_lt hi), Nat.zero_add] at e
  exact e
theorem enL_set {l : List SlotR} {i : Nat} (hi : i < l.length) (s : SlotR) : enL 0 (l.set i s) = enL 0 (l.take i) ++ (enS i s ++ enL (i + 1) (l.drop (i + 1))) := by
  have e := enL_app (l.take i) (s :: l.drop (i + 1)) 0
  rw [← setS_at hi, List.length_take, Nat.min_eq_left (Nat.le_of_lt hi), Nat.zero_add] at e
  exact e
structure RTb (W : World) (F : Nat → Prop) (p : Nat) (sl : List SlotR) (rs : List RS) (z : Nat) (vs vl vr : Value) : Prop where
  row : Row W p #[ptr z, vl, vr] RtT
  rsl : RSl W F z sl vs
  el : OwnsC RenT 6 0 W vl (enL 0 sl)
  rl : OwnsC RrT 8 0 W vr (resL rs)
  fp : F p
  fl : ∀ b, vl.ownBlock = some b → F b
  fr : ∀ b, vr.ownBlock = some b → F b
  most : rs.length ≤ 60
  gens : ∀ s ∈ sl, 1 ≤ s.gen ∧ s.gen ≤ 1000
  owns : ∀ (i : Nat) (s : SlotR) (k : Nat), sl[i]? = some s → s.own = some k → k < rs.length
def RTab (W : World) (F : Nat → Prop) (p : Nat) (sl : List SlotR) (rs : List RS) : Prop := ∃ z vs vl vr, RTb W F p sl rs z vs vl vr
section
variable {W W' : World} {F : Nat → Prop} {p : Nat} {sl : List SlotR} {rs : List RS} {z : Nat} {vs vl vr : Value}
theorem RTb.fin (h : RTb W F p sl rs z vs vl vr) : ∀ b, F b → b < W.heap.size := h.rsl.fin
theorem RTb.via (h : RTb W F p sl rs z vs vl vr) (hs : W.heap.size ≤ W'.heap.size) (hb : ∀ b, F b → W'.heap[b]? = W.heap[b]?) : RTb W' F p sl rs z vs vl vr :=
  { h with
    row := ⟨(hb p h.fp).trans h.row.eq⟩
    rsl := h.rsl.via hs hb
    el := h.el.via (fun k hk => hb k (h.fl k hk))
    rl := h.rl.via (fun k hk => hb k (h.fr k hk)) }
theorem RTb.on (h : RTb W F p sl rs z vs vl vr) (hb : Below W.heap.size W W') : RTb W' F p sl rs z vs vl vr := h.via hb.size (fun b hF => hb.block b (h.fin b hF))
theorem RTb.drew (h : RTb W F p sl rs z vs vl vr) : RTb W.drew F p sl rs z vs vl vr := h.via (Nat.le_refl _) (fun b _ => rfl)
theorem RTb.wide {G : Nat → Prop} (h : RTb W F p sl rs z vs vl vr) (hF : ∀ b, F b → G b) (hG : ∀ b, G b → b < W.heap.size) : RTb W G p sl rs z vs vl vr :=
  { h with rsl := h.rsl.wide hF hG, fp := hF _ h.fp, fl := fun b hb => hF _ (h.fl b hb), fr := fun b hb => hF _ (h.fr b hb) }
theorem RTab.on (h : RTab W F p sl rs) (hb : Below W.heap.size W W') : RTab W' F p sl rs := by
  obtain ⟨z, vs, vl, vr, h⟩ := h
  exact ⟨z, vs, vl, vr, h.on hb⟩
theorem RTab.but {G : Nat → Prop} (h : RTab W F p sl rs) (hb : But G W W') (hd : ∀ b, F b → ¬ G b) : RTab W' F p sl rs := by
  obtain ⟨z, vs, vl, vr, h⟩ := h
  exact ⟨z, vs, vl, vr, h.via hb.size (fun b hF => hb.block b (h.fin b hF) (hd b hF))⟩
theorem RTab.fin (h : RTab W F p sl rs) : ∀ b, F b → b < W.heap.size := by
  obtain ⟨z, vs, vl, vr, h⟩ := h
  exact h.fin
theorem RTab.wide {G : Nat → Prop} (h : RTab W F p sl rs) (hF : ∀ b, F b → G b) (hG : ∀ b, G b → b < W.heap.size) : RTab W G p sl rs := by
  obtain ⟨z, vs, vl, vr, h⟩ := h
  exact ⟨z, vs, vl, vr, h.wide hF hG⟩
theorem RTb.rlist (h : RTb W F p sl rs z vs vl vr) : ∃ a c, vr = .slice a rs.length c := by
  obtain ⟨a, c, e⟩ := h.rl.len
  rw [resL_len] at e
  exact ⟨a, c, e⟩
theorem RTb.res (h : RTb W F p sl rs z vs vl vr) {k : Nat} {r : RS} (hk : rs[k]? = some r) : ∃ g c, vr = .slice (some ⟨g, 0, none⟩) rs.length c ∧ g < W.heap.size ∧ F g ∧ ∀ q, q < 8 → W.cell? ⟨g, k * 8 + q, none⟩ = (resC k r)[q]? := by
  obtain ⟨g, c, e, h1, h2⟩ := h.rl.cells (resL_get hk)
  rw [resL_len] at e
  exact ⟨g, c, e, h1, h.fr g (by rw [e]; rfl), h2⟩
end
theorem rvalid_c {W : World} {p z : Nat} {vl vr : Value} (h : Row W p #[ptr z, vl, vr] RtT) : Calls Tryz.prog 44 #[ptr p] W fun e w' => e = .returned (.bool true) ∧ w' = W := by
  have y := h.cell
  have zz := h.lt
  clear h
  go_enter Tryz.func44, Tryz.ntmps44
  go_wp2_with fail
  go_returns
  exact ⟨rfl, rfl⟩
theorem rnumber_c {W : World} {p z N c k : Nat} {vl : Value} {a : Option Addr} (h : Row W p #[ptr z, vl, .slice a N c] RtT) (hk : k < N) : Calls Tryz.prog 63 #[ptr p, .int .i64 ((k : Int) + 1)] W fun e w' => e = .returned (.int .i64 0) ∧ w' = W := by
  have y := h.cell
  have zz := h.lt
  have d1 : ¬ ((k : Int) + 1 < 1) := by omega
  have d2 : ¬ ((N : Int) < (k : Int) + 1) := by omega
  have CV := Lib.hid (rvalid_c h)
  clear h
  go_enter Tryz.func63, Tryz.ntmps63
  go_wp2_with fail
  refine Calls.mono CV.out ?_
  rintro e V ⟨rfl, hW⟩
  subst V
  go_wp2_with fail
  go_returns
  exact ⟨rfl, rfl⟩
theorem rlen32_c {W : World} {p z N c : Nat} {vl : Value} {a : Option Addr} (h : Row W p #[ptr z, vl, .slice a N c] RtT) : Calls Tryz.prog 23 #[ptr p] W fun e w' => e = .returned (.int .i64 N) ∧ w' = W := by
  have y := h.cell
  have zz := h.lt
  have CV := Lib.hid (rvalid_c h)
  clear h
  go_enter Tryz.func23, Tryz.ntmps23
  go_wp2_with fail
  refine Calls.mono CV.out ?_
  rintro e V ⟨rfl, hW⟩
  subst V
  go_wp2_with fail
  go_returns
  exact ⟨rfl, rfl⟩
theorem rget_c {w : World} {F : Nat → Prop} {p : Nat} {sl : List SlotR} {rs : List RS} {z : Nat} {vs vl vr : Value} {k : Nat} {r : RS} (h : RTb w F p sl rs z vs vl vr) (hk : rs[k]? = some r) : Ret 32 #[ptr p, .int .i64 ((k : Int) + 1)] w (.tuple #[resV k r, .int .i64 0]) := by
  have hkl := (List.getElem?_eq_some_iff.1 hk).1
  have hm := h.most
  obtain ⟨g, c, rfl, hg, _, hc8⟩ := h.res hk
  obtain ⟨c0, c1, c2, c3, c4, c5, c6, c7⟩ := res_eight hc8
  have rp := h.row
  have e1 : IntKind.i64.wrap ((k : Int) + 1 - 1) = (k : Int) := by rw [show (k : Int) + 1 - 1 = k by omega]; exact IntWalk.i64_in _ ⟨by omega, by omega⟩
  have k0 : (0 : Int) ≤ (k : Int) := by omega
  have k1 : (k : Int) < (rs.length : Int) := by omega
  generalize rs.length = N at *
  have hrV : resV k r = .agg #[.int .i64 1, .int .i64 k, .int .u32 1, .int .i64 r.st, .int .i64 (whyS r.st), .int .i64 r.tr, .int .i64 r.nx, .string tagB] := rfl
  rw [hrV]
  generalize whyS r.st = wy at *
  clear hrV hc8 h hk
  go_enter Tryz.func32, Tryz.ntmps32
  go_upto_region 1 with fail
  have hb := below_alloc w (.cells #[.int .i64 0, .int .i64 0, .int .u32 0, .int .i64 0, .int .i64 0, .int .i64 0, .int .i64 0, .string ⟨#[]⟩] RrT)
  have r1 := Row.new (W := w) (cs := #[.int .i64 0, .int .i64 0, .int .u32 0, .int .i64 0, .int .i64 0, .int .i64 0, .int .i64 0, .string ⟨#[]⟩]) (t := RrT)
  have hgw := block_lt_of_cell (a := ⟨g, k * 8, none⟩) c0
  replace rp := rp.on hb
  replace c0 := keep_cell hb hgw c0
  replace c1 := keep_cell hb hgw c1
  replace c2 := keep_cell hb hgw c2
  replace c3 := keep_cell hb hgw c3
  replace c4 := keep_cell hb hgw c4
  replace c5 := keep_cell hb hgw c5
  replace c6 := keep_cell hb hgw c6
  replace c7 := keep_cell hb hgw c7
  generalize w.alloc _ = V at *
  have CK := Lib.hid (rnumber_c rp (show k < N by omega))
  go_wp2_with fail
  refine Calls.mono CK.out ?_
  rintro e V1 ⟨rfl, hW⟩
  subst V1
  have y1 := rp.cell
  have z1 := rp.lt
  have y2 := r1.cell
  have f2 := r1.free
  have z2 := r1.lt
  clear CK
  go_wp2_with fail
  refine bodyPost_ret (v := .tuple #[.agg #[.int .i64 1, .int .i64 k, .int .u32 1, .int .i64 r.st, .int .i64 wy, .int .i64 r.tr, .int .i64 r.nx, .string tagB], .int .i64 0]) (by simp [results, Tryz.results32, go_sem, y2, z2]) rfl ⟨rfl, ?_⟩
  refine Below.setCell ?_ (by simp) _
  refine Below.setCell ?_ (by simp) _
  refine Below.setCell ?_ (by simp) _
  refine Below.setCell ?_ (by simp) _
  refine Below.setCell ?_ (by simp) _
  refine Below.setCell ?_ (by simp) _
  refine Below.setCell ?_ (by simp) _
  exact hb.setCell (by simp) _
theorem rnumbers_c {w : World} {F : Nat → Prop} {p : Nat} {sl : List SlotR} {rs : List RS} {z : Nat} {vs vl vr : Value} (s : Int) (h : RTb w F p sl rs z vs vl vr) : Calls Tryz.prog 22 #[ptr p, .int .i64 s] w fun e w' => ∃ a c, e = .returned (.slice a (cntS rs s) c) ∧ Below w.heap.size w w' := by
  obtain ⟨i0, hi, hz0, hz1, hz2⟩ := info_parts int_infoT
  have HI0 := Lib.hid hi
  have HZ0 := Lib.hid hz0
  have HZ1 := Lib.hid hz1
  have HZ2 := Lib.hid hz2
  clear hi hz0 hz1 hz2
  have HH := Lib.hid h
  obtain ⟨a, c, rfl⟩ := h.rlist
  have hm := h.most
  have CV := Lib.hid (fun W' (hb : Below w.heap.size w W') => rvalid_c (h.on hb).row)
  clear h
  have hc := Below.refl w.heap.size w
  obtain ⟨N, hN⟩ : ∃ N, rs.length = N := ⟨_, rfl⟩
  rw [hN] at hm HH
  have HN := Lib.hid hN
  clear hN
  go_enter Tryz.func22, Tryz.ntmps22
  go_wp2_with fail
  go_loopw [5, 6] (fun ov iv wr => ∃ (j : Nat) (q : List (List Value)), j ≤ N ∧ iv = .int .i64 j ∧ OwnsC 3 1 w.heap.size wr ov q ∧ q.length = cntS (rs.take j) s ∧ Below w.heap.size w wr) (fun _ iv _ => N - (intOf iv).toNat)
  case atStart => exact ⟨0, [], by omega, rfl, OwnsC.nil _ _ _ _, rfl, hc⟩
  case round =>
    clear hc
    obtain ⟨j, q, hj, rfl, hq, hql, hc⟩ := hrel
    have hT := HH.out.on hc
    have y1 := hT.row.cell
    have z1 := hT.row.lt
    have hqn : q.length ≤ 100 := by
      rw [hql]
      have : cntS (rs.take j) s ≤ (rs.take j).length := List.countP_le_length
      rw [List.length_take] at this
      omega
    by_cases hlt : j < N
    · obtain ⟨r, hr⟩ : ∃ r, rs[j]? = some r := ⟨_, List.getElem?_eq_getElem (by have := HN.out; omega)⟩
      obtain ⟨g, c', hv, hg, _, hc8⟩ := hT.res hr
      injection hv with hv1 hv2 hv3
      subst hv1
      subst hv3
      obtain ⟨c0, c1, c2, c3, c4, c5, c6, c7⟩ := res_eight hc8
      have hcn := cntS_take hr s
      rw [← hql] at hcn
      have j0 : (0 : Int) ≤ (j : Int) := by omega
      have j1 : (j : Int) < (N : Int) := by omega
      have HCN := Lib.hid hcn
      have HQ := Lib.hid hq
      obtain ⟨ao, co, rfl⟩ := hq.len
      have HQN := Lib.hid hqn
      clear hcn hql hv2 hc8 hr hq hqn hT
      obtain ⟨qn, hqn⟩ : ∃ n, q.length = n := ⟨_, rfl⟩
      rw [hqn] at HCN HQN HQ ⊢
      have HQL := Lib.hid hqn
      clear hqn c0 c1 c2 c4 c5 c6 c7
      generalize hst : r.st = st at *
      clear hst
      by_cases hs : st = s
      · subst hs
        go_wp2_with fail
        refine Calls.mono (CV.out _ hc) ?_
        rintro e V2 ⟨rfl, hW⟩
        subst V2
        go_upto_region 6 with fail
        have e1 : IntKind.i64.wrap ((j : Int) + 1) = (j : Int) + 1 := IntWalk.i64_in _ ⟨by omega, by omega⟩
        have kx := below_alloc wr (.cells #[.int .i64 ((j : Int) + 1)] 3)
        have hsrc := row_src wr #[.int .i64 ((j : Int) + 1)] 3
        have hq2 := (HQ.out.on kx).2
        rw [HQL.out] at hq2
        have HQ2 := Lib.hid hq2
        have HSRC := Lib.hid hsrc
        have HB := Lib.hid (chain hc kx)
        have HX := Lib.hid (Nat.le_trans hc.size kx.size)
        clear kx hsrc hq2 hc
        go_wp2_with (at_builtin; refine wpList_append_own _ rfl _ _ 38 rfl w.heap.size 3 i0 (.int .i64 0) 1 8 Tryz.underlying38 HI0.out HZ0.out HZ1.out HZ2.out rfl (by decide) _ qn q.flatten rfl HQ2.out ⟨wr.heap.size, 0, none⟩ 1 1 [.int .i64 ((j : Int) + 1)] rfl rfl HSRC.out (by intro u hu; rw [List.mem_singleton.1 hu]; rfl) (by have := HQN.out; unfold maxLen; omega) (by have := HQN.out; omega) HX.out ?_; intro v' w1 hown' hgrow hnil; have HOWN := Lib.hid hown'; have HGR := Lib.hid hgrow; clear hown' hgrow hnil)
        go_roundw
        case rel =>
          rw [if_pos trivial] at HCN
          exact ⟨j + 1, q ++ [[.int .i64 ((j : Int) + 1)]], by omega, by go_num, OwnsC.more HQ.out rfl (by rw [HQL.out]) HOWN.out, by rw [List.length_append, HCN.out, HQL.out]; rfl, HB.out.grown HGR.out (by have := HB.out.size; omega) (fun k hk => (World.ownsRow.lt HQ2.out k hk).1)⟩
        case measure => simp [intOf]; omega
      · have hs2 : (st == s) = false := by simpa using hs
        rw [if_neg hs] at HCN
        clear hs
        go_wp2_with fail
        refine Calls.mono (CV.out _ hc) ?_
        rintro e V2 ⟨rfl, hW⟩
        subst V2
        go_wp2_with fail
        go_roundw
        case rel => exact ⟨j + 1, q, by omega, by go_num, HQ.out, by rw [HCN.out, HQL.out]; rfl, hc⟩
        case measure => simp [intOf]; omega
    · obtain rfl : j = N := by omega
      rw [List.take_of_length_le (Nat.le_of_eq HN.out)] at hql
      obtain ⟨ao, co, rfl⟩ := hq.len
      have HQL := Lib.hid hql
      generalize q.length = M at *
      clear hq hqn hql hT
      go_wp2_with fail
      refine Calls.mono (CV.out _ hc) ?_
      rintro e V2 ⟨rfl, hW⟩
      subst V2
      go_wp2_with fail
      go_returns
      exact ⟨_, _, by rw [HQL.out]; rfl, hc⟩
end Go.Proofs.YtkjpdciccablpaaGreatDoor

/- The reference's table (chapter 37): New, object, has, find, Descs. -/
namespace Go.Proofs.YtkjpdciccablpaaGreatDoor
open Go.RowKit
set_option linter.unusedVariables false
set_option linter.unusedSimpArgs false
set_option maxHeartbeats 16000000
set_option maxRecDepth 20000
theorem rtnew_c (w : World) : Calls Tryz.prog 15 #[.int .i64 64, .int .u32 1] w fun e w' => ∃ p, e = .returned (.tuple #[ptr p, .int .i64 0]) ∧ RTab w' (FreshL w w') p emptyT.sl [] ∧ Below w.heap.size w w' := by
  go_enter Tryz.func15, Tryz.ntmps15
  go_wp2_with fail
  refine Calls.mono (rs_new _) ?_
  rintro e V ⟨z, vs, rfl, hz, hc⟩
  have HZ := Lib.hid hz
  have HC := Lib.hid hc
  clear hz hc
  go_wp2_with fail
  go_returns
  have hb := below_alloc V (.cells #[ptr z, .slice none 0 0, .slice none 0 0] RtT)
  have rp := Row.new (W := V) (cs := #[ptr z, .slice none 0 0, .slice none 0 0]) (t := RtT)
  have hB := chain HC.out hb
  have hsz := hb.size
  have hlt := rp.lt
  have hcs := HC.out.size
  have hG : ∀ b, FreshL w V b → FreshL w (V.alloc (.cells #[ptr z, .slice none 0 0, .slice none 0 0] RtT)) b := fun b hb => ⟨hb.1, Nat.lt_of_lt_of_le hb.2 hsz⟩
  have hen : enL 0 emptyT.sl = [] := by
    cases h : enL 0 emptyT.sl with
    | nil => rfl
    | cons c l =>
      obtain ⟨i, g, k, _, _, _, h5⟩ := enL_mem emptyT.sl 0 (c := c) (by rw [h]; simp)
      have := List.eq_of_mem_replicate (List.mem_of_getElem? h5)
      cases this
  refine ⟨_, rfl, ⟨z, vs, .slice none 0 0, .slice none 0 0, ?_⟩, hB⟩
  exact {
    row := rp
    rsl := (HZ.out.on hb).wide hG (fun b hb => hb.2)
    el := by rw [hen]; exact OwnsC.nil _ _ _ _
    rl := OwnsC.nil _ _ _ _
    fp := ⟨hcs, hlt⟩
    fl := fun b hb => by cases hb
    fr := fun b hb => by cases hb
    most := by simp
    gens := fun s hs => by
      have := List.eq_of_mem_replicate hs
      subst this
      exact ⟨by decide, by decide⟩
    owns := fun i s k hi hk => by
      have := List.eq_of_mem_replicate (List.mem_of_getElem? hi)
      subst this
      cases hk }
theorem robject_c (n : Nat) (hn : n < 256) (w : World) : Ret 58 #[.agg #[.int .i64 n, .int .u32 1]] w (.bool true) := by
  have n0 : ((n : Int) ≥ 0) := by omega
  have n1 : ((n : Int) < 256) := by omega
  go_enter Tryz.func58, Tryz.ntmps58
  go_wp2_with fail
  go_returns
  exact ⟨rfl, by go_grown⟩
/-- The entry at an index of the list. -/
theorem en_six {W : World} {v : Value} {L : List (List Value)} (h : OwnsC RenT 6 0 W v L) {j i k : Nat} {g : Int} (hj : L[j]? = some (enC i g k)) : ∃ b c, v = .slice (some ⟨b, 0, none⟩) L.length c ∧ b < W.heap.size ∧ W.cell? ⟨b, j * 6, none⟩ = some (.int .i64 1) ∧ W.cell? ⟨b, j * 6 + 1, none⟩ = some (.int .i64 i) ∧ W.cell? ⟨b, j * 6 + 2, none⟩ = some (.int .u32 g) ∧ W.cell? ⟨b, j * 6 + 3, none⟩ = some (.int .i64 ((k : Int) + 1)) ∧ W.cell? ⟨b, j * 6 + 4, none⟩ = some (.int .i64 k) ∧ W.cell? ⟨b, j * 6 + 5, none⟩ = some (.int .u32 1) := by
  obtain ⟨b, c, e, hb, h6⟩ := h.cells hj
  exact ⟨b, c, e, hb, h6 0 (by omega), h6 1 (by omega), h6 2 (by omega), h6 3 (by omega), h6 4 (by omega), h6 5 (by omega)⟩
theorem row_nth {W : World} {x : Nat} {cs : Array Value} {t : TypeId} (h : Row W x cs t) (n : Nat) : Row (W.drewN n) x cs t := ⟨h.eq⟩
theorem rhas_c {w : World} {F : Nat → Prop} {p : Nat} {sl : List SlotR} {rs : List RS} {z : Nat} {vs vl vr : Value} {n : Nat} (h : RTb w F p sl rs z vs vl vr) (hn : rs.length ≤ n) (hn2 : n < 256) : Ret 59 #[ptr p, .agg #[.int .i64 n, .int .u32 1]] w (.bool false) := by
  have HH := Lib.hid h
  obtain ⟨al, cl, hvl⟩ := h.el.len
  have hle := enL_len sl 0
  rw [h.rsl.len] at hle
  obtain ⟨M, hM⟩ : ∃ M, (enL 0 sl).length = M := ⟨_, rfl⟩
  rw [hM] at hvl hle
  subst hvl
  have HM := Lib.hid hM
  clear hM h
  have hc := below_alloc w (.cells #[.int .i64 n, .int .u32 1] RefT)
  have rb := Row.new (W := w) (cs := #[.int .i64 n, .int .u32 1]) (t := RefT)
  go_enter Tryz.func59, Tryz.ntmps59
  go_upto_region 1 with fail
  generalize w.alloc _ = V at *
  go_wp2_with fail
  go_loopw [5] (fun iv wr => ∃ j : Nat, j ≤ M ∧ iv = .int .i64 j ∧ Row wr w.heap.size #[.int .i64 n, .int .u32 1] RefT ∧ Below w.heap.size w wr) (fun iv _ => M - (intOf iv).toNat)
  case atStart => exact ⟨0, by omega, rfl, rb, hc⟩
  case round =>
    clear rb hc
    obtain ⟨j, hj, rfl, rb, hc⟩ := hrel
    have hT := HH.out.on hc
    have y1 := hT.row.cell
    have z1 := hT.row.lt
    by_cases hlt : j < M
    · have j0 : (0 : Int) ≤ (j : Int) := by omega
      have j1 : (j : Int) < (M : Int) := by omega
      obtain ⟨c, hc1⟩ : ∃ c, (enL 0 sl)[j]? = some c := ⟨_, List.getElem?_eq_getElem (by rw [HM.out]; exact hlt)⟩
      obtain ⟨i, g, k, rfl, _, _, h5⟩ := enL_mem sl 0 (List.mem_of_getElem? hc1)
      have hk := hT.owns _ _ k h5 rfl
      obtain ⟨b, cc, e, hb, c0, c1, c2, c3, c4, c5⟩ := en_six hT.el hc1
      injection e with e1 e2 e3
      subst e1
      have hne : ((k : Int) == (n : Int)) = false := by rw [beq_eq_false_iff_ne]; omega
      have yb := rb.cell
      have zb := rb.lt
      have HR := Lib.hid rb
      have HC := Lib.hid hc
      clear hT hc1 h5 e2 e3 rb hc c0 c1 c2 c3
      go_wp2_with fail
      go_quiet (fail)
      go_wp2_with fail
      go_roundw
      case rel => exact ⟨j + 1, by omega, by go_num, row_nth HR.out _, below_nth HC.out _⟩
      case measure => simp [intOf]; omega
    · obtain rfl : j = M := by omega
      clear hT
      go_wp2_with fail
      go_returns
      exact ⟨rfl, hc⟩
/-- Where a slot's entry stands in the list. -/
theorem en_place {sl : List SlotR} {i k : Nat} {g : Int} (hi : sl[i]? = some ⟨some k, g⟩) : (enL 0 sl)[(enL 0 (sl.take i)).length]? = some (enC i g k) := by
  rw [enL_cut hi, List.getElem?_append_right (Nat.le_refl _), Nat.sub_self]
  rfl
theorem en_before {sl : List SlotR} {i j : Nat} (hi : i < sl.length) (hj : j < (enL 0 (sl.take i)).length) : ∃ i' g k, (enL 0 sl)[j]? = some (enC i' g k) ∧ i' < i := by
  have e : enL 0 sl = enL 0 (sl.take i) ++ enL i (sl.drop i) := by
    have h1 := enL_app (sl.take i) (sl.drop i) 0
    rw [List.take_append_drop, List.length_take, Nat.min_eq_left (Nat.le_of_lt hi), Nat.zero_add] at h1
    exact h1
  obtain ⟨i', g, k, h2, _, h4, _⟩ := enL_mem (sl.take i) 0 (List.getElem_mem hj)
  refine ⟨i', g, k, ?_, by rw [List.length_take] at h4; omega⟩
  rw [e, List.getElem?_append_left hj, List.getElem?_eq_getElem hj, h2]
theorem en_after {sl : List SlotR} {i : Nat} {s : SlotR} (hi : sl[i]? = some s) (hs : s.own = none) {c : List Value} (hc : (enL 0 sl)[(enL 0 (sl.take i)).length]? = some c) : ∃ i' g k, c = enC i' g k ∧ i < i' := by
  have e0 : enS i s = [] := by unfold enS; rw [hs]
  rw [enL_cut hi, e0, List.nil_append, List.getElem?_append_right (Nat.le_refl _), Nat.sub_self] at hc
  obtain ⟨i', g, k, h2, h3, _⟩ := enL_mem _ _ (List.mem_of_getElem? hc)
  exact ⟨i', g, k, h2, by omega⟩
theorem rfind_c {w : World} {F : Nat → Prop} {p : Nat} {sl : List SlotR} {rs : List RS} {z : Nat} {vs vl vr : Value} {i k : Nat} {g : Int} (h : RTb w F p sl rs z vs vl vr) (hi : sl[i]? = some ⟨some k, g⟩) : Ret 67 #[ptr p, dV 1 i g] w (.tuple #[.int .i64 (((enL 0 (sl.take i)).length : Nat) : Int), .int .i64 0]) := by
  have hil := (List.getElem?_eq_some_iff.1 hi).1
  have h64 := h.rsl.len
  have hgen := h.gens _ (List.mem_of_getElem? hi)
  simp only at hgen
  have cd := fun W => rd_check 1 i g W (by omega)
  rw [dErr_ok (show dOk 256 1 i g = true by unfold dOk; simp; omega)] at cd
  have CD := Lib.hid cd
  have HH := Lib.hid h
  have HPL := Lib.hid (en_place hi)
  have HBE := Lib.hid (fun j => en_before (j := j) hil)
  obtain ⟨al, cl, hvl⟩ := h.el.len
  have hle := enL_len sl 0
  have hJ := (List.getElem?_eq_some_iff.1 (en_place hi)).1
  obtain ⟨J, hJe⟩ : ∃ J, (enL 0 (sl.take i)).length = J := ⟨_, rfl⟩
  rw [hJe] at HPL HBE hJ ⊢
  obtain ⟨M, hM⟩ : ∃ M, (enL 0 sl).length = M := ⟨_, rfl⟩
  rw [hM] at hvl hle hJ
  subst hvl
  have HM := Lib.hid hM
  clear hM h cd hi hJe
  have hc := below_alloc w (.cells #[.int .i64 1, .int .i64 i, .int .u32 g] 87)
  have rb := Row.new (W := w) (cs := #[.int .i64 1, .int .i64 i, .int .u32 g]) (t := 87)
  go_enter Tryz.func67, Tryz.ntmps67
  go_upto_region 1 with fail
  generalize w.alloc _ = V at *
  go_wp2_with fail
  refine Calls.mono (rvalid_c (HH.out.on hc).row) ?_
  rintro e V1 ⟨rfl, hW⟩
  subst V1
  have yb := rb.cell
  have zb := rb.lt
  go_wp2_with fail
  refine Calls.mono (CD.out _) ?_
  rintro e V1 ⟨rfl, hn⟩
  replace rb := rb.on hn
  replace hc := chain hc hn
  clear yb zb hn
  go_wp2_with fail
  go_loopw [6] (fun iv wr => ∃ j : Nat, j ≤ J ∧ iv = .int .i64 j ∧ Row wr w.heap.size #[.int .i64 1, .int .i64 i, .int .u32 g] 87 ∧ Below w.heap.size w wr) (fun iv _ => J - (intOf iv).toNat)
  case atStart => exact ⟨0, by omega, rfl, rb, hc⟩
  case round =>
    clear rb hc
    obtain ⟨j, hj, rfl, rb, hc⟩ := hrel
    have hT := HH.out.on hc
    have y1 := hT.row.cell
    have z1 := hT.row.lt
    have j0 : (0 : Int) ≤ (j : Int) := by omega
    have j1 : (j : Int) < (M : Int) := by omega
    by_cases hlt : j < J
    · obtain ⟨i', g', k', hc1, hne'⟩ := HBE.out j hlt
      obtain ⟨b, cc, e, hb, c0, c1, c2, c3, c4, c5⟩ := en_six hT.el hc1
      injection e with e1 e2 e3
      subst e1
      have hne : ((i' : Int) == (i : Int)) = false := by rw [beq_eq_false_iff_ne]; omega
      have yb := rb.cell
      have zb := rb.lt
      have HR := Lib.hid rb
      have HC := Lib.hid hc
      clear hT hc1 e2 e3 rb hc c3 c4 c5
      go_wp2_with fail
      go_quiet (fail)
      go_wp2_with fail
      go_roundw
      case rel => exact ⟨j + 1, by omega, by go_num, row_nth HR.out _, below_nth HC.out _⟩
      case measure => simp [intOf]; omega
    · obtain rfl : j = J := by omega
      obtain ⟨b, cc, e, hb, c0, c1, c2, c3, c4, c5⟩ := en_six hT.el HPL.out
      injection e with e1 e2 e3
      subst e1
      have yb := rb.cell
      have zb := rb.lt
      have HC := Lib.hid hc
      clear hT e2 e3 rb hc c3 c4 c5
      go_wp2_with fail
      go_quiet (fail)
      go_wp2_with fail
      go_returns
      exact ⟨rfl, below_nth HC.out _⟩
theorem descT_info : (Tryz.prog.info? 87).map (fun i => (i.zero, i.size, i.bytes)) = some (some (.agg #[.int .i64 0, .int .i64 0, .int .u32 0]), 3, 24) := by kernel_rfl
theorem rdescs_c {w : World} {F : Nat → Prop} {p : Nat} {sl : List SlotR} {rs : List RS} {z : Nat} {vs vl vr : Value} {n : Nat} (h : RTb w F p sl rs z vs vl vr) (hn : n < rs.length) :
    Calls Tryz.prog 69 #[ptr p, .int .i64 ((n : Int) + 1)] w fun e w' => ∃ a q c, e = .returned (.tuple #[.slice a q c, .int .i64 0]) ∧ ((∀ (i k : Nat) (g : Int), sl[i]? = some ⟨some k, g⟩ → k ≠ n) → q = 0) ∧ Below w.heap.size w w' := by
  obtain ⟨i0, hi, hz0, hz1, hz2⟩ := info_parts descT_info
  have HI0 := Lib.hid hi
  have HZ0 := Lib.hid hz0
  have HZ1 := Lib.hid hz1
  have HZ2 := Lib.hid hz2
  clear hi hz0 hz1 hz2
  have HH := Lib.hid h
  have hm := h.most
  obtain ⟨ar, cr, hvr⟩ := h.rlist
  obtain ⟨al, cl, hvl⟩ := h.el.len
  have hle := enL_len sl 0
  rw [h.rsl.len] at hle
  obtain ⟨M, hM⟩ : ∃ M, (enL 0 sl).length = M := ⟨_, rfl⟩
  rw [hM] at hvl hle
  subst hvl
  subst hvr
  have HM := Lib.hid hM
  have CN := Lib.hid (rnumber_c h.row hn)
  clear hM h
  have hc := Below.refl w.heap.size w
  go_enter Tryz.func69, Tryz.ntmps69
  go_wp2_with fail
  refine Calls.mono CN.out ?_
  rintro e V1 ⟨rfl, hW⟩
  subst V1
  clear CN
  go_wp2_with fail
  go_loopw [7, 8] (fun ov iv wr => ∃ (j : Nat) (q : List (List Value)), j ≤ M ∧ iv = .int .i64 j ∧ OwnsC 87 3 w.heap.size wr ov q ∧ q.length ≤ j ∧ ((∀ (i k : Nat) (g : Int), sl[i]? = some ⟨some k, g⟩ → k ≠ n) → q.length = 0) ∧ Below w.heap.size w wr) (fun _ iv _ => M - (intOf iv).toNat)
  case atStart => exact ⟨0, [], by omega, rfl, OwnsC.nil _ _ _ _, Nat.le_refl _, fun _ => rfl, hc⟩
  case round =>
    clear hc
    obtain ⟨j, q, hj, rfl, hq, hqj, hq0, hc⟩ := hrel
    have hT := HH.out.on hc
    have y1 := hT.row.cell
    have z1 := hT.row.lt
    have HQ0 := Lib.hid hq0
    have HQ := Lib.hid hq
    obtain ⟨ao, co, rfl⟩ := hq.len
    clear hq hq0
    obtain ⟨qn, hqn⟩ : ∃ n, q.length = n := ⟨_, rfl⟩
    rw [hqn] at HQ HQ0 hqj ⊢
    have HQL := Lib.hid hqn
    clear hqn
    by_cases hlt : j < M
    · have j0 : (0 : Int) ≤ (j : Int) := by omega
      have j1 : (j : Int) < (M : Int) := by omega
      obtain ⟨c, hc1⟩ : ∃ c, (enL 0 sl)[j]? = some c := ⟨_, List.getElem?_eq_getElem (by rw [HM.out]; exact hlt)⟩
      obtain ⟨i, g, k, rfl, _, _, h5⟩ := enL_mem sl 0 (List.mem_of_getElem? hc1)
      have H5 := Lib.hid h5
      obtain ⟨b, cc, e, hb, c0, c1, c2, c3, c4, c5⟩ := en_six hT.el hc1
      injection e with e1 e2 e3
      subst e1
      clear hT hc1 h5 e2 e3 c4 c5
      by_cases hkn : k = n
      · subst hkn
        go_upto_region 9 with fail
        have kx := below_alloc wr (.cells #[.int .i64 1, .int .i64 i, .int .u32 g] 87)
        have hsrc := row_src wr #[.int .i64 1, .int .i64 i, .int .u32 g] 87
        have hq2 := (HQ.out.on kx).2
        rw [HQL.out] at hq2
        have HQ2 := Lib.hid hq2
        have HSRC := Lib.hid hsrc
        have HB := Lib.hid (chain hc kx)
        have HX := Lib.hid (Nat.le_trans hc.size kx.size)
        clear kx hsrc hq2 hc
        go_wp2_with (at_builtin; refine wpList_append_own _ rfl _ _ 37 rfl w.heap.size 87 i0 (.agg #[.int .i64 0, .int .i64 0, .int .u32 0]) 3 24 Tryz.underlying37 HI0.out HZ0.out HZ1.out HZ2.out rfl (by decide) _ qn q.flatten rfl HQ2.out ⟨wr.heap.size, 0, none⟩ 1 1 [.int .i64 1, .int .i64 i, .int .u32 g] rfl rfl HSRC.out (by intro u hu; simp only [List.mem_cons, List.not_mem_nil, or_false] at hu; rcases hu with rfl | rfl | rfl <;> rfl) (by unfold maxLen; omega) (by omega) HX.out ?_; intro v' w1 hown' hgrow hnil; have HOWN := Lib.hid hown'; have HGR := Lib.hid hgrow; clear hown' hgrow hnil)
        go_roundw
        case rel =>
          exact ⟨j + 1, q ++ [[.int .i64 1, .int .i64 i, .int .u32 g]], by omega, by go_num, OwnsC.more HQ.out rfl (by rw [HQL.out]) HOWN.out, by rw [List.length_append, HQL.out]; simp; omega, fun h => absurd rfl (h _ _ _ H5.out), HB.out.grown HGR.out (by have := HB.out.size; omega) (fun k hk => (World.ownsRow.lt HQ2.out k hk).1)⟩
        case measure => simp [intOf]; omega
      · have hs2 : ((k : Int) + 1 == (n : Int) + 1) = false := by rw [beq_eq_false_iff_ne]; omega
        go_wp2_with fail
        go_roundw
        case rel => exact ⟨j + 1, q, by omega, by go_num, HQ.out, by rw [HQL.out]; omega, fun h => by rw [HQL.out]; exact HQ0.out h, hc⟩
        case measure => simp [intOf]; omega
    · obtain rfl : j = M := by omega
      clear hT
      go_wp2_with fail
      go_returns
      exact ⟨ao, qn, co, rfl, HQ0.out, hc⟩
end Go.Proofs.YtkjpdciccablpaaGreatDoor

/- The reference's table (chapter 37): the list of entries, cut; the table behind add. -/
namespace Go.Proofs.YtkjpdciccablpaaGreatDoor
open Go.RowKit
set_option linter.unusedVariables false
set_option linter.unusedSimpArgs false
set_option maxHeartbeats 16000000
set_option maxRecDepth 20000
theorem ren_info : (Tryz.prog.info? 142).map (fun i => (i.zero, i.size, i.bytes)) = some (some (.agg #[.int .i64 0, .int .i64 0, .int .u32 0, .int .i64 0, .int .i64 0, .int .u32 0]), 6, 48) := by kernel_rfl
theorem enL_one {l : List SlotR} {o : Nat} : ∀ c ∈ enL o l, ∀ u ∈ c, u.oneCell' = true := by
  intro c hc u hu
  obtain ⟨i, g, k, rfl, _⟩ := enL_mem l o hc
  simp only [enC, List.mem_cons, List.not_mem_nil, or_false] at hu
  rcases hu with rfl | rfl | rfl | rfl | rfl | rfl <;> rfl
theorem en_free {sl : List SlotR} {i k : Nat} {g : Int} {s : SlotR} (hi : sl[i]? = some s) (hs : s.own = none) : ((enL 0 sl).take (enL 0 (sl.take i)).length ++ [enC i g k]) ++ (enL 0 sl).drop (enL 0 (sl.take i)).length = enL 0 (sl.set i ⟨some k, g⟩) := by
  have e0 : enS i s = [] := by unfold enS; rw [hs]
  have e1 : enS i ⟨some k, g⟩ = [enC i g k] := rfl
  rw [enL_cut hi, enL_set (List.getElem?_eq_some_iff.1 hi).1, e0, e1, List.nil_append, List.take_left, List.drop_left, List.append_assoc]
theorem en_gone {sl : List SlotR} {i k : Nat} {g g' : Int} (hi : sl[i]? = some ⟨some k, g⟩) : (enL 0 sl).take (enL 0 (sl.take i)).length ++ (enL 0 sl).drop ((enL 0 (sl.take i)).length + 1) = enL 0 (sl.set i ⟨none, g'⟩) := by
  have e1 : enS i ⟨some k, g⟩ = [enC i g k] := rfl
  have e0 : enS i ⟨none, g'⟩ = [] := rfl
  rw [enL_cut hi, enL_set (List.getElem?_eq_some_iff.1 hi).1, e0, e1, List.nil_append, List.take_left, List.drop_append]
  simp
theorem RSl.narrow {W : World} {F : Nat → Prop} {z : Nat} {sl : List SlotR} {v : Value} (h : RSl W F z sl v) : RSl W (fun b => b = z ∨ v.ownBlock = some b) z sl v :=
  have hf : ∀ b, (b = z ∨ v.ownBlock = some b) → b < W.heap.size := fun b hb => by
    rcases hb with hb | hb
    · rw [hb]; exact h.row.lt
    · exact (h.own.lt b hb).2
  { row := h.row, own := h.own, len := h.len, fz := .inl rfl, fv := fun b hb => .inr hb, fin := hf }
/-- The slots' blocks are none of the others. -/
theorem RTb.apart {w : World} {F : Nat → Prop} {p : Nat} {sl : List SlotR} {rs : List RS} {z : Nat} {vs vl vr : Value} (h : RTb w F p sl rs z vs vl vr) : ¬ (p = z ∨ vs.ownBlock = some p) ∧ (∀ b, vl.ownBlock = some b → ¬ (b = z ∨ vs.ownBlock = some b)) ∧ (∀ b, vr.ownBlock = some b → ¬ (b = z ∨ vs.ownBlock = some b)) := by
  refine ⟨?_, ?_, ?_⟩
  · rintro (e | e)
    · exact row_ne_row h.row h.rsl.row (by decide) e
    · exact h.rsl.own.ne_row h.row (by decide) e
  · rintro b hb (e | e)
    · exact h.el.ne_row h.rsl.row (by decide) (by rw [← e]; exact hb)
    · exact h.el.ne_own h.rsl.own (by decide) e hb
  · rintro b hb (e | e)
    · exact h.rl.ne_row h.rsl.row (by decide) (by rw [← e]; exact hb)
    · exact h.rl.ne_own h.rsl.own (by decide) e hb
theorem radd_end {w X2 Z : World} {F : Nat → Prop} {p : Nat} {sl : List SlotR} {rs : List RS} {z : Nat} {vs vl vr v18 : Value} {N i a6 : Nat} {sg : Int} (h : RTb w F p sl rs z vs vl vr) (hN : rs.length = N + 1) (hi : i < sl.length) (hg : 1 ≤ sg ∧ sg ≤ 1000)
    (hs : RSl X2 (fun b => b = z ∨ vs.ownBlock = some b) z (sl.set i ⟨some N, sg⟩) vs) (hbut : But (fun b => b = z ∨ vs.ownBlock = some b) w X2) (ha : w.heap.size ≤ a6) {cs6 : Array Value} (r6 : Row Z a6 cs6 87) (hr : Row Z p #[ptr z, v18, vr] RtT)
    (ho : OwnsC RenT 6 w.heap.size Z v18 (enL 0 (sl.set i ⟨some N, sg⟩))) (hb : But (fun b => b = p ∨ b = a6) X2 Z) (u0 u1 u2 : Value) :
    RTab (((Z.setCell ⟨a6, 0, none⟩ u0).setCell ⟨a6, 1, none⟩ u1).setCell ⟨a6, 2, none⟩ u2) (fun b => F b ∨ FreshL w (((Z.setCell ⟨a6, 0, none⟩ u0).setCell ⟨a6, 1, none⟩ u1).setCell ⟨a6, 2, none⟩ u2) b) p (sl.set i ⟨some N, sg⟩) rs ∧ But F w (((Z.setCell ⟨a6, 0, none⟩ u0).setCell ⟨a6, 1, none⟩ u1).setCell ⟨a6, 2, none⟩ u2) := by
  have hap := h.apart
  have hpw := h.fin p h.fp
  have hGF : ∀ b, (b = z ∨ vs.ownBlock = some b) → F b := fun b hb => by
    rcases hb with hb | hb
    · rw [hb]; exact h.rsl.fz
    · exact h.rsl.fv b hb
  have hb2 := ((hb.setCell (y := a6) (fun _ => .inr rfl) 0 u0).setCell (y := a6) (fun _ => .inr rfl) 1 u1).setCell (y := a6) (fun _ => .inr rfl) 2 u2
  have n6 : a6 ≠ p := by omega
  have hr2 := ((hr.other n6 0 u0).other n6 1 u1).other n6 2 u2
  have m1 : v18.ownBlock ≠ some a6 := ho.ne_row r6 (by decide)
  have ho2 := ((ho.other m1 0 u0).other m1 1 u1).other m1 2 u2
  have hall : But (fun b => (b = z ∨ vs.ownBlock = some b) ∨ b = p) w (((Z.setCell ⟨a6, 0, none⟩ u0).setCell ⟨a6, 1, none⟩ u1).setCell ⟨a6, 2, none⟩ u2) := (hbut.wide (fun b hb => .inl hb)).trans hb2 (fun i hi h => by
    rcases h with h | h
    · exact .inr h
    · omega)
  generalize World.setCell _ _ _ = Y at *
  have hG : ∀ b, (F b ∨ FreshL w Y b) → b < Y.heap.size := fun b hb => by
    rcases hb with hb | hb
    · exact Nat.lt_of_lt_of_le (h.fin b hb) hall.size
    · exact hb.2
  have hs2 := hs.but hb2 (fun b hb h6 => by
    rcases h6 with h6 | h6
    · exact hap.1 (by rw [← h6]; exact hb)
    · have := h.fin b (hGF b hb)
      omega)
  refine ⟨⟨z, vs, v18, vr, {
    row := hr2
    rsl := hs2.wide (fun b hb => .inl (hGF b hb)) hG
    el := ho2.base (Nat.zero_le _)
    rl := h.rl.via (fun k hk => hall.block k (h.rl.lt k hk).2 (fun e => by
      rcases e with e | e
      · exact hap.2.2 k hk e
      · exact h.rl.ne_row h.row (by decide) (by rw [← e]; exact hk)))
    fp := .inl h.fp
    fl := fun b hb => .inr (ho2.lt b hb)
    fr := fun b hb => .inl (h.fr b hb)
    most := h.most
    gens := fun x hx => by
      rcases List.mem_or_eq_of_mem_set hx with h1 | h1
      · exact h.gens x h1
      · rw [h1]; exact hg
    owns := fun j x k hj hk => by
      rw [List.getElem?_set] at hj
      split at hj
      · rename_i hij
        first
          | rw [if_pos (by rw [← hij]; exact hi)] at hj
          | skip
        cases hj
        cases hk
        omega
      · exact h.owns j x k hj hk }⟩, hall.wide (fun b hb => by
    rcases hb with hb | hb
    · exact hGF b hb
    · rw [hb]; exact h.fp)⟩
theorem enL_oneC (i N : Nat) (sg : Int) : ∀ u ∈ (#[.int .i64 1, .int .i64 i, .int .u32 sg, .int .i64 ((N : Int) + 1), .int .i64 N, .int .u32 1] : Array Value).toList, u.oneCell' = true := by
  intro u hu
  simp only [List.mem_cons, List.not_mem_nil, or_false] at hu
  rcases hu with rfl | rfl | rfl | rfl | rfl | rfl <;> rfl
end Go.Proofs.YtkjpdciccablpaaGreatDoor

/- The reference's table (chapter 37): Close. -/
namespace Go.Proofs.YtkjpdciccablpaaGreatDoor
open Go.RowKit
set_option linter.unusedVariables false
set_option linter.unusedSimpArgs false
set_option maxHeartbeats 16000000
set_option maxRecDepth 20000
/-- A table whose slots and list have turned. -/
theorem rt_mk {w X2 Z : World} {F : Nat → Prop} {p : Nat} {sl sl' : List SlotR} {rs : List RS} {z : Nat} {vs vl vr v18 : Value} (h : RTb w F p sl rs z vs vl vr)
    (hs : RSl X2 (fun b => b = z ∨ vs.ownBlock = some b) z sl' vs) (hbut : But (fun b => b = z ∨ vs.ownBlock = some b) w X2) (hr : Row Z p #[ptr z, v18, vr] RtT)
    (ho : OwnsC RenT 6 w.heap.size Z v18 (enL 0 sl')) (hb : But (fun b => b = p) X2 Z) (hg : ∀ s ∈ sl', 1 ≤ s.gen ∧ s.gen ≤ 1000) (hw : ∀ (i : Nat) (s : SlotR) (k : Nat), sl'[i]? = some s → s.own = some k → k < rs.length) :
    RTb Z (fun b => F b ∨ FreshL w Z b) p sl' rs z vs v18 vr ∧ But F w Z := by
  have hap := h.apart
  have hGF : ∀ b, (b = z ∨ vs.ownBlock = some b) → F b := fun b hb => by
    rcases hb with hb | hb
    · rw [hb]; exact h.rsl.fz
    · exact h.rsl.fv b hb
  have hall : But (fun b => (b = z ∨ vs.ownBlock = some b) ∨ b = p) w Z := (hbut.wide (fun b hb => .inl hb)).trans hb (fun i hi h => .inr h)
  have hG : ∀ b, (F b ∨ FreshL w Z b) → b < Z.heap.size := fun b hb => by
    rcases hb with hb | hb
    · exact Nat.lt_of_lt_of_le (h.fin b hb) hall.size
    · exact hb.2
  have hs2 := hs.but hb (fun b hb h6 => hap.1 (by rw [← h6]; exact hb))
  refine ⟨{
    row := hr
    rsl := hs2.wide (fun b hb => .inl (hGF b hb)) hG
    el := ho.base (Nat.zero_le _)
    rl := h.rl.via (fun k hk => hall.block k (h.rl.lt k hk).2 (fun e => by
      rcases e with e | e
      · exact hap.2.2 k hk e
      · exact h.rl.ne_row h.row (by decide) (by rw [← e]; exact hk)))
    fp := .inl h.fp
    fl := fun b hb => .inr (ho.lt b hb)
    fr := fun b hb => .inl (h.fr b hb)
    most := h.most
    gens := hg
    owns := hw }, hall.wide (fun b hb => by
    rcases hb with hb | hb
    · exact hGF b hb
    · rw [hb]; exact h.fp)⟩
theorem rtclose_c {w : World} {F : Nat → Prop} {p : Nat} {sl : List SlotR} {rs : List RS} {z : Nat} {vs vl vr : Value} {i k : Nat} {g : Int} (h : RTb w F p sl rs z vs vl vr) (hi : sl[i]? = some ⟨some k, g⟩) (hg9 : g ≤ 900) :
    Calls Tryz.prog 34 #[ptr p, dV 1 i g] w fun e w' => (∃ b, e = .returned (.tuple #[.int .i64 ((k : Int) + 1), .bool b, .int .i64 0])) ∧ RTab w' (fun b => F b ∨ FreshL w w' b) p (sl.set i ⟨none, g + 1⟩) rs ∧ But F w w' := by
  obtain ⟨i0, hi0, hz0, hz1, hz2⟩ := info_parts ren_info
  have HI0 := Lib.hid hi0
  have HZ0 := Lib.hid hz0
  have HZ1 := Lib.hid hz1
  have HZ2 := Lib.hid hz2
  clear hi0 hz0 hz1 hz2
  have hil := (List.getElem?_eq_some_iff.1 hi).1
  have h64 := h.rsl.len
  have hm := h.most
  have hkl := h.owns i _ k hi rfl
  have hgen := h.gens _ (List.mem_of_getElem? hi)
  simp only at hgen
  have HH := Lib.hid h
  have HAP := Lib.hid h.apart
  have HEF := Lib.hid (en_gone (g' := g + 1) hi)
  have HPL := Lib.hid (en_place hi)
  have CF := Lib.hid (fun W (hb : Below w.heap.size w W) => rfind_c (h.on hb) hi)
  have CG := Lib.hid (fun W (hb : Below w.heap.size w W) => rs_give ((h.rsl.on hb).narrow) hi hgen.1 hgen.2)
  have hle := enL_len sl 0
  have hJM := (List.getElem?_eq_some_iff.1 (en_place hi)).1
  obtain ⟨a1, c1, hvl⟩ := h.el.len
  obtain ⟨M, hM⟩ : ∃ M, (enL 0 sl).length = M := ⟨_, rfl⟩
  obtain ⟨J, hJ⟩ : ∃ J, (enL 0 (sl.take i)).length = J := ⟨_, rfl⟩
  rw [hM] at hJM hle hvl
  subst hvl
  rw [hJ] at hJM HEF HPL CF
  have HM := Lib.hid hM
  have HIX := Lib.hid hi
  clear hi h hM hJ
  have eJ : IntKind.i64.wrap ((J : Int) + 1) = (J : Int) + 1 := IntWalk.i64_in _ ⟨by omega, by omega⟩
  have j0 : (0 : Int) ≤ (J : Int) := by omega
  have j1 : (J : Int) < (M : Int) := by omega
  go_enter Tryz.func34, Tryz.ntmps34
  go_upto_region 1 with fail
  have hc := below_alloc w (.cells #[.int .i64 1, .int .i64 i, .int .u32 g] 87)
  have r3 := Row.new (W := w) (cs := #[.int .i64 1, .int .i64 i, .int .u32 g]) (t := 87)
  generalize w.alloc _ = V1 at *
  have y3 := r3.cell
  have z3 := r3.lt
  go_wp2_with fail
  refine Calls.mono (CF.out _ hc) ?_
  rintro e V2 ⟨rfl, hn⟩
  replace r3 := r3.on hn
  replace hc := chain hc hn
  clear hn y3 z3 CF
  have rp := HH.out.row.on hc
  have yp := rp.cell
  have zp := rp.lt
  obtain ⟨b, cc, e, hb, c0, c1', c2', c3', c4, c5⟩ := en_six (HH.out.on hc).el HPL.out
  injection e with e1 e2 e3
  subst e1
  clear e2 e3 c0 c1' c2' c4 c5
  go_upto_region 5 with fail
  clear c3' yp zp
  refine wp_region_held_drew (S := fun W' => (∀ j, W'.cell? ⟨p, j, none⟩ = (#[ptr z, .slice (some ⟨b, 0, none⟩) M c1, vr] : Array Value)[j]?) ∧ (∀ j, W'.cell? ⟨w.heap.size, j, none⟩ = (#[.int .i64 1, .int .i64 i, .int .u32 g] : Array Value)[j]?)) (by kernel_rfl) ⟨rp.cell, r3.cell⟩ (fun hHeld => ?_)
  replace rp := rp.drew
  replace r3 := r3.drew
  replace hc := hc.drew
  generalize V2.drew = V3 at *
  refine' wpAnyH_take (i := 0) (oi := _) (v := _) ?_ (by kernel_rfl) (by kernel_rfl) (by kernel_rfl) ?_ (Or.inl ⟨?_, ?_⟩) (by assumption) ?_
  rotate_left 2
  · (simp only [List.getElem?_toArray, List.getElem?_cons_succ, List.getElem?_cons_zero]; rfl)
  · first | exact fun _ _ _ h => h | exact fun _ _ _ h => nomatch h.1
  · rfl
  · (intro W hSW; (try dsimp only at hSW); go_split_ands; first | (go_simp; done) | (go_simp; with_reducible rfl))
  try simp only [Act.put, List.setIfInBounds_toArray, List.set_cons_zero, List.set_cons_succ]
  refine' wpAnyH_take (i := 1) (oi := _) (v := _) ?_ (by kernel_rfl) (by kernel_rfl) (by kernel_rfl) ?_ (Or.inl ⟨?_, ?_⟩) (by assumption) ?_
  rotate_left 2
  · (simp only [List.getElem?_toArray, List.getElem?_cons_succ, List.getElem?_cons_zero]; rfl)
  · first | exact fun _ _ _ h => h | exact fun _ _ _ h => nomatch h.1
  · rfl
  · (intro W hSW; (try dsimp only at hSW); go_split_ands; first | (go_simp; done) | (go_simp; with_reducible rfl))
  try simp only [Act.put, List.setIfInBounds_toArray, List.set_cons_zero, List.set_cons_succ]
  refine' wpAnyH_take (i := 2) (oi := _) (v := _) ?_ (by kernel_rfl) (by kernel_rfl) (by kernel_rfl) ?_ (Or.inl ⟨?_, ?_⟩) (by assumption) ?_
  rotate_left 2
  · (simp only [List.getElem?_toArray, List.getElem?_cons_succ, List.getElem?_cons_zero]; rfl)
  · first | exact fun _ _ _ h => h | exact fun _ _ _ h => nomatch h.1
  · rfl
  · (intro W hSW; (try dsimp only at hSW); go_split_ands; first | (go_simp; done) | (go_simp; with_reducible rfl))
  try simp only [Act.put, List.setIfInBounds_toArray, List.set_cons_zero, List.set_cons_succ]
  refine' wpAnyH_take (i := 3) (oi := _) (v := _) ?_ (by kernel_rfl) (by kernel_rfl) (by kernel_rfl) ?_ (Or.inl ⟨?_, ?_⟩) (by assumption) ?_
  rotate_left 2
  · (simp only [List.getElem?_toArray, List.getElem?_cons_succ, List.getElem?_cons_zero]; rfl)
  · first | exact fun _ _ _ h => h | exact fun _ _ _ h => nomatch h.1
  · rfl
  · (intro W hSW; (try dsimp only at hSW); go_split_ands; first | (go_simp; done) | (go_simp; with_reducible rfl))
  try simp only [Act.put, List.setIfInBounds_toArray, List.set_cons_zero, List.set_cons_succ]
  refine' wpAnyH_take (i := 4) (oi := _) (v := _) ?_ (by kernel_rfl) (by kernel_rfl) (by kernel_rfl) ?_ (Or.inl ⟨?_, ?_⟩) (by assumption) ?_
  rotate_left 2
  · (simp only [List.getElem?_toArray, List.getElem?_cons_succ, List.getElem?_cons_zero]; rfl)
  · first | exact fun _ _ _ h => h | exact fun _ _ _ h => nomatch h.1
  · rfl
  · (intro W hSW; (try dsimp only at hSW); go_split_ands; first | (go_simp; done) | (go_simp; with_reducible rfl))
  try simp only [Act.put, List.setIfInBounds_toArray, List.set_cons_zero, List.set_cons_succ]
  refine' wpAnyH_take (i := 5) (oi := _) (v := _) ?_ (by kernel_rfl) (by kernel_rfl) (by kernel_rfl) ?_ (Or.inl ⟨?_, ?_⟩) (by assumption) ?_
  rotate_left 2
  · (simp only [List.getElem?_toArray, List.getElem?_cons_succ, List.getElem?_cons_zero]; rfl)
  · first | exact fun _ _ _ h => h | exact fun _ _ _ h => nomatch h.1
  · rfl
  · (intro W hSW; (try dsimp only at hSW); go_split_ands; first | (go_simp; done) | (go_simp; with_reducible rfl))
  try simp only [Act.put, List.setIfInBounds_toArray, List.set_cons_zero, List.set_cons_succ]
  refine' wpAnyH_take (i := 6) (oi := _) (v := _) ?_ (by kernel_rfl) (by kernel_rfl) (by kernel_rfl) ?_ (Or.inl ⟨?_, ?_⟩) (by assumption) ?_
  rotate_left 2
  · (simp only [List.getElem?_toArray, List.getElem?_cons_succ, List.getElem?_cons_zero]; rfl)
  · first | exact fun _ _ _ h => h | exact fun _ _ _ h => nomatch h.1
  · rfl
  · (intro W hSW; (try dsimp only at hSW); go_split_ands; first | (go_simp; done) | (go_simp; with_reducible rfl))
  try simp only [Act.put, List.setIfInBounds_toArray, List.set_cons_zero, List.set_cons_succ]
  refine' wpAnyH_take (i := 7) (oi := _) (v := _) ?_ (by kernel_rfl) (by kernel_rfl) (by kernel_rfl) ?_ (Or.inl ⟨?_, ?_⟩) (by assumption) ?_
  rotate_left 2
  · (simp only [List.getElem?_toArray, List.getElem?_cons_succ, List.getElem?_cons_zero]; rfl)
  · first | exact fun _ _ _ h => h | exact fun _ _ _ h => nomatch h.1
  · rfl
  · (intro W hSW; (try dsimp only at hSW); go_split_ands; first | (go_simp; done) | (go_simp; with_reducible rfl))
  try simp only [Act.put, List.setIfInBounds_toArray, List.set_cons_zero, List.set_cons_succ]
  refine' wpAnyH_take (i := 8) (oi := _) (v := _) ?_ (by kernel_rfl) (by kernel_rfl) (by kernel_rfl) ?_ (Or.inl ⟨?_, ?_⟩) (by assumption) ?_
  rotate_left 2
  · (simp only [List.getElem?_toArray, List.getElem?_cons_succ, List.getElem?_cons_zero]; rfl)
  · first | exact fun _ _ _ h => h | exact fun _ _ _ h => nomatch h.1
  · rfl
  · (intro W hSW; (try dsimp only at hSW); go_split_ands; first | (go_simp; done) | (go_simp; with_reducible rfl))
  try simp only [Act.put, List.setIfInBounds_toArray, List.set_cons_zero, List.set_cons_succ]
  clear hHeld
  refine wpAnyH_ready (rs := [9]) (by kernel_rfl) (by simp) ?_
  refine' AllReadyH.cons (o := _) ?_ (fun K hK => ?_) AllReadyH.nil
  rotate_left 1
  · (simp only [List.getElem?_toArray, List.getElem?_cons_succ, List.getElem?_cons_zero]; rfl)
  go_simp
  refine (CG.out _ hc).mono ?_
  rintro e V4 ⟨rfl, hS3, hb3⟩
  go_simp
  have hG2 : ∀ b, (b = z ∨ vs.ownBlock = some b) → b < w.heap.size := fun b hb => by
    rcases hb with hb | hb
    · rw [hb]; exact HH.out.rsl.row.lt
    · exact (HH.out.rsl.own.lt b hb).2
  replace rp := hb3.row rp HAP.out.1
  replace r3 := hb3.row r3 (fun h => by have := hG2 _ h; omega)
  have hbut := (but_of (fun b => b = z ∨ vs.ownBlock = some b) hc).trans hb3 (fun _ _ h => h)
  have hEL : OwnsC RenT 6 0 V4 (.slice (some ⟨b, 0, none⟩) M c1) (enL 0 sl) := HH.out.el.via (fun k hk => hbut.block k (HH.out.el.lt k hk).2 (HAP.out.2.1 k hk))
  refine hK.out _ _ ⟨rp.cell, r3.cell⟩ (fun hHeld => ?_)
  clear hK K hHeld hb3 hc CG
  refine wpAnyH_done (by kernel_rfl) ?_ _
  go_upto_region 6 with fail
  obtain ⟨alo, clo, hlo, hLO, hloB⟩ := hEL.low enL_one Tryz.underlying78 HI0.out HZ1.out (i := J) (by rw [HM.out]; omega)
  obtain ⟨ahi, chi, hhi0, hHI, hhiB⟩ := hEL.high enL_one Tryz.underlying78 HI0.out HZ1.out (i := J + 1) (by rw [HM.out]; omega)
  rw [HM.out] at hhi0 hHI hhiB
  have hhi : ∀ w, (Instr.slice 78 (.slice (some ⟨b, 0, none⟩) M c1) (some (.int .i64 ((J : Int) + 1))) none none).run Tryz.prog w = .ok (.slice ahi (M - (J + 1)) chi) w := fun w => hhi0 w
  have hloL : ∀ g, (Value.slice alo J clo).ownBlock = some g → g < V4.heap.size := fun g hg => (hEL.lt g (hloB g hg)).2
  have hhiL : ∀ g, (Value.slice ahi (M - (J + 1)) chi).ownBlock = some g → g < V4.heap.size := fun g hg => (hEL.lt g (hhiB g hg)).2
  have hl8 : ([] : List (List Value)).length + ((enL 0 sl).take J).length = J := by rw [List.length_take, HM.out]; simp; omega
  have hl16 : ((enL 0 sl).take J).length + ((enL 0 sl).drop (J + 1)).length = M - 1 := by rw [List.length_take, List.length_drop, HM.out]; omega
  clear hloB hhiB hEL hhi0
  refine region_last 19 (S := fun W' => (∀ j, W'.cell? ⟨p, j, none⟩ = (#[ptr z, .slice (some ⟨b, 0, none⟩) M c1, vr] : Array Value)[j]?)) (by kernel_rfl) rp.cell (fun hHeld => ?_)
  replace rp := rp.drew
  replace hbut := hbut.drew
  replace hS3 := hS3.drew
  replace hLO : Src V4.drew 6 (.slice alo J clo) ((enL 0 sl).take J) := hLO.keep (fun _ _ => rfl)
  replace hHI : Src V4.drew 6 (.slice ahi (M - (J + 1)) chi) ((enL 0 sl).drop (J + 1)) := hHI.keep (fun _ _ => rfl)
  replace hloL : ∀ g, (Value.slice alo J clo).ownBlock = some g → g < V4.drew.heap.size := hloL
  replace hhiL : ∀ g, (Value.slice ahi (M - (J + 1)) chi).ownBlock = some g → g < V4.drew.heap.size := hhiL
  clear r3
  have hwX : w.heap.size ≤ V4.drew.heap.size := hbut.size
  generalize V4.drew = X at *
  have hX : Below X.heap.size X X := Below.refl _ _
  have hRP := Lib.hid (fun W (hb : Below X.heap.size X W) => rp.on hb)
  obtain ⟨B0, hB0⟩ : ∃ B, X.heap.size = B := ⟨_, rfl⟩
  rw [hB0] at hRP hX hloL hhiL hwX
  have hBW : B0 ≤ X.heap.size := by rw [hB0]; exact Nat.le_refl _
  have hXs : RowKit.Hid (∀ W, Below B0 X W → But (fun b => b = p) X W) := Lib.hid (fun W hb => but_of _ (by rw [hB0]; exact hb))
  clear hB0
  refine' anyL_take (i := 0) (oi := _) (v := _) ?_ (by kernel_rfl) (by kernel_rfl) (by kernel_rfl) (by kernel_rfl) ?_ (Or.inl ⟨?_, ?_⟩) (by assumption) ?_
  rotate_left 2
  · (simp only [List.getElem?_toArray, List.getElem?_cons_succ, List.getElem?_cons_zero]; rfl)
  · first | exact fun _ _ _ h => h | exact fun _ _ _ h => nomatch h.1
  · rfl
  · (intro W hSW; (try dsimp only at hSW); go_split_ands; first | (go_simp; done) | (go_simp; with_reducible rfl))
  try simp only [Act.put, List.setIfInBounds_toArray, List.set_cons_zero, List.set_cons_succ]
  refine' anyL_take (i := 2) (oi := _) (v := _) ?_ (by kernel_rfl) (by kernel_rfl) (by kernel_rfl) (by kernel_rfl) ?_ (Or.inl ⟨?_, ?_⟩) (by assumption) ?_
  rotate_left 2
  · (simp only [List.getElem?_toArray, List.getElem?_cons_succ, List.getElem?_cons_zero]; rfl)
  · first | exact fun _ _ _ h => h | exact fun _ _ _ h => nomatch h.1
  · rfl
  · (intro W hSW; (try dsimp only at hSW); go_split_ands; first | (go_simp; done) | (go_simp; with_reducible rfl))
  try simp only [Act.put, List.setIfInBounds_toArray, List.set_cons_zero, List.set_cons_succ]
  refine' anyL_take (i := 3) (oi := _) (v := _) ?_ (by kernel_rfl) (by kernel_rfl) (by kernel_rfl) (by kernel_rfl) ?_ (Or.inl ⟨?_, ?_⟩) (by assumption) ?_
  rotate_left 2
  · (simp only [List.getElem?_toArray, List.getElem?_cons_succ, List.getElem?_cons_zero]; rfl)
  · first | exact fun _ _ _ h => h | exact fun _ _ _ h => nomatch h.1
  · rfl
  · (intro W hSW; (try dsimp only at hSW); go_split_ands; first | (go_simp; done) | (go_simp; with_reducible rfl))
  try simp only [Act.put, List.setIfInBounds_toArray, List.set_cons_zero, List.set_cons_succ]
  refine' anyL_take (i := 4) (oi := _) (v := _) ?_ (by kernel_rfl) (by kernel_rfl) (by kernel_rfl) (by kernel_rfl) ?_ (Or.inl ⟨?_, ?_⟩) (by assumption) ?_
  rotate_left 2
  · (simp only [List.getElem?_toArray, List.getElem?_cons_succ, List.getElem?_cons_zero]; rfl)
  · first | exact fun _ _ _ h => h | exact fun _ _ _ h => nomatch h.1
  · rfl
  · (intro W hSW; (try dsimp only at hSW); go_split_ands; first | (go_simp; done) | (go_simp; with_reducible rfl))
  try simp only [Act.put, List.setIfInBounds_toArray, List.set_cons_zero, List.set_cons_succ]
  refine' anyL_take (i := 5) (oi := _) (v := _) ?_ (by kernel_rfl) (by kernel_rfl) (by kernel_rfl) (by kernel_rfl) ?_ (Or.inl ⟨?_, ?_⟩) (by assumption) ?_
  rotate_left 2
  · (simp only [List.getElem?_toArray, List.getElem?_cons_succ, List.getElem?_cons_zero]; rfl)
  · first | exact fun _ _ _ h => h | exact fun _ _ _ h => nomatch h.1
  · rfl
  · (intro W hSW; (try dsimp only at hSW); go_split_ands; first | (go_simp; done) | (go_simp; with_reducible rfl))
  try simp only [Act.put, List.setIfInBounds_toArray, List.set_cons_zero, List.set_cons_succ]
  refine' anyL_take (i := 6) (oi := _) (v := _) ?_ (by kernel_rfl) (by kernel_rfl) (by kernel_rfl) (by kernel_rfl) ?_ (Or.inl ⟨?_, ?_⟩) (by assumption) ?_
  rotate_left 2
  · (simp only [List.getElem?_toArray, List.getElem?_cons_succ, List.getElem?_cons_zero]; rfl)
  · first | exact fun _ _ _ h => h | exact fun _ _ _ h => nomatch h.1
  · rfl
  · (intro W hSW; (try dsimp only at hSW); go_split_ands; first | (go_simp; done) | (go_simp; with_reducible rfl))
  try simp only [Act.put, List.setIfInBounds_toArray, List.set_cons_zero, List.set_cons_succ]
  refine' anyL_take (i := 7) (oi := _) (v := _) ?_ (by kernel_rfl) (by kernel_rfl) (by kernel_rfl) (by kernel_rfl) ?_ (Or.inl ⟨?_, ?_⟩) (by assumption) ?_
  rotate_left 2
  · (simp only [List.getElem?_toArray, List.getElem?_cons_succ, List.getElem?_cons_zero]; rfl)
  · first | exact fun _ _ _ h => h | exact fun _ _ _ h => nomatch h.1
  · rfl
  · (intro W hSW; (try dsimp only at hSW); go_split_ands; first | (go_simp; done) | (go_simp; with_reducible rfl))
  try simp only [Act.put, List.setIfInBounds_toArray, List.set_cons_zero, List.set_cons_succ]
  refine' anyL_take (i := 9) (oi := _) (v := _) ?_ (by kernel_rfl) (by kernel_rfl) (by kernel_rfl) (by kernel_rfl) ?_ (Or.inl ⟨?_, ?_⟩) (by assumption) ?_
  rotate_left 2
  · (simp only [List.getElem?_toArray, List.getElem?_cons_succ, List.getElem?_cons_zero]; rfl)
  · first | exact fun _ _ _ h => h | exact fun _ _ _ h => nomatch h.1
  · rfl
  · (intro W hSW; (try dsimp only at hSW); go_split_ands; first | (go_simp; done) | (go_simp; with_reducible rfl))
  try simp only [Act.put, List.setIfInBounds_toArray, List.set_cons_zero, List.set_cons_succ]
  refine' anyL_take (i := 10) (oi := _) (v := _) ?_ (by kernel_rfl) (by kernel_rfl) (by kernel_rfl) (by kernel_rfl) ?_ (Or.inl ⟨?_, ?_⟩) (by assumption) ?_
  rotate_left 2
  · (simp only [List.getElem?_toArray, List.getElem?_cons_succ, List.getElem?_cons_zero]; rfl)
  · first | exact fun _ _ _ h => h | exact fun _ _ _ h => nomatch h.1
  · rfl
  · (intro W hSW; (try dsimp only at hSW); go_split_ands; first | (go_simp; done) | (go_simp; with_reducible rfl))
  try simp only [Act.put, List.setIfInBounds_toArray, List.set_cons_zero, List.set_cons_succ]
  refine' anyL_take (i := 11) (oi := _) (v := _) ?_ (by kernel_rfl) (by kernel_rfl) (by kernel_rfl) (by kernel_rfl) ?_ (Or.inl ⟨?_, ?_⟩) (by assumption) ?_
  rotate_left 2
  · (simp only [List.getElem?_toArray, List.getElem?_cons_succ, List.getElem?_cons_zero]; rfl)
  · first | exact fun _ _ _ h => h | exact fun _ _ _ h => nomatch h.1
  · rfl
  · (intro W hSW; (try dsimp only at hSW); go_split_ands; first | (go_simp; done) | (go_simp; with_reducible rfl))
  try simp only [Act.put, List.setIfInBounds_toArray, List.set_cons_zero, List.set_cons_succ]
  refine' anyL_take (i := 12) (oi := _) (v := _) ?_ (by kernel_rfl) (by kernel_rfl) (by kernel_rfl) (by kernel_rfl) ?_ (Or.inl ⟨?_, ?_⟩) (by assumption) ?_
  rotate_left 2
  · (simp only [List.getElem?_toArray, List.getElem?_cons_succ, List.getElem?_cons_zero]; rfl)
  · first | exact fun _ _ _ h => h | exact fun _ _ _ h => nomatch h.1
  · rfl
  · (intro W hSW; (try dsimp only at hSW); go_split_ands; first | (go_simp; done) | (go_simp; with_reducible rfl))
  try simp only [Act.put, List.setIfInBounds_toArray, List.set_cons_zero, List.set_cons_succ]
  refine' anyL_take (i := 13) (oi := _) (v := _) ?_ (by kernel_rfl) (by kernel_rfl) (by kernel_rfl) (by kernel_rfl) ?_ (Or.inl ⟨?_, ?_⟩) (by assumption) ?_
  rotate_left 2
  · (simp only [List.getElem?_toArray, List.getElem?_cons_succ, List.getElem?_cons_zero]; rfl)
  · first | exact fun _ _ _ h => h | exact fun _ _ _ h => nomatch h.1
  · rfl
  · (intro W hSW; (try dsimp only at hSW); go_split_ands; first | (go_simp; done) | (go_simp; with_reducible rfl))
  try simp only [Act.put, List.setIfInBounds_toArray, List.set_cons_zero, List.set_cons_succ]
  refine' anyL_take (i := 14) (oi := _) (v := _) ?_ (by kernel_rfl) (by kernel_rfl) (by kernel_rfl) (by kernel_rfl) ?_ (Or.inl ⟨?_, ?_⟩) (by assumption) ?_
  rotate_left 2
  · (simp only [List.getElem?_toArray, List.getElem?_cons_succ, List.getElem?_cons_zero]; rfl)
  · first | exact fun _ _ _ h => h | exact fun _ _ _ h => nomatch h.1
  · rfl
  · (intro W hSW; (try dsimp only at hSW); go_split_ands; first | (go_simp; done) | (go_simp; with_reducible rfl))
  try simp only [Act.put, List.setIfInBounds_toArray, List.set_cons_zero, List.set_cons_succ]
  refine' anyL_take (i := 15) (oi := _) (v := _) ?_ (by kernel_rfl) (by kernel_rfl) (by kernel_rfl) (by kernel_rfl) ?_ (Or.inl ⟨?_, ?_⟩) (by assumption) ?_
  rotate_left 2
  · (simp only [List.getElem?_toArray, List.getElem?_cons_succ, List.getElem?_cons_zero]; rfl)
  · first | exact fun _ _ _ h => h | exact fun _ _ _ h => nomatch h.1
  · rfl
  · (intro W hSW; (try dsimp only at hSW); go_split_ands; first | (go_simp; done) | (go_simp; with_reducible rfl))
  try simp only [Act.put, List.setIfInBounds_toArray, List.set_cons_zero, List.set_cons_succ]
  clear hHeld
  refine anyL_ready (rs := [1]) (by kernel_rfl) (by simp) ?_
  refine' ReadyL.cons (o := _) (by simp only [List.getElem?_toArray, List.getElem?_cons_succ, List.getElem?_cons_zero]; rfl) (fun K hK => ?_) ReadyL.nil
  go_simp
  have hn := below_alloc X (.cells #[] RenT)
  have hmd := (OwnsC.made (t := RenT) (k := 6) (b := B0) X).2 hBW
  replace hX := hX.trans (hn.mono hBW)
  replace hBW := Nat.le_trans hBW hn.size
  clear hn
  generalize X.alloc _ = W1 at *
  generalize X.heap.size = aM at *
  refine hK.out _ _ (fun _ => (hRP.out _ hX).cell) (fun hHeld0 => ?_)
  have hHeld := hHeld0 (by decide)
  clear hHeld0 hK K
  refine anyL_ready (rs := [8]) (by kernel_rfl) (by simp) ?_
  refine' ReadyL.cons (o := _) (by simp only [List.getElem?_toArray, List.getElem?_cons_succ, List.getElem?_cons_zero]; rfl) (fun K hK => ?_) ReadyL.nil
  have hlo2 := hLO.keep (W' := W1) (fun g hg => hX.block g (hloL g hg))
  refine step_app rfl (.tmp 40) (.tmp 46) 78 rfl (b := B0) Tryz.underlying78 HI0.out HZ0.out HZ1.out HZ2.out rfl (by decide) rfl rfl hmd hlo2 (by rw [hl8]; omega) (by decide) hBW ?_
  rw [hl8]
  intro a8 c8 W2 h8 hgrow
  rw [List.nil_append] at h8
  replace hX := hX.grown hgrow hBW (fun k hk => (hmd.lt k hk).1)
  replace hBW := Nat.le_trans hBW hgrow.size
  clear hgrow hmd hlo2
  go_simp
  refine hK.out _ _ (fun _ => (hRP.out _ hX).cell) (fun hHeld0 => ?_)
  have hHeld := hHeld0 (by decide)
  clear hHeld0 hK K
  refine anyL_ready (rs := [16]) (by kernel_rfl) (by simp) ?_
  refine' ReadyL.cons (o := _) (by simp only [List.getElem?_toArray, List.getElem?_cons_succ, List.getElem?_cons_zero]; rfl) (fun K hK => ?_) ReadyL.nil
  have hhi2 := hHI.keep (W' := W2) (fun g hg => hX.block g (hhiL g hg))
  refine step_app rfl (.tmp 47) (.tmp 54) 78 rfl (b := B0) Tryz.underlying78 HI0.out HZ0.out HZ1.out HZ2.out rfl (by decide) rfl rfl h8 hhi2 (by rw [hl16]; omega) (by decide) hBW ?_
  rw [hl16]
  intro a16 c16 W3 h16 hgrow
  replace hX := hX.grown hgrow hBW (fun k hk => (h8.lt k hk).1)
  replace hBW := Nat.le_trans hBW hgrow.size
  clear hgrow h8 hhi2
  rw [HEF.out] at h16
  go_simp
  refine hK.out _ _ (fun _ => (hRP.out _ hX).cell) (fun hHeld0 => ?_)
  have hHeld := hHeld0 (by decide)
  clear hHeld0 hK K
  refine anyL_ready (rs := [17]) (by kernel_rfl) (by simp) ?_
  refine' ReadyL.cons (o := _) ?_ (fun K hK => ?_) ReadyL.nil
  rotate_left 1
  · (simp only [List.getElem?_toArray, List.getElem?_cons_succ, List.getElem?_cons_zero]; rfl)
  go_simp
  refine hK.out _ _ (fun _ => (hRP.out _ hX).cell) (fun hHeld0 => ?_)
  have hHeld := hHeld0 (by decide)
  clear hHeld0 hK K
  refine' anyL_take (i := 18) (oi := _) (v := _) ?_ (by kernel_rfl) (by kernel_rfl) (by kernel_rfl) (by kernel_rfl) ?_ (Or.inl ⟨?_, ?_⟩) (by assumption) ?_
  rotate_left 2
  · (simp only [List.getElem?_toArray, List.getElem?_cons_succ, List.getElem?_cons_zero]; rfl)
  · first | exact fun _ _ _ h => h | exact fun _ _ _ h => nomatch h.1
  · rfl
  · (intro W hSW; (try dsimp only at hSW); go_split_ands; first | (go_simp; done) | (go_simp; with_reducible rfl))
  try simp only [Act.put, List.setIfInBounds_toArray, List.set_cons_zero, List.set_cons_succ]
  clear hHeld
  have yp := (hRP.out _ hX).cell
  have zp := (hRP.out _ hX).lt
  have up := (hRP.out _ hX).free
  refine anyL_ready (rs := [19]) (by kernel_rfl) (by simp) ?_
  refine' ReadyL.cons (o := _) ?_ (fun K hK => ?_) ReadyL.nil
  rotate_left 1
  · (simp only [List.getElem?_toArray, List.getElem?_cons_succ, List.getElem?_cons_zero]; rfl)
  go_simp
  clear yp zp up
  refine hK.out _ _ (fun h => absurd rfl h) (fun _ => ?_)
  clear hK K
  refine anyL_done (by kernel_rfl) ?_ _
  have rpe := (hRP.out _ hX).set 1 (.slice a16 (M - 1) c16)
  simp only [List.setIfInBounds_toArray, List.set_cons_zero, List.set_cons_succ] at rpe
  have h16e := h16.other (h16.ne_row (hRP.out _ hX) (by decide)) 1 (.slice a16 (M - 1) c16)
  have hXX := hXs.out W3 hX
  have hbe := hXX.setCell (y := p) (fun _ => rfl) 1 (.slice a16 (M - 1) c16)
  clear hX h16 hBW hXX
  generalize World.setCell _ _ _ = Z at *
  obtain ⟨hT, hbf⟩ := rt_mk HH.out hS3 hbut rpe (h16e.base hwX) hbe (fun x hx => by
    rcases List.mem_or_eq_of_mem_set hx with h1 | h1
    · exact HH.out.gens x h1
    · rw [h1]; exact ⟨by show (1 : Int) ≤ g + 1; omega, by show g + 1 ≤ (1000 : Int); omega⟩) (fun j x k' hj hk => by
    by_cases hij : i = j
    · rw [← hij, List.getElem?_set_self hil] at hj
      cases hj
      cases hk
    · rw [List.getElem?_set_ne hij] at hj
      exact HH.out.owns j x k' hj hk)
  clear rpe h16e hbe hS3 hbut
  have HT := Lib.hid hT
  have HBF := Lib.hid hbf
  clear hT hbf
  go_wp2_with fail
  refine Calls.mono (rdescs_c HT.out hkl) ?_
  rintro e V8 ⟨a9, q9, c9, rfl, _, hn⟩
  have HN8 := Lib.hid hn
  clear hn
  go_wp2_with fail
  go_returns
  refine ⟨⟨_, rfl⟩, ⟨z, vs, _, vr, (HT.out.on HN8.out).wide (fun b hb => ?_) (fun b hb => ?_)⟩, HBF.out.on HN8.out⟩
  · rcases hb with hb | hb
    · exact .inl hb
    · exact .inr ⟨hb.1, Nat.lt_of_lt_of_le hb.2 HN8.out.size⟩
  · rcases hb with hb | hb
    · exact Nat.lt_of_lt_of_le (HH.out.fin b hb) (Nat.le_trans HBF.out.size HN8.out.size)
    · exact hb.2
end Go.Proofs.YtkjpdciccablpaaGreatDoor

/- (*table.Table).Copy, stats.Of: their contracts (chapter 37; the copy is a pointer, and no more is asked). -/
namespace Go.Proofs.YtkjpdciccablpaaGreatDoor
open Go.RowKit
open Go.ChangeMaps (setBlock)
open Go.MapKept (Stamped IsKey)
set_option linter.unusedVariables false
set_option linter.unusedSimpArgs false
set_option maxHeartbeats 16000000
set_option maxRecDepth 20000
/-- A map whose keys are ints. -/
def SomeMap (W : World) (m : Nat) : Prop := ∃ es clock, W.heap[m]? = some (.map es clock) ∧ ∀ x ∈ es.toList, IsKey (.int .i64) x.key
theorem SomeMap.lt {W : World} {m : Nat} (h : SomeMap W m) : m < W.heap.size := by
  obtain ⟨es, c, h, _⟩ := h
  exact (Array.getElem?_eq_some_iff.1 h).1
theorem SomeMap.via {W W' : World} {m : Nat} (h : SomeMap W m) (hb : W'.heap[m]? = W.heap[m]?) : SomeMap W' m := by
  obtain ⟨es, c, h, h2⟩ := h
  exact ⟨es, c, hb.trans h, h2⟩
theorem SomeMap.on {W W' : World} {m : Nat} (h : SomeMap W m) (hb : Below W.heap.size W W') : SomeMap W' m := h.via (hb.block m h.lt)
theorem SomeMap.ne_row {W : World} {m x : Nat} {cs : Array Value} {t : TypeId} (h : SomeMap W m) (r : Row W x cs t) : m ≠ x := fun e => by
  obtain ⟨es, c, h, h2⟩ := h
  rw [e, r.eq] at h
  cases h
theorem SomeMap.other {W : World} {m y : Nat} (h : SomeMap W m) (hn : m ≠ y) (j : Nat) (u : Value) : SomeMap (W.setCell ⟨y, j, none⟩ u) m := h.via (Below.heap_setCell W _ u m (fun e => hn e))
theorem SomeMap.new (W : World) : SomeMap (W.alloc (.map #[] 0)) W.heap.size := ⟨#[], 0, heap_alloc_new W _, by simp⟩
theorem mem_modify {α : Type} (f : α → α) {x : α} : ∀ {l : List α} {j : Nat}, x ∈ l.modify j f → ∃ y ∈ l, x = y ∨ x = f y
  | [], j, h => by cases j <;> simp at h
  | a :: l, 0, h => by
    simp only [List.modify_zero_cons, List.mem_cons] at h
    rcases h with rfl | h
    · exact ⟨a, by simp, .inr rfl⟩
    · exact ⟨x, by simp [h], .inl rfl⟩
  | a :: l, j + 1, h => by
    simp only [List.modify_succ_cons, List.mem_cons] at h
    rcases h with rfl | h
    · exact ⟨x, by simp, .inl rfl⟩
    · obtain ⟨y, hy, h2⟩ := mem_modify f h
      exact ⟨y, by simp [hy], h2⟩
/-- A store under any key. -/
theorem SomeMap.update {P : Program} {W : World} {m : Nat} (h : SomeMap W m) {mt kt et : TypeId} (hm : P.underlying mt = some (.map kt et)) (hk : P.underlying kt = some (.int .i64)) (n : Int) (v : Value) :
    ∃ o, (Instr.mapUpdate mt (.map (some m)) (.int .i64 n) v).run P W = .ok () (setBlock W m o) ∧ SomeMap (setBlock W m o) m := by
  have hlt := h.lt
  obtain ⟨es, clock, hb, hks⟩ := h
  rcases MapKept.findNow_spec (d := .int .i64) (k := .int .i64 n) rfl es.toList 0 hks with ⟨h1, h2⟩ | ⟨j, e, h1, h2, h3⟩
  · refine ⟨_, by simp [Instr.mapUpdate, run_underlying hm, MapKept.run_getObj_map hb, MapKept.run_checkKey hk (show IsKey (.int .i64) (.int .i64 n) from rfl), MapKept.run_findKey hk h1, MapKept.run_setObj_map _ hb, Result.andThen, setBlock], es.push ⟨.int .i64 n, v, clock⟩, clock + 1, setBlock_at hlt, ?_⟩
    intro x hx
    simp only [Array.toList_push, List.mem_append, List.mem_singleton] at hx
    rcases hx with hx | rfl
    · exact hks x hx
    · exact rfl
  · simp only [Nat.zero_add] at h1
    have hj : es[j]? = some e := by rw [← Array.getElem?_toList]; exact h2
    refine ⟨_, by simp [Instr.mapUpdate, run_underlying hm, MapKept.run_getObj_map hb, MapKept.run_checkKey hk (show IsKey (.int .i64) (.int .i64 n) from rfl), MapKept.run_findKey hk h1, hj, h3, MapKept.run_keyThatStays (P := P) (w := W) (d := .int .i64) (k := .int .i64 n) rfl, MapKept.run_setObj_map _ hb, Result.andThen, setBlock], es.modify j (fun e => { e with key := .int .i64 n, val := v }), clock, setBlock_at hlt, ?_⟩
    intro x hx
    rw [Array.toList_modify] at hx
    obtain ⟨y, hy, rfl | rfl⟩ := mem_modify _ hx
    · exact hks _ hy
    · exact rfl
theorem resL_one {l : List RS} : ∀ u ∈ (resL l).flatten, u.oneCell' = true := by
  intro u hu
  obtain ⟨c, hc, hu⟩ := List.mem_flatten.1 hu
  unfold resL at hc
  obtain ⟨k, hk⟩ := List.mem_iff_getElem?.1 hc
  rw [List.getElem?_mapIdx] at hk
  obtain ⟨r, hr, rfl⟩ := Option.map_eq_some_iff.1 hk
  simp only [resC, List.mem_cons, List.not_mem_nil, or_false] at hu
  rcases hu with rfl | rfl | rfl | rfl | rfl | rfl | rfl | rfl <;> rfl
theorem cloneR_c {w : World} {v : Value} {l : List RS} (hv : OwnsC ResT 8 0 w v (resL l)) (hl : l.length ≤ 60) : Calls Tryz.prog 43 #[v] w fun e w' => (∃ a n c, e = .returned (.slice a n c)) ∧ Below w.heap.size w w' := by
  have hfl := flat_len hv.1
  rw [resL_len] at hfl
  rcases hv.2.2 with ⟨rfl, _⟩ | ⟨g, cap, cur, rfl, _, hgr, _, _, _, h7⟩
  · have hq := fun W => Lib.run_eql_slice_nil (P := Tryz.prog) W 72 _ none 0 0 0 0 Tryz.underlying72
    go_enter Tryz.func43, Tryz.ntmps43
    go_wp2_with fail
    go_returns
    exact ⟨⟨_, _, _, rfl⟩, by go_grown⟩
  · obtain ⟨i0, hi, hz0, hz1, hz2⟩ := info_parts res_info
    have HI0 := Lib.hid hi
    have HZ0 := Lib.hid hz0
    have HZ1 := Lib.hid hz1
    have HZ2 := Lib.hid hz2
    rw [resL_len] at *
    have hsrc : ∀ j u, (resL l).flatten[j]? = some u → (w.alloc (.cells #[] ResT)).cell? ((⟨g, 0, none⟩ : Addr).add j) = some u := fun j u hj => by
      have hgl := (Array.getElem?_eq_some_iff.1 hgr).1
      have e1 : (⟨g, 0, none⟩ : Addr).add j = ⟨g, j, none⟩ := by simp [Addr.add]; omega
      rw [e1]
      refine keep_cell (below_alloc w _) hgl ?_
      have e2 : w.cell? ⟨g, j, none⟩ = cur[j]? := by simp [World.cell?, hgr]
      rw [e2, ← Array.getElem?_toList]
      rw [← h7] at hj
      rw [List.getElem?_take] at hj
      split at hj
      · exact hj
      · cases hj
    have HS := Lib.hid hsrc
    have HO := Lib.hid (World.ownsRow_made (base := w.heap.size) (e := ResT) (size := 8) w #[] 0 (Nat.le_refl _) (by unfold maxLen; omega) rfl)
    have HB := Lib.hid (below_alloc w (.cells #[] ResT))
    have hq := fun W => Lib.run_eql_slice_nil (P := Tryz.prog) W 72 _ (some ⟨g, 0, none⟩) l.length cap 0 0 Tryz.underlying72
    clear hi hz0 hz1 hz2 hsrc h7 hgr hv
    generalize l.length = N at *
    go_enter Tryz.func43, Tryz.ntmps43
    go_wp2_with (at_builtin; refine wpList_append_own _ rfl _ _ 72 rfl w.heap.size ResT i0 (.agg #[.int .i64 0, .int .i64 0, .int .u32 0, .int .i64 0, .int .i64 0, .int .i64 0, .int .i64 0, .string ⟨#[]⟩]) 8 72 Tryz.underlying72 HI0.out HZ0.out HZ1.out HZ2.out rfl (by decide) _ 0 [] rfl HO.out ⟨g, 0, none⟩ N cap (resL l).flatten rfl hfl HS.out resL_one (by unfold maxLen; omega) (by omega) (by simp) ?_; intro v' w9 hown' hgrow hnil; have HOWN := Lib.hid hown'; have HGR := Lib.hid hgrow; clear hown' hgrow hnil)
    obtain ⟨au, nu, cu, rfl⟩ : ∃ a n c, v' = .slice a n c := by
      rcases HOWN.out.2 with ⟨h0, _⟩ | ⟨g, cap, cur, h1, _⟩
      · exact ⟨_, _, _, h0⟩
      · exact ⟨_, _, _, h1⟩
    go_returns
    exact ⟨⟨_, _, _, rfl⟩, HB.out.grown HGR.out (by simp) (fun k hk => Nat.le_of_eq (Option.some.inj (show some w.heap.size = some k from hk)))⟩
structure CInv (w wr : World) (clk m r q m2 : Nat) (zq vq : Value) (seen : Array Nat) (c0 : Nat) : Prop where
  hc : Below w.heap.size w wr
  it : wr.heap[r]? = some (.mapIter (some m) clk seen c0)
  ir : w.heap.size ≤ r
  le : clk ≤ c0
  row : Row wr q #[zq, .map (some m2), vq] TabT
  mp : SomeMap wr m2
  hq : w.heap.size ≤ q
  hm2 : w.heap.size ≤ m2
def ofV (rs : List RS) (q : Int) : Value := if q < 0 ∨ 8000 < q then .tuple #[stV 0 0 0 0 0, .int .i64 2] else .tuple #[stV (rs.length + q) (cntS rs 1 : Nat) (cntS rs 2 : Nat) ((cntS rs 3 : Nat) + q) (cntS rs 4 : Nat), .int .i64 0]
theorem tcopy_c {w : World} {F : Nat → Prop} {p : Nat} {sl : List SlotR} {rs : List RS} {z m : Nat} {cs : Array Value} {v : Value} (h : TabIs w F p sl rs z m cs v) : Calls Tryz.prog 18 #[ptr p] w fun e w' => (∃ q, e = .returned (ptr q)) ∧ Below w.heap.size w w' := by
  have HH := Lib.hid h
  have hmm := @run_makeMap Tryz.prog
  have CC := Lib.hid (fun W (hb : Below w.heap.size w W) => cloneR_c (h.own.on hb) h.most)
  have hc := Below.refl w.heap.size w
  have rp := h.row
  have CV := Lib.hid (tvalid_c rp)
  obtain ⟨av, cv, rfl⟩ := h.list
  clear h
  go_enter Tryz.func18, Tryz.ntmps18
  go_wp2_with fail
  refine Calls.mono CV.out ?_
  rintro e V ⟨rfl, hW⟩
  subst V
  clear CV
  go_upto_region 3 with fail
  go_cut [3] (fun s3 wx => ∃ q m2 zq vq, s3 = ptr q ∧ Row wx q #[zq, .map (some m2), vq] TabT ∧ SomeMap wx m2 ∧ Below w.heap.size w wx ∧ w.heap.size ≤ q ∧ w.heap.size ≤ m2)
  case first =>
    refine wp_region_held_drew (S := fun W' => (∀ j, W'.cell? ⟨p, j, none⟩ = (#[ptr z, .map (some m), .slice av rs.length cv] : Array Value)[j]?)) (by kernel_rfl) rp.cell (fun hHeld => ?_)
    have zp := rp.lt
    replace rp := rp.drew
    replace hc := hc.drew
    generalize w.drew = X at *
    refine' wpAnyH_take (i := 0) (oi := _) (v := _) ?_ (by kernel_rfl) (by kernel_rfl) (by kernel_rfl) ?_ (Or.inl ⟨?_, ?_⟩) (by assumption) ?_
    rotate_left 2
    · (simp only [List.getElem?_toArray, List.getElem?_cons_succ, List.getElem?_cons_zero]; rfl)
    · first | exact fun _ _ _ h => h | exact fun _ _ _ h => nomatch h.1
    · rfl
    · (intro W hSW; (try dsimp only at hSW); go_split_ands; first | (go_simp; done) | (go_simp; with_reducible rfl))
    try simp only [Act.put, List.setIfInBounds_toArray, List.set_cons_zero, List.set_cons_succ]
    refine' wpAnyH_take (i := 1) (oi := _) (v := _) ?_ (by kernel_rfl) (by kernel_rfl) (by kernel_rfl) ?_ (Or.inl ⟨?_, ?_⟩) (by assumption) ?_
    rotate_left 2
    · (simp only [List.getElem?_toArray, List.getElem?_cons_succ, List.getElem?_cons_zero]; rfl)
    · first | exact fun _ _ _ h => h | exact fun _ _ _ h => nomatch h.1
    · rfl
    · (intro W hSW; (try dsimp only at hSW); go_split_ands; first | (go_simp; done) | (go_simp; with_reducible rfl))
    try simp only [Act.put, List.setIfInBounds_toArray, List.set_cons_zero, List.set_cons_succ]
    refine' wpAnyH_take (i := 2) (oi := _) (v := _) ?_ (by kernel_rfl) (by kernel_rfl) (by kernel_rfl) ?_ (Or.inl ⟨?_, ?_⟩) (by assumption) ?_
    rotate_left 2
    · (simp only [List.getElem?_toArray, List.getElem?_cons_succ, List.getElem?_cons_zero]; rfl)
    · first | exact fun _ _ _ h => h | exact fun _ _ _ h => nomatch h.1
    · rfl
    · (intro W hSW; (try dsimp only at hSW); go_split_ands; first | (go_simp; done) | (go_simp; with_reducible rfl))
    try simp only [Act.put, List.setIfInBounds_toArray, List.set_cons_zero, List.set_cons_succ]
    refine' wpAnyH_take (i := 3) (oi := _) (v := _) ?_ (by kernel_rfl) (by kernel_rfl) (by kernel_rfl) ?_ (Or.inl ⟨?_, ?_⟩) (by assumption) ?_
    rotate_left 2
    · (simp only [List.getElem?_toArray, List.getElem?_cons_succ, List.getElem?_cons_zero]; rfl)
    · first | exact fun _ _ _ h => h | exact fun _ _ _ h => nomatch h.1
    · rfl
    · (intro W hSW; (try dsimp only at hSW); go_split_ands; first | (go_simp; done) | (go_simp; with_reducible rfl))
    try simp only [Act.put, List.setIfInBounds_toArray, List.set_cons_zero, List.set_cons_succ]
    refine' wpAnyH_take (i := 6) (oi := _) (v := _) ?_ (by kernel_rfl) (by kernel_rfl) (by kernel_rfl) ?_ (Or.inl ⟨?_, ?_⟩) (by assumption) ?_
    rotate_left 2
    · (simp only [List.getElem?_toArray, List.getElem?_cons_succ, List.getElem?_cons_zero]; rfl)
    · first | exact fun _ _ _ h => h | exact fun _ _ _ h => nomatch h.1
    · rfl
    · (intro W hSW; (try dsimp only at hSW); go_split_ands; first | (go_simp; done) | (go_simp; with_reducible rfl))
    try simp only [Act.put, List.setIfInBounds_toArray, List.set_cons_zero, List.set_cons_succ]
    refine' wpAnyH_take (i := 7) (oi := _) (v := _) ?_ (by kernel_rfl) (by kernel_rfl) (by kernel_rfl) ?_ (Or.inl ⟨?_, ?_⟩) (by assumption) ?_
    rotate_left 2
    · (simp only [List.getElem?_toArray, List.getElem?_cons_succ, List.getElem?_cons_zero]; rfl)
    · first | exact fun _ _ _ h => h | exact fun _ _ _ h => nomatch h.1
    · rfl
    · (intro W hSW; (try dsimp only at hSW); go_split_ands; first | (go_simp; done) | (go_simp; with_reducible rfl))
    try simp only [Act.put, List.setIfInBounds_toArray, List.set_cons_zero, List.set_cons_succ]
    refine' wpAnyH_take (i := 8) (oi := _) (v := _) ?_ (by kernel_rfl) (by kernel_rfl) (by kernel_rfl) ?_ (Or.inl ⟨?_, ?_⟩) (by assumption) ?_
    rotate_left 2
    · (simp only [List.getElem?_toArray, List.getElem?_cons_succ, List.getElem?_cons_zero]; rfl)
    · first | exact fun _ _ _ h => h | exact fun _ _ _ h => nomatch h.1
    · rfl
    · (intro W hSW; (try dsimp only at hSW); go_split_ands; first | (go_simp; done) | (go_simp; with_reducible rfl))
    try simp only [Act.put, List.setIfInBounds_toArray, List.set_cons_zero, List.set_cons_succ]
    refine' wpAnyH_take (i := 9) (oi := _) (v := _) ?_ (by kernel_rfl) (by kernel_rfl) (by kernel_rfl) ?_ (Or.inl ⟨?_, ?_⟩) (by assumption) ?_
    rotate_left 2
    · (simp only [List.getElem?_toArray, List.getElem?_cons_succ, List.getElem?_cons_zero]; rfl)
    · first | exact fun _ _ _ h => h | exact fun _ _ _ h => nomatch h.1
    · rfl
    · (intro W hSW; (try dsimp only at hSW); go_split_ands; first | (go_simp; done) | (go_simp; with_reducible rfl))
    try simp only [Act.put, List.setIfInBounds_toArray, List.set_cons_zero, List.set_cons_succ]
    clear hHeld
    refine wpAnyH_ready (rs := [4, 5]) (by kernel_rfl) (by simp) ?_
    refine' AllReadyH.cons (o := _) (by simp only [List.getElem?_toArray, List.getElem?_cons_succ, List.getElem?_cons_zero]; rfl) (fun K hK => ?_) (AllReadyH.cons (o := _) (by simp only [List.getElem?_toArray, List.getElem?_cons_succ, List.getElem?_cons_zero]; rfl) (fun K hK => ?_) AllReadyH.nil)
    · go_simp
      have hT := HH.out.on hc
      refine (slcopy_c hT.rz hT.sa.size hT.sa.one hT.sa.c0).mono ?_
      rintro e Y1 ⟨rfl, hn⟩
      go_simp
      replace rp := rp.on hn
      replace hc := chain hc hn
      clear hn hT
      generalize X.heap.size = z9 at *
      refine hK.out _ _ rp.cell (fun hHeld => ?_)
      clear hK K hHeld
      refine wpAnyH_ready (rs := [5, 10]) (by kernel_rfl) (by simp) ?_
      refine' AllReadyH.cons (o := _) (by simp only [List.getElem?_toArray, List.getElem?_cons_succ, List.getElem?_cons_zero]; rfl) (fun K hK => ?_) (AllReadyH.cons (o := _) (by simp only [List.getElem?_toArray, List.getElem?_cons_succ, List.getElem?_cons_zero]; rfl) (fun K hK => ?_) AllReadyH.nil)
      · go_simp
        have hn := below_alloc Y1 (.map #[] 0)
        have hsm := SomeMap.new Y1
        have hm9 := hc.size
        replace rp := rp.on hn
        replace hc := chain hc hn
        clear hn
        generalize Y1.alloc _ = Y9 at *
        generalize Y1.heap.size = m9 at *
        refine hK.out _ _ rp.cell (fun hHeld => ?_)
        clear hK K hHeld
        refine wpAnyH_ready (rs := [10]) (by kernel_rfl) (by simp) ?_
        refine' AllReadyH.cons (o := _) (by simp only [List.getElem?_toArray, List.getElem?_cons_succ, List.getElem?_cons_zero]; rfl) (fun K hK => ?_) AllReadyH.nil
        go_simp
        refine (CC.out _ hc).mono ?_
        rintro e Y2 ⟨⟨a9, n9, c9, rfl⟩, hn⟩
        go_simp
        replace rp := rp.on hn
        replace hc := chain hc hn
        replace hsm := hsm.on hn
        clear hn
        refine hK.out _ _ rp.cell (fun hHeld => ?_)
        clear hK K hHeld
        refine wpAnyH_ready (rs := [11]) (by kernel_rfl) (by simp) ?_
        refine' AllReadyH.cons (o := _) (by simp only [List.getElem?_toArray, List.getElem?_cons_succ, List.getElem?_cons_zero]; rfl) (fun K hK => ?_) AllReadyH.nil
        go_simp
        refine hK.out _ _ rp.cell (fun hHeld => ?_)
        clear hK K hHeld
        refine wpAnyH_ready (rs := [12]) (by kernel_rfl) (by simp) ?_
        refine' AllReadyH.cons (o := _) (by simp only [List.getElem?_toArray, List.getElem?_cons_succ, List.getElem?_cons_zero]; rfl) (fun K hK => ?_) AllReadyH.nil
        go_simp
        have hn := below_alloc Y2 (.cells #[ptr z9, .map (some m9), .slice a9 n9 c9] TabT)
        have rq := Row.new (W := Y2) (cs := #[ptr z9, .map (some m9), .slice a9 n9 c9]) (t := TabT)
        have hq9 := hc.size
        replace rp := rp.on hn
        replace hc := chain hc hn
        replace hsm := hsm.on hn
        clear hn
        generalize Y2.alloc _ = Y8 at *
        generalize Y2.heap.size = q9 at *
        refine hK.out _ _ rp.cell (fun hHeld => ?_)
        clear hK K hHeld
        refine wpAnyH_ready (rs := [13]) (by kernel_rfl) (by simp) ?_
        refine' AllReadyH.cons (o := _) (by simp only [List.getElem?_toArray, List.getElem?_cons_succ, List.getElem?_cons_zero]; rfl) (fun K hK => ?_) AllReadyH.nil
        go_simp
        refine hK.out _ _ rp.cell (fun hHeld => ?_)
        clear hK K hHeld
        refine wpAnyH_done (by kernel_rfl) ?_ _
        go_wp2_with fail
        go_meet
        exact ⟨_, _, _, _, rfl, rq, hsm, hc, hq9, hm9⟩
      · go_simp
        refine (CC.out _ hc).mono ?_
        rintro e Y2 ⟨⟨a9, n9, c9, rfl⟩, hn⟩
        go_simp
        replace rp := rp.on hn
        replace hc := chain hc hn
        clear hn
        refine hK.out _ _ rp.cell (fun hHeld => ?_)
        clear hK K hHeld
        refine wpAnyH_ready (rs := [5]) (by kernel_rfl) (by simp) ?_
        refine' AllReadyH.cons (o := _) (by simp only [List.getElem?_toArray, List.getElem?_cons_succ, List.getElem?_cons_zero]; rfl) (fun K hK => ?_) AllReadyH.nil
        go_simp
        have hn := below_alloc Y2 (.map #[] 0)
        have hsm := SomeMap.new Y2
        have hm9 := hc.size
        replace rp := rp.on hn
        replace hc := chain hc hn
        clear hn
        generalize Y2.alloc _ = Y9 at *
        generalize Y2.heap.size = m9 at *
        refine hK.out _ _ rp.cell (fun hHeld => ?_)
        clear hK K hHeld
        refine wpAnyH_ready (rs := [11]) (by kernel_rfl) (by simp) ?_
        refine' AllReadyH.cons (o := _) (by simp only [List.getElem?_toArray, List.getElem?_cons_succ, List.getElem?_cons_zero]; rfl) (fun K hK => ?_) AllReadyH.nil
        go_simp
        refine hK.out _ _ rp.cell (fun hHeld => ?_)
        clear hK K hHeld
        refine wpAnyH_ready (rs := [12]) (by kernel_rfl) (by simp) ?_
        refine' AllReadyH.cons (o := _) (by simp only [List.getElem?_toArray, List.getElem?_cons_succ, List.getElem?_cons_zero]; rfl) (fun K hK => ?_) AllReadyH.nil
        go_simp
        have hn := below_alloc Y9 (.cells #[ptr z9, .map (some m9), .slice a9 n9 c9] TabT)
        have rq := Row.new (W := Y9) (cs := #[ptr z9, .map (some m9), .slice a9 n9 c9]) (t := TabT)
        have hq9 := hc.size
        replace rp := rp.on hn
        replace hc := chain hc hn
        replace hsm := hsm.on hn
        clear hn
        generalize Y9.alloc _ = Y8 at *
        generalize Y9.heap.size = q9 at *
        refine hK.out _ _ rp.cell (fun hHeld => ?_)
        clear hK K hHeld
        refine wpAnyH_ready (rs := [13]) (by kernel_rfl) (by simp) ?_
        refine' AllReadyH.cons (o := _) (by simp only [List.getElem?_toArray, List.getElem?_cons_succ, List.getElem?_cons_zero]; rfl) (fun K hK => ?_) AllReadyH.nil
        go_simp
        refine hK.out _ _ rp.cell (fun hHeld => ?_)
        clear hK K hHeld
        refine wpAnyH_done (by kernel_rfl) ?_ _
        go_wp2_with fail
        go_meet
        exact ⟨_, _, _, _, rfl, rq, hsm, hc, hq9, hm9⟩
    · go_simp
      have hn := below_alloc X (.map #[] 0)
      have hsm := SomeMap.new X
      have hm9 := hc.size
      replace rp := rp.on hn
      replace hc := chain hc hn
      clear hn
      generalize X.alloc _ = Y9 at *
      generalize X.heap.size = m9 at *
      refine hK.out _ _ rp.cell (fun hHeld => ?_)
      clear hK K hHeld
      refine wpAnyH_ready (rs := [4]) (by kernel_rfl) (by simp) ?_
      refine' AllReadyH.cons (o := _) (by simp only [List.getElem?_toArray, List.getElem?_cons_succ, List.getElem?_cons_zero]; rfl) (fun K hK => ?_) AllReadyH.nil
      go_simp
      have hT := HH.out.on hc
      refine (slcopy_c hT.rz hT.sa.size hT.sa.one hT.sa.c0).mono ?_
      rintro e Y1 ⟨rfl, hn⟩
      go_simp
      replace rp := rp.on hn
      replace hc := chain hc hn
      replace hsm := hsm.on hn
      clear hn hT
      generalize Y9.heap.size = z9 at *
      refine hK.out _ _ rp.cell (fun hHeld => ?_)
      clear hK K hHeld
      refine wpAnyH_ready (rs := [10]) (by kernel_rfl) (by simp) ?_
      refine' AllReadyH.cons (o := _) (by simp only [List.getElem?_toArray, List.getElem?_cons_succ, List.getElem?_cons_zero]; rfl) (fun K hK => ?_) AllReadyH.nil
      go_simp
      refine (CC.out _ hc).mono ?_
      rintro e Y2 ⟨⟨a9, n9, c9, rfl⟩, hn⟩
      go_simp
      replace rp := rp.on hn
      replace hc := chain hc hn
      replace hsm := hsm.on hn
      clear hn
      refine hK.out _ _ rp.cell (fun hHeld => ?_)
      clear hK K hHeld
      refine wpAnyH_ready (rs := [11]) (by kernel_rfl) (by simp) ?_
      refine' AllReadyH.cons (o := _) (by simp only [List.getElem?_toArray, List.getElem?_cons_succ, List.getElem?_cons_zero]; rfl) (fun K hK => ?_) AllReadyH.nil
      go_simp
      refine hK.out _ _ rp.cell (fun hHeld => ?_)
      clear hK K hHeld
      refine wpAnyH_ready (rs := [12]) (by kernel_rfl) (by simp) ?_
      refine' AllReadyH.cons (o := _) (by simp only [List.getElem?_toArray, List.getElem?_cons_succ, List.getElem?_cons_zero]; rfl) (fun K hK => ?_) AllReadyH.nil
      go_simp
      have hn := below_alloc Y2 (.cells #[ptr z9, .map (some m9), .slice a9 n9 c9] TabT)
      have rq := Row.new (W := Y2) (cs := #[ptr z9, .map (some m9), .slice a9 n9 c9]) (t := TabT)
      have hq9 := hc.size
      replace rp := rp.on hn
      replace hc := chain hc hn
      replace hsm := hsm.on hn
      clear hn
      generalize Y2.alloc _ = Y8 at *
      generalize Y2.heap.size = q9 at *
      refine hK.out _ _ rp.cell (fun hHeld => ?_)
      clear hK K hHeld
      refine wpAnyH_ready (rs := [13]) (by kernel_rfl) (by simp) ?_
      refine' AllReadyH.cons (o := _) (by simp only [List.getElem?_toArray, List.getElem?_cons_succ, List.getElem?_cons_zero]; rfl) (fun K hK => ?_) AllReadyH.nil
      go_simp
      refine hK.out _ _ rp.cell (fun hHeld => ?_)
      clear hK K hHeld
      refine wpAnyH_done (by kernel_rfl) ?_ _
      go_wp2_with fail
      go_meet
      exact ⟨_, _, _, _, rfl, rq, hsm, hc, hq9, hm9⟩
  case rest =>
    obtain ⟨q, m2, zq, vq, rfl, rq, hsm, hc, hqf, hmf⟩ := hcut
    have hT := HH.out.on hc
    have hmp := hT.mp
    obtain ⟨es, clk, hes, hst, hks, hfv⟩ := hmp
    have hold := hst.1
    have hnd := hst.2.1
    have y0 := hT.row.cell
    have z0 := hT.row.lt
    have hrg := run_range_map (P := Tryz.prog) wc 71 _ _ m es clk Tryz.underlying71 hes
    go_wp2_with fail
    have hn := below_alloc wc (.mapIter (some m) clk #[] clk)
    have hit : (wc.alloc (.mapIter (some m) clk #[] clk)).heap[wc.heap.size]? = some (.mapIter (some m) clk #[] clk) := heap_alloc_new wc _
    have hrf := hc.size
    have hml := HH.out.mp.lt
    have hI : CInv w (wc.alloc (.mapIter (some m) clk #[] clk)) clk m wc.heap.size q m2 zq vq #[] clk := ⟨chain hc hn, hit, hrf, Nat.le_refl _, rq.on hn, hsm.on hn, hqf, hmf⟩
    generalize wc.alloc (.mapIter (some m) clk #[] clk) = X2 at *
    generalize wc.heap.size = r at *
    have HF : RowKit.Hid (∀ x ∈ es.toList, ∃ (n : Int) (i k : Nat) (g : Int), x.key = .int .i64 n ∧ x.val = entV i g k) := Lib.hid (fun x hx => by
      have h1 := hks x hx
      obtain ⟨n, hn⟩ : ∃ n, x.key = .int .i64 n := by
        cases hk : x.key <;> rw [hk] at h1 <;> simp [IsKey] at h1
        exact ⟨_, by rw [h1]⟩
      have h2 := (hfv n x.val).2 ⟨x, hx, hn, rfl⟩
      unfold mapT at h2
      split at h2
      · obtain ⟨s, _, h3⟩ := Option.bind_eq_some_iff.1 h2
        obtain ⟨k, _, h4⟩ := Option.map_eq_some_iff.1 h3
        exact ⟨n, _, _, _, hn, h4.symm⟩
      · cases h2)
    have hcm : wc.heap[m]? = some (.map es clk) := hes
    have hmw : w.heap[m]? = some (.map es clk) := by rw [← hc.block m hml]; exact hes
    have HM := Lib.hid hmw
    have HO := Lib.hid hold
    have HN := Lib.hid hnd
    have HI := Lib.hid hI
    clear hI rq hsm hc hT hes hst hks hfv hold hnd y0 z0 hrg hn hit hrf hcm hmw
    go_loopw [4] (fun sv wr => ∃ seen c0, CInv w wr clk m r q m2 zq vq seen c0) (fun _ wr => (leftOf es (wr.iterSeen r)).size)
    case atStart => exact ⟨#[], clk, HI.out⟩
    case round =>
      obtain ⟨seen, c0, hI⟩ := hrel
      clear HI
      have hmr : wr.heap[m]? = some (.map es clk) := (hI.hc.block m hml).trans HM.out
      rcases run_next_at (P := Tryz.prog) wr 0 r m clk c0 seen es clk hI.it hmr HO.out hI.le with ⟨h0, hrun⟩ | ⟨me, hme, w1, hal, hrun⟩
      · have HB := Lib.hid hI.hc
        clear hI hmr
        go_wp2_with fail
        go_returns
        exact ⟨⟨q, rfl⟩, HB.out⟩
      · obtain ⟨hm1, hm2⟩ := mem_left hme
        obtain ⟨n, i, k, g, hkey, hval⟩ := HF.out me hm1
        have hsz1 : w1.heap.size = wr.heap.size := by rcases hal with rfl | rfl <;> rfl
        have hk1 : ∀ b : Nat, w1.heap[b]? = wr.heap[b]? := fun b => by rcases hal with rfl | rfl <;> rfl
        have hrl : r < wr.heap.size := (Array.getElem?_eq_some_iff.1 hI.it).1
        have hrm : r ≠ m := fun e => by have h1 := hI.it; rw [e, hmr] at h1; cases h1
        have hrq : q ≠ r := fun e => by have h1 := hI.row.eq; rw [e, hI.it] at h1; cases h1
        have hrm2 : m2 ≠ r := fun e => by
          obtain ⟨es', c', h1, _⟩ := hI.mp
          rw [e, hI.it] at h1
          cases h1
        have hit3 : (setBlock w1 r (.mapIter (some m) clk (seen.push me.born) clk)).heap[r]? = some (.mapIter (some m) clk (seen.push me.born) clk) := setBlock_at (by rw [hsz1]; exact hrl)
        have hkp3 : ∀ b : Nat, b ≠ r → (setBlock w1 r (.mapIter (some m) clk (seen.push me.born) clk)).heap[b]? = wr.heap[b]? := fun b hb => (setBlock_heap b hb).trans (hk1 b)
        have hs3 : (setBlock w1 r (.mapIter (some m) clk (seen.push me.born) clk)).heap.size = wr.heap.size := by rw [setBlock_size, hsz1]
        have hc3 : Below w.heap.size w (setBlock w1 r (.mapIter (some m) clk (seen.push me.born) clk)) := by
          have hIc := hI.hc
          have hIr := hI.ir
          refine ⟨?_, ?_, ?_, by rw [hs3]; exact hIc.size, fun b hb => (hkp3 b (by omega)).trans (hIc.block b hb)⟩
          · rcases hal with rfl | rfl <;> exact hIc.os
          · rcases hal with rfl | rfl <;> exact hIc.tape
          · rcases hal with rfl | rfl <;> exact hIc.output
        generalize setBlock w1 r (.mapIter (some m) clk (seen.push me.born) clk) = W3 at *
        have hent := run_entry_at (P := Tryz.prog) W3 r m clk seen es clk me hit3 ((hkp3 m hrm.symm).trans hmr) hm1 HN.out
        rw [hkey, hval] at hrun hent
        have rq3 : Row W3 q #[zq, .map (some m2), vq] TabT := ⟨(hkp3 q hrq).trans hI.row.eq⟩
        have hsm3 : SomeMap W3 m2 := hI.mp.via (hkp3 m2 hrm2)
        have HI := Lib.hid hI
        unfold entV at hrun hent
        clear hI hm1 hal hmr hk1 hsz1 hkey hval hkp3
        go_wp2_with fail
        have hn := below_alloc W3 (.cells #[.int .i64 1, .int .i64 i, .int .u32 g, .int .i64 ((k : Int) + 1), .int .i64 k, .int .u32 1] 108)
        have rb := Row.new (W := W3) (cs := #[.int .i64 1, .int .i64 i, .int .u32 g, .int .i64 ((k : Int) + 1), .int .i64 k, .int .u32 1]) (t := 108)
        rw [hs3] at rb
        have hi4 := (hn.block r (by rw [hs3]; exact hrl)).trans hit3
        have rq4 := rq3.on hn
        have hsm4 := hsm3.on hn
        have hc4 := chain hc3 hn
        clear hn rq3 hit3 hs3 hc3 hsm3 hrun hent
        generalize W3.alloc (.cells #[.int .i64 1, .int .i64 i, .int .u32 g, .int .i64 ((k : Int) + 1), .int .i64 k, .int .u32 1] 108) = W4 at *
        refine wp_region_held_drew (S := fun W' => (∀ j, W'.cell? ⟨q, j, none⟩ = (#[zq, .map (some m2), vq] : Array Value)[j]?) ∧ (∀ j, W'.cell? ⟨wr.heap.size, j, none⟩ = (#[.int .i64 1, .int .i64 i, .int .u32 g, .int .i64 ((k : Int) + 1), .int .i64 k, .int .u32 1] : Array Value)[j]?)) (by kernel_rfl) ⟨rq4.cell, rb.cell⟩ (fun hHeld => ?_)
        replace rq4 := rq4.drew
        replace rb := rb.drew
        replace hc4 := hc4.drew
        replace hsm4 : SomeMap W4.drew m2 := hsm4
        replace hi4 : W4.drew.heap[r]? = some (.mapIter (some m) clk (seen.push me.born) clk) := hi4
        generalize W4.drew = W5 at *
        refine' wpAnyH_take (i := 0) (oi := _) (v := _) ?_ (by kernel_rfl) (by kernel_rfl) (by kernel_rfl) ?_ (Or.inl ⟨?_, ?_⟩) (by assumption) ?_
        rotate_left 2
        · (simp only [List.getElem?_toArray, List.getElem?_cons_succ, List.getElem?_cons_zero]; rfl)
        · first | exact fun _ _ _ h => h | exact fun _ _ _ h => nomatch h.1
        · rfl
        · (intro W hSW; (try dsimp only at hSW); go_split_ands; first | (go_simp; done) | (go_simp; with_reducible rfl))
        try simp only [Act.put, List.setIfInBounds_toArray, List.set_cons_zero, List.set_cons_succ]
        refine' wpAnyH_take (i := 1) (oi := _) (v := _) ?_ (by kernel_rfl) (by kernel_rfl) (by kernel_rfl) ?_ (Or.inl ⟨?_, ?_⟩) (by assumption) ?_
        rotate_left 2
        · (simp only [List.getElem?_toArray, List.getElem?_cons_succ, List.getElem?_cons_zero]; rfl)
        · first | exact fun _ _ _ h => h | exact fun _ _ _ h => nomatch h.1
        · rfl
        · (intro W hSW; (try dsimp only at hSW); go_split_ands; first | (go_simp; done) | (go_simp; with_reducible rfl))
        try simp only [Act.put, List.setIfInBounds_toArray, List.set_cons_zero, List.set_cons_succ]
        refine' wpAnyH_take (i := 2) (oi := _) (v := _) ?_ (by kernel_rfl) (by kernel_rfl) (by kernel_rfl) ?_ (Or.inl ⟨?_, ?_⟩) (by assumption) ?_
        rotate_left 2
        · (simp only [List.getElem?_toArray, List.getElem?_cons_succ, List.getElem?_cons_zero]; rfl)
        · first | exact fun _ _ _ h => h | exact fun _ _ _ h => nomatch h.1
        · rfl
        · (intro W hSW; (try dsimp only at hSW); go_split_ands; first | (go_simp; done) | (go_simp; with_reducible rfl))
        try simp only [Act.put, List.setIfInBounds_toArray, List.set_cons_zero, List.set_cons_succ]
        refine' wpAnyH_take (i := 3) (oi := _) (v := _) ?_ (by kernel_rfl) (by kernel_rfl) (by kernel_rfl) ?_ (Or.inl ⟨?_, ?_⟩) (by assumption) ?_
        rotate_left 2
        · (simp only [List.getElem?_toArray, List.getElem?_cons_succ, List.getElem?_cons_zero]; rfl)
        · first | exact fun _ _ _ h => h | exact fun _ _ _ h => nomatch h.1
        · rfl
        · (intro W hSW; (try dsimp only at hSW); go_split_ands; first | (go_simp; done) | (go_simp; with_reducible rfl))
        try simp only [Act.put, List.setIfInBounds_toArray, List.set_cons_zero, List.set_cons_succ]
        refine' wpAnyH_take (i := 4) (oi := _) (v := _) ?_ (by kernel_rfl) (by kernel_rfl) (by kernel_rfl) ?_ (Or.inl ⟨?_, ?_⟩) (by assumption) ?_
        rotate_left 2
        · (simp only [List.getElem?_toArray, List.getElem?_cons_succ, List.getElem?_cons_zero]; rfl)
        · first | exact fun _ _ _ h => h | exact fun _ _ _ h => nomatch h.1
        · rfl
        · (intro W hSW; (try dsimp only at hSW); go_split_ands; first | (go_simp; done) | (go_simp; with_reducible rfl))
        try simp only [Act.put, List.setIfInBounds_toArray, List.set_cons_zero, List.set_cons_succ]
        refine' wpAnyH_take (i := 5) (oi := _) (v := _) ?_ (by kernel_rfl) (by kernel_rfl) (by kernel_rfl) ?_ (Or.inl ⟨?_, ?_⟩) (by assumption) ?_
        rotate_left 2
        · (simp only [List.getElem?_toArray, List.getElem?_cons_succ, List.getElem?_cons_zero]; rfl)
        · first | exact fun _ _ _ h => h | exact fun _ _ _ h => nomatch h.1
        · rfl
        · (intro W hSW; (try dsimp only at hSW); go_split_ands; first | (go_simp; done) | (go_simp; with_reducible rfl))
        try simp only [Act.put, List.setIfInBounds_toArray, List.set_cons_zero, List.set_cons_succ]
        clear hHeld
        obtain ⟨o, hrun, hsm5⟩ := hsm4.update (P := Tryz.prog) Tryz.underlying71 Tryz.underlying3 n (.agg #[.int .i64 1, .int .i64 i, .int .u32 g, .int .i64 ((k : Int) + 1), .int .i64 k, .int .u32 1])
        refine wpAnyH_ready (rs := [6]) (by kernel_rfl) (by simp) ?_
        refine' AllReadyH.cons (o := _) ?_ (fun K hK => ?_) AllReadyH.nil
        rotate_left 1
        · (simp only [List.getElem?_toArray, List.getElem?_cons_succ, List.getElem?_cons_zero]; rfl)
        go_simp
        have hmq : q ≠ m2 := fun e => hsm4.ne_row rq4 e.symm
        have hmb : wr.heap.size ≠ m2 := fun e => hsm4.ne_row rb e.symm
        replace rq4 := Row.setBlock (b := m2) (o := o) rq4 hmq
        replace rb := Row.setBlock (b := m2) (o := o) rb hmb
        have hi5 := (setBlock_heap (W := W5) (b := m2) (o := o) r hrm2.symm).trans hi4
        have hc5 : Below w.heap.size w (setBlock W5 m2 o) := by
          refine ⟨hc4.os, hc4.tape, hc4.output, by rw [setBlock_size]; exact hc4.size, fun b hb => (setBlock_heap b (fun e => by omega)).trans (hc4.block b hb)⟩
        clear hc4 hi4 hsm4 hrun
        generalize setBlock W5 m2 o = W7 at *
        refine hK.out _ _ ⟨rq4.cell, rb.cell⟩ (fun hHeld => ?_)
        clear hK K hHeld
        refine wpAnyH_done (by kernel_rfl) ?_ _
        have HST := Lib.hid (show CInv w W7 clk m r q m2 zq vq (seen.push me.born) clk from ⟨hc5, hi5, HI.out.ir, Nat.le_refl _, rq4, hsm5, hqf, hmf⟩)
        clear hc5 hi5 rq4 rb hsm5
        go_wp2_with fail
        refine ⟨⟨_, _, HST.out⟩, ?_⟩
        have e1 : W7.iterSeen r = seen.push me.born := by unfold World.iterSeen; rw [HST.out.it]
        have e2 : wr.iterSeen r = seen := by unfold World.iterSeen; rw [HI.out.it]
        rw [e1, e2]
        exact left_shrinks _ seen me hme
/-- The counts under way: the states below j are counted. -/
def cv (rs : List RS) (q : Int) (j i : Nat) : Int := if i = 0 then rs.length + q else (if i = 3 then q else 0) + (if i < j then ((cntS rs i : Nat) : Int) else 0)
def cvA (rs : List RS) (q : Int) (j : Nat) : Array Value := #[.int .i64 (cv rs q j 0), .int .i64 (cv rs q j 1), .int .i64 (cv rs q j 2), .int .i64 (cv rs q j 3), .int .i64 (cv rs q j 4)]
theorem cvA_get (rs : List RS) (q : Int) {j : Nat} (h1 : 1 ≤ j) (h2 : j ≤ 4) : (cvA rs q j)[j]? = some (.int .i64 (cv rs q j j)) := by
  obtain rfl | rfl | rfl | rfl : j = 1 ∨ j = 2 ∨ j = 3 ∨ j = 4 := by omega
  all_goals rfl
theorem cvA_next (rs : List RS) (q : Int) {j : Nat} (h1 : 1 ≤ j) (h2 : j ≤ 4) : (cvA rs q j).setIfInBounds j (.int .i64 (cv rs q j j + (cntS rs (j : Int) : Nat))) = cvA rs q (j + 1) := by
  obtain rfl | rfl | rfl | rfl : j = 1 ∨ j = 2 ∨ j = 3 ∨ j = 4 := by omega
  all_goals simp [cvA, cv]
theorem csst_c (a b c d e : Int) (w : World) : Ret 21 #[.agg #[.int .i64 a, .int .i64 b, .int .i64 c, .int .i64 d, .int .i64 e]] w (stV a b c d e) := by
  go_enter Tryz.func21, Tryz.ntmps21
  go_wp2_with fail
  go_returns
  exact ⟨rfl, by go_grown⟩
theorem of_c {w : World} {F : Nat → Prop} {p : Nat} {sl : List SlotR} {rs : List RS} (q : Int) (h : Tab w F p sl rs) : Ret 8 #[ptr p, .int .i64 q] w (ofV rs q) := by
  obtain ⟨z, m, cs, v, h⟩ := h
  have hm := h.most
  obtain ⟨a, c, rfl⟩ := h.list
  have HH := Lib.hid h
  clear h
  go_enter Tryz.func8, Tryz.ntmps8
  go_upto_region 1 with fail
  have rr := Row.new (W := w) (cs := #[.int .i64 0, .int .i64 0, .int .i64 0, .int .i64 0, .int .i64 0]) (t := 31)
  have hc := below_alloc w (.cells #[.int .i64 0, .int .i64 0, .int .i64 0, .int .i64 0, .int .i64 0] 31)
  generalize w.alloc _ = V at *
  go_wp2_with fail
  refine Calls.mono (tcopy_c (HH.out.on hc)) ?_
  rintro e V1 ⟨⟨x, rfl⟩, hn⟩
  replace rr := rr.on hn
  replace hc := chain hc hn
  clear hn
  have yr := rr.cell
  have fr := rr.free
  have zr := rr.lt
  by_cases h0 : q < 0
  · have e1 : ofV rs q = .tuple #[stV 0 0 0 0 0, .int .i64 2] := by unfold ofV; rw [if_pos (.inl h0)]
    have E1 := Lib.hid e1
    clear e1
    go_wp2_with fail
    refine bodyPost_ret (v := .tuple #[stV 0 0 0 0 0, .int .i64 2]) (by simp [results, Tryz.results8, go_sem, yr, zr]) rfl ⟨by rw [E1.out], ?_⟩
    refine Below.setCell ?_ (by simp) _
    refine Below.setCell ?_ (by simp) _
    refine Below.setCell ?_ (by simp) _
    refine Below.setCell ?_ (by simp) _
    exact hc.setCell (by simp) _
  by_cases h8 : 8000 < q
  · have e1 : ofV rs q = .tuple #[stV 0 0 0 0 0, .int .i64 2] := by unfold ofV; rw [if_pos (.inr h8)]
    have E1 := Lib.hid e1
    clear e1
    have h9 : q > 8000 := h8
    go_wp2_with fail
    refine bodyPost_ret (v := .tuple #[stV 0 0 0 0 0, .int .i64 2]) (by simp [results, Tryz.results8, go_sem, yr, zr]) rfl ⟨by rw [E1.out], ?_⟩
    refine Below.setCell ?_ (by simp) _
    refine Below.setCell ?_ (by simp) _
    refine Below.setCell ?_ (by simp) _
    refine Below.setCell ?_ (by simp) _
    exact hc.setCell (by simp) _
  have e1 : ofV rs q = .tuple #[stV (rs.length + q) (cntS rs 1 : Nat) (cntS rs 2 : Nat) ((cntS rs 3 : Nat) + q) (cntS rs 4 : Nat), .int .i64 0] := by unfold ofV; rw [if_neg (by omega)]
  have E1 := Lib.hid e1
  clear e1
  have h9 : ¬ (q > 8000) := h8
  go_wp2_with fail
  refine Calls.mono (tlen_c (HH.out.on hc).row) ?_
  rintro e V2 ⟨rfl, hW⟩
  subst V2
  clear yr fr zr
  have hw1 : IntKind.i64.wrap ((rs.length : Int) + q) = rs.length + q := IntWalk.i64_in _ ⟨by omega, by omega⟩
  go_upto_region 6 with fail
  have hn := below_alloc V1 (.cells #[.int .i64 (rs.length + q), .int .i64 0, .int .i64 0, .int .i64 q, .int .i64 0] 62)
  have rc := Row.new (W := V1) (cs := #[.int .i64 (rs.length + q), .int .i64 0, .int .i64 0, .int .i64 q, .int .i64 0]) (t := 62)
  have ha6 := hc.size
  have ha7 := rr.lt
  replace rr := rr.on hn
  replace hc := chain hc hn
  clear hn
  generalize V1.alloc (.cells #[.int .i64 (rs.length + q), .int .i64 0, .int .i64 0, .int .i64 q, .int .i64 0] 62) = V3 at *
  generalize V1.heap.size = a6 at *
  have rc1 : Row V3 a6 (cvA rs q 1) 62 := by
    have : cvA rs q 1 = #[.int .i64 (rs.length + q), .int .i64 0, .int .i64 0, .int .i64 q, .int .i64 0] := by simp [cvA, cv]
    rw [this]
    exact rc
  clear rc
  go_wp2_with fail
  go_loopw [7] (fun iv wr => ∃ j : Nat, 1 ≤ j ∧ j ≤ 5 ∧ iv = .int .i64 j ∧ Row wr a6 (cvA rs q j) 62 ∧ Row wr w.heap.size #[.int .i64 0, .int .i64 0, .int .i64 0, .int .i64 0, .int .i64 0] 31 ∧ Below w.heap.size w wr) (fun iv _ => 5 - (intOf iv).toNat)
  case atStart => exact ⟨1, by omega, by omega, rfl, rc1, rr, hc⟩
  case round =>
    clear rc1 rr hc
    obtain ⟨j, hj1, hj5, rfl, rc, rr, hc⟩ := hrel
    by_cases hlt : j < 5
    · have j0 : (0 : Int) ≤ (j : Int) := by omega
      have j1 : (j : Int) < 5 := by omega
      have j2 : (j : Int) ≤ 4 := by omega
      have hj2 : j ≤ 4 := by omega
      have hcn : cntS rs (j : Int) ≤ rs.length := List.countP_le_length
      have hwr : IntKind.i64.wrap (cv rs q j j + (cntS rs (j : Int) : Nat)) = cv rs q j j + (cntS rs (j : Int) : Nat) := by
        refine IntWalk.i64_in _ ?_
        unfold cv
        rw [if_neg (show ¬ j = 0 by omega), if_neg (Nat.lt_irrefl j)]
        constructor <;> split <;> omega
      go_upto_region 9 with fail
      refine wp_region_held_drew (S := fun W' => True) (by kernel_rfl) trivial (fun hHeld => ?_)
      replace rc := rc.drew
      replace rr := rr.drew
      replace hc := hc.drew
      generalize wr.drew = X at *
    --ORDERS
      refine' wpAnyH_take (i := 0) (oi := _) (v := _) ?_ (by kernel_rfl) (by kernel_rfl) (by kernel_rfl) ?_ (Or.inl ⟨?_, ?_⟩) (by assumption) ?_
      rotate_left 2
      · (simp only [List.getElem?_toArray, List.getElem?_cons_succ, List.getElem?_cons_zero]; rfl)
      · first | exact fun _ _ _ h => h | exact fun _ _ _ h => nomatch h.1
      · rfl
      · (intro W hSW; (try dsimp only at hSW); go_split_ands; first | (go_simp; done) | (go_simp; with_reducible rfl))
      try simp only [Act.put, List.setIfInBounds_toArray, List.set_cons_zero, List.set_cons_succ]
      refine' wpAnyH_take (i := 1) (oi := _) (v := _) ?_ (by kernel_rfl) (by kernel_rfl) (by kernel_rfl) ?_ (Or.inl ⟨?_, ?_⟩) (by assumption) ?_
      rotate_left 2
      · (simp only [List.getElem?_toArray, List.getElem?_cons_succ, List.getElem?_cons_zero]; rfl)
      · first | exact fun _ _ _ h => h | exact fun _ _ _ h => nomatch h.1
      · rfl
      · (intro W hSW; (try dsimp only at hSW); go_split_ands; first | (go_simp; done) | (go_simp; with_reducible rfl))
      try simp only [Act.put, List.setIfInBounds_toArray, List.set_cons_zero, List.set_cons_succ]
      refine' wpAnyH_take (i := 3) (oi := _) (v := _) ?_ (by kernel_rfl) (by kernel_rfl) (by kernel_rfl) ?_ (Or.inl ⟨?_, ?_⟩) (by assumption) ?_
      rotate_left 2
      · (simp only [List.getElem?_toArray, List.getElem?_cons_succ, List.getElem?_cons_zero]; rfl)
      · first | exact fun _ _ _ h => h | exact fun _ _ _ h => nomatch h.1
      · rfl
      · (intro W hSW; (try dsimp only at hSW); go_split_ands; first | (go_simp; done) | (go_simp; with_reducible rfl))
      try simp only [Act.put, List.setIfInBounds_toArray, List.set_cons_zero, List.set_cons_succ]
      refine' wpAnyH_take (i := 4) (oi := _) (v := _) ?_ (by kernel_rfl) (by kernel_rfl) (by kernel_rfl) ?_ (Or.inl ⟨?_, ?_⟩) (by assumption) ?_
      rotate_left 2
      · (simp only [List.getElem?_toArray, List.getElem?_cons_succ, List.getElem?_cons_zero]; rfl)
      · first | exact fun _ _ _ h => h | exact fun _ _ _ h => nomatch h.1
      · rfl
      · (intro W hSW; (try dsimp only at hSW); go_split_ands; first | (go_simp; done) | (go_simp; with_reducible rfl))
      try simp only [Act.put, List.setIfInBounds_toArray, List.set_cons_zero, List.set_cons_succ]
      clear hHeld
      refine wpAnyH_ready (rs := [2, 5]) (by kernel_rfl) (by simp) ?_
      refine' AllReadyH.cons (o := _) (by simp only [List.getElem?_toArray, List.getElem?_cons_succ, List.getElem?_cons_zero]; rfl) (fun K hK => ?_) (AllReadyH.cons (o := _) (by simp only [List.getElem?_toArray, List.getElem?_cons_succ, List.getElem?_cons_zero]; rfl) (fun K hK => ?_) AllReadyH.nil)
      · have y9 := (rc.cell j).trans (cvA_get rs q hj1 hj2)
        go_simp
        clear y9
        refine hK.out _ _ trivial (fun hHeld => ?_)
        clear hK K hHeld
        refine wpAnyH_ready (rs := [5]) (by kernel_rfl) (by simp) ?_
        refine' AllReadyH.cons (o := _) (by simp only [List.getElem?_toArray, List.getElem?_cons_succ, List.getElem?_cons_zero]; rfl) (fun K hK => ?_) AllReadyH.nil
        go_simp
        refine (tnumbers_c (j : Int) (HH.out.on hc)).mono ?_
        rintro e Y1 ⟨an, cn, rfl, hn⟩
        go_simp
        replace rc := rc.on hn
        replace rr := rr.on hn
        replace hc := chain hc hn
        clear hn
        refine hK.out _ _ trivial (fun hHeld => ?_)
        clear hK K hHeld
        refine wpAnyH_ready (rs := [6]) (by kernel_rfl) (by simp) ?_
        refine' AllReadyH.cons (o := _) (by simp only [List.getElem?_toArray, List.getElem?_cons_succ, List.getElem?_cons_zero]; rfl) (fun K hK => ?_) AllReadyH.nil
        go_simp
        refine hK.out _ _ trivial (fun hHeld => ?_)
        clear hK K hHeld
        refine wpAnyH_ready (rs := [7]) (by kernel_rfl) (by simp) ?_
        refine' AllReadyH.cons (o := _) (by simp only [List.getElem?_toArray, List.getElem?_cons_succ, List.getElem?_cons_zero]; rfl) (fun K hK => ?_) AllReadyH.nil
        go_simp
        refine hK.out _ _ trivial (fun hHeld => ?_)
        clear hK K hHeld
        refine wpAnyH_ready (rs := [8]) (by kernel_rfl) (by simp) ?_
        refine' AllReadyH.cons (o := _) (by simp only [List.getElem?_toArray, List.getElem?_cons_succ, List.getElem?_cons_zero]; rfl) (fun K hK => ?_) AllReadyH.nil
        go_simp
        refine hK.out _ _ trivial (fun hHeld => ?_)
        clear hK K hHeld
        have u9 := rc.free
        have z9 := rc.lt
        have y9 := (rc.cell j).trans (cvA_get rs q hj1 hj2)
        refine wpAnyH_ready (rs := [9]) (by kernel_rfl) (by simp) ?_
        refine' AllReadyH.cons (o := _) (by simp only [List.getElem?_toArray, List.getElem?_cons_succ, List.getElem?_cons_zero]; rfl) (fun K hK => ?_) AllReadyH.nil
        go_simp
        refine hK.out _ _ trivial (fun hHeld => ?_)
        clear hK K hHeld u9 z9 y9
        refine wpAnyH_done (by kernel_rfl) ?_ _
        go_wp2_with fail
        go_roundw
        case rel =>
          refine ⟨j + 1, by omega, by omega, by go_num, ?_, rr.other (by omega) j _, hc.setCell (by simp; omega) _⟩
          have r9 := rc.set j (.int .i64 (cv rs q j j + (cntS rs (j : Int) : Nat)))
          rw [cvA_next rs q hj1 (by omega)] at r9
          exact r9
        case measure => simp [intOf]; omega
      · go_simp
        refine (tnumbers_c (j : Int) (HH.out.on hc)).mono ?_
        rintro e Y1 ⟨an, cn, rfl, hn⟩
        go_simp
        replace rc := rc.on hn
        replace rr := rr.on hn
        replace hc := chain hc hn
        clear hn
        refine hK.out _ _ trivial (fun hHeld => ?_)
        clear hK K hHeld
        refine wpAnyH_ready (rs := [2, 6]) (by kernel_rfl) (by simp) ?_
        refine' AllReadyH.cons (o := _) (by simp only [List.getElem?_toArray, List.getElem?_cons_succ, List.getElem?_cons_zero]; rfl) (fun K hK => ?_) (AllReadyH.cons (o := _) (by simp only [List.getElem?_toArray, List.getElem?_cons_succ, List.getElem?_cons_zero]; rfl) (fun K hK => ?_) AllReadyH.nil)
        · have y9 := (rc.cell j).trans (cvA_get rs q hj1 hj2)
          go_simp
          clear y9
          refine hK.out _ _ trivial (fun hHeld => ?_)
          clear hK K hHeld
          refine wpAnyH_ready (rs := [6]) (by kernel_rfl) (by simp) ?_
          refine' AllReadyH.cons (o := _) (by simp only [List.getElem?_toArray, List.getElem?_cons_succ, List.getElem?_cons_zero]; rfl) (fun K hK => ?_) AllReadyH.nil
          go_simp
          refine hK.out _ _ trivial (fun hHeld => ?_)
          clear hK K hHeld
          refine wpAnyH_ready (rs := [7]) (by kernel_rfl) (by simp) ?_
          refine' AllReadyH.cons (o := _) (by simp only [List.getElem?_toArray, List.getElem?_cons_succ, List.getElem?_cons_zero]; rfl) (fun K hK => ?_) AllReadyH.nil
          go_simp
          refine hK.out _ _ trivial (fun hHeld => ?_)
          clear hK K hHeld
          refine wpAnyH_ready (rs := [8]) (by kernel_rfl) (by simp) ?_
          refine' AllReadyH.cons (o := _) (by simp only [List.getElem?_toArray, List.getElem?_cons_succ, List.getElem?_cons_zero]; rfl) (fun K hK => ?_) AllReadyH.nil
          go_simp
          refine hK.out _ _ trivial (fun hHeld => ?_)
          clear hK K hHeld
          have u9 := rc.free
          have z9 := rc.lt
          have y9 := (rc.cell j).trans (cvA_get rs q hj1 hj2)
          refine wpAnyH_ready (rs := [9]) (by kernel_rfl) (by simp) ?_
          refine' AllReadyH.cons (o := _) (by simp only [List.getElem?_toArray, List.getElem?_cons_succ, List.getElem?_cons_zero]; rfl) (fun K hK => ?_) AllReadyH.nil
          go_simp
          refine hK.out _ _ trivial (fun hHeld => ?_)
          clear hK K hHeld u9 z9 y9
          refine wpAnyH_done (by kernel_rfl) ?_ _
          go_wp2_with fail
          go_roundw
          case rel =>
            refine ⟨j + 1, by omega, by omega, by go_num, ?_, rr.other (by omega) j _, hc.setCell (by simp; omega) _⟩
            have r9 := rc.set j (.int .i64 (cv rs q j j + (cntS rs (j : Int) : Nat)))
            rw [cvA_next rs q hj1 (by omega)] at r9
            exact r9
          case measure => simp [intOf]; omega
        · go_simp
          refine hK.out _ _ trivial (fun hHeld => ?_)
          clear hK K hHeld
          refine wpAnyH_ready (rs := [2]) (by kernel_rfl) (by simp) ?_
          refine' AllReadyH.cons (o := _) (by simp only [List.getElem?_toArray, List.getElem?_cons_succ, List.getElem?_cons_zero]; rfl) (fun K hK => ?_) AllReadyH.nil
          have y9 := (rc.cell j).trans (cvA_get rs q hj1 hj2)
          go_simp
          clear y9
          refine hK.out _ _ trivial (fun hHeld => ?_)
          clear hK K hHeld
          refine wpAnyH_ready (rs := [7]) (by kernel_rfl) (by simp) ?_
          refine' AllReadyH.cons (o := _) (by simp only [List.getElem?_toArray, List.getElem?_cons_succ, List.getElem?_cons_zero]; rfl) (fun K hK => ?_) AllReadyH.nil
          go_simp
          refine hK.out _ _ trivial (fun hHeld => ?_)
          clear hK K hHeld
          refine wpAnyH_ready (rs := [8]) (by kernel_rfl) (by simp) ?_
          refine' AllReadyH.cons (o := _) (by simp only [List.getElem?_toArray, List.getElem?_cons_succ, List.getElem?_cons_zero]; rfl) (fun K hK => ?_) AllReadyH.nil
          go_simp
          refine hK.out _ _ trivial (fun hHeld => ?_)
          clear hK K hHeld
          have u9 := rc.free
          have z9 := rc.lt
          have y9 := (rc.cell j).trans (cvA_get rs q hj1 hj2)
          refine wpAnyH_ready (rs := [9]) (by kernel_rfl) (by simp) ?_
          refine' AllReadyH.cons (o := _) (by simp only [List.getElem?_toArray, List.getElem?_cons_succ, List.getElem?_cons_zero]; rfl) (fun K hK => ?_) AllReadyH.nil
          go_simp
          refine hK.out _ _ trivial (fun hHeld => ?_)
          clear hK K hHeld u9 z9 y9
          refine wpAnyH_done (by kernel_rfl) ?_ _
          go_wp2_with fail
          go_roundw
          case rel =>
            refine ⟨j + 1, by omega, by omega, by go_num, ?_, rr.other (by omega) j _, hc.setCell (by simp; omega) _⟩
            have r9 := rc.set j (.int .i64 (cv rs q j j + (cntS rs (j : Int) : Nat)))
            rw [cvA_next rs q hj1 (by omega)] at r9
            exact r9
          case measure => simp [intOf]; omega
    --ENDORDERS
    · obtain rfl : j = 5 := by omega
      have y9 := rc.cell
      have z9 := rc.lt
      have e5 : cvA rs q 5 = #[.int .i64 (rs.length + q), .int .i64 (cntS rs 1 : Nat), .int .i64 (cntS rs 2 : Nat), .int .i64 (q + (cntS rs 3 : Nat)), .int .i64 (cntS rs 4 : Nat)] := by simp [cvA, cv]
      rw [e5] at y9
      go_wp2_with fail
      refine Calls.mono (csst_c _ _ _ _ _ _) ?_
      rintro e V2 ⟨rfl, hn⟩
      replace rr := rr.on hn
      replace hc := chain hc hn
      have yr := rr.cell
      have fr := rr.free
      have zr := rr.lt
      clear y9 z9
      go_wp2_with fail
      refine bodyPost_ret (v := .tuple #[stV (rs.length + q) (cntS rs 1 : Nat) (cntS rs 2 : Nat) (q + (cntS rs 3 : Nat)) (cntS rs 4 : Nat), .int .i64 0]) (by simp [results, Tryz.results8, go_sem, yr, zr]) rfl ⟨by rw [E1.out, Int.add_comm ((cntS rs 3 : Nat) : Int) q], ?_⟩
      refine Below.setCell ?_ (by simp) _
      refine Below.setCell ?_ (by simp) _
      refine Below.setCell ?_ (by simp) _
      refine Below.setCell ?_ (by simp) _
      exact hc.setCell (by simp) _
end Go.Proofs.YtkjpdciccablpaaGreatDoor

/- stats.Of of a table that was just made. -/
namespace Go.Proofs.YtkjpdciccablpaaGreatDoor
open Go.RowKit

theorem NewTab.keep {w w' : World} {M : Nat} (h : NewTab w M) (hb : Below w.heap.size w w') : NewTab w' M := by
  obtain ⟨N, K, cs, hN, hs, h0, h1, hK, hM⟩ := h
  exact ⟨N, K, cs, (hb.block N (lt_of_heap hN)).trans hN, hs, h0, h1, (hb.block K (lt_of_heap hK)).trans hK, (hb.block M (lt_of_heap hM)).trans hM⟩
theorem zc_one : Tryz.zeroCells121.all (·.oneCell') = true := by kernel_rfl
set_option maxHeartbeats 2000000 in
theorem tabNew_exact (w : World) : Calls Tryz.prog 14 #[.int .i64 3, .int .u32 1] w fun e w' => e = .returned (.tuple #[.pointer (some ⟨w.heap.size + 1 + 1, 0, none⟩), .int .i64 0]) ∧ w' = (((w.alloc (.cells ((((Tryz.zeroCells121.setIfInBounds 0 (.int .i64 3)).setIfInBounds 2 (.int .u32 1)).setIfInBounds 4 (.int .u32 1)).setIfInBounds 6 (.int .u32 1)) 121)).alloc (.map #[] 0)).alloc (.cells #[.pointer (some ⟨w.heap.size, 0, none⟩), .map (some (w.heap.size + 1)), .slice none 0 0] 74)) := by
  have hz := zc_size
  have hmm := @run_makeMap Tryz.prog
  go_enter Tryz.func14, Tryz.ntmps14
  go_wp2
  go_rounds 4
  go_returns
  exact ⟨rfl, rfl⟩
theorem all_set {cs : Array Value} {p : Value → Bool} (h : cs.all p = true) (i : Nat) (v : Value) (hv : p v = true) : (cs.setIfInBounds i v).all p = true := by
  rw [Array.all_eq_true] at h ⊢
  intro j hj
  rw [Array.getElem_setIfInBounds]
  split
  · exact hv
  · exact h j (by simpa using hj)
theorem tabNew (w : World) : Calls Tryz.prog 14 #[.int .i64 3, .int .u32 1] w fun e w' => ∃ M, e = .returned (.tuple #[.pointer (some ⟨M, 0, none⟩), .int .i64 0]) ∧ NewTab w' M ∧ Below w.heap.size w w' :=
  (tabNew_exact w).mono fun e w' ⟨he, hw⟩ => by
    subst hw
    refine ⟨_, he, ⟨w.heap.size, w.heap.size + 1, (((Tryz.zeroCells121.setIfInBounds 0 (.int .i64 3)).setIfInBounds 2 (.int .u32 1)).setIfInBounds 4 (.int .u32 1)).setIfInBounds 6 (.int .u32 1), ?_, ?_, ?_, ?_, ?_, ?_⟩, by go_grown⟩
    · rw [Below.heap_alloc _ _ _ (by simp; omega), Below.heap_alloc _ _ _ (by simp)]
      exact heap_alloc_new w _
    · simp
    · simp
    · exact all_set (all_set (all_set (all_set zc_one _ _ rfl) _ _ rfl) _ _ rfl) _ _ rfl
    · rw [Below.heap_alloc _ _ _ (by simp)]
      exact heap_alloc2_new w _ _
    · have h := heap_alloc_new ((w.alloc (.cells ((((Tryz.zeroCells121.setIfInBounds 0 (.int .i64 3)).setIfInBounds 2 (.int .u32 1)).setIfInBounds 4 (.int .u32 1)).setIfInBounds 6 (.int .u32 1)) 121)).alloc (.map #[] 0)) (.cells #[.pointer (some ⟨w.heap.size, 0, none⟩), .map (some (w.heap.size + 1)), .slice none 0 0] 74)
      simpa using h
set_option maxRecDepth 20000 in
theorem tabLen (w : World) (M : Nat) (h : NewTab w M) : Calls Tryz.prog 19 #[.pointer (some ⟨M, 0, none⟩)] w fun e w' => e = .returned (.int .i64 0) ∧ w' = w := by
  obtain ⟨N, K, cs, hN, hs, h0, h1, hK, hM⟩ := h
  have c1 := cell_of_row w M 1 _ 74 (0, 0) hM
  have c2 := cell_of_row w M 2 _ 74 (0, 0) hM
  simp at c1 c2
  have hne := fun w r => run_neq_map_nil (P := Tryz.prog) w 71 _ _ r Tryz.underlying71
  clear hN hK hM hs h0 h1
  go_enter Tryz.func19, Tryz.ntmps19
  go_wp2
  go_returns
  exact ⟨rfl, rfl⟩
set_option maxRecDepth 20000 in
theorem tabNumbers (w : World) (M : Nat) (k : Int) (h : NewTab w M) : Calls Tryz.prog 20 #[.pointer (some ⟨M, 0, none⟩), .int .i64 k] w fun e w' => e = .returned (.slice none 0 0) ∧ w' = w := by
  obtain ⟨N, K, cs, hN, hs, h0, h1, hK, hM⟩ := h
  have c1 := cell_of_row w M 1 _ 74 (0, 0) hM
  have c2 := cell_of_row w M 2 _ 74 (0, 0) hM
  simp at c1 c2
  have hne := fun w r => run_neq_map_nil (P := Tryz.prog) w 71 _ _ r Tryz.underlying71
  clear hN hK hM hs h0 h1
  go_enter Tryz.func20, Tryz.ntmps20
  go_wp2
  go_rounds 1
  go_returns
  exact ⟨rfl, rfl⟩
end Go.Proofs.YtkjpdciccablpaaGreatDoor
