/- own -/
import Derived.Test.YtopaaegigcfkeaaGreatTM1
import Derived.Test.YtopaaegigcfkeaaGreatProg
import Derived.WalkKit
import Derived.BigCall
import Derived.BigQuiet
import Derived.BigRegion
import Derived.StillTailTactics
import Derived.Deep.RegionWith
import Derived.Shelf.RegionOpenPlain
import Derived.Lib.Walk
import Derived.Lib.SliceRun
import Derived.Lib.JoinLaws
import Derived.Lib.AppendZeros
import Derived.Lib.AppendZerosOnto
import Derived.Lib.Overlaps
import Derived.Laws.Externs
import Derived.Laws.IdiomCopy
import Derived.Laws.NewBlocks
import Derived.Test.YtopaaegigcfkeaaGreatTGMlw
import Derived.Test.YtopaaegigcfkeaaGreatTView
import Derived.Test.YtopaaegigcfkeaaGreatTM2
import Derived.KernelRfl
set_option linter.unusedSimpArgs false
set_option linter.unusedVariables false
namespace Go.Proofs.YtopaaegigcfkeaaGreat
open Go.Shelf Go.RowKit Go.Lib
theorem ins_copyI {P : Program} (w : World) {ops : Array Oper} {rest : List Oper} {o : Oper} {a : Act} {Q : Exit → Act → World → Prop} (hgd : o.guard = none) (d s : Operand) (t t' : TypeId)
    (ho : o.op = .call { callee := .builtin .copy, args := #[d, s], argTypes := #[t, t'] }) (v u : Value) (hd : a.eval d = v) (hs : a.eval s = u) {v' : Value} {w' : World}
    (hr : (Builtin.copy_ #[t, t'] o.type #[v, u]).run P w = .ok v' w') (h : wpList P ops Q rest (a.put o.dst v') w') : wpList P ops Q (o :: rest) a w :=
  wpList_plain hgd fun _ hK => by
    refine ?_
    unfold Oper.wp execOp
    simp only [ho, resolve, invoke, builtin, Sem.run_bind, Sem.run_pure, Result.andThen_ok, List.map_toArray, List.map_cons, List.map_nil, hd, hs, hr]
    exact hK _ _ h
theorem ins_copyO {P : Program} {ops : Array Oper} {o : Oper} {a : Act} {w : World} {K : Act → World → Prop} {Q : Exit → Act → World → Prop} {E : Prop}
    (hg : o.guard = none) (d x : Operand) (dT sT : TypeId) (hop : o.op = Op.call { callee := Callee.builtin Builtin.copy, args := #[d, x], argTypes := #[dT, sT] })
    (v u : Value) (hd : a.eval d = v) (hx : a.eval x = u) {v' : Value} {w' : World} (hr : (Builtin.copy_ #[dT, sT] o.type #[v, u]).run P w = .ok v' w') (hK : K (a.put o.dst v') w') :
    if Region.wanted o (yielded ops a.tmps) = true then Oper.wp P o a w K Q else E := by
  have hw : Region.wanted o (yielded ops a.tmps) = true := by simp [Region.wanted, hg]
  rw [if_pos hw]
  unfold Oper.wp
  simp [execOp, hop, resolve, invoke, builtin, hd, hx, hr, Result.andThen]
  exact hK
theorem run_copy2 {P : Program} (w : World) (dT sT ty elem : TypeId) (b o dLen dCap : Nat) (a : Addr) (sLen sCap : Nat) (cs : List Value)
    (hu : P.underlying dT = some (.slice elem)) (hs : (P.info? elem).map (·.size) = some 3) (k : Nat) (hk : k = Nat.min sLen dLen) (hn : cs.length = k * 3)
    (hsrc : ∀ j v, cs[j]? = some v → w.cell? (a.add j) = some v) (hc : ∀ j, j < cs.length → (w.cell? ⟨b, o + j, none⟩).isSome = true) (hf : ∀ j, j < cs.length → w.frozen? ⟨b, o + j, none⟩ = false) (h1 : ∀ v ∈ cs, v.oneCell' = true) :
    (Builtin.copy_ #[dT, sT] ty #[.slice (some ⟨b, o, none⟩) dLen dCap, .slice (some a) sLen sCap]).run P w = .ok (goInt k) (w.setCells b o cs) := by
  have hl := run_loadCells_list (P := P) w a cs hsrc
  have hst := run_storeCells_cells (P := P) b o cs 0 w (by simpa using hc) (by simpa using hf) h1
  cases hq : P.info? elem with
  | none => simp [hq] at hs
  | some i =>
    have hi : i.size = 3 := by simpa [hq] using hs
    simp [Builtin.copy_, run_underlying hu, Builtin.lenOf, Builtin.firstCells, sizeOf, typeInfo, hq, hi, ← hk, ← hn, hl, hst]
theorem isSome_set2 (b : Nat) (vs : List Value) (o : Nat) (w : World) (h : ∀ j, j < vs.length → (w.cell? ⟨b, o + j, none⟩).isSome = true) (k : Nat) (hk : (w.cell? ⟨b, k, none⟩).isSome = true) : ((w.setCells b o vs).cell? ⟨b, k, none⟩).isSome = true := by
  by_cases hin : o ≤ k ∧ k < o + vs.length
  · have := World.cell?_setCells_in b vs o w h (k - o) (by omega)
    rw [show o + (k - o) = k by omega] at this
    rw [this]; rfl
  · rw [World.cell?_setCells_out b vs o w ⟨b, k, none⟩ (fun _ _ => by show k < o ∨ o + vs.length ≤ k; omega)]
    exact hk
theorem rowInfo : (Tryz.prog.info? 185).map (·.size) = some 3 := by kernel_rfl
set_option maxHeartbeats 4000000 in
set_option maxRecDepth 100000 in
theorem ins_shift (b off n c i vb voff vc : Nat) (cs vs : List Value) (w : World) (hi : i < n) (hroom : n + 1 ≤ c) (hc63 : n + 1 ≤ 9223372036854775807) (hvb : vb ≠ b)
    (hcl : cs.length = n * 3) (hvl : vs.length = 1 * 3)
    (hcs : ∀ j v, cs[j]? = some v → w.cell? ⟨b, off + j, none⟩ = some v) (hsp : ∀ j, j < (n + 1) * 3 → (w.cell? ⟨b, off + j, none⟩).isSome = true) (hfz : ∀ j, j < (n + 1) * 3 → w.frozen? ⟨b, off + j, none⟩ = false)
    (hvs : ∀ j v, vs[j]? = some v → w.cell? ⟨vb, voff + j, none⟩ = some v) (h1c : ∀ v ∈ cs, v.oneCell' = true) (h1v : ∀ v ∈ vs, v.oneCell' = true)
    (tA tB : TypeId) (kA kB : Nat) (hsa : w.shape? vb = some (tA, kA)) (hsb : w.shape? b = some (tB, kB)) (hkB : kB ≠ 0) (hfa : w.frozen? ⟨vb, voff, none⟩ = false) (hfe : w.frozen? ⟨vb, kA, none⟩ = false) :
    Calls Tryz.prog 73 #[.slice (some ⟨b, off, none⟩) n c, .int .i64 i, .slice (some ⟨vb, voff, none⟩) 1 vc] w fun e w' =>
      e = .returned (.slice (some ⟨b, off, none⟩) (n + 1) c) ∧ w' = (w.drew.setCells b (off + (i + 1) * 3) (cs.drop (i * 3))).setCells b (off + i * 3) vs := by
  have hz2 : ¬ ((i : Int) = (n : Int)) := by omega
  have hov : ∀ lb cb, (callFunc 117 #[.slice (some ⟨vb, voff, none⟩) 1 vc, .slice (some ⟨b, off + (i + 1) * 3, none⟩) lb cb]).run Tryz.prog w = .ok (.value (.bool false)) w := fun lb cb => by
    rw [run_callFunc_extern Tryz.func117 (by kernel_rfl) (by kernel_rfl) (by kernel_rfl) (e := Extern.SlicesOverlaps.overlaps #[165, 165] #[4]) (by kernel_rfl),
      Lib.run_overlaps_apart w 165 4 185 Tryz.underlying165 3 Tryz.sizeOf185 ⟨vb, voff, none⟩ ⟨b, off + (i + 1) * 3, none⟩ 1 vc lb cb hvb tA tB kA kB hsa hsb hkB hfa hfe]
    rfl
  have hdl : (cs.drop (i * 3)).length = (n - i) * 3 := by rw [List.length_drop, hcl, Nat.sub_mul]
  have hw1 : IntKind.i64.wrap ((i : Int) + 1) = (i : Int) + 1 := by rw [IntKind.wrap_i64]; omega
  have hb1 : (0 : Int) ≤ (i : Int) + 1 := by omega
  have hin : i ≤ n := by omega
  have htn : ((i : Int) + 1).toNat = i + 1 := by omega
  have hb2 : ¬ (c = i + 1) := by omega
  have hb3 : (i : Int) ≤ (n : Int) + 1 := by omega
  have hb4 : ¬ (c = i) := by omega
  have hcp1 : ∀ ty dc sc, (Builtin.copy_ #[165, 165] ty #[.slice (some ⟨b, off + (i + 1) * 3, none⟩) (n - i) dc, .slice (some ⟨b, off + i * 3, none⟩) (n + 1 - i) sc]).run Tryz.prog w.drew = .ok (goInt (n - i : Nat)) (w.drew.setCells b (off + (i + 1) * 3) (cs.drop (i * 3))) := fun ty dc sc =>
    run_copy2 w.drew _ _ ty 185 b (off + (i + 1) * 3) (n - i) dc ⟨b, off + i * 3, none⟩ (n + 1 - i) sc (cs.drop (i * 3)) Tryz.underlying165 rowInfo (n - i) (by simp only [Nat.min_def]; split <;> omega) hdl
      (fun j v hj => by rw [Addr.add_lit, Nat.add_assoc]; exact hcs (i * 3 + j) v (by rwa [List.getElem?_drop] at hj))
      (fun j hj => by rw [Nat.add_assoc]; exact hsp _ (by omega)) (fun j hj => by rw [Nat.add_assoc]; exact hfz _ (by omega)) (fun v hv => h1c v (List.mem_of_mem_drop hv))
  obtain ⟨W1, hW1⟩ : ∃ W1, W1 = w.drew.setCells b (off + (i + 1) * 3) (cs.drop (i * 3)) := ⟨_, rfl⟩
  have hsp1 : ∀ k, k < (n + 1) * 3 → (W1.cell? ⟨b, off + k, none⟩).isSome = true := fun k hk => by
    rw [hW1]
    exact isSome_set2 b _ _ _ (fun j hj => by rw [Nat.add_assoc]; exact hsp _ (by omega)) _ (hsp k hk)
  have hcp2 : ∀ (W : World), (∀ x, W.cell? x = W1.cell? x) → (∀ x, W.frozen? x = W1.frozen? x) → ∀ ty dc, (Builtin.copy_ #[165, 165] ty #[.slice (some ⟨b, off + i * 3, none⟩) (n + 1 - i) dc, .slice (some ⟨vb, voff, none⟩) 1 vc]).run Tryz.prog W = .ok (goInt (1 : Nat)) (W.setCells b (off + i * 3) vs) := fun W hWc hWf ty dc =>
    run_copy2 W _ _ ty 185 b (off + i * 3) (n + 1 - i) dc ⟨vb, voff, none⟩ 1 vc vs Tryz.underlying165 rowInfo 1 (by simp only [Nat.min_def]; split <;> omega) hvl
      (fun j v hj => by
        rw [Addr.add_lit, hWc, hW1, World.cell?_setCells_out b _ _ _ _ (fun h _ => absurd h hvb)]
        exact hvs j v hj)
      (fun j hj => by rw [hWc, Nat.add_assoc]; exact hsp1 _ (by omega)) (fun j hj => by rw [hWf, hW1, World.frozen?_setCells, Nat.add_assoc]; exact hfz _ (by omega)) h1v
  rw [← hW1] at hcp1
  have mixed : Tryz.prog.follows Departure.mixedOrders = true := by kernel_rfl
  have u250 := run_underlying Tryz.underlying165
  have z249 := Tryz.sizeOf185
  go_enter Tryz.func73, Tryz.ntmps73
  go_wp2_with (simp only [hov])
  go_region_law_o (refine ins_copyO rfl _ _ 165 165 rfl _ _ (by simp [Act.eval, Act.put]) (by simp [Act.eval, Act.put]) (hcp1 _ _ _) ?_)
  go_wp2_with (at_builtin; refine ins_copyI _ rfl _ _ 165 165 rfl _ _ rfl rfl (hcp2 _ (fun _ => rfl) (fun _ => rfl) _ _) ?_)
  go_ret
  exact ⟨rfl, rfl⟩
set_option maxHeartbeats 4000000 in
set_option maxRecDepth 100000 in
theorem ins_grow (b off n c i vb voff vc : Nat) (cs vs : List Value) (w : World) (hi : i < n) (hnc : n ≤ c) (hroom : c < n + 1) (hbig : (n + 1) * 48 ≤ 140737488355328)
    (hcl : cs.length = n * 3) (hvl : vs.length = 1 * 3)
    (hcs : ∀ j v, cs[j]? = some v → w.cell? ⟨b, off + j, none⟩ = some v)
    (hvs : ∀ j v, vs[j]? = some v → w.cell? ⟨vb, voff + j, none⟩ = some v) (h1c : ∀ v ∈ cs, v.oneCell' = true) (h1v : ∀ v ∈ vs, v.oneCell' = true) :
    Calls Tryz.prog 73 #[.slice (some ⟨b, off, none⟩) n c, .int .i64 i, .slice (some ⟨vb, voff, none⟩) 1 vc] w fun e w' =>
      ∃ (G : Nat) (ROW : Array Value), e = .returned (.slice (some ⟨w.heap.size, 0, none⟩) (n + 1) G) ∧ n + 1 ≤ G ∧ G * 3 ≤ ROW.size ∧ (∀ (j : Nat) (v : Value), (cs.take (i * 3))[j]? = some v → ROW[j]? = some v) ∧
      w' = (((w.alloc (.cells ROW 185)).drew.setCells w.heap.size (i * 3) vs).drew).setCells w.heap.size ((i + 1) * 3) (cs.drop (i * 3)) := by
  obtain ⟨i0, hi0⟩ : ∃ i0, Tryz.prog.info? 185 = some i0 := by
    have := rowInfo
    cases h : Tryz.prog.info? 185 with
    | none => rw [h] at this; cases this
    | some i => exact ⟨i, rfl⟩
  have hzs : i0.size = 3 := by have := rowInfo; rw [hi0] at this; simpa using this
  have hzz : ∃ z, i0.zero = some z ∧ z.cells.size = 3 ∧ i0.bytes = 48 := by
    have h2 : (match Tryz.prog.info? 185 with | some i => (match i.zero with | some z => z.cells.size == 3 && i.bytes == 48 | none => false) | none => false) = true := by kernel_rfl
    rw [hi0] at h2
    dsimp only at h2
    cases hz : i0.zero with
    | none => rw [hz] at h2; cases h2
    | some z => rw [hz] at h2; simp only [Bool.and_eq_true, beq_iff_eq] at h2; exact ⟨z, rfl, h2⟩
  obtain ⟨z, hz0, hzc, hzb⟩ := hzz
  have hz2 : ¬ ((i : Int) = (n : Int)) := by omega
  have hz3 : (c : Int) < (n : Int) + 1 := by omega
  have hbw : b < w.heap.size := block_lt_of_cell (hcs 0 _ (List.getElem?_eq_getElem (by omega)))
  have hvw : vb < w.heap.size := block_lt_of_cell (hvs 0 _ (List.getElem?_eq_getElem (by omega)))
  have hkk : (n : Int) + 1 - (i : Int) = ((n + 1 - i : Nat) : Int) := by omega
  have hik : i + (n + 1 - i) = n + 1 := by omega
  have htl : (cs.take (i * 3)).length = i * 3 := by rw [List.length_take]; omega
  have hold : (Builtin.firstCells i0.size i (.slice (some ⟨b, off, none⟩) i c)).run Tryz.prog w.drew = .ok (cs.take (i * 3)).toArray w.drew := by
    rw [hzs]
    exact run_firstCells_some w.drew 3 i ⟨b, off, none⟩ i c (cs.take (i * 3)) htl (fun j v hj => by
      rw [Addr.add_lit]
      rw [List.getElem?_take] at hj
      split at hj
      · exact hcs j v hj
      · cases hj)
  have hrz : ∀ ty, (Builtin.append_ #[165, 3] ty #[.slice (some ⟨b, off, none⟩) i c, .int .i64 ((n : Int) + 1 - (i : Int))]).run Tryz.prog w =
      .ok (.slice (some ⟨w.heap.size, 0, none⟩) (n + 1) (grownCap w (n + 1) c 185)) (w.drew.alloc (.cells ((cs.take (i * 3)).toArray ++ Builtin.zeroCells z.cells (n + 1 - i) ++ Builtin.zeroCells z.cells (grownCap w (n + 1) c 185 - (n + 1))) 185)) := fun ty => by
    have h := Lib.run_append_grow_zeros w 165 3 ty 185 i0 _ .i64 .i64 Tryz.underlying165 Tryz.underlying3 hi0 hz0 (some ⟨b, off, none⟩) i c (cs.take (i * 3)) hold (n + 1 - i) (by omega) (by omega) (by omega) (by omega) (by rw [hzb]; omega) (by rw [hzb, hik]; exact growslice_fits hroom hbig)
    rw [hik] at h
    rw [hkk]
    exact h
  obtain ⟨G, hG⟩ : ∃ G, G = grownCap w (n + 1) c 185 := ⟨_, rfl⟩
  obtain ⟨ROW, hROW⟩ : ∃ ROW : Array Value, ROW = (cs.take (i * 3)).toArray ++ Builtin.zeroCells z.cells (n + 1 - i) ++ Builtin.zeroCells z.cells (G - (n + 1)) := ⟨_, rfl⟩
  rw [← hG] at hrz
  rw [← hROW] at hrz
  have hGn : n + 1 ≤ G := by rw [hG]; exact grownCap_ge w _ _ _
  have hRl : ROW.size = G * 3 := by
    rw [hROW]
    simp [Builtin.zeroCells, hzc]
    omega
  have hR0 : ∀ j v, (cs.take (i * 3))[j]? = some v → ROW[j]? = some v := fun j v hj => by
    have hjl : j < (cs.take (i * 3)).length := by
      rcases Nat.lt_or_ge j (cs.take (i * 3)).length with h | h
      · exact h
      · rw [List.getElem?_eq_none h] at hj; cases hj
    rw [hROW, Array.append_assoc, Array.getElem?_append_left (by simpa using hjl)]
    simpa using hj
  obtain ⟨W1, hW1⟩ : ∃ W1, W1 = w.drew.alloc (.cells ROW 185) := ⟨_, rfl⟩
  rw [← hW1] at hrz
  have hN : ∀ j, j < (n + 1) * 3 → (W1.cell? ⟨w.heap.size, j, none⟩).isSome = true := fun j hj => by
    rw [hW1, World.cell?_alloc_at (w := w.drew) ROW _ w.heap.size j rfl, Array.getElem?_eq_getElem (by omega)]; rfl
  have hNf : ∀ j, W1.frozen? ⟨w.heap.size, j, none⟩ = false := fun j => by rw [hW1]; exact World.frozen?_alloc_at (w := w.drew) ROW _ w.heap.size j rfl
  have hOb : ∀ j v, w.cell? ⟨b, j, none⟩ = some v → W1.cell? ⟨b, j, none⟩ = some v := fun j v h => by rw [hW1, World.cell?_alloc_past (w := w.drew) _ b j hbw]; exact h
  have hOv : ∀ j v, w.cell? ⟨vb, j, none⟩ = some v → W1.cell? ⟨vb, j, none⟩ = some v := fun j v h => by rw [hW1, World.cell?_alloc_past (w := w.drew) _ vb j hvw]; exact h
  have hcpA : ∀ (W : World), (∀ x, W.cell? x = W1.cell? x) → (∀ x, W.frozen? x = W1.frozen? x) → ∀ ty dc, (Builtin.copy_ #[165, 165] ty #[.slice (some ⟨w.heap.size, i * 3, none⟩) (n + 1 - i) dc, .slice (some ⟨vb, voff, none⟩) 1 vc]).run Tryz.prog W = .ok (goInt (1 : Nat)) (W.setCells w.heap.size (i * 3) vs) := fun W hWc hWf ty dc =>
    run_copy2 W _ _ ty 185 w.heap.size (i * 3) (n + 1 - i) dc ⟨vb, voff, none⟩ 1 vc vs Tryz.underlying165 rowInfo 1 (by simp only [Nat.min_def]; split <;> omega) hvl
      (fun j v hj => by rw [Addr.add_lit, hWc]; exact hOv _ v (hvs j v hj))
      (fun j hj => by rw [hWc]; exact hN _ (by omega)) (fun j hj => by rw [hWf]; exact hNf _) h1v
  have hG63 : G ≤ 9223372036854775807 := by
    have := grownCap_le_maxLen w (n + 1) c 185 (by unfold maxLen; omega)
    rw [← hG] at this
    unfold maxLen at this
    omega
  have hGi : ¬ (G = i) := by omega
  have hGim : ¬ (G = i + 1) := by omega
  have hci : ¬ (c = i) := by omega
  have hbN : b ≠ w.heap.size := by omega
  have hdl : (cs.drop (i * 3)).length = (n - i) * 3 := by rw [List.length_drop, hcl, Nat.sub_mul]
  have hcpB : ∀ (W : World), (∀ x, W.cell? x = (W1.setCells w.heap.size (i * 3) vs).cell? x) → (∀ x, W.frozen? x = (W1.setCells w.heap.size (i * 3) vs).frozen? x) → ∀ ty dc sc, (Builtin.copy_ #[165, 165] ty #[.slice (some ⟨w.heap.size, (i + 1) * 3, none⟩) (n - i) dc, .slice (some ⟨b, off + i * 3, none⟩) (n - i) sc]).run Tryz.prog W = .ok (goInt (n - i : Nat)) (W.setCells w.heap.size ((i + 1) * 3) (cs.drop (i * 3))) := fun W hWc hWf ty dc sc =>
    run_copy2 W _ _ ty 185 w.heap.size ((i + 1) * 3) (n - i) dc ⟨b, off + i * 3, none⟩ (n - i) sc (cs.drop (i * 3)) Tryz.underlying165 rowInfo (n - i) (by simp) hdl
      (fun j v hj => by
        rw [Addr.add_lit, hWc, World.cell?_setCells_out _ _ _ _ _ (fun h _ => absurd h hbN), Nat.add_assoc]
        exact hOb _ v (hcs (i * 3 + j) v (by rwa [List.getElem?_drop] at hj)))
      (fun j hj => by rw [hWc]; exact isSome_set2 _ _ _ _ (fun t ht => hN _ (by omega)) _ (hN _ (by omega)))
      (fun j hj => by rw [hWf, World.frozen?_setCells]; exact hNf _) (fun v hv => h1c v (List.mem_of_mem_drop hv))
  subst hW1
  have hE1 : ∀ x, ((w.alloc (.cells ROW 185)).drew).cell? x = (w.drew.alloc (.cells ROW 185)).cell? x := fun x => rfl
  have hE2 : ∀ x, ((w.alloc (.cells ROW 185)).drew).frozen? x = (w.drew.alloc (.cells ROW 185)).frozen? x := fun x => rfl
  have hF1 : ∀ x, (((w.alloc (.cells ROW 185)).drew.setCells w.heap.size (i * 3) vs).drew).cell? x = ((w.drew.alloc (.cells ROW 185)).setCells w.heap.size (i * 3) vs).cell? x := fun x => rfl
  have hF2 : ∀ x, (((w.alloc (.cells ROW 185)).drew.setCells w.heap.size (i * 3) vs).drew).frozen? x = ((w.drew.alloc (.cells ROW 185)).setCells w.heap.size (i * 3) vs).frozen? x := fun x => rfl
  have hw1 : IntKind.i64.wrap ((i : Int) + 1) = (i : Int) + 1 := by rw [IntKind.wrap_i64]; omega
  have hb1 : (0 : Int) ≤ (i : Int) + 1 := by omega
  have hin : i ≤ n := by omega
  have htn : ((i : Int) + 1).toNat = i + 1 := by omega
  have hb3 : (i : Int) ≤ (n : Int) := by omega
  have mixed : Tryz.prog.follows Departure.mixedOrders = true := by kernel_rfl
  have u250 := run_underlying Tryz.underlying165
  have u3 := run_underlying Tryz.underlying3
  have z249 := Tryz.sizeOf185
  clear hkk hik hold hROW hG
  go_enter Tryz.func73, Tryz.ntmps73
  go_wp2_with (first
    | (at_builtin; refine Lib.wpList_append_run _ rfl _ _ _ _ rfl _ _ rfl rfl _ _ (hrz _) ?_)
    | (at_builtin; refine ins_copyI _ rfl _ _ 165 165 rfl _ _ rfl rfl (hcpA _ hE1 hE2 _ _) ?_)
    | (at_builtin; refine ins_copyI _ rfl _ _ 165 165 rfl _ _ rfl rfl (hcpB _ (fun _ => rfl) (fun _ => rfl) _ _ _) ?_))
  go_region_law_o (refine ins_copyO rfl _ _ 165 165 rfl (.slice (some ⟨w.heap.size, (i + 1) * 3, none⟩) (n - i) (G - (i + 1))) (.slice (some ⟨b, off + i * 3, none⟩) (n - i) (c - i)) (by simp [Act.eval, Act.put]) (by simp [Act.eval, Act.put]) (hcpB _ hF1 hF2 3 (G - (i + 1)) (c - i)) ?_)
  go_wp2
  go_ret
  exact ⟨G, ROW, rfl, hGn, by omega, hR0, rfl⟩
set_option maxHeartbeats 4000000 in
set_option maxRecDepth 100000 in
theorem ins_end (base : Option Addr) (n c vb voff vc : Nat) (w w' : World) (z : Value)
    (hrun : (Builtin.append_ #[165, 165] 165 #[.slice base n c, .slice (some ⟨vb, voff, none⟩) 1 vc]).run Tryz.prog w = .ok z w') (hnc : n ≤ c) (hnil : base = none → n = 0) :
    Calls Tryz.prog 73 #[.slice base n c, .int .i64 n, .slice (some ⟨vb, voff, none⟩) 1 vc] w fun e w2 => e = .returned z ∧ w2 = w' := by
  have mixed : Tryz.prog.follows Departure.mixedOrders = true := by kernel_rfl
  have u250 := run_underlying Tryz.underlying165
  have u3 := run_underlying Tryz.underlying3
  have z249 := Tryz.sizeOf185
  cases base with
  | none =>
    have h0 := hnil rfl
    subst h0
    go_enter Tryz.func73, Tryz.ntmps73
    go_wp2_with (at_builtin; refine Lib.wpList_append_run _ rfl _ _ _ _ rfl _ _ rfl rfl _ _ hrun ?_)
    go_ret
    exact ⟨rfl, rfl⟩
  | some a =>
    obtain ⟨ab, ao, asp⟩ := a
    go_enter Tryz.func73, Tryz.ntmps73
    go_wp2_with (at_builtin; refine Lib.wpList_append_run _ rfl _ _ _ _ rfl _ _ rfl rfl _ _ hrun ?_)
    all_goals (go_ret; exact ⟨rfl, rfl⟩)
def AtTab (tb to b off n : Nat) (w1 : World) (c : Nat) (cs : List Value) : Prop :=
  w1.cell? ⟨tb, to, none⟩ = some (.slice (some ⟨b, off, none⟩) n c) ∧ w1.frozen? ⟨tb, to, none⟩ = false ∧ tb ≠ b ∧ n ≤ c ∧ cs.length = n * 3 ∧ (∀ v ∈ cs, v.oneCell' = true) ∧
    (∀ (j : Nat) (v : Value), cs[j]? = some v → w1.cell? ⟨b, off + j, none⟩ = some v) ∧ (n + 1 ≤ c → (∀ j, j < (n + 1) * 3 → (w1.cell? ⟨b, off + j, none⟩).isSome = true) ∧ (∀ j, j < (n + 1) * 3 → w1.frozen? ⟨b, off + j, none⟩ = false) ∧ ∃ tB kB, w1.shape? b = some (tB, kB) ∧ kB ≠ 0)
set_option maxHeartbeats 4000000 in
set_option maxRecDepth 100000 in
theorem ts_mid (tb to b off n i : Nat) (key : Int) (nm : ByteArray) (bv : Value) (hbv : bv.oneCell' = true) (w : World) {R : World → Prop}
    (hq : ∀ w1, R w1 → w1.cell? ⟨w.heap.size, 0, none⟩ = some (.string nm) ∧ w1.cell? ⟨w.heap.size, 1, none⟩ = some bv)
    (hfind : Calls Tryz.prog 72 #[.pointer (some ⟨tb, to, none⟩), .int .i64 key] (w.alloc (.cells #[.string nm, bv] 113)) fun e w1 => e = .returned (.tuple #[.int .i64 i, .bool false]) ∧ R w1)
    (hi : i < n) (hbig : (n + 1) * 48 ≤ 140737488355328) (hR : ∀ w1, R w1 → ∃ c cs, AtTab tb to b off n w1 c cs) :
    Calls Tryz.prog 47 #[.pointer (some ⟨tb, to, none⟩), .int .i64 key, .agg #[.string nm, bv]] w fun e w' => e = .returned (.bool true) ∧ ∃ w1 c cs, R w1 ∧ AtTab tb to b off n w1 c cs ∧ ∃ W2, W2 = w1.drew.alloc (.cells #[.int .i64 key, .string nm, bv] 185) ∧
      ((n + 1 ≤ c ∧ w' = (((W2.drew.setCells b (off + (i + 1) * 3) (cs.drop (i * 3))).setCells b (off + i * 3) [.int .i64 key, .string nm, bv]).setCell ⟨tb, to, none⟩ (.slice (some ⟨b, off, none⟩) (n + 1) c))) ∨
      (∃ (G : Nat) (ROW : Array Value), n + 1 ≤ G ∧ G * 3 ≤ ROW.size ∧ (∀ (j : Nat) (v : Value), (cs.take (i * 3))[j]? = some v → ROW[j]? = some v) ∧
      w' = ((((W2.alloc (.cells ROW 185)).drew.setCells W2.heap.size (i * 3) [.int .i64 key, .string nm, bv]).drew).setCells W2.heap.size ((i + 1) * 3) (cs.drop (i * 3))).setCell ⟨tb, to, none⟩ (.slice (some ⟨W2.heap.size, 0, none⟩) (n + 1) G))) := by
  have mixed : Tryz.prog.follows Departure.mixedOrders = true := by kernel_rfl
  have u250 := run_underlying Tryz.underlying165
  have u3 := run_underlying Tryz.underlying3
  have z249 := Tryz.sizeOf185
  go_enter Tryz.func47, Tryz.ntmps47
  go_wp2_with (first | (go_at_call 72; refine hfind.mono ?_; rintro e w1 ⟨rfl, hw1⟩; obtain ⟨p1, p2⟩ := hq w1 hw1; obtain ⟨c, cs, hat⟩ := hR w1 hw1; have hat2 := hat; obtain ⟨q1, q2, q3, hnc, hcl, h1c, q4, hrm⟩ := hat))
  have hbw : b < w1.heap.size := block_lt_of_cell (q4 0 _ (List.getElem?_eq_getElem (by omega)))
  have htw : tb < w1.heap.size := block_lt_of_cell q1
  have hal : ∀ x, x ≠ w1.heap.size → (w1.drew.alloc (Obj.cells #[Value.int IntKind.i64 key, Value.string nm, bv] 185)).heap[x]? = w1.heap[x]? := fun x hx => by
    show (w1.heap.push _)[x]? = _
    rw [Array.getElem?_push, if_neg hx]
  have hcb : ∀ o, (w1.drew.alloc (Obj.cells #[Value.int IntKind.i64 key, Value.string nm, bv] 185)).cell? ⟨b, o, none⟩ = w1.cell? ⟨b, o, none⟩ := fun o => by
    simp only [World.cell?, hal b (by omega)]
  have hfb : ∀ o, (w1.drew.alloc (Obj.cells #[Value.int IntKind.i64 key, Value.string nm, bv] 185)).frozen? ⟨b, o, none⟩ = w1.frozen? ⟨b, o, none⟩ := fun o => by
    simp only [World.frozen?, hal b (by omega)]
  have hct : (w1.drew.alloc (Obj.cells #[Value.int IntKind.i64 key, Value.string nm, bv] 185)).cell? ⟨tb, to, none⟩ = w1.cell? ⟨tb, to, none⟩ := by
    simp only [World.cell?, hal tb (by omega)]
  have hft : (w1.drew.alloc (Obj.cells #[Value.int IntKind.i64 key, Value.string nm, bv] 185)).frozen? ⟨tb, to, none⟩ = w1.frozen? ⟨tb, to, none⟩ := by
    simp only [World.frozen?, hal tb (by omega)]
  have hnew : (w1.drew.alloc (Obj.cells #[Value.int IntKind.i64 key, Value.string nm, bv] 185)).heap[w1.heap.size]? = some (.cells #[Value.int IntKind.i64 key, Value.string nm, bv] 185 (0, 0)) := by
    show (w1.heap.push _)[w1.heap.size]? = _
    simp
  have hcv : ∀ (j : Nat) x, [Value.int IntKind.i64 key, Value.string nm, bv][j]? = some x → (w1.drew.alloc (Obj.cells #[Value.int IntKind.i64 key, Value.string nm, bv] 185)).cell? ⟨w1.heap.size, 0 + j, none⟩ = some x := fun j x hj => by
    simp only [World.cell?, hnew, Nat.zero_add]
    match j, hj with
    | 0, hj => simpa using hj
    | 1, hj => simpa using hj
    | 2, hj => simpa using hj
    | j + 3, hj => simp at hj
  by_cases hroom : n + 1 ≤ c
  · obtain ⟨q5, q6, tB, kB, q7, q8⟩ := hrm hroom
    have hsb : (w1.drew.alloc (Obj.cells #[Value.int IntKind.i64 key, Value.string nm, bv] 185)).shape? b = some (tB, kB) := by
      rw [← q7]; simp only [World.shape?, hal b (by omega)]
    have hins := ins_shift b off n c i w1.heap.size 0 1 cs [Value.int IntKind.i64 key, Value.string nm, bv] (w1.drew.alloc (Obj.cells #[Value.int IntKind.i64 key, Value.string nm, bv] 185)) hi hroom (by omega) (by omega) hcl rfl
      (fun j x hj => by rw [hcb]; exact q4 j x hj) (fun j hj => by rw [hcb]; exact q5 j hj) (fun j hj => by rw [hfb]; exact q6 j hj) hcv h1c (by intro x hx; simp only [List.mem_cons, List.not_mem_nil, or_false] at hx; rcases hx with rfl | rfl | rfl <;> first | rfl | exact hbv)
      185 tB 3 kB (by simp only [World.shape?, hnew]; rfl) hsb q8 (by simp only [World.frozen?, hnew]; rfl) (by simp only [World.frozen?, hnew]; rfl)
    generalize hW2 : w1.drew.alloc (Obj.cells #[Value.int IntKind.i64 key, Value.string nm, bv] 185) = W2 at *
    have t1 : ((W2.drew.setCells b (off + (i + 1) * 3) (cs.drop (i * 3))).setCells b (off + i * 3) [Value.int IntKind.i64 key, Value.string nm, bv]).cell? ⟨tb, to, none⟩ = some (.slice (some ⟨b, off, none⟩) n c) := by
      rw [World.cell?_setCells_out _ _ _ _ _ (fun h _ => absurd h q3), World.cell?_setCells_out _ _ _ _ _ (fun h _ => absurd h q3)]
      exact hct.trans q1
    have t2 : ((W2.drew.setCells b (off + (i + 1) * 3) (cs.drop (i * 3))).setCells b (off + i * 3) [Value.int IntKind.i64 key, Value.string nm, bv]).frozen? ⟨tb, to, none⟩ = false := by
      rw [World.frozen?_setCells, World.frozen?_setCells]
      exact hft.trans q2
    generalize hW3 : (W2.drew.setCells b (off + (i + 1) * 3) (cs.drop (i * 3))).setCells b (off + i * 3) [Value.int IntKind.i64 key, Value.string nm, bv] = W3 at *
    have hins2 : Calls Tryz.prog 73 #[.slice (some ⟨b, off, none⟩) n c, .int .i64 i, .slice (some ⟨w1.heap.size, 0, none⟩) 1 1] (w1.drew.alloc (Obj.cells #[Value.int IntKind.i64 key, Value.string nm, bv] 185)) fun e w' => e = .returned (.slice (some ⟨b, off, none⟩) (n + 1) c) ∧ w' = W3 := by
      rw [hW2]
      exact hins
    have p3 : w1.drew.cell? ⟨w.heap.size, 0, none⟩ = some (.string nm) := p1
    have p4 : w1.drew.cell? ⟨w.heap.size, 1, none⟩ = some bv := p2
    have p5 : w1.drew.cell? ⟨tb, to, none⟩ = some (.slice (some ⟨b, off, none⟩) n c) := q1
    have hWW : Hid (W2 = w1.drew.alloc (Obj.cells #[Value.int IntKind.i64 key, Value.string nm, bv] 185)) := hW2.symm
    have hW3h : Hid (W3 = (W2.drew.setCells b (off + (i + 1) * 3) (cs.drop (i * 3))).setCells b (off + i * 3) [Value.int IntKind.i64 key, Value.string nm, bv]) := hW3.symm
    clear hW2 hW3 hins hcb hfb hct hft hnew hcv hal
    go_region_with (go_at_call 73; refine hins2.mono ?_; rintro e w' ⟨rfl, rfl⟩)
    all_goals (try go_wp2)
    all_goals (go_ret; exact ⟨rfl, w1, c, cs, hw1, hat2, W2, hWW.out, .inl ⟨hroom, by rw [hW3h.out]⟩⟩)
  · have hins := ins_grow b off n c i w1.heap.size 0 1 cs [Value.int IntKind.i64 key, Value.string nm, bv] (w1.drew.alloc (Obj.cells #[Value.int IntKind.i64 key, Value.string nm, bv] 185)) hi hnc (by omega) hbig hcl rfl
      (fun j x hj => by rw [hcb]; exact q4 j x hj) hcv h1c (by intro x hx; simp only [List.mem_cons, List.not_mem_nil, or_false] at hx; rcases hx with rfl | rfl | rfl <;> first | rfl | exact hbv)
    have hsz2 : tb < (w1.drew.alloc (Obj.cells #[Value.int IntKind.i64 key, Value.string nm, bv] 185)).heap.size := by
      show tb < (w1.heap.push _).size
      rw [Array.size_push]; omega
    generalize hW2 : w1.drew.alloc (Obj.cells #[Value.int IntKind.i64 key, Value.string nm, bv] 185) = W2 at *
    have hins2 : Calls Tryz.prog 73 #[.slice (some ⟨b, off, none⟩) n c, .int .i64 i, .slice (some ⟨w1.heap.size, 0, none⟩) 1 1] (w1.drew.alloc (Obj.cells #[Value.int IntKind.i64 key, Value.string nm, bv] 185)) fun e w' => ∃ (G : Nat) (ROW : Array Value), e = .returned (.slice (some ⟨W2.heap.size, 0, none⟩) (n + 1) G) ∧ (n + 1 ≤ G ∧ G * 3 ≤ ROW.size ∧ (∀ (j : Nat) (v : Value), (cs.take (i * 3))[j]? = some v → ROW[j]? = some v)) ∧ w'.cell? ⟨tb, to, none⟩ = some (.slice (some ⟨b, off, none⟩) n c) ∧ w'.frozen? ⟨tb, to, none⟩ = false ∧ Hid (w' = ((W2.alloc (.cells ROW 185)).drew.setCells W2.heap.size (i * 3) [.int .i64 key, .string nm, bv]).drew.setCells W2.heap.size ((i + 1) * 3) (cs.drop (i * 3))) := by
      rw [hW2]
      refine hins.mono ?_
      rintro e w' ⟨G, ROW, rfl, hG1, hG2, hG3, rfl⟩
      have hal2 : ∀ x, x ≠ W2.heap.size → (W2.alloc (Obj.cells ROW 185)).heap[x]? = W2.heap[x]? := fun x hx => by
        show (W2.heap.push _)[x]? = _
        rw [Array.getElem?_push, if_neg hx]
      have hne : tb ≠ W2.heap.size := by omega
      have t1 : (((W2.alloc (.cells ROW 185)).drew.setCells W2.heap.size (i * 3) [.int .i64 key, .string nm, bv]).drew.setCells W2.heap.size ((i + 1) * 3) (cs.drop (i * 3))).cell? ⟨tb, to, none⟩ = some (.slice (some ⟨b, off, none⟩) n c) := by
        rw [World.cell?_setCells_out _ _ _ _ _ (fun h _ => absurd h hne)]
        show (((W2.alloc (.cells ROW 185)).drew.setCells W2.heap.size (i * 3) [.int .i64 key, .string nm, bv])).cell? ⟨tb, to, none⟩ = _
        rw [World.cell?_setCells_out _ _ _ _ _ (fun h _ => absurd h hne)]
        show (W2.alloc (.cells ROW 185)).cell? ⟨tb, to, none⟩ = _
        refine Eq.trans ?_ (hct.trans q1)
        simp only [World.cell?, hal2 tb hne]
      have t2 : (((W2.alloc (.cells ROW 185)).drew.setCells W2.heap.size (i * 3) [.int .i64 key, .string nm, bv]).drew.setCells W2.heap.size ((i + 1) * 3) (cs.drop (i * 3))).frozen? ⟨tb, to, none⟩ = false := by
        rw [World.frozen?_setCells]
        show (((W2.alloc (.cells ROW 185)).drew.setCells W2.heap.size (i * 3) [.int .i64 key, .string nm, bv])).frozen? ⟨tb, to, none⟩ = _
        rw [World.frozen?_setCells]
        show (W2.alloc (.cells ROW 185)).frozen? ⟨tb, to, none⟩ = _
        refine Eq.trans ?_ (hft.trans q2)
        simp only [World.frozen?, hal2 tb hne]
      exact ⟨G, ROW, rfl, ⟨hG1, hG2, hG3⟩, t1, t2, rfl⟩
    have p3 : w1.drew.cell? ⟨w.heap.size, 0, none⟩ = some (.string nm) := p1
    have p4 : w1.drew.cell? ⟨w.heap.size, 1, none⟩ = some bv := p2
    have p5 : w1.drew.cell? ⟨tb, to, none⟩ = some (.slice (some ⟨b, off, none⟩) n c) := q1
    have hWW : Hid (W2 = w1.drew.alloc (Obj.cells #[Value.int IntKind.i64 key, Value.string nm, bv] 185)) := hW2.symm
    clear hW2 hins hcb hfb hct hft hnew hcv hal hsz2
    go_region_with (go_at_call 73; refine hins2.mono ?_; rintro e w' ⟨G, ROW, rfl, hGG, t1, t2, hW3h⟩)
    all_goals (try go_wp2)
    all_goals (go_ret; exact ⟨rfl, w1, c, cs, hw1, hat2, W2, hWW.out, .inr ⟨G, ROW, hGG.1, hGG.2.1, hGG.2.2, by rw [hW3h.out]⟩⟩)
set_option maxHeartbeats 4000000 in
set_option maxRecDepth 100000 in
theorem set_found (tb to b off n i : Nat) (key : Int) (nm : ByteArray) (bv : Value) (hbv : bv.oneCell' = true) (w : World) {R : World → Prop}
    (hq : ∀ w1, R w1 → w1.cell? ⟨w.heap.size, 0, none⟩ = some (.string nm) ∧ w1.cell? ⟨w.heap.size, 1, none⟩ = some bv)
    (hfind : Calls Tryz.prog 72 #[.pointer (some ⟨tb, to, none⟩), .int .i64 key] (w.alloc (.cells #[.string nm, bv] 113)) fun e w1 => e = .returned (.tuple #[.int .i64 i, .bool true]) ∧ R w1)
    (hi : i < n) (hn : n < 4611686018427387904) (hR : ∀ w1, R w1 → ∃ c, w1.cell? ⟨tb, to, none⟩ = some (.slice (some ⟨b, off, none⟩) n c) ∧ n ≤ c ∧ (∃ x y, w1.cell? ⟨b, off + i * 3 + 1, none⟩ = some x ∧ w1.cell? ⟨b, off + i * 3 + 2, none⟩ = some y) ∧ w1.frozen? ⟨b, off + i * 3 + 1, none⟩ = false ∧ w1.frozen? ⟨b, off + i * 3 + 2, none⟩ = false) :
    Calls Tryz.prog 47 #[.pointer (some ⟨tb, to, none⟩), .int .i64 key, .agg #[.string nm, bv]] w fun e w' => e = .returned (.bool false) ∧ ∃ w1, R w1 ∧ w' = w1.drew.setCells b (off + i * 3 + 1) [.string nm, bv] := by
  have mixed : Tryz.prog.follows Departure.mixedOrders = true := by kernel_rfl
  have u250 := run_underlying Tryz.underlying165
  have u3 := run_underlying Tryz.underlying3
  have z249 := Tryz.sizeOf185
  have hin : (i : Int) < (n : Int) := by omega
  have hi0 : (0 : Int) ≤ (i : Int) := by omega
  go_enter Tryz.func47, Tryz.ntmps47
  go_wp2_with (first | (go_at_call 72; refine hfind.mono ?_; rintro e w1 ⟨rfl, hw1⟩; obtain ⟨p1, p2⟩ := hq w1 hw1; obtain ⟨c, q1, hnc, ⟨x, y, q2, q3⟩, q4, q5⟩ := hR w1 hw1))
  have p3 : w1.drew.cell? ⟨w.heap.size, 0, none⟩ = some (.string nm) := p1
  have p4 : w1.drew.cell? ⟨w.heap.size, 1, none⟩ = some bv := p2
  have p5 : w1.drew.cell? ⟨tb, to, none⟩ = some (.slice (some ⟨b, off, none⟩) n c) := q1
  have p6 : (w1.setCell ⟨b, off + i * 3 + 1, none⟩ (.string nm)).cell? ⟨b, off + i * 3 + 1 + 1, none⟩ = some y := by
    have := World.cell?_setCells_out b [.string nm] (off + i * 3 + 1) w1 ⟨b, off + i * 3 + 1 + 1, none⟩ (fun _ _ => .inr (by simp))
    exact this.trans q3
  have p7 : (w1.setCell ⟨b, off + i * 3 + 1, none⟩ (.string nm)).frozen? ⟨b, off + i * 3 + 1 + 1, none⟩ = false := by
    have := World.frozen?_setCells b [.string nm] (off + i * 3 + 1) w1 ⟨b, off + i * 3 + 1 + 1, none⟩
    exact this.trans q5
  have hst : (store ⟨b, off + i * 3 + 1 + 1, none⟩ bv).run Tryz.prog (w1.setCell ⟨b, off + i * 3 + 1, none⟩ (.string nm)).drew = .ok () ((w1.setCell ⟨b, off + i * 3 + 1, none⟩ (.string nm)).setCell ⟨b, off + i * 3 + 1 + 1, none⟩ bv).drew := by
    rw [run_store _ _ _ _ _ hbv]
    have e1 : (w1.setCell ⟨b, off + i * 3 + 1, none⟩ (.string nm)).drew.cell? ⟨b, off + i * 3 + 1 + 1, none⟩ = some y := p6
    have e2 : (w1.setCell ⟨b, off + i * 3 + 1, none⟩ (.string nm)).drew.frozen? ⟨b, off + i * 3 + 1 + 1, none⟩ = false := p7
    rw [e1]
    simp only [e2]
    rfl
  go_region_with (simp only [hst])
  all_goals (try go_wp2)
  all_goals (go_ret; exact ⟨rfl, w1, hw1, rfl⟩)
set_option maxHeartbeats 4000000 in
set_option maxRecDepth 100000 in
theorem set_end (tb to n : Nat) (key : Int) (nm : ByteArray) (bv : Value) (hbv : bv.oneCell' = true) (w : World) {R : World → Prop}
    (hq : ∀ w1, R w1 → w1.cell? ⟨w.heap.size, 0, none⟩ = some (.string nm) ∧ w1.cell? ⟨w.heap.size, 1, none⟩ = some bv)
    (hfind : Calls Tryz.prog 72 #[.pointer (some ⟨tb, to, none⟩), .int .i64 key] (w.alloc (.cells #[.string nm, bv] 113)) fun e w1 => e = .returned (.tuple #[.int .i64 n, .bool false]) ∧ R w1)
    (hR : ∀ w1, R w1 → ∃ base c a m c' w3, w1.cell? ⟨tb, to, none⟩ = some (.slice base n c) ∧ n ≤ c ∧ (base = none → n = 0) ∧
      (Builtin.append_ #[165, 165] 165 #[.slice base n c, .slice (some ⟨w1.heap.size, 0, none⟩) 1 1]).run Tryz.prog (w1.drew.alloc (.cells #[.int .i64 key, .string nm, bv] 185)) = .ok (.slice (some a) m c') w3 ∧ (∃ u, w3.cell? ⟨tb, to, none⟩ = some u) ∧ w3.frozen? ⟨tb, to, none⟩ = false) :
    Calls Tryz.prog 47 #[.pointer (some ⟨tb, to, none⟩), .int .i64 key, .agg #[.string nm, bv]] w fun e w' => e = .returned (.bool true) ∧ ∃ w1 base c a m c' w3, R w1 ∧ w1.cell? ⟨tb, to, none⟩ = some (.slice base n c) ∧
      (Builtin.append_ #[165, 165] 165 #[.slice base n c, .slice (some ⟨w1.heap.size, 0, none⟩) 1 1]).run Tryz.prog (w1.drew.alloc (.cells #[.int .i64 key, .string nm, bv] 185)) = .ok (.slice (some a) m c') w3 ∧ w' = w3.setCell ⟨tb, to, none⟩ (.slice (some a) m c') := by
  have mixed : Tryz.prog.follows Departure.mixedOrders = true := by kernel_rfl
  have u250 := run_underlying Tryz.underlying165
  have u3 := run_underlying Tryz.underlying3
  have z249 := Tryz.sizeOf185
  go_enter Tryz.func47, Tryz.ntmps47
  go_wp2_with (first | (go_at_call 72; refine hfind.mono ?_; rintro e w1 ⟨rfl, hw1⟩; obtain ⟨p1, p2⟩ := hq w1 hw1; obtain ⟨base, c, a, m, c', w3, q1, hnc, hnil, hrun, ⟨u, q2⟩, q3⟩ := hR w1 hw1))
  cases base with
  | none =>
    have p3 : w1.drew.cell? ⟨w.heap.size, 0, none⟩ = some (.string nm) := p1
    have p4 : w1.drew.cell? ⟨w.heap.size, 1, none⟩ = some bv := p2
    have p5 : w1.drew.cell? ⟨tb, to, none⟩ = some (.slice none n c) := q1
    have hins : Calls Tryz.prog 73 #[.slice none n c, .int .i64 n, .slice (some ⟨w1.heap.size, 0, none⟩) 1 1] (w1.drew.alloc (Obj.cells #[Value.int IntKind.i64 key, Value.string nm, bv] 185)) fun e w2 => e = .returned (.slice (some a) m c') ∧ w2 = w3 :=
      ins_end (none) n c w1.heap.size 0 1 _ w3 (.slice (some a) m c') hrun hnc hnil
    have hrun2 : Hid ((Builtin.append_ #[165, 165] 165 #[.slice none n c, .slice (some ⟨w1.heap.size, 0, none⟩) 1 1]).run Tryz.prog (w1.drew.alloc (Obj.cells #[Value.int IntKind.i64 key, Value.string nm, bv] 185)) = .ok (.slice (some a) m c') w3) := hrun
    have hq1 : Hid (w1.cell? ⟨tb, to, none⟩ = some (.slice none n c)) := q1
    clear hrun hR hq hnil hnc
    have htw : tb < w1.heap.size := block_lt_of_cell p5
    go_region_with (go_at_call 73; refine hins.mono ?_; rintro e w' ⟨rfl, rfl⟩)
    all_goals (try go_wp2)
    all_goals (go_ret; exact ⟨rfl, w1, _, c, a, m, c', _, hw1, hq1.out, hrun2.out, rfl⟩)
  | some ad =>
    obtain ⟨ab, ao, asp⟩ := ad
    have p3 : w1.drew.cell? ⟨w.heap.size, 0, none⟩ = some (.string nm) := p1
    have p4 : w1.drew.cell? ⟨w.heap.size, 1, none⟩ = some bv := p2
    have p5 : w1.drew.cell? ⟨tb, to, none⟩ = some (.slice (some ⟨ab, ao, asp⟩) n c) := q1
    have hins : Calls Tryz.prog 73 #[.slice (some ⟨ab, ao, asp⟩) n c, .int .i64 n, .slice (some ⟨w1.heap.size, 0, none⟩) 1 1] (w1.drew.alloc (Obj.cells #[Value.int IntKind.i64 key, Value.string nm, bv] 185)) fun e w2 => e = .returned (.slice (some a) m c') ∧ w2 = w3 :=
      ins_end (some ⟨ab, ao, asp⟩) n c w1.heap.size 0 1 _ w3 (.slice (some a) m c') hrun hnc hnil
    have hrun2 : Hid ((Builtin.append_ #[165, 165] 165 #[.slice (some ⟨ab, ao, asp⟩) n c, .slice (some ⟨w1.heap.size, 0, none⟩) 1 1]).run Tryz.prog (w1.drew.alloc (Obj.cells #[Value.int IntKind.i64 key, Value.string nm, bv] 185)) = .ok (.slice (some a) m c') w3) := hrun
    have hq1 : Hid (w1.cell? ⟨tb, to, none⟩ = some (.slice (some ⟨ab, ao, asp⟩) n c)) := q1
    clear hrun hR hq hnil hnc
    have htw : tb < w1.heap.size := block_lt_of_cell p5
    go_region_with (go_at_call 73; refine hins.mono ?_; rintro e w' ⟨rfl, rfl⟩)
    all_goals (try go_wp2)
    all_goals (go_ret; exact ⟨rfl, w1, _, c, a, m, c', _, hw1, hq1.out, hrun2.out, rfl⟩)
open Go.V Go Go.RowKit
structure Fl where
  k : Int
  nm : List UInt8
  b : D
def flC (r : Fl) : List D := [.int .i64 r.k, .str r.nm, r.b]
def rowsF : List D → Option (List Fl)
  | [] => some []
  | .int .i64 a :: .str n :: b :: l => (rowsF l).map (⟨a, n, b⟩ :: ·)
  | _ => none
theorem rowsF_spec : ∀ {c : List D} {l : List Fl}, rowsF c = some l → c = (l.map flC).flatten
  | [], l, h => by cases h; rfl
  | [_], l, h => by
    unfold rowsF at h
    split at h <;> first | (rename_i he; cases he; done) | cases h
  | [_, _], l, h => by
    unfold rowsF at h
    split at h <;> first | (rename_i he; cases he; done) | cases h
  | d :: e :: g :: c, l, h => by
    unfold rowsF at h
    split at h
    · rename_i he; cases he
    · rename_i a n b m he
      cases he
      obtain ⟨r, h1, rfl⟩ := Option.map_eq_some_iff.1 h
      rw [rowsF_spec h1]; rfl
    · cases h
theorem rowsF_of : ∀ l : List Fl, rowsF ((l.map flC).flatten) = some l
  | [] => rfl
  | r :: l => by
    show rowsF (.int .i64 r.k :: .str r.nm :: r.b :: (l.map flC).flatten) = _
    simp only [rowsF, rowsF_of l, Option.map_some]
def findLo (ks : List Int) (key : Int) : Nat → Nat → Nat → Nat
  | 0, lo, _ => lo
  | f + 1, lo, hi => if lo < hi then (if decide (ks.getD ((lo + hi) / 2) 0 < key) then findLo ks key f ((lo + hi) / 2 + 1) hi else findLo ks key f lo ((lo + hi) / 2)) else lo
def findT (l : List Fl) (key : Int) : Nat := findLo (l.map (·.k)) key l.length 0 l.length
def thereT (l : List Fl) (key : Int) : Bool := decide (findT l key < l.length) && ((l.map (·.k)).getD (findT l key) 0 == key)
theorem findLo_le (ks : List Int) (key : Int) : ∀ (f lo hi : Nat), lo ≤ hi → findLo ks key f lo hi ≤ hi
  | 0, lo, hi, h => h
  | f + 1, lo, hi, h => by
    unfold findLo
    split
    · split
      · exact findLo_le ks key f _ _ (by omega)
      · exact Nat.le_trans (findLo_le ks key f _ _ (by omega)) (by omega)
    · exact h
theorem findT_le (l : List Fl) (key : Int) : findT l key ≤ l.length := findLo_le _ _ _ _ _ (Nat.zero_le _)
def tabD (st : St) : D → Option (List Fl)
  | .nul => some []
  | .win kl vl ol len 3 => match st.mem? kl vl with
    | some (true, c) => if ol + len * 3 ≤ c.length ∧ len < 1000000 then rowsF ((c.drop ol).take (len * 3)) else none
    | _ => none
  | _ => none
def insL (l : List D) (n : Nat) (ys : List D) : List D := l.take n ++ (ys ++ l.drop n)
def putT (x : D) (i n : Nat) (old ys : List D) (st : St) : Option St :=
  if i < n then (match x with
    | .win kl vl ol _ 3 => st.wr kl vl ol (insL old (i * 3) ys)
    | _ => none) else some st
def kwD (k : Nat) : D → Nat
  | .win kl _ _ _ _ => kl
  | _ => k + 1
def setE (x : D) (i : Nat) (nm : List UInt8) (b : D) (st : St) : Option St := match x with
  | .win kl vl ol _ 3 => st.wr kl vl (ol + i * 3 + 1) [.str nm, b]
  | _ => none
noncomputable def fsetF (k ver off : Nat) (key : Int) (nm : List UInt8) (b : D) (st : St) (x : D) (l : List Fl) : Option (D × St) :=
  if kwD k x = k then none
  else if thereT l key = true then (setE x (findT l key) nm b st).map fun st' => (.bool false, st')
  else match appendD pv0 [165, 165] x (.win st.bs.length 0 0 1 3) (st.push (.mem 0 true [.int .i64 key, .str nm, b])) with
    | some (x', st1) => match putT x' (findT l key) l.length ((l.map flC).flatten) [.int .i64 key, .str nm, b] st1 with
      | some st2 => (st2.wr k ver off [x']).map fun st3 => (.bool true, st3)
      | none => none
    | none => none
noncomputable def fsetP : List D → St → Option (D × St)
  | [.ptr k ver off, .int .i64 key, .agg [.str nm, b]], st =>
    match st.mem? k ver with
    | some (_, ct) => match ct[off]? with
      | some x => match tabD st x with
        | some l => fsetF k ver off key nm b st x l
        | none => none
      | none => none
    | none => none
  | _, _ => none
theorem fsetP_some {ds : List D} {st : St} {r : D × St} (h : fsetP ds st = some r) : ∃ k ver off key nm b ar ct x l, ds = [.ptr k ver off, .int .i64 key, .agg [.str nm, b]] ∧ st.mem? k ver = some (ar, ct) ∧ ct[off]? = some x ∧ tabD st x = some l ∧ fsetF k ver off key nm b st x l = some r := by
  unfold fsetP at h
  split at h
  · rename_i k ver off key nm b
    split at h
    · rename_i ar ct hm
      split at h
      · rename_i x hx
        split at h
        · rename_i l hl
          exact ⟨k, ver, off, key, nm, b, ar, ct, x, l, rfl, hm, hx, hl, h⟩
        · cases h
      · cases h
    · cases h
  · cases h
theorem tabD_some {st : St} {x : D} {l : List Fl} (h : tabD st x = some l) : (x = .nul ∧ l = []) ∨ ∃ kl vl ol c, x = .win kl vl ol l.length 3 ∧ st.mem? kl vl = some (true, c) ∧ ol + l.length * 3 ≤ c.length ∧ l.length < 1000000 ∧ (c.drop ol).take (l.length * 3) = (l.map flC).flatten := by
  unfold tabD at h
  split at h
  · cases h; exact .inl ⟨rfl, rfl⟩
  · rename_i kl vl ol len
    split at h
    · rename_i c hm
      split at h
      · rename_i hc
        have hs := rowsF_spec h
        have hlen : l.length = len := by
          have h1 := congrArg List.length hs
          have h2 : ∀ l : List Fl, ((l.map flC).flatten).length = l.length * 3 := by
            intro l
            induction l with
            | nil => rfl
            | cons a l ih => simp only [List.map_cons, List.flatten_cons, List.length_append, ih, List.length_cons]; show 3 + _ = _; omega
          rw [h2] at h1
          simp only [List.length_take, List.length_drop] at h1
          omega
        subst hlen
        exact .inr ⟨kl, vl, ol, c, rfl, hm, hc.1, hc.2, hs⟩
      · cases h
    · cases h
  · cases h
theorem modify_set {α : Type} (a : Array α) (b : Nat) (x y : α) (f : α → α) (h : a[b]? = some x) (hf : f x = y) : a.modify b f = a.setIfInBounds b y := by
  apply Array.ext_getElem?
  intro j
  rw [Array.getElem?_modify]
  by_cases hj : b = j
  · subst hj
    have hb : b < a.size := (Array.getElem?_eq_some_iff.1 h).1
    rw [if_pos rfl, h, Array.getElem?_setIfInBounds_self_of_lt hb, ← hf]; rfl
  · rw [if_neg hj, Array.getElem?_setIfInBounds_ne hj]
theorem set_same {α : Type} (a : Array α) (b : Nat) (x : α) (h : a[b]? = some x) : a.setIfInBounds b x = a := by
  apply Array.ext_getElem?
  intro j
  by_cases hj : b = j
  · subst hj
    rw [Array.getElem?_setIfInBounds_self_of_lt (Array.getElem?_eq_some_iff.1 h).1, h]
  · rw [Array.getElem?_setIfInBounds_ne hj]
theorem set_set' {α : Type} (a : Array α) (b : Nat) (x y : α) : (a.setIfInBounds b x).setIfInBounds b y = a.setIfInBounds b y := by
  apply Array.ext_getElem?
  intro j
  by_cases hj : b = j
  · subst hj
    by_cases hb : b < a.size
    · rw [Array.getElem?_setIfInBounds_self_of_lt (by simpa using hb), Array.getElem?_setIfInBounds_self_of_lt hb]
    · simp [Array.getElem?_eq_none (Nat.le_of_not_lt hb)]
  · rw [Array.getElem?_setIfInBounds_ne hj, Array.getElem?_setIfInBounds_ne hj, Array.getElem?_setIfInBounds_ne hj]
theorem tsCell_put {w : World} {b o : Nat} {cs : Array Value} {el : TypeId} {fr : Nat × Nat} (h : w.heap[b]? = some (.cells cs el fr)) (v : Value) : w.setCell ⟨b, o, none⟩ v = wput w b (.cells (cs.setIfInBounds o v) el fr) := by
  unfold World.setCell wput
  rw [modify_set _ _ _ (.cells (cs.setIfInBounds o v) el fr) _ h rfl]
theorem setCells_put {b : Nat} {el : TypeId} {fr : Nat × Nat} : ∀ (vs : List Value) (o : Nat) (w : World) (cs : Array Value), w.heap[b]? = some (.cells cs el fr) → w.setCells b o vs = wput w b (.cells (setV cs o vs) el fr)
  | [], o, w, cs, h => by
    show w = { w with heap := _ }
    rw [show setV cs o [] = cs from rfl, set_same _ _ _ h]
  | v :: vs, o, w, cs, h => by
    have hb : b < w.heap.size := (Array.getElem?_eq_some_iff.1 h).1
    rw [World.setCells, tsCell_put h, setCells_put vs (o + 1) _ (cs.setIfInBounds o v) (by simp only [wput]; rw [Array.getElem?_setIfInBounds_self_of_lt hb])]
    show ({ w with heap := _ } : World) = _
    simp only [wput, set_set', setV]
theorem new_put {W : World} {R : Array Value} {el : TypeId} (vs us : List Value) (o p : Nat) : ((((W.alloc (.cells R el)).drew.setCells W.heap.size o vs).drew).setCells W.heap.size p us).heap = W.heap.push (.cells (setV (setV R o vs) p us) el (0, 0)) := by
  have h0 : (W.alloc (.cells R el)).drew.heap[W.heap.size]? = some (.cells R el (0, 0)) := by
    show (W.heap.push _)[W.heap.size]? = _
    simp
  rw [setCells_put vs o _ R h0]
  have h1 : (wput (W.alloc (.cells R el)).drew W.heap.size (.cells (setV R o vs) el (0, 0))).drew.heap[W.heap.size]? = some (.cells (setV R o vs) el (0, 0)) := by
    show ((W.heap.push _).setIfInBounds W.heap.size _)[W.heap.size]? = _
    rw [Array.getElem?_setIfInBounds_self_of_lt (by simp)]
  rw [setCells_put us p _ _ h1]
  show (((W.heap.push _).setIfInBounds W.heap.size _).setIfInBounds W.heap.size _) = _
  rw [set_set']
  apply Array.ext_getElem?
  intro j
  by_cases hj : W.heap.size = j
  · subst hj
    rw [Array.getElem?_setIfInBounds_self_of_lt (by simp)]; simp
  · rw [Array.getElem?_setIfInBounds_ne hj, Array.getElem?_push, Array.getElem?_push, if_neg (fun e => hj e.symm), if_neg (fun e => hj e.symm)]
theorem wr_nx {w : World} {st st' : St} {β : Nat → Option (Nat × Nat)} {Z : Nat → Prop} (h : Sim w st β Z) {k ver off : Nat} {ds : List D} {us : List Value} (hu : LR w (st.x β Z) ds us) (hw : st.wr k ver off ds = some st') {b base : Nat} (hb : β k = some (b, base)) :
    Nx w st β Z (w.setCells b (base + off) us) st' β Z := by
  obtain ⟨w', h1, β', h2, rfl⟩ := wr_ok (P := Tryz.prog) h hu hw hb (.inr rfl)
  unfold St.wr at hw
  split at hw
  · rename_i a c hm
    split at hw
    · rename_i hc
      obtain ⟨cs, el, fr, r1, r2, r3, r4⟩ := h.row hm hb
      have h3 := run_storeCells_cells (P := Tryz.prog) b (base + off) us 0 w (fun j hj => by
        simp only [World.cell?, r1]
        rw [Array.getElem?_eq_getElem (by have := hu.len; omega)]; rfl) (fun j hj => by
        simp only [World.frozen?, r1]
        have := r3.2 (base + off + 0 + j) (by have := hu.len; omega)
        simpa using this) hu.one
      rw [h1] at h3
      cases h3
      exact h2
    · cases hw
  · cases hw
theorem vr_ptrD {w : World} {x : X} {k vr off : Nat} {v : Value} (h : VR w x (.ptr k vr off) v) : ∃ a, v = .pointer (some a) ∧ (∃ p, x.β k = some p) ∧ (x.ver k = some vr → ∃ b base, x.β k = some (b, base) ∧ a = ⟨b, base + off, none⟩) := by
  cases h with
  | im _ _ h => cases h
  | ptr _ _ _ a hk hm h => exact ⟨a, rfl, hk, h⟩
theorem tsMany_all : ∀ (cs c : List D), cs.length = c.length → setMany c 0 cs = cs := fun cs c h => by
  apply List.ext_getElem?
  intro j
  rw [setMany_get cs c 0 j (by omega)]
  split
  · rfl
  · rw [List.getElem?_eq_none (by omega), List.getElem?_eq_none (by omega)]
theorem push_old {st : St} {bx : Box} {k ver : Nat} {ar : Bool} {c : List D} (h : st.mem? k ver = some (ar, c)) : (st.push bx).mem? k ver = some (ar, c) ∧ k < st.bs.length := by
  have hb := (mem_spec h).1
  have hk : k < st.bs.length := (List.getElem?_eq_some_iff.1 hb).1
  refine ⟨?_, hk⟩
  unfold St.mem? St.push
  simp only
  rw [List.getElem?_append_left hk]
  exact h
theorem und250 : pv0.und 165 = some (.slice 185) := by kernel_rfl
theorem info249 : ∃ i, pv0.info 185 = some i ∧ i.size = 3 ∧ 1 ≤ i.bytes := by
  have h : (match pv0.info 185 with | some i => i.size == 3 && decide (1 ≤ i.bytes) | none => false) = true := by kernel_rfl
  cases hi : pv0.info 185 with
  | none => rw [hi] at h; cases h
  | some i => rw [hi] at h; simp only [Bool.and_eq_true, beq_iff_eq, decide_eq_true_eq] at h; exact ⟨i, rfl, h⟩
theorem append_row {st st1 : St} {x x' : D} {y z z2 : D} (h : appendD pv0 [165, 165] x (.win st.bs.length 0 0 1 3) (st.push (.mem 0 true [y, z, z2])) = some (x', st1)) {kl vl ol len : Nat} (hx : x = .win kl vl ol len 3) {c : List D} (hm : st.mem? kl vl = some (true, c)) :
    ol + len * 3 ≤ c.length ∧ x' = .win kl (vl + 1) 0 (len + 1) 3 ∧ (st.push (.mem 0 true [y, z, z2])).ro ≤ kl ∧ st1 = { (st.push (.mem 0 true [y, z, z2])) with bs := (st.push (.mem 0 true [y, z, z2])).bs.set kl (.mem (vl + 1) true ((c.take (ol + len * 3)).drop ol ++ [y, z, z2])) } := by
  subst hx
  have hrow : rowD (st.push (.mem 0 true [y, z, z2])) (.win st.bs.length 0 0 1 3) = some (1, [y, z, z2]) := by
    have : (st.push (.mem 0 true [y, z, z2])).mem? st.bs.length 0 = some (true, [y, z, z2]) := by
      unfold St.mem? St.push
      simp
    simp [rowD, this]
  obtain ⟨i, hi, hs, hb⟩ := info249
  unfold appendD at h
  simp only [und250] at h
  split at h
  · cases h
  · rename_i hnz
    obtain ⟨i', hi', h⟩ := Option.bind_eq_some_iff.1 h
    rw [hi] at hi'; cases hi'
    obtain ⟨z', hz, h⟩ := Option.bind_eq_some_iff.1 h
    rw [hrow] at h
    simp only [Option.bind_some] at h
    split at h
    · cases h
    · rename_i hck
      rw [(push_old hm).1] at h
      simp only [hs] at h
      split at h
      · cases h
      · rename_i hsz
        simp only [not_or, Nat.not_lt] at hsz
        split at h
        · rename_i h1; cases h1
        · split at h
          · rename_i hc
            cases h
            exact ⟨hsz.2, rfl, canW_ro hc.2, rfl⟩
          · cases h
theorem tab_at {w : World} {st : St} {β : Nat → Option (Nat × Nat)} {Z : Nat → Prop} (h : Sim w st β Z) {k ver off : Nat} {ar : Bool} {ct : List D} (hm : st.mem? k ver = some (ar, ct)) {kl vl ol len : Nat} (hx : ct[off]? = some (.win kl vl ol len 3)) {c : List D} (hml : st.mem? kl vl = some (true, c)) (hfit : ol + len * 3 ≤ c.length) (hlen : 1 ≤ len) {bt base : Nat} (hb : β k = some (bt, base)) (hne : kl ≠ k) :
    ∃ bl basel cap cl el fr, β kl = some (bl, basel) ∧ w.heap[bl]? = some (.cells cl el fr) ∧ basel + c.length ≤ cl.size ∧ FrOk cl.size fr ∧ (∀ (j : Nat) d, c[j]? = some d → ∃ u, cl[basel + j]? = some u ∧ u.oneCell' = true ∧ VR w (st.x β Z) d u) ∧
      w.cell? ⟨bt, base + off, none⟩ = some (.slice (some ⟨bl, basel + ol, none⟩) len cap) ∧ w.frozen? ⟨bt, base + off, none⟩ = false ∧ bt ≠ bl ∧ len ≤ cap ∧ basel + ol + cap * 3 ≤ cl.size := by
  obtain ⟨cs, el0, fr0, t1, t2, t3, t4⟩ := h.row hm hb
  obtain ⟨u, u1, u2, u3⟩ := t4 off _ hx
  obtain ⟨a, cap, rfl, hc, ⟨p, hp⟩, _, hat⟩ := vr_win u3
  obtain ⟨bl, basel, sz, hbl, hrs, had⟩ := hat (mem_spec hml).2
  obtain ⟨rfl, hsz⟩ := had.resolve_left (by omega)
  have hbl : β kl = some (bl, basel) := hbl
  obtain ⟨cl, el, fr, l1, l2, l3, l4⟩ := h.row hml hbl
  have hsz2 : sz = cl.size := by simp only [rowSize, l1] at hrs; cases hrs; rfl
  have hofflt : off < ct.length := (List.getElem?_eq_some_iff.1 hx).1
  refine ⟨bl, basel, cap, cl, el, fr, hbl, l1, l2, l3, l4, ?_, ?_, ?_, hc, by omega⟩
  · simp only [World.cell?, t1]; simpa using u1
  · simp only [World.frozen?, t1]
    have := t3.2 (base + off) (by omega)
    simpa using this
  · intro e
    subst e
    exact hne (h.inj _ _ _ _ _ hbl hb)
theorem nx_at {w w1 : World} {st : St} {β β1 : Nat → Option (Nat × Nat)} {Z Z1 : Nat → Prop} (hn : Nx w st β Z w1 st β1 Z1) {k ver : Nat} {ar : Bool} {ct : List D} (hm : st.mem? k ver = some (ar, ct)) {b base : Nat} (hb : β k = some (b, base)) : β1 k = some (b, base) :=
  (hn.keeps.at_ k ver (mem_spec hm).2 (mem_spec hm).2 b base hb).1
theorem lr_row {w : World} {x : X} (key : Int) (nm : List UInt8) {b : D} {bv : Value} (h : VR w x b bv) (h1 : bv.oneCell' = true) : LR w x [.int .i64 key, .str nm, b] [.int .i64 key, .string ⟨nm.toArray⟩, bv] := by
  refine ⟨rfl, ?_, ?_⟩
  · intro u hu; simp only [List.mem_cons, List.not_mem_nil, or_false] at hu; rcases hu with rfl | rfl | rfl <;> first | rfl | exact h1
  · intro i c u hc hu
    match i, hc, hu with
    | 0, hc, hu => cases hc; cases hu; exact .im _ _ (.int _ _)
    | 1, hc, hu => cases hc; cases hu; exact .im _ _ (.str _)
    | 2, hc, hu => cases hc; cases hu; exact h
    | i + 3, hc, hu => simp at hc
theorem lr_two {w : World} {x : X} (nm : List UInt8) {b : D} {bv : Value} (h : VR w x b bv) (h1 : bv.oneCell' = true) : LR w x [.str nm, b] [.string ⟨nm.toArray⟩, bv] := by
  refine ⟨rfl, ?_, ?_⟩
  · intro u hu; simp only [List.mem_cons, List.not_mem_nil, or_false] at hu; rcases hu with rfl | rfl <;> first | rfl | exact h1
  · intro i c u hc hu
    match i, hc, hu with
    | 0, hc, hu => cases hc; cases hu; exact .im _ _ (.str _)
    | 1, hc, hu => cases hc; cases hu; exact h
    | i + 2, hc, hu => simp at hc
theorem lr_one {w : World} {x : X} {d : D} {u : Value} (h : VR w x d u) (h1 : u.oneCell' = true) : LR w x [d] [u] := by
  refine ⟨rfl, ?_, ?_⟩
  · intro y hy; simp only [List.mem_cons, List.not_mem_nil, or_false] at hy; rw [hy]; exact h1
  · intro i c y hc hy
    match i, hc, hy with
    | 0, hc, hy => cases hc; cases hy; exact h
    | i + 1, hc, hy => simp at hc
theorem seen {w w1 : World} {nm : ByteArray} {bv : Value} (h : Quiet (w.alloc (.cells #[.string nm, bv] 113)) w1) : w1.cell? ⟨w.heap.size, 0, none⟩ = some (.string nm) ∧ w1.cell? ⟨w.heap.size, 1, none⟩ = some bv := by
  have h0 : (w.alloc (.cells #[.string nm, bv] 113)).heap[w.heap.size]? = some (.cells #[.string nm, bv] 113 (0, 0)) := by
    show (w.heap.push _)[w.heap.size]? = _
    simp
  have h1 := h w.heap.size (by show _ < (w.heap.push _).size; simp)
  rw [h0] at h1
  simp [World.cell?, h1]
def Left (w : World) (st : St) (β : Nat → Option (Nat × Nat)) (Z : Nat → Prop) (nm : ByteArray) (bv : Value) (w1 : World) : Prop :=
  Quiet (w.alloc (.cells #[.string nm, bv] 113)) w1 ∧ ∃ β1 Z1, Nx w st β Z w1 st β1 Z1
section
variable (hv : pv0.Ok Tryz.prog ∧ pv0.codes ∧ CfOk Tryz.prog pv0 (primF pv0)) {w : World} {st : St} {β : Nat → Option (Nat × Nat)} {Z : Nat → Prop} (hsim : Sim w st β Z) {k ver off : Nat} {key : Int} {u0 : Value} (h0 : VR w (st.x β Z) (.ptr k ver off) u0) {i : Nat} {b : Bool} (hf : Ev pv0 72 [.ptr k ver off, .int .i64 key] st (.tup [.int .i64 (i : Nat), .bool b]) st)
include hv hsim h0 hf
theorem find_calls (nm : ByteArray) (bv : Value) : Calls Tryz.prog 72 #[u0, .int .i64 key] (w.alloc (.cells #[.string nm, bv] 113)) fun e w1 => e = .returned (.tuple #[.int .i64 (i : Nat), .bool b]) ∧ Left w st β Z nm bv w1 := by
  unfold Ev at hf
  obtain ⟨N, hN⟩ := hf
  have hq : Nx w st β Z (w.alloc (.cells #[.string nm, bv] 113)) st β Z := Nx.quiet hsim ⟨rfl, rfl, rfl, by show w.heap.size ≤ (w.heap.push _).size; simp, fun j hj => by
    show (w.heap.push _)[j]? = _
    rw [Array.getElem?_push, if_neg (by omega)]⟩
  refine ((call_ok hv.1 hv.2.1 hv.2.2 N).calls 72 _ st _ st (hN N (Nat.le_refl _)) (w.alloc (.cells #[.string nm, bv] 113)) β Z [u0, .int .i64 key] hq.sim rfl fun j c v hc hv' => ?_).mono fun e w1 => ?_
  · match j, hc, hv' with
    | 0, hc, hv' => cases hc; cases hv'; exact h0.mono hq.keeps
    | 1, hc, hv' => cases hc; cases hv'; exact .im _ _ (.int _ _)
  · rintro ⟨v, β1, Z1, rfl, hn, hvr, hqq⟩
    obtain ⟨vs, rfl, hl, hvs⟩ := vr_tup hvr
    match vs, hl with
    | [v0, v1], _ =>
      have e0 := vr_int (hvs 0 _ v0 rfl rfl)
      have e1 := vr_bool (hvs 1 _ v1 rfl rfl)
      subst e0 e1
      exact ⟨rfl, hqq (by kernel_rfl), β1, Z1, hq.trans hn⟩
end
section
variable (hv : pv0.Ok Tryz.prog ∧ pv0.codes ∧ CfOk Tryz.prog pv0 (primF pv0)) {w : World} {st st' : St} {β : Nat → Option (Nat × Nat)} {Z : Nat → Prop} (hsim : Sim w st β Z) {k ver off : Nat} {key : Int} {nm : List UInt8} {b : D} {bv u0 : Value} (h0 : VR w (st.x β Z) (.ptr k ver off) u0) (hbv : VR w (st.x β Z) b bv) (hb1 : bv.oneCell' = true) {l : List Fl} {x : D} {ar : Bool} {ct : List D} (hm : st.mem? k ver = some (ar, ct)) (hx : ct[off]? = some x) (ht : tabD st x = some l)
  (hf : Ev pv0 72 [.ptr k ver off, .int .i64 key] st (.tup [.int .i64 (findT l key : Nat), .bool (thereT l key)]) st) (hk : kwD k x ≠ k)
include hv hsim h0 hbv hb1 hm hx ht hf hk
theorem set_found_ok (hth : thereT l key = true) (hw : setE x (findT l key) nm b st = some st') : Calls Tryz.prog 47 #[u0, .int .i64 key, .agg #[.string ⟨nm.toArray⟩, bv]] w fun e w' => e = .returned (.bool false) ∧ ∃ β' Z', Nx w st β Z w' st' β' Z' := by
  obtain ⟨a, rfl, _, hat⟩ := vr_ptrD h0
  obtain ⟨bt, base, hb, rfl⟩ := hat (mem_spec hm).2
  have hb : β k = some (bt, base) := hb
  have hi : findT l key < l.length := by
    unfold thereT at hth
    simp only [Bool.and_eq_true, decide_eq_true_eq] at hth
    exact hth.1
  rcases tabD_some ht with ⟨rfl, rfl⟩ | ⟨kl, vl, ol, c, rfl, hml, hfit, hlen, hrows⟩
  · cases hw
  have hne : kl ≠ k := hk
  obtain ⟨bl, basel, cap, cl, el, fr, hbl, _⟩ := tab_at hsim hm hx hml hfit (by omega) hb hne
  have hw : st.wr kl vl (ol + findT l key * 3 + 1) [.str nm, b] = some st' := hw
  rw [hth] at hf
  refine (set_found bt (base + off) bl (basel + ol) l.length (findT l key) key ⟨nm.toArray⟩ bv hb1 w (fun w1 hR => seen hR.1) (find_calls hv hsim h0 hf _ _) hi (by omega) (fun w1 hR => ?_)).mono fun e w' => ?_
  · obtain ⟨_, β1, Z1, hn⟩ := hR
    have hb1 := nx_at hn hm hb
    obtain ⟨bl', basel', cap, cl, el, fr, hbl', l1, l2, l3, l4, l5, l6, l7, l8, l9⟩ := tab_at hn.sim hm hx hml hfit (by omega) hb1 hne
    have := nx_at hn hml hbl
    rw [hbl'] at this
    cases this
    have hc : ∀ o, o < cl.size → ∃ u, w1.cell? ⟨bl, o, none⟩ = some u := fun o ho => ⟨cl[o], by simp only [World.cell?, l1]; rw [if_neg (by simp)]; exact Array.getElem?_eq_getElem ho⟩
    have hfz : ∀ o, o < cl.size → w1.frozen? ⟨bl, o, none⟩ = false := fun o ho => by
      simp only [World.frozen?, l1]
      have := l3.2 o ho
      simpa using this
    obtain ⟨u1, hu1⟩ := hc (basel + ol + findT l key * 3 + 1) (by omega)
    obtain ⟨u2, hu2⟩ := hc (basel + ol + findT l key * 3 + 2) (by omega)
    exact ⟨cap, l5, l8, ⟨u1, u2, hu1, hu2⟩, hfz _ (by omega), hfz _ (by omega)⟩
  · rintro ⟨rfl, w1, ⟨_, β1, Z1, hn⟩, rfl⟩
    have hs : Nx w st β Z w1.drew st β1 Z1 := hn.trans (Nx.still hn.sim rfl rfl rfl rfl)
    have h9 := wr_nx hs.sim (lr_two nm (hbv.mono hs.keeps) hb1) hw (nx_at hs hml hbl)
    have e : basel + (ol + findT l key * 3 + 1) = basel + ol + findT l key * 3 + 1 := by omega
    rw [e] at h9
    exact ⟨rfl, _, _, hs.trans h9⟩
end
theorem bpush_old {β : Nat → Option (Nat × Nat)} {n b i : Nat} (h : i ≠ n) : bpush β n b i = β i := by unfold bpush; rw [if_neg h]
theorem setMany_box {st : St} {k ver : Nat} {ar : Bool} {c cs : List D} {st' : St} (hm : st.mem? k ver = some (ar, c)) (hl : cs.length = c.length) (h : st.wr k ver 0 cs = some st') : st' = { st with bs := st.bs.set k (.mem ver ar cs) } := by
  unfold St.wr at h
  rw [hm] at h
  simp only at h
  split at h
  · cases h
    rw [tsMany_all cs c hl]
  · cases h
theorem insL_len (l ys : List D) {n : Nat} (h : n ≤ l.length) : (insL l n ys).length = l.length + ys.length := by
  unfold insL
  simp only [List.length_append, List.length_take, List.length_drop]
  omega
theorem rows_len (l : List Fl) : ((l.map flC).flatten).length = l.length * 3 := by
  induction l with
  | nil => rfl
  | cons a l ih => simp only [List.map_cons, List.flatten_cons, List.length_append, ih, List.length_cons]; show 3 + _ = _; omega
theorem ins_rel {R : D → Value → Prop} {old : List D} {cs : List Value} {i : Nat} {y1 y2 y3 : D} {v1 v2 v3 : Value} {cl : Array Value} {o n : Nat} (hol : old.length = n * 3) (hcl : cs.length = n * 3) (hi : i < n) (hfit : o + (n + 1) * 3 ≤ cl.size)
    (hr : ∀ (j : Nat) d, old[j]? = some d → ∃ u, cs[j]? = some u ∧ u.oneCell' = true ∧ R d u) (hlow : ∀ (j : Nat) u, (cs.take (i * 3))[j]? = some u → cl[o + j]? = some u) (h1 : R y1 v1 ∧ v1.oneCell' = true) (h2 : R y2 v2 ∧ v2.oneCell' = true) (h3r : R y3 v3 ∧ v3.oneCell' = true) {p q : Nat} {A B : List Value} {X : Array Value}
    (hX : (p = o + (i + 1) * 3 ∧ A = cs.drop (i * 3) ∧ q = o + i * 3 ∧ B = [v1, v2, v3]) ∨ (p = o + i * 3 ∧ A = [v1, v2, v3] ∧ q = o + (i + 1) * 3 ∧ B = cs.drop (i * 3))) (hXe : X = setV (setV cl p A) q B) :
    ∀ (j : Nat) d, (insL old (i * 3) [y1, y2, y3])[j]? = some d → ∃ u, X[o + j]? = some u ∧ u.oneCell' = true ∧ R d u := by
  intro j d hd
  have hA : p + A.length ≤ cl.size := by rcases hX with ⟨rfl, rfl, rfl, rfl⟩ | ⟨rfl, rfl, rfl, rfl⟩ <;> simp only [List.length_drop, List.length_cons, List.length_nil] <;> omega
  have hB : q + B.length ≤ (setV cl p A).size := by rw [setV_size]; rcases hX with ⟨rfl, rfl, rfl, rfl⟩ | ⟨rfl, rfl, rfl, rfl⟩ <;> simp only [List.length_drop, List.length_cons, List.length_nil] <;> omega
  have hget : X[o + j]? = if q ≤ o + j ∧ o + j < q + B.length then B[o + j - q]? else if p ≤ o + j ∧ o + j < p + A.length then A[o + j - p]? else cl[o + j]? := by
    rw [hXe, setV_get _ _ _ _ hB, setV_get _ _ _ _ hA]
  have hdl : (cs.drop (i * 3)).length = (n - i) * 3 := by rw [List.length_drop]; omega
  have hjl : j < (n + 1) * 3 := by
    have := (List.getElem?_eq_some_iff.1 hd).1
    rw [insL_len _ _ (by omega)] at this
    simp only [List.length_cons, List.length_nil] at this; omega
  unfold insL at hd
  by_cases c1 : j < i * 3
  · rw [List.getElem?_append_left (by rw [List.length_take]; omega), List.getElem?_take, if_pos c1] at hd
    obtain ⟨u, u1, u2, u3⟩ := hr j d hd
    refine ⟨u, ?_, u2, u3⟩
    rw [hget]
    have h3 := hlow j u (by rw [List.getElem?_take, if_pos c1]; exact u1)
    rcases hX with ⟨rfl, rfl, rfl, rfl⟩ | ⟨rfl, rfl, rfl, rfl⟩
    · rw [if_neg (by omega), if_neg (by omega)]; exact h3
    · rw [if_neg (by omega), if_neg (by omega)]; exact h3
  · rw [List.getElem?_append_right (by rw [List.length_take]; omega), List.length_take, Nat.min_eq_left (by omega)] at hd
    by_cases c2 : j < (i + 1) * 3
    · rw [List.getElem?_append_left (by simp only [List.length_cons, List.length_nil]; omega)] at hd
      have hin : ∃ u, ([v1, v2, v3] : List Value)[j - i * 3]? = some u ∧ u.oneCell' = true ∧ R d u := by
        have : j - i * 3 = 0 ∨ j - i * 3 = 1 ∨ j - i * 3 = 2 := by omega
        rcases this with e | e | e
        · rw [e] at hd ⊢; cases hd; exact ⟨v1, rfl, h1.2, h1.1⟩
        · rw [e] at hd ⊢; cases hd; exact ⟨v2, rfl, h2.2, h2.1⟩
        · rw [e] at hd ⊢; cases hd; exact ⟨v3, rfl, h3r.2, h3r.1⟩
      obtain ⟨u, u1, u2, u3⟩ := hin
      refine ⟨u, ?_, u2, u3⟩
      rw [hget]
      rcases hX with ⟨rfl, rfl, rfl, rfl⟩ | ⟨rfl, rfl, rfl, rfl⟩
      · rw [if_pos (by simp only [List.length_cons, List.length_nil]; omega), ← u1]; congr 1; omega
      · rw [if_neg (by omega), if_pos (by simp only [List.length_cons, List.length_nil]; omega), ← u1]; congr 1; omega
    · rw [List.getElem?_append_right (by simp only [List.length_cons, List.length_nil]; omega)] at hd
      simp only [List.length_cons, List.length_nil, List.getElem?_drop] at hd
      obtain ⟨u, u1, u2, u3⟩ := hr _ d hd
      refine ⟨u, ?_, u2, u3⟩
      rw [hget]
      rcases hX with ⟨rfl, rfl, rfl, rfl⟩ | ⟨rfl, rfl, rfl, rfl⟩
      · rw [if_neg (by simp only [List.length_cons, List.length_nil]; omega), if_pos (by omega), ← u1, List.getElem?_drop]; congr 1; omega
      · rw [if_pos (by omega), ← u1, List.getElem?_drop]; congr 1; omega
section
variable (hv : pv0.Ok Tryz.prog ∧ pv0.codes ∧ CfOk Tryz.prog pv0 (primF pv0)) {w : World} {st st1 st2 st3 : St} {β : Nat → Option (Nat × Nat)} {Z : Nat → Prop} (hsim : Sim w st β Z) {k ver off : Nat} {key : Int} {nm : List UInt8} {b : D} {bv u0 : Value} (h0 : VR w (st.x β Z) (.ptr k ver off) u0) (hbv : VR w (st.x β Z) b bv) (hb1 : bv.oneCell' = true) {l : List Fl} {x x' : D} {ar : Bool} {ct : List D} (hm : st.mem? k ver = some (ar, ct)) (hx : ct[off]? = some x) (ht : tabD st x = some l)
  (hf : Ev pv0 72 [.ptr k ver off, .int .i64 key] st (.tup [.int .i64 (findT l key : Nat), .bool (thereT l key)]) st) (hk : kwD k x ≠ k)
include hv hsim h0 hbv hb1 hm hx ht hf hk
theorem set_mid_ok (hth : thereT l key = false) (hi : findT l key < l.length) (ha : appendD pv0 [165, 165] x (.win st.bs.length 0 0 1 3) (st.push (.mem 0 true [.int .i64 key, .str nm, b])) = some (x', st1)) (hp : putT x' (findT l key) l.length ((l.map flC).flatten) [.int .i64 key, .str nm, b] st1 = some st2) (hw : st2.wr k ver off [x'] = some st3) :
    Calls Tryz.prog 47 #[u0, .int .i64 key, .agg #[.string ⟨nm.toArray⟩, bv]] w fun e w' => e = .returned (.bool true) ∧ ∃ β' Z', Nx w st β Z w' st3 β' Z' := by
  obtain ⟨a, rfl, _, hat⟩ := vr_ptrD h0
  obtain ⟨bt, base, hb, rfl⟩ := hat (mem_spec hm).2
  have hb : β k = some (bt, base) := hb
  rcases tabD_some ht with ⟨rfl, rfl⟩ | ⟨kl, vl, ol, c, rfl, hml, hfit, hlen, hrows⟩
  · simp at hi
  have hne : kl ≠ k := hk
  obtain ⟨bl, basel, _, _, _, _, hbl, _⟩ := tab_at hsim hm hx hml hfit (by omega) hb hne
  have hmlp := push_old (bx := .mem 0 true [.int .i64 key, .str nm, b]) hml
  have hmp := push_old (bx := .mem 0 true [.int .i64 key, .str nm, b]) hm
  obtain ⟨_, rfl, hro, hst1⟩ := append_row ha rfl hml
  have hwin : (c.take (ol + l.length * 3)).drop ol = (l.map flC).flatten := by rw [List.drop_take, Nat.add_sub_cancel_left]; exact hrows
  rw [hwin] at hst1
  have hrl := rows_len l
  generalize hold : (l.map flC).flatten = old at *
  have hil := insL_len old [.int .i64 key, .str nm, b] (n := findT l key * 3) (by omega)
  simp only [List.length_cons, List.length_nil] at hil
  have hst2 : st2 = { (st.push (.mem 0 true [.int .i64 key, .str nm, b])) with bs := (st.push (.mem 0 true [.int .i64 key, .str nm, b])).bs.set kl (.mem (vl + 1) true (insL old (findT l key * 3) [.int .i64 key, .str nm, b])) } := by
    unfold putT at hp
    rw [if_pos hi] at hp
    have hkl2 : kl < (st.push (.mem 0 true [.int .i64 key, .str nm, b])).bs.length := by simp only [St.push, List.length_append, List.length_cons, List.length_nil]; omega
    have hm1 : st1.mem? kl (vl + 1) = some (true, old ++ [.int .i64 key, .str nm, b]) := by
      rw [hst1]
      unfold St.mem?
      simp only
      rw [List.getElem?_set_self hkl2]
      simp
    have := setMany_box hm1 (by rw [hil, List.length_append]; rfl) hp
    rw [this, hst1]
    simp only [List.set_set]
  clear hst1 hp ha
  generalize hI : insL old (findT l key * 3) [.int .i64 key, .str nm, b] = I at *
  rw [hth] at hf
  generalize findT l key = i at *
  generalize hn : l.length = n at *
  have hR : ∀ w1, Left w st β Z ⟨nm.toArray⟩ bv w1 → ∃ c cs, AtTab bt (base + off) bl (basel + ol) n w1 c cs := by
    rintro w1 ⟨_, β1, Z1, hnx⟩
    obtain ⟨bl', basel', cap, cl, el, fr, hbl', l1, l2, l3, l4, l5, l6, l7, l8, l9⟩ := tab_at hnx.sim hm hx hml hfit (by omega) (nx_at hnx hm hb) hne
    have := nx_at hnx hml hbl
    rw [hbl'] at this
    cases this
    have hcs : ∀ (j : Nat) u, ((cl.toList.drop (basel + ol)).take (n * 3))[j]? = some u → j < n * 3 ∧ cl[basel + ol + j]? = some u := fun j u hj => by
      rw [List.getElem?_take] at hj
      split at hj
      · rw [List.getElem?_drop] at hj; exact ⟨by assumption, by simpa using hj⟩
      · cases hj
    refine ⟨cap, (cl.toList.drop (basel + ol)).take (n * 3), l5, l6, l7, l8, by simp; omega, ?_, ?_, fun hroom => ⟨?_, ?_, el, cl.size, by simp only [World.shape?, l1], by omega⟩⟩
    · intro u hu
      obtain ⟨j, hj⟩ := List.getElem?_of_mem hu
      obtain ⟨h1, h2⟩ := hcs j u hj
      obtain ⟨u', h3, h4, _⟩ := l4 (ol + j) _ (List.getElem?_eq_getElem (by omega))
      rw [← Nat.add_assoc, h2] at h3
      cases h3; exact h4
    · intro j u hj
      simp only [World.cell?, l1]
      rw [if_neg (by simp)]
      exact (hcs j u hj).2
    · intro j hj
      simp only [World.cell?, l1]
      rw [if_neg (by simp), Array.getElem?_eq_getElem (by omega)]; rfl
    · intro j hj
      simp only [World.frozen?, l1]
      have := l3.2 (basel + ol + j) (by omega)
      simpa using this
  refine (ts_mid bt (base + off) bl (basel + ol) n i key ⟨nm.toArray⟩ bv hb1 w (fun w1 hR => seen hR.1) (find_calls hv hsim h0 hf _ _) hi (by omega) hR).mono fun e w' => ?_
  rintro ⟨rfl, w1, cap, cs, ⟨_, β1, Z1, hnx0⟩, hAt0, W2, hW2, hcase⟩
  have hAt : AtTab bt (base + off) bl (basel + ol) n w1.drew cap cs := hAt0
  have hnx : Nx w st β Z w1.drew st β1 Z1 := hnx0.trans (Nx.still hnx0.sim rfl rfl rfl rfl)
  clear hAt0 hnx0
  generalize w1.drew = w1 at *
  obtain ⟨a1, a2, a3, a4, a5, a6, a7, a8⟩ := hAt
  obtain ⟨bl', basel', cap', cl, el, fr, hbl', l1, l2, l3, l4, l5, l6, l7, l8, l9⟩ := tab_at hnx.sim hm hx hml hfit (by omega) (nx_at hnx hm hb) hne
  have := nx_at hnx hml hbl
  rw [hbl'] at this
  cases this
  rw [l5] at a1
  simp only [Option.some.injEq, Value.slice.injEq, true_and] at a1
  subst a1
  have hbt1 := nx_at hnx hm hb
  have hpush := Nx.push_mem (w' := W2) hnx.sim true [.int .i64 key, .str nm, b] #[.int .i64 key, .string ⟨nm.toArray⟩, bv] 185 (0, 0) (by rw [hW2]; rfl) (by rw [hW2]; rfl) (by rw [hW2]; rfl) (by rw [hW2]; rfl) (by simp) (FrOk.zero _) (fun j d hd => by
    obtain ⟨u, u1, u2, u3⟩ := (lr_row (w := w1) (x := st.x β1 Z1) key nm (hbv.mono hnx.keeps) hb1).at_ hd
    exact ⟨u, by simpa using u1, u2, u3⟩)
  obtain ⟨hpu, _, _, _⟩ := hpush
  have hklb : bpush β1 st.bs.length w1.heap.size kl = some (bl, basel) := by rw [bpush_old (by have := hmlp.2; omega)]; exact hbl'
  have hkb : bpush β1 st.bs.length w1.heap.size k = some (bt, base) := by rw [bpush_old (by have := hmp.2; omega)]; exact hbt1
  generalize bpush β1 st.bs.length w1.heap.size = β2 at *
  have hblt : bl < w1.heap.size := (Array.getElem?_eq_some_iff.1 l1).1
  have hW2h : W2.heap[bl]? = some (.cells cl el fr) := by
    rw [hW2]
    show (w1.heap.push _)[bl]? = _
    rw [Array.getElem?_push, if_neg (by omega)]; exact l1
  have hrel : ∀ (j : Nat) d, old[j]? = some d → ∃ u, cs[j]? = some u ∧ u.oneCell' = true ∧ VR W2 ((st.push (.mem 0 true [.int .i64 key, .str nm, b])).x β2 Z1) d u := by
    intro j d hd
    have hjl : j < n * 3 := by have := (List.getElem?_eq_some_iff.1 hd).1; omega
    rw [← hrows, List.getElem?_take, if_pos hjl, List.getElem?_drop] at hd
    obtain ⟨u, u1, u2, u3⟩ := l4 _ _ hd
    refine ⟨u, ?_, u2, u3.mono hpu.keeps⟩
    have h1 : cs[j]? = some (cs[j]'(by omega)) := List.getElem?_eq_getElem _
    have h2 := a7 j _ h1
    simp only [World.cell?, l1] at h2
    rw [if_neg (by simp)] at h2
    rw [← Nat.add_assoc] at u1
    rw [u1] at h2
    rw [h1, h2]
  have hnew := lr_row (w := W2) (x := (st.push (.mem 0 true [.int .i64 key, .str nm, b])).x β2 Z1) key nm ((hbv.mono hnx.keeps).mono hpu.keeps) hb1
  have hy1 := hnew.rel 0 _ _ rfl rfl
  have hy2 := hnew.rel 1 _ _ rfl rfl
  have hy3 := hnew.rel 2 _ _ rfl rfl
  have hklen : kl < (st.push (.mem 0 true [.int .i64 key, .str nm, b])).bs.length := by have := hmlp.2; simp only [St.push, List.length_append, List.length_cons, List.length_nil]; omega
  have fin : ∀ (W3 : World) (B O cap3 sz : Nat), Nx W2 (st.push (.mem 0 true [.int .i64 key, .str nm, b])) β2 Z1 W3 st2 (fun j => if j = kl then some (B, O) else β2 j) Z1 → rowSize W3 B = some sz → n + 1 ≤ cap3 → O + cap3 * 3 ≤ sz →
      ∃ β' Z', Nx w st β Z (W3.setCell ⟨bt, base + off, none⟩ (.slice (some ⟨B, O, none⟩) (n + 1) cap3)) st3 β' Z' := by
    intro W3 B O cap3 sz h3 hrs hc3 hsz
    have hvr : VR W3 (st2.x (fun j => if j = kl then some (B, O) else β2 j) Z1) (.win kl (vl + 1) 0 (n + 1) 3) (.slice (some ⟨B, O, none⟩) (n + 1) cap3) := by
      refine .win kl (vl + 1) 0 (n + 1) 3 _ cap3 hc3 ⟨(B, O), by simp [St.x]⟩ (fun q hq => ?_) fun _ => ⟨B, O, sz, by simp [St.x], hrs, .inr ⟨rfl, by omega⟩⟩
      rw [hst2] at hq
      simp [St.x, St.ver, hklen, boxVer] at hq
      omega
    have h9 := wr_nx h3.sim (lr_one hvr rfl) hw (b := bt) (base := base) (by simp only [if_neg (fun e : k = kl => hne e.symm)]; exact hkb)
    exact ⟨_, _, hnx.trans (hpu.trans (h3.trans h9))⟩
  rcases hcase with ⟨hroom, rfl⟩ | ⟨G, ROW, hG1, hG2, hG3, rfl⟩
  · have hdrew : W2.drew.heap[bl]? = some (.cells cl el fr) := hW2h
    have hcsl : (cs.drop (i * 3)).length = (n - i) * 3 := by rw [List.length_drop]; omega
    rw [setCells_put _ _ _ _ hdrew]
    have hput : (wput W2.drew bl (.cells (setV cl (basel + ol + (i + 1) * 3) (cs.drop (i * 3))) el fr)).heap[bl]? = some (.cells (setV cl (basel + ol + (i + 1) * 3) (cs.drop (i * 3))) el fr) := by
      simp only [wput]
      rw [Array.getElem?_setIfInBounds_self_of_lt]
      exact (Array.getElem?_eq_some_iff.1 hdrew).1
    rw [setCells_put _ _ _ _ hput]
    have hrelI := ins_rel (R := VR W2 ((st.push (.mem 0 true [.int .i64 key, .str nm, b])).x β2 Z1)) (old := old) (cs := cs) (i := i) (y1 := .int .i64 key) (y2 := .str nm) (y3 := b) (v1 := .int .i64 key) (v2 := .string ⟨nm.toArray⟩) (v3 := bv) (cl := cl) (o := basel + ol) (n := n) (by omega) a5 hi (by omega) hrel (fun j u hj => by
      rw [List.getElem?_take] at hj
      split at hj
      · have h2 := a7 j u hj
        simp only [World.cell?, l1] at h2
        rw [if_neg (by simp)] at h2
        exact h2
      · cases hj) ⟨hy1, rfl⟩ ⟨hy2, rfl⟩ ⟨hy3, hb1⟩ (.inl ⟨rfl, rfl, rfl, rfl⟩) rfl
    rw [hI] at hrelI
    generalize hX : setV (setV cl (basel + ol + (i + 1) * 3) (cs.drop (i * 3))) (basel + ol + i * 3) [.int .i64 key, .string ⟨nm.toArray⟩, bv] = X at *
    have hXs : X.size = cl.size := by rw [← hX, setV_size, setV_size]
    have h3 := Nx.write (a' := true) (ver' := vl + 1) (c' := I) (base' := basel + ol) hpu.sim hmlp.1 hklb hro (by omega) (fun e => by omega) hW2h (cs' := X) hXs (by omega) hrelI
    rw [← hst2] at h3
    have hst := Nx.still (w' := wput (wput W2.drew bl (.cells (setV cl (basel + ol + (i + 1) * 3) (cs.drop (i * 3))) el fr)) bl (.cells X el fr)) h3.sim (by simp only [wput, set_set']; rfl) rfl rfl rfl
    have hbs : rowSize (wput (wput W2.drew bl (.cells (setV cl (basel + ol + (i + 1) * 3) (cs.drop (i * 3))) el fr)) bl (.cells X el fr)) bl = some cl.size := by
      simp only [rowSize, wput]
      rw [Array.getElem?_setIfInBounds_self_of_lt (by simp only [Array.size_setIfInBounds]; exact (Array.getElem?_eq_some_iff.1 hdrew).1)]
      simp only [hXs]
    exact ⟨rfl, fin _ bl (basel + ol) cap' cl.size (h3.trans hst) hbs hroom (by omega)⟩
  · have hh := new_put (W := W2) (R := ROW) (el := 185) [.int .i64 key, .string ⟨nm.toArray⟩, bv] (cs.drop (i * 3)) (i * 3) ((i + 1) * 3)
    have hrelI := ins_rel (R := VR W2 ((st.push (.mem 0 true [.int .i64 key, .str nm, b])).x β2 Z1)) (old := old) (cs := cs) (i := i) (y1 := .int .i64 key) (y2 := .str nm) (y3 := b) (v1 := .int .i64 key) (v2 := .string ⟨nm.toArray⟩) (v3 := bv) (cl := ROW) (o := 0) (n := n) (by omega) a5 hi (by omega) hrel (fun j u hj => by
      rw [Nat.zero_add]; exact hG3 j u hj) ⟨hy1, rfl⟩ ⟨hy2, rfl⟩ ⟨hy3, hb1⟩ (p := i * 3) (q := (i + 1) * 3) (.inr ⟨by omega, rfl, by omega, rfl⟩) rfl
    rw [hI] at hrelI
    simp only [Nat.zero_add] at hrelI
    generalize hX : setV (setV ROW (i * 3) [.int .i64 key, .string ⟨nm.toArray⟩, bv]) ((i + 1) * 3) (cs.drop (i * 3)) = X at *
    have hXs : X.size = ROW.size := by rw [← hX, setV_size, setV_size]
    generalize hW3 : ((W2.alloc (Obj.cells ROW 185)).drew.setCells W2.heap.size (i * 3) [Value.int IntKind.i64 key, Value.string ⟨nm.toArray⟩, bv]).drew.setCells W2.heap.size ((i + 1) * 3) (cs.drop (i * 3)) = W3 at *
    have hoth : W3.os = W2.os ∧ W3.tape = W2.tape ∧ W3.output = W2.output := by
      have hset : ∀ (vs : List Value) (b o : Nat) (W : World), (W.setCells b o vs).os = W.os ∧ (W.setCells b o vs).tape = W.tape ∧ (W.setCells b o vs).output = W.output := by
        intro vs
        induction vs with
        | nil => intro b o W; exact ⟨rfl, rfl, rfl⟩
        | cons x vs ih => intro b o W; rw [World.setCells]; exact ih b (o + 1) _
      rw [← hW3]
      obtain ⟨p1, p2, p3⟩ := hset (cs.drop (i * 3)) W2.heap.size ((i + 1) * 3) ((W2.alloc (Obj.cells ROW 185)).drew.setCells W2.heap.size (i * 3) [Value.int IntKind.i64 key, Value.string ⟨nm.toArray⟩, bv]).drew
      obtain ⟨q1, q2, q3⟩ := hset [Value.int IntKind.i64 key, Value.string ⟨nm.toArray⟩, bv] W2.heap.size (i * 3) (W2.alloc (Obj.cells ROW 185)).drew
      exact ⟨p1.trans q1, p2.trans q2, p3.trans q3⟩
    have h3 := Nx.move (w' := W3) (a' := true) (c' := I) hpu.sim hmlp.1 hklb hro hh hoth.1 hoth.2.1 hoth.2.2 (by omega) hrelI
    rw [← hst2] at h3
    have hbs : rowSize W3 W2.heap.size = some ROW.size := by
      simp only [rowSize, hh]
      simp [hXs]
    exact ⟨rfl, fin W3 W2.heap.size 0 G ROW.size h3 hbs hG1 (by omega)⟩
end
section
variable (hv : pv0.Ok Tryz.prog ∧ pv0.codes ∧ CfOk Tryz.prog pv0 (primF pv0)) {w : World} {st st1 st2 st3 : St} {β : Nat → Option (Nat × Nat)} {Z : Nat → Prop} (hsim : Sim w st β Z) {k ver off : Nat} {key : Int} {nm : List UInt8} {b : D} {bv u0 : Value} (h0 : VR w (st.x β Z) (.ptr k ver off) u0) (hbv : VR w (st.x β Z) b bv) (hb1 : bv.oneCell' = true) {l : List Fl} {x x' : D} {ar : Bool} {ct : List D} (hm : st.mem? k ver = some (ar, ct)) (hx : ct[off]? = some x) (ht : tabD st x = some l)
  (hf : Ev pv0 72 [.ptr k ver off, .int .i64 key] st (.tup [.int .i64 (findT l key : Nat), .bool (thereT l key)]) st) (hk : kwD k x ≠ k)
include hv hsim h0 hbv hb1 hm hx ht hf hk
theorem set_end_ok (hth : thereT l key = false) (hi : ¬ findT l key < l.length) (ha : appendD pv0 [165, 165] x (.win st.bs.length 0 0 1 3) (st.push (.mem 0 true [.int .i64 key, .str nm, b])) = some (x', st1)) (hp : putT x' (findT l key) l.length ((l.map flC).flatten) [.int .i64 key, .str nm, b] st1 = some st2) (hw : st2.wr k ver off [x'] = some st3) :
    Calls Tryz.prog 47 #[u0, .int .i64 key, .agg #[.string ⟨nm.toArray⟩, bv]] w fun e w' => e = .returned (.bool true) ∧ ∃ β' Z', Nx w st β Z w' st3 β' Z' := by
  obtain ⟨a, rfl, _, hat⟩ := vr_ptrD h0
  obtain ⟨bt, base, hb, rfl⟩ := hat (mem_spec hm).2
  have hb : β k = some (bt, base) := hb
  have hle := findT_le l key
  have hil : findT l key = l.length := by omega
  have hst : st2 = st1 := by
    unfold putT at hp
    rw [if_neg hi] at hp
    exact (Option.some.inj hp).symm
  subst hst
  clear hp
  have hmp := push_old (bx := .mem 0 true [.int .i64 key, .str nm, b]) hm
  rw [hth, hil] at hf
  clear hi
  have hxn : x = .nul ∧ l.length = 0 ∨ ∃ kl vl ol, x = .win kl vl ol l.length 3 := by
    rcases tabD_some ht with ⟨rfl, rfl⟩ | ⟨kl, vl, ol, c, rfl, _⟩
    · exact .inl ⟨rfl, rfl⟩
    · exact .inr ⟨kl, vl, ol, rfl⟩
  generalize l.length = n at *
  have run : ∀ w1 β1 Z1, Nx w st β Z w1 st β1 Z1 → ∃ bs c a m c' w3 β3, w1.cell? ⟨bt, base + off, none⟩ = some (.slice bs n c) ∧ w1.frozen? ⟨bt, base + off, none⟩ = false ∧ n ≤ c ∧ (bs = none → n = 0) ∧
      (Builtin.append_ #[165, 165] 165 #[.slice bs n c, .slice (some ⟨w1.heap.size, 0, none⟩) 1 1]).run Tryz.prog (w1.alloc (.cells #[.int .i64 key, .string ⟨nm.toArray⟩, bv] 185)) = .ok (.slice (some a) m c') w3 ∧
      Nx w st β Z w3 st2 β3 Z1 ∧ β3 k = some (bt, base) ∧ VR w3 (st2.x β3 Z1) x' (.slice (some a) m c') := by
    intro w1 β1 Z1 hnx
    have hbt1 := nx_at hnx hm hb
    obtain ⟨cs, el0, fr0, t1, t2, t3, t4⟩ := hnx.sim.row hm hbt1
    obtain ⟨u, u1, u2, u3⟩ := t4 off _ hx
    have hofflt : off < ct.length := (List.getElem?_eq_some_iff.1 hx).1
    obtain ⟨hpu, p1, p2, p3⟩ := Nx.push_mem (w' := w1.alloc (.cells #[.int .i64 key, .string ⟨nm.toArray⟩, bv] 185)) hnx.sim true [.int .i64 key, .str nm, b] #[.int .i64 key, .string ⟨nm.toArray⟩, bv] 185 (0, 0) rfl rfl rfl rfl (by simp) (FrOk.zero _) (fun j d hd => by
      obtain ⟨u, u1, u2, u3⟩ := (lr_row (w := w1) (x := st.x β1 Z1) key nm (hbv.mono hnx.keeps) hb1).at_ hd
      exact ⟨u, by simpa using u1, u2, u3⟩)
    have hkb : bpush β1 st.bs.length w1.heap.size k = some (bt, base) := by rw [bpush_old (by have := hmp.2; omega)]; exact hbt1
    have hrw : VR (w1.alloc (.cells #[.int .i64 key, .string ⟨nm.toArray⟩, bv] 185)) ((st.push (.mem 0 true [.int .i64 key, .str nm, b])).x (bpush β1 st.bs.length w1.heap.size) Z1) (.win st.bs.length 0 0 1 3) (.slice (some ⟨w1.heap.size, 0, none⟩) 1 1) :=
      win_fresh p2 p3 p1 (Nat.le_refl _) (by simp)
    have hux : ∃ bs c, u = .slice bs n c ∧ n ≤ c ∧ (bs = none → n = 0) := by
      rcases hxn with ⟨rfl, h⟩ | ⟨kl, vl, ol, rfl⟩
      · exact ⟨none, 0, by rw [vr_nul u3, h], by omega, fun _ => h⟩
      · obtain ⟨a, cap, rfl, hc, _⟩ := vr_win u3
        exact ⟨some a, cap, rfl, hc, fun h => by cases h⟩
    obtain ⟨bs, c, rfl, hc1, hc2⟩ := hux
    obtain ⟨z, w3, β3, r1, r2, r3⟩ := append_ok hv.1 (ty := 165) hpu.sim (u3.mono hpu.keeps) hrw ha
    have hz : ∃ a m c', z = .slice (some a) m c' ∧ True := by
      rcases hxn with ⟨rfl, h⟩ | ⟨kl, vl, ol, rfl⟩
      · have : ∃ p q o m s, x' = .win p q o m s := by
          obtain ⟨i, hi, hs, hb1⟩ := info249
          have hrow : rowD (st.push (.mem 0 true [.int .i64 key, .str nm, b])) (.win st.bs.length 0 0 1 3) = some (1, [.int .i64 key, .str nm, b]) := by
            have : (st.push (.mem 0 true [.int .i64 key, .str nm, b])).mem? st.bs.length 0 = some (true, [.int .i64 key, .str nm, b]) := by
              unfold St.mem? St.push
              simp
            simp [rowD, this]
          have ha := ha
          unfold appendD at ha
          simp only [und250] at ha
          split at ha
          · cases ha
          · obtain ⟨i', hi', ha⟩ := Option.bind_eq_some_iff.1 ha
            rw [hi] at hi'; cases hi'
            obtain ⟨z', hz, ha⟩ := Option.bind_eq_some_iff.1 ha
            rw [hrow] at ha
            simp only [Option.bind_some] at ha
            split at ha
            · cases ha
            · split at ha
              · rename_i h1; cases h1
              · split at ha
                · cases ha; exact ⟨_, _, _, _, _, rfl⟩
                · cases ha
        obtain ⟨p, q, o, m, s, rfl⟩ := this
        obtain ⟨a, cap, rfl, _⟩ := vr_win r3
        exact ⟨a, m, cap, rfl, trivial⟩
      · obtain ⟨c9, hm9⟩ : ∃ c9, st.mem? kl vl = some (true, c9) := by
          rcases tabD_some ht with ⟨h, _⟩ | ⟨kl', vl', ol', c', h, hm', _⟩
          · cases h
          · cases h; exact ⟨c', hm'⟩
        obtain ⟨_, rfl, _, _⟩ := append_row ha rfl hm9
        obtain ⟨a, cap, rfl, _⟩ := vr_win r3
        exact ⟨a, _, cap, rfl, trivial⟩
    obtain ⟨a, m, c', rfl, _⟩ := hz
    have hver : st2.ver k = some ver := by
      have hw := hw
      unfold St.wr at hw
      split at hw
      · rename_i a c hm2; exact (mem_spec hm2).2
      · cases hw
    have hb3 := (r2.keeps.at_ k ver hver (mem_spec hmp.1).2 bt base hkb).1
    refine ⟨bs, c, a, m, c', w3, β3, ?_, ?_, hc1, hc2, r1, hnx.trans (hpu.trans r2), hb3, r3⟩
    · simp only [World.cell?, t1]; simpa using u1
    · simp only [World.frozen?, t1]
      have := t3.2 (base + off) (by omega)
      simpa using this
  refine (set_end bt (base + off) n key ⟨nm.toArray⟩ bv hb1 w (fun w1 hR => seen hR.1) (find_calls hv hsim h0 hf _ _) (fun w1 hR => ?_)).mono fun e w' => ?_
  · obtain ⟨_, β1, Z1, hnx0⟩ := hR
    have hnx : Nx w st β Z w1.drew st β1 Z1 := hnx0.trans (Nx.still hnx0.sim rfl rfl rfl rfl)
    obtain ⟨bs, c, a, m, c', w3, β3, q1, q2, q3, q4, q5, q6, q7, q8⟩ := run w1.drew β1 Z1 hnx
    obtain ⟨a9, c9, hm9⟩ : ∃ a9 c9, st2.mem? k ver = some (a9, c9) ∧ off < c9.length := by
      have hw := hw
      unfold St.wr at hw
      split at hw
      · rename_i a c hm2
        split at hw
        · rename_i hc; simp only [List.length_cons, List.length_nil] at hc; exact ⟨a, c, hm2, by omega⟩
        · cases hw
      · cases hw
    obtain ⟨cs, el0, fr0, t1, t2, t3, t4⟩ := q6.sim.row hm9.1 q7
    refine ⟨bs, c, a, m, c', w3, q1, q3, q4, q5, ⟨_, by simp only [World.cell?, t1]; rw [if_neg (by simp)]; exact Array.getElem?_eq_getElem (by have := hm9.2; omega)⟩, ?_⟩
    simp only [World.frozen?, t1]
    have := t3.2 (base + off) (by have := hm9.2; omega)
    simpa using this
  · rintro ⟨rfl, w1, bs, c, a, m, c', w3, ⟨_, β1, Z1, hnx0⟩, q1, q5, rfl⟩
    have hnx : Nx w st β Z w1.drew st β1 Z1 := hnx0.trans (Nx.still hnx0.sim rfl rfl rfl rfl)
    obtain ⟨bs', c2, a2, m2, c3, w4, β3, q1', _, _, _, q5', q6, q7, q8⟩ := run w1.drew β1 Z1 hnx
    have q1' : w1.cell? ⟨bt, base + off, none⟩ = some (.slice bs' n c2) := q1'
    rw [q1] at q1'
    simp only [Option.some.injEq, Value.slice.injEq, true_and] at q1'
    obtain ⟨rfl, rfl⟩ := q1'
    have q5' := q5.symm.trans q5'
    simp only [Result.ok.injEq, Value.slice.injEq, Option.some.injEq] at q5'
    obtain ⟨⟨rfl, rfl, rfl⟩, rfl⟩ := q5'
    exact ⟨rfl, β3, Z1, q6.trans (wr_nx q6.sim (lr_one q8 rfl) hw q7)⟩
end
theorem fsetP_ok (hv : pv0.Ok Tryz.prog ∧ pv0.codes ∧ CfOk Tryz.prog pv0 (primF pv0)) (hfind : ∀ (st : St) (k ver off : Nat) (key : Int) (ar : Bool) (ct : List D) (x : D) (l : List Fl), st.mem? k ver = some (ar, ct) → ct[off]? = some x → tabD st x = some l → Ev pv0 72 [.ptr k ver off, .int .i64 key] st (.tup [.int .i64 (findT l key : Nat), .bool (thereT l key)]) st)
    {pv : Pv} (hro : isRo pv 47 = false) : PrimOk Tryz.prog pv 47 fsetP := by
  have split3 : ∀ {k ver off : Nat} {key : Int} {nm : List UInt8} {b : D} {st : St} {x : D} {l : List Fl} {d : D} {st' : St}, fsetF k ver off key nm b st x l = some (d, st') → kwD k x ≠ k ∧ ((thereT l key = true ∧ d = .bool false ∧ setE x (findT l key) nm b st = some st') ∨
      (thereT l key = false ∧ d = .bool true ∧ ∃ x' st1 st2, appendD pv0 [165, 165] x (.win st.bs.length 0 0 1 3) (st.push (.mem 0 true [.int .i64 key, .str nm, b])) = some (x', st1) ∧ putT x' (findT l key) l.length ((l.map flC).flatten) [.int .i64 key, .str nm, b] st1 = some st2 ∧ st2.wr k ver off [x'] = some st')) := by
    intro k ver off key nm b st x l d st' h
    unfold fsetF at h
    split at h
    · cases h
    · rename_i hk
      refine ⟨hk, ?_⟩
      split at h
      · rename_i hth
        obtain ⟨s, h1, h2⟩ := Option.map_eq_some_iff.1 h
        cases h2
        exact .inl ⟨hth, rfl, h1⟩
      · rename_i hth
        split at h
        · rename_i x' st1 ha
          split at h
          · rename_i st2 hp
            obtain ⟨s, h1, h2⟩ := Option.map_eq_some_iff.1 h
            cases h2
            exact .inr ⟨by simpa using hth, rfl, x', st1, st2, ha, hp, h1⟩
          · cases h
        · cases h
  refine ⟨fun ds st r hp => ⟨Tryz.f47, _, Tryz.func47, rfl, by decide⟩, fun ds st d st' hp w β Z us hsim hle hargs => ?_, fun ds st d st' hp hr => (by rw [hro] at hr; cases hr), fun ds st d st' hp => ?_⟩
  · obtain ⟨k, ver, off, key, nm, b, ar, ct, x, l, rfl, hm, hx, ht, hF⟩ := fsetP_some hp
    obtain ⟨u0, u1, u2, rfl⟩ : ∃ u0 u1 u2, us = [u0, u1, u2] := by
      match us, hle with
      | [a, b, c], _ => exact ⟨a, b, c, rfl⟩
    have h0 := hargs 0 _ u0 rfl rfl
    have e1 := vr_int (hargs 1 _ u1 rfl rfl)
    subst e1
    obtain ⟨vs, rfl, hl2, h12, hr2⟩ := vr_agg (hargs 2 _ u2 rfl rfl)
    obtain ⟨v0, bv, rfl⟩ : ∃ v0 bv, vs = [v0, bv] := by
      match vs, hl2 with
      | [a, b], _ => exact ⟨a, b, rfl⟩
    have e2 := vr_str (hr2 0 _ v0 rfl rfl)
    subst e2
    have hbv := hr2 1 _ bv rfl rfl
    have hb1 : bv.oneCell' = true := h12 bv (by simp)
    have hf := hfind st k ver off key ar ct x l hm hx ht
    obtain ⟨hk, ⟨hth, rfl, hw⟩ | ⟨hth, rfl, x', st1, st2, ha, hpt, hw⟩⟩ := split3 hF
    · refine (set_found_ok hv hsim h0 hbv hb1 hm hx ht hf hk hth hw).mono fun e w' => ?_
      rintro ⟨rfl, β', Z', hn⟩
      exact ⟨_, β', Z', rfl, hn, .im _ _ (.bool _), fun h => by rw [hro] at h; cases h⟩
    · by_cases hi : findT l key < l.length
      · refine (set_mid_ok hv hsim h0 hbv hb1 hm hx ht hf hk hth hi ha hpt hw).mono fun e w' => ?_
        rintro ⟨rfl, β', Z', hn⟩
        exact ⟨_, β', Z', rfl, hn, .im _ _ (.bool _), fun h => by rw [hro] at h; cases h⟩
      · refine (set_end_ok hv hsim h0 hbv hb1 hm hx ht hf hk hth hi ha hpt hw).mono fun e w' => ?_
        rintro ⟨rfl, β', Z', hn⟩
        exact ⟨_, β', Z', rfl, hn, .im _ _ (.bool _), fun h => by rw [hro] at h; cases h⟩
  · obtain ⟨k, ver, off, key, nm, b, ar, ct, x, l, rfl, hm, hx, ht, hF⟩ := fsetP_some hp
    obtain ⟨hk, ⟨hth, rfl, hw⟩ | ⟨hth, rfl, x', st1, st2, ha, hpt, hw⟩⟩ := split3 hF
    · unfold setE at hw
      split at hw
      · exact wr_goes hw
      · cases hw
    · have g1 : Goes st (st.push (.mem 0 true [.int .i64 key, .str nm, b])) := Goes.push st _
      have g2 : Goes (st.push (.mem 0 true [.int .i64 key, .str nm, b])) st1 := append_goes ha
      have g3 : Goes st1 st2 := by
        unfold putT at hpt
        split at hpt
        · split at hpt
          · exact wr_goes hpt
          · cases hpt
        · cases hpt; exact Goes.refl _
      exact g1.trans (g2.trans (g3.trans (wr_goes hw)))
end Go.Proofs.YtopaaegigcfkeaaGreat
