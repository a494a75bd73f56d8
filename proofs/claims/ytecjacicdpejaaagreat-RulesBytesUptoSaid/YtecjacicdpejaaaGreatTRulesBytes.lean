/- RulesBytes, for arguments of bulk at most 1048576: it answers true. -/
import Derived.Test.YtecjacicdpejaaaGreatTGEb
import Derived.Test.YtecjacicdpejaaaGreatRows
import Derived.WalkKit
import Derived.ProofKit
import Derived.OpenShut
import Derived.JoinedCond
import Derived.ChangeOld
set_option maxRecDepth 100000
set_option maxHeartbeats 4000000
set_option linter.unusedSimpArgs false
set_option linter.unusedVariables false
namespace Go.Proofs.YtecjacicdpejaaaGreat.rulesBytes
open Go.ChangeShapes Go.WideShapes Go.ChangeAt Go.RowKit Go.V
def ixF_BytesLaw (fr : Go.V.Fr) (k : Nat) : Go.V.D := Go.V.nth .junk fr.loc k
theorem neq_pat (p : Pat) : binD pv .neq 92 (.agg (patC p)) (.agg (patC p)) = some (.bool false) := by
  have h : ∀ a b : List UInt8, binD pv .neq 92 (.agg [.str a, .str b]) (.agg [.str a, .str b]) = Option.map (fun b => D.bool !b) (match some (a == a) with | some true => (match some (b == b) with | some true => some true | some false => some false | none => none) | some false => some false | none => none) := fun _ _ => rfl
  unfold patC
  rw [h]
  simp only [beq_self_eq_true, Option.map_some]
  rfl
theorem samePat_ev {s0 : St} {x y : D} {l : List Pat} (hx : V.Rows s0 2 x (l.map patC)) (hy : V.Rows s0 2 y (l.map patC)) (hl : l.length ≤ 1073741824) : Ev pv 124 [x, y] s0 (.bool true) s0 := by
  refine Ev.mk1 rfl fi124 rfl rfl rfl ?_
  dsimp only [List.cons_append, List.nil_append, List.length, Nat.reduceSub, Nat.reduceAdd, List.replicate_succ, List.replicate_zero]
  have hSb : (enterSt .ro s0).bs = s0.bs := rfl
  have hF : (enterSt .ro s0).flr ≤ s0.bs.length := Nat.le_refl _
  have hH : Has s0.bs.length (enterSt .ro s0) (enterSt .ro s0) [] := Has.start (Nat.le_refl _) (Nat.le_refl _)
  generalize enterSt .ro s0 = S at *
  have hx := Arg.of hx hSb
  have hy := Arg.of hy hSb
  try change EvC _ _ _ _ _ _
  repeat refine EvC.seq ?_
  try generalize hK : SeqQ _ _ _ _ = K
  refine EvC.reg ?_
  refine EvO.mv (.inr rfl) rfl (ev rfl) (by dsimp only [Fr.put, List.set_cons_succ, List.set_cons_zero] <;> rfl) ?_
  refine EvO.nil ?_
  try subst hK
  try change EvC _ _ _ _ _ _
  try change EvC _ _ _ _ _ _
  repeat refine EvC.seq ?_
  try generalize hK : SeqQ _ _ _ _ = K
  refine EvC.reg ?_
  refine EvO.mv (.inl rfl) rfl (ev rfl) (put_T rfl _) ?_
  first | refine EvO.rlen rfl (ev rfl) (Arg.rows (by assumption) hH) rfl (put_T rfl _) ?_ | refine EvO.rlen rfl (ev rfl) (hH.rows (by first | exact at0 | exact at1 | exact at2 | exact at3 | exact at4 | exact at5 | exact at6 | exact at7)) rfl (put_T rfl _) ?_ | refine EvO.slen rfl rfl rfl (put_T rfl _) ?_ | refine EvO.go rfl rfl rfl (put_T rfl _) ?_
  try simp only [List.length_map, List.length_append, List.length_cons, List.length_nil, List.length_set, List.length_replicate, List.length_reverse]
  refine EvO.mv (.inl rfl) rfl (ev rfl) (put_T rfl _) ?_
  first | refine EvO.rlen rfl (ev rfl) (Arg.rows (by assumption) hH) rfl (put_T rfl _) ?_ | refine EvO.rlen rfl (ev rfl) (hH.rows (by first | exact at0 | exact at1 | exact at2 | exact at3 | exact at4 | exact at5 | exact at6 | exact at7)) rfl (put_T rfl _) ?_ | refine EvO.slen rfl rfl rfl (put_T rfl _) ?_ | refine EvO.go rfl rfl rfl (put_T rfl _) ?_
  try simp only [List.length_map, List.length_append, List.length_cons, List.length_nil, List.length_set, List.length_replicate, List.length_reverse]
  refine EvO.go rfl rfl rfl (put_T rfl _) ?_
  refine EvO.nil ?_
  try subst hK
  try change EvC _ _ _ _ _ _
  try change EvC _ _ _ _ _ _
  repeat refine EvC.seq ?_
  refine EvC.cond (v := false) (by first | assumption | (dsimp only [Fr.ev, Fr.get, nth, Go.V.look]; simp)) (fun h => by cases h) (fun _ => ?_)
  try change EvC _ _ _ _ _ _
  refine EvC.skip ?_
  try change EvC _ _ _ _ _ _
  try change EvC _ _ _ _ _ _
  repeat refine EvC.seq ?_
  try generalize hK : SeqQ _ _ _ _ = K
  refine EvC.reg ?_
  refine EvO.mv (.inr rfl) rfl (ev rfl) (by dsimp only [Fr.put, List.set_cons_succ, List.set_cons_zero] <;> rfl) ?_
  refine EvO.nil ?_
  try subst hK
  try change EvC _ _ _ _ _ _
  try change EvC _ _ _ _ _ _
  repeat refine EvC.seq ?_
  refine EvC.block ?_
  refine EvC.loop (fun mm fr st => ∃ (i : Nat), fr.clean = ⟨6, [x, y, ixF_BytesLaw fr 2, ixF_BytesLaw fr 3, ixF_BytesLaw fr 4, .int .i64 (i : Nat)], []⟩ ∧ Has s0.bs.length S st [] ∧ (i + mm = l.length)) (l.length) ?_ ?_
  · exact ⟨0, rfl, hH, by omega⟩
  rintro mm fr st ⟨i, hfr, hH, hi⟩
  rw [hfr]
  clear hfr
  try generalize ixF_BytesLaw fr = ee
  clear fr
  try change EvC _ _ _ _ _ _
  try change EvC _ _ _ _ _ _
  repeat refine EvC.seq ?_
  try generalize hK : SeqQ _ _ _ _ = K
  refine EvC.reg ?_
  refine EvO.mv (.inl rfl) rfl (ev rfl) (put_T rfl _) ?_
  refine EvO.mv (.inl rfl) rfl (ev rfl) (put_T rfl _) ?_
  first | refine EvO.rlen rfl (ev rfl) (Arg.rows (by assumption) hH) rfl (put_T rfl _) ?_ | refine EvO.rlen rfl (ev rfl) (hH.rows (by first | exact at0 | exact at1 | exact at2 | exact at3 | exact at4 | exact at5 | exact at6 | exact at7)) rfl (put_T rfl _) ?_ | refine EvO.slen rfl rfl rfl (put_T rfl _) ?_ | refine EvO.go rfl rfl rfl (put_T rfl _) ?_
  try simp only [List.length_map, List.length_append, List.length_cons, List.length_nil, List.length_set, List.length_replicate, List.length_reverse]
  refine EvO.go rfl rfl rfl (put_T rfl _) ?_
  refine EvO.nil ?_
  try subst hK
  try change EvC _ _ _ _ _ _
  try change EvC _ _ _ _ _ _
  repeat refine EvC.seq ?_
  refine EvC.cond (by first | rfl | assumption) (fun hlt => ?_) (fun hlt => ?_) <;> try simp only [decide_eq_true_eq, decide_eq_false_iff_not, beq_iff_eq, beq_eq_false_iff_ne, bne_iff_ne, bne_eq_false_iff_eq, ne_eq, Bool.not_eq_true', Bool.not_eq_false', Bool.not_eq_true, Bool.not_eq_false] at hlt
  · refine EvC.skip ?_
    try change EvC _ _ _ _ _ _
    obtain ⟨v, hv⟩ : ∃ v, l[i]? = some v := ⟨l[i]'(by omega), List.getElem?_eq_getElem _⟩
    have hr1 := pat_get hv
    try change EvC _ _ _ _ _ _
    repeat refine EvC.seq ?_
    refine EvC.block ?_
    try change EvC _ _ _ _ _ _
    repeat refine EvC.seq ?_
    try generalize hK : SeqQ _ _ _ _ = K
    refine EvC.reg ?_
    refine EvO.mv (.inl rfl) rfl (ev rfl) (put_T rfl _) ?_
    refine EvO.mv (.inl rfl) rfl (ev rfl) (put_T rfl _) ?_
    first | refine EvO.ridx rfl (ev rfl) (ev rfl) (Arg.rows (by assumption) hH) rfl rfl (by assumption) (fun _ => (put_T rfl _)) (fun p19 hp19 => ?_) | refine EvO.oidx hH rfl (ev rfl) (ev rfl) (by first | exact at0 | exact at1 | exact at2 | exact at3 | exact at4 | exact at5 | exact at6 | exact at7) rfl rfl (by first | exact lt_get (by assumption) | omega | (simp only [List.length_map, List.length_append, List.length_cons, List.length_nil, List.length_set, List.length_replicate] <;> omega)) (fun _ => (put_T rfl _)) (fun p19 hp19 => ?_)
    first | refine EvO.rloadS rfl (ev rfl) (by assumption) rfl (put_T rfl _) ?_ | refine EvO.oloadS hH rfl (ev rfl) (by assumption) (by first | exact at0 | exact at1 | exact at2 | exact at3 | exact at4 | exact at5 | exact at6 | exact at7) (by assumption) rfl (put_T rfl _) ?_ | refine EvO.hloadS (m := 2) hH rfl (ev rfl) (by first | exact at0 | exact at1 | exact at2 | exact at3 | exact at4 | exact at5 | exact at6 | exact at7) (by dsimp only [List.drop_succ_cons, List.drop_zero, List.take_succ_cons, List.take_zero, patC] <;> rfl) rfl rfl (put_T rfl _) ?_
    refine EvO.mv (.inl rfl) rfl (ev rfl) (put_T rfl _) ?_
    refine EvO.mv (.inl rfl) rfl (ev rfl) (put_T rfl _) ?_
    first | refine EvO.ridx rfl (ev rfl) (ev rfl) (Arg.rows (by assumption) hH) rfl rfl (by assumption) (fun _ => (put_T rfl _)) (fun p23 hp23 => ?_) | refine EvO.oidx hH rfl (ev rfl) (ev rfl) (by first | exact at0 | exact at1 | exact at2 | exact at3 | exact at4 | exact at5 | exact at6 | exact at7) rfl rfl (by first | exact lt_get (by assumption) | omega | (simp only [List.length_map, List.length_append, List.length_cons, List.length_nil, List.length_set, List.length_replicate] <;> omega)) (fun _ => (put_T rfl _)) (fun p23 hp23 => ?_)
    first | refine EvO.rloadS rfl (ev rfl) (by assumption) rfl (put_T rfl _) ?_ | refine EvO.oloadS hH rfl (ev rfl) (by assumption) (by first | exact at0 | exact at1 | exact at2 | exact at3 | exact at4 | exact at5 | exact at6 | exact at7) (by assumption) rfl (put_T rfl _) ?_ | refine EvO.hloadS (m := 2) hH rfl (ev rfl) (by first | exact at0 | exact at1 | exact at2 | exact at3 | exact at4 | exact at5 | exact at6 | exact at7) (by dsimp only [List.drop_succ_cons, List.drop_zero, List.take_succ_cons, List.take_zero, patC] <;> rfl) rfl rfl (put_T rfl _) ?_
    refine EvO.neB rfl (ev rfl) (ev rfl) (neq_pat v) (put_T rfl _) ?_
    refine EvO.nil ?_
    try subst hK
    try change EvC _ _ _ _ _ _
    try change EvC _ _ _ _ _ _
    repeat refine EvC.seq ?_
    refine EvC.cond (v := false) (by first | rfl | assumption) (fun h => by cases h) (fun _ => ?_)
    try change EvC _ _ _ _ _ _
    refine EvC.skip ?_
    try change EvC _ _ _ _ _ _
    try change EvC _ _ _ _ _ _
    repeat refine EvC.seq ?_
    try generalize hK : SeqQ _ _ _ _ = K
    refine EvC.reg ?_
    refine EvO.mv (.inl rfl) rfl (ev rfl) (put_T rfl _) ?_
    first | refine EvO.addN rfl (ev rfl) (ev rfl) (by omega) (put_T rfl _) ?_ | refine EvO.addS64 rfl (ev rfl) (ev rfl) (by omega) (by omega) (put_T rfl _) ?_ | refine EvO.addS32 rfl (ev rfl) (ev rfl) (by omega) (by omega) (put_T rfl _) ?_ | refine EvO.go rfl rfl rfl (put_T rfl _) ?_
    refine EvO.mv (.inr rfl) rfl (ev rfl) (by dsimp only [Fr.put, List.set_cons_succ, List.set_cons_zero] <;> rfl) ?_
    refine EvO.nil ?_
    try subst hK
    try change EvC _ _ _ _ _ _
    exact ⟨mm - 1, by omega, ⟨i + 1, rfl, hH, by omega⟩⟩
  · try change EvC _ _ _ _ _ _
    refine EvC.exit ?_
    try change EvC _ _ _ _ _ _
    try change EvC _ _ _ _ _ _
    repeat refine EvC.seq ?_
    try generalize hK : SeqQ _ _ _ _ = K
    refine EvC.reg ?_
    refine EvO.mv (.inr rfl) rfl (ev rfl) (by dsimp only [Fr.put, List.set_cons_succ, List.set_cons_zero] <;> rfl) ?_
    refine EvO.nil ?_
    try subst hK
    try change EvC _ _ _ _ _ _
    refine EvC.ret ⟨fun i h => (by cases h), _, rfl, leave_ro (by simp) hSb hH (rfl)⟩
theorem same18_ev {s0 : St} {x y : D} {l : List Pat} {c : List UInt8} (hx : V.Rows s0 2 x (l.map patC)) (hy : V.Rows s0 2 y (l.map patC)) (hl : l.length ≤ 1073741824) : Ev pv 56 [.agg [x, .str c], .agg [y, .str c]] s0 (.bool true) s0 := by
  have hcx := rows_cellsE hx
  have hcy := rows_cellsE hy
  refine Ev.mk1 rfl fi56 rfl rfl rfl ?_
  dsimp only [List.cons_append, List.nil_append, List.length, Nat.reduceSub, Nat.reduceAdd, List.replicate_succ, List.replicate_zero]
  have hSb : (enterSt .ro s0).bs = s0.bs := rfl
  have hF : (enterSt .ro s0).flr ≤ s0.bs.length := Nat.le_refl _
  have hH : Has s0.bs.length (enterSt .ro s0) (enterSt .ro s0) [] := Has.start (Nat.le_refl _) (Nat.le_refl _)
  generalize enterSt .ro s0 = S at *
  have hx := Arg.of hx hSb
  have hy := Arg.of hy hSb
  try change EvC _ _ _ _ _ _
  repeat refine EvC.seq ?_
  try generalize hK : SeqQ _ _ _ _ = K
  refine EvC.reg ?_
  refine EvO.hbox hH rfl rfl (fun _ => by dsimp only [Fr.put, List.set_cons_succ, List.set_cons_zero] <;> rfl) (fun k2 st hk2 hH => ?_)
  try dsimp only [List.set_cons_zero, List.set_cons_succ, List.cons_append, List.nil_append, setMany, List.map_cons, List.map_nil, D.cells, Nat.reduceAdd, List.nil_append, patC] at hH
  refine EvO.hbox hH rfl rfl (fun _ => by dsimp only [Fr.put, List.set_cons_succ, List.set_cons_zero] <;> rfl) (fun k3 st hk3 hH => ?_)
  try dsimp only [List.set_cons_zero, List.set_cons_succ, List.cons_append, List.nil_append, setMany, List.map_cons, List.map_nil, D.cells, Nat.reduceAdd, List.nil_append, patC] at hH
  refine EvO.mv (.inr rfl) rfl (ev rfl) (by dsimp only [Fr.put, List.set_cons_succ, List.set_cons_zero] <;> rfl) ?_
  refine EvO.nil ?_
  try subst hK
  try change EvC _ _ _ _ _ _
  have hg5 : (c == c) = true := by simp
  try change EvC _ _ _ _ _ _
  repeat refine EvC.seq ?_
  try generalize hK : SeqQ _ _ _ _ = K
  refine EvC.reg ?_
  refine EvO.pfield (fo := 1) (m := 0) (o := 1) rfl (ev rfl) rfl rfl rfl (put_T rfl _) ?_
  first | refine EvO.hload hH rfl (ev rfl) (by first | exact at0 | exact at1 | exact at2 | exact at3 | exact at4 | exact at5 | exact at6 | exact at7) rfl (put_T rfl _) ?_ | refine EvO.rload rfl (ev rfl) (by assumption) rfl (put_T rfl _) ?_ | refine EvO.oload hH rfl (ev rfl) (by assumption) (by first | exact at0 | exact at1 | exact at2 | exact at3 | exact at4 | exact at5 | exact at6 | exact at7) (by assumption) rfl (put_T rfl _) ?_
  refine EvO.pfield (fo := 1) (m := 0) (o := 1) rfl (ev rfl) rfl rfl rfl (put_T rfl _) ?_
  first | refine EvO.hload hH rfl (ev rfl) (by first | exact at0 | exact at1 | exact at2 | exact at3 | exact at4 | exact at5 | exact at6 | exact at7) rfl (put_T rfl _) ?_ | refine EvO.rload rfl (ev rfl) (by assumption) rfl (put_T rfl _) ?_ | refine EvO.oload hH rfl (ev rfl) (by assumption) (by first | exact at0 | exact at1 | exact at2 | exact at3 | exact at4 | exact at5 | exact at6 | exact at7) (by assumption) rfl (put_T rfl _) ?_
  refine EvO.go rfl rfl rfl (put_T rfl _) ?_
  refine EvO.mv (.inl rfl) rfl (ev rfl) (put_T rfl _) ?_
  refine EvO.pfield (fo := 0) (m := 0) (o := 0) (wantD_is rfl rfl rfl hg5) (ev rfl) rfl rfl rfl (put_T rfl _) ?_
  first | refine EvO.hload hH (wantD_is rfl rfl rfl hg5) (ev rfl) (by first | exact at0 | exact at1 | exact at2 | exact at3 | exact at4 | exact at5 | exact at6 | exact at7) rfl (put_T rfl _) ?_ | refine EvO.rload (wantD_is rfl rfl rfl hg5) (ev rfl) (by assumption) rfl (put_T rfl _) ?_ | refine EvO.oload hH (wantD_is rfl rfl rfl hg5) (ev rfl) (by assumption) (by first | exact at0 | exact at1 | exact at2 | exact at3 | exact at4 | exact at5 | exact at6 | exact at7) (by assumption) rfl (put_T rfl _) ?_
  refine EvO.pfield (fo := 0) (m := 0) (o := 0) (wantD_is rfl rfl rfl hg5) (ev rfl) rfl rfl rfl (put_T rfl _) ?_
  first | refine EvO.hload hH (wantD_is rfl rfl rfl hg5) (ev rfl) (by first | exact at0 | exact at1 | exact at2 | exact at3 | exact at4 | exact at5 | exact at6 | exact at7) rfl (put_T rfl _) ?_ | refine EvO.rload (wantD_is rfl rfl rfl hg5) (ev rfl) (by assumption) rfl (put_T rfl _) ?_ | refine EvO.oload hH (wantD_is rfl rfl rfl hg5) (ev rfl) (by assumption) (by first | exact at0 | exact at1 | exact at2 | exact at3 | exact at4 | exact at5 | exact at6 | exact at7) (by assumption) rfl (put_T rfl _) ?_
  refine EvO.hcall (wantD_is rfl rfl rfl hg5) rfl (samePat_ev (hx.rows hH) (hy.rows hH) hl) (put_T rfl _) ?_
  refine EvO.pickT rfl rfl hg5 (put_T rfl _) ?_
  refine EvO.mv (.inr rfl) rfl (ev rfl) (by dsimp only [Fr.put, List.set_cons_succ, List.set_cons_zero] <;> rfl) ?_
  refine EvO.nil ?_
  try subst hK
  try change EvC _ _ _ _ _ _
  refine EvC.ret ⟨fun i h => (by cases h), _, rfl, leave_ro (by simp) hSb hH (rfl)⟩
theorem few_ev {s0 : St} {s : St8} (hs : s.ok) : ∃ y, Ev pv 49 [s.d] s0 (.agg [y, .str s.c]) s0 ∧ SlD y 2 ((s.l.take 12).map patC) := by
  obtain ⟨x, l, c⟩ := s
  obtain ⟨hx, hl, _, _⟩ := hs
  dsimp only at hx hl
  unfold St8.d
  dsimp only
  have hcl := hx.cells.1
  suffices hg : ∃ d, Ev pv 49 [.agg [x, .str c]] s0 d s0 ∧ ∃ y, d = .agg [y, .str c] ∧ SlD y 2 ((l.take 12).map patC) by
    obtain ⟨d, h1, y, rfl, h2⟩ := hg
    exact ⟨y, h1, h2⟩
  refine Ev.mkR rfl fi49 rfl rfl rfl ?_
  dsimp only [List.cons_append, List.nil_append, List.length, Nat.reduceSub, Nat.reduceAdd, List.replicate_succ, List.replicate_zero]
  have hSb : (enterSt .ro s0).bs = s0.bs := rfl
  have hF : (enterSt .ro s0).flr ≤ s0.bs.length := Nat.le_refl _
  have hH : Has s0.bs.length (enterSt .ro s0) (enterSt .ro s0) [] := Has.start (Nat.le_refl _) (Nat.le_refl _)
  generalize enterSt .ro s0 = S at *
  have hxa := hx.arg s0.bs.length S
  try change EvC _ _ _ _ _ _
  repeat refine EvC.seq ?_
  try generalize hK : SeqQ _ _ _ _ = K
  refine EvC.reg ?_
  refine EvO.hbox hH rfl rfl (fun _ => by dsimp only [Fr.put, List.set_cons_succ, List.set_cons_zero] <;> rfl) (fun k1 st hk1 hH => ?_)
  try dsimp only [List.set_cons_zero, List.set_cons_succ, List.cons_append, List.nil_append, setMany, List.map_cons, List.map_nil, D.cells, Nat.reduceAdd, List.nil_append, patC] at hH
  refine EvO.halloc hH rfl rfl (fun _ => by dsimp only [Fr.put, List.set_cons_succ, List.set_cons_zero] <;> rfl) (fun k2 st hk2 hH => ?_)
  try dsimp only [List.set_cons_zero, List.set_cons_succ, List.cons_append, List.nil_append, setMany, List.map_cons, List.map_nil, D.cells, Nat.reduceAdd, List.nil_append, patC] at hH
  refine EvO.nil ?_
  try subst hK
  try change EvC _ _ _ _ _ _
  try change EvC _ _ _ _ _ _
  repeat refine EvC.seq ?_
  try generalize hK : SeqQ _ _ _ _ = K
  refine EvC.reg ?_
  refine EvO.pfield (fo := 0) (m := 0) (o := 0) rfl (ev rfl) rfl rfl rfl (put_T rfl _) ?_
  first | refine EvO.hload hH rfl (ev rfl) (by first | exact at0 | exact at1 | exact at2 | exact at3 | exact at4 | exact at5 | exact at6 | exact at7) rfl (put_T rfl _) ?_ | refine EvO.rload rfl (ev rfl) (by assumption) rfl (put_T rfl _) ?_ | refine EvO.oload hH rfl (ev rfl) (by assumption) (by first | exact at0 | exact at1 | exact at2 | exact at3 | exact at4 | exact at5 | exact at6 | exact at7) (by assumption) rfl (put_T rfl _) ?_
  first | refine EvO.rlen rfl (ev rfl) (Arg.rows (by assumption) hH) rfl (put_T rfl _) ?_ | refine EvO.rlen rfl (ev rfl) (hH.rows (by first | exact at0 | exact at1 | exact at2 | exact at3 | exact at4 | exact at5 | exact at6 | exact at7)) rfl (put_T rfl _) ?_ | refine EvO.slen rfl rfl rfl (put_T rfl _) ?_ | refine EvO.go rfl rfl rfl (put_T rfl _) ?_
  try simp only [List.length_map, List.length_append, List.length_cons, List.length_nil, List.length_set, List.length_replicate, List.length_reverse]
  refine EvO.go rfl rfl rfl (put_T rfl _) ?_
  refine EvO.nil ?_
  try subst hK
  try change EvC _ _ _ _ _ _
  try change EvC _ _ _ _ _ _
  repeat refine EvC.seq ?_
  refine EvC.merge (fun fr st => ∃ (y : D) (tmp : List (Nat × D)), fr = ⟨3, [ixF_BytesLaw fr 0, .ptr k1 0 0, .ptr k2 0 0], tmp⟩ ∧ Has s0.bs.length S st [.box k2 (.mem 0 false [.nul, .str []]), .box k1 (.mem 0 false [y, .str c])] ∧ (SlD y 2 ((l.take 12).map patC))) ?_ ?_
  · try change EvC _ _ _ _ _ _
    repeat refine EvC.seq ?_
    refine EvC.cond (by first | rfl | assumption) (fun h1 => ?_) (fun h1 => ?_) <;> try simp only [decide_eq_true_eq, decide_eq_false_iff_not, beq_iff_eq, beq_eq_false_iff_ne, bne_iff_ne, bne_eq_false_iff_eq, ne_eq, Bool.not_eq_true', Bool.not_eq_false', Bool.not_eq_true, Bool.not_eq_false] at h1
    · try change EvC _ _ _ _ _ _
      repeat refine EvC.seq ?_
      try generalize hK : SeqQ _ _ _ _ = K
      refine EvC.reg ?_
      refine EvO.pfield (fo := 0) (m := 0) (o := 0) rfl (ev rfl) rfl rfl rfl (put_T rfl _) ?_
      first | refine EvO.hload hH rfl (ev rfl) (by first | exact at0 | exact at1 | exact at2 | exact at3 | exact at4 | exact at5 | exact at6 | exact at7) rfl (put_T rfl _) ?_ | refine EvO.rload rfl (ev rfl) (by assumption) rfl (put_T rfl _) ?_ | refine EvO.oload hH rfl (ev rfl) (by assumption) (by first | exact at0 | exact at1 | exact at2 | exact at3 | exact at4 | exact at5 | exact at6 | exact at7) (by assumption) rfl (put_T rfl _) ?_
      first | refine EvO.pslice rfl (ev rfl) (by assumption) rfl rfl (bounds_to (by first | omega | (simp only [List.length_map, List.length_reverse, List.length_cons, List.length_append, List.length_nil, List.length_take, List.length_drop, List.length_set, List.length_replicate]; omega))) (fun _ => (put_T rfl _)) (fun y9 hy9 => ?_) | refine EvO.rslice rfl (ev rfl) (by assumption) hH rfl rfl (bounds_to (by first | omega | (simp only [List.length_map, List.length_reverse, List.length_cons, List.length_append, List.length_nil, List.length_take, List.length_drop, List.length_set, List.length_replicate]; omega))) ⟨(by first | omega | (simp only [List.length_map, List.length_reverse, List.length_cons, List.length_append, List.length_nil, List.length_take, List.length_drop, List.length_set, List.length_replicate]; omega)), (by first | omega | (simp only [List.length_map, List.length_reverse, List.length_cons, List.length_append, List.length_nil, List.length_take, List.length_drop, List.length_set, List.length_replicate]; omega))⟩ (fun _ => (put_T rfl _)) (fun y9 hy9 => ?_) | (refine EvO.oslice hH rfl (ev rfl) (by first | exact at0 | exact at1 | exact at2 | exact at3 | exact at4 | exact at5 | exact at6 | exact at7) rfl rfl (bounds_to (by first | omega | (simp only [List.length_map, List.length_reverse, List.length_cons, List.length_append, List.length_nil, List.length_take, List.length_drop, List.length_set, List.length_replicate]; omega))) ⟨(by first | omega | (simp only [List.length_map, List.length_reverse, List.length_cons, List.length_append, List.length_nil, List.length_take, List.length_drop, List.length_set, List.length_replicate]; omega)), (by first | omega | (simp only [List.length_map, List.length_reverse, List.length_cons, List.length_append, List.length_nil, List.length_take, List.length_drop, List.length_set, List.length_replicate]; omega))⟩ (fun _ => (put_T rfl _)) (fun y9 hH => ?_))
      refine EvO.pfield (fo := 0) (m := 0) (o := 0) rfl (ev rfl) rfl rfl rfl (put_T rfl _) ?_
      refine EvO.hstore hH rfl (ev rfl) (ev rfl) (by first | rfl | exact (SlD.cells (by assumption)).1 | exact hH.ocells (by first | exact at0 | exact at1 | exact at2 | exact at3 | exact at4 | exact at5 | exact at6 | exact at7) | exact hH.dcells (by first | exact at0 | exact at1 | exact at2 | exact at3 | exact at4 | exact at5 | exact at6 | exact at7) | assumption) (by exact rfl) (by first | exact at0 | exact at1 | exact at2 | exact at3 | exact at4 | exact at5 | exact at6 | exact at7) (by exact Nat.le_of_ble_eq_true rfl) (by first | exact .inl hF | exact .inr rfl | exact .inr (by assumption)) (fun st hH => ?_)
      try dsimp only [List.set_cons_zero, List.set_cons_succ, List.cons_append, List.nil_append, setMany, List.map_cons, List.map_nil, D.cells, Nat.reduceAdd, List.nil_append, patC] at hH
      refine EvO.nil ?_
      try subst hK
      try change EvC _ _ _ _ _ _
      exact ⟨_, _, rfl, hH, (by rw [List.drop_zero, ← List.map_take] at hy9; exact hy9)⟩
    · refine EvC.skip ?_
      try change EvC _ _ _ _ _ _
      exact ⟨x, _, rfl, hH, (by rw [List.take_of_length_le (by omega)]; exact hx)⟩
  · rintro fr st ⟨y, tmp, hfr, hH, hy⟩
    rw [hfr]
    clear hfr
    try generalize ixF_BytesLaw fr = ee
    clear fr
    try change EvC _ _ _ _ _ _
    try change EvC _ _ _ _ _ _
    repeat refine EvC.seq ?_
    try generalize hK : SeqQ _ _ _ _ = K
    refine EvC.reg ?_
    first | refine EvO.hloadS (m := 2) hH rfl (ev rfl) (by first | exact at0 | exact at1 | exact at2 | exact at3 | exact at4 | exact at5 | exact at6 | exact at7) (by dsimp only [List.drop_succ_cons, List.drop_zero, List.take_succ_cons, List.take_zero, patC] <;> rfl) rfl rfl (put_T rfl _) ?_ | refine EvO.rload rfl (ev rfl) (by assumption) rfl (put_T rfl _) ?_ | refine EvO.oload hH rfl (ev rfl) (by assumption) (by first | exact at0 | exact at1 | exact at2 | exact at3 | exact at4 | exact at5 | exact at6 | exact at7) (by assumption) rfl (put_T rfl _) ?_
    refine EvO.hstoreA hH rfl (ev rfl) (ev rfl) (by first | rfl | exact (SlD.cells (by assumption)).1 | exact hH.ocells (by first | exact at0 | exact at1 | exact at2 | exact at3 | exact at4 | exact at5 | exact at6 | exact at7) | exact hH.dcells (by first | exact at0 | exact at1 | exact at2 | exact at3 | exact at4 | exact at5 | exact at6 | exact at7) | assumption) (by exact rfl) (by first | exact at0 | exact at1 | exact at2 | exact at3 | exact at4 | exact at5 | exact at6 | exact at7) (by exact rfl) (by first | exact .inl hF | exact .inr rfl | exact .inr (by assumption)) (fun st hH => ?_)
    try dsimp only [List.set_cons_zero, List.set_cons_succ, List.cons_append, List.nil_append, setMany, List.map_cons, List.map_nil, D.cells, Nat.reduceAdd, List.nil_append, patC] at hH
    refine EvO.nil ?_
    try subst hK
    try change EvC _ _ _ _ _ _
    obtain ⟨y', h1, h2⟩ := hy.freeze st s0.bs.length 14
    have h3 : freezeD st s0.bs.length false 16 (.agg [y, .str c]) = some (.agg [y', .str c]) := by
      show Option.map D.agg (mapO (freezeD st s0.bs.length false 15) [y, .str c]) = _
      unfold mapO
      rw [h1]
      rfl
    refine EvC.ret ⟨fun i h => (by cases h), _, _, hH.resCell rfl at0 rfl, leave_ro (by simp) hSb hH h3, ⟨y', rfl, h2⟩⟩
theorem arg_preE {N : Nat} {S : St} {y : D} {c r : List UInt8} (h : SlD y 1 (((byteCells (c ++ r)).take (byteCells c).length).drop 0)) : Arg N S 1 y (byteCells c) := by
  have h9 := h.arg N S
  unfold byteCells at h9
  rw [List.drop_zero, List.map_append, List.take_left] at h9
  exact h9
theorem law {s0 : St} (s : St8) (hs : s.ok) (y : D) (a : List UInt8) (hy : SlD y 1 (byteCells a)) (hal : a.length ≤ 1048576) (z : D) (b : List UInt8) (hz : SlD z 1 (byteCells b)) (hbl : b.length ≤ 1048576) : Ev pv 12 [s.d, y, z] s0 (.bool true) s0 := by
  have hfew := fun (st : St) => few_ev (s0 := st) hs
  have hfit := fun p hp => hs.fit p (List.mem_of_mem_take (l := s.l) (i := 12) hp)
  have hc := hs.hc
  have hll : (s.l.take 12).length ≤ 12 := by rw [List.length_take]; omega
  have hcx := hs.hx.cells.1
  unfold St8.d at *
  obtain ⟨x, l0, c⟩ := s
  dsimp only at hfew hfit hc hll hcx ⊢
  generalize l0.take 12 = l at *
  clear hs
  refine Ev.mk1 rfl fi12 rfl rfl rfl ?_
  dsimp only [List.cons_append, List.nil_append, List.length, Nat.reduceSub, Nat.reduceAdd, List.replicate_succ, List.replicate_zero]
  have hSb : (enterSt .ro s0).bs = s0.bs := rfl
  have hF : (enterSt .ro s0).flr ≤ s0.bs.length := Nat.le_refl _
  have hH : Has s0.bs.length (enterSt .ro s0) (enterSt .ro s0) [] := Has.start (Nat.le_refl _) (Nat.le_refl _)
  generalize enterSt .ro s0 = S at *
  have hya := hy.arg s0.bs.length S
  have hza := hz.arg s0.bs.length S
  try change EvC _ _ _ _ _ _
  repeat refine EvC.seq ?_
  try generalize hK : SeqQ _ _ _ _ = K
  refine EvC.reg ?_
  refine EvO.hbox hH rfl rfl (fun _ => by dsimp only [Fr.put, List.set_cons_succ, List.set_cons_zero] <;> rfl) (fun k3 st hk3 hH => ?_)
  try dsimp only [List.set_cons_zero, List.set_cons_succ, List.cons_append, List.nil_append, setMany, List.map_cons, List.map_nil, D.cells, Nat.reduceAdd, List.nil_append, patC] at hH
  refine EvO.mv (.inr rfl) rfl (ev rfl) (by dsimp only [Fr.put, List.set_cons_succ, List.set_cons_zero] <;> rfl) ?_
  refine EvO.nil ?_
  try subst hK
  try change EvC _ _ _ _ _ _
  try change EvC _ _ _ _ _ _
  repeat refine EvC.seq ?_
  try generalize hK : SeqQ _ _ _ _ = K
  refine EvC.reg ?_
  first | refine EvO.hloadS (m := 2) hH rfl (ev rfl) (by first | exact at0 | exact at1 | exact at2 | exact at3 | exact at4 | exact at5 | exact at6 | exact at7) (by dsimp only [List.drop_succ_cons, List.drop_zero, List.take_succ_cons, List.take_zero, patC] <;> rfl) rfl rfl (put_T rfl _) ?_ | refine EvO.rload rfl (ev rfl) (by assumption) rfl (put_T rfl _) ?_ | refine EvO.oload hH rfl (ev rfl) (by assumption) (by first | exact at0 | exact at1 | exact at2 | exact at3 | exact at4 | exact at5 | exact at6 | exact at7) (by assumption) rfl (put_T rfl _) ?_
  obtain ⟨x2, hev, hx2⟩ := hfew st
  have hcx2 := hx2.cells.1
  refine EvO.hcall rfl rfl hev (put_T rfl _) ?_
  refine EvO.hstoreA hH rfl (ev rfl) (ev rfl) (by first | rfl | exact (SlD.cells (by assumption)).1 | exact hH.ocells (by first | exact at0 | exact at1 | exact at2 | exact at3 | exact at4 | exact at5 | exact at6 | exact at7) | exact hH.dcells (by first | exact at0 | exact at1 | exact at2 | exact at3 | exact at4 | exact at5 | exact at6 | exact at7) | assumption) (by exact rfl) (by first | exact at0 | exact at1 | exact at2 | exact at3 | exact at4 | exact at5 | exact at6 | exact at7) (by exact rfl) (by first | exact .inl hF | exact .inr rfl | exact .inr (by assumption)) (fun st hH => ?_)
  try dsimp only [List.set_cons_zero, List.set_cons_succ, List.cons_append, List.nil_append, setMany, List.map_cons, List.map_nil, D.cells, Nat.reduceAdd, List.nil_append, patC] at hH
  refine EvO.nil ?_
  try subst hK
  try change EvC _ _ _ _ _ _
  have hro := fun st => roomy_ev (st := st) (x := y) (b := a) (m := 44) (hy.rows st) (by omega)
  try change EvC _ _ _ _ _ _
  repeat refine EvC.seq ?_
  try generalize hK : SeqQ _ _ _ _ = K
  refine EvC.reg ?_
  refine EvO.mv (.inl rfl) rfl (ev rfl) (put_T rfl _) ?_
  refine EvO.hcall rfl rfl ((hro _)) (put_T rfl _) ?_
  refine EvO.mv (.inr rfl) rfl (ev rfl) (by dsimp only [Fr.put, List.set_cons_succ, List.set_cons_zero] <;> rfl) ?_
  refine EvO.nil ?_
  try subst hK
  try change EvC _ _ _ _ _ _
  have hfs := bytesV_sl (a ++ List.replicate 80 44)
  have hfa := hfs.arg s0.bs.length S
  have hfl : (byteCells a).length ≤ (byteCells (a ++ List.replicate 80 44)).length := by rw [byteCells_len, byteCells_len]; simp
  have hin := fun st => intact_ev (st := st) (x := bytesV (a ++ List.replicate 80 44)) (y := y) (b := a) (m := 44) (bytesV_ok st _) (hy.rows st) (by omega)
  have hlt2 := fl_le (f := patB) (n := 2097170) (l := l) (fun x hx => patB_le (hfit x hx))
  have hcl := textB_le c
  have hnl := numB_le (l.length : Nat)
  have hsl : (a ++ setB l c).length ≤ 1000000000 := by unfold setB; simp only [List.length_append]; omega
  have hps := fun (st : St) (w : D) (hw : V.Rows st 1 w (byteCells a)) => putSet_ev (s0 := st) (c := c) hw (hx2.rows st) (by omega) (by omega) hfit hc
  have hrs := fun (st : St) => rPutSet_ev (s0 := st) (c := c) (hy.rows st) (hx2.rows st) (by omega) (by omega) hfit hc
  have hg11 : (!true) = false := rfl
  try change EvC _ _ _ _ _ _
  repeat refine EvC.seq ?_
  try generalize hK : SeqQ _ _ _ _ = K
  refine EvC.reg ?_
  refine EvO.mv (.inl rfl) rfl (ev rfl) (put_T rfl _) ?_
  refine EvO.mv (.inl rfl) rfl (ev rfl) (put_T rfl _) ?_
  first | refine EvO.rlen rfl (ev rfl) (Arg.rows (by assumption) hH) rfl (put_T rfl _) ?_ | refine EvO.rlen rfl (ev rfl) (hH.rows (by first | exact at0 | exact at1 | exact at2 | exact at3 | exact at4 | exact at5 | exact at6 | exact at7)) rfl (put_T rfl _) ?_ | refine EvO.slen rfl rfl rfl (put_T rfl _) ?_ | refine EvO.go rfl rfl rfl (put_T rfl _) ?_
  try simp only [List.length_map, List.length_append, List.length_cons, List.length_nil, List.length_set, List.length_replicate, List.length_reverse]
  first | refine EvO.pslice rfl (ev rfl) (by assumption) rfl rfl (bounds_to (by first | omega | (simp only [List.length_map, List.length_reverse, List.length_cons, List.length_append, List.length_nil, List.length_take, List.length_drop, List.length_set, List.length_replicate]; omega))) (fun _ => (put_T rfl _)) (fun y19 hy19 => ?_) | refine EvO.rslice rfl (ev rfl) (by assumption) hH rfl rfl (bounds_to (by first | omega | (simp only [List.length_map, List.length_reverse, List.length_cons, List.length_append, List.length_nil, List.length_take, List.length_drop, List.length_set, List.length_replicate]; omega))) ⟨(by first | omega | (simp only [List.length_map, List.length_reverse, List.length_cons, List.length_append, List.length_nil, List.length_take, List.length_drop, List.length_set, List.length_replicate]; omega)), (by first | omega | (simp only [List.length_map, List.length_reverse, List.length_cons, List.length_append, List.length_nil, List.length_take, List.length_drop, List.length_set, List.length_replicate]; omega))⟩ (fun _ => (put_T rfl _)) (fun y19 hy19 => ?_) | (refine EvO.oslice hH rfl (ev rfl) (by first | exact at0 | exact at1 | exact at2 | exact at3 | exact at4 | exact at5 | exact at6 | exact at7) rfl rfl (bounds_to (by first | omega | (simp only [List.length_map, List.length_reverse, List.length_cons, List.length_append, List.length_nil, List.length_take, List.length_drop, List.length_set, List.length_replicate]; omega))) ⟨(by first | omega | (simp only [List.length_map, List.length_reverse, List.length_cons, List.length_append, List.length_nil, List.length_take, List.length_drop, List.length_set, List.length_replicate]; omega)), (by first | omega | (simp only [List.length_map, List.length_reverse, List.length_cons, List.length_append, List.length_nil, List.length_take, List.length_drop, List.length_set, List.length_replicate]; omega))⟩ (fun _ => (put_T rfl _)) (fun y19 hH => ?_))
  first | refine EvO.hloadS (m := 2) hH rfl (ev rfl) (by first | exact at0 | exact at1 | exact at2 | exact at3 | exact at4 | exact at5 | exact at6 | exact at7) (by dsimp only [List.drop_succ_cons, List.drop_zero, List.take_succ_cons, List.take_zero, patC] <;> rfl) rfl rfl (put_T rfl _) ?_ | refine EvO.rload rfl (ev rfl) (by assumption) rfl (put_T rfl _) ?_ | refine EvO.oload hH rfl (ev rfl) (by assumption) (by first | exact at0 | exact at1 | exact at2 | exact at3 | exact at4 | exact at5 | exact at6 | exact at7) (by assumption) rfl (put_T rfl _) ?_
  refine EvO.hcall rfl rfl ((hps _ _ ((arg_preE (N := s0.bs.length) (S := S) hy19).rows hH))) (put_T rfl _) ?_
  refine EvO.mv (.inl rfl) rfl (ev rfl) (put_T rfl _) ?_
  first | refine EvO.hloadS (m := 2) hH rfl (ev rfl) (by first | exact at0 | exact at1 | exact at2 | exact at3 | exact at4 | exact at5 | exact at6 | exact at7) (by dsimp only [List.drop_succ_cons, List.drop_zero, List.take_succ_cons, List.take_zero, patC] <;> rfl) rfl rfl (put_T rfl _) ?_ | refine EvO.rload rfl (ev rfl) (by assumption) rfl (put_T rfl _) ?_ | refine EvO.oload hH rfl (ev rfl) (by assumption) (by first | exact at0 | exact at1 | exact at2 | exact at3 | exact at4 | exact at5 | exact at6 | exact at7) (by assumption) rfl (put_T rfl _) ?_
  refine EvO.hcall rfl rfl ((hrs _)) (put_T rfl _) ?_
  refine EvO.hcall rfl rfl ((same_byte (bytesV_ok _ _) (bytesV_ok _ _) (by omega))) (put_T rfl _) ?_
  refine EvO.go rfl rfl rfl (put_T rfl _) ?_
  refine EvO.mv (.inl rfl) rfl (ev rfl) (put_T rfl _) ?_
  refine EvO.mv (.inl rfl) (wantD_is rfl rfl rfl hg11) (ev rfl) (put_T rfl _) ?_
  refine EvO.mv (.inl rfl) (wantD_is rfl rfl rfl hg11) (ev rfl) (put_T rfl _) ?_
  refine EvO.hcall (wantD_is rfl rfl rfl hg11) rfl ((hin _)) (put_T rfl _) ?_
  refine EvO.go (wantD_is rfl rfl rfl hg11) rfl rfl (put_T rfl _) ?_
  refine EvO.pickF rfl rfl hg11 (put_T rfl _) ?_
  refine EvO.nil ?_
  try subst hK
  try change EvC _ _ _ _ _ _
  try change EvC _ _ _ _ _ _
  repeat refine EvC.seq ?_
  refine EvC.cond (v := false) (by first | assumption | (dsimp only [Fr.ev, Fr.get, nth, Go.V.look]; rfl)) (fun h => by cases h) (fun _ => ?_)
  try change EvC _ _ _ _ _ _
  refine EvC.skip ?_
  try change EvC _ _ _ _ _ _
  have hbl2 : b.length ≤ 1099511627776 := by omega
  try change EvC _ _ _ _ _ _
  repeat refine EvC.seq ?_
  try generalize hK : SeqQ _ _ _ _ = K
  refine EvC.reg ?_
  refine EvO.mv (.inl rfl) rfl (ev rfl) (put_T rfl _) ?_
  obtain ⟨hf1, hf2⟩ := hH.fine hF
  obtain ⟨_, st, hev, kr, xr, rfl, ho⟩ := gRead_ev hf1 hf2 (hza.rows hH) (by omega)
  have hH := hH.ovr ho
  (try dsimp only [List.cons_append, List.nil_append] at hH)
  refine EvO.hcall rfl rfl hev (put_T rfl _) ?_
  refine EvO.mv (.inl rfl) rfl (ev rfl) (put_T rfl _) ?_
  obtain ⟨hf1, hf2⟩ := hH.fine hF
  obtain ⟨_, st, hev, kw, xw, rfl, ho⟩ := hRead_ev hf1 hf2 (hza.rows hH) (by omega)
  have hH := hH.ovr ho
  (try dsimp only [List.cons_append, List.nil_append] at hH)
  refine EvO.hcall rfl rfl hev (put_T rfl _) ?_
  refine EvO.mv (.inr rfl) rfl (ev rfl) (by dsimp only [Fr.put, List.set_cons_succ, List.set_cons_zero] <;> rfl) ?_
  refine EvO.mv (.inr rfl) rfl (ev rfl) (by dsimp only [Fr.put, List.set_cons_succ, List.set_cons_zero] <;> rfl) ?_
  refine EvO.nil ?_
  try subst hK
  try change EvC _ _ _ _ _ _
  have hH : Has s0.bs.length S st (.box kr (.mem 0 false (rdC xr ⟨0, 0⟩)) :: .lst xr 1 (byteCells b) :: .box kw (.mem 0 false (rdC xw ⟨0, 0⟩)) :: .lst xw 1 (byteCells b) :: []) := (Has.rot [_, _] [_, _] hH).take 4
  have o1 : (⟨0, 0⟩ : Rdr).at_ ≤ b.length := Nat.zero_le _
  try change EvC _ _ _ _ _ _
  repeat refine EvC.seq ?_
  try generalize hK : SeqQ _ _ _ _ = K
  refine EvC.reg ?_
  refine EvO.mv (.inl rfl) rfl (ev rfl) (put_T rfl _) ?_
  refine EvO.go rfl rfl rfl (put_T rfl _) ?_
  refine EvO.nil ?_
  try subst hK
  try change EvC _ _ _ _ _ _
  try change EvC _ _ _ _ _ _
  repeat refine EvC.seq ?_
  refine EvC.cond (v := false) (by first | rfl | assumption) (fun h => by cases h) (fun _ => ?_)
  try change EvC _ _ _ _ _ _
  refine EvC.skip ?_
  try change EvC _ _ _ _ _ _
  try change EvC _ _ _ _ _ _
  repeat refine EvC.seq ?_
  try generalize hK : SeqQ _ _ _ _ = K
  refine EvC.reg ?_
  refine EvO.mv (.inl rfl) rfl (ev rfl) (put_T rfl _) ?_
  obtain ⟨_, st, hev, ⟨l1, c1, rfl, hl1, hq1⟩, hH⟩ := gSet_ev hbl2 o1 hH
  refine EvO.hcall rfl rfl hev (put_T rfl _) ?_
  refine EvO.mv (.inl rfl) rfl (ev rfl) (put_T rfl _) ?_
  obtain ⟨_, st, hev, ⟨l2, c2, rfl, hq2⟩, hH⟩ := hSet_ev hbl2 o1 (Has.rot [_, _] [_, _] hH)
  have hH := Has.rot [_, _] [_, _] hH
  (try dsimp only [List.cons_append, List.nil_append] at hH)
  refine EvO.hcall rfl rfl hev (put_T rfl _) ?_
  refine EvO.halloc hH rfl rfl (fun _ => by dsimp only [Fr.put, List.set_cons_succ, List.set_cons_zero] <;> rfl) (fun k10 st hk10 hH => ?_)
  try dsimp only [List.set_cons_zero, List.set_cons_succ, List.cons_append, List.nil_append, setMany, List.map_cons, List.map_nil, D.cells, Nat.reduceAdd, List.nil_append, patC] at hH
  refine EvO.halloc hH rfl rfl (fun _ => by dsimp only [Fr.put, List.set_cons_succ, List.set_cons_zero] <;> rfl) (fun k11 st hk11 hH => ?_)
  try dsimp only [List.set_cons_zero, List.set_cons_succ, List.cons_append, List.nil_append, setMany, List.map_cons, List.map_nil, D.cells, Nat.reduceAdd, List.nil_append, patC] at hH
  refine EvO.hstoreA hH rfl (ev rfl) (ev rfl) rfl (by exact rfl) at1 (by exact rfl) (.inr rfl) (fun st hH => ?_)
  dsimp only [List.set_cons_succ, List.set_cons_zero] at hH
  refine EvO.hstoreA hH rfl (ev rfl) (ev rfl) rfl (by exact rfl) at0 (by exact rfl) (.inr rfl) (fun st hH => ?_)
  dsimp only [List.set_cons_succ, List.set_cons_zero] at hH
  refine EvO.nil ?_
  try subst hK
  try change EvC _ _ _ _ _ _
  generalize setR b ⟨0, 0⟩ = R at *
  obtain ⟨⟨l0, c0⟩, s2⟩ := R
  dsimp only at hq1 hq2 hH
  have hH : Has s0.bs.length S st (.box kr (.mem 0 false (rdC xr s2)) :: .lst xr 1 (byteCells b) :: .box kw (.mem 0 false (rdC xw s2)) :: .lst xw 1 (byteCells b) :: .box k11 (.mem 0 false [patD l2, .str c2]) :: .box k10 (.mem 0 false [patD l1, .str c1]) :: []) := (Has.rot [_, _] [_, _, _, _] hH).take 6
  have hg7 : true = true := rfl
  have hg16 : true = true := rfl
  have hg28 : true = true := rfl
  have heq : ∀ (e : Int) (st : St), (binD pv .eql 3 (.int .i64 e) (.int .i64 e)).map (fun d => (d, st)) = some (.bool true, st) := fun e st => by
    show Option.map _ (some (D.bool (e == e))) = _
    simp
  by_cases he : s2.e = 0
  · have hg22 : (s2.e != 0) = false := by simpa using he
    have e1 := hq1 he
    have e2 := hq2 he
    simp only [Prod.mk.injEq] at e1 e2
    rw [e1.1, e1.2, e2.1, e2.2] at hH
    rw [e1.1] at hl1
    change EvC _ _ _ _ _ _
    repeat refine EvC.seq ?_
    try generalize hK : SeqQ _ _ _ _ = K
    refine EvC.regY rfl ?_
    refine EvY.cons ?_
    refine EvO.mv (.inl rfl) rfl (ev rfl) (put_T rfl _) ?_
    refine EvO.nil ⟨rfl, ?_⟩
    refine EvY.cons ?_
    have hA := hH
    obtain ⟨_, st, hev, rfl, hH⟩ := gAt_ev hH
    have hB := hH
    refine EvO.hcall rfl rfl hev (put_T rfl _) ?_
    refine EvO.nil ⟨rfl, ?_⟩
    refine EvY.cons ?_
    refine EvO.mv (.inl rfl) rfl (ev rfl) (put_T rfl _) ?_
    refine EvO.nil ⟨rfl, ?_⟩
    refine EvY.cons ?_
    refine EvO.go rfl rfl rfl (put_T rfl _) ?_
    refine EvO.nil ⟨rfl, ?_⟩
    refine EvY.cons ?_
    refine EvO.pfield (fo := 1) (m := 0) (o := 1) rfl (ev rfl) rfl rfl rfl (put_T rfl _) ?_
    refine EvO.nil ⟨rfl, ?_⟩
    refine EvY.cons ?_
    refine EvO.hload hH rfl (ev rfl) at2 rfl (put_T rfl _) ?_
    refine EvO.nil ⟨by exact Bool.and_eq_true_iff.2 ⟨chk_rd rfl rfl (hA.at at2) (hB.at at2), rfl⟩, ?_⟩
    refine EvY.cons ?_
    refine EvO.go (d := .bool true) (st1 := _) rfl rfl (by exact heq _ _) (put_T rfl _) ?_
    refine EvO.nil ⟨rfl, ?_⟩
    refine EvY.cons ?_
    refine EvO.mv (.inl rfl) rfl (ev rfl) (put_T rfl _) ?_
    refine EvO.nil ⟨rfl, ?_⟩
    refine EvY.cons ?_
    refine EvO.mv (.inl rfl) (wantD_is rfl rfl rfl hg7) (ev rfl) (put_T rfl _) ?_
    refine EvO.nil ⟨rfl, ?_⟩
    refine EvY.cons ?_
    have hC := hH
    obtain ⟨_, st, hev, rfl, hH⟩ := gErr_ev hH
    have hD := hH
    refine EvO.hcall (wantD_is rfl rfl rfl hg7) rfl hev (put_T rfl _) ?_
    refine EvO.nil ⟨rfl, ?_⟩
    refine EvY.cons ?_
    refine EvO.mv (.inl rfl) (wantD_is rfl rfl rfl hg7) (ev rfl) (put_T rfl _) ?_
    refine EvO.nil ⟨rfl, ?_⟩
    refine EvY.cons ?_
    refine EvO.go (wantD_is rfl rfl rfl hg7) rfl rfl (put_T rfl _) ?_
    refine EvO.nil ⟨rfl, ?_⟩
    refine EvY.cons ?_
    refine EvO.pfield (fo := 2) (m := 0) (o := 2) (wantD_is rfl rfl rfl hg7) (ev rfl) rfl rfl rfl (put_T rfl _) ?_
    refine EvO.nil ⟨rfl, ?_⟩
    refine EvY.cons ?_
    refine EvO.hload hH (wantD_is rfl rfl rfl hg7) (ev rfl) at2 rfl (put_T rfl _) ?_
    refine EvO.nil ⟨by exact Bool.and_eq_true_iff.2 ⟨chk_rd rfl rfl (hC.at at2) (hD.at at2), rfl⟩, ?_⟩
    refine EvY.cons ?_
    refine EvO.go (d := .bool true) (st1 := _) (wantD_is rfl rfl rfl hg7) rfl (by exact heq _ _) (put_T rfl _) ?_
    refine EvO.nil ⟨rfl, ?_⟩
    refine EvY.cons ?_
    refine EvO.pickT rfl rfl hg7 (put_T rfl _) ?_
    refine EvO.nil ⟨rfl, ?_⟩
    refine EvY.cons ?_
    refine EvO.mv (.inl rfl) rfl (ev rfl) (put_T rfl _) ?_
    refine EvO.nil ⟨rfl, ?_⟩
    refine EvY.cons ?_
    refine EvO.mv (.inl rfl) (wantD_is rfl rfl rfl hg16) (ev rfl) (put_T rfl _) ?_
    refine EvO.nil ⟨rfl, ?_⟩
    refine EvY.cons ?_
    refine EvO.go (wantD_is rfl rfl rfl hg16) rfl rfl (put_T rfl _) ?_
    refine EvO.nil ⟨rfl, ?_⟩
    refine EvY.cons ?_
    refine EvO.pfield (fo := 2) (m := 0) (o := 2) (wantD_is rfl rfl rfl hg16) (ev rfl) rfl rfl rfl (put_T rfl _) ?_
    refine EvO.nil ⟨rfl, ?_⟩
    refine EvY.cons ?_
    refine EvO.hload hH (wantD_is rfl rfl rfl hg16) (ev rfl) at2 rfl (put_T rfl _) ?_
    refine EvO.nil ⟨rfl, ?_⟩
    refine EvY.cons ?_
    refine EvO.go (wantD_is rfl rfl rfl hg16) rfl rfl (put_T rfl _) ?_
    refine EvO.nil ⟨rfl, ?_⟩
    refine EvY.cons ?_
    refine EvO.mv (.inl rfl) (wantD_is rfl rfl rfl hg16) (ev rfl) (put_T rfl _) ?_
    refine EvO.nil ⟨rfl, ?_⟩
    refine EvY.cons ?_
    refine EvO.hloadS (m := 2) (r := [patD l0, .str c0]) hH (wantD_is rfl rfl rfl hg22) (ev rfl) at5 rfl rfl rfl (put_T rfl _) ?_
    refine EvO.nil ⟨rfl, ?_⟩
    refine EvY.cons ?_
    refine EvO.hloadS (m := 2) (r := [patD l0, .str c0]) hH (wantD_is rfl rfl rfl hg22) (ev rfl) at4 rfl rfl rfl (put_T rfl _) ?_
    refine EvO.nil ⟨rfl, ?_⟩
    refine EvY.cons ?_
    refine EvO.hcall (wantD_is rfl rfl rfl hg22) rfl (same18_ev ((pat_sl _).rows _) ((pat_sl _).rows _) (by omega)) (put_T rfl _) ?_
    refine EvO.nil ⟨rfl, ?_⟩
    refine EvY.cons ?_
    refine EvO.pickF (wantD_is rfl rfl rfl hg16) rfl hg22 (put_T rfl _) ?_
    refine EvO.nil ⟨rfl, ?_⟩
    refine EvY.cons ?_
    refine EvO.pickT rfl rfl hg16 (put_T rfl _) ?_
    refine EvO.nil ⟨rfl, ?_⟩
    refine EvY.cons ?_
    refine EvO.mv (.inl rfl) rfl (ev rfl) (put_T rfl _) ?_
    refine EvO.nil ⟨rfl, ?_⟩
    refine EvY.cons ?_
    refine EvO.hcall (wantD_is rfl rfl rfl hg28) rfl (Ev.prim rfl rfl) (put_T rfl _) ?_
    refine EvO.nil ⟨rfl, ?_⟩
    refine EvY.cons ?_
    refine EvO.pickT rfl rfl hg28 (put_T rfl _) ?_
    refine EvO.nil ⟨rfl, ?_⟩
    refine EvY.cons ?_
    refine EvO.mv (.inr rfl) rfl (ev rfl) (by dsimp only [Fr.put, List.set_cons_succ, List.set_cons_zero] <;> rfl) ?_
    refine EvO.nil ⟨rfl, ?_⟩
    refine EvY.nil ?_
    try subst hK
    try change EvC _ _ _ _ _ _
    refine EvC.ret ⟨fun i h => (by cases h), _, rfl, leave_ro (by simp) hSb hH (rfl)⟩
  · have hg22 : (s2.e != 0) = true := by simpa using he
    change EvC _ _ _ _ _ _
    repeat refine EvC.seq ?_
    try generalize hK : SeqQ _ _ _ _ = K
    refine EvC.regY rfl ?_
    refine EvY.cons ?_
    refine EvO.mv (.inl rfl) rfl (ev rfl) (put_T rfl _) ?_
    refine EvO.nil ⟨rfl, ?_⟩
    refine EvY.cons ?_
    have hA := hH
    obtain ⟨_, st, hev, rfl, hH⟩ := gAt_ev hH
    have hB := hH
    refine EvO.hcall rfl rfl hev (put_T rfl _) ?_
    refine EvO.nil ⟨rfl, ?_⟩
    refine EvY.cons ?_
    refine EvO.mv (.inl rfl) rfl (ev rfl) (put_T rfl _) ?_
    refine EvO.nil ⟨rfl, ?_⟩
    refine EvY.cons ?_
    refine EvO.go rfl rfl rfl (put_T rfl _) ?_
    refine EvO.nil ⟨rfl, ?_⟩
    refine EvY.cons ?_
    refine EvO.pfield (fo := 1) (m := 0) (o := 1) rfl (ev rfl) rfl rfl rfl (put_T rfl _) ?_
    refine EvO.nil ⟨rfl, ?_⟩
    refine EvY.cons ?_
    refine EvO.hload hH rfl (ev rfl) at2 rfl (put_T rfl _) ?_
    refine EvO.nil ⟨by exact Bool.and_eq_true_iff.2 ⟨chk_rd rfl rfl (hA.at at2) (hB.at at2), rfl⟩, ?_⟩
    refine EvY.cons ?_
    refine EvO.go (d := .bool true) (st1 := _) rfl rfl (by exact heq _ _) (put_T rfl _) ?_
    refine EvO.nil ⟨rfl, ?_⟩
    refine EvY.cons ?_
    refine EvO.mv (.inl rfl) rfl (ev rfl) (put_T rfl _) ?_
    refine EvO.nil ⟨rfl, ?_⟩
    refine EvY.cons ?_
    refine EvO.mv (.inl rfl) (wantD_is rfl rfl rfl hg7) (ev rfl) (put_T rfl _) ?_
    refine EvO.nil ⟨rfl, ?_⟩
    refine EvY.cons ?_
    have hC := hH
    obtain ⟨_, st, hev, rfl, hH⟩ := gErr_ev hH
    have hD := hH
    refine EvO.hcall (wantD_is rfl rfl rfl hg7) rfl hev (put_T rfl _) ?_
    refine EvO.nil ⟨rfl, ?_⟩
    refine EvY.cons ?_
    refine EvO.mv (.inl rfl) (wantD_is rfl rfl rfl hg7) (ev rfl) (put_T rfl _) ?_
    refine EvO.nil ⟨rfl, ?_⟩
    refine EvY.cons ?_
    refine EvO.go (wantD_is rfl rfl rfl hg7) rfl rfl (put_T rfl _) ?_
    refine EvO.nil ⟨rfl, ?_⟩
    refine EvY.cons ?_
    refine EvO.pfield (fo := 2) (m := 0) (o := 2) (wantD_is rfl rfl rfl hg7) (ev rfl) rfl rfl rfl (put_T rfl _) ?_
    refine EvO.nil ⟨rfl, ?_⟩
    refine EvY.cons ?_
    refine EvO.hload hH (wantD_is rfl rfl rfl hg7) (ev rfl) at2 rfl (put_T rfl _) ?_
    refine EvO.nil ⟨by exact Bool.and_eq_true_iff.2 ⟨chk_rd rfl rfl (hC.at at2) (hD.at at2), rfl⟩, ?_⟩
    refine EvY.cons ?_
    refine EvO.go (d := .bool true) (st1 := _) (wantD_is rfl rfl rfl hg7) rfl (by exact heq _ _) (put_T rfl _) ?_
    refine EvO.nil ⟨rfl, ?_⟩
    refine EvY.cons ?_
    refine EvO.pickT rfl rfl hg7 (put_T rfl _) ?_
    refine EvO.nil ⟨rfl, ?_⟩
    refine EvY.cons ?_
    refine EvO.mv (.inl rfl) rfl (ev rfl) (put_T rfl _) ?_
    refine EvO.nil ⟨rfl, ?_⟩
    refine EvY.cons ?_
    refine EvO.mv (.inl rfl) (wantD_is rfl rfl rfl hg16) (ev rfl) (put_T rfl _) ?_
    refine EvO.nil ⟨rfl, ?_⟩
    refine EvY.cons ?_
    refine EvO.go (wantD_is rfl rfl rfl hg16) rfl rfl (put_T rfl _) ?_
    refine EvO.nil ⟨rfl, ?_⟩
    refine EvY.cons ?_
    refine EvO.pfield (fo := 2) (m := 0) (o := 2) (wantD_is rfl rfl rfl hg16) (ev rfl) rfl rfl rfl (put_T rfl _) ?_
    refine EvO.nil ⟨rfl, ?_⟩
    refine EvY.cons ?_
    refine EvO.hload hH (wantD_is rfl rfl rfl hg16) (ev rfl) at2 rfl (put_T rfl _) ?_
    refine EvO.nil ⟨rfl, ?_⟩
    refine EvY.cons ?_
    refine EvO.go (wantD_is rfl rfl rfl hg16) rfl rfl (put_T rfl _) ?_
    refine EvO.nil ⟨rfl, ?_⟩
    refine EvY.cons ?_
    refine EvO.mv (.inl rfl) (wantD_is rfl rfl rfl hg16) (ev rfl) (put_T rfl _) ?_
    refine EvO.nil ⟨rfl, ?_⟩
    refine EvY.cons ?_
    refine EvO.skip (wantD_not rfl rfl rfl hg22) (put_T rfl _) ?_
    refine EvO.nil ⟨rfl, ?_⟩
    refine EvY.cons ?_
    refine EvO.skip (wantD_not rfl rfl rfl hg22) (put_T rfl _) ?_
    refine EvO.nil ⟨rfl, ?_⟩
    refine EvY.cons ?_
    refine EvO.skip (wantD_not rfl rfl rfl hg22) (put_T rfl _) ?_
    refine EvO.nil ⟨rfl, ?_⟩
    refine EvY.cons ?_
    refine EvO.pickT (wantD_is rfl rfl rfl hg16) rfl hg22 (put_T rfl _) ?_
    refine EvO.nil ⟨rfl, ?_⟩
    refine EvY.cons ?_
    refine EvO.pickT rfl rfl hg16 (put_T rfl _) ?_
    refine EvO.nil ⟨rfl, ?_⟩
    refine EvY.cons ?_
    refine EvO.mv (.inl rfl) rfl (ev rfl) (put_T rfl _) ?_
    refine EvO.nil ⟨rfl, ?_⟩
    refine EvY.cons ?_
    refine EvO.hcall rfl rfl (Ev.prim rfl rfl) (put_T rfl _) ?_
    refine EvO.nil ⟨rfl, ?_⟩
    refine EvY.cons ?_
    refine EvO.go rfl rfl rfl (put_T rfl _) ?_
    refine EvO.nil ⟨rfl, ?_⟩
    refine EvY.cons ?_
    refine EvO.mv (.inr rfl) rfl (ev rfl) (by dsimp only [Fr.put, List.set_cons_succ, List.set_cons_zero] <;> rfl) ?_
    refine EvO.nil ⟨rfl, ?_⟩
    refine EvY.nil ?_
    try subst hK
    try change EvC _ _ _ _ _ _
    refine EvC.ret ⟨fun i h => (by cases h), _, rfl, leave_ro (by simp) hSb hH (rfl)⟩
theorem own : ownKnob Tryz.prog.godebug = none := by kernel_rfl
theorem laidOut : laidOutB Tryz.prog = true := by kernel_rfl
theorem lifted (os : Os) (started : os.Started) (H : Type) (enc : TypeId × Value → H) (F : Stop.Interp) :
    ReturnsInHanded {} Tryz.checked os 12 .any ((Rows.OpenSpec.upto Rows.rulesBytesSpec).pre6 enc Tryz.prog Tryz.f12 Rows.rulesBytesUptoRow.domain false) (((Rows.OpenSpec.upto Rows.rulesBytesSpec).at F).post enc Tryz.prog Tryz.f12 false true false false) := by
  refine returnsInHanded_of_cond (C := Tryz.checked) (s := Rows.OpenSpec.upto Rows.rulesBytesSpec) (k := Rows.uptoSmall) rfl own started (by kernel_rfl) Tryz.func12
    (OpenSpec.witness (enc := enc) (C := Tryz.checked) (s := Rows.OpenSpec.upto Rows.rulesBytesSpec) (k := Rows.uptoSmall) rfl false ⟨#[], #[.agg #[.slice none 0 0, .string .empty], .slice none 0 0, .slice none 0 0], []⟩ 8 (by kernel_rfl) (by kernel_rfl) (by kernel_rfl)
      (x := ([.agg [.nil, .lit (.string [])], .nil, .nil], [], [])) (by kernel_rfl) rfl (by kernel_rfl)) ?_
  intro W base args ds gs before hval hW _ hk _
  have hW' := hW
  obtain ⟨p, q, hA0, hV, rfl, hfz, hnd⟩ := hW
  have hA : DataW.TrodAll enc Tryz.prog W 0 (fun _ => true) true Tryz.f12.params.toList args.toList ds p := hA0
  rw [Tryz.params12] at hA hval
  obtain ⟨v0, vs0, d0, ds0, p0, q0, hargs, rfl, rfl, h0, r0⟩ := trodAll_cons hA
  obtain ⟨v1, vs1, d1, ds1, p1, q1, rfl, rfl, rfl, h1, r1⟩ := trodAll_cons r0
  obtain ⟨v2, vs2, d2, ds2, p2, q2, rfl, rfl, rfl, h2, r2⟩ := trodAll_cons r1
  obtain ⟨rfl, rfl, rfl⟩ := trodAll_nil r2
  obtain rfl : args = #[v0, v1, v2] := by cases args; simp_all
  obtain ⟨rfl, rfl⟩ := trodVars_none hV
  simp only [Rows.uptoSmall, List.append_nil, List.nil_append, List.singleton_append, List.cons_append, decide_eq_true_eq, Rows.uptoBulkAll] at hk
  have i0 := trod_ir h0 (n := 12) (by kernel_rfl) (hval 0 86 v0 rfl rfl)
  have k0 := h0
  have lt0 : ∀ x ∈ p0, x.block < W.heap.size := by obtain ⟨m, hm⟩ := k0; exact DataW.trod_lt m _ _ _ hm
  obtain ⟨b0, hb0, ok0⟩ := arg_set (Rd.of h0)
  have i1 := trod_ir h1 (n := 12) (by kernel_rfl) (hval 1 23 v1 rfl rfl)
  have k1 := h1
  have lt1 : ∀ x ∈ p1, x.block < W.heap.size := by obtain ⟨m, hm⟩ := k1; exact DataW.trod_lt m _ _ _ hm
  obtain ⟨y1, b1, hb1, sl1, ok1⟩ := arg_byl (Rd.of h1)
  have i2 := trod_ir h2 (n := 12) (by kernel_rfl) (hval 2 23 v2 rfl rfl)
  have k2 := h2
  have lt2 : ∀ x ∈ p2, x.block < W.heap.size := by obtain ⟨m, hm⟩ := k2; exact DataW.trod_lt m _ _ _ hm
  obtain ⟨y2, b2, hb2, sl2, ok2⟩ := arg_byl (Rd.of h2)
  have hlaw : Ev pv 12 [dval d0, dval d1, dval d2] ⟨[], 0, 0⟩ (.bool true) ⟨[], 0, 0⟩ := by
    rw [hb0, hb1, hb2]
    exact law b0 (ok0 (by omega)) y1 b1 sl1 (ok1 (by omega)) y2 b2 sl2 (ok2 (by omega))
  have hir : ∀ (i : Nat) c v, [dval d0, dval d1, dval d2][i]? = some c → [v0, v1, v2][i]? = some v → IR W (fun b => b < W.heap.size) c v := by
    intro i c v hc hv
    match i, hc, hv with
    | 0, hc, hv => cases hc; cases hv; exact i0
    | 1, hc, hv => cases hc; cases hv; exact i1
    | 2, hc, hv => cases hc; cases hv; exact i2
  clear hA0
  refine (law_calls view hlaw (us := [v0, v1, v2]) rfl hir).mono fun e W' ⟨he, bel⟩ => ?_
  subst he
  exact ⟨_, rfl, _, _, _, [], _, [], hW', trodAll_mk1 (shut_bool Tryz.underlying4 _), (trodAll_cons_mk (Below.trod laidOut (by kernel_rfl) (of_decide_eq_true (by kernel_rfl)) k0 bel lt0) (trodAll_cons_mk (Below.trod laidOut (by kernel_rfl) (of_decide_eq_true (by kernel_rfl)) k1 bel lt1) (trodAll_cons_mk (Below.trod laidOut (by kernel_rfl) (of_decide_eq_true (by kernel_rfl)) k2 bel lt2) trodAll_mk0))), rfl, bel.frame _, fun h => by cases h⟩
theorem fact1 : (Rows.rulesBytesUptoRow.inPlace == Tryz.checked.prog.inPlace 12) = true := by kernel_rfl
theorem fact2 : (Rows.rulesBytesUptoRow.unfollowed == Tryz.checked.prog.unfollowed 12) = true := by kernel_rfl
theorem fact3 : (Rows.rulesBytesUptoRow.recurses == Tryz.checked.prog.recurses 12) = true := by kernel_rfl
theorem fact4 : (Rows.rulesBytesUptoRow.named == Tryz.checked.prog.varsNamed 12) = true := by kernel_rfl
theorem and_t {a b : Bool} (h1 : a = true) (h2 : b = true) : (a && b) = true := by rw [h1, h2]; rfl
theorem facts : joinedFacts Tryz.checked.prog 12 Tryz.f12 (Rows.OpenSpec.upto Rows.rulesBytesSpec).bare Rows.rulesBytesUptoRow = true := by
  unfold joinedFacts
  exact and_t (and_t (and_t (and_t (and_t (and_t (and_t (and_t (and_t (and_t (and_t (and_t (and_t (and_t (and_t (and_t (and_t (and_t (and_t (and_t (and_t (and_t (and_t (by kernel_rfl) fact1) fact2) fact3) fact4) (by kernel_rfl)) (by kernel_rfl)) (by kernel_rfl)) (by kernel_rfl)) (by kernel_rfl)) (by kernel_rfl)) (by kernel_rfl)) (by kernel_rfl)) (by kernel_rfl)) (by kernel_rfl)) (by kernel_rfl)) (by kernel_rfl)) (by kernel_rfl)) (by kernel_rfl)) (by kernel_rfl)) (by kernel_rfl)) (by kernel_rfl)) (by kernel_rfl)) (by kernel_rfl)
theorem proved : Rows.RulesBytesUptoSaid :=
  OpenClaim.holds_of_cond 12 Tryz.f12 rfl rfl rfl rfl rfl rfl rfl ⟨rfl, rfl, rfl, rfl, rfl⟩ rfl rfl rfl rfl rfl (by kernel_rfl) Tryz.func12 facts
    (of_decide_eq_true (by kernel_rfl)) (by unfold Func.isWrapper; first | (rw [if_pos (by decide +kernel)]; kernel_rfl) | (rw [if_neg (by decide +kernel)]; exact ⟨rfl, rfl⟩))
    (fun os started H enc _ F => lifted os started H enc F)
end Go.Proofs.YtecjacicdpejaaaGreat.rulesBytes
#print axioms Go.Proofs.YtecjacicdpejaaaGreat.rulesBytes.proved
