/- CheckClosed, for arguments of bulk at most 1048576: it answers true. -/
import Derived.Test.YtbdilgkfnacahaaAr
import Derived.Test.YtbdilgkfnacahaaJp
import Derived.Test.YtbdilgkfnacahaaRows
import Derived.WalkKit
import Derived.ProofKit
import Derived.OpenShut
import Derived.JoinedCond
import Derived.ChangeOld
namespace Go.Proofs.Ytbdilgkfnacahaa.checkClosed
open Go.ChangeShapes Go.WideShapes Go.ChangeAt Go.RowKit Go.V
set_option maxRecDepth 100000
set_option maxHeartbeats 4000000
set_option linter.unusedSimpArgs false
set_option linter.unusedVariables false

/-- what a frame holds at a slot -/
def ixF_CheckClosed (fr : Go.V.Fr) (k : Nat) : Go.V.D := Go.V.nth .junk fr.loc k

theorem nums_get {R : List Bool} {i : Nat} {v : Int} (h : (numsS 0 R)[i]? = some v) : ∃ k : Nat, R[k]? = some true ∧ v = (k : Int) := by
  obtain ⟨k, h1, h2⟩ := nums_mem.1 (List.mem_of_getElem? h)
  exact ⟨k, h1, by rw [h2, Nat.zero_add]⟩
theorem nums_has {R : List Bool} {k : Nat} (h : R[k]? = some true) : ∃ i : Nat, (numsS 0 R)[i]? = some (k : Int) :=
  List.getElem?_of_mem (nums_mem.2 ⟨k, h, by rw [Nat.zero_add]⟩)

/-- what is gone on to -/
def hit (code : List PIns) (start : Int) (L : List Int) (i : Nat) (w : Nat) : Prop := (w : Int) = start ∨ ∃ (j u : Nat) (x : PIns), j < i ∧ L[j]? = some (u : Int) ∧ code[u]? = some x ∧ (w : Int) ∈ nextS u x ∧ w ≠ u

theorem law {s0 : St} (p : Pg) (hp : p.ok) (rule : Int) : Ev pv 9 [p.d, .int .i64 rule] s0 (.bool true) s0 := by
  refine Ev.mk1 rfl fi9 rfl rfl rfl ?_
  dsimp only [List.cons_append, List.nil_append, List.length, Nat.reduceSub, Nat.reduceAdd, List.replicate_succ, List.replicate_zero]
  have hSb : (enterSt .ro s0).bs = s0.bs := rfl
  have hF : (enterSt .ro s0).flr ≤ s0.bs.length := Nat.le_refl _
  have hH : Has s0.bs.length (enterSt .ro s0) (enterSt .ro s0) [] := Has.start (Nat.le_refl _) (Nat.le_refl _)
  generalize enterSt .ro s0 = S at *
  unfold Pg.d
  try change EvC _ _ _ _ _ _
  repeat refine EvC.seq ?_
  try generalize hK : SeqQ _ _ _ _ = K
  refine EvC.reg ?_
  refine EvO.hbox hH rfl rfl (fun _ => by dsimp only [Fr.put, List.set_cons_succ, List.set_cons_zero] <;> rfl) (fun k2 st hk2 hH => ?_)
  try dsimp only [List.set_cons_zero, List.set_cons_succ, List.cons_append, List.nil_append, setMany, List.map_cons, List.map_nil, D.cells, Nat.reduceAdd, List.nil_append, Pg.cs, insC, intC, boolC] at hH
  refine EvO.mv (.inr rfl) rfl (ev rfl) (by dsimp only [Fr.put, List.set_cons_succ, List.set_cons_zero] <;> rfl) ?_
  refine EvO.nil ?_
  try subst hK
  try change EvC _ _ _ _ _ _
  obtain ⟨_, hev, q, rfl, hq, hqc, hqs⟩ := short_ev (s0 := st) hp
  try change EvC _ _ _ _ _ _
  repeat refine EvC.seq ?_
  try generalize hK : SeqQ _ _ _ _ = K
  refine EvC.reg ?_
  first | refine EvO.hloadS (m := 2) hH rfl (ev rfl) (by first | exact at0 | exact at1 | exact at2 | exact at3 | exact at4 | exact at5 | exact at6 | exact at7) (by dsimp only [List.drop_succ_cons, List.drop_zero, List.take_succ_cons, List.take_zero, Pg.cs, insC, intC, boolC] <;> rfl) rfl rfl (by dsimp only [Fr.put, List.set_cons_succ, List.set_cons_zero] <;> rfl) ?_ | refine EvO.rload rfl (ev rfl) (by assumption) rfl (by dsimp only [Fr.put, List.set_cons_succ, List.set_cons_zero] <;> rfl) ?_ | refine EvO.oload hH rfl (ev rfl) (by assumption) (by first | exact at0 | exact at1 | exact at2 | exact at3 | exact at4 | exact at5 | exact at6 | exact at7) (by assumption) rfl (by dsimp only [Fr.put, List.set_cons_succ, List.set_cons_zero] <;> rfl) ?_
  refine EvO.hcall rfl rfl (hev) (by dsimp only [Fr.put, List.set_cons_succ, List.set_cons_zero] <;> rfl) ?_
  refine EvO.hstoreA hH rfl (ev rfl) (ev rfl) (by first | rfl | exact (SlD.cells (by assumption)).1 | exact hH.ocells (by first | exact at0 | exact at1 | exact at2 | exact at3 | exact at4 | exact at5 | exact at6 | exact at7) | exact hH.dcells (by first | exact at0 | exact at1 | exact at2 | exact at3 | exact at4 | exact at5 | exact at6 | exact at7)) (by exact rfl) (by first | exact at0 | exact at1 | exact at2 | exact at3 | exact at4 | exact at5 | exact at6 | exact at7) (by exact rfl) (by first | exact .inl hF | exact .inr rfl) (fun st hH => ?_)
  try dsimp only [List.set_cons_zero, List.set_cons_succ, List.cons_append, List.nil_append, setMany, List.map_cons, List.map_nil, D.cells, Nat.reduceAdd, List.nil_append, Pg.cs, insC, intC, boolC] at hH
  refine EvO.nil ?_
  try subst hK
  try change EvC _ _ _ _ _ _
  clear hev
  have hc := hq.c.arg s0.bs.length S
  have hs := hq.s.arg s0.bs.length S
  have hql := hq.cl
  have hqsl := hq.sl
  try change EvC _ _ _ _ _ _
  repeat refine EvC.seq ?_
  try generalize hK : SeqQ _ _ _ _ = K
  refine EvC.reg ?_
  first | refine EvO.hloadS (m := 2) hH rfl (ev rfl) (by first | exact at0 | exact at1 | exact at2 | exact at3 | exact at4 | exact at5 | exact at6 | exact at7) (by dsimp only [List.drop_succ_cons, List.drop_zero, List.take_succ_cons, List.take_zero, Pg.cs, insC, intC, boolC] <;> rfl) rfl rfl (by dsimp only [Fr.put, List.set_cons_succ, List.set_cons_zero] <;> rfl) ?_ | refine EvO.rload rfl (ev rfl) (by assumption) rfl (by dsimp only [Fr.put, List.set_cons_succ, List.set_cons_zero] <;> rfl) ?_ | refine EvO.oload hH rfl (ev rfl) (by assumption) (by first | exact at0 | exact at1 | exact at2 | exact at3 | exact at4 | exact at5 | exact at6 | exact at7) (by assumption) rfl (by dsimp only [Fr.put, List.set_cons_succ, List.set_cons_zero] <;> rfl) ?_
  refine EvO.mv (.inl rfl) rfl (ev rfl) (by dsimp only [Fr.put, List.set_cons_succ, List.set_cons_zero] <;> rfl) ?_
  refine EvO.hcall rfl rfl (checkReach_ev (p := q) hq) (by dsimp only [Fr.put, List.set_cons_succ, List.set_cons_zero] <;> rfl) ?_
  refine EvO.mv (.inr rfl) rfl (ev rfl) (by dsimp only [Fr.put, List.set_cons_succ, List.set_cons_zero] <;> rfl) ?_
  refine EvO.nil ?_
  try subst hK
  try change EvC _ _ _ _ _ _
  have hla := (intsV_sl (reachN q rule)).arg s0.bs.length S
  try change EvC _ _ _ _ _ _
  repeat refine EvC.seq ?_
  refine EvC.cutL 32 (.bool ((!dec (RightQ q) || decide (rule < 0)) || decide (rule ≥ q.starts.length))) [19, 20, 21, 22, 23, 24, 25, 26, 27, 28, 29, 30, 31] ?_ (fun ff tmp => ?_)
  · first | refine EvO.hloadS (m := 2) hH rfl (ev rfl) (by first | exact at0 | exact at1 | exact at2 | exact at3 | exact at4 | exact at5 | exact at6 | exact at7) (by dsimp only [List.drop_succ_cons, List.drop_zero, List.take_succ_cons, List.take_zero, Pg.cs, insC, intC, boolC] <;> rfl) rfl rfl (by dsimp only [Fr.put, List.set_cons_succ, List.set_cons_zero] <;> rfl) ?_ | refine EvO.rload rfl (ev rfl) (by assumption) rfl (by dsimp only [Fr.put, List.set_cons_succ, List.set_cons_zero] <;> rfl) ?_ | refine EvO.oload hH rfl (ev rfl) (by assumption) (by first | exact at0 | exact at1 | exact at2 | exact at3 | exact at4 | exact at5 | exact at6 | exact at7) (by assumption) rfl (by dsimp only [Fr.put, List.set_cons_succ, List.set_cons_zero] <;> rfl) ?_
    refine EvO.hcall rfl rfl (checkRight_ev (p := q) hq) (by dsimp only [Fr.put, List.set_cons_succ, List.set_cons_zero] <;> rfl) ?_
    refine EvO.go rfl rfl rfl (by dsimp only [Fr.put, List.set_cons_succ, List.set_cons_zero] <;> rfl) ?_
    refine EvO.mv (.inl rfl) rfl (ev rfl) (by dsimp only [Fr.put, List.set_cons_succ, List.set_cons_zero] <;> rfl) ?_
    refine EvO.two 22 rfl (fun hg3 => ?_) (fun hg3 => ?_)
    · refine EvO.skip (wantD_not rfl rfl rfl hg3) (by dsimp only [Fr.put, List.set_cons_succ, List.set_cons_zero] <;> rfl) ?_
      refine EvO.skip (wantD_not rfl rfl rfl hg3) (by dsimp only [Fr.put, List.set_cons_succ, List.set_cons_zero] <;> rfl) ?_
      refine EvO.pickT rfl rfl hg3 (by dsimp only [Fr.put, List.set_cons_succ, List.set_cons_zero] <;> rfl) ?_
      refine EvO.mv (.inl rfl) rfl (ev rfl) (by dsimp only [Fr.put, List.set_cons_succ, List.set_cons_zero] <;> rfl) ?_
      refine EvO.skip rfl (by dsimp only [Fr.put, List.set_cons_succ, List.set_cons_zero] <;> rfl) ?_
      refine EvO.skip rfl (by dsimp only [Fr.put, List.set_cons_succ, List.set_cons_zero] <;> rfl) ?_
      refine EvO.skip rfl (by dsimp only [Fr.put, List.set_cons_succ, List.set_cons_zero] <;> rfl) ?_
      refine EvO.skip rfl (by dsimp only [Fr.put, List.set_cons_succ, List.set_cons_zero] <;> rfl) ?_
      refine EvO.skip rfl (by dsimp only [Fr.put, List.set_cons_succ, List.set_cons_zero] <;> rfl) ?_
      refine EvO.go rfl rfl rfl (by dsimp only [Fr.put, List.set_cons_succ, List.set_cons_zero] <;> rfl) ?_
      refine EvO.nil (leafL ?_)
      try dsimp only [setW, List.foldl_cons, List.foldl_nil, nth, List.set_cons_zero, List.set_cons_succ]
      try dsimp only [Fr.putO, Fr.put, Fr.clean, Fr.ev, Fr.get, nth, Go.V.look, List.set_cons_succ, List.set_cons_zero, ofVal_int, ofVal_bool, ofVal_str, ofVal_nul, ofVal_pnil, ofVal_nilfn, ofVal_nilif, List.length, List.cons_append, List.nil_append, List.append_nil, Nat.reduceSub, Nat.reduceAdd, List.map, List.map_cons, List.map_nil]
      all_goals (first | rfl | (simp [hg3]; done) | (simp_all; done))
    · refine EvO.mv (.inl rfl) (wantD_is rfl rfl rfl hg3) (ev rfl) (by dsimp only [Fr.put, List.set_cons_succ, List.set_cons_zero] <;> rfl) ?_
      refine EvO.go (wantD_is rfl rfl rfl hg3) rfl rfl (by dsimp only [Fr.put, List.set_cons_succ, List.set_cons_zero] <;> rfl) ?_
      refine EvO.pickF rfl rfl hg3 (by dsimp only [Fr.put, List.set_cons_succ, List.set_cons_zero] <;> rfl) ?_
      refine EvO.mv (.inl rfl) rfl (ev rfl) (by dsimp only [Fr.put, List.set_cons_succ, List.set_cons_zero] <;> rfl) ?_
      refine EvO.two 26 rfl (fun hg7 => ?_) (fun hg7 => ?_)
      · refine EvO.skip (wantD_not rfl rfl rfl hg7) (by dsimp only [Fr.put, List.set_cons_succ, List.set_cons_zero] <;> rfl) ?_
        refine EvO.skip (wantD_not rfl rfl rfl hg7) (by dsimp only [Fr.put, List.set_cons_succ, List.set_cons_zero] <;> rfl) ?_
        refine EvO.skip (wantD_not rfl rfl rfl hg7) (by dsimp only [Fr.put, List.set_cons_succ, List.set_cons_zero] <;> rfl) ?_
        refine EvO.skip (wantD_not rfl rfl rfl hg7) (by dsimp only [Fr.put, List.set_cons_succ, List.set_cons_zero] <;> rfl) ?_
        refine EvO.skip (wantD_not rfl rfl rfl hg7) (by dsimp only [Fr.put, List.set_cons_succ, List.set_cons_zero] <;> rfl) ?_
        refine EvO.pickT rfl rfl hg7 (by dsimp only [Fr.put, List.set_cons_succ, List.set_cons_zero] <;> rfl) ?_
        refine EvO.nil (leafL ?_)
        try dsimp only [setW, List.foldl_cons, List.foldl_nil, nth, List.set_cons_zero, List.set_cons_succ]
        try dsimp only [Fr.putO, Fr.put, Fr.clean, Fr.ev, Fr.get, nth, Go.V.look, List.set_cons_succ, List.set_cons_zero, ofVal_int, ofVal_bool, ofVal_str, ofVal_nul, ofVal_pnil, ofVal_nilfn, ofVal_nilif, List.length, List.cons_append, List.nil_append, List.append_nil, Nat.reduceSub, Nat.reduceAdd, List.map, List.map_cons, List.map_nil]
        all_goals (first | rfl | (simp [hg3, hg7]; done) | (simp_all; done))
      · refine EvO.mv (.inl rfl) (wantD_is rfl rfl rfl hg7) (ev rfl) (by dsimp only [Fr.put, List.set_cons_succ, List.set_cons_zero] <;> rfl) ?_
        refine EvO.pfield (fo := 1) (m := 0) (o := 1) (wantD_is rfl rfl rfl hg7) (ev rfl) rfl rfl rfl (by dsimp only [Fr.put, List.set_cons_succ, List.set_cons_zero] <;> rfl) ?_
        first | refine EvO.hload hH (wantD_is rfl rfl rfl hg7) (ev rfl) (by first | exact at0 | exact at1 | exact at2 | exact at3 | exact at4 | exact at5 | exact at6 | exact at7) rfl (by dsimp only [Fr.put, List.set_cons_succ, List.set_cons_zero] <;> rfl) ?_ | refine EvO.rload (wantD_is rfl rfl rfl hg7) (ev rfl) (by assumption) rfl (by dsimp only [Fr.put, List.set_cons_succ, List.set_cons_zero] <;> rfl) ?_ | refine EvO.oload hH (wantD_is rfl rfl rfl hg7) (ev rfl) (by assumption) (by first | exact at0 | exact at1 | exact at2 | exact at3 | exact at4 | exact at5 | exact at6 | exact at7) (by assumption) rfl (by dsimp only [Fr.put, List.set_cons_succ, List.set_cons_zero] <;> rfl) ?_
        first | refine EvO.rlen (wantD_is rfl rfl rfl hg7) (ev rfl) (Arg.rows (by assumption) hH) rfl (by dsimp only [Fr.put, List.set_cons_succ, List.set_cons_zero] <;> rfl) ?_ | refine EvO.rlen (wantD_is rfl rfl rfl hg7) (ev rfl) (hH.rows (by first | exact at0 | exact at1 | exact at2 | exact at3 | exact at4 | exact at5 | exact at6 | exact at7)) rfl (by dsimp only [Fr.put, List.set_cons_succ, List.set_cons_zero] <;> rfl) ?_ | refine EvO.slen (wantD_is rfl rfl rfl hg7) rfl rfl (by dsimp only [Fr.put, List.set_cons_succ, List.set_cons_zero] <;> rfl) ?_ | refine EvO.go (wantD_is rfl rfl rfl hg7) rfl rfl (by dsimp only [Fr.put, List.set_cons_succ, List.set_cons_zero] <;> rfl) ?_
        try simp only [List.length_map, List.length_append, List.length_cons, List.length_nil, List.length_set, List.length_replicate, List.length_reverse]
        refine EvO.go (wantD_is rfl rfl rfl hg7) rfl rfl (by dsimp only [Fr.put, List.set_cons_succ, List.set_cons_zero] <;> rfl) ?_
        refine EvO.pickF rfl rfl hg7 (by dsimp only [Fr.put, List.set_cons_succ, List.set_cons_zero] <;> rfl) ?_
        refine EvO.nil (leafL ?_)
        try dsimp only [setW, List.foldl_cons, List.foldl_nil, nth, List.set_cons_zero, List.set_cons_succ]
        try dsimp only [Fr.putO, Fr.put, Fr.clean, Fr.ev, Fr.get, nth, Go.V.look, List.set_cons_succ, List.set_cons_zero, ofVal_int, ofVal_bool, ofVal_str, ofVal_nul, ofVal_pnil, ofVal_nilfn, ofVal_nilif, List.length, List.cons_append, List.nil_append, List.append_nil, Nat.reduceSub, Nat.reduceAdd, List.map, List.map_cons, List.map_nil]
        all_goals (first | rfl | (simp [hg3, hg7]; done) | (simp_all; done))
  try dsimp only [setW, List.foldl_cons, List.foldl_nil, nth, List.set_cons_zero, List.set_cons_succ]
  generalize ff 19 = e19
  generalize ff 20 = e20
  generalize ff 21 = e21
  generalize ff 22 = e22
  generalize ff 23 = e23
  generalize ff 24 = e24
  generalize ff 25 = e25
  generalize ff 26 = e26
  generalize ff 27 = e27
  generalize ff 28 = e28
  generalize ff 29 = e29
  generalize ff 30 = e30
  generalize ff 31 = e31
  try dsimp only [Fr.putO, Fr.put, Fr.clean, Fr.ev, Fr.get, nth, Go.V.look, List.set_cons_succ, List.set_cons_zero, ofVal_int, ofVal_bool, ofVal_str, ofVal_nul, ofVal_pnil, ofVal_nilfn, ofVal_nilif, List.length, List.cons_append, List.nil_append, List.append_nil, Nat.reduceSub, Nat.reduceAdd, List.map, List.map_cons, List.map_nil]
  try change EvC _ _ _ _ _ _
  try change EvC _ _ _ _ _ _
  repeat refine EvC.seq ?_
  refine EvC.cond (by first | rfl | assumption) (fun h0 => ?_) (fun h0 => ?_) <;> try simp only [decide_eq_true_eq, decide_eq_false_iff_not, beq_iff_eq, beq_eq_false_iff_ne, bne_iff_ne, bne_eq_false_iff_eq, ne_eq, Bool.not_eq_true', Bool.not_eq_false', Bool.not_eq_true, Bool.not_eq_false] at h0
  · have hn : reachN q rule = [] := by
      unfold reachN
      rw [if_neg]
      rintro h
      simp only [Bool.and_eq_true] at h
      have := inS_iff.1 h.2
      rw [h.1] at h0
      simp at h0; omega
    rw [hn] at hla ⊢
    have hg3 : ((([] : List Int).length : Int) == 0) = true := rfl
    try change EvC _ _ _ _ _ _
    repeat refine EvC.seq ?_
    try generalize hK : SeqQ _ _ _ _ = K
    refine EvC.reg ?_
    refine EvO.mv (.inl rfl) rfl (ev rfl) (by dsimp only [Fr.put, List.set_cons_succ, List.set_cons_zero] <;> rfl) ?_
    first | refine EvO.rlen rfl (ev rfl) (Arg.rows (by assumption) hH) rfl (by dsimp only [Fr.put, List.set_cons_succ, List.set_cons_zero] <;> rfl) ?_ | refine EvO.rlen rfl (ev rfl) (hH.rows (by first | exact at0 | exact at1 | exact at2 | exact at3 | exact at4 | exact at5 | exact at6 | exact at7)) rfl (by dsimp only [Fr.put, List.set_cons_succ, List.set_cons_zero] <;> rfl) ?_ | refine EvO.slen rfl rfl rfl (by dsimp only [Fr.put, List.set_cons_succ, List.set_cons_zero] <;> rfl) ?_ | refine EvO.go rfl rfl rfl (by dsimp only [Fr.put, List.set_cons_succ, List.set_cons_zero] <;> rfl) ?_
    try simp only [List.length_map, List.length_append, List.length_cons, List.length_nil, List.length_set, List.length_replicate, List.length_reverse]
    refine EvO.go rfl rfl rfl (by dsimp only [Fr.put, List.set_cons_succ, List.set_cons_zero] <;> rfl) ?_
    refine EvO.mv (.inl rfl) rfl (ev rfl) (by dsimp only [Fr.put, List.set_cons_succ, List.set_cons_zero] <;> rfl) ?_
    refine EvO.hcall (wantD_is rfl rfl rfl hg3) rfl (Ev.prim rfl rfl) (by dsimp only [Fr.put, List.set_cons_succ, List.set_cons_zero] <;> rfl) ?_
    refine EvO.pickT rfl rfl hg3 (by dsimp only [Fr.put, List.set_cons_succ, List.set_cons_zero] <;> rfl) ?_
    refine EvO.mv (.inr rfl) rfl (ev rfl) (by dsimp only [Fr.put, List.set_cons_succ, List.set_cons_zero] <;> rfl) ?_
    refine EvO.nil ?_
    try subst hK
    try change EvC _ _ _ _ _ _
    refine EvC.ret ⟨fun i h => (by cases h), _, rfl, leave_ro (by simp) hSb hH (rfl)⟩
  · have h1 : RightQ q ∧ 0 ≤ rule ∧ rule < (q.starts.length : Int) := by
      simp only [Bool.or_eq_false_iff, Bool.not_eq_false', decide_eq_false_iff_not] at h0
      exact ⟨dec_true h0.1.1, by omega, by omega⟩
    obtain ⟨hR, hin0, hin1⟩ := h1
    obtain ⟨ru, rfl⟩ := Int.eq_ofNat_of_zero_le hin0
    obtain ⟨start, hs1⟩ : ∃ v, q.starts[ru]? = some v := ⟨q.starts[ru]'(by omega), List.getElem?_eq_getElem _⟩
    have hst := hR.st start (List.mem_of_getElem? hs1)
    have hcl := hR.closed
    have hok := reach_ok hcl hst
    have hrl := reachS_len q.code start
    have hn : reachN q (ru : Nat) = numsS 0 (reachS q.code start) := by
      unfold reachN
      rw [dec_yes hR, Bool.true_and, if_pos (inS_iff.2 ⟨by omega, by omega⟩), Int.toNat_natCast, List.getD_eq_getElem?_getD, hs1]; rfl
    rw [hn] at hla ⊢
    have hrise := nums_rise (reachS q.code start) 0
    have hnl := nums_len (reachS q.code start) 0
    have hget := fun i v => nums_get (R := reachS q.code start) (i := i) (v := v)
    have hhas := fun k => nums_has (R := reachS q.code start) (k := k)
    generalize reachS q.code start = R at *
    generalize numsS 0 R = L at *
    obtain ⟨sn, rfl⟩ := Int.eq_ofNat_of_zero_le hst.1
    have hr0 := int_get hs1
    refine EvC.skip ?_
    try change EvC _ _ _ _ _ _
    try change EvC _ _ _ _ _ _
    repeat refine EvC.seq ?_
    try generalize hK : SeqQ _ _ _ _ = K
    refine EvC.reg ?_
    refine EvO.pfield (fo := 0) (m := 0) (o := 0) rfl (ev rfl) rfl rfl rfl (by dsimp only [Fr.put, List.set_cons_succ, List.set_cons_zero] <;> rfl) ?_
    first | refine EvO.hload hH rfl (ev rfl) (by first | exact at0 | exact at1 | exact at2 | exact at3 | exact at4 | exact at5 | exact at6 | exact at7) rfl (by dsimp only [Fr.put, List.set_cons_succ, List.set_cons_zero] <;> rfl) ?_ | refine EvO.rload rfl (ev rfl) (by assumption) rfl (by dsimp only [Fr.put, List.set_cons_succ, List.set_cons_zero] <;> rfl) ?_ | refine EvO.oload hH rfl (ev rfl) (by assumption) (by first | exact at0 | exact at1 | exact at2 | exact at3 | exact at4 | exact at5 | exact at6 | exact at7) (by assumption) rfl (by dsimp only [Fr.put, List.set_cons_succ, List.set_cons_zero] <;> rfl) ?_
    first | refine EvO.rlen rfl (ev rfl) (Arg.rows (by assumption) hH) rfl (by dsimp only [Fr.put, List.set_cons_succ, List.set_cons_zero] <;> rfl) ?_ | refine EvO.rlen rfl (ev rfl) (hH.rows (by first | exact at0 | exact at1 | exact at2 | exact at3 | exact at4 | exact at5 | exact at6 | exact at7)) rfl (by dsimp only [Fr.put, List.set_cons_succ, List.set_cons_zero] <;> rfl) ?_ | refine EvO.slen rfl rfl rfl (by dsimp only [Fr.put, List.set_cons_succ, List.set_cons_zero] <;> rfl) ?_ | refine EvO.go rfl rfl rfl (by dsimp only [Fr.put, List.set_cons_succ, List.set_cons_zero] <;> rfl) ?_
    try simp only [List.length_map, List.length_append, List.length_cons, List.length_nil, List.length_set, List.length_replicate, List.length_reverse]
    first | refine EvO.addN rfl (ev rfl) (ev rfl) (by omega) (by dsimp only [Fr.put, List.set_cons_succ, List.set_cons_zero] <;> rfl) ?_ | refine EvO.addS64 rfl (ev rfl) (ev rfl) (by omega) (by omega) (by dsimp only [Fr.put, List.set_cons_succ, List.set_cons_zero] <;> rfl) ?_ | refine EvO.addS32 rfl (ev rfl) (ev rfl) (by omega) (by omega) (by dsimp only [Fr.put, List.set_cons_succ, List.set_cons_zero] <;> rfl) ?_ | refine EvO.go rfl rfl rfl (by dsimp only [Fr.put, List.set_cons_succ, List.set_cons_zero] <;> rfl) ?_
    refine EvO.hmake (s := 1) hH rfl rfl rfl rfl rfl rfl rfl rfl (Nat.le_of_ble_eq_true rfl) (by first | omega | exact Nat.le_trans (Nat.add_le_add_right (m := 1048576) (by omega) _) (by decide)) (fun _ => by dsimp only [Fr.put, List.set_cons_succ, List.set_cons_zero] <;> rfl) (fun k43 st hk43 hH => ?_)
    try dsimp only [List.set_cons_zero, List.set_cons_succ, List.cons_append, List.nil_append, setMany, List.map_cons, List.map_nil, D.cells, Nat.reduceAdd, List.nil_append, Pg.cs, insC, intC, boolC] at hH
    refine EvO.mv (.inr rfl) rfl (ev rfl) (by dsimp only [Fr.put, List.set_cons_succ, List.set_cons_zero] <;> rfl) ?_
    refine EvO.nil ?_
    try subst hK
    try change EvC _ _ _ _ _ _
    try change EvC _ _ _ _ _ _
    repeat refine EvC.seq ?_
    try generalize hK : SeqQ _ _ _ _ = K
    refine EvC.reg ?_
    refine EvO.pfield (fo := 0) (m := 0) (o := 0) rfl (ev rfl) rfl rfl rfl (by dsimp only [Fr.put, List.set_cons_succ, List.set_cons_zero] <;> rfl) ?_
    first | refine EvO.hload hH rfl (ev rfl) (by first | exact at0 | exact at1 | exact at2 | exact at3 | exact at4 | exact at5 | exact at6 | exact at7) rfl (by dsimp only [Fr.put, List.set_cons_succ, List.set_cons_zero] <;> rfl) ?_ | refine EvO.rload rfl (ev rfl) (by assumption) rfl (by dsimp only [Fr.put, List.set_cons_succ, List.set_cons_zero] <;> rfl) ?_ | refine EvO.oload hH rfl (ev rfl) (by assumption) (by first | exact at0 | exact at1 | exact at2 | exact at3 | exact at4 | exact at5 | exact at6 | exact at7) (by assumption) rfl (by dsimp only [Fr.put, List.set_cons_succ, List.set_cons_zero] <;> rfl) ?_
    first | refine EvO.rlen rfl (ev rfl) (Arg.rows (by assumption) hH) rfl (by dsimp only [Fr.put, List.set_cons_succ, List.set_cons_zero] <;> rfl) ?_ | refine EvO.rlen rfl (ev rfl) (hH.rows (by first | exact at0 | exact at1 | exact at2 | exact at3 | exact at4 | exact at5 | exact at6 | exact at7)) rfl (by dsimp only [Fr.put, List.set_cons_succ, List.set_cons_zero] <;> rfl) ?_ | refine EvO.slen rfl rfl rfl (by dsimp only [Fr.put, List.set_cons_succ, List.set_cons_zero] <;> rfl) ?_ | refine EvO.go rfl rfl rfl (by dsimp only [Fr.put, List.set_cons_succ, List.set_cons_zero] <;> rfl) ?_
    try simp only [List.length_map, List.length_append, List.length_cons, List.length_nil, List.length_set, List.length_replicate, List.length_reverse]
    first | refine EvO.addN rfl (ev rfl) (ev rfl) (by omega) (by dsimp only [Fr.put, List.set_cons_succ, List.set_cons_zero] <;> rfl) ?_ | refine EvO.addS64 rfl (ev rfl) (ev rfl) (by omega) (by omega) (by dsimp only [Fr.put, List.set_cons_succ, List.set_cons_zero] <;> rfl) ?_ | refine EvO.addS32 rfl (ev rfl) (ev rfl) (by omega) (by omega) (by dsimp only [Fr.put, List.set_cons_succ, List.set_cons_zero] <;> rfl) ?_ | refine EvO.go rfl rfl rfl (by dsimp only [Fr.put, List.set_cons_succ, List.set_cons_zero] <;> rfl) ?_
    refine EvO.hmake (s := 1) hH rfl rfl rfl rfl rfl rfl rfl rfl (Nat.le_of_ble_eq_true rfl) (by first | omega | exact Nat.le_trans (Nat.add_le_add_right (m := 1048576) (by omega) _) (by decide)) (fun _ => by dsimp only [Fr.put, List.set_cons_succ, List.set_cons_zero] <;> rfl) (fun k48 st hk48 hH => ?_)
    try dsimp only [List.set_cons_zero, List.set_cons_succ, List.cons_append, List.nil_append, setMany, List.map_cons, List.map_nil, D.cells, Nat.reduceAdd, List.nil_append, Pg.cs, insC, intC, boolC] at hH
    refine EvO.mv (.inr rfl) rfl (ev rfl) (by dsimp only [Fr.put, List.set_cons_succ, List.set_cons_zero] <;> rfl) ?_
    refine EvO.nil ?_
    try subst hK
    try change EvC _ _ _ _ _ _
    try change EvC _ _ _ _ _ _
    repeat refine EvC.seq ?_
    try generalize hK : SeqQ _ _ _ _ = K
    refine EvC.reg ?_
    refine EvO.mv (.inr rfl) rfl (ev rfl) (by dsimp only [Fr.put, List.set_cons_succ, List.set_cons_zero] <;> rfl) ?_
    refine EvO.nil ?_
    try subst hK
    try change EvC _ _ _ _ _ _
    try change EvC _ _ _ _ _ _
    repeat refine EvC.seq ?_
    refine EvC.block ?_
    refine EvC.loop (fun mm fr st => ∃ (i : Nat) (inn : List Bool), fr.clean = ⟨127, [ixF_CheckClosed fr 0, .int .i64 (ru : Nat), .ptr k2 0 0, ixF_CheckClosed fr 3, ixF_CheckClosed fr 4, intsV L, .win k43 0 0 (q.code.length + 1) 1, .win k48 0 0 (q.code.length + 1) 1, .int .i64 (i : Nat), ixF_CheckClosed fr 9, ixF_CheckClosed fr 10, ixF_CheckClosed fr 11, ixF_CheckClosed fr 12, ixF_CheckClosed fr 13, ixF_CheckClosed fr 14, ixF_CheckClosed fr 15, ixF_CheckClosed fr 16, ixF_CheckClosed fr 17, ixF_CheckClosed fr 18, ixF_CheckClosed fr 19, ixF_CheckClosed fr 20, ixF_CheckClosed fr 21, ixF_CheckClosed fr 22, ixF_CheckClosed fr 23, ixF_CheckClosed fr 24, ixF_CheckClosed fr 25, ixF_CheckClosed fr 26, ixF_CheckClosed fr 27, ixF_CheckClosed fr 28, ixF_CheckClosed fr 29, ixF_CheckClosed fr 30, ixF_CheckClosed fr 31, ixF_CheckClosed fr 32, ixF_CheckClosed fr 33, ixF_CheckClosed fr 34, ixF_CheckClosed fr 35, ixF_CheckClosed fr 36, ixF_CheckClosed fr 37, ixF_CheckClosed fr 38, ixF_CheckClosed fr 39, ixF_CheckClosed fr 40, ixF_CheckClosed fr 41, ixF_CheckClosed fr 42, ixF_CheckClosed fr 43, ixF_CheckClosed fr 44, ixF_CheckClosed fr 45, ixF_CheckClosed fr 46, ixF_CheckClosed fr 47, ixF_CheckClosed fr 48, ixF_CheckClosed fr 49, ixF_CheckClosed fr 50, ixF_CheckClosed fr 51, ixF_CheckClosed fr 52, ixF_CheckClosed fr 53, ixF_CheckClosed fr 54, ixF_CheckClosed fr 55, ixF_CheckClosed fr 56, ixF_CheckClosed fr 57, ixF_CheckClosed fr 58, ixF_CheckClosed fr 59, ixF_CheckClosed fr 60, ixF_CheckClosed fr 61, ixF_CheckClosed fr 62, ixF_CheckClosed fr 63, ixF_CheckClosed fr 64, ixF_CheckClosed fr 65, ixF_CheckClosed fr 66, ixF_CheckClosed fr 67, ixF_CheckClosed fr 68, ixF_CheckClosed fr 69, ixF_CheckClosed fr 70, ixF_CheckClosed fr 71, ixF_CheckClosed fr 72, ixF_CheckClosed fr 73, ixF_CheckClosed fr 74, ixF_CheckClosed fr 75, ixF_CheckClosed fr 76, ixF_CheckClosed fr 77, ixF_CheckClosed fr 78, ixF_CheckClosed fr 79, ixF_CheckClosed fr 80, ixF_CheckClosed fr 81, ixF_CheckClosed fr 82, ixF_CheckClosed fr 83, ixF_CheckClosed fr 84, ixF_CheckClosed fr 85, ixF_CheckClosed fr 86, ixF_CheckClosed fr 87, ixF_CheckClosed fr 88, ixF_CheckClosed fr 89, ixF_CheckClosed fr 90, ixF_CheckClosed fr 91, ixF_CheckClosed fr 92, ixF_CheckClosed fr 93, ixF_CheckClosed fr 94, ixF_CheckClosed fr 95, ixF_CheckClosed fr 96, ixF_CheckClosed fr 97, ixF_CheckClosed fr 98, ixF_CheckClosed fr 99, ixF_CheckClosed fr 100, ixF_CheckClosed fr 101, ixF_CheckClosed fr 102, ixF_CheckClosed fr 103, ixF_CheckClosed fr 104, ixF_CheckClosed fr 105, ixF_CheckClosed fr 106, ixF_CheckClosed fr 107, ixF_CheckClosed fr 108, ixF_CheckClosed fr 109, ixF_CheckClosed fr 110, ixF_CheckClosed fr 111, ixF_CheckClosed fr 112, ixF_CheckClosed fr 113, ixF_CheckClosed fr 114, ixF_CheckClosed fr 115, ixF_CheckClosed fr 116, ixF_CheckClosed fr 117, ixF_CheckClosed fr 118, ixF_CheckClosed fr 119, ixF_CheckClosed fr 120, ixF_CheckClosed fr 121, ixF_CheckClosed fr 122, ixF_CheckClosed fr 123, ixF_CheckClosed fr 124, ixF_CheckClosed fr 125, ixF_CheckClosed fr 126], []⟩ ∧ Has s0.bs.length S st [.lst (.win k48 0 0 (q.code.length + 1) 1) 1 ((List.replicate (q.code.length + 1) (0 : Int)).map intC), .lst (.win k43 0 0 (q.code.length + 1) 1) 1 (inn.map boolC), .box k2 (.mem 0 false [q.cd, q.sd])] ∧ (i + mm = L.length) ∧ (inn.length = q.code.length + 1) ∧ (∀ (j k : Nat), j < i → L[j]? = some (k : Int) → inn[k]? = some true)) (L.length) ?_ ?_
    · exact ⟨0, List.replicate (q.code.length + 1) false, rfl, (by rw [List.map_replicate, List.map_replicate]; exact hH), by omega, by simp, by intro j k h; omega⟩
    rintro mm fr st ⟨i, inn, hfr, hH, hi, hil, hin⟩
    rw [hfr]
    clear hfr
    try generalize ixF_CheckClosed fr = ee
    clear fr
    try change EvC _ _ _ _ _ _
    try change EvC _ _ _ _ _ _
    repeat refine EvC.seq ?_
    try generalize hK : SeqQ _ _ _ _ = K
    refine EvC.reg ?_
    refine EvO.mv (.inl rfl) rfl (ev rfl) (by dsimp only [Fr.put, List.set_cons_succ, List.set_cons_zero] <;> rfl) ?_
    refine EvO.mv (.inl rfl) rfl (ev rfl) (by dsimp only [Fr.put, List.set_cons_succ, List.set_cons_zero] <;> rfl) ?_
    first | refine EvO.rlen rfl (ev rfl) (Arg.rows (by assumption) hH) rfl (by dsimp only [Fr.put, List.set_cons_succ, List.set_cons_zero] <;> rfl) ?_ | refine EvO.rlen rfl (ev rfl) (hH.rows (by first | exact at0 | exact at1 | exact at2 | exact at3 | exact at4 | exact at5 | exact at6 | exact at7)) rfl (by dsimp only [Fr.put, List.set_cons_succ, List.set_cons_zero] <;> rfl) ?_ | refine EvO.slen rfl rfl rfl (by dsimp only [Fr.put, List.set_cons_succ, List.set_cons_zero] <;> rfl) ?_ | refine EvO.go rfl rfl rfl (by dsimp only [Fr.put, List.set_cons_succ, List.set_cons_zero] <;> rfl) ?_
    try simp only [List.length_map, List.length_append, List.length_cons, List.length_nil, List.length_set, List.length_replicate, List.length_reverse]
    refine EvO.go rfl rfl rfl (by dsimp only [Fr.put, List.set_cons_succ, List.set_cons_zero] <;> rfl) ?_
    refine EvO.nil ?_
    try subst hK
    try change EvC _ _ _ _ _ _
    try change EvC _ _ _ _ _ _
    repeat refine EvC.seq ?_
    refine EvC.cond (by first | rfl | assumption) (fun h2 => ?_) (fun h2 => ?_) <;> try simp only [decide_eq_true_eq, decide_eq_false_iff_not, beq_iff_eq, beq_eq_false_iff_ne, bne_iff_ne, bne_eq_false_iff_eq, ne_eq, Bool.not_eq_true', Bool.not_eq_false', Bool.not_eq_true, Bool.not_eq_false] at h2
    · refine EvC.skip ?_
      try change EvC _ _ _ _ _ _
      obtain ⟨v, hv⟩ : ∃ v, L[i]? = some v := ⟨L[i]'(by omega), List.getElem?_eq_getElem _⟩
      obtain ⟨k, hk, rfl⟩ := hget i v hv
      have hkl := lt_get hk
      have hr1 := int_get hv
      try change EvC _ _ _ _ _ _
      repeat refine EvC.seq ?_
      refine EvC.block ?_
      have hg5 : decide ((k : Int) < 0) = false := by rw [decide_eq_false]; omega
      have hg15 : decide ((k : Int) ≥ (q.code.length : Nat)) = false := by rw [decide_eq_false]; omega
      obtain ⟨b, hb⟩ : ∃ b, inn[k]? = some b := ⟨inn[k]'(by omega), List.getElem?_eq_getElem _⟩
      have hr2 := bool_get hb
      have hnext : ∀ (inn' : List Bool), inn' = inn.set k true → (inn'.length = q.code.length + 1) ∧ ∀ (j k' : Nat), j < i + 1 → L[j]? = some (k' : Int) → inn'[k']? = some true := by
        rintro inn' rfl
        refine ⟨by rw [List.length_set]; exact hil, fun j k' hj hjk => ?_⟩
        by_cases he : k' = k
        · subst he; rw [List.getElem?_set_self (by omega)]
        · rw [List.getElem?_set_ne (fun e => he e.symm)]
          refine hin j k' ?_ hjk
          rcases Nat.lt_or_ge j i with h' | h'
          · exact h'
          · have : j = i := by omega
            subst this
            rw [hv] at hjk
            exact absurd (by have := Option.some.inj hjk; omega) he
      obtain ⟨hn1, hn2⟩ := hnext _ rfl
      have hset : (inn.set k true).map boolC = (inn.map boolC).set k [.bool true] := by rw [List.map_set]; rfl
      rcases i with _ | i
      · have hg18 : decide (((0 : Nat) : Int) > 0) = false := by decide
        try change EvC _ _ _ _ _ _
        repeat refine EvC.seq ?_
        refine EvC.cutL 85 (.bool false) [55, 56, 57, 58, 59, 60, 61, 62, 63, 64, 65, 66, 67, 68, 69, 70, 71, 72, 73, 74, 75, 76, 77, 78, 79, 80, 81, 82, 83, 84] ?_ (fun ff tmp => ?_)
        · refine EvO.mv (.inl rfl) rfl (ev rfl) (by dsimp only [Fr.put, List.set_cons_succ, List.set_cons_zero] <;> rfl) ?_
          refine EvO.mv (.inl rfl) rfl (ev rfl) (by dsimp only [Fr.put, List.set_cons_succ, List.set_cons_zero] <;> rfl) ?_
          first | refine EvO.ridx rfl (ev rfl) (ev rfl) (Arg.rows (by assumption) hH) rfl rfl (by assumption) (fun _ => by dsimp only [Fr.put, List.set_cons_succ, List.set_cons_zero] <;> rfl) (fun p57 hp57 => ?_) | refine EvO.oidx hH rfl (ev rfl) (ev rfl) (by first | exact at0 | exact at1 | exact at2 | exact at3 | exact at4 | exact at5 | exact at6 | exact at7) rfl rfl (by first | exact lt_get (by assumption) | omega | (simp only [List.length_map, List.length_append, List.length_cons, List.length_nil, List.length_set, List.length_replicate] <;> omega)) (fun _ => by dsimp only [Fr.put, List.set_cons_succ, List.set_cons_zero] <;> rfl) (fun p57 hp57 => ?_)
          first | refine EvO.rload rfl (ev rfl) (by assumption) rfl (by dsimp only [Fr.put, List.set_cons_succ, List.set_cons_zero] <;> rfl) ?_ | refine EvO.oload hH rfl (ev rfl) (by assumption) (by first | exact at0 | exact at1 | exact at2 | exact at3 | exact at4 | exact at5 | exact at6 | exact at7) (by assumption) rfl (by dsimp only [Fr.put, List.set_cons_succ, List.set_cons_zero] <;> rfl) ?_ | refine EvO.hload hH rfl (ev rfl) (by first | exact at0 | exact at1 | exact at2 | exact at3 | exact at4 | exact at5 | exact at6 | exact at7) rfl (by dsimp only [Fr.put, List.set_cons_succ, List.set_cons_zero] <;> rfl) ?_
          refine EvO.go rfl rfl rfl (by dsimp only [Fr.put, List.set_cons_succ, List.set_cons_zero] <;> rfl) ?_
          refine EvO.mv (.inl rfl) rfl (ev rfl) (by dsimp only [Fr.put, List.set_cons_succ, List.set_cons_zero] <;> rfl) ?_
          refine EvO.mv (.inl rfl) (wantD_is rfl rfl rfl hg5) (ev rfl) (by dsimp only [Fr.put, List.set_cons_succ, List.set_cons_zero] <;> rfl) ?_
          refine EvO.mv (.inl rfl) (wantD_is rfl rfl rfl hg5) (ev rfl) (by dsimp only [Fr.put, List.set_cons_succ, List.set_cons_zero] <;> rfl) ?_
          first | refine EvO.ridx (wantD_is rfl rfl rfl hg5) (ev rfl) (ev rfl) (Arg.rows (by assumption) hH) rfl rfl (by assumption) (fun _ => by dsimp only [Fr.put, List.set_cons_succ, List.set_cons_zero] <;> rfl) (fun p63 hp63 => ?_) | refine EvO.oidx hH (wantD_is rfl rfl rfl hg5) (ev rfl) (ev rfl) (by first | exact at0 | exact at1 | exact at2 | exact at3 | exact at4 | exact at5 | exact at6 | exact at7) rfl rfl (by first | exact lt_get (by assumption) | omega | (simp only [List.length_map, List.length_append, List.length_cons, List.length_nil, List.length_set, List.length_replicate] <;> omega)) (fun _ => by dsimp only [Fr.put, List.set_cons_succ, List.set_cons_zero] <;> rfl) (fun p63 hp63 => ?_)
          first | refine EvO.rload (wantD_is rfl rfl rfl hg5) (ev rfl) (by assumption) rfl (by dsimp only [Fr.put, List.set_cons_succ, List.set_cons_zero] <;> rfl) ?_ | refine EvO.oload hH (wantD_is rfl rfl rfl hg5) (ev rfl) (by assumption) (by first | exact at0 | exact at1 | exact at2 | exact at3 | exact at4 | exact at5 | exact at6 | exact at7) (by assumption) rfl (by dsimp only [Fr.put, List.set_cons_succ, List.set_cons_zero] <;> rfl) ?_ | refine EvO.hload hH (wantD_is rfl rfl rfl hg5) (ev rfl) (by first | exact at0 | exact at1 | exact at2 | exact at3 | exact at4 | exact at5 | exact at6 | exact at7) rfl (by dsimp only [Fr.put, List.set_cons_succ, List.set_cons_zero] <;> rfl) ?_
          refine EvO.pfield (fo := 0) (m := 0) (o := 0) (wantD_is rfl rfl rfl hg5) (ev rfl) rfl rfl rfl (by dsimp only [Fr.put, List.set_cons_succ, List.set_cons_zero] <;> rfl) ?_
          first | refine EvO.hload hH (wantD_is rfl rfl rfl hg5) (ev rfl) (by first | exact at0 | exact at1 | exact at2 | exact at3 | exact at4 | exact at5 | exact at6 | exact at7) rfl (by dsimp only [Fr.put, List.set_cons_succ, List.set_cons_zero] <;> rfl) ?_ | refine EvO.rload (wantD_is rfl rfl rfl hg5) (ev rfl) (by assumption) rfl (by dsimp only [Fr.put, List.set_cons_succ, List.set_cons_zero] <;> rfl) ?_ | refine EvO.oload hH (wantD_is rfl rfl rfl hg5) (ev rfl) (by assumption) (by first | exact at0 | exact at1 | exact at2 | exact at3 | exact at4 | exact at5 | exact at6 | exact at7) (by assumption) rfl (by dsimp only [Fr.put, List.set_cons_succ, List.set_cons_zero] <;> rfl) ?_
          first | refine EvO.rlen (wantD_is rfl rfl rfl hg5) (ev rfl) (Arg.rows (by assumption) hH) rfl (by dsimp only [Fr.put, List.set_cons_succ, List.set_cons_zero] <;> rfl) ?_ | refine EvO.rlen (wantD_is rfl rfl rfl hg5) (ev rfl) (hH.rows (by first | exact at0 | exact at1 | exact at2 | exact at3 | exact at4 | exact at5 | exact at6 | exact at7)) rfl (by dsimp only [Fr.put, List.set_cons_succ, List.set_cons_zero] <;> rfl) ?_ | refine EvO.slen (wantD_is rfl rfl rfl hg5) rfl rfl (by dsimp only [Fr.put, List.set_cons_succ, List.set_cons_zero] <;> rfl) ?_ | refine EvO.go (wantD_is rfl rfl rfl hg5) rfl rfl (by dsimp only [Fr.put, List.set_cons_succ, List.set_cons_zero] <;> rfl) ?_
          try simp only [List.length_map, List.length_append, List.length_cons, List.length_nil, List.length_set, List.length_replicate, List.length_reverse]
          refine EvO.go (wantD_is rfl rfl rfl hg5) rfl rfl (by dsimp only [Fr.put, List.set_cons_succ, List.set_cons_zero] <;> rfl) ?_
          refine EvO.pickF rfl rfl hg5 (by dsimp only [Fr.put, List.set_cons_succ, List.set_cons_zero] <;> rfl) ?_
          refine EvO.mv (.inl rfl) rfl (ev rfl) (by dsimp only [Fr.put, List.set_cons_succ, List.set_cons_zero] <;> rfl) ?_
          refine EvO.mv (.inl rfl) (wantD_is rfl rfl rfl hg15) (ev rfl) (by dsimp only [Fr.put, List.set_cons_succ, List.set_cons_zero] <;> rfl) ?_
          refine EvO.go (wantD_is rfl rfl rfl hg15) rfl rfl (by dsimp only [Fr.put, List.set_cons_succ, List.set_cons_zero] <;> rfl) ?_
          refine EvO.mv (.inl rfl) (wantD_is rfl rfl rfl hg15) (ev rfl) (by dsimp only [Fr.put, List.set_cons_succ, List.set_cons_zero] <;> rfl) ?_
          refine EvO.skip (wantD_not rfl rfl rfl hg18) (by dsimp only [Fr.put, List.set_cons_succ, List.set_cons_zero] <;> rfl) ?_
          refine EvO.skip (wantD_not rfl rfl rfl hg18) (by dsimp only [Fr.put, List.set_cons_succ, List.set_cons_zero] <;> rfl) ?_
          refine EvO.skip (wantD_not rfl rfl rfl hg18) (by dsimp only [Fr.put, List.set_cons_succ, List.set_cons_zero] <;> rfl) ?_
          refine EvO.skip (wantD_not rfl rfl rfl hg18) (by dsimp only [Fr.put, List.set_cons_succ, List.set_cons_zero] <;> rfl) ?_
          refine EvO.skip (wantD_not rfl rfl rfl hg18) (by dsimp only [Fr.put, List.set_cons_succ, List.set_cons_zero] <;> rfl) ?_
          refine EvO.skip (wantD_not rfl rfl rfl hg18) (by dsimp only [Fr.put, List.set_cons_succ, List.set_cons_zero] <;> rfl) ?_
          refine EvO.skip (wantD_not rfl rfl rfl hg18) (by dsimp only [Fr.put, List.set_cons_succ, List.set_cons_zero] <;> rfl) ?_
          refine EvO.skip (wantD_not rfl rfl rfl hg18) (by dsimp only [Fr.put, List.set_cons_succ, List.set_cons_zero] <;> rfl) ?_
          refine EvO.skip (wantD_not rfl rfl rfl hg18) (by dsimp only [Fr.put, List.set_cons_succ, List.set_cons_zero] <;> rfl) ?_
          refine EvO.skip (wantD_not rfl rfl rfl hg18) (by dsimp only [Fr.put, List.set_cons_succ, List.set_cons_zero] <;> rfl) ?_
          refine EvO.pickF (wantD_is rfl rfl rfl hg15) rfl hg18 (by dsimp only [Fr.put, List.set_cons_succ, List.set_cons_zero] <;> rfl) ?_
          refine EvO.pickF rfl rfl hg15 (by dsimp only [Fr.put, List.set_cons_succ, List.set_cons_zero] <;> rfl) ?_
          refine EvO.nil (leafL ?_)
          try dsimp only [setW, List.foldl_cons, List.foldl_nil, nth, List.set_cons_zero, List.set_cons_succ]
          try dsimp only [Fr.putO, Fr.put, Fr.clean, Fr.ev, Fr.get, nth, Go.V.look, List.set_cons_succ, List.set_cons_zero, ofVal_int, ofVal_bool, ofVal_str, ofVal_nul, ofVal_pnil, ofVal_nilfn, ofVal_nilif, List.length, List.cons_append, List.nil_append, List.append_nil, Nat.reduceSub, Nat.reduceAdd, List.map, List.map_cons, List.map_nil]
          all_goals (first | rfl | (simp [hg5, hg15, hg18]; done) | (simp_all; done))
        try dsimp only [setW, List.foldl_cons, List.foldl_nil, nth, List.set_cons_zero, List.set_cons_succ]
        generalize ff 55 = e55
        generalize ff 56 = e56
        generalize ff 57 = e57
        generalize ff 58 = e58
        generalize ff 59 = e59
        generalize ff 60 = e60
        generalize ff 61 = e61
        generalize ff 62 = e62
        generalize ff 63 = e63
        generalize ff 64 = e64
        generalize ff 65 = e65
        generalize ff 66 = e66
        generalize ff 67 = e67
        generalize ff 68 = e68
        generalize ff 69 = e69
        generalize ff 70 = e70
        generalize ff 71 = e71
        generalize ff 72 = e72
        generalize ff 73 = e73
        generalize ff 74 = e74
        generalize ff 75 = e75
        generalize ff 76 = e76
        generalize ff 77 = e77
        generalize ff 78 = e78
        generalize ff 79 = e79
        generalize ff 80 = e80
        generalize ff 81 = e81
        generalize ff 82 = e82
        generalize ff 83 = e83
        generalize ff 84 = e84
        try dsimp only [Fr.putO, Fr.put, Fr.clean, Fr.ev, Fr.get, nth, Go.V.look, List.set_cons_succ, List.set_cons_zero, ofVal_int, ofVal_bool, ofVal_str, ofVal_nul, ofVal_pnil, ofVal_nilfn, ofVal_nilif, List.length, List.cons_append, List.nil_append, List.append_nil, Nat.reduceSub, Nat.reduceAdd, List.map, List.map_cons, List.map_nil]
        try change EvC _ _ _ _ _ _
        try change EvC _ _ _ _ _ _
        repeat refine EvC.seq ?_
        refine EvC.cond (v := false) (by first | rfl | assumption) (fun h => by cases h) (fun _ => ?_)
        try change EvC _ _ _ _ _ _
        refine EvC.skip ?_
        try change EvC _ _ _ _ _ _
        try change EvC _ _ _ _ _ _
        repeat refine EvC.seq ?_
        try generalize hK : SeqQ _ _ _ _ = K
        refine EvC.reg ?_
        refine EvO.mv (.inl rfl) rfl (ev rfl) (by dsimp only [Fr.put, List.set_cons_succ, List.set_cons_zero] <;> rfl) ?_
        refine EvO.mv (.inl rfl) rfl (ev rfl) (by dsimp only [Fr.put, List.set_cons_succ, List.set_cons_zero] <;> rfl) ?_
        refine EvO.mv (.inl rfl) rfl (ev rfl) (by dsimp only [Fr.put, List.set_cons_succ, List.set_cons_zero] <;> rfl) ?_
        first | refine EvO.ridx rfl (ev rfl) (ev rfl) (Arg.rows (by assumption) hH) rfl rfl (by assumption) (fun _ => by dsimp only [Fr.put, List.set_cons_succ, List.set_cons_zero] <;> rfl) (fun p89 hp89 => ?_) | refine EvO.oidx hH rfl (ev rfl) (ev rfl) (by first | exact at0 | exact at1 | exact at2 | exact at3 | exact at4 | exact at5 | exact at6 | exact at7) rfl rfl (by first | exact lt_get (by assumption) | omega | (simp only [List.length_map, List.length_append, List.length_cons, List.length_nil, List.length_set, List.length_replicate] <;> omega)) (fun _ => by dsimp only [Fr.put, List.set_cons_succ, List.set_cons_zero] <;> rfl) (fun p89 hp89 => ?_)
        first | refine EvO.rload rfl (ev rfl) (by assumption) rfl (by dsimp only [Fr.put, List.set_cons_succ, List.set_cons_zero] <;> rfl) ?_ | refine EvO.oload hH rfl (ev rfl) (by assumption) (by first | exact at0 | exact at1 | exact at2 | exact at3 | exact at4 | exact at5 | exact at6 | exact at7) (by assumption) rfl (by dsimp only [Fr.put, List.set_cons_succ, List.set_cons_zero] <;> rfl) ?_ | refine EvO.hload hH rfl (ev rfl) (by first | exact at0 | exact at1 | exact at2 | exact at3 | exact at4 | exact at5 | exact at6 | exact at7) rfl (by dsimp only [Fr.put, List.set_cons_succ, List.set_cons_zero] <;> rfl) ?_
        first | refine EvO.ridx rfl (ev rfl) (ev rfl) (Arg.rows (by assumption) hH) rfl rfl (by assumption) (fun _ => by dsimp only [Fr.put, List.set_cons_succ, List.set_cons_zero] <;> rfl) (fun p91 hp91 => ?_) | refine EvO.oidx hH rfl (ev rfl) (ev rfl) (by first | exact at0 | exact at1 | exact at2 | exact at3 | exact at4 | exact at5 | exact at6 | exact at7) rfl rfl (by first | exact lt_get (by assumption) | omega | (simp only [List.length_map, List.length_append, List.length_cons, List.length_nil, List.length_set, List.length_replicate] <;> omega)) (fun _ => by dsimp only [Fr.put, List.set_cons_succ, List.set_cons_zero] <;> rfl) (fun p91 hp91 => ?_)
        refine EvO.ostore hH rfl (ev rfl) (ev rfl) (by assumption) rfl rfl (by first | exact at0 | exact at1 | exact at2 | exact at3 | exact at4 | exact at5 | exact at6 | exact at7) (by assumption) (Nat.le_of_ble_eq_true rfl) (by first | exact .inl hF | exact .inr rfl) (fun st hH => ?_)
        try dsimp only [List.set_cons_zero, List.set_cons_succ, List.cons_append, List.nil_append, setMany, List.map_cons, List.map_nil, D.cells, Nat.reduceAdd, List.nil_append, Pg.cs, insC, intC, boolC] at hH
        refine EvO.nil ?_
        try subst hK
        try change EvC _ _ _ _ _ _
        try change EvC _ _ _ _ _ _
        repeat refine EvC.seq ?_
        try generalize hK : SeqQ _ _ _ _ = K
        refine EvC.reg ?_
        refine EvO.mv (.inl rfl) rfl (ev rfl) (by dsimp only [Fr.put, List.set_cons_succ, List.set_cons_zero] <;> rfl) ?_
        first | refine EvO.addN rfl (ev rfl) (ev rfl) (by omega) (by dsimp only [Fr.put, List.set_cons_succ, List.set_cons_zero] <;> rfl) ?_ | refine EvO.addS64 rfl (ev rfl) (ev rfl) (by omega) (by omega) (by dsimp only [Fr.put, List.set_cons_succ, List.set_cons_zero] <;> rfl) ?_ | refine EvO.addS32 rfl (ev rfl) (ev rfl) (by omega) (by omega) (by dsimp only [Fr.put, List.set_cons_succ, List.set_cons_zero] <;> rfl) ?_ | refine EvO.go rfl rfl rfl (by dsimp only [Fr.put, List.set_cons_succ, List.set_cons_zero] <;> rfl) ?_
        refine EvO.mv (.inr rfl) rfl (ev rfl) (by dsimp only [Fr.put, List.set_cons_succ, List.set_cons_zero] <;> rfl) ?_
        refine EvO.nil ?_
        try subst hK
        try change EvC _ _ _ _ _ _
        exact ⟨mm - 1, by omega, ⟨1, inn.set k true, rfl, (by rw [hset]; exact hH), by omega, hn1, hn2⟩⟩
      · have hg18 : decide (((i + 1 : Nat) : Int) > 0) = true := by rw [decide_eq_true]; omega
        obtain ⟨v0, hv0⟩ : ∃ v, L[i]? = some v := ⟨L[i]'(by omega), List.getElem?_eq_getElem _⟩
        have hr3 := int_get hv0
        have hlt : v0 < (k : Int) := by
          have h9 := List.pairwise_iff_getElem.1 hrise i (i + 1) (by omega) (by omega) (by omega)
          rw [List.getElem?_eq_getElem (by omega)] at hv hv0
          rw [Option.some.inj hv, Option.some.inj hv0] at h9
          exact h9
        have hle : decide ((k : Int) ≤ v0) = false := by rw [decide_eq_false]; omega
        try change EvC _ _ _ _ _ _
        repeat refine EvC.seq ?_
        refine EvC.cutL 85 (.bool (decide ((k : Int) ≤ v0))) [55, 56, 57, 58, 59, 60, 61, 62, 63, 64, 65, 66, 67, 68, 69, 70, 71, 72, 73, 74, 75, 76, 77, 78, 79, 80, 81, 82, 83, 84] ?_ (fun ff tmp => ?_)
        · refine EvO.mv (.inl rfl) rfl (ev rfl) (by dsimp only [Fr.put, List.set_cons_succ, List.set_cons_zero] <;> rfl) ?_
          refine EvO.mv (.inl rfl) rfl (ev rfl) (by dsimp only [Fr.put, List.set_cons_succ, List.set_cons_zero] <;> rfl) ?_
          first | refine EvO.ridx rfl (ev rfl) (ev rfl) (Arg.rows (by assumption) hH) rfl rfl (by assumption) (fun _ => by dsimp only [Fr.put, List.set_cons_succ, List.set_cons_zero] <;> rfl) (fun p57 hp57 => ?_) | refine EvO.oidx hH rfl (ev rfl) (ev rfl) (by first | exact at0 | exact at1 | exact at2 | exact at3 | exact at4 | exact at5 | exact at6 | exact at7) rfl rfl (by first | exact lt_get (by assumption) | omega | (simp only [List.length_map, List.length_append, List.length_cons, List.length_nil, List.length_set, List.length_replicate] <;> omega)) (fun _ => by dsimp only [Fr.put, List.set_cons_succ, List.set_cons_zero] <;> rfl) (fun p57 hp57 => ?_)
          first | refine EvO.rload rfl (ev rfl) (by assumption) rfl (by dsimp only [Fr.put, List.set_cons_succ, List.set_cons_zero] <;> rfl) ?_ | refine EvO.oload hH rfl (ev rfl) (by assumption) (by first | exact at0 | exact at1 | exact at2 | exact at3 | exact at4 | exact at5 | exact at6 | exact at7) (by assumption) rfl (by dsimp only [Fr.put, List.set_cons_succ, List.set_cons_zero] <;> rfl) ?_ | refine EvO.hload hH rfl (ev rfl) (by first | exact at0 | exact at1 | exact at2 | exact at3 | exact at4 | exact at5 | exact at6 | exact at7) rfl (by dsimp only [Fr.put, List.set_cons_succ, List.set_cons_zero] <;> rfl) ?_
          refine EvO.go rfl rfl rfl (by dsimp only [Fr.put, List.set_cons_succ, List.set_cons_zero] <;> rfl) ?_
          refine EvO.mv (.inl rfl) rfl (ev rfl) (by dsimp only [Fr.put, List.set_cons_succ, List.set_cons_zero] <;> rfl) ?_
          refine EvO.mv (.inl rfl) (wantD_is rfl rfl rfl hg5) (ev rfl) (by dsimp only [Fr.put, List.set_cons_succ, List.set_cons_zero] <;> rfl) ?_
          refine EvO.mv (.inl rfl) (wantD_is rfl rfl rfl hg5) (ev rfl) (by dsimp only [Fr.put, List.set_cons_succ, List.set_cons_zero] <;> rfl) ?_
          first | refine EvO.ridx (wantD_is rfl rfl rfl hg5) (ev rfl) (ev rfl) (Arg.rows (by assumption) hH) rfl rfl (by assumption) (fun _ => by dsimp only [Fr.put, List.set_cons_succ, List.set_cons_zero] <;> rfl) (fun p63 hp63 => ?_) | refine EvO.oidx hH (wantD_is rfl rfl rfl hg5) (ev rfl) (ev rfl) (by first | exact at0 | exact at1 | exact at2 | exact at3 | exact at4 | exact at5 | exact at6 | exact at7) rfl rfl (by first | exact lt_get (by assumption) | omega | (simp only [List.length_map, List.length_append, List.length_cons, List.length_nil, List.length_set, List.length_replicate] <;> omega)) (fun _ => by dsimp only [Fr.put, List.set_cons_succ, List.set_cons_zero] <;> rfl) (fun p63 hp63 => ?_)
          first | refine EvO.rload (wantD_is rfl rfl rfl hg5) (ev rfl) (by assumption) rfl (by dsimp only [Fr.put, List.set_cons_succ, List.set_cons_zero] <;> rfl) ?_ | refine EvO.oload hH (wantD_is rfl rfl rfl hg5) (ev rfl) (by assumption) (by first | exact at0 | exact at1 | exact at2 | exact at3 | exact at4 | exact at5 | exact at6 | exact at7) (by assumption) rfl (by dsimp only [Fr.put, List.set_cons_succ, List.set_cons_zero] <;> rfl) ?_ | refine EvO.hload hH (wantD_is rfl rfl rfl hg5) (ev rfl) (by first | exact at0 | exact at1 | exact at2 | exact at3 | exact at4 | exact at5 | exact at6 | exact at7) rfl (by dsimp only [Fr.put, List.set_cons_succ, List.set_cons_zero] <;> rfl) ?_
          refine EvO.pfield (fo := 0) (m := 0) (o := 0) (wantD_is rfl rfl rfl hg5) (ev rfl) rfl rfl rfl (by dsimp only [Fr.put, List.set_cons_succ, List.set_cons_zero] <;> rfl) ?_
          first | refine EvO.hload hH (wantD_is rfl rfl rfl hg5) (ev rfl) (by first | exact at0 | exact at1 | exact at2 | exact at3 | exact at4 | exact at5 | exact at6 | exact at7) rfl (by dsimp only [Fr.put, List.set_cons_succ, List.set_cons_zero] <;> rfl) ?_ | refine EvO.rload (wantD_is rfl rfl rfl hg5) (ev rfl) (by assumption) rfl (by dsimp only [Fr.put, List.set_cons_succ, List.set_cons_zero] <;> rfl) ?_ | refine EvO.oload hH (wantD_is rfl rfl rfl hg5) (ev rfl) (by assumption) (by first | exact at0 | exact at1 | exact at2 | exact at3 | exact at4 | exact at5 | exact at6 | exact at7) (by assumption) rfl (by dsimp only [Fr.put, List.set_cons_succ, List.set_cons_zero] <;> rfl) ?_
          first | refine EvO.rlen (wantD_is rfl rfl rfl hg5) (ev rfl) (Arg.rows (by assumption) hH) rfl (by dsimp only [Fr.put, List.set_cons_succ, List.set_cons_zero] <;> rfl) ?_ | refine EvO.rlen (wantD_is rfl rfl rfl hg5) (ev rfl) (hH.rows (by first | exact at0 | exact at1 | exact at2 | exact at3 | exact at4 | exact at5 | exact at6 | exact at7)) rfl (by dsimp only [Fr.put, List.set_cons_succ, List.set_cons_zero] <;> rfl) ?_ | refine EvO.slen (wantD_is rfl rfl rfl hg5) rfl rfl (by dsimp only [Fr.put, List.set_cons_succ, List.set_cons_zero] <;> rfl) ?_ | refine EvO.go (wantD_is rfl rfl rfl hg5) rfl rfl (by dsimp only [Fr.put, List.set_cons_succ, List.set_cons_zero] <;> rfl) ?_
          try simp only [List.length_map, List.length_append, List.length_cons, List.length_nil, List.length_set, List.length_replicate, List.length_reverse]
          refine EvO.go (wantD_is rfl rfl rfl hg5) rfl rfl (by dsimp only [Fr.put, List.set_cons_succ, List.set_cons_zero] <;> rfl) ?_
          refine EvO.pickF rfl rfl hg5 (by dsimp only [Fr.put, List.set_cons_succ, List.set_cons_zero] <;> rfl) ?_
          refine EvO.mv (.inl rfl) rfl (ev rfl) (by dsimp only [Fr.put, List.set_cons_succ, List.set_cons_zero] <;> rfl) ?_
          refine EvO.mv (.inl rfl) (wantD_is rfl rfl rfl hg15) (ev rfl) (by dsimp only [Fr.put, List.set_cons_succ, List.set_cons_zero] <;> rfl) ?_
          refine EvO.go (wantD_is rfl rfl rfl hg15) rfl rfl (by dsimp only [Fr.put, List.set_cons_succ, List.set_cons_zero] <;> rfl) ?_
          refine EvO.mv (.inl rfl) (wantD_is rfl rfl rfl hg15) (ev rfl) (by dsimp only [Fr.put, List.set_cons_succ, List.set_cons_zero] <;> rfl) ?_
          refine EvO.mv (.inl rfl) (wantD_is rfl rfl rfl hg18) (ev rfl) (by dsimp only [Fr.put, List.set_cons_succ, List.set_cons_zero] <;> rfl) ?_
          refine EvO.mv (.inl rfl) (wantD_is rfl rfl rfl hg18) (ev rfl) (by dsimp only [Fr.put, List.set_cons_succ, List.set_cons_zero] <;> rfl) ?_
          first | refine EvO.ridx (wantD_is rfl rfl rfl hg18) (ev rfl) (ev rfl) (Arg.rows (by assumption) hH) rfl rfl (by assumption) (fun _ => by dsimp only [Fr.put, List.set_cons_succ, List.set_cons_zero] <;> rfl) (fun p76 hp76 => ?_) | refine EvO.oidx hH (wantD_is rfl rfl rfl hg18) (ev rfl) (ev rfl) (by first | exact at0 | exact at1 | exact at2 | exact at3 | exact at4 | exact at5 | exact at6 | exact at7) rfl rfl (by first | exact lt_get (by assumption) | omega | (simp only [List.length_map, List.length_append, List.length_cons, List.length_nil, List.length_set, List.length_replicate] <;> omega)) (fun _ => by dsimp only [Fr.put, List.set_cons_succ, List.set_cons_zero] <;> rfl) (fun p76 hp76 => ?_)
          first | refine EvO.rload (wantD_is rfl rfl rfl hg18) (ev rfl) (by assumption) rfl (by dsimp only [Fr.put, List.set_cons_succ, List.set_cons_zero] <;> rfl) ?_ | refine EvO.oload hH (wantD_is rfl rfl rfl hg18) (ev rfl) (by assumption) (by first | exact at0 | exact at1 | exact at2 | exact at3 | exact at4 | exact at5 | exact at6 | exact at7) (by assumption) rfl (by dsimp only [Fr.put, List.set_cons_succ, List.set_cons_zero] <;> rfl) ?_ | refine EvO.hload hH (wantD_is rfl rfl rfl hg18) (ev rfl) (by first | exact at0 | exact at1 | exact at2 | exact at3 | exact at4 | exact at5 | exact at6 | exact at7) rfl (by dsimp only [Fr.put, List.set_cons_succ, List.set_cons_zero] <;> rfl) ?_
          refine EvO.mv (.inl rfl) (wantD_is rfl rfl rfl hg18) (ev rfl) (by dsimp only [Fr.put, List.set_cons_succ, List.set_cons_zero] <;> rfl) ?_
          refine EvO.mv (.inl rfl) (wantD_is rfl rfl rfl hg18) (ev rfl) (by dsimp only [Fr.put, List.set_cons_succ, List.set_cons_zero] <;> rfl) ?_
          refine EvO.subZ (z := ((i : Nat) : Int)) (wantD_is rfl rfl rfl hg18) (ev rfl) (ev rfl) (by (try simp only [List.length_reverse, List.length_cons, List.length_nil, List.length_append, List.length_map, List.length_set]); first | (rw [wrap_i64 (by omega) (by omega)]; omega) | (rw [wrap_i32 (by omega) (by omega)]; omega)) (by dsimp only [Fr.put, List.set_cons_succ, List.set_cons_zero] <;> rfl) ?_
          first | refine EvO.ridx (wantD_is rfl rfl rfl hg18) (ev rfl) (ev rfl) (Arg.rows (by assumption) hH) rfl rfl (by assumption) (fun _ => by dsimp only [Fr.put, List.set_cons_succ, List.set_cons_zero] <;> rfl) (fun p81 hp81 => ?_) | refine EvO.oidx hH (wantD_is rfl rfl rfl hg18) (ev rfl) (ev rfl) (by first | exact at0 | exact at1 | exact at2 | exact at3 | exact at4 | exact at5 | exact at6 | exact at7) rfl rfl (by first | exact lt_get (by assumption) | omega | (simp only [List.length_map, List.length_append, List.length_cons, List.length_nil, List.length_set, List.length_replicate] <;> omega)) (fun _ => by dsimp only [Fr.put, List.set_cons_succ, List.set_cons_zero] <;> rfl) (fun p81 hp81 => ?_)
          first | refine EvO.rload (wantD_is rfl rfl rfl hg18) (ev rfl) (by assumption) rfl (by dsimp only [Fr.put, List.set_cons_succ, List.set_cons_zero] <;> rfl) ?_ | refine EvO.oload hH (wantD_is rfl rfl rfl hg18) (ev rfl) (by assumption) (by first | exact at0 | exact at1 | exact at2 | exact at3 | exact at4 | exact at5 | exact at6 | exact at7) (by assumption) rfl (by dsimp only [Fr.put, List.set_cons_succ, List.set_cons_zero] <;> rfl) ?_ | refine EvO.hload hH (wantD_is rfl rfl rfl hg18) (ev rfl) (by first | exact at0 | exact at1 | exact at2 | exact at3 | exact at4 | exact at5 | exact at6 | exact at7) rfl (by dsimp only [Fr.put, List.set_cons_succ, List.set_cons_zero] <;> rfl) ?_
          refine EvO.go (wantD_is rfl rfl rfl hg18) rfl rfl (by dsimp only [Fr.put, List.set_cons_succ, List.set_cons_zero] <;> rfl) ?_
          refine EvO.pickT (wantD_is rfl rfl rfl hg15) rfl hg18 (by dsimp only [Fr.put, List.set_cons_succ, List.set_cons_zero] <;> rfl) ?_
          refine EvO.pickF rfl rfl hg15 (by dsimp only [Fr.put, List.set_cons_succ, List.set_cons_zero] <;> rfl) ?_
          refine EvO.nil (leafL ?_)
          try dsimp only [setW, List.foldl_cons, List.foldl_nil, nth, List.set_cons_zero, List.set_cons_succ]
          try dsimp only [Fr.putO, Fr.put, Fr.clean, Fr.ev, Fr.get, nth, Go.V.look, List.set_cons_succ, List.set_cons_zero, ofVal_int, ofVal_bool, ofVal_str, ofVal_nul, ofVal_pnil, ofVal_nilfn, ofVal_nilif, List.length, List.cons_append, List.nil_append, List.append_nil, Nat.reduceSub, Nat.reduceAdd, List.map, List.map_cons, List.map_nil]
          all_goals (first | rfl | (simp [hg5, hg15, hg18]; done) | (simp_all; done))
        try dsimp only [setW, List.foldl_cons, List.foldl_nil, nth, List.set_cons_zero, List.set_cons_succ]
        generalize ff 55 = e55
        generalize ff 56 = e56
        generalize ff 57 = e57
        generalize ff 58 = e58
        generalize ff 59 = e59
        generalize ff 60 = e60
        generalize ff 61 = e61
        generalize ff 62 = e62
        generalize ff 63 = e63
        generalize ff 64 = e64
        generalize ff 65 = e65
        generalize ff 66 = e66
        generalize ff 67 = e67
        generalize ff 68 = e68
        generalize ff 69 = e69
        generalize ff 70 = e70
        generalize ff 71 = e71
        generalize ff 72 = e72
        generalize ff 73 = e73
        generalize ff 74 = e74
        generalize ff 75 = e75
        generalize ff 76 = e76
        generalize ff 77 = e77
        generalize ff 78 = e78
        generalize ff 79 = e79
        generalize ff 80 = e80
        generalize ff 81 = e81
        generalize ff 82 = e82
        generalize ff 83 = e83
        generalize ff 84 = e84
        try dsimp only [Fr.putO, Fr.put, Fr.clean, Fr.ev, Fr.get, nth, Go.V.look, List.set_cons_succ, List.set_cons_zero, ofVal_int, ofVal_bool, ofVal_str, ofVal_nul, ofVal_pnil, ofVal_nilfn, ofVal_nilif, List.length, List.cons_append, List.nil_append, List.append_nil, Nat.reduceSub, Nat.reduceAdd, List.map, List.map_cons, List.map_nil]
        try change EvC _ _ _ _ _ _
        try change EvC _ _ _ _ _ _
        repeat refine EvC.seq ?_
        refine EvC.cond (v := false) (by first | assumption | (dsimp only [Fr.ev, Fr.get, nth, Go.V.look]; rw [hle])) (fun h => by cases h) (fun _ => ?_)
        try change EvC _ _ _ _ _ _
        refine EvC.skip ?_
        try change EvC _ _ _ _ _ _
        try change EvC _ _ _ _ _ _
        repeat refine EvC.seq ?_
        try generalize hK : SeqQ _ _ _ _ = K
        refine EvC.reg ?_
        refine EvO.mv (.inl rfl) rfl (ev rfl) (by dsimp only [Fr.put, List.set_cons_succ, List.set_cons_zero] <;> rfl) ?_
        refine EvO.mv (.inl rfl) rfl (ev rfl) (by dsimp only [Fr.put, List.set_cons_succ, List.set_cons_zero] <;> rfl) ?_
        refine EvO.mv (.inl rfl) rfl (ev rfl) (by dsimp only [Fr.put, List.set_cons_succ, List.set_cons_zero] <;> rfl) ?_
        first | refine EvO.ridx rfl (ev rfl) (ev rfl) (Arg.rows (by assumption) hH) rfl rfl (by assumption) (fun _ => by dsimp only [Fr.put, List.set_cons_succ, List.set_cons_zero] <;> rfl) (fun p89 hp89 => ?_) | refine EvO.oidx hH rfl (ev rfl) (ev rfl) (by first | exact at0 | exact at1 | exact at2 | exact at3 | exact at4 | exact at5 | exact at6 | exact at7) rfl rfl (by first | exact lt_get (by assumption) | omega | (simp only [List.length_map, List.length_append, List.length_cons, List.length_nil, List.length_set, List.length_replicate] <;> omega)) (fun _ => by dsimp only [Fr.put, List.set_cons_succ, List.set_cons_zero] <;> rfl) (fun p89 hp89 => ?_)
        first | refine EvO.rload rfl (ev rfl) (by assumption) rfl (by dsimp only [Fr.put, List.set_cons_succ, List.set_cons_zero] <;> rfl) ?_ | refine EvO.oload hH rfl (ev rfl) (by assumption) (by first | exact at0 | exact at1 | exact at2 | exact at3 | exact at4 | exact at5 | exact at6 | exact at7) (by assumption) rfl (by dsimp only [Fr.put, List.set_cons_succ, List.set_cons_zero] <;> rfl) ?_ | refine EvO.hload hH rfl (ev rfl) (by first | exact at0 | exact at1 | exact at2 | exact at3 | exact at4 | exact at5 | exact at6 | exact at7) rfl (by dsimp only [Fr.put, List.set_cons_succ, List.set_cons_zero] <;> rfl) ?_
        first | refine EvO.ridx rfl (ev rfl) (ev rfl) (Arg.rows (by assumption) hH) rfl rfl (by assumption) (fun _ => by dsimp only [Fr.put, List.set_cons_succ, List.set_cons_zero] <;> rfl) (fun p91 hp91 => ?_) | refine EvO.oidx hH rfl (ev rfl) (ev rfl) (by first | exact at0 | exact at1 | exact at2 | exact at3 | exact at4 | exact at5 | exact at6 | exact at7) rfl rfl (by first | exact lt_get (by assumption) | omega | (simp only [List.length_map, List.length_append, List.length_cons, List.length_nil, List.length_set, List.length_replicate] <;> omega)) (fun _ => by dsimp only [Fr.put, List.set_cons_succ, List.set_cons_zero] <;> rfl) (fun p91 hp91 => ?_)
        refine EvO.ostore hH rfl (ev rfl) (ev rfl) (by assumption) rfl rfl (by first | exact at0 | exact at1 | exact at2 | exact at3 | exact at4 | exact at5 | exact at6 | exact at7) (by assumption) (Nat.le_of_ble_eq_true rfl) (by first | exact .inl hF | exact .inr rfl) (fun st hH => ?_)
        try dsimp only [List.set_cons_zero, List.set_cons_succ, List.cons_append, List.nil_append, setMany, List.map_cons, List.map_nil, D.cells, Nat.reduceAdd, List.nil_append, Pg.cs, insC, intC, boolC] at hH
        refine EvO.nil ?_
        try subst hK
        try change EvC _ _ _ _ _ _
        try change EvC _ _ _ _ _ _
        repeat refine EvC.seq ?_
        try generalize hK : SeqQ _ _ _ _ = K
        refine EvC.reg ?_
        refine EvO.mv (.inl rfl) rfl (ev rfl) (by dsimp only [Fr.put, List.set_cons_succ, List.set_cons_zero] <;> rfl) ?_
        first | refine EvO.addN rfl (ev rfl) (ev rfl) (by omega) (by dsimp only [Fr.put, List.set_cons_succ, List.set_cons_zero] <;> rfl) ?_ | refine EvO.addS64 rfl (ev rfl) (ev rfl) (by omega) (by omega) (by dsimp only [Fr.put, List.set_cons_succ, List.set_cons_zero] <;> rfl) ?_ | refine EvO.addS32 rfl (ev rfl) (ev rfl) (by omega) (by omega) (by dsimp only [Fr.put, List.set_cons_succ, List.set_cons_zero] <;> rfl) ?_ | refine EvO.go rfl rfl rfl (by dsimp only [Fr.put, List.set_cons_succ, List.set_cons_zero] <;> rfl) ?_
        refine EvO.mv (.inr rfl) rfl (ev rfl) (by dsimp only [Fr.put, List.set_cons_succ, List.set_cons_zero] <;> rfl) ?_
        refine EvO.nil ?_
        try subst hK
        try change EvC _ _ _ _ _ _
        exact ⟨mm - 1, by omega, ⟨i + 1 + 1, inn.set k true, rfl, (by rw [hset]; exact hH), by omega, hn1, hn2⟩⟩
    · try change EvC _ _ _ _ _ _
      refine EvC.exit ?_
      try change EvC _ _ _ _ _ _
      have hin : ∀ k, R[k]? = some true → inn[k]? = some true := fun k hk => by
        obtain ⟨j, hj⟩ := hhas k hk
        exact hin j k (by have := lt_get hj; omega) hj
      have hsd : R[sn]? = some true := seen_nat.2 (hok.d.resolve_right (by simp))
      have hr1 := bool_get (hin sn hsd)
      try change EvC _ _ _ _ _ _
      repeat refine EvC.seq ?_
      try generalize hK : SeqQ _ _ _ _ = K
      refine EvC.reg ?_
      refine EvO.mv (.inl rfl) rfl (ev rfl) (by dsimp only [Fr.put, List.set_cons_succ, List.set_cons_zero] <;> rfl) ?_
      refine EvO.pfield (fo := 1) (m := 0) (o := 1) rfl (ev rfl) rfl rfl rfl (by dsimp only [Fr.put, List.set_cons_succ, List.set_cons_zero] <;> rfl) ?_
      first | refine EvO.hload hH rfl (ev rfl) (by first | exact at0 | exact at1 | exact at2 | exact at3 | exact at4 | exact at5 | exact at6 | exact at7) rfl (by dsimp only [Fr.put, List.set_cons_succ, List.set_cons_zero] <;> rfl) ?_ | refine EvO.rload rfl (ev rfl) (by assumption) rfl (by dsimp only [Fr.put, List.set_cons_succ, List.set_cons_zero] <;> rfl) ?_ | refine EvO.oload hH rfl (ev rfl) (by assumption) (by first | exact at0 | exact at1 | exact at2 | exact at3 | exact at4 | exact at5 | exact at6 | exact at7) (by assumption) rfl (by dsimp only [Fr.put, List.set_cons_succ, List.set_cons_zero] <;> rfl) ?_
      refine EvO.mv (.inl rfl) rfl (ev rfl) (by dsimp only [Fr.put, List.set_cons_succ, List.set_cons_zero] <;> rfl) ?_
      first | refine EvO.ridx rfl (ev rfl) (ev rfl) (Arg.rows (by assumption) hH) rfl rfl (by assumption) (fun _ => by dsimp only [Fr.put, List.set_cons_succ, List.set_cons_zero] <;> rfl) (fun p96 hp96 => ?_) | refine EvO.oidx hH rfl (ev rfl) (ev rfl) (by first | exact at0 | exact at1 | exact at2 | exact at3 | exact at4 | exact at5 | exact at6 | exact at7) rfl rfl (by first | exact lt_get (by assumption) | omega | (simp only [List.length_map, List.length_append, List.length_cons, List.length_nil, List.length_set, List.length_replicate] <;> omega)) (fun _ => by dsimp only [Fr.put, List.set_cons_succ, List.set_cons_zero] <;> rfl) (fun p96 hp96 => ?_)
      first | refine EvO.rload rfl (ev rfl) (by assumption) rfl (by dsimp only [Fr.put, List.set_cons_succ, List.set_cons_zero] <;> rfl) ?_ | refine EvO.oload hH rfl (ev rfl) (by assumption) (by first | exact at0 | exact at1 | exact at2 | exact at3 | exact at4 | exact at5 | exact at6 | exact at7) (by assumption) rfl (by dsimp only [Fr.put, List.set_cons_succ, List.set_cons_zero] <;> rfl) ?_ | refine EvO.hload hH rfl (ev rfl) (by first | exact at0 | exact at1 | exact at2 | exact at3 | exact at4 | exact at5 | exact at6 | exact at7) rfl (by dsimp only [Fr.put, List.set_cons_succ, List.set_cons_zero] <;> rfl) ?_
      first | refine EvO.ridx rfl (ev rfl) (ev rfl) (Arg.rows (by assumption) hH) rfl rfl (by assumption) (fun _ => by dsimp only [Fr.put, List.set_cons_succ, List.set_cons_zero] <;> rfl) (fun p98 hp98 => ?_) | refine EvO.oidx hH rfl (ev rfl) (ev rfl) (by first | exact at0 | exact at1 | exact at2 | exact at3 | exact at4 | exact at5 | exact at6 | exact at7) rfl rfl (by first | exact lt_get (by assumption) | omega | (simp only [List.length_map, List.length_append, List.length_cons, List.length_nil, List.length_set, List.length_replicate] <;> omega)) (fun _ => by dsimp only [Fr.put, List.set_cons_succ, List.set_cons_zero] <;> rfl) (fun p98 hp98 => ?_)
      first | refine EvO.rload rfl (ev rfl) (by assumption) rfl (by dsimp only [Fr.put, List.set_cons_succ, List.set_cons_zero] <;> rfl) ?_ | refine EvO.oload hH rfl (ev rfl) (by assumption) (by first | exact at0 | exact at1 | exact at2 | exact at3 | exact at4 | exact at5 | exact at6 | exact at7) (by assumption) rfl (by dsimp only [Fr.put, List.set_cons_succ, List.set_cons_zero] <;> rfl) ?_ | refine EvO.hload hH rfl (ev rfl) (by first | exact at0 | exact at1 | exact at2 | exact at3 | exact at4 | exact at5 | exact at6 | exact at7) rfl (by dsimp only [Fr.put, List.set_cons_succ, List.set_cons_zero] <;> rfl) ?_
      refine EvO.go rfl rfl rfl (by dsimp only [Fr.put, List.set_cons_succ, List.set_cons_zero] <;> rfl) ?_
      refine EvO.nil ?_
      try subst hK
      try change EvC _ _ _ _ _ _
      try change EvC _ _ _ _ _ _
      repeat refine EvC.seq ?_
      refine EvC.cond (v := false) (by first | rfl | assumption) (fun h => by cases h) (fun _ => ?_)
      try change EvC _ _ _ _ _ _
      refine EvC.skip ?_
      try change EvC _ _ _ _ _ _
      have hr2 : ((List.replicate (q.code.length + 1) (0 : Int)).map intC)[sn]? = some (intC 0) := int_get (by rw [List.getElem?_replicate, if_pos (by omega)])
      try change EvC _ _ _ _ _ _
      repeat refine EvC.seq ?_
      try generalize hK : SeqQ _ _ _ _ = K
      refine EvC.reg ?_
      refine EvO.mv (.inl rfl) rfl (ev rfl) (by dsimp only [Fr.put, List.set_cons_succ, List.set_cons_zero] <;> rfl) ?_
      refine EvO.pfield (fo := 1) (m := 0) (o := 1) rfl (ev rfl) rfl rfl rfl (by dsimp only [Fr.put, List.set_cons_succ, List.set_cons_zero] <;> rfl) ?_
      first | refine EvO.hload hH rfl (ev rfl) (by first | exact at0 | exact at1 | exact at2 | exact at3 | exact at4 | exact at5 | exact at6 | exact at7) rfl (by dsimp only [Fr.put, List.set_cons_succ, List.set_cons_zero] <;> rfl) ?_ | refine EvO.rload rfl (ev rfl) (by assumption) rfl (by dsimp only [Fr.put, List.set_cons_succ, List.set_cons_zero] <;> rfl) ?_ | refine EvO.oload hH rfl (ev rfl) (by assumption) (by first | exact at0 | exact at1 | exact at2 | exact at3 | exact at4 | exact at5 | exact at6 | exact at7) (by assumption) rfl (by dsimp only [Fr.put, List.set_cons_succ, List.set_cons_zero] <;> rfl) ?_
      refine EvO.mv (.inl rfl) rfl (ev rfl) (by dsimp only [Fr.put, List.set_cons_succ, List.set_cons_zero] <;> rfl) ?_
      first | refine EvO.ridx rfl (ev rfl) (ev rfl) (Arg.rows (by assumption) hH) rfl rfl (by assumption) (fun _ => by dsimp only [Fr.put, List.set_cons_succ, List.set_cons_zero] <;> rfl) (fun p105 hp105 => ?_) | refine EvO.oidx hH rfl (ev rfl) (ev rfl) (by first | exact at0 | exact at1 | exact at2 | exact at3 | exact at4 | exact at5 | exact at6 | exact at7) rfl rfl (by first | exact lt_get (by assumption) | omega | (simp only [List.length_map, List.length_append, List.length_cons, List.length_nil, List.length_set, List.length_replicate] <;> omega)) (fun _ => by dsimp only [Fr.put, List.set_cons_succ, List.set_cons_zero] <;> rfl) (fun p105 hp105 => ?_)
      first | refine EvO.rload rfl (ev rfl) (by assumption) rfl (by dsimp only [Fr.put, List.set_cons_succ, List.set_cons_zero] <;> rfl) ?_ | refine EvO.oload hH rfl (ev rfl) (by assumption) (by first | exact at0 | exact at1 | exact at2 | exact at3 | exact at4 | exact at5 | exact at6 | exact at7) (by assumption) rfl (by dsimp only [Fr.put, List.set_cons_succ, List.set_cons_zero] <;> rfl) ?_ | refine EvO.hload hH rfl (ev rfl) (by first | exact at0 | exact at1 | exact at2 | exact at3 | exact at4 | exact at5 | exact at6 | exact at7) rfl (by dsimp only [Fr.put, List.set_cons_succ, List.set_cons_zero] <;> rfl) ?_
      first | refine EvO.ridx rfl (ev rfl) (ev rfl) (Arg.rows (by assumption) hH) rfl rfl (by assumption) (fun _ => by dsimp only [Fr.put, List.set_cons_succ, List.set_cons_zero] <;> rfl) (fun p107 hp107 => ?_) | refine EvO.oidx hH rfl (ev rfl) (ev rfl) (by first | exact at0 | exact at1 | exact at2 | exact at3 | exact at4 | exact at5 | exact at6 | exact at7) rfl rfl (by first | exact lt_get (by assumption) | omega | (simp only [List.length_map, List.length_append, List.length_cons, List.length_nil, List.length_set, List.length_replicate] <;> omega)) (fun _ => by dsimp only [Fr.put, List.set_cons_succ, List.set_cons_zero] <;> rfl) (fun p107 hp107 => ?_)
      first | refine EvO.rload rfl (ev rfl) (by assumption) rfl (by dsimp only [Fr.put, List.set_cons_succ, List.set_cons_zero] <;> rfl) ?_ | refine EvO.oload hH rfl (ev rfl) (by assumption) (by first | exact at0 | exact at1 | exact at2 | exact at3 | exact at4 | exact at5 | exact at6 | exact at7) (by assumption) rfl (by dsimp only [Fr.put, List.set_cons_succ, List.set_cons_zero] <;> rfl) ?_ | refine EvO.hload hH rfl (ev rfl) (by first | exact at0 | exact at1 | exact at2 | exact at3 | exact at4 | exact at5 | exact at6 | exact at7) rfl (by dsimp only [Fr.put, List.set_cons_succ, List.set_cons_zero] <;> rfl) ?_
      first | refine EvO.addN rfl (ev rfl) (ev rfl) (by omega) (by dsimp only [Fr.put, List.set_cons_succ, List.set_cons_zero] <;> rfl) ?_ | refine EvO.addS64 rfl (ev rfl) (ev rfl) (by omega) (by omega) (by dsimp only [Fr.put, List.set_cons_succ, List.set_cons_zero] <;> rfl) ?_ | refine EvO.addS32 rfl (ev rfl) (ev rfl) (by omega) (by omega) (by dsimp only [Fr.put, List.set_cons_succ, List.set_cons_zero] <;> rfl) ?_ | refine EvO.go rfl rfl rfl (by dsimp only [Fr.put, List.set_cons_succ, List.set_cons_zero] <;> rfl) ?_
      first | refine EvO.ridx rfl (ev rfl) (ev rfl) (Arg.rows (by assumption) hH) rfl rfl (by assumption) (fun _ => by dsimp only [Fr.put, List.set_cons_succ, List.set_cons_zero] <;> rfl) (fun p110 hp110 => ?_) | refine EvO.oidx hH rfl (ev rfl) (ev rfl) (by first | exact at0 | exact at1 | exact at2 | exact at3 | exact at4 | exact at5 | exact at6 | exact at7) rfl rfl (by first | exact lt_get (by assumption) | omega | (simp only [List.length_map, List.length_append, List.length_cons, List.length_nil, List.length_set, List.length_replicate] <;> omega)) (fun _ => by dsimp only [Fr.put, List.set_cons_succ, List.set_cons_zero] <;> rfl) (fun p110 hp110 => ?_)
      refine EvO.ostore hH rfl (ev rfl) (ev rfl) (by assumption) rfl rfl (by first | exact at0 | exact at1 | exact at2 | exact at3 | exact at4 | exact at5 | exact at6 | exact at7) (by assumption) (Nat.le_of_ble_eq_true rfl) (by first | exact .inl hF | exact .inr rfl) (fun st hH => ?_)
      try dsimp only [List.set_cons_zero, List.set_cons_succ, List.cons_append, List.nil_append, setMany, List.map_cons, List.map_nil, D.cells, Nat.reduceAdd, List.nil_append, Pg.cs, insC, intC, boolC] at hH
      refine EvO.nil ?_
      try subst hK
      try change EvC _ _ _ _ _ _
      have hset : ((List.replicate (q.code.length + 1) (0 : Int)).set sn 1).map intC = ((List.replicate (q.code.length + 1) (0 : Int)).map intC).set sn [.int .i64 1] := by rw [List.map_set]; rfl
      have hf0 : ∀ (w : Nat) (v : Int), ((List.replicate (q.code.length + 1) (0 : Int)).set sn 1)[w]? = some v → v = if w = sn then 1 else 0 := by
        intro w v h
        by_cases he : w = sn
        · subst he; rw [List.getElem?_set_self (by simp; omega)] at h; rw [if_pos rfl]; exact (Option.some.inj h).symm
        · rw [List.getElem?_set_ne (fun e => he e.symm), List.getElem?_replicate] at h
          rw [if_neg he]
          split at h
          · exact (Option.some.inj h).symm
          · cases h
      try change EvC _ _ _ _ _ _
      repeat refine EvC.seq ?_
      try generalize hK : SeqQ _ _ _ _ = K
      refine EvC.reg ?_
      refine EvO.mv (.inr rfl) rfl (ev rfl) (by dsimp only [Fr.put, List.set_cons_succ, List.set_cons_zero] <;> rfl) ?_
      refine EvO.nil ?_
      try subst hK
      try change EvC _ _ _ _ _ _
      try change EvC _ _ _ _ _ _
      repeat refine EvC.seq ?_
      refine EvC.block ?_
      refine EvC.loop (fun mm fr st => ∃ (i : Nat) (frm : List Int), fr.clean = ⟨127, [ixF_CheckClosed fr 0, .int .i64 (ru : Nat), .ptr k2 0 0, ixF_CheckClosed fr 3, ixF_CheckClosed fr 4, intsV L, .win k43 0 0 (q.code.length + 1) 1, .win k48 0 0 (q.code.length + 1) 1, ixF_CheckClosed fr 8, .int .i64 (i : Nat), ixF_CheckClosed fr 10, ixF_CheckClosed fr 11, ixF_CheckClosed fr 12, ixF_CheckClosed fr 13, ixF_CheckClosed fr 14, ixF_CheckClosed fr 15, ixF_CheckClosed fr 16, ixF_CheckClosed fr 17, ixF_CheckClosed fr 18, ixF_CheckClosed fr 19, ixF_CheckClosed fr 20, ixF_CheckClosed fr 21, ixF_CheckClosed fr 22, ixF_CheckClosed fr 23, ixF_CheckClosed fr 24, ixF_CheckClosed fr 25, ixF_CheckClosed fr 26, ixF_CheckClosed fr 27, ixF_CheckClosed fr 28, ixF_CheckClosed fr 29, ixF_CheckClosed fr 30, ixF_CheckClosed fr 31, ixF_CheckClosed fr 32, ixF_CheckClosed fr 33, ixF_CheckClosed fr 34, ixF_CheckClosed fr 35, ixF_CheckClosed fr 36, ixF_CheckClosed fr 37, ixF_CheckClosed fr 38, ixF_CheckClosed fr 39, ixF_CheckClosed fr 40, ixF_CheckClosed fr 41, ixF_CheckClosed fr 42, ixF_CheckClosed fr 43, ixF_CheckClosed fr 44, ixF_CheckClosed fr 45, ixF_CheckClosed fr 46, ixF_CheckClosed fr 47, ixF_CheckClosed fr 48, ixF_CheckClosed fr 49, ixF_CheckClosed fr 50, ixF_CheckClosed fr 51, ixF_CheckClosed fr 52, ixF_CheckClosed fr 53, ixF_CheckClosed fr 54, ixF_CheckClosed fr 55, ixF_CheckClosed fr 56, ixF_CheckClosed fr 57, ixF_CheckClosed fr 58, ixF_CheckClosed fr 59, ixF_CheckClosed fr 60, ixF_CheckClosed fr 61, ixF_CheckClosed fr 62, ixF_CheckClosed fr 63, ixF_CheckClosed fr 64, ixF_CheckClosed fr 65, ixF_CheckClosed fr 66, ixF_CheckClosed fr 67, ixF_CheckClosed fr 68, ixF_CheckClosed fr 69, ixF_CheckClosed fr 70, ixF_CheckClosed fr 71, ixF_CheckClosed fr 72, ixF_CheckClosed fr 73, ixF_CheckClosed fr 74, ixF_CheckClosed fr 75, ixF_CheckClosed fr 76, ixF_CheckClosed fr 77, ixF_CheckClosed fr 78, ixF_CheckClosed fr 79, ixF_CheckClosed fr 80, ixF_CheckClosed fr 81, ixF_CheckClosed fr 82, ixF_CheckClosed fr 83, ixF_CheckClosed fr 84, ixF_CheckClosed fr 85, ixF_CheckClosed fr 86, ixF_CheckClosed fr 87, ixF_CheckClosed fr 88, ixF_CheckClosed fr 89, ixF_CheckClosed fr 90, ixF_CheckClosed fr 91, ixF_CheckClosed fr 92, ixF_CheckClosed fr 93, ixF_CheckClosed fr 94, ixF_CheckClosed fr 95, ixF_CheckClosed fr 96, ixF_CheckClosed fr 97, ixF_CheckClosed fr 98, ixF_CheckClosed fr 99, ixF_CheckClosed fr 100, ixF_CheckClosed fr 101, ixF_CheckClosed fr 102, ixF_CheckClosed fr 103, ixF_CheckClosed fr 104, ixF_CheckClosed fr 105, ixF_CheckClosed fr 106, ixF_CheckClosed fr 107, ixF_CheckClosed fr 108, ixF_CheckClosed fr 109, ixF_CheckClosed fr 110, ixF_CheckClosed fr 111, ixF_CheckClosed fr 112, ixF_CheckClosed fr 113, ixF_CheckClosed fr 114, ixF_CheckClosed fr 115, ixF_CheckClosed fr 116, ixF_CheckClosed fr 117, ixF_CheckClosed fr 118, ixF_CheckClosed fr 119, ixF_CheckClosed fr 120, ixF_CheckClosed fr 121, ixF_CheckClosed fr 122, ixF_CheckClosed fr 123, ixF_CheckClosed fr 124, ixF_CheckClosed fr 125, ixF_CheckClosed fr 126], []⟩ ∧ Has s0.bs.length S st [.lst (.win k48 0 0 (q.code.length + 1) 1) 1 (frm.map intC), .lst (.win k43 0 0 (q.code.length + 1) 1) 1 (inn.map boolC), .box k2 (.mem 0 false [q.cd, q.sd])] ∧ (i + mm = L.length) ∧ (frm.length = q.code.length + 1) ∧ (∀ (w : Nat) (v : Int), frm[w]? = some v → 0 ≤ v ∧ v ≤ 2 * i + 1) ∧ (∀ w, hit q.code (sn : Int) L i w → ∃ v, frm[w]? = some v ∧ 0 < v)) (L.length) ?_ ?_
      · refine ⟨0, (List.replicate (q.code.length + 1) (0 : Int)).set sn 1, rfl, (by rw [hset]; exact hH), by omega, by simp, by intro w v h; have := hf0 w v h; split at this <;> omega, ?_⟩
        rintro w (h | ⟨j, u, x, h, _⟩)
        · have : w = sn := by omega
          subst this
          exact ⟨1, by rw [List.getElem?_set_self (by simp; omega)], by omega⟩
        · omega
      rintro mm fr st ⟨i, frm, hfr, hH, hi, hfl, hfb, hfp⟩
      rw [hfr]
      clear hfr
      try generalize ixF_CheckClosed fr = ee
      clear fr
      try change EvC _ _ _ _ _ _
      try change EvC _ _ _ _ _ _
      repeat refine EvC.seq ?_
      try generalize hK : SeqQ _ _ _ _ = K
      refine EvC.reg ?_
      refine EvO.mv (.inl rfl) rfl (ev rfl) (by dsimp only [Fr.put, List.set_cons_succ, List.set_cons_zero] <;> rfl) ?_
      refine EvO.mv (.inl rfl) rfl (ev rfl) (by dsimp only [Fr.put, List.set_cons_succ, List.set_cons_zero] <;> rfl) ?_
      first | refine EvO.rlen rfl (ev rfl) (Arg.rows (by assumption) hH) rfl (by dsimp only [Fr.put, List.set_cons_succ, List.set_cons_zero] <;> rfl) ?_ | refine EvO.rlen rfl (ev rfl) (hH.rows (by first | exact at0 | exact at1 | exact at2 | exact at3 | exact at4 | exact at5 | exact at6 | exact at7)) rfl (by dsimp only [Fr.put, List.set_cons_succ, List.set_cons_zero] <;> rfl) ?_ | refine EvO.slen rfl rfl rfl (by dsimp only [Fr.put, List.set_cons_succ, List.set_cons_zero] <;> rfl) ?_ | refine EvO.go rfl rfl rfl (by dsimp only [Fr.put, List.set_cons_succ, List.set_cons_zero] <;> rfl) ?_
      try simp only [List.length_map, List.length_append, List.length_cons, List.length_nil, List.length_set, List.length_replicate, List.length_reverse]
      refine EvO.go rfl rfl rfl (by dsimp only [Fr.put, List.set_cons_succ, List.set_cons_zero] <;> rfl) ?_
      refine EvO.nil ?_
      try subst hK
      try change EvC _ _ _ _ _ _
      try change EvC _ _ _ _ _ _
      repeat refine EvC.seq ?_
      refine EvC.cond (by first | rfl | assumption) (fun h3 => ?_) (fun h3 => ?_) <;> try simp only [decide_eq_true_eq, decide_eq_false_iff_not, beq_iff_eq, beq_eq_false_iff_ne, bne_iff_ne, bne_eq_false_iff_eq, ne_eq, Bool.not_eq_true', Bool.not_eq_false', Bool.not_eq_true, Bool.not_eq_false] at h3
      · refine EvC.skip ?_
        try change EvC _ _ _ _ _ _
        obtain ⟨v, hv⟩ : ∃ v, L[i]? = some v := ⟨L[i]'(by omega), List.getElem?_eq_getElem _⟩
        obtain ⟨u, hu, rfl⟩ := hget i v hv
        have hul := lt_get hu
        have hr1 := int_get hv
        obtain ⟨x, hx⟩ : ∃ x, q.code[u]? = some x := ⟨q.code[u]'(by omega), List.getElem?_eq_getElem _⟩
        have hr2 := ins_get hx
        try change EvC _ _ _ _ _ _
        repeat refine EvC.seq ?_
        refine EvC.block ?_
        try change EvC _ _ _ _ _ _
        repeat refine EvC.seq ?_
        try generalize hK : SeqQ _ _ _ _ = K
        refine EvC.reg ?_
        refine EvO.pfield (fo := 0) (m := 0) (o := 0) rfl (ev rfl) rfl rfl rfl (by dsimp only [Fr.put, List.set_cons_succ, List.set_cons_zero] <;> rfl) ?_
        first | refine EvO.hload hH rfl (ev rfl) (by first | exact at0 | exact at1 | exact at2 | exact at3 | exact at4 | exact at5 | exact at6 | exact at7) rfl (by dsimp only [Fr.put, List.set_cons_succ, List.set_cons_zero] <;> rfl) ?_ | refine EvO.rload rfl (ev rfl) (by assumption) rfl (by dsimp only [Fr.put, List.set_cons_succ, List.set_cons_zero] <;> rfl) ?_ | refine EvO.oload hH rfl (ev rfl) (by assumption) (by first | exact at0 | exact at1 | exact at2 | exact at3 | exact at4 | exact at5 | exact at6 | exact at7) (by assumption) rfl (by dsimp only [Fr.put, List.set_cons_succ, List.set_cons_zero] <;> rfl) ?_
        refine EvO.mv (.inl rfl) rfl (ev rfl) (by dsimp only [Fr.put, List.set_cons_succ, List.set_cons_zero] <;> rfl) ?_
        refine EvO.mv (.inl rfl) rfl (ev rfl) (by dsimp only [Fr.put, List.set_cons_succ, List.set_cons_zero] <;> rfl) ?_
        first | refine EvO.ridx rfl (ev rfl) (ev rfl) (Arg.rows (by assumption) hH) rfl rfl (by assumption) (fun _ => by dsimp only [Fr.put, List.set_cons_succ, List.set_cons_zero] <;> rfl) (fun p121 hp121 => ?_) | refine EvO.oidx hH rfl (ev rfl) (ev rfl) (by first | exact at0 | exact at1 | exact at2 | exact at3 | exact at4 | exact at5 | exact at6 | exact at7) rfl rfl (by first | exact lt_get (by assumption) | omega | (simp only [List.length_map, List.length_append, List.length_cons, List.length_nil, List.length_set, List.length_replicate] <;> omega)) (fun _ => by dsimp only [Fr.put, List.set_cons_succ, List.set_cons_zero] <;> rfl) (fun p121 hp121 => ?_)
        first | refine EvO.rload rfl (ev rfl) (by assumption) rfl (by dsimp only [Fr.put, List.set_cons_succ, List.set_cons_zero] <;> rfl) ?_ | refine EvO.oload hH rfl (ev rfl) (by assumption) (by first | exact at0 | exact at1 | exact at2 | exact at3 | exact at4 | exact at5 | exact at6 | exact at7) (by assumption) rfl (by dsimp only [Fr.put, List.set_cons_succ, List.set_cons_zero] <;> rfl) ?_ | refine EvO.hload hH rfl (ev rfl) (by first | exact at0 | exact at1 | exact at2 | exact at3 | exact at4 | exact at5 | exact at6 | exact at7) rfl (by dsimp only [Fr.put, List.set_cons_succ, List.set_cons_zero] <;> rfl) ?_
        first | refine EvO.ridx rfl (ev rfl) (ev rfl) (Arg.rows (by assumption) hH) rfl rfl (by assumption) (fun _ => by dsimp only [Fr.put, List.set_cons_succ, List.set_cons_zero] <;> rfl) (fun p123 hp123 => ?_) | refine EvO.oidx hH rfl (ev rfl) (ev rfl) (by first | exact at0 | exact at1 | exact at2 | exact at3 | exact at4 | exact at5 | exact at6 | exact at7) rfl rfl (by first | exact lt_get (by assumption) | omega | (simp only [List.length_map, List.length_append, List.length_cons, List.length_nil, List.length_set, List.length_replicate] <;> omega)) (fun _ => by dsimp only [Fr.put, List.set_cons_succ, List.set_cons_zero] <;> rfl) (fun p123 hp123 => ?_)
        first | refine EvO.rloadS rfl (ev rfl) (by assumption) rfl (by dsimp only [Fr.put, List.set_cons_succ, List.set_cons_zero] <;> rfl) ?_ | refine EvO.oloadS hH rfl (ev rfl) (by assumption) (by first | exact at0 | exact at1 | exact at2 | exact at3 | exact at4 | exact at5 | exact at6 | exact at7) (by assumption) rfl (by dsimp only [Fr.put, List.set_cons_succ, List.set_cons_zero] <;> rfl) ?_ | refine EvO.hloadS (m := 4) hH rfl (ev rfl) (by first | exact at0 | exact at1 | exact at2 | exact at3 | exact at4 | exact at5 | exact at6 | exact at7) (by dsimp only [List.drop_succ_cons, List.drop_zero, List.take_succ_cons, List.take_zero, Pg.cs, insC, intC, boolC] <;> rfl) rfl rfl (by dsimp only [Fr.put, List.set_cons_succ, List.set_cons_zero] <;> rfl) ?_
        refine EvO.halloc hH rfl rfl (fun _ => by dsimp only [Fr.put, List.set_cons_succ, List.set_cons_zero] <;> rfl) (fun k10 st hk10 hH => ?_)
        try dsimp only [List.set_cons_zero, List.set_cons_succ, List.cons_append, List.nil_append, setMany, List.map_cons, List.map_nil, D.cells, Nat.reduceAdd, List.nil_append, Pg.cs, insC, intC, boolC] at hH
        refine EvO.hstoreA hH rfl (ev rfl) (ev rfl) (by first | rfl | exact (SlD.cells (by assumption)).1 | exact hH.ocells (by first | exact at0 | exact at1 | exact at2 | exact at3 | exact at4 | exact at5 | exact at6 | exact at7) | exact hH.dcells (by first | exact at0 | exact at1 | exact at2 | exact at3 | exact at4 | exact at5 | exact at6 | exact at7)) (by exact rfl) (by first | exact at0 | exact at1 | exact at2 | exact at3 | exact at4 | exact at5 | exact at6 | exact at7) (by exact rfl) (by first | exact .inl hF | exact .inr rfl) (fun st hH => ?_)
        try dsimp only [List.set_cons_zero, List.set_cons_succ, List.cons_append, List.nil_append, setMany, List.map_cons, List.map_nil, D.cells, Nat.reduceAdd, List.nil_append, Pg.cs, insC, intC, boolC] at hH
        refine EvO.nil ?_
        try subst hK
        try change EvC _ _ _ _ _ _
        try change EvC _ _ _ _ _ _
        repeat refine EvC.seq ?_
        try generalize hK : SeqQ _ _ _ _ = K
        refine EvC.reg ?_
        refine EvO.mv (.inr rfl) rfl (ev rfl) (by dsimp only [Fr.put, List.set_cons_succ, List.set_cons_zero] <;> rfl) ?_
        refine EvO.nil ?_
        try subst hK
        try change EvC _ _ _ _ _ _
        try change EvC _ _ _ _ _ _
        repeat refine EvC.seq ?_
        try generalize hK : SeqQ _ _ _ _ = K
        refine EvC.reg ?_
        refine EvO.pfield (fo := 0) (m := 0) (o := 0) rfl (ev rfl) rfl rfl rfl (by dsimp only [Fr.put, List.set_cons_succ, List.set_cons_zero] <;> rfl) ?_
        first | refine EvO.hload hH rfl (ev rfl) (by first | exact at0 | exact at1 | exact at2 | exact at3 | exact at4 | exact at5 | exact at6 | exact at7) rfl (by dsimp only [Fr.put, List.set_cons_succ, List.set_cons_zero] <;> rfl) ?_ | refine EvO.rload rfl (ev rfl) (by assumption) rfl (by dsimp only [Fr.put, List.set_cons_succ, List.set_cons_zero] <;> rfl) ?_ | refine EvO.oload hH rfl (ev rfl) (by assumption) (by first | exact at0 | exact at1 | exact at2 | exact at3 | exact at4 | exact at5 | exact at6 | exact at7) (by assumption) rfl (by dsimp only [Fr.put, List.set_cons_succ, List.set_cons_zero] <;> rfl) ?_
        refine EvO.nil ?_
        try subst hK
        try change EvC _ _ _ _ _ _
        try change EvC _ _ _ _ _ _
        repeat refine EvC.seq ?_
        refine EvC.merge (fun fr st => ∃ (z : D) (tmp : List (Nat × D)), fr = ⟨127, [ixF_CheckClosed fr 0, .int .i64 (ru : Nat), .ptr k2 0 0, ixF_CheckClosed fr 3, ixF_CheckClosed fr 4, intsV L, .win k43 0 0 (q.code.length + 1) 1, .win k48 0 0 (q.code.length + 1) 1, ixF_CheckClosed fr 8, .int .i64 (i : Nat), ixF_CheckClosed fr 10, z, ixF_CheckClosed fr 12, ixF_CheckClosed fr 13, ixF_CheckClosed fr 14, ixF_CheckClosed fr 15, ixF_CheckClosed fr 16, ixF_CheckClosed fr 17, ixF_CheckClosed fr 18, ixF_CheckClosed fr 19, ixF_CheckClosed fr 20, ixF_CheckClosed fr 21, ixF_CheckClosed fr 22, ixF_CheckClosed fr 23, ixF_CheckClosed fr 24, ixF_CheckClosed fr 25, ixF_CheckClosed fr 26, ixF_CheckClosed fr 27, ixF_CheckClosed fr 28, ixF_CheckClosed fr 29, ixF_CheckClosed fr 30, ixF_CheckClosed fr 31, ixF_CheckClosed fr 32, ixF_CheckClosed fr 33, ixF_CheckClosed fr 34, ixF_CheckClosed fr 35, ixF_CheckClosed fr 36, ixF_CheckClosed fr 37, ixF_CheckClosed fr 38, ixF_CheckClosed fr 39, ixF_CheckClosed fr 40, ixF_CheckClosed fr 41, ixF_CheckClosed fr 42, ixF_CheckClosed fr 43, ixF_CheckClosed fr 44, ixF_CheckClosed fr 45, ixF_CheckClosed fr 46, ixF_CheckClosed fr 47, ixF_CheckClosed fr 48, ixF_CheckClosed fr 49, ixF_CheckClosed fr 50, ixF_CheckClosed fr 51, ixF_CheckClosed fr 52, ixF_CheckClosed fr 53, ixF_CheckClosed fr 54, ixF_CheckClosed fr 55, ixF_CheckClosed fr 56, ixF_CheckClosed fr 57, ixF_CheckClosed fr 58, ixF_CheckClosed fr 59, ixF_CheckClosed fr 60, ixF_CheckClosed fr 61, ixF_CheckClosed fr 62, ixF_CheckClosed fr 63, ixF_CheckClosed fr 64, ixF_CheckClosed fr 65, ixF_CheckClosed fr 66, ixF_CheckClosed fr 67, ixF_CheckClosed fr 68, ixF_CheckClosed fr 69, ixF_CheckClosed fr 70, ixF_CheckClosed fr 71, ixF_CheckClosed fr 72, ixF_CheckClosed fr 73, ixF_CheckClosed fr 74, ixF_CheckClosed fr 75, ixF_CheckClosed fr 76, ixF_CheckClosed fr 77, ixF_CheckClosed fr 78, ixF_CheckClosed fr 79, ixF_CheckClosed fr 80, ixF_CheckClosed fr 81, ixF_CheckClosed fr 82, ixF_CheckClosed fr 83, ixF_CheckClosed fr 84, ixF_CheckClosed fr 85, ixF_CheckClosed fr 86, ixF_CheckClosed fr 87, ixF_CheckClosed fr 88, ixF_CheckClosed fr 89, ixF_CheckClosed fr 90, ixF_CheckClosed fr 91, ixF_CheckClosed fr 92, ixF_CheckClosed fr 93, ixF_CheckClosed fr 94, ixF_CheckClosed fr 95, ixF_CheckClosed fr 96, ixF_CheckClosed fr 97, ixF_CheckClosed fr 98, ixF_CheckClosed fr 99, ixF_CheckClosed fr 100, ixF_CheckClosed fr 101, ixF_CheckClosed fr 102, ixF_CheckClosed fr 103, ixF_CheckClosed fr 104, ixF_CheckClosed fr 105, ixF_CheckClosed fr 106, ixF_CheckClosed fr 107, ixF_CheckClosed fr 108, ixF_CheckClosed fr 109, ixF_CheckClosed fr 110, ixF_CheckClosed fr 111, ixF_CheckClosed fr 112, ixF_CheckClosed fr 113, ixF_CheckClosed fr 114, ixF_CheckClosed fr 115, ixF_CheckClosed fr 116, ixF_CheckClosed fr 117, ixF_CheckClosed fr 118, ixF_CheckClosed fr 119, ixF_CheckClosed fr 120, ixF_CheckClosed fr 121, ixF_CheckClosed fr 122, ixF_CheckClosed fr 123, ixF_CheckClosed fr 124, ixF_CheckClosed fr 125, ixF_CheckClosed fr 126], tmp⟩ ∧ Has s0.bs.length S st [.lst z 1 ((nextS u x).map intC), .lst (.win k48 0 0 (q.code.length + 1) 1) 1 (frm.map intC), .lst (.win k43 0 0 (q.code.length + 1) 1) 1 (inn.map boolC), .box k2 (.mem 0 false [q.cd, q.sd])]) ?_ ?_
        · try change EvC _ _ _ _ _ _
          repeat refine EvC.seq ?_
          refine EvC.block ?_
          try change EvC _ _ _ _ _ _
          repeat refine EvC.seq ?_
          try generalize hK : SeqQ _ _ _ _ = K
          refine EvC.reg ?_
          refine EvO.go rfl rfl rfl (put_T rfl _) ?_
          refine EvO.mv (.inr rfl) rfl (ev rfl) (put_T rfl _) ?_
          refine EvO.nil ?_
          try subst hK
          try change EvC _ _ _ _ _ _
          try change EvC _ _ _ _ _ _
          repeat refine EvC.seq ?_
          refine EvC.cond (by first | rfl | assumption) (fun h4 => ?_) (fun h4 => ?_) <;> try simp only [decide_eq_true_eq, decide_eq_false_iff_not, beq_iff_eq, beq_eq_false_iff_ne, bne_iff_ne, bne_eq_false_iff_eq, ne_eq, Bool.not_eq_true', Bool.not_eq_false', Bool.not_eq_true, Bool.not_eq_false] at h4
          · have : nextS u x = [x.x, x.y] := by unfold nextS; rw [if_pos h4]
            rw [this]
            try change EvC _ _ _ _ _ _
            repeat refine EvC.seq ?_
            try generalize hK : SeqQ _ _ _ _ = K
            refine EvC.reg ?_
            refine EvO.pfield (fo := 1) (m := 0) (o := 1) rfl (ev rfl) rfl rfl rfl (put_T rfl _) ?_
            first | refine EvO.hload hH rfl (ev rfl) (by first | exact at0 | exact at1 | exact at2 | exact at3 | exact at4 | exact at5 | exact at6 | exact at7) rfl (put_T rfl _) ?_ | refine EvO.rload rfl (ev rfl) (by assumption) rfl (put_T rfl _) ?_ | refine EvO.oload hH rfl (ev rfl) (by assumption) (by first | exact at0 | exact at1 | exact at2 | exact at3 | exact at4 | exact at5 | exact at6 | exact at7) (by assumption) rfl (put_T rfl _) ?_
            refine EvO.pfield (fo := 2) (m := 0) (o := 2) rfl (ev rfl) rfl rfl rfl (put_T rfl _) ?_
            first | refine EvO.hload hH rfl (ev rfl) (by first | exact at0 | exact at1 | exact at2 | exact at3 | exact at4 | exact at5 | exact at6 | exact at7) rfl (put_T rfl _) ?_ | refine EvO.rload rfl (ev rfl) (by assumption) rfl (put_T rfl _) ?_ | refine EvO.oload hH rfl (ev rfl) (by assumption) (by first | exact at0 | exact at1 | exact at2 | exact at3 | exact at4 | exact at5 | exact at6 | exact at7) (by assumption) rfl (put_T rfl _) ?_
            refine EvO.hlist (s := 1) (vs := [_, _]) hH rfl rfl rfl rfl rfl (Nat.le_of_ble_eq_true rfl) ⟨rfl, (ev rfl), rfl, (ev rfl), trivial⟩ rfl (by intro v hv; first | (cases hv; done) | (simp only [List.mem_cons, List.not_mem_nil, or_false] at hv; rcases hv with rfl | rfl <;> exact ⟨rfl, rfl⟩)) (fun _ => (put_T rfl _)) (fun k139 st hk139 hH => ?_)
            try dsimp only [List.set_cons_zero, List.set_cons_succ, List.cons_append, List.nil_append, setMany, List.map_cons, List.map_nil, D.cells, Nat.reduceAdd, List.nil_append, Pg.cs, insC, intC, boolC] at hH
            refine EvO.mv (.inr rfl) rfl (ev rfl) (by dsimp only [Fr.put, List.set_cons_succ, List.set_cons_zero] <;> rfl) ?_
            refine EvO.nil ?_
            try subst hK
            try change EvC _ _ _ _ _ _
            exact ⟨_, _, rfl, (by have := hH.erase 1; exact this)⟩
          · try change EvC _ _ _ _ _ _
            repeat refine EvC.seq ?_
            try generalize hK : SeqQ _ _ _ _ = K
            refine EvC.reg ?_
            refine EvO.go rfl rfl rfl (put_T rfl _) ?_
            refine EvO.mv (.inr rfl) rfl (ev rfl) (put_T rfl _) ?_
            refine EvO.nil ?_
            try subst hK
            try change EvC _ _ _ _ _ _
            try change EvC _ _ _ _ _ _
            repeat refine EvC.seq ?_
            refine EvC.cond (by first | rfl | assumption) (fun h5 => ?_) (fun h5 => ?_) <;> try simp only [decide_eq_true_eq, decide_eq_false_iff_not, beq_iff_eq, beq_eq_false_iff_ne, bne_iff_ne, bne_eq_false_iff_eq, ne_eq, Bool.not_eq_true', Bool.not_eq_false', Bool.not_eq_true, Bool.not_eq_false] at h5
            · have : nextS u x = [x.x] := by unfold nextS; rw [if_neg h4, if_pos h5]
              rw [this]
              try change EvC _ _ _ _ _ _
              repeat refine EvC.seq ?_
              try generalize hK : SeqQ _ _ _ _ = K
              refine EvC.reg ?_
              refine EvO.pfield (fo := 1) (m := 0) (o := 1) rfl (ev rfl) rfl rfl rfl (put_T rfl _) ?_
              first | refine EvO.hload hH rfl (ev rfl) (by first | exact at0 | exact at1 | exact at2 | exact at3 | exact at4 | exact at5 | exact at6 | exact at7) rfl (put_T rfl _) ?_ | refine EvO.rload rfl (ev rfl) (by assumption) rfl (put_T rfl _) ?_ | refine EvO.oload hH rfl (ev rfl) (by assumption) (by first | exact at0 | exact at1 | exact at2 | exact at3 | exact at4 | exact at5 | exact at6 | exact at7) (by assumption) rfl (put_T rfl _) ?_
              refine EvO.hlist (s := 1) (vs := [_]) hH rfl rfl rfl rfl rfl (Nat.le_of_ble_eq_true rfl) ⟨rfl, (ev rfl), trivial⟩ rfl (by intro v hv; first | (cases hv; done) | (simp only [List.mem_cons, List.not_mem_nil, or_false] at hv; rcases hv with rfl <;> exact ⟨rfl, rfl⟩)) (fun _ => (put_T rfl _)) (fun k144 st hk144 hH => ?_)
              try dsimp only [List.set_cons_zero, List.set_cons_succ, List.cons_append, List.nil_append, setMany, List.map_cons, List.map_nil, D.cells, Nat.reduceAdd, List.nil_append, Pg.cs, insC, intC, boolC] at hH
              refine EvO.mv (.inr rfl) rfl (ev rfl) (by dsimp only [Fr.put, List.set_cons_succ, List.set_cons_zero] <;> rfl) ?_
              refine EvO.nil ?_
              try subst hK
              try change EvC _ _ _ _ _ _
              exact ⟨_, _, rfl, (by have := hH.erase 1; exact this)⟩
            · try change EvC _ _ _ _ _ _
              repeat refine EvC.seq ?_
              try generalize hK : SeqQ _ _ _ _ = K
              refine EvC.reg ?_
              refine EvO.go rfl rfl rfl (put_T rfl _) ?_
              refine EvO.mv (.inr rfl) rfl (ev rfl) (put_T rfl _) ?_
              refine EvO.nil ?_
              try subst hK
              try change EvC _ _ _ _ _ _
              try change EvC _ _ _ _ _ _
              repeat refine EvC.seq ?_
              refine EvC.cond (by first | rfl | assumption) (fun h7 => ?_) (fun h7 => ?_) <;> try simp only [decide_eq_true_eq, decide_eq_false_iff_not, beq_iff_eq, beq_eq_false_iff_ne, bne_iff_ne, bne_eq_false_iff_eq, ne_eq, Bool.not_eq_true', Bool.not_eq_false', Bool.not_eq_true, Bool.not_eq_false] at h7
              · have : nextS u x = [] := by unfold nextS; rw [if_neg h4, if_neg h5, if_pos h7]
                rw [this]
                have hH := hH.nulE 1
                refine EvC.skip ?_
                try change EvC _ _ _ _ _ _
                exact ⟨.nul, _, rfl, (by have := hH.erase 1; exact this)⟩
              · have : nextS u x = [((u + 1 : Nat) : Int)] := by unfold nextS; rw [if_neg h4, if_neg h5, if_neg h7]
                rw [this]
                try change EvC _ _ _ _ _ _
                repeat refine EvC.seq ?_
                try generalize hK : SeqQ _ _ _ _ = K
                refine EvC.reg ?_
                refine EvO.mv (.inl rfl) rfl (ev rfl) (put_T rfl _) ?_
                refine EvO.mv (.inl rfl) rfl (ev rfl) (put_T rfl _) ?_
                first | refine EvO.ridx rfl (ev rfl) (ev rfl) (Arg.rows (by assumption) hH) rfl rfl (by assumption) (fun _ => (put_T rfl _)) (fun p129 hp129 => ?_) | refine EvO.oidx hH rfl (ev rfl) (ev rfl) (by first | exact at0 | exact at1 | exact at2 | exact at3 | exact at4 | exact at5 | exact at6 | exact at7) rfl rfl (by first | exact lt_get (by assumption) | omega | (simp only [List.length_map, List.length_append, List.length_cons, List.length_nil, List.length_set, List.length_replicate] <;> omega)) (fun _ => (put_T rfl _)) (fun p129 hp129 => ?_)
                first | refine EvO.rload rfl (ev rfl) (by assumption) rfl (put_T rfl _) ?_ | refine EvO.oload hH rfl (ev rfl) (by assumption) (by first | exact at0 | exact at1 | exact at2 | exact at3 | exact at4 | exact at5 | exact at6 | exact at7) (by assumption) rfl (put_T rfl _) ?_ | refine EvO.hload hH rfl (ev rfl) (by first | exact at0 | exact at1 | exact at2 | exact at3 | exact at4 | exact at5 | exact at6 | exact at7) rfl (put_T rfl _) ?_
                first | refine EvO.addN rfl (ev rfl) (ev rfl) (by omega) (put_T rfl _) ?_ | refine EvO.addS64 rfl (ev rfl) (ev rfl) (by omega) (by omega) (put_T rfl _) ?_ | refine EvO.addS32 rfl (ev rfl) (ev rfl) (by omega) (by omega) (put_T rfl _) ?_ | refine EvO.go rfl rfl rfl (put_T rfl _) ?_
                refine EvO.hlist (s := 1) (vs := [_]) hH rfl rfl rfl rfl rfl (Nat.le_of_ble_eq_true rfl) ⟨rfl, (ev rfl), trivial⟩ rfl (by intro v hv; first | (cases hv; done) | (simp only [List.mem_cons, List.not_mem_nil, or_false] at hv; rcases hv with rfl <;> exact ⟨rfl, rfl⟩)) (fun _ => (put_T rfl _)) (fun k132 st hk132 hH => ?_)
                try dsimp only [List.set_cons_zero, List.set_cons_succ, List.cons_append, List.nil_append, setMany, List.map_cons, List.map_nil, D.cells, Nat.reduceAdd, List.nil_append, Pg.cs, insC, intC, boolC] at hH
                refine EvO.mv (.inr rfl) rfl (ev rfl) (by dsimp only [Fr.put, List.set_cons_succ, List.set_cons_zero] <;> rfl) ?_
                refine EvO.nil ?_
                try subst hK
                try change EvC _ _ _ _ _ _
                exact ⟨_, _, rfl, (by have := hH.erase 1; exact this)⟩
        · rintro fr st ⟨z, tmp, hfr, hH⟩
          rw [hfr]
          clear hfr
          try generalize ixF_CheckClosed fr = ee
          clear fr
          try change EvC _ _ _ _ _ _
          have hTl := next_len u x
          have hTs : ∀ w ∈ nextS u x, isSeen R w := fun w hw => (hok.a u x hu hx w hw).resolve_right (by simp)
          have hTe : ∀ w ∈ nextS u x, 0 ≤ w ∧ w < (q.code.length : Int) := hcl u x hx
          generalize hT : nextS u x = T at *
          try change EvC _ _ _ _ _ _
          repeat refine EvC.seq ?_
          try generalize hK : SeqQ _ _ _ _ = K
          refine EvC.reg ?_
          refine EvO.mv (.inr rfl) rfl (ev rfl) (by dsimp only [Fr.put, List.set_cons_succ, List.set_cons_zero] <;> rfl) ?_
          refine EvO.nil ?_
          try subst hK
          try change EvC _ _ _ _ _ _
          try change EvC _ _ _ _ _ _
          repeat refine EvC.seq ?_
          refine EvC.block ?_
          refine EvC.loop (fun mm fr st => ∃ (k : Nat) (frm : List Int), fr.clean = ⟨127, [ixF_CheckClosed fr 0, .int .i64 (ru : Nat), .ptr k2 0 0, ixF_CheckClosed fr 3, ixF_CheckClosed fr 4, intsV L, .win k43 0 0 (q.code.length + 1) 1, .win k48 0 0 (q.code.length + 1) 1, ixF_CheckClosed fr 8, .int .i64 (i : Nat), ixF_CheckClosed fr 10, z, .int .i64 (k : Nat), ixF_CheckClosed fr 13, ixF_CheckClosed fr 14, ixF_CheckClosed fr 15, ixF_CheckClosed fr 16, ixF_CheckClosed fr 17, ixF_CheckClosed fr 18, ixF_CheckClosed fr 19, ixF_CheckClosed fr 20, ixF_CheckClosed fr 21, ixF_CheckClosed fr 22, ixF_CheckClosed fr 23, ixF_CheckClosed fr 24, ixF_CheckClosed fr 25, ixF_CheckClosed fr 26, ixF_CheckClosed fr 27, ixF_CheckClosed fr 28, ixF_CheckClosed fr 29, ixF_CheckClosed fr 30, ixF_CheckClosed fr 31, ixF_CheckClosed fr 32, ixF_CheckClosed fr 33, ixF_CheckClosed fr 34, ixF_CheckClosed fr 35, ixF_CheckClosed fr 36, ixF_CheckClosed fr 37, ixF_CheckClosed fr 38, ixF_CheckClosed fr 39, ixF_CheckClosed fr 40, ixF_CheckClosed fr 41, ixF_CheckClosed fr 42, ixF_CheckClosed fr 43, ixF_CheckClosed fr 44, ixF_CheckClosed fr 45, ixF_CheckClosed fr 46, ixF_CheckClosed fr 47, ixF_CheckClosed fr 48, ixF_CheckClosed fr 49, ixF_CheckClosed fr 50, ixF_CheckClosed fr 51, ixF_CheckClosed fr 52, ixF_CheckClosed fr 53, ixF_CheckClosed fr 54, ixF_CheckClosed fr 55, ixF_CheckClosed fr 56, ixF_CheckClosed fr 57, ixF_CheckClosed fr 58, ixF_CheckClosed fr 59, ixF_CheckClosed fr 60, ixF_CheckClosed fr 61, ixF_CheckClosed fr 62, ixF_CheckClosed fr 63, ixF_CheckClosed fr 64, ixF_CheckClosed fr 65, ixF_CheckClosed fr 66, ixF_CheckClosed fr 67, ixF_CheckClosed fr 68, ixF_CheckClosed fr 69, ixF_CheckClosed fr 70, ixF_CheckClosed fr 71, ixF_CheckClosed fr 72, ixF_CheckClosed fr 73, ixF_CheckClosed fr 74, ixF_CheckClosed fr 75, ixF_CheckClosed fr 76, ixF_CheckClosed fr 77, ixF_CheckClosed fr 78, ixF_CheckClosed fr 79, ixF_CheckClosed fr 80, ixF_CheckClosed fr 81, ixF_CheckClosed fr 82, ixF_CheckClosed fr 83, ixF_CheckClosed fr 84, ixF_CheckClosed fr 85, ixF_CheckClosed fr 86, ixF_CheckClosed fr 87, ixF_CheckClosed fr 88, ixF_CheckClosed fr 89, ixF_CheckClosed fr 90, ixF_CheckClosed fr 91, ixF_CheckClosed fr 92, ixF_CheckClosed fr 93, ixF_CheckClosed fr 94, ixF_CheckClosed fr 95, ixF_CheckClosed fr 96, ixF_CheckClosed fr 97, ixF_CheckClosed fr 98, ixF_CheckClosed fr 99, ixF_CheckClosed fr 100, ixF_CheckClosed fr 101, ixF_CheckClosed fr 102, ixF_CheckClosed fr 103, ixF_CheckClosed fr 104, ixF_CheckClosed fr 105, ixF_CheckClosed fr 106, ixF_CheckClosed fr 107, ixF_CheckClosed fr 108, ixF_CheckClosed fr 109, ixF_CheckClosed fr 110, ixF_CheckClosed fr 111, ixF_CheckClosed fr 112, ixF_CheckClosed fr 113, ixF_CheckClosed fr 114, ixF_CheckClosed fr 115, ixF_CheckClosed fr 116, ixF_CheckClosed fr 117, ixF_CheckClosed fr 118, ixF_CheckClosed fr 119, ixF_CheckClosed fr 120, ixF_CheckClosed fr 121, ixF_CheckClosed fr 122, ixF_CheckClosed fr 123, ixF_CheckClosed fr 124, ixF_CheckClosed fr 125, ixF_CheckClosed fr 126], []⟩ ∧ Has s0.bs.length S st [.lst z 1 (T.map intC), .lst (.win k48 0 0 (q.code.length + 1) 1) 1 (frm.map intC), .lst (.win k43 0 0 (q.code.length + 1) 1) 1 (inn.map boolC), .box k2 (.mem 0 false [q.cd, q.sd])] ∧ (k + mm = T.length) ∧ (frm.length = q.code.length + 1) ∧ (∀ (w : Nat) (v : Int), frm[w]? = some v → 0 ≤ v ∧ v ≤ 2 * i + 1 + k) ∧ (∀ w, (hit q.code (sn : Int) L i w ∨ ∃ k', k' < k ∧ T[k']? = some (w : Int) ∧ w ≠ u) → ∃ v, frm[w]? = some v ∧ 0 < v)) (T.length) ?_ ?_
          · refine ⟨0, frm, rfl, hH, by omega, hfl, by intro w v h; have := hfb w v h; omega, ?_⟩
            rintro w (h | ⟨k', h, _⟩)
            · exact hfp w h
            · omega
          rintro mm fr st ⟨k, frm, hfr, hH, hk, hfl, hfb, hfp⟩
          rw [hfr]
          clear hfr
          try generalize ixF_CheckClosed fr = ee
          clear fr
          try change EvC _ _ _ _ _ _
          try change EvC _ _ _ _ _ _
          repeat refine EvC.seq ?_
          try generalize hK : SeqQ _ _ _ _ = K
          refine EvC.reg ?_
          refine EvO.mv (.inl rfl) rfl (ev rfl) (put_T rfl _) ?_
          refine EvO.mv (.inl rfl) rfl (ev rfl) (put_T rfl _) ?_
          first | refine EvO.rlen rfl (ev rfl) (Arg.rows (by assumption) hH) rfl (put_T rfl _) ?_ | refine EvO.rlen rfl (ev rfl) (hH.rows (by first | exact at0 | exact at1 | exact at2 | exact at3 | exact at4 | exact at5 | exact at6 | exact at7)) rfl (put_T rfl _) ?_ | refine EvO.slen rfl rfl rfl (put_T rfl _) ?_ | refine EvO.go rfl rfl rfl (put_T rfl _) ?_
          try simp only [List.length_map, List.length_append, List.length_cons, List.length_nil, List.length_set, List.length_replicate, List.length_reverse]
          refine EvO.go rfl rfl rfl (put_T rfl _) ?_
          refine EvO.nil ?_
          try subst hK
          try change EvC _ _ _ _ _ _
          try change EvC _ _ _ _ _ _
          repeat refine EvC.seq ?_
          refine EvC.cond (by first | rfl | assumption) (fun h8 => ?_) (fun h8 => ?_) <;> try simp only [decide_eq_true_eq, decide_eq_false_iff_not, beq_iff_eq, beq_eq_false_iff_ne, bne_iff_ne, bne_eq_false_iff_eq, ne_eq, Bool.not_eq_true', Bool.not_eq_false', Bool.not_eq_true, Bool.not_eq_false] at h8
          · refine EvC.skip ?_
            try change EvC _ _ _ _ _ _
            obtain ⟨w, hw⟩ : ∃ w, T[k]? = some w := ⟨T[k]'(by omega), List.getElem?_eq_getElem _⟩
            have hws := hTs w (List.mem_of_getElem? hw)
            have hwe := hTe w (List.mem_of_getElem? hw)
            obtain ⟨wn, rfl⟩ := Int.eq_ofNat_of_zero_le hwe.1
            have hr3 := int_get hw
            have hr4 := bool_get (hin wn (seen_nat.2 hws))
            obtain ⟨fv, hfv⟩ : ∃ v, frm[wn]? = some v := ⟨frm[wn]'(by omega), List.getElem?_eq_getElem _⟩
            have hr5 := int_get hfv
            have hfvb := hfb wn fv hfv
            try change EvC _ _ _ _ _ _
            repeat refine EvC.seq ?_
            refine EvC.block ?_
            try change EvC _ _ _ _ _ _
            repeat refine EvC.seq ?_
            try generalize hK : SeqQ _ _ _ _ = K
            refine EvC.reg ?_
            refine EvO.mv (.inl rfl) rfl (ev rfl) (put_T rfl _) ?_
            refine EvO.mv (.inl rfl) rfl (ev rfl) (put_T rfl _) ?_
            refine EvO.mv (.inl rfl) rfl (ev rfl) (put_T rfl _) ?_
            first | refine EvO.ridx rfl (ev rfl) (ev rfl) (Arg.rows (by assumption) hH) rfl rfl (by assumption) (fun _ => (put_T rfl _)) (fun p156 hp156 => ?_) | refine EvO.oidx hH rfl (ev rfl) (ev rfl) (by first | exact at0 | exact at1 | exact at2 | exact at3 | exact at4 | exact at5 | exact at6 | exact at7) rfl rfl (by first | exact lt_get (by assumption) | omega | (simp only [List.length_map, List.length_append, List.length_cons, List.length_nil, List.length_set, List.length_replicate] <;> omega)) (fun _ => (put_T rfl _)) (fun p156 hp156 => ?_)
            first | refine EvO.rload rfl (ev rfl) (by assumption) rfl (put_T rfl _) ?_ | refine EvO.oload hH rfl (ev rfl) (by assumption) (by first | exact at0 | exact at1 | exact at2 | exact at3 | exact at4 | exact at5 | exact at6 | exact at7) (by assumption) rfl (put_T rfl _) ?_ | refine EvO.hload hH rfl (ev rfl) (by first | exact at0 | exact at1 | exact at2 | exact at3 | exact at4 | exact at5 | exact at6 | exact at7) rfl (put_T rfl _) ?_
            first | refine EvO.ridx rfl (ev rfl) (ev rfl) (Arg.rows (by assumption) hH) rfl rfl (by assumption) (fun _ => (put_T rfl _)) (fun p158 hp158 => ?_) | refine EvO.oidx hH rfl (ev rfl) (ev rfl) (by first | exact at0 | exact at1 | exact at2 | exact at3 | exact at4 | exact at5 | exact at6 | exact at7) rfl rfl (by first | exact lt_get (by assumption) | omega | (simp only [List.length_map, List.length_append, List.length_cons, List.length_nil, List.length_set, List.length_replicate] <;> omega)) (fun _ => (put_T rfl _)) (fun p158 hp158 => ?_)
            first | refine EvO.rload rfl (ev rfl) (by assumption) rfl (put_T rfl _) ?_ | refine EvO.oload hH rfl (ev rfl) (by assumption) (by first | exact at0 | exact at1 | exact at2 | exact at3 | exact at4 | exact at5 | exact at6 | exact at7) (by assumption) rfl (put_T rfl _) ?_ | refine EvO.hload hH rfl (ev rfl) (by first | exact at0 | exact at1 | exact at2 | exact at3 | exact at4 | exact at5 | exact at6 | exact at7) rfl (put_T rfl _) ?_
            refine EvO.go rfl rfl rfl (put_T rfl _) ?_
            refine EvO.nil ?_
            try subst hK
            try change EvC _ _ _ _ _ _
            try change EvC _ _ _ _ _ _
            repeat refine EvC.seq ?_
            refine EvC.cond (v := false) (by first | rfl | assumption) (fun h => by cases h) (fun _ => ?_)
            try change EvC _ _ _ _ _ _
            refine EvC.skip ?_
            try change EvC _ _ _ _ _ _
            try change EvC _ _ _ _ _ _
            repeat refine EvC.seq ?_
            try generalize hK : SeqQ _ _ _ _ = K
            refine EvC.reg ?_
            refine EvO.mv (.inl rfl) rfl (ev rfl) (put_T rfl _) ?_
            refine EvO.mv (.inl rfl) rfl (ev rfl) (put_T rfl _) ?_
            first | refine EvO.ridx rfl (ev rfl) (ev rfl) (Arg.rows (by assumption) hH) rfl rfl (by assumption) (fun _ => (put_T rfl _)) (fun p163 hp163 => ?_) | refine EvO.oidx hH rfl (ev rfl) (ev rfl) (by first | exact at0 | exact at1 | exact at2 | exact at3 | exact at4 | exact at5 | exact at6 | exact at7) rfl rfl (by first | exact lt_get (by assumption) | omega | (simp only [List.length_map, List.length_append, List.length_cons, List.length_nil, List.length_set, List.length_replicate] <;> omega)) (fun _ => (put_T rfl _)) (fun p163 hp163 => ?_)
            first | refine EvO.rload rfl (ev rfl) (by assumption) rfl (put_T rfl _) ?_ | refine EvO.oload hH rfl (ev rfl) (by assumption) (by first | exact at0 | exact at1 | exact at2 | exact at3 | exact at4 | exact at5 | exact at6 | exact at7) (by assumption) rfl (put_T rfl _) ?_ | refine EvO.hload hH rfl (ev rfl) (by first | exact at0 | exact at1 | exact at2 | exact at3 | exact at4 | exact at5 | exact at6 | exact at7) rfl (put_T rfl _) ?_
            refine EvO.mv (.inl rfl) rfl (ev rfl) (put_T rfl _) ?_
            refine EvO.mv (.inl rfl) rfl (ev rfl) (put_T rfl _) ?_
            first | refine EvO.ridx rfl (ev rfl) (ev rfl) (Arg.rows (by assumption) hH) rfl rfl (by assumption) (fun _ => (put_T rfl _)) (fun p167 hp167 => ?_) | refine EvO.oidx hH rfl (ev rfl) (ev rfl) (by first | exact at0 | exact at1 | exact at2 | exact at3 | exact at4 | exact at5 | exact at6 | exact at7) rfl rfl (by first | exact lt_get (by assumption) | omega | (simp only [List.length_map, List.length_append, List.length_cons, List.length_nil, List.length_set, List.length_replicate] <;> omega)) (fun _ => (put_T rfl _)) (fun p167 hp167 => ?_)
            first | refine EvO.rload rfl (ev rfl) (by assumption) rfl (put_T rfl _) ?_ | refine EvO.oload hH rfl (ev rfl) (by assumption) (by first | exact at0 | exact at1 | exact at2 | exact at3 | exact at4 | exact at5 | exact at6 | exact at7) (by assumption) rfl (put_T rfl _) ?_ | refine EvO.hload hH rfl (ev rfl) (by first | exact at0 | exact at1 | exact at2 | exact at3 | exact at4 | exact at5 | exact at6 | exact at7) rfl (put_T rfl _) ?_
            refine EvO.go rfl rfl rfl (put_T rfl _) ?_
            refine EvO.nil ?_
            try subst hK
            try change EvC _ _ _ _ _ _
            try change EvC _ _ _ _ _ _
            repeat refine EvC.seq ?_
            refine EvC.cond (by first | rfl | assumption) (fun h9 => ?_) (fun h9 => ?_) <;> try simp only [decide_eq_true_eq, decide_eq_false_iff_not, beq_iff_eq, beq_eq_false_iff_ne, bne_iff_ne, bne_eq_false_iff_eq, ne_eq, Bool.not_eq_true', Bool.not_eq_false', Bool.not_eq_true, Bool.not_eq_false] at h9
            · try change EvC _ _ _ _ _ _
              repeat refine EvC.seq ?_
              try generalize hK : SeqQ _ _ _ _ = K
              refine EvC.reg ?_
              refine EvO.mv (.inl rfl) rfl (ev rfl) (put_T rfl _) ?_
              refine EvO.mv (.inl rfl) rfl (ev rfl) (put_T rfl _) ?_
              refine EvO.mv (.inl rfl) rfl (ev rfl) (put_T rfl _) ?_
              first | refine EvO.ridx rfl (ev rfl) (ev rfl) (Arg.rows (by assumption) hH) rfl rfl (by assumption) (fun _ => (put_T rfl _)) (fun p173 hp173 => ?_) | refine EvO.oidx hH rfl (ev rfl) (ev rfl) (by first | exact at0 | exact at1 | exact at2 | exact at3 | exact at4 | exact at5 | exact at6 | exact at7) rfl rfl (by first | exact lt_get (by assumption) | omega | (simp only [List.length_map, List.length_append, List.length_cons, List.length_nil, List.length_set, List.length_replicate] <;> omega)) (fun _ => (put_T rfl _)) (fun p173 hp173 => ?_)
              first | refine EvO.rload rfl (ev rfl) (by assumption) rfl (put_T rfl _) ?_ | refine EvO.oload hH rfl (ev rfl) (by assumption) (by first | exact at0 | exact at1 | exact at2 | exact at3 | exact at4 | exact at5 | exact at6 | exact at7) (by assumption) rfl (put_T rfl _) ?_ | refine EvO.hload hH rfl (ev rfl) (by first | exact at0 | exact at1 | exact at2 | exact at3 | exact at4 | exact at5 | exact at6 | exact at7) rfl (put_T rfl _) ?_
              first | refine EvO.ridx rfl (ev rfl) (ev rfl) (Arg.rows (by assumption) hH) rfl rfl (by assumption) (fun _ => (put_T rfl _)) (fun p175 hp175 => ?_) | refine EvO.oidx hH rfl (ev rfl) (ev rfl) (by first | exact at0 | exact at1 | exact at2 | exact at3 | exact at4 | exact at5 | exact at6 | exact at7) rfl rfl (by first | exact lt_get (by assumption) | omega | (simp only [List.length_map, List.length_append, List.length_cons, List.length_nil, List.length_set, List.length_replicate] <;> omega)) (fun _ => (put_T rfl _)) (fun p175 hp175 => ?_)
              first | refine EvO.rload rfl (ev rfl) (by assumption) rfl (put_T rfl _) ?_ | refine EvO.oload hH rfl (ev rfl) (by assumption) (by first | exact at0 | exact at1 | exact at2 | exact at3 | exact at4 | exact at5 | exact at6 | exact at7) (by assumption) rfl (put_T rfl _) ?_ | refine EvO.hload hH rfl (ev rfl) (by first | exact at0 | exact at1 | exact at2 | exact at3 | exact at4 | exact at5 | exact at6 | exact at7) rfl (put_T rfl _) ?_
              first | refine EvO.addN rfl (ev rfl) (ev rfl) (by omega) (put_T rfl _) ?_ | refine EvO.addS64 rfl (ev rfl) (ev rfl) (by omega) (by omega) (put_T rfl _) ?_ | refine EvO.addS32 rfl (ev rfl) (ev rfl) (by omega) (by omega) (put_T rfl _) ?_ | refine EvO.go rfl rfl rfl (put_T rfl _) ?_
              first | refine EvO.ridx rfl (ev rfl) (ev rfl) (Arg.rows (by assumption) hH) rfl rfl (by assumption) (fun _ => (put_T rfl _)) (fun p178 hp178 => ?_) | refine EvO.oidx hH rfl (ev rfl) (ev rfl) (by first | exact at0 | exact at1 | exact at2 | exact at3 | exact at4 | exact at5 | exact at6 | exact at7) rfl rfl (by first | exact lt_get (by assumption) | omega | (simp only [List.length_map, List.length_append, List.length_cons, List.length_nil, List.length_set, List.length_replicate] <;> omega)) (fun _ => (put_T rfl _)) (fun p178 hp178 => ?_)
              refine EvO.ostore hH rfl (ev rfl) (ev rfl) (by assumption) rfl rfl (by first | exact at0 | exact at1 | exact at2 | exact at3 | exact at4 | exact at5 | exact at6 | exact at7) (by assumption) (Nat.le_of_ble_eq_true rfl) (by first | exact .inl hF | exact .inr rfl) (fun st hH => ?_)
              try dsimp only [List.set_cons_zero, List.set_cons_succ, List.cons_append, List.nil_append, setMany, List.map_cons, List.map_nil, D.cells, Nat.reduceAdd, List.nil_append, Pg.cs, insC, intC, boolC] at hH
              refine EvO.nil ?_
              try subst hK
              try change EvC _ _ _ _ _ _
              have hset2 : (frm.set wn (fv + 1)).map intC = (frm.map intC).set wn [.int .i64 (fv + 1)] := by rw [List.map_set]; rfl
              try change EvC _ _ _ _ _ _
              repeat refine EvC.seq ?_
              try generalize hK : SeqQ _ _ _ _ = K
              refine EvC.reg ?_
              refine EvO.mv (.inl rfl) rfl (ev rfl) (put_T rfl _) ?_
              first | refine EvO.addN rfl (ev rfl) (ev rfl) (by omega) (put_T rfl _) ?_ | refine EvO.addS64 rfl (ev rfl) (ev rfl) (by omega) (by omega) (put_T rfl _) ?_ | refine EvO.addS32 rfl (ev rfl) (ev rfl) (by omega) (by omega) (put_T rfl _) ?_ | refine EvO.go rfl rfl rfl (put_T rfl _) ?_
              refine EvO.mv (.inr rfl) rfl (ev rfl) (by dsimp only [Fr.put, List.set_cons_succ, List.set_cons_zero] <;> rfl) ?_
              refine EvO.nil ?_
              try subst hK
              try change EvC _ _ _ _ _ _
              refine ⟨mm - 1, by omega, ⟨k + 1, frm.set wn (fv + 1), rfl, (by rw [hset2]; exact hH), by omega, by rw [List.length_set]; exact hfl, ?_, ?_⟩⟩
              · intro w' v' h
                by_cases he : w' = wn
                · subst he; rw [List.getElem?_set_self (by omega)] at h; have := Option.some.inj h; omega
                · rw [List.getElem?_set_ne (fun e => he e.symm)] at h; have := hfb w' v' h; omega
              · intro w' h
                by_cases he : w' = wn
                · subst he; exact ⟨fv + 1, by rw [List.getElem?_set_self (by omega)], by omega⟩
                · obtain ⟨v', h1, h2⟩ := hfp w' (by
                    rcases h with h | ⟨k', h1, h2, h3⟩
                    · exact .inl h
                    · refine .inr ⟨k', ?_, h2, h3⟩
                      rcases Nat.lt_or_ge k' k with h' | h'
                      · exact h'
                      · have : k' = k := by omega
                        subst this
                        rw [hw] at h2; have := Option.some.inj h2; omega)
                  exact ⟨v', by rw [List.getElem?_set_ne (fun e => he e.symm)]; exact h1, h2⟩
            · refine EvC.skip ?_
              try change EvC _ _ _ _ _ _
              try change EvC _ _ _ _ _ _
              repeat refine EvC.seq ?_
              try generalize hK : SeqQ _ _ _ _ = K
              refine EvC.reg ?_
              refine EvO.mv (.inl rfl) rfl (ev rfl) (put_T rfl _) ?_
              first | refine EvO.addN rfl (ev rfl) (ev rfl) (by omega) (put_T rfl _) ?_ | refine EvO.addS64 rfl (ev rfl) (ev rfl) (by omega) (by omega) (put_T rfl _) ?_ | refine EvO.addS32 rfl (ev rfl) (ev rfl) (by omega) (by omega) (put_T rfl _) ?_ | refine EvO.go rfl rfl rfl (put_T rfl _) ?_
              refine EvO.mv (.inr rfl) rfl (ev rfl) (by dsimp only [Fr.put, List.set_cons_succ, List.set_cons_zero] <;> rfl) ?_
              refine EvO.nil ?_
              try subst hK
              try change EvC _ _ _ _ _ _
              refine ⟨mm - 1, by omega, ⟨k + 1, frm, rfl, hH, by omega, hfl, by intro w' v' h; have := hfb w' v' h; omega, ?_⟩⟩
              intro w' h
              refine hfp w' ?_
              rcases h with h | ⟨k', h1, h2, h3⟩
              · exact .inl h
              · refine .inr ⟨k', ?_, h2, h3⟩
                rcases Nat.lt_or_ge k' k with h' | h'
                · exact h'
                · have : k' = k := by omega
                  subst this
                  rw [hw] at h2; have := Option.some.inj h2
                  exact absurd (by omega) h3
          · try change EvC _ _ _ _ _ _
            refine EvC.exit ?_
            try change EvC _ _ _ _ _ _
            try change EvC _ _ _ _ _ _
            repeat refine EvC.seq ?_
            try generalize hK : SeqQ _ _ _ _ = K
            refine EvC.reg ?_
            refine EvO.mv (.inl rfl) rfl (ev rfl) (by dsimp only [Fr.put, List.set_cons_succ, List.set_cons_zero] <;> rfl) ?_
            first | refine EvO.addN rfl (ev rfl) (ev rfl) (by omega) (by dsimp only [Fr.put, List.set_cons_succ, List.set_cons_zero] <;> rfl) ?_ | refine EvO.addS64 rfl (ev rfl) (ev rfl) (by omega) (by omega) (by dsimp only [Fr.put, List.set_cons_succ, List.set_cons_zero] <;> rfl) ?_ | refine EvO.addS32 rfl (ev rfl) (ev rfl) (by omega) (by omega) (by dsimp only [Fr.put, List.set_cons_succ, List.set_cons_zero] <;> rfl) ?_ | refine EvO.go rfl rfl rfl (by dsimp only [Fr.put, List.set_cons_succ, List.set_cons_zero] <;> rfl) ?_
            refine EvO.mv (.inr rfl) rfl (ev rfl) (by dsimp only [Fr.put, List.set_cons_succ, List.set_cons_zero] <;> rfl) ?_
            refine EvO.nil ?_
            try subst hK
            try change EvC _ _ _ _ _ _
            refine ⟨L.length - (i + 1), by omega, ⟨i + 1, frm, rfl, (hH.drop 1), by omega, hfl, by intro w' v' h; have := hfb w' v' h; omega, ?_⟩⟩
            intro w' h
            refine hfp w' ?_
            rcases h with h | ⟨j, u', x', q1, q2, q3, q4, q5⟩
            · exact .inl (.inl h)
            · rcases Nat.lt_or_ge j i with h' | h'
              · exact .inl (.inr ⟨j, u', x', h', q2, q3, q4, q5⟩)
              · have : j = i := by omega
                subst this
                rw [hv] at q2
                have : u' = u := by have := Option.some.inj q2; omega
                subst this
                rw [hx] at q3; cases q3
                rw [hT] at q4
                obtain ⟨k', hk'⟩ := List.getElem?_of_mem q4
                exact .inr ⟨k', by have := lt_get hk'; omega, hk', q5⟩
      · try change EvC _ _ _ _ _ _
        refine EvC.exit ?_
        try change EvC _ _ _ _ _ _
        have hiL : i = L.length := by omega
        rw [hiL] at hfp hfb
        have hpos : ∀ k : Nat, R[k]? = some true → ∃ v : Int, frm[k]? = some v ∧ 0 < v := fun k hk => by
          refine hfp k ?_
          rcases hok.c (k : Int) (seen_nat.1 hk) with h | ⟨u, x, h1, h2, h3, h4⟩
          · exact .inl h
          · obtain ⟨j, hj⟩ := hhas u h1
            exact .inr ⟨j, u, x, lt_get hj, hj, h2, h3, by omega⟩
        try change EvC _ _ _ _ _ _
        repeat refine EvC.seq ?_
        try generalize hK : SeqQ _ _ _ _ = K
        refine EvC.reg ?_
        refine EvO.mv (.inr rfl) rfl (ev rfl) (by dsimp only [Fr.put, List.set_cons_succ, List.set_cons_zero] <;> rfl) ?_
        refine EvO.nil ?_
        try subst hK
        try change EvC _ _ _ _ _ _
        try change EvC _ _ _ _ _ _
        repeat refine EvC.seq ?_
        refine EvC.block ?_
        refine EvC.loop (fun mm fr st => ∃ (i : Nat), fr.clean = ⟨127, [ixF_CheckClosed fr 0, ixF_CheckClosed fr 1, ixF_CheckClosed fr 2, ixF_CheckClosed fr 3, ixF_CheckClosed fr 4, intsV L, ixF_CheckClosed fr 6, .win k48 0 0 (q.code.length + 1) 1, ixF_CheckClosed fr 8, ixF_CheckClosed fr 9, ixF_CheckClosed fr 10, ixF_CheckClosed fr 11, ixF_CheckClosed fr 12, .int .i64 (i : Nat), ixF_CheckClosed fr 14, ixF_CheckClosed fr 15, ixF_CheckClosed fr 16, ixF_CheckClosed fr 17, ixF_CheckClosed fr 18, ixF_CheckClosed fr 19, ixF_CheckClosed fr 20, ixF_CheckClosed fr 21, ixF_CheckClosed fr 22, ixF_CheckClosed fr 23, ixF_CheckClosed fr 24, ixF_CheckClosed fr 25, ixF_CheckClosed fr 26, ixF_CheckClosed fr 27, ixF_CheckClosed fr 28, ixF_CheckClosed fr 29, ixF_CheckClosed fr 30, ixF_CheckClosed fr 31, ixF_CheckClosed fr 32, ixF_CheckClosed fr 33, ixF_CheckClosed fr 34, ixF_CheckClosed fr 35, ixF_CheckClosed fr 36, ixF_CheckClosed fr 37, ixF_CheckClosed fr 38, ixF_CheckClosed fr 39, ixF_CheckClosed fr 40, ixF_CheckClosed fr 41, ixF_CheckClosed fr 42, ixF_CheckClosed fr 43, ixF_CheckClosed fr 44, ixF_CheckClosed fr 45, ixF_CheckClosed fr 46, ixF_CheckClosed fr 47, ixF_CheckClosed fr 48, ixF_CheckClosed fr 49, ixF_CheckClosed fr 50, ixF_CheckClosed fr 51, ixF_CheckClosed fr 52, ixF_CheckClosed fr 53, ixF_CheckClosed fr 54, ixF_CheckClosed fr 55, ixF_CheckClosed fr 56, ixF_CheckClosed fr 57, ixF_CheckClosed fr 58, ixF_CheckClosed fr 59, ixF_CheckClosed fr 60, ixF_CheckClosed fr 61, ixF_CheckClosed fr 62, ixF_CheckClosed fr 63, ixF_CheckClosed fr 64, ixF_CheckClosed fr 65, ixF_CheckClosed fr 66, ixF_CheckClosed fr 67, ixF_CheckClosed fr 68, ixF_CheckClosed fr 69, ixF_CheckClosed fr 70, ixF_CheckClosed fr 71, ixF_CheckClosed fr 72, ixF_CheckClosed fr 73, ixF_CheckClosed fr 74, ixF_CheckClosed fr 75, ixF_CheckClosed fr 76, ixF_CheckClosed fr 77, ixF_CheckClosed fr 78, ixF_CheckClosed fr 79, ixF_CheckClosed fr 80, ixF_CheckClosed fr 81, ixF_CheckClosed fr 82, ixF_CheckClosed fr 83, ixF_CheckClosed fr 84, ixF_CheckClosed fr 85, ixF_CheckClosed fr 86, ixF_CheckClosed fr 87, ixF_CheckClosed fr 88, ixF_CheckClosed fr 89, ixF_CheckClosed fr 90, ixF_CheckClosed fr 91, ixF_CheckClosed fr 92, ixF_CheckClosed fr 93, ixF_CheckClosed fr 94, ixF_CheckClosed fr 95, ixF_CheckClosed fr 96, ixF_CheckClosed fr 97, ixF_CheckClosed fr 98, ixF_CheckClosed fr 99, ixF_CheckClosed fr 100, ixF_CheckClosed fr 101, ixF_CheckClosed fr 102, ixF_CheckClosed fr 103, ixF_CheckClosed fr 104, ixF_CheckClosed fr 105, ixF_CheckClosed fr 106, ixF_CheckClosed fr 107, ixF_CheckClosed fr 108, ixF_CheckClosed fr 109, ixF_CheckClosed fr 110, ixF_CheckClosed fr 111, ixF_CheckClosed fr 112, ixF_CheckClosed fr 113, ixF_CheckClosed fr 114, ixF_CheckClosed fr 115, ixF_CheckClosed fr 116, ixF_CheckClosed fr 117, ixF_CheckClosed fr 118, ixF_CheckClosed fr 119, ixF_CheckClosed fr 120, ixF_CheckClosed fr 121, ixF_CheckClosed fr 122, ixF_CheckClosed fr 123, ixF_CheckClosed fr 124, ixF_CheckClosed fr 125, ixF_CheckClosed fr 126], []⟩ ∧ Has s0.bs.length S st [.lst (.win k48 0 0 (q.code.length + 1) 1) 1 (frm.map intC), .lst (.win k43 0 0 (q.code.length + 1) 1) 1 (inn.map boolC), .box k2 (.mem 0 false [q.cd, q.sd])] ∧ (i + mm = L.length)) (L.length) ?_ ?_
        · exact ⟨0, rfl, hH, by omega⟩
        rintro mm fr st ⟨i, hfr, hH, hi⟩
        rw [hfr]
        clear hfr
        try generalize ixF_CheckClosed fr = ee
        clear fr
        try change EvC _ _ _ _ _ _
        try change EvC _ _ _ _ _ _
        repeat refine EvC.seq ?_
        try generalize hK : SeqQ _ _ _ _ = K
        refine EvC.reg ?_
        refine EvO.mv (.inl rfl) rfl (ev rfl) (put_T rfl _) ?_
        refine EvO.mv (.inl rfl) rfl (ev rfl) (put_T rfl _) ?_
        first | refine EvO.rlen rfl (ev rfl) (Arg.rows (by assumption) hH) rfl (put_T rfl _) ?_ | refine EvO.rlen rfl (ev rfl) (hH.rows (by first | exact at0 | exact at1 | exact at2 | exact at3 | exact at4 | exact at5 | exact at6 | exact at7)) rfl (put_T rfl _) ?_ | refine EvO.slen rfl rfl rfl (put_T rfl _) ?_ | refine EvO.go rfl rfl rfl (put_T rfl _) ?_
        try simp only [List.length_map, List.length_append, List.length_cons, List.length_nil, List.length_set, List.length_replicate, List.length_reverse]
        refine EvO.go rfl rfl rfl (put_T rfl _) ?_
        refine EvO.nil ?_
        try subst hK
        try change EvC _ _ _ _ _ _
        try change EvC _ _ _ _ _ _
        repeat refine EvC.seq ?_
        refine EvC.cond (by first | rfl | assumption) (fun h3 => ?_) (fun h3 => ?_) <;> try simp only [decide_eq_true_eq, decide_eq_false_iff_not, beq_iff_eq, beq_eq_false_iff_ne, bne_iff_ne, bne_eq_false_iff_eq, ne_eq, Bool.not_eq_true', Bool.not_eq_false', Bool.not_eq_true, Bool.not_eq_false] at h3
        · refine EvC.skip ?_
          try change EvC _ _ _ _ _ _
          obtain ⟨v, hv⟩ : ∃ v, L[i]? = some v := ⟨L[i]'(by omega), List.getElem?_eq_getElem _⟩
          obtain ⟨u, hu, rfl⟩ := hget i v hv
          have hr1 := int_get hv
          obtain ⟨fv, hfv, hfv0⟩ := hpos u hu
          have hr5 := int_get hfv
          try change EvC _ _ _ _ _ _
          repeat refine EvC.seq ?_
          refine EvC.block ?_
          try change EvC _ _ _ _ _ _
          repeat refine EvC.seq ?_
          try generalize hK : SeqQ _ _ _ _ = K
          refine EvC.reg ?_
          refine EvO.mv (.inl rfl) rfl (ev rfl) (put_T rfl _) ?_
          refine EvO.mv (.inl rfl) rfl (ev rfl) (put_T rfl _) ?_
          refine EvO.mv (.inl rfl) rfl (ev rfl) (put_T rfl _) ?_
          first | refine EvO.ridx rfl (ev rfl) (ev rfl) (Arg.rows (by assumption) hH) rfl rfl (by assumption) (fun _ => (put_T rfl _)) (fun p188 hp188 => ?_) | refine EvO.oidx hH rfl (ev rfl) (ev rfl) (by first | exact at0 | exact at1 | exact at2 | exact at3 | exact at4 | exact at5 | exact at6 | exact at7) rfl rfl (by first | exact lt_get (by assumption) | omega | (simp only [List.length_map, List.length_append, List.length_cons, List.length_nil, List.length_set, List.length_replicate] <;> omega)) (fun _ => (put_T rfl _)) (fun p188 hp188 => ?_)
          first | refine EvO.rload rfl (ev rfl) (by assumption) rfl (put_T rfl _) ?_ | refine EvO.oload hH rfl (ev rfl) (by assumption) (by first | exact at0 | exact at1 | exact at2 | exact at3 | exact at4 | exact at5 | exact at6 | exact at7) (by assumption) rfl (put_T rfl _) ?_ | refine EvO.hload hH rfl (ev rfl) (by first | exact at0 | exact at1 | exact at2 | exact at3 | exact at4 | exact at5 | exact at6 | exact at7) rfl (put_T rfl _) ?_
          first | refine EvO.ridx rfl (ev rfl) (ev rfl) (Arg.rows (by assumption) hH) rfl rfl (by assumption) (fun _ => (put_T rfl _)) (fun p190 hp190 => ?_) | refine EvO.oidx hH rfl (ev rfl) (ev rfl) (by first | exact at0 | exact at1 | exact at2 | exact at3 | exact at4 | exact at5 | exact at6 | exact at7) rfl rfl (by first | exact lt_get (by assumption) | omega | (simp only [List.length_map, List.length_append, List.length_cons, List.length_nil, List.length_set, List.length_replicate] <;> omega)) (fun _ => (put_T rfl _)) (fun p190 hp190 => ?_)
          first | refine EvO.rload rfl (ev rfl) (by assumption) rfl (put_T rfl _) ?_ | refine EvO.oload hH rfl (ev rfl) (by assumption) (by first | exact at0 | exact at1 | exact at2 | exact at3 | exact at4 | exact at5 | exact at6 | exact at7) (by assumption) rfl (put_T rfl _) ?_ | refine EvO.hload hH rfl (ev rfl) (by first | exact at0 | exact at1 | exact at2 | exact at3 | exact at4 | exact at5 | exact at6 | exact at7) rfl (put_T rfl _) ?_
          refine EvO.go rfl rfl rfl (put_T rfl _) ?_
          refine EvO.nil ?_
          try subst hK
          try change EvC _ _ _ _ _ _
          try change EvC _ _ _ _ _ _
          repeat refine EvC.seq ?_
          refine EvC.cond (v := false) (by first | assumption | (dsimp only [Fr.ev, Fr.get, nth, Go.V.look]; simp; omega)) (fun h => by cases h) (fun _ => ?_)
          try change EvC _ _ _ _ _ _
          refine EvC.skip ?_
          try change EvC _ _ _ _ _ _
          try change EvC _ _ _ _ _ _
          repeat refine EvC.seq ?_
          try generalize hK : SeqQ _ _ _ _ = K
          refine EvC.reg ?_
          refine EvO.mv (.inl rfl) rfl (ev rfl) (put_T rfl _) ?_
          first | refine EvO.addN rfl (ev rfl) (ev rfl) (by omega) (put_T rfl _) ?_ | refine EvO.addS64 rfl (ev rfl) (ev rfl) (by omega) (by omega) (put_T rfl _) ?_ | refine EvO.addS32 rfl (ev rfl) (ev rfl) (by omega) (by omega) (put_T rfl _) ?_ | refine EvO.go rfl rfl rfl (put_T rfl _) ?_
          refine EvO.mv (.inr rfl) rfl (ev rfl) (by dsimp only [Fr.put, List.set_cons_succ, List.set_cons_zero] <;> rfl) ?_
          refine EvO.nil ?_
          try subst hK
          try change EvC _ _ _ _ _ _
          exact ⟨mm - 1, by omega, ⟨i + 1, rfl, hH, by omega⟩⟩
        · try change EvC _ _ _ _ _ _
          refine EvC.exit ?_
          try change EvC _ _ _ _ _ _
          try change EvC _ _ _ _ _ _
          repeat refine EvC.seq ?_
          try generalize hK : SeqQ _ _ _ _ = K
          refine EvC.reg ?_
          refine EvO.hcall rfl rfl (Ev.prim rfl rfl) (put_T rfl _) ?_
          refine EvO.mv (.inr rfl) rfl (ev rfl) (by dsimp only [Fr.put, List.set_cons_succ, List.set_cons_zero] <;> rfl) ?_
          refine EvO.nil ?_
          try subst hK
          try change EvC _ _ _ _ _ _
          refine EvC.ret ⟨fun i h => (by cases h), _, rfl, leave_ro (by simp) hSb hH (rfl)⟩

theorem own : ownKnob Try.prog.godebug = none := by kernel_rfl
theorem laidOut : laidOutB Try.prog = true := by kernel_rfl

theorem lifted (os : Os) (started : os.Started) (H : Type) (enc : TypeId × Value → H) (F : Stop.Interp) :
    ReturnsInHanded {} Try.checked os 9 .any ((Rows.OpenSpec.upto Rows.checkClosedSpec).pre6 enc Try.prog Try.f9 Rows.checkClosedUptoRow.domain false) (((Rows.OpenSpec.upto Rows.checkClosedSpec).at F).post enc Try.prog Try.f9 false true false false) := by
  refine returnsInHanded_of_cond (C := Try.checked) (s := Rows.OpenSpec.upto Rows.checkClosedSpec) (k := Rows.uptoSmall) rfl own started (by kernel_rfl) Try.func9
    (OpenSpec.witness (enc := enc) (C := Try.checked) (s := Rows.OpenSpec.upto Rows.checkClosedSpec) (k := Rows.uptoSmall) rfl false ⟨#[], #[.agg #[.slice none 0 0, .slice none 0 0], .int .i64 0], []⟩ 8 (by kernel_rfl) (by kernel_rfl) (by kernel_rfl)
      (x := ([.agg [.nil, .nil], .lit (.int .i64 0)], [], [])) (by kernel_rfl) rfl (by kernel_rfl)) ?_
  intro W base args ds gs before hval hW _ hk _
  have hW' := hW
  obtain ⟨p, q, hA0, hV, rfl, hfz, hnd⟩ := hW
  have hA : DataW.TrodAll enc Try.prog W 0 (fun _ => true) true Try.f9.params.toList args.toList ds p := hA0
  rw [Try.params9] at hA hval
  obtain ⟨v0, vs0, d0, ds0, p0, q0, hargs, rfl, rfl, h0, r0⟩ := trodAll_cons hA
  obtain ⟨v1, vs1, d1, ds1, p1, q1, rfl, rfl, rfl, h1, r1⟩ := trodAll_cons r0
  obtain ⟨rfl, rfl, rfl⟩ := trodAll_nil r1
  obtain rfl : args = #[v0, v1] := by cases args; simp_all
  obtain ⟨rfl, rfl⟩ := trodVars_none hV
  simp only [Rows.uptoSmall, List.append_nil, List.nil_append, List.singleton_append, List.cons_append, decide_eq_true_eq, Rows.uptoBulkAll] at hk
  have i0 := trod_ir h0 (n := 12) (by kernel_rfl) (hval 0 29 v0 rfl rfl)
  have k0 := h0
  have lt0 : ∀ x ∈ p0, x.block < W.heap.size := by obtain ⟨m, hm⟩ := k0; exact DataW.trod_lt m _ _ _ hm
  obtain ⟨b0, hb0, ok0⟩ := arg_prog (Rd.of h0)
  have i1 := trod_ir h1 (n := 12) (by kernel_rfl) (hval 1 3 v1 rfl rfl)
  have k1 := h1
  have lt1 : ∀ x ∈ p1, x.block < W.heap.size := by obtain ⟨m, hm⟩ := k1; exact DataW.trod_lt m _ _ _ hm
  obtain ⟨b1, hb1, hs1, w1⟩ := arg_int h1 Try.underlying3
  have hlaw : Ev pv 9 [dval d0, dval d1] ⟨[], 0, 0⟩ (.bool true) ⟨[], 0, 0⟩ := by
    rw [hb0, hb1]
    exact law b0 (ok0 (by omega)) b1
  have hir : ∀ (i : Nat) c v, [dval d0, dval d1][i]? = some c → [v0, v1][i]? = some v → IR W (fun b => b < W.heap.size) c v := by
    intro i c v hc hv
    match i, hc, hv with
    | 0, hc, hv => cases hc; cases hv; exact i0
    | 1, hc, hv => cases hc; cases hv; exact i1
  clear hA0
  refine (law_calls view hlaw (us := [v0, v1]) rfl hir).mono fun e W' ⟨he, bel⟩ => ?_
  subst he
  exact ⟨_, rfl, _, _, _, [], _, [], hW', trodAll_mk1 (shut_bool Try.underlying4 _), (trodAll_cons_mk (Below.trod laidOut (by kernel_rfl) (of_decide_eq_true (by kernel_rfl)) k0 bel lt0) (trodAll_cons_mk (Below.trod laidOut (by kernel_rfl) (of_decide_eq_true (by kernel_rfl)) k1 bel lt1) trodAll_mk0)), rfl, bel.frame _, fun h => by cases h⟩

theorem proved : Rows.CheckClosedUptoSaid :=
  OpenClaim.holds_of_cond 9 Try.f9 rfl rfl rfl rfl rfl rfl rfl ⟨rfl, rfl, rfl, rfl, rfl⟩ rfl rfl rfl rfl rfl (by kernel_rfl) Try.func9 (by kernel_rfl)
    (of_decide_eq_true (by kernel_rfl)) (by unfold Func.isWrapper; first | (rw [if_pos (by decide +kernel)]; kernel_rfl) | (rw [if_neg (by decide +kernel)]; exact ⟨rfl, rfl⟩))
    (fun os started H enc _ F => lifted os started H enc F)
end Go.Proofs.Ytbdilgkfnacahaa.checkClosed
#print axioms Go.Proofs.Ytbdilgkfnacahaa.checkClosed.proved
