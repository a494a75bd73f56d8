/-
  Programs as the document looks at them: one instruction.
-/
import Derived.Test.YtbdilgkfnacahaaJf
namespace Go.Proofs.Ytbdilgkfnacahaa
open Go.V Go
set_option maxRecDepth 100000
set_option maxHeartbeats 4000000
set_option linter.unusedSimpArgs false
set_option linter.unusedVariables false

theorem ins_ev {s0 : St} {p : Pg} {pc : Nat} {i : PIns} (hp : p.ok) (hi : p.code[pc]? = some i) : Ev pv 47 [p.d, .int .i64 (pc : Nat)] s0 (.bool (shapedS p.code.length p.starts.length pc i)) s0 := by
  refine Ev.mk1 rfl fi47 rfl rfl rfl ?_
  dsimp only [List.cons_append, List.nil_append, List.length, Nat.reduceSub, Nat.reduceAdd, List.replicate_succ, List.replicate_zero]
  have hSb : (enterSt .ro s0).bs = s0.bs := rfl
  have hF : (enterSt .ro s0).flr ≤ s0.bs.length := Nat.le_refl _
  have hH : Has s0.bs.length (enterSt .ro s0) (enterSt .ro s0) [] := Has.start (Nat.le_refl _) (Nat.le_refl _)
  generalize enterSt .ro s0 = S at *
  have hc := hp.c.arg s0.bs.length S
  have hs := hp.s.arg s0.bs.length S
  have hio := hp.i i (List.mem_of_getElem? hi)
  have hrd := hio.1
  have hir := hio.1.arg s0.bs.length S
  have hil := hio.2
  have hcl := hp.cl
  have hsl := hp.sl
  have hr := ins_get hi
  have hlt := lt_get hi
  unfold Pg.d
  try change EvC _ _ _ _ _ _
  repeat refine EvC.seq ?_
  try generalize hK : SeqQ _ _ _ _ = K
  refine EvC.reg ?_
  refine EvO.hbox hH rfl rfl (fun _ => by dsimp only [Fr.put, List.set_cons_succ, List.set_cons_zero] <;> rfl) (fun k2 st hk2 hH => ?_)
  try dsimp only [List.set_cons_zero, List.set_cons_succ, List.cons_append, List.nil_append, setMany, List.map_cons, List.map_nil, D.cells, Nat.reduceAdd, List.nil_append, Pg.cs, insC, intC] at hH
  refine EvO.mv (.inr rfl) rfl (ev rfl) (by dsimp only [Fr.put, List.set_cons_succ, List.set_cons_zero] <;> rfl) ?_
  refine EvO.nil ?_
  try subst hK
  try change EvC _ _ _ _ _ _
  try change EvC _ _ _ _ _ _
  repeat refine EvC.seq ?_
  try generalize hK : SeqQ _ _ _ _ = K
  refine EvC.reg ?_
  refine EvO.pfield (fo := 0) (m := 0) (o := 0) rfl (ev rfl) rfl rfl rfl (by dsimp only [Fr.put, List.set_cons_succ, List.set_cons_zero] <;> rfl) ?_
  refine EvO.hload hH rfl (ev rfl) (by exact at0) rfl (by dsimp only [Fr.put, List.set_cons_succ, List.set_cons_zero] <;> rfl) ?_
  refine EvO.mv (.inl rfl) rfl (ev rfl) (by dsimp only [Fr.put, List.set_cons_succ, List.set_cons_zero] <;> rfl) ?_
  refine EvO.ridx rfl (ev rfl) (ev rfl) (Arg.rows (by assumption) hH) rfl rfl (by assumption) (fun _ => by dsimp only [Fr.put, List.set_cons_succ, List.set_cons_zero] <;> rfl) (fun p12 hp12 => ?_)
  refine EvO.rloadS rfl (ev rfl) (by assumption) rfl (by dsimp only [Fr.put, List.set_cons_succ, List.set_cons_zero] <;> rfl) ?_
  refine EvO.halloc hH rfl rfl (fun _ => by dsimp only [Fr.put, List.set_cons_succ, List.set_cons_zero] <;> rfl) (fun k5 st hk5 hH => ?_)
  try dsimp only [List.set_cons_zero, List.set_cons_succ, List.cons_append, List.nil_append, setMany, List.map_cons, List.map_nil, D.cells, Nat.reduceAdd, List.nil_append, Pg.cs, insC, intC] at hH
  refine EvO.hstoreA hH rfl (ev rfl) (ev rfl) (by rfl) (by exact rfl) (by exact at0) (by exact rfl) (by exact .inl hF) (fun st hH => ?_)
  try dsimp only [List.set_cons_zero, List.set_cons_succ, List.cons_append, List.nil_append, setMany, List.map_cons, List.map_nil, D.cells, Nat.reduceAdd, List.nil_append, Pg.cs, insC, intC] at hH
  refine EvO.nil ?_
  try subst hK
  try change EvC _ _ _ _ _ _
  try change EvC _ _ _ _ _ _
  repeat refine EvC.seq ?_
  try generalize hK : SeqQ _ _ _ _ = K
  refine EvC.reg ?_
  refine EvO.pfield (fo := 0) (m := 0) (o := 0) rfl (ev rfl) rfl rfl rfl (by dsimp only [Fr.put, List.set_cons_succ, List.set_cons_zero] <;> rfl) ?_
  refine EvO.hload hH rfl (ev rfl) (by exact at1) rfl (by dsimp only [Fr.put, List.set_cons_succ, List.set_cons_zero] <;> rfl) ?_
  refine EvO.rlen rfl (ev rfl) (Arg.rows (by assumption) hH) rfl (by dsimp only [Fr.put, List.set_cons_succ, List.set_cons_zero] <;> rfl) ?_
  try simp only [List.length_map, List.length_append, List.length_cons, List.length_nil, List.length_set, List.length_replicate, List.length_reverse]
  refine EvO.mv (.inr rfl) rfl (ev rfl) (by dsimp only [Fr.put, List.set_cons_succ, List.set_cons_zero] <;> rfl) ?_
  refine EvO.nil ?_
  try subst hK
  try change EvC _ _ _ _ _ _
  try change EvC _ _ _ _ _ _
  repeat refine EvC.seq ?_
  try generalize hK : SeqQ _ _ _ _ = K
  refine EvC.reg ?_
  refine EvO.pfield (fo := 0) (m := 0) (o := 0) rfl (ev rfl) rfl rfl rfl (by dsimp only [Fr.put, List.set_cons_succ, List.set_cons_zero] <;> rfl) ?_
  refine EvO.hload hH rfl (ev rfl) (by exact at0) rfl (by dsimp only [Fr.put, List.set_cons_succ, List.set_cons_zero] <;> rfl) ?_
  refine EvO.go (d := .agg [.int .i64 i.op, .int .i64 0, .int .i64 0, .nul]) (st1 := _) rfl rfl rfl (by dsimp only [Fr.put, List.set_cons_succ, List.set_cons_zero] <;> rfl) ?_
  refine EvO.halloc hH rfl rfl (fun _ => by dsimp only [Fr.put, List.set_cons_succ, List.set_cons_zero] <;> rfl) (fun k7 st hk7 hH => ?_)
  try dsimp only [List.set_cons_zero, List.set_cons_succ, List.cons_append, List.nil_append, setMany, List.map_cons, List.map_nil, D.cells, Nat.reduceAdd, List.nil_append, Pg.cs, insC, intC] at hH
  refine EvO.hstoreA hH rfl (ev rfl) (ev rfl) (by rfl) (by exact rfl) (by exact at0) (by exact rfl) (by exact .inl hF) (fun st hH => ?_)
  try dsimp only [List.set_cons_zero, List.set_cons_succ, List.cons_append, List.nil_append, setMany, List.map_cons, List.map_nil, D.cells, Nat.reduceAdd, List.nil_append, Pg.cs, insC, intC] at hH
  refine EvO.nil ?_
  try subst hK
  try change EvC _ _ _ _ _ _
  try change EvC _ _ _ _ _ _
  repeat refine EvC.seq ?_
  try generalize hK : SeqQ _ _ _ _ = K
  refine EvC.reg ?_
  refine EvO.mv (.inr rfl) rfl (ev rfl) (by dsimp only [Fr.put, List.set_cons_succ, List.set_cons_zero] <;> rfl) ?_
  refine EvO.nil ?_
  try subst hK
  try change EvC _ _ _ _ _ _
  try change EvC _ _ _ _ _ _
  repeat refine EvC.seq ?_
  try generalize hK : SeqQ _ _ _ _ = K
  refine EvC.reg ?_
  refine EvO.pfield (fo := 0) (m := 0) (o := 0) rfl (ev rfl) rfl rfl rfl (by dsimp only [Fr.put, List.set_cons_succ, List.set_cons_zero] <;> rfl) ?_
  refine EvO.hload hH rfl (ev rfl) (by exact at1) rfl (by dsimp only [Fr.put, List.set_cons_succ, List.set_cons_zero] <;> rfl) ?_
  refine EvO.nil ?_
  try subst hK
  try change EvC _ _ _ _ _ _
  try change EvC _ _ _ _ _ _
  repeat refine EvC.seq ?_
  refine EvC.merge (fun fr st => ∃ (bx bz : Int) (brd : D) (fl : Bool) (brs : List Rg) (d0 d3 d9 d10 d11 d12 d13 d14 d15 d16 d17 d18 d19 d20 d21 : D) (tmp : List (Nat × D)), fr = ⟨22, [d0, .int .i64 (pc : Nat), .ptr k2 0 0, d3, .bool false, .ptr k5 0 0, .int .i64 (p.code.length : Nat), .ptr k7 0 0, .bool fl, d9, d10, d11, d12, d13, d14, d15, d16, d17, d18, d19, d20, d21], tmp⟩ ∧ Has s0.bs.length S st [.box k7 (.mem 0 false [.int .i64 i.op, .int .i64 bx, .int .i64 bz, brd]), .box k5 (.mem 0 false [.int .i64 i.op, .int .i64 i.x, .int .i64 i.y, i.rd]), .box k2 (.mem 0 false [p.cd, p.sd])] ∧ (SlD brd 2 (brs.map rangeC)) ∧ (shapedS p.code.length p.starts.length pc i = (((i.x == bx) && (i.y == bz)) && ((i.rs.length : Int) == brs.length) && (!fl || decide (((pc + 1 : Nat) : Int) < p.code.length))))) ?_ ?_
  · try change EvC _ _ _ _ _ _
    repeat refine EvC.seq ?_
    refine EvC.block ?_
    try change EvC _ _ _ _ _ _
    repeat refine EvC.seq ?_
    try generalize hK : SeqQ _ _ _ _ = K
    refine EvC.reg ?_
    refine EvO.go rfl rfl rfl (put_T rfl _) ?_
    refine EvO.mv (.inr rfl) rfl (ev rfl) (put_T rfl _) ?_
    refine EvO.nil ?_
    try subst hK
    try change EvC _ _ _ _ _ _
    try change EvC _ _ _ _ _ _
    repeat refine EvC.seq ?_
    refine EvC.cond (by rfl) (fun h1 => ?_) (fun h1 => ?_) <;> try simp only [decide_eq_true_eq, decide_eq_false_iff_not, beq_iff_eq, beq_eq_false_iff_ne, bne_iff_ne, bne_eq_false_iff_eq, ne_eq, Bool.not_eq_true', Bool.not_eq_false', Bool.not_eq_true, Bool.not_eq_false] at h1
    · have hsp : shapedS p.code.length p.starts.length pc i = (i.y == 0 && (decide (((pc + 1 : Nat) : Int) < p.code.length) && i.x == 0 && rightS i.rs)) := by unfold shapedS; rw [if_pos h1]
      try change EvC _ _ _ _ _ _
      repeat refine EvC.seq ?_
      try generalize hK : SeqQ _ _ _ _ = K
      refine EvC.reg ?_
      refine EvO.pfield (fo := 3) (m := 0) (o := 3) rfl (ev rfl) rfl rfl rfl (put_T rfl _) ?_
      refine EvO.hload hH rfl (ev rfl) (by exact at1) rfl (put_T rfl _) ?_
      refine EvO.pfield (fo := 3) (m := 0) (o := 3) rfl (ev rfl) rfl rfl rfl (put_T rfl _) ?_
      refine EvO.hstore hH rfl (ev rfl) (ev rfl) (by exact (SlD.cells (by assumption)).1) (by exact rfl) (by exact at0) (by exact Nat.le_of_ble_eq_true rfl) (by exact .inl hF) (fun st hH => ?_)
      try dsimp only [List.set_cons_zero, List.set_cons_succ, List.cons_append, List.nil_append, setMany, List.map_cons, List.map_nil, D.cells, Nat.reduceAdd, List.nil_append, Pg.cs, insC, intC] at hH
      refine EvO.nil ?_
      try subst hK
      try change EvC _ _ _ _ _ _
      try change EvC _ _ _ _ _ _
      repeat refine EvC.seq ?_
      refine EvC.cutT 30 (.bool (!rightS i.rs)) [] ?_ (fun ff tmp htmp => ?_)
      · refine EvO.pfield (fo := 3) (m := 0) (o := 3) rfl (ev rfl) rfl rfl rfl (put_T rfl _) ?_
        refine EvO.hload hH rfl (ev rfl) (by exact at1) rfl (put_T rfl _) ?_
        refine EvO.hcall rfl rfl (refRight_ev (hir.rows hH) hil) (put_T rfl _) ?_
        refine EvO.go rfl rfl rfl (put_T rfl _) ?_
        refine EvO.nil (leafT ?_ ?_)
        · try dsimp only [setW, List.foldl_cons, List.foldl_nil, nth, List.set_cons_zero, List.set_cons_succ]
          all_goals (first | rfl | simp)
        · try dsimp only [Fr.putO, Fr.put, Fr.clean, Fr.ev, Fr.get, nth, Go.V.look, List.set_cons_succ, List.set_cons_zero, ofVal_int, ofVal_bool, ofVal_str, ofVal_nul, ofVal_pnil, ofVal_nilfn, ofVal_nilif, List.length, List.cons_append, List.nil_append, List.append_nil, Nat.reduceSub, Nat.reduceAdd, List.map, List.map_cons, List.map_nil]
          all_goals (first | rfl | (simp []; done) | (simp_all; done))
      try dsimp only [setW, List.foldl_cons, List.foldl_nil, nth, List.set_cons_zero, List.set_cons_succ]
      try dsimp only [Fr.putO, Fr.put, Fr.clean, Fr.ev, Fr.get, nth, Go.V.look, List.set_cons_succ, List.set_cons_zero, ofVal_int, ofVal_bool, ofVal_str, ofVal_nul, ofVal_pnil, ofVal_nilfn, ofVal_nilif, List.length, List.cons_append, List.nil_append, List.append_nil, Nat.reduceSub, Nat.reduceAdd, List.map, List.map_cons, List.map_nil]
      try change EvC _ _ _ _ _ _
      try change EvC _ _ _ _ _ _
      repeat refine EvC.seq ?_
      refine EvC.cond (by assumption) (fun h2 => ?_) (fun h2 => ?_) <;> try simp only [decide_eq_true_eq, decide_eq_false_iff_not, beq_iff_eq, beq_eq_false_iff_ne, bne_iff_ne, bne_eq_false_iff_eq, ne_eq, Bool.not_eq_true', Bool.not_eq_false', Bool.not_eq_true, Bool.not_eq_false] at h2
      · try change EvC _ _ _ _ _ _
        repeat refine EvC.seq ?_
        try generalize hK : SeqQ _ _ _ _ = K
        refine EvC.reg ?_
        refine EvO.mv (.inr rfl) rfl (ev rfl) (by dsimp only [Fr.put, List.set_cons_succ, List.set_cons_zero] <;> rfl) ?_
        refine EvO.nil ?_
        try subst hK
        try change EvC _ _ _ _ _ _
        rw [hsp, h2]
        simp only [Bool.and_false]
        refine EvC.ret ⟨fun i h => (by cases h), _, rfl, leave_ro (by simp) hSb hH (rfl)⟩
      · refine EvC.skip ?_
        try change EvC _ _ _ _ _ _
        refine ⟨0, 0, i.rd, true, i.rs, _, _, _, _, _, _, _, _, _, _, _, _, _, _, _, _, rfl, hH, hrd, ?_⟩
        rw [hsp, h2]
        cases hx : (i.x == 0) <;> cases hy : (i.y == 0) <;> simp
    · have hsp : shapedS p.code.length p.starts.length pc i = (i.rs.isEmpty && (if i.op = 2 then inS i.x p.code.length && inS i.y p.code.length
     else i.y == 0 &&
      (if i.op = 3 then inS i.x p.code.length
       else if i.op = 4 then decide (((pc + 1 : Nat) : Int) < p.code.length) && inS i.x 10
       else if i.op = 5 ∨ i.op = 6 then decide (((pc + 1 : Nat) : Int) < p.code.length) && i.x == 0
       else if i.op = 7 then inS i.x p.starts.length
       else false))) := by unfold shapedS; rw [if_neg h1]
      have hem : i.rs.isEmpty = ((i.rs.length : Int) == (([] : List Rg).length : Int)) := by cases i.rs <;> simp <;> omega
      have hnl : SlD .nul 2 (([] : List Rg).map rangeC) := .inl ⟨rfl, rfl⟩
      try change EvC _ _ _ _ _ _
      repeat refine EvC.seq ?_
      try generalize hK : SeqQ _ _ _ _ = K
      refine EvC.reg ?_
      refine EvO.go rfl rfl rfl (put_T rfl _) ?_
      refine EvO.mv (.inr rfl) rfl (ev rfl) (put_T rfl _) ?_
      refine EvO.nil ?_
      try subst hK
      try change EvC _ _ _ _ _ _
      try change EvC _ _ _ _ _ _
      repeat refine EvC.seq ?_
      refine EvC.cond (by rfl) (fun h2 => ?_) (fun h2 => ?_) <;> try simp only [decide_eq_true_eq, decide_eq_false_iff_not, beq_iff_eq, beq_eq_false_iff_ne, bne_iff_ne, bne_eq_false_iff_eq, ne_eq, Bool.not_eq_true', Bool.not_eq_false', Bool.not_eq_true, Bool.not_eq_false] at h2
      · rw [if_pos h2] at hsp
        try change EvC _ _ _ _ _ _
        repeat refine EvC.seq ?_
        try generalize hK : SeqQ _ _ _ _ = K
        refine EvC.reg ?_
        refine EvO.mv (.inr rfl) rfl (ev rfl) (by dsimp only [Fr.put, List.set_cons_succ, List.set_cons_zero] <;> rfl) ?_
        refine EvO.nil ?_
        try subst hK
        try change EvC _ _ _ _ _ _
        have hH0 := hH
        try change EvC _ _ _ _ _ _
        repeat refine EvC.seq ?_
        try generalize hK : SeqQ _ _ _ _ = K
        refine EvC.regY rfl ?_
        refine EvY.cons ?_
        refine EvO.pfield (fo := 1) (m := 0) (o := 1) rfl (ev rfl) rfl rfl rfl (put_T rfl _) ?_
        refine EvO.nil ⟨rfl, ?_⟩
        refine EvY.cons ?_
        refine EvO.hload hH rfl (ev rfl) (by exact at1) rfl (put_T rfl _) ?_
        refine EvO.nil ⟨rfl, ?_⟩
        refine EvY.cons ?_
        refine EvO.pfield (fo := 2) (m := 0) (o := 2) rfl (ev rfl) rfl rfl rfl (put_T rfl _) ?_
        refine EvO.nil ⟨rfl, ?_⟩
        refine EvY.cons ?_
        refine EvO.hload hH rfl (ev rfl) (by exact at1) rfl (put_T rfl _) ?_
        refine EvO.nil ⟨rfl, ?_⟩
        refine EvY.cons ?_
        refine EvO.pfield (fo := 1) (m := 0) (o := 1) rfl (ev rfl) rfl rfl rfl (put_T rfl _) ?_
        refine EvO.nil ⟨rfl, ?_⟩
        refine EvY.cons ?_
        refine EvO.hstore hH rfl (ev rfl) (ev rfl) (by rfl) (by exact rfl) (by exact at0) (by exact Nat.le_of_ble_eq_true rfl) (by exact .inl hF) (fun st hH => ?_)
        try dsimp only [List.set_cons_zero, List.set_cons_succ, List.cons_append, List.nil_append, setMany, List.map_cons, List.map_nil, D.cells, Nat.reduceAdd, List.nil_append, Pg.cs, insC, intC] at hH
        refine EvO.nil ⟨by exact Bool.and_eq_true_iff.2 ⟨chk_still rfl rfl rfl (hH0.at at1) (hH.at at1) (hH0.at at1) (by simp [refs, D.ref, hrd.ref]), rfl⟩, ?_⟩
        refine EvY.cons ?_
        refine EvO.pfield (fo := 2) (m := 0) (o := 2) rfl (ev rfl) rfl rfl rfl (put_T rfl _) ?_
        refine EvO.nil ⟨rfl, ?_⟩
        refine EvY.cons ?_
        refine EvO.hstore hH rfl (ev rfl) (ev rfl) (by rfl) (by exact rfl) (by exact at0) (by exact Nat.le_of_ble_eq_true rfl) (by exact .inl hF) (fun st hH => ?_)
        try dsimp only [List.set_cons_zero, List.set_cons_succ, List.cons_append, List.nil_append, setMany, List.map_cons, List.map_nil, D.cells, Nat.reduceAdd, List.nil_append, Pg.cs, insC, intC] at hH
        refine EvO.nil ⟨rfl, ?_⟩
        refine EvY.nil ?_
        try subst hK
        try change EvC _ _ _ _ _ _
        try change EvC _ _ _ _ _ _
        repeat refine EvC.seq ?_
        refine EvC.cutT 58 (.bool (((decide (i.x < 0) || decide (i.x ≥ p.code.length)) || decide (i.y < 0)) || decide (i.y ≥ p.code.length))) [] ?_ (fun ff tmp htmp => ?_)
        · refine EvO.pfield (fo := 1) (m := 0) (o := 1) rfl (ev rfl) rfl rfl rfl (put_T rfl _) ?_
          refine EvO.hload hH rfl (ev rfl) (by exact at1) rfl (put_T rfl _) ?_
          refine EvO.go rfl rfl rfl (put_T rfl _) ?_
          refine EvO.mv (.inl rfl) rfl (ev rfl) (put_T rfl _) ?_
          refine EvO.two 42 rfl (fun hg3 => ?_) (fun hg3 => ?_)
          · refine EvO.skip (wantD_not rfl rfl rfl hg3) (put_T rfl _) ?_
            refine EvO.skip (wantD_not rfl rfl rfl hg3) (put_T rfl _) ?_
            refine EvO.skip (wantD_not rfl rfl rfl hg3) (put_T rfl _) ?_
            refine EvO.skip (wantD_not rfl rfl rfl hg3) (put_T rfl _) ?_
            refine EvO.pickT rfl rfl hg3 (put_T rfl _) ?_
            refine EvO.mv (.inl rfl) rfl (ev rfl) (put_T rfl _) ?_
            refine EvO.skip rfl (put_T rfl _) ?_
            refine EvO.skip rfl (put_T rfl _) ?_
            refine EvO.skip rfl (put_T rfl _) ?_
            refine EvO.go rfl rfl rfl (put_T rfl _) ?_
            refine EvO.mv (.inl rfl) rfl (ev rfl) (put_T rfl _) ?_
            refine EvO.skip rfl (put_T rfl _) ?_
            refine EvO.skip rfl (put_T rfl _) ?_
            refine EvO.skip rfl (put_T rfl _) ?_
            refine EvO.skip rfl (put_T rfl _) ?_
            refine EvO.go rfl rfl rfl (put_T rfl _) ?_
            refine EvO.nil (leafT ?_ ?_)
            · try dsimp only [setW, List.foldl_cons, List.foldl_nil, nth, List.set_cons_zero, List.set_cons_succ]
              all_goals (first | rfl | simp)
            · try dsimp only [Fr.putO, Fr.put, Fr.clean, Fr.ev, Fr.get, nth, Go.V.look, List.set_cons_succ, List.set_cons_zero, ofVal_int, ofVal_bool, ofVal_str, ofVal_nul, ofVal_pnil, ofVal_nilfn, ofVal_nilif, List.length, List.cons_append, List.nil_append, List.append_nil, Nat.reduceSub, Nat.reduceAdd, List.map, List.map_cons, List.map_nil]
              all_goals (simp [hg3]; done)
          · refine EvO.pfield (fo := 1) (m := 0) (o := 1) (wantD_is rfl rfl rfl hg3) (ev rfl) rfl rfl rfl (put_T rfl _) ?_
            refine EvO.hload hH (wantD_is rfl rfl rfl hg3) (ev rfl) (by exact at1) rfl (put_T rfl _) ?_
            refine EvO.mv (.inl rfl) (wantD_is rfl rfl rfl hg3) (ev rfl) (put_T rfl _) ?_
            refine EvO.go (wantD_is rfl rfl rfl hg3) rfl rfl (put_T rfl _) ?_
            refine EvO.pickF rfl rfl hg3 (put_T rfl _) ?_
            refine EvO.mv (.inl rfl) rfl (ev rfl) (put_T rfl _) ?_
            refine EvO.two 48 rfl (fun hg9 => ?_) (fun hg9 => ?_)
            · refine EvO.skip (wantD_not rfl rfl rfl hg9) (put_T rfl _) ?_
              refine EvO.skip (wantD_not rfl rfl rfl hg9) (put_T rfl _) ?_
              refine EvO.skip (wantD_not rfl rfl rfl hg9) (put_T rfl _) ?_
              refine EvO.pickT rfl rfl hg9 (put_T rfl _) ?_
              refine EvO.mv (.inl rfl) rfl (ev rfl) (put_T rfl _) ?_
              refine EvO.skip rfl (put_T rfl _) ?_
              refine EvO.skip rfl (put_T rfl _) ?_
              refine EvO.skip rfl (put_T rfl _) ?_
              refine EvO.skip rfl (put_T rfl _) ?_
              refine EvO.go rfl rfl rfl (put_T rfl _) ?_
              refine EvO.nil (leafT ?_ ?_)
              · try dsimp only [setW, List.foldl_cons, List.foldl_nil, nth, List.set_cons_zero, List.set_cons_succ]
                all_goals (first | rfl | simp)
              · try dsimp only [Fr.putO, Fr.put, Fr.clean, Fr.ev, Fr.get, nth, Go.V.look, List.set_cons_succ, List.set_cons_zero, ofVal_int, ofVal_bool, ofVal_str, ofVal_nul, ofVal_pnil, ofVal_nilfn, ofVal_nilif, List.length, List.cons_append, List.nil_append, List.append_nil, Nat.reduceSub, Nat.reduceAdd, List.map, List.map_cons, List.map_nil]
                all_goals (simp [hg3, hg9]; done)
            · refine EvO.pfield (fo := 2) (m := 0) (o := 2) (wantD_is rfl rfl rfl hg9) (ev rfl) rfl rfl rfl (put_T rfl _) ?_
              refine EvO.hload hH (wantD_is rfl rfl rfl hg9) (ev rfl) (by exact at1) rfl (put_T rfl _) ?_
              refine EvO.go (wantD_is rfl rfl rfl hg9) rfl rfl (put_T rfl _) ?_
              refine EvO.pickF rfl rfl hg9 (put_T rfl _) ?_
              refine EvO.mv (.inl rfl) rfl (ev rfl) (put_T rfl _) ?_
              refine EvO.two 53 rfl (fun hg14 => ?_) (fun hg14 => ?_)
              · refine EvO.skip (wantD_not rfl rfl rfl hg14) (put_T rfl _) ?_
                refine EvO.skip (wantD_not rfl rfl rfl hg14) (put_T rfl _) ?_
                refine EvO.skip (wantD_not rfl rfl rfl hg14) (put_T rfl _) ?_
                refine EvO.skip (wantD_not rfl rfl rfl hg14) (put_T rfl _) ?_
                refine EvO.pickT rfl rfl hg14 (put_T rfl _) ?_
                refine EvO.nil (leafT ?_ ?_)
                · try dsimp only [setW, List.foldl_cons, List.foldl_nil, nth, List.set_cons_zero, List.set_cons_succ]
                  all_goals (first | rfl | simp)
                · try dsimp only [Fr.putO, Fr.put, Fr.clean, Fr.ev, Fr.get, nth, Go.V.look, List.set_cons_succ, List.set_cons_zero, ofVal_int, ofVal_bool, ofVal_str, ofVal_nul, ofVal_pnil, ofVal_nilfn, ofVal_nilif, List.length, List.cons_append, List.nil_append, List.append_nil, Nat.reduceSub, Nat.reduceAdd, List.map, List.map_cons, List.map_nil]
                  all_goals (simp [hg3, hg9, hg14]; done)
              · refine EvO.pfield (fo := 2) (m := 0) (o := 2) (wantD_is rfl rfl rfl hg14) (ev rfl) rfl rfl rfl (put_T rfl _) ?_
                refine EvO.hload hH (wantD_is rfl rfl rfl hg14) (ev rfl) (by exact at1) rfl (put_T rfl _) ?_
                refine EvO.mv (.inl rfl) (wantD_is rfl rfl rfl hg14) (ev rfl) (put_T rfl _) ?_
                refine EvO.go (wantD_is rfl rfl rfl hg14) rfl rfl (put_T rfl _) ?_
                refine EvO.pickF rfl rfl hg14 (put_T rfl _) ?_
                refine EvO.nil (leafT ?_ ?_)
                · try dsimp only [setW, List.foldl_cons, List.foldl_nil, nth, List.set_cons_zero, List.set_cons_succ]
                  all_goals (first | rfl | simp)
                · try dsimp only [Fr.putO, Fr.put, Fr.clean, Fr.ev, Fr.get, nth, Go.V.look, List.set_cons_succ, List.set_cons_zero, ofVal_int, ofVal_bool, ofVal_str, ofVal_nul, ofVal_pnil, ofVal_nilfn, ofVal_nilif, List.length, List.cons_append, List.nil_append, List.append_nil, Nat.reduceSub, Nat.reduceAdd, List.map, List.map_cons, List.map_nil]
                  all_goals (simp [hg3, hg9, hg14]; done)
        try dsimp only [setW, List.foldl_cons, List.foldl_nil, nth, List.set_cons_zero, List.set_cons_succ]
        try dsimp only [Fr.putO, Fr.put, Fr.clean, Fr.ev, Fr.get, nth, Go.V.look, List.set_cons_succ, List.set_cons_zero, ofVal_int, ofVal_bool, ofVal_str, ofVal_nul, ofVal_pnil, ofVal_nilfn, ofVal_nilif, List.length, List.cons_append, List.nil_append, List.append_nil, Nat.reduceSub, Nat.reduceAdd, List.map, List.map_cons, List.map_nil]
        try change EvC _ _ _ _ _ _
        have hin : (inS i.x p.code.length && inS i.y p.code.length) = !(((decide (i.x < 0) || decide (i.x ≥ p.code.length)) || decide (i.y < 0)) || decide (i.y ≥ p.code.length)) := by
          unfold inS; simp only [Bool.not_or, ← decide_not, Int.not_lt, Int.not_le, ge_iff_le, Bool.and_assoc]
        try change EvC _ _ _ _ _ _
        repeat refine EvC.seq ?_
        refine EvC.cond (by assumption) (fun h3 => ?_) (fun h3 => ?_) <;> try simp only [decide_eq_true_eq, decide_eq_false_iff_not, beq_iff_eq, beq_eq_false_iff_ne, bne_iff_ne, bne_eq_false_iff_eq, ne_eq, Bool.not_eq_true', Bool.not_eq_false', Bool.not_eq_true, Bool.not_eq_false] at h3
        · try change EvC _ _ _ _ _ _
          repeat refine EvC.seq ?_
          try generalize hK : SeqQ _ _ _ _ = K
          refine EvC.reg ?_
          refine EvO.mv (.inr rfl) rfl (ev rfl) (by dsimp only [Fr.put, List.set_cons_succ, List.set_cons_zero] <;> rfl) ?_
          refine EvO.nil ?_
          try subst hK
          try change EvC _ _ _ _ _ _
          rw [hsp, hin, h3]
          simp only [Bool.not_true, Bool.and_false]
          refine EvC.ret ⟨fun i h => (by cases h), _, rfl, leave_ro (by simp) hSb hH (rfl)⟩
        · refine EvC.skip ?_
          try change EvC _ _ _ _ _ _
          exact ⟨i.x, i.y, .nul, false, [], _, _, _, _, _, _, _, _, _, _, _, _, _, _, _, _, rfl, hH, hnl, by rw [hsp, hin, h3, hem]; simp⟩
      · rw [if_neg h2] at hsp
        try change EvC _ _ _ _ _ _
        repeat refine EvC.seq ?_
        try generalize hK : SeqQ _ _ _ _ = K
        refine EvC.reg ?_
        refine EvO.go rfl rfl rfl (put_T rfl _) ?_
        refine EvO.mv (.inr rfl) rfl (ev rfl) (put_T rfl _) ?_
        refine EvO.nil ?_
        try subst hK
        try change EvC _ _ _ _ _ _
        try change EvC _ _ _ _ _ _
        repeat refine EvC.seq ?_
        refine EvC.cond (by rfl) (fun h3 => ?_) (fun h3 => ?_) <;> try simp only [decide_eq_true_eq, decide_eq_false_iff_not, beq_iff_eq, beq_eq_false_iff_ne, bne_iff_ne, bne_eq_false_iff_eq, ne_eq, Bool.not_eq_true', Bool.not_eq_false', Bool.not_eq_true, Bool.not_eq_false] at h3
        · rw [if_pos h3] at hsp
          try change EvC _ _ _ _ _ _
          repeat refine EvC.seq ?_
          try generalize hK : SeqQ _ _ _ _ = K
          refine EvC.reg ?_
          refine EvO.mv (.inr rfl) rfl (ev rfl) (by dsimp only [Fr.put, List.set_cons_succ, List.set_cons_zero] <;> rfl) ?_
          refine EvO.nil ?_
          try subst hK
          try change EvC _ _ _ _ _ _
          try change EvC _ _ _ _ _ _
          repeat refine EvC.seq ?_
          try generalize hK : SeqQ _ _ _ _ = K
          refine EvC.reg ?_
          refine EvO.pfield (fo := 1) (m := 0) (o := 1) rfl (ev rfl) rfl rfl rfl (put_T rfl _) ?_
          refine EvO.hload hH rfl (ev rfl) (by exact at1) rfl (put_T rfl _) ?_
          refine EvO.pfield (fo := 1) (m := 0) (o := 1) rfl (ev rfl) rfl rfl rfl (put_T rfl _) ?_
          refine EvO.hstore hH rfl (ev rfl) (ev rfl) (by rfl) (by exact rfl) (by exact at0) (by exact Nat.le_of_ble_eq_true rfl) (by exact .inl hF) (fun st hH => ?_)
          try dsimp only [List.set_cons_zero, List.set_cons_succ, List.cons_append, List.nil_append, setMany, List.map_cons, List.map_nil, D.cells, Nat.reduceAdd, List.nil_append, Pg.cs, insC, intC] at hH
          refine EvO.nil ?_
          try subst hK
          try change EvC _ _ _ _ _ _
          try change EvC _ _ _ _ _ _
          repeat refine EvC.seq ?_
          refine EvC.cutT 72 (.bool (decide (i.x < 0) || decide (i.x ≥ p.code.length))) [] ?_ (fun ff tmp htmp => ?_)
          · refine EvO.pfield (fo := 1) (m := 0) (o := 1) rfl (ev rfl) rfl rfl rfl (put_T rfl _) ?_
            refine EvO.hload hH rfl (ev rfl) (by exact at1) rfl (put_T rfl _) ?_
            refine EvO.go rfl rfl rfl (put_T rfl _) ?_
            refine EvO.mv (.inl rfl) rfl (ev rfl) (put_T rfl _) ?_
            refine EvO.two 67 rfl (fun hg3 => ?_) (fun hg3 => ?_)
            · refine EvO.skip (wantD_not rfl rfl rfl hg3) (put_T rfl _) ?_
              refine EvO.skip (wantD_not rfl rfl rfl hg3) (put_T rfl _) ?_
              refine EvO.skip (wantD_not rfl rfl rfl hg3) (put_T rfl _) ?_
              refine EvO.skip (wantD_not rfl rfl rfl hg3) (put_T rfl _) ?_
              refine EvO.pickT rfl rfl hg3 (put_T rfl _) ?_
              refine EvO.nil (leafT ?_ ?_)
              · try dsimp only [setW, List.foldl_cons, List.foldl_nil, nth, List.set_cons_zero, List.set_cons_succ]
                all_goals (first | rfl | simp)
              · try dsimp only [Fr.putO, Fr.put, Fr.clean, Fr.ev, Fr.get, nth, Go.V.look, List.set_cons_succ, List.set_cons_zero, ofVal_int, ofVal_bool, ofVal_str, ofVal_nul, ofVal_pnil, ofVal_nilfn, ofVal_nilif, List.length, List.cons_append, List.nil_append, List.append_nil, Nat.reduceSub, Nat.reduceAdd, List.map, List.map_cons, List.map_nil]
                all_goals (simp [hg3]; done)
            · refine EvO.pfield (fo := 1) (m := 0) (o := 1) (wantD_is rfl rfl rfl hg3) (ev rfl) rfl rfl rfl (put_T rfl _) ?_
              refine EvO.hload hH (wantD_is rfl rfl rfl hg3) (ev rfl) (by exact at1) rfl (put_T rfl _) ?_
              refine EvO.mv (.inl rfl) (wantD_is rfl rfl rfl hg3) (ev rfl) (put_T rfl _) ?_
              refine EvO.go (wantD_is rfl rfl rfl hg3) rfl rfl (put_T rfl _) ?_
              refine EvO.pickF rfl rfl hg3 (put_T rfl _) ?_
              refine EvO.nil (leafT ?_ ?_)
              · try dsimp only [setW, List.foldl_cons, List.foldl_nil, nth, List.set_cons_zero, List.set_cons_succ]
                all_goals (first | rfl | simp)
              · try dsimp only [Fr.putO, Fr.put, Fr.clean, Fr.ev, Fr.get, nth, Go.V.look, List.set_cons_succ, List.set_cons_zero, ofVal_int, ofVal_bool, ofVal_str, ofVal_nul, ofVal_pnil, ofVal_nilfn, ofVal_nilif, List.length, List.cons_append, List.nil_append, List.append_nil, Nat.reduceSub, Nat.reduceAdd, List.map, List.map_cons, List.map_nil]
                all_goals (simp [hg3]; done)
          try dsimp only [setW, List.foldl_cons, List.foldl_nil, nth, List.set_cons_zero, List.set_cons_succ]
          try dsimp only [Fr.putO, Fr.put, Fr.clean, Fr.ev, Fr.get, nth, Go.V.look, List.set_cons_succ, List.set_cons_zero, ofVal_int, ofVal_bool, ofVal_str, ofVal_nul, ofVal_pnil, ofVal_nilfn, ofVal_nilif, List.length, List.cons_append, List.nil_append, List.append_nil, Nat.reduceSub, Nat.reduceAdd, List.map, List.map_cons, List.map_nil]
          try change EvC _ _ _ _ _ _
          have hin : inS i.x p.code.length = !(decide (i.x < 0) || decide (i.x ≥ p.code.length)) := by
            unfold inS; simp only [Bool.not_or, ← decide_not, Int.not_lt, Int.not_le, ge_iff_le]
          try change EvC _ _ _ _ _ _
          repeat refine EvC.seq ?_
          refine EvC.cond (by assumption) (fun h4 => ?_) (fun h4 => ?_) <;> try simp only [decide_eq_true_eq, decide_eq_false_iff_not, beq_iff_eq, beq_eq_false_iff_ne, bne_iff_ne, bne_eq_false_iff_eq, ne_eq, Bool.not_eq_true', Bool.not_eq_false', Bool.not_eq_true, Bool.not_eq_false] at h4
          · try change EvC _ _ _ _ _ _
            repeat refine EvC.seq ?_
            try generalize hK : SeqQ _ _ _ _ = K
            refine EvC.reg ?_
            refine EvO.mv (.inr rfl) rfl (ev rfl) (by dsimp only [Fr.put, List.set_cons_succ, List.set_cons_zero] <;> rfl) ?_
            refine EvO.nil ?_
            try subst hK
            try change EvC _ _ _ _ _ _
            rw [hsp, hin, h4]
            simp only [Bool.not_true, Bool.and_false]
            refine EvC.ret ⟨fun i h => (by cases h), _, rfl, leave_ro (by simp) hSb hH (rfl)⟩
          · refine EvC.skip ?_
            try change EvC _ _ _ _ _ _
            exact ⟨i.x, 0, .nul, false, [], _, _, _, _, _, _, _, _, _, _, _, _, _, _, _, _, rfl, hH, hnl, by rw [hsp, hin, h4, hem]; cases (i.y == 0) <;> simp⟩
        · rw [if_neg h3] at hsp
          try change EvC _ _ _ _ _ _
          repeat refine EvC.seq ?_
          try generalize hK : SeqQ _ _ _ _ = K
          refine EvC.reg ?_
          refine EvO.go rfl rfl rfl (put_T rfl _) ?_
          refine EvO.mv (.inr rfl) rfl (ev rfl) (put_T rfl _) ?_
          refine EvO.nil ?_
          try subst hK
          try change EvC _ _ _ _ _ _
          try change EvC _ _ _ _ _ _
          repeat refine EvC.seq ?_
          refine EvC.cond (by rfl) (fun h4 => ?_) (fun h4 => ?_) <;> try simp only [decide_eq_true_eq, decide_eq_false_iff_not, beq_iff_eq, beq_eq_false_iff_ne, bne_iff_ne, bne_eq_false_iff_eq, ne_eq, Bool.not_eq_true', Bool.not_eq_false', Bool.not_eq_true, Bool.not_eq_false] at h4
          · rw [if_pos h4] at hsp
            try change EvC _ _ _ _ _ _
            repeat refine EvC.seq ?_
            try generalize hK : SeqQ _ _ _ _ = K
            refine EvC.reg ?_
            refine EvO.pfield (fo := 1) (m := 0) (o := 1) rfl (ev rfl) rfl rfl rfl (put_T rfl _) ?_
            refine EvO.hload hH rfl (ev rfl) (by exact at1) rfl (put_T rfl _) ?_
            refine EvO.pfield (fo := 1) (m := 0) (o := 1) rfl (ev rfl) rfl rfl rfl (put_T rfl _) ?_
            refine EvO.hstore hH rfl (ev rfl) (ev rfl) (by rfl) (by exact rfl) (by exact at0) (by exact Nat.le_of_ble_eq_true rfl) (by exact .inl hF) (fun st hH => ?_)
            try dsimp only [List.set_cons_zero, List.set_cons_succ, List.cons_append, List.nil_append, setMany, List.map_cons, List.map_nil, D.cells, Nat.reduceAdd, List.nil_append, Pg.cs, insC, intC] at hH
            refine EvO.nil ?_
            try subst hK
            try change EvC _ _ _ _ _ _
            try change EvC _ _ _ _ _ _
            repeat refine EvC.seq ?_
            refine EvC.cutT 85 (.bool (decide (i.x < 0) || decide (i.x ≥ 10))) [] ?_ (fun ff tmp htmp => ?_)
            · refine EvO.pfield (fo := 1) (m := 0) (o := 1) rfl (ev rfl) rfl rfl rfl (put_T rfl _) ?_
              refine EvO.hload hH rfl (ev rfl) (by exact at1) rfl (put_T rfl _) ?_
              refine EvO.go rfl rfl rfl (put_T rfl _) ?_
              refine EvO.mv (.inl rfl) rfl (ev rfl) (put_T rfl _) ?_
              refine EvO.two 81 rfl (fun hg3 => ?_) (fun hg3 => ?_)
              · refine EvO.skip (wantD_not rfl rfl rfl hg3) (put_T rfl _) ?_
                refine EvO.skip (wantD_not rfl rfl rfl hg3) (put_T rfl _) ?_
                refine EvO.skip (wantD_not rfl rfl rfl hg3) (put_T rfl _) ?_
                refine EvO.pickT rfl rfl hg3 (put_T rfl _) ?_
                refine EvO.nil (leafT ?_ ?_)
                · try dsimp only [setW, List.foldl_cons, List.foldl_nil, nth, List.set_cons_zero, List.set_cons_succ]
                  all_goals (first | rfl | simp)
                · try dsimp only [Fr.putO, Fr.put, Fr.clean, Fr.ev, Fr.get, nth, Go.V.look, List.set_cons_succ, List.set_cons_zero, ofVal_int, ofVal_bool, ofVal_str, ofVal_nul, ofVal_pnil, ofVal_nilfn, ofVal_nilif, List.length, List.cons_append, List.nil_append, List.append_nil, Nat.reduceSub, Nat.reduceAdd, List.map, List.map_cons, List.map_nil]
                  all_goals (simp [hg3]; done)
              · refine EvO.pfield (fo := 1) (m := 0) (o := 1) (wantD_is rfl rfl rfl hg3) (ev rfl) rfl rfl rfl (put_T rfl _) ?_
                refine EvO.hload hH (wantD_is rfl rfl rfl hg3) (ev rfl) (by exact at1) rfl (put_T rfl _) ?_
                refine EvO.go (wantD_is rfl rfl rfl hg3) rfl rfl (put_T rfl _) ?_
                refine EvO.pickF rfl rfl hg3 (put_T rfl _) ?_
                refine EvO.nil (leafT ?_ ?_)
                · try dsimp only [setW, List.foldl_cons, List.foldl_nil, nth, List.set_cons_zero, List.set_cons_succ]
                  all_goals (first | rfl | simp)
                · try dsimp only [Fr.putO, Fr.put, Fr.clean, Fr.ev, Fr.get, nth, Go.V.look, List.set_cons_succ, List.set_cons_zero, ofVal_int, ofVal_bool, ofVal_str, ofVal_nul, ofVal_pnil, ofVal_nilfn, ofVal_nilif, List.length, List.cons_append, List.nil_append, List.append_nil, Nat.reduceSub, Nat.reduceAdd, List.map, List.map_cons, List.map_nil]
                  all_goals (simp [hg3]; done)
            try dsimp only [setW, List.foldl_cons, List.foldl_nil, nth, List.set_cons_zero, List.set_cons_succ]
            try dsimp only [Fr.putO, Fr.put, Fr.clean, Fr.ev, Fr.get, nth, Go.V.look, List.set_cons_succ, List.set_cons_zero, ofVal_int, ofVal_bool, ofVal_str, ofVal_nul, ofVal_pnil, ofVal_nilfn, ofVal_nilif, List.length, List.cons_append, List.nil_append, List.append_nil, Nat.reduceSub, Nat.reduceAdd, List.map, List.map_cons, List.map_nil]
            try change EvC _ _ _ _ _ _
            have hin : inS i.x 10 = !(decide (i.x < 0) || decide (i.x ≥ 10)) := by
              unfold inS; simp only [Bool.not_or, ← decide_not, Int.not_lt, Int.not_le, ge_iff_le]
            try change EvC _ _ _ _ _ _
            repeat refine EvC.seq ?_
            refine EvC.cond (by assumption) (fun h5 => ?_) (fun h5 => ?_) <;> try simp only [decide_eq_true_eq, decide_eq_false_iff_not, beq_iff_eq, beq_eq_false_iff_ne, bne_iff_ne, bne_eq_false_iff_eq, ne_eq, Bool.not_eq_true', Bool.not_eq_false', Bool.not_eq_true, Bool.not_eq_false] at h5
            · try change EvC _ _ _ _ _ _
              repeat refine EvC.seq ?_
              try generalize hK : SeqQ _ _ _ _ = K
              refine EvC.reg ?_
              refine EvO.mv (.inr rfl) rfl (ev rfl) (by dsimp only [Fr.put, List.set_cons_succ, List.set_cons_zero] <;> rfl) ?_
              refine EvO.nil ?_
              try subst hK
              try change EvC _ _ _ _ _ _
              rw [hsp, hin, h5]
              simp only [Bool.not_true, Bool.and_false]
              refine EvC.ret ⟨fun i h => (by cases h), _, rfl, leave_ro (by simp) hSb hH (rfl)⟩
            · refine EvC.skip ?_
              try change EvC _ _ _ _ _ _
              exact ⟨i.x, 0, .nul, true, [], _, _, _, _, _, _, _, _, _, _, _, _, _, _, _, _, rfl, hH, hnl, by rw [hsp, hin, h5, hem]; cases (i.y == 0) <;> simp⟩
          · rw [if_neg h4] at hsp
            try change EvC _ _ _ _ _ _
            repeat refine EvC.seq ?_
            try generalize hK : SeqQ _ _ _ _ = K
            refine EvC.reg ?_
            refine EvO.go rfl rfl rfl (put_T rfl _) ?_
            refine EvO.mv (.inr rfl) rfl (ev rfl) (put_T rfl _) ?_
            refine EvO.nil ?_
            try subst hK
            try change EvC _ _ _ _ _ _
            by_cases h5 : i.op = 5
            · rw [if_pos (.inl h5)] at hsp
              try change EvC _ _ _ _ _ _
              repeat refine EvC.seq ?_
              refine EvC.cond (v := true) (by dsimp only [Fr.ev, Fr.get, nth, Go.V.look]; simp [h5]) (fun _ => ?_) (fun h => by cases h)
              try change EvC _ _ _ _ _ _
              refine EvC.skip ?_
              try change EvC _ _ _ _ _ _
              try change EvC _ _ _ _ _ _
              repeat refine EvC.seq ?_
              refine EvC.cond (v := true) (by dsimp only [Fr.ev, Fr.get, nth, Go.V.look]; simp [h5]) (fun _ => ?_) (fun h => by cases h)
              try change EvC _ _ _ _ _ _
              refine EvC.skip ?_
              try change EvC _ _ _ _ _ _
              exact ⟨0, 0, .nul, true, [], _, _, _, _, _, _, _, _, _, _, _, _, _, _, _, _, rfl, hH, hnl, by rw [hsp, hem]; cases (i.y == 0) <;> cases (i.x == 0) <;> simp⟩
            · try change EvC _ _ _ _ _ _
              repeat refine EvC.seq ?_
              refine EvC.cond (v := false) (by dsimp only [Fr.ev, Fr.get, nth, Go.V.look]; simp [h5]) (fun h => by cases h) (fun _ => ?_)
              try change EvC _ _ _ _ _ _
              try change EvC _ _ _ _ _ _
              repeat refine EvC.seq ?_
              try generalize hK : SeqQ _ _ _ _ = K
              refine EvC.reg ?_
              refine EvO.go rfl rfl rfl (put_T rfl _) ?_
              refine EvO.mv (.inr rfl) rfl (ev rfl) (put_T rfl _) ?_
              refine EvO.nil ?_
              try subst hK
              try change EvC _ _ _ _ _ _
              try change EvC _ _ _ _ _ _
              repeat refine EvC.seq ?_
              refine EvC.cond (by rfl) (fun h6 => ?_) (fun h6 => ?_) <;> try simp only [decide_eq_true_eq, decide_eq_false_iff_not, beq_iff_eq, beq_eq_false_iff_ne, bne_iff_ne, bne_eq_false_iff_eq, ne_eq, Bool.not_eq_true', Bool.not_eq_false', Bool.not_eq_true, Bool.not_eq_false] at h6
              · rw [if_pos (.inr h6)] at hsp
                refine EvC.skip ?_
                try change EvC _ _ _ _ _ _
                exact ⟨0, 0, .nul, true, [], _, _, _, _, _, _, _, _, _, _, _, _, _, _, _, _, rfl, hH, hnl, by rw [hsp, hem]; cases (i.y == 0) <;> cases (i.x == 0) <;> simp⟩
              · rw [if_neg (by omega)] at hsp
                try change EvC _ _ _ _ _ _
                repeat refine EvC.seq ?_
                try generalize hK : SeqQ _ _ _ _ = K
                refine EvC.reg ?_
                refine EvO.go rfl rfl rfl (put_T rfl _) ?_
                refine EvO.mv (.inr rfl) rfl (ev rfl) (put_T rfl _) ?_
                refine EvO.nil ?_
                try subst hK
                try change EvC _ _ _ _ _ _
                try change EvC _ _ _ _ _ _
                repeat refine EvC.seq ?_
                refine EvC.cond (by rfl) (fun h7 => ?_) (fun h7 => ?_) <;> try simp only [decide_eq_true_eq, decide_eq_false_iff_not, beq_iff_eq, beq_eq_false_iff_ne, bne_iff_ne, bne_eq_false_iff_eq, ne_eq, Bool.not_eq_true', Bool.not_eq_false', Bool.not_eq_true, Bool.not_eq_false] at h7
                · rw [if_pos h7] at hsp
                  try change EvC _ _ _ _ _ _
                  repeat refine EvC.seq ?_
                  try generalize hK : SeqQ _ _ _ _ = K
                  refine EvC.reg ?_
                  refine EvO.mv (.inr rfl) rfl (ev rfl) (by dsimp only [Fr.put, List.set_cons_succ, List.set_cons_zero] <;> rfl) ?_
                  refine EvO.nil ?_
                  try subst hK
                  try change EvC _ _ _ _ _ _
                  try change EvC _ _ _ _ _ _
                  repeat refine EvC.seq ?_
                  try generalize hK : SeqQ _ _ _ _ = K
                  refine EvC.reg ?_
                  refine EvO.pfield (fo := 1) (m := 0) (o := 1) rfl (ev rfl) rfl rfl rfl (put_T rfl _) ?_
                  refine EvO.hload hH rfl (ev rfl) (by exact at1) rfl (put_T rfl _) ?_
                  refine EvO.pfield (fo := 1) (m := 0) (o := 1) rfl (ev rfl) rfl rfl rfl (put_T rfl _) ?_
                  refine EvO.hstore hH rfl (ev rfl) (ev rfl) (by rfl) (by exact rfl) (by exact at0) (by exact Nat.le_of_ble_eq_true rfl) (by exact .inl hF) (fun st hH => ?_)
                  try dsimp only [List.set_cons_zero, List.set_cons_succ, List.cons_append, List.nil_append, setMany, List.map_cons, List.map_nil, D.cells, Nat.reduceAdd, List.nil_append, Pg.cs, insC, intC] at hH
                  refine EvO.nil ?_
                  try subst hK
                  try change EvC _ _ _ _ _ _
                  try change EvC _ _ _ _ _ _
                  repeat refine EvC.seq ?_
                  refine EvC.cutT 104 (.bool (decide (i.x < 0) || decide (i.x ≥ p.starts.length))) [] ?_ (fun ff tmp htmp => ?_)
                  · refine EvO.pfield (fo := 1) (m := 0) (o := 1) rfl (ev rfl) rfl rfl rfl (put_T rfl _) ?_
                    refine EvO.hload hH rfl (ev rfl) (by exact at1) rfl (put_T rfl _) ?_
                    refine EvO.go rfl rfl rfl (put_T rfl _) ?_
                    refine EvO.mv (.inl rfl) rfl (ev rfl) (put_T rfl _) ?_
                    refine EvO.two 97 rfl (fun hg3 => ?_) (fun hg3 => ?_)
                    · refine EvO.skip (wantD_not rfl rfl rfl hg3) (put_T rfl _) ?_
                      refine EvO.skip (wantD_not rfl rfl rfl hg3) (put_T rfl _) ?_
                      refine EvO.skip (wantD_not rfl rfl rfl hg3) (put_T rfl _) ?_
                      refine EvO.skip (wantD_not rfl rfl rfl hg3) (put_T rfl _) ?_
                      refine EvO.skip (wantD_not rfl rfl rfl hg3) (put_T rfl _) ?_
                      refine EvO.skip (wantD_not rfl rfl rfl hg3) (put_T rfl _) ?_
                      refine EvO.pickT rfl rfl hg3 (put_T rfl _) ?_
                      refine EvO.nil (leafT ?_ ?_)
                      · try dsimp only [setW, List.foldl_cons, List.foldl_nil, nth, List.set_cons_zero, List.set_cons_succ]
                        all_goals (first | rfl | simp)
                      · try dsimp only [Fr.putO, Fr.put, Fr.clean, Fr.ev, Fr.get, nth, Go.V.look, List.set_cons_succ, List.set_cons_zero, ofVal_int, ofVal_bool, ofVal_str, ofVal_nul, ofVal_pnil, ofVal_nilfn, ofVal_nilif, List.length, List.cons_append, List.nil_append, List.append_nil, Nat.reduceSub, Nat.reduceAdd, List.map, List.map_cons, List.map_nil]
                        all_goals (simp [hg3]; done)
                    · refine EvO.pfield (fo := 1) (m := 0) (o := 1) (wantD_is rfl rfl rfl hg3) (ev rfl) rfl rfl rfl (put_T rfl _) ?_
                      refine EvO.hload hH (wantD_is rfl rfl rfl hg3) (ev rfl) (by exact at1) rfl (put_T rfl _) ?_
                      refine EvO.pfield (fo := 1) (m := 0) (o := 1) (wantD_is rfl rfl rfl hg3) (ev rfl) rfl rfl rfl (put_T rfl _) ?_
                      refine EvO.hload hH (wantD_is rfl rfl rfl hg3) (ev rfl) (by exact at2) rfl (put_T rfl _) ?_
                      refine EvO.rlen (wantD_is rfl rfl rfl hg3) (ev rfl) (Arg.rows (by assumption) hH) rfl (put_T rfl _) ?_
                      try simp only [List.length_map, List.length_append, List.length_cons, List.length_nil, List.length_set, List.length_replicate, List.length_reverse]
                      refine EvO.go (wantD_is rfl rfl rfl hg3) rfl rfl (put_T rfl _) ?_
                      refine EvO.pickF rfl rfl hg3 (put_T rfl _) ?_
                      refine EvO.nil (leafT ?_ ?_)
                      · try dsimp only [setW, List.foldl_cons, List.foldl_nil, nth, List.set_cons_zero, List.set_cons_succ]
                        all_goals (first | rfl | simp)
                      · try dsimp only [Fr.putO, Fr.put, Fr.clean, Fr.ev, Fr.get, nth, Go.V.look, List.set_cons_succ, List.set_cons_zero, ofVal_int, ofVal_bool, ofVal_str, ofVal_nul, ofVal_pnil, ofVal_nilfn, ofVal_nilif, List.length, List.cons_append, List.nil_append, List.append_nil, Nat.reduceSub, Nat.reduceAdd, List.map, List.map_cons, List.map_nil]
                        all_goals (simp [hg3]; done)
                  try dsimp only [setW, List.foldl_cons, List.foldl_nil, nth, List.set_cons_zero, List.set_cons_succ]
                  try dsimp only [Fr.putO, Fr.put, Fr.clean, Fr.ev, Fr.get, nth, Go.V.look, List.set_cons_succ, List.set_cons_zero, ofVal_int, ofVal_bool, ofVal_str, ofVal_nul, ofVal_pnil, ofVal_nilfn, ofVal_nilif, List.length, List.cons_append, List.nil_append, List.append_nil, Nat.reduceSub, Nat.reduceAdd, List.map, List.map_cons, List.map_nil]
                  try change EvC _ _ _ _ _ _
                  have hin : inS i.x p.starts.length = !(decide (i.x < 0) || decide (i.x ≥ p.starts.length)) := by
                    unfold inS; simp only [Bool.not_or, ← decide_not, Int.not_lt, Int.not_le, ge_iff_le]
                  try change EvC _ _ _ _ _ _
                  repeat refine EvC.seq ?_
                  refine EvC.cond (by assumption) (fun h8 => ?_) (fun h8 => ?_) <;> try simp only [decide_eq_true_eq, decide_eq_false_iff_not, beq_iff_eq, beq_eq_false_iff_ne, bne_iff_ne, bne_eq_false_iff_eq, ne_eq, Bool.not_eq_true', Bool.not_eq_false', Bool.not_eq_true, Bool.not_eq_false] at h8
                  · try change EvC _ _ _ _ _ _
                    repeat refine EvC.seq ?_
                    try generalize hK : SeqQ _ _ _ _ = K
                    refine EvC.reg ?_
                    refine EvO.mv (.inr rfl) rfl (ev rfl) (by dsimp only [Fr.put, List.set_cons_succ, List.set_cons_zero] <;> rfl) ?_
                    refine EvO.nil ?_
                    try subst hK
                    try change EvC _ _ _ _ _ _
                    rw [hsp, hin, h8]
                    simp only [Bool.not_true, Bool.and_false]
                    refine EvC.ret ⟨fun i h => (by cases h), _, rfl, leave_ro (by simp) hSb hH (rfl)⟩
                  · refine EvC.skip ?_
                    try change EvC _ _ _ _ _ _
                    exact ⟨i.x, 0, .nul, false, [], _, _, _, _, _, _, _, _, _, _, _, _, _, _, _, _, rfl, hH, hnl, by rw [hsp, hin, h8, hem]; cases (i.y == 0) <;> simp⟩
                · rw [if_neg h7] at hsp
                  try change EvC _ _ _ _ _ _
                  repeat refine EvC.seq ?_
                  try generalize hK : SeqQ _ _ _ _ = K
                  refine EvC.reg ?_
                  refine EvO.mv (.inr rfl) rfl (ev rfl) (by dsimp only [Fr.put, List.set_cons_succ, List.set_cons_zero] <;> rfl) ?_
                  refine EvO.nil ?_
                  try subst hK
                  try change EvC _ _ _ _ _ _
                  rw [hsp]
                  simp only [Bool.and_false]
                  refine EvC.ret ⟨fun i h => (by cases h), _, rfl, leave_ro (by simp) hSb hH (rfl)⟩
  · rintro fr st ⟨bx, bz, brd, fl, brs, d0, d3, d9, d10, d11, d12, d13, d14, d15, d16, d17, d18, d19, d20, d21, tmp, rfl, hH, hbr, hsh⟩
    try change EvC _ _ _ _ _ _
    have hbr2 := hbr.arg s0.bs.length S
    try change EvC _ _ _ _ _ _
    repeat refine EvC.seq ?_
    refine EvC.cutL 4 (.bool ((((i.x == bx) && (i.y == bz)) && ((i.rs.length : Int) == brs.length)) && (!fl || decide (((pc + 1 : Nat) : Int) < p.code.length)))) [] ?_ (fun ff tmp => ?_)
    · refine EvO.pfield (fo := 1) (m := 0) (o := 1) rfl (ev rfl) rfl rfl rfl (put_T rfl _) ?_
      refine EvO.hload hH rfl (ev rfl) (by exact at1) rfl (put_T rfl _) ?_
      refine EvO.pfield (fo := 1) (m := 0) (o := 1) rfl (ev rfl) rfl rfl rfl (put_T rfl _) ?_
      refine EvO.hload hH rfl (ev rfl) (by exact at0) rfl (put_T rfl _) ?_
      refine EvO.go rfl rfl rfl (put_T rfl _) ?_
      refine EvO.mv (.inl rfl) rfl (ev rfl) (put_T rfl _) ?_
      refine EvO.two 110 rfl (fun hg5 => ?_) (fun hg5 => ?_)
      · refine EvO.pfield (fo := 2) (m := 0) (o := 2) (wantD_is rfl rfl rfl hg5) (ev rfl) rfl rfl rfl (put_T rfl _) ?_
        refine EvO.hload hH (wantD_is rfl rfl rfl hg5) (ev rfl) (by exact at1) rfl (put_T rfl _) ?_
        refine EvO.pfield (fo := 2) (m := 0) (o := 2) (wantD_is rfl rfl rfl hg5) (ev rfl) rfl rfl rfl (put_T rfl _) ?_
        refine EvO.hload hH (wantD_is rfl rfl rfl hg5) (ev rfl) (by exact at0) rfl (put_T rfl _) ?_
        refine EvO.go (wantD_is rfl rfl rfl hg5) rfl rfl (put_T rfl _) ?_
        refine EvO.pickT rfl rfl hg5 (put_T rfl _) ?_
        refine EvO.mv (.inl rfl) rfl (ev rfl) (put_T rfl _) ?_
        refine EvO.two 117 rfl (fun hg12 => ?_) (fun hg12 => ?_)
        · refine EvO.pfield (fo := 3) (m := 0) (o := 3) (wantD_is rfl rfl rfl hg12) (ev rfl) rfl rfl rfl (put_T rfl _) ?_
          refine EvO.hload hH (wantD_is rfl rfl rfl hg12) (ev rfl) (by exact at1) rfl (put_T rfl _) ?_
          refine EvO.rlen (wantD_is rfl rfl rfl hg12) (ev rfl) (Arg.rows (by assumption) hH) rfl (put_T rfl _) ?_
          try simp only [List.length_map, List.length_append, List.length_cons, List.length_nil, List.length_set, List.length_replicate, List.length_reverse]
          refine EvO.pfield (fo := 3) (m := 0) (o := 3) (wantD_is rfl rfl rfl hg12) (ev rfl) rfl rfl rfl (put_T rfl _) ?_
          refine EvO.hload hH (wantD_is rfl rfl rfl hg12) (ev rfl) (by exact at0) rfl (put_T rfl _) ?_
          refine EvO.rlen (wantD_is rfl rfl rfl hg12) (ev rfl) (Arg.rows (by assumption) hH) rfl (put_T rfl _) ?_
          try simp only [List.length_map, List.length_append, List.length_cons, List.length_nil, List.length_set, List.length_replicate, List.length_reverse]
          refine EvO.go (wantD_is rfl rfl rfl hg12) rfl rfl (put_T rfl _) ?_
          refine EvO.pickT rfl rfl hg12 (put_T rfl _) ?_
          refine EvO.mv (.inl rfl) rfl (ev rfl) (put_T rfl _) ?_
          refine EvO.two 126 rfl (fun hg21 => ?_) (fun hg21 => ?_)
          · refine EvO.mv (.inl rfl) (wantD_is rfl rfl rfl hg21) (ev rfl) (put_T rfl _) ?_
            refine EvO.go (wantD_is rfl rfl rfl hg21) rfl rfl (put_T rfl _) ?_
            refine EvO.mv (.inl rfl) (wantD_is rfl rfl rfl hg21) (ev rfl) (put_T rfl _) ?_
            refine EvO.two 129 rfl (fun hg24 => ?_) (fun hg24 => ?_)
            · refine EvO.skip (wantD_not rfl rfl rfl hg24) (put_T rfl _) ?_
              refine EvO.skip (wantD_not rfl rfl rfl hg24) (put_T rfl _) ?_
              refine EvO.skip (wantD_not rfl rfl rfl hg24) (put_T rfl _) ?_
              refine EvO.skip (wantD_not rfl rfl rfl hg24) (put_T rfl _) ?_
              refine EvO.pickT (wantD_is rfl rfl rfl hg21) rfl hg24 (put_T rfl _) ?_
              refine EvO.pickT rfl rfl hg21 (put_T rfl _) ?_
              refine EvO.mv (.inr rfl) rfl (ev rfl) (by dsimp only [Fr.put, List.set_cons_succ, List.set_cons_zero] <;> rfl) ?_
              refine EvO.nil (leafL ?_)
              try dsimp only [setW, List.foldl_cons, List.foldl_nil, nth, List.set_cons_zero, List.set_cons_succ]
              try dsimp only [Fr.putO, Fr.put, Fr.clean, Fr.ev, Fr.get, nth, Go.V.look, List.set_cons_succ, List.set_cons_zero, ofVal_int, ofVal_bool, ofVal_str, ofVal_nul, ofVal_pnil, ofVal_nilfn, ofVal_nilif, List.length, List.cons_append, List.nil_append, List.append_nil, Nat.reduceSub, Nat.reduceAdd, List.map, List.map_cons, List.map_nil]
              all_goals (simp [hg5, hg12, hg21, hg24]; done)
            · refine EvO.mv (.inl rfl) (wantD_is rfl rfl rfl hg24) (ev rfl) (put_T rfl _) ?_
              refine EvO.addS64 (wantD_is rfl rfl rfl hg24) (ev rfl) (ev rfl) (by omega) (by omega) (put_T rfl _) ?_
              refine EvO.mv (.inl rfl) (wantD_is rfl rfl rfl hg24) (ev rfl) (put_T rfl _) ?_
              refine EvO.go (wantD_is rfl rfl rfl hg24) rfl rfl (put_T rfl _) ?_
              refine EvO.pickF (wantD_is rfl rfl rfl hg21) rfl hg24 (put_T rfl _) ?_
              refine EvO.pickT rfl rfl hg21 (put_T rfl _) ?_
              refine EvO.mv (.inr rfl) rfl (ev rfl) (by dsimp only [Fr.put, List.set_cons_succ, List.set_cons_zero] <;> rfl) ?_
              refine EvO.nil (leafL ?_)
              try dsimp only [setW, List.foldl_cons, List.foldl_nil, nth, List.set_cons_zero, List.set_cons_succ]
              try dsimp only [Fr.putO, Fr.put, Fr.clean, Fr.ev, Fr.get, nth, Go.V.look, List.set_cons_succ, List.set_cons_zero, ofVal_int, ofVal_bool, ofVal_str, ofVal_nul, ofVal_pnil, ofVal_nilfn, ofVal_nilif, List.length, List.cons_append, List.nil_append, List.append_nil, Nat.reduceSub, Nat.reduceAdd, List.map, List.map_cons, List.map_nil]
              all_goals (simp [hg5, hg12, hg21, hg24]; done)
          · refine EvO.skip (wantD_not rfl rfl rfl hg21) (put_T rfl _) ?_
            refine EvO.skip (wantD_not rfl rfl rfl hg21) (put_T rfl _) ?_
            refine EvO.skip (wantD_not rfl rfl rfl hg21) (put_T rfl _) ?_
            refine EvO.skip rfl (put_T rfl _) ?_
            refine EvO.skip rfl (put_T rfl _) ?_
            refine EvO.skip rfl (put_T rfl _) ?_
            refine EvO.skip rfl (put_T rfl _) ?_
            refine EvO.skip (wantD_not rfl rfl rfl hg21) (put_T rfl _) ?_
            refine EvO.pickF rfl rfl hg21 (put_T rfl _) ?_
            refine EvO.mv (.inr rfl) rfl (ev rfl) (by dsimp only [Fr.put, List.set_cons_succ, List.set_cons_zero] <;> rfl) ?_
            refine EvO.nil (leafL ?_)
            try dsimp only [setW, List.foldl_cons, List.foldl_nil, nth, List.set_cons_zero, List.set_cons_succ]
            try dsimp only [Fr.putO, Fr.put, Fr.clean, Fr.ev, Fr.get, nth, Go.V.look, List.set_cons_succ, List.set_cons_zero, ofVal_int, ofVal_bool, ofVal_str, ofVal_nul, ofVal_pnil, ofVal_nilfn, ofVal_nilif, List.length, List.cons_append, List.nil_append, List.append_nil, Nat.reduceSub, Nat.reduceAdd, List.map, List.map_cons, List.map_nil]
            all_goals (simp [hg5, hg12, hg21]; done)
        · refine EvO.skip (wantD_not rfl rfl rfl hg12) (put_T rfl _) ?_
          refine EvO.skip (wantD_not rfl rfl rfl hg12) (put_T rfl _) ?_
          refine EvO.skip (wantD_not rfl rfl rfl hg12) (put_T rfl _) ?_
          refine EvO.skip (wantD_not rfl rfl rfl hg12) (put_T rfl _) ?_
          refine EvO.skip (wantD_not rfl rfl rfl hg12) (put_T rfl _) ?_
          refine EvO.skip (wantD_not rfl rfl rfl hg12) (put_T rfl _) ?_
          refine EvO.skip (wantD_not rfl rfl rfl hg12) (put_T rfl _) ?_
          refine EvO.pickF rfl rfl hg12 (put_T rfl _) ?_
          refine EvO.mv (.inl rfl) rfl (ev rfl) (put_T rfl _) ?_
          refine EvO.skip rfl (put_T rfl _) ?_
          refine EvO.skip rfl (put_T rfl _) ?_
          refine EvO.skip rfl (put_T rfl _) ?_
          refine EvO.skip rfl (put_T rfl _) ?_
          refine EvO.skip rfl (put_T rfl _) ?_
          refine EvO.skip rfl (put_T rfl _) ?_
          refine EvO.skip rfl (put_T rfl _) ?_
          refine EvO.skip rfl (put_T rfl _) ?_
          refine EvO.go rfl rfl rfl (put_T rfl _) ?_
          refine EvO.mv (.inr rfl) rfl (ev rfl) (by dsimp only [Fr.put, List.set_cons_succ, List.set_cons_zero] <;> rfl) ?_
          refine EvO.nil (leafL ?_)
          try dsimp only [setW, List.foldl_cons, List.foldl_nil, nth, List.set_cons_zero, List.set_cons_succ]
          try dsimp only [Fr.putO, Fr.put, Fr.clean, Fr.ev, Fr.get, nth, Go.V.look, List.set_cons_succ, List.set_cons_zero, ofVal_int, ofVal_bool, ofVal_str, ofVal_nul, ofVal_pnil, ofVal_nilfn, ofVal_nilif, List.length, List.cons_append, List.nil_append, List.append_nil, Nat.reduceSub, Nat.reduceAdd, List.map, List.map_cons, List.map_nil]
          all_goals (simp [hg5, hg12]; done)
      · refine EvO.skip (wantD_not rfl rfl rfl hg5) (put_T rfl _) ?_
        refine EvO.skip (wantD_not rfl rfl rfl hg5) (put_T rfl _) ?_
        refine EvO.skip (wantD_not rfl rfl rfl hg5) (put_T rfl _) ?_
        refine EvO.skip (wantD_not rfl rfl rfl hg5) (put_T rfl _) ?_
        refine EvO.skip (wantD_not rfl rfl rfl hg5) (put_T rfl _) ?_
        refine EvO.pickF rfl rfl hg5 (put_T rfl _) ?_
        refine EvO.mv (.inl rfl) rfl (ev rfl) (put_T rfl _) ?_
        refine EvO.skip rfl (put_T rfl _) ?_
        refine EvO.skip rfl (put_T rfl _) ?_
        refine EvO.skip rfl (put_T rfl _) ?_
        refine EvO.skip rfl (put_T rfl _) ?_
        refine EvO.skip rfl (put_T rfl _) ?_
        refine EvO.skip rfl (put_T rfl _) ?_
        refine EvO.skip rfl (put_T rfl _) ?_
        refine EvO.go rfl rfl rfl (put_T rfl _) ?_
        refine EvO.mv (.inl rfl) rfl (ev rfl) (put_T rfl _) ?_
        refine EvO.skip rfl (put_T rfl _) ?_
        refine EvO.skip rfl (put_T rfl _) ?_
        refine EvO.skip rfl (put_T rfl _) ?_
        refine EvO.skip rfl (put_T rfl _) ?_
        refine EvO.skip rfl (put_T rfl _) ?_
        refine EvO.skip rfl (put_T rfl _) ?_
        refine EvO.skip rfl (put_T rfl _) ?_
        refine EvO.skip rfl (put_T rfl _) ?_
        refine EvO.go rfl rfl rfl (put_T rfl _) ?_
        refine EvO.mv (.inr rfl) rfl (ev rfl) (by dsimp only [Fr.put, List.set_cons_succ, List.set_cons_zero] <;> rfl) ?_
        refine EvO.nil (leafL ?_)
        try dsimp only [setW, List.foldl_cons, List.foldl_nil, nth, List.set_cons_zero, List.set_cons_succ]
        try dsimp only [Fr.putO, Fr.put, Fr.clean, Fr.ev, Fr.get, nth, Go.V.look, List.set_cons_succ, List.set_cons_zero, ofVal_int, ofVal_bool, ofVal_str, ofVal_nul, ofVal_pnil, ofVal_nilfn, ofVal_nilif, List.length, List.cons_append, List.nil_append, List.append_nil, Nat.reduceSub, Nat.reduceAdd, List.map, List.map_cons, List.map_nil]
        all_goals (simp [hg5]; done)
    try dsimp only [setW, List.foldl_cons, List.foldl_nil, nth, List.set_cons_zero, List.set_cons_succ]
    try dsimp only [Fr.putO, Fr.put, Fr.clean, Fr.ev, Fr.get, nth, Go.V.look, List.set_cons_succ, List.set_cons_zero, ofVal_int, ofVal_bool, ofVal_str, ofVal_nul, ofVal_pnil, ofVal_nilfn, ofVal_nilif, List.length, List.cons_append, List.nil_append, List.append_nil, Nat.reduceSub, Nat.reduceAdd, List.map, List.map_cons, List.map_nil]
    try change EvC _ _ _ _ _ _
    rw [hsh]
    refine EvC.ret ⟨fun i h => (by cases h), _, rfl, leave_ro (by simp) hSb hH (rfl)⟩
end Go.Proofs.Ytbdilgkfnacahaa
