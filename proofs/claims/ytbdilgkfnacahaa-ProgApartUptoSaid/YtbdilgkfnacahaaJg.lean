/-
 Programs as the document looks at them: one instruction.
-/
import Derived.Test.YtbdilgkfnacahaaJf
namespace Go.Proofs.Ytbdilgkfnacahaa
open Go.V Go
set_option maxRecDepth 100000
set_option maxHeartbeats 4000000
set_option linter.unusedSimpArgs false
set_option linter.unusedVariables false

/-- what a frame holds at a slot -/
def ixF_Jg (fr : Go.V.Fr) (k : Nat) : Go.V.D := Go.V.nth .junk fr.loc k

theorem ins_ev {s0 : St} {p : Pg} {pc : Nat} {i : PIns} (hp : p.ok) (hi : p.code[pc]? = some i) : Ev pv 47 [p.d, .int .i64 (pc : Nat)] s0 (.bool (shapedS p.code.length p.starts.length pc i)) s0 := by
 refine Ev.mk1 rfl fi47 rfl rfl rfl ?_
 dsimp only [List.cons_append, List.nil_append, List.length, Nat.reduceSub, Nat.reduceAdd, List.replicate_succ, List.replicate_zero]
 have hSb : (enterSt .ro s0).bs = s0.bs := rfl
 have hF : (enterSt .ro s0).flr ≤ s0.bs.length := Nat.le_refl _
 have hH : Has s0.bs.length (enterSt .ro s0) (enterSt .ro s0) [] := Has.start (Nat.le_refl _) (Nat.le_refl _)
 generalize enterSt .ro s0 = S at *
 have hc := hp.c.arg s0.bs.length S
 have hs := hp.s.arg s0.bs.length S
 have hio := hp.i i (List.mem_of_getElem? hi)
 have hrd := hio.1
 have hir := hio.1.arg s0.bs.length S
 have hil := hio.2
 have hcl := hp.cl
 have hsl := hp.sl
 have hr := ins_get hi
 have hlt := lt_get hi
 unfold Pg.d
 try refine qy ?_
 repeat refine qq ?_
 try generalize hK : SeqQ _ _ _ _ = K
 refine EvC.reg ?_
 refine qb hH fun k2 st hk2 hH => ?_
 try dsimp only [u2, u1, u3, u4, setMany, u5, u6, D.cells, Nat.reduceAdd, Pg.cs, insC, intC] at hH
 refine qm ?_
 refine EvO.nil ?_
 try subst hK
 try refine qy ?_
 repeat refine qq ?_
 try generalize hK : SeqQ _ _ _ _ = K
 refine EvC.reg ?_
 refine qp (o := 0) ?_
 refine ql hH at0 ?_
 refine qm ?_
 refine qr fun p12 hp12 => ?_
 refine EvO.rloadS rfl (ev rfl) (by assumption) rfl (by dsimp only [Fr.put, List.set_cons_succ, List.set_cons_zero] <;> rfl) ?_
 refine qa hH fun k5 st hk5 hH => ?_
 try dsimp only [u2, u1, u3, u4, setMany, u5, u6, D.cells, Nat.reduceAdd, Pg.cs, insC, intC] at hH
 refine qS hH at0 fun st hH => ?_
 try dsimp only [u2, u1, u3, u4, setMany, u5, u6, D.cells, Nat.reduceAdd, Pg.cs, insC, intC] at hH
 refine EvO.nil ?_
 try subst hK
 try refine qy ?_
 repeat refine qq ?_
 try generalize hK : SeqQ _ _ _ _ = K
 refine EvC.reg ?_
 refine qp (o := 0) ?_
 refine ql hH at1 ?_
 refine qn ?_
 try simp only [List.length_map, List.length_append, List.length_cons, List.length_nil, List.length_set, List.length_replicate, List.length_reverse]
 refine qm ?_
 refine EvO.nil ?_
 try subst hK
 try refine qy ?_
 repeat refine qq ?_
 try generalize hK : SeqQ _ _ _ _ = K
 refine EvC.reg ?_
 refine qp (o := 0) ?_
 refine ql hH at0 ?_
 refine EvO.go (d := .agg [.int .i64 i.op, .int .i64 0, .int .i64 0, .nul]) (st1 := _) rfl rfl rfl (by dsimp only [Fr.put, List.set_cons_succ, List.set_cons_zero] <;> rfl) ?_
 refine qa hH fun k7 st hk7 hH => ?_
 try dsimp only [u2, u1, u3, u4, setMany, u5, u6, D.cells, Nat.reduceAdd, Pg.cs, insC, intC] at hH
 refine qS hH at0 fun st hH => ?_
 try dsimp only [u2, u1, u3, u4, setMany, u5, u6, D.cells, Nat.reduceAdd, Pg.cs, insC, intC] at hH
 refine EvO.nil ?_
 try subst hK
 try refine qy ?_
 repeat refine qq ?_
 try generalize hK : SeqQ _ _ _ _ = K
 refine EvC.reg ?_
 refine qm ?_
 refine EvO.nil ?_
 try subst hK
 try refine qy ?_
 repeat refine qq ?_
 try generalize hK : SeqQ _ _ _ _ = K
 refine EvC.reg ?_
 refine qp (o := 0) ?_
 refine ql hH at1 ?_
 refine EvO.nil ?_
 try subst hK
 try refine qy ?_
 repeat refine qq ?_
 refine EvC.merge (fun fr st => ∃ (bx bz : Int) (brd : D) (fl : Bool) (brs : List Rg) (tmp : List (Nat × D)), fr = ⟨22, [ixF_Jg fr 0, .int .i64 (pc : Nat), .ptr k2 0 0, ixF_Jg fr 3, .bool false, .ptr k5 0 0, .int .i64 (p.code.length : Nat), .ptr k7 0 0, .bool fl, ixF_Jg fr 9, ixF_Jg fr 10, ixF_Jg fr 11, ixF_Jg fr 12, ixF_Jg fr 13, ixF_Jg fr 14, ixF_Jg fr 15, ixF_Jg fr 16, ixF_Jg fr 17, ixF_Jg fr 18, ixF_Jg fr 19, ixF_Jg fr 20, ixF_Jg fr 21], tmp⟩ ∧ Has s0.bs.length S st [.box k7 (.mem 0 false [.int .i64 i.op, .int .i64 bx, .int .i64 bz, brd]), .box k5 (.mem 0 false [.int .i64 i.op, .int .i64 i.x, .int .i64 i.y, i.rd]), .box k2 (.mem 0 false [p.cd, p.sd])] ∧ (SlD brd 2 (brs.map rangeC)) ∧ (shapedS p.code.length p.starts.length pc i = (((i.x == bx) && (i.y == bz)) && ((i.rs.length : Int) == brs.length) && (!fl || decide (((pc + 1 : Nat) : Int) < p.code.length))))) ?_ ?_
 ·try refine qy ?_
  repeat refine qq ?_
  refine EvC.block ?_
  try refine qy ?_
  repeat refine qq ?_
  try generalize hK : SeqQ _ _ _ _ = K
  refine EvC.reg ?_
  refine qg ?_
  refine qm ?_
  refine EvO.nil ?_
  try subst hK
  try refine qy ?_
  repeat refine qq ?_
  refine qc (fun h1 => ?_) (fun h1 => ?_) <;> try simp only [cs] at h1
  ·have hsp : shapedS p.code.length p.starts.length pc i = (i.y == 0 && (decide (((pc + 1 : Nat) : Int) < p.code.length) && i.x == 0 && rightS i.rs)) := by unfold shapedS; rw [if_pos h1]
   try refine qy ?_
   repeat refine qq ?_
   try generalize hK : SeqQ _ _ _ _ = K
   refine EvC.reg ?_
   refine qp (o := 3) ?_
   refine ql hH at1 ?_
   refine qp (o := 3) ?_
   refine qT hH at0 fun st hH => ?_
   try dsimp only [u2, u1, u3, u4, setMany, u5, u6, D.cells, Nat.reduceAdd, Pg.cs, insC, intC] at hH
   refine EvO.nil ?_
   try subst hK
   try refine qy ?_
   repeat refine qq ?_
   refine EvC.cutT 30 (.bool (!rightS i.rs)) [] ?_ (fun ff tmp htmp => ?_)
   ·refine qp (o := 3) ?_
    refine ql hH at1 ?_
    refine EvO.hcall rfl rfl (refRight_ev (hir.rows hH) hil) (put_T rfl _) ?_
    refine qg ?_
    refine EvO.nil (leafT ?_ ?_)
    ·try dsimp only [setW, List.foldl, nth, u2, u1]
     all_goals (first | rfl | simp)
    ·try dsimp only [Fr.putO, Fr.put, Fr.clean, Fr.ev, Fr.get, nth, Go.V.look, u1, u2, v1, v2, v3, v4, v5, v6, v7, List.length, u3, u4, Nat.reduceSub, Nat.reduceAdd, List.map]
     all_goals (first | rfl | (simp []; done) | (simp_all; done) | (simp []; omega) | (simp_all; omega))
   try dsimp only [setW, List.foldl, nth, u2, u1]
   try dsimp only [Fr.putO, Fr.put, Fr.clean, Fr.ev, Fr.get, nth, Go.V.look, u1, u2, v1, v2, v3, v4, v5, v6, v7, List.length, u3, u4, Nat.reduceSub, Nat.reduceAdd, List.map]
   try refine qy ?_
   repeat refine qq ?_
   refine qc (fun h2 => ?_) (fun h2 => ?_) <;> try simp only [cs] at h2
   ·try refine qy ?_
    repeat refine qq ?_
    try generalize hK : SeqQ _ _ _ _ = K
    refine EvC.reg ?_
    refine qm ?_
    refine EvO.nil ?_
    try subst hK
    try refine qy ?_
    rw [hsp, h2]
    simp only [Bool.and_false]
    refine EvC.ret ⟨fun i h => (by cases h), _, rfl, leave_ro (by simp) hSb hH (rfl)⟩
   ·refine EvC.skip ?_
    try refine qy ?_
    refine ⟨0, 0, i.rd, true, i.rs, _, rfl, hH, hrd, ?_⟩
    rw [hsp, h2]
    cases hx : (i.x == 0) <;> cases hy : (i.y == 0) <;> simp
  ·have hsp : shapedS p.code.length p.starts.length pc i = (i.rs.isEmpty && (if i.op = 2 then inS i.x p.code.length && inS i.y p.code.length
  else i.y == 0 &&
   (if i.op = 3 then inS i.x p.code.length
   else if i.op = 4 then decide (((pc + 1 : Nat) : Int) < p.code.length) && inS i.x 10
   else if i.op = 5 ∨ i.op = 6 then decide (((pc + 1 : Nat) : Int) < p.code.length) && i.x == 0
   else if i.op = 7 then inS i.x p.starts.length
   else false))) := by unfold shapedS; rw [if_neg h1]
   have hem : i.rs.isEmpty = ((i.rs.length : Int) == (([] : List Rg).length : Int)) := by cases i.rs <;> simp <;> omega
   have hnl : SlD .nul 2 (([] : List Rg).map rangeC) := .inl ⟨rfl, rfl⟩
   try refine qy ?_
   repeat refine qq ?_
   try generalize hK : SeqQ _ _ _ _ = K
   refine EvC.reg ?_
   refine qg ?_
   refine qm ?_
   refine EvO.nil ?_
   try subst hK
   try refine qy ?_
   repeat refine qq ?_
   refine qc (fun h2 => ?_) (fun h2 => ?_) <;> try simp only [cs] at h2
   ·rw [if_pos h2] at hsp
    try refine qy ?_
    repeat refine qq ?_
    try generalize hK : SeqQ _ _ _ _ = K
    refine EvC.reg ?_
    refine qm ?_
    refine EvO.nil ?_
    try subst hK
    try refine qy ?_
    have hH0 := hH
    try refine qy ?_
    repeat refine qq ?_
    try generalize hK : SeqQ _ _ _ _ = K
    refine EvC.regY rfl ?_
    refine EvY.cons ?_
    refine qp (o := 1) ?_
    refine EvO.nil ⟨rfl, ?_⟩
    refine EvY.cons ?_
    refine ql hH at1 ?_
    refine EvO.nil ⟨rfl, ?_⟩
    refine EvY.cons ?_
    refine qp (o := 2) ?_
    refine EvO.nil ⟨rfl, ?_⟩
    refine EvY.cons ?_
    refine ql hH at1 ?_
    refine EvO.nil ⟨rfl, ?_⟩
    refine EvY.cons ?_
    refine qp (o := 1) ?_
    refine EvO.nil ⟨rfl, ?_⟩
    refine EvY.cons ?_
    refine qT hH at0 fun st hH => ?_
    try dsimp only [u2, u1, u3, u4, setMany, u5, u6, D.cells, Nat.reduceAdd, Pg.cs, insC, intC] at hH
    refine EvO.nil ⟨by exact Bool.and_eq_true_iff.2 ⟨chk_still rfl rfl rfl (hH0.at at1) (hH.at at1) (hH0.at at1) (by simp [refs, D.ref, hrd.ref]), rfl⟩, ?_⟩
    refine EvY.cons ?_
    refine qp (o := 2) ?_
    refine EvO.nil ⟨rfl, ?_⟩
    refine EvY.cons ?_
    refine qT hH at0 fun st hH => ?_
    try dsimp only [u2, u1, u3, u4, setMany, u5, u6, D.cells, Nat.reduceAdd, Pg.cs, insC, intC] at hH
    refine EvO.nil ⟨rfl, ?_⟩
    refine EvY.nil ?_
    try subst hK
    try refine qy ?_
    repeat refine qq ?_
    refine EvC.cutT 58 (.bool (((decide (i.x < 0) || decide (i.x ≥ p.code.length)) || decide (i.y < 0)) || decide (i.y ≥ p.code.length))) [] ?_ (fun ff tmp htmp => ?_)
    ·refine qp (o := 1) ?_
     refine ql hH at1 ?_
     refine qg ?_
     refine qm ?_
     refine EvO.two 42 rfl (fun hg3 => ?_) (fun hg3 => ?_)
     ·refine qs ?_ (hg := wn hg3)
      refine qs ?_ (hg := wn hg3)
      refine qs ?_ (hg := wn hg3)
      refine qs ?_ (hg := wn hg3)
      refine qt hg3 ?_
      refine qm ?_
      refine qs ?_
      refine qs ?_
      refine qs ?_
      refine qg ?_
      refine qm ?_
      refine qs ?_
      refine qs ?_
      refine qs ?_
      refine qs ?_
      refine qg ?_
      refine EvO.nil (leafT ?_ ?_)
      ·try dsimp only [setW, List.foldl, nth, u2, u1]
       all_goals (first | rfl | simp)
      ·try dsimp only [Fr.putO, Fr.put, Fr.clean, Fr.ev, Fr.get, nth, Go.V.look, u1, u2, v1, v2, v3, v4, v5, v6, v7, List.length, u3, u4, Nat.reduceSub, Nat.reduceAdd, List.map]
       all_goals (simp [hg3]; done)
     ·refine qp (o := 1) ?_ (hg := wi hg3)
      refine ql hH at1 ?_ (hg := wi hg3)
      refine qm ?_ (hg := wi hg3)
      refine qg ?_ (hg := wi hg3)
      refine qu hg3 ?_
      refine qm ?_
      refine EvO.two 48 rfl (fun hg9 => ?_) (fun hg9 => ?_)
      ·refine qs ?_ (hg := wn hg9)
       refine qs ?_ (hg := wn hg9)
       refine qs ?_ (hg := wn hg9)
       refine qt hg9 ?_
       refine qm ?_
       refine qs ?_
       refine qs ?_
       refine qs ?_
       refine qs ?_
       refine qg ?_
       refine EvO.nil (leafT ?_ ?_)
       ·try dsimp only [setW, List.foldl, nth, u2, u1]
        all_goals (first | rfl | simp)
       ·try dsimp only [Fr.putO, Fr.put, Fr.clean, Fr.ev, Fr.get, nth, Go.V.look, u1, u2, v1, v2, v3, v4, v5, v6, v7, List.length, u3, u4, Nat.reduceSub, Nat.reduceAdd, List.map]
        all_goals (simp [hg3, hg9]; done)
      ·refine qp (o := 2) ?_ (hg := wi hg9)
       refine ql hH at1 ?_ (hg := wi hg9)
       refine qg ?_ (hg := wi hg9)
       refine qu hg9 ?_
       refine qm ?_
       refine EvO.two 53 rfl (fun hg14 => ?_) (fun hg14 => ?_)
       ·refine qs ?_ (hg := wn hg14)
        refine qs ?_ (hg := wn hg14)
        refine qs ?_ (hg := wn hg14)
        refine qs ?_ (hg := wn hg14)
        refine qt hg14 ?_
        refine EvO.nil (leafT ?_ ?_)
        ·try dsimp only [setW, List.foldl, nth, u2, u1]
         all_goals (first | rfl | simp)
        ·try dsimp only [Fr.putO, Fr.put, Fr.clean, Fr.ev, Fr.get, nth, Go.V.look, u1, u2, v1, v2, v3, v4, v5, v6, v7, List.length, u3, u4, Nat.reduceSub, Nat.reduceAdd, List.map]
         all_goals (simp [hg3, hg9, hg14]; done)
       ·refine qp (o := 2) ?_ (hg := wi hg14)
        refine ql hH at1 ?_ (hg := wi hg14)
        refine qm ?_ (hg := wi hg14)
        refine qg ?_ (hg := wi hg14)
        refine qu hg14 ?_
        refine EvO.nil (leafT ?_ ?_)
        ·try dsimp only [setW, List.foldl, nth, u2, u1]
         all_goals (first | rfl | simp)
        ·try dsimp only [Fr.putO, Fr.put, Fr.clean, Fr.ev, Fr.get, nth, Go.V.look, u1, u2, v1, v2, v3, v4, v5, v6, v7, List.length, u3, u4, Nat.reduceSub, Nat.reduceAdd, List.map]
         all_goals (simp [hg3, hg9, hg14]; done)
    try dsimp only [setW, List.foldl, nth, u2, u1]
    try dsimp only [Fr.putO, Fr.put, Fr.clean, Fr.ev, Fr.get, nth, Go.V.look, u1, u2, v1, v2, v3, v4, v5, v6, v7, List.length, u3, u4, Nat.reduceSub, Nat.reduceAdd, List.map]
    try refine qy ?_
    have hin : (inS i.x p.code.length && inS i.y p.code.length) = !(((decide (i.x < 0) || decide (i.x ≥ p.code.length)) || decide (i.y < 0)) || decide (i.y ≥ p.code.length)) := by
     unfold inS; simp only [Bool.not_or, ← decide_not, Int.not_lt, Int.not_le, ge_iff_le, Bool.and_assoc]
    try refine qy ?_
    repeat refine qq ?_
    refine qc (fun h3 => ?_) (fun h3 => ?_) <;> try simp only [cs] at h3
    ·try refine qy ?_
     repeat refine qq ?_
     try generalize hK : SeqQ _ _ _ _ = K
     refine EvC.reg ?_
     refine qm ?_
     refine EvO.nil ?_
     try subst hK
     try refine qy ?_
     rw [hsp, hin, h3]
     simp only [Bool.not_true, Bool.and_false]
     refine EvC.ret ⟨fun i h => (by cases h), _, rfl, leave_ro (by simp) hSb hH (rfl)⟩
    ·refine EvC.skip ?_
     try refine qy ?_
     exact ⟨i.x, i.y, .nul, false, [], _, rfl, hH, hnl, by rw [hsp, hin, h3, hem]; simp⟩
   ·rw [if_neg h2] at hsp
    try refine qy ?_
    repeat refine qq ?_
    try generalize hK : SeqQ _ _ _ _ = K
    refine EvC.reg ?_
    refine qg ?_
    refine qm ?_
    refine EvO.nil ?_
    try subst hK
    try refine qy ?_
    repeat refine qq ?_
    refine qc (fun h3 => ?_) (fun h3 => ?_) <;> try simp only [cs] at h3
    ·rw [if_pos h3] at hsp
     try refine qy ?_
     repeat refine qq ?_
     try generalize hK : SeqQ _ _ _ _ = K
     refine EvC.reg ?_
     refine qm ?_
     refine EvO.nil ?_
     try subst hK
     try refine qy ?_
     repeat refine qq ?_
     try generalize hK : SeqQ _ _ _ _ = K
     refine EvC.reg ?_
     refine qp (o := 1) ?_
     refine ql hH at1 ?_
     refine qp (o := 1) ?_
     refine qT hH at0 fun st hH => ?_
     try dsimp only [u2, u1, u3, u4, setMany, u5, u6, D.cells, Nat.reduceAdd, Pg.cs, insC, intC] at hH
     refine EvO.nil ?_
     try subst hK
     try refine qy ?_
     repeat refine qq ?_
     refine EvC.cutT 72 (.bool (decide (i.x < 0) || decide (i.x ≥ p.code.length))) [] ?_ (fun ff tmp htmp => ?_)
     ·refine qp (o := 1) ?_
      refine ql hH at1 ?_
      refine qg ?_
      refine qm ?_
      refine EvO.two 67 rfl (fun hg3 => ?_) (fun hg3 => ?_)
      ·refine qs ?_ (hg := wn hg3)
       refine qs ?_ (hg := wn hg3)
       refine qs ?_ (hg := wn hg3)
       refine qs ?_ (hg := wn hg3)
       refine qt hg3 ?_
       refine EvO.nil (leafT ?_ ?_)
       ·try dsimp only [setW, List.foldl, nth, u2, u1]
        all_goals (first | rfl | simp)
       ·try dsimp only [Fr.putO, Fr.put, Fr.clean, Fr.ev, Fr.get, nth, Go.V.look, u1, u2, v1, v2, v3, v4, v5, v6, v7, List.length, u3, u4, Nat.reduceSub, Nat.reduceAdd, List.map]
        all_goals (simp [hg3]; done)
      ·refine qp (o := 1) ?_ (hg := wi hg3)
       refine ql hH at1 ?_ (hg := wi hg3)
       refine qm ?_ (hg := wi hg3)
       refine qg ?_ (hg := wi hg3)
       refine qu hg3 ?_
       refine EvO.nil (leafT ?_ ?_)
       ·try dsimp only [setW, List.foldl, nth, u2, u1]
        all_goals (first | rfl | simp)
       ·try dsimp only [Fr.putO, Fr.put, Fr.clean, Fr.ev, Fr.get, nth, Go.V.look, u1, u2, v1, v2, v3, v4, v5, v6, v7, List.length, u3, u4, Nat.reduceSub, Nat.reduceAdd, List.map]
        all_goals (simp [hg3]; done)
     try dsimp only [setW, List.foldl, nth, u2, u1]
     try dsimp only [Fr.putO, Fr.put, Fr.clean, Fr.ev, Fr.get, nth, Go.V.look, u1, u2, v1, v2, v3, v4, v5, v6, v7, List.length, u3, u4, Nat.reduceSub, Nat.reduceAdd, List.map]
     try refine qy ?_
     have hin : inS i.x p.code.length = !(decide (i.x < 0) || decide (i.x ≥ p.code.length)) := by
      unfold inS; simp only [Bool.not_or, ← decide_not, Int.not_lt, Int.not_le, ge_iff_le]
     try refine qy ?_
     repeat refine qq ?_
     refine qc (fun h4 => ?_) (fun h4 => ?_) <;> try simp only [cs] at h4
     ·try refine qy ?_
      repeat refine qq ?_
      try generalize hK : SeqQ _ _ _ _ = K
      refine EvC.reg ?_
      refine qm ?_
      refine EvO.nil ?_
      try subst hK
      try refine qy ?_
      rw [hsp, hin, h4]
      simp only [Bool.not_true, Bool.and_false]
      refine EvC.ret ⟨fun i h => (by cases h), _, rfl, leave_ro (by simp) hSb hH (rfl)⟩
     ·refine EvC.skip ?_
      try refine qy ?_
      exact ⟨i.x, 0, .nul, false, [], _, rfl, hH, hnl, by rw [hsp, hin, h4, hem]; cases (i.y == 0) <;> simp⟩
    ·rw [if_neg h3] at hsp
     try refine qy ?_
     repeat refine qq ?_
     try generalize hK : SeqQ _ _ _ _ = K
     refine EvC.reg ?_
     refine qg ?_
     refine qm ?_
     refine EvO.nil ?_
     try subst hK
     try refine qy ?_
     repeat refine qq ?_
     refine qc (fun h4 => ?_) (fun h4 => ?_) <;> try simp only [cs] at h4
     ·rw [if_pos h4] at hsp
      try refine qy ?_
      repeat refine qq ?_
      try generalize hK : SeqQ _ _ _ _ = K
      refine EvC.reg ?_
      refine qp (o := 1) ?_
      refine ql hH at1 ?_
      refine qp (o := 1) ?_
      refine qT hH at0 fun st hH => ?_
      try dsimp only [u2, u1, u3, u4, setMany, u5, u6, D.cells, Nat.reduceAdd, Pg.cs, insC, intC] at hH
      refine EvO.nil ?_
      try subst hK
      try refine qy ?_
      repeat refine qq ?_
      refine EvC.cutT 85 (.bool (decide (i.x < 0) || decide (i.x ≥ 10))) [] ?_ (fun ff tmp htmp => ?_)
      ·refine qp (o := 1) ?_
       refine ql hH at1 ?_
       refine qg ?_
       refine qm ?_
       refine EvO.two 81 rfl (fun hg3 => ?_) (fun hg3 => ?_)
       ·refine qs ?_ (hg := wn hg3)
        refine qs ?_ (hg := wn hg3)
        refine qs ?_ (hg := wn hg3)
        refine qt hg3 ?_
        refine EvO.nil (leafT ?_ ?_)
        ·try dsimp only [setW, List.foldl, nth, u2, u1]
         all_goals (first | rfl | simp)
        ·try dsimp only [Fr.putO, Fr.put, Fr.clean, Fr.ev, Fr.get, nth, Go.V.look, u1, u2, v1, v2, v3, v4, v5, v6, v7, List.length, u3, u4, Nat.reduceSub, Nat.reduceAdd, List.map]
         all_goals (simp [hg3]; done)
       ·refine qp (o := 1) ?_ (hg := wi hg3)
        refine ql hH at1 ?_ (hg := wi hg3)
        refine qg ?_ (hg := wi hg3)
        refine qu hg3 ?_
        refine EvO.nil (leafT ?_ ?_)
        ·try dsimp only [setW, List.foldl, nth, u2, u1]
         all_goals (first | rfl | simp)
        ·try dsimp only [Fr.putO, Fr.put, Fr.clean, Fr.ev, Fr.get, nth, Go.V.look, u1, u2, v1, v2, v3, v4, v5, v6, v7, List.length, u3, u4, Nat.reduceSub, Nat.reduceAdd, List.map]
         all_goals (simp [hg3]; done)
      try dsimp only [setW, List.foldl, nth, u2, u1]
      try dsimp only [Fr.putO, Fr.put, Fr.clean, Fr.ev, Fr.get, nth, Go.V.look, u1, u2, v1, v2, v3, v4, v5, v6, v7, List.length, u3, u4, Nat.reduceSub, Nat.reduceAdd, List.map]
      try refine qy ?_
      have hin : inS i.x 10 = !(decide (i.x < 0) || decide (i.x ≥ 10)) := by
       unfold inS; simp only [Bool.not_or, ← decide_not, Int.not_lt, Int.not_le, ge_iff_le]
      try refine qy ?_
      repeat refine qq ?_
      refine qc (fun h5 => ?_) (fun h5 => ?_) <;> try simp only [cs] at h5
      ·try refine qy ?_
       repeat refine qq ?_
       try generalize hK : SeqQ _ _ _ _ = K
       refine EvC.reg ?_
       refine qm ?_
       refine EvO.nil ?_
       try subst hK
       try refine qy ?_
       rw [hsp, hin, h5]
       simp only [Bool.not_true, Bool.and_false]
       refine EvC.ret ⟨fun i h => (by cases h), _, rfl, leave_ro (by simp) hSb hH (rfl)⟩
      ·refine EvC.skip ?_
       try refine qy ?_
       exact ⟨i.x, 0, .nul, true, [], _, rfl, hH, hnl, by rw [hsp, hin, h5, hem]; cases (i.y == 0) <;> simp⟩
     ·rw [if_neg h4] at hsp
      try refine qy ?_
      repeat refine qq ?_
      try generalize hK : SeqQ _ _ _ _ = K
      refine EvC.reg ?_
      refine qg ?_
      refine qm ?_
      refine EvO.nil ?_
      try subst hK
      try refine qy ?_
      by_cases h5 : i.op = 5
      ·rw [if_pos (.inl h5)] at hsp
       try refine qy ?_
       repeat refine qq ?_
       refine EvC.cond (v := true) (by dsimp only [Fr.ev, Fr.get, nth, Go.V.look]; simp [h5]) (fun _ => ?_) (fun h => by cases h)
       try refine qy ?_
       refine EvC.skip ?_
       try refine qy ?_
       repeat refine qq ?_
       refine EvC.cond (v := true) (by dsimp only [Fr.ev, Fr.get, nth, Go.V.look]; simp [h5]) (fun _ => ?_) (fun h => by cases h)
       try refine qy ?_
       refine EvC.skip ?_
       try refine qy ?_
       exact ⟨0, 0, .nul, true, [], _, rfl, hH, hnl, by rw [hsp, hem]; cases (i.y == 0) <;> cases (i.x == 0) <;> simp⟩
      ·try refine qy ?_
       repeat refine qq ?_
       refine EvC.cond (v := false) (by dsimp only [Fr.ev, Fr.get, nth, Go.V.look]; simp [h5]) (fun h => by cases h) (fun _ => ?_)
       try refine qy ?_
       repeat refine qq ?_
       try generalize hK : SeqQ _ _ _ _ = K
       refine EvC.reg ?_
       refine qg ?_
       refine qm ?_
       refine EvO.nil ?_
       try subst hK
       try refine qy ?_
       repeat refine qq ?_
       refine qc (fun h6 => ?_) (fun h6 => ?_) <;> try simp only [cs] at h6
       ·rw [if_pos (.inr h6)] at hsp
        refine EvC.skip ?_
        try refine qy ?_
        exact ⟨0, 0, .nul, true, [], _, rfl, hH, hnl, by rw [hsp, hem]; cases (i.y == 0) <;> cases (i.x == 0) <;> simp⟩
       ·rw [if_neg (by omega)] at hsp
        try refine qy ?_
        repeat refine qq ?_
        try generalize hK : SeqQ _ _ _ _ = K
        refine EvC.reg ?_
        refine qg ?_
        refine qm ?_
        refine EvO.nil ?_
        try subst hK
        try refine qy ?_
        repeat refine qq ?_
        refine qc (fun h7 => ?_) (fun h7 => ?_) <;> try simp only [cs] at h7
        ·rw [if_pos h7] at hsp
         try refine qy ?_
         repeat refine qq ?_
         try generalize hK : SeqQ _ _ _ _ = K
         refine EvC.reg ?_
         refine qm ?_
         refine EvO.nil ?_
         try subst hK
         try refine qy ?_
         repeat refine qq ?_
         try generalize hK : SeqQ _ _ _ _ = K
         refine EvC.reg ?_
         refine qp (o := 1) ?_
         refine ql hH at1 ?_
         refine qp (o := 1) ?_
         refine qT hH at0 fun st hH => ?_
         try dsimp only [u2, u1, u3, u4, setMany, u5, u6, D.cells, Nat.reduceAdd, Pg.cs, insC, intC] at hH
         refine EvO.nil ?_
         try subst hK
         try refine qy ?_
         repeat refine qq ?_
         refine EvC.cutT 104 (.bool (decide (i.x < 0) || decide (i.x ≥ p.starts.length))) [] ?_ (fun ff tmp htmp => ?_)
         ·refine qp (o := 1) ?_
          refine ql hH at1 ?_
          refine qg ?_
          refine qm ?_
          refine EvO.two 97 rfl (fun hg3 => ?_) (fun hg3 => ?_)
          ·refine qs ?_ (hg := wn hg3)
           refine qs ?_ (hg := wn hg3)
           refine qs ?_ (hg := wn hg3)
           refine qs ?_ (hg := wn hg3)
           refine qs ?_ (hg := wn hg3)
           refine qs ?_ (hg := wn hg3)
           refine qt hg3 ?_
           refine EvO.nil (leafT ?_ ?_)
           ·try dsimp only [setW, List.foldl, nth, u2, u1]
            all_goals (first | rfl | simp)
           ·try dsimp only [Fr.putO, Fr.put, Fr.clean, Fr.ev, Fr.get, nth, Go.V.look, u1, u2, v1, v2, v3, v4, v5, v6, v7, List.length, u3, u4, Nat.reduceSub, Nat.reduceAdd, List.map]
            all_goals (simp [hg3]; done)
          ·refine qp (o := 1) ?_ (hg := wi hg3)
           refine ql hH at1 ?_ (hg := wi hg3)
           refine qp (o := 1) ?_ (hg := wi hg3)
           refine ql hH at2 ?_ (hg := wi hg3)
           refine qn ?_ (hg := wi hg3)
           try simp only [List.length_map, List.length_append, List.length_cons, List.length_nil, List.length_set, List.length_replicate, List.length_reverse]
           refine qg ?_ (hg := wi hg3)
           refine qu hg3 ?_
           refine EvO.nil (leafT ?_ ?_)
           ·try dsimp only [setW, List.foldl, nth, u2, u1]
            all_goals (first | rfl | simp)
           ·try dsimp only [Fr.putO, Fr.put, Fr.clean, Fr.ev, Fr.get, nth, Go.V.look, u1, u2, v1, v2, v3, v4, v5, v6, v7, List.length, u3, u4, Nat.reduceSub, Nat.reduceAdd, List.map]
            all_goals (simp [hg3]; done)
         try dsimp only [setW, List.foldl, nth, u2, u1]
         try dsimp only [Fr.putO, Fr.put, Fr.clean, Fr.ev, Fr.get, nth, Go.V.look, u1, u2, v1, v2, v3, v4, v5, v6, v7, List.length, u3, u4, Nat.reduceSub, Nat.reduceAdd, List.map]
         try refine qy ?_
         have hin : inS i.x p.starts.length = !(decide (i.x < 0) || decide (i.x ≥ p.starts.length)) := by
          unfold inS; simp only [Bool.not_or, ← decide_not, Int.not_lt, Int.not_le, ge_iff_le]
         try refine qy ?_
         repeat refine qq ?_
         refine qc (fun h8 => ?_) (fun h8 => ?_) <;> try simp only [cs] at h8
         ·try refine qy ?_
          repeat refine qq ?_
          try generalize hK : SeqQ _ _ _ _ = K
          refine EvC.reg ?_
          refine qm ?_
          refine EvO.nil ?_
          try subst hK
          try refine qy ?_
          rw [hsp, hin, h8]
          simp only [Bool.not_true, Bool.and_false]
          refine EvC.ret ⟨fun i h => (by cases h), _, rfl, leave_ro (by simp) hSb hH (rfl)⟩
         ·refine EvC.skip ?_
          try refine qy ?_
          exact ⟨i.x, 0, .nul, false, [], _, rfl, hH, hnl, by rw [hsp, hin, h8, hem]; cases (i.y == 0) <;> simp⟩
        ·rw [if_neg h7] at hsp
         try refine qy ?_
         repeat refine qq ?_
         try generalize hK : SeqQ _ _ _ _ = K
         refine EvC.reg ?_
         refine qm ?_
         refine EvO.nil ?_
         try subst hK
         try refine qy ?_
         rw [hsp]
         simp only [Bool.and_false]
         refine EvC.ret ⟨fun i h => (by cases h), _, rfl, leave_ro (by simp) hSb hH (rfl)⟩
 ·rintro fr st ⟨bx, bz, brd, fl, brs, tmp, hfr, hH, hbr, hsh⟩
  rw [hfr]
  clear hfr
  try generalize ixF_Jg fr = ee
  clear fr
  try refine qy ?_
  have hbr2 := hbr.arg s0.bs.length S
  try refine qy ?_
  repeat refine qq ?_
  refine EvC.cutL 4 (.bool ((((i.x == bx) && (i.y == bz)) && ((i.rs.length : Int) == brs.length)) && (!fl || decide (((pc + 1 : Nat) : Int) < p.code.length)))) [] ?_ (fun ff tmp => ?_)
  ·refine qp (o := 1) ?_
   refine ql hH at1 ?_
   refine qp (o := 1) ?_
   refine ql hH at0 ?_
   refine qg ?_
   refine qm ?_
   refine EvO.two 110 rfl (fun hg5 => ?_) (fun hg5 => ?_)
   ·refine qp (o := 2) ?_ (hg := wi hg5)
    refine ql hH at1 ?_ (hg := wi hg5)
    refine qp (o := 2) ?_ (hg := wi hg5)
    refine ql hH at0 ?_ (hg := wi hg5)
    refine qg ?_ (hg := wi hg5)
    refine qt hg5 ?_
    refine qm ?_
    refine EvO.two 117 rfl (fun hg12 => ?_) (fun hg12 => ?_)
    ·refine qp (o := 3) ?_ (hg := wi hg12)
     refine ql hH at1 ?_ (hg := wi hg12)
     refine qn ?_ (hg := wi hg12)
     try simp only [List.length_map, List.length_append, List.length_cons, List.length_nil, List.length_set, List.length_replicate, List.length_reverse]
     refine qp (o := 3) ?_ (hg := wi hg12)
     refine ql hH at0 ?_ (hg := wi hg12)
     refine qn ?_ (hg := wi hg12)
     try simp only [List.length_map, List.length_append, List.length_cons, List.length_nil, List.length_set, List.length_replicate, List.length_reverse]
     refine qg ?_ (hg := wi hg12)
     refine qt hg12 ?_
     refine qm ?_
     refine EvO.two 126 rfl (fun hg21 => ?_) (fun hg21 => ?_)
     ·refine qm ?_ (hg := wi hg21)
      refine qg ?_ (hg := wi hg21)
      refine qm ?_ (hg := wi hg21)
      refine EvO.two 129 rfl (fun hg24 => ?_) (fun hg24 => ?_)
      ·refine qs ?_ (hg := wn hg24)
       refine qs ?_ (hg := wn hg24)
       refine qs ?_ (hg := wn hg24)
       refine qs ?_ (hg := wn hg24)
       refine EvO.pickT (wantD_is rfl rfl rfl hg21) rfl hg24 (put_T rfl _) ?_
       refine qt hg21 ?_
       refine qm ?_
       refine EvO.nil (leafL ?_)
       try dsimp only [setW, List.foldl, nth, u2, u1]
       try dsimp only [Fr.putO, Fr.put, Fr.clean, Fr.ev, Fr.get, nth, Go.V.look, u1, u2, v1, v2, v3, v4, v5, v6, v7, List.length, u3, u4, Nat.reduceSub, Nat.reduceAdd, List.map]
       all_goals (simp [hg5, hg12, hg21, hg24]; done)
      ·refine qm ?_ (hg := wi hg24)
       refine qA ?_ (hg := wi hg24)
       refine qm ?_ (hg := wi hg24)
       refine qg ?_ (hg := wi hg24)
       refine EvO.pickF (wantD_is rfl rfl rfl hg21) rfl hg24 (put_T rfl _) ?_
       refine qt hg21 ?_
       refine qm ?_
       refine EvO.nil (leafL ?_)
       try dsimp only [setW, List.foldl, nth, u2, u1]
       try dsimp only [Fr.putO, Fr.put, Fr.clean, Fr.ev, Fr.get, nth, Go.V.look, u1, u2, v1, v2, v3, v4, v5, v6, v7, List.length, u3, u4, Nat.reduceSub, Nat.reduceAdd, List.map]
       all_goals (simp [hg5, hg12, hg21, hg24]; done)
     ·refine qs ?_ (hg := wn hg21)
      refine qs ?_ (hg := wn hg21)
      refine qs ?_ (hg := wn hg21)
      refine qs ?_
      refine qs ?_
      refine qs ?_
      refine qs ?_
      refine qs ?_ (hg := wn hg21)
      refine qu hg21 ?_
      refine qm ?_
      refine EvO.nil (leafL ?_)
      try dsimp only [setW, List.foldl, nth, u2, u1]
      try dsimp only [Fr.putO, Fr.put, Fr.clean, Fr.ev, Fr.get, nth, Go.V.look, u1, u2, v1, v2, v3, v4, v5, v6, v7, List.length, u3, u4, Nat.reduceSub, Nat.reduceAdd, List.map]
      all_goals (simp [hg5, hg12, hg21]; done)
    ·refine qs ?_ (hg := wn hg12)
     refine qs ?_ (hg := wn hg12)
     refine qs ?_ (hg := wn hg12)
     refine qs ?_ (hg := wn hg12)
     refine qs ?_ (hg := wn hg12)
     refine qs ?_ (hg := wn hg12)
     refine qs ?_ (hg := wn hg12)
     refine qu hg12 ?_
     refine qm ?_
     refine qs ?_
     refine qs ?_
     refine qs ?_
     refine qs ?_
     refine qs ?_
     refine qs ?_
     refine qs ?_
     refine qs ?_
     refine qg ?_
     refine qm ?_
     refine EvO.nil (leafL ?_)
     try dsimp only [setW, List.foldl, nth, u2, u1]
     try dsimp only [Fr.putO, Fr.put, Fr.clean, Fr.ev, Fr.get, nth, Go.V.look, u1, u2, v1, v2, v3, v4, v5, v6, v7, List.length, u3, u4, Nat.reduceSub, Nat.reduceAdd, List.map]
     all_goals (simp [hg5, hg12]; done)
   ·refine qs ?_ (hg := wn hg5)
    refine qs ?_ (hg := wn hg5)
    refine qs ?_ (hg := wn hg5)
    refine qs ?_ (hg := wn hg5)
    refine qs ?_ (hg := wn hg5)
    refine qu hg5 ?_
    refine qm ?_
    refine qs ?_
    refine qs ?_
    refine qs ?_
    refine qs ?_
    refine qs ?_
    refine qs ?_
    refine qs ?_
    refine qg ?_
    refine qm ?_
    refine qs ?_
    refine qs ?_
    refine qs ?_
    refine qs ?_
    refine qs ?_
    refine qs ?_
    refine qs ?_
    refine qs ?_
    refine qg ?_
    refine qm ?_
    refine EvO.nil (leafL ?_)
    try dsimp only [setW, List.foldl, nth, u2, u1]
    try dsimp only [Fr.putO, Fr.put, Fr.clean, Fr.ev, Fr.get, nth, Go.V.look, u1, u2, v1, v2, v3, v4, v5, v6, v7, List.length, u3, u4, Nat.reduceSub, Nat.reduceAdd, List.map]
    all_goals (simp [hg5]; done)
  try dsimp only [setW, List.foldl, nth, u2, u1]
  try dsimp only [Fr.putO, Fr.put, Fr.clean, Fr.ev, Fr.get, nth, Go.V.look, u1, u2, v1, v2, v3, v4, v5, v6, v7, List.length, u3, u4, Nat.reduceSub, Nat.reduceAdd, List.map]
  try refine qy ?_
  rw [hsh]
  refine EvC.ret ⟨fun i h => (by cases h), _, rfl, leave_ro (by simp) hSb hH (rfl)⟩
end Go.Proofs.Ytbdilgkfnacahaa
