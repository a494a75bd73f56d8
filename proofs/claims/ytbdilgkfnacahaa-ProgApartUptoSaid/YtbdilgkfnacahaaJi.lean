/-
 What a rule reaches: the document's search.
-/
import Derived.Test.YtbdilgkfnacahaaJh
namespace Go.Proofs.Ytbdilgkfnacahaa
open Go.V Go
set_option maxRecDepth 100000
set_option maxHeartbeats 4000000
set_option linter.unusedSimpArgs false
set_option linter.unusedVariables false

/-- what a frame holds at a slot -/
def ixF_Ji (fr : Go.V.Fr) (k : Nat) : Go.V.D := Go.V.nth .junk fr.loc k

theorem next_ev {s0 : St} {p : Pg} {pc : Nat} {i : PIns} (hp : p.ok) (hi : p.code[pc]? = some i) : Ev pv 48 [p.d, .int .i64 (pc : Nat)] s0 (intsV (nextS pc i)) s0 := by
 refine Ev.mk1 rfl fi48 rfl rfl rfl ?_
 dsimp only [List.cons_append, List.nil_append, List.length, Nat.reduceSub, Nat.reduceAdd, List.replicate_succ, List.replicate_zero]
 have hSb : (enterSt .ro s0).bs = s0.bs := rfl
 have hF : (enterSt .ro s0).flr ≤ s0.bs.length := Nat.le_refl _
 have hH : Has s0.bs.length (enterSt .ro s0) (enterSt .ro s0) [] := Has.start (Nat.le_refl _) (Nat.le_refl _)
 generalize enterSt .ro s0 = S at *
 have hc := hp.c.arg s0.bs.length S
 have hrd := (hp.i i (List.mem_of_getElem? hi)).1
 have hcl := hp.cl
 have hr := ins_get hi
 have hlt := lt_get hi
 unfold Pg.d
 try refine qy ?_
 repeat refine qq ?_
 try generalize hK : SeqQ _ _ _ _ = K
 refine EvC.reg ?_
 refine qb hH fun k2 st hk2 hH => ?_
 try dsimp only [u2, u1, u3, u4, setMany, u5, u6, D.cells, Nat.reduceAdd, Pg.cs, insC, intC, boolC] at hH
 refine qm ?_
 refine EvO.nil ?_
 try subst hK
 try refine qy ?_
 repeat refine qq ?_
 try generalize hK : SeqQ _ _ _ _ = K
 refine EvC.reg ?_
 refine qp (o := 0) ?_
 refine ql hH at0 ?_
 refine qm ?_
 refine qr fun p9 hp9 => ?_
 refine EvO.rloadS rfl (ev rfl) (by assumption) rfl (by dsimp only [Fr.put, List.set_cons_succ, List.set_cons_zero] <;> rfl) ?_
 refine qa hH fun k5 st hk5 hH => ?_
 try dsimp only [u2, u1, u3, u4, setMany, u5, u6, D.cells, Nat.reduceAdd, Pg.cs, insC, intC, boolC] at hH
 refine qS hH at0 fun st hH => ?_
 try dsimp only [u2, u1, u3, u4, setMany, u5, u6, D.cells, Nat.reduceAdd, Pg.cs, insC, intC, boolC] at hH
 refine EvO.nil ?_
 try subst hK
 try refine qy ?_
 repeat refine qq ?_
 try generalize hK : SeqQ _ _ _ _ = K
 refine EvC.reg ?_
 refine qp (o := 0) ?_
 refine ql hH at0 ?_
 refine EvO.nil ?_
 try subst hK
 try refine qy ?_
 repeat refine qq ?_
 refine EvC.block ?_
 try refine qy ?_
 repeat refine qq ?_
 try generalize hK : SeqQ _ _ _ _ = K
 refine EvC.reg ?_
 refine qg ?_
 refine qm ?_
 refine EvO.nil ?_
 try subst hK
 try refine qy ?_
 repeat refine qq ?_
 refine qc (fun h2 => ?_) (fun h2 => ?_) <;> try simp only [cs] at h2
 ·have : nextS pc i = [i.x, i.y] := by unfold nextS; rw [if_pos h2]
  rw [this]
  try refine qy ?_
  repeat refine qq ?_
  try generalize hK : SeqQ _ _ _ _ = K
  refine EvC.reg ?_
  refine qp (o := 1) ?_
  refine ql hH at0 ?_
  refine qp (o := 2) ?_
  refine ql hH at0 ?_
  refine qh (s := 1) (vs := [_, _]) hH fun k19 st hk19 hH => ?_
  try dsimp only [u2, u1, u3, u4, setMany, u5, u6, D.cells, Nat.reduceAdd, Pg.cs, insC, intC, boolC] at hH
  refine qm ?_
  refine EvO.nil ?_
  try subst hK
  try refine qy ?_
  refine EvC.ret ⟨fun i h => (by cases h), _, rfl, leave_ro (by simp) hSb hH ?_⟩
  exact hH.freeze at0 (int_plain [i.x, i.y]) (n := 15) (by decide)
 ·try refine qy ?_
  repeat refine qq ?_
  try generalize hK : SeqQ _ _ _ _ = K
  refine EvC.reg ?_
  refine qg ?_
  refine qm ?_
  refine EvO.nil ?_
  try subst hK
  try refine qy ?_
  repeat refine qq ?_
  refine qc (fun h3 => ?_) (fun h3 => ?_) <;> try simp only [cs] at h3
  ·have : nextS pc i = [i.x] := by unfold nextS; rw [if_neg h2, if_pos h3]
   rw [this]
   try refine qy ?_
   repeat refine qq ?_
   try generalize hK : SeqQ _ _ _ _ = K
   refine EvC.reg ?_
   refine qp (o := 1) ?_
   refine ql hH at0 ?_
   refine qh (s := 1) (vs := [_]) hH fun k24 st hk24 hH => ?_
   try dsimp only [u2, u1, u3, u4, setMany, u5, u6, D.cells, Nat.reduceAdd, Pg.cs, insC, intC, boolC] at hH
   refine qm ?_
   refine EvO.nil ?_
   try subst hK
   try refine qy ?_
   refine EvC.ret ⟨fun i h => (by cases h), _, rfl, leave_ro (by simp) hSb hH ?_⟩
   exact hH.freeze at0 (int_plain [i.x]) (n := 15) (by decide)
  ·try refine qy ?_
   repeat refine qq ?_
   try generalize hK : SeqQ _ _ _ _ = K
   refine EvC.reg ?_
   refine qg ?_
   refine qm ?_
   refine EvO.nil ?_
   try subst hK
   try refine qy ?_
   repeat refine qq ?_
   refine qc (fun h7 => ?_) (fun h7 => ?_) <;> try simp only [cs] at h7
   ·have : nextS pc i = [] := by unfold nextS; rw [if_neg h2, if_neg h3, if_pos h7]
    rw [this]
    try refine qy ?_
    repeat refine qq ?_
    try generalize hK : SeqQ _ _ _ _ = K
    refine EvC.reg ?_
    refine qm ?_
    refine EvO.nil ?_
    try subst hK
    try refine qy ?_
    refine EvC.ret ⟨fun i h => (by cases h), _, rfl, leave_ro (by simp) hSb hH (rfl)⟩
   ·have : nextS pc i = [((pc + 1 : Nat) : Int)] := by unfold nextS; rw [if_neg h2, if_neg h3, if_neg h7]
    rw [this]
    refine EvC.skip ?_
    try refine qy ?_
    repeat refine qq ?_
    try generalize hK : SeqQ _ _ _ _ = K
    refine EvC.reg ?_
    refine qm ?_
    refine qA ?_
    refine qh (s := 1) (vs := [_]) hH fun k29 st hk29 hH => ?_
    try dsimp only [u2, u1, u3, u4, setMany, u5, u6, D.cells, Nat.reduceAdd, Pg.cs, insC, intC, boolC] at hH
    refine qm ?_
    refine EvO.nil ?_
    try subst hK
    try refine qy ?_
    refine EvC.ret ⟨fun i h => (by cases h), _, rfl, leave_ro (by simp) hSb hH ?_⟩
    exact hH.freeze at0 (int_plain [((pc + 1 : Nat) : Int)]) (n := 15) (by decide)

/-- what the document's Reach answers -/
def reachR (p : Pg) (rule : Int) : List Bool := if inS rule p.starts.length then reachS p.code (p.starts.getD rule.toNat 0) else List.replicate p.code.length false

theorem refReach_ev {s0 : St} {p : Pg} {rule : Int} (hp : p.ok) (hcl : closedS p.code) (hst : ∀ v ∈ p.starts, 0 ≤ v ∧ v < p.code.length) : Ev pv 26 [p.d, .int .i64 rule] s0 (boolsV (reachR p rule)) s0 := by
 refine Ev.mk1 rfl fi26 rfl rfl rfl ?_
 dsimp only [List.cons_append, List.nil_append, List.length, Nat.reduceSub, Nat.reduceAdd, List.replicate_succ, List.replicate_zero]
 have hSb : (enterSt .ro s0).bs = s0.bs := rfl
 have hF : (enterSt .ro s0).flr ≤ s0.bs.length := Nat.le_refl _
 have hH : Has s0.bs.length (enterSt .ro s0) (enterSt .ro s0) [] := Has.start (Nat.le_refl _) (Nat.le_refl _)
 generalize enterSt .ro s0 = S at *
 have hc := hp.c.arg s0.bs.length S
 have hs := hp.s.arg s0.bs.length S
 have hcd := hp.c
 have hlen := hp.cl
 have hsl0 := hp.sl
 unfold Pg.d
 try refine qy ?_
 repeat refine qq ?_
 try generalize hK : SeqQ _ _ _ _ = K
 refine EvC.reg ?_
 refine qb hH fun k2 st hk2 hH => ?_
 try dsimp only [u2, u1, u3, u4, setMany, u5, u6, D.cells, Nat.reduceAdd, Pg.cs, insC, intC, boolC] at hH
 refine qm ?_
 refine EvO.nil ?_
 try subst hK
 try refine qy ?_
 repeat refine qq ?_
 try generalize hK : SeqQ _ _ _ _ = K
 refine EvC.reg ?_
 refine qp (o := 0) ?_
 refine ql hH at0 ?_
 refine qn ?_
 try simp only [List.length_map, List.length_append, List.length_cons, List.length_nil, List.length_set, List.length_replicate, List.length_reverse]
 refine EvO.hmake (s := 1) hH rfl rfl rfl rfl rfl rfl rfl rfl (Nat.le_of_ble_eq_true rfl) (by omega) (fun _ => (put_T rfl _)) (fun k11 st hk11 hH => ?_)
 try dsimp only [u2, u1, u3, u4, setMany, u5, u6, D.cells, Nat.reduceAdd, Pg.cs, insC, intC, boolC] at hH
 refine qm ?_
 refine EvO.nil ?_
 try subst hK
 try refine qy ?_
 have hnot : inS rule p.starts.length = !(decide (rule < 0) || decide (rule ≥ p.starts.length)) := by
  unfold inS; simp only [Bool.not_or, ← decide_not, Int.not_lt, Int.not_le, ge_iff_le]
 try refine qy ?_
 repeat refine qq ?_
 refine EvC.cutT 20 (.bool (decide (rule < 0) || decide (rule ≥ p.starts.length))) [] ?_ (fun ff tmp htmp => ?_)
 ·refine qm ?_
  refine qg ?_
  refine qm ?_
  refine EvO.two 14 rfl (fun hg2 => ?_) (fun hg2 => ?_)
  ·refine qs ?_ (hg := wn hg2)
   refine qs ?_ (hg := wn hg2)
   refine qs ?_ (hg := wn hg2)
   refine qs ?_ (hg := wn hg2)
   refine qs ?_ (hg := wn hg2)
   refine qt hg2 ?_
   refine EvO.nil (leafT ?_ ?_)
   ·try dsimp only [setW, List.foldl, nth, u2, u1]
    all_goals (first | rfl | simp)
   ·try dsimp only [Fr.putO, Fr.put, Fr.clean, Fr.ev, Fr.get, nth, Go.V.look, u1, u2, v1, v2, v3, v4, v5, v6, v7, List.length, u3, u4, Nat.reduceSub, Nat.reduceAdd, List.map]
    all_goals (simp [hg2]; done)
  ·refine qm ?_ (hg := wi hg2)
   refine qp (o := 1) ?_ (hg := wi hg2)
   refine ql hH at1 ?_ (hg := wi hg2)
   refine qn ?_ (hg := wi hg2)
   try simp only [List.length_map, List.length_append, List.length_cons, List.length_nil, List.length_set, List.length_replicate, List.length_reverse]
   refine qg ?_ (hg := wi hg2)
   refine qu hg2 ?_
   refine EvO.nil (leafT ?_ ?_)
   ·try dsimp only [setW, List.foldl, nth, u2, u1]
    all_goals (first | rfl | simp)
   ·try dsimp only [Fr.putO, Fr.put, Fr.clean, Fr.ev, Fr.get, nth, Go.V.look, u1, u2, v1, v2, v3, v4, v5, v6, v7, List.length, u3, u4, Nat.reduceSub, Nat.reduceAdd, List.map]
    all_goals (simp [hg2]; done)
 try dsimp only [setW, List.foldl, nth, u2, u1]
 try dsimp only [Fr.putO, Fr.put, Fr.clean, Fr.ev, Fr.get, nth, Go.V.look, u1, u2, v1, v2, v3, v4, v5, v6, v7, List.length, u3, u4, Nat.reduceSub, Nat.reduceAdd, List.map]
 try refine qy ?_
 repeat refine qq ?_
 refine qc (fun h0 => ?_) (fun h0 => ?_) <;> try simp only [cs] at h0
 ·have hR : reachR p rule = List.replicate p.code.length false := by unfold reachR; rw [hnot, h0]; rfl
  rw [hR]
  try refine qy ?_
  repeat refine qq ?_
  try generalize hK : SeqQ _ _ _ _ = K
  refine EvC.reg ?_
  refine qm ?_
  refine qm ?_
  refine EvO.nil ?_
  try subst hK
  try refine qy ?_
  have hH : Has s0.bs.length S st [.lst (.win k11 0 0 p.code.length 1) 1 ((List.replicate p.code.length false).map boolC), .box k2 (.mem 0 false [p.cd, p.sd])] := by rw [List.map_replicate]; exact hH
  refine EvC.ret ⟨fun i h => (by cases h), _, rfl, leave_ro (by simp) hSb hH ?_⟩
  exact hH.freeze at0 (bool_plain _) (n := 15) (by decide)
 ·have hin : inS rule p.starts.length = true := by rw [hnot, h0]; rfl
  have hR : reachR p rule = reachS p.code (p.starts.getD rule.toNat 0) := by unfold reachR; rw [if_pos hin]
  rw [hR]
  unfold inS at hin
  simp only [Bool.and_eq_true, decide_eq_true_eq] at hin
  obtain ⟨ru, rfl⟩ := Int.eq_ofNat_of_zero_le hin.1
  obtain ⟨start, hs1⟩ : ∃ v, p.starts[ru]? = some v := ⟨p.starts[ru]'(by omega), List.getElem?_eq_getElem _⟩
  have hr0 := int_get hs1
  have hst := hst start (List.mem_of_getElem? hs1)
  rw [show p.starts.getD (ru : Int).toNat 0 = start by rw [Int.toNat_natCast, List.getD_eq_getElem?_getD, hs1]; rfl]
  refine EvC.skip ?_
  try refine qy ?_
  repeat refine qq ?_
  try generalize hK : SeqQ _ _ _ _ = K
  refine EvC.reg ?_
  refine qp (o := 1) ?_
  refine ql hH at1 ?_
  refine qm ?_
  refine qr fun p25 hp25 => ?_
  refine qR ?_
  refine qh (s := 1) (vs := [_]) hH fun k27 st hk27 hH => ?_
  try dsimp only [u2, u1, u3, u4, setMany, u5, u6, D.cells, Nat.reduceAdd, Pg.cs, insC, intC, boolC] at hH
  refine qm ?_
  refine EvO.nil ?_
  try subst hK
  try refine qy ?_
  repeat refine qq ?_
  refine EvC.block ?_
  refine EvC.loop (fun mm fr st => ∃ (y z : D) (seen : List Bool) (stk : List Int), fr.clean = ⟨8, [ixF_Ji fr 0, ixF_Ji fr 1, .ptr k2 0 0, ixF_Ji fr 3, .nul, y, z, ixF_Ji fr 7], []⟩ ∧ Has s0.bs.length S st [.lst z 1 (stk.reverse.map intC), .lst y 1 (seen.map boolC), .box k2 (.mem 0 false [p.cd, p.sd])] ∧ (dfs p.code mm seen stk = reachS p.code start) ∧ (3 * seen.count false + stk.length ≤ mm) ∧ (seen.length = p.code.length) ∧ (∀ v ∈ stk, 0 ≤ v ∧ v < (p.code.length : Int)) ∧ (mm ≤ 3 * p.code.length + 1)) (3 * p.code.length + 1) ?_ ?_
  ·exact ⟨_, _, List.replicate p.code.length false, [start], rfl, (by rw [List.map_replicate]; exact hH), rfl, by simp, by simp, by simpa using hst, by omega⟩
  rintro mm fr st ⟨y, z, seen, stk, hfr, hH, hd, hm, hsl, hsk, hmm⟩
  rw [hfr]
  clear hfr
  try generalize ixF_Ji fr = ee
  clear fr
  try refine qy ?_
  rcases stk with _ | ⟨v, stk⟩
  ·try refine qy ?_
   repeat refine qq ?_
   try generalize hK : SeqQ _ _ _ _ = K
   refine EvC.reg ?_
   refine qm ?_
   refine qn ?_ (hR := hH.rows at0)
   try simp only [List.length_map, List.length_append, List.length_cons, List.length_nil, List.length_set, List.length_replicate, List.length_reverse]
   refine qg ?_
   refine EvO.nil ?_
   try subst hK
   try refine qy ?_
   repeat refine qq ?_
   refine EvC.cond (v := false) (by dsimp only [Fr.ev, Fr.get, nth, Go.V.look]; rfl) (fun h => by cases h) (fun _ => ?_)
   try refine qy ?_
   refine EvC.exit ?_
   try refine qy ?_
   repeat refine qq ?_
   try generalize hK : SeqQ _ _ _ _ = K
   refine EvC.reg ?_
   refine qm ?_
   refine qm ?_
   refine EvO.nil ?_
   try subst hK
   try refine qy ?_
   have hfin : seen = reachS p.code start := by rw [← hd]; cases mm <;> rfl
   rw [← hfin]
   refine EvC.ret ⟨fun i h => (by cases h), _, rfl, leave_ro (by simp) hSb hH ?_⟩
   exact hH.freeze at1 (bool_plain _) (n := 15) (by decide)
  ·have hv := hsk v (List.mem_cons_self ..)
   obtain ⟨k, rfl⟩ := Int.eq_ofNat_of_zero_le hv.1
   have hk : k < p.code.length := by omega
   simp only [List.length_cons] at hm
   obtain ⟨mm, rfl⟩ : ∃ m', mm = m' + 1 := ⟨mm - 1, by omega⟩
   obtain ⟨b, hb⟩ : ∃ b, seen[k]? = some b := ⟨seen[k]'(by omega), List.getElem?_eq_getElem _⟩
   obtain ⟨i, hi⟩ : ∃ i, p.code[k]? = some i := ⟨p.code[k]'(by omega), List.getElem?_eq_getElem _⟩
   have hr1 := stk_last (k : Int) stk
   have hr2 := bool_get hb
   try refine qy ?_
   repeat refine qq ?_
   try generalize hK : SeqQ _ _ _ _ = K
   refine EvC.reg ?_
   refine qm ?_
   refine qn ?_ (hR := hH.rows at0)
   try simp only [List.length_map, List.length_append, List.length_cons, List.length_nil, List.length_set, List.length_replicate, List.length_reverse]
   refine qg ?_
   refine EvO.nil ?_
   try subst hK
   try refine qy ?_
   repeat refine qq ?_
   refine EvC.cond (v := true) (by dsimp only [Fr.ev, Fr.get, nth, Go.V.look]; simp) (fun _ => ?_) (fun h => by cases h)
   try refine qy ?_
   refine EvC.skip ?_
   try refine qy ?_
   repeat refine qq ?_
   refine EvC.block ?_
   try refine qy ?_
   repeat refine qq ?_
   try generalize hK : SeqQ _ _ _ _ = K
   refine EvC.reg ?_
   refine qm ?_
   refine qm ?_
   refine qn ?_ (hR := hH.rows at0)
   try simp only [List.length_map, List.length_append, List.length_cons, List.length_nil, List.length_set, List.length_replicate, List.length_reverse]
   refine EvO.subZ (z := ((stk.length : Nat) : Int)) rfl (ev rfl) (ev rfl) (by (try simp only [List.length_reverse, List.length_cons, List.length_nil, List.length_append, List.length_map, List.length_set]); rw [wrap_i64 (by omega) (by omega)] <;> omega) (put_T rfl _) ?_
   refine qi hH at0 fun p35 hp35 => ?_
   refine qo hH at0 ?_
   refine qm ?_
   refine EvO.nil ?_
   try subst hK
   try refine qy ?_
   repeat refine qq ?_
   try generalize hK : SeqQ _ _ _ _ = K
   refine EvC.reg ?_
   refine qm ?_
   refine qm ?_
   refine qn ?_ (hR := hH.rows at0)
   try simp only [List.length_map, List.length_append, List.length_cons, List.length_nil, List.length_set, List.length_replicate, List.length_reverse]
   refine EvO.subZ (z := ((stk.length : Nat) : Int)) rfl (ev rfl) (ev rfl) (by (try simp only [List.length_reverse, List.length_cons, List.length_nil, List.length_append, List.length_map, List.length_set]); rw [wrap_i64 (by omega) (by omega)] <;> omega) (put_T rfl _) ?_
   refine EvO.oslice hH rfl (ev rfl) (by exact at0) rfl rfl (bounds_to (by simp only [List.length_map, List.length_reverse, List.length_cons, List.length_append, List.length_nil, List.length_take, List.length_drop, List.length_set, List.length_replicate]; omega)) ⟨(by omega), (by simp only [List.length_map, List.length_reverse, List.length_cons, List.length_append, List.length_nil, List.length_take, List.length_drop, List.length_set, List.length_replicate]; omega)⟩ (fun _ => (put_T rfl _)) (fun y41 hH => ?_)
   refine qm ?_
   refine EvO.nil ?_
   try subst hK
   try refine qy ?_
   dsimp only [List.set_cons_zero] at hH
   rw [stk_pop] at hH
   have hst : ∀ w ∈ stk, 0 ≤ w ∧ w < (p.code.length : Int) := fun w hw => hsk w (List.mem_cons_of_mem _ hw)
   try refine qy ?_
   repeat refine qq ?_
   try generalize hK : SeqQ _ _ _ _ = K
   refine EvC.reg ?_
   refine qm ?_
   refine qm ?_
   refine qi hH at1 fun p44 hp44 => ?_
   refine qo hH at1 ?_
   refine EvO.nil ?_
   try subst hK
   try refine qy ?_
   cases b with
   | true =>
    try refine qy ?_
    repeat refine qq ?_
    refine EvC.cond (v := true) (by rfl) (fun _ => ?_) (fun h => by cases h)
    try refine qy ?_
    refine EvC.exit ?_
    try refine qy ?_
    simp only [dfs, Int.toNat_natCast, hb] at hd
    exact ⟨mm, by omega, ⟨_, _, seen, stk, rfl, hH, hd, by omega, hsl, hst, by omega⟩⟩
   | false =>
    have hcnt := count_set hb
    have hset : (seen.set k true).map boolC = (seen.map boolC).set k [.bool true] := by rw [List.map_set]; rfl
    simp only [dfs, Int.toNat_natCast, hb, hi] at hd
    have hnx := hcl k i hi
    have hnl := next_len k i
    have hsk2 : ∀ w ∈ (nextS k i).reverse ++ stk, 0 ≤ w ∧ w < (p.code.length : Int) := fun w hw => by
     rcases List.mem_append.1 hw with hw | hw
     ·exact hnx w (List.mem_reverse.1 hw)
     ·exact hst w hw
    have hrev : (((nextS k i).reverse ++ stk).reverse).map intC = stk.reverse.map intC ++ (nextS k i).map intC := by
     rw [List.reverse_append, List.reverse_reverse, List.map_append]
    have hna := (intsV_sl (nextS k i)).arg s0.bs.length S
    try refine qy ?_
    repeat refine qq ?_
    refine EvC.cond (v := false) (by rfl) (fun h => by cases h) (fun _ => ?_)
    try refine qy ?_
    refine EvC.skip ?_
    try refine qy ?_
    repeat refine qq ?_
    try generalize hK : SeqQ _ _ _ _ = K
    refine EvC.reg ?_
    refine qm ?_
    refine qm ?_
    refine qi hH at1 fun p48 hp48 => ?_
    refine EvO.ostore hH rfl (ev rfl) (ev rfl) (by assumption) rfl rfl (by exact at1) (by assumption) (Nat.le_of_ble_eq_true rfl) (by exact .inl hF) (fun st hH => ?_)
    try dsimp only [u2, u1, u3, u4, setMany, u5, u6, D.cells, Nat.reduceAdd, Pg.cs, insC, intC, boolC] at hH
    refine EvO.nil ?_
    try subst hK
    try refine qy ?_
    repeat refine qq ?_
    try generalize hK : SeqQ _ _ _ _ = K
    refine EvC.reg ?_
    refine qm ?_
    refine EvO.hloadS (m := 2) hH rfl (ev rfl) (by exact at2) (by dsimp only [List.drop_succ_cons, List.drop_zero, List.take_succ_cons, List.take_zero, Pg.cs, insC, intC, boolC] <;> rfl) rfl rfl (put_T rfl _) ?_
    refine qm ?_
    refine EvO.hcall rfl rfl (next_ev hp hi) (put_T rfl _) ?_
    refine qP hH at0 (Arg.rows (by assumption) hH) fun x53 st hH => ?_
    try dsimp only [u2, u1, u3, u4, setMany, u5, u6, D.cells, Nat.reduceAdd, Pg.cs, insC, intC, boolC] at hH
    refine qm ?_
    refine EvO.nil ?_
    try subst hK
    try refine qy ?_
    exact ⟨mm, by omega, ⟨y, _, seen.set k true, (nextS k i).reverse ++ stk, rfl, (by rw [hrev, hset]; exact hH), hd, by simp only [List.length_append, List.length_reverse]; omega, by simp only [List.length_set]; exact hsl, hsk2, by omega⟩⟩
end Go.Proofs.Ytbdilgkfnacahaa
