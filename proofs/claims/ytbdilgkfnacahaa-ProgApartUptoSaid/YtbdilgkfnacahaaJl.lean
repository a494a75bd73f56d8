/-
 Programs: cut short, copied, held against each other.
-/
import Derived.Test.YtbdilgkfnacahaaJk
import Derived.Test.YtbdilgkfnacahaaM2
namespace Go.Proofs.Ytbdilgkfnacahaa
open Go.V Go
set_option maxRecDepth 100000
set_option maxHeartbeats 4000000
set_option linter.unusedSimpArgs false
set_option linter.unusedVariables false

/-- what a frame holds at a slot -/
def ixF_Jl (fr : Go.V.Fr) (k : Nat) : Go.V.D := Go.V.nth .junk fr.loc k

theorem sameInt_ev {s0 : St} {x y : D} {l m : List Int} (hx : V.Rows s0 1 x (l.map intC)) (hy : V.Rows s0 1 y (m.map intC)) (hl : l.length ≤ 1073741824) (hm : m.length ≤ 1073741824) : Ev pv 19 [x, y] s0 (.bool (decide (l = m))) s0 := by
 refine Ev.mk1 rfl fi19 rfl rfl rfl ?_
 dsimp only [List.cons_append, List.nil_append, List.length, Nat.reduceSub, Nat.reduceAdd, List.replicate_succ, List.replicate_zero]
 have hSb : (enterSt .ro s0).bs = s0.bs := rfl
 have hF : (enterSt .ro s0).flr ≤ s0.bs.length := Nat.le_refl _
 have hH : Has s0.bs.length (enterSt .ro s0) (enterSt .ro s0) [] := Has.start (Nat.le_refl _) (Nat.le_refl _)
 generalize enterSt .ro s0 = S at *
 have hx := Arg.of hx hSb
 have hy := Arg.of hy hSb
 try refine qy ?_
 repeat refine qq ?_
 try generalize hK : SeqQ _ _ _ _ = K
 refine EvC.reg ?_
 refine qm ?_
 refine EvO.nil ?_
 try subst hK
 try refine qy ?_
 repeat refine qq ?_
 try generalize hK : SeqQ _ _ _ _ = K
 refine EvC.reg ?_
 refine qm ?_
 refine qn ?_
 try simp only [List.length_map, List.length_append, List.length_cons, List.length_nil, List.length_set, List.length_replicate, List.length_reverse]
 refine qm ?_
 refine qn ?_
 try simp only [List.length_map, List.length_append, List.length_cons, List.length_nil, List.length_set, List.length_replicate, List.length_reverse]
 refine qg ?_
 refine EvO.nil ?_
 try subst hK
 try refine qy ?_
 by_cases hlen : l.length = m.length
 ·try refine qy ?_
  repeat refine qq ?_
  refine EvC.cond (v := false) (by dsimp only [Fr.ev, Fr.get, nth, Go.V.look]; rw [hlen]; simp) (fun h => by cases h) (fun _ => ?_)
  try refine qy ?_
  refine EvC.skip ?_
  try refine qy ?_
  repeat refine qq ?_
  try generalize hK : SeqQ _ _ _ _ = K
  refine EvC.reg ?_
  refine qm ?_
  refine EvO.nil ?_
  try subst hK
  try refine qy ?_
  repeat refine qq ?_
  refine EvC.block ?_
  refine EvC.loop (fun mm fr st => ∃ (i : Nat), fr.clean = ⟨6, [x, y, ixF_Jl fr 2, ixF_Jl fr 3, .bool false, .int .i64 (i : Nat)], []⟩ ∧ Has s0.bs.length S st [] ∧ (i + mm = l.length) ∧ (l.take i = m.take i)) (l.length) ?_ ?_
  ·exact ⟨0, rfl, hH, by omega, rfl⟩
  rintro mm fr st ⟨i, hfr, hH, hi, ht⟩
  rw [hfr]
  clear hfr
  try generalize ixF_Jl fr = ee
  clear fr
  try refine qy ?_
  repeat refine qq ?_
  try generalize hK : SeqQ _ _ _ _ = K
  refine EvC.reg ?_
  refine qm ?_
  refine qm ?_
  refine qn ?_
  try simp only [List.length_map, List.length_append, List.length_cons, List.length_nil, List.length_set, List.length_replicate, List.length_reverse]
  refine qg ?_
  refine EvO.nil ?_
  try subst hK
  try refine qy ?_
  repeat refine qq ?_
  refine qc (fun h1 => ?_) (fun h1 => ?_) <;> try simp only [cs] at h1
  ·refine EvC.skip ?_
   try refine qy ?_
   obtain ⟨p, hp⟩ : ∃ p, l[i]? = some p := ⟨l[i]'(by omega), List.getElem?_eq_getElem _⟩
   obtain ⟨q, hq⟩ : ∃ q, m[i]? = some q := ⟨m[i]'(by omega), List.getElem?_eq_getElem _⟩
   have hr1 := int_get hp
   have hr2 := int_get hq
   try refine qy ?_
   repeat refine qq ?_
   refine EvC.block ?_
   try refine qy ?_
   repeat refine qq ?_
   try generalize hK : SeqQ _ _ _ _ = K
   refine EvC.reg ?_
   refine qm ?_
   refine qm ?_
   refine qr fun p19 hp19 => ?_
   refine qR ?_
   refine qm ?_
   refine qm ?_
   refine qr fun p23 hp23 => ?_
   refine qR ?_
   refine qg ?_
   refine EvO.nil ?_
   try subst hK
   try refine qy ?_
   repeat refine qq ?_
   refine qc (fun h2 => ?_) (fun h2 => ?_) <;> try simp only [cs] at h2
   ·try refine qy ?_
    repeat refine qq ?_
    try generalize hK : SeqQ _ _ _ _ = K
    refine EvC.reg ?_
    refine qm ?_
    refine EvO.nil ?_
    try subst hK
    try refine qy ?_
    rw [decide_eq_false (ne_of_get hp hq (by simpa using h2))]
    refine EvC.ret ⟨fun i h => (by cases h), _, rfl, leave_ro (by simp) hSb hH (rfl)⟩
   ·refine EvC.skip ?_
    try refine qy ?_
    repeat refine qq ?_
    try generalize hK : SeqQ _ _ _ _ = K
    refine EvC.reg ?_
    refine qm ?_
    refine qA ?_
    refine qm ?_
    refine EvO.nil ?_
    try subst hK
    try refine qy ?_
    exact ⟨mm - 1, by omega, ⟨i + 1, rfl, hH, by omega, take_eq_step hp hq ht (by simpa using h2)⟩⟩
  ·try refine qy ?_
   refine EvC.exit ?_
   try refine qy ?_
   repeat refine qq ?_
   try generalize hK : SeqQ _ _ _ _ = K
   refine EvC.reg ?_
   refine qm ?_
   refine EvO.nil ?_
   try subst hK
   try refine qy ?_
   rw [decide_eq_true (by rw [List.take_of_length_le (by omega), List.take_of_length_le (by omega)] at ht; exact ht)]
   refine EvC.ret ⟨fun i h => (by cases h), _, rfl, leave_ro (by simp) hSb hH (rfl)⟩
 ·try refine qy ?_
  repeat refine qq ?_
  refine EvC.cond (v := true) (by dsimp only [Fr.ev, Fr.get, nth, Go.V.look]; simp; omega) (fun _ => ?_) (fun h => by cases h)
  try refine qy ?_
  repeat refine qq ?_
  try generalize hK : SeqQ _ _ _ _ = K
  refine EvC.reg ?_
  refine qm ?_
  refine EvO.nil ?_
  try subst hK
  try refine qy ?_
  rw [decide_eq_false (fun h => hlen (by rw [h]))]
  refine EvC.ret ⟨fun i h => (by cases h), _, rfl, leave_ro (by simp) hSb hH (rfl)⟩

theorem sameRange_ev {s0 : St} {x y : D} {l m : List Rg} (hx : V.Rows s0 2 x (l.map rangeC)) (hy : V.Rows s0 2 y (m.map rangeC)) (hl : l.length ≤ 1073741824) (hm : m.length ≤ 1073741824) : Ev pv 20 [x, y] s0 (.bool (decide (l = m))) s0 := by
 refine Ev.mk1 rfl fi20 rfl rfl rfl ?_
 dsimp only [List.cons_append, List.nil_append, List.length, Nat.reduceSub, Nat.reduceAdd, List.replicate_succ, List.replicate_zero]
 have hSb : (enterSt .ro s0).bs = s0.bs := rfl
 have hF : (enterSt .ro s0).flr ≤ s0.bs.length := Nat.le_refl _
 have hH : Has s0.bs.length (enterSt .ro s0) (enterSt .ro s0) [] := Has.start (Nat.le_refl _) (Nat.le_refl _)
 generalize enterSt .ro s0 = S at *
 have hx := Arg.of hx hSb
 have hy := Arg.of hy hSb
 try refine qy ?_
 repeat refine qq ?_
 try generalize hK : SeqQ _ _ _ _ = K
 refine EvC.reg ?_
 refine qm ?_
 refine EvO.nil ?_
 try subst hK
 try refine qy ?_
 repeat refine qq ?_
 try generalize hK : SeqQ _ _ _ _ = K
 refine EvC.reg ?_
 refine qm ?_
 refine qn ?_
 try simp only [List.length_map, List.length_append, List.length_cons, List.length_nil, List.length_set, List.length_replicate, List.length_reverse]
 refine qm ?_
 refine qn ?_
 try simp only [List.length_map, List.length_append, List.length_cons, List.length_nil, List.length_set, List.length_replicate, List.length_reverse]
 refine qg ?_
 refine EvO.nil ?_
 try subst hK
 try refine qy ?_
 by_cases hlen : l.length = m.length
 ·try refine qy ?_
  repeat refine qq ?_
  refine EvC.cond (v := false) (by dsimp only [Fr.ev, Fr.get, nth, Go.V.look]; rw [hlen]; simp) (fun h => by cases h) (fun _ => ?_)
  try refine qy ?_
  refine EvC.skip ?_
  try refine qy ?_
  repeat refine qq ?_
  try generalize hK : SeqQ _ _ _ _ = K
  refine EvC.reg ?_
  refine qm ?_
  refine EvO.nil ?_
  try subst hK
  try refine qy ?_
  repeat refine qq ?_
  refine EvC.block ?_
  refine EvC.loop (fun mm fr st => ∃ (i : Nat), fr.clean = ⟨6, [x, y, ixF_Jl fr 2, ixF_Jl fr 3, .bool false, .int .i64 (i : Nat)], []⟩ ∧ Has s0.bs.length S st [] ∧ (i + mm = l.length) ∧ (l.take i = m.take i)) (l.length) ?_ ?_
  ·exact ⟨0, rfl, hH, by omega, rfl⟩
  rintro mm fr st ⟨i, hfr, hH, hi, ht⟩
  rw [hfr]
  clear hfr
  try generalize ixF_Jl fr = ee
  clear fr
  try refine qy ?_
  repeat refine qq ?_
  try generalize hK : SeqQ _ _ _ _ = K
  refine EvC.reg ?_
  refine qm ?_
  refine qm ?_
  refine qn ?_
  try simp only [List.length_map, List.length_append, List.length_cons, List.length_nil, List.length_set, List.length_replicate, List.length_reverse]
  refine qg ?_
  refine EvO.nil ?_
  try subst hK
  try refine qy ?_
  repeat refine qq ?_
  refine qc (fun h1 => ?_) (fun h1 => ?_) <;> try simp only [cs] at h1
  ·refine EvC.skip ?_
   try refine qy ?_
   obtain ⟨p, hp⟩ : ∃ p, l[i]? = some p := ⟨l[i]'(by omega), List.getElem?_eq_getElem _⟩
   obtain ⟨q, hq⟩ : ∃ q, m[i]? = some q := ⟨m[i]'(by omega), List.getElem?_eq_getElem _⟩
   have hr1 := range_get hp
   have hr2 := range_get hq
   try refine qy ?_
   repeat refine qq ?_
   refine EvC.block ?_
   try refine qy ?_
   repeat refine qq ?_
   try generalize hK : SeqQ _ _ _ _ = K
   refine EvC.reg ?_
   refine qm ?_
   refine qm ?_
   refine qr fun p19 hp19 => ?_
   refine EvO.rloadS rfl (ev rfl) (by assumption) rfl (put_T rfl _) ?_
   refine qm ?_
   refine qm ?_
   refine qr fun p23 hp23 => ?_
   refine EvO.rloadS rfl (ev rfl) (by assumption) rfl (put_T rfl _) ?_
   refine EvO.neB rfl (ev rfl) (ev rfl) (neq_range p q) (put_T rfl _) ?_
   refine EvO.nil ?_
   try subst hK
   try refine qy ?_
   repeat refine qq ?_
   refine qc (fun h2 => ?_) (fun h2 => ?_) <;> try simp only [cs] at h2
   ·try refine qy ?_
    repeat refine qq ?_
    try generalize hK : SeqQ _ _ _ _ = K
    refine EvC.reg ?_
    refine qm ?_
    refine EvO.nil ?_
    try subst hK
    try refine qy ?_
    rw [decide_eq_false (ne_of_get hp hq (by simpa using h2))]
    refine EvC.ret ⟨fun i h => (by cases h), _, rfl, leave_ro (by simp) hSb hH (rfl)⟩
   ·refine EvC.skip ?_
    try refine qy ?_
    repeat refine qq ?_
    try generalize hK : SeqQ _ _ _ _ = K
    refine EvC.reg ?_
    refine qm ?_
    refine qA ?_
    refine qm ?_
    refine EvO.nil ?_
    try subst hK
    try refine qy ?_
    exact ⟨mm - 1, by omega, ⟨i + 1, rfl, hH, by omega, take_eq_step hp hq ht (by simpa using h2)⟩⟩
  ·try refine qy ?_
   refine EvC.exit ?_
   try refine qy ?_
   repeat refine qq ?_
   try generalize hK : SeqQ _ _ _ _ = K
   refine EvC.reg ?_
   refine qm ?_
   refine EvO.nil ?_
   try subst hK
   try refine qy ?_
   rw [decide_eq_true (by rw [List.take_of_length_le (by omega), List.take_of_length_le (by omega)] at ht; exact ht)]
   refine EvC.ret ⟨fun i h => (by cases h), _, rfl, leave_ro (by simp) hSb hH (rfl)⟩
 ·try refine qy ?_
  repeat refine qq ?_
  refine EvC.cond (v := true) (by dsimp only [Fr.ev, Fr.get, nth, Go.V.look]; simp; omega) (fun _ => ?_) (fun h => by cases h)
  try refine qy ?_
  repeat refine qq ?_
  try generalize hK : SeqQ _ _ _ _ = K
  refine EvC.reg ?_
  refine qm ?_
  refine EvO.nil ?_
  try subst hK
  try refine qy ?_
  rw [decide_eq_false (fun h => hlen (by rw [h]))]
  refine EvC.ret ⟨fun i h => (by cases h), _, rfl, leave_ro (by simp) hSb hH (rfl)⟩

theorem short_ev {s0 : St} {p : Pg} (hp : p.ok) : ∃ d, Ev pv 23 [p.d] s0 d s0 ∧ ∃ q : Pg, d = q.d ∧ q.ok ∧ q.code = p.code.take 450 ∧ q.starts = p.starts.take 12 := by
 refine Ev.mkR rfl fi23 rfl rfl rfl ?_
 dsimp only [List.cons_append, List.nil_append, List.length, Nat.reduceSub, Nat.reduceAdd, List.replicate_succ, List.replicate_zero]
 have hSb : (enterSt .ro s0).bs = s0.bs := rfl
 have hF : (enterSt .ro s0).flr ≤ s0.bs.length := Nat.le_refl _
 have hH : Has s0.bs.length (enterSt .ro s0) (enterSt .ro s0) [] := Has.start (Nat.le_refl _) (Nat.le_refl _)
 generalize enterSt .ro s0 = S at *
 have hc := hp.c.arg s0.bs.length S
 have hs := hp.s.arg s0.bs.length S
 have hcd := hp.c
 have hsd := hp.s
 have hlen := hp.cl
 have hsl0 := hp.sl
 unfold Pg.d
 try refine qy ?_
 repeat refine qq ?_
 try generalize hK : SeqQ _ _ _ _ = K
 refine EvC.reg ?_
 refine qb hH fun k1 st hk1 hH => ?_
 try dsimp only [u2, u1, u3, u4, setMany, u5, u6, D.cells, Nat.reduceAdd, Pg.cs, insC, intC] at hH
 refine qa hH fun k2 st hk2 hH => ?_
 try dsimp only [u2, u1, u3, u4, setMany, u5, u6, D.cells, Nat.reduceAdd, Pg.cs, insC, intC] at hH
 refine EvO.nil ?_
 try subst hK
 try refine qy ?_
 repeat refine qq ?_
 try generalize hK : SeqQ _ _ _ _ = K
 refine EvC.reg ?_
 refine qp (o := 0) ?_
 refine ql hH at1 ?_
 refine qn ?_
 try simp only [List.length_map, List.length_append, List.length_cons, List.length_nil, List.length_set, List.length_replicate, List.length_reverse]
 refine qg ?_
 refine EvO.nil ?_
 try subst hK
 try refine qy ?_
 repeat refine qq ?_
 refine EvC.merge (fun fr st => ∃ (y : D) (tmp : List (Nat × D)), fr = ⟨3, [.agg p.cs, .ptr k1 0 0, .ptr k2 0 0], tmp⟩ ∧ Has s0.bs.length S st [.box k2 (.mem 0 false [.nul, .nul]), .box k1 (.mem 0 false [y, p.sd])] ∧ (SlD y 4 ((p.code.take 450).map insC))) ?_ ?_
 ·try refine qy ?_
  repeat refine qq ?_
  refine qc (fun h1 => ?_) (fun h1 => ?_) <;> try simp only [cs] at h1
  ·try refine qy ?_
   repeat refine qq ?_
   try generalize hK : SeqQ _ _ _ _ = K
   refine EvC.reg ?_
   refine qp (o := 0) ?_
   refine ql hH at1 ?_
   refine EvO.pslice rfl (ev rfl) (by assumption) rfl rfl (bounds_to (by simp only [List.length_map, List.length_reverse, List.length_cons, List.length_append, List.length_nil, List.length_take, List.length_drop, List.length_set, List.length_replicate]; omega)) (fun _ => (put_T rfl _)) (fun y9 hy9 => ?_)
   refine qp (o := 0) ?_
   refine qT hH at1 fun st hH => ?_
   try dsimp only [u2, u1, u3, u4, setMany, u5, u6, D.cells, Nat.reduceAdd, Pg.cs, insC, intC] at hH
   refine EvO.nil ?_
   try subst hK
   try refine qy ?_
   exact ⟨_, _, rfl, hH, (by rw [List.drop_zero, ← List.map_take] at hy9; exact hy9)⟩
  ·refine EvC.skip ?_
   try refine qy ?_
   exact ⟨p.cd, _, rfl, hH, (by rw [List.take_of_length_le (by omega)]; exact hcd)⟩
 ·rintro fr st ⟨y, tmp, hfr, hH, hy⟩
  rw [hfr]
  clear hfr
  try generalize ixF_Jl fr = ee
  clear fr
  try refine qy ?_
  repeat refine qq ?_
  try generalize hK : SeqQ _ _ _ _ = K
  refine EvC.reg ?_
  refine qp (o := 1) ?_
  refine ql hH at1 ?_
  refine qn ?_
  try simp only [List.length_map, List.length_append, List.length_cons, List.length_nil, List.length_set, List.length_replicate, List.length_reverse]
  refine qg ?_
  refine EvO.nil ?_
  try subst hK
  try refine qy ?_
  repeat refine qq ?_
  refine EvC.merge (fun fr st => ∃ (z : D) (tmp : List (Nat × D)), fr = ⟨3, [.agg p.cs, .ptr k1 0 0, .ptr k2 0 0], tmp⟩ ∧ Has s0.bs.length S st [.box k2 (.mem 0 false [.nul, .nul]), .box k1 (.mem 0 false [y, z])] ∧ (SlD z 1 ((p.starts.take 12).map intC))) ?_ ?_
  ·try refine qy ?_
   repeat refine qq ?_
   refine qc (fun h1 => ?_) (fun h1 => ?_) <;> try simp only [cs] at h1
   ·try refine qy ?_
    repeat refine qq ?_
    try generalize hK : SeqQ _ _ _ _ = K
    refine EvC.reg ?_
    refine qp (o := 1) ?_
    refine ql hH at1 ?_
    refine EvO.pslice rfl (ev rfl) (by assumption) rfl rfl (bounds_to (by simp only [List.length_map, List.length_reverse, List.length_cons, List.length_append, List.length_nil, List.length_take, List.length_drop, List.length_set, List.length_replicate]; omega)) (fun _ => (put_T rfl _)) (fun y17 hy17 => ?_)
    refine qp (o := 1) ?_
    refine qT hH at1 fun st hH => ?_
    try dsimp only [u2, u1, u3, u4, setMany, u5, u6, D.cells, Nat.reduceAdd, Pg.cs, insC, intC] at hH
    refine EvO.nil ?_
    try subst hK
    try refine qy ?_
    exact ⟨_, _, rfl, hH, (by rw [List.drop_zero, ← List.map_take] at hy17; exact hy17)⟩
   ·refine EvC.skip ?_
    try refine qy ?_
    exact ⟨p.sd, _, rfl, hH, (by rw [List.take_of_length_le (by omega)]; exact hsd)⟩
  ·rintro fr st ⟨z, tmp, hfr, hH, hz⟩
   rw [hfr]
   clear hfr
   try generalize ixF_Jl fr = ee
   clear fr
   try refine qy ?_
   repeat refine qq ?_
   try generalize hK : SeqQ _ _ _ _ = K
   refine EvC.reg ?_
   refine EvO.hloadS (m := 2) hH rfl (ev rfl) (by exact at1) (by dsimp only [List.drop_succ_cons, List.drop_zero, List.take_succ_cons, List.take_zero, Pg.cs, insC, intC] <;> rfl) rfl rfl (put_T rfl _) ?_
   refine qS hH at0 fun st hH => ?_
   try dsimp only [u2, u1, u3, u4, setMany, u5, u6, D.cells, Nat.reduceAdd, Pg.cs, insC, intC] at hH
   refine EvO.nil ?_
   try subst hK
   try refine qy ?_
   obtain ⟨y', z', h1, h2, h3⟩ := freeze_two hy hz st s0.bs.length
   refine EvC.ret ⟨fun i h => (by cases h), _, _, hH.resCell rfl at0 rfl, leave_ro (by simp) hSb hH h1, ⟨y', p.code.take 450, z', p.starts.take 12⟩, rfl, ⟨h2, h3, fun i hi => hp.i i (List.mem_of_mem_take hi), ?_, ?_⟩, rfl, rfl⟩
   ·simp only [List.length_take]; omega
   ·simp only [List.length_take]; omega
end Go.Proofs.Ytbdilgkfnacahaa
