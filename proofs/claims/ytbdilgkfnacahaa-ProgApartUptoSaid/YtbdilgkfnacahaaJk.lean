/-
 Is a program right? The document's text; what a rule reaches, as a list.
-/
import Derived.Test.YtbdilgkfnacahaaJj
namespace Go.Proofs.Ytbdilgkfnacahaa
open Go.V Go
set_option maxRecDepth 100000
set_option maxHeartbeats 4000000
set_option linter.unusedSimpArgs false
set_option linter.unusedVariables false

/-- what a frame holds at a slot -/
def ixF_Jk (fr : Go.V.Fr) (k : Nat) : Go.V.D := Go.V.nth .junk fr.loc k

theorem refRightQ_ev {s0 : St} {p : Pg} (hp : p.ok) : Ev pv 25 [p.d] s0 (.bool (dec (RightQ p))) s0 := by
 refine Ev.mk1 rfl fi25 rfl rfl rfl ?_
 dsimp only [List.cons_append, List.nil_append, List.length, Nat.reduceSub, Nat.reduceAdd, List.replicate_succ, List.replicate_zero]
 have hSb : (enterSt .ro s0).bs = s0.bs := rfl
 have hF : (enterSt .ro s0).flr ≤ s0.bs.length := Nat.le_refl _
 have hH : Has s0.bs.length (enterSt .ro s0) (enterSt .ro s0) [] := Has.start (Nat.le_refl _) (Nat.le_refl _)
 generalize enterSt .ro s0 = S at *
 have hc := hp.c.arg s0.bs.length S
 have hs := hp.s.arg s0.bs.length S
 have hcd := hp.c
 have hlen := hp.cl
 have hsl0 := hp.sl
 unfold Pg.d
 try refine qy ?_
 repeat refine qq ?_
 try generalize hK : SeqQ _ _ _ _ = K
 refine EvC.reg ?_
 refine qb hH fun k1 st hk1 hH => ?_
 try dsimp only [u2, u1, u3, u4, setMany, u5, u6, D.cells, Nat.reduceAdd, Pg.cs, insC, intC, boolC] at hH
 refine qm ?_
 refine EvO.nil ?_
 try subst hK
 try refine qy ?_
 repeat refine qq ?_
 refine EvC.cutT 17 (.bool (decide ((p.code.length : Int) > 400) || decide ((p.starts.length : Int) > 8))) [] ?_ (fun ff tmp htmp => ?_)
 ·refine qp (o := 0) ?_
  refine ql hH at0 ?_
  refine qn ?_
  try simp only [List.length_map, List.length_append, List.length_cons, List.length_nil, List.length_set, List.length_replicate, List.length_reverse]
  refine qg ?_
  refine qm ?_
  refine EvO.two 12 rfl (fun hg4 => ?_) (fun hg4 => ?_)
  ·refine qs ?_ (hg := wn hg4)
   refine qs ?_ (hg := wn hg4)
   refine qs ?_ (hg := wn hg4)
   refine qs ?_ (hg := wn hg4)
   refine qt hg4 ?_
   refine EvO.nil (leafT ?_ ?_)
   ·try dsimp only [setW, List.foldl, nth, u2, u1]
    all_goals (first | rfl | simp)
   ·try dsimp only [Fr.putO, Fr.put, Fr.clean, Fr.ev, Fr.get, nth, Go.V.look, u1, u2, v1, v2, v3, v4, v5, v6, v7, List.length, u3, u4, Nat.reduceSub, Nat.reduceAdd, List.map]
    all_goals (simp [hg4]; done)
  ·refine qp (o := 1) ?_ (hg := wi hg4)
   refine ql hH at0 ?_ (hg := wi hg4)
   refine qn ?_ (hg := wi hg4)
   try simp only [List.length_map, List.length_append, List.length_cons, List.length_nil, List.length_set, List.length_replicate, List.length_reverse]
   refine qg ?_ (hg := wi hg4)
   refine qu hg4 ?_
   refine EvO.nil (leafT ?_ ?_)
   ·try dsimp only [setW, List.foldl, nth, u2, u1]
    all_goals (first | rfl | simp)
   ·try dsimp only [Fr.putO, Fr.put, Fr.clean, Fr.ev, Fr.get, nth, Go.V.look, u1, u2, v1, v2, v3, v4, v5, v6, v7, List.length, u3, u4, Nat.reduceSub, Nat.reduceAdd, List.map]
    all_goals (simp [hg4]; done)
 try dsimp only [setW, List.foldl, nth, u2, u1]
 try dsimp only [Fr.putO, Fr.put, Fr.clean, Fr.ev, Fr.get, nth, Go.V.look, u1, u2, v1, v2, v3, v4, v5, v6, v7, List.length, u3, u4, Nat.reduceSub, Nat.reduceAdd, List.map]
 try refine qy ?_
 repeat refine qq ?_
 refine qc (fun h0 => ?_) (fun h0 => ?_) <;> try simp only [cs] at h0
 ·rw [dec_no (fun h => by have := h.cl; have := h.sl; simp at h0; omega)]
  try refine qy ?_
  repeat refine qq ?_
  try generalize hK : SeqQ _ _ _ _ = K
  refine EvC.reg ?_
  refine qm ?_
  refine EvO.nil ?_
  try subst hK
  try refine qy ?_
  refine EvC.ret ⟨fun i h => (by cases h), _, rfl, leave_ro (by simp) hSb hH (rfl)⟩
 ·have h0 : p.code.length ≤ 400 ∧ p.starts.length ≤ 8 := by simp at h0; omega
  refine EvC.skip ?_
  try refine qy ?_
  repeat refine qq ?_
  try generalize hK : SeqQ _ _ _ _ = K
  refine EvC.reg ?_
  refine qm ?_
  refine EvO.nil ?_
  try subst hK
  try refine qy ?_
  repeat refine qq ?_
  refine EvC.block ?_
  refine EvC.loop (fun mm fr st => ∃ (i : Nat), fr.clean = ⟨8, [ixF_Jk fr 0, .ptr k1 0 0, .bool false, .int .i64 (i : Nat), ixF_Jk fr 4, ixF_Jk fr 5, ixF_Jk fr 6, ixF_Jk fr 7], []⟩ ∧ Has s0.bs.length S st [.box k1 (.mem 0 false [p.cd, p.sd])] ∧ (i + mm = p.code.length) ∧ (∀ pc q, pc < i → p.code[pc]? = some q → shapedS p.code.length p.starts.length pc q = true)) (p.code.length) ?_ ?_
  ·exact ⟨0, rfl, hH, by omega, by intro pc q h; omega⟩
  rintro mm fr st ⟨i, hfr, hH, hi, hsh⟩
  rw [hfr]
  clear hfr
  try generalize ixF_Jk fr = ee
  clear fr
  try refine qy ?_
  repeat refine qq ?_
  try generalize hK : SeqQ _ _ _ _ = K
  refine EvC.reg ?_
  refine qm ?_
  refine qp (o := 0) ?_
  refine ql hH at0 ?_
  refine qn ?_
  try simp only [List.length_map, List.length_append, List.length_cons, List.length_nil, List.length_set, List.length_replicate, List.length_reverse]
  refine qg ?_
  refine EvO.nil ?_
  try subst hK
  try refine qy ?_
  repeat refine qq ?_
  refine qc (fun h1 => ?_) (fun h1 => ?_) <;> try simp only [cs] at h1
  ·refine EvC.skip ?_
   try refine qy ?_
   obtain ⟨q, hq⟩ : ∃ q, p.code[i]? = some q := ⟨p.code[i]'(by omega), List.getElem?_eq_getElem _⟩
   try refine qy ?_
   repeat refine qq ?_
   refine EvC.block ?_
   try refine qy ?_
   repeat refine qq ?_
   try generalize hK : SeqQ _ _ _ _ = K
   refine EvC.reg ?_
   refine EvO.hloadS (m := 2) hH rfl (ev rfl) (by exact at0) (by dsimp only [List.drop_succ_cons, List.drop_zero, List.take_succ_cons, List.take_zero, Pg.cs, insC, intC, boolC] <;> rfl) rfl rfl (put_T rfl _) ?_
   refine qm ?_
   refine EvO.hcall rfl rfl (ins_ev (p := p) hp hq) (put_T rfl _) ?_
   refine qg ?_
   refine EvO.nil ?_
   try subst hK
   try refine qy ?_
   repeat refine qq ?_
   refine qc (fun h2 => ?_) (fun h2 => ?_) <;> try simp only [cs] at h2
   ·rw [dec_no (fun h => by have := h.sh i q hq; rw [this] at h2; cases h2)]
    try refine qy ?_
    repeat refine qq ?_
    try generalize hK : SeqQ _ _ _ _ = K
    refine EvC.reg ?_
    refine qm ?_
    refine EvO.nil ?_
    try subst hK
    try refine qy ?_
    refine EvC.ret ⟨fun i h => (by cases h), _, rfl, leave_ro (by simp) hSb hH (rfl)⟩
   ·refine EvC.skip ?_
    try refine qy ?_
    repeat refine qq ?_
    try generalize hK : SeqQ _ _ _ _ = K
    refine EvC.reg ?_
    refine qm ?_
    refine qA ?_
    refine qm ?_
    refine EvO.nil ?_
    try subst hK
    try refine qy ?_
    refine ⟨mm - 1, by omega, ⟨i + 1, rfl, hH, by omega, ?_⟩⟩
    intro pc q' hpc hq'
    by_cases he : pc = i
    ·subst he; rw [hq] at hq'; cases hq'; simpa using h2
    ·exact hsh pc q' (by omega) hq'
  ·try refine qy ?_
   refine EvC.exit ?_
   try refine qy ?_
   have hsh : ∀ pc q, p.code[pc]? = some q → shapedS p.code.length p.starts.length pc q = true := fun pc q hq => hsh pc q (by have := lt_get hq; omega) hq
   have hcl := closed_of hsh
   try refine qy ?_
   repeat refine qq ?_
   try generalize hK : SeqQ _ _ _ _ = K
   refine EvC.reg ?_
   refine qm ?_
   refine EvO.nil ?_
   try subst hK
   try refine qy ?_
   repeat refine qq ?_
   refine EvC.block ?_
   refine EvC.loop (fun mm fr st => ∃ (r : Nat), fr.clean = ⟨8, [ixF_Jk fr 0, .ptr k1 0 0, .bool false, ixF_Jk fr 3, .int .i64 (r : Nat), ixF_Jk fr 5, ixF_Jk fr 6, ixF_Jk fr 7], []⟩ ∧ Has s0.bs.length S st [.box k1 (.mem 0 false [p.cd, p.sd])] ∧ (r + mm = p.starts.length) ∧ (∀ r' s, r' < r → p.starts[r']? = some s → 0 ≤ s ∧ s < (p.code.length : Int))) (p.starts.length) ?_ ?_
   ·exact ⟨0, rfl, hH, by omega, by intro pc q h; omega⟩
   rintro mm fr st ⟨r, hfr, hH, hi, hok⟩
   rw [hfr]
   clear hfr
   try generalize ixF_Jk fr = ee
   clear fr
   try refine qy ?_
   repeat refine qq ?_
   try generalize hK : SeqQ _ _ _ _ = K
   refine EvC.reg ?_
   refine qm ?_
   refine qp (o := 1) ?_
   refine ql hH at0 ?_
   refine qn ?_
   try simp only [List.length_map, List.length_append, List.length_cons, List.length_nil, List.length_set, List.length_replicate, List.length_reverse]
   refine qg ?_
   refine EvO.nil ?_
   try subst hK
   try refine qy ?_
   repeat refine qq ?_
   refine qc (fun h3 => ?_) (fun h3 => ?_) <;> try simp only [cs] at h3
   ·refine EvC.skip ?_
    try refine qy ?_
    obtain ⟨s, hs1⟩ : ∃ s, p.starts[r]? = some s := ⟨p.starts[r]'(by omega), List.getElem?_eq_getElem _⟩
    have hr0 := int_get hs1
    try refine qy ?_
    repeat refine qq ?_
    refine EvC.block ?_
    try refine qy ?_
    repeat refine qq ?_
    refine EvC.cutT 52 (.bool (decide (s < 0) || decide (s ≥ p.code.length))) [] ?_ (fun ff tmp htmp => ?_)
    ·refine qp (o := 1) ?_
     refine ql hH at0 ?_
     refine qm ?_
     refine qr fun p39 hp39 => ?_
     refine qR ?_
     refine qg ?_
     refine qm ?_
     refine EvO.two 42 rfl (fun hg6 => ?_) (fun hg6 => ?_)
     ·refine qs ?_ (hg := wn hg6)
      refine qs ?_ (hg := wn hg6)
      refine qs ?_ (hg := wn hg6)
      refine qs ?_ (hg := wn hg6)
      refine qs ?_ (hg := wn hg6)
      refine qs ?_ (hg := wn hg6)
      refine qs ?_ (hg := wn hg6)
      refine qs ?_ (hg := wn hg6)
      refine qs ?_ (hg := wn hg6)
      refine qt hg6 ?_
      refine EvO.nil (leafT ?_ ?_)
      ·try dsimp only [setW, List.foldl, nth, u2, u1]
       all_goals (first | rfl | simp)
      ·try dsimp only [Fr.putO, Fr.put, Fr.clean, Fr.ev, Fr.get, nth, Go.V.look, u1, u2, v1, v2, v3, v4, v5, v6, v7, List.length, u3, u4, Nat.reduceSub, Nat.reduceAdd, List.map]
       all_goals (simp [hg6]; done)
     ·refine qp (o := 1) ?_ (hg := wi hg6)
      refine ql hH at0 ?_ (hg := wi hg6)
      refine qm ?_ (hg := wi hg6)
      refine qr (fun p46 hp46 => ?_) (hg := wi hg6)
      refine qR ?_ (hg := wi hg6)
      refine qp (o := 0) ?_ (hg := wi hg6)
      refine ql hH at0 ?_ (hg := wi hg6)
      refine qn ?_ (hg := wi hg6)
      try simp only [List.length_map, List.length_append, List.length_cons, List.length_nil, List.length_set, List.length_replicate, List.length_reverse]
      refine qg ?_ (hg := wi hg6)
      refine qu hg6 ?_
      refine EvO.nil (leafT ?_ ?_)
      ·try dsimp only [setW, List.foldl, nth, u2, u1]
       all_goals (first | rfl | simp)
      ·try dsimp only [Fr.putO, Fr.put, Fr.clean, Fr.ev, Fr.get, nth, Go.V.look, u1, u2, v1, v2, v3, v4, v5, v6, v7, List.length, u3, u4, Nat.reduceSub, Nat.reduceAdd, List.map]
       all_goals (simp [hg6]; done)
    try dsimp only [setW, List.foldl, nth, u2, u1]
    try dsimp only [Fr.putO, Fr.put, Fr.clean, Fr.ev, Fr.get, nth, Go.V.look, u1, u2, v1, v2, v3, v4, v5, v6, v7, List.length, u3, u4, Nat.reduceSub, Nat.reduceAdd, List.map]
    try refine qy ?_
    repeat refine qq ?_
    refine qc (fun h4 => ?_) (fun h4 => ?_) <;> try simp only [cs] at h4
    ·rw [dec_no (fun h => by have := h.st s (List.mem_of_getElem? hs1); simp at h4; omega)]
     try refine qy ?_
     repeat refine qq ?_
     try generalize hK : SeqQ _ _ _ _ = K
     refine EvC.reg ?_
     refine qm ?_
     refine EvO.nil ?_
     try subst hK
     try refine qy ?_
     refine EvC.ret ⟨fun i h => (by cases h), _, rfl, leave_ro (by simp) hSb hH (rfl)⟩
    ·have hsin : 0 ≤ s ∧ s < (p.code.length : Int) := by simp at h4; omega
     refine EvC.skip ?_
     try refine qy ?_
     repeat refine qq ?_
     try generalize hK : SeqQ _ _ _ _ = K
     refine EvC.reg ?_
     refine qm ?_
     refine qA ?_
     refine qm ?_
     refine EvO.nil ?_
     try subst hK
     try refine qy ?_
     refine ⟨mm - 1, by omega, ⟨r + 1, rfl, hH, by omega, ?_⟩⟩
     intro r' s' hr' hs'
     by_cases he : r' = r
     ·subst he
      rw [hs1] at hs'; cases hs'
      exact hsin
     ·exact hok r' s' (by omega) hs'
   ·try refine qy ?_
    refine EvC.exit ?_
    try refine qy ?_
    have hok : ∀ v ∈ p.starts, 0 ≤ v ∧ v < (p.code.length : Int) := fun v hv => by
     obtain ⟨r', hr'⟩ := List.getElem?_of_mem hv
     exact hok r' v (by have := lt_get hr'; omega) hr'
    try refine qy ?_
    repeat refine qq ?_
    try generalize hK : SeqQ _ _ _ _ = K
    refine EvC.reg ?_
    refine qm ?_
    refine EvO.nil ?_
    try subst hK
    try refine qy ?_
    repeat refine qq ?_
    refine EvC.block ?_
    refine EvC.loop (fun mm fr st => ∃ (r : Nat), fr.clean = ⟨8, [ixF_Jk fr 0, .ptr k1 0 0, .bool false, ixF_Jk fr 3, ixF_Jk fr 4, .int .i64 (r : Nat), ixF_Jk fr 6, ixF_Jk fr 7], []⟩ ∧ Has s0.bs.length S st [.box k1 (.mem 0 false [p.cd, p.sd])] ∧ (r + mm = p.starts.length) ∧ (∀ r' s, r' < r → p.starts[r']? = some s → ownMatch p r' s p.code.length)) (p.starts.length) ?_ ?_
    ·exact ⟨0, rfl, hH, by omega, by intro pc q h; omega⟩
    rintro mm fr st ⟨r, hfr, hH, hi, hfo⟩
    rw [hfr]
    clear hfr
    try generalize ixF_Jk fr = ee
    clear fr
    try refine qy ?_
    repeat refine qq ?_
    try generalize hK : SeqQ _ _ _ _ = K
    refine EvC.reg ?_
    refine qm ?_
    refine qp (o := 1) ?_
    refine ql hH at0 ?_
    refine qn ?_
    try simp only [List.length_map, List.length_append, List.length_cons, List.length_nil, List.length_set, List.length_replicate, List.length_reverse]
    refine qg ?_
    refine EvO.nil ?_
    try subst hK
    try refine qy ?_
    repeat refine qq ?_
    refine qc (fun h5 => ?_) (fun h5 => ?_) <;> try simp only [cs] at h5
    ·refine EvC.skip ?_
     try refine qy ?_
     obtain ⟨s, hs1⟩ : ∃ s, p.starts[r]? = some s := ⟨p.starts[r]'(by omega), List.getElem?_eq_getElem _⟩
     have hR : reachR p (r : Nat) = reachS p.code s := by
      unfold reachR
      rw [if_pos (inS_iff.2 ⟨by omega, by omega⟩), Int.toNat_natCast, List.getD_eq_getElem?_getD, hs1]; rfl
     have hrl := reachS_len p.code s
     have hra := (boolsV_sl (reachS p.code s)).arg s0.bs.length S
     try refine qy ?_
     repeat refine qq ?_
     refine EvC.block ?_
     try refine qy ?_
     repeat refine qq ?_
     try generalize hK : SeqQ _ _ _ _ = K
     refine EvC.reg ?_
     refine EvO.hloadS (m := 2) hH rfl (ev rfl) (by exact at0) (by dsimp only [List.drop_succ_cons, List.drop_zero, List.take_succ_cons, List.take_zero, Pg.cs, insC, intC, boolC] <;> rfl) rfl rfl (put_T rfl _) ?_
     refine qm ?_
     refine EvO.hcall rfl rfl ((hR ▸ refReach_ev (p := p) (rule := (r : Nat)) hp hcl hok)) (put_T rfl _) ?_
     refine qm ?_
     refine EvO.nil ?_
     try subst hK
     try refine qy ?_
     repeat refine qq ?_
     try generalize hK : SeqQ _ _ _ _ = K
     refine EvC.reg ?_
     refine qm ?_
     refine EvO.nil ?_
     try subst hK
     try refine qy ?_
     repeat refine qq ?_
     refine EvC.block ?_
     refine EvC.loop (fun mm fr st => ∃ (i : Nat), fr.clean = ⟨8, [ixF_Jk fr 0, .ptr k1 0 0, .bool false, ixF_Jk fr 3, ixF_Jk fr 4, .int .i64 (r : Nat), boolsV (reachS p.code s), .int .i64 (i : Nat)], []⟩ ∧ Has s0.bs.length S st [.box k1 (.mem 0 false [p.cd, p.sd])] ∧ (i + mm = p.code.length) ∧ (ownMatch p r s i)) (p.code.length) ?_ ?_
     ·exact ⟨0, rfl, hH, by omega, by intro pc q h; omega⟩
     rintro mm fr st ⟨i, hfr, hH, hj, hom⟩
     rw [hfr]
     clear hfr
     try generalize ixF_Jk fr = ee
     clear fr
     try refine qy ?_
     repeat refine qq ?_
     try generalize hK : SeqQ _ _ _ _ = K
     refine EvC.reg ?_
     refine qm ?_
     refine qp (o := 0) ?_
     refine ql hH at0 ?_
     refine qn ?_
     try simp only [List.length_map, List.length_append, List.length_cons, List.length_nil, List.length_set, List.length_replicate, List.length_reverse]
     refine qg ?_
     refine EvO.nil ?_
     try subst hK
     try refine qy ?_
     repeat refine qq ?_
     refine qc (fun h7 => ?_) (fun h7 => ?_) <;> try simp only [cs] at h7
     ·refine EvC.skip ?_
      try refine qy ?_
      obtain ⟨b, hb⟩ : ∃ b, (reachS p.code s)[i]? = some b := ⟨(reachS p.code s)[i]'(by omega), List.getElem?_eq_getElem _⟩
      obtain ⟨q, hq⟩ : ∃ q, p.code[i]? = some q := ⟨p.code[i]'(by omega), List.getElem?_eq_getElem _⟩
      have hr1 := bool_get hb
      have hr2 := ins_get hq
      try refine qy ?_
      repeat refine qq ?_
      refine EvC.block ?_
      try refine qy ?_
      repeat refine qq ?_
      refine EvC.cutT 92 (.bool ((b && (q.op == 7)) && (q.x != (r : Int)))) [] ?_ (fun ff tmp htmp => ?_)
      ·refine qm ?_
       refine qm ?_
       refine qr fun p72 hp72 => ?_
       refine qR ?_
       refine qm ?_
       refine EvO.two 74 rfl (fun hg4 => ?_) (fun hg4 => ?_)
       ·refine qp (o := 0) ?_ (hg := wi hg4)
        refine ql hH at0 ?_ (hg := wi hg4)
        refine qm ?_ (hg := wi hg4)
        refine qr (fun p78 hp78 => ?_) (hg := wi hg4)
        refine qf (fo := 0) (fun p79 hp79 => ?_) (hg := wi hg4)
        refine qR ?_ (hg := wi hg4)
        refine qg ?_ (hg := wi hg4)
        refine qt hg4 ?_
        refine qm ?_
        refine EvO.two 83 rfl (fun hg13 => ?_) (fun hg13 => ?_)
        ·refine qp (o := 0) ?_ (hg := wi hg13)
         refine ql hH at0 ?_ (hg := wi hg13)
         refine qm ?_ (hg := wi hg13)
         refine qr (fun p87 hp87 => ?_) (hg := wi hg13)
         refine qf (fo := 1) (fun p88 hp88 => ?_) (hg := wi hg13)
         refine qR ?_ (hg := wi hg13)
         refine qm ?_ (hg := wi hg13)
         refine qg ?_ (hg := wi hg13)
         refine qt hg13 ?_
         refine EvO.nil (leafT ?_ ?_)
         ·try dsimp only [setW, List.foldl, nth, u2, u1]
          all_goals (first | rfl | simp)
         ·try dsimp only [Fr.putO, Fr.put, Fr.clean, Fr.ev, Fr.get, nth, Go.V.look, u1, u2, v1, v2, v3, v4, v5, v6, v7, List.length, u3, u4, Nat.reduceSub, Nat.reduceAdd, List.map]
          all_goals (simp [hg4, hg13]; done)
        ·refine qs ?_ (hg := wn hg13)
         refine qs ?_ (hg := wn hg13)
         refine qs ?_ (hg := wn hg13)
         refine qs ?_ (hg := wn hg13)
         refine qs ?_ (hg := wn hg13)
         refine qs ?_ (hg := wn hg13)
         refine qs ?_ (hg := wn hg13)
         refine qs ?_ (hg := wn hg13)
         refine qu hg13 ?_
         refine EvO.nil (leafT ?_ ?_)
         ·try dsimp only [setW, List.foldl, nth, u2, u1]
          all_goals (first | rfl | simp)
         ·try dsimp only [Fr.putO, Fr.put, Fr.clean, Fr.ev, Fr.get, nth, Go.V.look, u1, u2, v1, v2, v3, v4, v5, v6, v7, List.length, u3, u4, Nat.reduceSub, Nat.reduceAdd, List.map]
          all_goals (simp [hg4, hg13]; done)
       ·refine qs ?_ (hg := wn hg4)
        refine qs ?_ (hg := wn hg4)
        refine qs ?_ (hg := wn hg4)
        refine qs ?_ (hg := wn hg4)
        refine qs ?_ (hg := wn hg4)
        refine qs ?_ (hg := wn hg4)
        refine qs ?_ (hg := wn hg4)
        refine qu hg4 ?_
        refine qm ?_
        refine qs ?_
        refine qs ?_
        refine qs ?_
        refine qs ?_
        refine qs ?_
        refine qs ?_
        refine qs ?_
        refine qs ?_
        refine qg ?_
        refine EvO.nil (leafT ?_ ?_)
        ·try dsimp only [setW, List.foldl, nth, u2, u1]
         all_goals (first | rfl | simp)
        ·try dsimp only [Fr.putO, Fr.put, Fr.clean, Fr.ev, Fr.get, nth, Go.V.look, u1, u2, v1, v2, v3, v4, v5, v6, v7, List.length, u3, u4, Nat.reduceSub, Nat.reduceAdd, List.map]
         all_goals (simp [hg4]; done)
      try dsimp only [setW, List.foldl, nth, u2, u1]
      try dsimp only [Fr.putO, Fr.put, Fr.clean, Fr.ev, Fr.get, nth, Go.V.look, u1, u2, v1, v2, v3, v4, v5, v6, v7, List.length, u3, u4, Nat.reduceSub, Nat.reduceAdd, List.map]
      try refine qy ?_
      repeat refine qq ?_
      refine qc (fun h6 => ?_) (fun h6 => ?_) <;> try simp only [cs] at h6
      ·rw [dec_no (fun h => by
        have h7 := h.fo r s hs1 i q (by omega)
        simp only [Bool.and_eq_true, beq_iff_eq, bne_iff_ne, ne_eq] at h6
        obtain ⟨⟨rfl, h8⟩, h9⟩ := h6
        exact h9 (h7 hb hq h8))]
       try refine qy ?_
       repeat refine qq ?_
       try generalize hK : SeqQ _ _ _ _ = K
       refine EvC.reg ?_
       refine qm ?_
       refine EvO.nil ?_
       try subst hK
       try refine qy ?_
       refine EvC.ret ⟨fun i h => (by cases h), _, rfl, leave_ro (by simp) hSb hH (rfl)⟩
      ·refine EvC.skip ?_
       try refine qy ?_
       repeat refine qq ?_
       try generalize hK : SeqQ _ _ _ _ = K
       refine EvC.reg ?_
       refine qm ?_
       refine qA ?_
       refine qm ?_
       refine EvO.nil ?_
       try subst hK
       try refine qy ?_
       refine ⟨mm - 1, by omega, ⟨i + 1, rfl, hH, by omega, ?_⟩⟩
       intro pc q' hpc hre hq' hop
       by_cases he : pc = i
       ·subst he
        rw [hq] at hq'; cases hq'
        rw [hb] at hre; cases hre
        simp [hop] at h6; exact h6
       ·exact hom pc q' (by omega) hre hq' hop
     ·try refine qy ?_
      refine EvC.exit ?_
      try refine qy ?_
      repeat refine qq ?_
      try generalize hK : SeqQ _ _ _ _ = K
      refine EvC.reg ?_
      refine qm ?_
      refine qA ?_
      refine qm ?_
      refine EvO.nil ?_
      try subst hK
      try refine qy ?_
      refine ⟨p.starts.length - (r + 1), by omega, ⟨r + 1, rfl, hH, by omega, ?_⟩⟩
      intro r' s' hr' hs'
      by_cases he : r' = r
      ·subst he
       rw [hs1] at hs'; cases hs'
       exact fun pc q hpc => hom pc q (by omega)
      ·exact hfo r' s' (by omega) hs'
    ·try refine qy ?_
     refine EvC.exit ?_
     try refine qy ?_
     rw [dec_yes ⟨h0.1, h0.2, hsh, hok, fun r' s' hs' => hfo r' s' (by have := lt_get hs'; omega) hs'⟩]
     try refine qy ?_
     repeat refine qq ?_
     try generalize hK : SeqQ _ _ _ _ = K
     refine EvC.reg ?_
     refine qm ?_
     refine EvO.nil ?_
     try subst hK
     try refine qy ?_
     refine EvC.ret ⟨fun i h => (by cases h), _, rfl, leave_ro (by simp) hSb hH (rfl)⟩

/-- the numbers at which it is so -/
def numsS : Nat → List Bool → List Int
 | _, [] => []
 | i, b :: l => (if b then [(i : Int)] else []) ++ numsS (i + 1) l
theorem nums_snoc : ∀ (l : List Bool) (i : Nat) (b : Bool), numsS i (l ++ [b]) = numsS i l ++ (if b then [((i + l.length : Nat) : Int)] else [])
 | [], i, b => by simp [numsS]
 | a :: l, i, b => by
  simp only [List.cons_append, numsS, nums_snoc l, List.length_cons, List.append_assoc]
  rw [show i + 1 + l.length = i + (l.length + 1) by omega]
theorem nums_len : ∀ (l : List Bool) (i : Nat), (numsS i l).length ≤ l.length
 | [], _ => by simp [numsS]
 | a :: l, i => by
  have := nums_len l (i + 1)
  simp only [numsS, List.length_append, List.length_cons]
  cases a <;> simp <;> omega

/-- what the program's Reach answers -/
noncomputable def reachN (p : Pg) (rule : Int) : List Int := if dec (RightQ p) && inS rule p.starts.length then numsS 0 (reachS p.code (p.starts.getD rule.toNat 0)) else []

theorem checkReach_ev {s0 : St} {p : Pg} {rule : Int} (hp : p.ok) : Ev pv 28 [p.d, .int .i64 rule] s0 (intsV (reachN p rule)) s0 := by
 refine Ev.mk1 rfl fi28 rfl rfl rfl ?_
 dsimp only [List.cons_append, List.nil_append, List.length, Nat.reduceSub, Nat.reduceAdd, List.replicate_succ, List.replicate_zero]
 have hSb : (enterSt .ro s0).bs = s0.bs := rfl
 have hF : (enterSt .ro s0).flr ≤ s0.bs.length := Nat.le_refl _
 have hH : Has s0.bs.length (enterSt .ro s0) (enterSt .ro s0) [] := Has.start (Nat.le_refl _) (Nat.le_refl _)
 generalize enterSt .ro s0 = S at *
 have hc := hp.c.arg s0.bs.length S
 have hs := hp.s.arg s0.bs.length S
 have hcd := hp.c
 have hlen := hp.cl
 have hsl0 := hp.sl
 unfold Pg.d
 try refine qy ?_
 repeat refine qq ?_
 try generalize hK : SeqQ _ _ _ _ = K
 refine EvC.reg ?_
 refine qb hH fun k2 st hk2 hH => ?_
 try dsimp only [u2, u1, u3, u4, setMany, u5, u6, D.cells, Nat.reduceAdd, Pg.cs, insC, intC, boolC] at hH
 refine qm ?_
 refine EvO.nil ?_
 try subst hK
 try refine qy ?_
 repeat refine qq ?_
 refine EvC.cutL 18 (.bool (!dec (RightQ p) || !inS rule p.starts.length)) [8, 9, 10, 11, 12, 13, 14, 15, 16, 17] ?_ (fun ff tmp => ?_)
 ·refine EvO.hloadS (m := 2) hH rfl (ev rfl) (by exact at0) (by dsimp only [List.drop_succ_cons, List.drop_zero, List.take_succ_cons, List.take_zero, Pg.cs, insC, intC, boolC] <;> rfl) rfl rfl (by dsimp only [Fr.put, List.set_cons_succ, List.set_cons_zero] <;> rfl) ?_
  refine EvO.hcall rfl rfl (checkRight_ev (p := p) hp) (by dsimp only [Fr.put, List.set_cons_succ, List.set_cons_zero] <;> rfl) ?_
  refine qg ?_
  refine qm ?_
  refine EvO.two 11 rfl (fun hg3 => ?_) (fun hg3 => ?_)
  ·refine qs ?_ (hg := wn hg3)
   refine qs ?_ (hg := wn hg3)
   refine qs ?_ (hg := wn hg3)
   refine qs ?_ (hg := wn hg3)
   refine qs ?_ (hg := wn hg3)
   refine qs ?_ (hg := wn hg3)
   refine qt hg3 ?_
   refine EvO.nil (leafL ?_)
   try dsimp only [setW, List.foldl, nth, u2, u1]
   try dsimp only [Fr.putO, Fr.put, Fr.clean, Fr.ev, Fr.get, nth, Go.V.look, u1, u2, v1, v2, v3, v4, v5, v6, v7, List.length, u3, u4, Nat.reduceSub, Nat.reduceAdd, List.map]
   all_goals (simp [hg3]; done)
  ·refine qm ?_ (hg := wi hg3)
   refine qp (o := 1) ?_ (hg := wi hg3)
   refine ql hH at0 ?_ (hg := wi hg3)
   refine qn ?_ (hg := wi hg3)
   try simp only [List.length_map, List.length_append, List.length_cons, List.length_nil, List.length_set, List.length_replicate, List.length_reverse]
   refine EvO.hcall (wantD_is rfl rfl rfl hg3) rfl (within_ev _ _) (by dsimp only [Fr.put, List.set_cons_succ, List.set_cons_zero] <;> rfl) ?_
   refine qg ?_ (hg := wi hg3)
   refine qu hg3 ?_
   refine EvO.nil (leafL ?_)
   try dsimp only [setW, List.foldl, nth, u2, u1]
   try dsimp only [Fr.putO, Fr.put, Fr.clean, Fr.ev, Fr.get, nth, Go.V.look, u1, u2, v1, v2, v3, v4, v5, v6, v7, List.length, u3, u4, Nat.reduceSub, Nat.reduceAdd, List.map]
   all_goals (simp [hg3]; done)
 try dsimp only [setW, List.foldl, nth, u2, u1]
 generalize ff 8 = e8
 generalize ff 9 = e9
 generalize ff 10 = e10
 generalize ff 11 = e11
 generalize ff 12 = e12
 generalize ff 13 = e13
 generalize ff 14 = e14
 generalize ff 15 = e15
 generalize ff 16 = e16
 generalize ff 17 = e17
 try dsimp only [Fr.putO, Fr.put, Fr.clean, Fr.ev, Fr.get, nth, Go.V.look, u1, u2, v1, v2, v3, v4, v5, v6, v7, List.length, u3, u4, Nat.reduceSub, Nat.reduceAdd, List.map]
 try refine qy ?_
 repeat refine qq ?_
 refine qc (fun h0 => ?_) (fun h0 => ?_) <;> try simp only [cs] at h0
 ·have hR : reachN p rule = [] := by
   unfold reachN; rw [← Bool.not_and, Bool.not_eq_true'] at h0; rw [h0]; rfl
  rw [hR]
  try refine qy ?_
  repeat refine qq ?_
  try generalize hK : SeqQ _ _ _ _ = K
  refine EvC.reg ?_
  refine qm ?_
  refine EvO.nil ?_
  try subst hK
  try refine qy ?_
  refine EvC.ret ⟨fun i h => (by cases h), _, rfl, leave_ro (by simp) hSb hH (rfl)⟩
 ·have h1 : (dec (RightQ p) && inS rule p.starts.length) = true := by
   rw [← Bool.not_and, Bool.not_eq_false'] at h0; exact h0
  have hR : reachN p rule = numsS 0 (reachS p.code (p.starts.getD rule.toNat 0)) := by unfold reachN; rw [if_pos h1]
  rw [hR]
  simp only [Bool.and_eq_true] at h1
  have hq : RightQ p := by
   refine Classical.byContradiction fun h => ?_
   rw [dec_no h] at h1; cases h1.1
  have hin := inS_iff.1 h1.2
  obtain ⟨ru, rfl⟩ := Int.eq_ofNat_of_zero_le hin.1
  obtain ⟨start, hs1⟩ : ∃ v, p.starts[ru]? = some v := ⟨p.starts[ru]'(by omega), List.getElem?_eq_getElem _⟩
  have hr0 := int_get hs1
  have hst := hq.st start (List.mem_of_getElem? hs1)
  rw [show p.starts.getD (ru : Int).toNat 0 = start by rw [Int.toNat_natCast, List.getD_eq_getElem?_getD, hs1]; rfl]
  have hrl := reachS_len p.code start
  have hra := (boolsV_sl (reachS p.code start)).arg s0.bs.length S
  refine EvC.skip ?_
  try refine qy ?_
  repeat refine qq ?_
  try generalize hK : SeqQ _ _ _ _ = K
  refine EvC.reg ?_
  refine qm ?_
  refine EvO.nil ?_
  try subst hK
  try refine qy ?_
  repeat refine qq ?_
  try generalize hK : SeqQ _ _ _ _ = K
  refine EvC.reg ?_
  refine qp (o := 0) ?_
  refine ql hH at0 ?_
  refine qp (o := 1) ?_
  refine ql hH at0 ?_
  refine qm ?_
  refine qr fun p24 hp24 => ?_
  refine qR ?_
  refine EvO.hcall rfl rfl (from_ev hcd hlen hq.closed hst) (by dsimp only [Fr.put, List.set_cons_succ, List.set_cons_zero] <;> rfl) ?_
  refine qn ?_
  try simp only [List.length_map, List.length_append, List.length_cons, List.length_nil, List.length_set, List.length_replicate, List.length_reverse]
  refine qm ?_
  refine EvO.nil ?_
  try subst hK
  try refine qy ?_
  have hH := hH.nulE 1
  generalize hL : reachS p.code start = L at *
  try refine qy ?_
  repeat refine qq ?_
  refine EvC.block ?_
  refine EvC.loop (fun mm fr st => ∃ (i : Nat) (y : D), fr.clean = ⟨29, [ixF_Jk fr 0, ixF_Jk fr 1, .ptr k2 0 0, ixF_Jk fr 3, .nul, y, ixF_Jk fr 6, ixF_Jk fr 7, ixF_Jk fr 8, ixF_Jk fr 9, ixF_Jk fr 10, ixF_Jk fr 11, ixF_Jk fr 12, ixF_Jk fr 13, ixF_Jk fr 14, ixF_Jk fr 15, ixF_Jk fr 16, ixF_Jk fr 17, ixF_Jk fr 18, ixF_Jk fr 19, ixF_Jk fr 20, ixF_Jk fr 21, ixF_Jk fr 22, ixF_Jk fr 23, ixF_Jk fr 24, ixF_Jk fr 25, boolsV L, .int .i64 (L.length : Nat), .int .i64 (i : Nat)], []⟩ ∧ Has s0.bs.length S st [.lst y 1 ((numsS 0 (L.take i)).map intC), .box k2 (.mem 0 false [p.cd, p.sd])] ∧ (i + mm = L.length)) (L.length) ?_ ?_
  ·exact ⟨0, .nul, rfl, hH, by omega⟩
  rintro mm fr st ⟨i, y, hfr, hH, hi⟩
  rw [hfr]
  clear hfr
  try generalize ixF_Jk fr = ee
  clear fr
  try refine qy ?_
  have hnl := nums_len (L.take i) 0
  have hnl2 : (L.take i).length ≤ L.length := by rw [List.length_take]; omega
  try refine qy ?_
  repeat refine qq ?_
  try generalize hK : SeqQ _ _ _ _ = K
  refine EvC.reg ?_
  refine qg ?_
  refine EvO.nil ?_
  try subst hK
  try refine qy ?_
  repeat refine qq ?_
  refine qc (fun h1 => ?_) (fun h1 => ?_) <;> try simp only [cs] at h1
  ·refine EvC.skip ?_
   try refine qy ?_
   obtain ⟨b, hb⟩ : ∃ b, L[i]? = some b := ⟨L[i]'(by omega), List.getElem?_eq_getElem _⟩
   have hr1 := bool_get hb
   have hn1 : numsS 0 (L.take (i + 1)) = numsS 0 (L.take i) ++ (if b then [(i : Int)] else []) := by
    rw [List.take_add_one, hb, Option.toList_some, nums_snoc, List.length_take, Nat.min_eq_left (by omega), Nat.zero_add]
   try refine qy ?_
   repeat refine qq ?_
   refine EvC.block ?_
   try refine qy ?_
   repeat refine qq ?_
   try generalize hK : SeqQ _ _ _ _ = K
   refine EvC.reg ?_
   refine qm ?_
   refine qr fun p31 hp31 => ?_
   refine qR ?_
   refine qm ?_
   refine qm ?_
   refine EvO.nil ?_
   try subst hK
   try refine qy ?_
   repeat refine qq ?_
   try generalize hK : SeqQ _ _ _ _ = K
   refine EvC.reg ?_
   refine qm ?_
   refine EvO.nil ?_
   try subst hK
   try refine qy ?_
   cases b with
   | true =>
    rw [if_pos rfl] at hn1
    try refine qy ?_
    repeat refine qq ?_
    refine EvC.cond (v := true) (by rfl) (fun _ => ?_) (fun h => by cases h)
    try refine qy ?_
    repeat refine qq ?_
    try generalize hK : SeqQ _ _ _ _ = K
    refine EvC.reg ?_
    refine qm ?_
    refine qm ?_
    refine qh (s := 1) (vs := [_]) hH fun k36 st hk36 hH => ?_
    try dsimp only [u2, u1, u3, u4, setMany, u5, u6, D.cells, Nat.reduceAdd, Pg.cs, insC, intC, boolC] at hH
    refine qP hH at1 (hH.rows at0) fun x37 st hH => ?_
    try dsimp only [u2, u1, u3, u4, setMany, u5, u6, D.cells, Nat.reduceAdd, Pg.cs, insC, intC, boolC] at hH
    refine qm ?_
    refine EvO.nil ?_
    try subst hK
    try refine qy ?_
    repeat refine qq ?_
    try generalize hK : SeqQ _ _ _ _ = K
    refine EvC.reg ?_
    refine qA ?_
    refine qm ?_
    refine EvO.nil ?_
    try subst hK
    try refine qy ?_
    exact ⟨mm - 1, by omega, ⟨i + 1, _, rfl, (by rw [hn1, List.map_append]; exact hH.drop 1), by omega⟩⟩
   | false =>
    rw [if_neg (by simp), List.append_nil] at hn1
    try refine qy ?_
    repeat refine qq ?_
    refine EvC.cond (v := false) (by rfl) (fun h => by cases h) (fun _ => ?_)
    try refine qy ?_
    refine EvC.skip ?_
    try refine qy ?_
    repeat refine qq ?_
    try generalize hK : SeqQ _ _ _ _ = K
    refine EvC.reg ?_
    refine qA ?_
    refine qm ?_
    refine EvO.nil ?_
    try subst hK
    try refine qy ?_
    exact ⟨mm - 1, by omega, ⟨i + 1, _, rfl, (by rw [hn1]; exact hH), by omega⟩⟩
  ·try refine qy ?_
   refine EvC.exit ?_
   try refine qy ?_
   repeat refine qq ?_
   try generalize hK : SeqQ _ _ _ _ = K
   refine EvC.reg ?_
   refine qm ?_
   refine qm ?_
   refine EvO.nil ?_
   try subst hK
   try refine qy ?_
   rw [List.take_of_length_le (by omega)] at hH
   refine EvC.ret ⟨fun i h => (by cases h), _, rfl, leave_ro (by simp) hSb hH ?_⟩
   exact hH.freeze at0 (int_plain _) (n := 15) (by decide)
end Go.Proofs.Ytbdilgkfnacahaa
