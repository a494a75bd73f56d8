/-
 Is a program right? Both texts.
-/
import Derived.Test.YtbdilgkfnacahaaJg
import Derived.Test.YtbdilgkfnacahaaJi
namespace Go.Proofs.Ytbdilgkfnacahaa
open Go.V Go
set_option maxRecDepth 100000
set_option maxHeartbeats 4000000
set_option linter.unusedSimpArgs false
set_option linter.unusedVariables false

/-- what a frame holds at a slot -/
def ixF_Jj (fr : Go.V.Fr) (k : Nat) : Go.V.D := Go.V.nth .junk fr.loc k

noncomputable def dec (q : Prop) : Bool := @decide q (Classical.propDecidable q)
theorem dec_yes {q : Prop} (h : q) : dec q = true := @decide_eq_true q (Classical.propDecidable q) h
theorem dec_no {q : Prop} (h : ¬ q) : dec q = false := @decide_eq_false q (Classical.propDecidable q) h

/-- no instruction that is reached is another rule's match -/
def ownMatch (p : Pg) (r : Nat) (s : Int) (n : Nat) : Prop := ∀ pc i, pc < n → (reachS p.code s)[pc]? = some true → p.code[pc]? = some i → i.op = 7 → i.x = (r : Int)

/-- a program that may run -/
structure RightQ (p : Pg) : Prop where
 cl : p.code.length ≤ 400
 sl : p.starts.length ≤ 8
 sh : ∀ pc i, p.code[pc]? = some i → shapedS p.code.length p.starts.length pc i = true
 st : ∀ v ∈ p.starts, 0 ≤ v ∧ v < (p.code.length : Int)
 fo : ∀ r s, p.starts[r]? = some s → ownMatch p r s p.code.length

theorem closed_of {p : Pg} (h : ∀ pc i, p.code[pc]? = some i → shapedS p.code.length p.starts.length pc i = true) : closedS p.code :=
 fun pc i hi => shaped_next (h pc i hi)
theorem RightQ.closed {p : Pg} (h : RightQ p) : closedS p.code := closed_of h.sh
theorem inS_iff {a b : Int} : inS a b = true ↔ 0 ≤ a ∧ a < b := by
 unfold inS; simp only [Bool.and_eq_true, decide_eq_true_eq, ge_iff_le]
theorem inS_not {a b : Int} (h : inS a b = false) : ¬ (0 ≤ a ∧ a < b) := fun g => by rw [inS_iff.2 g] at h; cases h

theorem checkRight_ev {s0 : St} {p : Pg} (hp : p.ok) : Ev pv 27 [p.d] s0 (.bool (dec (RightQ p))) s0 := by
 refine Ev.mk1 rfl fi27 rfl rfl rfl ?_
 dsimp only [List.cons_append, List.nil_append, List.length, Nat.reduceSub, Nat.reduceAdd, List.replicate_succ, List.replicate_zero]
 have hSb : (enterSt .ro s0).bs = s0.bs := rfl
 have hF : (enterSt .ro s0).flr ≤ s0.bs.length := Nat.le_refl _
 have hH : Has s0.bs.length (enterSt .ro s0) (enterSt .ro s0) [] := Has.start (Nat.le_refl _) (Nat.le_refl _)
 generalize enterSt .ro s0 = S at *
 have hc := hp.c.arg s0.bs.length S
 have hs := hp.s.arg s0.bs.length S
 have hcd := hp.c
 have hlen := hp.cl
 have hsl0 := hp.sl
 unfold Pg.d
 try refine qy ?_
 repeat refine qq ?_
 try generalize hK : SeqQ _ _ _ _ = K
 refine EvC.reg ?_
 refine qb hH fun k1 st hk1 hH => ?_
 try dsimp only [u2, u1, u3, u4, setMany, u5, u6, D.cells, Nat.reduceAdd, Pg.cs, insC, intC, boolC] at hH
 refine qm ?_
 refine EvO.nil ?_
 try subst hK
 try refine qy ?_
 repeat refine qq ?_
 refine EvC.cutL 17 (.bool (decide ((p.code.length : Int) > 400) || decide ((p.starts.length : Int) > 8))) [8, 9, 10, 11, 12, 13, 14, 15, 16] ?_ (fun ff tmp => ?_)
 ·refine qp (o := 0) ?_
  refine ql hH at0 ?_
  refine qn ?_
  try simp only [List.length_map, List.length_append, List.length_cons, List.length_nil, List.length_set, List.length_replicate, List.length_reverse]
  refine qg ?_
  refine qm ?_
  refine EvO.two 12 rfl (fun hg4 => ?_) (fun hg4 => ?_)
  ·refine qs ?_ (hg := wn hg4)
   refine qs ?_ (hg := wn hg4)
   refine qs ?_ (hg := wn hg4)
   refine qs ?_ (hg := wn hg4)
   refine qt hg4 ?_
   refine EvO.nil (leafL ?_)
   try dsimp only [setW, List.foldl, nth, u2, u1]
   try dsimp only [Fr.putO, Fr.put, Fr.clean, Fr.ev, Fr.get, nth, Go.V.look, u1, u2, v1, v2, v3, v4, v5, v6, v7, List.length, u3, u4, Nat.reduceSub, Nat.reduceAdd, List.map]
   all_goals (simp [hg4]; done)
  ·refine qp (o := 1) ?_ (hg := wi hg4)
   refine ql hH at0 ?_ (hg := wi hg4)
   refine qn ?_ (hg := wi hg4)
   try simp only [List.length_map, List.length_append, List.length_cons, List.length_nil, List.length_set, List.length_replicate, List.length_reverse]
   refine qg ?_ (hg := wi hg4)
   refine qu hg4 ?_
   refine EvO.nil (leafL ?_)
   try dsimp only [setW, List.foldl, nth, u2, u1]
   try dsimp only [Fr.putO, Fr.put, Fr.clean, Fr.ev, Fr.get, nth, Go.V.look, u1, u2, v1, v2, v3, v4, v5, v6, v7, List.length, u3, u4, Nat.reduceSub, Nat.reduceAdd, List.map]
   all_goals (simp [hg4]; done)
 try dsimp only [setW, List.foldl, nth, u2, u1]
 generalize ff 8 = e8
 generalize ff 9 = e9
 generalize ff 10 = e10
 generalize ff 11 = e11
 generalize ff 12 = e12
 generalize ff 13 = e13
 generalize ff 14 = e14
 generalize ff 15 = e15
 generalize ff 16 = e16
 try dsimp only [Fr.putO, Fr.put, Fr.clean, Fr.ev, Fr.get, nth, Go.V.look, u1, u2, v1, v2, v3, v4, v5, v6, v7, List.length, u3, u4, Nat.reduceSub, Nat.reduceAdd, List.map]
 try refine qy ?_
 repeat refine qq ?_
 refine qc (fun h0 => ?_) (fun h0 => ?_) <;> try simp only [cs] at h0
 ·rw [dec_no (fun h => by have := h.cl; have := h.sl; simp at h0; omega)]
  try refine qy ?_
  repeat refine qq ?_
  try generalize hK : SeqQ _ _ _ _ = K
  refine EvC.reg ?_
  refine qm ?_
  refine EvO.nil ?_
  try subst hK
  try refine qy ?_
  refine EvC.ret ⟨fun i h => (by cases h), _, rfl, leave_ro (by simp) hSb hH (rfl)⟩
 ·have h0 : p.code.length ≤ 400 ∧ p.starts.length ≤ 8 := by simp at h0; omega
  refine EvC.skip ?_
  try refine qy ?_
  repeat refine qq ?_
  try generalize hK : SeqQ _ _ _ _ = K
  refine EvC.reg ?_
  refine qp (o := 0) ?_
  refine ql hH at0 ?_
  refine qn ?_
  try simp only [List.length_map, List.length_append, List.length_cons, List.length_nil, List.length_set, List.length_replicate, List.length_reverse]
  refine qm ?_
  refine EvO.nil ?_
  try subst hK
  try refine qy ?_
  repeat refine qq ?_
  refine EvC.block ?_
  refine EvC.loop (fun mm fr st => ∃ (i : Nat), fr.clean = ⟨49, [ixF_Jj fr 0, .ptr k1 0 0, .bool false, ixF_Jj fr 3, ixF_Jj fr 4, ixF_Jj fr 5, ixF_Jj fr 6, ixF_Jj fr 7, ixF_Jj fr 8, ixF_Jj fr 9, ixF_Jj fr 10, ixF_Jj fr 11, ixF_Jj fr 12, ixF_Jj fr 13, ixF_Jj fr 14, ixF_Jj fr 15, ixF_Jj fr 16, ixF_Jj fr 17, ixF_Jj fr 18, ixF_Jj fr 19, .int .i64 (p.code.length : Nat), .int .i64 (i : Nat), ixF_Jj fr 22, ixF_Jj fr 23, ixF_Jj fr 24, ixF_Jj fr 25, ixF_Jj fr 26, ixF_Jj fr 27, ixF_Jj fr 28, ixF_Jj fr 29, ixF_Jj fr 30, ixF_Jj fr 31, ixF_Jj fr 32, ixF_Jj fr 33, ixF_Jj fr 34, ixF_Jj fr 35, ixF_Jj fr 36, ixF_Jj fr 37, ixF_Jj fr 38, ixF_Jj fr 39, ixF_Jj fr 40, ixF_Jj fr 41, ixF_Jj fr 42, ixF_Jj fr 43, ixF_Jj fr 44, ixF_Jj fr 45, ixF_Jj fr 46, ixF_Jj fr 47, ixF_Jj fr 48], []⟩ ∧ Has s0.bs.length S st [.box k1 (.mem 0 false [p.cd, p.sd])] ∧ (i + mm = p.code.length) ∧ (∀ pc q, pc < i → p.code[pc]? = some q → shapedS p.code.length p.starts.length pc q = true)) (p.code.length) ?_ ?_
  ·exact ⟨0, rfl, hH, by omega, by intro pc q h; omega⟩
  rintro mm fr st ⟨i, hfr, hH, hi, hsh⟩
  rw [hfr]
  clear hfr
  try generalize ixF_Jj fr = ee
  clear fr
  try refine qy ?_
  repeat refine qq ?_
  try generalize hK : SeqQ _ _ _ _ = K
  refine EvC.reg ?_
  refine qg ?_
  refine EvO.nil ?_
  try subst hK
  try refine qy ?_
  repeat refine qq ?_
  refine qc (fun h1 => ?_) (fun h1 => ?_) <;> try simp only [cs] at h1
  ·refine EvC.skip ?_
   try refine qy ?_
   obtain ⟨q, hq⟩ : ∃ q, p.code[i]? = some q := ⟨p.code[i]'(by omega), List.getElem?_eq_getElem _⟩
   try refine qy ?_
   repeat refine qq ?_
   refine EvC.block ?_
   try refine qy ?_
   repeat refine qq ?_
   try generalize hK : SeqQ _ _ _ _ = K
   refine EvC.reg ?_
   refine qm ?_
   refine qm ?_
   refine EvO.nil ?_
   try subst hK
   try refine qy ?_
   repeat refine qq ?_
   try generalize hK : SeqQ _ _ _ _ = K
   refine EvC.reg ?_
   refine EvO.hloadS (m := 2) hH rfl (ev rfl) (by exact at0) (by dsimp only [List.drop_succ_cons, List.drop_zero, List.take_succ_cons, List.take_zero, Pg.cs, insC, intC, boolC] <;> rfl) rfl rfl (by dsimp only [Fr.put, List.set_cons_succ, List.set_cons_zero] <;> rfl) ?_
   refine qm ?_
   refine EvO.hcall rfl rfl (shaped_ev (p := p) hp hq) (by dsimp only [Fr.put, List.set_cons_succ, List.set_cons_zero] <;> rfl) ?_
   refine qg ?_
   refine EvO.nil ?_
   try subst hK
   try refine qy ?_
   repeat refine qq ?_
   refine qc (fun h2 => ?_) (fun h2 => ?_) <;> try simp only [cs] at h2
   ·rw [dec_no (fun h => by have := h.sh i q hq; rw [this] at h2; cases h2)]
    try refine qy ?_
    repeat refine qq ?_
    try generalize hK : SeqQ _ _ _ _ = K
    refine EvC.reg ?_
    refine qm ?_
    refine EvO.nil ?_
    try subst hK
    try refine qy ?_
    refine EvC.ret ⟨fun i h => (by cases h), _, rfl, leave_ro (by simp) hSb hH (rfl)⟩
   ·refine EvC.skip ?_
    try refine qy ?_
    repeat refine qq ?_
    try generalize hK : SeqQ _ _ _ _ = K
    refine EvC.reg ?_
    refine qA ?_
    refine qm ?_
    refine EvO.nil ?_
    try subst hK
    try refine qy ?_
    refine ⟨mm - 1, by omega, ⟨i + 1, rfl, hH, by omega, ?_⟩⟩
    intro pc q' hpc hq'
    by_cases he : pc = i
    ·subst he; rw [hq] at hq'; cases hq'; simpa using h2
    ·exact hsh pc q' (by omega) hq'
  ·try refine qy ?_
   refine EvC.exit ?_
   try refine qy ?_
   have hsh : ∀ pc q, p.code[pc]? = some q → shapedS p.code.length p.starts.length pc q = true := fun pc q hq => hsh pc q (by have := lt_get hq; omega) hq
   have hcl := closed_of hsh
   try refine qy ?_
   repeat refine qq ?_
   try generalize hK : SeqQ _ _ _ _ = K
   refine EvC.reg ?_
   refine qp (o := 1) ?_
   refine ql hH at0 ?_
   refine qn ?_
   try simp only [List.length_map, List.length_append, List.length_cons, List.length_nil, List.length_set, List.length_replicate, List.length_reverse]
   refine qm ?_
   refine EvO.nil ?_
   try subst hK
   try refine qy ?_
   repeat refine qq ?_
   refine EvC.block ?_
   refine EvC.loop (fun mm fr st => ∃ (r : Nat), fr.clean = ⟨49, [ixF_Jj fr 0, .ptr k1 0 0, .bool false, ixF_Jj fr 3, ixF_Jj fr 4, ixF_Jj fr 5, ixF_Jj fr 6, ixF_Jj fr 7, ixF_Jj fr 8, ixF_Jj fr 9, ixF_Jj fr 10, ixF_Jj fr 11, ixF_Jj fr 12, ixF_Jj fr 13, ixF_Jj fr 14, ixF_Jj fr 15, ixF_Jj fr 16, ixF_Jj fr 17, ixF_Jj fr 18, ixF_Jj fr 19, ixF_Jj fr 20, ixF_Jj fr 21, ixF_Jj fr 22, ixF_Jj fr 23, ixF_Jj fr 24, ixF_Jj fr 25, ixF_Jj fr 26, ixF_Jj fr 27, ixF_Jj fr 28, ixF_Jj fr 29, p.sd, .int .i64 (p.starts.length : Nat), .int .i64 (r : Nat), ixF_Jj fr 33, ixF_Jj fr 34, ixF_Jj fr 35, ixF_Jj fr 36, ixF_Jj fr 37, ixF_Jj fr 38, ixF_Jj fr 39, ixF_Jj fr 40, ixF_Jj fr 41, ixF_Jj fr 42, ixF_Jj fr 43, ixF_Jj fr 44, ixF_Jj fr 45, ixF_Jj fr 46, ixF_Jj fr 47, ixF_Jj fr 48], []⟩ ∧ Has s0.bs.length S st [.box k1 (.mem 0 false [p.cd, p.sd])] ∧ (r + mm = p.starts.length) ∧ (∀ r' s, r' < r → p.starts[r']? = some s → (0 ≤ s ∧ s < (p.code.length : Int)) ∧ ownMatch p r' s p.code.length)) (p.starts.length) ?_ ?_
   ·exact ⟨0, rfl, hH, by omega, by intro pc q h; omega⟩
   rintro mm fr st ⟨r, hfr, hH, hi, hok⟩
   rw [hfr]
   clear hfr
   try generalize ixF_Jj fr = ee
   clear fr
   try refine qy ?_
   repeat refine qq ?_
   try generalize hK : SeqQ _ _ _ _ = K
   refine EvC.reg ?_
   refine qg ?_
   refine EvO.nil ?_
   try subst hK
   try refine qy ?_
   repeat refine qq ?_
   refine qc (fun h3 => ?_) (fun h3 => ?_) <;> try simp only [cs] at h3
   ·refine EvC.skip ?_
    try refine qy ?_
    obtain ⟨s, hs1⟩ : ∃ s, p.starts[r]? = some s := ⟨p.starts[r]'(by omega), List.getElem?_eq_getElem _⟩
    have hr0 := int_get hs1
    try refine qy ?_
    repeat refine qq ?_
    refine EvC.block ?_
    try refine qy ?_
    repeat refine qq ?_
    try generalize hK : SeqQ _ _ _ _ = K
    refine EvC.reg ?_
    refine qm ?_
    refine qr fun p35 hp35 => ?_
    refine qR ?_
    refine qm ?_
    refine qm ?_
    refine EvO.nil ?_
    try subst hK
    try refine qy ?_
    repeat refine qq ?_
    try generalize hK : SeqQ _ _ _ _ = K
    refine EvC.reg ?_
    refine qm ?_
    refine qp (o := 0) ?_
    refine ql hH at0 ?_
    refine qn ?_
    try simp only [List.length_map, List.length_append, List.length_cons, List.length_nil, List.length_set, List.length_replicate, List.length_reverse]
    refine EvO.hcall rfl rfl (within_ev _ _) (by dsimp only [Fr.put, List.set_cons_succ, List.set_cons_zero] <;> rfl) ?_
    refine qg ?_
    refine EvO.nil ?_
    try subst hK
    try refine qy ?_
    repeat refine qq ?_
    refine qc (fun h4 => ?_) (fun h4 => ?_) <;> try simp only [cs] at h4
    ·rw [dec_no (fun h => by have := inS_iff.2 (h.st s (List.mem_of_getElem? hs1)); rw [this] at h4; cases h4)]
     try refine qy ?_
     repeat refine qq ?_
     try generalize hK : SeqQ _ _ _ _ = K
     refine EvC.reg ?_
     refine qm ?_
     refine EvO.nil ?_
     try subst hK
     try refine qy ?_
     refine EvC.ret ⟨fun i h => (by cases h), _, rfl, leave_ro (by simp) hSb hH (rfl)⟩
    ·have hsin := inS_iff.1 (show inS s p.code.length = true by simpa using h4)
     refine EvC.skip ?_
     try refine qy ?_
     have hrl := reachS_len p.code s
     have hra := (boolsV_sl (reachS p.code s)).arg s0.bs.length S
     try refine qy ?_
     repeat refine qq ?_
     try generalize hK : SeqQ _ _ _ _ = K
     refine EvC.reg ?_
     refine qp (o := 0) ?_
     refine ql hH at0 ?_
     refine qm ?_
     refine EvO.hcall rfl rfl (from_ev hcd hlen hcl hsin) (by dsimp only [Fr.put, List.set_cons_succ, List.set_cons_zero] <;> rfl) ?_
     refine qn ?_
     try simp only [List.length_map, List.length_append, List.length_cons, List.length_nil, List.length_set, List.length_replicate, List.length_reverse]
     refine qm ?_
     refine EvO.nil ?_
     try subst hK
     try refine qy ?_
     repeat refine qq ?_
     refine EvC.block ?_
     refine EvC.loop (fun mm fr st => ∃ (i : Nat), fr.clean = ⟨49, [ixF_Jj fr 0, .ptr k1 0 0, .bool false, ixF_Jj fr 3, .int .i64 (r : Nat), ixF_Jj fr 5, ixF_Jj fr 6, ixF_Jj fr 7, ixF_Jj fr 8, ixF_Jj fr 9, ixF_Jj fr 10, ixF_Jj fr 11, ixF_Jj fr 12, ixF_Jj fr 13, ixF_Jj fr 14, ixF_Jj fr 15, ixF_Jj fr 16, ixF_Jj fr 17, ixF_Jj fr 18, ixF_Jj fr 19, ixF_Jj fr 20, ixF_Jj fr 21, ixF_Jj fr 22, ixF_Jj fr 23, ixF_Jj fr 24, ixF_Jj fr 25, ixF_Jj fr 26, ixF_Jj fr 27, ixF_Jj fr 28, ixF_Jj fr 29, p.sd, .int .i64 (p.starts.length : Nat), .int .i64 (r : Nat), ixF_Jj fr 33, ixF_Jj fr 34, ixF_Jj fr 35, ixF_Jj fr 36, ixF_Jj fr 37, ixF_Jj fr 38, ixF_Jj fr 39, ixF_Jj fr 40, ixF_Jj fr 41, ixF_Jj fr 42, ixF_Jj fr 43, ixF_Jj fr 44, ixF_Jj fr 45, boolsV (reachS p.code s), .int .i64 ((reachS p.code s).length : Nat), .int .i64 (i : Nat)], []⟩ ∧ Has s0.bs.length S st [.box k1 (.mem 0 false [p.cd, p.sd])] ∧ (i + mm = p.code.length) ∧ (ownMatch p r s i)) (p.code.length) ?_ ?_
     ·exact ⟨0, rfl, hH, by omega, by intro pc q h; omega⟩
     rintro mm fr st ⟨i, hfr, hH, hj, hom⟩
     rw [hfr]
     clear hfr
     try generalize ixF_Jj fr = ee
     clear fr
     try refine qy ?_
     repeat refine qq ?_
     try generalize hK : SeqQ _ _ _ _ = K
     refine EvC.reg ?_
     refine qg ?_
     refine EvO.nil ?_
     try subst hK
     try refine qy ?_
     repeat refine qq ?_
     refine qc (fun h5 => ?_) (fun h5 => ?_) <;> try simp only [cs] at h5
     ·refine EvC.skip ?_
      try refine qy ?_
      obtain ⟨b, hb⟩ : ∃ b, (reachS p.code s)[i]? = some b := ⟨(reachS p.code s)[i]'(by omega), List.getElem?_eq_getElem _⟩
      obtain ⟨q, hq⟩ : ∃ q, p.code[i]? = some q := ⟨p.code[i]'(by omega), List.getElem?_eq_getElem _⟩
      have hr1 := bool_get hb
      have hr2 := ins_get hq
      try refine qy ?_
      repeat refine qq ?_
      refine EvC.block ?_
      try refine qy ?_
      repeat refine qq ?_
      try generalize hK : SeqQ _ _ _ _ = K
      refine EvC.reg ?_
      refine qm ?_
      refine qr fun p51 hp51 => ?_
      refine qR ?_
      refine qm ?_
      refine qm ?_
      refine EvO.nil ?_
      try subst hK
      try refine qy ?_
      repeat refine qq ?_
      refine EvC.cutT 72 (.bool ((b && (q.op == 7)) && (q.x != (r : Int)))) [] ?_ (fun ff tmp htmp => ?_)
      ·refine qm ?_
       refine qm ?_
       refine EvO.two 54 rfl (fun hg1 => ?_) (fun hg1 => ?_)
       ·refine qp (o := 0) ?_ (hg := wi hg1)
        refine ql hH at0 ?_ (hg := wi hg1)
        refine qm ?_ (hg := wi hg1)
        refine qr (fun p58 hp58 => ?_) (hg := wi hg1)
        refine qf (fo := 0) (fun p59 hp59 => ?_) (hg := wi hg1)
        refine qR ?_ (hg := wi hg1)
        refine qg ?_ (hg := wi hg1)
        refine qt hg1 ?_
        refine qm ?_
        refine EvO.two 63 rfl (fun hg10 => ?_) (fun hg10 => ?_)
        ·refine qp (o := 0) ?_ (hg := wi hg10)
         refine ql hH at0 ?_ (hg := wi hg10)
         refine qm ?_ (hg := wi hg10)
         refine qr (fun p67 hp67 => ?_) (hg := wi hg10)
         refine qf (fo := 1) (fun p68 hp68 => ?_) (hg := wi hg10)
         refine qR ?_ (hg := wi hg10)
         refine qm ?_ (hg := wi hg10)
         refine qg ?_ (hg := wi hg10)
         refine qt hg10 ?_
         refine EvO.nil (leafT ?_ ?_)
         ·try dsimp only [setW, List.foldl, nth, u2, u1]
          all_goals (first | rfl | simp)
         ·try dsimp only [Fr.putO, Fr.put, Fr.clean, Fr.ev, Fr.get, nth, Go.V.look, u1, u2, v1, v2, v3, v4, v5, v6, v7, List.length, u3, u4, Nat.reduceSub, Nat.reduceAdd, List.map]
          all_goals (simp [hg1, hg10]; done)
        ·refine qs ?_ (hg := wn hg10)
         refine qs ?_ (hg := wn hg10)
         refine qs ?_ (hg := wn hg10)
         refine qs ?_ (hg := wn hg10)
         refine qs ?_ (hg := wn hg10)
         refine qs ?_ (hg := wn hg10)
         refine qs ?_ (hg := wn hg10)
         refine qs ?_ (hg := wn hg10)
         refine qu hg10 ?_
         refine EvO.nil (leafT ?_ ?_)
         ·try dsimp only [setW, List.foldl, nth, u2, u1]
          all_goals (first | rfl | simp)
         ·try dsimp only [Fr.putO, Fr.put, Fr.clean, Fr.ev, Fr.get, nth, Go.V.look, u1, u2, v1, v2, v3, v4, v5, v6, v7, List.length, u3, u4, Nat.reduceSub, Nat.reduceAdd, List.map]
          all_goals (simp [hg1, hg10]; done)
       ·refine qs ?_ (hg := wn hg1)
        refine qs ?_ (hg := wn hg1)
        refine qs ?_ (hg := wn hg1)
        refine qs ?_ (hg := wn hg1)
        refine qs ?_ (hg := wn hg1)
        refine qs ?_ (hg := wn hg1)
        refine qs ?_ (hg := wn hg1)
        refine qu hg1 ?_
        refine qm ?_
        refine qs ?_
        refine qs ?_
        refine qs ?_
        refine qs ?_
        refine qs ?_
        refine qs ?_
        refine qs ?_
        refine qs ?_
        refine qg ?_
        refine EvO.nil (leafT ?_ ?_)
        ·try dsimp only [setW, List.foldl, nth, u2, u1]
         all_goals (first | rfl | simp)
        ·try dsimp only [Fr.putO, Fr.put, Fr.clean, Fr.ev, Fr.get, nth, Go.V.look, u1, u2, v1, v2, v3, v4, v5, v6, v7, List.length, u3, u4, Nat.reduceSub, Nat.reduceAdd, List.map]
         all_goals (simp [hg1]; done)
      try dsimp only [setW, List.foldl, nth, u2, u1]
      try dsimp only [Fr.putO, Fr.put, Fr.clean, Fr.ev, Fr.get, nth, Go.V.look, u1, u2, v1, v2, v3, v4, v5, v6, v7, List.length, u3, u4, Nat.reduceSub, Nat.reduceAdd, List.map]
      try refine qy ?_
      repeat refine qq ?_
      refine qc (fun h6 => ?_) (fun h6 => ?_) <;> try simp only [cs] at h6
      ·rw [dec_no (fun h => by
        have h7 := h.fo r s hs1 i q (by omega)
        simp only [Bool.and_eq_true, beq_iff_eq, bne_iff_ne, ne_eq] at h6
        obtain ⟨⟨rfl, h8⟩, h9⟩ := h6
        exact h9 (h7 hb hq h8))]
       try refine qy ?_
       repeat refine qq ?_
       try generalize hK : SeqQ _ _ _ _ = K
       refine EvC.reg ?_
       refine qm ?_
       refine EvO.nil ?_
       try subst hK
       try refine qy ?_
       refine EvC.ret ⟨fun i h => (by cases h), _, rfl, leave_ro (by simp) hSb hH (rfl)⟩
      ·refine EvC.skip ?_
       try refine qy ?_
       repeat refine qq ?_
       try generalize hK : SeqQ _ _ _ _ = K
       refine EvC.reg ?_
       refine qA ?_
       refine qm ?_
       refine EvO.nil ?_
       try subst hK
       try refine qy ?_
       refine ⟨mm - 1, by omega, ⟨i + 1, rfl, hH, by omega, ?_⟩⟩
       intro pc q' hpc hre hq' hop
       by_cases he : pc = i
       ·subst he
        rw [hq] at hq'; cases hq'
        rw [hb] at hre; cases hre
        simp [hop] at h6; exact h6
       ·exact hom pc q' (by omega) hre hq' hop
     ·try refine qy ?_
      refine EvC.exit ?_
      try refine qy ?_
      repeat refine qq ?_
      try generalize hK : SeqQ _ _ _ _ = K
      refine EvC.reg ?_
      refine qA ?_
      refine qm ?_
      refine EvO.nil ?_
      try subst hK
      try refine qy ?_
      refine ⟨p.starts.length - (r + 1), by omega, ⟨r + 1, rfl, hH, by omega, ?_⟩⟩
      intro r' s' hr' hs'
      by_cases he : r' = r
      ·subst he
       rw [hs1] at hs'; cases hs'
       exact ⟨hsin, fun pc q hpc => hom pc q (by omega)⟩
      ·exact hok r' s' (by omega) hs'
   ·try refine qy ?_
    refine EvC.exit ?_
    try refine qy ?_
    rw [dec_yes ⟨h0.1, h0.2, hsh, fun v hv => by
     obtain ⟨r', hr'⟩ := List.getElem?_of_mem hv
     exact (hok r' v (by have := lt_get hr'; omega) hr').1, fun r' s' hs' => (hok r' s' (by have := lt_get hs'; omega) hs').2⟩]
    try refine qy ?_
    repeat refine qq ?_
    try generalize hK : SeqQ _ _ _ _ = K
    refine EvC.reg ?_
    refine qm ?_
    refine EvO.nil ?_
    try subst hK
    try refine qy ?_
    refine EvC.ret ⟨fun i h => (by cases h), _, rfl, leave_ro (by simp) hSb hH (rfl)⟩
end Go.Proofs.Ytbdilgkfnacahaa
