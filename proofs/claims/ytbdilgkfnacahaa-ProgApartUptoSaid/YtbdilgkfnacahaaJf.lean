/-
 Programs as they are looked at: one instruction.
-/
import Derived.Test.YtbdilgkfnacahaaJe
namespace Go.Proofs.Ytbdilgkfnacahaa
open Go.V Go
set_option maxRecDepth 100000
set_option maxHeartbeats 4000000
set_option linter.unusedSimpArgs false
set_option linter.unusedVariables false

/-- an instruction, its ranges as they are handed over -/
structure PIns where
 op : Int
 x : Int
 y : Int
 rd : D
 rs : List Rg
def insC (i : PIns) : List D := [.int .i64 i.op, .int .i64 i.x, .int .i64 i.y, i.rd]
def PIns.ok (i : PIns) : Prop := SlD i.rd 2 (i.rs.map rangeC) ∧ i.rs.length ≤ 1048576
def intC (n : Int) : List D := [.int .i64 n]

/-- a program -/
structure Pg where
 cd : D
 code : List PIns
 sd : D
 starts : List Int
structure Pg.ok (p : Pg) : Prop where
 c : SlD p.cd 4 (p.code.map insC)
 s : SlD p.sd 1 (p.starts.map intC)
 i : ∀ x ∈ p.code, x.ok
 cl : p.code.length ≤ 1048576
 sl : p.starts.length ≤ 1048576
def Pg.cs (p : Pg) : List D := [p.cd, p.sd]
def Pg.d (p : Pg) : D := .agg p.cs

theorem ins_get {l : List PIns} {i : Nat} {q : PIns} (h : l[i]? = some q) : (l.map insC)[i]? = some (insC q) := by rw [List.getElem?_map, h]; rfl
theorem int_get {l : List Int} {i : Nat} {q : Int} (h : l[i]? = some q) : (l.map intC)[i]? = some (intC q) := by rw [List.getElem?_map, h]; rfl

/-- is it the number of one of so many? -/
def inS (v n : Int) : Bool := decide (v ≥ 0) && decide (v < n)

/-- may an instruction stand there? -/
noncomputable def shapedS (n ns pc : Nat) (i : PIns) : Bool :=
 if i.op = 1 then i.y == 0 && (decide (((pc + 1 : Nat) : Int) < n) && i.x == 0 && rightS i.rs)
 else i.rs.isEmpty &&
  (if i.op = 2 then inS i.x n && inS i.y n
  else i.y == 0 &&
   (if i.op = 3 then inS i.x n
   else if i.op = 4 then decide (((pc + 1 : Nat) : Int) < n) && inS i.x 10
   else if i.op = 5 ∨ i.op = 6 then decide (((pc + 1 : Nat) : Int) < n) && i.x == 0
   else if i.op = 7 then inS i.x ns
   else false))

theorem within_ev {s0 : St} (v n : Int) : Ev pv 50 [.int .i64 v, .int .i64 n] s0 (.bool (inS v n)) s0 := by
 refine Ev.mk1 rfl fi50 rfl rfl rfl ?_
 dsimp only [List.cons_append, List.nil_append, List.length, Nat.reduceSub, Nat.reduceAdd, List.replicate_succ, List.replicate_zero]
 have hSb : (enterSt .ro s0).bs = s0.bs := rfl
 have hF : (enterSt .ro s0).flr ≤ s0.bs.length := Nat.le_refl _
 have hH : Has s0.bs.length (enterSt .ro s0) (enterSt .ro s0) [] := Has.start (Nat.le_refl _) (Nat.le_refl _)
 generalize enterSt .ro s0 = S at *
 try refine qy ?_
 repeat refine qq ?_
 try generalize hK : SeqQ _ _ _ _ = K
 refine EvC.reg ?_
 refine qm ?_
 refine EvO.nil ?_
 try subst hK
 try refine qy ?_
 repeat refine qq ?_
 refine EvC.cutL 4 (.bool (decide (v ≥ 0) && decide (v < n))) [] ?_ (fun ff tmp => ?_)
 ·refine qm ?_
  refine qg ?_
  refine qm ?_
  refine EvO.two 7 rfl (fun hg2 => ?_) (fun hg2 => ?_)
  ·refine qm ?_ (hg := wi hg2)
   refine qm ?_ (hg := wi hg2)
   refine qg ?_ (hg := wi hg2)
   refine qt hg2 ?_
   refine qm ?_
   refine EvO.nil (leafL ?_)
   try dsimp only [setW, List.foldl, nth, u2, u1]
   try dsimp only [Fr.putO, Fr.put, Fr.clean, Fr.ev, Fr.get, nth, Go.V.look, u1, u2, v1, v2, v3, v4, v5, v6, v7, List.length, u3, u4, Nat.reduceSub, Nat.reduceAdd, List.map]
   all_goals (simp [hg2]; done)
  ·refine qs ?_ (hg := wn hg2)
   refine qs ?_ (hg := wn hg2)
   refine qs ?_ (hg := wn hg2)
   refine qu hg2 ?_
   refine qm ?_
   refine EvO.nil (leafL ?_)
   try dsimp only [setW, List.foldl, nth, u2, u1]
   try dsimp only [Fr.putO, Fr.put, Fr.clean, Fr.ev, Fr.get, nth, Go.V.look, u1, u2, v1, v2, v3, v4, v5, v6, v7, List.length, u3, u4, Nat.reduceSub, Nat.reduceAdd, List.map]
   all_goals (simp [hg2]; done)
 try dsimp only [setW, List.foldl, nth, u2, u1]
 try dsimp only [Fr.putO, Fr.put, Fr.clean, Fr.ev, Fr.get, nth, Go.V.look, u1, u2, v1, v2, v3, v4, v5, v6, v7, List.length, u3, u4, Nat.reduceSub, Nat.reduceAdd, List.map]
 try refine qy ?_
 refine EvC.ret ⟨fun i h => (by cases h), _, rfl, leave_ro (by simp) hSb hH (rfl)⟩

theorem shaped_ev {s0 : St} {p : Pg} {pc : Nat} {i : PIns} (hp : p.ok) (hi : p.code[pc]? = some i) : Ev pv 49 [p.d, .int .i64 (pc : Nat)] s0 (.bool (shapedS p.code.length p.starts.length pc i)) s0 := by
 refine Ev.mk1 rfl fi49 rfl rfl rfl ?_
 dsimp only [List.cons_append, List.nil_append, List.length, Nat.reduceSub, Nat.reduceAdd, List.replicate_succ, List.replicate_zero]
 have hSb : (enterSt .ro s0).bs = s0.bs := rfl
 have hF : (enterSt .ro s0).flr ≤ s0.bs.length := Nat.le_refl _
 have hH : Has s0.bs.length (enterSt .ro s0) (enterSt .ro s0) [] := Has.start (Nat.le_refl _) (Nat.le_refl _)
 generalize enterSt .ro s0 = S at *
 have hc := hp.c.arg s0.bs.length S
 have hs := hp.s.arg s0.bs.length S
 have hio := hp.i i (List.mem_of_getElem? hi)
 have hir := hio.1.arg s0.bs.length S
 have hil := hio.2
 have hcl := hp.cl
 have hsl := hp.sl
 have hr := ins_get hi
 have hlt := lt_get hi
 unfold Pg.d
 try refine qy ?_
 repeat refine qq ?_
 try generalize hK : SeqQ _ _ _ _ = K
 refine EvC.reg ?_
 refine qb hH fun k2 st hk2 hH => ?_
 try dsimp only [u2, u1, u3, u4, setMany, u5, u6, D.cells, Nat.reduceAdd, Pg.cs, insC, intC] at hH
 refine qm ?_
 refine EvO.nil ?_
 try subst hK
 try refine qy ?_
 repeat refine qq ?_
 try generalize hK : SeqQ _ _ _ _ = K
 refine EvC.reg ?_
 refine qp (o := 0) ?_
 refine ql hH at0 ?_
 refine qm ?_
 refine qr fun p10 hp10 => ?_
 refine EvO.rloadS rfl (ev rfl) (by assumption) rfl (by dsimp only [Fr.put, List.set_cons_succ, List.set_cons_zero] <;> rfl) ?_
 refine qa hH fun k5 st hk5 hH => ?_
 try dsimp only [u2, u1, u3, u4, setMany, u5, u6, D.cells, Nat.reduceAdd, Pg.cs, insC, intC] at hH
 refine qS hH at0 fun st hH => ?_
 try dsimp only [u2, u1, u3, u4, setMany, u5, u6, D.cells, Nat.reduceAdd, Pg.cs, insC, intC] at hH
 refine EvO.nil ?_
 try subst hK
 try refine qy ?_
 repeat refine qq ?_
 try generalize hK : SeqQ _ _ _ _ = K
 refine EvC.reg ?_
 refine qm ?_
 refine qA ?_
 refine qp (o := 0) ?_
 refine ql hH at1 ?_
 refine qn ?_
 try simp only [List.length_map, List.length_append, List.length_cons, List.length_nil, List.length_set, List.length_replicate, List.length_reverse]
 refine qg ?_
 refine qm ?_
 refine EvO.nil ?_
 try subst hK
 try refine qy ?_
 repeat refine qq ?_
 refine EvC.cutL 36 (.bool (((i.op != 1) && decide ((i.rs.length : Int) > 0)) || ((i.op != 2) && (i.y != 0)))) [18, 19, 20, 21, 22, 23, 24, 25, 26, 27, 28, 29, 30, 31, 32, 33, 34, 35] ?_ (fun ff tmp => ?_)
 ·refine qp (o := 0) ?_
  refine ql hH at0 ?_
  refine qg ?_
  refine qm ?_
  refine EvO.two 21 rfl (fun hg3 => ?_) (fun hg3 => ?_)
  ·refine qp (o := 3) ?_ (hg := wi hg3)
   refine ql hH at0 ?_ (hg := wi hg3)
   refine qn ?_ (hg := wi hg3)
   try simp only [List.length_map, List.length_append, List.length_cons, List.length_nil, List.length_set, List.length_replicate, List.length_reverse]
   refine qg ?_ (hg := wi hg3)
   refine qt hg3 ?_
   refine qm ?_
   refine EvO.two 27 rfl (fun hg9 => ?_) (fun hg9 => ?_)
   ·refine qs ?_ (hg := wn hg9)
    refine qs ?_ (hg := wn hg9)
    refine qs ?_ (hg := wn hg9)
    refine qs ?_ (hg := wn hg9)
    refine qs ?_
    refine qs ?_
    refine qs ?_
    refine qs ?_ (hg := wn hg9)
    refine qt hg9 ?_
    refine EvO.nil (leafL ?_)
    try dsimp only [setW, List.foldl, nth, u2, u1]
    try dsimp only [Fr.putO, Fr.put, Fr.clean, Fr.ev, Fr.get, nth, Go.V.look, u1, u2, v1, v2, v3, v4, v5, v6, v7, List.length, u3, u4, Nat.reduceSub, Nat.reduceAdd, List.map]
    all_goals (simp_all; done)
   ·refine qp (o := 0) ?_ (hg := wi hg9)
    refine ql hH at0 ?_ (hg := wi hg9)
    refine qg ?_ (hg := wi hg9)
    refine qm ?_ (hg := wi hg9)
    refine EvO.two 31 rfl (fun hg13 => ?_) (fun hg13 => ?_)
    ·refine qp (o := 2) ?_ (hg := wi hg13)
     refine ql hH at0 ?_ (hg := wi hg13)
     refine qg ?_ (hg := wi hg13)
     refine EvO.pickT (wantD_is rfl rfl rfl hg9) rfl hg13 (by dsimp only [Fr.put, List.set_cons_succ, List.set_cons_zero] <;> rfl) ?_
     refine qu hg9 ?_
     refine EvO.nil (leafL ?_)
     try dsimp only [setW, List.foldl, nth, u2, u1]
     try dsimp only [Fr.putO, Fr.put, Fr.clean, Fr.ev, Fr.get, nth, Go.V.look, u1, u2, v1, v2, v3, v4, v5, v6, v7, List.length, u3, u4, Nat.reduceSub, Nat.reduceAdd, List.map]
     all_goals (simp_all; done)
    ·refine qs ?_ (hg := wn hg13)
     refine qs ?_ (hg := wn hg13)
     refine qs ?_ (hg := wn hg13)
     refine EvO.pickF (wantD_is rfl rfl rfl hg9) rfl hg13 (by dsimp only [Fr.put, List.set_cons_succ, List.set_cons_zero] <;> rfl) ?_
     refine qu hg9 ?_
     refine EvO.nil (leafL ?_)
     try dsimp only [setW, List.foldl, nth, u2, u1]
     try dsimp only [Fr.putO, Fr.put, Fr.clean, Fr.ev, Fr.get, nth, Go.V.look, u1, u2, v1, v2, v3, v4, v5, v6, v7, List.length, u3, u4, Nat.reduceSub, Nat.reduceAdd, List.map]
     all_goals (simp_all; done)
  ·refine qs ?_ (hg := wn hg3)
   refine qs ?_ (hg := wn hg3)
   refine qs ?_ (hg := wn hg3)
   refine qs ?_ (hg := wn hg3)
   refine qu hg3 ?_
   refine qm ?_
   refine qp (o := 0) ?_
   refine ql hH at0 ?_
   refine qg ?_
   refine qm ?_
   refine EvO.two 31 rfl (fun hg13 => ?_) (fun hg13 => ?_)
   ·refine qp (o := 2) ?_ (hg := wi hg13)
    refine ql hH at0 ?_ (hg := wi hg13)
    refine qg ?_ (hg := wi hg13)
    refine qt hg13 ?_
    refine qg ?_
    refine EvO.nil (leafL ?_)
    try dsimp only [setW, List.foldl, nth, u2, u1]
    try dsimp only [Fr.putO, Fr.put, Fr.clean, Fr.ev, Fr.get, nth, Go.V.look, u1, u2, v1, v2, v3, v4, v5, v6, v7, List.length, u3, u4, Nat.reduceSub, Nat.reduceAdd, List.map]
    all_goals (simp [hg3, hg13]; done)
   ·refine qs ?_ (hg := wn hg13)
    refine qs ?_ (hg := wn hg13)
    refine qs ?_ (hg := wn hg13)
    refine qu hg13 ?_
    refine qg ?_
    refine EvO.nil (leafL ?_)
    try dsimp only [setW, List.foldl, nth, u2, u1]
    try dsimp only [Fr.putO, Fr.put, Fr.clean, Fr.ev, Fr.get, nth, Go.V.look, u1, u2, v1, v2, v3, v4, v5, v6, v7, List.length, u3, u4, Nat.reduceSub, Nat.reduceAdd, List.map]
    all_goals (simp [hg3, hg13]; done)
 try dsimp only [setW, List.foldl, nth, u2, u1]
 generalize ff 18 = e18
 generalize ff 19 = e19
 generalize ff 20 = e20
 generalize ff 21 = e21
 generalize ff 22 = e22
 generalize ff 23 = e23
 generalize ff 24 = e24
 generalize ff 25 = e25
 generalize ff 26 = e26
 generalize ff 27 = e27
 generalize ff 28 = e28
 generalize ff 29 = e29
 generalize ff 30 = e30
 generalize ff 31 = e31
 generalize ff 32 = e32
 generalize ff 33 = e33
 generalize ff 34 = e34
 generalize ff 35 = e35
 try dsimp only [Fr.putO, Fr.put, Fr.clean, Fr.ev, Fr.get, nth, Go.V.look, u1, u2, v1, v2, v3, v4, v5, v6, v7, List.length, u3, u4, Nat.reduceSub, Nat.reduceAdd, List.map]
 try refine qy ?_
 have hlen0 : (i.rs.isEmpty = !decide ((i.rs.length : Int) > 0)) := by cases i.rs <;> simp <;> omega
 have hsh : shapedS p.code.length p.starts.length pc i = if ((i.op != 1) && decide ((i.rs.length : Int) > 0)) || ((i.op != 2) && (i.y != 0)) then false else
   (if i.op = 1 then (decide (((pc + 1 : Nat) : Int) < p.code.length) && i.x == 0) && rightS i.rs
   else if i.op = 2 then inS i.x p.code.length && inS i.y p.code.length
   else if i.op = 3 then inS i.x p.code.length
   else if i.op = 4 then decide (((pc + 1 : Nat) : Int) < p.code.length) && inS i.x 10
   else if i.op = 5 then decide (((pc + 1 : Nat) : Int) < p.code.length) && i.x == 0
   else if i.op = 6 then decide (((pc + 1 : Nat) : Int) < p.code.length) && i.x == 0
   else if i.op = 7 then inS i.x p.starts.length
   else false) := by
  unfold shapedS
  rw [hlen0]
  generalize decide ((i.rs.length : Int) > 0) = b
  by_cases h1 : i.op = 1
  ·have h2 : i.op ≠ 2 := by omega
   simp only [h1]; cases b <;> by_cases hy : i.y = 0 <;> simp [hy]
  ·by_cases h2 : i.op = 2
   ·simp only [h2]; cases b <;> simp
   ·by_cases h56 : i.op = 5
    ·simp only [h56]; cases b <;> by_cases hy : i.y = 0 <;> simp [hy]
    ·cases b <;> by_cases hy : i.y = 0 <;> simp [h1, h2, h56, hy]
 rw [hsh]
 try refine qy ?_
 repeat refine qq ?_
 refine qc (fun h0 => ?_) (fun h0 => ?_) <;> try simp only [cs] at h0
 ·try refine qy ?_
  repeat refine qq ?_
  try generalize hK : SeqQ _ _ _ _ = K
  refine EvC.reg ?_
  refine qm ?_
  refine EvO.nil ?_
  try subst hK
  try refine qy ?_
  rw [if_pos h0]
  refine EvC.ret ⟨fun i h => (by cases h), _, rfl, leave_ro (by simp) hSb hH (rfl)⟩
 ·rw [if_neg (by rw [h0]; simp)]
  refine EvC.skip ?_
  try refine qy ?_
  repeat refine qq ?_
  try generalize hK : SeqQ _ _ _ _ = K
  refine EvC.reg ?_
  refine qp (o := 0) ?_
  refine ql hH at0 ?_
  refine EvO.nil ?_
  try subst hK
  try refine qy ?_
  repeat refine qq ?_
  refine EvC.block ?_
  try refine qy ?_
  repeat refine qq ?_
  try generalize hK : SeqQ _ _ _ _ = K
  refine EvC.reg ?_
  refine qg ?_
  refine qm ?_
  refine EvO.nil ?_
  try subst hK
  try refine qy ?_
  repeat refine qq ?_
  refine qc (fun h1 => ?_) (fun h1 => ?_) <;> try simp only [cs] at h1
  ·rw [if_pos h1]
   try refine qy ?_
   repeat refine qq ?_
   refine EvC.cutL 4 (.bool ((decide (((pc + 1 : Nat) : Int) < p.code.length) && (i.x == 0)) && rightS i.rs)) [] ?_ (fun ff tmp => ?_)
   ·refine qm ?_
    refine qm ?_
    refine EvO.two 42 rfl (fun hg1 => ?_) (fun hg1 => ?_)
    ·refine qp (o := 1) ?_ (hg := wi hg1)
     refine ql hH at0 ?_ (hg := wi hg1)
     refine qg ?_ (hg := wi hg1)
     refine qt hg1 ?_
     refine qm ?_
     refine EvO.two 47 rfl (fun hg6 => ?_) (fun hg6 => ?_)
     ·refine qp (o := 3) ?_ (hg := wi hg6)
      refine ql hH at0 ?_ (hg := wi hg6)
      refine EvO.hcall (wantD_is rfl rfl rfl hg6) rfl (right_ev (hir.rows hH) hil) (put_T rfl _) ?_
      refine qt hg6 ?_
      refine qm ?_
      refine EvO.nil (leafL ?_)
      try dsimp only [setW, List.foldl, nth, u2, u1]
      try dsimp only [Fr.putO, Fr.put, Fr.clean, Fr.ev, Fr.get, nth, Go.V.look, u1, u2, v1, v2, v3, v4, v5, v6, v7, List.length, u3, u4, Nat.reduceSub, Nat.reduceAdd, List.map]
      all_goals (simp [hg1, hg6]; done)
     ·refine qs ?_ (hg := wn hg6)
      refine qs ?_ (hg := wn hg6)
      refine qs ?_ (hg := wn hg6)
      refine qu hg6 ?_
      refine qm ?_
      refine EvO.nil (leafL ?_)
      try dsimp only [setW, List.foldl, nth, u2, u1]
      try dsimp only [Fr.putO, Fr.put, Fr.clean, Fr.ev, Fr.get, nth, Go.V.look, u1, u2, v1, v2, v3, v4, v5, v6, v7, List.length, u3, u4, Nat.reduceSub, Nat.reduceAdd, List.map]
      all_goals (simp [hg1, hg6]; done)
    ·refine qs ?_ (hg := wn hg1)
     refine qs ?_ (hg := wn hg1)
     refine qs ?_ (hg := wn hg1)
     refine qu hg1 ?_
     refine qm ?_
     refine qs ?_
     refine qs ?_
     refine qs ?_
     refine qg ?_
     refine qm ?_
     refine EvO.nil (leafL ?_)
     try dsimp only [setW, List.foldl, nth, u2, u1]
     try dsimp only [Fr.putO, Fr.put, Fr.clean, Fr.ev, Fr.get, nth, Go.V.look, u1, u2, v1, v2, v3, v4, v5, v6, v7, List.length, u3, u4, Nat.reduceSub, Nat.reduceAdd, List.map]
     all_goals (simp [hg1]; done)
   try dsimp only [setW, List.foldl, nth, u2, u1]
   try dsimp only [Fr.putO, Fr.put, Fr.clean, Fr.ev, Fr.get, nth, Go.V.look, u1, u2, v1, v2, v3, v4, v5, v6, v7, List.length, u3, u4, Nat.reduceSub, Nat.reduceAdd, List.map]
   try refine qy ?_
   refine EvC.ret ⟨fun i h => (by cases h), _, rfl, leave_ro (by simp) hSb hH (rfl)⟩
  ·rw [if_neg h1]
   try refine qy ?_
   repeat refine qq ?_
   try generalize hK : SeqQ _ _ _ _ = K
   refine EvC.reg ?_
   refine qg ?_
   refine qm ?_
   refine EvO.nil ?_
   try subst hK
   try refine qy ?_
   repeat refine qq ?_
   refine qc (fun h2 => ?_) (fun h2 => ?_) <;> try simp only [cs] at h2
   ·rw [if_pos h2]
    try refine qy ?_
    repeat refine qq ?_
    refine EvC.cutL 4 (.bool (inS i.x p.code.length && inS i.y p.code.length)) [] ?_ (fun ff tmp => ?_)
    ·refine qp (o := 1) ?_
     refine ql hH at0 ?_
     refine qp (o := 0) ?_
     refine ql hH at1 ?_
     refine qn ?_
     try simp only [List.length_map, List.length_append, List.length_cons, List.length_nil, List.length_set, List.length_replicate, List.length_reverse]
     refine EvO.hcall rfl rfl (within_ev _ _) (put_T rfl _) ?_
     refine qm ?_
     refine EvO.two 60 rfl (fun hg6 => ?_) (fun hg6 => ?_)
     ·refine qp (o := 2) ?_ (hg := wi hg6)
      refine ql hH at0 ?_ (hg := wi hg6)
      refine qp (o := 0) ?_ (hg := wi hg6)
      refine ql hH at1 ?_ (hg := wi hg6)
      refine qn ?_ (hg := wi hg6)
      try simp only [List.length_map, List.length_append, List.length_cons, List.length_nil, List.length_set, List.length_replicate, List.length_reverse]
      refine EvO.hcall (wantD_is rfl rfl rfl hg6) rfl (within_ev _ _) (put_T rfl _) ?_
      refine qt hg6 ?_
      refine qm ?_
      refine EvO.nil (leafL ?_)
      try dsimp only [setW, List.foldl, nth, u2, u1]
      try dsimp only [Fr.putO, Fr.put, Fr.clean, Fr.ev, Fr.get, nth, Go.V.look, u1, u2, v1, v2, v3, v4, v5, v6, v7, List.length, u3, u4, Nat.reduceSub, Nat.reduceAdd, List.map]
      all_goals (simp [hg6]; done)
     ·refine qs ?_ (hg := wn hg6)
      refine qs ?_ (hg := wn hg6)
      refine qs ?_ (hg := wn hg6)
      refine qs ?_ (hg := wn hg6)
      refine qs ?_ (hg := wn hg6)
      refine qs ?_ (hg := wn hg6)
      refine qu hg6 ?_
      refine qm ?_
      refine EvO.nil (leafL ?_)
      try dsimp only [setW, List.foldl, nth, u2, u1]
      try dsimp only [Fr.putO, Fr.put, Fr.clean, Fr.ev, Fr.get, nth, Go.V.look, u1, u2, v1, v2, v3, v4, v5, v6, v7, List.length, u3, u4, Nat.reduceSub, Nat.reduceAdd, List.map]
      all_goals (simp [hg6]; done)
    try dsimp only [setW, List.foldl, nth, u2, u1]
    try dsimp only [Fr.putO, Fr.put, Fr.clean, Fr.ev, Fr.get, nth, Go.V.look, u1, u2, v1, v2, v3, v4, v5, v6, v7, List.length, u3, u4, Nat.reduceSub, Nat.reduceAdd, List.map]
    try refine qy ?_
    refine EvC.ret ⟨fun i h => (by cases h), _, rfl, leave_ro (by simp) hSb hH (rfl)⟩
   ·rw [if_neg h2]
    try refine qy ?_
    repeat refine qq ?_
    try generalize hK : SeqQ _ _ _ _ = K
    refine EvC.reg ?_
    refine qg ?_
    refine qm ?_
    refine EvO.nil ?_
    try subst hK
    try refine qy ?_
    repeat refine qq ?_
    refine qc (fun h3 => ?_) (fun h3 => ?_) <;> try simp only [cs] at h3
    ·rw [if_pos h3]
     try refine qy ?_
     repeat refine qq ?_
     try generalize hK : SeqQ _ _ _ _ = K
     refine EvC.reg ?_
     refine qp (o := 1) ?_
     refine ql hH at0 ?_
     refine qp (o := 0) ?_
     refine ql hH at1 ?_
     refine qn ?_
     try simp only [List.length_map, List.length_append, List.length_cons, List.length_nil, List.length_set, List.length_replicate, List.length_reverse]
     refine EvO.hcall rfl rfl (within_ev _ _) (put_T rfl _) ?_
     refine qm ?_
     refine EvO.nil ?_
     try subst hK
     try refine qy ?_
     refine EvC.ret ⟨fun i h => (by cases h), _, rfl, leave_ro (by simp) hSb hH (rfl)⟩
    ·rw [if_neg h3]
     try refine qy ?_
     repeat refine qq ?_
     try generalize hK : SeqQ _ _ _ _ = K
     refine EvC.reg ?_
     refine qg ?_
     refine qm ?_
     refine EvO.nil ?_
     try subst hK
     try refine qy ?_
     repeat refine qq ?_
     refine qc (fun h4 => ?_) (fun h4 => ?_) <;> try simp only [cs] at h4
     ·rw [if_pos h4]
      try refine qy ?_
      repeat refine qq ?_
      refine EvC.cutL 4 (.bool (decide (((pc + 1 : Nat) : Int) < p.code.length) && inS i.x 10)) [] ?_ (fun ff tmp => ?_)
      ·refine qm ?_
       refine qm ?_
       refine EvO.two 79 rfl (fun hg1 => ?_) (fun hg1 => ?_)
       ·refine qp (o := 1) ?_ (hg := wi hg1)
        refine ql hH at0 ?_ (hg := wi hg1)
        refine EvO.hcall (wantD_is rfl rfl rfl hg1) rfl (within_ev _ _) (put_T rfl _) ?_
        refine qt hg1 ?_
        refine qm ?_
        refine EvO.nil (leafL ?_)
        try dsimp only [setW, List.foldl, nth, u2, u1]
        try dsimp only [Fr.putO, Fr.put, Fr.clean, Fr.ev, Fr.get, nth, Go.V.look, u1, u2, v1, v2, v3, v4, v5, v6, v7, List.length, u3, u4, Nat.reduceSub, Nat.reduceAdd, List.map]
        all_goals (simp [hg1]; done)
       ·refine qs ?_ (hg := wn hg1)
        refine qs ?_ (hg := wn hg1)
        refine qs ?_ (hg := wn hg1)
        refine qu hg1 ?_
        refine qm ?_
        refine EvO.nil (leafL ?_)
        try dsimp only [setW, List.foldl, nth, u2, u1]
        try dsimp only [Fr.putO, Fr.put, Fr.clean, Fr.ev, Fr.get, nth, Go.V.look, u1, u2, v1, v2, v3, v4, v5, v6, v7, List.length, u3, u4, Nat.reduceSub, Nat.reduceAdd, List.map]
        all_goals (simp [hg1]; done)
      try dsimp only [setW, List.foldl, nth, u2, u1]
      try dsimp only [Fr.putO, Fr.put, Fr.clean, Fr.ev, Fr.get, nth, Go.V.look, u1, u2, v1, v2, v3, v4, v5, v6, v7, List.length, u3, u4, Nat.reduceSub, Nat.reduceAdd, List.map]
      try refine qy ?_
      refine EvC.ret ⟨fun i h => (by cases h), _, rfl, leave_ro (by simp) hSb hH (rfl)⟩
     ·rw [if_neg h4]
      try refine qy ?_
      repeat refine qq ?_
      try generalize hK : SeqQ _ _ _ _ = K
      refine EvC.reg ?_
      refine qg ?_
      refine qm ?_
      refine EvO.nil ?_
      try subst hK
      try refine qy ?_
      by_cases h5 : i.op = 5
      ·rw [if_pos h5]
       try refine qy ?_
       repeat refine qq ?_
       refine EvC.cond (v := true) (by dsimp only [Fr.ev, Fr.get, nth, Go.V.look]; simp [h5]) (fun _ => ?_) (fun h => by cases h)
       try refine qy ?_
       refine EvC.skip ?_
       try refine qy ?_
       repeat refine qq ?_
       refine EvC.cond (v := true) (by dsimp only [Fr.ev, Fr.get, nth, Go.V.look]; simp [h5]) (fun _ => ?_) (fun h => by cases h)
       try refine qy ?_
       repeat refine qq ?_
       refine EvC.cutL 4 (.bool (decide (((pc + 1 : Nat) : Int) < p.code.length) && (i.x == 0))) [] ?_ (fun ff tmp => ?_)
       ·refine qm ?_
        refine qm ?_
        refine EvO.two 88 rfl (fun hg1 => ?_) (fun hg1 => ?_)
        ·refine qp (o := 1) ?_ (hg := wi hg1)
         refine ql hH at0 ?_ (hg := wi hg1)
         refine qg ?_ (hg := wi hg1)
         refine qt hg1 ?_
         refine qm ?_
         refine EvO.nil (leafL ?_)
         try dsimp only [setW, List.foldl, nth, u2, u1]
         try dsimp only [Fr.putO, Fr.put, Fr.clean, Fr.ev, Fr.get, nth, Go.V.look, u1, u2, v1, v2, v3, v4, v5, v6, v7, List.length, u3, u4, Nat.reduceSub, Nat.reduceAdd, List.map]
         all_goals (simp [hg1]; done)
        ·refine qs ?_ (hg := wn hg1)
         refine qs ?_ (hg := wn hg1)
         refine qs ?_ (hg := wn hg1)
         refine qu hg1 ?_
         refine qm ?_
         refine EvO.nil (leafL ?_)
         try dsimp only [setW, List.foldl, nth, u2, u1]
         try dsimp only [Fr.putO, Fr.put, Fr.clean, Fr.ev, Fr.get, nth, Go.V.look, u1, u2, v1, v2, v3, v4, v5, v6, v7, List.length, u3, u4, Nat.reduceSub, Nat.reduceAdd, List.map]
         all_goals (simp [hg1]; done)
       try dsimp only [setW, List.foldl, nth, u2, u1]
       try dsimp only [Fr.putO, Fr.put, Fr.clean, Fr.ev, Fr.get, nth, Go.V.look, u1, u2, v1, v2, v3, v4, v5, v6, v7, List.length, u3, u4, Nat.reduceSub, Nat.reduceAdd, List.map]
       try refine qy ?_
       refine EvC.ret ⟨fun i h => (by cases h), _, rfl, leave_ro (by simp) hSb hH (rfl)⟩
      ·rw [if_neg h5]
       try refine qy ?_
       repeat refine qq ?_
       refine EvC.cond (v := false) (by dsimp only [Fr.ev, Fr.get, nth, Go.V.look]; simp [h5]) (fun h => by cases h) (fun _ => ?_)
       try refine qy ?_
       repeat refine qq ?_
       try generalize hK : SeqQ _ _ _ _ = K
       refine EvC.reg ?_
       refine qg ?_
       refine qm ?_
       refine EvO.nil ?_
       try subst hK
       try refine qy ?_
       repeat refine qq ?_
       refine qc (fun h6 => ?_) (fun h6 => ?_) <;> try simp only [cs] at h6
       ·rw [if_pos h6]
        try refine qy ?_
        repeat refine qq ?_
        refine EvC.cutL 4 (.bool (decide (((pc + 1 : Nat) : Int) < p.code.length) && (i.x == 0))) [] ?_ (fun ff tmp => ?_)
        ·refine qm ?_
         refine qm ?_
         refine EvO.two 88 rfl (fun hg1 => ?_) (fun hg1 => ?_)
         ·refine qp (o := 1) ?_ (hg := wi hg1)
          refine ql hH at0 ?_ (hg := wi hg1)
          refine qg ?_ (hg := wi hg1)
          refine qt hg1 ?_
          refine qm ?_
          refine EvO.nil (leafL ?_)
          try dsimp only [setW, List.foldl, nth, u2, u1]
          try dsimp only [Fr.putO, Fr.put, Fr.clean, Fr.ev, Fr.get, nth, Go.V.look, u1, u2, v1, v2, v3, v4, v5, v6, v7, List.length, u3, u4, Nat.reduceSub, Nat.reduceAdd, List.map]
          all_goals (simp [hg1]; done)
         ·refine qs ?_ (hg := wn hg1)
          refine qs ?_ (hg := wn hg1)
          refine qs ?_ (hg := wn hg1)
          refine qu hg1 ?_
          refine qm ?_
          refine EvO.nil (leafL ?_)
          try dsimp only [setW, List.foldl, nth, u2, u1]
          try dsimp only [Fr.putO, Fr.put, Fr.clean, Fr.ev, Fr.get, nth, Go.V.look, u1, u2, v1, v2, v3, v4, v5, v6, v7, List.length, u3, u4, Nat.reduceSub, Nat.reduceAdd, List.map]
          all_goals (simp [hg1]; done)
        try dsimp only [setW, List.foldl, nth, u2, u1]
        try dsimp only [Fr.putO, Fr.put, Fr.clean, Fr.ev, Fr.get, nth, Go.V.look, u1, u2, v1, v2, v3, v4, v5, v6, v7, List.length, u3, u4, Nat.reduceSub, Nat.reduceAdd, List.map]
        try refine qy ?_
        refine EvC.ret ⟨fun i h => (by cases h), _, rfl, leave_ro (by simp) hSb hH (rfl)⟩
       ·rw [if_neg h6]
        try refine qy ?_
        repeat refine qq ?_
        try generalize hK : SeqQ _ _ _ _ = K
        refine EvC.reg ?_
        refine qg ?_
        refine qm ?_
        refine EvO.nil ?_
        try subst hK
        try refine qy ?_
        repeat refine qq ?_
        refine qc (fun h7 => ?_) (fun h7 => ?_) <;> try simp only [cs] at h7
        ·rw [if_pos h7]
         try refine qy ?_
         repeat refine qq ?_
         try generalize hK : SeqQ _ _ _ _ = K
         refine EvC.reg ?_
         refine qp (o := 1) ?_
         refine ql hH at0 ?_
         refine qp (o := 1) ?_
         refine ql hH at1 ?_
         refine qn ?_
         try simp only [List.length_map, List.length_append, List.length_cons, List.length_nil, List.length_set, List.length_replicate, List.length_reverse]
         refine EvO.hcall rfl rfl (within_ev _ _) (put_T rfl _) ?_
         refine qm ?_
         refine EvO.nil ?_
         try subst hK
         try refine qy ?_
         refine EvC.ret ⟨fun i h => (by cases h), _, rfl, leave_ro (by simp) hSb hH (rfl)⟩
        ·rw [if_neg h7]
         refine EvC.skip ?_
         try refine qy ?_
         repeat refine qq ?_
         try generalize hK : SeqQ _ _ _ _ = K
         refine EvC.reg ?_
         refine qm ?_
         refine EvO.nil ?_
         try subst hK
         try refine qy ?_
         refine EvC.ret ⟨fun i h => (by cases h), _, rfl, leave_ro (by simp) hSb hH (rfl)⟩
end Go.Proofs.Ytbdilgkfnacahaa
