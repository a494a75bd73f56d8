/-
  Programs as they are looked at: one instruction.
-/
import Derived.Test.YtbdilgkfnacahaaJe
namespace Go.Proofs.Ytbdilgkfnacahaa
open Go.V Go
set_option maxRecDepth 100000
set_option maxHeartbeats 4000000
set_option linter.unusedSimpArgs false
set_option linter.unusedVariables false

/-- an instruction, its ranges as they are handed over -/
structure PIns where
  op : Int
  x : Int
  y : Int
  rd : D
  rs : List Rg
def insC (i : PIns) : List D := [.int .i64 i.op, .int .i64 i.x, .int .i64 i.y, i.rd]
def PIns.ok (i : PIns) : Prop := SlD i.rd 2 (i.rs.map rangeC) ∧ i.rs.length ≤ 1048576
def intC (n : Int) : List D := [.int .i64 n]

/-- a program -/
structure Pg where
  cd : D
  code : List PIns
  sd : D
  starts : List Int
structure Pg.ok (p : Pg) : Prop where
  c : SlD p.cd 4 (p.code.map insC)
  s : SlD p.sd 1 (p.starts.map intC)
  i : ∀ x ∈ p.code, x.ok
  cl : p.code.length ≤ 1048576
  sl : p.starts.length ≤ 1048576
def Pg.cs (p : Pg) : List D := [p.cd, p.sd]
def Pg.d (p : Pg) : D := .agg p.cs

theorem ins_get {l : List PIns} {i : Nat} {q : PIns} (h : l[i]? = some q) : (l.map insC)[i]? = some (insC q) := by rw [List.getElem?_map, h]; rfl
theorem int_get {l : List Int} {i : Nat} {q : Int} (h : l[i]? = some q) : (l.map intC)[i]? = some (intC q) := by rw [List.getElem?_map, h]; rfl

/-- is it the number of one of so many? -/
def inS (v n : Int) : Bool := decide (v ≥ 0) && decide (v < n)

/-- may an instruction stand there? -/
noncomputable def shapedS (n ns pc : Nat) (i : PIns) : Bool :=
  if i.op = 1 then i.y == 0 && (decide (((pc + 1 : Nat) : Int) < n) && i.x == 0 && rightS i.rs)
  else i.rs.isEmpty &&
    (if i.op = 2 then inS i.x n && inS i.y n
     else i.y == 0 &&
      (if i.op = 3 then inS i.x n
       else if i.op = 4 then decide (((pc + 1 : Nat) : Int) < n) && inS i.x 10
       else if i.op = 5 ∨ i.op = 6 then decide (((pc + 1 : Nat) : Int) < n) && i.x == 0
       else if i.op = 7 then inS i.x ns
       else false))

theorem within_ev {s0 : St} (v n : Int) : Ev pv 50 [.int .i64 v, .int .i64 n] s0 (.bool (inS v n)) s0 := by
  refine Ev.mk1 rfl fi50 rfl rfl rfl ?_
  dsimp only [List.cons_append, List.nil_append, List.length, Nat.reduceSub, Nat.reduceAdd, List.replicate_succ, List.replicate_zero]
  have hSb : (enterSt .ro s0).bs = s0.bs := rfl
  have hF : (enterSt .ro s0).flr ≤ s0.bs.length := Nat.le_refl _
  have hH : Has s0.bs.length (enterSt .ro s0) (enterSt .ro s0) [] := Has.start (Nat.le_refl _) (Nat.le_refl _)
  generalize enterSt .ro s0 = S at *
  try change EvC _ _ _ _ _ _
  repeat refine EvC.seq ?_
  try generalize hK : SeqQ _ _ _ _ = K
  refine EvC.reg ?_
  refine EvO.mv (.inr rfl) rfl (ev rfl) (by dsimp only [Fr.put, List.set_cons_succ, List.set_cons_zero] <;> rfl) ?_
  refine EvO.nil ?_
  try subst hK
  try change EvC _ _ _ _ _ _
  try change EvC _ _ _ _ _ _
  repeat refine EvC.seq ?_
  refine EvC.cutL 4 (.bool (decide (v ≥ 0) && decide (v < n))) [] ?_ (fun ff tmp => ?_)
  · refine EvO.mv (.inl rfl) rfl (ev rfl) (put_T rfl _) ?_
    refine EvO.go rfl rfl rfl (put_T rfl _) ?_
    refine EvO.mv (.inl rfl) rfl (ev rfl) (put_T rfl _) ?_
    refine EvO.two 7 rfl (fun hg2 => ?_) (fun hg2 => ?_)
    · refine EvO.mv (.inl rfl) (wantD_is rfl rfl rfl hg2) (ev rfl) (put_T rfl _) ?_
      refine EvO.mv (.inl rfl) (wantD_is rfl rfl rfl hg2) (ev rfl) (put_T rfl _) ?_
      refine EvO.go (wantD_is rfl rfl rfl hg2) rfl rfl (put_T rfl _) ?_
      refine EvO.pickT rfl rfl hg2 (put_T rfl _) ?_
      refine EvO.mv (.inr rfl) rfl (ev rfl) (by dsimp only [Fr.put, List.set_cons_succ, List.set_cons_zero] <;> rfl) ?_
      refine EvO.nil (leafL ?_)
      try dsimp only [setW, List.foldl_cons, List.foldl_nil, nth, List.set_cons_zero, List.set_cons_succ]
      try dsimp only [Fr.putO, Fr.put, Fr.clean, Fr.ev, Fr.get, nth, Go.V.look, List.set_cons_succ, List.set_cons_zero, ofVal_int, ofVal_bool, ofVal_str, ofVal_nul, ofVal_pnil, ofVal_nilfn, ofVal_nilif, List.length, List.cons_append, List.nil_append, List.append_nil, Nat.reduceSub, Nat.reduceAdd, List.map, List.map_cons, List.map_nil]
      all_goals (simp [hg2]; done)
    · refine EvO.skip (wantD_not rfl rfl rfl hg2) (put_T rfl _) ?_
      refine EvO.skip (wantD_not rfl rfl rfl hg2) (put_T rfl _) ?_
      refine EvO.skip (wantD_not rfl rfl rfl hg2) (put_T rfl _) ?_
      refine EvO.pickF rfl rfl hg2 (put_T rfl _) ?_
      refine EvO.mv (.inr rfl) rfl (ev rfl) (by dsimp only [Fr.put, List.set_cons_succ, List.set_cons_zero] <;> rfl) ?_
      refine EvO.nil (leafL ?_)
      try dsimp only [setW, List.foldl_cons, List.foldl_nil, nth, List.set_cons_zero, List.set_cons_succ]
      try dsimp only [Fr.putO, Fr.put, Fr.clean, Fr.ev, Fr.get, nth, Go.V.look, List.set_cons_succ, List.set_cons_zero, ofVal_int, ofVal_bool, ofVal_str, ofVal_nul, ofVal_pnil, ofVal_nilfn, ofVal_nilif, List.length, List.cons_append, List.nil_append, List.append_nil, Nat.reduceSub, Nat.reduceAdd, List.map, List.map_cons, List.map_nil]
      all_goals (simp [hg2]; done)
  try dsimp only [setW, List.foldl_cons, List.foldl_nil, nth, List.set_cons_zero, List.set_cons_succ]
  try dsimp only [Fr.putO, Fr.put, Fr.clean, Fr.ev, Fr.get, nth, Go.V.look, List.set_cons_succ, List.set_cons_zero, ofVal_int, ofVal_bool, ofVal_str, ofVal_nul, ofVal_pnil, ofVal_nilfn, ofVal_nilif, List.length, List.cons_append, List.nil_append, List.append_nil, Nat.reduceSub, Nat.reduceAdd, List.map, List.map_cons, List.map_nil]
  try change EvC _ _ _ _ _ _
  refine EvC.ret ⟨fun i h => (by cases h), _, rfl, leave_ro (by simp) hSb hH (rfl)⟩

theorem shaped_ev {s0 : St} {p : Pg} {pc : Nat} {i : PIns} (hp : p.ok) (hi : p.code[pc]? = some i) : Ev pv 49 [p.d, .int .i64 (pc : Nat)] s0 (.bool (shapedS p.code.length p.starts.length pc i)) s0 := by
  refine Ev.mk1 rfl fi49 rfl rfl rfl ?_
  dsimp only [List.cons_append, List.nil_append, List.length, Nat.reduceSub, Nat.reduceAdd, List.replicate_succ, List.replicate_zero]
  have hSb : (enterSt .ro s0).bs = s0.bs := rfl
  have hF : (enterSt .ro s0).flr ≤ s0.bs.length := Nat.le_refl _
  have hH : Has s0.bs.length (enterSt .ro s0) (enterSt .ro s0) [] := Has.start (Nat.le_refl _) (Nat.le_refl _)
  generalize enterSt .ro s0 = S at *
  have hc := hp.c.arg s0.bs.length S
  have hs := hp.s.arg s0.bs.length S
  have hio := hp.i i (List.mem_of_getElem? hi)
  have hir := hio.1.arg s0.bs.length S
  have hil := hio.2
  have hcl := hp.cl
  have hsl := hp.sl
  have hr := ins_get hi
  have hlt := lt_get hi
  unfold Pg.d
  try change EvC _ _ _ _ _ _
  repeat refine EvC.seq ?_
  try generalize hK : SeqQ _ _ _ _ = K
  refine EvC.reg ?_
  refine EvO.hbox hH rfl rfl (fun _ => by dsimp only [Fr.put, List.set_cons_succ, List.set_cons_zero] <;> rfl) (fun k2 st hk2 hH => ?_)
  try dsimp only [List.set_cons_zero, List.set_cons_succ, List.cons_append, List.nil_append, setMany, List.map_cons, List.map_nil, D.cells, Nat.reduceAdd, List.nil_append, Pg.cs, insC, intC] at hH
  refine EvO.mv (.inr rfl) rfl (ev rfl) (by dsimp only [Fr.put, List.set_cons_succ, List.set_cons_zero] <;> rfl) ?_
  refine EvO.nil ?_
  try subst hK
  try change EvC _ _ _ _ _ _
  try change EvC _ _ _ _ _ _
  repeat refine EvC.seq ?_
  try generalize hK : SeqQ _ _ _ _ = K
  refine EvC.reg ?_
  refine EvO.pfield (fo := 0) (m := 0) (o := 0) rfl (ev rfl) rfl rfl rfl (by dsimp only [Fr.put, List.set_cons_succ, List.set_cons_zero] <;> rfl) ?_
  refine EvO.hload hH rfl (ev rfl) (by exact at0) rfl (by dsimp only [Fr.put, List.set_cons_succ, List.set_cons_zero] <;> rfl) ?_
  refine EvO.mv (.inl rfl) rfl (ev rfl) (by dsimp only [Fr.put, List.set_cons_succ, List.set_cons_zero] <;> rfl) ?_
  refine EvO.ridx rfl (ev rfl) (ev rfl) (Arg.rows (by assumption) hH) rfl rfl (by assumption) (fun _ => by dsimp only [Fr.put, List.set_cons_succ, List.set_cons_zero] <;> rfl) (fun p10 hp10 => ?_)
  refine EvO.rloadS rfl (ev rfl) (by assumption) rfl (by dsimp only [Fr.put, List.set_cons_succ, List.set_cons_zero] <;> rfl) ?_
  refine EvO.halloc hH rfl rfl (fun _ => by dsimp only [Fr.put, List.set_cons_succ, List.set_cons_zero] <;> rfl) (fun k5 st hk5 hH => ?_)
  try dsimp only [List.set_cons_zero, List.set_cons_succ, List.cons_append, List.nil_append, setMany, List.map_cons, List.map_nil, D.cells, Nat.reduceAdd, List.nil_append, Pg.cs, insC, intC] at hH
  refine EvO.hstoreA hH rfl (ev rfl) (ev rfl) (by rfl) (by exact rfl) (by exact at0) (by exact rfl) (by exact .inl hF) (fun st hH => ?_)
  try dsimp only [List.set_cons_zero, List.set_cons_succ, List.cons_append, List.nil_append, setMany, List.map_cons, List.map_nil, D.cells, Nat.reduceAdd, List.nil_append, Pg.cs, insC, intC] at hH
  refine EvO.nil ?_
  try subst hK
  try change EvC _ _ _ _ _ _
  try change EvC _ _ _ _ _ _
  repeat refine EvC.seq ?_
  try generalize hK : SeqQ _ _ _ _ = K
  refine EvC.reg ?_
  refine EvO.mv (.inl rfl) rfl (ev rfl) (by dsimp only [Fr.put, List.set_cons_succ, List.set_cons_zero] <;> rfl) ?_
  refine EvO.addS64 rfl (ev rfl) (ev rfl) (by omega) (by omega) (by dsimp only [Fr.put, List.set_cons_succ, List.set_cons_zero] <;> rfl) ?_
  refine EvO.pfield (fo := 0) (m := 0) (o := 0) rfl (ev rfl) rfl rfl rfl (by dsimp only [Fr.put, List.set_cons_succ, List.set_cons_zero] <;> rfl) ?_
  refine EvO.hload hH rfl (ev rfl) (by exact at1) rfl (by dsimp only [Fr.put, List.set_cons_succ, List.set_cons_zero] <;> rfl) ?_
  refine EvO.rlen rfl (ev rfl) (Arg.rows (by assumption) hH) rfl (by dsimp only [Fr.put, List.set_cons_succ, List.set_cons_zero] <;> rfl) ?_
  try simp only [List.length_map, List.length_append, List.length_cons, List.length_nil, List.length_set, List.length_replicate, List.length_reverse]
  refine EvO.go rfl rfl rfl (by dsimp only [Fr.put, List.set_cons_succ, List.set_cons_zero] <;> rfl) ?_
  refine EvO.mv (.inr rfl) rfl (ev rfl) (by dsimp only [Fr.put, List.set_cons_succ, List.set_cons_zero] <;> rfl) ?_
  refine EvO.nil ?_
  try subst hK
  try change EvC _ _ _ _ _ _
  try change EvC _ _ _ _ _ _
  repeat refine EvC.seq ?_
  refine EvC.cutL 36 (.bool (((i.op != 1) && decide ((i.rs.length : Int) > 0)) || ((i.op != 2) && (i.y != 0)))) [18, 19, 20, 21, 22, 23, 24, 25, 26, 27, 28, 29, 30, 31, 32, 33, 34, 35] ?_ (fun ff tmp => ?_)
  · refine EvO.pfield (fo := 0) (m := 0) (o := 0) rfl (ev rfl) rfl rfl rfl (by dsimp only [Fr.put, List.set_cons_succ, List.set_cons_zero] <;> rfl) ?_
    refine EvO.hload hH rfl (ev rfl) (by exact at0) rfl (by dsimp only [Fr.put, List.set_cons_succ, List.set_cons_zero] <;> rfl) ?_
    refine EvO.go rfl rfl rfl (by dsimp only [Fr.put, List.set_cons_succ, List.set_cons_zero] <;> rfl) ?_
    refine EvO.mv (.inl rfl) rfl (ev rfl) (by dsimp only [Fr.put, List.set_cons_succ, List.set_cons_zero] <;> rfl) ?_
    refine EvO.two 21 rfl (fun hg3 => ?_) (fun hg3 => ?_)
    · refine EvO.pfield (fo := 3) (m := 0) (o := 3) (wantD_is rfl rfl rfl hg3) (ev rfl) rfl rfl rfl (by dsimp only [Fr.put, List.set_cons_succ, List.set_cons_zero] <;> rfl) ?_
      refine EvO.hload hH (wantD_is rfl rfl rfl hg3) (ev rfl) (by exact at0) rfl (by dsimp only [Fr.put, List.set_cons_succ, List.set_cons_zero] <;> rfl) ?_
      refine EvO.rlen (wantD_is rfl rfl rfl hg3) (ev rfl) (Arg.rows (by assumption) hH) rfl (by dsimp only [Fr.put, List.set_cons_succ, List.set_cons_zero] <;> rfl) ?_
      try simp only [List.length_map, List.length_append, List.length_cons, List.length_nil, List.length_set, List.length_replicate, List.length_reverse]
      refine EvO.go (wantD_is rfl rfl rfl hg3) rfl rfl (by dsimp only [Fr.put, List.set_cons_succ, List.set_cons_zero] <;> rfl) ?_
      refine EvO.pickT rfl rfl hg3 (by dsimp only [Fr.put, List.set_cons_succ, List.set_cons_zero] <;> rfl) ?_
      refine EvO.mv (.inl rfl) rfl (ev rfl) (by dsimp only [Fr.put, List.set_cons_succ, List.set_cons_zero] <;> rfl) ?_
      refine EvO.two 27 rfl (fun hg9 => ?_) (fun hg9 => ?_)
      · refine EvO.skip (wantD_not rfl rfl rfl hg9) (by dsimp only [Fr.put, List.set_cons_succ, List.set_cons_zero] <;> rfl) ?_
        refine EvO.skip (wantD_not rfl rfl rfl hg9) (by dsimp only [Fr.put, List.set_cons_succ, List.set_cons_zero] <;> rfl) ?_
        refine EvO.skip (wantD_not rfl rfl rfl hg9) (by dsimp only [Fr.put, List.set_cons_succ, List.set_cons_zero] <;> rfl) ?_
        refine EvO.skip (wantD_not rfl rfl rfl hg9) (by dsimp only [Fr.put, List.set_cons_succ, List.set_cons_zero] <;> rfl) ?_
        refine EvO.skip rfl (by dsimp only [Fr.put, List.set_cons_succ, List.set_cons_zero] <;> rfl) ?_
        refine EvO.skip rfl (by dsimp only [Fr.put, List.set_cons_succ, List.set_cons_zero] <;> rfl) ?_
        refine EvO.skip rfl (by dsimp only [Fr.put, List.set_cons_succ, List.set_cons_zero] <;> rfl) ?_
        refine EvO.skip (wantD_not rfl rfl rfl hg9) (by dsimp only [Fr.put, List.set_cons_succ, List.set_cons_zero] <;> rfl) ?_
        refine EvO.pickT rfl rfl hg9 (by dsimp only [Fr.put, List.set_cons_succ, List.set_cons_zero] <;> rfl) ?_
        refine EvO.nil (leafL ?_)
        try dsimp only [setW, List.foldl_cons, List.foldl_nil, nth, List.set_cons_zero, List.set_cons_succ]
        try dsimp only [Fr.putO, Fr.put, Fr.clean, Fr.ev, Fr.get, nth, Go.V.look, List.set_cons_succ, List.set_cons_zero, ofVal_int, ofVal_bool, ofVal_str, ofVal_nul, ofVal_pnil, ofVal_nilfn, ofVal_nilif, List.length, List.cons_append, List.nil_append, List.append_nil, Nat.reduceSub, Nat.reduceAdd, List.map, List.map_cons, List.map_nil]
        all_goals (simp_all; done)
      · refine EvO.pfield (fo := 0) (m := 0) (o := 0) (wantD_is rfl rfl rfl hg9) (ev rfl) rfl rfl rfl (by dsimp only [Fr.put, List.set_cons_succ, List.set_cons_zero] <;> rfl) ?_
        refine EvO.hload hH (wantD_is rfl rfl rfl hg9) (ev rfl) (by exact at0) rfl (by dsimp only [Fr.put, List.set_cons_succ, List.set_cons_zero] <;> rfl) ?_
        refine EvO.go (wantD_is rfl rfl rfl hg9) rfl rfl (by dsimp only [Fr.put, List.set_cons_succ, List.set_cons_zero] <;> rfl) ?_
        refine EvO.mv (.inl rfl) (wantD_is rfl rfl rfl hg9) (ev rfl) (by dsimp only [Fr.put, List.set_cons_succ, List.set_cons_zero] <;> rfl) ?_
        refine EvO.two 31 rfl (fun hg13 => ?_) (fun hg13 => ?_)
        · refine EvO.pfield (fo := 2) (m := 0) (o := 2) (wantD_is rfl rfl rfl hg13) (ev rfl) rfl rfl rfl (by dsimp only [Fr.put, List.set_cons_succ, List.set_cons_zero] <;> rfl) ?_
          refine EvO.hload hH (wantD_is rfl rfl rfl hg13) (ev rfl) (by exact at0) rfl (by dsimp only [Fr.put, List.set_cons_succ, List.set_cons_zero] <;> rfl) ?_
          refine EvO.go (wantD_is rfl rfl rfl hg13) rfl rfl (by dsimp only [Fr.put, List.set_cons_succ, List.set_cons_zero] <;> rfl) ?_
          refine EvO.pickT (wantD_is rfl rfl rfl hg9) rfl hg13 (by dsimp only [Fr.put, List.set_cons_succ, List.set_cons_zero] <;> rfl) ?_
          refine EvO.pickF rfl rfl hg9 (by dsimp only [Fr.put, List.set_cons_succ, List.set_cons_zero] <;> rfl) ?_
          refine EvO.nil (leafL ?_)
          try dsimp only [setW, List.foldl_cons, List.foldl_nil, nth, List.set_cons_zero, List.set_cons_succ]
          try dsimp only [Fr.putO, Fr.put, Fr.clean, Fr.ev, Fr.get, nth, Go.V.look, List.set_cons_succ, List.set_cons_zero, ofVal_int, ofVal_bool, ofVal_str, ofVal_nul, ofVal_pnil, ofVal_nilfn, ofVal_nilif, List.length, List.cons_append, List.nil_append, List.append_nil, Nat.reduceSub, Nat.reduceAdd, List.map, List.map_cons, List.map_nil]
          all_goals (simp_all; done)
        · refine EvO.skip (wantD_not rfl rfl rfl hg13) (by dsimp only [Fr.put, List.set_cons_succ, List.set_cons_zero] <;> rfl) ?_
          refine EvO.skip (wantD_not rfl rfl rfl hg13) (by dsimp only [Fr.put, List.set_cons_succ, List.set_cons_zero] <;> rfl) ?_
          refine EvO.skip (wantD_not rfl rfl rfl hg13) (by dsimp only [Fr.put, List.set_cons_succ, List.set_cons_zero] <;> rfl) ?_
          refine EvO.pickF (wantD_is rfl rfl rfl hg9) rfl hg13 (by dsimp only [Fr.put, List.set_cons_succ, List.set_cons_zero] <;> rfl) ?_
          refine EvO.pickF rfl rfl hg9 (by dsimp only [Fr.put, List.set_cons_succ, List.set_cons_zero] <;> rfl) ?_
          refine EvO.nil (leafL ?_)
          try dsimp only [setW, List.foldl_cons, List.foldl_nil, nth, List.set_cons_zero, List.set_cons_succ]
          try dsimp only [Fr.putO, Fr.put, Fr.clean, Fr.ev, Fr.get, nth, Go.V.look, List.set_cons_succ, List.set_cons_zero, ofVal_int, ofVal_bool, ofVal_str, ofVal_nul, ofVal_pnil, ofVal_nilfn, ofVal_nilif, List.length, List.cons_append, List.nil_append, List.append_nil, Nat.reduceSub, Nat.reduceAdd, List.map, List.map_cons, List.map_nil]
          all_goals (simp_all; done)
    · refine EvO.skip (wantD_not rfl rfl rfl hg3) (by dsimp only [Fr.put, List.set_cons_succ, List.set_cons_zero] <;> rfl) ?_
      refine EvO.skip (wantD_not rfl rfl rfl hg3) (by dsimp only [Fr.put, List.set_cons_succ, List.set_cons_zero] <;> rfl) ?_
      refine EvO.skip (wantD_not rfl rfl rfl hg3) (by dsimp only [Fr.put, List.set_cons_succ, List.set_cons_zero] <;> rfl) ?_
      refine EvO.skip (wantD_not rfl rfl rfl hg3) (by dsimp only [Fr.put, List.set_cons_succ, List.set_cons_zero] <;> rfl) ?_
      refine EvO.pickF rfl rfl hg3 (by dsimp only [Fr.put, List.set_cons_succ, List.set_cons_zero] <;> rfl) ?_
      refine EvO.mv (.inl rfl) rfl (ev rfl) (by dsimp only [Fr.put, List.set_cons_succ, List.set_cons_zero] <;> rfl) ?_
      refine EvO.pfield (fo := 0) (m := 0) (o := 0) rfl (ev rfl) rfl rfl rfl (by dsimp only [Fr.put, List.set_cons_succ, List.set_cons_zero] <;> rfl) ?_
      refine EvO.hload hH rfl (ev rfl) (by exact at0) rfl (by dsimp only [Fr.put, List.set_cons_succ, List.set_cons_zero] <;> rfl) ?_
      refine EvO.go rfl rfl rfl (by dsimp only [Fr.put, List.set_cons_succ, List.set_cons_zero] <;> rfl) ?_
      refine EvO.mv (.inl rfl) rfl (ev rfl) (by dsimp only [Fr.put, List.set_cons_succ, List.set_cons_zero] <;> rfl) ?_
      refine EvO.two 31 rfl (fun hg13 => ?_) (fun hg13 => ?_)
      · refine EvO.pfield (fo := 2) (m := 0) (o := 2) (wantD_is rfl rfl rfl hg13) (ev rfl) rfl rfl rfl (by dsimp only [Fr.put, List.set_cons_succ, List.set_cons_zero] <;> rfl) ?_
        refine EvO.hload hH (wantD_is rfl rfl rfl hg13) (ev rfl) (by exact at0) rfl (by dsimp only [Fr.put, List.set_cons_succ, List.set_cons_zero] <;> rfl) ?_
        refine EvO.go (wantD_is rfl rfl rfl hg13) rfl rfl (by dsimp only [Fr.put, List.set_cons_succ, List.set_cons_zero] <;> rfl) ?_
        refine EvO.pickT rfl rfl hg13 (by dsimp only [Fr.put, List.set_cons_succ, List.set_cons_zero] <;> rfl) ?_
        refine EvO.go rfl rfl rfl (by dsimp only [Fr.put, List.set_cons_succ, List.set_cons_zero] <;> rfl) ?_
        refine EvO.nil (leafL ?_)
        try dsimp only [setW, List.foldl_cons, List.foldl_nil, nth, List.set_cons_zero, List.set_cons_succ]
        try dsimp only [Fr.putO, Fr.put, Fr.clean, Fr.ev, Fr.get, nth, Go.V.look, List.set_cons_succ, List.set_cons_zero, ofVal_int, ofVal_bool, ofVal_str, ofVal_nul, ofVal_pnil, ofVal_nilfn, ofVal_nilif, List.length, List.cons_append, List.nil_append, List.append_nil, Nat.reduceSub, Nat.reduceAdd, List.map, List.map_cons, List.map_nil]
        all_goals (simp [hg3, hg13]; done)
      · refine EvO.skip (wantD_not rfl rfl rfl hg13) (by dsimp only [Fr.put, List.set_cons_succ, List.set_cons_zero] <;> rfl) ?_
        refine EvO.skip (wantD_not rfl rfl rfl hg13) (by dsimp only [Fr.put, List.set_cons_succ, List.set_cons_zero] <;> rfl) ?_
        refine EvO.skip (wantD_not rfl rfl rfl hg13) (by dsimp only [Fr.put, List.set_cons_succ, List.set_cons_zero] <;> rfl) ?_
        refine EvO.pickF rfl rfl hg13 (by dsimp only [Fr.put, List.set_cons_succ, List.set_cons_zero] <;> rfl) ?_
        refine EvO.go rfl rfl rfl (by dsimp only [Fr.put, List.set_cons_succ, List.set_cons_zero] <;> rfl) ?_
        refine EvO.nil (leafL ?_)
        try dsimp only [setW, List.foldl_cons, List.foldl_nil, nth, List.set_cons_zero, List.set_cons_succ]
        try dsimp only [Fr.putO, Fr.put, Fr.clean, Fr.ev, Fr.get, nth, Go.V.look, List.set_cons_succ, List.set_cons_zero, ofVal_int, ofVal_bool, ofVal_str, ofVal_nul, ofVal_pnil, ofVal_nilfn, ofVal_nilif, List.length, List.cons_append, List.nil_append, List.append_nil, Nat.reduceSub, Nat.reduceAdd, List.map, List.map_cons, List.map_nil]
        all_goals (simp [hg3, hg13]; done)
  try dsimp only [setW, List.foldl_cons, List.foldl_nil, nth, List.set_cons_zero, List.set_cons_succ]
  generalize ff 18 = e18
  generalize ff 19 = e19
  generalize ff 20 = e20
  generalize ff 21 = e21
  generalize ff 22 = e22
  generalize ff 23 = e23
  generalize ff 24 = e24
  generalize ff 25 = e25
  generalize ff 26 = e26
  generalize ff 27 = e27
  generalize ff 28 = e28
  generalize ff 29 = e29
  generalize ff 30 = e30
  generalize ff 31 = e31
  generalize ff 32 = e32
  generalize ff 33 = e33
  generalize ff 34 = e34
  generalize ff 35 = e35
  try dsimp only [Fr.putO, Fr.put, Fr.clean, Fr.ev, Fr.get, nth, Go.V.look, List.set_cons_succ, List.set_cons_zero, ofVal_int, ofVal_bool, ofVal_str, ofVal_nul, ofVal_pnil, ofVal_nilfn, ofVal_nilif, List.length, List.cons_append, List.nil_append, List.append_nil, Nat.reduceSub, Nat.reduceAdd, List.map, List.map_cons, List.map_nil]
  try change EvC _ _ _ _ _ _
  have hlen0 : (i.rs.isEmpty = !decide ((i.rs.length : Int) > 0)) := by cases i.rs <;> simp <;> omega
  have hsh : shapedS p.code.length p.starts.length pc i = if ((i.op != 1) && decide ((i.rs.length : Int) > 0)) || ((i.op != 2) && (i.y != 0)) then false else
      (if i.op = 1 then (decide (((pc + 1 : Nat) : Int) < p.code.length) && i.x == 0) && rightS i.rs
       else if i.op = 2 then inS i.x p.code.length && inS i.y p.code.length
       else if i.op = 3 then inS i.x p.code.length
       else if i.op = 4 then decide (((pc + 1 : Nat) : Int) < p.code.length) && inS i.x 10
       else if i.op = 5 then decide (((pc + 1 : Nat) : Int) < p.code.length) && i.x == 0
       else if i.op = 6 then decide (((pc + 1 : Nat) : Int) < p.code.length) && i.x == 0
       else if i.op = 7 then inS i.x p.starts.length
       else false) := by
    unfold shapedS
    rw [hlen0]
    generalize decide ((i.rs.length : Int) > 0) = b
    by_cases h1 : i.op = 1
    · have h2 : i.op ≠ 2 := by omega
      simp only [h1]; cases b <;> by_cases hy : i.y = 0 <;> simp [hy]
    · by_cases h2 : i.op = 2
      · simp only [h2]; cases b <;> simp
      · by_cases h56 : i.op = 5
        · simp only [h56]; cases b <;> by_cases hy : i.y = 0 <;> simp [hy]
        · cases b <;> by_cases hy : i.y = 0 <;> simp [h1, h2, h56, hy]
  rw [hsh]
  try change EvC _ _ _ _ _ _
  repeat refine EvC.seq ?_
  refine EvC.cond (by rfl) (fun h0 => ?_) (fun h0 => ?_) <;> try simp only [decide_eq_true_eq, decide_eq_false_iff_not, beq_iff_eq, beq_eq_false_iff_ne, bne_iff_ne, bne_eq_false_iff_eq, ne_eq, Bool.not_eq_true', Bool.not_eq_false', Bool.not_eq_true, Bool.not_eq_false] at h0
  · try change EvC _ _ _ _ _ _
    repeat refine EvC.seq ?_
    try generalize hK : SeqQ _ _ _ _ = K
    refine EvC.reg ?_
    refine EvO.mv (.inr rfl) rfl (ev rfl) (by dsimp only [Fr.put, List.set_cons_succ, List.set_cons_zero] <;> rfl) ?_
    refine EvO.nil ?_
    try subst hK
    try change EvC _ _ _ _ _ _
    rw [if_pos h0]
    refine EvC.ret ⟨fun i h => (by cases h), _, rfl, leave_ro (by simp) hSb hH (rfl)⟩
  · rw [if_neg (by rw [h0]; simp)]
    refine EvC.skip ?_
    try change EvC _ _ _ _ _ _
    try change EvC _ _ _ _ _ _
    repeat refine EvC.seq ?_
    try generalize hK : SeqQ _ _ _ _ = K
    refine EvC.reg ?_
    refine EvO.pfield (fo := 0) (m := 0) (o := 0) rfl (ev rfl) rfl rfl rfl (by dsimp only [Fr.put, List.set_cons_succ, List.set_cons_zero] <;> rfl) ?_
    refine EvO.hload hH rfl (ev rfl) (by exact at0) rfl (by dsimp only [Fr.put, List.set_cons_succ, List.set_cons_zero] <;> rfl) ?_
    refine EvO.nil ?_
    try subst hK
    try change EvC _ _ _ _ _ _
    try change EvC _ _ _ _ _ _
    repeat refine EvC.seq ?_
    refine EvC.block ?_
    try change EvC _ _ _ _ _ _
    repeat refine EvC.seq ?_
    try generalize hK : SeqQ _ _ _ _ = K
    refine EvC.reg ?_
    refine EvO.go rfl rfl rfl (put_T rfl _) ?_
    refine EvO.mv (.inr rfl) rfl (ev rfl) (put_T rfl _) ?_
    refine EvO.nil ?_
    try subst hK
    try change EvC _ _ _ _ _ _
    try change EvC _ _ _ _ _ _
    repeat refine EvC.seq ?_
    refine EvC.cond (by rfl) (fun h1 => ?_) (fun h1 => ?_) <;> try simp only [decide_eq_true_eq, decide_eq_false_iff_not, beq_iff_eq, beq_eq_false_iff_ne, bne_iff_ne, bne_eq_false_iff_eq, ne_eq, Bool.not_eq_true', Bool.not_eq_false', Bool.not_eq_true, Bool.not_eq_false] at h1
    · rw [if_pos h1]
      try change EvC _ _ _ _ _ _
      repeat refine EvC.seq ?_
      refine EvC.cutL 4 (.bool ((decide (((pc + 1 : Nat) : Int) < p.code.length) && (i.x == 0)) && rightS i.rs)) [] ?_ (fun ff tmp => ?_)
      · refine EvO.mv (.inl rfl) rfl (ev rfl) (put_T rfl _) ?_
        refine EvO.mv (.inl rfl) rfl (ev rfl) (put_T rfl _) ?_
        refine EvO.two 42 rfl (fun hg1 => ?_) (fun hg1 => ?_)
        · refine EvO.pfield (fo := 1) (m := 0) (o := 1) (wantD_is rfl rfl rfl hg1) (ev rfl) rfl rfl rfl (put_T rfl _) ?_
          refine EvO.hload hH (wantD_is rfl rfl rfl hg1) (ev rfl) (by exact at0) rfl (put_T rfl _) ?_
          refine EvO.go (wantD_is rfl rfl rfl hg1) rfl rfl (put_T rfl _) ?_
          refine EvO.pickT rfl rfl hg1 (put_T rfl _) ?_
          refine EvO.mv (.inl rfl) rfl (ev rfl) (put_T rfl _) ?_
          refine EvO.two 47 rfl (fun hg6 => ?_) (fun hg6 => ?_)
          · refine EvO.pfield (fo := 3) (m := 0) (o := 3) (wantD_is rfl rfl rfl hg6) (ev rfl) rfl rfl rfl (put_T rfl _) ?_
            refine EvO.hload hH (wantD_is rfl rfl rfl hg6) (ev rfl) (by exact at0) rfl (put_T rfl _) ?_
            refine EvO.hcall (wantD_is rfl rfl rfl hg6) rfl (right_ev (hir.rows hH) hil) (put_T rfl _) ?_
            refine EvO.pickT rfl rfl hg6 (put_T rfl _) ?_
            refine EvO.mv (.inr rfl) rfl (ev rfl) (by dsimp only [Fr.put, List.set_cons_succ, List.set_cons_zero] <;> rfl) ?_
            refine EvO.nil (leafL ?_)
            try dsimp only [setW, List.foldl_cons, List.foldl_nil, nth, List.set_cons_zero, List.set_cons_succ]
            try dsimp only [Fr.putO, Fr.put, Fr.clean, Fr.ev, Fr.get, nth, Go.V.look, List.set_cons_succ, List.set_cons_zero, ofVal_int, ofVal_bool, ofVal_str, ofVal_nul, ofVal_pnil, ofVal_nilfn, ofVal_nilif, List.length, List.cons_append, List.nil_append, List.append_nil, Nat.reduceSub, Nat.reduceAdd, List.map, List.map_cons, List.map_nil]
            all_goals (simp [hg1, hg6]; done)
          · refine EvO.skip (wantD_not rfl rfl rfl hg6) (put_T rfl _) ?_
            refine EvO.skip (wantD_not rfl rfl rfl hg6) (put_T rfl _) ?_
            refine EvO.skip (wantD_not rfl rfl rfl hg6) (put_T rfl _) ?_
            refine EvO.pickF rfl rfl hg6 (put_T rfl _) ?_
            refine EvO.mv (.inr rfl) rfl (ev rfl) (by dsimp only [Fr.put, List.set_cons_succ, List.set_cons_zero] <;> rfl) ?_
            refine EvO.nil (leafL ?_)
            try dsimp only [setW, List.foldl_cons, List.foldl_nil, nth, List.set_cons_zero, List.set_cons_succ]
            try dsimp only [Fr.putO, Fr.put, Fr.clean, Fr.ev, Fr.get, nth, Go.V.look, List.set_cons_succ, List.set_cons_zero, ofVal_int, ofVal_bool, ofVal_str, ofVal_nul, ofVal_pnil, ofVal_nilfn, ofVal_nilif, List.length, List.cons_append, List.nil_append, List.append_nil, Nat.reduceSub, Nat.reduceAdd, List.map, List.map_cons, List.map_nil]
            all_goals (simp [hg1, hg6]; done)
        · refine EvO.skip (wantD_not rfl rfl rfl hg1) (put_T rfl _) ?_
          refine EvO.skip (wantD_not rfl rfl rfl hg1) (put_T rfl _) ?_
          refine EvO.skip (wantD_not rfl rfl rfl hg1) (put_T rfl _) ?_
          refine EvO.pickF rfl rfl hg1 (put_T rfl _) ?_
          refine EvO.mv (.inl rfl) rfl (ev rfl) (put_T rfl _) ?_
          refine EvO.skip rfl (put_T rfl _) ?_
          refine EvO.skip rfl (put_T rfl _) ?_
          refine EvO.skip rfl (put_T rfl _) ?_
          refine EvO.go rfl rfl rfl (put_T rfl _) ?_
          refine EvO.mv (.inr rfl) rfl (ev rfl) (by dsimp only [Fr.put, List.set_cons_succ, List.set_cons_zero] <;> rfl) ?_
          refine EvO.nil (leafL ?_)
          try dsimp only [setW, List.foldl_cons, List.foldl_nil, nth, List.set_cons_zero, List.set_cons_succ]
          try dsimp only [Fr.putO, Fr.put, Fr.clean, Fr.ev, Fr.get, nth, Go.V.look, List.set_cons_succ, List.set_cons_zero, ofVal_int, ofVal_bool, ofVal_str, ofVal_nul, ofVal_pnil, ofVal_nilfn, ofVal_nilif, List.length, List.cons_append, List.nil_append, List.append_nil, Nat.reduceSub, Nat.reduceAdd, List.map, List.map_cons, List.map_nil]
          all_goals (simp [hg1]; done)
      try dsimp only [setW, List.foldl_cons, List.foldl_nil, nth, List.set_cons_zero, List.set_cons_succ]
      try dsimp only [Fr.putO, Fr.put, Fr.clean, Fr.ev, Fr.get, nth, Go.V.look, List.set_cons_succ, List.set_cons_zero, ofVal_int, ofVal_bool, ofVal_str, ofVal_nul, ofVal_pnil, ofVal_nilfn, ofVal_nilif, List.length, List.cons_append, List.nil_append, List.append_nil, Nat.reduceSub, Nat.reduceAdd, List.map, List.map_cons, List.map_nil]
      try change EvC _ _ _ _ _ _
      refine EvC.ret ⟨fun i h => (by cases h), _, rfl, leave_ro (by simp) hSb hH (rfl)⟩
    · rw [if_neg h1]
      try change EvC _ _ _ _ _ _
      repeat refine EvC.seq ?_
      try generalize hK : SeqQ _ _ _ _ = K
      refine EvC.reg ?_
      refine EvO.go rfl rfl rfl (put_T rfl _) ?_
      refine EvO.mv (.inr rfl) rfl (ev rfl) (put_T rfl _) ?_
      refine EvO.nil ?_
      try subst hK
      try change EvC _ _ _ _ _ _
      try change EvC _ _ _ _ _ _
      repeat refine EvC.seq ?_
      refine EvC.cond (by rfl) (fun h2 => ?_) (fun h2 => ?_) <;> try simp only [decide_eq_true_eq, decide_eq_false_iff_not, beq_iff_eq, beq_eq_false_iff_ne, bne_iff_ne, bne_eq_false_iff_eq, ne_eq, Bool.not_eq_true', Bool.not_eq_false', Bool.not_eq_true, Bool.not_eq_false] at h2
      · rw [if_pos h2]
        try change EvC _ _ _ _ _ _
        repeat refine EvC.seq ?_
        refine EvC.cutL 4 (.bool (inS i.x p.code.length && inS i.y p.code.length)) [] ?_ (fun ff tmp => ?_)
        · refine EvO.pfield (fo := 1) (m := 0) (o := 1) rfl (ev rfl) rfl rfl rfl (put_T rfl _) ?_
          refine EvO.hload hH rfl (ev rfl) (by exact at0) rfl (put_T rfl _) ?_
          refine EvO.pfield (fo := 0) (m := 0) (o := 0) rfl (ev rfl) rfl rfl rfl (put_T rfl _) ?_
          refine EvO.hload hH rfl (ev rfl) (by exact at1) rfl (put_T rfl _) ?_
          refine EvO.rlen rfl (ev rfl) (Arg.rows (by assumption) hH) rfl (put_T rfl _) ?_
          try simp only [List.length_map, List.length_append, List.length_cons, List.length_nil, List.length_set, List.length_replicate, List.length_reverse]
          refine EvO.hcall rfl rfl (within_ev _ _) (put_T rfl _) ?_
          refine EvO.mv (.inl rfl) rfl (ev rfl) (put_T rfl _) ?_
          refine EvO.two 60 rfl (fun hg6 => ?_) (fun hg6 => ?_)
          · refine EvO.pfield (fo := 2) (m := 0) (o := 2) (wantD_is rfl rfl rfl hg6) (ev rfl) rfl rfl rfl (put_T rfl _) ?_
            refine EvO.hload hH (wantD_is rfl rfl rfl hg6) (ev rfl) (by exact at0) rfl (put_T rfl _) ?_
            refine EvO.pfield (fo := 0) (m := 0) (o := 0) (wantD_is rfl rfl rfl hg6) (ev rfl) rfl rfl rfl (put_T rfl _) ?_
            refine EvO.hload hH (wantD_is rfl rfl rfl hg6) (ev rfl) (by exact at1) rfl (put_T rfl _) ?_
            refine EvO.rlen (wantD_is rfl rfl rfl hg6) (ev rfl) (Arg.rows (by assumption) hH) rfl (put_T rfl _) ?_
            try simp only [List.length_map, List.length_append, List.length_cons, List.length_nil, List.length_set, List.length_replicate, List.length_reverse]
            refine EvO.hcall (wantD_is rfl rfl rfl hg6) rfl (within_ev _ _) (put_T rfl _) ?_
            refine EvO.pickT rfl rfl hg6 (put_T rfl _) ?_
            refine EvO.mv (.inr rfl) rfl (ev rfl) (by dsimp only [Fr.put, List.set_cons_succ, List.set_cons_zero] <;> rfl) ?_
            refine EvO.nil (leafL ?_)
            try dsimp only [setW, List.foldl_cons, List.foldl_nil, nth, List.set_cons_zero, List.set_cons_succ]
            try dsimp only [Fr.putO, Fr.put, Fr.clean, Fr.ev, Fr.get, nth, Go.V.look, List.set_cons_succ, List.set_cons_zero, ofVal_int, ofVal_bool, ofVal_str, ofVal_nul, ofVal_pnil, ofVal_nilfn, ofVal_nilif, List.length, List.cons_append, List.nil_append, List.append_nil, Nat.reduceSub, Nat.reduceAdd, List.map, List.map_cons, List.map_nil]
            all_goals (simp [hg6]; done)
          · refine EvO.skip (wantD_not rfl rfl rfl hg6) (put_T rfl _) ?_
            refine EvO.skip (wantD_not rfl rfl rfl hg6) (put_T rfl _) ?_
            refine EvO.skip (wantD_not rfl rfl rfl hg6) (put_T rfl _) ?_
            refine EvO.skip (wantD_not rfl rfl rfl hg6) (put_T rfl _) ?_
            refine EvO.skip (wantD_not rfl rfl rfl hg6) (put_T rfl _) ?_
            refine EvO.skip (wantD_not rfl rfl rfl hg6) (put_T rfl _) ?_
            refine EvO.pickF rfl rfl hg6 (put_T rfl _) ?_
            refine EvO.mv (.inr rfl) rfl (ev rfl) (by dsimp only [Fr.put, List.set_cons_succ, List.set_cons_zero] <;> rfl) ?_
            refine EvO.nil (leafL ?_)
            try dsimp only [setW, List.foldl_cons, List.foldl_nil, nth, List.set_cons_zero, List.set_cons_succ]
            try dsimp only [Fr.putO, Fr.put, Fr.clean, Fr.ev, Fr.get, nth, Go.V.look, List.set_cons_succ, List.set_cons_zero, ofVal_int, ofVal_bool, ofVal_str, ofVal_nul, ofVal_pnil, ofVal_nilfn, ofVal_nilif, List.length, List.cons_append, List.nil_append, List.append_nil, Nat.reduceSub, Nat.reduceAdd, List.map, List.map_cons, List.map_nil]
            all_goals (simp [hg6]; done)
        try dsimp only [setW, List.foldl_cons, List.foldl_nil, nth, List.set_cons_zero, List.set_cons_succ]
        try dsimp only [Fr.putO, Fr.put, Fr.clean, Fr.ev, Fr.get, nth, Go.V.look, List.set_cons_succ, List.set_cons_zero, ofVal_int, ofVal_bool, ofVal_str, ofVal_nul, ofVal_pnil, ofVal_nilfn, ofVal_nilif, List.length, List.cons_append, List.nil_append, List.append_nil, Nat.reduceSub, Nat.reduceAdd, List.map, List.map_cons, List.map_nil]
        try change EvC _ _ _ _ _ _
        refine EvC.ret ⟨fun i h => (by cases h), _, rfl, leave_ro (by simp) hSb hH (rfl)⟩
      · rw [if_neg h2]
        try change EvC _ _ _ _ _ _
        repeat refine EvC.seq ?_
        try generalize hK : SeqQ _ _ _ _ = K
        refine EvC.reg ?_
        refine EvO.go rfl rfl rfl (put_T rfl _) ?_
        refine EvO.mv (.inr rfl) rfl (ev rfl) (put_T rfl _) ?_
        refine EvO.nil ?_
        try subst hK
        try change EvC _ _ _ _ _ _
        try change EvC _ _ _ _ _ _
        repeat refine EvC.seq ?_
        refine EvC.cond (by rfl) (fun h3 => ?_) (fun h3 => ?_) <;> try simp only [decide_eq_true_eq, decide_eq_false_iff_not, beq_iff_eq, beq_eq_false_iff_ne, bne_iff_ne, bne_eq_false_iff_eq, ne_eq, Bool.not_eq_true', Bool.not_eq_false', Bool.not_eq_true, Bool.not_eq_false] at h3
        · rw [if_pos h3]
          try change EvC _ _ _ _ _ _
          repeat refine EvC.seq ?_
          try generalize hK : SeqQ _ _ _ _ = K
          refine EvC.reg ?_
          refine EvO.pfield (fo := 1) (m := 0) (o := 1) rfl (ev rfl) rfl rfl rfl (put_T rfl _) ?_
          refine EvO.hload hH rfl (ev rfl) (by exact at0) rfl (put_T rfl _) ?_
          refine EvO.pfield (fo := 0) (m := 0) (o := 0) rfl (ev rfl) rfl rfl rfl (put_T rfl _) ?_
          refine EvO.hload hH rfl (ev rfl) (by exact at1) rfl (put_T rfl _) ?_
          refine EvO.rlen rfl (ev rfl) (Arg.rows (by assumption) hH) rfl (put_T rfl _) ?_
          try simp only [List.length_map, List.length_append, List.length_cons, List.length_nil, List.length_set, List.length_replicate, List.length_reverse]
          refine EvO.hcall rfl rfl (within_ev _ _) (put_T rfl _) ?_
          refine EvO.mv (.inr rfl) rfl (ev rfl) (by dsimp only [Fr.put, List.set_cons_succ, List.set_cons_zero] <;> rfl) ?_
          refine EvO.nil ?_
          try subst hK
          try change EvC _ _ _ _ _ _
          refine EvC.ret ⟨fun i h => (by cases h), _, rfl, leave_ro (by simp) hSb hH (rfl)⟩
        · rw [if_neg h3]
          try change EvC _ _ _ _ _ _
          repeat refine EvC.seq ?_
          try generalize hK : SeqQ _ _ _ _ = K
          refine EvC.reg ?_
          refine EvO.go rfl rfl rfl (put_T rfl _) ?_
          refine EvO.mv (.inr rfl) rfl (ev rfl) (put_T rfl _) ?_
          refine EvO.nil ?_
          try subst hK
          try change EvC _ _ _ _ _ _
          try change EvC _ _ _ _ _ _
          repeat refine EvC.seq ?_
          refine EvC.cond (by rfl) (fun h4 => ?_) (fun h4 => ?_) <;> try simp only [decide_eq_true_eq, decide_eq_false_iff_not, beq_iff_eq, beq_eq_false_iff_ne, bne_iff_ne, bne_eq_false_iff_eq, ne_eq, Bool.not_eq_true', Bool.not_eq_false', Bool.not_eq_true, Bool.not_eq_false] at h4
          · rw [if_pos h4]
            try change EvC _ _ _ _ _ _
            repeat refine EvC.seq ?_
            refine EvC.cutL 4 (.bool (decide (((pc + 1 : Nat) : Int) < p.code.length) && inS i.x 10)) [] ?_ (fun ff tmp => ?_)
            · refine EvO.mv (.inl rfl) rfl (ev rfl) (put_T rfl _) ?_
              refine EvO.mv (.inl rfl) rfl (ev rfl) (put_T rfl _) ?_
              refine EvO.two 79 rfl (fun hg1 => ?_) (fun hg1 => ?_)
              · refine EvO.pfield (fo := 1) (m := 0) (o := 1) (wantD_is rfl rfl rfl hg1) (ev rfl) rfl rfl rfl (put_T rfl _) ?_
                refine EvO.hload hH (wantD_is rfl rfl rfl hg1) (ev rfl) (by exact at0) rfl (put_T rfl _) ?_
                refine EvO.hcall (wantD_is rfl rfl rfl hg1) rfl (within_ev _ _) (put_T rfl _) ?_
                refine EvO.pickT rfl rfl hg1 (put_T rfl _) ?_
                refine EvO.mv (.inr rfl) rfl (ev rfl) (by dsimp only [Fr.put, List.set_cons_succ, List.set_cons_zero] <;> rfl) ?_
                refine EvO.nil (leafL ?_)
                try dsimp only [setW, List.foldl_cons, List.foldl_nil, nth, List.set_cons_zero, List.set_cons_succ]
                try dsimp only [Fr.putO, Fr.put, Fr.clean, Fr.ev, Fr.get, nth, Go.V.look, List.set_cons_succ, List.set_cons_zero, ofVal_int, ofVal_bool, ofVal_str, ofVal_nul, ofVal_pnil, ofVal_nilfn, ofVal_nilif, List.length, List.cons_append, List.nil_append, List.append_nil, Nat.reduceSub, Nat.reduceAdd, List.map, List.map_cons, List.map_nil]
                all_goals (simp [hg1]; done)
              · refine EvO.skip (wantD_not rfl rfl rfl hg1) (put_T rfl _) ?_
                refine EvO.skip (wantD_not rfl rfl rfl hg1) (put_T rfl _) ?_
                refine EvO.skip (wantD_not rfl rfl rfl hg1) (put_T rfl _) ?_
                refine EvO.pickF rfl rfl hg1 (put_T rfl _) ?_
                refine EvO.mv (.inr rfl) rfl (ev rfl) (by dsimp only [Fr.put, List.set_cons_succ, List.set_cons_zero] <;> rfl) ?_
                refine EvO.nil (leafL ?_)
                try dsimp only [setW, List.foldl_cons, List.foldl_nil, nth, List.set_cons_zero, List.set_cons_succ]
                try dsimp only [Fr.putO, Fr.put, Fr.clean, Fr.ev, Fr.get, nth, Go.V.look, List.set_cons_succ, List.set_cons_zero, ofVal_int, ofVal_bool, ofVal_str, ofVal_nul, ofVal_pnil, ofVal_nilfn, ofVal_nilif, List.length, List.cons_append, List.nil_append, List.append_nil, Nat.reduceSub, Nat.reduceAdd, List.map, List.map_cons, List.map_nil]
                all_goals (simp [hg1]; done)
            try dsimp only [setW, List.foldl_cons, List.foldl_nil, nth, List.set_cons_zero, List.set_cons_succ]
            try dsimp only [Fr.putO, Fr.put, Fr.clean, Fr.ev, Fr.get, nth, Go.V.look, List.set_cons_succ, List.set_cons_zero, ofVal_int, ofVal_bool, ofVal_str, ofVal_nul, ofVal_pnil, ofVal_nilfn, ofVal_nilif, List.length, List.cons_append, List.nil_append, List.append_nil, Nat.reduceSub, Nat.reduceAdd, List.map, List.map_cons, List.map_nil]
            try change EvC _ _ _ _ _ _
            refine EvC.ret ⟨fun i h => (by cases h), _, rfl, leave_ro (by simp) hSb hH (rfl)⟩
          · rw [if_neg h4]
            try change EvC _ _ _ _ _ _
            repeat refine EvC.seq ?_
            try generalize hK : SeqQ _ _ _ _ = K
            refine EvC.reg ?_
            refine EvO.go rfl rfl rfl (put_T rfl _) ?_
            refine EvO.mv (.inr rfl) rfl (ev rfl) (put_T rfl _) ?_
            refine EvO.nil ?_
            try subst hK
            try change EvC _ _ _ _ _ _
            by_cases h5 : i.op = 5
            · rw [if_pos h5]
              try change EvC _ _ _ _ _ _
              repeat refine EvC.seq ?_
              refine EvC.cond (v := true) (by dsimp only [Fr.ev, Fr.get, nth, Go.V.look]; simp [h5]) (fun _ => ?_) (fun h => by cases h)
              try change EvC _ _ _ _ _ _
              refine EvC.skip ?_
              try change EvC _ _ _ _ _ _
              try change EvC _ _ _ _ _ _
              repeat refine EvC.seq ?_
              refine EvC.cond (v := true) (by dsimp only [Fr.ev, Fr.get, nth, Go.V.look]; simp [h5]) (fun _ => ?_) (fun h => by cases h)
              try change EvC _ _ _ _ _ _
              try change EvC _ _ _ _ _ _
              repeat refine EvC.seq ?_
              refine EvC.cutL 4 (.bool (decide (((pc + 1 : Nat) : Int) < p.code.length) && (i.x == 0))) [] ?_ (fun ff tmp => ?_)
              · refine EvO.mv (.inl rfl) rfl (ev rfl) (put_T rfl _) ?_
                refine EvO.mv (.inl rfl) rfl (ev rfl) (put_T rfl _) ?_
                refine EvO.two 88 rfl (fun hg1 => ?_) (fun hg1 => ?_)
                · refine EvO.pfield (fo := 1) (m := 0) (o := 1) (wantD_is rfl rfl rfl hg1) (ev rfl) rfl rfl rfl (put_T rfl _) ?_
                  refine EvO.hload hH (wantD_is rfl rfl rfl hg1) (ev rfl) (by exact at0) rfl (put_T rfl _) ?_
                  refine EvO.go (wantD_is rfl rfl rfl hg1) rfl rfl (put_T rfl _) ?_
                  refine EvO.pickT rfl rfl hg1 (put_T rfl _) ?_
                  refine EvO.mv (.inr rfl) rfl (ev rfl) (by dsimp only [Fr.put, List.set_cons_succ, List.set_cons_zero] <;> rfl) ?_
                  refine EvO.nil (leafL ?_)
                  try dsimp only [setW, List.foldl_cons, List.foldl_nil, nth, List.set_cons_zero, List.set_cons_succ]
                  try dsimp only [Fr.putO, Fr.put, Fr.clean, Fr.ev, Fr.get, nth, Go.V.look, List.set_cons_succ, List.set_cons_zero, ofVal_int, ofVal_bool, ofVal_str, ofVal_nul, ofVal_pnil, ofVal_nilfn, ofVal_nilif, List.length, List.cons_append, List.nil_append, List.append_nil, Nat.reduceSub, Nat.reduceAdd, List.map, List.map_cons, List.map_nil]
                  all_goals (simp [hg1]; done)
                · refine EvO.skip (wantD_not rfl rfl rfl hg1) (put_T rfl _) ?_
                  refine EvO.skip (wantD_not rfl rfl rfl hg1) (put_T rfl _) ?_
                  refine EvO.skip (wantD_not rfl rfl rfl hg1) (put_T rfl _) ?_
                  refine EvO.pickF rfl rfl hg1 (put_T rfl _) ?_
                  refine EvO.mv (.inr rfl) rfl (ev rfl) (by dsimp only [Fr.put, List.set_cons_succ, List.set_cons_zero] <;> rfl) ?_
                  refine EvO.nil (leafL ?_)
                  try dsimp only [setW, List.foldl_cons, List.foldl_nil, nth, List.set_cons_zero, List.set_cons_succ]
                  try dsimp only [Fr.putO, Fr.put, Fr.clean, Fr.ev, Fr.get, nth, Go.V.look, List.set_cons_succ, List.set_cons_zero, ofVal_int, ofVal_bool, ofVal_str, ofVal_nul, ofVal_pnil, ofVal_nilfn, ofVal_nilif, List.length, List.cons_append, List.nil_append, List.append_nil, Nat.reduceSub, Nat.reduceAdd, List.map, List.map_cons, List.map_nil]
                  all_goals (simp [hg1]; done)
              try dsimp only [setW, List.foldl_cons, List.foldl_nil, nth, List.set_cons_zero, List.set_cons_succ]
              try dsimp only [Fr.putO, Fr.put, Fr.clean, Fr.ev, Fr.get, nth, Go.V.look, List.set_cons_succ, List.set_cons_zero, ofVal_int, ofVal_bool, ofVal_str, ofVal_nul, ofVal_pnil, ofVal_nilfn, ofVal_nilif, List.length, List.cons_append, List.nil_append, List.append_nil, Nat.reduceSub, Nat.reduceAdd, List.map, List.map_cons, List.map_nil]
              try change EvC _ _ _ _ _ _
              refine EvC.ret ⟨fun i h => (by cases h), _, rfl, leave_ro (by simp) hSb hH (rfl)⟩
            · rw [if_neg h5]
              try change EvC _ _ _ _ _ _
              repeat refine EvC.seq ?_
              refine EvC.cond (v := false) (by dsimp only [Fr.ev, Fr.get, nth, Go.V.look]; simp [h5]) (fun h => by cases h) (fun _ => ?_)
              try change EvC _ _ _ _ _ _
              try change EvC _ _ _ _ _ _
              repeat refine EvC.seq ?_
              try generalize hK : SeqQ _ _ _ _ = K
              refine EvC.reg ?_
              refine EvO.go rfl rfl rfl (put_T rfl _) ?_
              refine EvO.mv (.inr rfl) rfl (ev rfl) (put_T rfl _) ?_
              refine EvO.nil ?_
              try subst hK
              try change EvC _ _ _ _ _ _
              try change EvC _ _ _ _ _ _
              repeat refine EvC.seq ?_
              refine EvC.cond (by rfl) (fun h6 => ?_) (fun h6 => ?_) <;> try simp only [decide_eq_true_eq, decide_eq_false_iff_not, beq_iff_eq, beq_eq_false_iff_ne, bne_iff_ne, bne_eq_false_iff_eq, ne_eq, Bool.not_eq_true', Bool.not_eq_false', Bool.not_eq_true, Bool.not_eq_false] at h6
              · rw [if_pos h6]
                try change EvC _ _ _ _ _ _
                repeat refine EvC.seq ?_
                refine EvC.cutL 4 (.bool (decide (((pc + 1 : Nat) : Int) < p.code.length) && (i.x == 0))) [] ?_ (fun ff tmp => ?_)
                · refine EvO.mv (.inl rfl) rfl (ev rfl) (put_T rfl _) ?_
                  refine EvO.mv (.inl rfl) rfl (ev rfl) (put_T rfl _) ?_
                  refine EvO.two 88 rfl (fun hg1 => ?_) (fun hg1 => ?_)
                  · refine EvO.pfield (fo := 1) (m := 0) (o := 1) (wantD_is rfl rfl rfl hg1) (ev rfl) rfl rfl rfl (put_T rfl _) ?_
                    refine EvO.hload hH (wantD_is rfl rfl rfl hg1) (ev rfl) (by exact at0) rfl (put_T rfl _) ?_
                    refine EvO.go (wantD_is rfl rfl rfl hg1) rfl rfl (put_T rfl _) ?_
                    refine EvO.pickT rfl rfl hg1 (put_T rfl _) ?_
                    refine EvO.mv (.inr rfl) rfl (ev rfl) (by dsimp only [Fr.put, List.set_cons_succ, List.set_cons_zero] <;> rfl) ?_
                    refine EvO.nil (leafL ?_)
                    try dsimp only [setW, List.foldl_cons, List.foldl_nil, nth, List.set_cons_zero, List.set_cons_succ]
                    try dsimp only [Fr.putO, Fr.put, Fr.clean, Fr.ev, Fr.get, nth, Go.V.look, List.set_cons_succ, List.set_cons_zero, ofVal_int, ofVal_bool, ofVal_str, ofVal_nul, ofVal_pnil, ofVal_nilfn, ofVal_nilif, List.length, List.cons_append, List.nil_append, List.append_nil, Nat.reduceSub, Nat.reduceAdd, List.map, List.map_cons, List.map_nil]
                    all_goals (simp [hg1]; done)
                  · refine EvO.skip (wantD_not rfl rfl rfl hg1) (put_T rfl _) ?_
                    refine EvO.skip (wantD_not rfl rfl rfl hg1) (put_T rfl _) ?_
                    refine EvO.skip (wantD_not rfl rfl rfl hg1) (put_T rfl _) ?_
                    refine EvO.pickF rfl rfl hg1 (put_T rfl _) ?_
                    refine EvO.mv (.inr rfl) rfl (ev rfl) (by dsimp only [Fr.put, List.set_cons_succ, List.set_cons_zero] <;> rfl) ?_
                    refine EvO.nil (leafL ?_)
                    try dsimp only [setW, List.foldl_cons, List.foldl_nil, nth, List.set_cons_zero, List.set_cons_succ]
                    try dsimp only [Fr.putO, Fr.put, Fr.clean, Fr.ev, Fr.get, nth, Go.V.look, List.set_cons_succ, List.set_cons_zero, ofVal_int, ofVal_bool, ofVal_str, ofVal_nul, ofVal_pnil, ofVal_nilfn, ofVal_nilif, List.length, List.cons_append, List.nil_append, List.append_nil, Nat.reduceSub, Nat.reduceAdd, List.map, List.map_cons, List.map_nil]
                    all_goals (simp [hg1]; done)
                try dsimp only [setW, List.foldl_cons, List.foldl_nil, nth, List.set_cons_zero, List.set_cons_succ]
                try dsimp only [Fr.putO, Fr.put, Fr.clean, Fr.ev, Fr.get, nth, Go.V.look, List.set_cons_succ, List.set_cons_zero, ofVal_int, ofVal_bool, ofVal_str, ofVal_nul, ofVal_pnil, ofVal_nilfn, ofVal_nilif, List.length, List.cons_append, List.nil_append, List.append_nil, Nat.reduceSub, Nat.reduceAdd, List.map, List.map_cons, List.map_nil]
                try change EvC _ _ _ _ _ _
                refine EvC.ret ⟨fun i h => (by cases h), _, rfl, leave_ro (by simp) hSb hH (rfl)⟩
              · rw [if_neg h6]
                try change EvC _ _ _ _ _ _
                repeat refine EvC.seq ?_
                try generalize hK : SeqQ _ _ _ _ = K
                refine EvC.reg ?_
                refine EvO.go rfl rfl rfl (put_T rfl _) ?_
                refine EvO.mv (.inr rfl) rfl (ev rfl) (put_T rfl _) ?_
                refine EvO.nil ?_
                try subst hK
                try change EvC _ _ _ _ _ _
                try change EvC _ _ _ _ _ _
                repeat refine EvC.seq ?_
                refine EvC.cond (by rfl) (fun h7 => ?_) (fun h7 => ?_) <;> try simp only [decide_eq_true_eq, decide_eq_false_iff_not, beq_iff_eq, beq_eq_false_iff_ne, bne_iff_ne, bne_eq_false_iff_eq, ne_eq, Bool.not_eq_true', Bool.not_eq_false', Bool.not_eq_true, Bool.not_eq_false] at h7
                · rw [if_pos h7]
                  try change EvC _ _ _ _ _ _
                  repeat refine EvC.seq ?_
                  try generalize hK : SeqQ _ _ _ _ = K
                  refine EvC.reg ?_
                  refine EvO.pfield (fo := 1) (m := 0) (o := 1) rfl (ev rfl) rfl rfl rfl (put_T rfl _) ?_
                  refine EvO.hload hH rfl (ev rfl) (by exact at0) rfl (put_T rfl _) ?_
                  refine EvO.pfield (fo := 1) (m := 0) (o := 1) rfl (ev rfl) rfl rfl rfl (put_T rfl _) ?_
                  refine EvO.hload hH rfl (ev rfl) (by exact at1) rfl (put_T rfl _) ?_
                  refine EvO.rlen rfl (ev rfl) (Arg.rows (by assumption) hH) rfl (put_T rfl _) ?_
                  try simp only [List.length_map, List.length_append, List.length_cons, List.length_nil, List.length_set, List.length_replicate, List.length_reverse]
                  refine EvO.hcall rfl rfl (within_ev _ _) (put_T rfl _) ?_
                  refine EvO.mv (.inr rfl) rfl (ev rfl) (by dsimp only [Fr.put, List.set_cons_succ, List.set_cons_zero] <;> rfl) ?_
                  refine EvO.nil ?_
                  try subst hK
                  try change EvC _ _ _ _ _ _
                  refine EvC.ret ⟨fun i h => (by cases h), _, rfl, leave_ro (by simp) hSb hH (rfl)⟩
                · rw [if_neg h7]
                  refine EvC.skip ?_
                  try change EvC _ _ _ _ _ _
                  try change EvC _ _ _ _ _ _
                  repeat refine EvC.seq ?_
                  try generalize hK : SeqQ _ _ _ _ = K
                  refine EvC.reg ?_
                  refine EvO.mv (.inr rfl) rfl (ev rfl) (by dsimp only [Fr.put, List.set_cons_succ, List.set_cons_zero] <;> rfl) ?_
                  refine EvO.nil ?_
                  try subst hK
                  try change EvC _ _ _ _ _ _
                  refine EvC.ret ⟨fun i h => (by cases h), _, rfl, leave_ro (by simp) hSb hH (rfl)⟩
end Go.Proofs.Ytbdilgkfnacahaa
