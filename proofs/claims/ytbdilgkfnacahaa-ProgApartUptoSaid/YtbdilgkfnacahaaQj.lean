/-
 A set of patterns as a program: prog.Compile. %deep
-/
import Derived.Test.YtbdilgkfnacahaaQi
namespace Go.Proofs.Ytbdilgkfnacahaa
open Go.V Go
set_option maxRecDepth 100000
set_option maxHeartbeats 4000000
set_option linter.unusedSimpArgs false
set_option linter.unusedVariables false

/-- what a frame holds at a slot -/
def ixF_Qj (fr : Go.V.Fr) (k : Nat) : Go.V.D := Go.V.nth .junk fr.loc k

def nlC (x : Nl) : List D := [x.d]
theorem nl_get {l : List Nl} {i : Nat} {q : Nl} (h : l[i]? = some q) : (l.map nlC)[i]? = some (nlC q) := by rw [List.getElem?_map, h]; rfl

def compD (R : CompR) : D := .tup [(pgV R.code R.starts).d, .int .i64 R.e, .int .i64 R.w]
theorem spl_all {es M : List Int} (h : M.length = es.length) : spl es 0 M = M := by
 unfold spl; simp [h]
theorem compS_nil (r : Nat) (c : List PIns) (s : List Int) : compS [] r c s = ⟨c, s, 0, 0⟩ := by simp only [compS]

theorem compile_ev {s0 : St} {x : D} {rules : List Nl} (hx : V.Rows s0 1 x (rules.map nlC)) (hr : ∀ r ∈ rules, r.ok) (hl : rules.length ≤ 1048576) : Ev pv 14 [x] s0 (compD (compileS (rules.map (·.l)))) s0 := by
 refine Ev.mk1 rfl fi14 rfl rfl rfl ?_
 dsimp only [List.cons_append, List.nil_append, List.length, Nat.reduceSub, Nat.reduceAdd, List.replicate_succ, List.replicate_zero]
 have hSb : (enterSt .ro s0).bs = s0.bs := rfl
 have hF : (enterSt .ro s0).flr ≤ s0.bs.length := Nat.le_refl _
 have hH : Has s0.bs.length (enterSt .ro s0) (enterSt .ro s0) [] := Has.start (Nat.le_refl _) (Nat.le_refl _)
 generalize enterSt .ro s0 = S at *
 have hx := Arg.of hx hSb
 have hfz : ∀ (st : St) (e w : Int), freezeD st s0.bs.length false 16 (tupD [.agg [.nul, .nul], .int .i64 e, .int .i64 w]) = some (compD ⟨[], [], e, w⟩) := fun st e w => rfl
 try refine qy ?_
 repeat refine qq ?_
 try generalize hK : SeqQ _ _ _ _ = K
 refine EvC.reg ?_
 refine qa hH fun k2 st hk2 hH => ?_
 try dsimp only [u2, u1, u3, u4, setMany, u5, u6, D.cells, Nat.reduceAdd, insC, nodC, intC, nlC] at hH
 refine qm ?_
 refine qm ?_
 refine EvO.nil ?_
 try subst hK
 try refine qy ?_
 repeat refine qq ?_
 try generalize hK : SeqQ _ _ _ _ = K
 refine EvC.reg ?_
 refine qm ?_
 refine qn ?_
 try simp only [List.length_map, List.length_append, List.length_cons, List.length_nil, List.length_set, List.length_replicate, List.length_reverse]
 refine qg ?_
 refine EvO.nil ?_
 try subst hK
 try refine qy ?_
 unfold compileS
 by_cases h8 : 8 < rules.length
 ·rw [if_pos (by rw [List.length_map]; exact h8)]
  try refine qy ?_
  repeat refine qq ?_
  refine EvC.cond (v := true) (by dsimp only [Fr.ev, Fr.get, nth, Go.V.look]; simp; omega) (fun _ => ?_) (fun h => by cases h)
  try refine qy ?_
  repeat refine qq ?_
  try generalize hK : SeqQ _ _ _ _ = K
  refine EvC.reg ?_
  refine EvO.go (d := .agg [.nul, .nul]) (st1 := _) rfl rfl rfl (by dsimp only [Fr.put, List.set_cons_succ, List.set_cons_zero] <;> rfl) ?_
  refine qS hH at0 fun st hH => ?_
  try dsimp only [u2, u1, u3, u4, setMany, u5, u6, D.cells, Nat.reduceAdd, insC, nodC, intC, nlC] at hH
  refine qm ?_
  refine qm ?_
  refine EvO.nil ?_
  try subst hK
  try refine qy ?_
  refine EvC.ret ⟨fun i h => (by cases h), _, hH.resCellTT rfl at0 rfl rfl rfl, leave_ro (by simp) hSb hH (hfz _ 13 8)⟩
 ·rw [if_neg (by rw [List.length_map]; exact h8)]
  try refine qy ?_
  repeat refine qq ?_
  refine EvC.cond (v := false) (by dsimp only [Fr.ev, Fr.get, nth, Go.V.look]; simp; omega) (fun h => by cases h) (fun _ => ?_)
  try refine qy ?_
  refine EvC.skip ?_
  try refine qy ?_
  repeat refine qq ?_
  try generalize hK : SeqQ _ _ _ _ = K
  refine EvC.reg ?_
  refine EvO.go (d := .agg [.nul, .nul, .nul, .nul]) (st1 := _) rfl rfl rfl (by dsimp only [Fr.put, List.set_cons_succ, List.set_cons_zero] <;> rfl) ?_
  refine qb hH fun k14 st hk14 hH => ?_
  try dsimp only [u2, u1, u3, u4, setMany, u5, u6, D.cells, Nat.reduceAdd, insC, nodC, intC, nlC] at hH
  refine qm ?_
  refine EvO.nil ?_
  try subst hK
  try refine qy ?_
  repeat refine qq ?_
  try generalize hK : SeqQ _ _ _ _ = K
  refine EvC.reg ?_
  refine qm ?_
  refine EvO.nil ?_
  try subst hK
  try refine qy ?_
  repeat refine qq ?_
  try generalize hK : SeqQ _ _ _ _ = K
  refine EvC.reg ?_
  refine qm ?_
  refine qn ?_
  try simp only [List.length_map, List.length_append, List.length_cons, List.length_nil, List.length_set, List.length_replicate, List.length_reverse]
  refine qm ?_
  refine EvO.nil ?_
  try subst hK
  try refine qy ?_
  have hH : Has s0.bs.length S st (.lst .nul 1 (([] : List Int).map intC) :: .deep (fun _ => False) .nul 4 (([] : List PIns).map insC) :: .box k14 (.mem 0 false [.nul, .nul, .nul, .nul]) :: [.box k2 (.mem 0 false [.nul, .nul])]) := (hH.nulD 4).nulE 1
  try refine qy ?_
  repeat refine qq ?_
  refine EvC.block ?_
  refine EvC.loop (fun mm fr st => ∃ (r : Nat) (cd nd zd ed sd : D) (dk : Nat → Prop) (code : List PIns) (starts : List Int), fr.clean = ⟨18, [ixF_Qj fr 0, ixF_Qj fr 1, .ptr k2 0 0, .int .i64 0, .int .i64 0, .ptr k14 0 0, sd, ixF_Qj fr 7, ixF_Qj fr 8, ixF_Qj fr 9, ixF_Qj fr 10, ixF_Qj fr 11, ixF_Qj fr 12, ixF_Qj fr 13, ixF_Qj fr 14, x, .int .i64 (rules.length : Nat), .int .i64 (r : Nat)], []⟩ ∧ Has s0.bs.length S st [.lst sd 1 (starts.map intC), .deep dk cd 4 (code.map insC), .box k14 (.mem 0 false [cd, nd, zd, ed]), .box k2 (.mem 0 false [.nul, .nul])] ∧ (r + mm = rules.length) ∧ (compS ((rules.drop r).map (·.l)) r code starts = compS (rules.map (·.l)) 0 [] []) ∧ (code.length ≤ 400) ∧ (starts.length ≤ r)) (rules.length) ?_ ?_
  ·exact ⟨0, .nul, .nul, .nul, .nul, .nul, (fun _ => False), [], [], rfl, hH, by omega, by rw [List.drop_zero], by simp, by simp⟩
  rintro mm fr st ⟨r, cd, nd, zd, ed, sd, dk, code, starts, hfr, hH, hrr, hX, hcl, hst⟩
  rw [hfr]
  clear hfr
  try generalize ixF_Qj fr = ee
  clear fr
  try refine qy ?_
  repeat refine qq ?_
  try generalize hK : SeqQ _ _ _ _ = K
  refine EvC.reg ?_
  refine qg ?_
  refine EvO.nil ?_
  try subst hK
  try refine qy ?_
  by_cases hlt : r < rules.length
  ·obtain ⟨q, hq⟩ : ∃ q, rules[r]? = some q := ⟨rules[r]'hlt, List.getElem?_eq_getElem _⟩
   have hqo := hr q (List.mem_of_getElem? hq)
   have hr1 := nl_get hq
   have hdr : rules.drop r = q :: rules.drop (r + 1) := by
    rw [List.drop_eq_getElem_cons hlt]
    congr 1
    exact Option.some.inj ((List.getElem?_eq_getElem _).symm.trans hq)
   rw [hdr, List.map_cons, compS] at hX
   try refine qy ?_
   repeat refine qq ?_
   refine EvC.cond (v := true) (by dsimp only [Fr.ev, Fr.get, nth, Go.V.look]; simp; omega) (fun _ => ?_) (fun h => by cases h)
   try refine qy ?_
   refine EvC.skip ?_
   try refine qy ?_
   repeat refine qq ?_
   refine EvC.block ?_
   try refine qy ?_
   repeat refine qq ?_
   try generalize hK : SeqQ _ _ _ _ = K
   refine EvC.reg ?_
   refine qm ?_
   refine qr fun p20 hp20 => ?_
   refine qR ?_
   refine qm ?_
   refine qm ?_
   refine EvO.nil ?_
   try subst hK
   try refine qy ?_
   repeat refine qq ?_
   try generalize hK : SeqQ _ _ _ _ = K
   refine EvC.reg ?_
   refine qm ?_
   refine EvO.hcall rfl rfl (rightL_ev hqo) (put_T rfl _) ?_
   refine qg ?_
   refine EvO.nil ?_
   try subst hK
   try refine qy ?_
   cases hright : rightN q.l with
   | false =>
    rw [if_pos hright] at hX
    try refine qy ?_
    repeat refine qq ?_
    refine EvC.cond (v := true) (by rfl) (fun _ => ?_) (fun h => by cases h)
    try refine qy ?_
    repeat refine qq ?_
    try generalize hK : SeqQ _ _ _ _ = K
    refine EvC.reg ?_
    refine EvO.go (d := .agg [.nul, .nul]) (st1 := _) rfl rfl rfl (put_T rfl _) ?_
    refine qm ?_
    refine qS hH at3 fun st hH => ?_
    try dsimp only [u2, u1, u3, u4, setMany, u5, u6, D.cells, Nat.reduceAdd, insC, nodC, intC, nlC] at hH
    refine qm ?_
    refine qm ?_
    refine EvO.nil ?_
    try subst hK
    try refine qy ?_
    rw [← hX]
    refine EvC.ret ⟨fun i h => (by cases h), _, hH.resCellTT rfl at3 rfl rfl rfl, leave_ro (by simp) hSb hH (hfz _ 1 r)⟩
   | true =>
    rw [if_neg (by rw [hright]; simp)] at hX
    obtain ⟨htok, htf⟩ := tree_is hright
    have hqd := hqo.c.arg s0.bs.length S
    have hqn := hqo.nl
    have hcd := hqo.c
    try refine qy ?_
    repeat refine qq ?_
    refine EvC.cond (v := false) (by rfl) (fun h => by cases h) (fun _ => ?_)
    try refine qy ?_
    refine EvC.skip ?_
    try refine qy ?_
    repeat refine qq ?_
    try generalize hK : SeqQ _ _ _ _ = K
    refine EvC.reg ?_
    refine qm ?_
    refine qm ?_
    refine qm ?_
    refine qm ?_
    refine qm ?_
    refine qn ?_
    try simp only [List.length_map, List.length_append, List.length_cons, List.length_nil, List.length_set, List.length_replicate, List.length_reverse]
    refine EvO.hmake (s := 1) hH rfl rfl rfl rfl rfl rfl rfl rfl (Nat.le_of_ble_eq_true rfl) (by omega) (fun _ => (put_T rfl _)) (fun k33 st hk33 hH => ?_)
    try dsimp only [u2, u1, u3, u4, setMany, u5, u6, D.cells, Nat.reduceAdd, insC, nodC, intC, nlC] at hH
    refine qm ?_
    refine qn ?_
    try simp only [List.length_map, List.length_append, List.length_cons, List.length_nil, List.length_set, List.length_replicate, List.length_reverse]
    refine EvO.hmake (s := 1) hH rfl rfl rfl rfl rfl rfl rfl rfl (Nat.le_of_ble_eq_true rfl) (by omega) (fun _ => (put_T rfl _)) (fun k36 st hk36 hH => ?_)
    try dsimp only [u2, u1, u3, u4, setMany, u5, u6, D.cells, Nat.reduceAdd, insC, nodC, intC, nlC] at hH
    refine qg ?_
    refine qp (o := 1) ?_
    refine qT hH at4 fun st hH => ?_
    try dsimp only [u2, u1, u3, u4, setMany, u5, u6, D.cells, Nat.reduceAdd, insC, nodC, intC, nlC] at hH
    refine qg ?_
    refine qp (o := 2) ?_
    refine qT hH at4 fun st hH => ?_
    try dsimp only [u2, u1, u3, u4, setMany, u5, u6, D.cells, Nat.reduceAdd, insC, nodC, intC, nlC] at hH
    refine qg ?_
    refine qp (o := 3) ?_
    refine qT hH at4 fun st hH => ?_
    try dsimp only [u2, u1, u3, u4, setMany, u5, u6, D.cells, Nat.reduceAdd, insC, nodC, intC, nlC] at hH
    refine EvO.nil ?_
    try subst hK
    try refine qy ?_
    have hH : Has s0.bs.length S st (.lst (.win k33 0 0 q.l.length 1) 1 ((List.replicate q.l.length (0 : Int)).map intC) :: .lst (.win k36 0 0 q.l.length 1) 1 ((List.replicate q.l.length (0 : Int)).map intC) :: .lst sd 1 (starts.map intC) :: .deep dk cd 4 (code.map insC) :: .box k14 (.mem 0 false [cd, q.d, .win k33 0 0 q.l.length 1, .win k36 0 0 q.l.length 1]) :: .box k2 (.mem 0 false [.nul, .nul]) :: []) := by
     rw [List.map_replicate]; exact hH.front at1
    try refine qy ?_
    repeat refine qq ?_
    try generalize hK : SeqQ _ _ _ _ = K
    refine EvC.reg ?_
    refine qm ?_
    refine qm ?_
    refine qg ?_
    refine qp (o := 2) ?_
    refine ql hH at4 ?_
    obtain ⟨_, st, hev, rfl, hH⟩ := sizes_ev hqo.nl hqo.i hqo.c _ (treeN q.l) (Nat.le_refl _) htok (at_ := 0) (by rw [htf]; exact Seg.all _) (by simp) hH
    refine EvO.hcall rfl rfl hev (put_T rfl _) ?_
    refine EvO.nil ?_
    try subst hK
    try refine qy ?_
    rw [spl_all (by rw [Tr.zs_len, htf]; simp)] at hH
    have hH := hH.front at1
    try refine qy ?_
    repeat refine qq ?_
    try generalize hK : SeqQ _ _ _ _ = K
    refine EvC.reg ?_
    refine qm ?_
    refine qm ?_
    refine qg ?_
    refine qp (o := 3) ?_
    refine ql hH at4 ?_
    obtain ⟨_, st, hev, rfl, hH⟩ := ends_ev hqo.nl hqo.i hqo.c _ (treeN q.l) (Nat.le_refl _) htok (at_ := 0) (by rw [htf]; exact Seg.all _) (by simp) hH
    refine EvO.hcall rfl rfl hev (put_T rfl _) ?_
    refine EvO.nil ?_
    try subst hK
    try refine qy ?_
    rw [spl_all (by rw [Tr.es_len, htf]; simp)] at hH
    have hr13 := int_get (zs_head (Seg.all (treeN q.l).zs))
    try refine qy ?_
    repeat refine qq ?_
    try generalize hK : SeqQ _ _ _ _ = K
    refine EvC.reg ?_
    refine qm ?_
    refine qg ?_
    refine qp (o := 0) ?_
    refine ql hH at4 ?_
    refine EvO.dlen hH rfl (ev rfl) (by exact at3) rfl (put_T rfl _) ?_
    try simp only [List.length_map, List.length_append, List.length_cons, List.length_nil, List.length_set, List.length_replicate, List.length_reverse]
    refine qm ?_
    refine qg ?_
    refine qp (o := 2) ?_
    refine ql hH at4 ?_
    refine qi hH at1 fun p64 hp64 => ?_
    refine qo hH at1 ?_
    refine EvO.addZ (z := ((code.length + min (treeN q.l).sz 401 : Nat) : Int)) rfl (ev rfl) (ev rfl) (by (try simp only [List.length_reverse, List.length_cons, List.length_nil, List.length_append, List.length_map, List.length_set]); rw [wrap_i64 (by omega) (by omega)] <;> omega) (put_T rfl _) ?_
    refine EvO.addZ (z := ((code.length + min (treeN q.l).sz 401 + 3 : Nat) : Int)) rfl (ev rfl) (ev rfl) (by (try simp only [List.length_reverse, List.length_cons, List.length_nil, List.length_append, List.length_map, List.length_set]); rw [wrap_i64 (by omega) (by omega)] <;> omega) (put_T rfl _) ?_
    refine qg ?_
    refine EvO.nil ?_
    try subst hK
    try refine qy ?_
    by_cases hbig : 400 < code.length + min (treeN q.l).sz 401 + 3
    ·rw [if_pos hbig] at hX
     have hcc : decide (((code.length + min (treeN q.l).sz 401 + 3 : Nat) : Int) > 400) = true := by rw [decide_eq_true_eq]; omega
     try refine qy ?_
     repeat refine qq ?_
     refine EvC.cond (v := true) (by dsimp only [Fr.ev, Fr.get, nth, Go.V.look]; rw [hcc]) (fun _ => ?_) (fun h => by cases h)
     try refine qy ?_
     repeat refine qq ?_
     try generalize hK : SeqQ _ _ _ _ = K
     refine EvC.reg ?_
     refine EvO.go (d := .agg [.nul, .nul]) (st1 := _) rfl rfl rfl (put_T rfl _) ?_
     refine qm ?_
     refine qS hH at5 fun st hH => ?_
     try dsimp only [u2, u1, u3, u4, setMany, u5, u6, D.cells, Nat.reduceAdd, insC, nodC, intC, nlC] at hH
     refine qm ?_
     refine qm ?_
     refine EvO.nil ?_
     try subst hK
     try refine qy ?_
     rw [← hX]
     refine EvC.ret ⟨fun i h => (by cases h), _, hH.resCellTT rfl at5 rfl rfl rfl, leave_ro (by simp) hSb hH (hfz _ 12 r)⟩
    ·rw [if_neg hbig] at hX
     have hcc : decide (((code.length + min (treeN q.l).sz 401 + 3 : Nat) : Int) > 400) = false := by rw [decide_eq_false_iff_not]; omega
     try refine qy ?_
     repeat refine qq ?_
     refine EvC.cond (v := false) (by dsimp only [Fr.ev, Fr.get, nth, Go.V.look]; rw [hcc]) (fun h => by cases h) (fun _ => ?_)
     try refine qy ?_
     refine EvC.skip ?_
     try refine qy ?_
     have hH := hH.front at1
     have hH := hH.front at3
     have hH := hH.front at4
     have hH : Has s0.bs.length S st (.box k14 (.mem 0 false [cd, q.d, .win k33 0 0 q.l.length 1, .win k36 0 0 q.l.length 1]) :: .deep dk cd 4 (code.map insC) :: .lst (.win k33 0 0 q.l.length 1) 1 ((treeN q.l).zs.map intC) :: .lst (.win k36 0 0 q.l.length 1) 1 (((treeN q.l).es 0).map intC) :: .lst sd 1 (starts.map intC) :: .box k2 (.mem 0 false [.nul, .nul]) :: []) := hH
     try refine qy ?_
     repeat refine qq ?_
     try generalize hK : SeqQ _ _ _ _ = K
     refine EvC.reg ?_
     refine qm ?_
     refine qm ?_
     refine EvO.go (d := .agg [.int .i64 4, .int .i64 0, .int .i64 0, .nul]) (st1 := _) rfl rfl rfl (put_T rfl _) ?_
     have hH := hH.nulE 2
     obtain ⟨_, st, hev, rfl, cd, dk, hH⟩ := add_ev (rs := []) hF (by omega) hH
     refine EvO.hcall rfl rfl hev (put_T rfl _) ?_
     refine qh (s := 1) (vs := [_]) hH fun k75 st hk75 hH => ?_
     try dsimp only [u2, u1, u3, u4, setMany, u5, u6, D.cells, Nat.reduceAdd, insC, nodC, intC, nlC] at hH
     refine qP hH at5 (hH.rows at0) fun x76 st hH => ?_
     try dsimp only [u2, u1, u3, u4, setMany, u5, u6, D.cells, Nat.reduceAdd, insC, nodC, intC, nlC] at hH
     refine qm ?_
     refine EvO.nil ?_
     try subst hK
     try refine qy ?_
     have hH := hH.drop 1
     have hcl1 : (code ++ [mkI 4 0 0 []]).length = code.length + 1 := by simp
     try refine qy ?_
     repeat refine qq ?_
     try generalize hK : SeqQ _ _ _ _ = K
     refine EvC.reg ?_
     refine qm ?_
     obtain ⟨_, st, hev, rfl, cd, dk, hH⟩ := node_ev hqo.nl hqo.i _ (treeN q.l) (Nat.le_refl _) hF hqo.c (at_ := 0) (by rw [htf]; exact Seg.all _) (Seg.all _) (Seg.all _) htok (by omega) ⟨cd, dk, hH⟩
     refine EvO.hcall rfl rfl hev (put_T rfl _) ?_
     refine EvO.nil ?_
     try subst hK
     try refine qy ?_
     rw [hcl1] at hH
     have hcl2 : (code ++ [mkI 4 0 0 []] ++ codeT (treeN q.l) (code.length + 1)).length = code.length + 1 + (treeN q.l).sz := by rw [List.length_append, hcl1, codeT_len _ _ htok]
     try refine qy ?_
     repeat refine qq ?_
     try generalize hK : SeqQ _ _ _ _ = K
     refine EvC.reg ?_
     refine qm ?_
     refine EvO.go (d := .agg [.int .i64 4, .int .i64 1, .int .i64 0, .nul]) (st1 := _) rfl rfl rfl (put_T rfl _) ?_
     have hH := hH.nulE 2
     obtain ⟨_, st, hev, rfl, cd, dk, hH⟩ := add_ev (rs := []) hF (by omega) hH
     refine EvO.hcall rfl rfl hev (put_T rfl _) ?_
     refine EvO.nil ?_
     try subst hK
     try refine qy ?_
     have hcl3 : (code ++ [mkI 4 0 0 []] ++ codeT (treeN q.l) (code.length + 1) ++ [mkI 4 1 0 []]).length = code.length + 1 + (treeN q.l).sz + 1 := by rw [List.length_append, hcl2]; rfl
     try refine qy ?_
     repeat refine qq ?_
     try generalize hK : SeqQ _ _ _ _ = K
     refine EvC.reg ?_
     refine qm ?_
     refine qm ?_
     refine EvO.go (d := .agg [.int .i64 7, .int .i64 (r : Nat), .int .i64 0, .nul]) (st1 := _) rfl rfl rfl (put_T rfl _) ?_
     have hH := hH.nulE 2
     obtain ⟨_, st, hev, rfl, cd, dk, hH⟩ := add_ev (rs := []) hF (by omega) hH
     refine EvO.hcall rfl rfl hev (put_T rfl _) ?_
     refine EvO.nil ?_
     try subst hK
     try refine qy ?_
     have hrc : code ++ [mkI 4 0 0 []] ++ codeT (treeN q.l) (code.length + 1) ++ [mkI 4 1 0 []] ++ [mkI 7 (r : Nat) 0 []] = code ++ ruleC (treeN q.l) code.length r := by
      unfold ruleC; simp
     rw [hrc] at hH
     have hH := (hH.erase 2).erase 2
     have hH := hH.front at1
     have hH := hH.front at2
     try refine qy ?_
     repeat refine qq ?_
     try generalize hK : SeqQ _ _ _ _ = K
     refine EvC.reg ?_
     refine qA ?_
     refine qm ?_
     refine EvO.nil ?_
     try subst hK
     try refine qy ?_
     exact ⟨mm - 1, by omega, ⟨r + 1, cd, q.d, .win k33 0 0 q.l.length 1, .win k36 0 0 q.l.length 1, x76, dk, code ++ ruleC (treeN q.l) code.length r, starts ++ [((code.length : Nat) : Int)], rfl, (by rw [List.map_append (f := intC)]; exact hH), by omega, hX, by rw [List.length_append, ruleC_len htok]; omega, by rw [List.length_append]; simp only [List.length_cons, List.length_nil]; omega⟩⟩
  ·try refine qy ?_
   repeat refine qq ?_
   refine EvC.cond (v := false) (by dsimp only [Fr.ev, Fr.get, nth, Go.V.look]; simp; omega) (fun h => by cases h) (fun _ => ?_)
   try refine qy ?_
   refine EvC.exit ?_
   try refine qy ?_
   rw [List.drop_of_length_le (by omega), List.map_nil, compS_nil] at hX
   try refine qy ?_
   repeat refine qq ?_
   try generalize hK : SeqQ _ _ _ _ = K
   refine EvC.reg ?_
   refine qm ?_
   refine qg ?_
   refine qp (o := 0) ?_
   refine ql hH at2 ?_
   refine qm ?_
   refine EvO.ones (qs := [(0, _), (1, _)]) rfl rfl rfl rfl ⟨rfl, (ev rfl), (by exact hH.dcells (by exact at1)), rfl, (ev rfl), (by exact hH.ocells (by exact at0)), trivial⟩ (by intro q hq; simp only [List.mem_cons, List.not_mem_nil, or_false] at hq; rcases hq with rfl | rfl <;> exact ⟨rfl, by exact Nat.le_of_ble_eq_true rfl⟩) (by show List.foldl _ [_, _] _ = _; dsimp only [List.foldl_cons, List.foldl_nil, List.set_cons_zero, List.set_cons_succ] <;> rfl) (put_T rfl _) ?_
   refine qS hH at3 fun st hH => ?_
   try dsimp only [u2, u1, u3, u4, setMany, u5, u6, D.cells, Nat.reduceAdd, insC, nodC, intC, nlC] at hH
   refine qm ?_
   refine qm ?_
   refine EvO.nil ?_
   try subst hK
   try refine qy ?_
   rw [← hX]
   have h1 := hH.freezeDp at1 (n := 13) (by decide)
   have h2 := hH.freezeL at0 (int_plain _) (n := 14) (by decide)
   have h4 : freezeD st s0.bs.length false 15 (.agg [cd, sd]) = some (pgV code starts).d := by
    show (mapO (freezeD st s0.bs.length false 14) [cd, sd]).map D.agg = _
    simp only [mapO, h1, h2, Option.map_some]; rfl
   have h3 : freezeD st s0.bs.length false 16 (tupD [.agg [cd, sd], .int .i64 0, .int .i64 0]) = some (compD ⟨code, starts, 0, 0⟩) := by
    show (mapO (freezeD st s0.bs.length false 15) [.agg [cd, sd], .int .i64 0, .int .i64 0]).map D.tup = _
    simp only [mapO, h4, Option.map_some]; rfl
   exact EvC.ret ⟨fun i h => (by cases h), _, hH.resCellTT rfl at3 rfl rfl rfl, leave_ro (by simp) hSb hH h3⟩
end Go.Proofs.Ytbdilgkfnacahaa
