/-
 A node's code. %deep
-/
import Derived.Test.YtbdilgkfnacahaaQh
namespace Go.Proofs.Ytbdilgkfnacahaa
open Go.V Go
set_option maxRecDepth 100000
set_option maxHeartbeats 4000000
set_option linter.unusedSimpArgs false
set_option linter.unusedVariables false

/-- what a frame holds at a slot -/
def ixF_Qi (fr : Go.V.Fr) (k : Nat) : Go.V.D := Go.V.nth .junk fr.loc k

theorem catT_one (t : Tr) : catT (.cons t .nil) = codeT t := by
 funext b; simp only [catT, List.append_nil]
theorem sz_one (t : Tr) : (Trs.cons t .nil).sz = t.sz := by simp only [Trs.sz, Nat.add_zero]

theorem node_ev {l : List Nod} (hll : l.length ≤ 1048576) (hi : ∀ n ∈ l, n.ok) : ∀ (m : Nat) (t : Tr), t.flat.length ≤ m → NodeSpec l t := by
 intro m
 induction m with
 | zero => intro t h; have := t.flat_pos; omega
 | succ m ih =>
  rintro ⟨n, ks⟩ hm N k S s0 H nd zd ed code Z E at_ hF hnd hsl hsz hse hok hb hM
  have hM0 := hM
  obtain ⟨cd, dk, hH⟩ := hM
  simp only [Tr.ok] at hok
  obtain ⟨hno, hks⟩ := hok
  simp only [Tr.flat, List.length_cons] at hm
  have hle := hsl.le (by simp [Tr.flat])
  simp only [Tr.flat] at hsl hle
  simp only [List.length_cons] at hle
  simp only [Tr.zs] at hsz
  simp only [Tr.es] at hse
  simp only [Tr.sz] at hb
  have hn := hsl.head
  have hnn := hi n (List.mem_of_getElem? hn)
  have hrd := hnn.1.arg N S
  have hrl := hnn.2.1
  have hr1 := nod_get hn
  have hkd := hno.1
  have hkl := Trs.len_le ks
  have hcat := fun b => catT_len ks b hks
  refine Ev.mkE rfl fi40 rfl rfl rfl ?_
  dsimp only [List.cons_append, List.nil_append, List.length, Nat.reduceSub, Nat.reduceAdd, List.replicate_succ, List.replicate_zero]
  change EvC _ _ _ _ s0 _
  have hc := hnd.arg N S
  try refine qy ?_
  repeat refine qq ?_
  try generalize hK : SeqQ _ _ _ _ = K
  refine EvC.reg ?_
  refine qm ?_
  refine qg ?_
  refine qp (o := 1) ?_
  refine ql hH at0 ?_
  refine qm ?_
  refine qr fun p11 hp11 => ?_
  refine EvO.rloadS rfl (ev rfl) (by assumption) rfl (by dsimp only [Fr.put, List.set_cons_succ, List.set_cons_zero] <;> rfl) ?_
  refine qa hH fun k4 st hk4 hH => ?_
  try dsimp only [u2, u1, u3, u4, setMany, u5, u6, D.cells, Nat.reduceAdd, insC, nodC, intC, natC] at hH
  refine qS hH at0 fun st hH => ?_
  try dsimp only [u2, u1, u3, u4, setMany, u5, u6, D.cells, Nat.reduceAdd, insC, nodC, intC, natC] at hH
  refine EvO.nil ?_
  try subst hK
  try refine qy ?_
  have hH : Has N S st (.box k (.mem 0 false [cd, nd, zd, ed]) :: .deep dk cd 4 (code.map insC) :: .lst zd 1 (Z.map intC) :: .lst ed 1 (E.map intC) :: .box k4 (.mem 0 false (nodC n)) :: H) := hH.rot5
  try refine qy ?_
  repeat refine qq ?_
  try generalize hK : SeqQ _ _ _ _ = K
  refine EvC.reg ?_
  refine qp (o := 0) ?_
  refine ql hH at4 ?_
  refine EvO.nil ?_
  try subst hK
  try refine qy ?_
  repeat refine qq ?_
  refine EvC.block ?_
  try refine qy ?_
  repeat refine qq ?_
  try generalize hK : SeqQ _ _ _ _ = K
  refine EvC.reg ?_
  refine qg ?_
  refine qm ?_
  refine EvO.nil ?_
  try subst hK
  try refine qy ?_
  repeat refine qq ?_
  refine qc (fun q2 => ?_) (fun q2 => ?_) <;> try simp only [cs] at q2
  ·have hcT : codeT (.mk n ks) code.length = [mkI 1 0 0 n.rs] := by simp only [codeT, if_pos q2]
   rw [hcT]
   have hz : nodSz n ks.sz ks.len = 1 := by unfold nodSz; rw [if_pos (.inl q2)]
   have hH := hH.nulE 2
   try refine qy ?_
   repeat refine qq ?_
   try generalize hK : SeqQ _ _ _ _ = K
   refine EvC.reg ?_
   refine qm ?_
   refine qp (o := 1) ?_
   refine ql hH at5 ?_
   refine qP hH at0 (Arg.rows (by assumption) hH) fun x20 st hH => ?_
   try dsimp only [u2, u1, u3, u4, setMany, u5, u6, D.cells, Nat.reduceAdd, insC, nodC, intC, natC] at hH
   refine EvO.ones (qs := [(0, _), (3, _)]) rfl rfl rfl rfl ⟨rfl, (ev rfl), (by rfl), rfl, (ev rfl), (by exact hH.ocells (by exact at0)), trivial⟩ (by intro q hq; simp only [List.mem_cons, List.not_mem_nil, or_false] at hq; rcases hq with rfl | rfl <;> exact ⟨rfl, by exact Nat.le_of_ble_eq_true rfl⟩) (by show List.foldl _ [_, _, _, _] _ = _; dsimp only [List.foldl_cons, List.foldl_nil, List.set_cons_zero, List.set_cons_succ] <;> rfl) (by dsimp only [Fr.put, List.set_cons_succ, List.set_cons_zero] <;> rfl) ?_
   obtain ⟨_, st, hev, rfl, cd, dk, hH⟩ := add_ev (rs := n.rs) hF (by omega) hH
   refine EvO.hcall rfl rfl hev (by dsimp only [Fr.put, List.set_cons_succ, List.set_cons_zero] <;> rfl) ?_
   refine EvO.nil ?_
   try subst hK
   try refine qy ?_
   refine ⟨fun i h => (by cases h), _, _, _, rfl, rfl, ?_⟩
   exact ⟨rfl, cd, dk, hH.erase 4⟩
  try refine qy ?_
  repeat refine qq ?_
  try generalize hK : SeqQ _ _ _ _ = K
  refine EvC.reg ?_
  refine qg ?_
  refine qm ?_
  refine EvO.nil ?_
  try subst hK
  try refine qy ?_
  repeat refine qq ?_
  refine qc (fun q7 => ?_) (fun q7 => ?_) <;> try simp only [cs] at q7
  ·have hcT : codeT (.mk n ks) code.length = [mkI 5 0 0 []] := by simp only [codeT, if_neg q2, if_pos q7]
   rw [hcT]
   try refine qy ?_
   repeat refine qq ?_
   try generalize hK : SeqQ _ _ _ _ = K
   refine EvC.reg ?_
   refine qm ?_
   refine EvO.go (d := .agg [.int .i64 5, .int .i64 0, .int .i64 0, .nul]) (st1 := _) rfl rfl rfl (by dsimp only [Fr.put, List.set_cons_succ, List.set_cons_zero] <;> rfl) ?_
   have hH := hH.nulE 2
   obtain ⟨_, st, hev, rfl, cd, dk, hH⟩ := add_ev (rs := []) hF (by omega) hH
   refine EvO.hcall rfl rfl hev (by dsimp only [Fr.put, List.set_cons_succ, List.set_cons_zero] <;> rfl) ?_
   refine EvO.nil ?_
   try subst hK
   try refine qy ?_
   refine ⟨fun i h => (by cases h), _, _, _, rfl, rfl, ?_⟩
   exact ⟨rfl, cd, dk, hH.erase 4⟩
  try refine qy ?_
  repeat refine qq ?_
  try generalize hK : SeqQ _ _ _ _ = K
  refine EvC.reg ?_
  refine qg ?_
  refine qm ?_
  refine EvO.nil ?_
  try subst hK
  try refine qy ?_
  repeat refine qq ?_
  refine qc (fun q8 => ?_) (fun q8 => ?_) <;> try simp only [cs] at q8
  ·have hcT : codeT (.mk n ks) code.length = [mkI 6 0 0 []] := by simp only [codeT, if_neg q2, if_neg q7, if_pos q8]
   rw [hcT]
   try refine qy ?_
   repeat refine qq ?_
   try generalize hK : SeqQ _ _ _ _ = K
   refine EvC.reg ?_
   refine qm ?_
   refine EvO.go (d := .agg [.int .i64 6, .int .i64 0, .int .i64 0, .nul]) (st1 := _) rfl rfl rfl (by dsimp only [Fr.put, List.set_cons_succ, List.set_cons_zero] <;> rfl) ?_
   have hH := hH.nulE 2
   obtain ⟨_, st, hev, rfl, cd, dk, hH⟩ := add_ev (rs := []) hF (by omega) hH
   refine EvO.hcall rfl rfl hev (by dsimp only [Fr.put, List.set_cons_succ, List.set_cons_zero] <;> rfl) ?_
   refine EvO.nil ?_
   try subst hK
   try refine qy ?_
   refine ⟨fun i h => (by cases h), _, _, _, rfl, rfl, ?_⟩
   exact ⟨rfl, cd, dk, hH.erase 4⟩
  try refine qy ?_
  repeat refine qq ?_
  try generalize hK : SeqQ _ _ _ _ = K
  refine EvC.reg ?_
  refine qg ?_
  refine qm ?_
  refine EvO.nil ?_
  try subst hK
  try refine qy ?_
  repeat refine qq ?_
  refine qc (fun q3 => ?_) (fun q3 => ?_) <;> try simp only [cs] at q3
  ·have hcT : codeT (.mk n ks) code.length = catT ks code.length := by simp only [codeT, if_neg q2, if_neg q7, if_neg q8, if_pos q3]
   rw [hcT]
   have hz : nodSz n ks.sz ks.len = ks.sz := by unfold nodSz; rw [if_neg (by omega), if_neg (by omega), if_neg (by omega), if_neg (by omega)]
   rw [hz] at hb
   try refine qy ?_
   repeat refine qq ?_
   try generalize hK : SeqQ _ _ _ _ = K
   refine EvC.reg ?_
   refine qm ?_
   refine qA ?_
   refine qm ?_
   refine EvO.nil ?_
   try subst hK
   try refine qy ?_
   repeat refine qq ?_
   try generalize hK : SeqQ _ _ _ _ = K
   refine EvC.reg ?_
   refine qp (o := 6) ?_
   refine ql hH at4 ?_
   refine qm ?_
   refine EvO.nil ?_
   try subst hK
   try refine qy ?_
   repeat refine qq ?_
   refine EvC.block ?_
   refine EvC.loop (fun mm fr st => ∃ (i j : Nat) (rest : Trs) (cd : D) (dk : Nat → Prop) (code2 : List PIns), fr.clean = ⟨40, [.ptr k 0 0, .int .i64 (at_ : Nat), ixF_Qi fr 2, ixF_Qi fr 3, .ptr k4 0 0, .int .i64 (j : Nat), ixF_Qi fr 6, ixF_Qi fr 7, ixF_Qi fr 8, ixF_Qi fr 9, ixF_Qi fr 10, ixF_Qi fr 11, ixF_Qi fr 12, ixF_Qi fr 13, ixF_Qi fr 14, ixF_Qi fr 15, ixF_Qi fr 16, ixF_Qi fr 17, ixF_Qi fr 18, ixF_Qi fr 19, ixF_Qi fr 20, ixF_Qi fr 21, ixF_Qi fr 22, ixF_Qi fr 23, ixF_Qi fr 24, ixF_Qi fr 25, ixF_Qi fr 26, ixF_Qi fr 27, ixF_Qi fr 28, ixF_Qi fr 29, ixF_Qi fr 30, ixF_Qi fr 31, ixF_Qi fr 32, ixF_Qi fr 33, ixF_Qi fr 34, ixF_Qi fr 35, ixF_Qi fr 36, ixF_Qi fr 37, .int .i64 n.kids, .int .i64 (i : Nat)], []⟩ ∧ Has N S st (.box k (.mem 0 false [cd, nd, zd, ed]) :: .deep dk cd 4 (code2.map insC) :: .lst zd 1 (Z.map intC) :: .lst ed 1 (E.map intC) :: .box k4 (.mem 0 false (nodC n)) :: H) ∧ (mm = rest.len) ∧ (i + rest.len = ks.len) ∧ (Seg l j rest.flat) ∧ (Seg Z j rest.zs) ∧ (Seg E j (rest.es j)) ∧ (rest.ok) ∧ (code2 ++ catT rest code2.length = code ++ catT ks code.length) ∧ (code2.length + rest.sz = code.length + ks.sz) ∧ (rest.flat.length ≤ m)) (ks.len) ?_ ?_
   ·exact ⟨0, at_ + 1, ks, cd, dk, code, rfl, hH, rfl, by omega, hsl.tail, hsz.tail, hse.tail, hks, rfl, rfl, by omega⟩
   rintro mm fr st ⟨i, j, rest, cd, dk, code2, hfr, hH, hmm, hi2, hsg, hsgz, hsge, hrok, hcode, hcl, hrm⟩
   rw [hfr]
   clear hfr
   try generalize ixF_Qi fr = ee
   clear fr
   try refine qy ?_
   repeat refine qq ?_
   try generalize hK : SeqQ _ _ _ _ = K
   refine EvC.reg ?_
   refine qg ?_
   refine EvO.nil ?_
   try subst hK
   try refine qy ?_
   cases rest with
   | nil =>
    simp only [Trs.len] at hi2
    simp only [catT, List.append_nil] at hcode
    have hcc : decide ((i : Int) < n.kids) = false := by rw [decide_eq_false_iff_not]; omega
    try refine qy ?_
    repeat refine qq ?_
    refine EvC.cond (v := false) (by dsimp only [Fr.ev, Fr.get, nth, Go.V.look]; rw [hcc]) (fun h => by cases h) (fun _ => ?_)
    try refine qy ?_
    refine EvC.exit ?_
    try refine qy ?_
    refine ⟨fun i h => (by cases h), _, _, _, rfl, rfl, ?_⟩
    rw [← hcode]
    exact ⟨rfl, cd, dk, hH.erase 4⟩
   | cons t ts =>
    simp only [Trs.len] at hi2 hmm
    simp only [Trs.sz] at hcl
    simp only [Trs.flat, List.length_append] at hsg hrm
    simp only [Trs.zs] at hsgz
    simp only [Trs.es] at hsge
    simp only [Trs.ok] at hrok
    simp only [catT] at hcode
    have htz := t.zs_len
    have hte := t.es_len j
    have htc := codeT_len t code2.length hrok.1
    have hr11 := int_get (es_head hsge.left)
    have hcc : decide ((i : Int) < n.kids) = true := by rw [decide_eq_true_eq]; omega
    try refine qy ?_
    repeat refine qq ?_
    refine EvC.cond (v := true) (by dsimp only [Fr.ev, Fr.get, nth, Go.V.look]; rw [hcc]) (fun _ => ?_) (fun h => by cases h)
    try refine qy ?_
    refine EvC.skip ?_
    try refine qy ?_
    repeat refine qq ?_
    refine EvC.block ?_
    try refine qy ?_
    repeat refine qq ?_
    try generalize hK : SeqQ _ _ _ _ = K
    refine EvC.reg ?_
    refine qm ?_
    refine qm ?_
    obtain ⟨_, st, hev, rfl, cd, dk, hH⟩ := ih t (by omega) hF hnd hsg.left hsgz.left hsge.left hrok.1 (by omega) ⟨cd, dk, hH⟩
    refine EvO.hcall rfl rfl hev (put_T rfl _) ?_
    refine EvO.nil ?_
    try subst hK
    try refine qy ?_
    repeat refine qq ?_
    try generalize hK : SeqQ _ _ _ _ = K
    refine EvC.reg ?_
    refine qm ?_
    refine qg ?_
    refine qp (o := 3) ?_
    refine ql hH at0 ?_
    refine qm ?_
    refine qi hH at3 fun p49 hp49 => ?_
    refine qo hH at3 ?_
    refine qm ?_
    refine EvO.nil ?_
    try subst hK
    try refine qy ?_
    repeat refine qq ?_
    try generalize hK : SeqQ _ _ _ _ = K
    refine EvC.reg ?_
    refine qA ?_
    refine qm ?_
    refine EvO.nil ?_
    try subst hK
    try refine qy ?_
    exact ⟨mm - 1, by omega, ⟨i + 1, j + t.flat.length, ts, cd, dk, code2 ++ codeT t code2.length, rfl, hH, by omega, by omega, hsg.right, by rw [← htz]; exact hsgz.right, by rw [← hte]; rw [← hte] at hsge; exact hsge.right, hrok.2, by rw [List.length_append, htc, List.append_assoc]; exact hcode, by rw [List.length_append, htc]; omega, by omega⟩⟩
  try refine qy ?_
  repeat refine qq ?_
  try generalize hK : SeqQ _ _ _ _ = K
  refine EvC.reg ?_
  refine qg ?_
  refine qm ?_
  refine EvO.nil ?_
  try subst hK
  try refine qy ?_
  repeat refine qq ?_
  refine qc (fun q4 => ?_) (fun q4 => ?_) <;> try simp only [cs] at q4
  ·have hcT : codeT (.mk n ks) code.length = altT (jpI (code.length + nodSz n ks.sz ks.len)) ks code.length := by simp only [codeT, if_neg q2, if_neg q7, if_neg q8, if_neg q3, if_pos q4]
   rw [hcT]
   try refine qy ?_
   repeat refine qq ?_
   try generalize hK : SeqQ _ _ _ _ = K
   refine EvC.reg ?_
   refine qm ?_
   refine qm ?_
   obtain ⟨_, st, hev, rfl, cd, dk, hH⟩ := alt_ev hll ih q4 (by omega) hno hks hF hnd hsl hsz.tail hse.tail hb ⟨cd, dk, hH⟩
   refine EvO.hcall rfl rfl hev (put_T rfl _) ?_
   refine EvO.nil ?_
   try subst hK
   try refine qy ?_
   refine ⟨fun i h => (by cases h), _, _, _, rfl, rfl, ?_⟩
   exact ⟨rfl, cd, dk, hH.erase 4⟩
  try refine qy ?_
  repeat refine qq ?_
  try generalize hK : SeqQ _ _ _ _ = K
  refine EvC.reg ?_
  refine qg ?_
  refine qm ?_
  refine EvO.nil ?_
  try subst hK
  try refine qy ?_
  repeat refine qq ?_
  refine qc (fun q5 => ?_) (fun q5 => ?_) <;> try simp only [cs] at q5
  ·have hk1 : ks.len = 1 := by
    obtain ⟨_, hq⟩ := hno; omega
   obtain ⟨t, rfl⟩ := Trs.len_one hk1
   have hcT : codeT (.mk n (.cons t .nil)) code.length = rptC n (codeT t) t.sz code.length := by simp only [codeT, if_neg q2, if_neg q7, if_neg q8, if_neg q3, if_neg q4, if_pos q5, catT_one, sz_one]
   rw [hcT]
   rw [hk1] at hno hb
   rw [sz_one] at hb
   simp only [Trs.flat, Trs.zs, Trs.es, Trs.ok, List.append_nil] at *
   try refine qy ?_
   repeat refine qq ?_
   try generalize hK : SeqQ _ _ _ _ = K
   refine EvC.reg ?_
   refine qm ?_
   refine qm ?_
   obtain ⟨_, st, hev, rfl, cd, dk, hH⟩ := repeat_ev hll ih q5 (by omega) hno hks.1 hF hnd hsl hsz.tail hse.tail hb ⟨cd, dk, hH⟩
   refine EvO.hcall rfl rfl hev (put_T rfl _) ?_
   refine EvO.nil ?_
   try subst hK
   try refine qy ?_
   refine ⟨fun i h => (by cases h), _, _, _, rfl, rfl, ?_⟩
   exact ⟨rfl, cd, dk, hH.erase 4⟩
  try refine qy ?_
  repeat refine qq ?_
  try generalize hK : SeqQ _ _ _ _ = K
  refine EvC.reg ?_
  refine qg ?_
  refine qm ?_
  refine EvO.nil ?_
  try subst hK
  try refine qy ?_
  repeat refine qq ?_
  refine qc (fun q6 => ?_) (fun q6 => ?_) <;> try simp only [cs] at q6
  ·have hk1 : ks.len = 1 ∧ 1 ≤ n.cap ∧ n.cap ≤ 4 := by
    obtain ⟨_, hq⟩ := hno; omega
   obtain ⟨t, rfl⟩ := Trs.len_one hk1.1
   have hcT : codeT (.mk n (.cons t .nil)) code.length = mkI 4 (2 * n.cap) 0 [] :: (codeT t (code.length + 1) ++ [mkI 4 (2 * n.cap + 1) 0 []]) := by simp only [codeT, if_neg q2, if_neg q7, if_neg q8, if_neg q3, if_neg q4, if_neg q5, if_pos q6, catT_one]
   rw [hcT]
   have hz : nodSz n (Trs.cons t .nil).sz (Trs.cons t .nil).len = t.sz + 2 := by unfold nodSz; rw [if_neg (by omega), if_neg (by omega), if_pos q6, sz_one]
   rw [hz] at hb
   simp only [Trs.flat, Trs.zs, Trs.es, Trs.ok, List.append_nil] at hsl hsz hse hks hm
   try refine qy ?_
   repeat refine qq ?_
   try generalize hK : SeqQ _ _ _ _ = K
   refine EvC.reg ?_
   refine qm ?_
   refine qp (o := 5) ?_
   refine ql hH at4 ?_
   refine EvO.mulZ (z := (2 * n.cap)) rfl (ev rfl) (ev rfl) (by (try simp only [List.length_reverse, List.length_cons, List.length_nil, List.length_append, List.length_map, List.length_set]); rw [wrap_i64 (by omega) (by omega)] <;> omega) (put_T rfl _) ?_
   refine EvO.go (d := .agg [.int .i64 4, .int .i64 (2 * n.cap), .int .i64 0, .nul]) (st1 := _) rfl rfl rfl (put_T rfl _) ?_
   have hH := hH.nulE 2
   obtain ⟨_, st, hev, rfl, cd, dk, hH⟩ := add_ev (rs := []) hF (by omega) hH
   refine EvO.hcall rfl rfl hev (put_T rfl _) ?_
   refine EvO.nil ?_
   try subst hK
   try refine qy ?_
   have hcl1 : (code ++ [mkI 4 (2 * n.cap) 0 []]).length = code.length + 1 := by simp
   try refine qy ?_
   repeat refine qq ?_
   try generalize hK : SeqQ _ _ _ _ = K
   refine EvC.reg ?_
   refine qm ?_
   refine qm ?_
   refine qA ?_
   obtain ⟨_, st, hev, rfl, cd, dk, hH⟩ := ih t (by omega) hF hnd hsl.tail hsz.tail hse.tail hks.1 (by omega) ⟨cd, dk, hH⟩
   refine EvO.hcall rfl rfl hev (put_T rfl _) ?_
   refine EvO.nil ?_
   try subst hK
   try refine qy ?_
   rw [hcl1] at hH
   have hcl2 : (code ++ [mkI 4 (2 * n.cap) 0 []] ++ codeT t (code.length + 1)).length = code.length + 1 + t.sz := by rw [List.length_append, hcl1, codeT_len t _ hks.1]
   try refine qy ?_
   repeat refine qq ?_
   try generalize hK : SeqQ _ _ _ _ = K
   refine EvC.reg ?_
   refine qm ?_
   refine qp (o := 5) ?_
   refine ql hH at4 ?_
   refine EvO.mulZ (z := (2 * n.cap)) rfl (ev rfl) (ev rfl) (by (try simp only [List.length_reverse, List.length_cons, List.length_nil, List.length_append, List.length_map, List.length_set]); rw [wrap_i64 (by omega) (by omega)] <;> omega) (put_T rfl _) ?_
   refine EvO.addZ (z := (2 * n.cap + 1)) rfl (ev rfl) (ev rfl) (by (try simp only [List.length_reverse, List.length_cons, List.length_nil, List.length_append, List.length_map, List.length_set]); rw [wrap_i64 (by omega) (by omega)] <;> omega) (put_T rfl _) ?_
   refine EvO.go (d := .agg [.int .i64 4, .int .i64 (2 * n.cap + 1), .int .i64 0, .nul]) (st1 := _) rfl rfl rfl (put_T rfl _) ?_
   have hH := hH.nulE 2
   obtain ⟨_, st, hev, rfl, cd, dk, hH⟩ := add_ev (rs := []) hF (by omega) hH
   refine EvO.hcall rfl rfl hev (put_T rfl _) ?_
   refine EvO.nil ?_
   try subst hK
   try refine qy ?_
   have hfin : code ++ [mkI 4 (2 * n.cap) 0 []] ++ codeT t (code.length + 1) ++ [mkI 4 (2 * n.cap + 1) 0 []] = code ++ mkI 4 (2 * n.cap) 0 [] :: (codeT t (code.length + 1) ++ [mkI 4 (2 * n.cap + 1) 0 []]) := by simp
   rw [hfin] at hH
   refine ⟨fun i h => (by cases h), _, _, _, rfl, rfl, ?_⟩
   exact ⟨rfl, cd, dk, hH.erase 4⟩
  ·refine EvC.skip ?_
   try refine qy ?_
   have hcT : codeT (.mk n ks) code.length = [] := by simp only [codeT, if_neg q2, if_neg q7, if_neg q8, if_neg q3, if_neg q4, if_neg q5, if_neg q6]
   rw [hcT, List.append_nil]
   refine ⟨fun i h => (by cases h), _, _, _, rfl, rfl, ?_⟩
   exact ⟨rfl, cd, dk, hH.erase 4⟩
end Go.Proofs.Ytbdilgkfnacahaa
