/-
 The code of an alternative and of a repeat. %deep
-/
import Derived.Test.YtbdilgkfnacahaaQf
namespace Go.Proofs.Ytbdilgkfnacahaa
open Go.V Go
set_option maxRecDepth 100000
set_option maxHeartbeats 4000000
set_option linter.unusedSimpArgs false
set_option linter.unusedVariables false

/-- what a frame holds at a slot -/
def ixF_Qg (fr : Go.V.Fr) (k : Nat) : Go.V.D := Go.V.nth .junk fr.loc k

def natC (n : Nat) : List D := [.int .i64 (n : Nat)]
theorem natC_get {l : List Nat} {i q : Nat} (h : l[i]? = some q) : (l.map natC)[i]? = some (natC q) := by rw [List.getElem?_map, h]; rfl

/-- what the maker has: the code, the nodes, their sizes and ends -/
def MkH (N : Nat) (S st : St) (k : Nat) (nd zd ed : D) (Z E : List Int) (H : List Ent) (code : List PIns) : Prop :=
 ∃ cd ks, Has N S st (.box k (.mem 0 false [cd, nd, zd, ed]) :: .deep ks cd 4 (code.map insC) :: .lst zd 1 (Z.map intC) :: .lst ed 1 (E.map intC) :: H)

/-- a node's code is put behind -/
def NodeSpec (l : List Nod) (t : Tr) : Prop := ∀ {N k : Nat} {S s0 : St} {H : List Ent} {nd zd ed : D} {code : List PIns} {Z E : List Int} {at_ : Nat}, S.flr ≤ N → SlD nd 7 (l.map nodC) → Seg l at_ t.flat → Seg Z at_ t.zs → Seg E at_ (t.es at_) → t.ok → code.length + t.sz ≤ 1000000 → MkH N S s0 k nd zd ed Z E H code →
 ∃ r st', Ev pv 40 [.ptr k 0 0, .int .i64 (at_ : Nat)] s0 r st' ∧ r = .tup [] ∧ MkH N S st' k nd zd ed Z E H (code ++ codeT t code.length)

theorem es_head {E : List Int} {t : Tr} {a : Nat} (h : Seg E a (t.es a)) : E[a]? = some ((a + t.flat.length : Nat) : Int) := by
 obtain ⟨n, ks⟩ := t
 simp only [Tr.es] at h
 rw [h.head]
 simp only [Tr.flat, List.length_cons]
 congr 2; omega
theorem zs_head {Z : List Int} {t : Tr} {a : Nat} (h : Seg Z a t.zs) : Z[a]? = some ((min t.sz 401 : Nat) : Int) := by
 obtain ⟨n, ks⟩ := t
 simp only [Tr.zs] at h
 rw [h.head]; rfl

theorem alt_ev {l : List Nod} (hll : l.length ≤ 1048576) {m : Nat} (ih : ∀ t : Tr, t.flat.length ≤ m → NodeSpec l t) {n : Nod} {ks : Trs} (hop : n.op = 4) (hkm : ks.flat.length ≤ m) (hno : nodOk n ks.len) (hks : ks.ok) {N k : Nat} {S s0 : St} {H : List Ent} {nd zd ed : D} {code : List PIns} {Z E : List Int} {at_ : Nat} (hF : S.flr ≤ N) (hnd : SlD nd 7 (l.map nodC)) (hsl : Seg l at_ (n :: ks.flat)) (hsz : Seg Z (at_ + 1) ks.zs) (hse : Seg E (at_ + 1) (ks.es (at_ + 1))) (hb : code.length + nodSz n ks.sz ks.len ≤ 1000000) (hM : MkH N S s0 k nd zd ed Z E H code) :
  ∃ r st', Ev pv 61 [.ptr k 0 0, .int .i64 (at_ : Nat)] s0 r st' ∧ r = .tup [] ∧ MkH N S st' k nd zd ed Z E H (code ++ altT (jpI (code.length + nodSz n ks.sz ks.len)) ks code.length) := by
 obtain ⟨cd, dk, hH⟩ := hM
 have hle := hsl.le (by simp)
 simp only [List.length_cons] at hle
 have hn := hsl.head
 have hsl := hsl.tail
 have hr1 := nod_get hn
 have hkd := hno.1
 have hkl := Trs.len_le ks
 have hk2 : 2 ≤ ks.len := by
  obtain ⟨_, hq⟩ := hno; omega
 have hns : nodSz n ks.sz ks.len = ks.sz + 2 * (ks.len - 1) := by unfold nodSz; rw [if_neg (by omega), if_pos hop]
 rw [hns] at hb ⊢
 clear hns
 refine Ev.mkE rfl fi61 rfl rfl rfl ?_
 dsimp only [List.cons_append, List.nil_append, List.length, Nat.reduceSub, Nat.reduceAdd, List.replicate_succ, List.replicate_zero]
 change EvC _ _ _ _ s0 _
 have hc := hnd.arg N S
 try refine qy ?_
 repeat refine qq ?_
 try generalize hK : SeqQ _ _ _ _ = K
 refine EvC.reg ?_
 refine qm ?_
 refine EvO.nil ?_
 try subst hK
 try refine qy ?_
 repeat refine qq ?_
 try generalize hK : SeqQ _ _ _ _ = K
 refine EvC.reg ?_
 refine qm ?_
 refine qA ?_
 refine qm ?_
 refine EvO.nil ?_
 try subst hK
 try refine qy ?_
 repeat refine qq ?_
 try generalize hK : SeqQ _ _ _ _ = K
 refine EvC.reg ?_
 refine qm ?_
 refine qg ?_
 refine qp (o := 1) ?_
 refine ql hH at0 ?_
 refine qm ?_
 refine qr fun p17 hp17 => ?_
 refine qf (fo := 6) fun p18 hp18 => ?_
 refine qR ?_
 refine qm ?_
 refine EvO.nil ?_
 try subst hK
 try refine qy ?_
 have hH : Has N S s0 (.box k (.mem 0 false [cd, nd, zd, ed]) :: .deep dk cd 4 (code.map insC) :: .lst zd 1 (Z.map intC) :: .lst ed 1 (E.map intC) :: .lst .nul 1 (([] : List Nat).map natC) :: H) := (hH.nulE 1).rot5
 try refine qy ?_
 repeat refine qq ?_
 refine EvC.block ?_
 refine EvC.loop (fun mm fr st => ∃ (i j : Nat) (rest : Trs) (cd jd : D) (dk : Nat → Prop) (code2 : List PIns) (js : List Nat), fr.clean = ⟨68, [.ptr k 0 0, .int .i64 (at_ : Nat), ixF_Qg fr 2, ixF_Qg fr 3, jd, .int .i64 (j : Nat), ixF_Qg fr 6, ixF_Qg fr 7, ixF_Qg fr 8, ixF_Qg fr 9, ixF_Qg fr 10, ixF_Qg fr 11, ixF_Qg fr 12, ixF_Qg fr 13, ixF_Qg fr 14, ixF_Qg fr 15, ixF_Qg fr 16, ixF_Qg fr 17, ixF_Qg fr 18, .int .i64 n.kids, .int .i64 (i : Nat), ixF_Qg fr 21, ixF_Qg fr 22, ixF_Qg fr 23, ixF_Qg fr 24, ixF_Qg fr 25, ixF_Qg fr 26, ixF_Qg fr 27, ixF_Qg fr 28, ixF_Qg fr 29, ixF_Qg fr 30, ixF_Qg fr 31, ixF_Qg fr 32, ixF_Qg fr 33, ixF_Qg fr 34, ixF_Qg fr 35, ixF_Qg fr 36, ixF_Qg fr 37, ixF_Qg fr 38, ixF_Qg fr 39, ixF_Qg fr 40, ixF_Qg fr 41, ixF_Qg fr 42, ixF_Qg fr 43, ixF_Qg fr 44, ixF_Qg fr 45, ixF_Qg fr 46, ixF_Qg fr 47, ixF_Qg fr 48, ixF_Qg fr 49, ixF_Qg fr 50, ixF_Qg fr 51, ixF_Qg fr 52, ixF_Qg fr 53, ixF_Qg fr 54, ixF_Qg fr 55, ixF_Qg fr 56, ixF_Qg fr 57, ixF_Qg fr 58, ixF_Qg fr 59, ixF_Qg fr 60, ixF_Qg fr 61, ixF_Qg fr 62, ixF_Qg fr 63, ixF_Qg fr 64, ixF_Qg fr 65, ixF_Qg fr 66, ixF_Qg fr 67], []⟩ ∧ Has N S st (.box k (.mem 0 false [cd, nd, zd, ed]) :: .deep dk cd 4 (code2.map insC) :: .lst zd 1 (Z.map intC) :: .lst ed 1 (E.map intC) :: .lst jd 1 (js.map natC) :: H) ∧ (mm = rest.len) ∧ (i + rest.len = ks.len) ∧ (0 < rest.len) ∧ (Seg l j rest.flat) ∧ (Seg Z j rest.zs) ∧ (Seg E j (rest.es j)) ∧ (rest.ok) ∧ (code2 ++ altT (jpI 0) rest code2.length = code ++ altT (jpI 0) ks code.length) ∧ (js ++ altJ rest code2.length = altJ ks code.length) ∧ (code2.length + (rest.sz + 2 * (rest.len - 1)) = code.length + (ks.sz + 2 * (ks.len - 1))) ∧ (rest.flat.length ≤ m) ∧ (js.length ≤ i)) (ks.len) ?_ ?_
 ·exact ⟨0, at_ + 1, ks, cd, .nul, dk, code, [], rfl, hH, rfl, by omega, by omega, hsl, hsz, hse, hks, rfl, rfl, rfl, hkm, by simp⟩
 rintro mm fr st ⟨i, j, rest, cd, jd, dk, code2, js, hfr, hH, hmm, hi2, hr0, hsg, hsgz, hsge, hrok, hcode, hjs, hcl, hrm, hjl⟩
 rw [hfr]
 clear hfr
 try generalize ixF_Qg fr = ee
 clear fr
 try refine qy ?_
 repeat refine qq ?_
 try generalize hK : SeqQ _ _ _ _ = K
 refine EvC.reg ?_
 refine qg ?_
 refine EvO.nil ?_
 try subst hK
 try refine qy ?_
 cases rest with
 | nil => simp [Trs.len] at hr0
 | cons t ts =>
  simp only [Trs.len] at hi2 hmm hcl
  simp only [Trs.sz] at hcl
  simp only [Trs.flat, List.length_append] at hsg hrm
  simp only [Trs.zs] at hsgz
  simp only [Trs.es] at hsge
  simp only [Trs.ok] at hrok
  have htz := t.zs_len
  have hte := t.es_len j
  have htc := codeT_len t (code2.length + 1) hrok.1
  have hr11 := int_get (es_head hsge.left)
  have hcc : decide ((i : Int) < n.kids) = true := by rw [decide_eq_true_eq]; omega
  try refine qy ?_
  repeat refine qq ?_
  refine EvC.cond (v := true) (by dsimp only [Fr.ev, Fr.get, nth, Go.V.look]; rw [hcc]) (fun _ => ?_) (fun h => by cases h)
  try refine qy ?_
  refine EvC.skip ?_
  try refine qy ?_
  repeat refine qq ?_
  refine EvC.block ?_
  try refine qy ?_
  repeat refine qq ?_
  try generalize hK : SeqQ _ _ _ _ = K
  refine EvC.reg ?_
  refine qm ?_
  refine qm ?_
  refine EvO.nil ?_
  try subst hK
  try refine qy ?_
  repeat refine qq ?_
  try generalize hK : SeqQ _ _ _ _ = K
  refine EvC.reg ?_
  refine qm ?_
  refine qm ?_
  refine qg ?_
  refine qp (o := 1) ?_
  refine ql hH at0 ?_
  refine qm ?_
  refine qr fun p29 hp29 => ?_
  refine qf (fo := 6) fun p30 hp30 => ?_
  refine qR ?_
  refine EvO.subZ (z := ((ks.len - 1 : Nat) : Int)) rfl (ev rfl) (ev rfl) (by (try simp only [List.length_reverse, List.length_cons, List.length_nil, List.length_append, List.length_map, List.length_set]); rw [wrap_i64 (by omega) (by omega)] <;> omega) (by dsimp only [Fr.put, List.set_cons_succ, List.set_cons_zero] <;> rfl) ?_
  refine qg ?_
  refine EvO.nil ?_
  try subst hK
  try refine qy ?_
  by_cases hlast : ts.len = 0
  ·simp only [altT, altJ, if_pos hlast, List.append_nil] at hcode hjs
   have htn := Trs.len_nil hlast
   subst htn
   simp only [Trs.sz, Trs.len] at hcl hi2
   have hcc2 : (((i : Nat) : Int) == ((ks.len - 1 : Nat) : Int)) = true := by rw [beq_iff_eq]; omega
   try refine qy ?_
   repeat refine qq ?_
   refine EvC.cond (v := true) (by dsimp only [Fr.ev, Fr.get, nth, Go.V.look]; rw [hcc2]) (fun _ => ?_) (fun h => by cases h)
   try refine qy ?_
   repeat refine qq ?_
   try generalize hK : SeqQ _ _ _ _ = K
   refine EvC.reg ?_
   refine qm ?_
   refine qm ?_
   obtain ⟨_, st, hev, rfl, cd, dk, hH⟩ := ih t (by omega) hF hnd hsg.left hsgz.left hsge.left hrok.1 (by omega) ⟨cd, dk, hH⟩
   refine EvO.hcall rfl rfl hev (by dsimp only [Fr.put, List.set_cons_succ, List.set_cons_zero] <;> rfl) ?_
   refine EvO.nil ?_
   try subst hK
   try refine qy ?_
   refine EvC.exit ?_
   try refine qy ?_
   repeat refine qq ?_
   try generalize hK : SeqQ _ _ _ _ = K
   refine EvC.reg ?_
   refine qm ?_
   refine qn ?_ (hR := hH.rows at4)
   try simp only [List.length_map, List.length_append, List.length_cons, List.length_nil, List.length_set, List.length_replicate, List.length_reverse]
   refine qm ?_
   refine EvO.nil ?_
   try subst hK
   try refine qy ?_
   rw [hcode] at hH
   have hal := altT_len (jpI 0) ks code.length hks
   obtain ⟨hp1, hp2⟩ := alt_patch (jp := jpI (code.length + (ks.sz + 2 * (ks.len - 1)))) (i0 := jpI 0) ks code.length code [] hks rfl
   simp only [List.append_nil] at hp1 hp2
   have hC0 : (code ++ altT (jpI 0) ks code.length).length = code.length + (ks.sz + 2 * (ks.len - 1)) := by rw [List.length_append, hal]
   rw [← hjs] at hp1 hp2
   rw [← hp1]
   clear hp1 hcode
   generalize code ++ altT (jpI 0) ks code.length = C0 at *
   generalize code.length + (ks.sz + 2 * (ks.len - 1)) = e at *
   try refine qy ?_
   repeat refine qq ?_
   refine EvC.block ?_
   refine EvC.loop (fun mm fr st => ∃ (q : Nat) (C : List PIns), fr.clean = ⟨68, [.ptr k 0 0, ixF_Qg fr 1, ixF_Qg fr 2, ixF_Qg fr 3, ixF_Qg fr 4, ixF_Qg fr 5, ixF_Qg fr 6, ixF_Qg fr 7, ixF_Qg fr 8, ixF_Qg fr 9, ixF_Qg fr 10, ixF_Qg fr 11, ixF_Qg fr 12, ixF_Qg fr 13, ixF_Qg fr 14, ixF_Qg fr 15, ixF_Qg fr 16, ixF_Qg fr 17, ixF_Qg fr 18, ixF_Qg fr 19, ixF_Qg fr 20, ixF_Qg fr 21, ixF_Qg fr 22, ixF_Qg fr 23, ixF_Qg fr 24, ixF_Qg fr 25, ixF_Qg fr 26, ixF_Qg fr 27, ixF_Qg fr 28, ixF_Qg fr 29, ixF_Qg fr 30, ixF_Qg fr 31, ixF_Qg fr 32, ixF_Qg fr 33, ixF_Qg fr 34, ixF_Qg fr 35, ixF_Qg fr 36, ixF_Qg fr 37, ixF_Qg fr 38, ixF_Qg fr 39, ixF_Qg fr 40, ixF_Qg fr 41, ixF_Qg fr 42, ixF_Qg fr 43, ixF_Qg fr 44, ixF_Qg fr 45, ixF_Qg fr 46, ixF_Qg fr 47, ixF_Qg fr 48, ixF_Qg fr 49, ixF_Qg fr 50, ixF_Qg fr 51, ixF_Qg fr 52, ixF_Qg fr 53, ixF_Qg fr 54, ixF_Qg fr 55, ixF_Qg fr 56, ixF_Qg fr 57, ixF_Qg fr 58, ixF_Qg fr 59, ixF_Qg fr 60, ixF_Qg fr 61, ixF_Qg fr 62, ixF_Qg fr 63, ixF_Qg fr 64, jd, .int .i64 (js.length : Nat), .int .i64 (q : Nat)], []⟩ ∧ Has N S st (.box k (.mem 0 false [cd, nd, zd, ed]) :: .deep dk cd 4 (C.map insC) :: .lst zd 1 (Z.map intC) :: .lst ed 1 (E.map intC) :: .lst jd 1 (js.map natC) :: H) ∧ (q + mm = js.length) ∧ (setAll (fun _ => jpI e) C (js.drop q) = setAll (fun _ => jpI e) C0 js) ∧ (∀ p ∈ js, ∃ v : Int, C[p]? = some (mkI 3 v 0 [])) ∧ (C.length = e)) (js.length) ?_ ?_
   ·exact ⟨0, C0, rfl, hH, by omega, rfl, fun p hp => ⟨_, hp2 p hp⟩, hC0⟩
   rintro mm fr st ⟨q, C, hfr, hH, hq, hset, hall, hCl⟩
   rw [hfr]
   clear hfr
   try generalize ixF_Qg fr = ee
   clear fr
   try refine qy ?_
   repeat refine qq ?_
   try generalize hK : SeqQ _ _ _ _ = K
   refine EvC.reg ?_
   refine qg ?_
   refine EvO.nil ?_
   try subst hK
   try refine qy ?_
   repeat refine qq ?_
   refine qc (fun hlt => ?_) (fun hlt => ?_) <;> try simp only [cs] at hlt
   ·refine EvC.skip ?_
    try refine qy ?_
    have hql : q < js.length := by omega
    obtain ⟨p, hp⟩ : ∃ p, js[q]? = some p := ⟨js[q]'hql, List.getElem?_eq_getElem _⟩
    obtain ⟨v, hv⟩ := hall p (List.mem_of_getElem? hp)
    have hr1 := natC_get hp
    have hr2 := ins_get hv
    have hpl := lt_get hv
    try refine qy ?_
    repeat refine qq ?_
    refine EvC.block ?_
    try refine qy ?_
    repeat refine qq ?_
    try generalize hK : SeqQ _ _ _ _ = K
    refine EvC.reg ?_
    refine qi hH at4 fun p69 hp69 => ?_
    refine qo hH at4 ?_
    refine qm ?_
    refine EvO.nil ?_
    try subst hK
    try refine qy ?_
    repeat refine qq ?_
    try generalize hK : SeqQ _ _ _ _ = K
    refine EvC.reg ?_
    refine qm ?_
    refine qg ?_
    refine qp (o := 0) ?_
    refine ql hH at0 ?_
    refine qm ?_
    refine qm ?_
    refine qg ?_
    refine qp (o := 0) ?_
    refine ql hH at0 ?_
    refine EvO.dlen hH rfl (ev rfl) (by exact at1) rfl (put_T rfl _) ?_
    try simp only [List.length_map, List.length_append, List.length_cons, List.length_nil, List.length_set, List.length_replicate, List.length_reverse]
    refine EvO.didx (s := 4) hH rfl (ev rfl) (ev rfl) (by exact at1) rfl rfl (by exact lt_get (by assumption)) (fun _ => (put_T rfl _)) (fun p81 hp81 => ?_)
    refine EvO.ofieldN (fo := 1) (m := 0) (o2 := 1) rfl (ev rfl) (by assumption) rfl rfl rfl (fun _ => (put_T rfl _)) (fun p82 hp82 => ?_)
    refine EvO.dstore hH rfl (ev rfl) (ev rfl) (by assumption) rfl rfl (by exact at1) (by assumption) (Nat.le_of_ble_eq_true rfl) (by intro d hd; simp only [List.mem_cons, List.not_mem_nil, or_false] at hd; subst hd; rfl) (by exact .inl hF) (fun st hH => ?_)
    try dsimp only [u2, u1, u3, u4, setMany, u5, u6, D.cells, Nat.reduceAdd, insC, nodC, intC, natC] at hH
    refine EvO.nil ?_
    try subst hK
    try refine qy ?_
    repeat refine qq ?_
    try generalize hK : SeqQ _ _ _ _ = K
    refine EvC.reg ?_
    refine qA ?_
    refine qm ?_
    refine EvO.nil ?_
    try subst hK
    try refine qy ?_
    have hdr : js.drop q = p :: js.drop (q + 1) := by
     rw [List.drop_eq_getElem_cons hql]
     congr 1
     exact Option.some.inj ((List.getElem?_eq_getElem _).symm.trans hp)
    refine ⟨mm - 1, by omega, ⟨q + 1, C.set p (jpI e), rfl, (by rw [List.map_set, ← hCl]; exact hH), by omega, by rw [hdr] at hset; exact hset, ?_, by rw [List.length_set]; exact hCl⟩⟩
    intro p' hp'
    by_cases hpp : p' = p
    ·subst hpp; exact ⟨_, List.getElem?_set_self hpl⟩
    ·rw [List.getElem?_set_ne (fun e => hpp e.symm)]; exact hall p' hp'
   ·try refine qy ?_
    refine EvC.exit ?_
    try refine qy ?_
    refine ⟨fun i h => (by cases h), _, _, _, rfl, rfl, ?_⟩
    have hq2 : q = js.length := by omega
    rw [hq2, List.drop_length] at hset
    have hset : C = setAll (fun _ => jpI e) C0 js := hset
    rw [← hset]
    exact ⟨rfl, cd, dk, hH.erase 4⟩
  ·simp only [altT, altJ, if_neg hlast] at hcode hjs
   have hcc2 : (((i : Nat) : Int) == ((ks.len - 1 : Nat) : Int)) = false := by rw [beq_eq_false_iff_ne]; omega
   try refine qy ?_
   repeat refine qq ?_
   refine EvC.cond (v := false) (by dsimp only [Fr.ev, Fr.get, nth, Go.V.look]; rw [hcc2]) (fun h => by cases h) (fun _ => ?_)
   try refine qy ?_
   refine EvC.skip ?_
   try refine qy ?_
   repeat refine qq ?_
   try generalize hK : SeqQ _ _ _ _ = K
   refine EvC.reg ?_
   refine qm ?_
   refine EvO.go (d := .agg [.int .i64 2, .int .i64 0, .int .i64 0, .nul]) (st1 := _) rfl rfl rfl (by dsimp only [Fr.put, List.set_cons_succ, List.set_cons_zero] <;> rfl) ?_
   have hH := hH.nulE 2
   obtain ⟨_, st, hev, rfl, cd, dk, hH⟩ := add_ev (rs := []) hF (by omega) hH
   refine EvO.hcall rfl rfl hev (by dsimp only [Fr.put, List.set_cons_succ, List.set_cons_zero] <;> rfl) ?_
   refine qm ?_
   refine EvO.nil ?_
   try subst hK
   try refine qy ?_
   have hcl1 : (code2 ++ [mkI 2 0 0 []]).length = code2.length + 1 := by simp
   try refine qy ?_
   repeat refine qq ?_
   try generalize hK : SeqQ _ _ _ _ = K
   refine EvC.reg ?_
   refine qm ?_
   refine qm ?_
   obtain ⟨_, st, hev, rfl, cd, dk, hH⟩ := ih t (by omega) hF hnd hsg.left hsgz.left hsge.left hrok.1 (by omega) ⟨cd, dk, hH⟩
   refine EvO.hcall rfl rfl hev (by dsimp only [Fr.put, List.set_cons_succ, List.set_cons_zero] <;> rfl) ?_
   refine EvO.nil ?_
   try subst hK
   try refine qy ?_
   rw [hcl1] at hH
   have hcl2 : (code2 ++ [mkI 2 0 0 []] ++ codeT t (code2.length + 1)).length = code2.length + 1 + t.sz := by rw [List.length_append, hcl1, htc]
   try refine qy ?_
   repeat refine qq ?_
   try generalize hK : SeqQ _ _ _ _ = K
   refine EvC.reg ?_
   refine qm ?_
   refine qm ?_
   refine EvO.go (d := .agg [.int .i64 3, .int .i64 0, .int .i64 0, .nul]) (st1 := _) rfl rfl rfl (by dsimp only [Fr.put, List.set_cons_succ, List.set_cons_zero] <;> rfl) ?_
   have hH := hH.nulE 2
   obtain ⟨_, st, hev, rfl, cd, dk, hH⟩ := add_ev (rs := []) hF (by omega) hH
   refine EvO.hcall rfl rfl hev (by dsimp only [Fr.put, List.set_cons_succ, List.set_cons_zero] <;> rfl) ?_
   refine qh (s := 1) (vs := [_]) hH fun k47 st hk47 hH => ?_
   try dsimp only [u2, u1, u3, u4, setMany, u5, u6, D.cells, Nat.reduceAdd, insC, nodC, intC, natC] at hH
   refine qP hH at5 (hH.rows at0) fun x48 st hH => ?_
   try dsimp only [u2, u1, u3, u4, setMany, u5, u6, D.cells, Nat.reduceAdd, insC, nodC, intC, natC] at hH
   refine qm ?_
   refine EvO.nil ?_
   try subst hK
   try refine qy ?_
   have hH := hH.drop 1
   have hat3 : (code2 ++ [mkI 2 0 0 []] ++ codeT t (code2.length + 1) ++ [mkI 3 0 0 []])[code2.length]? = some (mkI 2 0 0 []) := by
    rw [List.append_assoc, List.append_assoc]; exact get_mid _ _ _
   have hcl3 : (code2 ++ [mkI 2 0 0 []] ++ codeT t (code2.length + 1) ++ [mkI 3 0 0 []]).length = code2.length + 1 + t.sz + 1 := by rw [List.length_append, hcl2]; rfl
   have hst3 : (code2 ++ [mkI 2 0 0 []] ++ codeT t (code2.length + 1) ++ [mkI 3 0 0 []]).set code2.length (spI code2.length (code2.length + 1 + t.sz + 1) false) = code2 ++ (spI code2.length (code2.length + 1 + t.sz + 1) false :: (codeT t (code2.length + 1) ++ [jpI 0])) := by
    rw [List.append_assoc, List.append_assoc]; exact set_mid _ _ _ _
   have hcl4 : (code2 ++ (spI code2.length (code2.length + 1 + t.sz + 1) false :: (codeT t (code2.length + 1) ++ [jpI 0]))).length = code2.length + t.sz + 2 := by rw [← hst3, List.length_set, hcl3]; omega
   generalize code2 ++ [mkI 2 0 0 []] ++ codeT t (code2.length + 1) ++ [mkI 3 0 0 []] = code3 at *
   try refine qy ?_
   repeat refine qq ?_
   try generalize hK : SeqQ _ _ _ _ = K
   refine EvC.reg ?_
   refine qm ?_
   refine qm ?_
   refine qm ?_
   refine qg ?_
   refine qp (o := 0) ?_
   refine ql hH at0 ?_
   refine EvO.dlen hH rfl (ev rfl) (by exact at1) rfl (by dsimp only [Fr.put, List.set_cons_succ, List.set_cons_zero] <;> rfl) ?_
   try simp only [List.length_map, List.length_append, List.length_cons, List.length_nil, List.length_set, List.length_replicate, List.length_reverse]
   obtain ⟨_, st, hev, rfl, hH⟩ := split_ev (at_ := code2.length) (over := code3.length) (lz := false) hat3 (by omega) hH
   refine EvO.hcall rfl rfl hev (by dsimp only [Fr.put, List.set_cons_succ, List.set_cons_zero] <;> rfl) ?_
   refine EvO.nil ?_
   try subst hK
   try refine qy ?_
   rw [hcl3, hst3] at hH
   try refine qy ?_
   repeat refine qq ?_
   try generalize hK : SeqQ _ _ _ _ = K
   refine EvC.reg ?_
   refine qm ?_
   refine qg ?_
   refine qp (o := 3) ?_
   refine ql hH at0 ?_
   refine qm ?_
   refine qi hH at3 fun p62 hp62 => ?_
   refine qo hH at3 ?_
   refine qm ?_
   refine EvO.nil ?_
   try subst hK
   try refine qy ?_
   repeat refine qq ?_
   try generalize hK : SeqQ _ _ _ _ = K
   refine EvC.reg ?_
   refine qA ?_
   refine qm ?_
   refine EvO.nil ?_
   try subst hK
   try refine qy ?_
   exact ⟨mm - 1, by omega, ⟨i + 1, j + t.flat.length, ts, cd, x48, dk, code2 ++ (spI code2.length (code2.length + 1 + t.sz + 1) false :: (codeT t (code2.length + 1) ++ [jpI 0])), js ++ [code2.length + 1 + t.sz], rfl, (by rw [List.map_append (f := natC)]; rw [hcl2] at hH; exact hH), by omega, by omega, by omega, hsg.right, by rw [← htz]; exact hsgz.right, by rw [← hte]; rw [← hte] at hsge; exact hsge.right, hrok.2, by rw [hcl4, ← hcode]; simp only [List.append_assoc, List.cons_append, List.nil_append], by rw [hcl4, ← hjs]; simp only [List.append_assoc, List.cons_append, List.nil_append], by rw [hcl4]; omega, by omega, by rw [List.length_append]; simp only [List.length_cons, List.length_nil]; omega⟩⟩
end Go.Proofs.Ytbdilgkfnacahaa
