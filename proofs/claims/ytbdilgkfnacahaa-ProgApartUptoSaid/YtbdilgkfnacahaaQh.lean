/-
 The code of a repeat. %deep
-/
import Derived.Test.YtbdilgkfnacahaaQg
namespace Go.Proofs.Ytbdilgkfnacahaa
open Go.V Go
set_option maxRecDepth 100000
set_option maxHeartbeats 4000000
set_option linter.unusedSimpArgs false
set_option linter.unusedVariables false

/-- what a frame holds at a slot -/
def ixF_Qh (fr : Go.V.Fr) (k : Nat) : Go.V.D := Go.V.nth .junk fr.loc k

theorem repC_zero {c : Nat → List PIns} (hc : ∀ b, (c b).length = 0) (z : Nat) : ∀ k b, repC c z k b = []
 | 0, _ => rfl
 | k + 1, b => by rw [repC, repC_zero hc z k, List.length_eq_zero_iff.1 (hc b)]; rfl
theorem spI_form (s o : Nat) (lz : Bool) : ∃ x y : Int, spI s o lz = mkI 2 x y [] := by
 cases lz
 ·exact ⟨_, _, rfl⟩
 ·exact ⟨_, _, rfl⟩

theorem repeat_ev {l : List Nod} (hll : l.length ≤ 1048576) {m : Nat} (ih : ∀ t : Tr, t.flat.length ≤ m → NodeSpec l t) {n : Nod} {t : Tr} (hop : n.op = 5) (hkm : t.flat.length ≤ m) (hno : nodOk n 1) (htok : t.ok) {N k : Nat} {S s0 : St} {H : List Ent} {nd zd ed : D} {code : List PIns} {Z E : List Int} {at_ : Nat} (hF : S.flr ≤ N) (hnd : SlD nd 7 (l.map nodC)) (hsl : Seg l at_ (n :: t.flat)) (hsz : Seg Z (at_ + 1) t.zs) (hse : Seg E (at_ + 1) (t.es (at_ + 1))) (hb : code.length + nodSz n t.sz 1 ≤ 1000000) (hM : MkH N S s0 k nd zd ed Z E H code) :
  ∃ r st', Ev pv 62 [.ptr k 0 0, .int .i64 (at_ : Nat)] s0 r st' ∧ r = .tup [] ∧ MkH N S st' k nd zd ed Z E H (code ++ rptC n (codeT t) t.sz code.length) := by
 obtain ⟨cd, dk, hH⟩ := hM
 have hle := hsl.le (by simp)
 simp only [List.length_cons] at hle
 have hn := hsl.head
 have hsl := hsl.tail
 have hr1 := nod_get hn
 have hr2 := int_get (zs_head hsz)
 have hmn : 0 ≤ n.mn ∧ n.mn ≤ 30 ∧ (n.mx = -1 ∨ (n.mn ≤ n.mx ∧ n.mx ≤ 30)) := by
  obtain ⟨_, hq⟩ := hno; omega
 have hns : nodSz n t.sz 1 = if n.mx = -1 then n.mn.toNat * t.sz + t.sz + 2 else n.mn.toNat * t.sz + (n.mx.toNat - n.mn.toNat) * (t.sz + 1) := by unfold nodSz; rw [if_neg (by omega), if_neg (by omega), if_neg (by omega), if_pos hop]
 rw [hns] at hb
 clear hns
 have htc := fun b => codeT_len t b htok
 have hb1 : code.length + n.mn.toNat * t.sz ≤ 1000000 := by split at hb <;> omega
 refine Ev.mkE rfl fi62 rfl rfl rfl ?_
 dsimp only [List.cons_append, List.nil_append, List.length, Nat.reduceSub, Nat.reduceAdd, List.replicate_succ, List.replicate_zero]
 change EvC _ _ _ _ s0 _
 have hc := hnd.arg N S
 try refine qy ?_
 repeat refine qq ?_
 try generalize hK : SeqQ _ _ _ _ = K
 refine EvC.reg ?_
 refine qm ?_
 refine qg ?_
 refine qp (o := 1) ?_
 refine ql hH at0 ?_
 refine qm ?_
 refine qr fun p15 hp15 => ?_
 refine EvO.rloadS rfl (ev rfl) (by assumption) rfl (by dsimp only [Fr.put, List.set_cons_succ, List.set_cons_zero] <;> rfl) ?_
 refine qm ?_
 refine qA ?_
 refine qa hH fun k4 st hk4 hH => ?_
 try dsimp only [u2, u1, u3, u4, setMany, u5, u6, D.cells, Nat.reduceAdd, insC, nodC, intC, natC] at hH
 refine qS hH at0 fun st hH => ?_
 try dsimp only [u2, u1, u3, u4, setMany, u5, u6, D.cells, Nat.reduceAdd, insC, nodC, intC, natC] at hH
 refine qm ?_
 refine EvO.nil ?_
 try subst hK
 try refine qy ?_
 have hH : Has N S st (.box k (.mem 0 false [cd, nd, zd, ed]) :: .deep dk cd 4 (code.map insC) :: .lst zd 1 (Z.map intC) :: .lst ed 1 (E.map intC) :: .box k4 (.mem 0 false (nodC n)) :: H) := hH.rot5
 try refine qy ?_
 repeat refine qq ?_
 try generalize hK : SeqQ _ _ _ _ = K
 refine EvC.reg ?_
 refine qm ?_
 refine qg ?_
 refine qp (o := 2) ?_
 refine ql hH at0 ?_
 refine qm ?_
 refine qi hH at2 fun p24 hp24 => ?_
 refine qo hH at2 ?_
 refine qg ?_
 refine EvO.nil ?_
 try subst hK
 try refine qy ?_
 have hRl := repC_len htc n.mn.toNat code.length
 try refine qy ?_
 repeat refine qq ?_
 refine EvC.merge (fun fr st => ∃ (cd : D) (dk : Nat → Prop) (tmp : List (Nat × D)), fr = ⟨78, [.ptr k 0 0, .int .i64 (at_ : Nat), ixF_Qh fr 2, ixF_Qh fr 3, .ptr k4 0 0, .int .i64 ((at_ + 1 : Nat) : Int), ixF_Qh fr 6, ixF_Qh fr 7, ixF_Qh fr 8, ixF_Qh fr 9, ixF_Qh fr 10, ixF_Qh fr 11, ixF_Qh fr 12, ixF_Qh fr 13, ixF_Qh fr 14, ixF_Qh fr 15, ixF_Qh fr 16, ixF_Qh fr 17, ixF_Qh fr 18, ixF_Qh fr 19, ixF_Qh fr 20, ixF_Qh fr 21, ixF_Qh fr 22, ixF_Qh fr 23, ixF_Qh fr 24, ixF_Qh fr 25, ixF_Qh fr 26, ixF_Qh fr 27, ixF_Qh fr 28, ixF_Qh fr 29, ixF_Qh fr 30, ixF_Qh fr 31, ixF_Qh fr 32, ixF_Qh fr 33, ixF_Qh fr 34, ixF_Qh fr 35, ixF_Qh fr 36, ixF_Qh fr 37, ixF_Qh fr 38, ixF_Qh fr 39, ixF_Qh fr 40, ixF_Qh fr 41, ixF_Qh fr 42, ixF_Qh fr 43, ixF_Qh fr 44, ixF_Qh fr 45, ixF_Qh fr 46, ixF_Qh fr 47, ixF_Qh fr 48, ixF_Qh fr 49, ixF_Qh fr 50, ixF_Qh fr 51, ixF_Qh fr 52, ixF_Qh fr 53, ixF_Qh fr 54, ixF_Qh fr 55, ixF_Qh fr 56, ixF_Qh fr 57, ixF_Qh fr 58, ixF_Qh fr 59, ixF_Qh fr 60, ixF_Qh fr 61, ixF_Qh fr 62, ixF_Qh fr 63, ixF_Qh fr 64, ixF_Qh fr 65, ixF_Qh fr 66, ixF_Qh fr 67, ixF_Qh fr 68, ixF_Qh fr 69, ixF_Qh fr 70, ixF_Qh fr 71, ixF_Qh fr 72, ixF_Qh fr 73, ixF_Qh fr 74, ixF_Qh fr 75, ixF_Qh fr 76, ixF_Qh fr 77], tmp⟩ ∧ Has N S st (.box k (.mem 0 false [cd, nd, zd, ed]) :: .deep dk cd 4 ((code ++ repC (codeT t) t.sz n.mn.toNat code.length).map insC) :: .lst zd 1 (Z.map intC) :: .lst ed 1 (E.map intC) :: .box k4 (.mem 0 false (nodC n)) :: H)) ?_ ?_
 ·try refine qy ?_
  repeat refine qq ?_
  refine qc (fun hz => ?_) (fun hz => ?_) <;> try simp only [cs] at hz
  ·try refine qy ?_
   repeat refine qq ?_
   try generalize hK : SeqQ _ _ _ _ = K
   refine EvC.reg ?_
   refine qp (o := 2) ?_
   refine ql hH at4 ?_
   refine qm ?_
   refine EvO.nil ?_
   try subst hK
   try refine qy ?_
   repeat refine qq ?_
   refine EvC.block ?_
   refine EvC.loop (fun mm fr st => ∃ (i : Nat) (cd : D) (dk : Nat → Prop) (code2 : List PIns), fr.clean = ⟨78, [.ptr k 0 0, .int .i64 (at_ : Nat), ixF_Qh fr 2, ixF_Qh fr 3, .ptr k4 0 0, .int .i64 ((at_ + 1 : Nat) : Int), ixF_Qh fr 6, ixF_Qh fr 7, ixF_Qh fr 8, ixF_Qh fr 9, ixF_Qh fr 10, ixF_Qh fr 11, ixF_Qh fr 12, ixF_Qh fr 13, ixF_Qh fr 14, ixF_Qh fr 15, ixF_Qh fr 16, ixF_Qh fr 17, ixF_Qh fr 18, ixF_Qh fr 19, ixF_Qh fr 20, ixF_Qh fr 21, ixF_Qh fr 22, ixF_Qh fr 23, ixF_Qh fr 24, ixF_Qh fr 25, ixF_Qh fr 26, ixF_Qh fr 27, .int .i64 n.mn, .int .i64 (i : Nat), ixF_Qh fr 30, ixF_Qh fr 31, ixF_Qh fr 32, ixF_Qh fr 33, ixF_Qh fr 34, ixF_Qh fr 35, ixF_Qh fr 36, ixF_Qh fr 37, ixF_Qh fr 38, ixF_Qh fr 39, ixF_Qh fr 40, ixF_Qh fr 41, ixF_Qh fr 42, ixF_Qh fr 43, ixF_Qh fr 44, ixF_Qh fr 45, ixF_Qh fr 46, ixF_Qh fr 47, ixF_Qh fr 48, ixF_Qh fr 49, ixF_Qh fr 50, ixF_Qh fr 51, ixF_Qh fr 52, ixF_Qh fr 53, ixF_Qh fr 54, ixF_Qh fr 55, ixF_Qh fr 56, ixF_Qh fr 57, ixF_Qh fr 58, ixF_Qh fr 59, ixF_Qh fr 60, ixF_Qh fr 61, ixF_Qh fr 62, ixF_Qh fr 63, ixF_Qh fr 64, ixF_Qh fr 65, ixF_Qh fr 66, ixF_Qh fr 67, ixF_Qh fr 68, ixF_Qh fr 69, ixF_Qh fr 70, ixF_Qh fr 71, ixF_Qh fr 72, ixF_Qh fr 73, ixF_Qh fr 74, ixF_Qh fr 75, ixF_Qh fr 76, ixF_Qh fr 77], []⟩ ∧ Has N S st (.box k (.mem 0 false [cd, nd, zd, ed]) :: .deep dk cd 4 (code2.map insC) :: .lst zd 1 (Z.map intC) :: .lst ed 1 (E.map intC) :: .box k4 (.mem 0 false (nodC n)) :: H) ∧ (i + mm = n.mn.toNat) ∧ (code2 ++ repC (codeT t) t.sz mm code2.length = code ++ repC (codeT t) t.sz n.mn.toNat code.length) ∧ (code2.length + mm * t.sz = code.length + n.mn.toNat * t.sz)) (n.mn.toNat) ?_ ?_
   ·exact ⟨0, cd, dk, code, rfl, hH, by omega, rfl, rfl⟩
   rintro mm fr st ⟨i, cd, dk, code2, hfr, hH, hi, hc2, hcl⟩
   rw [hfr]
   clear hfr
   try generalize ixF_Qh fr = ee
   clear fr
   try refine qy ?_
   repeat refine qq ?_
   try generalize hK : SeqQ _ _ _ _ = K
   refine EvC.reg ?_
   refine qg ?_
   refine EvO.nil ?_
   try subst hK
   try refine qy ?_
   cases mm with
   | zero =>
    have hcc : decide ((i : Int) < n.mn) = false := by rw [decide_eq_false_iff_not]; omega
    try refine qy ?_
    repeat refine qq ?_
    refine EvC.cond (v := false) (by dsimp only [Fr.ev, Fr.get, nth, Go.V.look]; rw [hcc]) (fun h => by cases h) (fun _ => ?_)
    try refine qy ?_
    simp only [repC, List.append_nil] at hc2
    rw [hc2] at hH
    try refine qy ?_
    refine EvC.exit ?_
    try refine qy ?_
    exact ⟨cd, dk, _, rfl, hH⟩
   | succ mm =>
    have hcc : decide ((i : Int) < n.mn) = true := by rw [decide_eq_true_eq]; omega
    rw [Nat.succ_mul] at hcl
    try refine qy ?_
    repeat refine qq ?_
    refine EvC.cond (v := true) (by dsimp only [Fr.ev, Fr.get, nth, Go.V.look]; rw [hcc]) (fun _ => ?_) (fun h => by cases h)
    try refine qy ?_
    refine EvC.skip ?_
    try refine qy ?_
    repeat refine qq ?_
    refine EvC.block ?_
    try refine qy ?_
    repeat refine qq ?_
    try generalize hK : SeqQ _ _ _ _ = K
    refine EvC.reg ?_
    refine qm ?_
    refine qm ?_
    obtain ⟨_, st, hev, rfl, cd, dk, hH⟩ := ih t (by omega) hF hnd hsl hsz hse htok (by omega) ⟨cd, dk, hH⟩
    refine EvO.hcall rfl rfl hev (by dsimp only [Fr.put, List.set_cons_succ, List.set_cons_zero] <;> rfl) ?_
    refine EvO.nil ?_
    try subst hK
    try refine qy ?_
    repeat refine qq ?_
    try generalize hK : SeqQ _ _ _ _ = K
    refine EvC.reg ?_
    refine qA ?_
    refine qm ?_
    refine EvO.nil ?_
    try subst hK
    try refine qy ?_
    exact ⟨mm, by omega, ⟨i + 1, cd, dk, code2 ++ codeT t code2.length, rfl, hH, by omega, by rw [List.length_append, htc, List.append_assoc]; exact hc2, by rw [List.length_append, htc]; omega⟩⟩
  ·refine EvC.skip ?_
   try refine qy ?_
   have hz0 : t.sz = 0 := by omega
   have hR0 : repC (codeT t) t.sz n.mn.toNat code.length = [] := repC_zero (fun b => by rw [htc, hz0]) _ _ _
   exact ⟨cd, dk, _, rfl, (by rw [hR0, List.append_nil]; exact hH)⟩
 ·rintro fr st ⟨cd, dk, tmp, hfr, hH⟩
  rw [hfr]
  clear hfr
  try generalize ixF_Qh fr = ee
  clear fr
  try refine qy ?_
  have hcR : (code ++ repC (codeT t) t.sz n.mn.toNat code.length).length = code.length + n.mn.toNat * t.sz := by rw [List.length_append, hRl]
  unfold rptC
  rw [← hcR]
  rw [← hcR] at hb1
  have hb2 : if n.mx = -1 then (code ++ repC (codeT t) t.sz n.mn.toNat code.length).length + t.sz + 2 ≤ 1000000 else (code ++ repC (codeT t) t.sz n.mn.toNat code.length).length + (n.mx.toNat - n.mn.toNat) * (t.sz + 1) ≤ 1000000 := by
   rw [hcR]; split
   ·rename_i h; rw [if_pos h] at hb; omega
   ·rename_i h; rw [if_neg h] at hb; omega
  have happ : ∀ X : List PIns, code ++ (repC (codeT t) t.sz n.mn.toNat code.length ++ X) = code ++ repC (codeT t) t.sz n.mn.toNat code.length ++ X := fun X => by rw [List.append_assoc]
  simp only [apply_ite (fun X : List PIns => code ++ X), happ]
  clear happ hcR
  generalize code ++ repC (codeT t) t.sz n.mn.toNat code.length = cR at *
  try refine qy ?_
  repeat refine qq ?_
  try generalize hK : SeqQ _ _ _ _ = K
  refine EvC.reg ?_
  refine qp (o := 3) ?_
  refine ql hH at4 ?_
  refine qg ?_
  refine EvO.nil ?_
  try subst hK
  try refine qy ?_
  by_cases qmx : n.mx = -1
  ·rw [if_pos qmx]
   rw [if_pos qmx] at hb2
   try refine qy ?_
   repeat refine qq ?_
   refine EvC.cond (v := true) (by dsimp only [Fr.ev, Fr.get, nth, Go.V.look]; simp [qmx]) (fun _ => ?_) (fun h => by cases h)
   try refine qy ?_
   repeat refine qq ?_
   try generalize hK : SeqQ _ _ _ _ = K
   refine EvC.reg ?_
   refine qm ?_
   refine EvO.go (d := .agg [.int .i64 2, .int .i64 0, .int .i64 0, .nul]) (st1 := _) rfl rfl rfl (by dsimp only [Fr.put, List.set_cons_succ, List.set_cons_zero] <;> rfl) ?_
   have hH := hH.nulE 2
   obtain ⟨_, st, hev, rfl, cd, dk, hH⟩ := add_ev (rs := []) hF (by omega) hH
   refine EvO.hcall rfl rfl hev (by dsimp only [Fr.put, List.set_cons_succ, List.set_cons_zero] <;> rfl) ?_
   refine qm ?_
   refine EvO.nil ?_
   try subst hK
   try refine qy ?_
   have hcl1 : (cR ++ [mkI 2 0 0 []]).length = cR.length + 1 := by simp
   try refine qy ?_
   repeat refine qq ?_
   try generalize hK : SeqQ _ _ _ _ = K
   refine EvC.reg ?_
   refine qm ?_
   refine qm ?_
   obtain ⟨_, st, hev, rfl, cd, dk, hH⟩ := ih t (by omega) hF hnd hsl hsz hse htok (by omega) ⟨cd, dk, hH⟩
   refine EvO.hcall rfl rfl hev (by dsimp only [Fr.put, List.set_cons_succ, List.set_cons_zero] <;> rfl) ?_
   refine EvO.nil ?_
   try subst hK
   try refine qy ?_
   rw [hcl1] at hH
   have hcl2 : (cR ++ [mkI 2 0 0 []] ++ codeT t (cR.length + 1)).length = cR.length + 1 + t.sz := by rw [List.length_append, hcl1, htc]
   try refine qy ?_
   repeat refine qq ?_
   try generalize hK : SeqQ _ _ _ _ = K
   refine EvC.reg ?_
   refine qm ?_
   refine qm ?_
   refine EvO.go (d := .agg [.int .i64 3, .int .i64 (cR.length : Nat), .int .i64 0, .nul]) (st1 := _) rfl rfl rfl (by dsimp only [Fr.put, List.set_cons_succ, List.set_cons_zero] <;> rfl) ?_
   have hH := hH.nulE 2
   obtain ⟨_, st, hev, rfl, cd, dk, hH⟩ := add_ev (rs := []) hF (by omega) hH
   refine EvO.hcall rfl rfl hev (by dsimp only [Fr.put, List.set_cons_succ, List.set_cons_zero] <;> rfl) ?_
   refine EvO.nil ?_
   try subst hK
   try refine qy ?_
   have hat3 : (cR ++ [mkI 2 0 0 []] ++ codeT t (cR.length + 1) ++ [mkI 3 (cR.length : Nat) 0 []])[cR.length]? = some (mkI 2 0 0 []) := by
    rw [List.append_assoc, List.append_assoc]; exact get_mid _ _ _
   have hcl3 : (cR ++ [mkI 2 0 0 []] ++ codeT t (cR.length + 1) ++ [mkI 3 (cR.length : Nat) 0 []]).length = cR.length + t.sz + 2 := by rw [List.length_append, hcl2]; simp only [List.length_cons, List.length_nil]; omega
   have hst3 : (cR ++ [mkI 2 0 0 []] ++ codeT t (cR.length + 1) ++ [mkI 3 (cR.length : Nat) 0 []]).set cR.length (spI cR.length (cR.length + t.sz + 2) n.lz) = cR ++ (spI cR.length (cR.length + t.sz + 2) n.lz :: (codeT t (cR.length + 1) ++ [jpI cR.length])) := by
    rw [List.append_assoc, List.append_assoc]; exact set_mid _ _ _ _
   generalize cR ++ [mkI 2 0 0 []] ++ codeT t (cR.length + 1) ++ [mkI 3 (cR.length : Nat) 0 []] = code3 at *
   try refine qy ?_
   repeat refine qq ?_
   try generalize hK : SeqQ _ _ _ _ = K
   refine EvC.reg ?_
   refine qm ?_
   refine qm ?_
   refine qm ?_
   refine qg ?_
   refine qp (o := 0) ?_
   refine ql hH at0 ?_
   refine EvO.dlen hH rfl (ev rfl) (by exact at1) rfl (by dsimp only [Fr.put, List.set_cons_succ, List.set_cons_zero] <;> rfl) ?_
   try simp only [List.length_map, List.length_append, List.length_cons, List.length_nil, List.length_set, List.length_replicate, List.length_reverse]
   refine qp (o := 4) ?_
   refine ql hH at4 ?_
   obtain ⟨_, st, hev, rfl, hH⟩ := split_ev (at_ := cR.length) (over := code3.length) (lz := n.lz) hat3 (by omega) hH
   refine EvO.hcall rfl rfl hev (by dsimp only [Fr.put, List.set_cons_succ, List.set_cons_zero] <;> rfl) ?_
   refine EvO.nil ?_
   try subst hK
   try refine qy ?_
   rw [hcl3, hst3] at hH
   refine EvC.ret ⟨fun i h => (by cases h), _, _, _, rfl, rfl, ?_⟩
   exact ⟨rfl, cd, dk, hH.erase 4⟩
  ·rw [if_neg qmx]
   rw [if_neg qmx] at hb2
   try refine qy ?_
   repeat refine qq ?_
   refine EvC.cond (v := false) (by dsimp only [Fr.ev, Fr.get, nth, Go.V.look]; simp [qmx]) (fun h => by cases h) (fun _ => ?_)
   try refine qy ?_
   refine EvC.skip ?_
   try refine qy ?_
   obtain ⟨a, ha⟩ : ∃ a : Nat, n.mn = (a : Int) := Int.eq_ofNat_of_zero_le hmn.1
   obtain ⟨b, hb3⟩ : ∃ b : Nat, n.mx = (b : Int) := Int.eq_ofNat_of_zero_le (by omega)
   have hdd : n.mx.toNat - n.mn.toNat = b - a := by omega
   rw [hdd] at hb2 ⊢
   try refine qy ?_
   repeat refine qq ?_
   try generalize hK : SeqQ _ _ _ _ = K
   refine EvC.reg ?_
   refine qm ?_
   refine EvO.nil ?_
   try subst hK
   try refine qy ?_
   repeat refine qq ?_
   try generalize hK : SeqQ _ _ _ _ = K
   refine EvC.reg ?_
   refine qp (o := 3) ?_
   refine ql hH at4 ?_
   refine qp (o := 2) ?_
   refine ql hH at4 ?_
   refine EvO.subZ (z := ((b - a : Nat) : Int)) rfl (ev rfl) (ev rfl) (by (try simp only [List.length_reverse, List.length_cons, List.length_nil, List.length_append, List.length_map, List.length_set]); rw [wrap_i64 (by omega) (by omega)] <;> omega) (by dsimp only [Fr.put, List.set_cons_succ, List.set_cons_zero] <;> rfl) ?_
   refine qm ?_
   refine EvO.nil ?_
   try subst hK
   try refine qy ?_
   have hH : Has N S st (.box k (.mem 0 false [cd, nd, zd, ed]) :: .deep dk cd 4 (cR.map insC) :: .lst zd 1 (Z.map intC) :: .lst ed 1 (E.map intC) :: .lst .nul 1 (([] : List Nat).map natC) :: .box k4 (.mem 0 false (nodC n)) :: H) := (hH.nulE 1).rot5
   try refine qy ?_
   repeat refine qq ?_
   refine EvC.block ?_
   refine EvC.loop (fun mm fr st => ∃ (i : Nat) (cd jd : D) (dk : Nat → Prop) (code2 : List PIns) (js : List Nat), fr.clean = ⟨78, [.ptr k 0 0, .int .i64 (at_ : Nat), ixF_Qh fr 2, ixF_Qh fr 3, .ptr k4 0 0, .int .i64 ((at_ + 1 : Nat) : Int), ixF_Qh fr 6, jd, ixF_Qh fr 8, ixF_Qh fr 9, ixF_Qh fr 10, ixF_Qh fr 11, ixF_Qh fr 12, ixF_Qh fr 13, ixF_Qh fr 14, ixF_Qh fr 15, ixF_Qh fr 16, ixF_Qh fr 17, ixF_Qh fr 18, ixF_Qh fr 19, ixF_Qh fr 20, ixF_Qh fr 21, ixF_Qh fr 22, ixF_Qh fr 23, ixF_Qh fr 24, ixF_Qh fr 25, ixF_Qh fr 26, ixF_Qh fr 27, ixF_Qh fr 28, ixF_Qh fr 29, ixF_Qh fr 30, ixF_Qh fr 31, ixF_Qh fr 32, ixF_Qh fr 33, ixF_Qh fr 34, ixF_Qh fr 35, ixF_Qh fr 36, ixF_Qh fr 37, ixF_Qh fr 38, ixF_Qh fr 39, ixF_Qh fr 40, ixF_Qh fr 41, ixF_Qh fr 42, ixF_Qh fr 43, ixF_Qh fr 44, ixF_Qh fr 45, ixF_Qh fr 46, ixF_Qh fr 47, ixF_Qh fr 48, ixF_Qh fr 49, ixF_Qh fr 50, ixF_Qh fr 51, ixF_Qh fr 52, ixF_Qh fr 53, ixF_Qh fr 54, ixF_Qh fr 55, ixF_Qh fr 56, ixF_Qh fr 57, ixF_Qh fr 58, ixF_Qh fr 59, ixF_Qh fr 60, ixF_Qh fr 61, .int .i64 ((b - a : Nat) : Int), .int .i64 (i : Nat), ixF_Qh fr 64, ixF_Qh fr 65, ixF_Qh fr 66, ixF_Qh fr 67, ixF_Qh fr 68, ixF_Qh fr 69, ixF_Qh fr 70, ixF_Qh fr 71, ixF_Qh fr 72, ixF_Qh fr 73, ixF_Qh fr 74, ixF_Qh fr 75, ixF_Qh fr 76, ixF_Qh fr 77], []⟩ ∧ Has N S st (.box k (.mem 0 false [cd, nd, zd, ed]) :: .deep dk cd 4 (code2.map insC) :: .lst zd 1 (Z.map intC) :: .lst ed 1 (E.map intC) :: .lst jd 1 (js.map natC) :: .box k4 (.mem 0 false (nodC n)) :: H) ∧ (i + mm = b - a) ∧ (code2 ++ optC (fun _ => mkI 2 0 0 []) (codeT t) t.sz mm code2.length = cR ++ optC (fun _ => mkI 2 0 0 []) (codeT t) t.sz (b - a) cR.length) ∧ (js ++ optJ t.sz mm code2.length = optJ t.sz (b - a) cR.length) ∧ (code2.length + mm * (t.sz + 1) = cR.length + (b - a) * (t.sz + 1)) ∧ (js.length = i)) (b - a) ?_ ?_
   ·exact ⟨0, cd, .nul, dk, cR, [], rfl, hH, by omega, rfl, rfl, rfl, rfl⟩
   rintro mm fr st ⟨i, cd, jd, dk, code2, js, hfr, hH, hi, hcode, hjs, hcl, hjl⟩
   rw [hfr]
   clear hfr
   try generalize ixF_Qh fr = ee
   clear fr
   try refine qy ?_
   repeat refine qq ?_
   try generalize hK : SeqQ _ _ _ _ = K
   refine EvC.reg ?_
   refine qg ?_
   refine EvO.nil ?_
   try subst hK
   try refine qy ?_
   cases mm with
   | zero =>
    have hcc : decide ((i : Int) < ((b - a : Nat) : Int)) = false := by rw [decide_eq_false_iff_not]; omega
    try refine qy ?_
    repeat refine qq ?_
    refine EvC.cond (v := false) (by dsimp only [Fr.ev, Fr.get, nth, Go.V.look]; rw [hcc]) (fun h => by cases h) (fun _ => ?_)
    try refine qy ?_
    refine EvC.exit ?_
    try refine qy ?_
    repeat refine qq ?_
    try generalize hK : SeqQ _ _ _ _ = K
    refine EvC.reg ?_
    refine qm ?_
    refine qn ?_ (hR := hH.rows at4)
    try simp only [List.length_map, List.length_append, List.length_cons, List.length_nil, List.length_set, List.length_replicate, List.length_reverse]
    refine qm ?_
    refine EvO.nil ?_
    try subst hK
    try refine qy ?_
    simp only [optC, optJ, List.append_nil] at hcode hjs
    rw [hcode] at hH
    obtain ⟨hp1, hp2⟩ := opt_patch (sp := fun s => spI s (cR.length + (b - a) * (t.sz + 1)) n.lz) htc (i0 := mkI 2 0 0 []) (b - a) cR.length cR [] rfl
    simp only [List.append_nil] at hp1 hp2
    have hC0 : (cR ++ optC (fun _ => mkI 2 0 0 []) (codeT t) t.sz (b - a) cR.length).length = cR.length + (b - a) * (t.sz + 1) := by rw [List.length_append, optC_len htc]
    rw [← hjs] at hp1 hp2
    rw [← hp1]
    clear hp1 hcode
    generalize cR ++ optC (fun _ => mkI 2 0 0 []) (codeT t) t.sz (b - a) cR.length = C0 at *
    generalize cR.length + (b - a) * (t.sz + 1) = e at *
    try refine qy ?_
    repeat refine qq ?_
    refine EvC.block ?_
    refine EvC.loop (fun mm fr st => ∃ (q : Nat) (C : List PIns), fr.clean = ⟨78, [.ptr k 0 0, ixF_Qh fr 1, ixF_Qh fr 2, ixF_Qh fr 3, .ptr k4 0 0, ixF_Qh fr 5, ixF_Qh fr 6, ixF_Qh fr 7, ixF_Qh fr 8, ixF_Qh fr 9, ixF_Qh fr 10, ixF_Qh fr 11, ixF_Qh fr 12, ixF_Qh fr 13, ixF_Qh fr 14, ixF_Qh fr 15, ixF_Qh fr 16, ixF_Qh fr 17, ixF_Qh fr 18, ixF_Qh fr 19, ixF_Qh fr 20, ixF_Qh fr 21, ixF_Qh fr 22, ixF_Qh fr 23, ixF_Qh fr 24, ixF_Qh fr 25, ixF_Qh fr 26, ixF_Qh fr 27, ixF_Qh fr 28, ixF_Qh fr 29, ixF_Qh fr 30, ixF_Qh fr 31, ixF_Qh fr 32, ixF_Qh fr 33, ixF_Qh fr 34, ixF_Qh fr 35, ixF_Qh fr 36, ixF_Qh fr 37, ixF_Qh fr 38, ixF_Qh fr 39, ixF_Qh fr 40, ixF_Qh fr 41, ixF_Qh fr 42, ixF_Qh fr 43, ixF_Qh fr 44, ixF_Qh fr 45, ixF_Qh fr 46, ixF_Qh fr 47, ixF_Qh fr 48, ixF_Qh fr 49, ixF_Qh fr 50, ixF_Qh fr 51, ixF_Qh fr 52, ixF_Qh fr 53, ixF_Qh fr 54, ixF_Qh fr 55, ixF_Qh fr 56, ixF_Qh fr 57, ixF_Qh fr 58, ixF_Qh fr 59, ixF_Qh fr 60, ixF_Qh fr 61, ixF_Qh fr 62, ixF_Qh fr 63, ixF_Qh fr 64, ixF_Qh fr 65, ixF_Qh fr 66, ixF_Qh fr 67, ixF_Qh fr 68, ixF_Qh fr 69, ixF_Qh fr 70, ixF_Qh fr 71, ixF_Qh fr 72, ixF_Qh fr 73, ixF_Qh fr 74, jd, .int .i64 (js.length : Nat), .int .i64 (q : Nat)], []⟩ ∧ Has N S st (.box k (.mem 0 false [cd, nd, zd, ed]) :: .deep dk cd 4 (C.map insC) :: .lst zd 1 (Z.map intC) :: .lst ed 1 (E.map intC) :: .lst jd 1 (js.map natC) :: .box k4 (.mem 0 false (nodC n)) :: H) ∧ (q + mm = js.length) ∧ (setAll (fun s => spI s e n.lz) C (js.drop q) = setAll (fun s => spI s e n.lz) C0 js) ∧ (∀ p ∈ js, ∃ x y : Int, C[p]? = some (mkI 2 x y [])) ∧ (C.length = e)) (js.length) ?_ ?_
    ·exact ⟨0, C0, rfl, hH, by omega, rfl, fun p hp => ⟨_, _, hp2 p hp⟩, hC0⟩
    rintro mm fr st ⟨q, C, hfr, hH, hq, hset, hall, hCl⟩
    rw [hfr]
    clear hfr
    try generalize ixF_Qh fr = ee
    clear fr
    try refine qy ?_
    repeat refine qq ?_
    try generalize hK : SeqQ _ _ _ _ = K
    refine EvC.reg ?_
    refine qg ?_
    refine EvO.nil ?_
    try subst hK
    try refine qy ?_
    repeat refine qq ?_
    refine qc (fun hlt => ?_) (fun hlt => ?_) <;> try simp only [cs] at hlt
    ·refine EvC.skip ?_
     try refine qy ?_
     have hql : q < js.length := by omega
     obtain ⟨p, hp⟩ : ∃ p, js[q]? = some p := ⟨js[q]'hql, List.getElem?_eq_getElem _⟩
     obtain ⟨x, y, hv⟩ := hall p (List.mem_of_getElem? hp)
     have hr1 := natC_get hp
     have hpl := lt_get hv
     try refine qy ?_
     repeat refine qq ?_
     refine EvC.block ?_
     try refine qy ?_
     repeat refine qq ?_
     try generalize hK : SeqQ _ _ _ _ = K
     refine EvC.reg ?_
     refine qi hH at4 fun p79 hp79 => ?_
     refine qo hH at4 ?_
     refine qm ?_
     refine EvO.nil ?_
     try subst hK
     try refine qy ?_
     repeat refine qq ?_
     try generalize hK : SeqQ _ _ _ _ = K
     refine EvC.reg ?_
     refine qm ?_
     refine qm ?_
     refine qm ?_
     refine qg ?_
     refine qp (o := 0) ?_
     refine ql hH at0 ?_
     refine EvO.dlen hH rfl (ev rfl) (by exact at1) rfl (put_T rfl _) ?_
     try simp only [List.length_map, List.length_append, List.length_cons, List.length_nil, List.length_set, List.length_replicate, List.length_reverse]
     refine qp (o := 4) ?_
     refine ql hH at5 ?_
     obtain ⟨_, st, hev, rfl, hH⟩ := split_ev (at_ := p) (over := C.length) (lz := n.lz) hv (by omega) hH
     refine EvO.hcall rfl rfl hev (put_T rfl _) ?_
     refine EvO.nil ?_
     try subst hK
     try refine qy ?_
     repeat refine qq ?_
     try generalize hK : SeqQ _ _ _ _ = K
     refine EvC.reg ?_
     refine qA ?_
     refine qm ?_
     refine EvO.nil ?_
     try subst hK
     try refine qy ?_
     have hdr : js.drop q = p :: js.drop (q + 1) := by
      rw [List.drop_eq_getElem_cons hql]
      congr 1
      exact Option.some.inj ((List.getElem?_eq_getElem _).symm.trans hp)
     refine ⟨mm - 1, by omega, ⟨q + 1, C.set p (spI p e n.lz), rfl, (by rw [hCl] at hH; exact hH), by omega, by rw [hdr] at hset; exact hset, ?_, by rw [List.length_set]; exact hCl⟩⟩
     intro p' hp'
     by_cases hpp : p' = p
     ·subst hpp
      obtain ⟨x', y', hxy⟩ := spI_form p' e n.lz
      exact ⟨x', y', by rw [List.getElem?_set_self hpl, hxy]⟩
     ·rw [List.getElem?_set_ne (fun e => hpp e.symm)]; exact hall p' hp'
    ·try refine qy ?_
     refine EvC.exit ?_
     try refine qy ?_
     refine ⟨fun i h => (by cases h), _, _, _, rfl, rfl, ?_⟩
     have hq2 : q = js.length := by omega
     rw [hq2, List.drop_length] at hset
     have hset : C = setAll (fun s => spI s e n.lz) C0 js := hset
     rw [← hset]
     exact ⟨rfl, cd, dk, (hH.erase 5).erase 4⟩
   | succ mm =>
    have hcc : decide ((i : Int) < ((b - a : Nat) : Int)) = true := by rw [decide_eq_true_eq]; omega
    rw [Nat.succ_mul] at hcl
    try refine qy ?_
    repeat refine qq ?_
    refine EvC.cond (v := true) (by dsimp only [Fr.ev, Fr.get, nth, Go.V.look]; rw [hcc]) (fun _ => ?_) (fun h => by cases h)
    try refine qy ?_
    refine EvC.skip ?_
    try refine qy ?_
    repeat refine qq ?_
    refine EvC.block ?_
    try refine qy ?_
    repeat refine qq ?_
    try generalize hK : SeqQ _ _ _ _ = K
    refine EvC.reg ?_
    refine qm ?_
    refine qm ?_
    refine EvO.go (d := .agg [.int .i64 2, .int .i64 0, .int .i64 0, .nul]) (st1 := _) rfl rfl rfl (by dsimp only [Fr.put, List.set_cons_succ, List.set_cons_zero] <;> rfl) ?_
    have hH := hH.nulE 2
    obtain ⟨_, st, hev, rfl, cd, dk, hH⟩ := add_ev (rs := []) hF (by omega) hH
    refine EvO.hcall rfl rfl hev (by dsimp only [Fr.put, List.set_cons_succ, List.set_cons_zero] <;> rfl) ?_
    refine qh (s := 1) (vs := [_]) hH fun k69 st hk69 hH => ?_
    try dsimp only [u2, u1, u3, u4, setMany, u5, u6, D.cells, Nat.reduceAdd, insC, nodC, intC, natC] at hH
    refine qP hH at5 (hH.rows at0) fun x70 st hH => ?_
    try dsimp only [u2, u1, u3, u4, setMany, u5, u6, D.cells, Nat.reduceAdd, insC, nodC, intC, natC] at hH
    refine qm ?_
    refine EvO.nil ?_
    try subst hK
    try refine qy ?_
    have hH := hH.drop 1
    have hcl1 : (code2 ++ [mkI 2 0 0 []]).length = code2.length + 1 := by simp
    try refine qy ?_
    repeat refine qq ?_
    try generalize hK : SeqQ _ _ _ _ = K
    refine EvC.reg ?_
    refine qm ?_
    refine qm ?_
    obtain ⟨_, st, hev, rfl, cd, dk, hH⟩ := ih t (by omega) hF hnd hsl hsz hse htok (by omega) ⟨cd, dk, hH⟩
    refine EvO.hcall rfl rfl hev (by dsimp only [Fr.put, List.set_cons_succ, List.set_cons_zero] <;> rfl) ?_
    refine EvO.nil ?_
    try subst hK
    try refine qy ?_
    rw [hcl1] at hH
    have hcl2 : (code2 ++ [mkI 2 0 0 []] ++ codeT t (code2.length + 1)).length = code2.length + 1 + t.sz := by rw [List.length_append, hcl1, htc]
    try refine qy ?_
    repeat refine qq ?_
    try generalize hK : SeqQ _ _ _ _ = K
    refine EvC.reg ?_
    refine qA ?_
    refine qm ?_
    refine EvO.nil ?_
    try subst hK
    try refine qy ?_
    exact ⟨mm, by omega, ⟨i + 1, cd, x70, dk, code2 ++ [mkI 2 0 0 []] ++ codeT t (code2.length + 1), js ++ [code2.length], rfl, (by rw [List.map_append (f := natC)]; exact hH), by omega, by rw [hcl2, ← hcode]; simp only [optC, List.append_assoc, List.cons_append, List.nil_append], by rw [hcl2, ← hjs]; simp only [optJ, List.append_assoc, List.cons_append, List.nil_append], by rw [hcl2]; omega, by rw [List.length_append, hjl]; rfl⟩⟩
end Go.Proofs.Ytbdilgkfnacahaa
