/-
 The code of an alternative and of a repeat. %deep
-/
import Derived.Test.YtbdilgkfnacahaaG10
import Derived.Test.YtbdilgkfnacahaaG9
import Derived.Test.YtbdilgkfnacahaaG6
set_option maxRecDepth 100000
set_option maxHeartbeats 4000000
set_option linter.unusedSimpArgs false
set_option linter.unusedVariables false
namespace Go.Proofs.Ytbdilgkfnacahaa
open Go.V Go
def ixF_Qg (fr : Go.V.Fr) (k : Nat) : Go.V.D := Go.V.nth .junk fr.loc k
def natC (n : Nat) : List D := [.int .i64 (n : Nat)]
theorem natC_get {l : List Nat} {i q : Nat} (h : l[i]? = some q) : (l.map natC)[i]? = some (natC q) := by rw [List.getElem?_map, h]; rfl
def MkH (N : Nat) (S st : St) (k : Nat) (nd zd ed : D) (Z E : List Int) (H : List Ent) (code : List PIns) : Prop :=
 ∃ cd ks, Has N S st (.box k (.mem 0 false [cd, nd, zd, ed]) :: .deep ks cd 4 (code.map insC) :: .lst zd 1 (Z.map intC) :: .lst ed 1 (E.map intC) :: H)
def NodeSpec (l : List Nod) (t : Tr) : Prop := ∀ {N k : Nat} {S s0 : St} {H : List Ent} {nd zd ed : D} {code : List PIns} {Z E : List Int} {at_ : Nat}, S.flr ≤ N → SlD nd 7 (l.map nodC) → Seg l at_ t.flat → Seg Z at_ t.zs → Seg E at_ (t.es at_) → t.ok → code.length + t.sz ≤ 1000000 → MkH N S s0 k nd zd ed Z E H code →
 ∃ r st', Ev pv 40 [.ptr k 0 0, .int .i64 (at_ : Nat)] s0 r st' ∧ r = .tup [] ∧ MkH N S st' k nd zd ed Z E H (code ++ codeT t code.length)
theorem es_head {E : List Int} {t : Tr} {a : Nat} (h : Seg E a (t.es a)) : E[a]? = some ((a + t.flat.length : Nat) : Int) := by
 obtain ⟨n, ks⟩ := t;simp only [Tr.es] at h;rw [h.head];simp only [Tr.flat, List.length_cons]
 congr 2; omega
theorem zs_head {Z : List Int} {t : Tr} {a : Nat} (h : Seg Z a t.zs) : Z[a]? = some ((min t.sz 401 : Nat) : Int) := by
 obtain ⟨n, ks⟩ := t;simp only [Tr.zs] at h;rw [h.head]; rfl
theorem alt_ev {l : List Nod} (hll : l.length ≤ 1048576) {m : Nat} (ih : ∀ t : Tr, t.flat.length ≤ m → NodeSpec l t) {n : Nod} {ks : Trs} (hop : n.op = 4) (hkm : ks.flat.length ≤ m) (hno : nodOk n ks.len) (hks : ks.ok) {N k : Nat} {S s0 : St} {H : List Ent} {nd zd ed : D} {code : List PIns} {Z E : List Int} {at_ : Nat} (hF : S.flr ≤ N) (hnd : SlD nd 7 (l.map nodC)) (hsl : Seg l at_ (n :: ks.flat)) (hsz : Seg Z (at_ + 1) ks.zs) (hse : Seg E (at_ + 1) (ks.es (at_ + 1))) (hb : code.length + nodSz n ks.sz ks.len ≤ 1000000) (hM : MkH N S s0 k nd zd ed Z E H code) :
  ∃ r st', Ev pv 61 [.ptr k 0 0, .int .i64 (at_ : Nat)] s0 r st' ∧ r = .tup [] ∧ MkH N S st' k nd zd ed Z E H (code ++ altT (jpI (code.length + nodSz n ks.sz ks.len)) ks code.length) := by
 obtain ⟨cd, dk, hH⟩ := hM;have hle := hsl.le (by simp);simp only [List.length_cons] at hle;have hn := hsl.head;have hsl := hsl.tail;have hr1 := nod_get hn;have hkd := hno.1;have hkl := Trs.len_le ks
 have hk2 : 2 ≤ ks.len := by
  obtain ⟨_, hq⟩ := hno; omega
 have hns : nodSz n ks.sz ks.len = ks.sz + 2 * (ks.len - 1) := by unfold nodSz; rw [if_neg (by omega), if_pos hop]
 rw [hns] at hb ⊢;clear hns;refine Ev.mkE rfl fi61 rfl rfl rfl ?_;dsimp only [u3, u4, List.length, Nat.reduceSub, Nat.reduceAdd, w1, w2];change EvC _ _ _ _ s0 _;have hc := hnd.arg N S;refine qq ?_;refine qj fun K hK => ?_;refine qm ?_;refine qe hK ?_;refine qq ?_;refine qj fun K hK => ?_;refine qm ?_;refine qA ?_;refine qm ?_;refine qe hK ?_;refine qq ?_;refine qq ?_;refine qj fun K hK => ?_;refine qm ?_;refine qg ?_;refine qp (o := 1) ?_;refine ql hH at0 ?_;refine qm ?_;refine qr fun p17 hp17 => ?_;refine qf (fo := 6) fun p18 hp18 => ?_;refine qR ?_;refine qm ?_;refine qe hK ?_;have hH : Has N S s0 (.box k (.mem 0 false [cd, nd, zd, ed]) :: .deep dk cd 4 (code.map insC) :: .lst zd 1 (Z.map intC) :: .lst ed 1 (E.map intC) :: .lst .nul 1 (([] : List Nat).map natC) :: H) := (hH.nulE 1).rot5;refine EvC.block ?_;refine EvC.loop (fun mm fr st => ∃ (i j : Nat) (rest : Trs) (cd jd : D) (dk : Nat → Prop) (code2 : List PIns) (js : List Nat), fr.clean = ⟨68, [.ptr k 0 0, .int .i64 (at_ : Nat), ixF_Qg fr 2, ixF_Qg fr 3, jd, .int .i64 (j : Nat), ixF_Qg fr 6, ixF_Qg fr 7, ixF_Qg fr 8, ixF_Qg fr 9, ixF_Qg fr 10, ixF_Qg fr 11, ixF_Qg fr 12, ixF_Qg fr 13, ixF_Qg fr 14, ixF_Qg fr 15, ixF_Qg fr 16, ixF_Qg fr 17, ixF_Qg fr 18, .int .i64 n.kids, .int .i64 (i : Nat), ixF_Qg fr 21, ixF_Qg fr 22, ixF_Qg fr 23, ixF_Qg fr 24, ixF_Qg fr 25, ixF_Qg fr 26, ixF_Qg fr 27, ixF_Qg fr 28, ixF_Qg fr 29, ixF_Qg fr 30, ixF_Qg fr 31, ixF_Qg fr 32, ixF_Qg fr 33, ixF_Qg fr 34, ixF_Qg fr 35, ixF_Qg fr 36, ixF_Qg fr 37, ixF_Qg fr 38, ixF_Qg fr 39, ixF_Qg fr 40, ixF_Qg fr 41, ixF_Qg fr 42, ixF_Qg fr 43, ixF_Qg fr 44, ixF_Qg fr 45, ixF_Qg fr 46, ixF_Qg fr 47, ixF_Qg fr 48, ixF_Qg fr 49, ixF_Qg fr 50, ixF_Qg fr 51, ixF_Qg fr 52, ixF_Qg fr 53, ixF_Qg fr 54, ixF_Qg fr 55, ixF_Qg fr 56, ixF_Qg fr 57, ixF_Qg fr 58, ixF_Qg fr 59, ixF_Qg fr 60, ixF_Qg fr 61, ixF_Qg fr 62, ixF_Qg fr 63, ixF_Qg fr 64, ixF_Qg fr 65, ixF_Qg fr 66, ixF_Qg fr 67], []⟩ ∧ Has N S st (.box k (.mem 0 false [cd, nd, zd, ed]) :: .deep dk cd 4 (code2.map insC) :: .lst zd 1 (Z.map intC) :: .lst ed 1 (E.map intC) :: .lst jd 1 (js.map natC) :: H) ∧ (mm = rest.len) ∧ (i + rest.len = ks.len) ∧ (0 < rest.len) ∧ (Seg l j rest.flat) ∧ (Seg Z j rest.zs) ∧ (Seg E j (rest.es j)) ∧ (rest.ok) ∧ (code2 ++ altT (jpI 0) rest code2.length = code ++ altT (jpI 0) ks code.length) ∧ (js ++ altJ rest code2.length = altJ ks code.length) ∧ (code2.length + (rest.sz + 2 * (rest.len - 1)) = code.length + (ks.sz + 2 * (ks.len - 1))) ∧ (rest.flat.length ≤ m) ∧ (js.length ≤ i)) (ks.len) ?_ ?_
 ·exact ⟨0, at_ + 1, ks, cd, .nul, dk, code, [], rfl, hH, rfl, by omega, by omega, hsl, hsz, hse, hks, rfl, rfl, rfl, hkm, by simp⟩
 rintro mm fr st ⟨i, j, rest, cd, jd, dk, code2, js, hfr, hH, hmm, hi2, hr0, hsg, hsgz, hsge, hrok, hcode, hjs, hcl, hrm, hjl⟩;rw [hfr];clear hfr;generalize ixF_Qg fr = ee;clear fr;refine qq ?_;refine qj fun K hK => ?_;refine qg ?_;refine qe hK ?_
 cases rest with
 | nil => simp [Trs.len] at hr0
 | cons t ts =>
  simp only [Trs.len] at hi2 hmm hcl;simp only [Trs.sz] at hcl;simp only [Trs.flat, List.length_append] at hsg hrm;simp only [Trs.zs] at hsgz;simp only [Trs.es] at hsge;simp only [Trs.ok] at hrok;have htz := t.zs_len;have hte := t.es_len j;have htc := codeT_len t (code2.length + 1) hrok.1;have hr11 := int_get (es_head hsge.left);have hcc : decide ((i : Int) < n.kids) = true := by rw [decide_eq_true_eq]; omega
  refine qq ?_;refine qD rfl (by rw [hcc]) ?_;refine EvC.skip ?_;refine qq ?_;refine EvC.block ?_;refine qq ?_;refine qj fun K hK => ?_;refine qm ?_;refine qm ?_;refine qe hK ?_;refine qq ?_;refine qq ?_;refine qj fun K hK => ?_;refine qm ?_;refine qm ?_;refine qg ?_;refine qp (o := 1) ?_;refine ql hH at0 ?_;refine qm ?_;refine qr fun p29 hp29 => ?_;refine qf (fo := 6) fun p30 hp30 => ?_;refine qR ?_;refine EvO.subZ (z := ((ks.len - 1 : Nat) : Int)) rfl (ev rfl) (ev rfl) (by (try simp only [List.length_reverse, List.length_cons, List.length_nil, List.length_append, List.length_map, List.length_set]); rw [wrap_i64 (by omega) (by omega)] <;> omega) (by dsimp only [Fr.put, u1, u2] <;> rfl) ?_;refine qg ?_;refine qe hK ?_
  by_cases hlast : ts.len = 0
  ·simp only [altT, altJ, if_pos hlast, List.append_nil] at hcode hjs;have htn := Trs.len_nil hlast;subst htn;simp only [Trs.sz, Trs.len] at hcl hi2;have hcc2 : (((i : Nat) : Int) == ((ks.len - 1 : Nat) : Int)) = true := by rw [beq_iff_eq]; omega
   refine qD rfl (by rw [hcc2]) ?_;refine qq ?_;refine qj fun K hK => ?_;refine qm ?_;refine qm ?_;obtain ⟨_, st, hev, rfl, cd, dk, hH⟩ := ih t (by omega) hF hnd hsg.left hsgz.left hsge.left hrok.1 (by omega) ⟨cd, dk, hH⟩;refine qv hev ?_;refine qe hK ?_;refine EvC.exit ?_;refine qq ?_;refine qj fun K hK => ?_;refine qm ?_;refine qn ?_ (hR := hH.rows at4);simp only [List.length_map];refine qm ?_;refine qe hK ?_;rw [hcode] at hH;have hal := altT_len (jpI 0) ks code.length hks;obtain ⟨hp1, hp2⟩ := alt_patch (jp := jpI (code.length + (ks.sz + 2 * (ks.len - 1)))) (i0 := jpI 0) ks code.length code [] hks rfl;simp only [List.append_nil] at hp1 hp2;have hC0 : (code ++ altT (jpI 0) ks code.length).length = code.length + (ks.sz + 2 * (ks.len - 1)) := by rw [List.length_append, hal]
   rw [← hjs] at hp1 hp2;rw [← hp1];clear hp1 hcode;generalize code ++ altT (jpI 0) ks code.length = C0 at *;generalize code.length + (ks.sz + 2 * (ks.len - 1)) = e at *;refine EvC.block ?_;refine EvC.loop (fun mm fr st => ∃ (q : Nat) (C : List PIns), fr.clean = ⟨68, [.ptr k 0 0, ixF_Qg fr 1, ixF_Qg fr 2, ixF_Qg fr 3, ixF_Qg fr 4, ixF_Qg fr 5, ixF_Qg fr 6, ixF_Qg fr 7, ixF_Qg fr 8, ixF_Qg fr 9, ixF_Qg fr 10, ixF_Qg fr 11, ixF_Qg fr 12, ixF_Qg fr 13, ixF_Qg fr 14, ixF_Qg fr 15, ixF_Qg fr 16, ixF_Qg fr 17, ixF_Qg fr 18, ixF_Qg fr 19, ixF_Qg fr 20, ixF_Qg fr 21, ixF_Qg fr 22, ixF_Qg fr 23, ixF_Qg fr 24, ixF_Qg fr 25, ixF_Qg fr 26, ixF_Qg fr 27, ixF_Qg fr 28, ixF_Qg fr 29, ixF_Qg fr 30, ixF_Qg fr 31, ixF_Qg fr 32, ixF_Qg fr 33, ixF_Qg fr 34, ixF_Qg fr 35, ixF_Qg fr 36, ixF_Qg fr 37, ixF_Qg fr 38, ixF_Qg fr 39, ixF_Qg fr 40, ixF_Qg fr 41, ixF_Qg fr 42, ixF_Qg fr 43, ixF_Qg fr 44, ixF_Qg fr 45, ixF_Qg fr 46, ixF_Qg fr 47, ixF_Qg fr 48, ixF_Qg fr 49, ixF_Qg fr 50, ixF_Qg fr 51, ixF_Qg fr 52, ixF_Qg fr 53, ixF_Qg fr 54, ixF_Qg fr 55, ixF_Qg fr 56, ixF_Qg fr 57, ixF_Qg fr 58, ixF_Qg fr 59, ixF_Qg fr 60, ixF_Qg fr 61, ixF_Qg fr 62, ixF_Qg fr 63, ixF_Qg fr 64, jd, .int .i64 (js.length : Nat), .int .i64 (q : Nat)], []⟩ ∧ Has N S st (.box k (.mem 0 false [cd, nd, zd, ed]) :: .deep dk cd 4 (C.map insC) :: .lst zd 1 (Z.map intC) :: .lst ed 1 (E.map intC) :: .lst jd 1 (js.map natC) :: H) ∧ (q + mm = js.length) ∧ (setAll (fun _ => jpI e) C (js.drop q) = setAll (fun _ => jpI e) C0 js) ∧ (∀ p ∈ js, ∃ v : Int, C[p]? = some (mkI 3 v 0 [])) ∧ (C.length = e)) (js.length) ?_ ?_
   ·exact ⟨0, C0, rfl, hH, by omega, rfl, fun p hp => ⟨_, hp2 p hp⟩, hC0⟩
   rintro mm fr st ⟨q, C, hfr, hH, hq, hset, hall, hCl⟩;rw [hfr];clear hfr;generalize ixF_Qg fr = ee;clear fr;refine qq ?_;refine qj fun K hK => ?_;refine qg ?_;refine qe hK ?_;refine qq ?_;refine EvC.cond (by rfl) (fun hlt => ?_) (fun hlt => ?_) <;> try simp only [decide_eq_true_eq, decide_eq_false_iff_not] at hlt
   ·refine EvC.skip ?_;have hql : q < js.length := by omega
    obtain ⟨p, hp⟩ : ∃ p, js[q]? = some p := ⟨js[q]'hql, List.getElem?_eq_getElem _⟩
    obtain ⟨v, hv⟩ := hall p (List.mem_of_getElem? hp);have hr1 := natC_get hp;have hr2 := ins_get hv;have hpl := lt_get hv;refine qq ?_;refine EvC.block ?_;refine qq ?_;refine qj fun K hK => ?_;refine qi hH at4 fun p69 hp69 => ?_;refine qo hH at4 ?_;refine qm ?_;refine qe hK ?_;refine qj fun K hK => ?_;refine qm ?_;refine qg ?_;refine qp (o := 0) ?_;refine ql hH at0 ?_;refine qm ?_;refine qm ?_;refine qg ?_;refine qp (o := 0) ?_;refine ql hH at0 ?_;refine EvO.dlen hH rfl (ev rfl) (by exact at1) rfl (put_T rfl _) ?_;simp only [List.length_map];refine EvO.didx (s := 4) hH rfl (ev rfl) (ev rfl) (by exact at1) rfl rfl (by exact lt_get (by assumption)) (fun _ => (put_T rfl _)) (fun p81 hp81 => ?_);refine EvO.ofieldN (fo := 1) (m := 0) (o2 := 1) rfl (ev rfl) (by assumption) rfl rfl rfl (fun _ => (put_T rfl _)) (fun p82 hp82 => ?_);refine EvO.dstore hH rfl (ev rfl) (ev rfl) (by assumption) rfl rfl (by exact at1) (by assumption) (Nat.le_of_ble_eq_true rfl) (by intro d hd; simp only [List.mem_cons, List.not_mem_nil, or_false] at hd; subst hd; rfl) (by exact .inl hF) (fun st hH => ?_);dsimp only [u2, u1, u3, u4, setMany, u5, u6, D.cells, Nat.reduceAdd, insC, nodC, intC, natC] at hH;refine qe hK ?_;refine qj fun K hK => ?_;refine qA ?_;refine qm ?_;refine qe hK ?_
    have hdr : js.drop q = p :: js.drop (q + 1) := by
     rw [List.drop_eq_getElem_cons hql]
     congr 1
     exact Option.some.inj ((List.getElem?_eq_getElem _).symm.trans hp)
    refine ⟨mm - 1, by omega, ⟨q + 1, C.set p (jpI e), rfl, (by rw [List.map_set, ← hCl]; exact hH), by omega, by rw [hdr] at hset; exact hset, ?_, by rw [List.length_set]; exact hCl⟩⟩;intro p' hp'
    by_cases hpp : p' = p
    ·subst hpp; exact ⟨_, List.getElem?_set_self hpl⟩
    ·rw [List.getElem?_set_ne (fun e => hpp e.symm)]; exact hall p' hp'
   ·refine EvC.exit ?_;refine ⟨fun i h => (by cases h), _, _, _, rfl, rfl, ?_⟩;have hq2 : q = js.length := by omega
    rw [hq2, List.drop_length] at hset;have hset : C = setAll (fun _ => jpI e) C0 js := hset;rw [← hset];exact ⟨rfl, cd, dk, hH.erase 4⟩
  ·simp only [altT, altJ, if_neg hlast] at hcode hjs;have hcc2 : (((i : Nat) : Int) == ((ks.len - 1 : Nat) : Int)) = false := by rw [beq_eq_false_iff_ne]; omega
   refine qE rfl (by rw [hcc2]) ?_;refine EvC.skip ?_;refine qq ?_;refine qj fun K hK => ?_;refine qm ?_;refine EvO.go (d := .agg [.int .i64 2, .int .i64 0, .int .i64 0, .nul]) (st1 := _) rfl rfl rfl (by dsimp only [Fr.put, u1, u2] <;> rfl) ?_;have hH := hH.nulE 2;obtain ⟨_, st, hev, rfl, cd, dk, hH⟩ := add_ev (rs := []) hF (by omega) hH;refine qv hev ?_;refine qm ?_;refine qe hK ?_;have hcl1 : (code2 ++ [mkI 2 0 0 []]).length = code2.length + 1 := by simp
   refine qq ?_;refine qj fun K hK => ?_;refine qm ?_;refine qm ?_;obtain ⟨_, st, hev, rfl, cd, dk, hH⟩ := ih t (by omega) hF hnd hsg.left hsgz.left hsge.left hrok.1 (by omega) ⟨cd, dk, hH⟩;refine qv hev ?_;refine qe hK ?_;rw [hcl1] at hH;have hcl2 : (code2 ++ [mkI 2 0 0 []] ++ codeT t (code2.length + 1)).length = code2.length + 1 + t.sz := by rw [List.length_append, hcl1, htc]
   refine qq ?_;refine qj fun K hK => ?_;refine qm ?_;refine qm ?_;refine EvO.go (d := .agg [.int .i64 3, .int .i64 0, .int .i64 0, .nul]) (st1 := _) rfl rfl rfl (by dsimp only [Fr.put, u1, u2] <;> rfl) ?_;have hH := hH.nulE 2;obtain ⟨_, st, hev, rfl, cd, dk, hH⟩ := add_ev (rs := []) hF (by omega) hH;refine qv hev ?_;refine qh (s := 1) (vs := [_]) hH fun k47 st hk47 hH => ?_;refine qP hH at5 (hH.rows at0) fun x48 st hH => ?_;dsimp only [u2, u1, u3, u4, setMany, u5, u6, D.cells, Nat.reduceAdd, insC, nodC, intC, natC] at hH;refine qm ?_;refine qe hK ?_;have hH := hH.drop 1
   have hat3 : (code2 ++ [mkI 2 0 0 []] ++ codeT t (code2.length + 1) ++ [mkI 3 0 0 []])[code2.length]? = some (mkI 2 0 0 []) := by
    rw [List.append_assoc, List.append_assoc]; exact get_mid _ _ _
   have hcl3 : (code2 ++ [mkI 2 0 0 []] ++ codeT t (code2.length + 1) ++ [mkI 3 0 0 []]).length = code2.length + 1 + t.sz + 1 := by rw [List.length_append, hcl2]; rfl
   have hst3 : (code2 ++ [mkI 2 0 0 []] ++ codeT t (code2.length + 1) ++ [mkI 3 0 0 []]).set code2.length (spI code2.length (code2.length + 1 + t.sz + 1) false) = code2 ++ (spI code2.length (code2.length + 1 + t.sz + 1) false :: (codeT t (code2.length + 1) ++ [jpI 0])) := by
    rw [List.append_assoc, List.append_assoc]; exact set_mid _ _ _ _
   have hcl4 : (code2 ++ (spI code2.length (code2.length + 1 + t.sz + 1) false :: (codeT t (code2.length + 1) ++ [jpI 0]))).length = code2.length + t.sz + 2 := by rw [← hst3, List.length_set, hcl3]; omega
   generalize code2 ++ [mkI 2 0 0 []] ++ codeT t (code2.length + 1) ++ [mkI 3 0 0 []] = code3 at *;refine qq ?_;refine qj fun K hK => ?_;refine qm ?_;refine qm ?_;refine qm ?_;refine qg ?_;refine qp (o := 0) ?_;refine ql hH at0 ?_;refine EvO.dlen hH rfl (ev rfl) (by exact at1) rfl (by dsimp only [Fr.put, u1, u2] <;> rfl) ?_;simp only [List.length_map, List.length_append, List.length_cons, List.length_nil];obtain ⟨_, st, hev, rfl, hH⟩ := split_ev (at_ := code2.length) (over := code3.length) (lz := false) hat3 (by omega) hH;refine qv hev ?_;refine qe hK ?_;rw [hcl3, hst3] at hH;refine qj fun K hK => ?_;refine qm ?_;refine qg ?_;refine qp (o := 3) ?_;refine ql hH at0 ?_;refine qm ?_;refine qi hH at3 fun p62 hp62 => ?_;refine qo hH at3 ?_;refine qm ?_;refine qe hK ?_;refine qj fun K hK => ?_;refine qA ?_;refine qm ?_;refine qe hK ?_;exact ⟨mm - 1, by omega, ⟨i + 1, j + t.flat.length, ts, cd, x48, dk, code2 ++ (spI code2.length (code2.length + 1 + t.sz + 1) false :: (codeT t (code2.length + 1) ++ [jpI 0])), js ++ [code2.length + 1 + t.sz], rfl, (by rw [List.map_append (f := natC)]; rw [hcl2] at hH; exact hH), by omega, by omega, by omega, hsg.right, by rw [← htz]; exact hsgz.right, by rw [← hte]; rw [← hte] at hsge; exact hsge.right, hrok.2, by rw [hcl4, ← hcode]; simp only [List.append_assoc, List.cons_append, List.nil_append], by rw [hcl4, ← hjs]; simp only [List.append_assoc, List.cons_append, List.nil_append], by rw [hcl4]; omega, by omega, by rw [List.length_append]; simp only [List.length_cons, List.length_nil]; omega⟩⟩
def ixF_Qh (fr : Go.V.Fr) (k : Nat) : Go.V.D := Go.V.nth .junk fr.loc k
theorem repC_zero {c : Nat → List PIns} (hc : ∀ b, (c b).length = 0) (z : Nat) : ∀ k b, repC c z k b = []
 | 0, _ => rfl
 | k + 1, b => by rw [repC, repC_zero hc z k, List.length_eq_zero_iff.1 (hc b)]; rfl
theorem spI_form (s o : Nat) (lz : Bool) : ∃ x y : Int, spI s o lz = mkI 2 x y [] := by
 cases lz
 ·exact ⟨_, _, rfl⟩
 ·exact ⟨_, _, rfl⟩
theorem repeat_ev {l : List Nod} (hll : l.length ≤ 1048576) {m : Nat} (ih : ∀ t : Tr, t.flat.length ≤ m → NodeSpec l t) {n : Nod} {t : Tr} (hop : n.op = 5) (hkm : t.flat.length ≤ m) (hno : nodOk n 1) (htok : t.ok) {N k : Nat} {S s0 : St} {H : List Ent} {nd zd ed : D} {code : List PIns} {Z E : List Int} {at_ : Nat} (hF : S.flr ≤ N) (hnd : SlD nd 7 (l.map nodC)) (hsl : Seg l at_ (n :: t.flat)) (hsz : Seg Z (at_ + 1) t.zs) (hse : Seg E (at_ + 1) (t.es (at_ + 1))) (hb : code.length + nodSz n t.sz 1 ≤ 1000000) (hM : MkH N S s0 k nd zd ed Z E H code) :
  ∃ r st', Ev pv 62 [.ptr k 0 0, .int .i64 (at_ : Nat)] s0 r st' ∧ r = .tup [] ∧ MkH N S st' k nd zd ed Z E H (code ++ rptC n (codeT t) t.sz code.length) := by
 obtain ⟨cd, dk, hH⟩ := hM;have hle := hsl.le (by simp);simp only [List.length_cons] at hle;have hn := hsl.head;have hsl := hsl.tail;have hr1 := nod_get hn;have hr2 := int_get (zs_head hsz)
 have hmn : 0 ≤ n.mn ∧ n.mn ≤ 30 ∧ (n.mx = -1 ∨ (n.mn ≤ n.mx ∧ n.mx ≤ 30)) := by
  obtain ⟨_, hq⟩ := hno; omega
 have hns : nodSz n t.sz 1 = if n.mx = -1 then n.mn.toNat * t.sz + t.sz + 2 else n.mn.toNat * t.sz + (n.mx.toNat - n.mn.toNat) * (t.sz + 1) := by unfold nodSz; rw [if_neg (by omega), if_neg (by omega), if_neg (by omega), if_pos hop]
 rw [hns] at hb;clear hns;have htc := fun b => codeT_len t b htok;have hb1 : code.length + n.mn.toNat * t.sz ≤ 1000000 := by split at hb <;> omega
 refine Ev.mkE rfl fi62 rfl rfl rfl ?_;dsimp only [u3, u4, List.length, Nat.reduceSub, Nat.reduceAdd, w1, w2];change EvC _ _ _ _ s0 _;have hc := hnd.arg N S;refine qq ?_;refine qj fun K hK => ?_;refine qm ?_;refine qg ?_;refine qp (o := 1) ?_;refine ql hH at0 ?_;refine qm ?_;refine qr fun p15 hp15 => ?_;refine EvO.rloadS rfl (ev rfl) (by assumption) rfl (by dsimp only [Fr.put, u1, u2] <;> rfl) ?_;refine qm ?_;refine qA ?_;refine qa hH fun k4 st hk4 hH => ?_;refine qS hH at0 fun st hH => ?_;dsimp only [u2, u1, u3, u4, setMany, u5, u6, D.cells, Nat.reduceAdd, insC, nodC, intC, natC] at hH;refine qm ?_;refine qe hK ?_;have hH : Has N S st (.box k (.mem 0 false [cd, nd, zd, ed]) :: .deep dk cd 4 (code.map insC) :: .lst zd 1 (Z.map intC) :: .lst ed 1 (E.map intC) :: .box k4 (.mem 0 false (nodC n)) :: H) := hH.rot5;refine qq ?_;refine qq ?_;refine qj fun K hK => ?_;refine qm ?_;refine qg ?_;refine qp (o := 2) ?_;refine ql hH at0 ?_;refine qm ?_;refine qi hH at2 fun p24 hp24 => ?_;refine qo hH at2 ?_;refine qg ?_;refine qe hK ?_;have hRl := repC_len htc n.mn.toNat code.length;refine EvC.merge (fun fr st => ∃ (cd : D) (dk : Nat → Prop) (tmp : List (Nat × D)), fr = ⟨78, [.ptr k 0 0, .int .i64 (at_ : Nat), ixF_Qh fr 2, ixF_Qh fr 3, .ptr k4 0 0, .int .i64 ((at_ + 1 : Nat) : Int), ixF_Qh fr 6, ixF_Qh fr 7, ixF_Qh fr 8, ixF_Qh fr 9, ixF_Qh fr 10, ixF_Qh fr 11, ixF_Qh fr 12, ixF_Qh fr 13, ixF_Qh fr 14, ixF_Qh fr 15, ixF_Qh fr 16, ixF_Qh fr 17, ixF_Qh fr 18, ixF_Qh fr 19, ixF_Qh fr 20, ixF_Qh fr 21, ixF_Qh fr 22, ixF_Qh fr 23, ixF_Qh fr 24, ixF_Qh fr 25, ixF_Qh fr 26, ixF_Qh fr 27, ixF_Qh fr 28, ixF_Qh fr 29, ixF_Qh fr 30, ixF_Qh fr 31, ixF_Qh fr 32, ixF_Qh fr 33, ixF_Qh fr 34, ixF_Qh fr 35, ixF_Qh fr 36, ixF_Qh fr 37, ixF_Qh fr 38, ixF_Qh fr 39, ixF_Qh fr 40, ixF_Qh fr 41, ixF_Qh fr 42, ixF_Qh fr 43, ixF_Qh fr 44, ixF_Qh fr 45, ixF_Qh fr 46, ixF_Qh fr 47, ixF_Qh fr 48, ixF_Qh fr 49, ixF_Qh fr 50, ixF_Qh fr 51, ixF_Qh fr 52, ixF_Qh fr 53, ixF_Qh fr 54, ixF_Qh fr 55, ixF_Qh fr 56, ixF_Qh fr 57, ixF_Qh fr 58, ixF_Qh fr 59, ixF_Qh fr 60, ixF_Qh fr 61, ixF_Qh fr 62, ixF_Qh fr 63, ixF_Qh fr 64, ixF_Qh fr 65, ixF_Qh fr 66, ixF_Qh fr 67, ixF_Qh fr 68, ixF_Qh fr 69, ixF_Qh fr 70, ixF_Qh fr 71, ixF_Qh fr 72, ixF_Qh fr 73, ixF_Qh fr 74, ixF_Qh fr 75, ixF_Qh fr 76, ixF_Qh fr 77], tmp⟩ ∧ Has N S st (.box k (.mem 0 false [cd, nd, zd, ed]) :: .deep dk cd 4 ((code ++ repC (codeT t) t.sz n.mn.toNat code.length).map insC) :: .lst zd 1 (Z.map intC) :: .lst ed 1 (E.map intC) :: .box k4 (.mem 0 false (nodC n)) :: H)) ?_ ?_
 ·refine EvC.cond (by rfl) (fun hz => ?_) (fun hz => ?_) <;> try simp only [decide_eq_true_eq, decide_eq_false_iff_not] at hz
  ·refine qq ?_;refine qj fun K hK => ?_;refine qp (o := 2) ?_;refine ql hH at4 ?_;refine qm ?_;refine qe hK ?_;refine EvC.block ?_;refine EvC.loop (fun mm fr st => ∃ (i : Nat) (cd : D) (dk : Nat → Prop) (code2 : List PIns), fr.clean = ⟨78, [.ptr k 0 0, .int .i64 (at_ : Nat), ixF_Qh fr 2, ixF_Qh fr 3, .ptr k4 0 0, .int .i64 ((at_ + 1 : Nat) : Int), ixF_Qh fr 6, ixF_Qh fr 7, ixF_Qh fr 8, ixF_Qh fr 9, ixF_Qh fr 10, ixF_Qh fr 11, ixF_Qh fr 12, ixF_Qh fr 13, ixF_Qh fr 14, ixF_Qh fr 15, ixF_Qh fr 16, ixF_Qh fr 17, ixF_Qh fr 18, ixF_Qh fr 19, ixF_Qh fr 20, ixF_Qh fr 21, ixF_Qh fr 22, ixF_Qh fr 23, ixF_Qh fr 24, ixF_Qh fr 25, ixF_Qh fr 26, ixF_Qh fr 27, .int .i64 n.mn, .int .i64 (i : Nat), ixF_Qh fr 30, ixF_Qh fr 31, ixF_Qh fr 32, ixF_Qh fr 33, ixF_Qh fr 34, ixF_Qh fr 35, ixF_Qh fr 36, ixF_Qh fr 37, ixF_Qh fr 38, ixF_Qh fr 39, ixF_Qh fr 40, ixF_Qh fr 41, ixF_Qh fr 42, ixF_Qh fr 43, ixF_Qh fr 44, ixF_Qh fr 45, ixF_Qh fr 46, ixF_Qh fr 47, ixF_Qh fr 48, ixF_Qh fr 49, ixF_Qh fr 50, ixF_Qh fr 51, ixF_Qh fr 52, ixF_Qh fr 53, ixF_Qh fr 54, ixF_Qh fr 55, ixF_Qh fr 56, ixF_Qh fr 57, ixF_Qh fr 58, ixF_Qh fr 59, ixF_Qh fr 60, ixF_Qh fr 61, ixF_Qh fr 62, ixF_Qh fr 63, ixF_Qh fr 64, ixF_Qh fr 65, ixF_Qh fr 66, ixF_Qh fr 67, ixF_Qh fr 68, ixF_Qh fr 69, ixF_Qh fr 70, ixF_Qh fr 71, ixF_Qh fr 72, ixF_Qh fr 73, ixF_Qh fr 74, ixF_Qh fr 75, ixF_Qh fr 76, ixF_Qh fr 77], []⟩ ∧ Has N S st (.box k (.mem 0 false [cd, nd, zd, ed]) :: .deep dk cd 4 (code2.map insC) :: .lst zd 1 (Z.map intC) :: .lst ed 1 (E.map intC) :: .box k4 (.mem 0 false (nodC n)) :: H) ∧ (i + mm = n.mn.toNat) ∧ (code2 ++ repC (codeT t) t.sz mm code2.length = code ++ repC (codeT t) t.sz n.mn.toNat code.length) ∧ (code2.length + mm * t.sz = code.length + n.mn.toNat * t.sz)) (n.mn.toNat) ?_ ?_
   ·exact ⟨0, cd, dk, code, rfl, hH, by omega, rfl, rfl⟩
   rintro mm fr st ⟨i, cd, dk, code2, hfr, hH, hi, hc2, hcl⟩;rw [hfr];clear hfr;generalize ixF_Qh fr = ee;clear fr;refine qq ?_;refine qj fun K hK => ?_;refine qg ?_;refine qe hK ?_
   cases mm with
   | zero =>
    have hcc : decide ((i : Int) < n.mn) = false := by rw [decide_eq_false_iff_not]; omega
    refine qq ?_;refine qE rfl (by rw [hcc]) ?_;simp only [repC, List.append_nil] at hc2;rw [hc2] at hH;refine EvC.exit ?_;exact ⟨cd, dk, _, rfl, hH⟩
   | succ mm =>
    have hcc : decide ((i : Int) < n.mn) = true := by rw [decide_eq_true_eq]; omega
    rw [Nat.succ_mul] at hcl;refine qq ?_;refine qD rfl (by rw [hcc]) ?_;refine EvC.skip ?_;refine qq ?_;refine EvC.block ?_;refine qj fun K hK => ?_;refine qm ?_;refine qm ?_;obtain ⟨_, st, hev, rfl, cd, dk, hH⟩ := ih t (by omega) hF hnd hsl hsz hse htok (by omega) ⟨cd, dk, hH⟩;refine qv hev ?_;refine qe hK ?_;refine qj fun K hK => ?_;refine qA ?_;refine qm ?_;refine qe hK ?_;exact ⟨mm, by omega, ⟨i + 1, cd, dk, code2 ++ codeT t code2.length, rfl, hH, by omega, by rw [List.length_append, htc, List.append_assoc]; exact hc2, by rw [List.length_append, htc]; omega⟩⟩
  ·refine EvC.skip ?_;have hz0 : t.sz = 0 := by omega
   have hR0 : repC (codeT t) t.sz n.mn.toNat code.length = [] := repC_zero (fun b => by rw [htc, hz0]) _ _ _;exact ⟨cd, dk, _, rfl, (by rw [hR0, List.append_nil]; exact hH)⟩
 ·rintro fr st ⟨cd, dk, tmp, hfr, hH⟩;rw [hfr];clear hfr;generalize ixF_Qh fr = ee;clear fr;have hcR : (code ++ repC (codeT t) t.sz n.mn.toNat code.length).length = code.length + n.mn.toNat * t.sz := by rw [List.length_append, hRl]
  unfold rptC;rw [← hcR];rw [← hcR] at hb1
  have hb2 : if n.mx = -1 then (code ++ repC (codeT t) t.sz n.mn.toNat code.length).length + t.sz + 2 ≤ 1000000 else (code ++ repC (codeT t) t.sz n.mn.toNat code.length).length + (n.mx.toNat - n.mn.toNat) * (t.sz + 1) ≤ 1000000 := by
   rw [hcR]; split
   ·rename_i h; rw [if_pos h] at hb; omega
   ·rename_i h; rw [if_neg h] at hb; omega
  have happ : ∀ X : List PIns, code ++ (repC (codeT t) t.sz n.mn.toNat code.length ++ X) = code ++ repC (codeT t) t.sz n.mn.toNat code.length ++ X := fun X => by rw [List.append_assoc]
  simp only [apply_ite (fun X : List PIns => code ++ X), happ];clear happ hcR;generalize code ++ repC (codeT t) t.sz n.mn.toNat code.length = cR at *;refine qq ?_;refine qq ?_;refine qj fun K hK => ?_;refine qp (o := 3) ?_;refine ql hH at4 ?_;refine qg ?_;refine qe hK ?_
  by_cases qmx : n.mx = -1
  ·rw [if_pos qmx];rw [if_pos qmx] at hb2;refine qD rfl (by simp [qmx]) ?_;refine qq ?_;refine qj fun K hK => ?_;refine qm ?_;refine EvO.go (d := .agg [.int .i64 2, .int .i64 0, .int .i64 0, .nul]) (st1 := _) rfl rfl rfl (by dsimp only [Fr.put, u1, u2] <;> rfl) ?_;have hH := hH.nulE 2;obtain ⟨_, st, hev, rfl, cd, dk, hH⟩ := add_ev (rs := []) hF (by omega) hH;refine qv hev ?_;refine qm ?_;refine qe hK ?_;have hcl1 : (cR ++ [mkI 2 0 0 []]).length = cR.length + 1 := by simp
   refine qq ?_;refine qj fun K hK => ?_;refine qm ?_;refine qm ?_;obtain ⟨_, st, hev, rfl, cd, dk, hH⟩ := ih t (by omega) hF hnd hsl hsz hse htok (by omega) ⟨cd, dk, hH⟩;refine qv hev ?_;refine qe hK ?_;rw [hcl1] at hH;have hcl2 : (cR ++ [mkI 2 0 0 []] ++ codeT t (cR.length + 1)).length = cR.length + 1 + t.sz := by rw [List.length_append, hcl1, htc]
   refine qq ?_;refine qj fun K hK => ?_;refine qm ?_;refine qm ?_;refine EvO.go (d := .agg [.int .i64 3, .int .i64 (cR.length : Nat), .int .i64 0, .nul]) (st1 := _) rfl rfl rfl (by dsimp only [Fr.put, u1, u2] <;> rfl) ?_;have hH := hH.nulE 2;obtain ⟨_, st, hev, rfl, cd, dk, hH⟩ := add_ev (rs := []) hF (by omega) hH;refine qv hev ?_;refine qe hK ?_
   have hat3 : (cR ++ [mkI 2 0 0 []] ++ codeT t (cR.length + 1) ++ [mkI 3 (cR.length : Nat) 0 []])[cR.length]? = some (mkI 2 0 0 []) := by
    rw [List.append_assoc, List.append_assoc]; exact get_mid _ _ _
   have hcl3 : (cR ++ [mkI 2 0 0 []] ++ codeT t (cR.length + 1) ++ [mkI 3 (cR.length : Nat) 0 []]).length = cR.length + t.sz + 2 := by rw [List.length_append, hcl2]; simp only [List.length_cons, List.length_nil]; omega
   have hst3 : (cR ++ [mkI 2 0 0 []] ++ codeT t (cR.length + 1) ++ [mkI 3 (cR.length : Nat) 0 []]).set cR.length (spI cR.length (cR.length + t.sz + 2) n.lz) = cR ++ (spI cR.length (cR.length + t.sz + 2) n.lz :: (codeT t (cR.length + 1) ++ [jpI cR.length])) := by
    rw [List.append_assoc, List.append_assoc]; exact set_mid _ _ _ _
   generalize cR ++ [mkI 2 0 0 []] ++ codeT t (cR.length + 1) ++ [mkI 3 (cR.length : Nat) 0 []] = code3 at *;refine qq ?_;refine qj fun K hK => ?_;refine qm ?_;refine qm ?_;refine qm ?_;refine qg ?_;refine qp (o := 0) ?_;refine ql hH at0 ?_;refine EvO.dlen hH rfl (ev rfl) (by exact at1) rfl (by dsimp only [Fr.put, u1, u2] <;> rfl) ?_;simp only [List.length_map, List.length_append, List.length_cons, List.length_nil];refine qp (o := 4) ?_;refine ql hH at4 ?_;obtain ⟨_, st, hev, rfl, hH⟩ := split_ev (at_ := cR.length) (over := code3.length) (lz := n.lz) hat3 (by omega) hH;refine qv hev ?_;refine qe hK ?_;rw [hcl3, hst3] at hH;refine EvC.ret ⟨rx, _, _, _, rfl, rfl, ?_⟩;exact ⟨rfl, cd, dk, hH.erase 4⟩
  ·rw [if_neg qmx];rw [if_neg qmx] at hb2;refine qE rfl (by simp [qmx]) ?_;refine EvC.skip ?_;obtain ⟨a, ha⟩ : ∃ a : Nat, n.mn = (a : Int) := Int.eq_ofNat_of_zero_le hmn.1;obtain ⟨b, hb3⟩ : ∃ b : Nat, n.mx = (b : Int) := Int.eq_ofNat_of_zero_le (by omega);have hdd : n.mx.toNat - n.mn.toNat = b - a := by omega
   rw [hdd] at hb2 ⊢;refine qq ?_;refine qj fun K hK => ?_;refine qm ?_;refine qe hK ?_;refine qq ?_;refine qq ?_;refine qj fun K hK => ?_;refine qp (o := 3) ?_;refine ql hH at4 ?_;refine qp (o := 2) ?_;refine ql hH at4 ?_;refine EvO.subZ (z := ((b - a : Nat) : Int)) rfl (ev rfl) (ev rfl) (by (try simp only [List.length_reverse, List.length_cons, List.length_nil, List.length_append, List.length_map, List.length_set]); rw [wrap_i64 (by omega) (by omega)] <;> omega) (by dsimp only [Fr.put, u1, u2] <;> rfl) ?_;refine qm ?_;refine qe hK ?_;have hH : Has N S st (.box k (.mem 0 false [cd, nd, zd, ed]) :: .deep dk cd 4 (cR.map insC) :: .lst zd 1 (Z.map intC) :: .lst ed 1 (E.map intC) :: .lst .nul 1 (([] : List Nat).map natC) :: .box k4 (.mem 0 false (nodC n)) :: H) := (hH.nulE 1).rot5;refine EvC.block ?_;refine EvC.loop (fun mm fr st => ∃ (i : Nat) (cd jd : D) (dk : Nat → Prop) (code2 : List PIns) (js : List Nat), fr.clean = ⟨78, [.ptr k 0 0, .int .i64 (at_ : Nat), ixF_Qh fr 2, ixF_Qh fr 3, .ptr k4 0 0, .int .i64 ((at_ + 1 : Nat) : Int), ixF_Qh fr 6, jd, ixF_Qh fr 8, ixF_Qh fr 9, ixF_Qh fr 10, ixF_Qh fr 11, ixF_Qh fr 12, ixF_Qh fr 13, ixF_Qh fr 14, ixF_Qh fr 15, ixF_Qh fr 16, ixF_Qh fr 17, ixF_Qh fr 18, ixF_Qh fr 19, ixF_Qh fr 20, ixF_Qh fr 21, ixF_Qh fr 22, ixF_Qh fr 23, ixF_Qh fr 24, ixF_Qh fr 25, ixF_Qh fr 26, ixF_Qh fr 27, ixF_Qh fr 28, ixF_Qh fr 29, ixF_Qh fr 30, ixF_Qh fr 31, ixF_Qh fr 32, ixF_Qh fr 33, ixF_Qh fr 34, ixF_Qh fr 35, ixF_Qh fr 36, ixF_Qh fr 37, ixF_Qh fr 38, ixF_Qh fr 39, ixF_Qh fr 40, ixF_Qh fr 41, ixF_Qh fr 42, ixF_Qh fr 43, ixF_Qh fr 44, ixF_Qh fr 45, ixF_Qh fr 46, ixF_Qh fr 47, ixF_Qh fr 48, ixF_Qh fr 49, ixF_Qh fr 50, ixF_Qh fr 51, ixF_Qh fr 52, ixF_Qh fr 53, ixF_Qh fr 54, ixF_Qh fr 55, ixF_Qh fr 56, ixF_Qh fr 57, ixF_Qh fr 58, ixF_Qh fr 59, ixF_Qh fr 60, ixF_Qh fr 61, .int .i64 ((b - a : Nat) : Int), .int .i64 (i : Nat), ixF_Qh fr 64, ixF_Qh fr 65, ixF_Qh fr 66, ixF_Qh fr 67, ixF_Qh fr 68, ixF_Qh fr 69, ixF_Qh fr 70, ixF_Qh fr 71, ixF_Qh fr 72, ixF_Qh fr 73, ixF_Qh fr 74, ixF_Qh fr 75, ixF_Qh fr 76, ixF_Qh fr 77], []⟩ ∧ Has N S st (.box k (.mem 0 false [cd, nd, zd, ed]) :: .deep dk cd 4 (code2.map insC) :: .lst zd 1 (Z.map intC) :: .lst ed 1 (E.map intC) :: .lst jd 1 (js.map natC) :: .box k4 (.mem 0 false (nodC n)) :: H) ∧ (i + mm = b - a) ∧ (code2 ++ optC (fun _ => mkI 2 0 0 []) (codeT t) t.sz mm code2.length = cR ++ optC (fun _ => mkI 2 0 0 []) (codeT t) t.sz (b - a) cR.length) ∧ (js ++ optJ t.sz mm code2.length = optJ t.sz (b - a) cR.length) ∧ (code2.length + mm * (t.sz + 1) = cR.length + (b - a) * (t.sz + 1)) ∧ (js.length = i)) (b - a) ?_ ?_
   ·exact ⟨0, cd, .nul, dk, cR, [], rfl, hH, by omega, rfl, rfl, rfl, rfl⟩
   rintro mm fr st ⟨i, cd, jd, dk, code2, js, hfr, hH, hi, hcode, hjs, hcl, hjl⟩;rw [hfr];clear hfr;generalize ixF_Qh fr = ee;clear fr;refine qq ?_;refine qj fun K hK => ?_;refine qg ?_;refine qe hK ?_
   cases mm with
   | zero =>
    have hcc : decide ((i : Int) < ((b - a : Nat) : Int)) = false := by rw [decide_eq_false_iff_not]; omega
    refine qq ?_;refine qE rfl (by rw [hcc]) ?_;refine EvC.exit ?_;refine qq ?_;refine qj fun K hK => ?_;refine qm ?_;refine qn ?_ (hR := hH.rows at4);simp only [List.length_map];refine qm ?_;refine qe hK ?_;simp only [optC, optJ, List.append_nil] at hcode hjs;rw [hcode] at hH;obtain ⟨hp1, hp2⟩ := opt_patch (sp := fun s => spI s (cR.length + (b - a) * (t.sz + 1)) n.lz) htc (i0 := mkI 2 0 0 []) (b - a) cR.length cR [] rfl;simp only [List.append_nil] at hp1 hp2;have hC0 : (cR ++ optC (fun _ => mkI 2 0 0 []) (codeT t) t.sz (b - a) cR.length).length = cR.length + (b - a) * (t.sz + 1) := by rw [List.length_append, optC_len htc]
    rw [← hjs] at hp1 hp2;rw [← hp1];clear hp1 hcode;generalize cR ++ optC (fun _ => mkI 2 0 0 []) (codeT t) t.sz (b - a) cR.length = C0 at *;generalize cR.length + (b - a) * (t.sz + 1) = e at *;refine EvC.block ?_;refine EvC.loop (fun mm fr st => ∃ (q : Nat) (C : List PIns), fr.clean = ⟨78, [.ptr k 0 0, ixF_Qh fr 1, ixF_Qh fr 2, ixF_Qh fr 3, .ptr k4 0 0, ixF_Qh fr 5, ixF_Qh fr 6, ixF_Qh fr 7, ixF_Qh fr 8, ixF_Qh fr 9, ixF_Qh fr 10, ixF_Qh fr 11, ixF_Qh fr 12, ixF_Qh fr 13, ixF_Qh fr 14, ixF_Qh fr 15, ixF_Qh fr 16, ixF_Qh fr 17, ixF_Qh fr 18, ixF_Qh fr 19, ixF_Qh fr 20, ixF_Qh fr 21, ixF_Qh fr 22, ixF_Qh fr 23, ixF_Qh fr 24, ixF_Qh fr 25, ixF_Qh fr 26, ixF_Qh fr 27, ixF_Qh fr 28, ixF_Qh fr 29, ixF_Qh fr 30, ixF_Qh fr 31, ixF_Qh fr 32, ixF_Qh fr 33, ixF_Qh fr 34, ixF_Qh fr 35, ixF_Qh fr 36, ixF_Qh fr 37, ixF_Qh fr 38, ixF_Qh fr 39, ixF_Qh fr 40, ixF_Qh fr 41, ixF_Qh fr 42, ixF_Qh fr 43, ixF_Qh fr 44, ixF_Qh fr 45, ixF_Qh fr 46, ixF_Qh fr 47, ixF_Qh fr 48, ixF_Qh fr 49, ixF_Qh fr 50, ixF_Qh fr 51, ixF_Qh fr 52, ixF_Qh fr 53, ixF_Qh fr 54, ixF_Qh fr 55, ixF_Qh fr 56, ixF_Qh fr 57, ixF_Qh fr 58, ixF_Qh fr 59, ixF_Qh fr 60, ixF_Qh fr 61, ixF_Qh fr 62, ixF_Qh fr 63, ixF_Qh fr 64, ixF_Qh fr 65, ixF_Qh fr 66, ixF_Qh fr 67, ixF_Qh fr 68, ixF_Qh fr 69, ixF_Qh fr 70, ixF_Qh fr 71, ixF_Qh fr 72, ixF_Qh fr 73, ixF_Qh fr 74, jd, .int .i64 (js.length : Nat), .int .i64 (q : Nat)], []⟩ ∧ Has N S st (.box k (.mem 0 false [cd, nd, zd, ed]) :: .deep dk cd 4 (C.map insC) :: .lst zd 1 (Z.map intC) :: .lst ed 1 (E.map intC) :: .lst jd 1 (js.map natC) :: .box k4 (.mem 0 false (nodC n)) :: H) ∧ (q + mm = js.length) ∧ (setAll (fun s => spI s e n.lz) C (js.drop q) = setAll (fun s => spI s e n.lz) C0 js) ∧ (∀ p ∈ js, ∃ x y : Int, C[p]? = some (mkI 2 x y [])) ∧ (C.length = e)) (js.length) ?_ ?_
    ·exact ⟨0, C0, rfl, hH, by omega, rfl, fun p hp => ⟨_, _, hp2 p hp⟩, hC0⟩
    rintro mm fr st ⟨q, C, hfr, hH, hq, hset, hall, hCl⟩;rw [hfr];clear hfr;generalize ixF_Qh fr = ee;clear fr;refine qq ?_;refine qj fun K hK => ?_;refine qg ?_;refine qe hK ?_;refine qq ?_;refine EvC.cond (by rfl) (fun hlt => ?_) (fun hlt => ?_) <;> try simp only [decide_eq_true_eq, decide_eq_false_iff_not] at hlt
    ·refine EvC.skip ?_;have hql : q < js.length := by omega
     obtain ⟨p, hp⟩ : ∃ p, js[q]? = some p := ⟨js[q]'hql, List.getElem?_eq_getElem _⟩
     obtain ⟨x, y, hv⟩ := hall p (List.mem_of_getElem? hp);have hr1 := natC_get hp;have hpl := lt_get hv;refine qq ?_;refine EvC.block ?_;refine qq ?_;refine qj fun K hK => ?_;refine qi hH at4 fun p79 hp79 => ?_;refine qo hH at4 ?_;refine qm ?_;refine qe hK ?_;refine qj fun K hK => ?_;refine qm ?_;refine qm ?_;refine qm ?_;refine qg ?_;refine qp (o := 0) ?_;refine ql hH at0 ?_;refine EvO.dlen hH rfl (ev rfl) (by exact at1) rfl (put_T rfl _) ?_;simp only [List.length_map];refine qp (o := 4) ?_;refine ql hH at5 ?_;obtain ⟨_, st, hev, rfl, hH⟩ := split_ev (at_ := p) (over := C.length) (lz := n.lz) hv (by omega) hH;refine qv hev ?_;refine qe hK ?_;refine qj fun K hK => ?_;refine qA ?_;refine qm ?_;refine qe hK ?_
     have hdr : js.drop q = p :: js.drop (q + 1) := by
      rw [List.drop_eq_getElem_cons hql]
      congr 1
      exact Option.some.inj ((List.getElem?_eq_getElem _).symm.trans hp)
     refine ⟨mm - 1, by omega, ⟨q + 1, C.set p (spI p e n.lz), rfl, (by rw [hCl] at hH; exact hH), by omega, by rw [hdr] at hset; exact hset, ?_, by rw [List.length_set]; exact hCl⟩⟩;intro p' hp'
     by_cases hpp : p' = p
     ·subst hpp;obtain ⟨x', y', hxy⟩ := spI_form p' e n.lz;exact ⟨x', y', by rw [List.getElem?_set_self hpl, hxy]⟩
     ·rw [List.getElem?_set_ne (fun e => hpp e.symm)]; exact hall p' hp'
    ·refine EvC.exit ?_;refine ⟨fun i h => (by cases h), _, _, _, rfl, rfl, ?_⟩;have hq2 : q = js.length := by omega
     rw [hq2, List.drop_length] at hset;have hset : C = setAll (fun s => spI s e n.lz) C0 js := hset;rw [← hset];exact ⟨rfl, cd, dk, (hH.erase 5).erase 4⟩
   | succ mm =>
    have hcc : decide ((i : Int) < ((b - a : Nat) : Int)) = true := by rw [decide_eq_true_eq]; omega
    rw [Nat.succ_mul] at hcl;refine qq ?_;refine qD rfl (by rw [hcc]) ?_;refine EvC.skip ?_;refine qq ?_;refine EvC.block ?_;refine qq ?_;refine qj fun K hK => ?_;refine qm ?_;refine qm ?_;refine EvO.go (d := .agg [.int .i64 2, .int .i64 0, .int .i64 0, .nul]) (st1 := _) rfl rfl rfl (by dsimp only [Fr.put, u1, u2] <;> rfl) ?_;have hH := hH.nulE 2;obtain ⟨_, st, hev, rfl, cd, dk, hH⟩ := add_ev (rs := []) hF (by omega) hH;refine qv hev ?_;refine qh (s := 1) (vs := [_]) hH fun k69 st hk69 hH => ?_;dsimp only [u2, u1, u3, u4, setMany, u5, u6, D.cells, Nat.reduceAdd, insC, nodC, intC, natC] at hH;refine qP hH at5 (hH.rows at0) fun x70 st hH => ?_;dsimp only [u2, u1, u3, u4, setMany, u5, u6, D.cells, Nat.reduceAdd, insC, nodC, intC, natC] at hH;refine qm ?_;refine qe hK ?_;have hH := hH.drop 1;have hcl1 : (code2 ++ [mkI 2 0 0 []]).length = code2.length + 1 := by simp
    refine qj fun K hK => ?_;refine qm ?_;refine qm ?_;obtain ⟨_, st, hev, rfl, cd, dk, hH⟩ := ih t (by omega) hF hnd hsl hsz hse htok (by omega) ⟨cd, dk, hH⟩;refine qv hev ?_;refine qe hK ?_;rw [hcl1] at hH;have hcl2 : (code2 ++ [mkI 2 0 0 []] ++ codeT t (code2.length + 1)).length = code2.length + 1 + t.sz := by rw [List.length_append, hcl1, htc]
    refine qj fun K hK => ?_;refine qA ?_;refine qm ?_;refine qe hK ?_;exact ⟨mm, by omega, ⟨i + 1, cd, x70, dk, code2 ++ [mkI 2 0 0 []] ++ codeT t (code2.length + 1), js ++ [code2.length], rfl, (by rw [List.map_append (f := natC)]; exact hH), by omega, by rw [hcl2, ← hcode]; simp only [optC, List.append_assoc, List.cons_append, List.nil_append], by rw [hcl2, ← hjs]; simp only [optJ, List.append_assoc, List.cons_append, List.nil_append], by rw [hcl2]; omega, by rw [List.length_append, hjl]; rfl⟩⟩
def ixF_Qi (fr : Go.V.Fr) (k : Nat) : Go.V.D := Go.V.nth .junk fr.loc k
theorem catT_one (t : Tr) : catT (.cons t .nil) = codeT t := by
 funext b; simp only [catT, List.append_nil]
theorem sz_one (t : Tr) : (Trs.cons t .nil).sz = t.sz := by simp only [Trs.sz, Nat.add_zero]
theorem node_ev {l : List Nod} (hll : l.length ≤ 1048576) (hi : ∀ n ∈ l, n.ok) : ∀ (m : Nat) (t : Tr), t.flat.length ≤ m → NodeSpec l t := by
 intro m
 induction m with
 | zero => intro t h; have := t.flat_pos; omega
 | succ m ih =>
  rintro ⟨n, ks⟩ hm N k S s0 H nd zd ed code Z E at_ hF hnd hsl hsz hse hok hb hM;have hM0 := hM;obtain ⟨cd, dk, hH⟩ := hM;simp only [Tr.ok] at hok;obtain ⟨hno, hks⟩ := hok;simp only [Tr.flat, List.length_cons] at hm;have hle := hsl.le (by simp [Tr.flat]);simp only [Tr.flat] at hsl hle;simp only [List.length_cons] at hle;simp only [Tr.zs] at hsz;simp only [Tr.es] at hse;simp only [Tr.sz] at hb;have hn := hsl.head;have hnn := hi n (List.mem_of_getElem? hn);have hrd := hnn.1.arg N S;have hrl := hnn.2.1;have hr1 := nod_get hn;have hkd := hno.1;have hkl := Trs.len_le ks;have hcat := fun b => catT_len ks b hks;refine Ev.mkE rfl fi40 rfl rfl rfl ?_;dsimp only [u3, u4, List.length, Nat.reduceSub, Nat.reduceAdd, w1, w2];change EvC _ _ _ _ s0 _;have hc := hnd.arg N S;refine qq ?_;refine qj fun K hK => ?_;refine qm ?_;refine qg ?_;refine qp (o := 1) ?_;refine ql hH at0 ?_;refine qm ?_;refine qr fun p11 hp11 => ?_;refine EvO.rloadS rfl (ev rfl) (by assumption) rfl (by dsimp only [Fr.put, u1, u2] <;> rfl) ?_;refine qa hH fun k4 st hk4 hH => ?_;refine qS hH at0 fun st hH => ?_;dsimp only [u2, u1, u3, u4, setMany, u5, u6, D.cells, Nat.reduceAdd, insC, nodC, intC, natC] at hH;refine qe hK ?_;have hH : Has N S st (.box k (.mem 0 false [cd, nd, zd, ed]) :: .deep dk cd 4 (code.map insC) :: .lst zd 1 (Z.map intC) :: .lst ed 1 (E.map intC) :: .box k4 (.mem 0 false (nodC n)) :: H) := hH.rot5;refine qq ?_;refine qj fun K hK => ?_;refine qp (o := 0) ?_;refine ql hH at4 ?_;refine qe hK ?_;refine EvC.block ?_;refine qq ?_;refine qj fun K hK => ?_;refine qg ?_;refine qm ?_;refine qe hK ?_;refine EvC.cond (by rfl) (fun q2 => ?_) (fun q2 => ?_) <;> try simp only [beq_iff_eq, beq_eq_false_iff_ne, ne_eq] at q2
  ·have hcT : codeT (.mk n ks) code.length = [mkI 1 0 0 n.rs] := by simp only [codeT, if_pos q2]
   rw [hcT];have hz : nodSz n ks.sz ks.len = 1 := by unfold nodSz; rw [if_pos (.inl q2)]
   have hH := hH.nulE 2;refine qj fun K hK => ?_;refine qm ?_;refine qp (o := 1) ?_;refine ql hH at5 ?_;refine qP hH at0 (Arg.rows (by assumption) hH) fun x20 st hH => ?_;dsimp only [u2, u1, u3, u4, setMany, u5, u6, D.cells, Nat.reduceAdd, insC, nodC, intC, natC] at hH;refine EvO.ones (qs := [(0, _), (3, _)]) rfl rfl rfl rfl ⟨rfl, (ev rfl), (by rfl), rfl, (ev rfl), (by exact hH.ocells (by exact at0)), trivial⟩ (by intro q hq; simp only [List.mem_cons, List.not_mem_nil, or_false] at hq; rcases hq with rfl | rfl <;> exact ⟨rfl, by exact Nat.le_of_ble_eq_true rfl⟩) (by show List.foldl _ [_, _, _, _] _ = _; dsimp only [List.foldl_cons, List.foldl_nil, u2, u1] <;> rfl) (by dsimp only [Fr.put, u1, u2] <;> rfl) ?_;obtain ⟨_, st, hev, rfl, cd, dk, hH⟩ := add_ev (rs := n.rs) hF (by omega) hH;refine qv hev ?_;refine qe hK ?_;refine ⟨fun i h => (by cases h), _, _, _, rfl, rfl, ?_⟩;exact ⟨rfl, cd, dk, hH.erase 4⟩
  refine qq ?_;refine qj fun K hK => ?_;refine qg ?_;refine qm ?_;refine qe hK ?_;refine EvC.cond (by rfl) (fun q7 => ?_) (fun q7 => ?_) <;> try simp only [beq_iff_eq, beq_eq_false_iff_ne, ne_eq] at q7
  ·have hcT : codeT (.mk n ks) code.length = [mkI 5 0 0 []] := by simp only [codeT, if_neg q2, if_pos q7]
   rw [hcT];refine qj fun K hK => ?_;refine qm ?_;refine EvO.go (d := .agg [.int .i64 5, .int .i64 0, .int .i64 0, .nul]) (st1 := _) rfl rfl rfl (by dsimp only [Fr.put, u1, u2] <;> rfl) ?_;have hH := hH.nulE 2;obtain ⟨_, st, hev, rfl, cd, dk, hH⟩ := add_ev (rs := []) hF (by omega) hH;refine qv hev ?_;refine qe hK ?_;refine ⟨fun i h => (by cases h), _, _, _, rfl, rfl, ?_⟩;exact ⟨rfl, cd, dk, hH.erase 4⟩
  refine qq ?_;refine qj fun K hK => ?_;refine qg ?_;refine qm ?_;refine qe hK ?_;refine EvC.cond (by rfl) (fun q8 => ?_) (fun q8 => ?_) <;> try simp only [beq_iff_eq, beq_eq_false_iff_ne, ne_eq] at q8
  ·have hcT : codeT (.mk n ks) code.length = [mkI 6 0 0 []] := by simp only [codeT, if_neg q2, if_neg q7, if_pos q8]
   rw [hcT];refine qj fun K hK => ?_;refine qm ?_;refine EvO.go (d := .agg [.int .i64 6, .int .i64 0, .int .i64 0, .nul]) (st1 := _) rfl rfl rfl (by dsimp only [Fr.put, u1, u2] <;> rfl) ?_;have hH := hH.nulE 2;obtain ⟨_, st, hev, rfl, cd, dk, hH⟩ := add_ev (rs := []) hF (by omega) hH;refine qv hev ?_;refine qe hK ?_;refine ⟨fun i h => (by cases h), _, _, _, rfl, rfl, ?_⟩;exact ⟨rfl, cd, dk, hH.erase 4⟩
  refine qq ?_;refine qj fun K hK => ?_;refine qg ?_;refine qm ?_;refine qe hK ?_;refine EvC.cond (by rfl) (fun q3 => ?_) (fun q3 => ?_) <;> try simp only [beq_iff_eq, beq_eq_false_iff_ne, ne_eq] at q3
  ·have hcT : codeT (.mk n ks) code.length = catT ks code.length := by simp only [codeT, if_neg q2, if_neg q7, if_neg q8, if_pos q3]
   rw [hcT];have hz : nodSz n ks.sz ks.len = ks.sz := by unfold nodSz; rw [if_neg (by omega), if_neg (by omega), if_neg (by omega), if_neg (by omega)]
   rw [hz] at hb;refine qq ?_;refine qj fun K hK => ?_;refine qm ?_;refine qA ?_;refine qm ?_;refine qe hK ?_;refine qq ?_;refine qj fun K hK => ?_;refine qp (o := 6) ?_;refine ql hH at4 ?_;refine qm ?_;refine qe hK ?_;refine EvC.block ?_;refine EvC.loop (fun mm fr st => ∃ (i j : Nat) (rest : Trs) (cd : D) (dk : Nat → Prop) (code2 : List PIns), fr.clean = ⟨40, [.ptr k 0 0, .int .i64 (at_ : Nat), ixF_Qi fr 2, ixF_Qi fr 3, .ptr k4 0 0, .int .i64 (j : Nat), ixF_Qi fr 6, ixF_Qi fr 7, ixF_Qi fr 8, ixF_Qi fr 9, ixF_Qi fr 10, ixF_Qi fr 11, ixF_Qi fr 12, ixF_Qi fr 13, ixF_Qi fr 14, ixF_Qi fr 15, ixF_Qi fr 16, ixF_Qi fr 17, ixF_Qi fr 18, ixF_Qi fr 19, ixF_Qi fr 20, ixF_Qi fr 21, ixF_Qi fr 22, ixF_Qi fr 23, ixF_Qi fr 24, ixF_Qi fr 25, ixF_Qi fr 26, ixF_Qi fr 27, ixF_Qi fr 28, ixF_Qi fr 29, ixF_Qi fr 30, ixF_Qi fr 31, ixF_Qi fr 32, ixF_Qi fr 33, ixF_Qi fr 34, ixF_Qi fr 35, ixF_Qi fr 36, ixF_Qi fr 37, .int .i64 n.kids, .int .i64 (i : Nat)], []⟩ ∧ Has N S st (.box k (.mem 0 false [cd, nd, zd, ed]) :: .deep dk cd 4 (code2.map insC) :: .lst zd 1 (Z.map intC) :: .lst ed 1 (E.map intC) :: .box k4 (.mem 0 false (nodC n)) :: H) ∧ (mm = rest.len) ∧ (i + rest.len = ks.len) ∧ (Seg l j rest.flat) ∧ (Seg Z j rest.zs) ∧ (Seg E j (rest.es j)) ∧ (rest.ok) ∧ (code2 ++ catT rest code2.length = code ++ catT ks code.length) ∧ (code2.length + rest.sz = code.length + ks.sz) ∧ (rest.flat.length ≤ m)) (ks.len) ?_ ?_
   ·exact ⟨0, at_ + 1, ks, cd, dk, code, rfl, hH, rfl, by omega, hsl.tail, hsz.tail, hse.tail, hks, rfl, rfl, by omega⟩
   rintro mm fr st ⟨i, j, rest, cd, dk, code2, hfr, hH, hmm, hi2, hsg, hsgz, hsge, hrok, hcode, hcl, hrm⟩;rw [hfr];clear hfr;generalize ixF_Qi fr = ee;clear fr;refine qq ?_;refine qj fun K hK => ?_;refine qg ?_;refine qe hK ?_
   cases rest with
   | nil =>
    simp only [Trs.len] at hi2;simp only [catT, List.append_nil] at hcode;have hcc : decide ((i : Int) < n.kids) = false := by rw [decide_eq_false_iff_not]; omega
    refine qq ?_;refine qE rfl (by rw [hcc]) ?_;refine EvC.exit ?_;refine ⟨fun i h => (by cases h), _, _, _, rfl, rfl, ?_⟩;rw [← hcode];exact ⟨rfl, cd, dk, hH.erase 4⟩
   | cons t ts =>
    simp only [Trs.len] at hi2 hmm;simp only [Trs.sz] at hcl;simp only [Trs.flat, List.length_append] at hsg hrm;simp only [Trs.zs] at hsgz;simp only [Trs.es] at hsge;simp only [Trs.ok] at hrok;simp only [catT] at hcode;have htz := t.zs_len;have hte := t.es_len j;have htc := codeT_len t code2.length hrok.1;have hr11 := int_get (es_head hsge.left);have hcc : decide ((i : Int) < n.kids) = true := by rw [decide_eq_true_eq]; omega
    refine qq ?_;refine qD rfl (by rw [hcc]) ?_;refine EvC.skip ?_;refine qq ?_;refine EvC.block ?_;refine qq ?_;refine qj fun K hK => ?_;refine qm ?_;refine qm ?_;obtain ⟨_, st, hev, rfl, cd, dk, hH⟩ := ih t (by omega) hF hnd hsg.left hsgz.left hsge.left hrok.1 (by omega) ⟨cd, dk, hH⟩;refine qv hev ?_;refine qe hK ?_;refine qj fun K hK => ?_;refine qm ?_;refine qg ?_;refine qp (o := 3) ?_;refine ql hH at0 ?_;refine qm ?_;refine qi hH at3 fun p49 hp49 => ?_;refine qo hH at3 ?_;refine qm ?_;refine qe hK ?_;refine qj fun K hK => ?_;refine qA ?_;refine qm ?_;refine qe hK ?_;exact ⟨mm - 1, by omega, ⟨i + 1, j + t.flat.length, ts, cd, dk, code2 ++ codeT t code2.length, rfl, hH, by omega, by omega, hsg.right, by rw [← htz]; exact hsgz.right, by rw [← hte]; rw [← hte] at hsge; exact hsge.right, hrok.2, by rw [List.length_append, htc, List.append_assoc]; exact hcode, by rw [List.length_append, htc]; omega, by omega⟩⟩
  refine qq ?_;refine qj fun K hK => ?_;refine qg ?_;refine qm ?_;refine qe hK ?_;refine EvC.cond (by rfl) (fun q4 => ?_) (fun q4 => ?_) <;> try simp only [beq_iff_eq, beq_eq_false_iff_ne, ne_eq] at q4
  ·have hcT : codeT (.mk n ks) code.length = altT (jpI (code.length + nodSz n ks.sz ks.len)) ks code.length := by simp only [codeT, if_neg q2, if_neg q7, if_neg q8, if_neg q3, if_pos q4]
   rw [hcT];refine qj fun K hK => ?_;refine qm ?_;refine qm ?_;obtain ⟨_, st, hev, rfl, cd, dk, hH⟩ := alt_ev hll ih q4 (by omega) hno hks hF hnd hsl hsz.tail hse.tail hb ⟨cd, dk, hH⟩;refine qv hev ?_;refine qe hK ?_;refine ⟨fun i h => (by cases h), _, _, _, rfl, rfl, ?_⟩;exact ⟨rfl, cd, dk, hH.erase 4⟩
  refine qq ?_;refine qj fun K hK => ?_;refine qg ?_;refine qm ?_;refine qe hK ?_;refine EvC.cond (by rfl) (fun q5 => ?_) (fun q5 => ?_) <;> try simp only [beq_iff_eq, beq_eq_false_iff_ne, ne_eq] at q5
  ·have hk1 : ks.len = 1 := by
    obtain ⟨_, hq⟩ := hno; omega
   obtain ⟨t, rfl⟩ := Trs.len_one hk1;have hcT : codeT (.mk n (.cons t .nil)) code.length = rptC n (codeT t) t.sz code.length := by simp only [codeT, if_neg q2, if_neg q7, if_neg q8, if_neg q3, if_neg q4, if_pos q5, catT_one, sz_one]
   rw [hcT];rw [hk1] at hno hb;rw [sz_one] at hb;simp only [Trs.flat, Trs.zs, Trs.es, Trs.ok, List.append_nil] at *;refine qj fun K hK => ?_;refine qm ?_;refine qm ?_;obtain ⟨_, st, hev, rfl, cd, dk, hH⟩ := repeat_ev hll ih q5 (by omega) hno hks.1 hF hnd hsl hsz.tail hse.tail hb ⟨cd, dk, hH⟩;refine qv hev ?_;refine qe hK ?_;refine ⟨fun i h => (by cases h), _, _, _, rfl, rfl, ?_⟩;exact ⟨rfl, cd, dk, hH.erase 4⟩
  refine qq ?_;refine qj fun K hK => ?_;refine qg ?_;refine qm ?_;refine qe hK ?_;refine EvC.cond (by rfl) (fun q6 => ?_) (fun q6 => ?_) <;> try simp only [beq_iff_eq, beq_eq_false_iff_ne, ne_eq] at q6
  ·have hk1 : ks.len = 1 ∧ 1 ≤ n.cap ∧ n.cap ≤ 4 := by
    obtain ⟨_, hq⟩ := hno; omega
   obtain ⟨t, rfl⟩ := Trs.len_one hk1.1;have hcT : codeT (.mk n (.cons t .nil)) code.length = mkI 4 (2 * n.cap) 0 [] :: (codeT t (code.length + 1) ++ [mkI 4 (2 * n.cap + 1) 0 []]) := by simp only [codeT, if_neg q2, if_neg q7, if_neg q8, if_neg q3, if_neg q4, if_neg q5, if_pos q6, catT_one]
   rw [hcT];have hz : nodSz n (Trs.cons t .nil).sz (Trs.cons t .nil).len = t.sz + 2 := by unfold nodSz; rw [if_neg (by omega), if_neg (by omega), if_pos q6, sz_one]
   rw [hz] at hb;simp only [Trs.flat, Trs.zs, Trs.es, Trs.ok, List.append_nil] at hsl hsz hse hks hm;refine qq ?_;refine qj fun K hK => ?_;refine qm ?_;refine qp (o := 5) ?_;refine ql hH at4 ?_;refine EvO.mulZ (z := (2 * n.cap)) rfl (ev rfl) (ev rfl) (by (try simp only [List.length_reverse, List.length_cons, List.length_nil, List.length_append, List.length_map, List.length_set]); rw [wrap_i64 (by omega) (by omega)] <;> omega) (put_T rfl _) ?_;refine EvO.go (d := .agg [.int .i64 4, .int .i64 (2 * n.cap), .int .i64 0, .nul]) (st1 := _) rfl rfl rfl (put_T rfl _) ?_;have hH := hH.nulE 2;obtain ⟨_, st, hev, rfl, cd, dk, hH⟩ := add_ev (rs := []) hF (by omega) hH;refine qv hev ?_;refine qe hK ?_;have hcl1 : (code ++ [mkI 4 (2 * n.cap) 0 []]).length = code.length + 1 := by simp
   refine qq ?_;refine qj fun K hK => ?_;refine qm ?_;refine qm ?_;refine qA ?_;obtain ⟨_, st, hev, rfl, cd, dk, hH⟩ := ih t (by omega) hF hnd hsl.tail hsz.tail hse.tail hks.1 (by omega) ⟨cd, dk, hH⟩;refine qv hev ?_;refine qe hK ?_;rw [hcl1] at hH;have hcl2 : (code ++ [mkI 4 (2 * n.cap) 0 []] ++ codeT t (code.length + 1)).length = code.length + 1 + t.sz := by rw [List.length_append, hcl1, codeT_len t _ hks.1]
   refine qj fun K hK => ?_;refine qm ?_;refine qp (o := 5) ?_;refine ql hH at4 ?_;refine EvO.mulZ (z := (2 * n.cap)) rfl (ev rfl) (ev rfl) (by (try simp only [List.length_reverse, List.length_cons, List.length_nil, List.length_append, List.length_map, List.length_set]); rw [wrap_i64 (by omega) (by omega)] <;> omega) (put_T rfl _) ?_;refine EvO.addZ (z := (2 * n.cap + 1)) rfl (ev rfl) (ev rfl) (by (try simp only [List.length_reverse, List.length_cons, List.length_nil, List.length_append, List.length_map, List.length_set]); rw [wrap_i64 (by omega) (by omega)] <;> omega) (put_T rfl _) ?_;refine EvO.go (d := .agg [.int .i64 4, .int .i64 (2 * n.cap + 1), .int .i64 0, .nul]) (st1 := _) rfl rfl rfl (put_T rfl _) ?_;have hH := hH.nulE 2;obtain ⟨_, st, hev, rfl, cd, dk, hH⟩ := add_ev (rs := []) hF (by omega) hH;refine qv hev ?_;refine qe hK ?_;have hfin : code ++ [mkI 4 (2 * n.cap) 0 []] ++ codeT t (code.length + 1) ++ [mkI 4 (2 * n.cap + 1) 0 []] = code ++ mkI 4 (2 * n.cap) 0 [] :: (codeT t (code.length + 1) ++ [mkI 4 (2 * n.cap + 1) 0 []]) := by simp
   rw [hfin] at hH;refine ⟨fun i h => (by cases h), _, _, _, rfl, rfl, ?_⟩;exact ⟨rfl, cd, dk, hH.erase 4⟩
  ·refine EvC.skip ?_;have hcT : codeT (.mk n ks) code.length = [] := by simp only [codeT, if_neg q2, if_neg q7, if_neg q8, if_neg q3, if_neg q4, if_neg q5, if_neg q6]
   rw [hcT, List.append_nil];refine ⟨fun i h => (by cases h), _, _, _, rfl, rfl, ?_⟩;exact ⟨rfl, cd, dk, hH.erase 4⟩
def ixF_Qj (fr : Go.V.Fr) (k : Nat) : Go.V.D := Go.V.nth .junk fr.loc k
def nlC (x : Nl) : List D := [x.d]
theorem nl_get {l : List Nl} {i : Nat} {q : Nl} (h : l[i]? = some q) : (l.map nlC)[i]? = some (nlC q) := by rw [List.getElem?_map, h]; rfl
def compD (R : CompR) : D := .tup [(pgV R.code R.starts).d, .int .i64 R.e, .int .i64 R.w]
theorem spl_all {es M : List Int} (h : M.length = es.length) : spl es 0 M = M := by
 unfold spl; simp [h]
theorem compS_nil (r : Nat) (c : List PIns) (s : List Int) : compS [] r c s = ⟨c, s, 0, 0⟩ := by simp only [compS]
theorem compile_ev {s0 : St} {x : D} {rules : List Nl} (hx : V.Rows s0 1 x (rules.map nlC)) (hr : ∀ r ∈ rules, r.ok) (hl : rules.length ≤ 1048576) : Ev pv 14 [x] s0 (compD (compileS (rules.map (·.l)))) s0 := by
 refine Ev.mk1 rfl fi14 rfl rfl rfl ?_;dsimp only [u3, u4, List.length, Nat.reduceSub, Nat.reduceAdd, w1, w2];obtain ⟨hSb, hF, hH⟩ := ri s0;generalize enterSt .ro s0 = S at *;have hx := Arg.of hx hSb;have hfz : ∀ (st : St) (e w : Int), freezeD st s0.bs.length false 16 (tupD [.agg [.nul, .nul], .int .i64 e, .int .i64 w]) = some (compD ⟨[], [], e, w⟩) := fun st e w => rfl;refine qq ?_;refine qj fun K hK => ?_;refine qa hH fun k2 st hk2 hH => ?_;refine qm ?_;refine qm ?_;refine qe hK ?_;refine qq ?_;refine qq ?_;refine qj fun K hK => ?_;refine qm ?_;refine qn ?_;simp only [List.length_map];refine qg ?_;refine qe hK ?_;unfold compileS
 by_cases h8 : 8 < rules.length
 ·rw [if_pos (by rw [List.length_map]; exact h8)];refine qD rfl (by simp; omega) ?_;refine qq ?_;refine qj fun K hK => ?_;refine EvO.go (d := .agg [.nul, .nul]) (st1 := _) rfl rfl rfl (by dsimp only [Fr.put, u1, u2] <;> rfl) ?_;refine qS hH at0 fun st hH => ?_;dsimp only [u2, u1, u3, u4, setMany, u5, u6, D.cells, Nat.reduceAdd, insC, nodC, intC, nlC] at hH;refine qm ?_;refine qm ?_;refine qe hK ?_;refine EvC.ret ⟨rx, _, hH.resCellTT rfl at0 rfl rfl rfl, rl hSb hH (hfz _ 13 8)⟩
 ·rw [if_neg (by rw [List.length_map]; exact h8)];refine qE rfl (by simp; omega) ?_;refine EvC.skip ?_;refine qq ?_;refine qj fun K hK => ?_;refine EvO.go (d := .agg [.nul, .nul, .nul, .nul]) (st1 := _) rfl rfl rfl (by dsimp only [Fr.put, u1, u2] <;> rfl) ?_;refine qb hH fun k14 st hk14 hH => ?_;refine qm ?_;refine qe hK ?_;refine qq ?_;refine qj fun K hK => ?_;refine qm ?_;refine qe hK ?_;refine qq ?_;refine qq ?_;refine qj fun K hK => ?_;refine qm ?_;refine qn ?_;simp only [List.length_map];refine qm ?_;refine qe hK ?_;have hH : Has s0.bs.length S st (.lst .nul 1 (([] : List Int).map intC) :: .deep (fun _ => False) .nul 4 (([] : List PIns).map insC) :: .box k14 (.mem 0 false [.nul, .nul, .nul, .nul]) :: [.box k2 (.mem 0 false [.nul, .nul])]) := (hH.nulD 4).nulE 1;refine EvC.block ?_;refine EvC.loop (fun mm fr st => ∃ (r : Nat) (cd nd zd ed sd : D) (dk : Nat → Prop) (code : List PIns) (starts : List Int), fr.clean = ⟨18, [ixF_Qj fr 0, ixF_Qj fr 1, .ptr k2 0 0, .int .i64 0, .int .i64 0, .ptr k14 0 0, sd, ixF_Qj fr 7, ixF_Qj fr 8, ixF_Qj fr 9, ixF_Qj fr 10, ixF_Qj fr 11, ixF_Qj fr 12, ixF_Qj fr 13, ixF_Qj fr 14, x, .int .i64 (rules.length : Nat), .int .i64 (r : Nat)], []⟩ ∧ Has s0.bs.length S st [.lst sd 1 (starts.map intC), .deep dk cd 4 (code.map insC), .box k14 (.mem 0 false [cd, nd, zd, ed]), .box k2 (.mem 0 false [.nul, .nul])] ∧ (r + mm = rules.length) ∧ (compS ((rules.drop r).map (·.l)) r code starts = compS (rules.map (·.l)) 0 [] []) ∧ (code.length ≤ 400) ∧ (starts.length ≤ r)) (rules.length) ?_ ?_
  ·exact ⟨0, .nul, .nul, .nul, .nul, .nul, (fun _ => False), [], [], rfl, hH, by omega, by rw [List.drop_zero], by simp, by simp⟩
  rintro mm fr st ⟨r, cd, nd, zd, ed, sd, dk, code, starts, hfr, hH, hrr, hX, hcl, hst⟩;rw [hfr];clear hfr;generalize ixF_Qj fr = ee;clear fr;refine qq ?_;refine qj fun K hK => ?_;refine qg ?_;refine qe hK ?_
  by_cases hlt : r < rules.length
  ·obtain ⟨q, hq⟩ : ∃ q, rules[r]? = some q := ⟨rules[r]'hlt, List.getElem?_eq_getElem _⟩
   have hqo := hr q (List.mem_of_getElem? hq);have hr1 := nl_get hq
   have hdr : rules.drop r = q :: rules.drop (r + 1) := by
    rw [List.drop_eq_getElem_cons hlt]
    congr 1
    exact Option.some.inj ((List.getElem?_eq_getElem _).symm.trans hq)
   rw [hdr, List.map_cons, compS] at hX;refine qq ?_;refine qD rfl (by simp; omega) ?_;refine EvC.skip ?_;refine qq ?_;refine EvC.block ?_;refine qq ?_;refine qj fun K hK => ?_;refine qm ?_;refine qr fun p20 hp20 => ?_;refine qR ?_;refine qm ?_;refine qm ?_;refine qe hK ?_;refine qq ?_;refine qq ?_;refine qj fun K hK => ?_;refine qm ?_;refine qv (rightL_ev hqo) ?_;refine qg ?_;refine qe hK ?_
   cases hright : rightN q.l with
   | false =>
    rw [if_pos hright] at hX;refine qB ?_;refine qq ?_;refine qj fun K hK => ?_;refine EvO.go (d := .agg [.nul, .nul]) (st1 := _) rfl rfl rfl (put_T rfl _) ?_;refine qm ?_;refine qS hH at3 fun st hH => ?_;dsimp only [u2, u1, u3, u4, setMany, u5, u6, D.cells, Nat.reduceAdd, insC, nodC, intC, nlC] at hH;refine qm ?_;refine qm ?_;refine qe hK ?_;rw [← hX];refine EvC.ret ⟨rx, _, hH.resCellTT rfl at3 rfl rfl rfl, rl hSb hH (hfz _ 1 r)⟩
   | true =>
    rw [if_neg (by rw [hright]; simp)] at hX;obtain ⟨htok, htf⟩ := tree_is hright;have hqd := hqo.c.arg s0.bs.length S;have hqn := hqo.nl;have hcd := hqo.c;refine qC ?_;refine EvC.skip ?_;refine qq ?_;refine qj fun K hK => ?_;refine qm ?_;refine qm ?_;refine qm ?_;refine qm ?_;refine qm ?_;refine qn ?_;simp only [List.length_map];refine EvO.hmake (s := 1) hH rfl rfl rfl rfl rfl rfl rfl rfl (Nat.le_of_ble_eq_true rfl) (by omega) (fun _ => (put_T rfl _)) (fun k33 st hk33 hH => ?_);refine qm ?_;refine qn ?_;simp only [List.length_map];refine EvO.hmake (s := 1) hH rfl rfl rfl rfl rfl rfl rfl rfl (Nat.le_of_ble_eq_true rfl) (by omega) (fun _ => (put_T rfl _)) (fun k36 st hk36 hH => ?_);refine qg ?_;refine qp (o := 1) ?_;refine qT hH at4 fun st hH => ?_;dsimp only [u2, u1, u3, u4, setMany, u5, u6, D.cells, Nat.reduceAdd, insC, nodC, intC, nlC] at hH;refine qg ?_;refine qp (o := 2) ?_;refine qT hH at4 fun st hH => ?_;dsimp only [u2, u1, u3, u4, setMany, u5, u6, D.cells, Nat.reduceAdd, insC, nodC, intC, nlC] at hH;refine qg ?_;refine qp (o := 3) ?_;refine qT hH at4 fun st hH => ?_;dsimp only [u2, u1, u3, u4, setMany, u5, u6, D.cells, Nat.reduceAdd, insC, nodC, intC, nlC] at hH;refine qe hK ?_
    have hH : Has s0.bs.length S st (.lst (.win k33 0 0 q.l.length 1) 1 ((List.replicate q.l.length (0 : Int)).map intC) :: .lst (.win k36 0 0 q.l.length 1) 1 ((List.replicate q.l.length (0 : Int)).map intC) :: .lst sd 1 (starts.map intC) :: .deep dk cd 4 (code.map insC) :: .box k14 (.mem 0 false [cd, q.d, .win k33 0 0 q.l.length 1, .win k36 0 0 q.l.length 1]) :: .box k2 (.mem 0 false [.nul, .nul]) :: []) := by
     rw [List.map_replicate]; exact hH.front at1
    refine qq ?_;refine qj fun K hK => ?_;refine qm ?_;refine qm ?_;refine qg ?_;refine qp (o := 2) ?_;refine ql hH at4 ?_;obtain ⟨_, st, hev, rfl, hH⟩ := sizes_ev hqo.nl hqo.i hqo.c _ (treeN q.l) (Nat.le_refl _) htok (at_ := 0) (by rw [htf]; exact Seg.all _) (by simp) hH;refine qv hev ?_;refine qe hK ?_;rw [spl_all (by rw [Tr.zs_len, htf]; simp)] at hH;have hH := hH.front at1;refine qq ?_;refine qj fun K hK => ?_;refine qm ?_;refine qm ?_;refine qg ?_;refine qp (o := 3) ?_;refine ql hH at4 ?_;obtain ⟨_, st, hev, rfl, hH⟩ := ends_ev hqo.nl hqo.i hqo.c _ (treeN q.l) (Nat.le_refl _) htok (at_ := 0) (by rw [htf]; exact Seg.all _) (by simp) hH;refine qv hev ?_;refine qe hK ?_;rw [spl_all (by rw [Tr.es_len, htf]; simp)] at hH;have hr13 := int_get (zs_head (Seg.all (treeN q.l).zs));refine qq ?_;refine qq ?_;refine qj fun K hK => ?_;refine qm ?_;refine qg ?_;refine qp (o := 0) ?_;refine ql hH at4 ?_;refine EvO.dlen hH rfl (ev rfl) (by exact at3) rfl (put_T rfl _) ?_;simp only [List.length_map];refine qm ?_;refine qg ?_;refine qp (o := 2) ?_;refine ql hH at4 ?_;refine qi hH at1 fun p64 hp64 => ?_;refine qo hH at1 ?_;refine EvO.addZ (z := ((code.length + min (treeN q.l).sz 401 : Nat) : Int)) rfl (ev rfl) (ev rfl) (by (try simp only [List.length_reverse, List.length_cons, List.length_nil, List.length_append, List.length_map, List.length_set]); rw [wrap_i64 (by omega) (by omega)] <;> omega) (put_T rfl _) ?_;refine EvO.addZ (z := ((code.length + min (treeN q.l).sz 401 + 3 : Nat) : Int)) rfl (ev rfl) (ev rfl) (by (try simp only [List.length_reverse, List.length_cons, List.length_nil, List.length_append, List.length_map, List.length_set]); rw [wrap_i64 (by omega) (by omega)] <;> omega) (put_T rfl _) ?_;refine qg ?_;refine qe hK ?_
    by_cases hbig : 400 < code.length + min (treeN q.l).sz 401 + 3
    ·rw [if_pos hbig] at hX;have hcc : decide (((code.length + min (treeN q.l).sz 401 + 3 : Nat) : Int) > 400) = true := by rw [decide_eq_true_eq]; omega
     refine qD rfl (by rw [hcc]) ?_;refine qq ?_;refine qj fun K hK => ?_;refine EvO.go (d := .agg [.nul, .nul]) (st1 := _) rfl rfl rfl (put_T rfl _) ?_;refine qm ?_;refine qS hH at5 fun st hH => ?_;dsimp only [u2, u1, u3, u4, setMany, u5, u6, D.cells, Nat.reduceAdd, insC, nodC, intC, nlC] at hH;refine qm ?_;refine qm ?_;refine qe hK ?_;rw [← hX];refine EvC.ret ⟨rx, _, hH.resCellTT rfl at5 rfl rfl rfl, rl hSb hH (hfz _ 12 r)⟩
    ·rw [if_neg hbig] at hX;have hcc : decide (((code.length + min (treeN q.l).sz 401 + 3 : Nat) : Int) > 400) = false := by rw [decide_eq_false_iff_not]; omega
     refine qE rfl (by rw [hcc]) ?_;refine EvC.skip ?_;have hH := hH.front at1;have hH := hH.front at3;have hH := hH.front at4;have hH : Has s0.bs.length S st (.box k14 (.mem 0 false [cd, q.d, .win k33 0 0 q.l.length 1, .win k36 0 0 q.l.length 1]) :: .deep dk cd 4 (code.map insC) :: .lst (.win k33 0 0 q.l.length 1) 1 ((treeN q.l).zs.map intC) :: .lst (.win k36 0 0 q.l.length 1) 1 (((treeN q.l).es 0).map intC) :: .lst sd 1 (starts.map intC) :: .box k2 (.mem 0 false [.nul, .nul]) :: []) := hH;refine qq ?_;refine qj fun K hK => ?_;refine qm ?_;refine qm ?_;refine EvO.go (d := .agg [.int .i64 4, .int .i64 0, .int .i64 0, .nul]) (st1 := _) rfl rfl rfl (put_T rfl _) ?_;have hH := hH.nulE 2;obtain ⟨_, st, hev, rfl, cd, dk, hH⟩ := add_ev (rs := []) hF (by omega) hH;refine qv hev ?_;refine qh (s := 1) (vs := [_]) hH fun k75 st hk75 hH => ?_;refine EvO.happend (s := 1) hH rfl (ev rfl) (ev rfl) (by exact at5) (by exact hH.rows (by exact at0)) rfl rfl rfl rfl rfl rfl rfl ⟨(Nat.le_of_ble_eq_true rfl), (Nat.le_of_ble_eq_true rfl)⟩ (fun _ => (put_T rfl _)) (by simp only [List.length_cons, List.length_nil, List.length_map] <;> omega) (by exact .inl hF) (fun x76 st hH => ?_);dsimp only [u2, u1, u3, u4, setMany, u5, u6, D.cells, Nat.reduceAdd, insC, nodC, intC, nlC] at hH;refine qm ?_;refine qe hK ?_;have hH := hH.drop 1;have hcl1 : (code ++ [mkI 4 0 0 []]).length = code.length + 1 := by simp
     refine qq ?_;refine qj fun K hK => ?_;refine qm ?_;obtain ⟨_, st, hev, rfl, cd, dk, hH⟩ := node_ev hqo.nl hqo.i _ (treeN q.l) (Nat.le_refl _) hF hqo.c (at_ := 0) (by rw [htf]; exact Seg.all _) (Seg.all _) (Seg.all _) htok (by omega) ⟨cd, dk, hH⟩;refine qv hev ?_;refine qe hK ?_;rw [hcl1] at hH;have hcl2 : (code ++ [mkI 4 0 0 []] ++ codeT (treeN q.l) (code.length + 1)).length = code.length + 1 + (treeN q.l).sz := by rw [List.length_append, hcl1, codeT_len _ _ htok]
     refine qq ?_;refine qj fun K hK => ?_;refine qm ?_;refine EvO.go (d := .agg [.int .i64 4, .int .i64 1, .int .i64 0, .nul]) (st1 := _) rfl rfl rfl (put_T rfl _) ?_;have hH := hH.nulE 2;obtain ⟨_, st, hev, rfl, cd, dk, hH⟩ := add_ev (rs := []) hF (by omega) hH;refine qv hev ?_;refine qe hK ?_;have hcl3 : (code ++ [mkI 4 0 0 []] ++ codeT (treeN q.l) (code.length + 1) ++ [mkI 4 1 0 []]).length = code.length + 1 + (treeN q.l).sz + 1 := by rw [List.length_append, hcl2]; rfl
     refine qj fun K hK => ?_;refine qm ?_;refine qm ?_;refine EvO.go (d := .agg [.int .i64 7, .int .i64 (r : Nat), .int .i64 0, .nul]) (st1 := _) rfl rfl rfl (put_T rfl _) ?_;have hH := hH.nulE 2;obtain ⟨_, st, hev, rfl, cd, dk, hH⟩ := add_ev (rs := []) hF (by omega) hH;refine qv hev ?_;refine qe hK ?_
     have hrc : code ++ [mkI 4 0 0 []] ++ codeT (treeN q.l) (code.length + 1) ++ [mkI 4 1 0 []] ++ [mkI 7 (r : Nat) 0 []] = code ++ ruleC (treeN q.l) code.length r := by
      unfold ruleC; simp
     rw [hrc] at hH;have hH := (hH.erase 2).erase 2;have hH := hH.front at1;have hH := hH.front at2;refine qj fun K hK => ?_;refine qA ?_;refine qm ?_;refine qe hK ?_;exact ⟨mm - 1, by omega, ⟨r + 1, cd, q.d, .win k33 0 0 q.l.length 1, .win k36 0 0 q.l.length 1, x76, dk, code ++ ruleC (treeN q.l) code.length r, starts ++ [((code.length : Nat) : Int)], rfl, (by rw [List.map_append (f := intC)]; exact hH), by omega, hX, by rw [List.length_append, ruleC_len htok]; omega, by rw [List.length_append]; simp only [List.length_cons, List.length_nil]; omega⟩⟩
  ·refine qq ?_;refine qE rfl (by simp; omega) ?_;refine EvC.exit ?_;rw [List.drop_of_length_le (by omega), List.map_nil, compS_nil] at hX;refine qq ?_;refine qj fun K hK => ?_;refine qm ?_;refine qg ?_;refine qp (o := 0) ?_;refine ql hH at2 ?_;refine qm ?_;refine EvO.ones (qs := [(0, _), (1, _)]) rfl rfl rfl rfl ⟨rfl, (ev rfl), (by exact hH.dcells (by exact at1)), rfl, (ev rfl), (by exact hH.ocells (by exact at0)), trivial⟩ (by intro q hq; simp only [List.mem_cons, List.not_mem_nil, or_false] at hq; rcases hq with rfl | rfl <;> exact ⟨rfl, by exact Nat.le_of_ble_eq_true rfl⟩) (by show List.foldl _ [_, _] _ = _; dsimp only [List.foldl_cons, List.foldl_nil, u2, u1] <;> rfl) (put_T rfl _) ?_;refine qS hH at3 fun st hH => ?_;dsimp only [u2, u1, u3, u4, setMany, u5, u6, D.cells, Nat.reduceAdd, insC, nodC, intC, nlC] at hH;refine qm ?_;refine qm ?_;refine qe hK ?_;rw [← hX];have h1 := hH.freezeDp at1 (n := 13) (by decide);have h2 := hH.freezeL at0 (int_plain _) (n := 14) (by decide)
   have h4 : freezeD st s0.bs.length false 15 (.agg [cd, sd]) = some (pgV code starts).d := by
    show (mapO (freezeD st s0.bs.length false 14) [cd, sd]).map D.agg = _;simp only [mapO, h1, h2, Option.map_some]; rfl
   have h3 : freezeD st s0.bs.length false 16 (tupD [.agg [cd, sd], .int .i64 0, .int .i64 0]) = some (compD ⟨code, starts, 0, 0⟩) := by
    show (mapO (freezeD st s0.bs.length false 15) [.agg [cd, sd], .int .i64 0, .int .i64 0]).map D.tup = _;simp only [mapO, h4]; rfl
   exact EvC.ret ⟨rx, _, hH.resCellTT rfl at3 rfl rfl rfl, rl hSb hH h3⟩
theorem compS_ok : ∀ (ls : List (List Nod)) (r : Nat) (c : List PIns) (s : List Int), (∀ l ∈ ls, ∀ n ∈ l, n.rs.length ≤ 1048576) → (∀ i ∈ c, InsV i) → c.length ≤ 400 → s.length ≤ r → (∀ i ∈ (compS ls r c s).code, InsV i) ∧ (compS ls r c s).code.length ≤ 400 ∧ (compS ls r c s).starts.length ≤ r + ls.length
 | [], r, c, s, _, h1, h2, h3 => by rw [compS_nil]; exact ⟨h1, h2, by simpa using h3⟩
 | l :: ls, r, c, s, h0, h1, h2, h3 => by
  have hem : ∀ e w : Int, (∀ i ∈ (CompR.mk [] [] e w).code, InsV i) ∧ (CompR.mk [] [] e w).code.length ≤ 400 ∧ (CompR.mk [] [] e w).starts.length ≤ r + (l :: ls).length := fun e w => ⟨fun i hi => (by cases hi), by simp, by simp⟩
  rw [compS]
  split
  ·exact hem _ _
  ·rename_i hr;rw [Bool.not_eq_false] at hr
   split
   ·exact hem _ _
   ·rename_i hb;obtain ⟨t1, t2⟩ := tree_is hr
    obtain ⟨h4, h5, h6⟩ := compS_ok ls (r + 1) (c ++ ruleC (treeN l) c.length r) (s ++ [((c.length : Nat) : Int)]) (fun l' hl' => h0 l' (List.mem_cons_of_mem _ hl')) (fun i hi => by
     rcases List.mem_append.1 hi with hi | hi
     ·exact h1 i hi
     ·exact ruleC_v (by rw [t2]; exact h0 l (List.mem_cons_self ..)) i hi) (by rw [List.length_append, ruleC_len t1]; omega) (by rw [List.length_append]; simp only [List.length_cons, List.length_nil]; omega)
    exact ⟨h4, h5, by simp only [List.length_cons]; omega⟩
theorem compileS_ok {ls : List (List Nod)} (h : ∀ l ∈ ls, ∀ n ∈ l, n.rs.length ≤ 1048576) : (pgV (compileS ls).code (compileS ls).starts).ok ∧ (compileS ls).code.length ≤ 400 := by
 unfold compileS
 split
 ·exact ⟨pgV_ok (fun i hi => (by cases hi)) (by simp) (by simp), by simp⟩
 ·obtain ⟨h1, h2, h3⟩ := compS_ok ls 0 [] [] h (fun i hi => by cases hi) (by simp) (by simp);exact ⟨pgV_ok h1 (by omega) (by omega), h2⟩
def strC (b : List UInt8) : List D := [.str b]
theorem str_get {l : List (List UInt8)} {i : Nat} {q : List UInt8} (h : l[i]? = some q) : (l.map strC)[i]? = some (strC q) := by rw [List.getElem?_map, h]; rfl
theorem nls_ok {parts : List (List Nod)} (h : ∀ l ∈ parts, (∀ n ∈ l, NdV n) ∧ l.length ≤ 500) : ∀ r ∈ parts.map (fun l => (⟨nlD l, l⟩ : Nl)), r.ok := by
 intro r hr;obtain ⟨l, hl, rfl⟩ := List.mem_map.1 hr;exact nl_ok (h l hl).1 (by have := (h l hl).2; omega)
theorem nls_rows {parts : List (List Nod)} : (parts.map (fun l => (⟨nlD l, l⟩ : Nl))).map nlC = parts.map partC := by
 rw [List.map_map]; rfl
theorem comp_parts {s0 : St} {y : D} {parts : List (List Nod)} (h : ∀ l ∈ parts, (∀ n ∈ l, NdV n) ∧ l.length ≤ 500) (hl : parts.length ≤ 1048576) (hy : V.Rows s0 1 y (parts.map partC)) : Ev pv 14 [y] s0 (compD (compileS parts)) s0 ∧ (pgV (compileS parts).code (compileS parts).starts).ok ∧ (compileS parts).code.length ≤ 400 := by
 have h1 := compile_ev (s0 := s0) (x := y) (rules := parts.map (fun l => (⟨nlD l, l⟩ : Nl))) (by rw [nls_rows]; exact hy) (nls_ok h) (by rw [List.length_map]; exact hl);have h2 : (parts.map (fun l => (⟨nlD l, l⟩ : Nl))).map (·.l) = parts := by rw [List.map_map]; exact List.map_id _
 rw [h2] at h1;exact ⟨h1, compileS_ok fun l hl n hn => ((h l hl).1 n hn).2.1⟩
open Go.V Go Go.RowKit
variable {H : Type} {enc : TypeId × Value → H} {w : World} {spare : Nat → Bool} {held : Bool} {d : DataW H}
theorem arg_strs (h : Rd enc Try.prog w spare held 55 d) : ∃ (y : D) (ps : List (List UInt8)), dval d = y ∧ SlD y 1 (ps.map strC) ∧ (Rows.uptoBulk d ≤ 1048576 → ps.length ≤ 1048576 ∧ ∀ b ∈ ps, b.length ≤ 1048576) := by
 rcases h.slice Try.underlying55 with rfl | ⟨elems, rest, rfl, he⟩
 ·exact ⟨_, [], rfl, .inl ⟨rfl, rfl⟩, fun _ => ⟨by simp, fun b hb => (by cases hb)⟩⟩
 ·obtain ⟨l, h1, h2, h3⟩ := sl_of (s := 1) (f := strC) (Q := fun (b : List UInt8) x => b.length ≤ Rows.uptoBulk x) (rest := rest) fun x hx => by
   obtain ⟨b, rfl⟩ := (he x hx).string Try.underlying9;refine ⟨b, rfl, rfl, rfl, ?_⟩;simp only [Rows.uptoBulk]; omega
  refine ⟨_, l, rfl, h1, fun hb => ⟨?_, fun b hb' => ?_⟩⟩
  ·have := bulk_len elems;simp only [Rows.uptoBulk] at hb;omega
  ·obtain ⟨x, hx, h4⟩ := h3 b hb';have := bulk_all hx;simp only [Rows.uptoBulk] at hb;omega
end Go.Proofs.Ytbdilgkfnacahaa
namespace Go.Proofs.Ytbdilgkfnacahaa
open Go.V Go
def shI (n : Nat) (i : PIns) : PIns := if i.op = 2 then ⟨2, i.x + n, i.y + n, i.rd, i.rs⟩ else if i.op = 3 then ⟨3, i.x + n, i.y, i.rd, i.rs⟩ else i
theorem shI_mk (n : Nat) {op : Int} (x y : Int) (rs : List Rg) (h2 : op ≠ 2) (h3 : op ≠ 3) : shI n (mkI op x y rs) = mkI op x y rs := by
  unfold shI mkI
  rw [if_neg h2, if_neg h3]
theorem shI_sp (n s o : Nat) (lz : Bool) : shI n (spI s o lz) = spI (s + n) (o + n) lz := by
  cases lz
  · show (⟨2, ((s + 1 : Nat) : Int) + n, (o : Int) + n, _, _⟩ : PIns) = mkI 2 ((s + n + 1 : Nat) : Int) ((o + n : Nat) : Int) []
    unfold mkI
    congr 1; omega
  · show (⟨2, (o : Int) + n, ((s + 1 : Nat) : Int) + n, _, _⟩ : PIns) = mkI 2 ((o + n : Nat) : Int) ((s + n + 1 : Nat) : Int) []
    unfold mkI
    congr 1; omega
theorem shI_jp (n e : Nat) : shI n (jpI e) = jpI (e + n) := by
  show (⟨3, (e : Int) + n, 0, _, _⟩ : PIns) = mkI 3 ((e + n : Nat) : Int) 0 []
  unfold mkI
  congr 1
theorem repC_sh {c : Nat → List PIns} {z n : Nat} (hc : ∀ b, c (b + n) = (c b).map (shI n)) : ∀ k b, repC c z k (b + n) = (repC c z k b).map (shI n)
  | 0, b => rfl
  | k + 1, b => by
    have h := repC_sh hc (z := z) k (b + z)
    rw [Nat.add_right_comm] at h
    rw [repC, repC, List.map_append, hc, h]
theorem optC_sh {sp sp' : Nat → PIns} {c : Nat → List PIns} {z n : Nat} (hs : ∀ s, sp' (s + n) = shI n (sp s)) (hc : ∀ b, c (b + n) = (c b).map (shI n)) : ∀ k b, optC sp' c z k (b + n) = (optC sp c z k b).map (shI n)
  | 0, b => rfl
  | k + 1, b => by
    have h := optC_sh hs hc (z := z) k (b + 1 + z)
    have e1 : b + 1 + z + n = b + n + 1 + z := by omega
    have e2 : b + n + 1 = b + 1 + n := by omega
    rw [e1] at h
    rw [optC, optC, List.map_cons, List.map_append, hs, h, e2, hc]
theorem rptC_sh {nd : Nod} {c : Nat → List PIns} {z n b : Nat} (hc : ∀ b, c (b + n) = (c b).map (shI n)) : rptC nd c z (b + n) = (rptC nd c z b).map (shI n) := by
  unfold rptC
  split
  · rw [List.map_append, repC_sh hc, List.map_cons, List.map_append, shI_sp, List.map_cons, List.map_nil, shI_jp]
    have e1 : b + n + nd.mn.toNat * z = b + nd.mn.toNat * z + n := by omega
    have e2 : b + nd.mn.toNat * z + n + 1 = b + nd.mn.toNat * z + 1 + n := by omega
    have e3 : b + nd.mn.toNat * z + n + z + 2 = b + nd.mn.toNat * z + z + 2 + n := by omega
    rw [e1, e2, e3, hc]
  · rw [List.map_append, repC_sh hc]
    have e1 : b + n + nd.mn.toNat * z = b + nd.mn.toNat * z + n := by omega
    rw [e1]
    congr 1
    refine optC_sh (fun s => ?_) hc _ _
    rw [shI_sp]
    congr 1
    omega
mutual
theorem codeT_sh (n : Nat) : ∀ (t : Tr) (b : Nat), codeT t (b + n) = (codeT t b).map (shI n)
  | .mk nd ks, b => by
    have hc := fun b => catT_sh n ks b
    have ha := fun e b => altT_sh n e ks b
    simp only [codeT]
    split
    · rw [List.map_cons, List.map_nil, shI_mk _ _ _ _ (by decide) (by decide)]
    split
    · rw [List.map_cons, List.map_nil, shI_mk _ _ _ _ (by decide) (by decide)]
    split
    · rw [List.map_cons, List.map_nil, shI_mk _ _ _ _ (by decide) (by decide)]
    split
    · exact hc b
    split
    · rw [Nat.add_right_comm]; exact ha _ b
    split
    · exact rptC_sh hc
    split
    · rw [List.map_cons, List.map_append, List.map_cons, List.map_nil, shI_mk _ _ _ _ (by decide) (by decide), shI_mk _ _ _ _ (by decide) (by decide), Nat.add_right_comm, hc]
    · rfl
theorem catT_sh (n : Nat) : ∀ (ts : Trs) (b : Nat), catT ts (b + n) = (catT ts b).map (shI n)
  | .nil, b => by simp only [catT, List.map_nil]
  | .cons t ts, b => by
    have h := catT_sh n ts (b + t.sz)
    rw [Nat.add_right_comm] at h
    simp only [catT, List.map_append]
    rw [codeT_sh n t b, h]
theorem altT_sh (n : Nat) : ∀ (e : Nat) (ts : Trs) (b : Nat), altT (jpI (e + n)) ts (b + n) = (altT (jpI e) ts b).map (shI n)
  | e, .nil, b => by simp only [altT, List.map_nil]
  | e, .cons t ts, b => by
    have h := altT_sh n e ts (b + t.sz + 2)
    have h1 := codeT_sh n t (b + 1)
    have e1 : b + t.sz + 2 + n = b + n + t.sz + 2 := by omega
    have e2 : b + 1 + n = b + n + 1 := by omega
    have e3 : b + 1 + t.sz + 1 + n = b + n + 1 + t.sz + 1 := by omega
    rw [e1] at h
    rw [e2] at h1
    simp only [altT]
    split
    · exact codeT_sh n t b
    · rw [List.map_cons, List.map_append, List.map_cons, shI_sp, shI_jp, h1, h, e3]
end
def InI (lo hi : Nat) (i : PIns) : Prop := i.op ≠ 7 ∧ (i.op = 2 → ((lo : Int) ≤ i.x ∧ i.x ≤ hi) ∧ (lo : Int) ≤ i.y ∧ i.y ≤ hi) ∧ (i.op = 3 → (lo : Int) ≤ i.x ∧ i.x ≤ hi)
theorem InI.mono {lo hi lo' hi' : Nat} {i : PIns} (h : InI lo hi i) (h1 : lo' ≤ lo) (h2 : hi ≤ hi') : InI lo' hi' i :=
  ⟨h.1, fun e => by have := h.2.1 e; omega, fun e => by have := h.2.2 e; omega⟩
theorem InI.mk {lo hi : Nat} {op : Int} (x y : Int) (rs : List Rg) (h2 : op ≠ 2) (h3 : op ≠ 3) (h7 : op ≠ 7) : InI lo hi (mkI op x y rs) := ⟨h7, fun h => absurd h h2, fun h => absurd h h3⟩
theorem InI.sp {lo hi s o : Nat} {lz : Bool} (h1 : lo ≤ s + 1 ∧ s + 1 ≤ hi) (h2 : lo ≤ o ∧ o ≤ hi) : InI lo hi (spI s o lz) := by
  cases lz
  · exact ⟨by show (2 : Int) ≠ 7; decide, fun _ => by show ((lo : Int) ≤ ((s + 1 : Nat) : Int) ∧ ((s + 1 : Nat) : Int) ≤ hi) ∧ (lo : Int) ≤ (o : Int) ∧ (o : Int) ≤ hi; omega, fun h => absurd h (by show ¬ (2 : Int) = 3; decide)⟩
  · exact ⟨by show (2 : Int) ≠ 7; decide, fun _ => by show ((lo : Int) ≤ (o : Int) ∧ (o : Int) ≤ hi) ∧ (lo : Int) ≤ ((s + 1 : Nat) : Int) ∧ ((s + 1 : Nat) : Int) ≤ hi; omega, fun h => absurd h (by show ¬ (2 : Int) = 3; decide)⟩
theorem InI.jp {lo hi e : Nat} (h1 : lo ≤ e ∧ e ≤ hi) : InI lo hi (jpI e) :=
  ⟨by show (3 : Int) ≠ 7; decide, fun h => absurd h (by show ¬ (3 : Int) = 2; decide), fun _ => by show (lo : Int) ≤ (e : Int) ∧ (e : Int) ≤ hi; omega⟩
theorem repC_in {c : Nat → List PIns} {z : Nat} (hc : ∀ b, ∀ i ∈ c b, InI b (b + z) i) : ∀ k b, ∀ i ∈ repC c z k b, InI b (b + k * z) i
  | 0, b, i, hi => by cases hi
  | k + 1, b, i, hi => by
    simp only [repC] at hi
    rw [Nat.succ_mul]
    rcases List.mem_append.1 hi with hi | hi
    · exact (hc b i hi).mono (Nat.le_refl _) (by omega)
    · exact (repC_in hc k _ i hi).mono (by omega) (by omega)
theorem optC_in {sp : Nat → PIns} {c : Nat → List PIns} {z lo hi : Nat} (hs : ∀ s, lo ≤ s → s + 1 ≤ hi → InI lo hi (sp s)) (hc : ∀ b, ∀ i ∈ c b, InI b (b + z) i) : ∀ k b, lo ≤ b → b + k * (z + 1) ≤ hi → ∀ i ∈ optC sp c z k b, InI lo hi i
  | 0, b, _, _, i, hi' => by cases hi'
  | k + 1, b, h1, h2, i, hi' => by
    simp only [optC] at hi'
    rw [Nat.succ_mul] at h2
    rcases List.mem_cons.1 hi' with rfl | hi'
    · exact hs b h1 (by omega)
    · rcases List.mem_append.1 hi' with hi' | hi'
      · exact (hc _ i hi').mono (by omega) (by omega)
      · exact optC_in hs hc k _ (by omega) (by omega) i hi'
mutual
theorem codeT_in : ∀ (t : Tr) (b : Nat), t.ok → ∀ i ∈ codeT t b, InI b (b + t.sz) i
  | .mk n ks, b, hok, i, hi => by
    simp only [Tr.ok] at hok
    have hc := fun b => catT_in ks b hok.2
    obtain ⟨_, hq⟩ := hok.1
    simp only [codeT] at hi
    simp only [Tr.sz]
    by_cases q2 : n.op = 2
    · rw [if_pos q2] at hi
      simp only [List.mem_cons, List.not_mem_nil, or_false] at hi; subst hi; exact InI.mk _ _ _ (by decide) (by decide) (by decide)
    rw [if_neg q2] at hi
    by_cases q7 : n.op = 7
    · rw [if_pos q7] at hi
      simp only [List.mem_cons, List.not_mem_nil, or_false] at hi; subst hi; exact InI.mk _ _ _ (by decide) (by decide) (by decide)
    rw [if_neg q7] at hi
    by_cases q8 : n.op = 8
    · rw [if_pos q8] at hi
      simp only [List.mem_cons, List.not_mem_nil, or_false] at hi; subst hi; exact InI.mk _ _ _ (by decide) (by decide) (by decide)
    rw [if_neg q8] at hi
    have hz : ∀ s k, nodSz n s k = if n.op = 4 then s + 2 * (k - 1) else if n.op = 6 then s + 2 else if n.op = 5 then (if n.mx = -1 then n.mn.toNat * s + s + 2 else n.mn.toNat * s + (n.mx.toNat - n.mn.toNat) * (s + 1)) else s := by
      intro s k; unfold nodSz; rw [if_neg (by omega)]
    by_cases q3 : n.op = 3
    · rw [if_pos q3] at hi
      rw [hz, if_neg (by omega), if_neg (by omega), if_neg (by omega)]
      exact hc b i hi
    rw [if_neg q3] at hi
    by_cases q4 : n.op = 4
    · rw [if_pos q4] at hi
      have hz4 : nodSz n ks.sz ks.len = ks.sz + 2 * (ks.len - 1) := by rw [hz, if_pos q4]
      rw [hz4] at hi ⊢
      exact altT_in ks b (b + (ks.sz + 2 * (ks.len - 1))) hok.2 (Nat.le_refl _) i hi
    rw [if_neg q4] at hi
    by_cases q5 : n.op = 5
    · rw [if_pos q5] at hi
      rw [hz, if_neg q4, if_neg (by omega), if_pos q5]
      unfold rptC at hi
      by_cases qm : n.mx = -1
      · rw [if_pos qm] at hi ⊢
        rcases List.mem_append.1 hi with hi | hi
        · exact (repC_in hc _ _ i hi).mono (Nat.le_refl _) (by omega)
        · rcases List.mem_cons.1 hi with rfl | hi
          · exact InI.sp (by omega) (by omega)
          · rcases List.mem_append.1 hi with hi | hi
            · exact (hc _ i hi).mono (by omega) (by omega)
            · simp only [List.mem_cons, List.not_mem_nil, or_false] at hi; subst hi; exact InI.jp (by omega)
      · rw [if_neg qm] at hi ⊢
        rcases List.mem_append.1 hi with hi | hi
        · exact (repC_in hc _ _ i hi).mono (Nat.le_refl _) (by omega)
        · exact optC_in (fun s h1 h2 => InI.sp (by omega) (by omega)) hc _ _ (by omega) (by omega) i hi
    rw [if_neg q5] at hi
    by_cases q6 : n.op = 6
    · rw [if_pos q6] at hi
      rw [hz, if_neg q4, if_pos q6]
      rcases List.mem_cons.1 hi with rfl | hi
      · exact InI.mk _ _ _ (by decide) (by decide) (by decide)
      · rcases List.mem_append.1 hi with hi | hi
        · exact (hc _ i hi).mono (by omega) (by omega)
        · simp only [List.mem_cons, List.not_mem_nil, or_false] at hi; subst hi; exact InI.mk _ _ _ (by decide) (by decide) (by decide)
    · rw [if_neg q6] at hi; cases hi
theorem catT_in : ∀ (ts : Trs) (b : Nat), ts.ok → ∀ i ∈ catT ts b, InI b (b + ts.sz) i
  | .nil, b, _, i, hi => by simp [catT] at hi
  | .cons t ts, b, hok, i, hi => by
    simp only [Trs.ok] at hok
    simp only [catT] at hi
    simp only [Trs.sz]
    rcases List.mem_append.1 hi with hi | hi
    · exact (codeT_in t b hok.1 i hi).mono (Nat.le_refl _) (by omega)
    · exact (catT_in ts _ hok.2 i hi).mono (by omega) (by omega)
theorem altT_in : ∀ (ts : Trs) (b e : Nat), ts.ok → b + (ts.sz + 2 * (ts.len - 1)) ≤ e → ∀ i ∈ altT (jpI e) ts b, InI b e i
  | .nil, b, e, _, _, i, hi => by simp [altT] at hi
  | .cons t ts, b, e, hok, he, i, hi => by
    simp only [Trs.ok] at hok
    simp only [altT] at hi
    simp only [Trs.sz, Trs.len] at he
    by_cases q : ts.len = 0
    · rw [if_pos q] at hi
      exact (codeT_in t b hok.1 i hi).mono (Nat.le_refl _) (by omega)
    · rw [if_neg q] at hi
      rcases List.mem_cons.1 hi with rfl | hi
      · exact InI.sp (by omega) (by omega)
      · rcases List.mem_append.1 hi with hi | hi
        · exact (codeT_in t _ hok.1 i hi).mono (by omega) (by omega)
        · rcases List.mem_cons.1 hi with rfl | hi
          · exact InI.jp (by omega)
          · exact (altT_in ts _ e hok.2 (by omega) i hi).mono (by omega) (by omega)
end
theorem compS_nil' (r : Nat) (c : List PIns) (s : List Int) : compS [] r c s = ⟨c, s, 0, 0⟩ := by simp only [compS]
end Go.Proofs.Ytbdilgkfnacahaa
