/- own -/
import Derived.Test.YtnleclohocdkaaaWGHr
import Derived.Test.YtnleclohocdkaaaWGPj
import Derived.Test.YtnleclohocdkaaaWGM3
import Derived.Test.YtnleclohocdkaaaWGCa
set_option maxRecDepth 100000
set_option maxHeartbeats 4000000
set_option linter.unusedSimpArgs false
set_option linter.unusedVariables false
namespace Go.Proofs.Ytnleclohocdkaaa
open Go.V Go
def ixF_Qh (fr : Go.V.Fr) (k : Nat) : Go.V.D := Go.V.nth .junk fr.loc k
theorem repC_zero {c : Nat -> List PIns} (hc : ∀ b,(c b).length = 0) (z : Nat) : ∀ k b,repC c z k b = []
 | 0,_ => rfl
 | k + 1,b => by rw [repC,repC_zero hc z k,List.length_eq_zero_iff.1 (hc b)]; rfl
theorem spI_form (s o : Nat) (lz : Bool) : ∃ x y : Int,spI s o lz = mkI 2 x y [] := by
 cases lz
 ·exact ⟨_,_,rfl⟩
 ·exact ⟨_,_,rfl⟩
theorem repeat_ev {l : List Nod} (hll : l.length <= 1048576) {m : Nat} (ih : ∀ t : Tr,t.flat.length <= m -> NodeSpec l t) {n : Nod} {t : Tr} (hop : n.op = 5) (hkm : t.flat.length <= m) (hno : nodOk n 1) (htok : t.ok) {N k : Nat} {S s0 : St} {H : List Ent} {nd zd ed : D} {code : List PIns} {Z E : List Int} {at_ : Nat} (hF : S.flr <= N) (hnd : SlD nd 7 (l.map nodC)) (hsl : Seg l at_ (n :: t.flat)) (hsz : Seg Z (at_ + 1) t.zs) (hse : Seg E (at_ + 1) (t.es (at_ + 1))) (hb : code.length + nodSz n t.sz 1 <= 1000000) (hM : MkH N S s0 k nd zd ed Z E H code) :
  ∃ r st',Ev pv 76 [.ptr k 0 0, .int .i64 (at_ : Nat)] s0 r st' /\ r = .tup [] /\ MkH N S st' k nd zd ed Z E H (code ++ rptC n (codeT t) t.sz code.length) := by
 obtain ⟨cd,dk,hH⟩ := hM;have hle := hsl.le (by simp);simp only [List.length_cons] at hle;have hn := hsl.head;have hsl := hsl.tail;have hr1 := nod_get hn;have hr2 := int_get (zs_head hsz)
 have hmn : 0 <= n.mn /\ n.mn <= 30 /\ (n.mx = -1 \/ (n.mn <= n.mx /\ n.mx <= 30)) := by
  obtain ⟨_,hq⟩ := hno; omega
 have hns : nodSz n t.sz 1 = if n.mx = -1 then n.mn.toNat * t.sz + t.sz + 2 else n.mn.toNat * t.sz + (n.mx.toNat - n.mn.toNat) * (t.sz + 1) := by unfold nodSz; rw [if_neg (by omega),if_neg (by omega),if_neg (by omega),if_pos hop]
 rw [hns] at hb;clear hns;have htc := fun b => codeT_len t b htok;have hb1 : code.length + n.mn.toNat * t.sz <= 1000000 := by split at hb <;> omega
 refine Ev.mkE rfl fi76 rfl rfl rfl ?_;refine zE ?_;change EvC _ _ _ _ s0 _;have hc := hnd.arg N S;refine zQ 7 ?_;refine qr fun p15 hp15 => ?_;refine EvO.rloadS rfl (ev rfl) (by assumption) rfl (by dsimp only [Fr.put,u1,u2] <;> rfl) ?_;refine zQ 2 ?_;refine qa hH fun k4 st hk4 hH => ?_;refine qS hH at0 fun st hH => ?_;dsimp only [u2,u1,u3,u4,setMany,u5,u6,D.cells,Nat.reduceAdd,insC,nodC,intC,natC] at hH;refine zQ 2 ?_;have hH : Has N S st (.box k (.mem 0 false [cd,nd,zd,ed]) :: .deep dk cd 4 (code.map insC) :: .lst zd 1 (Z.map intC) :: .lst ed 1 (E.map intC) :: .box k4 (.mem 0 false (nodC n)) :: H) := hH.rot5;refine zQ 8 ?_;refine qi hH at2 fun p24 hp24 => ?_;refine zQ 3 ?_;have hRl := repC_len htc n.mn.toNat code.length;refine EvC.merge (fun fr st => ∃ (cd : D) (dk : Nat -> Prop) (tmp : List (Nat × D)),fr = ⟨78, [.ptr k 0 0, .int .i64 (at_ : Nat),ixF_Qh fr 2,ixF_Qh fr 3, .ptr k4 0 0, .int .i64 ((at_ + 1 : Nat) : Int),ixF_Qh fr 6,ixF_Qh fr 7,ixF_Qh fr 8,ixF_Qh fr 9,ixF_Qh fr 10,ixF_Qh fr 11,ixF_Qh fr 12,ixF_Qh fr 13,ixF_Qh fr 14,ixF_Qh fr 15,ixF_Qh fr 16,ixF_Qh fr 17,ixF_Qh fr 18,ixF_Qh fr 19,ixF_Qh fr 20,ixF_Qh fr 21,ixF_Qh fr 22,ixF_Qh fr 23,ixF_Qh fr 24,ixF_Qh fr 25,ixF_Qh fr 26,ixF_Qh fr 27,ixF_Qh fr 28,ixF_Qh fr 29,ixF_Qh fr 30,ixF_Qh fr 31,ixF_Qh fr 32,ixF_Qh fr 33,ixF_Qh fr 34,ixF_Qh fr 35,ixF_Qh fr 36,ixF_Qh fr 37,ixF_Qh fr 38,ixF_Qh fr 39,ixF_Qh fr 40,ixF_Qh fr 41,ixF_Qh fr 42,ixF_Qh fr 43,ixF_Qh fr 44,ixF_Qh fr 45,ixF_Qh fr 46,ixF_Qh fr 47,ixF_Qh fr 48,ixF_Qh fr 49,ixF_Qh fr 50,ixF_Qh fr 51,ixF_Qh fr 52,ixF_Qh fr 53,ixF_Qh fr 54,ixF_Qh fr 55,ixF_Qh fr 56,ixF_Qh fr 57,ixF_Qh fr 58,ixF_Qh fr 59,ixF_Qh fr 60,ixF_Qh fr 61,ixF_Qh fr 62,ixF_Qh fr 63,ixF_Qh fr 64,ixF_Qh fr 65,ixF_Qh fr 66,ixF_Qh fr 67,ixF_Qh fr 68,ixF_Qh fr 69,ixF_Qh fr 70,ixF_Qh fr 71,ixF_Qh fr 72,ixF_Qh fr 73,ixF_Qh fr 74,ixF_Qh fr 75,ixF_Qh fr 76,ixF_Qh fr 77],tmp⟩ /\ Has N S st (.box k (.mem 0 false [cd,nd,zd,ed]) :: .deep dk cd 4 ((code ++ repC (codeT t) t.sz n.mn.toNat code.length).map insC) :: .lst zd 1 (Z.map intC) :: .lst ed 1 (E.map intC) :: .box k4 (.mem 0 false (nodC n)) :: H)) ?_ ?_
 ·refine zP (fun hz => ?_) fun hz => ?_
  ·refine zQ 7 ?_;refine EvC.loop (fun mm fr st => ∃ (i : Nat) (cd : D) (dk : Nat -> Prop) (code2 : List PIns),fr.clean = ⟨78, [.ptr k 0 0, .int .i64 (at_ : Nat),ixF_Qh fr 2,ixF_Qh fr 3, .ptr k4 0 0, .int .i64 ((at_ + 1 : Nat) : Int),ixF_Qh fr 6,ixF_Qh fr 7,ixF_Qh fr 8,ixF_Qh fr 9,ixF_Qh fr 10,ixF_Qh fr 11,ixF_Qh fr 12,ixF_Qh fr 13,ixF_Qh fr 14,ixF_Qh fr 15,ixF_Qh fr 16,ixF_Qh fr 17,ixF_Qh fr 18,ixF_Qh fr 19,ixF_Qh fr 20,ixF_Qh fr 21,ixF_Qh fr 22,ixF_Qh fr 23,ixF_Qh fr 24,ixF_Qh fr 25,ixF_Qh fr 26,ixF_Qh fr 27, .int .i64 n.mn, .int .i64 (i : Nat),ixF_Qh fr 30,ixF_Qh fr 31,ixF_Qh fr 32,ixF_Qh fr 33,ixF_Qh fr 34,ixF_Qh fr 35,ixF_Qh fr 36,ixF_Qh fr 37,ixF_Qh fr 38,ixF_Qh fr 39,ixF_Qh fr 40,ixF_Qh fr 41,ixF_Qh fr 42,ixF_Qh fr 43,ixF_Qh fr 44,ixF_Qh fr 45,ixF_Qh fr 46,ixF_Qh fr 47,ixF_Qh fr 48,ixF_Qh fr 49,ixF_Qh fr 50,ixF_Qh fr 51,ixF_Qh fr 52,ixF_Qh fr 53,ixF_Qh fr 54,ixF_Qh fr 55,ixF_Qh fr 56,ixF_Qh fr 57,ixF_Qh fr 58,ixF_Qh fr 59,ixF_Qh fr 60,ixF_Qh fr 61,ixF_Qh fr 62,ixF_Qh fr 63,ixF_Qh fr 64,ixF_Qh fr 65,ixF_Qh fr 66,ixF_Qh fr 67,ixF_Qh fr 68,ixF_Qh fr 69,ixF_Qh fr 70,ixF_Qh fr 71,ixF_Qh fr 72,ixF_Qh fr 73,ixF_Qh fr 74,ixF_Qh fr 75,ixF_Qh fr 76,ixF_Qh fr 77], []⟩ /\ Has N S st (.box k (.mem 0 false [cd,nd,zd,ed]) :: .deep dk cd 4 (code2.map insC) :: .lst zd 1 (Z.map intC) :: .lst ed 1 (E.map intC) :: .box k4 (.mem 0 false (nodC n)) :: H) /\ (i + mm = n.mn.toNat) /\ (code2 ++ repC (codeT t) t.sz mm code2.length = code ++ repC (codeT t) t.sz n.mn.toNat code.length) /\ (code2.length + mm * t.sz = code.length + n.mn.toNat * t.sz)) (n.mn.toNat) ?_ ?_
   ·exact ⟨0,cd,dk,code,rfl,hH,by omega,rfl,rfl⟩
   rintro mm fr st ⟨i,cd,dk,code2,hfr,hH,hi,hc2,hcl⟩;rw [hfr];clear hfr;generalize ixF_Qh fr = ee;clear fr;refine zQ 4 ?_
   cases mm with
   | zero =>
    have hcc : decide ((i : Int) < n.mn) = false := by rw [decide_eq_false_iff_not]; omega
    refine qq ?_;refine qE rfl (by rw [hcc]) ?_;simp only [repC,List.append_nil] at hc2;rw [hc2] at hH;refine zQ 1 ?_;exact ⟨cd,dk,_,rfl,hH⟩
   | succ mm =>
    have hcc : decide ((i : Int) < n.mn) = true := by rw [decide_eq_true_eq]; omega
    rw [Nat.succ_mul] at hcl;refine qq ?_;refine qD rfl (by rw [hcc]) ?_;refine zQ 6 ?_;obtain ⟨_,st,hev,rfl,cd,dk,hH⟩ := ih t (by omega) hF hnd hsl hsz hse htok (by omega) ⟨cd,dk,hH⟩;refine qv hev ?_;refine zQ 5 ?_;exact ⟨mm,by omega,⟨i + 1,cd,dk,code2 ++ codeT t code2.length,rfl,hH,by omega,by rw [List.length_append,htc,List.append_assoc]; exact hc2,by rw [List.length_append,htc]; omega⟩⟩
  ·refine zQ 1 ?_;have hz0 : t.sz = 0 := by omega
   have hR0 : repC (codeT t) t.sz n.mn.toNat code.length = [] := repC_zero (fun b => by rw [htc,hz0]) _ _ _;exact ⟨cd,dk,_,rfl,(by rw [hR0,List.append_nil]; exact hH)⟩
 ·rintro fr st ⟨cd,dk,tmp,hfr,hH⟩;rw [hfr];clear hfr;generalize ixF_Qh fr = ee;clear fr;have hcR : (code ++ repC (codeT t) t.sz n.mn.toNat code.length).length = code.length + n.mn.toNat * t.sz := by rw [List.length_append,hRl]
  unfold rptC;rw [<- hcR];rw [<- hcR] at hb1
  have hb2 : if n.mx = -1 then (code ++ repC (codeT t) t.sz n.mn.toNat code.length).length + t.sz + 2 <= 1000000 else (code ++ repC (codeT t) t.sz n.mn.toNat code.length).length + (n.mx.toNat - n.mn.toNat) * (t.sz + 1) <= 1000000 := by
   rw [hcR]; split
   ·rename_i h; rw [if_pos h] at hb; omega
   ·rename_i h; rw [if_neg h] at hb; omega
  have happ : ∀ X : List PIns,code ++ (repC (codeT t) t.sz n.mn.toNat code.length ++ X) = code ++ repC (codeT t) t.sz n.mn.toNat code.length ++ X := fun X => by rw [List.append_assoc]
  simp only [apply_ite (fun X : List PIns => code ++ X),happ];clear happ hcR;generalize code ++ repC (codeT t) t.sz n.mn.toNat code.length = cR at *;refine zQ 7 ?_
  by_cases qmx : n.mx = -1
  ·rw [if_pos qmx];rw [if_pos qmx] at hb2;refine qD rfl (by simp [qmx]) ?_;refine zQ 3 ?_;refine EvO.go (d := .agg [.int .i64 2, .int .i64 0, .int .i64 0, .nul]) (st1 := _) rfl rfl rfl (by dsimp only [Fr.put,u1,u2] <;> rfl) ?_;have hH := hH.nulE 2;obtain ⟨_,st,hev,rfl,cd,dk,hH⟩ := add_ev (rs := []) hF (by omega) hH;refine qv hev ?_;refine zQ 2 ?_;have hcl1 : (cR ++ [mkI 2 0 0 []]).length = cR.length + 1 := by simp
   refine zQ 4 ?_;obtain ⟨_,st,hev,rfl,cd,dk,hH⟩ := ih t (by omega) hF hnd hsl hsz hse htok (by omega) ⟨cd,dk,hH⟩;refine qv hev ?_;refine zQ 1 ?_;rw [hcl1] at hH;have hcl2 : (cR ++ [mkI 2 0 0 []] ++ codeT t (cR.length + 1)).length = cR.length + 1 + t.sz := by rw [List.length_append,hcl1,htc]
   refine zQ 4 ?_;refine EvO.go (d := .agg [.int .i64 3, .int .i64 (cR.length : Nat), .int .i64 0, .nul]) (st1 := _) rfl rfl rfl (by dsimp only [Fr.put,u1,u2] <;> rfl) ?_;have hH := hH.nulE 2;obtain ⟨_,st,hev,rfl,cd,dk,hH⟩ := add_ev (rs := []) hF (by omega) hH;refine qv hev ?_;refine zQ 1 ?_
   have hat3 : (cR ++ [mkI 2 0 0 []] ++ codeT t (cR.length + 1) ++ [mkI 3 (cR.length : Nat) 0 []])[cR.length]? = some (mkI 2 0 0 []) := by
    rw [List.append_assoc,List.append_assoc]; exact get_mid _ _ _
   have hcl3 : (cR ++ [mkI 2 0 0 []] ++ codeT t (cR.length + 1) ++ [mkI 3 (cR.length : Nat) 0 []]).length = cR.length + t.sz + 2 := by rw [List.length_append,hcl2]; simp only [List.length_cons,List.length_nil]; omega
   have hst3 : (cR ++ [mkI 2 0 0 []] ++ codeT t (cR.length + 1) ++ [mkI 3 (cR.length : Nat) 0 []]).set cR.length (spI cR.length (cR.length + t.sz + 2) n.lz) = cR ++ (spI cR.length (cR.length + t.sz + 2) n.lz :: (codeT t (cR.length + 1) ++ [jpI cR.length])) := by
    rw [List.append_assoc,List.append_assoc]; exact set_mid _ _ _ _
   generalize cR ++ [mkI 2 0 0 []] ++ codeT t (cR.length + 1) ++ [mkI 3 (cR.length : Nat) 0 []] = code3 at *;refine zQ 8 ?_;refine EvO.dlen hH rfl (ev rfl) (by exact at1) rfl (by dsimp only [Fr.put,u1,u2] <;> rfl) ?_;simp only [List.length_map,List.length_append,List.length_cons,List.length_nil];refine zQ 2 ?_;obtain ⟨_,st,hev,rfl,hH⟩ := split_ev (at_ := cR.length) (over := code3.length) (lz := n.lz) hat3 (by omega) hH;refine qv hev ?_;refine zQ 1 ?_;rw [hcl3,hst3] at hH;refine EvC.ret ⟨rx,_,_,_,rfl,rfl,?_⟩;exact ⟨rfl,cd,dk,hH.erase 4⟩
  ·rw [if_neg qmx];rw [if_neg qmx] at hb2;refine qE rfl (by simp [qmx]) ?_;refine zQ 1 ?_;obtain ⟨a,ha⟩ : ∃ a : Nat,n.mn = (a : Int) := Int.eq_ofNat_of_zero_le hmn.1;obtain ⟨b,hb3⟩ : ∃ b : Nat,n.mx = (b : Int) := Int.eq_ofNat_of_zero_le (by omega);have hdd : n.mx.toNat - n.mn.toNat = b - a := by omega
   rw [hdd] at hb2 ⊢;refine zQ 11 ?_;refine EvO.subZ (z := ((b - a : Nat) : Int)) rfl (ev rfl) (ev rfl) (by (try simp only [List.length_reverse,List.length_cons,List.length_nil,List.length_append,List.length_map,List.length_set]); rw [wrap_i64 (by omega) (by omega)] <;> omega) (by dsimp only [Fr.put,u1,u2] <;> rfl) ?_;refine zQ 2 ?_;have hH : Has N S st (.box k (.mem 0 false [cd,nd,zd,ed]) :: .deep dk cd 4 (cR.map insC) :: .lst zd 1 (Z.map intC) :: .lst ed 1 (E.map intC) :: .lst .nul 1 (([] : List Nat).map natC) :: .box k4 (.mem 0 false (nodC n)) :: H) := (hH.nulE 1).rot5;refine zQ 1 ?_;refine EvC.loop (fun mm fr st => ∃ (i : Nat) (cd jd : D) (dk : Nat -> Prop) (code2 : List PIns) (js : List Nat),fr.clean = ⟨78, [.ptr k 0 0, .int .i64 (at_ : Nat),ixF_Qh fr 2,ixF_Qh fr 3, .ptr k4 0 0, .int .i64 ((at_ + 1 : Nat) : Int),ixF_Qh fr 6,jd,ixF_Qh fr 8,ixF_Qh fr 9,ixF_Qh fr 10,ixF_Qh fr 11,ixF_Qh fr 12,ixF_Qh fr 13,ixF_Qh fr 14,ixF_Qh fr 15,ixF_Qh fr 16,ixF_Qh fr 17,ixF_Qh fr 18,ixF_Qh fr 19,ixF_Qh fr 20,ixF_Qh fr 21,ixF_Qh fr 22,ixF_Qh fr 23,ixF_Qh fr 24,ixF_Qh fr 25,ixF_Qh fr 26,ixF_Qh fr 27,ixF_Qh fr 28,ixF_Qh fr 29,ixF_Qh fr 30,ixF_Qh fr 31,ixF_Qh fr 32,ixF_Qh fr 33,ixF_Qh fr 34,ixF_Qh fr 35,ixF_Qh fr 36,ixF_Qh fr 37,ixF_Qh fr 38,ixF_Qh fr 39,ixF_Qh fr 40,ixF_Qh fr 41,ixF_Qh fr 42,ixF_Qh fr 43,ixF_Qh fr 44,ixF_Qh fr 45,ixF_Qh fr 46,ixF_Qh fr 47,ixF_Qh fr 48,ixF_Qh fr 49,ixF_Qh fr 50,ixF_Qh fr 51,ixF_Qh fr 52,ixF_Qh fr 53,ixF_Qh fr 54,ixF_Qh fr 55,ixF_Qh fr 56,ixF_Qh fr 57,ixF_Qh fr 58,ixF_Qh fr 59,ixF_Qh fr 60,ixF_Qh fr 61, .int .i64 ((b - a : Nat) : Int), .int .i64 (i : Nat),ixF_Qh fr 64,ixF_Qh fr 65,ixF_Qh fr 66,ixF_Qh fr 67,ixF_Qh fr 68,ixF_Qh fr 69,ixF_Qh fr 70,ixF_Qh fr 71,ixF_Qh fr 72,ixF_Qh fr 73,ixF_Qh fr 74,ixF_Qh fr 75,ixF_Qh fr 76,ixF_Qh fr 77], []⟩ /\ Has N S st (.box k (.mem 0 false [cd,nd,zd,ed]) :: .deep dk cd 4 (code2.map insC) :: .lst zd 1 (Z.map intC) :: .lst ed 1 (E.map intC) :: .lst jd 1 (js.map natC) :: .box k4 (.mem 0 false (nodC n)) :: H) /\ (i + mm = b - a) /\ (code2 ++ optC (fun _ => mkI 2 0 0 []) (codeT t) t.sz mm code2.length = cR ++ optC (fun _ => mkI 2 0 0 []) (codeT t) t.sz (b - a) cR.length) /\ (js ++ optJ t.sz mm code2.length = optJ t.sz (b - a) cR.length) /\ (code2.length + mm * (t.sz + 1) = cR.length + (b - a) * (t.sz + 1)) /\ (js.length = i)) (b - a) ?_ ?_
   ·exact ⟨0,cd, .nul,dk,cR, [],rfl,hH,by omega,rfl,rfl,rfl,rfl⟩
   rintro mm fr st ⟨i,cd,jd,dk,code2,js,hfr,hH,hi,hcode,hjs,hcl,hjl⟩;rw [hfr];clear hfr;generalize ixF_Qh fr = ee;clear fr;refine zQ 4 ?_
   cases mm with
   | zero =>
    have hcc : decide ((i : Int) < ((b - a : Nat) : Int)) = false := by rw [decide_eq_false_iff_not]; omega
    refine qq ?_;refine qE rfl (by rw [hcc]) ?_;refine zQ 4 ?_;refine qn ?_ (hR := hH.rows at4);simp only [List.length_map];refine zQ 2 ?_;simp only [optC,optJ,List.append_nil] at hcode hjs;rw [hcode] at hH;obtain ⟨hp1,hp2⟩ := opt_patch (sp := fun s => spI s (cR.length + (b - a) * (t.sz + 1)) n.lz) htc (i0 := mkI 2 0 0 []) (b - a) cR.length cR [] rfl;simp only [List.append_nil] at hp1 hp2;have hC0 : (cR ++ optC (fun _ => mkI 2 0 0 []) (codeT t) t.sz (b - a) cR.length).length = cR.length + (b - a) * (t.sz + 1) := by rw [List.length_append,optC_len htc]
    rw [<- hjs] at hp1 hp2;rw [<- hp1];clear hp1 hcode;generalize cR ++ optC (fun _ => mkI 2 0 0 []) (codeT t) t.sz (b - a) cR.length = C0 at *;generalize cR.length + (b - a) * (t.sz + 1) = e at *;refine zQ 1 ?_;refine EvC.loop (fun mm fr st => ∃ (q : Nat) (C : List PIns),fr.clean = ⟨78, [.ptr k 0 0,ixF_Qh fr 1,ixF_Qh fr 2,ixF_Qh fr 3, .ptr k4 0 0,ixF_Qh fr 5,ixF_Qh fr 6,ixF_Qh fr 7,ixF_Qh fr 8,ixF_Qh fr 9,ixF_Qh fr 10,ixF_Qh fr 11,ixF_Qh fr 12,ixF_Qh fr 13,ixF_Qh fr 14,ixF_Qh fr 15,ixF_Qh fr 16,ixF_Qh fr 17,ixF_Qh fr 18,ixF_Qh fr 19,ixF_Qh fr 20,ixF_Qh fr 21,ixF_Qh fr 22,ixF_Qh fr 23,ixF_Qh fr 24,ixF_Qh fr 25,ixF_Qh fr 26,ixF_Qh fr 27,ixF_Qh fr 28,ixF_Qh fr 29,ixF_Qh fr 30,ixF_Qh fr 31,ixF_Qh fr 32,ixF_Qh fr 33,ixF_Qh fr 34,ixF_Qh fr 35,ixF_Qh fr 36,ixF_Qh fr 37,ixF_Qh fr 38,ixF_Qh fr 39,ixF_Qh fr 40,ixF_Qh fr 41,ixF_Qh fr 42,ixF_Qh fr 43,ixF_Qh fr 44,ixF_Qh fr 45,ixF_Qh fr 46,ixF_Qh fr 47,ixF_Qh fr 48,ixF_Qh fr 49,ixF_Qh fr 50,ixF_Qh fr 51,ixF_Qh fr 52,ixF_Qh fr 53,ixF_Qh fr 54,ixF_Qh fr 55,ixF_Qh fr 56,ixF_Qh fr 57,ixF_Qh fr 58,ixF_Qh fr 59,ixF_Qh fr 60,ixF_Qh fr 61,ixF_Qh fr 62,ixF_Qh fr 63,ixF_Qh fr 64,ixF_Qh fr 65,ixF_Qh fr 66,ixF_Qh fr 67,ixF_Qh fr 68,ixF_Qh fr 69,ixF_Qh fr 70,ixF_Qh fr 71,ixF_Qh fr 72,ixF_Qh fr 73,ixF_Qh fr 74,jd, .int .i64 (js.length : Nat), .int .i64 (q : Nat)], []⟩ /\ Has N S st (.box k (.mem 0 false [cd,nd,zd,ed]) :: .deep dk cd 4 (C.map insC) :: .lst zd 1 (Z.map intC) :: .lst ed 1 (E.map intC) :: .lst jd 1 (js.map natC) :: .box k4 (.mem 0 false (nodC n)) :: H) /\ (q + mm = js.length) /\ (setAll (fun s => spI s e n.lz) C (js.drop q) = setAll (fun s => spI s e n.lz) C0 js) /\ (∀ p ∈ js, ∃ x y : Int,C[p]? = some (mkI 2 x y [])) /\ (C.length = e)) (js.length) ?_ ?_
    ·exact ⟨0,C0,rfl,hH,by omega,rfl,fun p hp => ⟨_,_,hp2 p hp⟩,hC0⟩
    rintro mm fr st ⟨q,C,hfr,hH,hq,hset,hall,hCl⟩;rw [hfr];clear hfr;generalize ixF_Qh fr = ee;clear fr;refine zQ 5 ?_;refine zP (fun hlt => ?_) fun hlt => ?_
    ·refine zQ 1 ?_;have hql : q < js.length := by omega
     obtain ⟨p,hp⟩ : ∃ p,js[q]? = some p := ⟨js[q]'hql,List.getElem?_eq_getElem _⟩
     obtain ⟨x,y,hv⟩ := hall p (List.mem_of_getElem? hp);have hr1 := natC_get hp;have hpl := lt_get hv;refine zQ 4 ?_;refine qi hH at4 fun p79 hp79 => ?_;refine zQ 10 ?_;refine EvO.dlen hH rfl (ev rfl) (by exact at1) rfl (put_T rfl _) ?_;simp only [List.length_map];refine zQ 2 ?_;obtain ⟨_,st,hev,rfl,hH⟩ := split_ev (at_ := p) (over := C.length) (lz := n.lz) hv (by omega) hH;refine qv hev ?_;refine zQ 5 ?_
     have hdr : js.drop q = p :: js.drop (q + 1) := by
      rw [List.drop_eq_getElem_cons hql]
      congr 1
      exact Option.some.inj ((List.getElem?_eq_getElem _).symm.trans hp)
     refine ⟨mm - 1,by omega,⟨q + 1,C.set p (spI p e n.lz),rfl,(by rw [hCl] at hH; exact hH),by omega,by rw [hdr] at hset; exact hset,?_,by rw [List.length_set]; exact hCl⟩⟩;intro p' hp'
     by_cases hpp : p' = p
     ·subst hpp;obtain ⟨x',y',hxy⟩ := spI_form p' e n.lz;exact ⟨x',y',by rw [List.getElem?_set_self hpl,hxy]⟩
     ·rw [List.getElem?_set_ne (fun e => hpp e.symm)]; exact hall p' hp'
    ·refine zQ 1 ?_;refine ⟨fun i h => (by cases h),_,_,_,rfl,rfl,?_⟩;have hq2 : q = js.length := by omega
     rw [hq2,List.drop_length] at hset;have hset : C = setAll (fun s => spI s e n.lz) C0 js := hset;rw [<- hset];exact ⟨rfl,cd,dk,(hH.erase 5).erase 4⟩
   | succ mm =>
    have hcc : decide ((i : Int) < ((b - a : Nat) : Int)) = true := by rw [decide_eq_true_eq]; omega
    rw [Nat.succ_mul] at hcl;refine qq ?_;refine qD rfl (by rw [hcc]) ?_;refine zQ 7 ?_;refine EvO.go (d := .agg [.int .i64 2, .int .i64 0, .int .i64 0, .nul]) (st1 := _) rfl rfl rfl (by dsimp only [Fr.put,u1,u2] <;> rfl) ?_;have hH := hH.nulE 2;obtain ⟨_,st,hev,rfl,cd,dk,hH⟩ := add_ev (rs := []) hF (by omega) hH;refine qv hev ?_;refine qh (s := 1) (vs := [_]) hH fun k69 st hk69 hH => ?_;dsimp only [u2,u1,u3,u4,setMany,u5,u6,D.cells,Nat.reduceAdd,insC,nodC,intC,natC] at hH;refine qP hH at5 (hH.rows at0) fun x70 st hH => ?_;dsimp only [u2,u1,u3,u4,setMany,u5,u6,D.cells,Nat.reduceAdd,insC,nodC,intC,natC] at hH;refine zQ 2 ?_;have hH := hH.drop 1;have hcl1 : (code2 ++ [mkI 2 0 0 []]).length = code2.length + 1 := by simp
    refine zQ 3 ?_;obtain ⟨_,st,hev,rfl,cd,dk,hH⟩ := ih t (by omega) hF hnd hsl hsz hse htok (by omega) ⟨cd,dk,hH⟩;refine qv hev ?_;refine zQ 1 ?_;rw [hcl1] at hH;have hcl2 : (code2 ++ [mkI 2 0 0 []] ++ codeT t (code2.length + 1)).length = code2.length + 1 + t.sz := by rw [List.length_append,hcl1,htc]
    refine zQ 4 ?_;exact ⟨mm,by omega,⟨i + 1,cd,x70,dk,code2 ++ [mkI 2 0 0 []] ++ codeT t (code2.length + 1),js ++ [code2.length],rfl,(by rw [List.map_append (f := natC)]; exact hH),by omega,by rw [hcl2, <- hcode]; simp only [optC,List.append_assoc,List.cons_append,List.nil_append],by rw [hcl2, <- hjs]; simp only [optJ,List.append_assoc,List.cons_append,List.nil_append],by rw [hcl2]; omega,by rw [List.length_append,hjl]; rfl⟩⟩
def ixF_Qi (fr : Go.V.Fr) (k : Nat) : Go.V.D := Go.V.nth .junk fr.loc k
theorem catT_one (t : Tr) : catT (.cons t .nil) = codeT t := by
 funext b; simp only [catT,List.append_nil]
theorem sz_one (t : Tr) : (Trs.cons t .nil).sz = t.sz := by simp only [Trs.sz,Nat.add_zero]
theorem node_ev {l : List Nod} (hll : l.length <= 1048576) (hi : ∀ n ∈ l,n.ok) : ∀ (m : Nat) (t : Tr),t.flat.length <= m -> NodeSpec l t := by
 intro m
 induction m with
 | zero => intro t h; have := t.flat_pos; omega
 | succ m ih =>
  rintro ⟨n,ks⟩ hm N k S s0 H nd zd ed code Z E at_ hF hnd hsl hsz hse hok hb hM;have hM0 := hM;obtain ⟨cd,dk,hH⟩ := hM;simp only [Tr.ok] at hok;obtain ⟨hno,hks⟩ := hok;simp only [Tr.flat,List.length_cons] at hm;have hle := hsl.le (by simp [Tr.flat]);simp only [Tr.flat] at hsl hle;simp only [List.length_cons] at hle;simp only [Tr.zs] at hsz;simp only [Tr.es] at hse;simp only [Tr.sz] at hb;have hn := hsl.head;have hnn := hi n (List.mem_of_getElem? hn);have hrd := hnn.1.arg N S;have hrl := hnn.2.1;have hr1 := nod_get hn;have hkd := hno.1;have hkl := Trs.len_le ks;have hcat := fun b => catT_len ks b hks;refine Ev.mkE rfl fi44 rfl rfl rfl ?_;refine zE ?_;change EvC _ _ _ _ s0 _;have hc := hnd.arg N S;refine zQ 7 ?_;refine qr fun p11 hp11 => ?_;refine EvO.rloadS rfl (ev rfl) (by assumption) rfl (by dsimp only [Fr.put,u1,u2] <;> rfl) ?_;refine qa hH fun k4 st hk4 hH => ?_;refine qS hH at0 fun st hH => ?_;dsimp only [u2,u1,u3,u4,setMany,u5,u6,D.cells,Nat.reduceAdd,insC,nodC,intC,natC] at hH;refine zQ 1 ?_;have hH : Has N S st (.box k (.mem 0 false [cd,nd,zd,ed]) :: .deep dk cd 4 (code.map insC) :: .lst zd 1 (Z.map intC) :: .lst ed 1 (E.map intC) :: .box k4 (.mem 0 false (nodC n)) :: H) := hH.rot5;refine zQ 11 ?_;refine zI (fun q2 => ?_) fun q2 => ?_
  ·have hcT : codeT (.mk n ks) code.length = [mkI 1 0 0 n.rs] := by simp only [codeT,if_pos q2]
   rw [hcT];have hz : nodSz n ks.sz ks.len = 1 := by unfold nodSz; rw [if_pos (.inl q2)]
   have hH := hH.nulE 2;refine zQ 4 ?_;refine qP hH at0 (Arg.rows (by assumption) hH) fun x20 st hH => ?_;dsimp only [u2,u1,u3,u4,setMany,u5,u6,D.cells,Nat.reduceAdd,insC,nodC,intC,natC] at hH;refine EvO.ones (qs := [(0,_),(3,_)]) rfl rfl rfl rfl ⟨rfl,(ev rfl),(by rfl),rfl,(ev rfl),(by exact hH.ocells (by exact at0)),trivial⟩ (by intro q hq; simp only [List.mem_cons,List.not_mem_nil,or_false] at hq; rcases hq with rfl | rfl <;> exact ⟨rfl,by exact Nat.le_of_ble_eq_true rfl⟩) (by show List.foldl _ [_,_,_,_] _ = _; dsimp only [List.foldl_cons,List.foldl_nil,u2,u1] <;> rfl) (by dsimp only [Fr.put,u1,u2] <;> rfl) ?_;obtain ⟨_,st,hev,rfl,cd,dk,hH⟩ := add_ev (rs := n.rs) hF (by omega) hH;refine qv hev ?_;refine zQ 1 ?_;refine ⟨fun i h => (by cases h),_,_,_,rfl,rfl,?_⟩;exact ⟨rfl,cd,dk,hH.erase 4⟩
  refine zQ 5 ?_;refine zI (fun q7 => ?_) fun q7 => ?_
  ·have hcT : codeT (.mk n ks) code.length = [mkI 5 0 0 []] := by simp only [codeT,if_neg q2,if_pos q7]
   rw [hcT];refine zQ 2 ?_;refine EvO.go (d := .agg [.int .i64 5, .int .i64 0, .int .i64 0, .nul]) (st1 := _) rfl rfl rfl (by dsimp only [Fr.put,u1,u2] <;> rfl) ?_;have hH := hH.nulE 2;obtain ⟨_,st,hev,rfl,cd,dk,hH⟩ := add_ev (rs := []) hF (by omega) hH;refine qv hev ?_;refine zQ 1 ?_;refine ⟨fun i h => (by cases h),_,_,_,rfl,rfl,?_⟩;exact ⟨rfl,cd,dk,hH.erase 4⟩
  refine zQ 5 ?_;refine zI (fun q8 => ?_) fun q8 => ?_
  ·have hcT : codeT (.mk n ks) code.length = [mkI 6 0 0 []] := by simp only [codeT,if_neg q2,if_neg q7,if_pos q8]
   rw [hcT];refine zQ 2 ?_;refine EvO.go (d := .agg [.int .i64 6, .int .i64 0, .int .i64 0, .nul]) (st1 := _) rfl rfl rfl (by dsimp only [Fr.put,u1,u2] <;> rfl) ?_;have hH := hH.nulE 2;obtain ⟨_,st,hev,rfl,cd,dk,hH⟩ := add_ev (rs := []) hF (by omega) hH;refine qv hev ?_;refine zQ 1 ?_;refine ⟨fun i h => (by cases h),_,_,_,rfl,rfl,?_⟩;exact ⟨rfl,cd,dk,hH.erase 4⟩
  refine zQ 5 ?_;refine zI (fun q3 => ?_) fun q3 => ?_
  ·have hcT : codeT (.mk n ks) code.length = catT ks code.length := by simp only [codeT,if_neg q2,if_neg q7,if_neg q8,if_pos q3]
   rw [hcT];have hz : nodSz n ks.sz ks.len = ks.sz := by unfold nodSz; rw [if_neg (by omega),if_neg (by omega),if_neg (by omega),if_neg (by omega)]
   rw [hz] at hb;refine zQ 13 ?_;refine EvC.loop (fun mm fr st => ∃ (i j : Nat) (rest : Trs) (cd : D) (dk : Nat -> Prop) (code2 : List PIns),fr.clean = ⟨40, [.ptr k 0 0, .int .i64 (at_ : Nat),ixF_Qi fr 2,ixF_Qi fr 3, .ptr k4 0 0, .int .i64 (j : Nat),ixF_Qi fr 6,ixF_Qi fr 7,ixF_Qi fr 8,ixF_Qi fr 9,ixF_Qi fr 10,ixF_Qi fr 11,ixF_Qi fr 12,ixF_Qi fr 13,ixF_Qi fr 14,ixF_Qi fr 15,ixF_Qi fr 16,ixF_Qi fr 17,ixF_Qi fr 18,ixF_Qi fr 19,ixF_Qi fr 20,ixF_Qi fr 21,ixF_Qi fr 22,ixF_Qi fr 23,ixF_Qi fr 24,ixF_Qi fr 25,ixF_Qi fr 26,ixF_Qi fr 27,ixF_Qi fr 28,ixF_Qi fr 29,ixF_Qi fr 30,ixF_Qi fr 31,ixF_Qi fr 32,ixF_Qi fr 33,ixF_Qi fr 34,ixF_Qi fr 35,ixF_Qi fr 36,ixF_Qi fr 37, .int .i64 n.kids, .int .i64 (i : Nat)], []⟩ /\ Has N S st (.box k (.mem 0 false [cd,nd,zd,ed]) :: .deep dk cd 4 (code2.map insC) :: .lst zd 1 (Z.map intC) :: .lst ed 1 (E.map intC) :: .box k4 (.mem 0 false (nodC n)) :: H) /\ (mm = rest.len) /\ (i + rest.len = ks.len) /\ (Seg l j rest.flat) /\ (Seg Z j rest.zs) /\ (Seg E j (rest.es j)) /\ (rest.ok) /\ (code2 ++ catT rest code2.length = code ++ catT ks code.length) /\ (code2.length + rest.sz = code.length + ks.sz) /\ (rest.flat.length <= m)) (ks.len) ?_ ?_
   ·exact ⟨0,at_ + 1,ks,cd,dk,code,rfl,hH,rfl,by omega,hsl.tail,hsz.tail,hse.tail,hks,rfl,rfl,by omega⟩
   rintro mm fr st ⟨i,j,rest,cd,dk,code2,hfr,hH,hmm,hi2,hsg,hsgz,hsge,hrok,hcode,hcl,hrm⟩;rw [hfr];clear hfr;generalize ixF_Qi fr = ee;clear fr;refine zQ 4 ?_
   cases rest with
   | nil =>
    simp only [Trs.len] at hi2;simp only [catT,List.append_nil] at hcode;have hcc : decide ((i : Int) < n.kids) = false := by rw [decide_eq_false_iff_not]; omega
    refine qq ?_;refine qE rfl (by rw [hcc]) ?_;refine zQ 1 ?_;refine ⟨fun i h => (by cases h),_,_,_,rfl,rfl,?_⟩;rw [<- hcode];exact ⟨rfl,cd,dk,hH.erase 4⟩
   | cons t ts =>
    simp only [Trs.len] at hi2 hmm;simp only [Trs.sz] at hcl;simp only [Trs.flat,List.length_append] at hsg hrm;simp only [Trs.zs] at hsgz;simp only [Trs.es] at hsge;simp only [Trs.ok] at hrok;simp only [catT] at hcode;have htz := t.zs_len;have hte := t.es_len j;have htc := codeT_len t code2.length hrok.1;have hr11 := int_get (es_head hsge.left);have hcc : decide ((i : Int) < n.kids) = true := by rw [decide_eq_true_eq]; omega
    refine qq ?_;refine qD rfl (by rw [hcc]) ?_;refine zQ 7 ?_;obtain ⟨_,st,hev,rfl,cd,dk,hH⟩ := ih t (by omega) hF hnd hsg.left hsgz.left hsge.left hrok.1 (by omega) ⟨cd,dk,hH⟩;refine qv hev ?_;refine zQ 7 ?_;refine qi hH at3 fun p49 hp49 => ?_;refine zQ 7 ?_;exact ⟨mm - 1,by omega,⟨i + 1,j + t.flat.length,ts,cd,dk,code2 ++ codeT t code2.length,rfl,hH,by omega,by omega,hsg.right,by rw [<- htz]; exact hsgz.right,by rw [<- hte]; rw [<- hte] at hsge; exact hsge.right,hrok.2,by rw [List.length_append,htc,List.append_assoc]; exact hcode,by rw [List.length_append,htc]; omega,by omega⟩⟩
  refine zQ 5 ?_;refine zI (fun q4 => ?_) fun q4 => ?_
  ·have hcT : codeT (.mk n ks) code.length = altT (jpI (code.length + nodSz n ks.sz ks.len)) ks code.length := by simp only [codeT,if_neg q2,if_neg q7,if_neg q8,if_neg q3,if_pos q4]
   rw [hcT];refine zQ 3 ?_;obtain ⟨_,st,hev,rfl,cd,dk,hH⟩ := alt_ev hll ih q4 (by omega) hno hks hF hnd hsl hsz.tail hse.tail hb ⟨cd,dk,hH⟩;refine qv hev ?_;refine zQ 1 ?_;refine ⟨fun i h => (by cases h),_,_,_,rfl,rfl,?_⟩;exact ⟨rfl,cd,dk,hH.erase 4⟩
  refine zQ 5 ?_;refine zI (fun q5 => ?_) fun q5 => ?_
  ·have hk1 : ks.len = 1 := by
    obtain ⟨_,hq⟩ := hno; omega
   obtain ⟨t,rfl⟩ := Trs.len_one hk1;have hcT : codeT (.mk n (.cons t .nil)) code.length = rptC n (codeT t) t.sz code.length := by simp only [codeT,if_neg q2,if_neg q7,if_neg q8,if_neg q3,if_neg q4,if_pos q5,catT_one,sz_one]
   rw [hcT];rw [hk1] at hno hb;rw [sz_one] at hb;simp only [Trs.flat,Trs.zs,Trs.es,Trs.ok,List.append_nil] at *;refine zQ 3 ?_;obtain ⟨_,st,hev,rfl,cd,dk,hH⟩ := repeat_ev hll ih q5 (by omega) hno hks.1 hF hnd hsl hsz.tail hse.tail hb ⟨cd,dk,hH⟩;refine qv hev ?_;refine zQ 1 ?_;refine ⟨fun i h => (by cases h),_,_,_,rfl,rfl,?_⟩;exact ⟨rfl,cd,dk,hH.erase 4⟩
  refine zQ 5 ?_;refine zI (fun q6 => ?_) fun q6 => ?_
  ·have hk1 : ks.len = 1 /\ 1 <= n.cap /\ n.cap <= 4 := by
    obtain ⟨_,hq⟩ := hno; omega
   obtain ⟨t,rfl⟩ := Trs.len_one hk1.1;have hcT : codeT (.mk n (.cons t .nil)) code.length = mkI 4 (2 * n.cap) 0 [] :: (codeT t (code.length + 1) ++ [mkI 4 (2 * n.cap + 1) 0 []]) := by simp only [codeT,if_neg q2,if_neg q7,if_neg q8,if_neg q3,if_neg q4,if_neg q5,if_pos q6,catT_one]
   rw [hcT];have hz : nodSz n (Trs.cons t .nil).sz (Trs.cons t .nil).len = t.sz + 2 := by unfold nodSz; rw [if_neg (by omega),if_neg (by omega),if_pos q6,sz_one]
   rw [hz] at hb;simp only [Trs.flat,Trs.zs,Trs.es,Trs.ok,List.append_nil] at hsl hsz hse hks hm;refine zQ 5 ?_;refine EvO.mulZ (z := (2 * n.cap)) rfl (ev rfl) (ev rfl) (by (try simp only [List.length_reverse,List.length_cons,List.length_nil,List.length_append,List.length_map,List.length_set]); rw [wrap_i64 (by omega) (by omega)] <;> omega) (put_T rfl _) ?_;refine EvO.go (d := .agg [.int .i64 4, .int .i64 (2 * n.cap), .int .i64 0, .nul]) (st1 := _) rfl rfl rfl (put_T rfl _) ?_;have hH := hH.nulE 2;obtain ⟨_,st,hev,rfl,cd,dk,hH⟩ := add_ev (rs := []) hF (by omega) hH;refine qv hev ?_;refine zQ 1 ?_;have hcl1 : (code ++ [mkI 4 (2 * n.cap) 0 []]).length = code.length + 1 := by simp
   refine zQ 5 ?_;obtain ⟨_,st,hev,rfl,cd,dk,hH⟩ := ih t (by omega) hF hnd hsl.tail hsz.tail hse.tail hks.1 (by omega) ⟨cd,dk,hH⟩;refine qv hev ?_;refine zQ 1 ?_;rw [hcl1] at hH;have hcl2 : (code ++ [mkI 4 (2 * n.cap) 0 []] ++ codeT t (code.length + 1)).length = code.length + 1 + t.sz := by rw [List.length_append,hcl1,codeT_len t _ hks.1]
   refine zQ 4 ?_;refine EvO.mulZ (z := (2 * n.cap)) rfl (ev rfl) (ev rfl) (by (try simp only [List.length_reverse,List.length_cons,List.length_nil,List.length_append,List.length_map,List.length_set]); rw [wrap_i64 (by omega) (by omega)] <;> omega) (put_T rfl _) ?_;refine EvO.addZ (z := (2 * n.cap + 1)) rfl (ev rfl) (ev rfl) (by (try simp only [List.length_reverse,List.length_cons,List.length_nil,List.length_append,List.length_map,List.length_set]); rw [wrap_i64 (by omega) (by omega)] <;> omega) (put_T rfl _) ?_;refine EvO.go (d := .agg [.int .i64 4, .int .i64 (2 * n.cap + 1), .int .i64 0, .nul]) (st1 := _) rfl rfl rfl (put_T rfl _) ?_;have hH := hH.nulE 2;obtain ⟨_,st,hev,rfl,cd,dk,hH⟩ := add_ev (rs := []) hF (by omega) hH;refine qv hev ?_;refine zQ 1 ?_;have hfin : code ++ [mkI 4 (2 * n.cap) 0 []] ++ codeT t (code.length + 1) ++ [mkI 4 (2 * n.cap + 1) 0 []] = code ++ mkI 4 (2 * n.cap) 0 [] :: (codeT t (code.length + 1) ++ [mkI 4 (2 * n.cap + 1) 0 []]) := by simp
   rw [hfin] at hH;refine ⟨fun i h => (by cases h),_,_,_,rfl,rfl,?_⟩;exact ⟨rfl,cd,dk,hH.erase 4⟩
  ·refine zQ 1 ?_;have hcT : codeT (.mk n ks) code.length = [] := by simp only [codeT,if_neg q2,if_neg q7,if_neg q8,if_neg q3,if_neg q4,if_neg q5,if_neg q6]
   rw [hcT,List.append_nil];refine ⟨fun i h => (by cases h),_,_,_,rfl,rfl,?_⟩;exact ⟨rfl,cd,dk,hH.erase 4⟩
def ixF_Qj (fr : Go.V.Fr) (k : Nat) : Go.V.D := Go.V.nth .junk fr.loc k
def nlC (x : Nl) : List D := [x.d]
theorem nl_get {l : List Nl} {i : Nat} {q : Nl} (h : l[i]? = some q) : (l.map nlC)[i]? = some (nlC q) := by rw [List.getElem?_map,h]; rfl
def compD (R : CompR) : D := .tup [(pgV R.code R.starts).d, .int .i64 R.e, .int .i64 R.w]
theorem spl_all {es M : List Int} (h : M.length = es.length) : spl es 0 M = M := by
 unfold spl; simp [h]
theorem compS_nil (r : Nat) (c : List PIns) (s : List Int) : compS [] r c s = ⟨c,s,0,0⟩ := by simp only [compS]
theorem compile_ev {s0 : St} {x : D} {rules : List Nl} (hx : V.Rows s0 1 x (rules.map nlC)) (hr : ∀ r ∈ rules,r.ok) (hl : rules.length <= 1048576) : Ev pv 12 [x] s0 (compD (compileS (rules.map (·.l)))) s0 := by
 refine Ev.mk1 rfl fi12 rfl rfl rfl ?_;refine zE ?_;obtain ⟨hSb,hF,hH⟩ := ri s0;generalize enterSt .ro s0 = S at *;have hx := Arg.of hx hSb;have hfz : ∀ (st : St) (e w : Int),freezeD st s0.bs.length false 16 (tupD [.agg [.nul, .nul], .int .i64 e, .int .i64 w]) = some (compD ⟨[], [],e,w⟩) := fun st e w => rfl;refine zQ 2 ?_;refine qa hH fun k2 st hk2 hH => ?_;refine zQ 7 ?_;refine qn ?_;simp only [List.length_map];refine zQ 2 ?_;unfold compileS
 by_cases h8 : 8 < rules.length
 ·rw [if_pos (by rw [List.length_map]; exact h8)];refine qD rfl (by simp; omega) ?_;refine zQ 2 ?_;refine EvO.go (d := .agg [.nul, .nul]) (st1 := _) rfl rfl rfl (by dsimp only [Fr.put,u1,u2] <;> rfl) ?_;refine qS hH at0 fun st hH => ?_;dsimp only [u2,u1,u3,u4,setMany,u5,u6,D.cells,Nat.reduceAdd,insC,nodC,intC,nlC] at hH;refine zQ 3 ?_;refine EvC.ret ⟨rx,_,hH.resCellTT rfl at0 rfl rfl rfl,rl hSb hH (hfz _ 13 8)⟩
 ·rw [if_neg (by rw [List.length_map]; exact h8)];refine qE rfl (by simp; omega) ?_;refine zQ 3 ?_;refine EvO.go (d := .agg [.nul, .nul, .nul, .nul]) (st1 := _) rfl rfl rfl (by dsimp only [Fr.put,u1,u2] <;> rfl) ?_;refine qb hH fun k14 st hk14 hH => ?_;refine zQ 10 ?_;refine qn ?_;simp only [List.length_map];refine zQ 2 ?_;have hH : Has s0.bs.length S st (.lst .nul 1 (([] : List Int).map intC) :: .deep (fun _ => False) .nul 4 (([] : List PIns).map insC) :: .box k14 (.mem 0 false [.nul, .nul, .nul, .nul]) :: [.box k2 (.mem 0 false [.nul, .nul])]) := (hH.nulD 4).nulE 1;refine zQ 1 ?_;refine EvC.loop (fun mm fr st => ∃ (r : Nat) (cd nd zd ed sd : D) (dk : Nat -> Prop) (code : List PIns) (starts : List Int),fr.clean = ⟨18, [ixF_Qj fr 0,ixF_Qj fr 1, .ptr k2 0 0, .int .i64 0, .int .i64 0, .ptr k14 0 0,sd,ixF_Qj fr 7,ixF_Qj fr 8,ixF_Qj fr 9,ixF_Qj fr 10,ixF_Qj fr 11,ixF_Qj fr 12,ixF_Qj fr 13,ixF_Qj fr 14,x, .int .i64 (rules.length : Nat), .int .i64 (r : Nat)], []⟩ /\ Has s0.bs.length S st [.lst sd 1 (starts.map intC), .deep dk cd 4 (code.map insC), .box k14 (.mem 0 false [cd,nd,zd,ed]), .box k2 (.mem 0 false [.nul, .nul])] /\ (r + mm = rules.length) /\ (compS ((rules.drop r).map (·.l)) r code starts = compS (rules.map (·.l)) 0 [] []) /\ (code.length <= 400) /\ (starts.length <= r)) (rules.length) ?_ ?_
  ·exact ⟨0, .nul, .nul, .nul, .nul, .nul,(fun _ => False), [], [],rfl,hH,by omega,by rw [List.drop_zero],by simp,by simp⟩
  rintro mm fr st ⟨r,cd,nd,zd,ed,sd,dk,code,starts,hfr,hH,hrr,hX,hcl,hst⟩;rw [hfr];clear hfr;generalize ixF_Qj fr = ee;clear fr;refine zQ 4 ?_
  by_cases hlt : r < rules.length
  ·obtain ⟨q,hq⟩ : ∃ q,rules[r]? = some q := ⟨rules[r]'hlt,List.getElem?_eq_getElem _⟩
   have hqo := hr q (List.mem_of_getElem? hq);have hr1 := nl_get hq
   have hdr : rules.drop r = q :: rules.drop (r + 1) := by
    rw [List.drop_eq_getElem_cons hlt]
    congr 1
    exact Option.some.inj ((List.getElem?_eq_getElem _).symm.trans hq)
   rw [hdr,List.map_cons,compS] at hX;refine qq ?_;refine qD rfl (by simp; omega) ?_;refine zQ 6 ?_;refine qr fun p20 hp20 => ?_;refine zQ 8 ?_;refine qv (rightL_ev hqo) ?_;refine zQ 2 ?_
   cases hright : rightN q.l with
   | false =>
    rw [if_pos hright] at hX;refine zQ 3 ?_;refine EvO.go (d := .agg [.nul, .nul]) (st1 := _) rfl rfl rfl (put_T rfl _) ?_;refine qm ?_;refine qS hH at3 fun st hH => ?_;dsimp only [u2,u1,u3,u4,setMany,u5,u6,D.cells,Nat.reduceAdd,insC,nodC,intC,nlC] at hH;refine zQ 3 ?_;rw [<- hX];refine EvC.ret ⟨rx,_,hH.resCellTT rfl at3 rfl rfl rfl,rl hSb hH (hfz _ 1 r)⟩
   | true =>
    rw [if_neg (by rw [hright]; simp)] at hX;obtain ⟨htok,htf⟩ := tree_is hright;have hqd := hqo.c.arg s0.bs.length S;have hqn := hqo.nl;have hcd := hqo.c;refine zQ 9 ?_;refine qn ?_;simp only [List.length_map];refine EvO.hmake (s := 1) hH rfl rfl rfl rfl rfl rfl rfl rfl (Nat.le_of_ble_eq_true rfl) (by omega) (fun _ => (put_T rfl _)) (fun k33 st hk33 hH => ?_);refine qm ?_;refine qn ?_;simp only [List.length_map];refine EvO.hmake (s := 1) hH rfl rfl rfl rfl rfl rfl rfl rfl (Nat.le_of_ble_eq_true rfl) (by omega) (fun _ => (put_T rfl _)) (fun k36 st hk36 hH => ?_);refine zQ 2 ?_;refine qT hH at4 fun st hH => ?_;dsimp only [u2,u1,u3,u4,setMany,u5,u6,D.cells,Nat.reduceAdd,insC,nodC,intC,nlC] at hH;refine zQ 2 ?_;refine qT hH at4 fun st hH => ?_;dsimp only [u2,u1,u3,u4,setMany,u5,u6,D.cells,Nat.reduceAdd,insC,nodC,intC,nlC] at hH;refine zQ 2 ?_;refine qT hH at4 fun st hH => ?_;dsimp only [u2,u1,u3,u4,setMany,u5,u6,D.cells,Nat.reduceAdd,insC,nodC,intC,nlC] at hH;refine zQ 1 ?_
    have hH : Has s0.bs.length S st (.lst (.win k33 0 0 q.l.length 1) 1 ((List.replicate q.l.length (0 : Int)).map intC) :: .lst (.win k36 0 0 q.l.length 1) 1 ((List.replicate q.l.length (0 : Int)).map intC) :: .lst sd 1 (starts.map intC) :: .deep dk cd 4 (code.map insC) :: .box k14 (.mem 0 false [cd,q.d, .win k33 0 0 q.l.length 1, .win k36 0 0 q.l.length 1]) :: .box k2 (.mem 0 false [.nul, .nul]) :: []) := by
     rw [List.map_replicate]; exact hH.front at1
    refine zQ 7 ?_;obtain ⟨_,st,hev,rfl,hH⟩ := sizes_ev hqo.nl hqo.i hqo.c _ (treeN q.l) (Nat.le_refl _) htok (at_ := 0) (by rw [htf]; exact Seg.all _) (by simp) hH;refine qv hev ?_;refine zQ 1 ?_;rw [spl_all (by rw [Tr.zs_len,htf]; simp)] at hH;have hH := hH.front at1;refine zQ 7 ?_;obtain ⟨_,st,hev,rfl,hH⟩ := ends_ev hqo.nl hqo.i hqo.c _ (treeN q.l) (Nat.le_refl _) htok (at_ := 0) (by rw [htf]; exact Seg.all _) (by simp) hH;refine qv hev ?_;refine zQ 1 ?_;rw [spl_all (by rw [Tr.es_len,htf]; simp)] at hH;have hr13 := int_get (zs_head (Seg.all (treeN q.l).zs));refine zQ 7 ?_;refine EvO.dlen hH rfl (ev rfl) (by exact at3) rfl (put_T rfl _) ?_;simp only [List.length_map];refine zQ 4 ?_;refine qi hH at1 fun p64 hp64 => ?_;refine zQ 1 ?_;refine EvO.addZ (z := ((code.length + min (treeN q.l).sz 401 : Nat) : Int)) rfl (ev rfl) (ev rfl) (by (try simp only [List.length_reverse,List.length_cons,List.length_nil,List.length_append,List.length_map,List.length_set]); rw [wrap_i64 (by omega) (by omega)] <;> omega) (put_T rfl _) ?_;refine EvO.addZ (z := ((code.length + min (treeN q.l).sz 401 + 3 : Nat) : Int)) rfl (ev rfl) (ev rfl) (by (try simp only [List.length_reverse,List.length_cons,List.length_nil,List.length_append,List.length_map,List.length_set]); rw [wrap_i64 (by omega) (by omega)] <;> omega) (put_T rfl _) ?_;refine zQ 2 ?_
    by_cases hbig : 400 < code.length + min (treeN q.l).sz 401 + 3
    ·rw [if_pos hbig] at hX;have hcc : decide (((code.length + min (treeN q.l).sz 401 + 3 : Nat) : Int) > 400) = true := by rw [decide_eq_true_eq]; omega
     refine qD rfl (by rw [hcc]) ?_;refine zQ 2 ?_;refine EvO.go (d := .agg [.nul, .nul]) (st1 := _) rfl rfl rfl (put_T rfl _) ?_;refine qm ?_;refine qS hH at5 fun st hH => ?_;dsimp only [u2,u1,u3,u4,setMany,u5,u6,D.cells,Nat.reduceAdd,insC,nodC,intC,nlC] at hH;refine zQ 3 ?_;rw [<- hX];refine EvC.ret ⟨rx,_,hH.resCellTT rfl at5 rfl rfl rfl,rl hSb hH (hfz _ 12 r)⟩
    ·rw [if_neg hbig] at hX;have hcc : decide (((code.length + min (treeN q.l).sz 401 + 3 : Nat) : Int) > 400) = false := by rw [decide_eq_false_iff_not]; omega
     refine qE rfl (by rw [hcc]) ?_;refine zQ 1 ?_;have hH := hH.front at1;have hH := hH.front at3;have hH := hH.front at4;have hH : Has s0.bs.length S st (.box k14 (.mem 0 false [cd,q.d, .win k33 0 0 q.l.length 1, .win k36 0 0 q.l.length 1]) :: .deep dk cd 4 (code.map insC) :: .lst (.win k33 0 0 q.l.length 1) 1 ((treeN q.l).zs.map intC) :: .lst (.win k36 0 0 q.l.length 1) 1 (((treeN q.l).es 0).map intC) :: .lst sd 1 (starts.map intC) :: .box k2 (.mem 0 false [.nul, .nul]) :: []) := hH;refine zQ 4 ?_;refine EvO.go (d := .agg [.int .i64 4, .int .i64 0, .int .i64 0, .nul]) (st1 := _) rfl rfl rfl (put_T rfl _) ?_;have hH := hH.nulE 2;obtain ⟨_,st,hev,rfl,cd,dk,hH⟩ := add_ev (rs := []) hF (by omega) hH;refine qv hev ?_;refine qh (s := 1) (vs := [_]) hH fun k75 st hk75 hH => ?_;refine EvO.happend (s := 1) hH rfl (ev rfl) (ev rfl) (by exact at5) (by exact hH.rows (by exact at0)) rfl rfl rfl rfl rfl rfl rfl ⟨(Nat.le_of_ble_eq_true rfl),(Nat.le_of_ble_eq_true rfl)⟩ (fun _ => (put_T rfl _)) (by simp only [List.length_cons,List.length_nil,List.length_map] <;> omega) (by exact .inl hF) (fun x76 st hH => ?_);dsimp only [u2,u1,u3,u4,setMany,u5,u6,D.cells,Nat.reduceAdd,insC,nodC,intC,nlC] at hH;refine zQ 2 ?_;have hH := hH.drop 1;have hcl1 : (code ++ [mkI 4 0 0 []]).length = code.length + 1 := by simp
     refine zQ 3 ?_;obtain ⟨_,st,hev,rfl,cd,dk,hH⟩ := node_ev hqo.nl hqo.i _ (treeN q.l) (Nat.le_refl _) hF hqo.c (at_ := 0) (by rw [htf]; exact Seg.all _) (Seg.all _) (Seg.all _) htok (by omega) ⟨cd,dk,hH⟩;refine qv hev ?_;refine zQ 1 ?_;rw [hcl1] at hH;have hcl2 : (code ++ [mkI 4 0 0 []] ++ codeT (treeN q.l) (code.length + 1)).length = code.length + 1 + (treeN q.l).sz := by rw [List.length_append,hcl1,codeT_len _ _ htok]
     refine zQ 3 ?_;refine EvO.go (d := .agg [.int .i64 4, .int .i64 1, .int .i64 0, .nul]) (st1 := _) rfl rfl rfl (put_T rfl _) ?_;have hH := hH.nulE 2;obtain ⟨_,st,hev,rfl,cd,dk,hH⟩ := add_ev (rs := []) hF (by omega) hH;refine qv hev ?_;refine zQ 1 ?_;have hcl3 : (code ++ [mkI 4 0 0 []] ++ codeT (treeN q.l) (code.length + 1) ++ [mkI 4 1 0 []]).length = code.length + 1 + (treeN q.l).sz + 1 := by rw [List.length_append,hcl2]; rfl
     refine zQ 3 ?_;refine EvO.go (d := .agg [.int .i64 7, .int .i64 (r : Nat), .int .i64 0, .nul]) (st1 := _) rfl rfl rfl (put_T rfl _) ?_;have hH := hH.nulE 2;obtain ⟨_,st,hev,rfl,cd,dk,hH⟩ := add_ev (rs := []) hF (by omega) hH;refine qv hev ?_;refine zQ 1 ?_
     have hrc : code ++ [mkI 4 0 0 []] ++ codeT (treeN q.l) (code.length + 1) ++ [mkI 4 1 0 []] ++ [mkI 7 (r : Nat) 0 []] = code ++ ruleC (treeN q.l) code.length r := by
      unfold ruleC; simp
     rw [hrc] at hH;have hH := (hH.erase 2).erase 2;have hH := hH.front at1;have hH := hH.front at2;refine zQ 4 ?_;exact ⟨mm - 1,by omega,⟨r + 1,cd,q.d, .win k33 0 0 q.l.length 1, .win k36 0 0 q.l.length 1,x76,dk,code ++ ruleC (treeN q.l) code.length r,starts ++ [((code.length : Nat) : Int)],rfl,(by rw [List.map_append (f := intC)]; exact hH),by omega,hX,by rw [List.length_append,ruleC_len htok]; omega,by rw [List.length_append]; simp only [List.length_cons,List.length_nil]; omega⟩⟩
  ·refine qq ?_;refine qE rfl (by simp; omega) ?_;refine zQ 1 ?_;rw [List.drop_of_length_le (by omega),List.map_nil,compS_nil] at hX;refine zQ 7 ?_;refine EvO.ones (qs := [(0,_),(1,_)]) rfl rfl rfl rfl ⟨rfl,(ev rfl),(by exact hH.dcells (by exact at1)),rfl,(ev rfl),(by exact hH.ocells (by exact at0)),trivial⟩ (by intro q hq; simp only [List.mem_cons,List.not_mem_nil,or_false] at hq; rcases hq with rfl | rfl <;> exact ⟨rfl,by exact Nat.le_of_ble_eq_true rfl⟩) (by show List.foldl _ [_,_] _ = _; dsimp only [List.foldl_cons,List.foldl_nil,u2,u1] <;> rfl) (put_T rfl _) ?_;refine qS hH at3 fun st hH => ?_;dsimp only [u2,u1,u3,u4,setMany,u5,u6,D.cells,Nat.reduceAdd,insC,nodC,intC,nlC] at hH;refine zQ 3 ?_;rw [<- hX];have h1 := hH.freezeDp at1 (n := 13) (by decide);have h2 := hH.freezeL at0 (int_plain _) (n := 14) (by decide)
   have h4 : freezeD st s0.bs.length false 15 (.agg [cd,sd]) = some (pgV code starts).d := by
    show (mapO (freezeD st s0.bs.length false 14) [cd,sd]).map D.agg = _;simp only [mapO,h1,h2,Option.map_some]; rfl
   have h3 : freezeD st s0.bs.length false 16 (tupD [.agg [cd,sd], .int .i64 0, .int .i64 0]) = some (compD ⟨code,starts,0,0⟩) := by
    show (mapO (freezeD st s0.bs.length false 15) [.agg [cd,sd], .int .i64 0, .int .i64 0]).map D.tup = _;simp only [mapO,h4]; rfl
   exact EvC.ret ⟨rx,_,hH.resCellTT rfl at3 rfl rfl rfl,rl hSb hH h3⟩
theorem compS_ok : ∀ (ls : List (List Nod)) (r : Nat) (c : List PIns) (s : List Int),(∀ l ∈ ls, ∀ n ∈ l,n.rs.length <= 1048576) -> (∀ i ∈ c,InsV i) -> c.length <= 400 -> s.length <= r -> (∀ i ∈ (compS ls r c s).code,InsV i) /\ (compS ls r c s).code.length <= 400 /\ (compS ls r c s).starts.length <= r + ls.length
 | [],r,c,s,_,h1,h2,h3 => by rw [compS_nil]; exact ⟨h1,h2,by simpa using h3⟩
 | l :: ls,r,c,s,h0,h1,h2,h3 => by
  have hem : ∀ e w : Int,(∀ i ∈ (CompR.mk [] [] e w).code,InsV i) /\ (CompR.mk [] [] e w).code.length <= 400 /\ (CompR.mk [] [] e w).starts.length <= r + (l :: ls).length := fun e w => ⟨fun i hi => (by cases hi),by simp,by simp⟩
  rw [compS]
  split
  ·exact hem _ _
  ·rename_i hr;rw [Bool.not_eq_false] at hr
   split
   ·exact hem _ _
   ·rename_i hb;obtain ⟨t1,t2⟩ := tree_is hr
    obtain ⟨h4,h5,h6⟩ := compS_ok ls (r + 1) (c ++ ruleC (treeN l) c.length r) (s ++ [((c.length : Nat) : Int)]) (fun l' hl' => h0 l' (List.mem_cons_of_mem _ hl')) (fun i hi => by
     rcases List.mem_append.1 hi with hi | hi
     ·exact h1 i hi
     ·exact ruleC_v (by rw [t2]; exact h0 l (List.mem_cons_self ..)) i hi) (by rw [List.length_append,ruleC_len t1]; omega) (by rw [List.length_append]; simp only [List.length_cons,List.length_nil]; omega)
    exact ⟨h4,h5,by simp only [List.length_cons]; omega⟩
theorem compileS_ok {ls : List (List Nod)} (h : ∀ l ∈ ls, ∀ n ∈ l,n.rs.length <= 1048576) : (pgV (compileS ls).code (compileS ls).starts).ok /\ (compileS ls).code.length <= 400 := by
 unfold compileS
 split
 ·exact ⟨pgV_ok (fun i hi => (by cases hi)) (by simp) (by simp),by simp⟩
 ·obtain ⟨h1,h2,h3⟩ := compS_ok ls 0 [] [] h (fun i hi => by cases hi) (by simp) (by simp);exact ⟨pgV_ok h1 (by omega) (by omega),h2⟩
def strC (b : List UInt8) : List D := [.str b]
theorem str_get {l : List (List UInt8)} {i : Nat} {q : List UInt8} (h : l[i]? = some q) : (l.map strC)[i]? = some (strC q) := by rw [List.getElem?_map,h]; rfl
theorem nls_ok {parts : List (List Nod)} (h : ∀ l ∈ parts,(∀ n ∈ l,NdV n) /\ l.length <= 500) : ∀ r ∈ parts.map (fun l => (⟨nlD l,l⟩ : Nl)),r.ok := by
 intro r hr;obtain ⟨l,hl,rfl⟩ := List.mem_map.1 hr;exact nl_ok (h l hl).1 (by have := (h l hl).2; omega)
theorem nls_rows {parts : List (List Nod)} : (parts.map (fun l => (⟨nlD l,l⟩ : Nl))).map nlC = parts.map partC := by
 rw [List.map_map]; rfl
theorem comp_parts {s0 : St} {y : D} {parts : List (List Nod)} (h : ∀ l ∈ parts,(∀ n ∈ l,NdV n) /\ l.length <= 500) (hl : parts.length <= 1048576) (hy : V.Rows s0 1 y (parts.map partC)) : Ev pv 12 [y] s0 (compD (compileS parts)) s0 /\ (pgV (compileS parts).code (compileS parts).starts).ok /\ (compileS parts).code.length <= 400 := by
 have h1 := compile_ev (s0 := s0) (x := y) (rules := parts.map (fun l => (⟨nlD l,l⟩ : Nl))) (by rw [nls_rows]; exact hy) (nls_ok h) (by rw [List.length_map]; exact hl);have h2 : (parts.map (fun l => (⟨nlD l,l⟩ : Nl))).map (·.l) = parts := by rw [List.map_map]; exact List.map_id _
 rw [h2] at h1;exact ⟨h1,compileS_ok fun l hl n hn => ((h l hl).1 n hn).2.1⟩
open Go.V Go Go.RowKit
variable {H : Type} {enc : TypeId × Value -> H} {w : World} {spare : Nat -> Bool} {held : Bool} {d : DataW H}
theorem arg_strs (h : Rd enc Try.prog w spare held 22 d) : ∃ (y : D) (ps : List (List UInt8)),dval d = y /\ SlD y 1 (ps.map strC) /\ (Rows.uptoBulk d <= 1048576 -> ps.length <= 1048576 /\ ∀ b ∈ ps,b.length <= 1048576) := by
 rcases h.slice Try.underlying22 with rfl | ⟨elems,rest,rfl,he⟩
 ·exact ⟨_, [],rfl, .inl ⟨rfl,rfl⟩,fun _ => ⟨by simp,fun b hb => (by cases hb)⟩⟩
 ·obtain ⟨l,h1,h2,h3⟩ := sl_of (s := 1) (f := strC) (Q := fun (b : List UInt8) x => b.length <= Rows.uptoBulk x) (rest := rest) fun x hx => by
   obtain ⟨b,rfl⟩ := (he x hx).string Try.underlying9;refine ⟨b,rfl,rfl,rfl,?_⟩;simp only [Rows.uptoBulk]; omega
  refine ⟨_,l,rfl,h1,fun hb => ⟨?_,fun b hb' => ?_⟩⟩
  ·have := bulk_len elems;simp only [Rows.uptoBulk] at hb;omega
  ·obtain ⟨x,hx,h4⟩ := h3 b hb';have := bulk_all hx;simp only [Rows.uptoBulk] at hb;omega
end Go.Proofs.Ytnleclohocdkaaa
namespace Go.Proofs.Ytnleclohocdkaaa
open Go.V Go
def shI (n : Nat) (i : PIns) : PIns := if i.op = 2 then ⟨2,i.x + n,i.y + n,i.rd,i.rs⟩ else if i.op = 3 then ⟨3,i.x + n,i.y,i.rd,i.rs⟩ else i
theorem shI_mk (n : Nat) {op : Int} (x y : Int) (rs : List Rg) (h2 : op ≠ 2) (h3 : op ≠ 3) : shI n (mkI op x y rs) = mkI op x y rs := by
  unfold shI mkI
  rw [if_neg h2,if_neg h3]
theorem shI_sp (n s o : Nat) (lz : Bool) : shI n (spI s o lz) = spI (s + n) (o + n) lz := by
  cases lz
  · show (⟨2,((s + 1 : Nat) : Int) + n,(o : Int) + n,_,_⟩ : PIns) = mkI 2 ((s + n + 1 : Nat) : Int) ((o + n : Nat) : Int) []
    unfold mkI
    congr 1; omega
  · show (⟨2,(o : Int) + n,((s + 1 : Nat) : Int) + n,_,_⟩ : PIns) = mkI 2 ((o + n : Nat) : Int) ((s + n + 1 : Nat) : Int) []
    unfold mkI
    congr 1; omega
theorem shI_jp (n e : Nat) : shI n (jpI e) = jpI (e + n) := by
  show (⟨3,(e : Int) + n,0,_,_⟩ : PIns) = mkI 3 ((e + n : Nat) : Int) 0 []
  unfold mkI
  congr 1
theorem repC_sh {c : Nat -> List PIns} {z n : Nat} (hc : ∀ b,c (b + n) = (c b).map (shI n)) : ∀ k b,repC c z k (b + n) = (repC c z k b).map (shI n)
  | 0,b => rfl
  | k + 1,b => by
    have h := repC_sh hc (z := z) k (b + z)
    rw [Nat.add_right_comm] at h
    rw [repC,repC,List.map_append,hc,h]
theorem optC_sh {sp sp' : Nat -> PIns} {c : Nat -> List PIns} {z n : Nat} (hs : ∀ s,sp' (s + n) = shI n (sp s)) (hc : ∀ b,c (b + n) = (c b).map (shI n)) : ∀ k b,optC sp' c z k (b + n) = (optC sp c z k b).map (shI n)
  | 0,b => rfl
  | k + 1,b => by
    have h := optC_sh hs hc (z := z) k (b + 1 + z)
    have e1 : b + 1 + z + n = b + n + 1 + z := by omega
    have e2 : b + n + 1 = b + 1 + n := by omega
    rw [e1] at h
    rw [optC,optC,List.map_cons,List.map_append,hs,h,e2,hc]
theorem rptC_sh {nd : Nod} {c : Nat -> List PIns} {z n b : Nat} (hc : ∀ b,c (b + n) = (c b).map (shI n)) : rptC nd c z (b + n) = (rptC nd c z b).map (shI n) := by
  unfold rptC
  split
  · rw [List.map_append,repC_sh hc,List.map_cons,List.map_append,shI_sp,List.map_cons,List.map_nil,shI_jp]
    have e1 : b + n + nd.mn.toNat * z = b + nd.mn.toNat * z + n := by omega
    have e2 : b + nd.mn.toNat * z + n + 1 = b + nd.mn.toNat * z + 1 + n := by omega
    have e3 : b + nd.mn.toNat * z + n + z + 2 = b + nd.mn.toNat * z + z + 2 + n := by omega
    rw [e1,e2,e3,hc]
  · rw [List.map_append,repC_sh hc]
    have e1 : b + n + nd.mn.toNat * z = b + nd.mn.toNat * z + n := by omega
    rw [e1]
    congr 1
    refine optC_sh (fun s => ?_) hc _ _
    rw [shI_sp]
    congr 1
    omega
mutual
theorem codeT_sh (n : Nat) : ∀ (t : Tr) (b : Nat),codeT t (b + n) = (codeT t b).map (shI n)
  | .mk nd ks,b => by
    have hc := fun b => catT_sh n ks b
    have ha := fun e b => altT_sh n e ks b
    simp only [codeT]
    split
    · rw [List.map_cons,List.map_nil,shI_mk _ _ _ _ (by decide) (by decide)]
    split
    · rw [List.map_cons,List.map_nil,shI_mk _ _ _ _ (by decide) (by decide)]
    split
    · rw [List.map_cons,List.map_nil,shI_mk _ _ _ _ (by decide) (by decide)]
    split
    · exact hc b
    split
    · rw [Nat.add_right_comm]; exact ha _ b
    split
    · exact rptC_sh hc
    split
    · rw [List.map_cons,List.map_append,List.map_cons,List.map_nil,shI_mk _ _ _ _ (by decide) (by decide),shI_mk _ _ _ _ (by decide) (by decide),Nat.add_right_comm,hc]
    · rfl
theorem catT_sh (n : Nat) : ∀ (ts : Trs) (b : Nat),catT ts (b + n) = (catT ts b).map (shI n)
  | .nil,b => by simp only [catT,List.map_nil]
  | .cons t ts,b => by
    have h := catT_sh n ts (b + t.sz)
    rw [Nat.add_right_comm] at h
    simp only [catT,List.map_append]
    rw [codeT_sh n t b,h]
theorem altT_sh (n : Nat) : ∀ (e : Nat) (ts : Trs) (b : Nat),altT (jpI (e + n)) ts (b + n) = (altT (jpI e) ts b).map (shI n)
  | e, .nil,b => by simp only [altT,List.map_nil]
  | e, .cons t ts,b => by
    have h := altT_sh n e ts (b + t.sz + 2)
    have h1 := codeT_sh n t (b + 1)
    have e1 : b + t.sz + 2 + n = b + n + t.sz + 2 := by omega
    have e2 : b + 1 + n = b + n + 1 := by omega
    have e3 : b + 1 + t.sz + 1 + n = b + n + 1 + t.sz + 1 := by omega
    rw [e1] at h
    rw [e2] at h1
    simp only [altT]
    split
    · exact codeT_sh n t b
    · rw [List.map_cons,List.map_append,List.map_cons,shI_sp,shI_jp,h1,h,e3]
end
def InI (lo hi : Nat) (i : PIns) : Prop := i.op ≠ 7 /\ (i.op = 2 -> ((lo : Int) <= i.x /\ i.x <= hi) /\ (lo : Int) <= i.y /\ i.y <= hi) /\ (i.op = 3 -> (lo : Int) <= i.x /\ i.x <= hi)
theorem InI.mono {lo hi lo' hi' : Nat} {i : PIns} (h : InI lo hi i) (h1 : lo' <= lo) (h2 : hi <= hi') : InI lo' hi' i :=
  ⟨h.1,fun e => by have := h.2.1 e; omega,fun e => by have := h.2.2 e; omega⟩
theorem InI.mk {lo hi : Nat} {op : Int} (x y : Int) (rs : List Rg) (h2 : op ≠ 2) (h3 : op ≠ 3) (h7 : op ≠ 7) : InI lo hi (mkI op x y rs) := ⟨h7,fun h => absurd h h2,fun h => absurd h h3⟩
theorem InI.sp {lo hi s o : Nat} {lz : Bool} (h1 : lo <= s + 1 /\ s + 1 <= hi) (h2 : lo <= o /\ o <= hi) : InI lo hi (spI s o lz) := by
  cases lz
  · exact ⟨by show (2 : Int) ≠ 7; decide,fun _ => by show ((lo : Int) <= ((s + 1 : Nat) : Int) /\ ((s + 1 : Nat) : Int) <= hi) /\ (lo : Int) <= (o : Int) /\ (o : Int) <= hi; omega,fun h => absurd h (by show ¬ (2 : Int) = 3; decide)⟩
  · exact ⟨by show (2 : Int) ≠ 7; decide,fun _ => by show ((lo : Int) <= (o : Int) /\ (o : Int) <= hi) /\ (lo : Int) <= ((s + 1 : Nat) : Int) /\ ((s + 1 : Nat) : Int) <= hi; omega,fun h => absurd h (by show ¬ (2 : Int) = 3; decide)⟩
theorem InI.jp {lo hi e : Nat} (h1 : lo <= e /\ e <= hi) : InI lo hi (jpI e) :=
  ⟨by show (3 : Int) ≠ 7; decide,fun h => absurd h (by show ¬ (3 : Int) = 2; decide),fun _ => by show (lo : Int) <= (e : Int) /\ (e : Int) <= hi; omega⟩
theorem repC_in {c : Nat -> List PIns} {z : Nat} (hc : ∀ b, ∀ i ∈ c b,InI b (b + z) i) : ∀ k b, ∀ i ∈ repC c z k b,InI b (b + k * z) i
  | 0,b,i,hi => by cases hi
  | k + 1,b,i,hi => by
    simp only [repC] at hi
    rw [Nat.succ_mul]
    rcases List.mem_append.1 hi with hi | hi
    · exact (hc b i hi).mono (Nat.le_refl _) (by omega)
    · exact (repC_in hc k _ i hi).mono (by omega) (by omega)
theorem optC_in {sp : Nat -> PIns} {c : Nat -> List PIns} {z lo hi : Nat} (hs : ∀ s,lo <= s -> s + 1 <= hi -> InI lo hi (sp s)) (hc : ∀ b, ∀ i ∈ c b,InI b (b + z) i) : ∀ k b,lo <= b -> b + k * (z + 1) <= hi -> ∀ i ∈ optC sp c z k b,InI lo hi i
  | 0,b,_,_,i,hi' => by cases hi'
  | k + 1,b,h1,h2,i,hi' => by
    simp only [optC] at hi'
    rw [Nat.succ_mul] at h2
    rcases List.mem_cons.1 hi' with rfl | hi'
    · exact hs b h1 (by omega)
    · rcases List.mem_append.1 hi' with hi' | hi'
      · exact (hc _ i hi').mono (by omega) (by omega)
      · exact optC_in hs hc k _ (by omega) (by omega) i hi'
mutual
theorem codeT_in : ∀ (t : Tr) (b : Nat),t.ok -> ∀ i ∈ codeT t b,InI b (b + t.sz) i
  | .mk n ks,b,hok,i,hi => by
    simp only [Tr.ok] at hok
    have hc := fun b => catT_in ks b hok.2
    obtain ⟨_,hq⟩ := hok.1
    simp only [codeT] at hi
    simp only [Tr.sz]
    by_cases q2 : n.op = 2
    · rw [if_pos q2] at hi
      simp only [List.mem_cons,List.not_mem_nil,or_false] at hi; subst hi; exact InI.mk _ _ _ (by decide) (by decide) (by decide)
    rw [if_neg q2] at hi
    by_cases q7 : n.op = 7
    · rw [if_pos q7] at hi
      simp only [List.mem_cons,List.not_mem_nil,or_false] at hi; subst hi; exact InI.mk _ _ _ (by decide) (by decide) (by decide)
    rw [if_neg q7] at hi
    by_cases q8 : n.op = 8
    · rw [if_pos q8] at hi
      simp only [List.mem_cons,List.not_mem_nil,or_false] at hi; subst hi; exact InI.mk _ _ _ (by decide) (by decide) (by decide)
    rw [if_neg q8] at hi
    have hz : ∀ s k,nodSz n s k = if n.op = 4 then s + 2 * (k - 1) else if n.op = 6 then s + 2 else if n.op = 5 then (if n.mx = -1 then n.mn.toNat * s + s + 2 else n.mn.toNat * s + (n.mx.toNat - n.mn.toNat) * (s + 1)) else s := by
      intro s k; unfold nodSz; rw [if_neg (by omega)]
    by_cases q3 : n.op = 3
    · rw [if_pos q3] at hi
      rw [hz,if_neg (by omega),if_neg (by omega),if_neg (by omega)]
      exact hc b i hi
    rw [if_neg q3] at hi
    by_cases q4 : n.op = 4
    · rw [if_pos q4] at hi
      have hz4 : nodSz n ks.sz ks.len = ks.sz + 2 * (ks.len - 1) := by rw [hz,if_pos q4]
      rw [hz4] at hi ⊢
      exact altT_in ks b (b + (ks.sz + 2 * (ks.len - 1))) hok.2 (Nat.le_refl _) i hi
    rw [if_neg q4] at hi
    by_cases q5 : n.op = 5
    · rw [if_pos q5] at hi
      rw [hz,if_neg q4,if_neg (by omega),if_pos q5]
      unfold rptC at hi
      by_cases qm : n.mx = -1
      · rw [if_pos qm] at hi ⊢
        rcases List.mem_append.1 hi with hi | hi
        · exact (repC_in hc _ _ i hi).mono (Nat.le_refl _) (by omega)
        · rcases List.mem_cons.1 hi with rfl | hi
          · exact InI.sp (by omega) (by omega)
          · rcases List.mem_append.1 hi with hi | hi
            · exact (hc _ i hi).mono (by omega) (by omega)
            · simp only [List.mem_cons,List.not_mem_nil,or_false] at hi; subst hi; exact InI.jp (by omega)
      · rw [if_neg qm] at hi ⊢
        rcases List.mem_append.1 hi with hi | hi
        · exact (repC_in hc _ _ i hi).mono (Nat.le_refl _) (by omega)
        · exact optC_in (fun s h1 h2 => InI.sp (by omega) (by omega)) hc _ _ (by omega) (by omega) i hi
    rw [if_neg q5] at hi
    by_cases q6 : n.op = 6
    · rw [if_pos q6] at hi
      rw [hz,if_neg q4,if_pos q6]
      rcases List.mem_cons.1 hi with rfl | hi
      · exact InI.mk _ _ _ (by decide) (by decide) (by decide)
      · rcases List.mem_append.1 hi with hi | hi
        · exact (hc _ i hi).mono (by omega) (by omega)
        · simp only [List.mem_cons,List.not_mem_nil,or_false] at hi; subst hi; exact InI.mk _ _ _ (by decide) (by decide) (by decide)
    · rw [if_neg q6] at hi; cases hi
theorem catT_in : ∀ (ts : Trs) (b : Nat),ts.ok -> ∀ i ∈ catT ts b,InI b (b + ts.sz) i
  | .nil,b,_,i,hi => by simp [catT] at hi
  | .cons t ts,b,hok,i,hi => by
    simp only [Trs.ok] at hok
    simp only [catT] at hi
    simp only [Trs.sz]
    rcases List.mem_append.1 hi with hi | hi
    · exact (codeT_in t b hok.1 i hi).mono (Nat.le_refl _) (by omega)
    · exact (catT_in ts _ hok.2 i hi).mono (by omega) (by omega)
theorem altT_in : ∀ (ts : Trs) (b e : Nat),ts.ok -> b + (ts.sz + 2 * (ts.len - 1)) <= e -> ∀ i ∈ altT (jpI e) ts b,InI b e i
  | .nil,b,e,_,_,i,hi => by simp [altT] at hi
  | .cons t ts,b,e,hok,he,i,hi => by
    simp only [Trs.ok] at hok
    simp only [altT] at hi
    simp only [Trs.sz,Trs.len] at he
    by_cases q : ts.len = 0
    · rw [if_pos q] at hi
      exact (codeT_in t b hok.1 i hi).mono (Nat.le_refl _) (by omega)
    · rw [if_neg q] at hi
      rcases List.mem_cons.1 hi with rfl | hi
      · exact InI.sp (by omega) (by omega)
      · rcases List.mem_append.1 hi with hi | hi
        · exact (codeT_in t _ hok.1 i hi).mono (by omega) (by omega)
        · rcases List.mem_cons.1 hi with rfl | hi
          · exact InI.jp (by omega)
          · exact (altT_in ts _ e hok.2 (by omega) i hi).mono (by omega) (by omega)
end
theorem compS_nil' (r : Nat) (c : List PIns) (s : List Int) : compS [] r c s = ⟨c,s,0,0⟩ := by simp only [compS]
end Go.Proofs.Ytnleclohocdkaaa
namespace Go.Proofs.Ytnleclohocdkaaa
open Go.V Go
end Go.Proofs.Ytnleclohocdkaaa
namespace Go.Proofs.Ytnleclohocdkaaa
open Go.V Go
def isSeen (seen : List Bool) (v : Int) : Prop := 0 <= v /\ seen[v.toNat]? = some true
structure DfsInv (code : List PIns) (start : Int) (seen : List Bool) (stk : List Int) : Prop where
 a : ∀ u i,seen[u]? = some true -> code[u]? = some i -> ∀ w ∈ nextS u i,isSeen seen w \/ w ∈ stk
 b : ∀ v ∈ stk,v = start \/ ∃ u i,seen[u]? = some true /\ code[u]? = some i /\ v ∈ nextS u i
 c : ∀ v,isSeen seen v -> v = start \/ ∃ u i,seen[u]? = some true /\ code[u]? = some i /\ v ∈ nextS u i /\ v ≠ (u : Int)
 d : isSeen seen start \/ start ∈ stk
theorem set_seen {seen : List Bool} {k : Nat} (hk : k < seen.length) {v : Int} : isSeen (seen.set k true) v ↔ v = (k : Int) \/ isSeen seen v := by
 unfold isSeen;constructor
 ·rintro ⟨h0,h⟩
  by_cases hv : v.toNat = k
  ·left; omega
  ·rw [List.getElem?_set_ne (fun e => hv e.symm)] at h; exact .inr ⟨h0,h⟩
 ·rintro (rfl | ⟨h0,h⟩)
  ·exact ⟨by omega,by rw [Int.toNat_natCast,List.getElem?_set_self hk]⟩
  ·refine ⟨h0,?_⟩
   by_cases hv : v.toNat = k
   ·rw [hv,List.getElem?_set_self hk]
   ·rw [List.getElem?_set_ne (fun e => hv e.symm)]; exact h
theorem seen_nat {seen : List Bool} {u : Nat} : seen[u]? = some true ↔ isSeen seen (u : Int) := by
 unfold isSeen; rw [Int.toNat_natCast]; exact ⟨fun h => ⟨by omega,h⟩,fun h => h.2⟩
theorem dfs_ok {code : List PIns} {start : Int} (hcl : closedS code) : ∀ (f : Nat) (seen : List Bool) (stk : List Int),seen.length = code.length -> (∀ v ∈ stk,0 <= v /\ v < (code.length : Int)) -> 3 * seen.count false + stk.length <= f -> DfsInv code start seen stk -> DfsInv code start (dfs code f seen stk) []
 | 0,seen,stk,_,_,hm,hi => by
  have : stk = [] := by cases stk with | nil => rfl | cons _ _ => simp at hm
  subst this; exact hi
 | f + 1,seen, [],_,_,_,hi => hi
 | f + 1,seen,v :: stk,hl,hs,hm,hi => by
  have hv := hs v (List.mem_cons_self ..);have hs' : ∀ w ∈ stk,0 <= w /\ w < (code.length : Int) := fun w hw => hs w (List.mem_cons_of_mem _ hw);obtain ⟨k,rfl⟩ := Int.eq_ofNat_of_zero_le hv.1;have hk : k < code.length := by omega
  obtain ⟨i,hci⟩ : ∃ i,code[k]? = some i := ⟨code[k]'hk,List.getElem?_eq_getElem _⟩
  obtain ⟨b,hb⟩ : ∃ b,seen[k]? = some b := ⟨seen[k]'(by omega),List.getElem?_eq_getElem _⟩
  simp only [List.length_cons] at hm;have hp : ∀ w,w ∈ ((k : Int) :: stk) -> w = (k : Int) \/ w ∈ stk := fun w hw => List.mem_cons.1 hw;unfold dfs;simp only [Int.toNat_natCast,hb,hci]
  cases b with
  | true =>
   have hks : isSeen seen (k : Int) := seen_nat.1 hb;refine dfs_ok hcl f seen stk hl hs' (by omega) ⟨fun u j hu hj w hw => ?_,fun w hw => hi.b w (List.mem_cons_of_mem _ hw),hi.c,?_⟩
   ·rcases hi.a u j hu hj w hw with h | h
    ·exact .inl h
    ·rcases hp w h with rfl | h
     ·exact .inl hks
     ·exact .inr h
   ·rcases hi.d with h | h
    ·exact .inl h
    ·rcases hp start h with h | h
     ·exact .inl (h ▸ hks)
     ·exact .inr h
  | false =>
   have hcnt := count_set hb;have hkl : k < seen.length := by omega
   have hnl := next_len k i;refine dfs_ok hcl f _ _ (by rw [List.length_set]; exact hl) (fun w hw => ?_) (by simp only [List.length_append,List.length_reverse]; omega) ⟨fun u j hu hj w hw => ?_,fun w hw => ?_,fun w hw => ?_,?_⟩
   ·rcases List.mem_append.1 hw with hw | hw
    ·exact hcl k i hci w (List.mem_reverse.1 hw)
    ·exact hs' w hw
   ·rcases (set_seen hkl).1 (seen_nat.1 hu) with h | h
    ·have : u = k := by omega
     subst this;rw [hci] at hj; cases hj;exact .inr (List.mem_append.2 (.inl (List.mem_reverse.2 hw)))
    ·rcases hi.a u j (seen_nat.2 h) hj w hw with h | h
     ·exact .inl ((set_seen hkl).2 (.inr h))
     ·rcases hp w h with h | h
      ·exact .inl ((set_seen hkl).2 (.inl h))
      ·exact .inr (List.mem_append.2 (.inr h))
   ·rcases List.mem_append.1 hw with hw | hw
    ·exact .inr ⟨k,i,seen_nat.2 ((set_seen hkl).2 (.inl rfl)),hci,List.mem_reverse.1 hw⟩
    ·rcases hi.b w (List.mem_cons_of_mem _ hw) with h | ⟨u,j,h1,h2,h3⟩
     ·exact .inl h
     ·exact .inr ⟨u,j,seen_nat.2 ((set_seen hkl).2 (.inr (seen_nat.1 h1))),h2,h3⟩
   ·rcases (set_seen hkl).1 hw with rfl | h
    ·rcases hi.b (k : Int) (List.mem_cons_self ..) with h | ⟨u,j,h1,h2,h3⟩
     ·exact .inl h
     ·refine .inr ⟨u,j,seen_nat.2 ((set_seen hkl).2 (.inr (seen_nat.1 h1))),h2,h3,fun e => ?_⟩;have : k = u := by omega
      subst this;rw [hb] at h1; cases h1
    ·rcases hi.c w h with h | ⟨u,j,h1,h2,h3,h4⟩
     ·exact .inl h
     ·exact .inr ⟨u,j,seen_nat.2 ((set_seen hkl).2 (.inr (seen_nat.1 h1))),h2,h3,h4⟩
   ·rcases hi.d with h | h
    ·exact .inl ((set_seen hkl).2 (.inr h))
    ·rcases hp start h with h | h
     ·exact .inl ((set_seen hkl).2 (.inl h))
     ·exact .inr (List.mem_append.2 (.inr h))
theorem reach_ok {code : List PIns} {start : Int} (hcl : closedS code) (hst : 0 <= start /\ start < (code.length : Int)) : DfsInv code start (reachS code start) [] := by
 have hno : ∀ v, ¬ isSeen (List.replicate code.length false) v := by
  rintro v ⟨h0,h⟩;rw [List.getElem?_replicate] at h
  split at h <;> cases h
 refine dfs_ok hcl _ _ _ (by simp) (fun v hv => ?_) (by simp) ⟨fun u i hu => absurd (seen_nat.1 hu) (hno _),fun v hv => ?_,fun v hv => absurd hv (hno v), .inr (by simp)⟩
 ·simp only [List.mem_cons,List.not_mem_nil,or_false] at hv; subst hv; exact hst
 ·simp only [List.mem_cons,List.not_mem_nil,or_false] at hv; exact .inl hv
theorem nums_mem : ∀ {L : List Bool} {s : Nat} {v : Int},v ∈ numsS s L ↔ ∃ k : Nat,L[k]? = some true /\ v = ((s + k : Nat) : Int)
 | [],s,v => ⟨fun h => (by cases h),fun ⟨k,h,_⟩ => by simp at h⟩
 | b :: l,s,v => by
  simp only [numsS,List.mem_append];constructor
  ·rintro (h | h)
   ·split at h
    ·rename_i hb;simp only [List.mem_cons,List.not_mem_nil,or_false] at h;exact ⟨0,by simp [hb],by rw [h]; simp⟩
    ·cases h
   ·obtain ⟨k,h1,h2⟩ := nums_mem.1 h;exact ⟨k + 1,by simpa using h1,by rw [h2]; congr 1; omega⟩
  ·rintro ⟨k,h1,h2⟩
   cases k with
   | zero => simp at h1; subst h1; left; simp [h2]
   | succ k => exact .inr (nums_mem.2 ⟨k,by simpa using h1,by rw [h2]; congr 1; omega⟩)
theorem nums_rise : ∀ (L : List Bool) (s : Nat),(numsS s L).Pairwise (· < ·)
 | [],s => .nil
 | b :: l,s => by
  simp only [numsS];have ih := nums_rise l (s + 1)
  split
  ·rw [List.singleton_append,List.pairwise_cons];refine ⟨fun v hv => ?_,ih⟩;obtain ⟨k,_,rfl⟩ := nums_mem.1 hv;omega
  ·exact ih
end Go.Proofs.Ytnleclohocdkaaa
namespace Go.Proofs.Ytnleclohocdkaaa
open Go.V Go
def GoodI (lo hi : Nat) (i : PIns) : Prop :=
  (i.op = 1 /\ i.x = 0 /\ i.y = 0 /\ rightS i.rs = true) \/ (i.op = 2 /\ i.rs = [] /\ ((lo : Int) <= i.x /\ i.x <= hi) /\ (lo : Int) <= i.y /\ i.y <= hi) \/ (i.op = 3 /\ i.rs = [] /\ i.y = 0 /\ (lo : Int) <= i.x /\ i.x <= hi) \/ (i.op = 4 /\ i.rs = [] /\ i.y = 0 /\ 0 <= i.x /\ i.x < 10) \/ ((i.op = 5 \/ i.op = 6) /\ i.rs = [] /\ i.y = 0 /\ i.x = 0)
theorem GoodI.mono {lo hi lo' hi' : Nat} {i : PIns} (h : GoodI lo hi i) (h1 : lo' <= lo) (h2 : hi <= hi') : GoodI lo' hi' i := by
  rcases h with h | ⟨a,b,c,d⟩ | ⟨a,b,c,d⟩ | h | h
  · exact .inl h
  · exact .inr (.inl ⟨a,b,by omega,by omega⟩)
  · exact .inr (.inr (.inl ⟨a,b,c,by omega⟩))
  · exact .inr (.inr (.inr (.inl h)))
  · exact .inr (.inr (.inr (.inr h)))
theorem GoodI.sp {lo hi s o : Nat} {lz : Bool} (h1 : lo <= s + 1 /\ s + 1 <= hi) (h2 : lo <= o /\ o <= hi) : GoodI lo hi (spI s o lz) := by
  refine .inr (.inl ?_)
  cases lz
  · refine ⟨rfl,rfl,?_⟩
    show ((lo : Int) <= ((s + 1 : Nat) : Int) /\ ((s + 1 : Nat) : Int) <= hi) /\ (lo : Int) <= (o : Int) /\ (o : Int) <= hi
    omega
  · refine ⟨rfl,rfl,?_⟩
    show ((lo : Int) <= (o : Int) /\ (o : Int) <= hi) /\ (lo : Int) <= ((s + 1 : Nat) : Int) /\ ((s + 1 : Nat) : Int) <= hi
    omega
theorem GoodI.jp {lo hi e : Nat} (h1 : lo <= e /\ e <= hi) : GoodI lo hi (jpI e) := by
  refine .inr (.inr (.inl ⟨rfl,rfl,rfl,?_⟩))
  show (lo : Int) <= (e : Int) /\ (e : Int) <= hi
  omega
theorem GoodI.save {lo hi : Nat} {x : Int} (h : 0 <= x /\ x < 10) : GoodI lo hi (mkI 4 x 0 []) := .inr (.inr (.inr (.inl ⟨rfl,rfl,rfl,h⟩)))
theorem repC_good {c : Nat -> List PIns} {z : Nat} (hc : ∀ b, ∀ i ∈ c b,GoodI b (b + z) i) : ∀ k b, ∀ i ∈ repC c z k b,GoodI b (b + k * z) i
  | 0,b,i,hi => by cases hi
  | k + 1,b,i,hi => by
    simp only [repC] at hi
    rw [Nat.succ_mul]
    rcases List.mem_append.1 hi with hi | hi
    · exact (hc b i hi).mono (Nat.le_refl _) (by omega)
    · exact (repC_good hc k _ i hi).mono (by omega) (by omega)
theorem optC_good {sp : Nat -> PIns} {c : Nat -> List PIns} {z lo hi : Nat} (hs : ∀ s,lo <= s -> s + 1 <= hi -> GoodI lo hi (sp s)) (hc : ∀ b, ∀ i ∈ c b,GoodI b (b + z) i) : ∀ k b,lo <= b -> b + k * (z + 1) <= hi -> ∀ i ∈ optC sp c z k b,GoodI lo hi i
  | 0,b,_,_,i,hi' => by cases hi'
  | k + 1,b,h1,h2,i,hi' => by
    simp only [optC] at hi'
    rw [Nat.succ_mul] at h2
    rcases List.mem_cons.1 hi' with rfl | hi'
    · exact hs b h1 (by omega)
    · rcases List.mem_append.1 hi' with hi' | hi'
      · exact (hc _ i hi').mono (by omega) (by omega)
      · exact optC_good hs hc k _ (by omega) (by omega) i hi'
def rsR (l : List Nod) : Prop := ∀ n ∈ l,n.op = 2 -> rightS n.rs = true
mutual
theorem codeT_good : ∀ (t : Tr) (b : Nat),t.ok -> rsR t.flat -> ∀ i ∈ codeT t b,GoodI b (b + t.sz) i
  | .mk n ks,b,hok,hrs,i,hi => by
    simp only [Tr.ok] at hok
    simp only [Tr.flat] at hrs
    have hc := fun b => catT_good ks b hok.2 (fun n hn => hrs n (List.mem_cons_of_mem _ hn))
    obtain ⟨_,hq⟩ := hok.1
    simp only [codeT] at hi
    simp only [Tr.sz]
    by_cases q2 : n.op = 2
    · rw [if_pos q2] at hi
      simp only [List.mem_cons,List.not_mem_nil,or_false] at hi; subst hi; exact .inl ⟨rfl,rfl,rfl,hrs n (List.mem_cons_self ..) q2⟩
    rw [if_neg q2] at hi
    by_cases q7 : n.op = 7
    · rw [if_pos q7] at hi
      simp only [List.mem_cons,List.not_mem_nil,or_false] at hi; subst hi; exact .inr (.inr (.inr (.inr ⟨.inl rfl,rfl,rfl,rfl⟩)))
    rw [if_neg q7] at hi
    by_cases q8 : n.op = 8
    · rw [if_pos q8] at hi
      simp only [List.mem_cons,List.not_mem_nil,or_false] at hi; subst hi; exact .inr (.inr (.inr (.inr ⟨.inr rfl,rfl,rfl,rfl⟩)))
    rw [if_neg q8] at hi
    have hz : ∀ s k,nodSz n s k = if n.op = 4 then s + 2 * (k - 1) else if n.op = 6 then s + 2 else if n.op = 5 then (if n.mx = -1 then n.mn.toNat * s + s + 2 else n.mn.toNat * s + (n.mx.toNat - n.mn.toNat) * (s + 1)) else s := by
      intro s k; unfold nodSz; rw [if_neg (by omega)]
    by_cases q3 : n.op = 3
    · rw [if_pos q3] at hi
      rw [hz,if_neg (by omega),if_neg (by omega),if_neg (by omega)]
      exact hc b i hi
    rw [if_neg q3] at hi
    by_cases q4 : n.op = 4
    · rw [if_pos q4] at hi
      have hz4 : nodSz n ks.sz ks.len = ks.sz + 2 * (ks.len - 1) := by rw [hz,if_pos q4]
      rw [hz4] at hi ⊢
      exact altT_good ks b (b + (ks.sz + 2 * (ks.len - 1))) hok.2 (fun n hn => hrs n (List.mem_cons_of_mem _ hn)) (Nat.le_refl _) i hi
    rw [if_neg q4] at hi
    by_cases q5 : n.op = 5
    · rw [if_pos q5] at hi
      rw [hz,if_neg q4,if_neg (by omega),if_pos q5]
      unfold rptC at hi
      by_cases qx : n.mx = -1
      · rw [if_pos qx] at hi ⊢
        rcases List.mem_append.1 hi with hi | hi
        · exact (repC_good hc _ _ i hi).mono (Nat.le_refl _) (by omega)
        · rcases List.mem_cons.1 hi with rfl | hi
          · exact GoodI.sp (by omega) (by omega)
          · rcases List.mem_append.1 hi with hi | hi
            · exact (hc _ i hi).mono (by omega) (by omega)
            · simp only [List.mem_cons,List.not_mem_nil,or_false] at hi; subst hi; exact GoodI.jp (by omega)
      · rw [if_neg qx] at hi ⊢
        rcases List.mem_append.1 hi with hi | hi
        · exact (repC_good hc _ _ i hi).mono (Nat.le_refl _) (by omega)
        · exact optC_good (fun s h1 h2 => GoodI.sp (by omega) (by omega)) hc _ _ (by omega) (by omega) i hi
    rw [if_neg q5] at hi
    by_cases q6 : n.op = 6
    · rw [if_pos q6] at hi
      rw [hz,if_neg q4,if_pos q6]
      rcases List.mem_cons.1 hi with rfl | hi
      · exact GoodI.save (by omega)
      · rcases List.mem_append.1 hi with hi | hi
        · exact (hc _ i hi).mono (by omega) (by omega)
        · simp only [List.mem_cons,List.not_mem_nil,or_false] at hi; subst hi; exact GoodI.save (by omega)
    · rw [if_neg q6] at hi; cases hi
theorem catT_good : ∀ (ts : Trs) (b : Nat),ts.ok -> rsR ts.flat -> ∀ i ∈ catT ts b,GoodI b (b + ts.sz) i
  | .nil,b,_,_,i,hi => by simp [catT] at hi
  | .cons t ts,b,hok,hrs,i,hi => by
    simp only [Trs.ok] at hok
    simp only [Trs.flat] at hrs
    simp only [catT] at hi
    simp only [Trs.sz]
    rcases List.mem_append.1 hi with hi | hi
    · exact (codeT_good t b hok.1 (fun n hn => hrs n (List.mem_append_left _ hn)) i hi).mono (Nat.le_refl _) (by omega)
    · exact (catT_good ts _ hok.2 (fun n hn => hrs n (List.mem_append_right _ hn)) i hi).mono (by omega) (by omega)
theorem altT_good : ∀ (ts : Trs) (b e : Nat),ts.ok -> rsR ts.flat -> b + (ts.sz + 2 * (ts.len - 1)) <= e -> ∀ i ∈ altT (jpI e) ts b,GoodI b e i
  | .nil,b,e,_,_,_,i,hi => by simp [altT] at hi
  | .cons t ts,b,e,hok,hrs,he,i,hi => by
    simp only [Trs.ok] at hok
    simp only [Trs.flat] at hrs
    simp only [altT] at hi
    simp only [Trs.sz,Trs.len] at he
    have h1 : rsR t.flat := fun n hn => hrs n (List.mem_append_left _ hn)
    have h2 : rsR ts.flat := fun n hn => hrs n (List.mem_append_right _ hn)
    by_cases q : ts.len = 0
    · rw [if_pos q] at hi
      exact (codeT_good t b hok.1 h1 i hi).mono (Nat.le_refl _) (by omega)
    · rw [if_neg q] at hi
      rcases List.mem_cons.1 hi with rfl | hi
      · exact GoodI.sp (by omega) (by omega)
      · rcases List.mem_append.1 hi with hi | hi
        · exact (codeT_good t _ hok.1 h1 i hi).mono (by omega) (by omega)
        · rcases List.mem_cons.1 hi with rfl | hi
          · exact GoodI.jp (by omega)
          · exact (altT_good ts _ e hok.2 h2 (by omega) i hi).mono (by omega) (by omega)
end
inductive Path (C : List PIns) : Nat -> Nat -> Prop where
  | refl (u : Nat) : Path C u u
  | step {u v w : Nat} {i : PIns} (h : C[u]? = some i) (hn : (v : Int) ∈ nextS u i) (p : Path C v w) : Path C u w
theorem Path.trans {C : List PIns} {u v w : Nat} (h : Path C u v) (g : Path C v w) : Path C u w := by
  induction h with
  | refl => exact g
  | step h hn _ ih => exact .step h hn (ih g)
theorem Path.fall {C : List PIns} {u : Nat} {i : PIns} (h : C[u]? = some i) (ho : i.op ≠ 2 /\ i.op ≠ 3 /\ i.op ≠ 7) : Path C u (u + 1) :=
  .step h (by unfold nextS; rw [if_neg ho.1,if_neg ho.2.1,if_neg ho.2.2]; exact List.mem_cons_self ..) (.refl _)
theorem Path.jp {C : List PIns} {u e : Nat} (h : C[u]? = some (jpI e)) : Path C u e :=
  .step h (by show (e : Int) ∈ nextS u (mkI 3 (e : Nat) 0 []); unfold nextS; rw [if_neg (show ¬ (mkI 3 (e : Nat) 0 []).op = 2 by show ¬ (3 : Int) = 2; decide),if_pos (show (mkI 3 (e : Nat) 0 []).op = 3 from rfl)]; exact List.mem_cons_self ..) (.refl _)
theorem Path.sp {C : List PIns} {u s o : Nat} {lz : Bool} (h : C[u]? = some (spI s o lz)) : Path C u (s + 1) /\ Path C u o := by
  have hn : nextS u (spI s o lz) = [(spI s o lz).x,(spI s o lz).y] := by
    unfold nextS
    rw [if_pos (by cases lz <;> rfl)]
  cases lz
  · exact ⟨.step h (by rw [hn]; exact List.mem_cons_self ..) (.refl _), .step h (by rw [hn]; exact List.mem_cons_of_mem _ (List.mem_cons_self ..)) (.refl _)⟩
  · exact ⟨.step h (by rw [hn]; exact List.mem_cons_of_mem _ (List.mem_cons_self ..)) (.refl _), .step h (by rw [hn]; exact List.mem_cons_self ..) (.refl _)⟩
theorem repC_path {C : List PIns} {c : Nat -> List PIns} {z : Nat} (hl : ∀ b,(c b).length = z) (hc : ∀ b,Seg C b (c b) -> Path C b (b + z)) : ∀ k b,Seg C b (repC c z k b) -> Path C b (b + k * z)
  | 0,b,_ => by rw [Nat.zero_mul]; exact .refl _
  | k + 1,b,h => by
    rw [repC] at h
    have h2 := h.right
    rw [hl] at h2
    have := repC_path hl hc k (b + z) h2
    rw [Nat.succ_mul,show b + (k * z + z) = b + z + k * z by omega]
    exact (hc b h.left).trans this
theorem code_path {C : List PIns} : ∀ (m : Nat) (t : Tr),t.flat.length <= m -> ∀ b : Nat,t.ok -> Seg C b (codeT t b) -> Path C b (b + t.sz) := by
  intro m
  induction m with
  | zero => intro t h; have := t.flat_pos; omega
  | succ m ih =>
    rintro ⟨n,ks⟩ hm b hok h
    simp only [Tr.flat,List.length_cons] at hm
    simp only [Tr.ok] at hok
    have hcat : ∀ (ts : Trs) (b : Nat),ts.flat.length <= m -> ts.ok -> Seg C b (catT ts b) -> Path C b (b + ts.sz) := by
      intro ts
      induction ts using Trs.rec (motive_1 := fun _ => True) with
      | mk => trivial
      | nil => intro b _ _ _; exact .refl _
      | cons t ts _ ih2 =>
        intro b h1 h2 h3
        simp only [Trs.flat,List.length_append] at h1
        simp only [Trs.ok] at h2
        simp only [catT] at h3
        have h4 := h3.right
        rw [codeT_len t b h2.1] at h4
        have h5 := ih2 (b + t.sz) (by omega) h2.2 h4
        simp only [Trs.sz]
        rw [<- Nat.add_assoc]
        exact (ih t (by omega) b h2.1 h3.left).trans h5
    obtain ⟨hno,hks⟩ := hok
    obtain ⟨_,hq⟩ := hno
    have hkl := fun b => catT_len ks b hks
    simp only [codeT] at h
    simp only [Tr.sz]
    have hz : ∀ s k,nodSz n s k = if n.op = 2 \/ n.op = 7 \/ n.op = 8 then 1 else if n.op = 4 then s + 2 * (k - 1) else if n.op = 6 then s + 2 else if n.op = 5 then (if n.mx = -1 then n.mn.toNat * s + s + 2 else n.mn.toNat * s + (n.mx.toNat - n.mn.toNat) * (s + 1)) else s := fun s k => rfl
    rw [hz]
    by_cases q2 : n.op = 2
    · rw [if_pos q2] at h
      rw [if_pos (.inl q2)]
      exact Path.fall h.head (by show (1 : Int) ≠ 2 /\ (1 : Int) ≠ 3 /\ (1 : Int) ≠ 7; decide)
    rw [if_neg q2] at h
    by_cases q7 : n.op = 7
    · rw [if_pos q7] at h
      rw [if_pos (.inr (.inl q7))]
      exact Path.fall h.head (by show (5 : Int) ≠ 2 /\ (5 : Int) ≠ 3 /\ (5 : Int) ≠ 7; decide)
    rw [if_neg q7] at h
    by_cases q8 : n.op = 8
    · rw [if_pos q8] at h
      rw [if_pos (.inr (.inr q8))]
      exact Path.fall h.head (by show (6 : Int) ≠ 2 /\ (6 : Int) ≠ 3 /\ (6 : Int) ≠ 7; decide)
    rw [if_neg q8] at h
    rw [if_neg (by omega)]
    by_cases q3 : n.op = 3
    · rw [if_pos q3] at h
      rw [if_neg (by omega),if_neg (by omega),if_neg (by omega)]
      exact hcat ks b (by omega) hks h
    rw [if_neg q3] at h
    by_cases q4 : n.op = 4
    · rw [if_pos q4] at h
      have hz4 : nodSz n ks.sz ks.len = ks.sz + 2 * (ks.len - 1) := by rw [hz,if_neg (by omega),if_pos q4]
      rw [hz4] at h
      rw [if_pos q4]
      cases ks with
      | nil => simp only [Trs.len] at hq; omega
      | cons t ts =>
        simp only [Trs.len] at hq
        simp only [Trs.flat,List.length_append] at hm
        simp only [Trs.ok] at hks
        simp only [altT] at h
        rw [if_neg (by omega)] at h
        have h1 := (Path.sp h.head).1
        have h2 := ih t (by omega) (b + 1) hks.1 h.tail.left
        have h3 := h.tail.right
        rw [codeT_len t _ hks.1] at h3
        exact h1.trans (h2.trans (Path.jp h3.head))
    rw [if_neg q4] at h
    rw [if_neg q4]
    by_cases q5 : n.op = 5
    · rw [if_pos q5] at h
      rw [if_neg (by omega),if_pos q5]
      unfold rptC at h
      by_cases qx : n.mx = -1
      · rw [if_pos qx] at h ⊢
        have h1 := repC_path hkl (fun b hb => hcat ks b (by omega) hks hb) _ _ h.left
        have h2 := h.right
        rw [repC_len hkl] at h2
        have h3 := (Path.sp h2.head).2
        rw [show b + (n.mn.toNat * ks.sz + ks.sz + 2) = b + n.mn.toNat * ks.sz + ks.sz + 2 by omega]
        exact h1.trans h3
      · rw [if_neg qx] at h ⊢
        have h1 := repC_path hkl (fun b hb => hcat ks b (by omega) hks hb) _ _ h.left
        have h2 := h.right
        rw [repC_len hkl] at h2
        by_cases hd : n.mx.toNat - n.mn.toNat = 0
        · rw [hd,Nat.zero_mul,Nat.add_zero]; exact h1
        · obtain ⟨d,hd2⟩ : ∃ d,n.mx.toNat - n.mn.toNat = d + 1 := ⟨n.mx.toNat - n.mn.toNat - 1,by omega⟩
          rw [hd2] at h2 ⊢
          rw [optC] at h2
          have h3 := (Path.sp h2.head).2
          rw [<- Nat.add_assoc]
          exact h1.trans h3
    rw [if_neg q5] at h
    by_cases q6 : n.op = 6
    · rw [if_pos q6] at h
      rw [if_pos q6]
      have h1 : Path C b (b + 1) := Path.fall h.head (by show (4 : Int) ≠ 2 /\ (4 : Int) ≠ 3 /\ (4 : Int) ≠ 7; decide)
      have h2 := hcat ks (b + 1) (by omega) hks h.tail.left
      have h3 := h.tail.right
      rw [hkl] at h3
      have h4 : Path C (b + 1 + ks.sz) (b + 1 + ks.sz + 1) := Path.fall h3.head (by show (4 : Int) ≠ 2 /\ (4 : Int) ≠ 3 /\ (4 : Int) ≠ 7; decide)
      rw [show b + (ks.sz + 2) = b + 1 + ks.sz + 1 by omega]
      exact h1.trans (h2.trans h4)
    · have hk0 : ks.len = 0 := by omega
      have := Trs.len_nil hk0
      subst this
      rw [if_neg q6,if_neg q5]
      exact .refl _
end Go.Proofs.Ytnleclohocdkaaa
namespace Go.Proofs.Ytnleclohocdkaaa
open Go.V Go
theorem dfs_in {code : List PIns} {I : Nat -> Prop} (hI : ∀ u i,I u -> code[u]? = some i -> ∀ v ∈ nextS u i,I v.toNat) : ∀ (f : Nat) (seen : List Bool) (stk : List Int),(∀ v ∈ stk,I v.toNat) -> (∀ u : Nat,seen[u]? = some true -> I u) -> ∀ u : Nat,(dfs code f seen stk)[u]? = some true -> I u
  | 0,seen,stk,_,h2,u,h => h2 u h
  | f + 1,seen, [],_,h2,u,h => h2 u h
  | f + 1,seen,v :: stk,h1,h2,u,h => by
    have hv := h1 v (List.mem_cons_self ..)
    have hs : ∀ w ∈ stk,I w.toNat := fun w hw => h1 w (List.mem_cons_of_mem _ hw)
    unfold dfs at h
    split at h
    · split at h
      · rename_i i hi
        refine dfs_in hI f _ _ (fun w hw => ?_) (fun w hw => ?_) u h
        · rcases List.mem_append.1 hw with hw | hw
          · exact hI _ i hv hi w (List.mem_reverse.1 hw)
          · exact hs w hw
        · by_cases he : v.toNat = w
          · rw [<- he]; exact hv
          · rw [List.getElem?_set_ne he] at hw; exact h2 w hw
      · exact h2 u h
    · exact dfs_in hI f _ _ hs h2 u h
theorem path_seen {code : List PIns} {start : Int} (hcl : closedS code) (hst : 0 <= start /\ start < (code.length : Int)) {u v : Nat} (p : Path code u v) : (reachS code start)[u]? = some true -> (reachS code start)[v]? = some true := by
  obtain ⟨ha,_,_,_⟩ := reach_ok hcl hst
  induction p with
  | refl => exact id
  | @step u v w i h hn _ ih =>
    intro hu
    refine ih ?_
    rcases ha u i hu h _ hn with hs | hs
    · exact seen_nat.2 hs
    · cases hs
theorem reach_start {code : List PIns} {s : Nat} (hcl : closedS code) (hs : s < code.length) : (reachS code (s : Nat))[s]? = some true := by
  obtain ⟨_,_,_,hd⟩ := reach_ok (start := ((s : Nat) : Int)) hcl ⟨by omega,by omega⟩
  rcases hd with hd | hd
  · exact seen_nat.2 hd
  · cases hd
mutual
theorem Tr.noop : ∀ t : Tr,True
  | .mk _ _ => trivial
theorem Trs.noop : ∀ t : Trs,True
  | .nil => trivial
  | .cons _ _ => trivial
end
theorem shape_rs {n : Nod} {g : Int} (h : (shapeN n g).2 = true) (h2 : n.op = 2) : rightS n.rs = true := by
  unfold shapeN at h
  split at h
  · cases h
  · rw [if_neg (show ¬ (n.op = 1 \/ n.op = 7 \/ n.op = 8) by omega)] at h
    have h : (n.kids == 0 && rightS n.rs) = true := h
    rw [Bool.and_eq_true] at h
    exact h.2
theorem kids_rs {l : List Nod} {h : Nat -> Nat -> Option (Nat × Nat)} (ih : ∀ at_ g r,h at_ g = some r -> at_ <= r.1 /\ ∀ j n,at_ <= j -> j < r.1 -> l[j]? = some n -> n.op = 2 -> rightS n.rs = true) : ∀ k at_ g r,kidsS h k at_ g = some r -> at_ <= r.1 /\ ∀ j n,at_ <= j -> j < r.1 -> l[j]? = some n -> n.op = 2 -> rightS n.rs = true
  | 0,at_,g,r,e => by
    simp only [kidsS,Option.some.injEq] at e
    subst e
    exact ⟨Nat.le_refl _,fun j n h1 h2 => by simp only at h2; omega⟩
  | k + 1,at_,g,r,e => by
    unfold kidsS at e
    cases hq : h at_ g with
    | none => rw [hq] at e; cases e
    | some q =>
      rw [hq] at e
      obtain ⟨t1,t2⟩ := ih _ _ _ hq
      obtain ⟨u1,u2⟩ := kids_rs ih k _ _ _ e
      refine ⟨Nat.le_trans t1 u1,fun j n h1 h2 hj ho => ?_⟩
      by_cases hjq : j < q.1
      · exact t2 j n h1 hjq hj ho
      · exact u2 j n (by omega) h2 hj ho
theorem one_rs {l : List Nod} : ∀ f at_ g r,oneW l f at_ g = some r -> at_ <= r.1 /\ ∀ j n,at_ <= j -> j < r.1 -> l[j]? = some n -> n.op = 2 -> rightS n.rs = true
  | 0,_,_,_,e => by simp [oneW] at e
  | f + 1,at_,g,r,e => by
    unfold oneW at e
    cases hn : l[at_]? with
    | none => rw [hn] at e; cases e
    | some n =>
      rw [hn] at e
      simp only at e
      split at e
      · rename_i hs
        obtain ⟨u1,u2⟩ := kids_rs (one_rs f) _ _ _ _ e
        refine ⟨by omega,fun j m h1 h2 hj ho => ?_⟩
        by_cases hja : j = at_
        · subst hja
          rw [hn] at hj
          cases hj
          exact shape_rs hs ho
        · exact u2 j m (by omega) h2 hj ho
      · cases e
theorem right_rs {l : List Nod} (h : rightN l = true) : rsR l := by
  unfold rightN at h
  simp only [Bool.and_eq_true] at h
  obtain ⟨_,h⟩ := h
  split at h
  · rename_i r hr
    rw [decide_eq_true_eq] at h
    obtain ⟨_,h2⟩ := one_rs _ _ _ _ hr
    intro n hn ho
    obtain ⟨j,hj⟩ := List.getElem?_of_mem hn
    exact h2 j n (Nat.zero_le _) (by rw [h]; exact lt_get hj) hj ho
  · cases h
structure RulesQ (n0 r0 : Nat) (C : List PIns) (B : List Int) (k : Nat) : Prop where
  bl : B.length = k
  fs : 0 < k -> B[0]? = some ((n0 : Nat) : Int)
  el : ∀ j,j < k -> ∃ (t : Tr) (b : Nat),t.ok /\ rsR t.flat /\ B[j]? = some (b : Int) /\ n0 <= b /\ (∀ b' : Int,B[j + 1]? = some b' -> b' = ((b + t.sz + 3 : Nat) : Int)) /\ (j + 1 = k -> n0 + C.length = b + t.sz + 3) /\ ∃ pre post,C = pre ++ ruleC t b (r0 + j) ++ post /\ n0 + pre.length = b
  al : ∀ i q,C[i]? = some q -> ∃ j,j < k /\ ∃ (t : Tr) (b : Nat),B[j]? = some (b : Int) /\ t.ok /\ rsR t.flat /\ b <= n0 + i /\ n0 + i < b + t.sz + 3 /\ b + t.sz + 3 <= n0 + C.length /\ q ∈ ruleC t b (r0 + j) /\ (ruleC t b (r0 + j))[n0 + i - b]? = some q
theorem compS_spec : ∀ (ls : List (List Nod)) (r : Nat) (c : List PIns) (s : List Int),(compS ls r c s).e = 0 -> ∃ C B,(compS ls r c s).code = c ++ C /\ (compS ls r c s).starts = s ++ B /\ RulesQ c.length r C B ls.length
  | [],r,c,s,h => by
    rw [compS_nil']
    exact ⟨[], [],by simp,by simp,rfl,fun h => by simp at h,fun j hj => by simp at hj,fun i q hi => by simp at hi⟩
  | l :: ls,r,c,s,h => by
    rw [compS] at h ⊢
    by_cases hr : rightN l = false
    · rw [if_pos hr] at h; cases h
    rw [if_neg hr] at h ⊢
    rw [Bool.not_eq_false] at hr
    by_cases hb : 400 < c.length + min (treeN l).sz 401 + 3
    · rw [if_pos hb] at h; cases h
    rw [if_neg hb] at h ⊢
    obtain ⟨t1,t2⟩ := tree_is hr
    have hrs : rsR (treeN l).flat := by rw [t2]; exact right_rs hr
    have hlen := ruleC_len (b := c.length) (r := r) t1
    obtain ⟨C,B,h1,h2,h3⟩ := compS_spec ls (r + 1) _ _ h
    rw [List.length_append,hlen] at h3
    refine ⟨ruleC (treeN l) c.length r ++ C,((c.length : Nat) : Int) :: B,by rw [h1,List.append_assoc],by rw [h2,List.append_assoc]; rfl,by simp [h3.bl],fun _ => rfl,fun j hj => ?_,fun i q hi => ?_⟩
    · cases j with
      | zero =>
        refine ⟨treeN l,c.length,t1,hrs,rfl,Nat.le_refl _,fun b' hb' => ?_,fun hj1 => ?_, [],C,by simp,by simp⟩
        · simp only [Nat.zero_add,List.getElem?_cons_succ] at hb'
          have hB := h3.bl
          have hlt := lt_get hb'
          rw [h3.fs (by omega)] at hb'
          cases hb'
          congr 1
        · simp only [List.length_cons] at hj1
          have hl0 : ls.length = 0 := by omega
          have hC : C = [] := by
            cases hc : C with
            | nil => rfl
            | cons q C' =>
              obtain ⟨j,hj,_⟩ := h3.al 0 q (by rw [hc]; rfl)
              omega
          rw [hC,List.append_nil,hlen]; omega
      | succ j =>
        simp only [List.length_cons] at hj
        obtain ⟨t,b,q1,q2,q3,q4,q5,q6,pre,post,q7,q8⟩ := h3.el j (by omega)
        refine ⟨t,b,q1,q2,q3,by omega,q5,fun hj1 => ?_,ruleC (treeN l) c.length r ++ pre,post,?_,?_⟩
        · simp only [List.length_cons] at hj1
          have := q6 (by omega)
          rw [List.length_append,hlen]; omega
        · rw [q7,show r + 1 + j = r + (j + 1) by omega]; simp only [List.append_assoc]
        · rw [List.length_append,hlen]; omega
    · by_cases hil : i < (ruleC (treeN l) c.length r).length
      · rw [List.getElem?_append_left hil] at hi
        refine ⟨0,by simp,treeN l,c.length,rfl,t1,hrs,by omega,by omega,by rw [List.length_append,hlen]; omega,List.mem_of_getElem? hi,?_⟩
        rw [show c.length + i - c.length = i by omega]; exact hi
      · rw [List.getElem?_append_right (by omega)] at hi
        obtain ⟨j,q1,t,b,q2,q3,q4,q5,q6,q7,q8,q9⟩ := h3.al _ q hi
        rw [hlen] at q5 q6 q9 hil
        refine ⟨j + 1,by simp only [List.length_cons]; omega,t,b,q2,q3,q4,by omega,by omega,by rw [List.length_append,hlen]; omega,by rw [show r + (j + 1) = r + 1 + j by omega]; exact q8,?_⟩
        rw [show r + (j + 1) = r + 1 + j by omega,show c.length + i - b = c.length + ((treeN l).sz + 3) + (i - ((treeN l).sz + 3)) - b by omega]
        exact q9
end Go.Proofs.Ytnleclohocdkaaa
namespace Go.Proofs.Ytnleclohocdkaaa
open Go.V Go
theorem good_next {lo hi u : Nat} {i : PIns} (h : GoodI lo hi i) (h1 : lo <= u + 1) (h2 : u + 1 <= hi) : ∀ v ∈ nextS u i,(lo : Int) <= v /\ v <= hi := by
  intro v hv
  unfold nextS at hv
  rcases h with ⟨a,_⟩ | ⟨a,_,c,d⟩ | ⟨a,_,_,d⟩ | ⟨a,_⟩ | ⟨a,_⟩
  · rw [if_neg (by omega),if_neg (by omega),if_neg (by omega)] at hv
    simp only [List.mem_cons,List.not_mem_nil,or_false] at hv; omega
  · rw [if_pos a] at hv
    simp only [List.mem_cons,List.not_mem_nil,or_false] at hv
    rcases hv with rfl | rfl <;> omega
  · rw [if_neg (by omega),if_pos a] at hv
    simp only [List.mem_cons,List.not_mem_nil,or_false] at hv; omega
  · rw [if_neg (by omega),if_neg (by omega),if_neg (by omega)] at hv
    simp only [List.mem_cons,List.not_mem_nil,or_false] at hv; omega
  · rw [if_neg (by omega),if_neg (by omega),if_neg (by omega)] at hv
    simp only [List.mem_cons,List.not_mem_nil,or_false] at hv; omega
theorem good_shaped {lo hi n ns pc : Nat} {i : PIns} (h : GoodI lo hi i) (h1 : hi < n) (h2 : pc + 1 < n) : shapedS n ns pc i = true := by
  have hin : ∀ v : Int,(lo : Int) <= v -> v <= hi -> inS v n = true := fun v a b => inS_iff.2 ⟨by omega,by omega⟩
  have hd : decide (((pc + 1 : Nat) : Int) < n) = true := by rw [decide_eq_true_eq]; omega
  unfold shapedS
  rcases h with ⟨a,b,c,d⟩ | ⟨a,b,c,d⟩ | ⟨a,b,c,d⟩ | ⟨a,b,c,d⟩ | ⟨a,b,c,d⟩
  · rw [if_pos a,hd,b,c,d]; rfl
  · rw [if_neg (by omega),if_pos a,b,hin _ c.1 c.2,hin _ d.1 d.2]; rfl
  · rw [if_neg (by omega),if_neg (by omega),if_pos a,b,c,hin _ d.1 d.2]; rfl
  · rw [if_neg (by omega),if_neg (by omega),if_neg (by omega),if_pos a,b,c,hd,inS_iff.2 ⟨d.1,d.2⟩]; rfl
  · rw [if_neg (by omega),if_neg (by omega),if_neg (by omega),if_neg (by omega),if_pos a,b,c,hd,d]; rfl
theorem rule_good {t : Tr} {b r o : Nat} {q : PIns} (h1 : t.ok) (h2 : rsR t.flat) (h : (ruleC t b r)[o]? = some q) : (o < t.sz + 2 /\ GoodI b (b + t.sz + 2) q) \/ (o = t.sz + 2 /\ q = mkI 7 (r : Nat) 0 []) := by
  have hl := codeT_len t (b + 1) h1
  have hA : ruleC t b r = (mkI 4 0 0 [] :: (codeT t (b + 1) ++ [mkI 4 1 0 []])) ++ [mkI 7 (r : Nat) 0 []] := by unfold ruleC; simp
  have hAl : (mkI 4 0 0 [] :: (codeT t (b + 1) ++ [mkI 4 1 0 []])).length = t.sz + 2 := by simp [hl]
  rw [hA] at h
  by_cases ho : o < t.sz + 2
  · rw [List.getElem?_append_left (by omega)] at h
    refine .inl ⟨ho,?_⟩
    have hm := List.mem_of_getElem? h
    rcases List.mem_cons.1 hm with rfl | hm
    · exact GoodI.save (by omega)
    · rcases List.mem_append.1 hm with hm | hm
      · exact (codeT_good t (b + 1) h1 h2 q hm).mono (by omega) (by omega)
      · simp only [List.mem_cons,List.not_mem_nil,or_false] at hm; subst hm; exact GoodI.save (by omega)
  · rw [List.getElem?_append_right (by omega),hAl] at h
    have h0 := lt_get h
    simp only [List.length_cons,List.length_nil] at h0
    have ho2 : o = t.sz + 2 := by omega
    refine .inr ⟨ho2,?_⟩
    rw [ho2,Nat.sub_self] at h
    exact (Option.some.inj h).symm
structure RuleQ (p : Pg) (r s e : Nat) : Prop where
  st : p.starts[r]? = some (s : Int)
  se : s < e
  el : e <= p.code.length
  nx : ∀ b' : Int,p.starts[r + 1]? = some b' -> b' = (e : Int)
  la : r + 1 = p.starts.length -> p.code.length = e
  mt : p.code[e - 1]? = some (mkI 7 (r : Nat) 0 [])
  fi : (reachN p (r : Nat))[0]? = some (s : Int)
  lt : (reachN p (r : Nat))[(reachN p (r : Nat)).length - 1]? = some ((e - 1 : Nat) : Int)
theorem rise_ends {X : List Int} {a b : Int} (hp : X.Pairwise (· < ·)) (ha : a ∈ X) (hb : b ∈ X) (h : ∀ v ∈ X,a <= v /\ v <= b) : X[0]? = some a /\ X[X.length - 1]? = some b := by
  obtain ⟨i,hi⟩ := List.getElem?_of_mem ha
  obtain ⟨j,hj⟩ := List.getElem?_of_mem hb
  have hil := lt_get hi
  have hjl := lt_get hj
  have hlt : ∀ u v (x y : Int),u < v -> X[u]? = some x -> X[v]? = some y -> x < y := fun u v x y huv hx hy => by
    have := List.pairwise_iff_getElem.1 hp u v (lt_get hx) (lt_get hy) huv
    have ex : X[u]'(lt_get hx) = x := Option.some.inj ((List.getElem?_eq_getElem _).symm.trans hx)
    have ey : X[v]'(lt_get hy) = y := Option.some.inj ((List.getElem?_eq_getElem _).symm.trans hy)
    rw [ex,ey] at this; exact this
  constructor
  · obtain ⟨x,hx⟩ : ∃ x,X[0]? = some x := ⟨X[0]'(by omega),List.getElem?_eq_getElem _⟩
    have := h x (List.mem_of_getElem? hx)
    by_cases h0 : i = 0
    · rw [<- h0]; exact hi
    · have := hlt 0 i x a (by omega) hx hi
      omega
  · obtain ⟨x,hx⟩ : ∃ x,X[X.length - 1]? = some x := ⟨X[X.length - 1]'(by omega),List.getElem?_eq_getElem _⟩
    have := h x (List.mem_of_getElem? hx)
    by_cases h0 : j = X.length - 1
    · rw [<- h0]; exact hj
    · have := hlt j (X.length - 1) b x (by omega) hj hx
      omega
theorem made_right {parts : List (List Nod)} (hl : parts.length <= 8) (he : (compileS parts).e = 0) (hcl : (compileS parts).code.length <= 400) :
    RightQ (pgV (compileS parts).code (compileS parts).starts) /\ (compileS parts).starts.length = parts.length /\ ∀ r,r < parts.length -> ∃ s e,RuleQ (pgV (compileS parts).code (compileS parts).starts) r s e := by
  have hcs : compileS parts = compS parts 0 [] [] := by unfold compileS; rw [if_neg (by omega)]
  rw [hcs] at he hcl ⊢
  obtain ⟨C,B,h1,h2,h3⟩ := compS_spec parts 0 [] [] he
  simp only [List.nil_append] at h1 h2
  simp only [List.length_nil] at h3
  rw [h1] at hcl
  rw [h1,h2]
  have hBl := h3.bl
  have hsh : ∀ pc i,C[pc]? = some i -> shapedS C.length B.length pc i = true := by
    intro pc i hi
    obtain ⟨j,q1,t,b,q2,q3,q4,q5,q6,q7,q8,q9⟩ := h3.al pc i hi
    rw [Nat.zero_add] at q9
    rcases rule_good q3 q4 q9 with ⟨g1,g2⟩ | ⟨g1,g2⟩
    · exact good_shaped g2 (by omega) (by omega)
    · rw [g2]
      have : inS ((j : Nat) : Int) B.length = true := inS_iff.2 ⟨by omega,by omega⟩
      unfold shapedS mkI
      simp [this]
  have hclo : closedS C := closed_of (p := pgV C B) hsh
  have hrule : ∀ r,r < parts.length -> ∃ s e : Nat,B[r]? = some (s : Int) /\ s < e /\ e <= C.length /\ (∀ b' : Int,B[r + 1]? = some b' -> b' = (e : Int)) /\ (r + 1 = parts.length -> C.length = e) /\ C[e - 1]? = some (mkI 7 (r : Nat) 0 []) /\ (∀ u : Nat,(reachS C (s : Nat))[u]? = some true -> s <= u /\ u < e) /\ (reachS C (s : Nat))[s]? = some true /\ (reachS C (s : Nat))[e - 1]? = some true /\ ∀ u i,s <= u -> u < e -> C[u]? = some i -> i.op = 7 -> i.x = (r : Int) := by
    intro r hr
    obtain ⟨t,b,q1,q2,q3,q4,q5,q6,pre,post,q7,q8⟩ := h3.el r hr
    rw [Nat.zero_add] at q6 q8
    rw [Nat.zero_add] at q7
    have hrl := ruleC_len (b := b) (r := r) q1
    have hCl : C.length = b + (t.sz + 3) + post.length := by rw [q7,List.length_append,List.length_append,hrl,q8]
    have hat : ∀ u,b <= u -> u < b + t.sz + 3 -> C[u]? = (ruleC t b r)[u - b]? := fun u g1 g2 => by
      rw [q7,List.append_assoc,List.getElem?_append_right (by omega),q8,List.getElem?_append_left (by omega)]
    have hseg : Seg C b (ruleC t b r) := ⟨post,by rw [q7,List.append_assoc, <- q8,List.drop_left]⟩
    have hin : ∀ u : Nat,(reachS C (b : Nat))[u]? = some true -> b <= u /\ u < b + t.sz + 3 := by
      unfold reachS
      refine dfs_in (I := fun u => b <= u /\ u < b + t.sz + 3) (fun u i hu hi v hv => ?_) _ _ _ (fun v hv => ?_) (fun u hu => ?_)
      · rw [hat u hu.1 hu.2] at hi
        rcases rule_good q1 q2 hi with ⟨g1,g2⟩ | ⟨g1,g2⟩
        · have := good_next (u := u) g2 (by omega) (by omega) v hv
          omega
        · rw [g2] at hv
          have : nextS u (mkI 7 (r : Nat) 0 []) = [] := by unfold nextS mkI; simp
          rw [this] at hv; cases hv
      · simp only [List.mem_cons,List.not_mem_nil,or_false] at hv; subst hv
        rw [Int.toNat_natCast]; omega
      · rw [List.getElem?_replicate] at hu
        split at hu <;> cases hu
    have hs := reach_start (s := b) hclo (by omega)
    have hmt : C[b + t.sz + 3 - 1]? = some (mkI 7 (r : Nat) 0 []) := by
      rw [hat _ (by omega) (by omega)]
      unfold ruleC
      have hl1 := codeT_len t (b + 1) q1
      rw [show b + t.sz + 3 - 1 - b = (t.sz + 1) + 1 by omega,List.getElem?_cons_succ,List.getElem?_append_right (by omega),hl1,show t.sz + 1 - t.sz = 1 by omega]
      rfl
    have hpath : Path C b (b + t.sz + 3 - 1) := by
      unfold ruleC at hseg
      have p1 : Path C b (b + 1) := Path.fall hseg.head (by show (4 : Int) ≠ 2 /\ (4 : Int) ≠ 3 /\ (4 : Int) ≠ 7; decide)
      have p2 := code_path (C := C) _ t (Nat.le_refl _) (b + 1) q1 hseg.tail.left
      have h4 := hseg.tail.right
      rw [codeT_len t _ q1] at h4
      have p3 : Path C (b + 1 + t.sz) (b + 1 + t.sz + 1) := Path.fall h4.head (by show (4 : Int) ≠ 2 /\ (4 : Int) ≠ 3 /\ (4 : Int) ≠ 7; decide)
      rw [show b + t.sz + 3 - 1 = b + 1 + t.sz + 1 by omega]
      exact p1.trans (p2.trans p3)
    refine ⟨b,b + t.sz + 3,q3,by omega,by omega,fun b' hb' => q5 b' hb',q6,hmt,hin,hs,path_seen hclo ⟨by omega,by omega⟩ hpath hs,fun u i g1 g2 hi ho => ?_⟩
    rw [hat u g1 g2] at hi
    rcases rule_good q1 q2 hi with ⟨_,g3⟩ | ⟨_,g3⟩
    · rcases g3 with ⟨a,_⟩ | ⟨a,_⟩ | ⟨a,_⟩ | ⟨a,_⟩ | ⟨a,_⟩ <;> omega
    · rw [g3]; rfl
  have hR : RightQ (pgV C B) := by
    refine ⟨hcl,by show B.length <= 8; omega,hsh,fun v hv => ?_,fun r s hs pc i hpc hseen hi ho => ?_⟩
    · obtain ⟨r,hr⟩ := List.getElem?_of_mem (show v ∈ B from hv)
      obtain ⟨s,e,g1,g2,g3,_⟩ := hrule r (by rw [<- hBl]; exact lt_get hr)
      rw [g1] at hr
      cases hr
      show (0 : Int) <= (s : Int) /\ (s : Int) < (C.length : Int)
      omega
    · have hs : B[r]? = some s := hs
      obtain ⟨s',e,g1,g2,g3,g4,g5,g6,g7,g8,g9,g10⟩ := hrule r (by rw [<- hBl]; exact lt_get hs)
      rw [g1] at hs
      cases hs
      obtain ⟨k1,k2⟩ := g7 pc hseen
      exact g10 pc i k1 k2 hi ho
  refine ⟨hR,by rw [hBl],fun r hr => ?_⟩
  obtain ⟨s,e,g1,g2,g3,g4,g5,g6,g7,g8,g9,g10⟩ := hrule r hr
  have hrn : reachN (pgV C B) (r : Nat) = numsS 0 (reachS C (s : Nat)) := by
    unfold reachN
    have hi : inS ((r : Nat) : Int) (pgV C B).starts.length = true := inS_iff.2 ⟨by omega,by show ((r : Nat) : Int) < (B.length : Nat); omega⟩
    rw [dec_yes hR,hi]
    have hgd : (pgV C B).starts.getD ((r : Nat) : Int).toNat 0 = (s : Int) := by
      rw [Int.toNat_natCast,List.getD_eq_getElem?_getD]
      show (B[r]?).getD 0 = _
      rw [g1]; rfl
    rw [hgd]; rfl
  have hends := rise_ends (nums_rise (reachS C (s : Nat)) 0) (a := (s : Int)) (b := ((e - 1 : Nat) : Int)) (nums_mem.2 ⟨s,g8,by rw [Nat.zero_add]⟩) (nums_mem.2 ⟨e - 1,g9,by rw [Nat.zero_add]⟩) (fun v hv => by
    obtain ⟨k,k1,k2⟩ := nums_mem.1 hv
    have := g7 k k1
    omega)
  exact ⟨s,e,g1,g2,g3,fun b' hb' => g4 b' hb',fun hr1 => g5 (by rw [<- hBl]; exact hr1),g6,by rw [hrn]; exact hends.1,by rw [hrn]; exact hends.2⟩
end Go.Proofs.Ytnleclohocdkaaa
