/-
 The program's search: from every place.
-/
import Derived.Test.YtbdnabmmlbiomaaXGQh
import Derived.Test.YtbdnabmmlbiomaaXGCa
import Derived.Test.YtbdnabmmlbiomaaXGPf
import Derived.Test.YtbdnabmmlbiomaaXGPb
set_option maxRecDepth 100000
set_option maxHeartbeats 4000000
set_option linter.unusedSimpArgs false
set_option linter.unusedVariables false
set_option linter.unusedSectionVars false
namespace Go.Proofs.Ytbdnabmmlbiomaa
open Go.V Go
def ai (fr:Go.V.Fr) (k:Nat):Go.V.D:=Go.V.nth .bp fr.loc k
def nT:Int→List (Nat×Nat)→List Int
 |a,[]=>[a]
 |a,g::r=>a::nT (a+(g.2:Nat)) r
theorem pA:∀(l:List (Nat×Nat)) (a:Int),(nT a l).length=l.length+1
 |[],_=>rfl
 |g::r,a=>by simp only[nT,List.length_cons,pA r]
def jK (idx:Nat→Nat→Nat) (pb:jv→Dm) (fuel start:Nat):Nat→Nat→List Bool→Option nZ
 |0,_,_=>none
 |m+1,i,arr=>match(ia idx pb fuel arr [⟨start,i,aZ⟩]).1 with
  |some c=>some c
  |none=>jK idx pb fuel start m (i+1) (ia idx pb fuel arr [⟨start,i,aZ⟩]).2
noncomputable def gF (p:Pg) (lV:Int) (b:List UInt8):Option nZ:=
 if dec (eZ p)=true∧0≤lV∧lV<(p.aO.length:Int) then
  jK (jS p.code.length) (b5 p.code (cQ b) (nT 0 (cQ b))) (3*(((cQ b).length+1)*p.code.length)+1) (p.aO.getD lV.toNat 0).toNat ((cQ b).length+1) 0 (List.replicate (((cQ b).length+1)*p.code.length) false)
 else none
theorem nE (idx:Nat→Nat→Nat) (pb:jv→Dm):∀(f:Nat) (arr:List Bool) (dE:List jv),(ia idx pb f arr dE).2.length=arr.length
 |0,arr,_=>by simp[ia]
 |f+1,arr,[]=>by simp[ia]
 |f+1,arr,t::dE=>by
  unfold ia
  split
  ·split
   ·simp
   ·rw[nE idx pb f,List.length_set]
  ·exact nE idx pb f arr dE
theorem y0 {s0:St} {p:Pg} {b:List UInt8} (hp:p.ok) (lV:Int) (hbl:b.length≤1048576) (hsz:((cQ b).length+1)*p.code.length≤134217728):
  Ev pv 17 [p.d,.int .i64 lV,.str b] s0 (Jd (gF p lV b)) s0:=by
 obtain⟨ni,My⟩:=nQ _ b (Nat.le_refl _);have aM:∀(st:St) (x:D),Bytes st x b→Ev pv 11 [x] st (bX (cQ b)) st:=fun st x h=>uG h hbl;unfold gF;generalize cQ b=gs at*;refine Ev.nV rfl NU rfl rfl rfl ?_;dsimp only[u3,u4,List.length,Nat.reduceSub,Nat.reduceAdd,w1,w2];obtain⟨cn,hF,hH⟩:=ri s0;generalize aq .ro s0=S at*;have hc:=hp.c.arg s0.bs.length S;have hs:=hp.s.arg s0.bs.length S;have hlen:=hp.cl;have jz:=hp.sl;unfold Pg.d;refine qq<|qj fun K hK=>qb hH fun k3 st KN hH=>?_;refine qa hH fun k6 st DF hH=>?_;refine qm ?_;refine qe hK<|qq<|qq<|ag.jY 28 (.bool ((!dec (eZ p)||decide (lV<0))||decide (lV≥p.aO.length))) [15,16,17,18,19,20,21,22,23,24,25,26,27] ?_ (fun ff tmp=>?_)
 ·refine ab.b9 (m:=2) hH rfl (ev rfl) (by exact bN) (by dsimp only[List.drop_succ_cons,List.drop_zero,List.take_succ_cons,List.take_zero,aU,av,aT,bo,aH,aZ,aD]<;>rfl) rfl rfl (by dsimp only[Fr.put,u1,u2]<;>rfl) ?_;refine qv (og (p:=p) hp) ?_;refine qg ?_;refine qm ?_;refine ab.two 18 rfl (fun bI=>?_) (fun bI=>?_)
  ·refine qs ?_ (hg:=wn bI);refine qs ?_ (hg:=wn bI);refine qt bI ?_;refine qm ?_;refine qs ?_;refine qs ?_;refine qs ?_;refine qs ?_;refine qs ?_;refine qg ?_;refine ab.nil (aW ?_);dsimp only[aJ,List.foldl,nth,u2,u1];dsimp only[Fr.aC,Fr.put,Fr.clean,Fr.ev,Fr.get,nth,look,u1,u2,v1,v2,v4]
   all_goals(simp[bI];done)
  ·refine qm ?_ (hg:=wi bI);refine qg ?_ (hg:=wi bI);refine qu bI ?_;refine qm ?_;refine ab.two 22 rfl (fun jU=>?_) (fun jU=>?_)
   ·refine qs ?_ (hg:=wn jU);refine qs ?_ (hg:=wn jU);refine qs ?_ (hg:=wn jU);refine qs ?_ (hg:=wn jU);refine qs ?_ (hg:=wn jU);refine qt jU ?_;refine ab.nil (aW ?_);dsimp only[aJ,List.foldl,nth,u2,u1];dsimp only[Fr.aC,Fr.put,Fr.clean,Fr.ev,Fr.get,nth,look,u1,u2,v1,v2,v4]
    all_goals(simp[bI,jU];done)
   ·refine qm ?_ (hg:=wi jU);refine qp (o:=1) ?_ (hg:=wi jU);refine ql hH bN ?_ (hg:=wi jU);refine qn ?_ (hg:=wi jU);simp only[List.length_map];refine qg ?_ (hg:=wi jU);refine qu jU ?_;refine ab.nil (aW ?_);dsimp only[aJ,List.foldl,nth,u2,u1];dsimp only[Fr.aC,Fr.put,Fr.clean,Fr.ev,Fr.get,nth,look,u1,u2,v1,v2,v4]
    all_goals(simp[bI,jU];done)
 dsimp only[aJ,List.foldl,nth,u2,u1];generalize ff 15=Sp;generalize ff 16=Sn;generalize ff 17=TG;generalize ff 18=Sm;generalize ff 19=Sl;generalize ff 20=Sk;generalize ff 21=Sj;generalize ff 22=Si;generalize ff 23=Sh;generalize ff 24=Sg;generalize ff 25=Sf;generalize ff 26=Se;generalize ff 27=Sd;refine qc (fun h0=>?_) (fun h0=>?_)<;>try simp only[cs] at h0
 ·have hn:¬(dec (eZ p)=true∧0≤lV∧lV<(p.aO.length:Int)):=by
   rintro⟨h1,h2,h3⟩;rw[h1] at h0;simp at h0;omega
  rw[if_neg hn];refine qq<|qj fun K hK=>?_;refine ab.go (d:=.agg (aH aD)) (st1:=_) rfl rfl rfl (by dsimp only[Fr.put,u1,u2]<;>rfl) ?_;refine qS hH aB fun st hH=>?_;dsimp only[u2,u1,u3,u4,setMany,u5,u6,D.cells,Nat.reduceAdd,aU,av,aT,bo,aH,aZ,aD] at hH;refine qm ?_;refine qe hK<|ag.ret ⟨rx,_,hH.cE rfl aB rfl rfl,rl cn hH rfl⟩
 ·have h1:eZ p∧0≤lV∧lV<(p.aO.length:Int):=by
   simp only[Bool.or_eq_false_iff,Bool.not_eq_false',decide_eq_false_iff_not] at h0;exact⟨y_ h0.1.1,by omega,by omega⟩
  obtain⟨hR,J1,Mv⟩:=h1;rw[if_pos ⟨vG hR,J1,Mv⟩];obtain⟨ru,rfl⟩:=Int.eq_ofNat_of_zero_le J1
  obtain⟨start,nW⟩:∃v,p.aO[ru]?=some v:=⟨p.aO[ru]'(by omega),List.getElem?_eq_getElem _⟩
  have fK:=hR.st start (List.mem_of_getElem? nW);obtain⟨sn,rfl⟩:=Int.eq_ofNat_of_zero_le fK.1
  have J3:(p.aO.getD ((ru:Nat):Int).toNat 0).toNat=sn:=by
   rw[Int.toNat_natCast,List.getD_eq_getElem?_getD,nW];rfl
  rw[J3];have KI:=ey nW;have yI:Arg s0.bs.length S 2 (bX gs) (gs.map aY):=Arg.pure (fun st=>cC st gs);refine ag.skip<|qq<|qj fun K hK=>?_;refine ab.b9 (m:=2) hH rfl (ev rfl) (by exact bN) (by dsimp only[List.drop_succ_cons,List.drop_zero,List.take_succ_cons,List.take_zero,aU,av,aT,bo,aH,aZ,aD]<;>rfl) rfl rfl (by dsimp only[Fr.put,u1,u2]<;>rfl) ?_;refine qm ?_;refine ab.ue hH rfl rfl rfl rfl rfl (by omega) (fun _=>by dsimp only[Fr.put,u1,u2]<;>rfl) (fun k32 st Mo hH=>?_);refine qv ((aM _ _ (hH.rows aB))) ?_;refine ab.go (d:=.agg [p.cd,p.sd,bX gs,.nul,.nul,.nul]) (st1:=_) rfl rfl rfl (by dsimp only[Fr.put,u1,u2]<;>rfl) ?_;refine qb hH fun k35 st Rq hH=>?_;refine qm ?_;refine qe hK<|qq<|qj fun K hK=>qm ?_;refine qe hK<|qq<|qq<|qj fun K hK=>qm ?_;refine qg ?_;refine qp (o:=2) ?_;refine ql hH aB ?_;refine qn ?_;simp only[List.length_map];refine qm ?_;refine qe hK<|ag.block<|ag.loop (fun mm fr st=>∃(i:Nat) (a:Int) (done:List Int) (pd:D),fr.clean=⟨89,[ai fr 0,.int .i64 (ru:Nat),ai fr 2,.ptr k3 0 0,ai fr 4,ai fr 5,.ptr k6 0 0,.bool false,.ptr k35 0 0,.int .i64 a,ai fr 10,ai fr 11,ai fr 12,ai fr 13,ai fr 14,ai fr 15,ai fr 16,ai fr 17,ai fr 18,ai fr 19,ai fr 20,ai fr 21,ai fr 22,ai fr 23,ai fr 24,ai fr 25,ai fr 26,ai fr 27,ai fr 28,ai fr 29,ai fr 30,ai fr 31,ai fr 32,ai fr 33,ai fr 34,ai fr 35,ai fr 36,ai fr 37,ai fr 38,bX gs,.int .i64 (gs.length:Nat),.int .i64 (i:Nat),ai fr 42,ai fr 43,ai fr 44,ai fr 45,ai fr 46,ai fr 47,ai fr 48,ai fr 49,ai fr 50,ai fr 51,ai fr 52,ai fr 53,ai fr 54,ai fr 55,ai fr 56,ai fr 57,ai fr 58,ai fr 59,ai fr 60,ai fr 61,ai fr 62,ai fr 63,ai fr 64,ai fr 65,ai fr 66,ai fr 67,ai fr 68,ai fr 69,ai fr 70,ai fr 71,ai fr 72,ai fr 73,ai fr 74,ai fr 75,ai fr 76,ai fr 77,ai fr 78,ai fr 79,ai fr 80,ai fr 81,ai fr 82,ai fr 83,ai fr 84,ai fr 85,ai fr 86,ai fr 87,ai fr 88],[]⟩∧Has s0.bs.length S st [.box k35 (.mem 0 false [p.cd,p.sd,bX gs,pd,.nul,.nul]),.aN pd 1 (done.map av),.box k6 (.mem 0 false (aH aD)),.box k3 (.mem 0 false [p.cd,p.sd])]∧(i+mm=gs.length)∧(done++nT a (gs.drop i)=nT 0 gs)∧(0≤a)∧(a≤1048576*i)∧(done.length=i)) (gs.length) ?_ ?_
  ·refine⟨0,0,[],.nul,rfl,?_,by omega,rfl,Int.le_refl _,(by omega),rfl⟩;exact(((hH.drop 0).erase 1).fc 1).front (j:=1) rfl
  rintro mm fr st ⟨i,a,done,pd,hfr,hH,hi,KR,RV,Tp,KS⟩;rw[hfr];clear hfr;generalize ai fr=ee;clear fr;refine qq<|qj fun K hK=>qg ?_;refine qe hK<|qq ?_;refine ag.cond (by rfl) (fun h3=>?_) (fun h3=>?_)<;>try simp only[decide_eq_true_eq,decide_eq_false_iff_not] at h3
  ·refine ag.skip ?_
   obtain⟨g,hg⟩:∃g,gs[i]?=some g:=⟨gs[i]'(by omega),List.getElem?_eq_getElem _⟩
   have bH:=My g (List.mem_of_getElem? hg);have gM:(gs.map aY)[i]?=some (aY g):=by rw[List.getElem?_map,hg];rfl
   have yN:gs.drop i=g::gs.drop (i+1):=by
    have:=List.drop_eq_getElem_cons (l:=gs) (i:=i) (by omega);rw[this];congr 1;rw[List.getElem?_eq_getElem (by omega)] at hg;exact Option.some.inj hg
   refine qq<|ag.block<|qq<|qj fun K hK=>qr fun SY QO=>?_;refine ab.eo rfl (ev rfl) (by assumption) rfl (by dsimp only[Fr.put,u1,u2]<;>rfl) ?_;refine qa hH fun k11 st JZ hH=>?_;dsimp only[u2,u1,u3,u4,setMany,u5,u6,D.cells,Nat.reduceAdd,aU,av,aT,bo,aH,aZ,aD] at hH;refine qS hH aB fun st hH=>?_;dsimp only[u2,u1,u3,u4,setMany,u5,u6,D.cells,Nat.reduceAdd,aU,av,aT,bo,aH,aZ,aD] at hH;refine qe hK<|qq<|qj fun K hK=>qm ?_;refine qm ?_;refine qg ?_;refine qp (o:=3) ?_;refine ql hH bN ?_;refine qm ?_;refine qh (s:=1) (vs:=[_]) hH fun k51 st Ri hH=>?_;refine qP hH gA (hH.rows aB) fun Pp st hH=>?_;dsimp only[u2,u1,u3,u4,setMany,u5,u6,D.cells,Nat.reduceAdd,aU,av,aT,bo,aH,aZ,aD] at hH;refine qg ?_;refine qp (o:=3) ?_;refine qT hH ei (fun st hH=>?_) (ij:=hH.g_ gA);dsimp only[u2,u1,u3,u4,setMany,u5,u6,D.cells,Nat.reduceAdd,aU,av,aT,bo,aH,aZ,aD] at hH;refine qe hK<|qj fun K hK=>qm ?_;refine qp (o:=1) ?_;refine ql hH bN ?_;refine qA ?_;refine qm ?_;refine qe hK<|qj fun K hK=>qA ?_;refine qm ?_;refine qe hK ?_;exact⟨mm-1,by omega,⟨i+1,a+(g.2:Nat),done++[a],Pp,rfl,(by rw[List.map_append];exact hH.drop 2),by omega,by rw[←KR,yN];simp[nT],by omega,by omega,by simp[KS]⟩⟩
  ·refine ag.exit ?_;have yN:gs.drop i=[]:=List.drop_eq_nil_of_le (by omega);rw[yN] at KR;simp only[nT] at KR;have gT:=pA gs 0;refine qq<|qj fun K hK=>qm ?_;refine qm ?_;refine qg ?_;refine qp (o:=3) ?_;refine ql hH aB ?_;refine qm ?_;refine qh (s:=1) (vs:=[_]) hH fun k66 st JU hH=>?_;dsimp only[u2,u1,u3,u4,setMany,u5,u6,D.cells,Nat.reduceAdd,aU,av,aT,bo,aH,aZ,aD] at hH;refine qP hH ei (hH.rows aB) fun Kz st hH=>?_;dsimp only[u2,u1,u3,u4,setMany,u5,u6,D.cells,Nat.reduceAdd,aU,av,aT,bo,aH,aZ,aD] at hH;refine qg ?_;refine qp (o:=3) ?_;refine qT hH bN (fun st hH=>?_) (ij:=hH.g_ ei);dsimp only[u2,u1,u3,u4,setMany,u5,u6,D.cells,Nat.reduceAdd,aU,av,aT,bo,aH,aZ,aD] at hH;refine qe hK ?_
   have hH:Has s0.bs.length S st [.box k35 (.mem 0 false [p.cd,p.sd,bX gs,Kz,.nul,.nul]),.aN Kz 1 ((nT 0 gs).map av),.box k6 (.mem 0 false (aH aD)),.box k3 (.mem 0 false [p.cd,p.sd])]:=by
    rw[←KR,List.map_append];exact hH.drop 1
   rw[←gT] at hsz⊢;generalize nT 0 gs=ba at*;refine qq<|qj fun K hK=>qm ?_;refine qm ?_;refine qg ?_;refine qp (o:=3) ?_;refine ql hH aB ?_;refine qn ?_ (hR:=hH.rows bN);simp only[List.length_map];refine qp (o:=0) ?_;refine ql hH gA ?_;refine qn ?_;simp only[List.length_map];refine ab.pG (z:=((ba.length*p.code.length:Nat):Int)) rfl (ev rfl) (ev rfl) (by rw[←Int.natCast_mul];exact du (by simp only[jy];omega)) (by dsimp only[Fr.put,u1,u2]<;>rfl) ?_;refine ab.sq (s:=1) hH rfl rfl rfl rfl rfl rfl rfl rfl (Nat.le_of_ble_eq_true rfl) (by omega) (fun _=>by dsimp only[Fr.put,u1,u2]<;>rfl) (fun k80 st Mi hH=>?_);dsimp only[u2,u1,u3,u4,setMany,u5,u6,D.cells,Nat.reduceAdd,aU,av,aT,bo,aH,aZ,aD] at hH;refine qg ?_;refine qp (o:=4) ?_;refine qT hH bN fun st hH=>?_;dsimp only[u2,u1,u3,u4,setMany,u5,u6,D.cells,Nat.reduceAdd,aU,av,aT,bo,aH,aZ,aD] at hH;refine qe hK<|qq<|qq<|qj fun K hK=>qm ?_;refine qg ?_;refine qp (o:=3) ?_;refine ql hH bN ?_;refine qn ?_ (hR:=hH.rows ei);simp only[List.length_map];refine qm ?_;refine qe hK ?_
   obtain⟨R,HN⟩:∃R,jK (jS p.code.length) (b5 p.code gs ba) (3*(ba.length*p.code.length)+1) sn ba.length 0 (List.replicate (ba.length*p.code.length) false)=R:=⟨_,rfl⟩
   rw[HN];refine ag.block<|ag.loop (fun mm fr st=>∃(i:Nat) (ar:List Bool) (ld:D) (nU:List (List D)),fr.clean=⟨89,[ai fr 0,.int .i64 (ru:Nat),ai fr 2,.ptr k3 0 0,ai fr 4,ai fr 5,.ptr k6 0 0,.bool false,.ptr k35 0 0,ai fr 9,ai fr 10,ai fr 11,ai fr 12,ai fr 13,ai fr 14,ai fr 15,ai fr 16,ai fr 17,ai fr 18,ai fr 19,ai fr 20,ai fr 21,ai fr 22,ai fr 23,ai fr 24,ai fr 25,ai fr 26,ai fr 27,ai fr 28,ai fr 29,ai fr 30,ai fr 31,ai fr 32,ai fr 33,ai fr 34,ai fr 35,ai fr 36,ai fr 37,ai fr 38,ai fr 39,ai fr 40,ai fr 41,ai fr 42,ai fr 43,ai fr 44,ai fr 45,ai fr 46,ai fr 47,ai fr 48,ai fr 49,ai fr 50,ai fr 51,ai fr 52,ai fr 53,ai fr 54,ai fr 55,ai fr 56,ai fr 57,ai fr 58,ai fr 59,ai fr 60,ai fr 61,ai fr 62,ai fr 63,ai fr 64,ai fr 65,ai fr 66,ai fr 67,ai fr 68,ai fr 69,ai fr 70,ai fr 71,ai fr 72,ai fr 73,ai fr 74,ai fr 75,ai fr 76,ai fr 77,ai fr 78,ai fr 79,ai fr 80,ai fr 81,ai fr 82,ai fr 83,ai fr 84,ai fr 85,ai fr 86,.int .i64 (ba.length:Nat),.int .i64 (i:Nat)],[]⟩∧Has s0.bs.length S st [.box k35 (.mem 0 false [p.cd,p.sd,bX gs,Kz,.win k80 0 0 (ba.length*p.code.length) 1,ld]),.aN ld 12 nU,.aN Kz 1 (ba.map av),.aN (.win k80 0 0 (ba.length*p.code.length) 1) 1 (ar.map aT),.box k6 (.mem 0 false (aH aD)),.box k3 (.mem 0 false [p.cd,p.sd])]∧(i+mm=ba.length)∧(ar.length=ba.length*p.code.length)∧(jK (jS p.code.length) (b5 p.code gs ba) (3*(ba.length*p.code.length)+1) sn mm i ar=R)) (ba.length) ?_ ?_
   ·refine⟨0,List.replicate (ba.length*p.code.length) false,.nul,[],rfl,?_,by omega,by rw[List.length_replicate],HN⟩;rw[List.map_replicate];exact((hH.front (j:=2) rfl).fc 12).front (j:=3) rfl
   rintro mm fr st ⟨i,ar,ld,nU,hfr,hH,hi,MP,J7⟩;rw[hfr];clear hfr;generalize ai fr=ee;clear fr;refine qq<|qj fun K hK=>qg ?_;refine qe hK<|qq ?_;refine ag.cond (by rfl) (fun h4=>?_) (fun h4=>?_)<;>try simp only[decide_eq_true_eq,decide_eq_false_iff_not] at h4
   ·refine ag.skip ?_
    obtain⟨mm,rfl⟩:∃m',mm=m'+1:=⟨mm-1,by omega⟩
    refine qq<|ag.block<|qq<|qj fun K hK=>qm ?_;refine qm ?_;refine qe hK ?_;obtain⟨d,st1,aM,Ll,G1,hd,IA⟩:=yX (start:=sn) (i:=i) hF hp hR (by omega) gT (by rw[←gT];exact hsz) (by rw[←gT];exact MP) (by omega) (by omega) hH;rw[MP] at hd IA
    cases hD:(ia (jS p.code.length) (b5 p.code gs ba) (3*(ba.length*p.code.length)+1) ar [⟨sn,i,aZ⟩]).1 with
    |some c=>
     simp only[jK,hD] at J7;rw[hD] at hd;have hd:d=.tup [.agg (aH c),.bool true]:=hd;subst hd;refine qq<|qj fun K hK=>qm ?_;refine qp (o:=1) ?_;refine ql hH sY ?_;refine qm ?_;refine qr fun PA LS=>?_;refine qR ?_;refine qm ?_;refine qv (aM) ?_;refine qm ?_;refine qg ?_;refine qg ?_;refine ab.ny IA rfl rfl (fun _=>by dsimp only[Fr.put,u1,u2]<;>rfl) (fun k13 st Hy hH=>?_);dsimp only[aH,aD] at hH;refine qT hH aB fun st hH=>?_;dsimp only[u2,u1,u3,u4,setMany,u5,u6,D.cells,Nat.reduceAdd,aU,av,aT,bo,aH,aZ,aD] at hH;refine qm ?_;refine qe hK<|qq<|qj fun K hK=>qm ?_;refine qe hK<|qB ?_;refine qq<|qj fun K hK=>?_;refine ab.b9 (m:=10) hH rfl (ev rfl) (by exact aB) (by dsimp only[List.drop_succ_cons,List.drop_zero,List.take_succ_cons,List.take_zero,aU,av,aT,bo,aH,aZ,aD]<;>rfl) rfl rfl (ae rfl _) ?_;refine qS hH sY fun st hH=>?_;dsimp only[u2,u1,u3,u4,setMany,u5,u6,D.cells,Nat.reduceAdd,aU,av,aT,bo,aH,aZ,aD] at hH;refine qm ?_;refine qe hK ?_;rw[←J7];refine ag.ret ⟨rx,_,hH.cE rfl sY rfl rfl,rl cn hH rfl⟩
    |none=>
     have vp:=nE (jS p.code.length) (b5 p.code gs ba) (3*(ba.length*p.code.length)+1) ar [⟨sn,i,aZ⟩];simp only[jK,hD] at J7;rw[hD] at hd;have hd:d=.tup [.agg (aH aD),.bool false]:=hd;subst hd;refine qq<|qj fun K hK=>qm ?_;refine qp (o:=1) ?_;refine ql hH sY ?_;refine qm ?_;refine qr fun PA LS=>?_;refine qR ?_;refine qm ?_;refine qv (aM) ?_;refine qm ?_;refine qg ?_;refine qg ?_;refine ab.ny IA rfl rfl (fun _=>by dsimp only[Fr.put,u1,u2]<;>rfl) (fun k13 st Hy hH=>?_);dsimp only[aH,aD] at hH;refine qT hH aB fun st hH=>?_;dsimp only[u2,u1,u3,u4,setMany,u5,u6,D.cells,Nat.reduceAdd,aU,av,aT,bo,aH,aZ,aD] at hH;refine qm ?_;refine qe hK<|qq<|qj fun K hK=>qm ?_;refine qe hK<|qC ?_;refine ag.skip<|qj fun K hK=>qA ?_;refine qm ?_;refine qe hK ?_;exact⟨mm,by omega,⟨i+1,_,Ll,G1,rfl,(hH.drop 1),by omega,by rw[vp];exact MP,J7⟩⟩
   ·refine ag.exit<|qq<|qj fun K hK=>ab.go (d:=.agg (aH aD)) (st1:=_) rfl rfl rfl (ae rfl _) ?_;refine qS hH iv fun st hH=>?_;dsimp only[u2,u1,u3,u4,setMany,u5,u6,D.cells,Nat.reduceAdd,aU,av,aT,bo,aH,aZ,aD] at hH;refine qm ?_;refine qe hK ?_
    have eE:R=none:=by
     have:mm=0:=by omega
     subst this;rw[←J7];rfl
    rw[eE];refine ag.ret ⟨rx,_,hH.cE rfl iv rfl rfl,rl cn hH rfl⟩
structure ja (X:Nat→Prop) (c:List aP) (b:Nat) (A:Nat→Prop) (g:Nat→Nat→Prop):Prop where
 hd:g b=A
 tl:g (b+c.length)=A
 xs:∀n,X n→b≤n→n≤b+c.length→g n=A
 st:∀j i,c[j]?=some i→(∀v∈b6 (b+j) i,∃n:Nat,v=(n:Int)∧((b≤n∧n≤b+c.length∧∀s,g n s→g (b+j) s∨(i.op=4∧i.x=(s:Int)))∨(X n∧∀s,A s→g (b+j) s∨(i.op=4∧i.x=(s:Int)))))∧
  i.op≠7∧(i.op=4→∃k:Nat,1≤k∧(i.x=((2*k:Nat):Int)∨(i.x=((2*k+1:Nat):Int)∧g (b+j) (2*k))))
theorem ja.nil (X:Nat→Prop) (b:Nat) (A:Nat→Prop):ja X [] b A fun _=>A:=⟨rfl,rfl,fun _ _ _ _=>rfl,fun j i h=>by simp at h⟩
theorem ja.one {X:Nat→Prop} {b:Nat} {A:Nat→Prop} {i:aP} (h4:i.op≠4) (h7:i.op≠7) (h:∀v∈b6 b i,∃n:Nat,v=(n:Int)∧(n=b+1∨X n)):ja X [i] b A fun _=>A:=by
 refine⟨rfl,rfl,fun _ _ _ _=>rfl,fun j i' hj=>?_⟩
 cases j with
 |succ j=>simp at hj
 |zero=>
  simp only[List.getElem?_cons_zero,Option.some.injEq] at hj;subst hj;refine⟨fun v hv=>?_,h7,fun h=>absurd h h4⟩;obtain⟨n,h1,h2⟩:=h v hv;refine⟨n,h1,?_⟩
  rcases h2 with rfl|h2
  ·exact .inl ⟨by omega,by simp,fun s hs=>.inl hs⟩
  ·exact .inr ⟨h2,fun s hs=>.inl hs⟩
theorem ja.my {X Y:Nat→Prop} {c:List aP} {b:Nat} {A:Nat→Prop} {g:Nat→Nat→Prop} (h:ja X c b A g) (h1:∀n,X n→Y n) (h2:∀n,Y n→X n∨n≤b∨b+c.length≤n):ja Y c b A g:=by
 refine⟨h.hd,h.tl,fun n hn h3 h4=>?_,fun j i hj=>⟨fun v hv=>?_,(h.st j i hj).2⟩⟩
 ·rcases h2 n hn with h5|h5|h5
  ·exact h.xs n h5 h3 h4
  ·rw[show n=b by omega];exact h.hd
  ·rw[show n=b+c.length by omega];exact h.tl
 ·obtain⟨n,e,h5⟩:=(h.st j i hj).1 v hv;refine⟨n,e,?_⟩
  rcases h5 with h5|⟨h5,h6⟩
  ·exact .inl h5
  ·exact .inr ⟨h1 n h5,h6⟩
theorem ja.close {X Y:Nat→Prop} {c:List aP} {b:Nat} {A:Nat→Prop} {g:Nat→Nat→Prop} (h:ja X c b A g) (h1:∀n,Y n→X n) (h2:∀n,X n→Y n∨(b≤n∧n≤b+c.length)):ja Y c b A g:=by
 refine⟨h.hd,h.tl,fun n hn=>h.xs n (h1 n hn),fun j i hj=>⟨fun v hv=>?_,(h.st j i hj).2⟩⟩;obtain⟨n,e,h5⟩:=(h.st j i hj).1 v hv;refine⟨n,e,?_⟩
 rcases h5 with h5|⟨h5,h6⟩
 ·exact .inl h5
 ·rcases h2 n h5 with h7|⟨h7,h8⟩
  ·exact .inr ⟨h7,h6⟩
  ·exact .inl ⟨h7,h8,fun s hs=>h6 s (by rw[h.xs n h5 h7 h8] at hs;exact hs)⟩
theorem ja.append {X:Nat→Prop} {c d:List aP} {b e:Nat} {A:Nat→Prop} {g f:Nat→Nat→Prop} (h:ja X c b A g) (he:e=b+c.length) (k:ja X d e A f):ja X (c++d) b A fun n=>if n<e then g n else f n:=by
 subst he;have hm:∀n,b+c.length=n→g n=f n:=fun n hn=>by subst hn;rw[h.tl,k.hd]
 refine⟨?_,?_,fun n hn h1 h2=>?_,fun j i hj=>?_⟩
 ·show(if b<b+c.length then g b else f b)=A
  split
  ·exact h.hd
  ·rw[show b=b+c.length by omega];exact k.hd
 ·show(if b+(c++d).length<b+c.length then g _ else f _)=A;rw[if_neg (by rw[List.length_append];omega),List.length_append,←Nat.add_assoc];exact k.tl
 ·show(if n<b+c.length then g n else f n)=A;rw[List.length_append] at h2
  split
  ·exact h.xs n hn h1 (by omega)
  ·exact k.xs n hn (by omega) (by omega)
 ·by_cases jT:j<c.length
  ·rw[List.getElem?_append_left jT] at hj;obtain⟨h1,h2⟩:=h.st j i hj;have hg:(if b+j<b+c.length then g (b+j) else f (b+j))=g (b+j):=if_pos (by omega);simp only[hg];refine⟨fun v hv=>?_,h2⟩;obtain⟨n,e1,h3⟩:=h1 v hv;refine⟨n,e1,?_⟩
   rcases h3 with⟨h3,h4,h5⟩|h3
   ·refine .inl ⟨h3,by rw[List.length_append];omega,fun s hs=>h5 s ?_⟩
    split at hs
    ·exact hs
    ·rw[hm n (by omega)];exact hs
   ·exact .inr h3
  ·rw[List.getElem?_append_right (by omega)] at hj;obtain⟨h1,h2⟩:=k.st (j-c.length) i hj;have Ix:b+c.length+(j-c.length)=b+j:=by omega
   rw[Ix] at h1 h2;have hg:(if b+j<b+c.length then g (b+j) else f (b+j))=f (b+j):=if_neg (by omega);simp only[hg];refine⟨fun v hv=>?_,h2⟩;obtain⟨n,e1,h3⟩:=h1 v hv;refine⟨n,e1,?_⟩
   rcases h3 with⟨h3,h4,h5⟩|h3
   ·refine .inl ⟨by omega,by rw[List.length_append];omega,fun s hs=>h5 s ?_⟩;rw[if_neg (by omega)] at hs;exact hs
   ·exact .inr h3
theorem ja.group {c:List aP} {b:Nat} {A:Nat→Prop} {g:Nat→Nat→Prop} {k:Nat} {q w:aP} (hk:1≤k) (hq:q.op=4∧q.x=((2*k:Nat):Int)) (hw:w.op=4∧w.x=((2*k+1:Nat):Int)) (h:ja (fun _=>False) c (b+1) (fun s=>A s∨s=2*k) g):
  ja (fun _=>False) (q::(c++[w])) b A fun n=>if n≤b∨b+1+c.length<n then A else g n:=by
 have yB:∀(i:aP) (m:Nat),i.op=4→b6 m i=[((m+1:Nat):Int)]:=fun i m hi=>by unfold b6;rw[if_neg (by omega),if_neg (by omega),if_neg (by omega)]
 refine⟨if_pos (.inl (by omega)),if_pos (.inr (by simp;omega)),fun n hn=>hn.elim,fun j i hj=>?_⟩
 cases j with
 |zero=>
  simp only[List.getElem?_cons_zero,Option.some.injEq] at hj;subst hj;refine⟨fun v hv=>?_,by rw[hq.1];decide,fun _=>⟨k,hk,.inl hq.2⟩⟩;rw[yB q _ hq.1] at hv;simp only[List.mem_cons,List.not_mem_nil,or_false] at hv;subst hv;refine⟨b+0+1,rfl,.inl ⟨by omega,by simp,fun s hs=>?_⟩⟩;rw[if_neg (by omega)] at hs;rw[show b+0+1=b+1 by omega,h.hd] at hs
  rcases hs with hs|rfl
  ·exact .inl (by rw[if_pos (.inl (by omega))];exact hs)
  ·exact .inr ⟨hq.1,hq.2⟩
 |succ j=>
  rw[List.getElem?_cons_succ] at hj
  by_cases jT:j<c.length
  ·rw[List.getElem?_append_left jT] at hj;obtain⟨h1,h2⟩:=h.st j i hj;have Ix:b+1+j=b+(j+1):=by omega
   rw[Ix] at h1 h2;have hg:(if b+(j+1)≤b∨b+1+c.length<b+(j+1) then A else g (b+(j+1)))=g (b+(j+1)):=if_neg (by omega);simp only[hg];refine⟨fun v hv=>?_,h2⟩;obtain⟨n,e1,h3⟩:=h1 v hv;refine⟨n,e1,?_⟩
   rcases h3 with⟨h3,h4,h5⟩|⟨h3,_⟩
   ·refine .inl ⟨by omega,by simp;omega,fun s hs=>h5 s ?_⟩;rw[if_neg (by omega)] at hs;exact hs
   ·exact h3.elim
  ·rw[List.getElem?_append_right (by omega)] at hj
   have Rz:j=c.length:=by
    rcases Nat.eq_or_lt_of_le (show c.length≤j by omega) with h'|h'
    ·exact h'.symm
    ·rw[List.getElem?_eq_none (by simp;omega)] at hj;cases hj
   subst Rz;simp only[Nat.sub_self,List.getElem?_cons_zero,Option.some.injEq] at hj;subst hj;have hg:(if b+(c.length+1)≤b∨b+1+c.length<b+(c.length+1) then A else g (b+(c.length+1)))=g (b+(c.length+1)):=if_neg (by omega);have ht:g (b+(c.length+1))=fun s=>A s∨s=2*k:=by rw[←h.tl];congr 1;omega
   refine⟨fun v hv=>?_,by rw[hw.1];decide,fun _=>⟨k,hk,.inr ⟨hw.2,by rw[hg,ht];exact .inr rfl⟩⟩⟩;rw[yB w _ hw.1] at hv;simp only[List.mem_cons,List.not_mem_nil,or_false] at hv;subst hv;refine⟨b+(c.length+1)+1,rfl,.inl ⟨by omega,by simp;omega,fun s hs=>?_⟩⟩;rw[if_pos (.inr (by omega))] at hs;rw[hg,ht];exact .inl (.inl hs)
theorem ja.jp {b e:Nat} {X:Nat→Prop} (A:Nat→Prop) (he:X e):ja X [ig e] b A fun _=>A:=by
 refine ja.one (by simp[ig,b7]) (by simp[ig,b7]) fun v hv=>?_;simp only[b6,ig,b7,if_true,List.mem_cons,List.not_mem_nil,or_false] at hv;rw[if_neg (by decide)] at hv;simp only[List.mem_cons,List.not_mem_nil,or_false] at hv;exact⟨e,hv,.inr he⟩
theorem ja.sp {b o:Nat} {lz:Bool} {X:Nat→Prop} (A:Nat→Prop) (he:X o):ja X [j8 b o lz] b A fun _=>A:=by
 have h2:(j8 b o lz).op=2:=by unfold j8;split<;>rfl
 refine ja.one (by omega) (by omega) fun v hv=>?_;unfold b6 at hv;rw[if_pos h2] at hv;unfold j8 at hv
 split at hv
 ·simp only[b7,List.mem_cons,List.not_mem_nil,or_false] at hv
  rcases hv with rfl|rfl
  ·exact⟨o,rfl,.inr he⟩
  ·exact⟨b+1,rfl,.inl rfl⟩
 ·simp only[b7,List.mem_cons,List.not_mem_nil,or_false] at hv
  rcases hv with rfl|rfl
  ·exact⟨b+1,rfl,.inl rfl⟩
  ·exact⟨o,rfl,.inr he⟩
def dI (X:Nat→Prop) (c:List aP) (b:Nat) (A:Nat→Prop):Prop:=∃g,ja X c b A g
theorem dI.append {X:Nat→Prop} {c d:List aP} {b e:Nat} {A:Nat→Prop} (h:dI X c b A) (he:e=b+c.length) (k:dI X d e A):dI X (c++d) b A:=by
 obtain⟨g,h⟩:=h;obtain⟨f,k⟩:=k;exact⟨_,h.append he k⟩
theorem rB {A:Nat→Prop} {c:Nat→List aP} {z:Nat} (hl:∀b,(c b).length=z) (hc:∀b,dI (fun _=>False) (c b) b A):∀k b,dI (fun _=>False) (er c z k b) b A
 |0,b=>⟨_,.nil _ b A⟩
 |k+1,b=>(hc b).append (by rw[hl]) (rB hl hc k (b+z))
theorem rL {A:Nat→Prop} {c:Nat→List aP} {z e:Nat} {lz:Bool} (hl:∀b,(c b).length=z) (hc:∀b,dI (fun _=>False) (c b) b A):∀k b,b+k*(z+1)≤e→dI (fun n=>n=e) (dZ (fun s=>j8 s e lz) c z k b) b A
 |0,b,_=>⟨_,.nil _ b A⟩
 |k+1,b,he=>by
  rw[Nat.add_mul] at he;obtain⟨g,hg⟩:=hc (b+1)
  have h1:dI (fun n=>n=e) (c (b+1)) (b+1) A:=⟨g,hg.my (fun n h=>h.elim) fun n h=>.inr (.inr (by rw[hl];omega))⟩
  have h2:=h1.append (e:=b+1+z) (by rw[hl]) (rL (lz:=lz) hl hc k (b+1+z) (by omega));exact dI.append (c:=[_]) ⟨_,ja.sp A rfl⟩ (e:=b+1) rfl h2
theorem dI.my {X Y:Nat→Prop} {c:List aP} {b:Nat} {A:Nat→Prop} (h:dI X c b A) (h1:∀n,X n→Y n) (h2:∀n,Y n→X n∨n≤b∨b+c.length≤n):dI Y c b A:=by
 obtain⟨g,h⟩:=h;exact⟨g,h.my h1 h2⟩
theorem dI.close {X Y:Nat→Prop} {c:List aP} {b:Nat} {A:Nat→Prop} (h:dI X c b A) (h1:∀n,Y n→X n) (h2:∀n,X n→Y n∨(b≤n∧n≤b+c.length)):dI Y c b A:=by
 obtain⟨g,h⟩:=h;exact⟨g,h.close h1 h2⟩
theorem xJ {A:Nat→Prop} {n:dj} {c:Nat→List aP} {z:Nat} (hl:∀b,(c b).length=z) (hc:∀b,dI (fun _=>False) (c b) b A) (b:Nat):dI (fun _=>False) (kU n c z b) b A:=by
 have hr:=rB hl hc n.mn.toNat b;have xc:(er c z n.mn.toNat b).length=n.mn.toNat*z:=iF hl _ _;unfold kU
 split
 ·refine hr.append (e:=b+n.mn.toNat*z) (by rw[xc]) ?_;generalize b+n.mn.toNat*z=s;have h1:dI (fun n=>n=s∨n=s+z+2) (c (s+1)) (s+1) A:=(hc (s+1)).my (fun n h=>h.elim) fun n h=>by rw[hl];omega
  have h2:dI (fun n=>n=s∨n=s+z+2) [ig s] (s+1+z) A:=⟨_,ja.jp A (.inl rfl)⟩
  have h3:=dI.append (c:=[j8 s (s+z+2) n.lz]) (b:=s) ⟨_,ja.sp A (.inr rfl)⟩ (e:=s+1) rfl (h1.append (by rw[hl]) h2);refine dI.close h3 (fun n h=>h.elim) fun n h=>.inr ?_;simp only[List.length_append,List.length_cons,List.length_nil,hl];omega
 ·refine hr.append (e:=b+n.mn.toNat*z) (by rw[xc]) ?_;generalize b+n.mn.toNat*z=s;have h1:=rL (lz:=n.lz) (e:=s+(n.mx.toNat-n.mn.toNat)*(z+1)) hl hc (n.mx.toNat-n.mn.toNat) s (Nat.le_refl _);refine dI.close h1 (fun n h=>h.elim) fun n h=>.inr ?_;rw[kc hl];omega
mutual
theorem jt:∀(t:Tr) (b:Nat) (A:Nat→Prop),t.ok→dI (fun _=>False) (aG t b) b A
 | .mk n ks,b,A,h=>by
  have hlen:=bS (.mk n ks) b h;simp only[Tr.ok] at h;obtain⟨h1,h2⟩:=h;have hcl:=fun b=>kD ks b h2
  have yB:∀(op x y:Int) (rs:List Rg) (m:Nat),op≠2→op≠3→op≠7→∀v∈b6 m (b7 op x y rs),∃n:Nat,v=(n:Int)∧(n=m+1∨False):=by
   intro op x y rs m a1 a2 a3 v hv;unfold b6 at hv;rw[if_neg (show¬(b7 op x y rs).op=2 from a1),if_neg (show¬(b7 op x y rs).op=3 from a2),if_neg (show¬(b7 op x y rs).op=7 from a3)] at hv;simp only[List.mem_cons,List.not_mem_nil,or_false] at hv;exact⟨m+1,hv,.inl rfl⟩
  simp only[aG]
  split
  ·exact⟨_,ja.one (by simp[b7]) (by simp[b7]) (yB 1 0 0 _ b (by decide) (by decide) (by decide))⟩
  ·split
   ·exact⟨_,ja.one (by simp[b7]) (by simp[b7]) (yB 5 0 0 _ b (by decide) (by decide) (by decide))⟩
   ·split
    ·exact⟨_,ja.one (by simp[b7]) (by simp[b7]) (yB 6 0 0 _ b (by decide) (by decide) (by decide))⟩
    ·split
     ·exact kE ks b A h2
     ·split
      ·rename_i h4;have hz:bz n ks.sz ks.len=ks.sz+2*(ks.len-1):=by unfold bz;rw[if_neg (by omega),if_pos h4]
       have ha:=kL (ig (b+bz n ks.sz ks.len)) ks b h2;refine dI.close (X:=fun m=>m=b+bz n ks.sz ks.len) ?_ (fun n h=>h.elim) fun m hm=>.inr ?_
       ·exact s9 _ ks b A h2 (by rw[ha,hz];omega)
       ·rw[ha];rw[hz] at hm;omega
      ·split
       ·exact xJ hcl (fun b=>kE ks b A h2) b
       ·split
        ·rename_i h6;obtain⟨g,hg⟩:=kE ks (b+1) (fun s=>A s∨s=2*n.cap.toNat) h2
         have iU:1≤n.cap:=by
          rcases h1.2 with h|h|h|h|h<;>omega
         exact⟨_,ja.group (k:=n.cap.toNat) (by omega) ⟨rfl,by show 2*n.cap=_;omega⟩ ⟨rfl,by show 2*n.cap+1=_;omega⟩ hg⟩
        ·exact⟨_,.nil _ b A⟩
theorem kE:∀(ts:bF) (b:Nat) (A:Nat→Prop),ts.ok→dI (fun _=>False) (eV ts b) b A
 | .nil,b,A,_=>by simp only[eV];exact⟨_,.nil _ b A⟩
 | .cons t ts,b,A,h=>by
  simp only[bF.ok] at h;simp only[eV];exact(jt t b A h.1).append (by rw[bS t b h.1]) (kE ts (b+t.sz) A h.2)
theorem s9 (e:Nat):∀(ts:bF) (b:Nat) (A:Nat→Prop),ts.ok→b+(dt (ig e) ts b).length≤e→dI (fun n=>n=e) (dt (ig e) ts b) b A
 | .nil,b,A,_,_=>by simp only[dt];exact⟨_,.nil _ b A⟩
 | .cons t ts,b,A,h,he=>by
  simp only[bF.ok] at h;simp only[dt] at he⊢
  split
  ·rename_i h0;rw[if_pos h0] at he;exact(jt t b A h.1).my (fun n h=>h.elim) fun n hn=>.inr (.inr (by omega))
  ·rename_i h0;rw[if_neg h0] at he;simp only[List.length_cons,List.length_append,bS t (b+1) h.1] at he;have h1:dI (fun n=>n=e∨n=b+1+t.sz+1) (aG t (b+1)) (b+1) A:=(jt t (b+1) A h.1).my (fun n h=>h.elim) fun n hn=>.inr (.inr (by rw[bS t (b+1) h.1];omega));have h2:dI (fun n=>n=e∨n=b+1+t.sz+1) (dt (ig e) ts (b+t.sz+2)) (b+t.sz+2) A:=(s9 e ts (b+t.sz+2) A h.2 (by omega)).my (fun n h=>.inl h) fun n hn=>by omega
   have h3:dI (fun n=>n=e∨n=b+1+t.sz+1) (ig e::dt (ig e) ts (b+t.sz+2)) (b+1+t.sz) A:=dI.append (c:=[ig e]) ⟨_,ja.jp A (.inl rfl)⟩ (e:=b+t.sz+2) (by simp only[List.length_cons,List.length_nil];omega) h2;have h4:=dI.append (c:=[j8 b (b+1+t.sz+1) false]) (b:=b) ⟨_,ja.sp A (.inr rfl)⟩ (e:=b+1) rfl (h1.append (by rw[bS t (b+1) h.1]) h3);refine dI.close h4 (fun n h=>.inl h) fun n hn=>?_
   rcases hn with hn|hn
   ·exact .inl hn
   ·refine .inr ?_;simp only[List.length_append,List.length_cons,List.length_nil,bS t (b+1) h.1];omega
end
theorem nF {I:jv→Prop} {idx:Nat→Nat→Nat} {pb:jv→Dm} (hs:∀t l,I t→pb t=.more l→∀t'∈l,I t'):∀(f:Nat) (arr:List Bool) (dE:List jv),(∀t∈dE,I t)→∀c,(ia idx pb f arr dE).1=some c→∃t,I t∧t.c=c∧pb t=.found
 |0,arr,dE,_,c,h=>by simp[ia] at h
 |f+1,arr,[],_,c,h=>by simp[ia] at h
 |f+1,arr,t::dE,hi,c,h=>by
  unfold ia at h;have ht:=hi t (List.mem_cons_self ..);have hk:=fun t' h'=>hi t' (List.mem_cons_of_mem _ h')
  split at h
  ·split at h
   ·rename_i hf;simp only[Option.some.injEq] at h;exact⟨t,ht,h,hf⟩
   ·rename_i l hl;refine nF hs f _ _ (fun t' h'=>?_) c h
    rcases List.mem_append.1 h' with h'|h'
    ·exact hs t l ht hl t' h'
    ·exact hk t' h'
  ·exact nF hs f _ _ hk c h
theorem oP {I:Nat→jv→Prop} {idx:Nat→Nat→Nat} {pb:jv→Dm} {fuel start:Nat} (hs:∀i t l,I i t→pb t=.more l→∀t'∈l,I i t') (h0:∀i,I i ⟨start,i,aZ⟩):∀(m i:Nat) (arr:List Bool) (c:nZ),jK idx pb fuel start m i arr=some c→∃j t,i≤j∧j<i+m∧I j t∧t.c=c∧pb t=.found
 |0,i,arr,c,h=>by simp[jK] at h
 |m+1,i,arr,c,h=>by
  unfold jK at h
  split at h
  ·rename_i c' hc;cases h;obtain⟨t,h1,h2,h3⟩:=nF (I:=I i) (hs i) fuel arr [⟨start,i,aZ⟩] (fun t ht=>by simp only[List.mem_cons,List.not_mem_nil,or_false] at ht;subst ht;exact h0 i) _ hc;exact⟨i,t,Nat.le_refl _,by omega,h1,h2,h3⟩
  ·obtain⟨j,t,h1,h2,h3⟩:=oP hs h0 m (i+1) _ c h;exact⟨j,t,by omega,by omega,h3⟩
structure IP (gs:List (Nat×Nat)) (pl:List Int) (g:Nat→Nat→Prop) (n i:Nat) (t:jv):Prop where
 le:i≤t.at_
 ml:t.at_≤gs.length
 z:t.pc=0→t.c=aZ∧t.at_=i
 b0:1≤t.pc→t.c 0=pl.getD i 0
 b1:t.pc≤n+1→t.c 1=-1
 b2:t.pc=n+2→t.c 1=pl.getD t.at_ 0
 ins:∀s,2≤s→t.c s=-1∨∃a,i≤a∧a≤t.at_∧t.c s=pl.getD a 0
 gr:1≤t.pc→t.pc≤n+1→∀s,g t.pc s→s≠0→t.c s≠-1
 pr:∀k,1≤k→t.c (2*k+1)≠-1→t.c (2*k)≠-1
theorem IP.init {gs:List (Nat×Nat)} {pl:List Int} {g:Nat→Nat→Prop} {n i:Nat} (hi:i≤gs.length):IP gs pl g n i ⟨0,i,aZ⟩:=
 ⟨Nat.le_refl _,hi,fun _=>⟨rfl,rfl⟩,fun h=>absurd h (by simp),fun _=>rfl,fun h=>by simp at h,fun s _=>.inl rfl,fun h=>absurd h (by simp),fun k _ h=>absurd rfl h⟩
theorem IP.go {gs:List (Nat×Nat)} {pl:List Int} {g:Nat→Nat→Prop} {n i:Nat} {t:jv} {m a:Nat} (h:IP gs pl g n i t) (h1:1≤t.pc) (h2:t.pc≤n) (hm:1≤m∧m≤n+1) (ha:t.at_≤a∧a≤gs.length) (hg:∀s,g m s→g t.pc s):IP gs pl g n i ⟨m,a,t.c⟩:=by
 refine⟨Nat.le_trans h.le ha.1,ha.2,fun h0=>?_,fun _=>h.b0 h1,fun _=>h.b1 (by omega),fun h0=>?_,fun s hs=>?_,fun _ _ s hs h0=>h.gr h1 (by omega) s (hg s hs) h0,h.pr⟩
 ·simp only at h0;omega
 ·simp only at h0;omega
 ·rcases h.ins s hs with h3|⟨b,h3,h4,h5⟩
  ·exact .inl h3
  ·exact .inr ⟨b,h3,Nat.le_trans h4 ha.1,h5⟩
theorem IP.save {gs:List (Nat×Nat)} {pl:List Int} {g:Nat→Nat→Prop} {n i:Nat} {t:jv} {x:Nat} (gT:∀a,0≤pl.getD a 0) (h:IP gs pl g n i t) (h1:1≤t.pc) (h2:t.pc≤n) (hx:∃k,1≤k∧(x=2*k∨(x=2*k+1∧g t.pc (2*k)))) (hg:∀s,g (t.pc+1) s→g t.pc s∨x=s):IP gs pl g n i ⟨t.pc+1,t.at_,ek t.c x (pl.getD t.at_ 0)⟩:=by
 obtain⟨k,hk,hx⟩:=hx;have hp:=gT t.at_;refine⟨h.le,h.ml,fun h0=>?_,fun _=>?_,fun _=>?_,fun h0=>?_,fun s hs=>?_,fun _ _ s hs h0=>?_,fun q hq hn=>?_⟩
 ·simp only at h0;omega
 ·show ek t.c x _ 0=_;unfold ek;rw[if_neg (by omega)];exact h.b0 h1
 ·show ek t.c x _ 1=_;unfold ek;rw[if_neg (by omega)];exact h.b1 (by omega)
 ·simp only at h0;omega
 ·show ek t.c x _ s=_∨_
  by_cases he:s=x
  ·exact .inr ⟨t.at_,h.le,Nat.le_refl _,by show ek t.c x _ s=_;unfold ek;rw[if_pos he]⟩
  ·unfold ek;rw[if_neg he]
   rcases h.ins s hs with h3|h3
   ·exact .inl h3
   ·exact .inr (by simpa only[he,if_false] using h3)
 ·show ek t.c x _ s≠_;unfold ek
  split
  ·omega
  ·rename_i he
   rcases hg s hs with h3|h3
   ·exact h.gr h1 (by omega) s h3 h0
   ·exact absurd h3.symm he
 ·change ek t.c x _ (2*q+1)≠-1 at hn;show ek t.c x _ (2*q)≠-1;unfold ek at hn⊢
  split
  ·omega
  ·rename_i he
   split at hn
   ·rename_i vw
    rcases hx with hx|⟨hx,Mz⟩
    ·omega
    ·have:q=k:=by omega
     subst this;exact h.gr h1 (by omega) _ Mz (by omega)
   ·exact h.pr q hq hn
theorem IP.step {tr:Tr} {r:Nat} {gs:List (Nat×Nat)} {pl:List Int} {g:Nat→Nat→Prop} {i:Nat} {t:jv} {l:List jv} (gT:∀a,0≤pl.getD a 0) (hL:ja (fun _=>False) (aG tr 1) 1 (fun s=>s=0) g)
  (h:IP gs pl g (aG tr 1).length i t) (hs:b5 (dA tr 0 r) gs pl t=.more l):∀t'∈l,IP gs pl g (aG tr 1).length i t':=by
 generalize hn:(aG tr 1).length=n at*;have xg:(aG tr (0+1)).length=n:=hn;have Kc:(dA tr 0 r)[0]?=some (b7 4 0 0 []):=rfl
 have zE:∀j,j<n→(dA tr 0 r)[j+1]?=(aG tr 1)[j]?:=fun j hj=>by
  show(b7 4 0 0 []::(aG tr (0+1)++_))[j+1]?=_;rw[List.getElem?_cons_succ,List.getElem?_append_left (by omega)]
 have tg:(dA tr 0 r)[n+1]?=some (b7 4 1 0 []):=by
  show(b7 4 0 0 []::(aG tr (0+1)++_))[n+1]?=_;rw[List.getElem?_cons_succ,List.getElem?_append_right (by omega),show n-(aG tr (0+1)).length=0 by omega];rfl
 have RR:∀j,n+1≤j→(dA tr 0 r)[j+1]?=none∨(dA tr 0 r)[j+1]?=some (b7 7 (r:Nat) 0 []):=fun j hj=>by
  show(b7 4 0 0 []::(aG tr (0+1)++_))[j+1]?=_∨(b7 4 0 0 []::(aG tr (0+1)++_))[j+1]?=_;rw[List.getElem?_cons_succ,List.getElem?_append_right (by omega)]
  obtain⟨q,hq⟩:∃q,j-(aG tr (0+1)).length=q+1:=⟨j-(aG tr (0+1)).length-1,by omega⟩
  rw[hq,List.getElem?_cons_succ]
  cases q with
  |zero=>exact .inr rfl
  |succ q=>exact .inl rfl
 unfold b5 at hs;obtain⟨pc,at_,c⟩:=t;simp only at hs
 rcases pc with _|j
 ·rw[Kc] at hs;obtain⟨hz,he⟩:=h.z rfl;simp only at hz he;subst hz;subst he;change Dm.more [⟨0+1,at_,ek aZ (Int.toNat 0) (pl.getD at_ 0)⟩]=.more l at hs;cases hs;intro t' ht;simp only[List.mem_cons,List.not_mem_nil,or_false] at ht;subst ht;refine⟨Nat.le_refl _,h.ml,fun h0=>by simp at h0,fun _=>rfl,fun _=>rfl,fun h0=>by simp at h0,fun s hs=>.inl ?_,fun _ _ s hs h0=>?_,fun q hq hn=>?_⟩
  ·show ek aZ 0 _ s=-1;unfold ek;rw[if_neg (by omega)];rfl
  ·have h9:=hL.hd;change g 1 s at hs;rw[h9] at hs;exact absurd hs h0
  ·exact absurd (show ek aZ (Int.toNat 0) (pl.getD at_ 0) (2*q+1)=-1 by unfold ek;rw[if_neg (by simp)];rfl) hn
 ·by_cases hj:j<n
  ·rw[zE j hj] at hs
   split at hs
   ·cases hs;intro t' ht;cases ht
   ·rename_i ins hi;obtain⟨yB,h7,h4⟩:=hL.st j ins hi;rw[show 1+j=j+1 by omega] at yB h4
    have Dz:∀v∈b6 (j+1) ins,∃m:Nat,v=(m:Int)∧(1≤m∧m≤n+1)∧∀s,g m s→g (j+1) s∨(ins.op=4∧ins.x=(s:Int)):=fun v hv=>by
     obtain⟨m,e,h1⟩:=yB v hv
     rcases h1 with⟨h1,h2,h3⟩|⟨h1,_⟩
     ·exact⟨m,e,⟨h1,by omega⟩,h3⟩
     ·exact h1.elim
    have KP:ins.op≠4→∀v∈b6 (j+1) ins,∀a,at_≤a→a≤gs.length→IP gs pl g n i ⟨v.toNat,a,c⟩:=fun h4 v hv a h1 h2=>by
     obtain⟨m,rfl,hm,hg⟩:=Dz v hv;exact h.go (by simp) (by simp;omega) (by simpa using hm) ⟨h1,h2⟩ fun s hs=>(hg s (by simpa using hs)).elim id fun h=>absurd h.1 h4
    rw[if_neg h7] at hs
    by_cases h2:ins.op=2
    ·rw[if_pos h2] at hs;cases hs;intro t' ht;simp only[List.mem_cons,List.not_mem_nil,or_false] at ht;have It:b6 (j+1) ins=[ins.x,ins.y]:=by unfold b6;rw[if_pos h2]
     rcases ht with rfl|rfl
     ·exact KP (by omega) _ (by rw[It];simp) _ (Nat.le_refl _) h.ml
     ·exact KP (by omega) _ (by rw[It];simp) _ (Nat.le_refl _) h.ml
    ·rw[if_neg h2] at hs
     by_cases h3:ins.op=3
     ·rw[if_pos h3] at hs;cases hs;intro t' ht;simp only[List.mem_cons,List.not_mem_nil,or_false] at ht;subst ht;exact KP (by omega) ins.x (by unfold b6;rw[if_neg h2,if_pos h3];simp) _ (Nat.le_refl _) h.ml
     ·rw[if_neg h3] at hs;have xf:b6 (j+1) ins=[((j+1+1:Nat):Int)]:=by unfold b6;rw[if_neg h2,if_neg h3,if_neg h7]
      by_cases h4':ins.op=4
      ·rw[if_pos h4'] at hs;cases hs;intro t' ht;simp only[List.mem_cons,List.not_mem_nil,or_false] at ht;subst ht;obtain⟨k,hk,hx⟩:=h4 h4';obtain⟨m,e,hm,hg⟩:=Dz ((j+1+1:Nat):Int) (by rw[xf];simp);have Q5:m=j+1+1:=by omega
       subst Q5;refine h.save gT (by simp) (by simp;omega) ⟨k,hk,?_⟩ fun s hs=>?_
       ·rcases hx with hx|⟨hx,Mz⟩
        ·exact .inl (by omega)
        ·exact .inr ⟨by omega,Mz⟩
       ·rcases hg s hs with h5|⟨_,h5⟩
        ·exact .inl h5
        ·exact .inr (by omega)
      ·rw[if_neg h4'] at hs;have CY:=KP h4' ((j+1+1:Nat):Int) (by rw[xf];simp);simp only[Int.toNat_natCast] at CY
       split at hs
       ·cases hs;intro t' ht
        split at ht
        ·simp only[List.mem_cons,List.not_mem_nil,or_false] at ht;subst ht;exact CY _ (Nat.le_refl _) h.ml
        ·cases ht
       ·split at hs
        ·cases hs;intro t' ht
         split at ht
         ·simp only[List.mem_cons,List.not_mem_nil,or_false] at ht;subst ht;exact CY _ (Nat.le_refl _) h.ml
         ·cases ht
        ·cases hs;intro t' ht
         split at ht
         ·rename_i hlt;simp only[List.mem_cons,List.not_mem_nil,or_false] at ht;subst ht;exact CY _ (by omega) (by omega)
         ·cases ht
  ·by_cases RA:j=n
   ·subst RA;rw[tg] at hs;change Dm.more [⟨_+1,at_,ek c (Int.toNat 1) (pl.getD at_ 0)⟩]=.more l at hs;cases hs;intro t' ht;simp only[List.mem_cons,List.not_mem_nil,or_false] at ht;subst ht;refine⟨h.le,h.ml,fun h0=>by simp at h0,fun _=>?_,fun h0=>(by change j+1+1≤j+1 at h0;omega),fun _=>rfl,fun s hs=>?_,fun _ h0=>(by change j+1+1≤j+1 at h0;omega),fun q hq hn=>?_⟩
    ·exact h.b0 (by simp)
    ·have:=h.ins s hs;show ek c 1 _ s=_∨∃a,_∧_∧ek c 1 _ s=_;unfold ek;rw[if_neg (by omega)];exact this
    ·change ek c 1 _ (2*q+1)≠-1 at hn;show ek c 1 _ (2*q)≠-1;unfold ek at hn⊢;rw[if_neg (by omega)] at hn⊢;exact h.pr q hq hn
   ·rcases RR j (by omega) with h9|h9
    ·rw[h9] at hs;cases hs;intro t' ht;cases ht
    ·rw[h9] at hs;simp only[b7,if_true] at hs;cases hs
theorem IP.found {tr:Tr} {r:Nat} {gs:List (Nat×Nat)} {pl:List Int} {g:Nat→Nat→Prop} {i:Nat} {t:jv} (hL:ja (fun _=>False) (aG tr 1) 1 (fun s=>s=0) g)
  (h:IP gs pl g (aG tr 1).length i t) (hs:b5 (dA tr 0 r) gs pl t=.found):t.c 0=pl.getD i 0∧t.c 1=pl.getD t.at_ 0:=by
 have ez:∃q,(dA tr 0 r)[t.pc]?=some q∧q.op=7:=by
  unfold b5 at hs
  split at hs
  ·cases hs
  ·rename_i q hq;refine⟨q,hq,?_⟩
   split at hs
   ·assumption
   ·repeat' split at hs
    all_goals cases hs
 obtain⟨q,hq,h7⟩:=ez
 have hlen:(dA tr 0 r).length=(aG tr 1).length+3:=by
  show(b7 4 0 0 []::(aG tr (0+1)++_)).length=_;simp only[List.length_cons,List.length_append,List.length_nil]
 have hlt:=cq hq
 have DB:t.pc=(aG tr 1).length+2:=by
  rcases Nat.eq_zero_or_pos t.pc with h0|h0
  ·rw[h0] at hq;cases hq;cases h7
  ·obtain⟨j,hj⟩:∃j,t.pc=j+1:=⟨t.pc-1,by omega⟩
   rw[hj] at hq hlt
   by_cases h1:j<(aG tr 1).length
   ·have wF:(aG tr 1)[j]?=some q:=by
     rw[←hq];show _=(b7 4 0 0 []::(aG tr (0+1)++_))[j+1]?;rw[List.getElem?_cons_succ,List.getElem?_append_left h1]
    exact absurd h7 (hL.st j q wF).2.1
   ·by_cases h2:j=(aG tr 1).length
    ·have wF:(dA tr 0 r)[j+1]?=some (b7 4 1 0 []):=by
      show(b7 4 0 0 []::(aG tr (0+1)++_))[j+1]?=_;rw[List.getElem?_cons_succ,List.getElem?_append_right (by rw[h2];exact Nat.le_refl _),show j-(aG tr (0+1)).length=0 by rw[h2];exact Nat.sub_self _];rfl
     rw[wF] at hq;cases hq;cases h7
    ·omega
 exact⟨h.b0 (by omega),h.b2 DB⟩
def uV (n:Nat) (i:aP):aP:=if i.op=2 then⟨2,i.x+n,i.y+n,i.rd,i.rs⟩ else if i.op=3 then⟨3,i.x+n,i.y,i.rd,i.rs⟩ else i
theorem mC (n:Nat) {op:Int} (x y:Int) (rs:List Rg) (h2:op≠2) (h3:op≠3):uV n (b7 op x y rs)=b7 op x y rs:=by
 unfold uV b7;rw[if_neg h2,if_neg h3]
theorem tp (n s o:Nat) (lz:Bool):uV n (j8 s o lz)=j8 (s+n) (o+n) lz:=by
 cases lz
 ·show(⟨2,((s+1:Nat):Int)+n,(o:Int)+n,_,_⟩:aP)=b7 2 ((s+n+1:Nat):Int) ((o+n:Nat):Int) [];unfold b7
  congr 1;omega
 ·show(⟨2,(o:Int)+n,((s+1:Nat):Int)+n,_,_⟩:aP)=b7 2 ((o+n:Nat):Int) ((s+n+1:Nat):Int) [];unfold b7
  congr 1;omega
theorem xE (n e:Nat):uV n (ig e)=ig (e+n):=by
 show(⟨3,(e:Int)+n,0,_,_⟩:aP)=b7 3 ((e+n:Nat):Int) 0 [];unfold b7
 congr 1
theorem pj {c:Nat→List aP} {z n:Nat} (hc:∀b,c (b+n)=(c b).map (uV n)):∀k b,er c z k (b+n)=(er c z k b).map (uV n)
 |0,b=>rfl
 |k+1,b=>by
  have h:=pj hc (z:=z) k (b+z);rw[Nat.add_right_comm] at h;rw[er,er,List.map_append,hc,h]
theorem u9 {sp Ol:Nat→aP} {c:Nat→List aP} {z n:Nat} (hs:∀s,Ol (s+n)=uV n (sp s)) (hc:∀b,c (b+n)=(c b).map (uV n)):∀k b,dZ Ol c z k (b+n)=(dZ sp c z k b).map (uV n)
 |0,b=>rfl
 |k+1,b=>by
  have h:=u9 hs hc (z:=z) k (b+1+z);have e1:b+1+z+n=b+n+1+z:=by omega
  have e2:b+n+1=b+1+n:=by omega
  rw[e1] at h;rw[dZ,dZ,List.map_cons,List.map_append,hs,h,e2,hc]
theorem zT {nd:dj} {c:Nat→List aP} {z n b:Nat} (hc:∀b,c (b+n)=(c b).map (uV n)):kU nd c z (b+n)=(kU nd c z b).map (uV n):=by
 unfold kU
 split
 ·rw[List.map_append,pj hc,List.map_cons,List.map_append,tp,List.map_cons,List.map_nil,xE];have e1:b+n+nd.mn.toNat*z=b+nd.mn.toNat*z+n:=by omega
  have e2:b+nd.mn.toNat*z+n+1=b+nd.mn.toNat*z+1+n:=by omega
  have e3:b+nd.mn.toNat*z+n+z+2=b+nd.mn.toNat*z+z+2+n:=by omega
  rw[e1,e2,e3,hc]
 ·rw[List.map_append,pj hc];have e1:b+n+nd.mn.toNat*z=b+nd.mn.toNat*z+n:=by omega
  rw[e1]
  congr 1
  refine u9 (fun s=>?_) hc _ _;rw[tp]
  congr 1
  omega
mutual
theorem nJ (n:Nat):∀(t:Tr) (b:Nat),aG t (b+n)=(aG t b).map (uV n)
 | .mk nd ks,b=>by
  have hc:=fun b=>vH n ks b;have ha:=fun e b=>vP n e ks b;simp only[aG]
  split
  ·rw[List.map_cons,List.map_nil,mC _ _ _ _ (by decide) (by decide)]
  split
  ·rw[List.map_cons,List.map_nil,mC _ _ _ _ (by decide) (by decide)]
  split
  ·rw[List.map_cons,List.map_nil,mC _ _ _ _ (by decide) (by decide)]
  split
  ·exact hc b
  split
  ·rw[Nat.add_right_comm];exact ha _ b
  split
  ·exact zT hc
  split
  ·rw[List.map_cons,List.map_append,List.map_cons,List.map_nil,mC _ _ _ _ (by decide) (by decide),mC _ _ _ _ (by decide) (by decide),Nat.add_right_comm,hc]
  ·rfl
theorem vH (n:Nat):∀(ts:bF) (b:Nat),eV ts (b+n)=(eV ts b).map (uV n)
 | .nil,b=>by simp only[eV,List.map_nil]
 | .cons t ts,b=>by
  have h:=vH n ts (b+t.sz);rw[Nat.add_right_comm] at h;simp only[eV,List.map_append];rw[nJ n t b,h]
theorem vP (n:Nat):∀(e:Nat) (ts:bF) (b:Nat),dt (ig (e+n)) ts (b+n)=(dt (ig e) ts b).map (uV n)
 |e,.nil,b=>by simp only[dt,List.map_nil]
 |e,.cons t ts,b=>by
  have h:=vP n e ts (b+t.sz+2);have h1:=nJ n t (b+1);have e1:b+t.sz+2+n=b+n+t.sz+2:=by omega
  have e2:b+1+n=b+n+1:=by omega
  have e3:b+1+t.sz+1+n=b+n+1+t.sz+1:=by omega
  rw[e1] at h;rw[e2] at h1;simp only[dt]
  split
  ·exact nJ n t b
  ·rw[List.map_cons,List.map_append,List.map_cons,tp,xE,h1,h,e3]
end
def lD (lo hi:Nat) (i:aP):Prop:=i.op≠7∧(i.op=2→((lo:Int)≤i.x∧i.x≤hi)∧(lo:Int)≤i.y∧i.y≤hi)∧(i.op=3→(lo:Int)≤i.x∧i.x≤hi)
theorem lD.mono {lo hi rY jJ:Nat} {i:aP} (h:lD lo hi i) (h1:rY≤lo) (h2:hi≤jJ):lD rY jJ i:=
 ⟨h.1,fun e=>by have:=h.2.1 e;omega,fun e=>by have:=h.2.2 e;omega⟩
theorem lD.mk {lo hi:Nat} {op:Int} (x y:Int) (rs:List Rg) (h2:op≠2) (h3:op≠3) (h7:op≠7):lD lo hi (b7 op x y rs):=⟨h7,fun h=>absurd h h2,fun h=>absurd h h3⟩
theorem lD.sp {lo hi s o:Nat} {lz:Bool} (h1:lo≤s+1∧s+1≤hi) (h2:lo≤o∧o≤hi):lD lo hi (j8 s o lz):=by
 cases lz
 ·exact⟨by show(2:Int)≠7;decide,fun _=>by show((lo:Int)≤((s+1:Nat):Int)∧((s+1:Nat):Int)≤hi)∧(lo:Int)≤(o:Int)∧(o:Int)≤hi;omega,fun h=>absurd h (by show¬(2:Int)=3;decide)⟩
 ·exact⟨by show(2:Int)≠7;decide,fun _=>by show((lo:Int)≤(o:Int)∧(o:Int)≤hi)∧(lo:Int)≤((s+1:Nat):Int)∧((s+1:Nat):Int)≤hi;omega,fun h=>absurd h (by show¬(2:Int)=3;decide)⟩
theorem lD.jp {lo hi e:Nat} (h1:lo≤e∧e≤hi):lD lo hi (ig e):=
 ⟨by show(3:Int)≠7;decide,fun h=>absurd h (by show¬(3:Int)=2;decide),fun _=>by show(lo:Int)≤(e:Int)∧(e:Int)≤hi;omega⟩
theorem pk {c:Nat→List aP} {z:Nat} (hc:∀b,∀i∈c b,lD b (b+z) i):∀k b,∀i∈er c z k b,lD b (b+k*z) i
 |0,b,i,hi=>by cases hi
 |k+1,b,i,hi=>by
  simp only[er] at hi;rw[Nat.succ_mul]
  rcases List.mem_append.1 hi with hi|hi
  ·exact(hc b i hi).mono (Nat.le_refl _) (by omega)
  ·exact(pk hc k _ i hi).mono (by omega) (by omega)
theorem u_ {sp:Nat→aP} {c:Nat→List aP} {z lo hi:Nat} (hs:∀s,lo≤s→s+1≤hi→lD lo hi (sp s)) (hc:∀b,∀i∈c b,lD b (b+z) i):∀k b,lo≤b→b+k*(z+1)≤hi→∀i∈dZ sp c z k b,lD lo hi i
 |0,b,_,_,i,jJ=>by cases jJ
 |k+1,b,h1,h2,i,jJ=>by
  simp only[dZ] at jJ;rw[Nat.succ_mul] at h2
  rcases List.mem_cons.1 jJ with rfl|jJ
  ·exact hs b h1 (by omega)
  ·rcases List.mem_append.1 jJ with jJ|jJ
   ·exact(hc _ i jJ).mono (by omega) (by omega)
   ·exact u_ hs hc k _ (by omega) (by omega) i jJ
mutual
theorem nK:∀(t:Tr) (b:Nat),t.ok→∀i∈aG t b,lD b (b+t.sz) i
 | .mk n ks,b,cI,i,hi=>by
  simp only[Tr.ok] at cI;have hc:=fun b=>vI ks b cI.2;obtain⟨_,hq⟩:=cI.1;simp only[aG] at hi;simp only[Tr.sz]
  by_cases q2:n.op=2
  ·rw[if_pos q2] at hi;simp only[List.mem_cons,List.not_mem_nil,or_false] at hi;subst hi;exact lD.mk _ _ _ (by decide) (by decide) (by decide)
  rw[if_neg q2] at hi
  by_cases q7:n.op=7
  ·rw[if_pos q7] at hi;simp only[List.mem_cons,List.not_mem_nil,or_false] at hi;subst hi;exact lD.mk _ _ _ (by decide) (by decide) (by decide)
  rw[if_neg q7] at hi
  by_cases q8:n.op=8
  ·rw[if_pos q8] at hi;simp only[List.mem_cons,List.not_mem_nil,or_false] at hi;subst hi;exact lD.mk _ _ _ (by decide) (by decide) (by decide)
  rw[if_neg q8] at hi
  have hz:∀s k,bz n s k=if n.op=4 then s+2*(k-1) else if n.op=6 then s+2 else if n.op=5 then(if n.mx=-1 then n.mn.toNat*s+s+2 else n.mn.toNat*s+(n.mx.toNat-n.mn.toNat)*(s+1)) else s:=by
   intro s k;unfold bz;rw[if_neg (by omega)]
  by_cases q3:n.op=3
  ·rw[if_pos q3] at hi;rw[hz,if_neg (by omega),if_neg (by omega),if_neg (by omega)];exact hc b i hi
  rw[if_neg q3] at hi
  by_cases q4:n.op=4
  ·rw[if_pos q4] at hi;have P6:bz n ks.sz ks.len=ks.sz+2*(ks.len-1):=by rw[hz,if_pos q4]
   rw[P6] at hi⊢;exact vQ ks b (b+(ks.sz+2*(ks.len-1))) cI.2 (Nat.le_refl _) i hi
  rw[if_neg q4] at hi
  by_cases q5:n.op=5
  ·rw[if_pos q5] at hi;rw[hz,if_neg q4,if_neg (by omega),if_pos q5];unfold kU at hi
   by_cases qm:n.mx=-1
   ·rw[if_pos qm] at hi⊢
    rcases List.mem_append.1 hi with hi|hi
    ·exact(pk hc _ _ i hi).mono (Nat.le_refl _) (by omega)
    ·rcases List.mem_cons.1 hi with rfl|hi
     ·exact lD.sp (by omega) (by omega)
     ·rcases List.mem_append.1 hi with hi|hi
      ·exact(hc _ i hi).mono (by omega) (by omega)
      ·simp only[List.mem_cons,List.not_mem_nil,or_false] at hi;subst hi;exact lD.jp (by omega)
   ·rw[if_neg qm] at hi⊢
    rcases List.mem_append.1 hi with hi|hi
    ·exact(pk hc _ _ i hi).mono (Nat.le_refl _) (by omega)
    ·exact u_ (fun s h1 h2=>lD.sp (by omega) (by omega)) hc _ _ (by omega) (by omega) i hi
  rw[if_neg q5] at hi
  by_cases q6:n.op=6
  ·rw[if_pos q6] at hi;rw[hz,if_neg q4,if_pos q6]
   rcases List.mem_cons.1 hi with rfl|hi
   ·exact lD.mk _ _ _ (by decide) (by decide) (by decide)
   ·rcases List.mem_append.1 hi with hi|hi
    ·exact(hc _ i hi).mono (by omega) (by omega)
    ·simp only[List.mem_cons,List.not_mem_nil,or_false] at hi;subst hi;exact lD.mk _ _ _ (by decide) (by decide) (by decide)
  ·rw[if_neg q6] at hi;cases hi
theorem vI:∀(ts:bF) (b:Nat),ts.ok→∀i∈eV ts b,lD b (b+ts.sz) i
 | .nil,b,_,i,hi=>by simp[eV] at hi
 | .cons t ts,b,cI,i,hi=>by
  simp only[bF.ok] at cI;simp only[eV] at hi;simp only[bF.sz]
  rcases List.mem_append.1 hi with hi|hi
  ·exact(nK t b cI.1 i hi).mono (Nat.le_refl _) (by omega)
  ·exact(vI ts _ cI.2 i hi).mono (by omega) (by omega)
theorem vQ:∀(ts:bF) (b e:Nat),ts.ok→b+(ts.sz+2*(ts.len-1))≤e→∀i∈dt (ig e) ts b,lD b e i
 | .nil,b,e,_,_,i,hi=>by simp[dt] at hi
 | .cons t ts,b,e,cI,he,i,hi=>by
  simp only[bF.ok] at cI;simp only[dt] at hi;simp only[bF.sz,bF.len] at he
  by_cases q:ts.len=0
  ·rw[if_pos q] at hi;exact(nK t b cI.1 i hi).mono (Nat.le_refl _) (by omega)
  ·rw[if_neg q] at hi
   rcases List.mem_cons.1 hi with rfl|hi
   ·exact lD.sp (by omega) (by omega)
   ·rcases List.mem_append.1 hi with hi|hi
    ·exact(nK t _ cI.1 i hi).mono (by omega) (by omega)
    ·rcases List.mem_cons.1 hi with rfl|hi
     ·exact lD.jp (by omega)
     ·exact(vQ ts _ e cI.2 (by omega) i hi).mono (by omega) (by omega)
end
theorem uw (r:Nat) (c:List aP) (s:List Int):gk [] r c s=⟨c,s,0,0⟩:=by simp only[gk]
theorem sN (a:List dj):bQ [a]=if eM a=false then⟨[],[],1,0⟩ else if 400<min (cM a).sz 401+3 then⟨[],[],12,0⟩ else⟨dA (cM a) 0 0,[0],0,0⟩:=by
 unfold bQ;rw[if_neg (by simp),gk];simp only[uw,List.length_nil,List.nil_append,Nat.zero_add]
 rfl
theorem s_:∀(n:Nat) (b:List UInt8),b.length≤n→((ta n b).map (·.2)).sum=b.length
 |0,b,h=>by
  have:b=[]:=List.length_eq_zero_iff.1 (by omega);subst this;rfl
 |n+1,[],_=>rfl
 |n+1,c::xs,h=>by
  have h1:=iK (c::xs);have h2:=pB (b:=c::xs) (by simp);have ih:=s_ n ((c::xs).drop (gu (c::xs)).2) (by rw[List.length_drop];simp only[List.length_cons] at h⊢;omega);simp only[ta,List.map_cons,List.sum_cons,ih,List.length_drop];omega
theorem zq (b:List UInt8):((cQ b).map (·.2)).sum=b.length:=s_ _ b (Nat.le_refl _)
theorem xW:∀(l:List (Nat×Nat)) (a:Int) (j:Nat),j≤l.length→(nT a l)[j]?=some (a+(((l.take j).map (·.2)).sum:Nat))
 |[],a,j,h=>by
  have:j=0:=by simpa using h
  subst this;simp[nT]
 |g::r,a,0,_=>by simp[nT]
 |g::r,a,j+1,h=>by
  simp only[List.length_cons] at h;simp only[nT,List.getElem?_cons_succ,List.take_succ_cons,List.map_cons,List.sum_cons];rw[xW r _ j (by omega)]
  congr 1;omega
theorem rE (l:List (Nat×Nat)) (j:Nat) (h:j≤l.length):(nT 0 l).getD j 0=(((l.take j).map (·.2)).sum:Nat):=by
 rw[List.getD_eq_getElem?_getD,xW l 0 j h];simp
theorem xV (l:List (Nat×Nat)) (j:Nat) (h:l.length<j):(nT 0 l).getD j 0=0:=by
 rw[List.getD_eq_getElem?_getD,List.getElem?_eq_none (by rw[pA];omega)];rfl
theorem GW (l:List (Nat×Nat)) (j:Nat):0≤(nT 0 l).getD j 0:=by
 by_cases h:j≤l.length
 ·rw[rE l j h];omega
 ·rw[xV l j (by omega)];omega
theorem lG:∀(l:List Nat) (i j:Nat),i≤j→(l.take i).sum≤(l.take j).sum
 |[],i,j,_=>by simp
 |x::l,0,j,_=>by simp
 |x::l,i+1,j+1,h=>by
  simp only[List.take_succ_cons,List.sum_cons];have:=lG l i j (by omega);omega
structure N' (pl:List Int) (m:Nat) (c:nZ):Prop where
 w:∃i a,i≤a∧a≤m∧c 0=pl.getD i 0∧c 1=pl.getD a 0∧∀s,2≤s→c s=-1∨∃b,i≤b∧b≤a∧c s=pl.getD b 0
 p:∀k,1≤k→c (2*k+1)≠-1→c (2*k)≠-1
theorem sC {t:Tr} (ht:t.ok) {cd sd:D} {r:Nat} {ru:Int} {b:List UInt8} {c:nZ} (h:gF ⟨cd,dA t 0 r,sd,[0]⟩ ru b=some c):N' (nT 0 (cQ b)) (cQ b).length c:=by
 unfold gF at h
 split at h
 ·rename_i hc;obtain⟨_,h0,h1⟩:=hc;have Qm:ru.toNat=0:=by simp only[List.length_cons,List.length_nil] at h1;omega
  rw[Qm] at h;change jK _ _ _ 0 _ _ _=_ at h;obtain⟨g,hg⟩:=jt t 1 (fun s=>s=0) ht;have gT:=GW (cQ b);obtain⟨j,t',_,hj,hI,he,hf⟩:=oP (I:=fun i t'=>i≤(cQ b).length→IP (cQ b) (nT 0 (cQ b)) g (aG t 1).length i t') (fun i t' l hI hs t2 h2 hi=>IP.step (r:=r) gT hg (hI hi) hs t2 h2) (fun i hi=>IP.init hi) _ _ _ _ h;have hI:=hI (by omega);obtain⟨h2,h3⟩:=hI.found hg hf;subst he;exact⟨⟨j,t'.at_,hI.le,hI.ml,h2,h3,hI.ins⟩,hI.pr⟩
 ·cases h
theorem nI {a:List dj} (h:(bQ [a]).e=0):eM a=true∧(bQ [a]).code=dA (cM a) 0 0∧(bQ [a]).aO=[0]:=by
 rw[sN] at h⊢
 split at h
 ·cases h
 ·rename_i h1
  split at h
  ·cases h
  ·rename_i h2;rw[if_neg h1,if_neg h2];exact⟨by cases hr:eM a with|true=>rfl|false=>exact absurd hr h1,rfl,rfl⟩
end Go.Proofs.Ytbdnabmmlbiomaa
namespace Go.V
variable{N:Nat} {S st:St} {H:List bT}
theorem Has.Pz (A B:List bT) (h:Has N S st (A++(B++H))):Has N S st (B++(A++H)):=by
 refine h.sub (fun i=>if i<B.length then i+A.length else if i<B.length+A.length then i-B.length else i) (fun a b e=>?_) fun i e hi=>?_
 ·have e':(if a<B.length then a+A.length else if a<B.length+A.length then a-B.length else a)=(if b<B.length then b+A.length else if b<B.length+A.length then b-B.length else b):=e
  repeat' split at e'
  all_goals omega
 ·show(A++(B++H))[if i<B.length then i+A.length else if i<B.length+A.length then i-B.length else i]?=some e
  by_cases h1:i<B.length
  ·rw[if_pos h1,List.getElem?_append_right (by omega),Nat.add_sub_cancel,List.getElem?_append_left h1]
   rwa [List.getElem?_append_left h1] at hi
  ·rw[List.getElem?_append_right (by omega)] at hi
   by_cases h2:i<B.length+A.length
   ·rw[if_neg h1,if_pos h2,List.getElem?_append_left (by omega)]
    rwa [List.getElem?_append_left (by omega)] at hi
   ·rw[if_neg h1,if_neg h2,List.getElem?_append_right (by omega),List.getElem?_append_right (by omega)];rw[List.getElem?_append_right (by omega)] at hi;rw[←hi];congr 1;omega
theorem Has.dF {j:Nat} {e:bT} (h:Has N S st (e::H)) (hj:j<H.length):Has N S st (H.set j e):=
 Has.back (h.erase (j+1)) hj
theorem Has.clear {P:Pv} {j:Nat} {x:D} {s:Nat} {es:List (List D)} {t e:TypeId} {z:List D} (h:Has N S st H) (hj:H[j]?=some (.aN x s es)) (ht:P.ch t=some (.slice e)) (hz:cK P e=some z) (jH:z.length=s) (hr:refs z=0):
  ∃ah,iY P [t] x st=some (.tup [],ah)∧Has N S ah (H.set j (.aN x s (List.replicate es.length z))):=by
 have wG:=(h.ok j _ hj).2;have hown:=h.own hj
 have jT:j<H.length:=by
  rcases Nat.lt_or_ge j H.length with h'|h'
  ·exact h'
  ·rw[List.getElem?_eq_none h'] at hj;cases hj
 cases hown with
 |nul=>
  refine⟨st,by simp only[iY,ht],?_⟩
  have:H.set j (.aN .nul s (List.replicate ([]:List (List D)).length z))=H:=by
   refine List.ext_getElem? fun i=>?_
   by_cases hi:i=j
   ·subst hi;rw[List.getElem?_set_self jT,hj];rfl
   ·rw[List.getElem?_set_ne (fun e=>hi e.symm)]
  rw[this];exact h
 |win k az off es c hm hle hc he=>
  have hk:=wG k (by simp only[bT.aN,D.ref])
  have KG:∀n,refs (Go.V.dF n z)=0:=by
   intro n;unfold Go.V.dF
   induction n with
   |zero=>rfl
   |succ n ih=>
    rw[List.replicate_succ,List.flatten_cons]
    have C4:∀(a b:List D),refs a=0→refs b=0→refs (a++b)=0:=by
     intro a
     induction a with
     |nil=>intro b _ hb;exact hb
     |cons d a zz=>
      intro b ha hb;simp only[refs,List.cons_append] at ha⊢;have:=zz b (by omega) hb;omega
    exact C4 _ _ hr ih
  have tf:(Go.V.dF es.length z).length=es.length*s:=by
   unfold Go.V.dF;rw[cm (s:=s) (fun e he=>by rw[(List.mem_replicate.1 he).2];exact jH),List.length_replicate]
  have hw:st.wr k az off (Go.V.dF es.length z)=some ⟨st.bs.set k (.mem az true (c.take off++Go.V.dF es.length z++c.drop (off+(Go.V.dF es.length z).length))),st.flr,st.ro⟩:=jM hm (by omega) (gP h hk.1 (.inr (KG _)));refine⟨_,by simp only[iY,ht,hz,Option.bind_some];rw[if_pos jH,hw];rfl,?_⟩;refine h.xr hj (fun n hn hne=>?_) (by simp) rfl rfl ?_ (fun n hn=>.inl hn) fun n hn=>?_
  ·simp only;rw[List.getElem?_set_ne (fun e=>hne (by simp only[bT.aN,D.ref];omega))]
  ·have yE:∀e'∈List.replicate es.length z,e'.length=s:=fun e' mo=>by rw[(List.mem_replicate.1 mo).2];exact jH
   have:=fu.win (st:=⟨st.bs.set k (.mem az true (c.take off++Go.V.dF es.length z++c.drop (off+(Go.V.dF es.length z).length))),st.flr,st.ro⟩) (s:=s) k az off (List.replicate es.length z) (c.take off++Go.V.dF es.length z++c.drop (off+(Go.V.dF es.length z).length))
    (by simp only;rw[List.getElem?_set_self hk.2]) (by rw[List.length_replicate];simp;omega) ?_ yE
   ·rw[List.length_replicate] at this;exact this
   ·rw[List.length_replicate,List.append_assoc,List.drop_append_of_le_length (by simp;omega),List.drop_take,Nat.sub_self,List.take_zero,List.nil_append,←tf,List.take_left']
    ·rfl
    ·rfl
  ·simp only[bT.aN,D.ref] at hn;have:n=k:=by omega
   subst this
   simpa using hk.2
variable{P:Pv} {ops:Array Oper} {rest:List Oper} {fr aF:Fr} {Q:Fr→St→Prop} {ty:TypeId} {pp:String} {a:Array Edge} {g:Option (Nat×Bool)} {dst:Nat}
end Go.V
namespace Go.Proofs.Ytbdnabmmlbiomaa
open Go.V Go
def Jf (n:Nat):List D:=[.int .i64 (n:Nat)]
def OE (n:Nat):List D:=[.int .i64 (n:Nat),.bool true]
structure i7 (P Q:List Nat) (seen:List Bool):Prop where
 len:P.length=seen.length
 mem:∀(i p:Nat),P[i]?=some p→seen[i]?=some (decide (Q[p]?=some i))
 cnt:Q.length=seen.count true
 small:seen.length≤4096
theorem i7.get {P Q:List Nat} {seen:List Bool} (h:i7 P Q seen) {i:Nat} {b:Bool} (hi:seen[i]?=some b):∃p,P[i]?=some p∧b=decide (Q[p]?=some i):=by
 have hl:=cq hi;have qY:=h.len;refine⟨P[i]'(by omega),List.getElem?_eq_getElem _,?_⟩;have:=h.mem i _ (List.getElem?_eq_getElem (by omega));rw[hi] at this;exact Option.some.inj this
theorem i7.add {P Q:List Nat} {seen:List Bool} (h:i7 P Q seen) {i:Nat} (hi:seen[i]?=some false):i7 (P.set i Q.length) (Q++[i]) (seen.set i true):=by
 have hl:=cq hi;have qY:=h.len;refine⟨by simp[qY],fun j p hj=>?_,?_,by rw[List.length_set];exact h.small⟩
 ·by_cases hij:j=i
  ·subst hij;rw[List.getElem?_set_self (by omega)] at hj⊢;cases hj;simp
  ·rw[List.getElem?_set_ne (fun e=>hij e.symm)] at hj⊢;rw[h.mem j p hj]
   congr 2
   rcases Nat.lt_trichotomy p Q.length with hp|hp|hp
   ·rw[List.getElem?_append_left hp]
   ·subst hp;have hne:¬i=j:=fun e=>hij e.symm;simp[hne]
   ·rw[List.getElem?_eq_none (by omega),List.getElem?_eq_none (by simp;omega)]
 ·have h1:=List.length_eq_countP_add_countP (fun b=>b==true) (l:=seen);have h2:=List.length_eq_countP_add_countP (fun b=>b==true) (l:=seen.set i true);have h3:=count_set hi
  have e1:∀l:List Bool,l.countP (fun a=>decide (¬(a==true)=true))=l.count false:=by
   intro l;unfold List.count;congr 1;funext b;cases b<;>rfl
  have e2:∀l:List Bool,l.countP (fun a=>a==true)=l.count true:=fun l=>rfl;rw[e1,e2] at h1 h2;rw[List.length_append,h.cnt];simp only[List.length_set,List.length_cons,List.length_nil] at h2⊢;omega
theorem i7.clear {P Q:List Nat} {seen:List Bool} (h:i7 P Q seen):i7 P [] (List.replicate seen.length false):=by
 refine⟨by rw[List.length_replicate];exact h.len,fun i p hi=>?_,?_,by rw[List.length_replicate];exact h.small⟩
 ·have:=cq hi;have:=h.len;rw[List.getElem?_replicate,if_pos (by omega)];simp
 ·rw[List.count_replicate];simp
theorem i7.lb {P Q:List Nat} {seen:List Bool} (h:i7 P Q seen):Q.length≤4096:=by
 have:=h.cnt;have:=h.small;have:=List.count_le_length (a:=true) (l:=seen);omega
end Go.Proofs.Ytbdnabmmlbiomaa
namespace Go.Proofs.Ytbdnabmmlbiomaa
open Go.V Go
structure KZ where
 pc:Nat
 c:nZ
def IL (t:KZ):List D:=[.int .i64 (t.pc:Nat),.int .i64 (t.c 0),.int .i64 (t.c 1),.int .i64 (t.c 2),.int .i64 (t.c 3),.int .i64 (t.c 4),.int .i64 (t.c 5),.int .i64 (t.c 6),.int .i64 (t.c 7),.int .i64 (t.c 8),.int .i64 (t.c 9)]
def Lk (dn:Bool) (f:nZ) (d:D):List D:=[.bool dn,.int .i64 (f 0),.int .i64 (f 1),.int .i64 (f 2),.int .i64 (f 3),.int .i64 (f 4),.int .i64 (f 5),.int .i64 (f 6),.int .i64 (f 7),.int .i64 (f 8),.int .i64 (f 9),d]
structure Wk where
 seen:List Bool
 dn:Bool
 best:nZ
 rdy:List KZ
def Good (code:List aP) (w w':Wk):Prop:=
 w'.seen.length=w.seen.length∧w'.seen.count false≤w.seen.count false∧w'.rdy.length+w'.seen.count false≤w.rdy.length+w.seen.count false∧∀t∈w'.rdy,t∈w.rdy∨∃i,code[t.pc]?=some i∧i.op=1
theorem Good.refl {code:List aP} {w:Wk}:Good code w w:=⟨rfl,Nat.le_refl _,Nat.le_refl _,fun t h=>.inl h⟩
theorem Good.trans {code:List aP} {a b c:Wk} (h:Good code a b) (k:Good code b c):Good code a c:=
 ⟨k.1.trans h.1,Nat.le_trans k.2.1 h.2.1,Nat.le_trans k.2.2.1 h.2.2.1,fun t ht=>by
  rcases k.2.2.2 t ht with q|q
  ·exact h.2.2.2 t q
  ·exact .inr q⟩
theorem Good.step {code:List aP} {w w':Wk} {j:Nat} (hj:w.seen[j]?=some false) (k:Good code ⟨w.seen.set j true,w.dn,w.best,w.rdy⟩ w'):Good code w w':=by
 have hc:=count_set hj;refine Good.trans (b:=⟨w.seen.set j true,w.dn,w.best,w.rdy⟩) ⟨?_,?_,?_,fun t h=>.inl h⟩ k
 ·simp
 ·show(w.seen.set j true).count false≤_;omega
 ·show w.rdy.length+(w.seen.set j true).count false≤_;omega
end Go.Proofs.Ytbdnabmmlbiomaa
namespace Go.Proofs.Ytbdnabmmlbiomaa
open Go.V Go
structure VL where
 dn:Bool
 best:nZ
 td:D
 ths:List KZ
def K4 (l:VL):List D:=Lk l.dn l.best l.td
def Of (l:VL):bT:=.aN l.td 11 (l.ths.map IL)
def MH (A:List bT) (N:Nat) (S st:St) (ks kv:Nat) (p:Pg) (pl:Nat) (ld:D) (L:List VL) (H:List bT):Prop:=
 ∃pd qd P Q sn,Has N S st (A++(.box kv (.mem 0 false [p.cd,p.sd,.int .i64 (pl:Nat),ld,.ptr ks 0 0])::.box ks (.mem 0 false [pd,qd])::.aN pd 1 (P.map Jf)::.aN qd 2 (Q.map OE)::.aN ld 12 (L.map K4)::(L.map Of++H)))∧i7 P Q sn∧sn.length=p.code.length
theorem MH.push (A B:List bT) {N:Nat} {S st:St} {ks kv:Nat} {p:Pg} {pl:Nat} {ld:D} {L:List VL} {H:List bT} (h:MH (A++B) N S st ks kv p pl ld L H):MH B N S st ks kv p pl ld L (A++H):=by
 obtain⟨pd,qd,P,Q,sn,hH,cI,KF⟩:=h;refine⟨pd,qd,P,Q,sn,?_,cI,KF⟩;have:=Has.Pz (H:=H) A (B++(.box kv (.mem 0 false [p.cd,p.sd,.int .i64 (pl:Nat),ld,.ptr ks 0 0])::.box ks (.mem 0 false [pd,qd])::.aN pd 1 (P.map Jf)::.aN qd 2 (Q.map OE)::.aN ld 12 (L.map K4)::L.map Of)) (by simpa only[List.append_assoc,List.cons_append] using hH)
 simpa only[List.append_assoc,List.cons_append] using this
end Go.Proofs.Ytbdnabmmlbiomaa
namespace Go.Proofs.Ytbdnabmmlbiomaa
open Go.V Go
structure PL where
 dn:Bool
 best:nZ
 ths:List KZ
def PL.ok (n:Nat) (l:PL):Prop:=(∀t∈l.ths,t.pc<n)∧l.ths.length≤1000
end Go.Proofs.Ytbdnabmmlbiomaa
namespace Go.Proofs.Ytbdnabmmlbiomaa
open Go.V Go
def VL.pl (l:VL):PL:=⟨l.dn,l.best,l.ths⟩
theorem MH.mono {A:List bT} {N:Nat} {S st:St} {ks kv:Nat} {p:Pg} {pl:Nat} {ld:D} {L:List VL} {H:List bT} (n:Nat) (h:MH A N S st ks kv p pl ld L H):MH (A.drop n) N S st ks kv p pl ld L H:=by
 obtain⟨pd,qd,P,Q,sn,hH,cI,KF⟩:=h;refine⟨pd,qd,P,Q,sn,?_,cI,KF⟩
 rcases Nat.le_total n A.length with hn|hn
 ·have:=hH.drop n
  rwa [List.drop_append_of_le_length hn] at this
 ·have:=hH.drop A.length;rw[List.drop_append_of_le_length (Nat.le_refl _),List.drop_length] at this;rw[List.drop_eq_nil_of_le hn];exact this
end Go.Proofs.Ytbdnabmmlbiomaa
namespace Go.Proofs.Ytbdnabmmlbiomaa
open Go.V Go
structure Kw (p q:Pg):Prop where
 ok:q.ok
 code:q.code=p.code.map jL
 aO:q.aO=p.aO
theorem Kw.right {p q:Pg} (h:Kw p q) (hR:eZ p):eZ q:=(tq h.code h.aO).2 hR
end Go.Proofs.Ytbdnabmmlbiomaa
namespace Go.Proofs.Ytbdnabmmlbiomaa
open Go.V Go
structure AM (N:Nat) (S:St) (kv ks:Nat) (p:Pg) (pl:Nat) (ld:D) (L:List VL):Prop where
 lt:kv<N
 le:N≤S.bs.length
 at_:S.bs[kv]?=some (.mem 0 false [p.cd,p.sd,.int .i64 (pl:Nat),ld,.ptr ks 0 0])
 ld:Arg N S 12 ld (L.map K4)
 td:∀l∈L,Arg N S 11 l.td (l.ths.map IL)
 ksl:ks<N
theorem AM.box {N:Nat} {S st:St} {H:List bT} {kv ks:Nat} {p:Pg} {pl:Nat} {ld:D} {L:List VL} (h:AM N S kv ks p pl ld L) (hH:Has N S st H):st.bs[kv]?=some (.mem 0 false [p.cd,p.sd,.int .i64 (pl:Nat),ld,.ptr ks 0 0]):=by
 rw[hH.ex.low kv h.lt];exact h.at_
theorem AM.refs {N:Nat} {S st:St} {H:List bT} {kv ks:Nat} {p:Pg} {pl:Nat} {ld:D} {L:List VL} (h:AM N S kv ks p pl ld L) (hp:p.ok) (hH:Has N S st H):V.refs [p.cd,p.sd,.int .i64 (pl:Nat),ld,.ptr ks 0 0]≤st.bs.length:=by
 have h1:=hp.c.ref;have h2:=hp.s.ref;have h3:=h.ld.2;have h4:=h.ksl;have h5:=h.le;have h6:=hH.ex.len;simp only[V.refs,D.ref,h1,h2];omega
theorem AM.to {N:Nat} {S st:St} {H:List bT} {kv ks:Nat} {p:Pg} {pl:Nat} {ld:D} {L:List VL} (h:AM N S kv ks p pl ld L) (hH:Has N S st H) (o:Nat):iw st (.ptr kv 0 o) ([p.cd,p.sd,.int .i64 (pl:Nat),ld,.ptr ks 0 0].drop o):=
 .inl ⟨kv,0,o,false,_,rfl,St.mem_of (by rw[hH.ex.low kv h.lt];exact h.at_),List.take_length ..⟩
theorem MH.ro {N ks kv:Nat} {S s0:St} {H:List bT} {p:Pg} {pl:Nat} {ld:D} {L:List VL} (hM:MH [] N S s0 ks kv p pl ld L H):s0.ro≤s0.bs.length:=by
 obtain⟨pd,qd,P,Q,sn,hH,QY,KF⟩:=hM;rw[hH.ex.ro];exact Nat.le_trans hH.eS (Nat.le_trans hH.hN hH.ex.len)
end Go.Proofs.Ytbdnabmmlbiomaa
namespace Go.Proofs.Ytbdnabmmlbiomaa
open Go.V Go
theorem bh {f:nZ} {i:Nat} (hi:i<10):cS pv 3 ((aH f).drop (0+i*1))=some (.int .i64 (f i)):=by
 match i,hi with
 |0,_=>rfl
 |1,_=>rfl
 |2,_=>rfl
 |3,_=>rfl
 |4,_=>rfl
 |5,_=>rfl
 |6,_=>rfl
 |7,_=>rfl
 |8,_=>rfl
 |9,_=>rfl
theorem bR {st:St} {k i:Nat} (hi:i<10):(bB pv 49 (.ptr k 0 0) (.int .i64 (i:Nat)) st).map (fun d=>(d,st))=some (.ptr k 0 (0+i*1),st):=by
 show Option.map _ (if(0:Int)≤(i:Nat)∧((i:Nat):Int)<((10:Nat):Int) then some (D.ptr k 0 (0+((i:Nat):Int).toNat*1)) else none)=_;rw[if_pos ⟨by omega,by omega⟩];rfl
end Go.Proofs.Ytbdnabmmlbiomaa
