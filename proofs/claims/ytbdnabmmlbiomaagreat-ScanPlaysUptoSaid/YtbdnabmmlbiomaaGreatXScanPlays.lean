import Derived.Test.YtbdnabmmlbiomaaGreatXGQp
import Derived.Test.YtbdnabmmlbiomaaGreatXGUo
import Derived.Test.YtbdnabmmlbiomaaGreatXGUq
import Derived.Test.YtbdnabmmlbiomaaGreatRows
import Derived.WalkKit
import Derived.ProofKit
import Derived.OpenShut
import Derived.JoinedCond
import Derived.ChangeOld
set_option maxRecDepth 100000
set_option maxHeartbeats 4000000
set_option linter.unusedSimpArgs false
set_option linter.unusedVariables false
namespace Go.Proofs.YtbdnabmmlbiomaaGreat.scanPlays
open Go.ChangeShapes Go.WideShapes Go.ChangeAt Go.RowKit Go.V
def cx (fr:Go.V.Fr) (k:Nat):Go.V.D:=Go.V.nth .bp fr.loc k
theorem zh {N:Nat} {S:St} {y:D} {c r:List UInt8} (h:eE y 1 (((byteCells (c++r)).take (byteCells c).length).drop 0)):Arg N S 1 y (byteCells c):=by
 have h9:=h.arg N S;unfold byteCells at h9;rw[List.drop_zero,List.map_append,List.take_left] at h9;exact h9
theorem law {s0:St} (x:D) (ps:List (List UInt8)) (hx:eE x 1 (ps.map AA)) (iq:ps.length≤1048576∧∀b∈ps,b.length≤1048576) (y:D) (b:List UInt8) (hy:eE y 1 (byteCells b)) (hbl:b.length≤1048576):Ev pv 5 [x,y] s0 (.bool true) s0:=by
 have xA:∀st,Ev pv 59 [] st (.agg (aF b4)) st:=fun st=>Ev.j6 rfl rfl;have L_:∀st,Ev pv 67 [] st (.agg (aF b4)) st:=fun st=>Ev.j6 rfl rfl;refine Ev.iS rfl fi5 rfl rfl rfl ?_;dsimp only[u3,u4,List.length,Nat.reduceSub,Nat.reduceAdd,w1,w2];obtain⟨bT,hF,hH⟩:=ri s0;generalize ag .ro s0=S at*;refine qq<|qj fun K hK=>qm ?_;refine qe hK ?_;obtain⟨y2,Bs,uZ⟩:=Bt (s0:=S) hy 80;refine qq<|qj fun K hK=>qm ?_;refine qv (Bs) ?_;refine qm ?_;refine qe hK ?_
 obtain⟨c,TG⟩:∃c,b.take 80=c:=⟨_,rfl⟩
 have hcl:c.length≤80:=by rw[←TG,List.length_take];omega
 rw[TG] at uZ;clear TG Bs hy hbl;obtain⟨_,aK,p,ok,rfl,hp,hR⟩:=Bc (s0:=S) ((hx.arg s0.bs.length S).rows hH) iq.1 iq.2;have Lo:=hR.cl;have L6:=hR.sl;have U0:∀{N S st H},S.flr≤N→Has N S st H→_:=fun{N S st H} hF hH=>Fe (N:=N) (S:=S) (s0:=st) (H:=H) xA hF hp hR hH;have SP:∀st,_:=fun st=>KC (s0:=st) L_ hp hR;have hrb:∀st x h pl ls c,_:=fun st x h pl ls c=>CB (s0:=st) (x:=x) (h:=h) (pl:=pl) (ls:=ls) (c:=c) L_ hp hR;have hre:∀st x h pl ls,_:=fun st x h pl ls=>tO (s0:=st) (x:=x) (h:=h) (pl:=pl) (ls:=ls) L_ hp hR;simp only[mJ] at SP;have hc:=hp.c.arg s0.bs.length S;have hya:=uZ.arg s0.bs.length S;have QJ:=aG c;unfold Pg.d at*;refine qq<|qj fun K hK=>qm ?_;refine qv (aK) ?_;refine qm ?_;refine qg ?_;refine qg ?_;refine qa hH fun k5 st Aa hH=>?_;refine qS hH aB fun st hH=>?_;dsimp only[u2,u1,u3,u4,setMany,u5,u6,D.cells,Nat.reduceAdd,Pg.cs] at hH;refine qm ?_;refine qe hK<|qq<|qj fun K hK=>?_;refine aa.aT (m:=2) hH rfl (ev rfl) (by exact aB) (by dsimp only[List.drop_succ_cons,List.drop_zero,List.take_succ_cons,List.take_zero,Pg.cs]<;>rfl) rfl rfl (ah rfl _) ?_;obtain⟨_,st,aK,kS,kd,kv,ks,q,ld,L,rfl,hq,hL,hM⟩:=U0 hF hH;refine qv aK ?_;refine qm ?_;refine qg ?_;refine qg ?_;refine qm ?_;refine qm ?_;refine qe hK ?_;obtain⟨pd,qd,P,Q,sn,js,hH,bc,ec,hl⟩:=SH.pull [_] (H:=[]) hM;dsimp only[u3,u4] at hH
 cases ok with
 |false=>
  have bj:(!false)=true:=rfl;refine qq<|qq<|ab.kB 34 (.bool true) [] ?_ (fun ff tmp hU=>?_)
  ·refine qm ?_;refine qg ?_;refine qm ?_;refine qs ?_ (hg:=wn bj);refine qs ?_ (hg:=wn bj);refine qt bj ?_;refine qm ?_;refine qs ?_;refine qs ?_;refine qg ?_;refine aa.nil (c_ ?_ ?_)
   ·dsimp only[aR,List.foldl,nth,u2,u1]
    all_goals(first|rfl|simp)
   ·dsimp only[Fr.aj,Fr.put,Fr.clean,Fr.ev,Fr.get,nth,V.look,u1,u2,v1,v2,v3,v4,v5,v6,v7,List.length,u3,u4,Nat.reduceSub,Nat.reduceAdd,List.map]
    all_goals(first|rfl|(simp[bj];done)|(simp_all;done)|(simp[bj];omega)|(simp_all;omega))
  dsimp only[aR,List.foldl,nth,u2,u1];refine qB ?_;refine qq<|qj fun K hK=>qm ?_;refine qg ?_;refine qm ?_;refine qv (Ev.j6 rfl rfl) ?_ (hg:=wi bj);refine qt bj ?_;refine qm ?_;refine qe hK<|ab.ret ⟨rx,_,rfl,rl bT hH (rfl)⟩
 |true=>
  have bj:(!true)=false:=rfl;refine qq<|qq<|ab.kB 34 (.bool false) [] ?_ (fun ff tmp hU=>?_)
  ·refine qm ?_;refine qg ?_;refine qm ?_;refine qm ?_ (hg:=wi bj);refine qg ?_ (hg:=wi bj);refine qu bj ?_;refine qm ?_;refine aa.two 31 rfl (fun eP=>?_) (fun eP=>?_)
   ·refine qs ?_ (hg:=wn eP);refine qs ?_ (hg:=wn eP);refine qt eP ?_;refine aa.nil (c_ ?_ ?_)
    ·dsimp only[aR,List.foldl,nth,u2,u1]
     all_goals(first|rfl|simp)
    ·dsimp only[Fr.aj,Fr.put,Fr.clean,Fr.ev,Fr.get,nth,V.look,u1,u2,v1,v2,v3,v4,v5,v6,v7,List.length,u3,u4,Nat.reduceSub,Nat.reduceAdd,List.map]
     all_goals(simp[bj,eP];done)
   ·refine qm ?_ (hg:=wi eP);refine qg ?_ (hg:=wi eP);refine qu eP ?_;refine aa.nil (c_ ?_ ?_)
    ·dsimp only[aR,List.foldl,nth,u2,u1]
     all_goals(first|rfl|simp)
    ·dsimp only[Fr.aj,Fr.put,Fr.clean,Fr.ev,Fr.get,nth,V.look,u1,u2,v1,v2,v3,v4,v5,v6,v7,List.length,u3,u4,Nat.reduceSub,Nat.reduceAdd,List.map]
     all_goals(rfl)
  dsimp only[aR,List.foldl,nth,u2,u1];refine qC ?_;refine ab.skip ?_;have Zm:=hq.right hR;have ZJ:q.code.length=p.code.length:=by rw[hq.code,List.length_map]
  have Zj:q.aw.length=p.aw.length:=by rw[hq.aw]
  have hLn:L.length=p.aw.length:=by
   have:=congrArg List.length hL;unfold au at this
   simpa using this
  have TU:∀l∈(au p).map fI,l.ok p.code.length:=AX hR;have ZV:((au p).map fI).length=p.aw.length:=by unfold au;simp
  have K7:=fun(i:Nat)=>pL hR (c.take i) ([],0,(au p).map fI) (by simp) ZV TU;have L7:∀gs pl ls,dY q.code (au q) gs pl ls=dY p.code (au p) gs pl ls:=fun gs pl ls=>by rw[hq.code,hq.au,nI]
  have Tz:∀pl,iU q.code pl=iU p.code pl:=fun pl=>by rw[hq.code,BG]
  simp only[xR] at hrb hre;refine qq<|qj fun K hK=>?_;refine aa.aT (m:=2) hH rfl (ev rfl) (by exact aB) (by dsimp only[List.drop_succ_cons,List.drop_zero,List.take_succ_cons,List.take_zero,Pg.cs]<;>rfl) rfl rfl (ah rfl _) ?_;refine qv ((SP _)) ?_;refine aa.go (d:=.agg [.nul,.int .i64 0,dB ((au p).map fI)]) (st1:=_) rfl rfl rfl (ah rfl _) ?_;refine qa hH fun k9 st U2 hH=>?_;refine qS hH aB fun st hH=>?_;dsimp only[u2,u1,u3,u4,setMany,u5,u6,D.cells,Nat.reduceAdd,Pg.cs] at hH;refine qe hK<|qq<|qq<|qj fun K hK=>qm ?_;refine qe hK ?_;rw[←hL] at hH;refine ab.block<|ab.loop (fun mm fr st=>∃(i pl:Nat) (ld pd qd xd:D) (L:List VL) (P Q:List Nat) (sn:List Bool) (h js:List UInt8),fr.clean=⟨13,[cx fr 0,y2,cx fr 2,cx fr 3,.bool false,.ptr k5 0 0,cx fr 6,.ptr kS 0 0,.int .i64 0,.ptr k9 0 0,.int .i64 (i:Nat),cx fr 11,cx fr 12],[]⟩∧Has s0.bs.length S st (.box k9 (.mem 0 false [xd,.int .i64 (pl:Nat),dB (L.map VL.pl)])::.box k5 (.mem 0 false [p.cd,p.sd])::.box kS (.mem 0 false [.ptr kd 0 0,.ptr kv 0 0])::.box kd (.mem 0 false (ck h js))::(eU ks kv q pl ld pd qd P Q L++[]))∧(i+mm=c.length)∧(cV P Q sn)∧(sn.length=q.code.length)∧((h++js).length=4)∧(eE xd 1 (byteCells h))∧(cE h=true∨h=[])∧(dz p.code (au p) (c.take i) ([],0,(au p).map fI)=(h,pl,L.map VL.pl))) (c.length) ?_ ?_
  ·exact⟨0,0,ld,pd,qd,.nul,L,P,Q,sn,[],js,rfl,hH,by omega,bc,ec,hl,(.inl ⟨rfl,rfl⟩),(.inr rfl),(by rw[hL];rfl)⟩
  rintro mm fr st ⟨i,pl,ld,pd,qd,xd,L,P,Q,sn,h,js,hfr,hH,hi,bc,ec,hl,VP,QH,hX⟩;rw[hfr];clear hfr;generalize cx fr=ee;clear fr;obtain⟨g1,g2,g3,g4⟩:=K7 i;rw[hX] at g1 g2 g3 g4;simp only at g1 g2 g3 g4;have hil:(c.take i).length≤80:=by rw[List.length_take];omega
  have hLn:L.length=p.aw.length:=by rw[←g3,List.length_map]
  have hqs:L.length=q.aw.length:=by omega
  have TR:∀l∈L,l.pl.ok q.code.length:=by rw[ZJ];exact gp g4
  have hcx:=VP.cells;refine qq<|qq<|qj fun K hK=>qm ?_;refine qm ?_;refine qn ?_;refine qg ?_;refine qe hK ?_;rw[QJ]
  by_cases hlt:i<c.length
  ·have Xi:decide (((i:Nat):Int)<((c.length:Nat):Int))=true:=by rw[decide_eq_true_eq];omega
   refine qD rfl (by rw[Xi]) ?_;refine ab.skip<|qq<|ab.block ?_
   obtain⟨z,gL⟩:∃z,c[i]?=some z:=⟨c[i]'hlt,List.getElem?_eq_getElem _⟩
   have gJ:=tv gL;have Ds:c.take (i+1)=c.take i++[z]:=by rw[List.take_add_one,gL];rfl
   have RB:dz p.code (au p) (c.take (i+1)) ([],0,(au p).map fI)=lX p.code (au p) (h,pl,L.map VL.pl) z:=by rw[Ds,pK,hX]
   obtain⟨k1,k2,k3,k4⟩:=K7 (i+1);have DW:=vw p.code (au p) (h,pl,L.map VL.pl) z;rw[RB] at k1 k2 k3 k4;have aa8:(c.take (i+1)).length≤80:=by rw[List.length_take];omega
   unfold lX at RB DW k1 k2 k3 k4;simp only at RB DW k1 k2 k3 k4;obtain⟨_,st1,aK,rfl,ld1,L1,Lu,hM⟩:=vz (c:=z) xA hF hq.ok Zm (by omega) g1 hqs TR (SH.push (A:=[_,_]) (H:=[]) ⟨pd,qd,P,Q,sn,js,hH,bc,ec,hl⟩);rw[L7] at Lu hM;have Qd:=fun st=>hrb st xd h pl (L.map VL.pl) z VP g1 (by omega) g3 g4;generalize hG:dY p.code (au p) (cD h z).1 pl (L.map VL.pl)=G at*;obtain⟨PE,ls1⟩:=G;generalize hBS:cD h z=B at*;obtain⟨told,h1⟩:=B;simp only at Lu hM Qd RB DW k1 k2 k3 k4;rw[←Lu] at Qd RB k3 k4;obtain⟨pd,qd,P,Q,sn,js,px,bc,ec,hl⟩:=SH.pull [_,_] (H:=[]) hM;dsimp only[u3,u4] at px;refine qq<|qj fun K hK=>qm ?_;refine qm ?_;refine qm ?_;refine qr fun p52 Wq=>?_;refine qR ?_;have hH:=px;refine qv aK ?_;refine qe hK<|qq<|qj fun K hK=>?_;refine aa.aT (m:=2) hH rfl (ev rfl) (by exact bF) (by dsimp only[List.drop_succ_cons,List.drop_zero,List.take_succ_cons,List.take_zero,Pg.cs]<;>rfl) rfl rfl (ah rfl _) ?_;refine aa.aT (m:=3) hH rfl (ev rfl) (by exact aB) (by dsimp only[List.drop_succ_cons,List.drop_zero,List.take_succ_cons,List.take_zero,Pg.cs]<;>rfl) rfl rfl (ah rfl _) ?_;refine qm ?_;refine qm ?_;refine qr fun p59 Wn=>?_;refine qR ?_;refine qv ((Qd _)) ?_;refine qS hH aB fun st hH=>?_;dsimp only[u2,u1,u3,u4,setMany,u5,u6,D.cells,Nat.reduceAdd,Pg.cs] at hH;refine qe hK ?_
   have hM1:SH [_,_] s0.bs.length S st kS kd kv ks q PE ld1 L1 h1 []:=⟨pd,qd,P,Q,sn,js,hH,bc,ec,hl⟩
   obtain⟨js2,Va⟩:=(SH.push (A:=[_,_]) (H:=[]) hM1).as;have aba:L1.length=p.aw.length:=by rw[←k3,List.length_map]
   have Mj:∀l∈L1,l.pl.ok p.code.length:=gp k4;obtain⟨_,st2,uB,rfl,wB⟩:=vx hq.ok (by omega) (CK Mj) Va;rw[wB] at uB;clear wB st2;obtain⟨_,st2,DR,rfl,wB⟩:=Cq xA hq.ok Zm (by omega) (by omega) (by rw[ZJ];exact Mj) DW k1 Va;rw[wB] at DR;clear wB st2;rw[L7,Tz] at DR;have SM:=fun st=>vq (s0:=st) (x:=dG h1) (y:=dG h1) (h:=h1) (pl:=PE) (L:=L1.map VL.pl) (iv h1) (iv h1) (by omega) (by rw[List.length_map];omega) (fun l hl=>(k4 l hl).2);have Wa:=fun st=>hre st (dG h1) h1 PE (L1.map VL.pl) (iv h1) k1 (by omega) k3 k4;simp only[xR] at uB SM;obtain⟨oZ,jo⟩:=pj hR (gN h1.length) PE (L1.map VL.pl) k3 k4;generalize hE:(dY p.code (au p) (gN h1.length) PE (L1.map VL.pl)).2.map (iU p.code (dY p.code (au p) (gN h1.length) PE (L1.map VL.pl)).1)=E at*;have hEl:E.length=p.aw.length:=by rw[←hE,List.length_map];exact oZ
   have hEt:∀l∈E,l.cT.length≤1000:=fun l hl=>by
    rw[←hE] at hl;obtain⟨x,_,rfl⟩:=List.mem_map.1 hl;exact Nat.zero_le _
   have hB:=hH;have bd:(!true)=false:=rfl;change ab _ _ _ _ _ _;refine qq ?_;generalize hK:aI _ _ _ _=K;refine ab.oU rfl ?_;refine bL.cons ?_;refine qm ?_;refine aa.nil ⟨rfl,?_⟩;refine bL.cons ?_;refine aa.iH rfl rfl uB (ah rfl _) ?_;refine aa.nil ⟨rfl,?_⟩;refine bL.cons ?_;refine aa.aT (m:=3) hH rfl (ev rfl) (by exact aB) (by dsimp only[List.drop_succ_cons,List.drop_zero,List.take_succ_cons,List.take_zero,Pg.cs]<;>rfl) rfl rfl (ah rfl _) ?_;refine aa.nil ⟨by exact Bool.and_eq_true_iff.2 ⟨rD rfl rfl (hB.at aB) (hB.at aB),rfl⟩,?_⟩;refine bL.cons ?_;refine qv ((SM _)) ?_;refine aa.nil ⟨rfl,?_⟩;refine bL.cons ?_;refine qg ?_;refine aa.nil ⟨rfl,?_⟩;refine bL.cons ?_;refine qm ?_;refine aa.nil ⟨rfl,?_⟩;refine bL.cons ?_;refine qm ?_ (hg:=wi bd);refine aa.nil ⟨rfl,?_⟩;refine bL.cons ?_;refine aa.iH (aD rfl rfl rfl bd) rfl DR (ah rfl _) ?_;refine aa.nil ⟨rfl,?_⟩;refine bL.cons ?_;refine aa.aT (m:=2) hH (aD rfl rfl rfl bd) (ev rfl) (by exact bF) (by dsimp only[List.drop_succ_cons,List.drop_zero,List.take_succ_cons,List.take_zero,Pg.cs]<;>rfl) rfl rfl (ah rfl _) ?_;refine aa.nil ⟨by exact Bool.and_eq_true_iff.2 ⟨rD rfl rfl (hB.at bF) (hB.at bF),rfl⟩,?_⟩;refine bL.cons ?_;refine aa.aT (m:=3) hH (aD rfl rfl rfl bd) (ev rfl) (by exact aB) (by dsimp only[List.drop_succ_cons,List.drop_zero,List.take_succ_cons,List.take_zero,Pg.cs]<;>rfl) rfl rfl (ah rfl _) ?_;refine aa.nil ⟨by exact Bool.and_eq_true_iff.2 ⟨rD rfl rfl (hB.at aB) (hB.at aB),rfl⟩,?_⟩;refine bL.cons ?_;refine qv ((Wa _)) ?_ (hg:=wi bd);refine aa.nil ⟨rfl,?_⟩;refine bL.cons ?_;refine qv (wm ((jI E).rows _) ((jI E).rows _) (j_ E) (j_ E) (by omega) hEt) ?_ (hg:=wi bd);refine aa.nil ⟨rfl,?_⟩;refine bL.cons ?_;refine qg ?_ (hg:=wi bd);refine aa.nil ⟨rfl,?_⟩;refine bL.cons ?_;refine qu bd ?_;refine aa.nil ⟨rfl,?_⟩;refine bL.nil ?_;subst hK;refine qC ?_;refine ab.skip<|qj fun K hK=>qm ?_;refine qA ?_;refine qm ?_;refine qe hK ?_;exact⟨mm-1,by omega,⟨i+1,PE,ld1,pd,qd,dG h1,L1,P,Q,sn,h1,js,rfl,hH,by omega,bc,ec,hl,(iv h1),DW,RB⟩⟩
  ·have Xi:decide (((i:Nat):Int)<((c.length:Nat):Int))=false:=by rw[decide_eq_false_iff_not];omega
   refine qE rfl (by rw[Xi]) ?_;refine ab.exit ?_;have Ds:c.take i=c:=List.take_of_length_le (by omega);rw[Ds] at hX;have dX:=fun st=>Ct (st:=st) (x:=y2) (b:=c) (m:=77) (uZ.rows st) (by omega);refine qq<|qj fun K hK=>qm ?_;refine qv ((dX _)) ?_;refine qm ?_;refine qe hK<|qq<|qj fun K hK=>?_;refine aa.aT (m:=2) hH rfl (ev rfl) (by exact bF) (by dsimp only[List.drop_succ_cons,List.drop_zero,List.take_succ_cons,List.take_zero,Pg.cs]<;>rfl) rfl rfl (ah rfl _) ?_;obtain⟨_,st,aK,kS2,VG,pt,oW,q2,uY,L2,rfl,wG,Lt,ZO⟩:=U0 hF hH;refine qv aK ?_;refine qm ?_;refine qg ?_;refine qg ?_;refine qm ?_;refine qm ?_;refine qe hK ?_;have hM3:=SH.pull [_,_] (H:=_) ZO;have hH:=hM3.has;refine qq<|qq<|ab.kB 88 (.bool false) [] ?_ (fun ff tmp hU=>?_)
   ·refine qm ?_;refine qg ?_;refine qm ?_;refine aa.two 85 rfl (fun bj=>?_) (fun bj=>?_)
    ·refine qs ?_ (hg:=wn bj);refine qs ?_ (hg:=wn bj);refine qt bj ?_;refine aa.nil (c_ ?_ ?_)
     ·dsimp only[aR,List.foldl,nth,u2,u1]
      all_goals(first|rfl|simp)
     ·dsimp only[Fr.aj,Fr.put,Fr.clean,Fr.ev,Fr.get,nth,V.look,u1,u2,v1,v2,v3,v4,v5,v6,v7,List.length,u3,u4,Nat.reduceSub,Nat.reduceAdd,List.map]
      all_goals(simp[bj];done)
    ·refine qm ?_ (hg:=wi bj);refine qg ?_ (hg:=wi bj);refine qu bj ?_;refine aa.nil (c_ ?_ ?_)
     ·dsimp only[aR,List.foldl,nth,u2,u1]
      all_goals(first|rfl|simp)
     ·dsimp only[Fr.aj,Fr.put,Fr.clean,Fr.ev,Fr.get,nth,V.look,u1,u2,v1,v2,v3,v4,v5,v6,v7,List.length,u3,u4,Nat.reduceSub,Nat.reduceAdd,List.map]
      all_goals(rfl)
   dsimp only[aR,List.foldl,nth,u2,u1];refine qC ?_;refine ab.skip ?_;have ZB:=iv (c++List.replicate 80 77);have ml:(byteCells c).length≤(byteCells (c++List.replicate 80 77)).length:=by rw[aG,aG];simp
   have We:=wG.right hR;have Xf:q2.code.length=p.code.length:=by rw[wG.code,List.length_map]
   have Xw:L2.length=q2.aw.length:=by
    have:=congrArg List.length Lt;rw[List.length_map,ZV] at this;rw[wG.aw];exact this
   have D2:∀l∈L2,l.pl.ok q2.code.length:=by rw[Xf];exact gp (by rw[Lt];exact TU)
   have V5:∀b x,dz q2.code (au q2) b x=dz p.code (au p) b x:=fun b x=>by rw[wG.code,wG.au,xP]
   refine qq<|qj fun K hK=>qm ?_;refine qm ?_;refine qm ?_;refine qn ?_;refine aa.CI rfl (ev rfl) (by assumption) rfl rfl (lP (by omega)) (fun _=>(ah rfl _)) (fun y93 VN=>?_);have VM:=zh (N:=s0.bs.length) (S:=S) VN;obtain⟨_,st,aK,rfl,ld3,L3,EX,U8⟩:=Cp (b:=c) xA hF wG.ok We VM (by omega) (by omega) (by simp) Xw D2 ZO;rw[V5,Lt,hX] at EX U8;have hH:=(SH.pull [_,_] (H:=_) U8).has;refine qv aK ?_;refine qe hK ?_;simp only at EX U8;obtain⟨js2,Va⟩:=U8.as;have abc:L3.length=p.aw.length:=by rw[←g3,←EX,List.length_map]
   have D1:∀l∈L3,l.pl.ok p.code.length:=gp (by rw[EX];exact g4);obtain⟨_,st2,uB,rfl,wB⟩:=vx wG.ok (by omega) (CK D1) Va;rw[wB,EX] at uB;clear wB st2;have SM:=fun st=>vq (s0:=st) (x:=dG h) (y:=xd) (h:=h) (pl:=pl) (L:=L.map VL.pl) (iv h) VP (by omega) (by rw[List.length_map];omega) (fun l hl=>(g4 l hl).2);have EV:=fun st=>Bg (st:=st) (x:=dG (c++List.replicate 80 77)) (y:=y2) (b:=c) (m:=77) (tu st _) (uZ.rows st) (by omega);simp only[xR] at uB SM;have hB:=hH;have fg:true=true:=rfl;have cH:true=true:=rfl;change ab _ _ _ _ _ _;refine qq ?_;generalize hK:aI _ _ _ _=K;refine ab.oU rfl ?_;refine bL.cons ?_;refine qm ?_;refine aa.nil ⟨rfl,?_⟩;refine bL.cons ?_;refine aa.iH rfl rfl uB (ah rfl _) ?_;refine aa.nil ⟨rfl,?_⟩;refine bL.cons ?_;refine aa.aT (m:=3) hH rfl (ev rfl) (by exact aB) (by dsimp only[List.drop_succ_cons,List.drop_zero,List.take_succ_cons,List.take_zero,Pg.cs]<;>rfl) rfl rfl (ah rfl _) ?_;refine aa.nil ⟨by exact Bool.and_eq_true_iff.2 ⟨rD rfl rfl (hB.at aB) (hB.at aB),rfl⟩,?_⟩;refine bL.cons ?_;refine qv ((SM _)) ?_;refine aa.nil ⟨rfl,?_⟩;refine bL.cons ?_;refine qm ?_;refine aa.nil ⟨rfl,?_⟩;refine bL.cons ?_;refine qm ?_ (hg:=wi fg);refine aa.nil ⟨rfl,?_⟩;refine bL.cons ?_;refine qm ?_ (hg:=wi fg);refine aa.nil ⟨rfl,?_⟩;refine bL.cons ?_;refine qv ((EV _)) ?_ (hg:=wi fg);refine aa.nil ⟨rfl,?_⟩;refine bL.cons ?_;refine qt fg ?_;refine aa.nil ⟨rfl,?_⟩;refine bL.cons ?_;refine qm ?_;refine aa.nil ⟨rfl,?_⟩;refine bL.cons ?_;refine qv (Ev.j6 rfl rfl) ?_ (hg:=wi cH);refine aa.nil ⟨rfl,?_⟩;refine bL.cons ?_;refine qt cH ?_;refine aa.nil ⟨rfl,?_⟩;refine bL.cons ?_;refine qm ?_;refine aa.nil ⟨rfl,?_⟩;refine bL.nil ?_;subst hK;refine ab.ret ⟨rx,_,rfl,rl bT hH (rfl)⟩
theorem own:ownKnob Tryz.prog.godebug=none:=by kernel_rfl
theorem laidOut:laidOutB Tryz.prog=true:=by kernel_rfl
theorem lifted (os:Os) (started:os.Started) (H:Type) (enc:TypeId×Value→H) (F:Stop.Interp):
  ReturnsInHanded {} Tryz.checked os 5 .any ((Rows.OpenSpec.upto Rows.scanPlaysSpec).pre6 enc Tryz.prog Tryz.f5 Rows.scanPlaysUptoRow.domain false) (((Rows.OpenSpec.upto Rows.scanPlaysSpec).at F).post enc Tryz.prog Tryz.f5 false true false false):=by
 refine returnsInHanded_of_cond (C:=Tryz.checked) (s:=Rows.OpenSpec.upto Rows.scanPlaysSpec) (k:=Rows.uptoSmall) rfl own started (by kernel_rfl) Tryz.func5
  (OpenSpec.witness (enc:=enc) (C:=Tryz.checked) (s:=Rows.OpenSpec.upto Rows.scanPlaysSpec) (k:=Rows.uptoSmall) rfl false ⟨#[],#[.slice none 0 0,.slice none 0 0],[]⟩ 8 (by kernel_rfl) (by kernel_rfl) (by kernel_rfl)
   (x:=([.nil,.nil],[],[])) (by kernel_rfl) rfl (by kernel_rfl)) ?_
 intro W base args ds gs before PV hW _ hk _;have hW':=hW;obtain⟨p,q,ZT,hV,rfl,hfz,yI⟩:=hW;have hA:DataW.TrodAll enc Tryz.prog W 0 (fun _=>true) true Tryz.f5.params.toList args.toList ds p:=ZT;rw[Tryz.params5] at hA PV;obtain⟨v0,vs0,d0,ds0,p0,q0,Mi,rfl,rfl,h0,r0⟩:=trodAll_cons hA;obtain⟨v1,vs1,d1,ds1,p1,q1,rfl,rfl,rfl,h1,r1⟩:=trodAll_cons r0;obtain⟨rfl,rfl,rfl⟩:=trodAll_nil r1;obtain rfl:args=#[v0,v1]:=by cases args;simp_all
 obtain⟨rfl,rfl⟩:=trodVars_none hV;simp only[Rows.uptoSmall,List.append_nil,decide_eq_true_eq,Rows.uptoBulkAll] at hk;have i0:=zu h0 (n:=12) (by kernel_rfl) (PV 0 22 v0 rfl rfl);have k0:=h0;have lt0:∀x∈p0,x.block<W.heap.size:=by obtain⟨m,hm⟩:=k0;exact DataW.trod_lt m _ _ _ hm
 obtain⟨y0,b0,mS,sl0,ok0⟩:=Eu (Rd.of h0);have i1:=zu h1 (n:=12) (by kernel_rfl) (PV 1 36 v1 rfl rfl);have k1:=h1;have lt1:∀x∈p1,x.block<W.heap.size:=by obtain⟨m,hm⟩:=k1;exact DataW.trod_lt m _ _ _ hm
 obtain⟨y1,b1,hb1,sl1,ok1⟩:=LK (Rd.of h1)
 have WI:Ev pv 5 [iV d0,iV d1] ⟨[],0,0⟩ (.bool true) ⟨[],0,0⟩:=by
  rw[mS,hb1];exact law y0 b0 sl0 (ok0 (by omega)) y1 b1 sl1 (ok1 (by omega))
 have WY:∀(i:Nat) c v,[iV d0,iV d1][i]?=some c→[v0,v1][i]?=some v→IR W (fun b=>b<W.heap.size) c v:=by
  intro i c v hc hv
  match i,hc,hv with
  |0,hc,hv=>cases hc;cases hv;exact i0
  |1,hc,hv=>cases hc;cases hv;exact i1
 clear ZT;refine(Be view WI (us:=[v0,v1]) rfl WY).mono fun e W' ⟨he,YE⟩=>?_;subst he;exact⟨_,rfl,_,_,_,[],_,[],hW',trodAll_mk1 (shut_bool Tryz.underlying4 _),(trodAll_cons_mk (Below.trod laidOut (by kernel_rfl) (of_decide_eq_true (by kernel_rfl)) k0 YE lt0) (trodAll_cons_mk (Below.trod laidOut (by kernel_rfl) (of_decide_eq_true (by kernel_rfl)) k1 YE lt1) trodAll_mk0)),rfl,YE.frame _,fun h=>by cases h⟩
theorem proved:Rows.ScanPlaysUptoSaid:=
 OpenClaim.holds_of_cond 5 Tryz.f5 rfl rfl rfl rfl rfl rfl rfl ⟨rfl,rfl,rfl,rfl,rfl⟩ rfl rfl rfl rfl rfl (by kernel_rfl) Tryz.func5 (by kernel_rfl)
  (of_decide_eq_true (by kernel_rfl)) (by unfold Func.isWrapper;rw[if_neg (by decide+kernel)];exact⟨rfl,rfl⟩)
  (fun os started H enc _ F=>lifted os started H enc F)
end Go.Proofs.YtbdnabmmlbiomaaGreat.scanPlays
#print axioms Go.Proofs.YtbdnabmmlbiomaaGreat.scanPlays.proved
