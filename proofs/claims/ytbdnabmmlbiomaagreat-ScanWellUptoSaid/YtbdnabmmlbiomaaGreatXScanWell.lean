/- ScanWell, for arguments of bulk at most 1048576: it answers true. -/
import Derived.Test.YtbdnabmmlbiomaaGreatXGQp
import Derived.Test.YtbdnabmmlbiomaaGreatXGSg
import Derived.Test.YtbdnabmmlbiomaaGreatRows
import Derived.WalkKit
import Derived.ProofKit
import Derived.OpenShut
import Derived.JoinedCond
import Derived.ChangeOld
set_option maxRecDepth 100000
set_option maxHeartbeats 4000000
set_option linter.unusedSimpArgs false
set_option linter.unusedVariables false
namespace Go.Proofs.YtbdnabmmlbiomaaGreat.scanWell
open Go.ChangeShapes Go.WideShapes Go.ChangeAt Go.RowKit Go.V
def da (fr:Go.V.Fr) (k:Nat):Go.V.D:=Go.V.nth .bD fr.loc k
theorem Ma {p:Pg} {place:Int} {L:List GV} {x:D} (hx:C9 x L) (hW:dJ p place L):mJ (L.map gr) ((L.map GV.v).map VL.pl):=by
 refine⟨by simp,fun i l h=>?_⟩;rw[List.getElem?_map,List.getElem?_map] at h
 cases hg:L[i]? with
 |none=>rw[hg] at h;cases h
 |some g=>
  rw[hg] at h;cases h;refine⟨g.td,?_,sI hg⟩;have h1:=(hx.th g (List.mem_of_getElem? hg)).1;have h2:=hW.cells (List.mem_of_getElem? hg);rw[←h2] at h1;exact h1
theorem law {s0:St} (x:D) (ps:List (List UInt8)) (hx:dr x 1 (ps.map y6)) (ib:ps.length≤1048576∧∀b∈ps,b.length≤1048576) (c:Sc) (hc:c.ok):Ev pv 7 [x,c.d] s0 (.bool true) s0:=by
 obtain⟨y,h,place,lx,L⟩:=c;obtain⟨hy,z6,MI,hLn,tv⟩:=hc;simp only at hy z6 MI hLn tv;have zW:∀st,Ev pv 59 [] st (.agg (ay bX)) st:=fun st=>Ev.jj rfl rfl;have R3:∀st,Ev pv 67 [] st (.agg (ay bX)) st:=fun st=>Ev.jj rfl rfl;unfold Sc.d;have mW:=hy.cells;have jJ:=MI.cells;have Tk:=bI h;refine Ev.h_ rfl fi7 rfl rfl rfl ?_;dsimp only[u3,u4,List.length,Nat.reduceSub,Nat.reduceAdd,w1,w2];obtain⟨bt,hF,hH⟩:=ri s0;generalize ah .ro s0=S at*;refine qq<|qj fun K hK=>qb hH fun k3 st qX hH=>?_;refine qm ?_;refine qe hK ?_;obtain⟨_,aL,p,ok,rfl,hp,hR⟩:=Cp (s0:=st) ((hx.arg s0.bs.length S).rows hH) ib.1 ib.2;have RD:=hR.sl;have Dc:=hy.arg s0.bs.length S;have hla:=MI.arg s0.bs.length S;unfold Pg.d at*;refine qq<|qj fun K hK=>qm ?_;refine qv (aL) ?_;refine qm ?_;refine qg ?_;refine qg ?_;refine qa hH fun k5 st yh hH=>?_;refine qS hH av fun st hH=>?_;dsimp only[u2,u1,u3,u4,setMany,u5,u6,D.cells,Nat.reduceAdd,aC,aK,aJ,ay,jr,aw,Pg.cs,bo,gr,fe] at hH;refine qm ?_;refine qe hK ?_
 cases ok with
 |false=>
  have aZ:(!false)=true:=rfl;refine qq<|qq<|ab.dz 30 (.bool true) [] ?_ (fun ff tmp cY=>?_)
  ·refine qm ?_;refine qg ?_;refine qm ?_;refine qs ?_ (hg:=wn aZ);refine qs ?_ (hg:=wn aZ);refine qs ?_ (hg:=wn aZ);refine qs ?_ (hg:=wn aZ);refine qs ?_ (hg:=wn aZ);refine qt aZ ?_;refine qm ?_;refine qs ?_;refine qs ?_;refine qs ?_;refine qs ?_;refine qg ?_;refine aa.nil (aY ?_ ?_)
   ·dsimp only[aB,List.foldl,nth,u2,u1]
    all_goals(first|rfl|simp)
   ·dsimp only[Fr.aj,Fr.put,Fr.clean,Fr.ev,Fr.get,nth,V.look,u1,u2,v1,v2,v3,v4,v5,v6,v7,List.length,u3,u4,Nat.reduceSub,Nat.reduceAdd,List.map]
    all_goals(first|rfl|(simp[aZ];done)|(simp_all;done)|(simp[aZ];omega)|(simp_all;omega))
  dsimp only[aB,List.foldl,nth,u2,u1];refine qB ?_;refine qq<|qj fun K hK=>qv (Ev.jj rfl rfl) ?_;refine qm ?_;refine qe hK<|ab.ret ⟨rx,_,rfl,rl bt hH (rfl)⟩
 |true=>
  have aZ:(!true)=false:=rfl;refine qq<|qq<|ab.dz 30 (.bool (decide (((L.length:Nat):Int)>12)||decide ((((byteCells h).length:Nat):Int)>20))) [] ?_ (fun ff tmp cY=>?_)
  ·refine qm ?_;refine qg ?_;refine qm ?_;refine qp (o:=1) ?_ (hg:=wi aZ);refine qp (o:=2) ?_ (hg:=wi aZ);refine ql hH bh ?_ (hg:=wi aZ);refine qn ?_ (hg:=wi aZ);simp only[List.length_map];refine qg ?_ (hg:=wi aZ);refine qu aZ ?_;refine qm ?_;refine aa.two 25 rfl (fun bV=>?_) (fun bV=>?_)
   ·refine qs ?_ (hg:=wn bV);refine qs ?_ (hg:=wn bV);refine qs ?_ (hg:=wn bV);refine qs ?_ (hg:=wn bV);refine qt bV ?_;refine aa.nil (aY ?_ ?_)
    ·dsimp only[aB,List.foldl,nth,u2,u1]
     all_goals(first|rfl|simp)
    ·dsimp only[Fr.aj,Fr.put,Fr.clean,Fr.ev,Fr.get,nth,V.look,u1,u2,v1,v2,v3,v4,v5,v6,v7,List.length,u3,u4,Nat.reduceSub,Nat.reduceAdd,List.map]
     all_goals(simp[aZ,bV];done)
   ·refine qp (o:=0) ?_ (hg:=wi bV);refine ql hH bh ?_ (hg:=wi bV);refine qn ?_ (hg:=wi bV);refine qg ?_ (hg:=wi bV);refine qu bV ?_;refine aa.nil (aY ?_ ?_)
    ·dsimp only[aB,List.foldl,nth,u2,u1]
     all_goals(first|rfl|simp)
    ·dsimp only[Fr.aj,Fr.put,Fr.clean,Fr.ev,Fr.get,nth,V.look,u1,u2,v1,v2,v3,v4,v5,v6,v7,List.length,u3,u4,Nat.reduceSub,Nat.reduceAdd,List.map]
     all_goals(simp[aZ,bV];done)
  dsimp only[aB,List.foldl,nth,u2,u1];refine qc (fun h0=>?_) (fun h0=>?_)<;>try simp only[cs] at h0
  ·refine qq<|qj fun K hK=>qv (Ev.jj rfl rfl) ?_;refine qm ?_;refine qe hK<|ab.ret ⟨rx,_,rfl,rl bt hH (rfl)⟩
  ·refine ab.skip ?_
   have h0:L.length≤12∧h.length≤20:=by
    simp only[Bool.or_eq_false_iff,decide_eq_false_iff_not] at h0;omega
   obtain⟨Zn,abP⟩:=h0;refine qq<|qq<|qj fun K hK=>qm ?_;refine qe hK<|ab.block<|ab.loop (fun mm fr st=>∃(i:Nat),fr.clean=⟨11,[x,da fr 1,da fr 2,.ptr k3 0 0,da fr 4,.ptr k5 0 0,.bool true,.int .i64 (i:Nat),da fr 8,da fr 9,da fr 10],[]⟩∧Has s0.bs.length S st [.box k5 (.mem 0 false [p.cd,p.sd]),.box k3 (.mem 0 false [y,.int .i64 place,lx])]∧(i+mm=L.length)∧(∀j l,j<i→L[j]?=some l→l.bB.length≤500)) (L.length) ?_ ?_
   ·exact⟨0,rfl,hH,by omega,by intro j l h;omega⟩
   rintro mm fr st ⟨i,hfr,hH,hi,ht⟩;rw[hfr];clear hfr;generalize da fr=ee;clear fr;refine qq<|qq<|qj fun K hK=>qm ?_;refine qp (o:=1) ?_;refine qp (o:=2) ?_;refine ql hH bh ?_;refine qn ?_;simp only[List.length_map];refine qg ?_;refine qe hK ?_;refine ab.cond (by rfl) (fun h1=>?_) (fun h1=>?_)<;>try simp only[decide_eq_true_eq,decide_eq_false_iff_not] at h1
   ·refine ab.skip ?_
    obtain⟨l,hl⟩:∃l,L[i]?=some l:=⟨L[i]'(by omega),List.getElem?_eq_getElem _⟩
    obtain⟨Cw,ng⟩:=tv l (List.mem_of_getElem? hl);have F6:=Cw.arg s0.bs.length S;have gB:=sI hl;refine qq<|ab.block<|qq<|qj fun K hK=>qp (o:=1) ?_;refine qp (o:=2) ?_;refine ql hH bh ?_;refine qm ?_;refine qr fun WI My=>?_;refine qf (fo:=11) fun Xs RP=>?_;refine qR ?_;refine qn ?_;simp only[List.length_map];refine qg ?_;refine qe hK ?_;refine ab.cond (by rfl) (fun h2=>?_) (fun h2=>?_)<;>try simp only[decide_eq_true_eq,decide_eq_false_iff_not] at h2
    ·refine qq<|qj fun K hK=>qv (Ev.jj rfl rfl) ?_;refine qm ?_;refine qe hK<|ab.ret ⟨rx,_,rfl,rl bt hH (rfl)⟩
    ·refine ab.skip<|qj fun K hK=>qm ?_;refine qA ?_;refine qm ?_;refine qe hK ?_;refine⟨mm-1,by omega,⟨i+1,rfl,hH,by omega,?_⟩⟩;intro j l' hj gP
     by_cases he:j=i
     ·subst he;rw[hl] at gP;cases gP;omega
     ·exact ht j l' (by omega) gP
   ·refine ab.exit ?_
    have hG:C9 lx L:=⟨MI,Zn,fun l hl=>by
     obtain⟨j,hj⟩:=List.getElem?_of_mem hl
     exact⟨(tv l hl).1,ht j l (by have:=bC hj;omega) hj⟩⟩
    have Mr:=fun st=>vt (s0:=st) (p:=p) (place:=place) R3 hp hG hy z6;have Ry:=fun st=>DJ (s0:=st) (p:=p) (place:=place) zW hp hG hy z6;have iy:=fun st=>yC (s0:=st) (place:=place) hG hy z6;unfold Pg.d at Mr Ry
    by_cases hW:dJ p place L∧(cF h=true∨h=[])
    ·rw[cD hW] at Mr Ry;obtain⟨hW,Sl⟩:=hW
     have h3:h.length≤3:=by
      rcases Sl with hb|rfl
      ·exact yN hb
      ·simp
     obtain⟨pn,rfl⟩:=Int.eq_ofNat_of_zero_le hW.ge;have aaY:=hW.le;have Vr:=hW.len;have RZ:=fun{st:St} {H:List bJ} (hH:Has s0.bs.length S st H)=>NW zW hF hp (tS.2 hW) hG.told (pj h) Sl h3 hH;unfold Pg.d at RZ;rw[Int.toNat_natCast] at RZ
     have htv:((L.map GV.told).map GV.v).map VL.pl=(L.map GV.v).map VL.pl:=by
      rw[List.map_map,List.map_map,List.map_map];rfl
     rw[htv] at RZ;generalize W0:(L.map GV.v).map VL.pl=To at*;have hok1:=hW.ok (fun l hl=>by have:=(hG.th l hl).2;omega);rw[W0] at hok1;have Zg:To.length=p.ak.length:=by rw[←W0];simpa using Vr
     refine qq<|qj fun K hK=>?_;refine aa.aF (m:=2) hH rfl (ev rfl) (by exact av) (by dsimp only[List.drop_succ_cons,List.drop_zero,List.take_succ_cons,List.take_zero,aC,aK,aJ,ay,jr,aw,Pg.cs,bo,gr,fe]<;>rfl) rfl rfl (ae rfl _) ?_;refine aa.aF (m:=3) hH rfl (ev rfl) (by exact bh) (by dsimp only[List.drop_succ_cons,List.drop_zero,List.take_succ_cons,List.take_zero,aC,aK,aJ,ay,jr,aw,Pg.cs,bo,gr,fe]<;>rfl) rfl rfl (ae rfl _) ?_;refine qv ((Mr _)) ?_;refine qm ?_;refine qe hK<|qq<|qj fun K hK=>?_;refine aa.aF (m:=2) hH rfl (ev rfl) (by exact av) (by dsimp only[List.drop_succ_cons,List.drop_zero,List.take_succ_cons,List.take_zero,aC,aK,aJ,ay,jr,aw,Pg.cs,bo,gr,fe]<;>rfl) rfl rfl (ae rfl _) ?_;refine aa.aF (m:=3) hH rfl (ev rfl) (by exact bh) (by dsimp only[List.drop_succ_cons,List.drop_zero,List.take_succ_cons,List.take_zero,aC,aK,aJ,ay,jr,aw,Pg.cs,bo,gr,fe]<;>rfl) rfl rfl (ae rfl _) ?_;refine qv ((iy _)) ?_;obtain⟨_,st,aL,kS,kd,kv,ks,q,ld,L2,rfl,hq,Ac,hM⟩:=RZ hH;refine qv aL ?_;refine qm ?_;refine qg ?_;refine qg ?_;refine qm ?_;refine qm ?_;refine qe hK ?_;have hM1:=SH.pull [_,_] (H:=[]) hM;have hH:=hM1.has;refine qq<|qq<|qj fun K hK=>?_;refine aa.aF (m:=2) hH rfl (ev rfl) (by exact av) (by dsimp only[List.drop_succ_cons,List.drop_zero,List.take_succ_cons,List.take_zero,aC,aK,aJ,ay,jr,aw,Pg.cs,bo,gr,fe]<;>rfl) rfl rfl (ae rfl _) ?_;refine aa.aF (m:=3) hH rfl (ev rfl) (by exact bh) (by dsimp only[List.drop_succ_cons,List.drop_zero,List.take_succ_cons,List.take_zero,aC,aK,aJ,ay,jr,aw,Pg.cs,bo,gr,fe]<;>rfl) rfl rfl (ae rfl _) ?_;refine qv ((Ry _)) ?_;refine qm ?_;refine qg ?_;refine qe hK<|ab.cond (v:=false) (by dsimp only[Fr.ev,Fr.get,nth,V.look];rfl) (fun h=>by cases h) (fun _=>?_);refine ab.skip<|qq<|qq<|qj fun K hK=>qm ?_;refine qg ?_;refine qe hK<|ab.cond (v:=false) (by dsimp only[Fr.ev,Fr.get,nth,V.look];rfl) (fun h=>by cases h) (fun _=>?_);refine ab.skip ?_;have hqR:=hq.right hR;have hcq:q.code.length=p.code.length:=by rw[hq.code,List.length_map]
     have Ux:∀gs pl ls,gJ q.code (ba q) gs pl ls=gJ p.code (ba p) gs pl ls:=fun gs pl ls=>by rw[hq.code,hq.ba,tZ]
     have Vb:∀pl,jc q.code pl=jc p.code pl:=fun pl=>by rw[hq.code,CP]
     have Zk:L2.length=p.ak.length:=by rw[←Zg,←Ac,List.length_map]
     have Bw:∀l∈L2,l.pl.ok p.code.length:=oO (by rw[Ac];exact hok1);obtain⟨js2,hAS⟩:=hM.as;obtain⟨_,st2,E3,rfl,EI⟩:=DK hq.ok (by omega) (Nr Bw) hAS;rw[EI,Ac] at E3;clear EI st2;obtain⟨_,st2,MS,rfl,EI⟩:=DM zW hq.ok hqR (by omega) (by rw[hq.ak];exact Zk) (by rw[hcq];exact Bw) Sl h3 hAS;rw[EI,Ux,Vb,Ac] at MS;clear EI st2;have hsc:=fun st=>B2 (s0:=st) (x:=je h) (y:=y) (h:=h) (pl:=((pn:Nat):Int)) (pj h) hy z6 (nN To) MI (mR To) (by rw[←W0];exact Ma hG hW) (by omega) (fun l hl=>(hok1 l hl).2)
     have yV:=fun st=>tF (s0:=st) (pl:=pn) R3 hp hR hy h3 (by omega) (V:=L.map GV.v) (by rw[yq];exact MI) (fun l hl=>by
      obtain⟨g,hg,rfl⟩:=List.mem_map.1 hl;have h1:=(hG.th g hg).1;rw[←hW.cells hg] at h1
      exact h1) W0 Zg hok1
     unfold Pg.d at yV;simp only[TB] at E3 hsc;obtain⟨ni,jH⟩:=vj hR (iq h.length) pn To Zg hok1;generalize hE:(gJ p.code (ba p) (iq h.length) pn To).2.map (jc p.code (gJ p.code (ba p) (iq h.length) pn To).1)=E at*;have hEl:E.length=p.ak.length:=by rw[←hE,List.length_map];exact ni
     have hEt:∀l∈E,l.bB.length≤1000:=fun l hl=>by
      rw[←hE] at hl;obtain⟨x,_,rfl⟩:=List.mem_map.1 hl;exact Nat.zero_le _
     have hB:=hH;have aZ:true=true:=rfl;have cM:true=true:=rfl;have bG:true=true:=rfl;have gq:true=true:=rfl;change ab _ _ _ _ _ _;refine qq ?_;generalize hK:bj _ _ _ _=K;refine ab.oK rfl ?_;refine bP.cons ?_;refine qm ?_;refine aa.nil ⟨rfl,?_⟩;refine bP.cons ?_;refine qg ?_;refine aa.nil ⟨rfl,?_⟩;refine bP.cons ?_;refine qm ?_;refine aa.nil ⟨rfl,?_⟩;refine bP.cons ?_;refine qm ?_ (hg:=wi aZ);refine aa.nil ⟨rfl,?_⟩;refine bP.cons ?_;refine qg ?_ (hg:=wi aZ);refine aa.nil ⟨rfl,?_⟩;refine bP.cons ?_;refine qt aZ ?_;refine aa.nil ⟨rfl,?_⟩;refine bP.cons ?_;refine qm ?_;refine aa.nil ⟨rfl,?_⟩;refine bP.cons ?_;refine qm ?_ (hg:=wi cM);refine aa.nil ⟨rfl,?_⟩;refine bP.cons ?_;refine aa.ju (aq rfl rfl rfl cM) rfl E3 (ae rfl _) ?_;refine aa.nil ⟨rfl,?_⟩;refine bP.cons ?_;refine aa.aF (m:=3) hH (aq rfl rfl rfl cM) (ev rfl) (by exact bh) (by dsimp only[List.drop_succ_cons,List.drop_zero,List.take_succ_cons,List.take_zero,aC,aK,aJ,ay,jr,aw,Pg.cs,bo,gr,fe]<;>rfl) rfl rfl (ae rfl _) ?_;refine aa.nil ⟨by exact Bool.and_eq_true_iff.2 ⟨pf rfl rfl (hB.at bh) (hB.at bh),rfl⟩,?_⟩;refine bP.cons ?_;refine qv ((hsc _)) ?_ (hg:=wi cM);refine aa.nil ⟨rfl,?_⟩;refine bP.cons ?_;refine qt cM ?_;refine aa.nil ⟨rfl,?_⟩;refine bP.cons ?_;refine qm ?_;refine aa.nil ⟨rfl,?_⟩;refine bP.cons ?_;refine qm ?_ (hg:=wi bG);refine aa.nil ⟨rfl,?_⟩;refine bP.cons ?_;refine aa.ju (aq rfl rfl rfl bG) rfl MS (ae rfl _) ?_;refine aa.nil ⟨rfl,?_⟩;refine bP.cons ?_;refine aa.aF (m:=2) hH (aq rfl rfl rfl bG) (ev rfl) (by exact av) (by dsimp only[List.drop_succ_cons,List.drop_zero,List.take_succ_cons,List.take_zero,aC,aK,aJ,ay,jr,aw,Pg.cs,bo,gr,fe]<;>rfl) rfl rfl (ae rfl _) ?_;refine aa.nil ⟨by exact Bool.and_eq_true_iff.2 ⟨pf rfl rfl (hB.at av) (hB.at av),rfl⟩,?_⟩;refine bP.cons ?_;refine aa.aF (m:=3) hH (aq rfl rfl rfl bG) (ev rfl) (by exact bh) (by dsimp only[List.drop_succ_cons,List.drop_zero,List.take_succ_cons,List.take_zero,aC,aK,aJ,ay,jr,aw,Pg.cs,bo,gr,fe]<;>rfl) rfl rfl (ae rfl _) ?_;refine aa.nil ⟨by exact Bool.and_eq_true_iff.2 ⟨pf rfl rfl (hB.at bh) (hB.at bh),rfl⟩,?_⟩;refine bP.cons ?_;refine qv ((yV _)) ?_ (hg:=wi bG);refine aa.nil ⟨rfl,?_⟩;refine bP.cons ?_;refine qv (EA ((nN E).rows _) ((nN E).rows _) (mR E) (mR E) (by omega) hEt) ?_ (hg:=wi bG);refine aa.nil ⟨rfl,?_⟩;refine bP.cons ?_;refine qt bG ?_;refine aa.nil ⟨rfl,?_⟩;refine bP.cons ?_;refine qm ?_;refine aa.nil ⟨rfl,?_⟩;refine bP.cons ?_;refine qv (Ev.jj rfl rfl) ?_ (hg:=wi gq);refine aa.nil ⟨rfl,?_⟩;refine bP.cons ?_;refine qt gq ?_;refine aa.nil ⟨rfl,?_⟩;refine bP.cons ?_;refine qm ?_;refine aa.nil ⟨rfl,?_⟩;refine bP.nil ?_;subst hK;refine ab.ret ⟨rx,_,rfl,rl bt hH (rfl)⟩
    ·rw[cQ hW] at Mr Ry;have RZ:=fun{st:St} {H:List bJ} (hH:Has s0.bs.length S st H)=>DL zW hF hp hR hG.told (pj h) z6 (place:=place) (fun hh=>hW ⟨tS.1 hh.1,hh.2⟩) hH;unfold Pg.d at RZ;refine qq<|qj fun K hK=>?_;refine aa.aF (m:=2) hH rfl (ev rfl) (by exact av) (by dsimp only[List.drop_succ_cons,List.drop_zero,List.take_succ_cons,List.take_zero,aC,aK,aJ,ay,jr,aw,Pg.cs,bo,gr,fe]<;>rfl) rfl rfl (ae rfl _) ?_;refine aa.aF (m:=3) hH rfl (ev rfl) (by exact bh) (by dsimp only[List.drop_succ_cons,List.drop_zero,List.take_succ_cons,List.take_zero,aC,aK,aJ,ay,jr,aw,Pg.cs,bo,gr,fe]<;>rfl) rfl rfl (ae rfl _) ?_;refine qv ((Mr _)) ?_;refine qm ?_;refine qe hK<|qq<|qj fun K hK=>?_;refine aa.aF (m:=2) hH rfl (ev rfl) (by exact av) (by dsimp only[List.drop_succ_cons,List.drop_zero,List.take_succ_cons,List.take_zero,aC,aK,aJ,ay,jr,aw,Pg.cs,bo,gr,fe]<;>rfl) rfl rfl (ae rfl _) ?_;refine aa.aF (m:=3) hH rfl (ev rfl) (by exact bh) (by dsimp only[List.drop_succ_cons,List.drop_zero,List.take_succ_cons,List.take_zero,aC,aK,aJ,ay,jr,aw,Pg.cs,bo,gr,fe]<;>rfl) rfl rfl (ae rfl _) ?_;refine qv ((iy _)) ?_;obtain⟨_,st,aL,rfl,hH⟩:=RZ hH;refine qv aL ?_;refine qm ?_;refine qg ?_;refine qg ?_;refine qm ?_;refine qm ?_;refine qe hK<|qq<|qq<|qj fun K hK=>?_;refine aa.aF (m:=2) hH rfl (ev rfl) (by exact av) (by dsimp only[List.drop_succ_cons,List.drop_zero,List.take_succ_cons,List.take_zero,aC,aK,aJ,ay,jr,aw,Pg.cs,bo,gr,fe]<;>rfl) rfl rfl (ae rfl _) ?_;refine aa.aF (m:=3) hH rfl (ev rfl) (by exact bh) (by dsimp only[List.drop_succ_cons,List.drop_zero,List.take_succ_cons,List.take_zero,aC,aK,aJ,ay,jr,aw,Pg.cs,bo,gr,fe]<;>rfl) rfl rfl (ae rfl _) ?_;refine qv ((Ry _)) ?_;refine qm ?_;refine qg ?_;refine qe hK<|ab.cond (v:=false) (by dsimp only[Fr.ev,Fr.get,nth,V.look];rfl) (fun h=>by cases h) (fun _=>?_);refine ab.skip<|qq<|qq<|qj fun K hK=>qm ?_;refine qg ?_;refine qe hK<|ab.cond (v:=true) (by dsimp only[Fr.ev,Fr.get,nth,V.look];rfl) (fun _=>?_) (fun h=>by cases h);have aZ:true=true:=rfl;have cM:true=true:=rfl;refine qq<|qj fun K hK=>qm ?_;refine qg ?_;refine qm ?_;refine qm ?_ (hg:=wi aZ);refine qg ?_ (hg:=wi aZ);refine qt aZ ?_;refine qm ?_;refine qv (Ev.jj rfl rfl) ?_ (hg:=wi cM);refine qt cM ?_;refine qm ?_;refine qe hK<|ab.ret ⟨rx,_,rfl,rl bt hH (rfl)⟩
theorem own:ownKnob Tryz.prog.godebug=none:=by kernel_rfl
theorem laidOut:laidOutB Tryz.prog=true:=by kernel_rfl
theorem lifted (os:Os) (started:os.Started) (H:Type) (enc:TypeId×Value→H) (F:Stop.Interp):
  ReturnsInHanded {} Tryz.checked os 7 .any ((Rows.OpenSpec.upto Rows.scanWellSpec).pre6 enc Tryz.prog Tryz.f7 Rows.scanWellUptoRow.domain false) (((Rows.OpenSpec.upto Rows.scanWellSpec).at F).post enc Tryz.prog Tryz.f7 false true false false):=by
 refine returnsInHanded_of_cond (C:=Tryz.checked) (s:=Rows.OpenSpec.upto Rows.scanWellSpec) (k:=Rows.uptoSmall) rfl own started (by kernel_rfl) Tryz.func7
  (OpenSpec.witness (enc:=enc) (C:=Tryz.checked) (s:=Rows.OpenSpec.upto Rows.scanWellSpec) (k:=Rows.uptoSmall) rfl false ⟨#[],#[.slice none 0 0,.agg #[.slice none 0 0,.int .i64 0,.slice none 0 0]],[]⟩ 8 (by kernel_rfl) (by kernel_rfl) (by kernel_rfl)
   (x:=([.nil,.agg [.nil,.agg [.lit (.int .i64 0),.nil]]],[],[])) (by kernel_rfl) rfl (by kernel_rfl)) ?_
 intro W base args ds gs before Rt hW _ hk _;have hW':=hW;obtain⟨p,q,hA0,hV,rfl,hfz,zV⟩:=hW;have hA:DataW.TrodAll enc Tryz.prog W 0 (fun _=>true) true Tryz.f7.params.toList args.toList ds p:=hA0;rw[Tryz.params7] at hA Rt;obtain⟨v0,vs0,d0,ds0,p0,q0,NN,rfl,rfl,h0,r0⟩:=trodAll_cons hA;obtain⟨v1,vs1,d1,ds1,p1,q1,rfl,rfl,rfl,h1,r1⟩:=trodAll_cons r0;obtain⟨rfl,rfl,rfl⟩:=trodAll_nil r1;obtain rfl:args=#[v0,v1]:=by cases args;simp_all
 obtain⟨rfl,rfl⟩:=trodVars_none hV;simp only[Rows.uptoSmall,List.append_nil,decide_eq_true_eq,Rows.uptoBulkAll] at hk;have i0:=AO h0 (n:=12) (by kernel_rfl) (Rt 0 22 v0 rfl rfl);have k0:=h0;have lt0:∀x∈p0,x.block<W.heap.size:=by obtain⟨m,hm⟩:=k0;exact DataW.trod_lt m _ _ _ hm
 obtain⟨y0,b0,qz,sl0,ok0⟩:=FJ (Rd.of h0);have i1:=AO h1 (n:=12) (by kernel_rfl) (Rt 1 68 v1 rfl rfl);have k1:=h1;have lt1:∀x∈p1,x.block<W.heap.size:=by obtain⟨m,hm⟩:=k1;exact DataW.trod_lt m _ _ _ hm
 obtain⟨b1,hb1,ok1⟩:=FK (Rd.of h1)
 have Yy:Ev pv 7 [eM d0,eM d1] ⟨[],0,0⟩ (.bool true) ⟨[],0,0⟩:=by
  rw[qz,hb1];exact law y0 b0 sl0 (ok0 (by omega)) b1 (ok1 (by omega))
 have U5:∀(i:Nat) c v,[eM d0,eM d1][i]?=some c→[v0,v1][i]?=some v→IR W (fun b=>b<W.heap.size) c v:=by
  intro i c v hc hv
  match i,hc,hv with
  |0,hc,hv=>cases hc;cases hv;exact i0
  |1,hc,hv=>cases hc;cases hv;exact i1
 clear hA0;refine(Cr view Yy (us:=[v0,v1]) rfl U5).mono fun e W' ⟨he,bel⟩=>?_;subst he;exact⟨_,rfl,_,_,_,[],_,[],hW',trodAll_mk1 (shut_bool Tryz.underlying4 _),(trodAll_cons_mk (Below.trod laidOut (by kernel_rfl) (of_decide_eq_true (by kernel_rfl)) k0 bel lt0) (trodAll_cons_mk (Below.trod laidOut (by kernel_rfl) (of_decide_eq_true (by kernel_rfl)) k1 bel lt1) trodAll_mk0)),rfl,bel.frame _,fun h=>by cases h⟩
theorem Ww:(Rows.scanWellUptoRow.inPlace==Tryz.checked.prog.inPlace 7)=true:=by kernel_rfl
theorem Wv:(Rows.scanWellUptoRow.unfollowed==Tryz.checked.prog.unfollowed 7)=true:=by kernel_rfl
theorem Wu:(Rows.scanWellUptoRow.recurses==Tryz.checked.prog.recurses 7)=true:=by kernel_rfl
theorem Wt:(Rows.scanWellUptoRow.named==Tryz.checked.prog.varsNamed 7)=true:=by kernel_rfl
theorem fc {a b:Bool} (h1:a=true) (h2:b=true):(a &&b)=true:=by rw[h1,h2];rfl
theorem facts:joinedFacts Tryz.checked.prog 7 Tryz.f7 (Rows.OpenSpec.upto Rows.scanWellSpec).bare Rows.scanWellUptoRow=true:=by
 unfold joinedFacts;exact fc (fc (fc (fc (fc (fc (fc (fc (fc (fc (fc (fc (fc (fc (fc (fc (fc (fc (fc (fc (fc (fc (fc (by kernel_rfl) Ww) Wv) Wu) Wt) (by kernel_rfl)) (by kernel_rfl)) (by kernel_rfl)) (by kernel_rfl)) (by kernel_rfl)) (by kernel_rfl)) (by kernel_rfl)) (by kernel_rfl)) (by kernel_rfl)) (by kernel_rfl)) (by kernel_rfl)) (by kernel_rfl)) (by kernel_rfl)) (by kernel_rfl)) (by kernel_rfl)) (by kernel_rfl)) (by kernel_rfl)) (by kernel_rfl)) (by kernel_rfl)
theorem proved:Rows.ScanWellUptoSaid:=
 OpenClaim.holds_of_cond 7 Tryz.f7 rfl rfl rfl rfl rfl rfl rfl ⟨rfl,rfl,rfl,rfl,rfl⟩ rfl rfl rfl rfl rfl (by kernel_rfl) Tryz.func7 facts
  (of_decide_eq_true (by kernel_rfl)) (by unfold Func.isWrapper;rw[if_neg (by decide+kernel)];exact⟨rfl,rfl⟩)
  (fun os started H enc _ F=>lifted os started H enc F)
end Go.Proofs.YtbdnabmmlbiomaaGreat.scanWell
#print axioms Go.Proofs.YtbdnabmmlbiomaaGreat.scanWell.proved
