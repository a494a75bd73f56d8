/- VmPlays, for arguments of bulk at most 1048576: it answers true. -/
import Derived.Test.YtbdilgkfnacahaaGreatXGM3
import Derived.Test.YtbdilgkfnacahaaGreatRows
import Derived.WalkKit
import Derived.ProofKit
import Derived.OpenShut
import Derived.JoinedCond
import Derived.ChangeOld
set_option maxRecDepth 100000
set_option maxHeartbeats 4000000
set_option linter.unusedSimpArgs false
set_option linter.unusedVariables false
namespace Go.Proofs.YtbdilgkfnacahaaGreat.vmPlays
open Go.ChangeShapes Go.WideShapes Go.ChangeAt Go.RowKit Go.V
def ey (fr:Go.V.Fr) (k:Nat):Go.V.D:=Go.V.nth .aZ fr.loc k
theorem law {s0:St} (p:Pg) (hp:p.ok) (y:D) (l:List (Int×Int)) (hy:dV y 2 (l.map ky)) (vM:l.length≤1048576):Ev pv 4 [p.d,y] s0 (.bool true) s0:=by
 have tc:∀st,Ev pv 57 [] st (.agg (ai bw)) st:=fun st=>Ev.fx rfl rfl;have E0:∀st,Ev pv 30 [] st (.agg (ai bw)) st:=fun st=>Ev.fx rfl rfl;have FG:∀st,Ev pv 13 [p.d] st (.bool (dec (bf p))) st:=fun st=>m_ hp
 by_cases hR:bf p
 ·rw[kz hR] at FG;have hcl:=hR.cl;have Je:∀{N S st H},S.flr≤N→Has N S st H→_:=fun{N S st H} hF hH=>vV (N:=N) (S:=S) (s0:=st) (H:=H) tc hF hp hR hH;have M9:∀st,_:=fun st=>zI (s0:=st) E0 hp hR;have kq:∀st pl L r n,_:=fun st pl L r n=>tY (s0:=st) (pl:=pl) (L:=L) (r:=r) (n:=n) E0 hp hR;have o8:∀st pl L,_:=fun st pl L=>tZ (s0:=st) (pl:=pl) (L:=L) hp hR;unfold Pg.d at*;refine Ev.km rfl LY rfl rfl rfl ?_;dsimp only[u3,u4,List.length,Nat.reduceSub,Nat.reduceAdd,w1,w2];obtain⟨bE,hF,hH⟩:=ri s0;generalize aw .ro s0=S at*;have Qb:=hy.arg s0.bs.length S;have hc:=hp.c.arg s0.bs.length S;refine qq ?_;refine qj fun K hK=>?_;refine qb hH fun k2 st hk2 hH=>?_;dsimp only[u2,u1,u3,u4,setMany,u5,u6,D.cells,Nat.reduceAdd,aq,ak,ay,ai,c7,aG,Pg.cs,ky] at hH;refine qm ?_;refine qe hK ?_;refine qq ?_;refine qj fun K hK=>?_;refine ab.aE (m:=2) hH rfl (ev rfl) (by exact aC) (by dsimp only[List.drop_succ_cons,List.drop_zero,List.take_succ_cons,List.take_zero,aq,ak,ay,ai,c7,aG,Pg.cs,ky]<;>rfl) rfl rfl (ag rfl _) ?_;obtain⟨_,st,b4,kv,ks,q,ld,L,rfl,hq,hL,hM⟩:=Je hF hH;refine qv b4 ?_;refine qm ?_;refine qg ?_;refine qg ?_;refine qm ?_;refine qm ?_;refine qe hK ?_;obtain⟨pd,qd,P,Q,sn,hH,bC,dO⟩:=MH.pull [_] [] (H:=[]) hM;dsimp only[u3,u4] at hH
  by_cases O2:p.code.length>100
  ·have bc:decide (((p.code.length:Nat):Int)>100)=true:=by rw[decide_eq_true_eq];omega
   have ba:true=true:=rfl;have bD:true=true:=rfl;refine qq ?_;refine qq ?_;refine af.dh 22 (.bool true) [] ?_ (fun ff tmp dg=>?_)
   ·refine qp (o:=0) ?_;refine ql hH aC ?_;refine qn ?_;simp only[List.length_map];refine qg ?_;refine qm ?_;refine qs ?_ (hg:=wn bc);refine qs ?_ (hg:=wn bc);refine qs ?_ (hg:=wn bc);refine qt bc ?_;refine ab.nil (aR ?_ ?_)
    ·dsimp only[aD,List.foldl,nth,u2,u1]
     all_goals(first|rfl|simp)
    ·dsimp only[Fr.aH,Fr.put,Fr.clean,Fr.ev,Fr.get,nth,V.look,u1,u2,v1,v2,v3,v4,v5,v6,v7,List.length,u3,u4,Nat.reduceSub,Nat.reduceAdd,List.map]
     all_goals(first|rfl|(simp[bc];done)|(simp_all;done)|(simp[bc];omega)|(simp_all;omega))
   dsimp only[aD,List.foldl,nth,u2,u1];refine qB ?_;refine qq ?_;refine af.lH 4 (.bool true) [] ?_ (fun ff tmp=>?_)
   ·refine ab.aE (m:=2) hH rfl (ev rfl) (by exact aC) (by dsimp only[List.drop_succ_cons,List.drop_zero,List.take_succ_cons,List.take_zero,aq,ak,ay,ai,c7,aG,Pg.cs,ky]<;>rfl) rfl rfl (ag rfl _) ?_;refine qv ((FG _)) ?_;refine qm ?_;refine qs ?_ (hg:=wn ba);refine qs ?_ (hg:=wn ba);refine qs ?_ (hg:=wn ba);refine qs ?_;refine qs ?_;refine qs ?_ (hg:=wn ba);refine qt ba ?_;refine qm ?_;refine qv (Ev.fx rfl rfl) ?_;refine qg ?_;refine qm ?_;refine ab.nil (b8 ?_);dsimp only[aD,List.foldl,nth,u2,u1];dsimp only[Fr.aH,Fr.put,Fr.clean,Fr.ev,Fr.get,nth,V.look,u1,u2,v1,v2,v3,v4,v5,v6,v7,List.length,u3,u4,Nat.reduceSub,Nat.reduceAdd,List.map]
    all_goals(first|rfl|(simp[ba,bD];done)|(simp_all;done)|(simp[ba,bD];omega)|(simp_all;omega))
   dsimp only[aD,List.foldl,nth,u2,u1];refine af.ret ⟨rx,_,rfl,rl bE hH (rfl)⟩
  ·have bc:decide (((p.code.length:Nat):Int)>100)=false:=by rw[decide_eq_false];omega
   refine qq ?_;refine qq ?_;refine af.dh 22 (.bool false) [] ?_ (fun ff tmp dg=>?_)
   ·refine qp (o:=0) ?_;refine ql hH aC ?_;refine qn ?_;simp only[List.length_map];refine qg ?_;refine qm ?_;refine ab.aE (m:=2) hH (aM rfl rfl rfl bc) (ev rfl) (by exact aC) (by dsimp only[List.drop_succ_cons,List.drop_zero,List.take_succ_cons,List.take_zero,aq,ak,ay,ai,c7,aG,Pg.cs,ky]<;>rfl) rfl rfl (ag rfl _) ?_;refine qv ((FG _)) ?_ (hg:=wi bc);refine qg ?_ (hg:=wi bc);refine qu bc ?_;refine ab.nil (aR ?_ ?_)
    ·dsimp only[aD,List.foldl,nth,u2,u1]
     all_goals(first|rfl|simp)
    ·dsimp only[Fr.aH,Fr.put,Fr.clean,Fr.ev,Fr.get,nth,V.look,u1,u2,v1,v2,v3,v4,v5,v6,v7,List.length,u3,u4,Nat.reduceSub,Nat.reduceAdd,List.map]
     all_goals(rfl)
   dsimp only[aD,List.foldl,nth,u2,u1];refine qC ?_;refine af.skip ?_;have Lq:=hq.right hR;have OC:q.code.length=p.code.length:=by rw[hq.code,List.length_map]
   have HW:L.length=p.starts.length:=by
    have:=congrArg List.length hL;unfold aJ at this
    simpa using this
   have ba:false=false:=rfl;refine qq ?_;refine qq ?_;refine af.dh 41 (.bool false) [] ?_ (fun ff tmp dg=>?_)
   ·refine qm ?_;refine qg ?_;refine qm ?_;refine qm ?_ (hg:=wi ba);refine qg ?_ (hg:=wi ba);refine qu ba ?_;refine ab.nil (aR ?_ ?_)
    ·dsimp only[aD,List.foldl,nth,u2,u1]
     all_goals(first|rfl|simp)
    ·dsimp only[Fr.aH,Fr.put,Fr.clean,Fr.ev,Fr.get,nth,V.look,u1,u2,v1,v2,v3,v4,v5,v6,v7,List.length,u3,u4,Nat.reduceSub,Nat.reduceAdd,List.map]
     all_goals(rfl)
   dsimp only[aD,List.foldl,nth,u2,u1];refine qC ?_;refine af.skip ?_;refine qq ?_;refine qj fun K hK=>?_;refine ab.aE (m:=2) hH rfl (ev rfl) (by exact aC) (by dsimp only[List.drop_succ_cons,List.drop_zero,List.take_succ_cons,List.take_zero,aq,ak,ay,ai,c7,aG,Pg.cs,ky]<;>rfl) rfl rfl (ag rfl _) ?_;refine qv ((M9 _)) ?_;refine qa hH fun k7 st FK hH=>?_;refine qS hH aC fun st hH=>?_;dsimp only[u2,u1,u3,u4,setMany,u5,u6,D.cells,Nat.reduceAdd,aq,ak,ay,ai,c7,aG,Pg.cs,ky] at hH;refine qe hK ?_;refine qq ?_;refine qq ?_;refine qj fun K hK=>?_;refine qm ?_;refine qe hK ?_;have JX:∀l∈L,l.pl.ok p.code.length:=fun l hl=>sQ hR _ (by rw[←hL];exact List.mem_map_of_mem hl);rw[←hL] at hH;refine af.block ?_;refine af.loop (fun mm fr st=>∃(i pl:Nat) (ld pd qd:D) (L:List VL) (P Q:List Nat) (sn:List Bool),fr.clean=⟨9,[ey fr 0,y,.ptr k2 0 0,ey fr 3,.bool false,.ptr kv 0 0,ey fr 6,.ptr k7 0 0,.int .i64 (i:Nat)],[]⟩∧Has s0.bs.length S st (.box k7 (.mem 0 false [.int .i64 (pl:Nat),eV (L.map VL.pl)])::.box k2 (.mem 0 false [p.cd,p.sd])::.box kv (.mem 0 false [q.cd,q.sd,.int .i64 (pl:Nat),ld,.ptr ks 0 0])::.box ks (.mem 0 false [pd,qd])::.aO pd 1 (P.map dD)::.aO qd 2 (Q.map jz)::.aO ld 12 (L.map dS)::(L.map lN++[]))∧(i+mm=60)∧(pl≤4*i)∧(cC P Q sn)∧(sn.length=q.code.length)∧(L.length=p.starts.length)∧(∀l∈L,l.pl.ok p.code.length)) (60) ?_ ?_
   ·exact⟨0,0,ld,pd,qd,L,P,Q,sn,rfl,hH,by omega,by omega,bC,dO,HW,JX⟩
   rintro mm fr st ⟨i,pl,ld,pd,qd,L,P,Q,sn,hfr,hH,hi,kr,bC,dO,HW,Aq⟩;rw[hfr];clear hfr;generalize ey fr=ee;clear fr;have FE:=hR.sl;have Ln:L.length=q.starts.length:=by rw[hq.starts];exact HW
   have A9:∀l∈L,l.pl.ok q.code.length:=by rw[OC];exact Aq
   have JT:∀l∈L.map VL.pl,l.bS.length≤1000:=fun l hl=>by obtain⟨x,hx,rfl⟩:=List.mem_map.1 hl;exact(Aq x hx).2
   have Fh:∀l∈L.map VL.pl,l.ok p.code.length:=fun l hl=>by obtain⟨x,hx,rfl⟩:=List.mem_map.1 hl;exact Aq x hx
   have Fj:(L.map VL.pl).length=p.starts.length:=by rw[List.length_map];exact HW
   have JC:(L.map fun l=>fN q.code pl l.pl)=(L.map VL.pl).map (fN p.code pl):=by
    rw[List.map_map,hq.code];refine List.map_congr_left fun x _=>?_;rw[tm];rfl
   have JF:∀l∈(L.map VL.pl).map (fN p.code pl),l.bS=[]:=fun l hl=>by obtain⟨x,_,rfl⟩:=List.mem_map.1 hl;rfl
   have Hh:∀l∈(L.map VL.pl).map (fN p.code pl),l.bS.length≤1000:=fun l hl=>by rw[JF l hl];simp
   obtain⟨_,st1,E8,rfl,rfl⟩:=rB hq.ok (by omega) (fun l hl=>(Aq l hl).2) (MH.push [_,_] [] (H:=[]) ⟨pd,qd,P,Q,sn,hH,bC,dO⟩);obtain⟨ed,st1,Am,hM⟩:=AK hF hq.ok Lq (by omega) Ln A9 (MH.push [_,_] [] (H:=[]) ⟨pd,qd,P,Q,sn,hH,bC,dO⟩);rw[JC] at hM;have hM:=MH.pull [_,_] [_] (H:=[]) hM;have hm:=fun st=>oU (s0:=st) (pl:=pl) (L:=L.map VL.pl) (by omega) JT;unfold eo at E8 hm;unfold eo at o8
   by_cases hlt:i<l.length∧i<60
   ·obtain⟨g,Oo⟩:∃g,l[i]?=some g:=⟨l[i]'hlt.1,List.getElem?_eq_getElem _⟩
    have ie:=Fl Oo;have LL:=jL g.2;have GA:=fun st=>kq st pl (L.map VL.pl) g.1 g.2 (by omega) Fj Fh;unfold eo at GA;have bc:decide (((i:Nat):Int)<((l.length:Nat):Int))=true:=by rw[decide_eq_true_eq];omega
    have OG:decide (((i:Nat):Int)<60)=true:=by rw[decide_eq_true_eq];omega
    refine qq ?_;refine qq ?_;refine af.dh 51 (.bool true) [] ?_ (fun ff tmp dg=>?_)
    ·refine qm ?_;refine qm ?_;refine qn ?_;simp only[List.length_map];refine qg ?_;refine qm ?_;refine qm ?_ (hg:=wi bc);refine qg ?_ (hg:=wi bc);refine qt bc ?_;refine ab.nil (aR ?_ ?_)
     ·dsimp only[aD,List.foldl,nth,u2,u1]
      all_goals(first|rfl|simp)
     ·dsimp only[Fr.aH,Fr.put,Fr.clean,Fr.ev,Fr.get,nth,V.look,u1,u2,v1,v2,v3,v4,v5,v6,v7,List.length,u3,u4,Nat.reduceSub,Nat.reduceAdd,List.map]
      all_goals(simp_all;done)
    dsimp only[aD,List.foldl,nth,u2,u1];dsimp only[Fr.aH,Fr.put,Fr.clean,Fr.ev,Fr.get,nth,V.look,u1,u2,v1,v2,v3,v4,v5,v6,v7,List.length,u3,u4,Nat.reduceSub,Nat.reduceAdd,List.map];refine qB ?_;refine af.skip ?_;refine qq ?_;refine af.block ?_;have hB:=hH;have cT:(!true)=false:=rfl;obtain⟨pd,qd,P,Q,sn,n9,bC,dO⟩:=hM;dsimp only[u3,u4] at n9;change af _ _ _ _ _ _;refine qq ?_;refine qq ?_;generalize hK:iZ _ _ _ _=K;refine af.lT rfl ?_;refine bh.cons ?_;refine qm ?_;refine ab.nil ⟨rfl,?_⟩;refine bh.cons ?_;refine ab.lv rfl rfl E8 (ag rfl _) ?_;refine ab.nil ⟨rfl,?_⟩;refine bh.cons ?_;refine ab.aE (m:=2) hH rfl (ev rfl) (by exact aC) (by dsimp only[List.drop_succ_cons,List.drop_zero,List.take_succ_cons,List.take_zero,aq,ak,ay,ai,c7,aG,Pg.cs,ky]<;>rfl) rfl rfl (ag rfl _) ?_;refine ab.nil ⟨by exact Bool.and_eq_true_iff.2 ⟨jM rfl rfl (hB.at aC) (hB.at aC),rfl⟩,?_⟩;refine bh.cons ?_;refine qv ((hm _)) ?_;refine ab.nil ⟨rfl,?_⟩;refine bh.cons ?_;refine qg ?_;refine ab.nil ⟨rfl,?_⟩;refine bh.cons ?_;refine qm ?_;refine ab.nil ⟨rfl,?_⟩;refine bh.cons ?_;refine qm ?_ (hg:=wi cT);refine ab.nil ⟨rfl,?_⟩;refine bh.cons ?_;have hH:=n9;refine ab.lv (aM rfl rfl rfl cT) rfl Am (ag rfl _) ?_;refine ab.nil ⟨rfl,?_⟩;refine bh.cons ?_;refine ab.aE (m:=2) hH (aM rfl rfl rfl cT) (ev rfl) (by exact a6) (by dsimp only[List.drop_succ_cons,List.drop_zero,List.take_succ_cons,List.take_zero,aq,ak,ay,ai,c7,aG,Pg.cs,ky]<;>rfl) rfl rfl (ag rfl _) ?_;refine ab.nil ⟨by exact Bool.and_eq_true_iff.2 ⟨jM rfl rfl (hB.at a6) (n9.at a6),rfl⟩,?_⟩;refine bh.cons ?_;refine ab.aE (m:=2) hH (aM rfl rfl rfl cT) (ev rfl) (by exact aC) (by dsimp only[List.drop_succ_cons,List.drop_zero,List.take_succ_cons,List.take_zero,aq,ak,ay,ai,c7,aG,Pg.cs,ky]<;>rfl) rfl rfl (ag rfl _) ?_;refine ab.nil ⟨by exact Bool.and_eq_true_iff.2 ⟨jM rfl rfl (hB.at aC) (n9.at aC),rfl⟩,?_⟩;refine bh.cons ?_;refine qv ((o8 _ _ _ (by omega) Fj Fh)) ?_ (hg:=wi cT);refine ab.nil ⟨rfl,?_⟩;refine bh.cons ?_;refine qv (kY (hH.rows dI) ((e_ _).rows _) (my JF) (fH _) (by simp;omega) Hh) ?_ (hg:=wi cT);refine ab.nil ⟨rfl,?_⟩;refine bh.cons ?_;refine qg ?_ (hg:=wi cT);refine ab.nil ⟨rfl,?_⟩;refine bh.cons ?_;refine qu cT ?_;refine ab.nil ⟨rfl,?_⟩;refine bh.nil ?_;subst hK;clear n9 hB;refine qC ?_;refine af.skip ?_;refine qq ?_;refine qj fun K hK=>?_;refine qm ?_;refine qm ?_;refine qm ?_;refine qr fun K2 GH=>?_;refine qf (fo:=0) fun K1 GG=>?_;refine qR ?_;refine qm ?_;refine qm ?_;refine qr fun Pt Nn=>?_;refine qf (fo:=1) fun Ps Nl=>?_;refine qR ?_;obtain⟨_,st,b4,rfl,L1,HX,hM⟩:=AJ (r:=g.1) (n:=g.2) tc hF hq.ok Lq (by omega) Ln A9 (MH.push [_,_,_] [] (H:=[]) ⟨pd,qd,P,Q,sn,hH,bC,dO⟩);obtain⟨pd,qd,P,Q,sn,hH,bC,dO⟩:=MH.pull [_,_,_] [] (H:=[]) hM;dsimp only[u3,u4] at hH;refine qv b4 ?_;refine qe hK ?_;rw[hq.code,jQ,hq.aJ] at HX;refine qj fun K hK=>?_;refine ab.aE (m:=2) hH rfl (ev rfl) (by exact a6) (by dsimp only[List.drop_succ_cons,List.drop_zero,List.take_succ_cons,List.take_zero,aq,ak,ay,ai,c7,aG,Pg.cs,ky]<;>rfl) rfl rfl (ag rfl _) ?_;refine ab.aE (m:=2) hH rfl (ev rfl) (by exact aC) (by dsimp only[List.drop_succ_cons,List.drop_zero,List.take_succ_cons,List.take_zero,aq,ak,ay,ai,c7,aG,Pg.cs,ky]<;>rfl) rfl rfl (ag rfl _) ?_;refine qm ?_;refine qm ?_;refine qr fun Mj IX=>?_;refine qf (fo:=0) fun Pp Ni=>?_;refine qR ?_;refine qm ?_;refine qm ?_;refine qr fun Pn Ng=>?_;refine qf (fo:=1) fun Pm Nf=>?_;refine qR ?_;refine qv ((GA _)) ?_;refine qS hH aC fun st hH=>?_;dsimp only[u2,u1,u3,u4,setMany,u5,u6,D.cells,Nat.reduceAdd,aq,ak,ay,ai,c7,aG,Pg.cs,ky] at hH;refine qe hK ?_;refine qj fun K hK=>?_;refine qm ?_;refine qA ?_;refine qm ?_;refine qe hK ?_;rw[←HX] at hH
    have OY:L1.length=L.length:=by
     have:=congrArg List.length HX;rw[List.length_map,fm _ _ _ _ _ (by unfold aJ;simp;omega),List.length_map] at this;exact this
    have JU:∀l∈L1,l.pl.ok p.code.length:=fun l hl=>l6 hR (pW hR) _ (by rw[←HX];exact List.mem_map_of_mem hl);exact⟨mm-1,by omega,⟨i+1,pl+cN g.2,ld,pd,qd,L1,P,Q,sn,rfl,(hH.erase 2),by omega,by omega,bC,dO,by omega,JU⟩⟩
   ·have Hl:(decide (((i:Nat):Int)<((l.length:Nat):Int)) &&decide (((i:Nat):Int)<60))=false:=by
     rw[Bool.and_eq_false_iff]
     by_cases h:i<l.length
     ·exact .inr (by rw[decide_eq_false];omega)
     ·exact .inl (by rw[decide_eq_false];omega)
    refine qq ?_;refine qq ?_;refine af.dh 51 (.bool (decide (((i:Nat):Int)<((l.length:Nat):Int)) &&decide (((i:Nat):Int)<60))) [] ?_ (fun ff tmp dg=>?_)
    ·refine qm ?_;refine qm ?_;refine qn ?_;simp only[List.length_map];refine qg ?_;refine qm ?_;refine ab.two 48 rfl (fun bc=>?_) (fun bc=>?_)
     ·refine qm ?_ (hg:=wi bc);refine qg ?_ (hg:=wi bc);refine qt bc ?_;refine ab.nil (aR ?_ ?_)
      ·dsimp only[aD,List.foldl,nth,u2,u1]
       all_goals(first|rfl|simp)
      ·dsimp only[Fr.aH,Fr.put,Fr.clean,Fr.ev,Fr.get,nth,V.look,u1,u2,v1,v2,v3,v4,v5,v6,v7,List.length,u3,u4,Nat.reduceSub,Nat.reduceAdd,List.map]
       all_goals(simp_all;done)
     ·refine qs ?_ (hg:=wn bc);refine qs ?_ (hg:=wn bc);refine qu bc ?_;refine ab.nil (aR ?_ ?_)
      ·dsimp only[aD,List.foldl,nth,u2,u1]
       all_goals(first|rfl|simp)
      ·dsimp only[Fr.aH,Fr.put,Fr.clean,Fr.ev,Fr.get,nth,V.look,u1,u2,v1,v2,v3,v4,v5,v6,v7,List.length,u3,u4,Nat.reduceSub,Nat.reduceAdd,List.map]
       all_goals(simp_all;done)
    dsimp only[aD,List.foldl,nth,u2,u1];dsimp only[Fr.aH,Fr.put,Fr.clean,Fr.ev,Fr.get,nth,V.look,u1,u2,v1,v2,v3,v4,v5,v6,v7,List.length,u3,u4,Nat.reduceSub,Nat.reduceAdd,List.map];rw[Hl] at dg;refine qC ?_;refine af.exit ?_;have hB:=hH;have bc:true=true:=rfl;have bV:true=true:=rfl;obtain⟨pd,qd,P,Q,sn,n9,bC,dO⟩:=hM;dsimp only[u3,u4] at n9;change af _ _ _ _ _ _;refine qq ?_;generalize hK:iZ _ _ _ _=K;refine af.lT rfl ?_;refine bh.cons ?_;refine qm ?_;refine ab.nil ⟨rfl,?_⟩;refine bh.cons ?_;refine ab.lv rfl rfl E8 (ag rfl _) ?_;refine ab.nil ⟨rfl,?_⟩;refine bh.cons ?_;refine ab.aE (m:=2) hH rfl (ev rfl) (by exact aC) (by dsimp only[List.drop_succ_cons,List.drop_zero,List.take_succ_cons,List.take_zero,aq,ak,ay,ai,c7,aG,Pg.cs,ky]<;>rfl) rfl rfl (ag rfl _) ?_;refine ab.nil ⟨by exact Bool.and_eq_true_iff.2 ⟨jM rfl rfl (hB.at aC) (hB.at aC),rfl⟩,?_⟩;refine bh.cons ?_;refine qv ((hm _)) ?_;refine ab.nil ⟨rfl,?_⟩;refine bh.cons ?_;refine qm ?_;refine ab.nil ⟨rfl,?_⟩;refine bh.cons ?_;refine qm ?_ (hg:=wi bc);refine ab.nil ⟨rfl,?_⟩;refine bh.cons ?_;have hH:=n9;refine ab.lv (aM rfl rfl rfl bc) rfl Am (ag rfl _) ?_;refine ab.nil ⟨rfl,?_⟩;refine bh.cons ?_;refine ab.aE (m:=2) hH (aM rfl rfl rfl bc) (ev rfl) (by exact a6) (by dsimp only[List.drop_succ_cons,List.drop_zero,List.take_succ_cons,List.take_zero,aq,ak,ay,ai,c7,aG,Pg.cs,ky]<;>rfl) rfl rfl (ag rfl _) ?_;refine ab.nil ⟨by exact Bool.and_eq_true_iff.2 ⟨jM rfl rfl (hB.at a6) (n9.at a6),rfl⟩,?_⟩;refine bh.cons ?_;refine ab.aE (m:=2) hH (aM rfl rfl rfl bc) (ev rfl) (by exact aC) (by dsimp only[List.drop_succ_cons,List.drop_zero,List.take_succ_cons,List.take_zero,aq,ak,ay,ai,c7,aG,Pg.cs,ky]<;>rfl) rfl rfl (ag rfl _) ?_;refine ab.nil ⟨by exact Bool.and_eq_true_iff.2 ⟨jM rfl rfl (hB.at aC) (n9.at aC),rfl⟩,?_⟩;refine bh.cons ?_;refine qv ((o8 _ _ _ (by omega) Fj Fh)) ?_ (hg:=wi bc);refine ab.nil ⟨rfl,?_⟩;refine bh.cons ?_;refine qv (kY (hH.rows dI) ((e_ _).rows _) (my JF) (fH _) (by simp;omega) Hh) ?_ (hg:=wi bc);refine ab.nil ⟨rfl,?_⟩;refine bh.cons ?_;refine qt bc ?_;refine ab.nil ⟨rfl,?_⟩;refine bh.cons ?_;refine qm ?_;refine ab.nil ⟨rfl,?_⟩;refine bh.cons ?_;refine qv (Ev.fx rfl rfl) ?_ (hg:=wi bV);refine ab.nil ⟨rfl,?_⟩;refine bh.cons ?_;refine qt bV ?_;refine ab.nil ⟨rfl,?_⟩;refine bh.cons ?_;refine qm ?_;refine ab.nil ⟨rfl,?_⟩;refine bh.nil ?_;subst hK;refine af.ret ⟨rx,_,rfl,rl bE hH (rfl)⟩
 ·rw[eY hR] at FG;have Je:∀{N S st H},S.flr≤N→Has N S st H→_:=fun{N S st H} hF hH=>vU (N:=N) (S:=S) (s0:=st) (H:=H) hF hp hR hH;unfold Pg.d at*;refine Ev.km rfl LY rfl rfl rfl ?_;dsimp only[u3,u4,List.length,Nat.reduceSub,Nat.reduceAdd,w1,w2];obtain⟨bE,hF,hH⟩:=ri s0;generalize aw .ro s0=S at*;have hc:=hp.c.arg s0.bs.length S;refine qq ?_;refine qj fun K hK=>?_;refine qb hH fun k2 st hk2 hH=>?_;dsimp only[u2,u1,u3,u4,setMany,u5,u6,D.cells,Nat.reduceAdd,aq,ak,ay,ai,c7,aG,Pg.cs,ky] at hH;refine qm ?_;refine qe hK ?_;refine qq ?_;refine qj fun K hK=>?_;refine ab.aE (m:=2) hH rfl (ev rfl) (by exact aC) (by dsimp only[List.drop_succ_cons,List.drop_zero,List.take_succ_cons,List.take_zero,aq,ak,ay,ai,c7,aG,Pg.cs,ky]<;>rfl) rfl rfl (ag rfl _) ?_;obtain⟨_,st,b4,rfl,hH⟩:=Je hF hH;refine qv b4 ?_;refine qm ?_;refine qg ?_;refine qg ?_;refine qm ?_;refine qm ?_;refine qe hK ?_;refine qq ?_;refine qq ?_;refine af.dh 22 (.bool true) [] ?_ (fun ff tmp dg=>?_)
  ·refine qp (o:=0) ?_;refine ql hH aC ?_;refine qn ?_;simp only[List.length_map];refine qg ?_;refine qm ?_;refine ab.two 18 rfl (fun bc=>?_) (fun bc=>?_)
   ·refine qs ?_ (hg:=wn bc);refine qs ?_ (hg:=wn bc);refine qs ?_ (hg:=wn bc);refine qt bc ?_;refine ab.nil (aR ?_ ?_)
    ·dsimp only[aD,List.foldl,nth,u2,u1]
     all_goals(first|rfl|simp)
    ·dsimp only[Fr.aH,Fr.put,Fr.clean,Fr.ev,Fr.get,nth,V.look,u1,u2,v1,v2,v3,v4,v5,v6,v7,List.length,u3,u4,Nat.reduceSub,Nat.reduceAdd,List.map]
     all_goals(first|rfl|(simp[bc];done)|(simp_all;done)|(simp[bc];omega)|(simp_all;omega))
   ·refine ab.aE (m:=2) hH (aM rfl rfl rfl bc) (ev rfl) (by exact aC) (by dsimp only[List.drop_succ_cons,List.drop_zero,List.take_succ_cons,List.take_zero,aq,ak,ay,ai,c7,aG,Pg.cs,ky]<;>rfl) rfl rfl (ag rfl _) ?_;refine qv ((FG _)) ?_ (hg:=wi bc);refine qg ?_ (hg:=wi bc);refine qu bc ?_;refine ab.nil (aR ?_ ?_)
    ·dsimp only[aD,List.foldl,nth,u2,u1]
     all_goals(first|rfl|simp)
    ·dsimp only[Fr.aH,Fr.put,Fr.clean,Fr.ev,Fr.get,nth,V.look,u1,u2,v1,v2,v3,v4,v5,v6,v7,List.length,u3,u4,Nat.reduceSub,Nat.reduceAdd,List.map]
     all_goals(rfl)
  dsimp only[aD,List.foldl,nth,u2,u1];refine qB ?_;have ba:false=false:=rfl;have cT:true=true:=rfl;have bD:true=true:=rfl;refine qq ?_;refine af.lH 4 (.bool true) [] ?_ (fun ff tmp=>?_)
  ·refine ab.aE (m:=2) hH rfl (ev rfl) (by exact aC) (by dsimp only[List.drop_succ_cons,List.drop_zero,List.take_succ_cons,List.take_zero,aq,ak,ay,ai,c7,aG,Pg.cs,ky]<;>rfl) rfl rfl (ag rfl _) ?_;refine qv ((FG _)) ?_;refine qm ?_;refine qm ?_ (hg:=wi ba);refine qg ?_ (hg:=wi ba);refine qm ?_ (hg:=wi ba);refine qm ?_ (hg:=wi cT);refine qg ?_ (hg:=wi cT);refine ab.oH (aM rfl rfl rfl ba) rfl cT (ag rfl _) ?_;refine qu ba ?_;refine qm ?_;refine qv (Ev.fx rfl rfl) ?_ (hg:=wi bD);refine qt bD ?_;refine qm ?_;refine ab.nil (b8 ?_);dsimp only[aD,List.foldl,nth,u2,u1];dsimp only[Fr.aH,Fr.put,Fr.clean,Fr.ev,Fr.get,nth,V.look,u1,u2,v1,v2,v3,v4,v5,v6,v7,List.length,u3,u4,Nat.reduceSub,Nat.reduceAdd,List.map]
   all_goals(first|rfl|(simp[ba,cT,bD];done)|(simp_all;done)|(simp[ba,cT,bD];omega)|(simp_all;omega))
  dsimp only[aD,List.foldl,nth,u2,u1];refine af.ret ⟨rx,_,rfl,rl bE hH (rfl)⟩
theorem own:ownKnob Tryz.prog.godebug=none:=by kernel_rfl
theorem laidOut:laidOutB Tryz.prog=true:=by kernel_rfl
theorem lifted (os:Os) (started:os.Started) (H:Type) (enc:TypeId×Value→H) (F:Stop.Interp):
  ReturnsInHanded {} Tryz.checked os 4 .any ((Rows.OpenSpec.upto Rows.vmPlaysSpec).pre6 enc Tryz.prog Tryz.f4 Rows.vmPlaysUptoRow.domain false) (((Rows.OpenSpec.upto Rows.vmPlaysSpec).at F).post enc Tryz.prog Tryz.f4 false true false false):=by
 refine returnsInHanded_of_cond (C:=Tryz.checked) (s:=Rows.OpenSpec.upto Rows.vmPlaysSpec) (k:=Rows.uptoSmall) rfl own started (by kernel_rfl) Tryz.func4
  (OpenSpec.witness (enc:=enc) (C:=Tryz.checked) (s:=Rows.OpenSpec.upto Rows.vmPlaysSpec) (k:=Rows.uptoSmall) rfl false ⟨#[],#[.agg #[.slice none 0 0,.slice none 0 0],.slice none 0 0],[]⟩ 8 (by kernel_rfl) (by kernel_rfl) (by kernel_rfl)
   (x:=([.agg [.nil,.nil],.nil],[],[])) (by kernel_rfl) rfl (by kernel_rfl)) ?_
 intro W base args ds gs before Ey hW _ hk _;have OP:=hW;obtain⟨p,q,LV,hV,rfl,hfz,Qi⟩:=hW;have hA:DataW.TrodAll enc Tryz.prog W 0 (fun _=>true) true Tryz.f4.params.toList args.toList ds p:=LV;rw[Tryz.params4] at hA Ey;obtain⟨v0,Pf,d0,QX,p0,q0,A8,rfl,rfl,h0,r0⟩:=trodAll_cons hA;obtain⟨v1,Pc,d1,QW,p1,q1,rfl,rfl,rfl,h1,r1⟩:=trodAll_cons r0;obtain⟨rfl,rfl,rfl⟩:=trodAll_nil r1;obtain rfl:args=#[v0,v1]:=by cases args;simp_all
 obtain⟨rfl,rfl⟩:=trodVars_none hV;simp only[Rows.uptoSmall,List.append_nil,decide_eq_true_eq,Rows.uptoBulkAll] at hk;have i0:=rH h0 (n:=12) (by kernel_rfl) (Ey 0 25 v0 rfl rfl);have k0:=h0;have MG:∀x∈p0,x.block<W.heap.size:=by obtain⟨m,hm⟩:=k0;exact DataW.trod_lt m _ _ _ hm
 obtain⟨b0,nZ,ME⟩:=vu (Rd.of h0);have i1:=rH h1 (n:=12) (by kernel_rfl) (Ey 1 35 v1 rfl rfl);have k1:=h1;have MF:∀x∈p1,x.block<W.heap.size:=by obtain⟨m,hm⟩:=k1;exact DataW.trod_lt m _ _ _ hm
 obtain⟨y1,b1,hb1,Mf,MD⟩:=vx (Rd.of h1)
 have Jm:Ev pv 4 [cu d0,cu d1] ⟨[],0,0⟩ (.bool true) ⟨[],0,0⟩:=by
  rw[nZ,hb1];exact law b0 (ME (by omega)) y1 b1 Mf (MD (by omega))
 have G':∀(i:Nat) c v,[cu d0,cu d1][i]?=some c→[v0,v1][i]?=some v→IR W (fun b=>b<W.heap.size) c v:=by
  intro i c v hc hv
  match i,hc,hv with
  |0,hc,hv=>cases hc;cases hv;exact i0
  |1,hc,hv=>cases hc;cases hv;exact i1
 clear LV;refine(s7 view Jm (us:=[v0,v1]) rfl G').mono fun e W' ⟨he,KK⟩=>?_;subst he;exact⟨_,rfl,_,_,_,[],_,[],OP,trodAll_mk1 (shut_bool Tryz.underlying4 _),(trodAll_cons_mk (Below.trod laidOut (by kernel_rfl) (of_decide_eq_true (by kernel_rfl)) k0 KK MG) (trodAll_cons_mk (Below.trod laidOut (by kernel_rfl) (of_decide_eq_true (by kernel_rfl)) k1 KK MF) trodAll_mk0)),rfl,KK.frame _,fun h=>by cases h⟩
theorem proved:Rows.VmPlaysUptoSaid:=
 OpenClaim.holds_of_cond 4 Tryz.f4 rfl rfl rfl rfl rfl rfl rfl ⟨rfl,rfl,rfl,rfl,rfl⟩ rfl rfl rfl rfl rfl (by kernel_rfl) Tryz.func4 (by kernel_rfl)
  (of_decide_eq_true (by kernel_rfl)) (by unfold Func.isWrapper;rw[if_neg (by decide+kernel)];exact⟨rfl,rfl⟩)
  (fun os started H enc _ F=>lifted os started H enc F)
end Go.Proofs.YtbdilgkfnacahaaGreat.vmPlays
#print axioms Go.Proofs.YtbdilgkfnacahaaGreat.vmPlays.proved
