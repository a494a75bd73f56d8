/-
 Are nodes a pattern? syntax.Right, walked.
-/
import Derived.Test.YtbdnabmmlbiomaaXGPf
import Derived.Test.YtbdnabmmlbiomaaXGM3
import Derived.Test.YtbdnabmmlbiomaaXGPb
set_option maxRecDepth 100000
set_option maxHeartbeats 4000000
set_option linter.unusedSimpArgs false
set_option linter.unusedVariables false
namespace Go.Proofs.Ytbdnabmmlbiomaa
open Go.V Go
def lf (fr:Go.V.Fr) (k:Nat):Go.V.D:=Go.V.nth .bp fr.loc k
theorem xU {s0:St} {n:dj} (hn:n.ok):Ev pv 79 [.agg (a8 n)] s0 (.bool (pz n)) s0:=by
 refine Ev.nV rfl Ng rfl rfl rfl ?_;dsimp only[u3,u4,List.length,Nat.reduceSub,Nat.reduceAdd,w1,w2];obtain⟨cn,hF,hH⟩:=ri s0;generalize aq .ro s0=S at*;have yy:=hn.1.arg s0.bs.length S;have xc:=hn.2.1;refine qq<|qj fun K hK=>qb hH fun k1 st oa hH=>?_;dsimp only[u2,u1,u3,u4,setMany,u5,u6,D.cells,Nat.reduceAdd,a8] at hH;refine qm ?_;refine qe hK<|qq<|qj fun K hK=>qp (o:=0) ?_;refine ql hH aB ?_;refine qg ?_;refine qm ?_;refine qe hK<|qq<|ag.jY 2 (.bool (((n.op==2)||((n.rs.length:Nat):Int)==0) &&((n.op==5)||((n.mn==0) &&(n.mx==0) &&!n.lz)) &&((n.op==6)||(n.cap==0)))) [] ?_ (fun ff tmp=>?_)
 ·refine qp (o:=0) ?_;refine ql hH aB ?_;refine qg ?_;refine qm ?_;refine ab.two 10 rfl (fun bI=>?_) (fun bI=>?_)
  ·refine qs ?_ (hg:=wn bI);refine qs ?_ (hg:=wn bI);refine qs ?_ (hg:=wn bI);refine qs ?_ (hg:=wn bI);refine qt bI ?_;refine qm ?_;refine qm ?_;refine qm ?_;refine ab.two 18 rfl (fun bm=>?_) (fun bm=>?_)
   ·refine qs ?_ (hg:=wn bm);refine qs ?_ (hg:=wn bm);refine qs ?_ (hg:=wn bm);refine qs ?_ (hg:=wn bm);refine qs ?_;refine qs ?_;refine qs ?_;refine qs ?_ (hg:=wn bm);refine qs ?_ (hg:=wn bm);refine qs ?_;refine qs ?_;refine qs ?_;refine qs ?_ (hg:=wn bm);refine qt bm ?_;refine qg ?_;refine qm ?_;refine qp (o:=0) ?_;refine ql hH aB ?_;refine qg ?_;refine qm ?_;refine ab.two 38 rfl (fun cz=>?_) (fun cz=>?_)
    ·refine qs ?_ (hg:=wn cz);refine qs ?_ (hg:=wn cz);refine qs ?_ (hg:=wn cz);refine qt cz ?_;refine qg ?_;refine qm ?_;refine ab.nil (aW ?_);dsimp only[aJ,List.foldl,nth,u2,u1];dsimp only[Fr.aC,Fr.put,Fr.clean,Fr.ev,Fr.get,nth,V.look,u1,u2,v1,v2,v3,v4,v5,v6,v7,List.length,u3,u4,Nat.reduceSub,Nat.reduceAdd,List.map]
     all_goals(simp[bI,bm,cz];done)
    ·refine qp (o:=5) ?_ (hg:=wi cz);refine ql hH aB ?_ (hg:=wi cz);refine qg ?_ (hg:=wi cz);refine qu cz ?_;refine qg ?_;refine qm ?_;refine ab.nil (aW ?_);dsimp only[aJ,List.foldl,nth,u2,u1];dsimp only[Fr.aC,Fr.put,Fr.clean,Fr.ev,Fr.get,nth,V.look,u1,u2,v1,v2,v3,v4,v5,v6,v7,List.length,u3,u4,Nat.reduceSub,Nat.reduceAdd,List.map]
     all_goals(simp[bI,bm,cz];done)
   ·refine qp (o:=2) ?_ (hg:=wi bm);refine ql hH aB ?_ (hg:=wi bm);refine qg ?_ (hg:=wi bm);refine qm ?_ (hg:=wi bm);refine ab.two 22 rfl (fun eB=>?_) (fun eB=>?_)
    ·refine qp (o:=3) ?_ (hg:=wi eB);refine ql hH aB ?_ (hg:=wi eB);refine qg ?_ (hg:=wi eB);refine ab.dh (aj rfl rfl rfl bm) rfl eB (ae rfl _) ?_;refine qm ?_ (hg:=wi bm);refine ab.two 27 rfl (fun eT=>?_) (fun eT=>?_)
     ·refine qp (o:=4) ?_ (hg:=wi eT);refine ql hH aB ?_ (hg:=wi eT);refine qg ?_ (hg:=wi eT);refine ab.dh (aj rfl rfl rfl bm) rfl eT (ae rfl _) ?_;refine qu bm ?_;refine qg ?_;refine qm ?_;refine ab.two 34 rfl (fun bO=>?_) (fun bO=>?_)
      ·refine qp (o:=0) ?_ (hg:=wi bO);refine ql hH aB ?_ (hg:=wi bO);refine qg ?_ (hg:=wi bO);refine qm ?_ (hg:=wi bO);refine ab.two 38 rfl (fun cz=>?_) (fun cz=>?_)
       ·refine qs ?_ (hg:=wn cz);refine qs ?_ (hg:=wn cz);refine qs ?_ (hg:=wn cz);refine ab.dh (aj rfl rfl rfl bO) rfl cz (ae rfl _) ?_;refine qt bO ?_;refine qm ?_;refine ab.nil (aW ?_);dsimp only[aJ,List.foldl,nth,u2,u1];dsimp only[Fr.aC,Fr.put,Fr.clean,Fr.ev,Fr.get,nth,V.look,u1,u2,v1,v2,v3,v4,v5,v6,v7,List.length,u3,u4,Nat.reduceSub,Nat.reduceAdd,List.map]
        all_goals(simp[bI,bm,eB,eT,bO,cz];done)
       ·refine qp (o:=5) ?_ (hg:=wi cz);refine ql hH aB ?_ (hg:=wi cz);refine qg ?_ (hg:=wi cz);refine ab.cF (aj rfl rfl rfl bO) rfl cz (ae rfl _) ?_;refine qt bO ?_;refine qm ?_;refine ab.nil (aW ?_);dsimp only[aJ,List.foldl,nth,u2,u1];dsimp only[Fr.aC,Fr.put,Fr.clean,Fr.ev,Fr.get,nth,V.look,u1,u2,v1,v2,v3,v4,v5,v6,v7,List.length,u3,u4,Nat.reduceSub,Nat.reduceAdd,List.map]
        all_goals(simp[bI,bm,eB,eT,bO,cz];done)
      ·refine qs ?_ (hg:=wn bO);refine qs ?_ (hg:=wn bO);refine qs ?_ (hg:=wn bO);refine qs ?_ (hg:=wn bO);refine qs ?_;refine qs ?_;refine qs ?_;refine qs ?_ (hg:=wn bO);refine qu bO ?_;refine qm ?_;refine ab.nil (aW ?_);dsimp only[aJ,List.foldl,nth,u2,u1];dsimp only[Fr.aC,Fr.put,Fr.clean,Fr.ev,Fr.get,nth,V.look,u1,u2,v1,v2,v3,v4,v5,v6,v7,List.length,u3,u4,Nat.reduceSub,Nat.reduceAdd,List.map]
       all_goals(simp[bI,bm,eB,eT,bO];done)
     ·refine qs ?_ (hg:=wn eT);refine qs ?_ (hg:=wn eT);refine qs ?_ (hg:=wn eT);refine ab.cF (aj rfl rfl rfl bm) rfl eT (ae rfl _) ?_;refine qu bm ?_;refine qg ?_;refine qm ?_;refine qs ?_;refine qs ?_;refine qs ?_;refine qs ?_;refine qs ?_;refine qs ?_;refine qs ?_;refine qs ?_;refine qg ?_;refine qm ?_;refine ab.nil (aW ?_);dsimp only[aJ,List.foldl,nth,u2,u1];dsimp only[Fr.aC,Fr.put,Fr.clean,Fr.ev,Fr.get,nth,V.look,u1,u2,v1,v2,v3,v4,v5,v6,v7,List.length,u3,u4,Nat.reduceSub,Nat.reduceAdd,List.map]
      all_goals(simp[bI,bm,eB,eT];done)
    ·refine qs ?_ (hg:=wn eB);refine qs ?_ (hg:=wn eB);refine qs ?_ (hg:=wn eB);refine ab.cF (aj rfl rfl rfl bm) rfl eB (ae rfl _) ?_;refine qm ?_ (hg:=wi bm);refine qs ?_;refine qs ?_;refine qs ?_;refine qg ?_ (hg:=wi bm);refine qu bm ?_;refine qg ?_;refine qm ?_;refine qs ?_;refine qs ?_;refine qs ?_;refine qs ?_;refine qs ?_;refine qs ?_;refine qs ?_;refine qs ?_;refine qg ?_;refine qm ?_;refine ab.nil (aW ?_);dsimp only[aJ,List.foldl,nth,u2,u1];dsimp only[Fr.aC,Fr.put,Fr.clean,Fr.ev,Fr.get,nth,V.look,u1,u2,v1,v2,v3,v4,v5,v6,v7,List.length,u3,u4,Nat.reduceSub,Nat.reduceAdd,List.map]
     all_goals(simp[bI,bm,eB];done)
  ·refine qp (o:=1) ?_ (hg:=wi bI);refine ql hH aB ?_ (hg:=wi bI);refine qn ?_ (hg:=wi bI);simp only[List.length_map];refine qg ?_ (hg:=wi bI);refine qu bI ?_;refine qm ?_;refine ab.two 16 rfl (fun ck=>?_) (fun ck=>?_)
   ·refine qm ?_ (hg:=wi ck);refine qm ?_ (hg:=wi ck);refine ab.two 18 rfl (fun bm=>?_) (fun bm=>?_)
    ·refine qs ?_ (hg:=wn bm);refine qs ?_ (hg:=wn bm);refine qs ?_ (hg:=wn bm);refine qs ?_ (hg:=wn bm);refine qs ?_;refine qs ?_;refine qs ?_;refine qs ?_ (hg:=wn bm);refine qs ?_ (hg:=wn bm);refine qs ?_;refine qs ?_;refine qs ?_;refine qs ?_ (hg:=wn bm);refine ab.dh (aj rfl rfl rfl ck) rfl bm (ae rfl _) ?_;refine qt ck ?_;refine qm ?_;refine qp (o:=0) ?_;refine ql hH aB ?_;refine qg ?_;refine qm ?_;refine ab.two 38 rfl (fun cz=>?_) (fun cz=>?_)
     ·refine qs ?_ (hg:=wn cz);refine qs ?_ (hg:=wn cz);refine qs ?_ (hg:=wn cz);refine qt cz ?_;refine qg ?_;refine qm ?_;refine ab.nil (aW ?_);dsimp only[aJ,List.foldl,nth,u2,u1];dsimp only[Fr.aC,Fr.put,Fr.clean,Fr.ev,Fr.get,nth,V.look,u1,u2,v1,v2,v3,v4,v5,v6,v7,List.length,u3,u4,Nat.reduceSub,Nat.reduceAdd,List.map]
      all_goals(simp[bI,ck,bm,cz];done)
     ·refine qp (o:=5) ?_ (hg:=wi cz);refine ql hH aB ?_ (hg:=wi cz);refine qg ?_ (hg:=wi cz);refine qu cz ?_;refine qg ?_;refine qm ?_;refine ab.nil (aW ?_);dsimp only[aJ,List.foldl,nth,u2,u1];dsimp only[Fr.aC,Fr.put,Fr.clean,Fr.ev,Fr.get,nth,V.look,u1,u2,v1,v2,v3,v4,v5,v6,v7,List.length,u3,u4,Nat.reduceSub,Nat.reduceAdd,List.map]
      all_goals(simp[bI,ck,bm,cz];done)
    ·refine qp (o:=2) ?_ (hg:=wi bm);refine ql hH aB ?_ (hg:=wi bm);refine qg ?_ (hg:=wi bm);refine qm ?_ (hg:=wi bm);refine ab.two 22 rfl (fun eB=>?_) (fun eB=>?_)
     ·refine qp (o:=3) ?_ (hg:=wi eB);refine ql hH aB ?_ (hg:=wi eB);refine qg ?_ (hg:=wi eB);refine ab.dh (aj rfl rfl rfl bm) rfl eB (ae rfl _) ?_;refine qm ?_ (hg:=wi bm);refine ab.two 27 rfl (fun eT=>?_) (fun eT=>?_)
      ·refine qp (o:=4) ?_ (hg:=wi eT);refine ql hH aB ?_ (hg:=wi eT);refine qg ?_ (hg:=wi eT);refine ab.dh (aj rfl rfl rfl bm) rfl eT (ae rfl _) ?_;refine ab.cF (aj rfl rfl rfl ck) rfl bm (ae rfl _) ?_;refine qt ck ?_;refine qm ?_;refine ab.two 34 rfl (fun bO=>?_) (fun bO=>?_)
       ·refine qp (o:=0) ?_ (hg:=wi bO);refine ql hH aB ?_ (hg:=wi bO);refine qg ?_ (hg:=wi bO);refine qm ?_ (hg:=wi bO);refine ab.two 38 rfl (fun cz=>?_) (fun cz=>?_)
        ·refine qs ?_ (hg:=wn cz);refine qs ?_ (hg:=wn cz);refine qs ?_ (hg:=wn cz);refine ab.dh (aj rfl rfl rfl bO) rfl cz (ae rfl _) ?_;refine qt bO ?_;refine qm ?_;refine ab.nil (aW ?_);dsimp only[aJ,List.foldl,nth,u2,u1];dsimp only[Fr.aC,Fr.put,Fr.clean,Fr.ev,Fr.get,nth,V.look,u1,u2,v1,v2,v3,v4,v5,v6,v7,List.length,u3,u4,Nat.reduceSub,Nat.reduceAdd,List.map]
         all_goals(simp[bI,ck,bm,eB,eT,bO,cz];done)
        ·refine qp (o:=5) ?_ (hg:=wi cz);refine ql hH aB ?_ (hg:=wi cz);refine qg ?_ (hg:=wi cz);refine ab.cF (aj rfl rfl rfl bO) rfl cz (ae rfl _) ?_;refine qt bO ?_;refine qm ?_;refine ab.nil (aW ?_);dsimp only[aJ,List.foldl,nth,u2,u1];dsimp only[Fr.aC,Fr.put,Fr.clean,Fr.ev,Fr.get,nth,V.look,u1,u2,v1,v2,v3,v4,v5,v6,v7,List.length,u3,u4,Nat.reduceSub,Nat.reduceAdd,List.map]
         all_goals(simp[bI,ck,bm,eB,eT,bO,cz];done)
       ·refine qs ?_ (hg:=wn bO);refine qs ?_ (hg:=wn bO);refine qs ?_ (hg:=wn bO);refine qs ?_ (hg:=wn bO);refine qs ?_;refine qs ?_;refine qs ?_;refine qs ?_ (hg:=wn bO);refine qu bO ?_;refine qm ?_;refine ab.nil (aW ?_);dsimp only[aJ,List.foldl,nth,u2,u1];dsimp only[Fr.aC,Fr.put,Fr.clean,Fr.ev,Fr.get,nth,V.look,u1,u2,v1,v2,v3,v4,v5,v6,v7,List.length,u3,u4,Nat.reduceSub,Nat.reduceAdd,List.map]
        all_goals(simp[bI,ck,bm,eB,eT,bO];done)
      ·refine qs ?_ (hg:=wn eT);refine qs ?_ (hg:=wn eT);refine qs ?_ (hg:=wn eT);refine ab.cF (aj rfl rfl rfl bm) rfl eT (ae rfl _) ?_;refine ab.cF (aj rfl rfl rfl ck) rfl bm (ae rfl _) ?_;refine qt ck ?_;refine qm ?_;refine qs ?_;refine qs ?_;refine qs ?_;refine qs ?_;refine qs ?_;refine qs ?_;refine qs ?_;refine qs ?_;refine qg ?_;refine qm ?_;refine ab.nil (aW ?_);dsimp only[aJ,List.foldl,nth,u2,u1];dsimp only[Fr.aC,Fr.put,Fr.clean,Fr.ev,Fr.get,nth,V.look,u1,u2,v1,v2,v3,v4,v5,v6,v7,List.length,u3,u4,Nat.reduceSub,Nat.reduceAdd,List.map]
       all_goals(simp[bI,ck,bm,eB,eT];done)
     ·refine qs ?_ (hg:=wn eB);refine qs ?_ (hg:=wn eB);refine qs ?_ (hg:=wn eB);refine ab.cF (aj rfl rfl rfl bm) rfl eB (ae rfl _) ?_;refine qm ?_ (hg:=wi bm);refine qs ?_;refine qs ?_;refine qs ?_;refine qg ?_ (hg:=wi bm);refine ab.cF (aj rfl rfl rfl ck) rfl bm (ae rfl _) ?_;refine qt ck ?_;refine qm ?_;refine qs ?_;refine qs ?_;refine qs ?_;refine qs ?_;refine qs ?_;refine qs ?_;refine qs ?_;refine qs ?_;refine qg ?_;refine qm ?_;refine ab.nil (aW ?_);dsimp only[aJ,List.foldl,nth,u2,u1];dsimp only[Fr.aC,Fr.put,Fr.clean,Fr.ev,Fr.get,nth,V.look,u1,u2,v1,v2,v3,v4,v5,v6,v7,List.length,u3,u4,Nat.reduceSub,Nat.reduceAdd,List.map]
      all_goals(simp[bI,ck,bm,eB];done)
   ·refine qs ?_ (hg:=wn ck);refine qs ?_ (hg:=wn ck);refine qs ?_;refine qs ?_;refine qs ?_;refine qs ?_;refine qs ?_;refine qs ?_;refine qs ?_;refine qs ?_;refine qs ?_;refine qs ?_;refine qs ?_;refine qs ?_;refine qs ?_;refine qs ?_ (hg:=wn ck);refine qu ck ?_;refine qm ?_;refine qs ?_;refine qs ?_;refine qs ?_;refine qs ?_;refine qs ?_;refine qs ?_;refine qs ?_;refine qs ?_;refine qg ?_;refine qm ?_;refine ab.nil (aW ?_);dsimp only[aJ,List.foldl,nth,u2,u1];dsimp only[Fr.aC,Fr.put,Fr.clean,Fr.ev,Fr.get,nth,V.look,u1,u2,v1,v2,v3,v4,v5,v6,v7,List.length,u3,u4,Nat.reduceSub,Nat.reduceAdd,List.map]
    all_goals(simp[bI,ck];done)
 dsimp only[aJ,List.foldl,nth,u2,u1];refine ag.ret ⟨rx,_,rfl,rl cn hH (rfl)⟩
theorem tn {s0:St} {n:dj} (hn:n.ok) {g:Nat} (hg:g≤1048576):Ev pv 73 [.agg (a8 n),.int .i64 (g:Nat)] s0 (.tup [.int .i64 (eK n (g:Nat)).1,.bool (eK n (g:Nat)).2]) s0:=by
 refine Ev.nV rfl Np rfl rfl rfl ?_;dsimp only[u3,u4,List.length,Nat.reduceSub,Nat.reduceAdd,w1,w2];obtain⟨cn,hF,hH⟩:=ri s0;generalize aq .ro s0=S at*;have yy:=hn.1.arg s0.bs.length S;have xc:=hn.2.1;refine qq<|qj fun K hK=>qb hH fun k2 st hk2 hH=>?_;dsimp only[u2,u1,u3,u4,setMany,u5,u6,D.cells,Nat.reduceAdd,a8] at hH;refine qm ?_;refine qm ?_;refine qe hK<|qq<|qq<|qj fun K hK=>?_;refine ab.b9 (m:=7) hH rfl (ev rfl) (by exact aB) (by dsimp only[List.drop_succ_cons,List.drop_zero,List.take_succ_cons,List.take_zero,a8]<;>rfl) rfl rfl (by dsimp only[Fr.put,u1,u2]<;>rfl) ?_;refine qv (xU hn) ?_;refine qg ?_;refine qe hK ?_;unfold eK
 cases hp:pz n with
 |false=>
  rw[if_pos rfl];refine qB ?_;refine qq<|qj fun K hK=>qm ?_;refine qm ?_;refine qe hK<|ag.ret ⟨rx,_,rfl,rl cn hH (rfl)⟩
 |true=>
  rw[if_neg (by simp)];refine qC ?_;refine ag.skip<|qq<|qq<|qj fun K hK=>qp (o:=0) ?_;refine ql hH aB ?_;refine qe hK<|ag.block<|qq<|qq<|qj fun K hK=>qg ?_;refine qm ?_;refine qe hK ?_
  by_cases q1:n.op=1
  ·rw[if_pos (.inl q1)];refine qD rfl (by simp[q1]) ?_;refine ag.skip<|qD rfl (by simp[q1]) ?_;refine qq<|qj fun K hK=>qp (o:=6) ?_;refine ql hH aB ?_;refine qg ?_;refine qm ?_;refine qm ?_;refine qe hK<|ag.ret ⟨rx,_,rfl,rl cn hH (rfl)⟩
  refine qE rfl (by simp[q1]) ?_;refine qq<|qj fun K hK=>qg ?_;refine qm ?_;refine qe hK ?_
  by_cases q7:n.op=7
  ·rw[if_pos (.inr (.inl q7))];refine qD rfl (by simp[q7]) ?_;refine ag.skip<|qD rfl (by simp[q7]) ?_;refine qq<|qj fun K hK=>qp (o:=6) ?_;refine ql hH aB ?_;refine qg ?_;refine qm ?_;refine qm ?_;refine qe hK<|ag.ret ⟨rx,_,rfl,rl cn hH (rfl)⟩
  refine qE rfl (by simp[q7]) ?_;refine qj fun K hK=>qg ?_;refine qm ?_;refine qe hK ?_
  by_cases q8:n.op=8
  ·rw[if_pos (.inr (.inr q8))];refine qD rfl (by simp[q8]) ?_;refine qq<|qj fun K hK=>qp (o:=6) ?_;refine ql hH aB ?_;refine qg ?_;refine qm ?_;refine qm ?_;refine qe hK<|ag.ret ⟨rx,_,rfl,rl cn hH (rfl)⟩
  refine qE rfl (by simp[q8]) ?_;rw[if_neg (by omega)];refine qq<|qj fun K hK=>qg ?_;refine qm ?_;refine qe hK ?_;refine ag.cond (by rfl) (fun q2=>?_) (fun q2=>?_)<;>try simp only[beq_iff_eq,beq_eq_false_iff_ne,ne_eq] at q2
  ·rw[if_pos q2];refine qq<|ag.H5 [4,5] (fun ff=>ff 4=.int .i64 0∧ff 5=.bool ((n.kids==0) &&iD n.rs)) ?_ (fun ff tmp wJ=>?_)
   ·refine qp (o:=6) ?_;refine ql hH aB ?_;refine qg ?_;refine qm ?_;refine ab.two 23 rfl (fun bI=>?_) (fun bI=>?_)
    ·refine qp (o:=1) ?_ (hg:=wi bI);refine ql hH aB ?_ (hg:=wi bI);refine qv (ry (yy.rows hH) xc) ?_ (hg:=wi bI);refine qt bI ?_;refine qm ?_;refine qm ?_;refine ab.nil (iQ ?_ ?_)
     ·dsimp only[aJ,List.foldl,nth,u2,u1]
     ·dsimp only[nth];dsimp only[Fr.aC,Fr.put,Fr.clean,Fr.ev,Fr.get,nth,V.look,u1,u2,v1,v2,v3,v4,v5,v6,v7,List.length,u3,u4,Nat.reduceSub,Nat.reduceAdd,List.map];refine⟨?_,?_⟩<;>(first|rfl|(simp[bI];done)|(simp_all;done)|(simp[bI];omega)|(simp_all;omega))
    ·refine qs ?_ (hg:=wn bI);refine qs ?_ (hg:=wn bI);refine qs ?_ (hg:=wn bI);refine qu bI ?_;refine qm ?_;refine qm ?_;refine ab.nil (iQ ?_ ?_)
     ·dsimp only[aJ,List.foldl,nth,u2,u1]
     ·dsimp only[nth];dsimp only[Fr.aC,Fr.put,Fr.clean,Fr.ev,Fr.get,nth,V.look,u1,u2,v1,v2,v3,v4,v5,v6,v7,List.length,u3,u4,Nat.reduceSub,Nat.reduceAdd,List.map];refine⟨?_,?_⟩<;>(first|rfl|(simp[bI];done)|(simp_all;done)|(simp[bI];omega)|(simp_all;omega))
   dsimp only[aJ,List.foldl,nth,u2,u1];obtain⟨yK,yJ⟩:=wJ;rw[yK,yJ];refine ag.ret ⟨rx,_,rfl,rl cn hH (rfl)⟩
  rw[if_neg q2];refine qq<|qq<|qj fun K hK=>qg ?_;refine qm ?_;refine qe hK ?_
  by_cases q3:n.op=3
  ·rw[if_pos (.inl q3)];refine qD rfl (by simp[q3]) ?_;refine ag.skip<|qD rfl (by simp[q3]) ?_;refine qq<|qj fun K hK=>qp (o:=6) ?_;refine ql hH aB ?_;refine qp (o:=6) ?_;refine ql hH aB ?_;refine qg ?_;refine qm ?_;refine qm ?_;refine qe hK<|ag.ret ⟨rx,_,rfl,rl cn hH (rfl)⟩
  refine qE rfl (by simp[q3]) ?_;refine qj fun K hK=>qg ?_;refine qm ?_;refine qe hK ?_
  by_cases q4:n.op=4
  ·rw[if_pos (.inr q4)];refine qD rfl (by simp[q4]) ?_;refine qq<|qj fun K hK=>qp (o:=6) ?_;refine ql hH aB ?_;refine qp (o:=6) ?_;refine ql hH aB ?_;refine qg ?_;refine qm ?_;refine qm ?_;refine qe hK<|ag.ret ⟨rx,_,rfl,rl cn hH (rfl)⟩
  rw[if_neg (by omega)];refine qE rfl (by simp[q4]) ?_;refine qq<|qj fun K hK=>qg ?_;refine qm ?_;refine qe hK ?_;refine ag.cond (by rfl) (fun q5=>?_) (fun q5=>?_)<;>try simp only[beq_iff_eq,beq_eq_false_iff_ne,ne_eq] at q5
  ·rw[if_pos q5];refine qq<|ag.H5 [4,5] (fun ff=>ff 4=.int .i64 1∧ff 5=.bool ((n.kids==1) &&decide (n.mn≥0) &&decide (n.mn≤30) &&((n.mx==-1)||(decide (n.mx≥n.mn) &&decide (n.mx≤30))))) ?_ (fun ff tmp wJ=>?_)
   ·refine qp (o:=6) ?_;refine ql hH aB ?_;refine qg ?_;refine qm ?_;refine ab.two 41 rfl (fun bI=>?_) (fun bI=>?_)
    ·refine qp (o:=2) ?_ (hg:=wi bI);refine ql hH aB ?_ (hg:=wi bI);refine qg ?_ (hg:=wi bI);refine qt bI ?_;refine qm ?_;refine ab.two 46 rfl (fun dP=>?_) (fun dP=>?_)
     ·refine qp (o:=2) ?_ (hg:=wi dP);refine ql hH aB ?_ (hg:=wi dP);refine qg ?_ (hg:=wi dP);refine qt dP ?_;refine qm ?_;refine ab.two 51 rfl (fun cA=>?_) (fun cA=>?_)
      ·refine qp (o:=3) ?_ (hg:=wi cA);refine ql hH aB ?_ (hg:=wi cA);refine qg ?_ (hg:=wi cA);refine qm ?_ (hg:=wi cA);refine ab.two 55 rfl (fun a7=>?_) (fun a7=>?_)
       ·refine qs ?_ (hg:=wn a7);refine qs ?_ (hg:=wn a7);refine qs ?_ (hg:=wn a7);refine qs ?_ (hg:=wn a7);refine qs ?_ (hg:=wn a7);refine qs ?_ (hg:=wn a7);refine qs ?_;refine qs ?_;refine qs ?_;refine qs ?_ (hg:=wn a7);refine ab.dh (aj rfl rfl rfl cA) rfl a7 (ae rfl _) ?_;refine qt cA ?_;refine qm ?_;refine qm ?_;refine ab.nil (iQ ?_ ?_)
        ·dsimp only[aJ,List.foldl,nth,u2,u1]
        ·dsimp only[nth];dsimp only[Fr.aC,Fr.put,Fr.clean,Fr.ev,Fr.get,nth,V.look,u1,u2,v1,v2,v3,v4,v5,v6,v7,List.length,u3,u4,Nat.reduceSub,Nat.reduceAdd,List.map];refine⟨?_,?_⟩<;>(first|rfl|(simp[bI,dP,cA,a7];done)|(simp_all;done)|(simp[bI,dP,cA,a7];omega)|(simp_all;omega))
       ·refine qp (o:=3) ?_ (hg:=wi a7);refine ql hH aB ?_ (hg:=wi a7);refine qp (o:=2) ?_ (hg:=wi a7);refine ql hH aB ?_ (hg:=wi a7);refine qg ?_ (hg:=wi a7);refine qm ?_ (hg:=wi a7);refine ab.two 61 rfl (fun lq=>?_) (fun lq=>?_)
        ·refine qp (o:=3) ?_ (hg:=wi lq);refine ql hH aB ?_ (hg:=wi lq);refine qg ?_ (hg:=wi lq);refine ab.dh (aj rfl rfl rfl a7) rfl lq (ae rfl _) ?_;refine ab.cF (aj rfl rfl rfl cA) rfl a7 (ae rfl _) ?_;refine qt cA ?_;refine qm ?_;refine qm ?_;refine ab.nil (iQ ?_ ?_)
         ·dsimp only[aJ,List.foldl,nth,u2,u1]
         ·dsimp only[nth];dsimp only[Fr.aC,Fr.put,Fr.clean,Fr.ev,Fr.get,nth,V.look,u1,u2,v1,v2,v3,v4,v5,v6,v7,List.length,u3,u4,Nat.reduceSub,Nat.reduceAdd,List.map];refine⟨?_,?_⟩<;>(first|rfl|(simp[bI,dP,cA,a7,lq];done)|(simp_all;done)|(simp[bI,dP,cA,a7,lq];omega)|(simp_all;omega))
        ·refine qs ?_ (hg:=wn lq);refine qs ?_ (hg:=wn lq);refine qs ?_ (hg:=wn lq);refine ab.cF (aj rfl rfl rfl a7) rfl lq (ae rfl _) ?_;refine ab.cF (aj rfl rfl rfl cA) rfl a7 (ae rfl _) ?_;refine qt cA ?_;refine qm ?_;refine qm ?_;refine ab.nil (iQ ?_ ?_)
         ·dsimp only[aJ,List.foldl,nth,u2,u1]
         ·dsimp only[nth];dsimp only[Fr.aC,Fr.put,Fr.clean,Fr.ev,Fr.get,nth,V.look,u1,u2,v1,v2,v3,v4,v5,v6,v7,List.length,u3,u4,Nat.reduceSub,Nat.reduceAdd,List.map];refine⟨?_,?_⟩<;>(first|rfl|(simp[bI,dP,cA,a7,lq];done)|(simp_all;done)|(simp[bI,dP,cA,a7,lq];omega)|(simp_all;omega))
      ·refine qs ?_ (hg:=wn cA);refine qs ?_ (hg:=wn cA);refine qs ?_ (hg:=wn cA);refine qs ?_ (hg:=wn cA);refine qs ?_;refine qs ?_;refine qs ?_;refine qs ?_;refine qs ?_;refine qs ?_;refine qs ?_;refine qs ?_;refine qs ?_;refine qs ?_;refine qs ?_ (hg:=wn cA);refine qu cA ?_;refine qm ?_;refine qm ?_;refine ab.nil (iQ ?_ ?_)
       ·dsimp only[aJ,List.foldl,nth,u2,u1]
       ·dsimp only[nth];dsimp only[Fr.aC,Fr.put,Fr.clean,Fr.ev,Fr.get,nth,V.look,u1,u2,v1,v2,v3,v4,v5,v6,v7,List.length,u3,u4,Nat.reduceSub,Nat.reduceAdd,List.map];refine⟨?_,?_⟩<;>(first|rfl|(simp[bI,dP,cA];done)|(simp_all;done)|(simp[bI,dP,cA];omega)|(simp_all;omega))
     ·refine qs ?_ (hg:=wn dP);refine qs ?_ (hg:=wn dP);refine qs ?_ (hg:=wn dP);refine qu dP ?_;refine qm ?_;refine qs ?_;refine qs ?_;refine qs ?_;refine qs ?_;refine qs ?_;refine qs ?_;refine qs ?_;refine qs ?_;refine qs ?_;refine qs ?_;refine qs ?_;refine qs ?_;refine qs ?_;refine qs ?_;refine qs ?_;refine qg ?_;refine qm ?_;refine qm ?_;refine ab.nil (iQ ?_ ?_)
      ·dsimp only[aJ,List.foldl,nth,u2,u1]
      ·dsimp only[nth];dsimp only[Fr.aC,Fr.put,Fr.clean,Fr.ev,Fr.get,nth,V.look,u1,u2,v1,v2,v3,v4,v5,v6,v7,List.length,u3,u4,Nat.reduceSub,Nat.reduceAdd,List.map];refine⟨?_,?_⟩<;>(first|rfl|(simp[bI,dP];done)|(simp_all;done)|(simp[bI,dP];omega)|(simp_all;omega))
    ·refine qs ?_ (hg:=wn bI);refine qs ?_ (hg:=wn bI);refine qs ?_ (hg:=wn bI);refine qu bI ?_;refine qm ?_;refine qs ?_;refine qs ?_;refine qs ?_;refine qg ?_;refine qm ?_;refine qs ?_;refine qs ?_;refine qs ?_;refine qs ?_;refine qs ?_;refine qs ?_;refine qs ?_;refine qs ?_;refine qs ?_;refine qs ?_;refine qs ?_;refine qs ?_;refine qs ?_;refine qs ?_;refine qs ?_;refine qg ?_;refine qm ?_;refine qm ?_;refine ab.nil (iQ ?_ ?_)
     ·dsimp only[aJ,List.foldl,nth,u2,u1]
     ·dsimp only[nth];dsimp only[Fr.aC,Fr.put,Fr.clean,Fr.ev,Fr.get,nth,V.look,u1,u2,v1,v2,v3,v4,v5,v6,v7,List.length,u3,u4,Nat.reduceSub,Nat.reduceAdd,List.map];refine⟨?_,?_⟩<;>(first|rfl|(simp[bI];done)|(simp_all;done)|(simp[bI];omega)|(simp_all;omega))
   dsimp only[aJ,List.foldl,nth,u2,u1];obtain⟨yK,yJ⟩:=wJ;rw[yK,yJ];refine ag.ret ⟨rx,_,rfl,rl cn hH (rfl)⟩
  rw[if_neg q5];refine qq<|qj fun K hK=>qg ?_;refine qm ?_;refine qe hK ?_;refine ag.cond (by rfl) (fun q6=>?_) (fun q6=>?_)<;>try simp only[beq_iff_eq,beq_eq_false_iff_ne,ne_eq] at q6
  ·rw[if_pos q6];refine qq<|ag.H5 [4,5] (fun ff=>ff 4=.int .i64 1∧ff 5=.bool ((n.kids==1) &&(n.cap==((g+1:Nat):Int)) &&decide (n.cap≤4))) ?_ (fun ff tmp wJ=>?_)
   ·refine qp (o:=6) ?_;refine ql hH aB ?_;refine qg ?_;refine qm ?_;refine ab.two 73 rfl (fun bI=>?_) (fun bI=>?_)
    ·refine qp (o:=5) ?_ (hg:=wi bI);refine ql hH aB ?_ (hg:=wi bI);refine qm ?_ (hg:=wi bI);refine qA ?_ (hg:=wi bI);refine qg ?_ (hg:=wi bI);refine qt bI ?_;refine qm ?_;refine ab.two 80 rfl (fun aX=>?_) (fun aX=>?_)
     ·refine qp (o:=5) ?_ (hg:=wi aX);refine ql hH aB ?_ (hg:=wi aX);refine qg ?_ (hg:=wi aX);refine qt aX ?_;refine qm ?_;refine qm ?_;refine ab.nil (iQ ?_ ?_)
      ·dsimp only[aJ,List.foldl,nth,u2,u1]
      ·dsimp only[nth];dsimp only[Fr.aC,Fr.put,Fr.clean,Fr.ev,Fr.get,nth,V.look,u1,u2,v1,v2,v3,v4,v5,v6,v7,List.length,u3,u4,Nat.reduceSub,Nat.reduceAdd,List.map];refine⟨?_,?_⟩<;>(first|rfl|(simp[bI,aX];done)|(simp_all;done)|(simp[bI,aX];omega)|(simp_all;omega))
     ·refine qs ?_ (hg:=wn aX);refine qs ?_ (hg:=wn aX);refine qs ?_ (hg:=wn aX);refine qu aX ?_;refine qm ?_;refine qm ?_;refine ab.nil (iQ ?_ ?_)
      ·dsimp only[aJ,List.foldl,nth,u2,u1]
      ·dsimp only[nth];dsimp only[Fr.aC,Fr.put,Fr.clean,Fr.ev,Fr.get,nth,V.look,u1,u2,v1,v2,v3,v4,v5,v6,v7,List.length,u3,u4,Nat.reduceSub,Nat.reduceAdd,List.map];refine⟨?_,?_⟩<;>(first|rfl|(simp[bI,aX];done)|(simp_all;done)|(simp[bI,aX];omega)|(simp_all;omega))
    ·refine qs ?_ (hg:=wn bI);refine qs ?_ (hg:=wn bI);refine qs ?_ (hg:=wn bI);refine qs ?_ (hg:=wn bI);refine qs ?_ (hg:=wn bI);refine qu bI ?_;refine qm ?_;refine qs ?_;refine qs ?_;refine qs ?_;refine qg ?_;refine qm ?_;refine qm ?_;refine ab.nil (iQ ?_ ?_)
     ·dsimp only[aJ,List.foldl,nth,u2,u1]
     ·dsimp only[nth];dsimp only[Fr.aC,Fr.put,Fr.clean,Fr.ev,Fr.get,nth,V.look,u1,u2,v1,v2,v3,v4,v5,v6,v7,List.length,u3,u4,Nat.reduceSub,Nat.reduceAdd,List.map];refine⟨?_,?_⟩<;>(first|rfl|(simp[bI];done)|(simp_all;done)|(simp[bI];omega)|(simp_all;omega))
   dsimp only[aJ,List.foldl,nth,u2,u1];obtain⟨yK,yJ⟩:=wJ;rw[yK,yJ];refine ag.ret ⟨rx,_,rfl,rl cn hH (rfl)⟩
  ·rw[if_neg q6];refine ag.skip<|qq<|qj fun K hK=>qm ?_;refine qm ?_;refine qe hK<|ag.ret ⟨rx,_,rfl,rl cn hH (rfl)⟩
theorem rQ {n:dj} (h:n.ok):refs (a8 n)=0:=by
 have:=h.1.ref;simp only[a8,refs,D.ref,this,Nat.max_self]
def lE (d:D) (at_ g:Nat):List D:=[d,.int .i64 (at_:Nat),.int .i64 (g:Nat)]
theorem x6 {l:List dj} {d:D} (hl:l.length≤1048576) (hi:∀n∈l,n.ok) (hd:gR d 7 (l.map a8)):∀(f:Nat) {N k:Nat} {S s0:St} {H:List bT} {at_ g:Nat},f≤241→g≤4→Has N S s0 (.box k (.mem 0 false (lE d at_ g))::H)→
  ∃r ah,Ev pv 64 [.ptr k 0 0,.int .i64 ((241-f:Nat):Int)] s0 r ah∧r=.bool (gG l f at_ g).isSome∧∃a' g',Has N S ah (.box k (.mem 0 false (lE d a' g'))::H)∧g'≤4∧∀q,gG l f at_ g=some q→a'=q.1∧g'=q.2:=by
 intro f
 induction f with
 |zero=>
  intro N k S s0 H at_ g hf hg hH;refine Ev.lX rfl Ko rfl rfl rfl ?_;dsimp only[u3,u4,List.length,Nat.reduceSub,Nat.reduceAdd,w1,w2];have cv:=hH;have hH:=hH.cw;have b4:(aq .rw s0).bs=s0.bs:=rfl;generalize aq .rw s0=S2 at*;have hc:=hd.arg N S2;refine qq<|qj fun K hK=>qm ?_;refine qe hK<|qq<|qq<|ag.l7 21 (.bool (decide ((at_:Int)≥(l.length:Nat))||decide (((241-0:Nat):Int)>240))) [] ?_ (fun ff tmp il=>?_)
  ·refine qm ?_;refine qg ?_;refine qp (o:=1) ?_;refine ql hH aB ?_;refine qm ?_;refine qg ?_;refine qp (o:=0) ?_;refine ql hH aB ?_;refine qn ?_;simp only[List.length_map];refine qg ?_;refine qm ?_;refine ab.two 18 rfl (fun aX=>?_) (fun aX=>?_)
   ·refine qs ?_ (hg:=wn aX);refine qs ?_ (hg:=wn aX);refine qt aX ?_;refine ab.nil (dD ?_ ?_)
    ·dsimp only[aJ,List.foldl,nth,u2,u1]
     all_goals(first|rfl|simp)
    ·dsimp only[Fr.aC,Fr.put,Fr.clean,Fr.ev,Fr.get,nth,V.look,u1,u2,v1,v2,v3,v4,v5,v6,v7,List.length,u3,u4,Nat.reduceSub,Nat.reduceAdd,List.map]
     all_goals(simp[aX];done)
   ·refine qm ?_ (hg:=wi aX);refine qg ?_ (hg:=wi aX);refine qu aX ?_;refine ab.nil (dD ?_ ?_)
    ·dsimp only[aJ,List.foldl,nth,u2,u1]
     all_goals(first|rfl|simp)
    ·dsimp only[Fr.aC,Fr.put,Fr.clean,Fr.ev,Fr.get,nth,V.look,u1,u2,v1,v2,v3,v4,v5,v6,v7,List.length,u3,u4,Nat.reduceSub,Nat.reduceAdd,List.map]
     all_goals(simp[aX];done)
  dsimp only[aJ,List.foldl,nth,u2,u1];have hT:(decide ((at_:Int)≥(l.length:Nat))||decide (((241-0:Nat):Int)>240))=true:=by simp
  rw[hT] at il;refine qB ?_;refine qq<|qj fun K hK=>qm ?_;refine qe hK<|ag.ret ⟨rx,_,_,_,rfl,ak (rfl),?_⟩;exact⟨rfl,_,_,cv.ay b4 hH,hg,fun q hq=>by simp[gG] at hq⟩
 |succ f ih=>
  intro N k S s0 H at_ g hf hg hH;refine Ev.lX rfl Ko rfl rfl rfl ?_;dsimp only[u3,u4,List.length,Nat.reduceSub,Nat.reduceAdd,w1,w2];have cv:=hH;have hH:=hH.cw;have b4:(aq .rw s0).bs=s0.bs:=rfl;generalize aq .rw s0=S2 at*;have hc:=hd.arg N S2;refine qq<|qj fun K hK=>qm ?_;refine qe hK<|qq<|qq<|ag.l7 21 (.bool (decide ((at_:Int)≥(l.length:Nat))||decide (((241-(f+1):Nat):Int)>240))) [] ?_ (fun ff tmp il=>?_)
  ·refine qm ?_;refine qg ?_;refine qp (o:=1) ?_;refine ql hH aB ?_;refine qm ?_;refine qg ?_;refine qp (o:=0) ?_;refine ql hH aB ?_;refine qn ?_;simp only[List.length_map];refine qg ?_;refine qm ?_;refine ab.two 18 rfl (fun aX=>?_) (fun aX=>?_)
   ·refine qs ?_ (hg:=wn aX);refine qs ?_ (hg:=wn aX);refine qt aX ?_;refine ab.nil (dD ?_ ?_)
    ·dsimp only[aJ,List.foldl,nth,u2,u1]
     all_goals(first|rfl|simp)
    ·dsimp only[Fr.aC,Fr.put,Fr.clean,Fr.ev,Fr.get,nth,V.look,u1,u2,v1,v2,v3,v4,v5,v6,v7,List.length,u3,u4,Nat.reduceSub,Nat.reduceAdd,List.map]
     all_goals(simp_all;done)
   ·refine qm ?_ (hg:=wi aX);refine qg ?_ (hg:=wi aX);refine qu aX ?_;refine ab.nil (dD ?_ ?_)
    ·dsimp only[aJ,List.foldl,nth,u2,u1]
     all_goals(first|rfl|simp)
    ·dsimp only[Fr.aC,Fr.put,Fr.clean,Fr.ev,Fr.get,nth,V.look,u1,u2,v1,v2,v3,v4,v5,v6,v7,List.length,u3,u4,Nat.reduceSub,Nat.reduceAdd,List.map]
     all_goals(simp_all;omega)
  dsimp only[aJ,List.foldl,nth,u2,u1]
  by_cases ha:l.length≤at_
  ·have hT:(decide ((at_:Int)≥(l.length:Nat))||decide (((241-(f+1):Nat):Int)>240))=true:=by
    rw[Bool.or_eq_true];exact .inl (by rw[decide_eq_true_eq];omega)
   rw[hT] at il;have hn:gG l (f+1) at_ g=none:=by unfold gG;rw[List.getElem?_eq_none ha]
   rw[hn];refine qB ?_;refine qq<|qj fun K hK=>qm ?_;refine qe hK<|ag.ret ⟨rx,_,_,_,rfl,ak (rfl),?_⟩;exact⟨rfl,_,_,cv.ay b4 hH,hg,fun q hq=>by cases hq⟩
  ·have hT:(decide ((at_:Int)≥(l.length:Nat))||decide (((241-(f+1):Nat):Int)>240))=false:=by
    rw[Bool.or_eq_false_iff];exact⟨by rw[decide_eq_false_iff_not];omega,by rw[decide_eq_false_iff_not];omega⟩
   rw[hT] at il
   obtain⟨n,hn⟩:∃n,l[at_]?=some n:=⟨l[at_]'(by omega),List.getElem?_eq_getElem _⟩
   have lp:=hi n (List.mem_of_getElem? hn);have gM:=jk hn;have KG:=rQ lp
   have hU:gG l (f+1) at_ g=if(eK n (g:Nat)).2=true then jF (gG l f) (eK n (g:Nat)).1.toNat (at_+1) (if n.op=6 then g+1 else g) else none:=by
    rw[gG,hn]
   rw[hU];clear hU;refine qC ?_;refine ag.skip<|qq<|qj fun K hK=>qm ?_;refine qg ?_;refine qp (o:=0) ?_;refine ql hH aB ?_;refine qm ?_;refine qg ?_;refine qp (o:=1) ?_;refine ql hH aB ?_;refine qr fun Ox JD=>?_;refine ab.eo rfl (ev rfl) (by assumption) rfl (ae rfl _) ?_;refine qa hH fun k5 st JV hH=>?_;dsimp only[u2,u1,u3,u4,setMany,u5,u6,D.cells,Nat.reduceAdd,lE,a8] at hH;refine ab.pS hH rfl (ev rfl) (ev rfl) (by rfl) (by exact rfl) (by exact aB) (by exact rfl) (by exact .inr (by assumption)) (fun st hH=>?_);dsimp only[u2,u1,u3,u4,setMany,u5,u6,D.cells,Nat.reduceAdd,lE,a8] at hH;refine qe hK<|qq<|qj fun K hK=>?_;refine ab.b9 (m:=7) hH rfl (ev rfl) (by exact aB) (by dsimp only[List.drop_succ_cons,List.drop_zero,List.take_succ_cons,List.take_zero,lE,a8]<;>rfl) rfl rfl (ae rfl _) ?_;refine qm ?_;refine qg ?_;refine qp (o:=2) ?_;refine ql hH bN ?_;refine qv (tn lp (by omega)) ?_;refine qm ?_;refine qg ?_;refine qg ?_;refine qm ?_;refine qm ?_;refine qe hK<|qq<|qq<|qj fun K hK=>qm ?_;refine qg ?_;refine qe hK ?_
   cases hsh:(eK n (g:Nat)).2 with
   |false=>
    rw[if_neg (by simp)];refine qB ?_;refine qq<|qj fun K hK=>qm ?_;refine qe hK<|ag.ret ⟨rx,_,_,_,rfl,ak (rfl),?_⟩;exact⟨rfl,_,_,cv.ay b4 (hH.drop 1),hg,fun q hq=>by cases hq⟩
   |true=>
    rw[if_pos rfl];obtain⟨⟨oa,_⟩,hk2,KN⟩:=rm hsh;have KM:=lp.2.2;obtain⟨kd,Iv⟩:∃kd:Nat,(eK n (g:Nat)).1=(kd:Int):=Int.eq_ofNat_of_zero_le hk2;rw[Iv,Int.toNat_natCast];rw[Iv,Int.toNat_natCast] at oa;refine qC ?_;refine ag.skip<|qq<|qj fun K hK=>qm ?_;refine qg ?_;refine qp (o:=1) ?_;refine ql hH bN ?_;refine qA ?_;refine qg ?_;refine qp (o:=1) ?_;refine qT hH bN fun st hH=>?_;dsimp only[u2,u1,u3,u4,setMany,u5,u6,D.cells,Nat.reduceAdd,lE,a8] at hH;refine qe hK<|qq<|qq<|qj fun K hK=>qp (o:=0) ?_;refine ql hH aB ?_;refine qg ?_;refine qe hK<|ag.merge (fun fr st=>∃(g2:Nat) (tmp:List (Nat×D)),fr=⟨8,[.ptr k 0 0,.int .i64 ((241-(f+1):Nat):Int),lf fr 2,lf fr 3,.bool false,.ptr k5 0 0,.int .i64 (kd:Nat),.bool true],tmp⟩∧Has N S2 st (.box k (.mem 0 false [d,.int .i64 ((at_+1:Nat):Int),.int .i64 (g2:Nat)])::.box k5 (.mem 0 false (a8 n))::H)∧(g2=if n.op=6 then g+1 else g)∧(g2≤4)) ?_ ?_
    ·refine ag.cond (by rfl) (fun q6=>?_) (fun q6=>?_)<;>try simp only[beq_iff_eq,beq_eq_false_iff_ne,ne_eq] at q6
     ·have:=KN q6;refine qj fun K hK=>qm ?_;refine qg ?_;refine qp (o:=2) ?_;refine ql hH bN ?_;refine qA ?_;refine qg ?_;refine qp (o:=2) ?_;refine qT hH bN fun st hH=>?_;dsimp only[u2,u1,u3,u4,setMany,u5,u6,D.cells,Nat.reduceAdd,lE,a8] at hH;refine qe hK ?_;exact⟨g+1,_,rfl,(by have:=hH.front bN;exact this),by rw[if_pos q6],by omega⟩
     ·refine ag.skip ?_;exact⟨g,_,rfl,(by have:=hH.front bN;exact this),by rw[if_neg q6],hg⟩
    ·rintro fr st ⟨g2,tmp,hfr,hH,bH,bI⟩;rw[hfr];clear hfr;generalize lf fr=ee;clear fr;rw[←bH];refine qq<|ag.block<|ag.loop (fun mm fr st=>∃(kk a2 g4:Nat),fr.clean=⟨8,[.ptr k 0 0,.int .i64 ((241-(f+1):Nat):Int),lf fr 2,lf fr 3,.bool false,.ptr k5 0 0,.int .i64 (kk:Nat),.bool true],[]⟩∧Has N S2 st (.box k (.mem 0 false [d,.int .i64 (a2:Nat),.int .i64 (g4:Nat)])::.box k5 (.mem 0 false (a8 n))::H)∧(jF (gG l f) kk a2 g4=jF (gG l f) kd (at_+1) g2)∧(g4≤4)∧(kk=mm)∧(kk≤9223372036854775807)) (kd) ?_ ?_
     ·exact⟨kd,at_+1,g2,rfl,hH,rfl,bI,rfl,by omega⟩
     rintro mm fr st ⟨kk,a2,g4,hfr,hH,hX,bn,CV,hkk⟩;rw[hfr];clear hfr;generalize lf fr=ee;clear fr;refine qq<|qq<|qj fun K hK=>qm ?_;refine qg ?_;refine qe hK ?_
     cases kk with
     |zero=>
      refine ag.cond (v:=false) (by dsimp only[Fr.ev,Fr.get,nth,V.look];rfl) (fun h=>by cases h) (fun _=>?_);refine ag.exit<|qq<|qj fun K hK=>qm ?_;refine qe hK<|ag.ret ⟨rx,_,_,_,rfl,ak (rfl),?_⟩;exact⟨by rw[←hX];rfl,_,_,cv.ay b4 (hH.erase 1),bn,fun q hq=>by rw[←hX] at hq;simp only[jF,Option.some.injEq] at hq;subst hq;exact⟨rfl,rfl⟩⟩
     |succ kk=>
      rw[jF] at hX;refine qD rfl (by simp) ?_;refine ag.skip<|qq<|ag.block<|qq<|qj fun K hK=>qm ?_;refine qm ?_;refine ab.eY (z:=((241-f:Nat):Int)) rfl (ev rfl) (ev rfl) (by(try simp only[List.length_reverse,List.length_cons,List.length_nil,List.length_append,List.length_map,List.length_set]);rw[wrap_i64 (by omega) (by omega)]<;>omega) (ae rfl _) ?_;obtain⟨_,st,aM,rfl,a',g',hH,ef,hq⟩:=ih (at_:=a2) (g:=g4) (by omega) bn hH;refine qv aM ?_;refine qg ?_;refine qe hK ?_
      cases ho:gG l f a2 g4 with
      |none=>
       rw[ho] at hX;refine qB ?_;refine qq<|qj fun K hK=>qm ?_;refine qe hK<|ag.ret ⟨rx,_,_,_,rfl,ak (rfl),?_⟩;exact⟨by rw[←hX];rfl,_,_,cv.ay b4 (hH.erase 1),ef,fun q hq=>by rw[←hX] at hq;cases hq⟩
      |some q=>
       rw[ho] at hX;obtain⟨rfl,rfl⟩:=hq q ho;refine qC ?_;refine ag.skip<|qj fun K hK=>qm ?_;refine ab.j7 (z:=((kk:Nat):Int)) rfl (ev rfl) (ev rfl) (by(try simp only[List.length_reverse,List.length_cons,List.length_nil,List.length_append,List.length_map,List.length_set]);rw[wrap_i64 (by omega) (by omega)]<;>omega) (ae rfl _) ?_;refine qm ?_;refine qe hK ?_;exact⟨mm-1,by omega,⟨kk,q.1,q.2,rfl,hH,hX,ef,by omega,by omega⟩⟩
theorem v_ {s0:St} {x:Nl} (hx:x.ok):Ev pv 39 [x.d] s0 (.bool (eM x.l)) s0:=by
 refine Ev.nV rfl NK rfl rfl rfl ?_;dsimp only[u3,u4,List.length,Nat.reduceSub,Nat.reduceAdd,w1,w2];obtain⟨cn,hF,hH⟩:=ri s0;generalize aq .ro s0=S at*;have hc:=hx.c.arg s0.bs.length S;have hl:=hx.nl;have p_:=hx.c;refine qq<|qj fun K hK=>qm ?_;refine qe hK<|qq<|qq<|ag.l7 11 (.bool (decide (((x.l.length:Nat):Int)<1)||decide (((x.l.length:Nat):Int)>480))) [] ?_ (fun ff tmp il=>?_)
 ·refine qm ?_;refine qn ?_;simp only[List.length_map];refine qg ?_;refine qm ?_;refine ab.two 7 rfl (fun bI=>?_) (fun bI=>?_)
  ·refine qs ?_ (hg:=wn bI);refine qs ?_ (hg:=wn bI);refine qs ?_ (hg:=wn bI);refine qt bI ?_;refine ab.nil (dD ?_ ?_)
   ·dsimp only[aJ,List.foldl,nth,u2,u1]
    all_goals(first|rfl|simp)
   ·dsimp only[Fr.aC,Fr.put,Fr.clean,Fr.ev,Fr.get,nth,V.look,u1,u2,v1,v2,v3,v4,v5,v6,v7,List.length,u3,u4,Nat.reduceSub,Nat.reduceAdd,List.map]
    all_goals(simp[bI];done)
  ·refine qm ?_ (hg:=wi bI);refine qn ?_ (hg:=wi bI);simp only[List.length_map];refine qg ?_ (hg:=wi bI);refine qu bI ?_;refine ab.nil (dD ?_ ?_)
   ·dsimp only[aJ,List.foldl,nth,u2,u1]
    all_goals(first|rfl|simp)
   ·dsimp only[Fr.aC,Fr.put,Fr.clean,Fr.ev,Fr.get,nth,V.look,u1,u2,v1,v2,v3,v4,v5,v6,v7,List.length,u3,u4,Nat.reduceSub,Nat.reduceAdd,List.map]
    all_goals(simp[bI];done)
 dsimp only[aJ,List.foldl,nth,u2,u1]
 by_cases hlen:1≤x.l.length∧x.l.length≤480
 ·have hT:(decide (((x.l.length:Nat):Int)<1)||decide (((x.l.length:Nat):Int)>480))=false:=by
   rw[Bool.or_eq_false_iff];exact⟨by rw[decide_eq_false_iff_not];omega,by rw[decide_eq_false_iff_not];omega⟩
  rw[hT] at il
  have hR:eM x.l=(match gG x.l 241 0 0 with|some r=>decide (r.1=x.l.length)|none=>false):=by
   unfold eM;rw[decide_eq_true hlen.1,decide_eq_true hlen.2];rfl
  rw[hR];clear hR;refine qC ?_;refine ag.skip<|qq<|qj fun K hK=>qm ?_;refine ab.fP (qs:=[(0,_)]) rfl rfl rfl rfl ⟨rfl,(ev rfl),(by exact(gR.cells (by assumption)).1),trivial⟩ (by intro q hq;simp only[List.mem_cons,List.not_mem_nil,or_false] at hq;rcases hq with rfl<;>exact⟨rfl,by exact Nat.le_of_ble_eq_true rfl⟩) (by show List.foldl _ [_,_,_] _=_;dsimp only[List.foldl_cons,List.foldl_nil,u2,u1]<;>rfl) (ae rfl _) ?_;refine qb hH fun k14 st JY hH=>?_;refine qm ?_;refine qe hK ?_;have hH:Has s0.bs.length S st (.box k14 (.mem 0 false (lE x.d 0 0))::[]):=hH
  cases bH:(gG x.l 241 0 0).isSome with
  |true=>
   obtain⟨q,hq⟩:=Option.isSome_iff_exists.1 bH;refine qq<|qj fun K hK=>qm ?_;obtain⟨_,st,aM,rfl,a',g',hH,ef,OO⟩:=x6 hl hx.i hx.c 241 (by omega) (by omega) hH;refine qv aM ?_;refine qm ?_;refine qm ?_ (hg:=wi bH);refine qg ?_ (hg:=wi bH);refine qp (o:=1) ?_ (hg:=wi bH);refine ql hH aB ?_ (hg:=wi bH);refine qm ?_ (hg:=wi bH);refine qn ?_ (hg:=wi bH);simp only[List.length_map];refine qg ?_ (hg:=wi bH);refine qt bH ?_;refine qm ?_;refine qe hK ?_;obtain⟨rfl,rfl⟩:=OO q hq;rw[hq]
   have he:decide (q.1=x.l.length)=(((q.1:Nat):Int)==((x.l.length:Nat):Int)):=by
    rw[Bool.eq_iff_iff];simp only[decide_eq_true_eq,beq_iff_eq];omega
   simp only[he];refine ag.ret ⟨rx,_,rfl,rl cn hH (rfl)⟩
  |false=>
   have hq:gG x.l 241 0 0=none:=by
    cases hq:gG x.l 241 0 0 with
    |none=>rfl
    |some q=>rw[hq] at bH;cases bH
   refine qq<|qj fun K hK=>qm ?_;obtain⟨_,st,aM,rfl,a',g',hH,ef,OO⟩:=x6 hl hx.i hx.c 241 (by omega) (by omega) hH;refine qv aM ?_;refine qm ?_;refine qs ?_ (hg:=wn bH);refine qs ?_ (hg:=wn bH);refine qs ?_ (hg:=wn bH);refine qs ?_ (hg:=wn bH);refine qs ?_ (hg:=wn bH);refine qs ?_ (hg:=wn bH);refine qs ?_ (hg:=wn bH);refine qu bH ?_;refine qm ?_;refine qe hK ?_;rw[hq];refine ag.ret ⟨rx,_,rfl,rl cn hH (rfl)⟩
 ·have hT:(decide (((x.l.length:Nat):Int)<1)||decide (((x.l.length:Nat):Int)>480))=true:=by
   rw[Bool.or_eq_true,decide_eq_true_eq,decide_eq_true_eq];omega
  rw[hT] at il
  have hR:eM x.l=false:=by
   unfold eM
   by_cases h1:1≤x.l.length
   ·rw[decide_eq_true h1,decide_eq_false (fun h2=>hlen ⟨h1,h2⟩)];rfl
   ·rw[decide_eq_false h1];rfl
  rw[hR];refine qB ?_;refine qq<|qj fun K hK=>qm ?_;refine qe hK<|ag.ret ⟨rx,_,rfl,rl cn hH (rfl)⟩
def aL (fr:Go.V.Fr) (k:Nat):Go.V.D:=Go.V.nth .bp fr.loc k
def kP (es:List Int) (a:Nat) (M:List Int):List Int:=es.take a++M++es.drop (a+M.length)
theorem uS {es M:List Int} {a:Nat} (h:a+M.length≤es.length):(kP es a M).length=es.length:=by
 unfold kP;simp only[List.length_append,List.length_take,List.length_drop];omega
theorem uR {es:List Int} {a:Nat}:kP es a []=es:=by
 unfold kP;simp
theorem zQ {es M:List Int} {a:Nat} {x:Int} (h:a≤es.length):(kP es a (x::M))[a]?=some x:=by
 unfold kP;rw[List.append_assoc,List.getElem?_append_right (by simp only[List.length_take];omega)];simp[Nat.min_eq_left h]
theorem uP {es M M':List Int} {a:Nat} (h:a+M.length+M'.length≤es.length):kP (kP es a M) (a+M.length) M'=kP es a (M++M'):=by
 unfold kP;have h1:(es.take a++M).length=a+M.length:=by simp only[List.length_append,List.length_take];omega
 rw[List.take_append_of_le_length (by omega),List.take_of_length_le (by omega)];rw[←h1,List.drop_append,List.drop_eq_nil_of_le (by omega),List.nil_append,h1,List.drop_drop];simp only[List.append_assoc,List.length_append]
 congr 4
 omega
theorem uQ {es M:List Int} {a:Nat} {v:Int} (h:a+1+M.length≤es.length):(kP es (a+1) M).set a v=kP es a (v::M):=by
 unfold kP;have h1:(es.take a).length=a:=by simp only[List.length_take];omega
 rw[List.append_assoc,List.take_add_one,List.getElem?_eq_getElem (by omega)];simp only[Option.toList_some,List.append_assoc,List.cons_append,List.nil_append,List.length_cons];rw[List.set_append_right _ _ (by omega),h1,Nat.sub_self,List.set_cons_zero]
 congr 4
 omega
theorem xD {l:List dj} {d:D} (hl:l.length≤1048576) (hi:∀n∈l,n.ok) (hd:gR d 7 (l.map a8)):∀(m:Nat) (t:Tr),t.flat.length≤m→t.ok→∀{N:Nat} {S s0:St} {H:List bT} {out:D} {es:List Int} {at_:Nat},eH l at_ t.flat→es.length=l.length→Has N S s0 (.aN out 1 (es.map av)::H)→
  ∃r ah,Ev pv 40 [d,out,.int .i64 (at_:Nat)] s0 r ah∧r=.int .i64 ((at_+t.flat.length:Nat):Int)∧Has N S ah (.aN out 1 ((kP es at_ t.zs).map av)::H):=by
 intro m
 induction m with
 |zero=>intro t h;have:=t.gO;omega
 |succ m ih=>
  rintro⟨n,ks⟩ hm cI N S s0 H out es at_ kj q9 hH;simp only[Tr.ok] at cI;obtain⟨lp,qZ⟩:=cI;simp only[Tr.flat,List.length_cons] at hm;have hle:=kj.le (by simp[Tr.flat]);simp only[Tr.flat] at kj hle;simp only[List.length_cons] at hle;have hn:=kj.head;have kj:=kj.tail;have JK:=hi n (List.mem_of_getElem? hn);have gM:=jk hn;have KG:=rQ JK;have Iv:=lp.1;have nj:=bF.lb ks;refine Ev.lX rfl NJ rfl rfl rfl ?_;dsimp only[u3,u4,List.length,Nat.reduceSub,Nat.reduceAdd,w1,w2];have cv:=hH;have hH:=hH.cw;have b4:(aq .rw s0).bs=s0.bs:=rfl;generalize aq .rw s0=S2 at*;have hc:=hd.arg N S2;refine qq<|qj fun K hK=>qm ?_;refine qe hK<|qq<|qj fun K hK=>qm ?_;refine qm ?_;refine qr fun PU L'=>?_;refine ab.eo rfl (ev rfl) (by assumption) rfl (by dsimp only[Fr.put,u1,u2]<;>rfl) ?_;refine qa hH fun k7 st Ml hH=>?_;refine ab.pS hH rfl (ev rfl) (ev rfl) (by rfl) (by exact rfl) (by exact aB) (by exact rfl) (by exact .inr (by assumption)) (fun st hH=>?_);dsimp only[u2,u1,u3,u4,setMany,u5,u6,D.cells,Nat.reduceAdd,a8,av] at hH;refine qe hK<|qq<|qj fun K hK=>qm ?_;refine qA ?_;refine qm ?_;refine qe hK<|qq<|qj fun K hK=>qm ?_;refine qe hK<|qq<|qq<|qj fun K hK=>qp (o:=6) ?_;refine ql hH aB ?_;refine qm ?_;refine qe hK<|ag.block<|ag.loop (fun mm fr st=>∃(i j ss:Nat) (rest:bF) (l6:List Int),fr.clean=⟨36,[d,out,.int .i64 (at_:Nat),aL fr 3,aL fr 4,aL fr 5,.int .i64 0,.ptr k7 0 0,.int .i64 (j:Nat),.int .i64 ((min ss 401:Nat):Int),aL fr 10,aL fr 11,aL fr 12,aL fr 13,aL fr 14,aL fr 15,aL fr 16,aL fr 17,.int .i64 n.kids,.int .i64 (i:Nat),aL fr 20,aL fr 21,aL fr 22,aL fr 23,aL fr 24,aL fr 25,aL fr 26,aL fr 27,aL fr 28,aL fr 29,aL fr 30,aL fr 31,aL fr 32,aL fr 33,aL fr 34,aL fr 35],[]⟩∧Has N S2 st (.aN out 1 (l6.map av)::.box k7 (.mem 0 false (a8 n))::H)∧(mm=rest.len)∧(i+rest.len=ks.len)∧(eH l j rest.flat)∧(rest.ok)∧(ss+rest.sz=ks.sz)∧(l6.length=l.length)∧(kP l6 j rest.zs=kP es (at_+1) ks.zs)∧(j+rest.flat.length=at_+1+ks.flat.length)∧(rest.flat.length≤m)) (ks.len) ?_ ?_
  ·exact⟨0,at_+1,0,ks,es,rfl,(by have:=hH.front bN;exact this),rfl,by omega,kj,qZ,by omega,q9,rfl,rfl,by omega⟩
  rintro mm fr st ⟨i,j,ss,rest,l6,hfr,hH,te,wH,l3,ir,w9,ub,pU,hj,Hj⟩;rw[hfr];clear hfr;generalize aL fr=ee;clear fr;refine qq<|qj fun K hK=>qg ?_;refine qe hK ?_
  cases rest with
  |nil=>
   simp only[bF.len] at wH;simp only[bF.sz] at w9;simp only[bF.flat,List.length_nil] at hj;simp only[bF.zs,uR] at pU;have fG:decide ((i:Int)<n.kids)=false:=by rw[decide_eq_false_iff_not];omega
   refine qq<|qE rfl (by rw[fG]) ?_;refine ag.exit ?_;obtain rfl:ss=ks.sz:=by omega
   have kj:=l3;refine qq<|qq<|qj fun K hK=>qp (o:=0) ?_;refine ql hH bN ?_;refine qe hK<|ag.merge (fun fr st=>∃(tmp:List (Nat×D)),fr=⟨36,[d,out,.int .i64 (at_:Nat),aL fr 3,aL fr 4,aL fr 5,.int .i64 0,.ptr k7 0 0,.int .i64 (j:Nat),.int .i64 ((bz n (min ks.sz 401) ks.len:Nat):Int),aL fr 10,aL fr 11,aL fr 12,aL fr 13,aL fr 14,aL fr 15,aL fr 16,aL fr 17,aL fr 18,aL fr 19,aL fr 20,aL fr 21,aL fr 22,aL fr 23,aL fr 24,aL fr 25,aL fr 26,aL fr 27,aL fr 28,aL fr 29,aL fr 30,aL fr 31,aL fr 32,aL fr 33,aL fr 34,aL fr 35],tmp⟩∧Has N S2 st (.aN out 1 (l6.map av)::.box k7 (.mem 0 false (a8 n))::H)) ?_ ?_
   ·refine ag.block<|qq<|qq<|qj fun K hK=>qg ?_;refine qm ?_;refine qe hK ?_;generalize hw:min ks.sz 401=w;have Lu:w≤401:=by omega
    have mj:ks.len≤9223372036854775→True:=fun _=>trivial
    by_cases q2:n.op=2
    ·have hz:bz n w ks.len=1:=by unfold bz;rw[if_pos (.inl q2)]
     rw[hz];refine qD rfl (by simp[q2]) ?_;refine ag.skip<|qD rfl (by simp[q2]) ?_;refine qj fun K hK=>qm ?_;refine qe hK ?_;exact⟨_,rfl,hH⟩
    refine qE rfl (by simp[q2]) ?_;refine qq<|qj fun K hK=>qg ?_;refine qm ?_;refine qe hK ?_
    by_cases q7:n.op=7
    ·have hz:bz n w ks.len=1:=by unfold bz;rw[if_pos (.inr (.inl q7))]
     rw[hz];refine qD rfl (by simp[q7]) ?_;refine ag.skip<|qD rfl (by simp[q7]) ?_;refine qj fun K hK=>qm ?_;refine qe hK ?_;exact⟨_,rfl,hH⟩
    refine qE rfl (by simp[q7]) ?_;refine qj fun K hK=>qg ?_;refine qm ?_;refine qe hK ?_
    by_cases q8:n.op=8
    ·have hz:bz n w ks.len=1:=by unfold bz;rw[if_pos (.inr (.inr q8))]
     rw[hz];refine qD rfl (by simp[q8]) ?_;refine qj fun K hK=>qm ?_;refine qe hK ?_;exact⟨_,rfl,hH⟩
    refine qE rfl (by simp[q8]) ?_
    have hz0:bz n w ks.len=if n.op=4 then w+2*(ks.len-1) else if n.op=6 then w+2 else if n.op=5 then(if n.mx=-1 then n.mn.toNat*w+w+2 else n.mn.toNat*w+(n.mx.toNat-n.mn.toNat)*(w+1)) else w:=by
     unfold bz;rw[if_neg (by omega)]
    rw[hz0];clear hz0;obtain⟨_,ij⟩:=lp;have hq:(n.op=1∧ks.len=0)∨((n.op=3∨n.op=4)∧2≤ks.len)∨(n.op=5∧ks.len=1∧0≤n.mn∧n.mn≤30∧(n.mx=-1∨(n.mn≤n.mx∧n.mx≤30)))∨(n.op=6∧ks.len=1∧1≤n.cap∧n.cap≤4):=by omega
    refine qq<|qj fun K hK=>qg ?_;refine qm ?_;refine qe hK ?_
    by_cases q4:n.op=4
    ·rw[if_pos q4];have hk2:2≤ks.len:=by omega
     refine qD rfl (by simp[q4]) ?_;refine qj fun K hK=>qm ?_;refine qp (o:=6) ?_;refine ql hH bN ?_;refine ab.j7 (z:=((ks.len-1:Nat):Int)) rfl (ev rfl) (ev rfl) (by(try simp only[List.length_reverse,List.length_cons,List.length_nil,List.length_append,List.length_map,List.length_set]);rw[wrap_i64 (by omega) (by omega)]<;>omega) (ae rfl _) ?_;refine ab.pG (z:=((2*(ks.len-1):Nat):Int)) rfl (ev rfl) (ev rfl) (by(try simp only[List.length_reverse,List.length_cons,List.length_nil,List.length_append,List.length_map,List.length_set]);rw[wrap_i64 (by omega) (by omega)]<;>omega) (ae rfl _) ?_;refine ab.eY (z:=((w+2*(ks.len-1):Nat):Int)) rfl (ev rfl) (ev rfl) (by(try simp only[List.length_reverse,List.length_cons,List.length_nil,List.length_append,List.length_map,List.length_set]);rw[wrap_i64 (by omega) (by omega)]<;>omega) (ae rfl _) ?_;refine qm ?_;refine qe hK ?_;exact⟨_,rfl,hH⟩
    rw[if_neg q4];refine qE rfl (by simp[q4]) ?_;refine qq<|qj fun K hK=>qg ?_;refine qm ?_;refine qe hK ?_
    by_cases q6:n.op=6
    ·rw[if_pos q6];refine qD rfl (by simp[q6]) ?_;refine qj fun K hK=>qm ?_;refine qA ?_;refine qm ?_;refine qe hK ?_;exact⟨_,rfl,hH⟩
    rw[if_neg q6];refine qE rfl (by simp[q6]) ?_;refine qq<|qj fun K hK=>qg ?_;refine qm ?_;refine qe hK ?_
    by_cases q5:n.op=5
    ·rw[if_pos q5];refine qD rfl (by simp[q5]) ?_;refine qq<|qj fun K hK=>qp (o:=3) ?_;refine ql hH bN ?_;refine qg ?_;refine qe hK ?_;have xh:0≤n.mn∧n.mn≤30∧(n.mx=-1∨(n.mn≤n.mx∧n.mx≤30)):=by omega
     obtain⟨a,ha⟩:∃a:Nat,n.mn=(a:Int):=Int.eq_ofNat_of_zero_le xh.1;have Qg:n.mn.toNat=a:=by omega
     have h1:a*w≤30*401:=Nat.mul_le_mul (by omega) Lu;have hmul:n.mn*(w:Int)=((a*w:Nat):Int):=by rw[ha];push_cast;rfl
     rw[Qg]
     by_cases xO:n.mx=-1
     ·rw[if_pos xO];refine qD rfl (by simp[xO]) ?_;refine qj fun K hK=>qp (o:=2) ?_;refine ql hH bN ?_;refine qm ?_;refine ab.pG (z:=((a*w:Nat):Int)) rfl (ev rfl) (ev rfl) (by(try simp only[List.length_reverse,List.length_cons,List.length_nil,List.length_append,List.length_map,List.length_set]);rw[wrap_i64 (by omega) (by omega)]<;>omega) (ae rfl _) ?_;refine qm ?_;refine ab.eY (z:=((a*w+w:Nat):Int)) rfl (ev rfl) (ev rfl) (by(try simp only[List.length_reverse,List.length_cons,List.length_nil,List.length_append,List.length_map,List.length_set]);rw[wrap_i64 (by omega) (by omega)]<;>omega) (ae rfl _) ?_;refine ab.eY (z:=((a*w+w+2:Nat):Int)) rfl (ev rfl) (ev rfl) (by(try simp only[List.length_reverse,List.length_cons,List.length_nil,List.length_append,List.length_map,List.length_set]);rw[wrap_i64 (by omega) (by omega)]<;>omega) (ae rfl _) ?_;refine qm ?_;refine qe hK ?_;exact⟨_,rfl,hH⟩
     ·rw[if_neg xO];obtain⟨b,hb⟩:∃b:Nat,n.mx=(b:Int):=Int.eq_ofNat_of_zero_le (by omega);have Qf:n.mx.toNat=b:=by omega
      have h2:(b-a)*(w+1)≤30*402:=Nat.mul_le_mul (by omega) (by omega);rw[Qf];refine qE rfl (by simp[xO]) ?_;refine qj fun K hK=>qp (o:=2) ?_;refine ql hH bN ?_;refine qm ?_;refine ab.pG (z:=((a*w:Nat):Int)) rfl (ev rfl) (ev rfl) (by(try simp only[List.length_reverse,List.length_cons,List.length_nil,List.length_append,List.length_map,List.length_set]);rw[wrap_i64 (by omega) (by omega)]<;>omega) (ae rfl _) ?_;refine qp (o:=3) ?_;refine ql hH bN ?_;refine qp (o:=2) ?_;refine ql hH bN ?_;refine ab.j7 (z:=((b-a:Nat):Int)) rfl (ev rfl) (ev rfl) (by(try simp only[List.length_reverse,List.length_cons,List.length_nil,List.length_append,List.length_map,List.length_set]);rw[wrap_i64 (by omega) (by omega)]<;>omega) (ae rfl _) ?_;refine qm ?_;refine ab.eY (z:=((w+1:Nat):Int)) rfl (ev rfl) (ev rfl) (by(try simp only[List.length_reverse,List.length_cons,List.length_nil,List.length_append,List.length_map,List.length_set]);rw[wrap_i64 (by omega) (by omega)]<;>omega) (ae rfl _) ?_;refine ab.pG (z:=(((b-a)*(w+1):Nat):Int)) rfl (ev rfl) (ev rfl) (by(try simp only[List.length_reverse,List.length_cons,List.length_nil,List.length_append,List.length_map,List.length_set]);rw[wrap_i64 (by omega) (by omega)]<;>omega) (ae rfl _) ?_;refine ab.eY (z:=((a*w+(b-a)*(w+1):Nat):Int)) rfl (ev rfl) (ev rfl) (by(try simp only[List.length_reverse,List.length_cons,List.length_nil,List.length_append,List.length_map,List.length_set]);rw[wrap_i64 (by omega) (by omega)]<;>omega) (ae rfl _) ?_;refine qm ?_;refine qe hK ?_;exact⟨_,rfl,hH⟩
    ·rw[if_neg q5];refine qE rfl (by simp[q5]) ?_;refine ag.skip ?_;exact⟨_,rfl,hH⟩
   ·rintro fr st ⟨tmp,hfr,hH⟩;rw[hfr];clear hfr;generalize aL fr=ee;clear fr;have iU:=Dh (n:=n) (k:=ks.len) (s:=ks.sz);have gN:at_<l6.length:=by omega
    obtain⟨w,hw⟩:∃w,l6[at_]?=some w:=⟨l6[at_]'gN,List.getElem?_eq_getElem _⟩
    have Qr:=ey hw;refine qq<|qj fun K hK=>qm ?_;refine qm ?_;refine qm ?_;refine ab.Jj (z:=((min (bz n ks.sz ks.len) 401:Nat):Int)) (t1:=_) (t2:=_) rfl (ev rfl) (ev rfl) (by omega) (ae rfl _) ?_;refine qi hH aB fun PC LV=>?_;refine ab.jO hH rfl (ev rfl) (ev rfl) (by assumption) rfl rfl (by exact aB) (by assumption) (Nat.le_of_ble_eq_true rfl) (by exact .inr rfl) (fun st hH=>?_);dsimp only[u2,u1,u3,u4,setMany,u5,u6,D.cells,Nat.reduceAdd,a8,av] at hH;refine qe hK<|qq<|qj fun K hK=>qm ?_;refine qm ?_;refine qe hK<|ag.ret ⟨rx,_,_,_,rfl,ak (rfl),?_⟩;have Ms:j=at_+(Tr.mk n ks).flat.length:=by simp only[Tr.flat,List.length_cons];omega
    refine⟨by rw[Ms];rfl,?_⟩
    have eE:kP es at_ (Tr.zs (.mk n ks))=l6.set at_ ((min (bz n ks.sz ks.len) 401:Nat):Int):=by
     rw[pU,uQ (by rw[bF.gm];omega)];rfl
    rw[eE,List.map_set];exact cv.r_ b4 (hH.erase 1)
  |cons t ts=>
   simp only[bF.len] at wH te;simp only[bF.sz] at w9;simp only[bF.flat,List.length_append] at hj l3 Hj;simp only[bF.zs] at pU;simp only[bF.ok] at ir;have fG:decide ((i:Int)<n.kids)=true:=by rw[decide_eq_true_eq];omega
   have OL:=t.gO;have Hd:=t.gm;have Ju:=ts.gm;have HA:(kP l6 j t.zs).length=l.length:=by rw[uS (by omega)];exact ub
   have P5:(kP l6 j t.zs)[j]?=some ((min t.sz 401:Nat):Int):=by
    obtain⟨n',Jq⟩:=t;simp only[Tr.zs,Tr.sz];exact zQ (by omega)
   have Td:=ey P5;refine qq<|qD rfl (by rw[fG]) ?_;refine ag.skip<|qq<|ag.block<|qq<|qj fun K hK=>qm ?_;refine qm ?_;refine qe hK<|qq<|qj fun K hK=>qm ?_;refine qm ?_;refine qm ?_;obtain⟨_,st,aM,rfl,hH⟩:=ih t (by omega) ir.1 l3.left ub hH;refine qv aM ?_;refine qm ?_;refine qe hK<|qj fun K hK=>qm ?_;refine qm ?_;refine qm ?_;refine qi hH aB fun PO L6=>?_;refine qo hH aB ?_;refine ab.eY (z:=((min ss 401+min t.sz 401:Nat):Int)) rfl (ev rfl) (ev rfl) (by(try simp only[List.length_reverse,List.length_cons,List.length_nil,List.length_append,List.length_map,List.length_set]);rw[wrap_i64 (by omega) (by omega)]<;>omega) (by dsimp only[Fr.put,u1,u2]<;>rfl) ?_;refine ab.Jj (z:=((min (ss+t.sz) 401:Nat):Int)) (t1:=_) (t2:=_) rfl (ev rfl) (ev rfl) (by omega) (by dsimp only[Fr.put,u1,u2]<;>rfl) ?_;refine qm ?_;refine qe hK<|qj fun K hK=>qA ?_;refine qm ?_;refine qe hK ?_;exact⟨mm-1,by omega,⟨i+1,j+t.flat.length,ss+t.sz,ts,kP l6 j t.zs,rfl,hH,by omega,by omega,l3.right,ir.2,by omega,HA,by rw[←pU];have:=uP (es:=l6) (a:=j) (M:=t.zs) (M':=ts.zs) (by omega);rw[Hd] at this;exact this,by omega,by omega⟩⟩
theorem C' {l:List dj} {d:D} (hl:l.length≤1048576) (hi:∀n∈l,n.ok) (hd:gR d 7 (l.map a8)):∀(m:Nat) (t:Tr),t.flat.length≤m→t.ok→∀{N:Nat} {S s0:St} {H:List bT} {out:D} {es:List Int} {at_:Nat},eH l at_ t.flat→es.length=l.length→Has N S s0 (.aN out 1 (es.map av)::H)→
  ∃r ah,Ev pv 41 [d,out,.int .i64 (at_:Nat)] s0 r ah∧r=.int .i64 ((at_+t.flat.length:Nat):Int)∧Has N S ah (.aN out 1 ((kP es at_ (t.es at_)).map av)::H):=by
 intro m
 induction m with
 |zero=>intro t h;have:=t.gO;omega
 |succ m ih=>
  rintro⟨n,ks⟩ hm cI N S s0 H out es at_ kj q9 hH;simp only[Tr.ok] at cI;obtain⟨lp,qZ⟩:=cI;simp only[Tr.flat,List.length_cons] at hm;have hle:=kj.le (by simp[Tr.flat]);simp only[Tr.flat] at kj hle;simp only[List.length_cons] at hle;have hn:=kj.head;have kj:=kj.tail;have JK:=hi n (List.mem_of_getElem? hn);have gM:=jk hn;have Iv:=lp.1;have nj:=bF.lb ks;refine Ev.lX rfl NI rfl rfl rfl ?_;dsimp only[u3,u4,List.length,Nat.reduceSub,Nat.reduceAdd,w1,w2];have cv:=hH;have hH:=hH.cw;have b4:(aq .rw s0).bs=s0.bs:=rfl;generalize aq .rw s0=S2 at*;have hc:=hd.arg N S2;refine qq<|qj fun K hK=>qm ?_;refine qe hK<|qq<|qj fun K hK=>qm ?_;refine qA ?_;refine qm ?_;refine qe hK<|qq<|qq<|qj fun K hK=>qm ?_;refine qm ?_;refine qr fun PW Ma=>?_;refine qf (fo:=6) fun PU L'=>?_;refine qR ?_;refine qm ?_;refine qe hK<|ag.block<|ag.loop (fun mm fr st=>∃(i j:Nat) (rest:bF) (l6:List Int),fr.clean=⟨16,[d,out,.int .i64 (at_:Nat),aL fr 3,aL fr 4,aL fr 5,.int .i64 0,.int .i64 (j:Nat),aL fr 8,aL fr 9,aL fr 10,aL fr 11,aL fr 12,aL fr 13,.int .i64 n.kids,.int .i64 (i:Nat)],[]⟩∧Has N S2 st (.aN out 1 (l6.map av)::H)∧(mm=rest.len)∧(i+rest.len=ks.len)∧(eH l j rest.flat)∧(rest.ok)∧(l6.length=l.length)∧(kP l6 j (rest.es j)=kP es (at_+1) (ks.es (at_+1)))∧(j+rest.flat.length=at_+1+ks.flat.length)∧(rest.flat.length≤m)) (ks.len) ?_ ?_
  ·exact⟨0,at_+1,ks,es,rfl,hH,rfl,by omega,kj,qZ,q9,rfl,rfl,by omega⟩
  rintro mm fr st ⟨i,j,rest,l6,hfr,hH,te,wH,l3,ir,ub,pU,hj,Hj⟩;rw[hfr];clear hfr;generalize aL fr=ee;clear fr;refine qq<|qj fun K hK=>qg ?_;refine qe hK ?_
  cases rest with
  |nil=>
   simp only[bF.len] at wH;simp only[bF.flat,List.length_nil] at hj;simp only[bF.es,uR] at pU;have fG:decide ((i:Int)<n.kids)=false:=by rw[decide_eq_false_iff_not];omega
   have gN:at_<l6.length:=by omega
   obtain⟨w,hw⟩:∃w,l6[at_]?=some w:=⟨l6[at_]'gN,List.getElem?_eq_getElem _⟩
   have Qr:=ey hw;refine qq<|qE rfl (by rw[fG]) ?_;refine ag.exit<|qq<|qj fun K hK=>qm ?_;refine qm ?_;refine qm ?_;refine qi hH aB fun Lb Hl=>?_;refine ab.jO hH rfl (ev rfl) (ev rfl) (by assumption) rfl rfl (by exact aB) (by assumption) (Nat.le_of_ble_eq_true rfl) (by exact .inr rfl) (fun st hH=>?_);dsimp only[u2,u1,u3,u4,setMany,u5,u6,D.cells,Nat.reduceAdd,a8,av] at hH;refine qe hK<|qq<|qj fun K hK=>qm ?_;refine qm ?_;refine qe hK<|ag.ret ⟨rx,_,_,_,rfl,ak (rfl),?_⟩;have Ms:j=at_+(Tr.mk n ks).flat.length:=by simp only[Tr.flat,List.length_cons];omega
   refine⟨by rw[Ms];rfl,?_⟩
   have eE:kP es at_ (Tr.es (.mk n ks) at_)=l6.set at_ ((j:Nat):Int):=by
    rw[pU,uQ (by rw[bF.gx];omega)];have:j=at_+1+ks.flat.length:=by omega
    rw[this];rfl
   rw[eE,List.map_set];exact cv.r_ b4 hH
  |cons t ts=>
   simp only[bF.len] at wH te;simp only[bF.flat,List.length_append] at hj l3 Hj;simp only[bF.es] at pU;simp only[bF.ok] at ir;have fG:decide ((i:Int)<n.kids)=true:=by rw[decide_eq_true_eq];omega
   have OL:=t.gO;have Hd:=t.gx j;have Ju:=ts.gx (j+t.flat.length);have HA:(kP l6 j (t.es j)).length=l.length:=by rw[uS (by omega)];exact ub
   refine qq<|qD rfl (by rw[fG]) ?_;refine ag.skip<|qq<|ag.block<|qj fun K hK=>qm ?_;refine qm ?_;refine qm ?_;obtain⟨_,st,aM,rfl,hH⟩:=ih t (by omega) ir.1 l3.left ub hH;refine qv aM ?_;refine qm ?_;refine qe hK<|qj fun K hK=>qA ?_;refine qm ?_;refine qe hK ?_;exact⟨mm-1,by omega,⟨i+1,j+t.flat.length,ts,kP l6 j (t.es j),rfl,hH,by omega,by omega,l3.right,ir.2,HA,by rw[←pU];have:=uP (es:=l6) (a:=j) (M:=t.es j) (M':=ts.es (j+t.flat.length)) (by omega);rw[Hd] at this;exact this,by omega,by omega⟩⟩
theorem eX {N k:Nat} {S s0:St} {H:List bT} {ks:Nat→Prop} {cd nd zd ed w:D} {code:List aP} {op x y:Int} {rs:List Rg} (hF:S.flr≤N) (hl:code.length≤1048576) (hH:Has N S s0 (.aN w 2 (rs.map ax)::.box k (.mem 0 false [cd,nd,zd,ed])::.deep ks cd 4 (code.map aU)::H)):
  ∃r ah,Ev pv 42 [.ptr k 0 0,.agg [.int .i64 op,.int .i64 x,.int .i64 y,w]] s0 r ah∧r=.int .i64 (code.length:Nat)∧∃Ph Jq,Has N S ah (.box k (.mem 0 false [Ph,nd,zd,ed])::.deep Jq Ph 4 ((code++[b7 op x y rs]).map aU)::H):=by
 refine Ev.lX rfl NH rfl rfl rfl ?_;dsimp only[u3,u4,List.length,Nat.reduceSub,Nat.reduceAdd,w1,w2];change ag _ _ _ _ s0 _;refine qq<|qj fun K hK=>qb hH fun k3 st KN hH=>?_;refine qm ?_;refine qe hK<|qq<|qj fun K hK=>qm ?_;refine qm ?_;refine qg ?_;refine qp (o:=0) ?_;refine ql hH ei ?_;refine ab.b9 (m:=4) hH rfl (ev rfl) (by exact aB) (by dsimp only[List.drop_succ_cons,List.drop_zero,List.take_succ_cons,List.take_zero,aU]<;>rfl) rfl rfl (ae rfl _) ?_;refine qh (s:=4) (vs:=[_]) hH fun k11 st JZ hH=>?_;obtain⟨hH,RM⟩:=hH.Ih (i:=2) (j:=4) (by decide) ei iv (e_ _);dsimp only[u1,u2] at hH;refine ab.qK hH rfl (ev rfl) (ev rfl) iv (hH.rows aB) (.cons (.cons (.plain _ rfl) (.cons (.plain _ rfl) (.cons (.plain _ rfl) (.cons RM .nil)))) .nil) rfl rfl rfl rfl rfl rfl rfl ⟨(Nat.le_of_ble_eq_true rfl),(Nat.le_of_ble_eq_true rfl)⟩ (fun _=>(ae rfl _)) (by simp only[List.length_map,List.length_cons,List.length_nil];omega) (.inl hF) (fun SB st hH=>?_);dsimp only[u1,u2] at hH;refine qg ?_;refine qp (o:=0) ?_;refine ab.pT hH rfl (ev rfl) (ev rfl) (by exact hH.za (by exact iv)) (by exact rfl) (by exact gA) (by exact Nat.le_of_ble_eq_true rfl) (by exact .inl hF) (fun st hH=>?_);dsimp only[u2,u1,u3,u4,setMany,u5,u6,D.cells,Nat.reduceAdd,aU] at hH;refine qe hK<|qq<|qj fun K hK=>qm ?_;refine qg ?_;refine qp (o:=0) ?_;refine ql hH gA ?_;refine ab.wS hH rfl (ev rfl) (by exact iv) rfl (ae rfl _) ?_;simp only[List.length_map,List.length_append,List.length_cons,List.length_nil];refine ab.j7 (z:=((code.length:Nat):Int)) rfl (ev rfl) (ev rfl) (by(try simp only[List.length_reverse,List.length_cons,List.length_nil,List.length_append,List.length_map,List.length_set]);rw[wrap_i64 (by omega) (by omega)]<;>omega) (ae rfl _) ?_;refine qm ?_;refine qe hK<|ag.ret ⟨rx,_,_,_,rfl,rfl,?_⟩;exact⟨rfl,_,_,by rw[List.map_append];exact hH.drop 3⟩
theorem mA {N k:Nat} {S s0:St} {H:List bT} {ks:Nat→Prop} {cd nd zd ed:D} {code:List aP} {at_ over:Nat} {lz:Bool} {x y:Int} (gN:code[at_]?=some (b7 2 x y [])) (hl:code.length≤1048576) (hH:Has N S s0 (.box k (.mem 0 false [cd,nd,zd,ed])::.deep ks cd 4 (code.map aU)::H)):
  ∃r ah,Ev pv 74 [.ptr k 0 0,.int .i64 (at_:Nat),.int .i64 (over:Nat),.bool lz] s0 r ah∧r=.tup []∧Has N S ah (.box k (.mem 0 false [cd,nd,zd,ed])::.deep ks cd 4 ((code.set at_ (j8 at_ over lz)).map aU)::H):=by
 have hlt:=cq gN;have gM:(code.map aU)[at_]?=some [.int .i64 2,.int .i64 x,.int .i64 y,.sl []]:=jn gN;have eE:∀a b:List D,(code.map aU).set at_ a=(code.map aU).set at_ a:=fun _ _=>rfl;refine Ev.lX rfl Nn rfl rfl rfl ?_;dsimp only[u3,u4,List.length,Nat.reduceSub,Nat.reduceAdd,w1,w2];have cv:=hH;have hH:=hH.cw;have b4:(aq .rw s0).bs=s0.bs:=rfl;generalize aq .rw s0=S2 at*;refine qq<|qj fun K hK=>qm ?_;refine qg ?_;refine qp (o:=0) ?_;refine ql hH aB ?_;refine qm ?_;refine qm ?_;refine qg ?_;refine qp (o:=0) ?_;refine ql hH aB ?_;refine qm ?_;refine qm ?_;refine ab.eY (z:=((at_+1:Nat):Int)) rfl (ev rfl) (ev rfl) (by(try simp only[List.length_reverse,List.length_cons,List.length_nil,List.length_append,List.length_map,List.length_set]);rw[wrap_i64 (by omega) (by omega)]<;>omega) (ae rfl _) ?_;refine qm ?_;refine ab.y8 (s:=4) hH rfl (ev rfl) (ev rfl) (by exact bN) rfl rfl (by exact cq (by assumption)) (fun _=>(ae rfl _)) (fun KA CQ=>?_);refine ab.gb (fo:=1) (m:=0) (o2:=1) rfl (ev rfl) (by assumption) rfl rfl rfl (fun _=>(ae rfl _)) (fun Oz JF=>?_);refine ab.nD hH rfl (ev rfl) (ev rfl) (by assumption) rfl rfl (by exact bN) (by assumption) (Nat.le_of_ble_eq_true rfl) (by intro d hd;simp only[List.mem_cons,List.not_mem_nil,or_false] at hd;subst hd;rfl) (by exact .inr rfl) (fun st hH=>?_);dsimp only[u2,u1,u3,u4,setMany,u5,u6,D.cells,Nat.reduceAdd,aU] at hH;refine ab.y8 (s:=4) hH rfl (ev rfl) (ev rfl) (by exact bN) rfl rfl (by simp only[List.length_map,List.length_set]<;>omega) (fun _=>(ae rfl _)) (fun PQ L7=>?_);refine ab.gb (fo:=2) (m:=0) (o2:=2) rfl (ev rfl) (by assumption) rfl rfl rfl (fun _=>(ae rfl _)) (fun Oy JE=>?_);refine ab.nD hH rfl (ev rfl) (ev rfl) (by assumption) rfl rfl (by exact bN) (List.getElem?_set_self (by simp only[List.length_set,List.length_map];omega)) (Nat.le_of_ble_eq_true rfl) (by intro d hd;simp only[List.mem_cons,List.not_mem_nil,or_false] at hd;subst hd;rfl) (by exact .inr rfl) (fun st hH=>?_);dsimp only[u1,u2,setMany] at hH;rw[List.set_set] at hH;refine qe hK<|qq<|qj fun K hK=>qm ?_;refine qe hK ?_
 cases lz with
 |false=>
  refine qC ?_;refine ag.skip ?_;refine⟨fun i h=>(by cases h),_,_,_,rfl,ak rfl,?_⟩;exact⟨rfl,by rw[List.map_set];exact cv.sa b4 hH⟩
 |true=>
  refine qB ?_;refine qj fun K hK=>qm ?_;refine qg ?_;refine qp (o:=0) ?_;refine ql hH aB ?_;refine qm ?_;refine qm ?_;refine qg ?_;refine qp (o:=0) ?_;refine ql hH aB ?_;refine qm ?_;refine qm ?_;refine qm ?_;refine ab.eY (z:=((at_+1:Nat):Int)) rfl (ev rfl) (ev rfl) (by(try simp only[List.length_reverse,List.length_cons,List.length_nil,List.length_append,List.length_map,List.length_set]);rw[wrap_i64 (by omega) (by omega)]<;>omega) (ae rfl _) ?_;refine ab.y8 (s:=4) hH rfl (ev rfl) (ev rfl) (by exact bN) rfl rfl (by simp only[List.length_map,List.length_set]<;>omega) (fun _=>(ae rfl _)) (fun PN L5=>?_);refine ab.gb (fo:=1) (m:=0) (o2:=1) rfl (ev rfl) (by assumption) rfl rfl rfl (fun _=>(ae rfl _)) (fun PM L4=>?_);refine ab.nD hH rfl (ev rfl) (ev rfl) (by assumption) rfl rfl (by exact bN) (List.getElem?_set_self (by simp only[List.length_set,List.length_map];omega)) (Nat.le_of_ble_eq_true rfl) (by intro d hd;simp only[List.mem_cons,List.not_mem_nil,or_false] at hd;subst hd;rfl) (by exact .inr rfl) (fun st hH=>?_);dsimp only[u1,u2,setMany] at hH;rw[List.set_set] at hH;refine ab.y8 (s:=4) hH rfl (ev rfl) (ev rfl) (by exact bN) rfl rfl (by simp only[List.length_map,List.length_set]<;>omega) (fun _=>(ae rfl _)) (fun SZ QP=>?_);refine ab.gb (fo:=2) (m:=0) (o2:=2) rfl (ev rfl) (by assumption) rfl rfl rfl (fun _=>(ae rfl _)) (fun PK L3=>?_);refine ab.nD hH rfl (ev rfl) (ev rfl) (by assumption) rfl rfl (by exact bN) (List.getElem?_set_self (by simp only[List.length_set,List.length_map];omega)) (Nat.le_of_ble_eq_true rfl) (by intro d hd;simp only[List.mem_cons,List.not_mem_nil,or_false] at hd;subst hd;rfl) (by exact .inr rfl) (fun st hH=>?_);dsimp only[u1,u2,setMany] at hH;rw[List.set_set] at hH;refine qe hK ?_;refine⟨fun i h=>(by cases h),_,_,_,rfl,ak rfl,?_⟩;exact⟨rfl,by rw[List.map_set];exact cv.sa b4 hH⟩
def aw (fr:Go.V.Fr) (k:Nat):Go.V.D:=Go.V.nth .bp fr.loc k
def iM (n:Nat):List D:=[.int .i64 (n:Nat)]
theorem rS {l:List Nat} {i q:Nat} (h:l[i]?=some q):(l.map iM)[i]?=some (iM q):=by rw[List.getElem?_map,h];rfl
def IC (N:Nat) (S st:St) (k:Nat) (nd zd ed:D) (Z E:List Int) (H:List bT) (code:List aP):Prop:=
 ∃cd ks,Has N S st (.box k (.mem 0 false [cd,nd,zd,ed])::.deep ks cd 4 (code.map aU)::.aN zd 1 (Z.map av)::.aN ed 1 (E.map av)::H)
def nR (l:List dj) (t:Tr):Prop:=∀{N k:Nat} {S s0:St} {H:List bT} {nd zd ed:D} {code:List aP} {Z E:List Int} {at_:Nat},S.flr≤N→gR nd 7 (l.map a8)→eH l at_ t.flat→eH Z at_ t.zs→eH E at_ (t.es at_)→t.ok→code.length+t.sz≤1000000→IC N S s0 k nd zd ed Z E H code→
 ∃r ah,Ev pv 43 [.ptr k 0 0,.int .i64 (at_:Nat)] s0 r ah∧r=.tup []∧IC N S ah k nd zd ed Z E H (code++aG t code.length)
theorem vF {E:List Int} {t:Tr} {a:Nat} (h:eH E a (t.es a)):E[a]?=some ((a+t.flat.length:Nat):Int):=by
 obtain⟨n,ks⟩:=t;simp only[Tr.es] at h;rw[h.head];simp only[Tr.flat,List.length_cons]
 congr 2;omega
theorem uJ {Z:List Int} {t:Tr} {a:Nat} (h:eH Z a t.zs):Z[a]?=some ((min t.sz 401:Nat):Int):=by
 obtain⟨n,ks⟩:=t;simp only[Tr.zs] at h;rw[h.head];rfl
theorem Ib {l:List dj} (zB:l.length≤1048576) {m:Nat} (ih:∀t:Tr,t.flat.length≤m→nR l t) {n:dj} {ks:bF} (ez:n.op=4) (OZ:ks.flat.length≤m) (lp:rR n ks.len) (qZ:ks.ok) {N k:Nat} {S s0:St} {H:List bT} {nd zd ed:D} {code:List aP} {Z E:List Int} {at_:Nat} (hF:S.flr≤N) (tW:gR nd 7 (l.map a8)) (jz:eH l at_ (n::ks.flat)) (hsz:eH Z (at_+1) ks.zs) (w_:eH E (at_+1) (ks.es (at_+1))) (hb:code.length+bz n ks.sz ks.len≤1000000) (hM:IC N S s0 k nd zd ed Z E H code):
  ∃r ah,Ev pv 65 [.ptr k 0 0,.int .i64 (at_:Nat)] s0 r ah∧r=.tup []∧IC N S ah k nd zd ed Z E H (code++dt (ig (code.length+bz n ks.sz ks.len)) ks code.length):=by
 obtain⟨cd,dk,hH⟩:=hM;have hle:=jz.le (by simp);simp only[List.length_cons] at hle;have hn:=jz.head;have jz:=jz.tail;have gM:=jk hn;have Iv:=lp.1;have mj:=bF.lb ks
 have hk2:2≤ks.len:=by
  obtain⟨_,hq⟩:=lp;omega
 have CU:bz n ks.sz ks.len=ks.sz+2*(ks.len-1):=by unfold bz;rw[if_neg (by omega),if_pos ez]
 rw[CU] at hb⊢;clear CU;refine Ev.lX rfl Nu rfl rfl rfl ?_;dsimp only[u3,u4,List.length,Nat.reduceSub,Nat.reduceAdd,w1,w2];change ag _ _ _ _ s0 _;have hc:=tW.arg N S;refine qq<|qj fun K hK=>qm ?_;refine qe hK<|qq<|qj fun K hK=>qm ?_;refine qA ?_;refine qm ?_;refine qe hK<|qq<|qq<|qj fun K hK=>qm ?_;refine qg ?_;refine qp (o:=1) ?_;refine ql hH aB ?_;refine qm ?_;refine qr fun PS L9=>?_;refine qf (fo:=6) fun PR L8=>?_;refine qR ?_;refine qm ?_;refine qe hK ?_;have hH:Has N S s0 (.box k (.mem 0 false [cd,nd,zd,ed])::.deep dk cd 4 (code.map aU)::.aN zd 1 (Z.map av)::.aN ed 1 (E.map av)::.aN .nul 1 (([]:List Nat).map iM)::H):=(hH.fc 1).Cn;refine ag.block<|ag.loop (fun mm fr st=>∃(i j:Nat) (rest:bF) (cd jd:D) (dk:Nat→Prop) (aV:List aP) (js:List Nat),fr.clean=⟨68,[.ptr k 0 0,.int .i64 (at_:Nat),aw fr 2,aw fr 3,jd,.int .i64 (j:Nat),aw fr 6,aw fr 7,aw fr 8,aw fr 9,aw fr 10,aw fr 11,aw fr 12,aw fr 13,aw fr 14,aw fr 15,aw fr 16,aw fr 17,aw fr 18,.int .i64 n.kids,.int .i64 (i:Nat),aw fr 21,aw fr 22,aw fr 23,aw fr 24,aw fr 25,aw fr 26,aw fr 27,aw fr 28,aw fr 29,aw fr 30,aw fr 31,aw fr 32,aw fr 33,aw fr 34,aw fr 35,aw fr 36,aw fr 37,aw fr 38,aw fr 39,aw fr 40,aw fr 41,aw fr 42,aw fr 43,aw fr 44,aw fr 45,aw fr 46,aw fr 47,aw fr 48,aw fr 49,aw fr 50,aw fr 51,aw fr 52,aw fr 53,aw fr 54,aw fr 55,aw fr 56,aw fr 57,aw fr 58,aw fr 59,aw fr 60,aw fr 61,aw fr 62,aw fr 63,aw fr 64,aw fr 65,aw fr 66,aw fr 67],[]⟩∧Has N S st (.box k (.mem 0 false [cd,nd,zd,ed])::.deep dk cd 4 (aV.map aU)::.aN zd 1 (Z.map av)::.aN ed 1 (E.map av)::.aN jd 1 (js.map iM)::H)∧(mm=rest.len)∧(i+rest.len=ks.len)∧(0<rest.len)∧(eH l j rest.flat)∧(eH Z j rest.zs)∧(eH E j (rest.es j))∧(rest.ok)∧(aV++dt (ig 0) rest aV.length=code++dt (ig 0) ks code.length)∧(js++nO rest aV.length=nO ks code.length)∧(aV.length+(rest.sz+2*(rest.len-1))=code.length+(ks.sz+2*(ks.len-1)))∧(rest.flat.length≤m)∧(js.length≤i)) (ks.len) ?_ ?_
 ·exact⟨0,at_+1,ks,cd,.nul,dk,code,[],rfl,hH,rfl,by omega,by omega,jz,hsz,w_,qZ,rfl,rfl,rfl,OZ,by simp⟩
 rintro mm fr st ⟨i,j,rest,cd,jd,dk,aV,js,hfr,hH,te,wH,KI,l3,sf,lZ,ir,fx,hjs,hcl,Hj,jT⟩;rw[hfr];clear hfr;generalize aw fr=ee;clear fr;refine qq<|qj fun K hK=>qg ?_;refine qe hK ?_
 cases rest with
 |nil=>simp[bF.len] at KI
 |cons t ts=>
  simp only[bF.len] at wH te hcl;simp only[bF.sz] at hcl;simp only[bF.flat,List.length_append] at l3 Hj;simp only[bF.zs] at sf;simp only[bF.es] at lZ;simp only[bF.ok] at ir;have Hd:=t.gm;have Jz:=t.gx j;have wC:=bS t (aV.length+1) ir.1;have LN:=ey (vF lZ.left);have fG:decide ((i:Int)<n.kids)=true:=by rw[decide_eq_true_eq];omega
  refine qq<|qD rfl (by rw[fG]) ?_;refine ag.skip<|qq<|ag.block<|qq<|qj fun K hK=>qm ?_;refine qm ?_;refine qe hK<|qq<|qq<|qj fun K hK=>qm ?_;refine qm ?_;refine qg ?_;refine qp (o:=1) ?_;refine ql hH aB ?_;refine qm ?_;refine qr fun PO L6=>?_;refine qf (fo:=6) fun Ox JD=>?_;refine qR ?_;refine ab.j7 (z:=((ks.len-1:Nat):Int)) rfl (ev rfl) (ev rfl) (by(try simp only[List.length_reverse,List.length_cons,List.length_nil,List.length_append,List.length_map,List.length_set]);rw[wrap_i64 (by omega) (by omega)]<;>omega) (by dsimp only[Fr.put,u1,u2]<;>rfl) ?_;refine qg ?_;refine qe hK ?_
  by_cases vt:ts.len=0
  ·simp only[dt,nO,if_pos vt,List.append_nil] at fx hjs;have Qd:=bF.len_nil vt;subst Qd;simp only[bF.sz,bF.len] at hcl wH;have HD:(((i:Nat):Int)==((ks.len-1:Nat):Int))=true:=by rw[beq_iff_eq];omega
   refine qD rfl (by rw[HD]) ?_;refine qq<|qj fun K hK=>qm ?_;refine qm ?_;obtain⟨_,st,aM,rfl,cd,dk,hH⟩:=ih t (by omega) hF tW l3.left sf.left lZ.left ir.1 (by omega) ⟨cd,dk,hH⟩;refine qv aM ?_;refine qe hK<|ag.exit<|qq<|qj fun K hK=>qm ?_;refine qn ?_ (hR:=hH.rows iv);simp only[List.length_map];refine qm ?_;refine qe hK ?_;rw[fx] at hH;have hal:=kL (ig 0) ks code.length qZ;obtain⟨CS,Hm⟩:=lB (jp:=ig (code.length+(ks.sz+2*(ks.len-1)))) (i0:=ig 0) ks code.length code [] qZ rfl;simp only[List.append_nil] at CS Hm;have MX:(code++dt (ig 0) ks code.length).length=code.length+(ks.sz+2*(ks.len-1)):=by rw[List.length_append,hal]
   rw[←hjs] at CS Hm;rw[←CS];clear CS fx;generalize code++dt (ig 0) ks code.length=C0 at*;generalize code.length+(ks.sz+2*(ks.len-1))=e at*;refine ag.block<|ag.loop (fun mm fr st=>∃(q:Nat) (C:List aP),fr.clean=⟨68,[.ptr k 0 0,aw fr 1,aw fr 2,aw fr 3,aw fr 4,aw fr 5,aw fr 6,aw fr 7,aw fr 8,aw fr 9,aw fr 10,aw fr 11,aw fr 12,aw fr 13,aw fr 14,aw fr 15,aw fr 16,aw fr 17,aw fr 18,aw fr 19,aw fr 20,aw fr 21,aw fr 22,aw fr 23,aw fr 24,aw fr 25,aw fr 26,aw fr 27,aw fr 28,aw fr 29,aw fr 30,aw fr 31,aw fr 32,aw fr 33,aw fr 34,aw fr 35,aw fr 36,aw fr 37,aw fr 38,aw fr 39,aw fr 40,aw fr 41,aw fr 42,aw fr 43,aw fr 44,aw fr 45,aw fr 46,aw fr 47,aw fr 48,aw fr 49,aw fr 50,aw fr 51,aw fr 52,aw fr 53,aw fr 54,aw fr 55,aw fr 56,aw fr 57,aw fr 58,aw fr 59,aw fr 60,aw fr 61,aw fr 62,aw fr 63,aw fr 64,jd,.int .i64 (js.length:Nat),.int .i64 (q:Nat)],[]⟩∧Has N S st (.box k (.mem 0 false [cd,nd,zd,ed])::.deep dk cd 4 (C.map aU)::.aN zd 1 (Z.map av)::.aN ed 1 (E.map av)::.aN jd 1 (js.map iM)::H)∧(q+mm=js.length)∧(fM (fun _=>ig e) C (js.drop q)=fM (fun _=>ig e) C0 js)∧(∀p∈js,∃v:Int,C[p]?=some (b7 3 v 0 []))∧(C.length=e)) (js.length) ?_ ?_
   ·exact⟨0,C0,rfl,hH,by omega,rfl,fun p hp=>⟨_,Hm p hp⟩,MX⟩
   rintro mm fr st ⟨q,C,hfr,hH,hq,ft,ko,Kl⟩;rw[hfr];clear hfr;generalize aw fr=ee;clear fr;refine qq<|qj fun K hK=>qg ?_;refine qe hK<|qq ?_;refine ag.cond (by rfl) (fun hlt=>?_) (fun hlt=>?_)<;>try simp only[decide_eq_true_eq,decide_eq_false_iff_not] at hlt
   ·refine ag.skip ?_;have Ir:q<js.length:=by omega
    obtain⟨p,hp⟩:∃p,js[q]?=some p:=⟨js[q]'Ir,List.getElem?_eq_getElem _⟩
    obtain⟨v,hv⟩:=ko p (List.mem_of_getElem? hp);have gM:=rS hp;have nh:=jn hv;have gT:=cq hv;refine qq<|ag.block<|qq<|qj fun K hK=>qi hH iv fun PE LX=>?_;refine qo hH iv ?_;refine qm ?_;refine qe hK<|qj fun K hK=>qm ?_;refine qg ?_;refine qp (o:=0) ?_;refine ql hH aB ?_;refine qm ?_;refine qm ?_;refine qg ?_;refine qp (o:=0) ?_;refine ql hH aB ?_;refine ab.wS hH rfl (ev rfl) (by exact bN) rfl (ae rfl _) ?_;simp only[List.length_map];refine ab.y8 (s:=4) hH rfl (ev rfl) (ev rfl) (by exact bN) rfl rfl (by exact cq (by assumption)) (fun _=>(ae rfl _)) (fun PC LV=>?_);refine ab.gb (fo:=1) (m:=0) (o2:=1) rfl (ev rfl) (by assumption) rfl rfl rfl (fun _=>(ae rfl _)) (fun PB LU=>?_);refine ab.nD hH rfl (ev rfl) (ev rfl) (by assumption) rfl rfl (by exact bN) (by assumption) (Nat.le_of_ble_eq_true rfl) (by intro d hd;simp only[List.mem_cons,List.not_mem_nil,or_false] at hd;subst hd;rfl) (by exact .inl hF) (fun st hH=>?_);dsimp only[u2,u1,u3,u4,setMany,u5,u6,D.cells,Nat.reduceAdd,aU,a8,av,iM] at hH;refine qe hK<|qj fun K hK=>qA ?_;refine qm ?_;refine qe hK ?_
    have yN:js.drop q=p::js.drop (q+1):=by
     rw[List.drop_eq_getElem_cons Ir]
     congr 1
     exact Option.some.inj ((List.getElem?_eq_getElem _).symm.trans hp)
    refine⟨mm-1,by omega,⟨q+1,C.set p (ig e),rfl,(by rw[List.map_set,←Kl];exact hH),by omega,by rw[yN] at ft;exact ft,?_,by rw[List.length_set];exact Kl⟩⟩;intro p' pW
    by_cases hpp:p'=p
    ·subst hpp;exact⟨_,List.getElem?_set_self gT⟩
    ·rw[List.getElem?_set_ne (fun e=>hpp e.symm)];exact ko p' pW
   ·refine ag.exit ?_;refine⟨fun i h=>(by cases h),_,_,_,rfl,rfl,?_⟩;have wF:q=js.length:=by omega
    rw[wF,List.drop_length] at ft;have ft:C=fM (fun _=>ig e) C0 js:=ft;rw[←ft];exact⟨rfl,cd,dk,hH.erase 4⟩
  ·simp only[dt,nO,if_neg vt] at fx hjs;have HD:(((i:Nat):Int)==((ks.len-1:Nat):Int))=false:=by rw[beq_eq_false_iff_ne];omega
   refine qE rfl (by rw[HD]) ?_;refine ag.skip<|qq<|qj fun K hK=>qm ?_;refine ab.go (d:=.agg [.int .i64 2,.int .i64 0,.int .i64 0,.nul]) (st1:=_) rfl rfl rfl (by dsimp only[Fr.put,u1,u2]<;>rfl) ?_;have hH:=hH.fc 2;obtain⟨_,st,aM,rfl,cd,dk,hH⟩:=eX (rs:=[]) hF (by omega) hH;refine qv aM ?_;refine qm ?_;refine qe hK ?_;have km:(aV++[b7 2 0 0 []]).length=aV.length+1:=by simp
   refine qq<|qj fun K hK=>qm ?_;refine qm ?_;obtain⟨_,st,aM,rfl,cd,dk,hH⟩:=ih t (by omega) hF tW l3.left sf.left lZ.left ir.1 (by omega) ⟨cd,dk,hH⟩;refine qv aM ?_;refine qe hK ?_;rw[km] at hH;have lu:(aV++[b7 2 0 0 []]++aG t (aV.length+1)).length=aV.length+1+t.sz:=by rw[List.length_append,km,wC]
   refine qq<|qj fun K hK=>qm ?_;refine qm ?_;refine ab.go (d:=.agg [.int .i64 3,.int .i64 0,.int .i64 0,.nul]) (st1:=_) rfl rfl rfl (by dsimp only[Fr.put,u1,u2]<;>rfl) ?_;have hH:=hH.fc 2;obtain⟨_,st,aM,rfl,cd,dk,hH⟩:=eX (rs:=[]) hF (by omega) hH;refine qv aM ?_;refine qh (s:=1) (vs:=[_]) hH fun k47 st Rk hH=>?_;refine qP hH sY (hH.rows aB) fun K2 st hH=>?_;dsimp only[u2,u1,u3,u4,setMany,u5,u6,D.cells,Nat.reduceAdd,aU,a8,av,iM] at hH;refine qm ?_;refine qe hK ?_;have hH:=hH.drop 1
   have HH:(aV++[b7 2 0 0 []]++aG t (aV.length+1)++[b7 3 0 0 []])[aV.length]?=some (b7 2 0 0 []):=by
    rw[List.append_assoc,List.append_assoc];exact mq _ _ _
   have yP:(aV++[b7 2 0 0 []]++aG t (aV.length+1)++[b7 3 0 0 []]).length=aV.length+1+t.sz+1:=by rw[List.length_append,lu];rfl
   have CL:(aV++[b7 2 0 0 []]++aG t (aV.length+1)++[b7 3 0 0 []]).set aV.length (j8 aV.length (aV.length+1+t.sz+1) false)=aV++(j8 aV.length (aV.length+1+t.sz+1) false::(aG t (aV.length+1)++[ig 0])):=by
    rw[List.append_assoc,List.append_assoc];exact mf _ _ _ _
   have HC:(aV++(j8 aV.length (aV.length+1+t.sz+1) false::(aG t (aV.length+1)++[ig 0]))).length=aV.length+t.sz+2:=by rw[←CL,List.length_set,yP];omega
   generalize aV++[b7 2 0 0 []]++aG t (aV.length+1)++[b7 3 0 0 []]=zb at*;refine qq<|qj fun K hK=>qm ?_;refine qm ?_;refine qm ?_;refine qg ?_;refine qp (o:=0) ?_;refine ql hH aB ?_;refine ab.wS hH rfl (ev rfl) (by exact bN) rfl (by dsimp only[Fr.put,u1,u2]<;>rfl) ?_;simp only[List.length_map,List.length_append,List.length_cons,List.length_nil];obtain⟨_,st,aM,rfl,hH⟩:=mA (at_:=aV.length) (over:=zb.length) (lz:=false) HH (by omega) hH;refine qv aM ?_;refine qe hK ?_;rw[yP,CL] at hH;refine qj fun K hK=>qm ?_;refine qg ?_;refine qp (o:=3) ?_;refine ql hH aB ?_;refine qm ?_;refine qi hH gA fun SO QG=>?_;refine qo hH gA ?_;refine qm ?_;refine qe hK<|qj fun K hK=>qA ?_;refine qm ?_;refine qe hK ?_;exact⟨mm-1,by omega,⟨i+1,j+t.flat.length,ts,cd,K2,dk,aV++(j8 aV.length (aV.length+1+t.sz+1) false::(aG t (aV.length+1)++[ig 0])),js++[aV.length+1+t.sz],rfl,(by rw[List.map_append (f:=iM)];rw[lu] at hH;exact hH),by omega,by omega,by omega,l3.right,by rw[←Hd];exact sf.right,by rw[←Jz];rw[←Jz] at lZ;exact lZ.right,ir.2,by rw[HC,←fx];simp only[List.append_assoc,List.cons_append,List.nil_append],by rw[HC,←hjs];simp only[List.append_assoc,List.cons_append,List.nil_append],by rw[HC];omega,by omega,by rw[List.length_append];simp only[List.length_cons,List.length_nil];omega⟩⟩
end Go.Proofs.Ytbdnabmmlbiomaa
