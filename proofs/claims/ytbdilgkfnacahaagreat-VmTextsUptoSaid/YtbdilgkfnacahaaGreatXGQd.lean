/-
 Are nodes a pattern? syntax.Right, walked.
-/
import Derived.Test.YtbdilgkfnacahaaGreatXGPi
import Derived.Test.YtbdilgkfnacahaaGreatXGKa
import Derived.Test.YtbdilgkfnacahaaGreatXGQa
set_option maxRecDepth 100000
set_option maxHeartbeats 4000000
set_option linter.unusedSimpArgs false
set_option linter.unusedVariables false
namespace Go.Proofs.YtbdilgkfnacahaaGreat
open Go.V Go
def mj (fr:Go.V.Fr) (k:Nat):Go.V.D:=Go.V.nth .bu fr.loc k
theorem An {s0:St} {n:da} (hn:n.ok):Ev pv 98 [.agg (bd n)] s0 (.bool (rV n)) s0:=by
 refine Ev.me rfl Rb rfl rfl rfl ?_;dsimp only[u3,u4,List.length,Nat.reduceSub,Nat.reduceAdd,w1,w2];obtain⟨bZ,hF,hH⟩:=ri s0;generalize ai .ro s0=S at*;have wo:=hn.1.arg s0.bs.length S;have pJ:=hn.2.1;refine qq<|qj fun K hK=>qb hH fun k1 st nQ hH=>?_;dsimp only[u2,u1,u3,u4,setMany,u5,u6,D.cells,Nat.reduceAdd,bd] at hH;refine qm ?_;refine qe hK<|qq<|qj fun K hK=>qp (o:=0) ?_;refine ql hH ax ?_;refine qg ?_;refine qm ?_;refine qe hK<|qq<|af.lH 2 (.bool (((n.op==2)||((n.rs.length:Nat):Int)==0) &&((n.op==5)||((n.mn==0) &&(n.mx==0) &&!n.lz)) &&((n.op==6)||(n.cap==0)))) [] ?_ (fun ff tmp=>?_)
 ·refine qp (o:=0) ?_;refine ql hH ax ?_;refine qg ?_;refine qm ?_;refine ab.two 10 rfl (fun bG=>?_) (fun bG=>?_)
  ·refine qs ?_ (hg:=wn bG);refine qs ?_ (hg:=wn bG);refine qs ?_ (hg:=wn bG);refine qs ?_ (hg:=wn bG);refine qt bG ?_;refine qm ?_;refine qm ?_;refine qm ?_;refine ab.two 18 rfl (fun bj=>?_) (fun bj=>?_)
   ·refine qs ?_ (hg:=wn bj);refine qs ?_ (hg:=wn bj);refine qs ?_ (hg:=wn bj);refine qs ?_ (hg:=wn bj);refine qs ?_;refine qs ?_;refine qs ?_;refine qs ?_ (hg:=wn bj);refine qs ?_ (hg:=wn bj);refine qs ?_;refine qs ?_;refine qs ?_;refine qs ?_ (hg:=wn bj);refine qt bj ?_;refine qg ?_;refine qm ?_;refine qp (o:=0) ?_;refine ql hH ax ?_;refine qg ?_;refine qm ?_;refine ab.two 38 rfl (fun cG=>?_) (fun cG=>?_)
    ·refine qs ?_ (hg:=wn cG);refine qs ?_ (hg:=wn cG);refine qs ?_ (hg:=wn cG);refine qt cG ?_;refine qg ?_;refine qm ?_;refine ab.nil (aZ ?_);dsimp only[aO,List.foldl,nth,u2,u1];dsimp only[Fr.aE,Fr.put,Fr.clean,Fr.ev,Fr.get,nth,V.look,u1,u2,v1,v2,v3,v4,v5,v6,v7,List.length,u3,u4,Nat.reduceSub,Nat.reduceAdd,List.map]
     all_goals(simp[bG,bj,cG];done)
    ·refine qp (o:=5) ?_ (hg:=wi cG);refine ql hH ax ?_ (hg:=wi cG);refine qg ?_ (hg:=wi cG);refine qu cG ?_;refine qg ?_;refine qm ?_;refine ab.nil (aZ ?_);dsimp only[aO,List.foldl,nth,u2,u1];dsimp only[Fr.aE,Fr.put,Fr.clean,Fr.ev,Fr.get,nth,V.look,u1,u2,v1,v2,v3,v4,v5,v6,v7,List.length,u3,u4,Nat.reduceSub,Nat.reduceAdd,List.map]
     all_goals(simp[bG,bj,cG];done)
   ·refine qp (o:=2) ?_ (hg:=wi bj);refine ql hH ax ?_ (hg:=wi bj);refine qg ?_ (hg:=wi bj);refine qm ?_ (hg:=wi bj);refine ab.two 22 rfl (fun eY=>?_) (fun eY=>?_)
    ·refine qp (o:=3) ?_ (hg:=wi eY);refine ql hH ax ?_ (hg:=wi eY);refine qg ?_ (hg:=wi eY);refine ab.dO (aC rfl rfl rfl bj) rfl eY (ag rfl _) ?_;refine qm ?_ (hg:=wi bj);refine ab.two 27 rfl (fun fF=>?_) (fun fF=>?_)
     ·refine qp (o:=4) ?_ (hg:=wi fF);refine ql hH ax ?_ (hg:=wi fF);refine qg ?_ (hg:=wi fF);refine ab.dO (aC rfl rfl rfl bj) rfl fF (ag rfl _) ?_;refine qu bj ?_;refine qg ?_;refine qm ?_;refine ab.two 34 rfl (fun du=>?_) (fun du=>?_)
      ·refine qp (o:=0) ?_ (hg:=wi du);refine ql hH ax ?_ (hg:=wi du);refine qg ?_ (hg:=wi du);refine qm ?_ (hg:=wi du);refine ab.two 38 rfl (fun cG=>?_) (fun cG=>?_)
       ·refine qs ?_ (hg:=wn cG);refine qs ?_ (hg:=wn cG);refine qs ?_ (hg:=wn cG);refine ab.dO (aC rfl rfl rfl du) rfl cG (ag rfl _) ?_;refine qt du ?_;refine qm ?_;refine ab.nil (aZ ?_);dsimp only[aO,List.foldl,nth,u2,u1];dsimp only[Fr.aE,Fr.put,Fr.clean,Fr.ev,Fr.get,nth,V.look,u1,u2,v1,v2,v3,v4,v5,v6,v7,List.length,u3,u4,Nat.reduceSub,Nat.reduceAdd,List.map]
        all_goals(simp[bG,bj,eY,fF,du,cG];done)
       ·refine qp (o:=5) ?_ (hg:=wi cG);refine ql hH ax ?_ (hg:=wi cG);refine qg ?_ (hg:=wi cG);refine ab.cZ (aC rfl rfl rfl du) rfl cG (ag rfl _) ?_;refine qt du ?_;refine qm ?_;refine ab.nil (aZ ?_);dsimp only[aO,List.foldl,nth,u2,u1];dsimp only[Fr.aE,Fr.put,Fr.clean,Fr.ev,Fr.get,nth,V.look,u1,u2,v1,v2,v3,v4,v5,v6,v7,List.length,u3,u4,Nat.reduceSub,Nat.reduceAdd,List.map]
        all_goals(simp[bG,bj,eY,fF,du,cG];done)
      ·refine qs ?_ (hg:=wn du);refine qs ?_ (hg:=wn du);refine qs ?_ (hg:=wn du);refine qs ?_ (hg:=wn du);refine qs ?_;refine qs ?_;refine qs ?_;refine qs ?_ (hg:=wn du);refine qu du ?_;refine qm ?_;refine ab.nil (aZ ?_);dsimp only[aO,List.foldl,nth,u2,u1];dsimp only[Fr.aE,Fr.put,Fr.clean,Fr.ev,Fr.get,nth,V.look,u1,u2,v1,v2,v3,v4,v5,v6,v7,List.length,u3,u4,Nat.reduceSub,Nat.reduceAdd,List.map]
       all_goals(simp[bG,bj,eY,fF,du];done)
     ·refine qs ?_ (hg:=wn fF);refine qs ?_ (hg:=wn fF);refine qs ?_ (hg:=wn fF);refine ab.cZ (aC rfl rfl rfl bj) rfl fF (ag rfl _) ?_;refine qu bj ?_;refine qg ?_;refine qm ?_;refine qs ?_;refine qs ?_;refine qs ?_;refine qs ?_;refine qs ?_;refine qs ?_;refine qs ?_;refine qs ?_;refine qg ?_;refine qm ?_;refine ab.nil (aZ ?_);dsimp only[aO,List.foldl,nth,u2,u1];dsimp only[Fr.aE,Fr.put,Fr.clean,Fr.ev,Fr.get,nth,V.look,u1,u2,v1,v2,v3,v4,v5,v6,v7,List.length,u3,u4,Nat.reduceSub,Nat.reduceAdd,List.map]
      all_goals(simp[bG,bj,eY,fF];done)
    ·refine qs ?_ (hg:=wn eY);refine qs ?_ (hg:=wn eY);refine qs ?_ (hg:=wn eY);refine ab.cZ (aC rfl rfl rfl bj) rfl eY (ag rfl _) ?_;refine qm ?_ (hg:=wi bj);refine qs ?_;refine qs ?_;refine qs ?_;refine qg ?_ (hg:=wi bj);refine qu bj ?_;refine qg ?_;refine qm ?_;refine qs ?_;refine qs ?_;refine qs ?_;refine qs ?_;refine qs ?_;refine qs ?_;refine qs ?_;refine qs ?_;refine qg ?_;refine qm ?_;refine ab.nil (aZ ?_);dsimp only[aO,List.foldl,nth,u2,u1];dsimp only[Fr.aE,Fr.put,Fr.clean,Fr.ev,Fr.get,nth,V.look,u1,u2,v1,v2,v3,v4,v5,v6,v7,List.length,u3,u4,Nat.reduceSub,Nat.reduceAdd,List.map]
     all_goals(simp[bG,bj,eY];done)
  ·refine qp (o:=1) ?_ (hg:=wi bG);refine ql hH ax ?_ (hg:=wi bG);refine qn ?_ (hg:=wi bG);simp only[List.length_map];refine qg ?_ (hg:=wi bG);refine qu bG ?_;refine qm ?_;refine ab.two 16 rfl (fun cz=>?_) (fun cz=>?_)
   ·refine qm ?_ (hg:=wi cz);refine qm ?_ (hg:=wi cz);refine ab.two 18 rfl (fun bj=>?_) (fun bj=>?_)
    ·refine qs ?_ (hg:=wn bj);refine qs ?_ (hg:=wn bj);refine qs ?_ (hg:=wn bj);refine qs ?_ (hg:=wn bj);refine qs ?_;refine qs ?_;refine qs ?_;refine qs ?_ (hg:=wn bj);refine qs ?_ (hg:=wn bj);refine qs ?_;refine qs ?_;refine qs ?_;refine qs ?_ (hg:=wn bj);refine ab.dO (aC rfl rfl rfl cz) rfl bj (ag rfl _) ?_;refine qt cz ?_;refine qm ?_;refine qp (o:=0) ?_;refine ql hH ax ?_;refine qg ?_;refine qm ?_;refine ab.two 38 rfl (fun cG=>?_) (fun cG=>?_)
     ·refine qs ?_ (hg:=wn cG);refine qs ?_ (hg:=wn cG);refine qs ?_ (hg:=wn cG);refine qt cG ?_;refine qg ?_;refine qm ?_;refine ab.nil (aZ ?_);dsimp only[aO,List.foldl,nth,u2,u1];dsimp only[Fr.aE,Fr.put,Fr.clean,Fr.ev,Fr.get,nth,V.look,u1,u2,v1,v2,v3,v4,v5,v6,v7,List.length,u3,u4,Nat.reduceSub,Nat.reduceAdd,List.map]
      all_goals(simp[bG,cz,bj,cG];done)
     ·refine qp (o:=5) ?_ (hg:=wi cG);refine ql hH ax ?_ (hg:=wi cG);refine qg ?_ (hg:=wi cG);refine qu cG ?_;refine qg ?_;refine qm ?_;refine ab.nil (aZ ?_);dsimp only[aO,List.foldl,nth,u2,u1];dsimp only[Fr.aE,Fr.put,Fr.clean,Fr.ev,Fr.get,nth,V.look,u1,u2,v1,v2,v3,v4,v5,v6,v7,List.length,u3,u4,Nat.reduceSub,Nat.reduceAdd,List.map]
      all_goals(simp[bG,cz,bj,cG];done)
    ·refine qp (o:=2) ?_ (hg:=wi bj);refine ql hH ax ?_ (hg:=wi bj);refine qg ?_ (hg:=wi bj);refine qm ?_ (hg:=wi bj);refine ab.two 22 rfl (fun eY=>?_) (fun eY=>?_)
     ·refine qp (o:=3) ?_ (hg:=wi eY);refine ql hH ax ?_ (hg:=wi eY);refine qg ?_ (hg:=wi eY);refine ab.dO (aC rfl rfl rfl bj) rfl eY (ag rfl _) ?_;refine qm ?_ (hg:=wi bj);refine ab.two 27 rfl (fun fF=>?_) (fun fF=>?_)
      ·refine qp (o:=4) ?_ (hg:=wi fF);refine ql hH ax ?_ (hg:=wi fF);refine qg ?_ (hg:=wi fF);refine ab.dO (aC rfl rfl rfl bj) rfl fF (ag rfl _) ?_;refine ab.cZ (aC rfl rfl rfl cz) rfl bj (ag rfl _) ?_;refine qt cz ?_;refine qm ?_;refine ab.two 34 rfl (fun du=>?_) (fun du=>?_)
       ·refine qp (o:=0) ?_ (hg:=wi du);refine ql hH ax ?_ (hg:=wi du);refine qg ?_ (hg:=wi du);refine qm ?_ (hg:=wi du);refine ab.two 38 rfl (fun cG=>?_) (fun cG=>?_)
        ·refine qs ?_ (hg:=wn cG);refine qs ?_ (hg:=wn cG);refine qs ?_ (hg:=wn cG);refine ab.dO (aC rfl rfl rfl du) rfl cG (ag rfl _) ?_;refine qt du ?_;refine qm ?_;refine ab.nil (aZ ?_);dsimp only[aO,List.foldl,nth,u2,u1];dsimp only[Fr.aE,Fr.put,Fr.clean,Fr.ev,Fr.get,nth,V.look,u1,u2,v1,v2,v3,v4,v5,v6,v7,List.length,u3,u4,Nat.reduceSub,Nat.reduceAdd,List.map]
         all_goals(simp[bG,cz,bj,eY,fF,du,cG];done)
        ·refine qp (o:=5) ?_ (hg:=wi cG);refine ql hH ax ?_ (hg:=wi cG);refine qg ?_ (hg:=wi cG);refine ab.cZ (aC rfl rfl rfl du) rfl cG (ag rfl _) ?_;refine qt du ?_;refine qm ?_;refine ab.nil (aZ ?_);dsimp only[aO,List.foldl,nth,u2,u1];dsimp only[Fr.aE,Fr.put,Fr.clean,Fr.ev,Fr.get,nth,V.look,u1,u2,v1,v2,v3,v4,v5,v6,v7,List.length,u3,u4,Nat.reduceSub,Nat.reduceAdd,List.map]
         all_goals(simp[bG,cz,bj,eY,fF,du,cG];done)
       ·refine qs ?_ (hg:=wn du);refine qs ?_ (hg:=wn du);refine qs ?_ (hg:=wn du);refine qs ?_ (hg:=wn du);refine qs ?_;refine qs ?_;refine qs ?_;refine qs ?_ (hg:=wn du);refine qu du ?_;refine qm ?_;refine ab.nil (aZ ?_);dsimp only[aO,List.foldl,nth,u2,u1];dsimp only[Fr.aE,Fr.put,Fr.clean,Fr.ev,Fr.get,nth,V.look,u1,u2,v1,v2,v3,v4,v5,v6,v7,List.length,u3,u4,Nat.reduceSub,Nat.reduceAdd,List.map]
        all_goals(simp[bG,cz,bj,eY,fF,du];done)
      ·refine qs ?_ (hg:=wn fF);refine qs ?_ (hg:=wn fF);refine qs ?_ (hg:=wn fF);refine ab.cZ (aC rfl rfl rfl bj) rfl fF (ag rfl _) ?_;refine ab.cZ (aC rfl rfl rfl cz) rfl bj (ag rfl _) ?_;refine qt cz ?_;refine qm ?_;refine qs ?_;refine qs ?_;refine qs ?_;refine qs ?_;refine qs ?_;refine qs ?_;refine qs ?_;refine qs ?_;refine qg ?_;refine qm ?_;refine ab.nil (aZ ?_);dsimp only[aO,List.foldl,nth,u2,u1];dsimp only[Fr.aE,Fr.put,Fr.clean,Fr.ev,Fr.get,nth,V.look,u1,u2,v1,v2,v3,v4,v5,v6,v7,List.length,u3,u4,Nat.reduceSub,Nat.reduceAdd,List.map]
       all_goals(simp[bG,cz,bj,eY,fF];done)
     ·refine qs ?_ (hg:=wn eY);refine qs ?_ (hg:=wn eY);refine qs ?_ (hg:=wn eY);refine ab.cZ (aC rfl rfl rfl bj) rfl eY (ag rfl _) ?_;refine qm ?_ (hg:=wi bj);refine qs ?_;refine qs ?_;refine qs ?_;refine qg ?_ (hg:=wi bj);refine ab.cZ (aC rfl rfl rfl cz) rfl bj (ag rfl _) ?_;refine qt cz ?_;refine qm ?_;refine qs ?_;refine qs ?_;refine qs ?_;refine qs ?_;refine qs ?_;refine qs ?_;refine qs ?_;refine qs ?_;refine qg ?_;refine qm ?_;refine ab.nil (aZ ?_);dsimp only[aO,List.foldl,nth,u2,u1];dsimp only[Fr.aE,Fr.put,Fr.clean,Fr.ev,Fr.get,nth,V.look,u1,u2,v1,v2,v3,v4,v5,v6,v7,List.length,u3,u4,Nat.reduceSub,Nat.reduceAdd,List.map]
      all_goals(simp[bG,cz,bj,eY];done)
   ·refine qs ?_ (hg:=wn cz);refine qs ?_ (hg:=wn cz);refine qs ?_;refine qs ?_;refine qs ?_;refine qs ?_;refine qs ?_;refine qs ?_;refine qs ?_;refine qs ?_;refine qs ?_;refine qs ?_;refine qs ?_;refine qs ?_;refine qs ?_;refine qs ?_ (hg:=wn cz);refine qu cz ?_;refine qm ?_;refine qs ?_;refine qs ?_;refine qs ?_;refine qs ?_;refine qs ?_;refine qs ?_;refine qs ?_;refine qs ?_;refine qg ?_;refine qm ?_;refine ab.nil (aZ ?_);dsimp only[aO,List.foldl,nth,u2,u1];dsimp only[Fr.aE,Fr.put,Fr.clean,Fr.ev,Fr.get,nth,V.look,u1,u2,v1,v2,v3,v4,v5,v6,v7,List.length,u3,u4,Nat.reduceSub,Nat.reduceAdd,List.map]
    all_goals(simp[bG,cz];done)
 dsimp only[aO,List.foldl,nth,u2,u1];refine af.ret ⟨rx,_,rfl,rl bZ hH (rfl)⟩
theorem vE {s0:St} {n:da} (hn:n.ok) {g:Nat} (hg:g≤1048576):Ev pv 91 [.agg (bd n),.int .i64 (g:Nat)] s0 (.tup [.int .i64 (eE n (g:Nat)).1,.bool (eE n (g:Nat)).2]) s0:=by
 refine Ev.me rfl Ri rfl rfl rfl ?_;dsimp only[u3,u4,List.length,Nat.reduceSub,Nat.reduceAdd,w1,w2];obtain⟨bZ,hF,hH⟩:=ri s0;generalize ai .ro s0=S at*;have wo:=hn.1.arg s0.bs.length S;have pJ:=hn.2.1;refine qq<|qj fun K hK=>qb hH fun k2 st hk2 hH=>?_;dsimp only[u2,u1,u3,u4,setMany,u5,u6,D.cells,Nat.reduceAdd,bd] at hH;refine qm ?_;refine qm ?_;refine qe hK<|qq<|qq<|qj fun K hK=>?_;refine ab.aT (m:=7) hH rfl (ev rfl) (by exact ax) (by dsimp only[List.drop_succ_cons,List.drop_zero,List.take_succ_cons,List.take_zero,bd]<;>rfl) rfl rfl (by dsimp only[Fr.put,u1,u2]<;>rfl) ?_;refine qv (An hn) ?_;refine qg ?_;refine qe hK ?_;unfold eE
 cases hp:rV n with
 |false=>
  rw[if_pos rfl];refine qB ?_;refine qq<|qj fun K hK=>qm ?_;refine qm ?_;refine qe hK<|af.ret ⟨rx,_,rfl,rl bZ hH (rfl)⟩
 |true=>
  rw[if_neg (by simp)];refine qC ?_;refine af.skip<|qq<|qq<|qj fun K hK=>qp (o:=0) ?_;refine ql hH ax ?_;refine qe hK<|af.block<|qq<|qq<|qj fun K hK=>qg ?_;refine qm ?_;refine qe hK ?_
  by_cases q1:n.op=1
  ·rw[if_pos (.inl q1)];refine qD rfl (by simp[q1]) ?_;refine af.skip<|qD rfl (by simp[q1]) ?_;refine qq<|qj fun K hK=>qp (o:=6) ?_;refine ql hH ax ?_;refine qg ?_;refine qm ?_;refine qm ?_;refine qe hK<|af.ret ⟨rx,_,rfl,rl bZ hH (rfl)⟩
  refine qE rfl (by simp[q1]) ?_;refine qq<|qj fun K hK=>qg ?_;refine qm ?_;refine qe hK ?_
  by_cases q7:n.op=7
  ·rw[if_pos (.inr (.inl q7))];refine qD rfl (by simp[q7]) ?_;refine af.skip<|qD rfl (by simp[q7]) ?_;refine qq<|qj fun K hK=>qp (o:=6) ?_;refine ql hH ax ?_;refine qg ?_;refine qm ?_;refine qm ?_;refine qe hK<|af.ret ⟨rx,_,rfl,rl bZ hH (rfl)⟩
  refine qE rfl (by simp[q7]) ?_;refine qj fun K hK=>qg ?_;refine qm ?_;refine qe hK ?_
  by_cases q8:n.op=8
  ·rw[if_pos (.inr (.inr q8))];refine qD rfl (by simp[q8]) ?_;refine qq<|qj fun K hK=>qp (o:=6) ?_;refine ql hH ax ?_;refine qg ?_;refine qm ?_;refine qm ?_;refine qe hK<|af.ret ⟨rx,_,rfl,rl bZ hH (rfl)⟩
  refine qE rfl (by simp[q8]) ?_;rw[if_neg (by omega)];refine qq<|qj fun K hK=>qg ?_;refine qm ?_;refine qe hK ?_;refine af.cond (by rfl) (fun q2=>?_) (fun q2=>?_)<;>try simp only[beq_iff_eq,beq_eq_false_iff_ne,ne_eq] at q2
  ·rw[if_pos q2];refine qq<|af.Lz [4,5] (fun ff=>ff 4=.int .i64 0∧ff 5=.bool ((n.kids==0) &&eF n.rs)) ?_ (fun ff tmp y7=>?_)
   ·refine qp (o:=6) ?_;refine ql hH ax ?_;refine qg ?_;refine qm ?_;refine ab.two 23 rfl (fun bG=>?_) (fun bG=>?_)
    ·refine qp (o:=1) ?_ (hg:=wi bG);refine ql hH ax ?_ (hg:=wi bG);refine qv (tJ (wo.rows hH) pJ) ?_ (hg:=wi bG);refine qt bG ?_;refine qm ?_;refine qm ?_;refine ab.nil (jN ?_ ?_)
     ·dsimp only[aO,List.foldl,nth,u2,u1]
     ·dsimp only[nth];dsimp only[Fr.aE,Fr.put,Fr.clean,Fr.ev,Fr.get,nth,V.look,u1,u2,v1,v2,v3,v4,v5,v6,v7,List.length,u3,u4,Nat.reduceSub,Nat.reduceAdd,List.map];refine⟨?_,?_⟩<;>(first|rfl|(simp[bG];done)|(simp_all;done)|(simp[bG];omega)|(simp_all;omega))
    ·refine qs ?_ (hg:=wn bG);refine qs ?_ (hg:=wn bG);refine qs ?_ (hg:=wn bG);refine qu bG ?_;refine qm ?_;refine qm ?_;refine ab.nil (jN ?_ ?_)
     ·dsimp only[aO,List.foldl,nth,u2,u1]
     ·dsimp only[nth];dsimp only[Fr.aE,Fr.put,Fr.clean,Fr.ev,Fr.get,nth,V.look,u1,u2,v1,v2,v3,v4,v5,v6,v7,List.length,u3,u4,Nat.reduceSub,Nat.reduceAdd,List.map];refine⟨?_,?_⟩<;>(first|rfl|(simp[bG];done)|(simp_all;done)|(simp[bG];omega)|(simp_all;omega))
   dsimp only[aO,List.foldl,nth,u2,u1];obtain⟨Bk,Bj⟩:=y7;rw[Bk,Bj];refine af.ret ⟨rx,_,rfl,rl bZ hH (rfl)⟩
  rw[if_neg q2];refine qq<|qq<|qj fun K hK=>qg ?_;refine qm ?_;refine qe hK ?_
  by_cases q3:n.op=3
  ·rw[if_pos (.inl q3)];refine qD rfl (by simp[q3]) ?_;refine af.skip<|qD rfl (by simp[q3]) ?_;refine qq<|qj fun K hK=>qp (o:=6) ?_;refine ql hH ax ?_;refine qp (o:=6) ?_;refine ql hH ax ?_;refine qg ?_;refine qm ?_;refine qm ?_;refine qe hK<|af.ret ⟨rx,_,rfl,rl bZ hH (rfl)⟩
  refine qE rfl (by simp[q3]) ?_;refine qj fun K hK=>qg ?_;refine qm ?_;refine qe hK ?_
  by_cases q4:n.op=4
  ·rw[if_pos (.inr q4)];refine qD rfl (by simp[q4]) ?_;refine qq<|qj fun K hK=>qp (o:=6) ?_;refine ql hH ax ?_;refine qp (o:=6) ?_;refine ql hH ax ?_;refine qg ?_;refine qm ?_;refine qm ?_;refine qe hK<|af.ret ⟨rx,_,rfl,rl bZ hH (rfl)⟩
  rw[if_neg (by omega)];refine qE rfl (by simp[q4]) ?_;refine qq<|qj fun K hK=>qg ?_;refine qm ?_;refine qe hK ?_;refine af.cond (by rfl) (fun q5=>?_) (fun q5=>?_)<;>try simp only[beq_iff_eq,beq_eq_false_iff_ne,ne_eq] at q5
  ·rw[if_pos q5];refine qq<|af.Lz [4,5] (fun ff=>ff 4=.int .i64 1∧ff 5=.bool ((n.kids==1) &&decide (n.mn≥0) &&decide (n.mn≤30) &&((n.mx==-1)||(decide (n.mx≥n.mn) &&decide (n.mx≤30))))) ?_ (fun ff tmp y7=>?_)
   ·refine qp (o:=6) ?_;refine ql hH ax ?_;refine qg ?_;refine qm ?_;refine ab.two 41 rfl (fun bG=>?_) (fun bG=>?_)
    ·refine qp (o:=2) ?_ (hg:=wi bG);refine ql hH ax ?_ (hg:=wi bG);refine qg ?_ (hg:=wi bG);refine qt bG ?_;refine qm ?_;refine ab.two 46 rfl (fun gg=>?_) (fun gg=>?_)
     ·refine qp (o:=2) ?_ (hg:=wi gg);refine ql hH ax ?_ (hg:=wi gg);refine qg ?_ (hg:=wi gg);refine qt gg ?_;refine qm ?_;refine ab.two 51 rfl (fun cH=>?_) (fun cH=>?_)
      ·refine qp (o:=3) ?_ (hg:=wi cH);refine ql hH ax ?_ (hg:=wi cH);refine qg ?_ (hg:=wi cH);refine qm ?_ (hg:=wi cH);refine ab.two 55 rfl (fun bc=>?_) (fun bc=>?_)
       ·refine qs ?_ (hg:=wn bc);refine qs ?_ (hg:=wn bc);refine qs ?_ (hg:=wn bc);refine qs ?_ (hg:=wn bc);refine qs ?_ (hg:=wn bc);refine qs ?_ (hg:=wn bc);refine qs ?_;refine qs ?_;refine qs ?_;refine qs ?_ (hg:=wn bc);refine ab.dO (aC rfl rfl rfl cH) rfl bc (ag rfl _) ?_;refine qt cH ?_;refine qm ?_;refine qm ?_;refine ab.nil (jN ?_ ?_)
        ·dsimp only[aO,List.foldl,nth,u2,u1]
        ·dsimp only[nth];dsimp only[Fr.aE,Fr.put,Fr.clean,Fr.ev,Fr.get,nth,V.look,u1,u2,v1,v2,v3,v4,v5,v6,v7,List.length,u3,u4,Nat.reduceSub,Nat.reduceAdd,List.map];refine⟨?_,?_⟩<;>(first|rfl|(simp[bG,gg,cH,bc];done)|(simp_all;done)|(simp[bG,gg,cH,bc];omega)|(simp_all;omega))
       ·refine qp (o:=3) ?_ (hg:=wi bc);refine ql hH ax ?_ (hg:=wi bc);refine qp (o:=2) ?_ (hg:=wi bc);refine ql hH ax ?_ (hg:=wi bc);refine qg ?_ (hg:=wi bc);refine qm ?_ (hg:=wi bc);refine ab.two 61 rfl (fun mB=>?_) (fun mB=>?_)
        ·refine qp (o:=3) ?_ (hg:=wi mB);refine ql hH ax ?_ (hg:=wi mB);refine qg ?_ (hg:=wi mB);refine ab.dO (aC rfl rfl rfl bc) rfl mB (ag rfl _) ?_;refine ab.cZ (aC rfl rfl rfl cH) rfl bc (ag rfl _) ?_;refine qt cH ?_;refine qm ?_;refine qm ?_;refine ab.nil (jN ?_ ?_)
         ·dsimp only[aO,List.foldl,nth,u2,u1]
         ·dsimp only[nth];dsimp only[Fr.aE,Fr.put,Fr.clean,Fr.ev,Fr.get,nth,V.look,u1,u2,v1,v2,v3,v4,v5,v6,v7,List.length,u3,u4,Nat.reduceSub,Nat.reduceAdd,List.map];refine⟨?_,?_⟩<;>(first|rfl|(simp[bG,gg,cH,bc,mB];done)|(simp_all;done)|(simp[bG,gg,cH,bc,mB];omega)|(simp_all;omega))
        ·refine qs ?_ (hg:=wn mB);refine qs ?_ (hg:=wn mB);refine qs ?_ (hg:=wn mB);refine ab.cZ (aC rfl rfl rfl bc) rfl mB (ag rfl _) ?_;refine ab.cZ (aC rfl rfl rfl cH) rfl bc (ag rfl _) ?_;refine qt cH ?_;refine qm ?_;refine qm ?_;refine ab.nil (jN ?_ ?_)
         ·dsimp only[aO,List.foldl,nth,u2,u1]
         ·dsimp only[nth];dsimp only[Fr.aE,Fr.put,Fr.clean,Fr.ev,Fr.get,nth,V.look,u1,u2,v1,v2,v3,v4,v5,v6,v7,List.length,u3,u4,Nat.reduceSub,Nat.reduceAdd,List.map];refine⟨?_,?_⟩<;>(first|rfl|(simp[bG,gg,cH,bc,mB];done)|(simp_all;done)|(simp[bG,gg,cH,bc,mB];omega)|(simp_all;omega))
      ·refine qs ?_ (hg:=wn cH);refine qs ?_ (hg:=wn cH);refine qs ?_ (hg:=wn cH);refine qs ?_ (hg:=wn cH);refine qs ?_;refine qs ?_;refine qs ?_;refine qs ?_;refine qs ?_;refine qs ?_;refine qs ?_;refine qs ?_;refine qs ?_;refine qs ?_;refine qs ?_ (hg:=wn cH);refine qu cH ?_;refine qm ?_;refine qm ?_;refine ab.nil (jN ?_ ?_)
       ·dsimp only[aO,List.foldl,nth,u2,u1]
       ·dsimp only[nth];dsimp only[Fr.aE,Fr.put,Fr.clean,Fr.ev,Fr.get,nth,V.look,u1,u2,v1,v2,v3,v4,v5,v6,v7,List.length,u3,u4,Nat.reduceSub,Nat.reduceAdd,List.map];refine⟨?_,?_⟩<;>(first|rfl|(simp[bG,gg,cH];done)|(simp_all;done)|(simp[bG,gg,cH];omega)|(simp_all;omega))
     ·refine qs ?_ (hg:=wn gg);refine qs ?_ (hg:=wn gg);refine qs ?_ (hg:=wn gg);refine qu gg ?_;refine qm ?_;refine qs ?_;refine qs ?_;refine qs ?_;refine qs ?_;refine qs ?_;refine qs ?_;refine qs ?_;refine qs ?_;refine qs ?_;refine qs ?_;refine qs ?_;refine qs ?_;refine qs ?_;refine qs ?_;refine qs ?_;refine qg ?_;refine qm ?_;refine qm ?_;refine ab.nil (jN ?_ ?_)
      ·dsimp only[aO,List.foldl,nth,u2,u1]
      ·dsimp only[nth];dsimp only[Fr.aE,Fr.put,Fr.clean,Fr.ev,Fr.get,nth,V.look,u1,u2,v1,v2,v3,v4,v5,v6,v7,List.length,u3,u4,Nat.reduceSub,Nat.reduceAdd,List.map];refine⟨?_,?_⟩<;>(first|rfl|(simp[bG,gg];done)|(simp_all;done)|(simp[bG,gg];omega)|(simp_all;omega))
    ·refine qs ?_ (hg:=wn bG);refine qs ?_ (hg:=wn bG);refine qs ?_ (hg:=wn bG);refine qu bG ?_;refine qm ?_;refine qs ?_;refine qs ?_;refine qs ?_;refine qg ?_;refine qm ?_;refine qs ?_;refine qs ?_;refine qs ?_;refine qs ?_;refine qs ?_;refine qs ?_;refine qs ?_;refine qs ?_;refine qs ?_;refine qs ?_;refine qs ?_;refine qs ?_;refine qs ?_;refine qs ?_;refine qs ?_;refine qg ?_;refine qm ?_;refine qm ?_;refine ab.nil (jN ?_ ?_)
     ·dsimp only[aO,List.foldl,nth,u2,u1]
     ·dsimp only[nth];dsimp only[Fr.aE,Fr.put,Fr.clean,Fr.ev,Fr.get,nth,V.look,u1,u2,v1,v2,v3,v4,v5,v6,v7,List.length,u3,u4,Nat.reduceSub,Nat.reduceAdd,List.map];refine⟨?_,?_⟩<;>(first|rfl|(simp[bG];done)|(simp_all;done)|(simp[bG];omega)|(simp_all;omega))
   dsimp only[aO,List.foldl,nth,u2,u1];obtain⟨Bk,Bj⟩:=y7;rw[Bk,Bj];refine af.ret ⟨rx,_,rfl,rl bZ hH (rfl)⟩
  rw[if_neg q5];refine qq<|qj fun K hK=>qg ?_;refine qm ?_;refine qe hK ?_;refine af.cond (by rfl) (fun q6=>?_) (fun q6=>?_)<;>try simp only[beq_iff_eq,beq_eq_false_iff_ne,ne_eq] at q6
  ·rw[if_pos q6];refine qq<|af.Lz [4,5] (fun ff=>ff 4=.int .i64 1∧ff 5=.bool ((n.kids==1) &&(n.cap==((g+1:Nat):Int)) &&decide (n.cap≤4))) ?_ (fun ff tmp y7=>?_)
   ·refine qp (o:=6) ?_;refine ql hH ax ?_;refine qg ?_;refine qm ?_;refine ab.two 73 rfl (fun bG=>?_) (fun bG=>?_)
    ·refine qp (o:=5) ?_ (hg:=wi bG);refine ql hH ax ?_ (hg:=wi bG);refine qm ?_ (hg:=wi bG);refine qA ?_ (hg:=wi bG);refine qg ?_ (hg:=wi bG);refine qt bG ?_;refine qm ?_;refine ab.two 80 rfl (fun a_=>?_) (fun a_=>?_)
     ·refine qp (o:=5) ?_ (hg:=wi a_);refine ql hH ax ?_ (hg:=wi a_);refine qg ?_ (hg:=wi a_);refine qt a_ ?_;refine qm ?_;refine qm ?_;refine ab.nil (jN ?_ ?_)
      ·dsimp only[aO,List.foldl,nth,u2,u1]
      ·dsimp only[nth];dsimp only[Fr.aE,Fr.put,Fr.clean,Fr.ev,Fr.get,nth,V.look,u1,u2,v1,v2,v3,v4,v5,v6,v7,List.length,u3,u4,Nat.reduceSub,Nat.reduceAdd,List.map];refine⟨?_,?_⟩<;>(first|rfl|(simp[bG,a_];done)|(simp_all;done)|(simp[bG,a_];omega)|(simp_all;omega))
     ·refine qs ?_ (hg:=wn a_);refine qs ?_ (hg:=wn a_);refine qs ?_ (hg:=wn a_);refine qu a_ ?_;refine qm ?_;refine qm ?_;refine ab.nil (jN ?_ ?_)
      ·dsimp only[aO,List.foldl,nth,u2,u1]
      ·dsimp only[nth];dsimp only[Fr.aE,Fr.put,Fr.clean,Fr.ev,Fr.get,nth,V.look,u1,u2,v1,v2,v3,v4,v5,v6,v7,List.length,u3,u4,Nat.reduceSub,Nat.reduceAdd,List.map];refine⟨?_,?_⟩<;>(first|rfl|(simp[bG,a_];done)|(simp_all;done)|(simp[bG,a_];omega)|(simp_all;omega))
    ·refine qs ?_ (hg:=wn bG);refine qs ?_ (hg:=wn bG);refine qs ?_ (hg:=wn bG);refine qs ?_ (hg:=wn bG);refine qs ?_ (hg:=wn bG);refine qu bG ?_;refine qm ?_;refine qs ?_;refine qs ?_;refine qs ?_;refine qg ?_;refine qm ?_;refine qm ?_;refine ab.nil (jN ?_ ?_)
     ·dsimp only[aO,List.foldl,nth,u2,u1]
     ·dsimp only[nth];dsimp only[Fr.aE,Fr.put,Fr.clean,Fr.ev,Fr.get,nth,V.look,u1,u2,v1,v2,v3,v4,v5,v6,v7,List.length,u3,u4,Nat.reduceSub,Nat.reduceAdd,List.map];refine⟨?_,?_⟩<;>(first|rfl|(simp[bG];done)|(simp_all;done)|(simp[bG];omega)|(simp_all;omega))
   dsimp only[aO,List.foldl,nth,u2,u1];obtain⟨Bk,Bj⟩:=y7;rw[Bk,Bj];refine af.ret ⟨rx,_,rfl,rl bZ hH (rfl)⟩
  ·rw[if_neg q6];refine af.skip<|qq<|qj fun K hK=>qm ?_;refine qm ?_;refine qe hK<|af.ret ⟨rx,_,rfl,rl bZ hH (rfl)⟩
theorem uc {n:da} (h:n.ok):refs (bd n)=0:=by
 have:=h.1.ref;simp only[bd,refs,D.ref,this,Nat.max_self]
def mP (d:D) (at_ g:Nat):List D:=[d,.int .i64 (at_:Nat),.int .i64 (g:Nat)]
theorem AA {l:List da} {d:D} (hl:l.length≤1048576) (hi:∀n∈l,n.ok) (hd:e_ d 7 (l.map bd)):∀(f:Nat) {N k:Nat} {S s0:St} {H:List bF} {at_ g:Nat},f≤241→g≤4→Has N S s0 (.box k (.mem 0 false (mP d at_ g))::H)→
  ∃r ah,Ev pv 80 [.ptr k 0 0,.int .i64 ((241-f:Nat):Int)] s0 r ah∧r=.bool (gA l f at_ g).isSome∧∃a' g',Has N S ah (.box k (.mem 0 false (mP d a' g'))::H)∧g'≤4∧∀q,gA l f at_ g=some q→a'=q.1∧g'=q.2:=by
 intro f
 induction f with
 |zero=>
  intro N k S s0 H at_ g hf hg hH;refine Ev.i7 rfl Od rfl rfl rfl ?_;dsimp only[u3,u4,List.length,Nat.reduceSub,Nat.reduceAdd,w1,w2];have cp:=hH;have hH:=hH.ct;have cn:(ai .rw s0).bs=s0.bs:=rfl;generalize ai .rw s0=S2 at*;have hc:=hd.arg N S2;refine qq<|qj fun K hK=>qm ?_;refine qe hK<|qq<|qq<|af.jV 21 (.bool (decide ((at_:Int)≥(l.length:Nat))||decide (((241-0:Nat):Int)>240))) [] ?_ (fun ff tmp gE=>?_)
  ·refine qm ?_;refine qg ?_;refine qp (o:=1) ?_;refine ql hH ax ?_;refine qm ?_;refine qg ?_;refine qp (o:=0) ?_;refine ql hH ax ?_;refine qn ?_;simp only[List.length_map];refine qg ?_;refine qm ?_;refine ab.two 18 rfl (fun a_=>?_) (fun a_=>?_)
   ·refine qs ?_ (hg:=wn a_);refine qs ?_ (hg:=wn a_);refine qt a_ ?_;refine ab.nil (cS ?_ ?_)
    ·dsimp only[aO,List.foldl,nth,u2,u1]
     all_goals(first|rfl|simp)
    ·dsimp only[Fr.aE,Fr.put,Fr.clean,Fr.ev,Fr.get,nth,V.look,u1,u2,v1,v2,v3,v4,v5,v6,v7,List.length,u3,u4,Nat.reduceSub,Nat.reduceAdd,List.map]
     all_goals(simp[a_];done)
   ·refine qm ?_ (hg:=wi a_);refine qg ?_ (hg:=wi a_);refine qu a_ ?_;refine ab.nil (cS ?_ ?_)
    ·dsimp only[aO,List.foldl,nth,u2,u1]
     all_goals(first|rfl|simp)
    ·dsimp only[Fr.aE,Fr.put,Fr.clean,Fr.ev,Fr.get,nth,V.look,u1,u2,v1,v2,v3,v4,v5,v6,v7,List.length,u3,u4,Nat.reduceSub,Nat.reduceAdd,List.map]
     all_goals(simp[a_];done)
  dsimp only[aO,List.foldl,nth,u2,u1];have hT:(decide ((at_:Int)≥(l.length:Nat))||decide (((241-0:Nat):Int)>240))=true:=by simp
  rw[hT] at gE;refine qB ?_;refine qq<|qj fun K hK=>qm ?_;refine qe hK<|af.ret ⟨rx,_,_,_,rfl,aj (rfl),?_⟩;exact⟨rfl,_,_,cp.aw cn hH,hg,fun q hq=>by simp[gA] at hq⟩
 |succ f ih=>
  intro N k S s0 H at_ g hf hg hH;refine Ev.i7 rfl Od rfl rfl rfl ?_;dsimp only[u3,u4,List.length,Nat.reduceSub,Nat.reduceAdd,w1,w2];have cp:=hH;have hH:=hH.ct;have cn:(ai .rw s0).bs=s0.bs:=rfl;generalize ai .rw s0=S2 at*;have hc:=hd.arg N S2;refine qq<|qj fun K hK=>qm ?_;refine qe hK<|qq<|qq<|af.jV 21 (.bool (decide ((at_:Int)≥(l.length:Nat))||decide (((241-(f+1):Nat):Int)>240))) [] ?_ (fun ff tmp gE=>?_)
  ·refine qm ?_;refine qg ?_;refine qp (o:=1) ?_;refine ql hH ax ?_;refine qm ?_;refine qg ?_;refine qp (o:=0) ?_;refine ql hH ax ?_;refine qn ?_;simp only[List.length_map];refine qg ?_;refine qm ?_;refine ab.two 18 rfl (fun a_=>?_) (fun a_=>?_)
   ·refine qs ?_ (hg:=wn a_);refine qs ?_ (hg:=wn a_);refine qt a_ ?_;refine ab.nil (cS ?_ ?_)
    ·dsimp only[aO,List.foldl,nth,u2,u1]
     all_goals(first|rfl|simp)
    ·dsimp only[Fr.aE,Fr.put,Fr.clean,Fr.ev,Fr.get,nth,V.look,u1,u2,v1,v2,v3,v4,v5,v6,v7,List.length,u3,u4,Nat.reduceSub,Nat.reduceAdd,List.map]
     all_goals(simp_all;done)
   ·refine qm ?_ (hg:=wi a_);refine qg ?_ (hg:=wi a_);refine qu a_ ?_;refine ab.nil (cS ?_ ?_)
    ·dsimp only[aO,List.foldl,nth,u2,u1]
     all_goals(first|rfl|simp)
    ·dsimp only[Fr.aE,Fr.put,Fr.clean,Fr.ev,Fr.get,nth,V.look,u1,u2,v1,v2,v3,v4,v5,v6,v7,List.length,u3,u4,Nat.reduceSub,Nat.reduceAdd,List.map]
     all_goals(simp_all;omega)
  dsimp only[aO,List.foldl,nth,u2,u1]
  by_cases ha:l.length≤at_
  ·have hT:(decide ((at_:Int)≥(l.length:Nat))||decide (((241-(f+1):Nat):Int)>240))=true:=by
    rw[Bool.or_eq_true];exact .inl (by rw[decide_eq_true_eq];omega)
   rw[hT] at gE;have hn:gA l (f+1) at_ g=none:=by unfold gA;rw[List.getElem?_eq_none ha]
   rw[hn];refine qB ?_;refine qq<|qj fun K hK=>qm ?_;refine qe hK<|af.ret ⟨rx,_,_,_,rfl,aj (rfl),?_⟩;exact⟨rfl,_,_,cp.aw cn hH,hg,fun q hq=>by cases hq⟩
  ·have hT:(decide ((at_:Int)≥(l.length:Nat))||decide (((241-(f+1):Nat):Int)>240))=false:=by
    rw[Bool.or_eq_false_iff];exact⟨by rw[decide_eq_false_iff_not];omega,by rw[decide_eq_false_iff_not];omega⟩
   rw[hT] at gE
   obtain⟨n,hn⟩:∃n,l[at_]?=some n:=⟨l[at_]'(by omega),List.getElem?_eq_getElem _⟩
   have kP:=hi n (List.mem_of_getElem? hn);have gk:=kf hn;have KS:=uc kP
   have je:gA l (f+1) at_ g=if(eE n (g:Nat)).2=true then iG (gA l f) (eE n (g:Nat)).1.toNat (at_+1) (if n.op=6 then g+1 else g) else none:=by
    rw[gA,hn]
   rw[je];clear je;refine qC ?_;refine af.skip<|qq<|qj fun K hK=>qm ?_;refine qg ?_;refine qp (o:=0) ?_;refine ql hH ax ?_;refine qm ?_;refine qg ?_;refine qp (o:=1) ?_;refine ql hH ax ?_;refine qr fun SZ Nr=>?_;refine ab.cY rfl (ev rfl) (by assumption) rfl (ag rfl _) ?_;refine qa hH fun k5 st Bg hH=>?_;dsimp only[u2,u1,u3,u4,setMany,u5,u6,D.cells,Nat.reduceAdd,mP,bd] at hH;refine ab.sF hH rfl (ev rfl) (ev rfl) (by rfl) (by exact rfl) (by exact ax) (by exact rfl) (by exact .inr (by assumption)) (fun st hH=>?_);dsimp only[u2,u1,u3,u4,setMany,u5,u6,D.cells,Nat.reduceAdd,mP,bd] at hH;refine qe hK<|qq<|qj fun K hK=>?_;refine ab.aT (m:=7) hH rfl (ev rfl) (by exact ax) (by dsimp only[List.drop_succ_cons,List.drop_zero,List.take_succ_cons,List.take_zero,mP,bd]<;>rfl) rfl rfl (ag rfl _) ?_;refine qm ?_;refine qg ?_;refine qp (o:=2) ?_;refine ql hH bC ?_;refine qv (vE kP (by omega)) ?_;refine qm ?_;refine qg ?_;refine qg ?_;refine qm ?_;refine qm ?_;refine qe hK<|qq<|qq<|qj fun K hK=>qm ?_;refine qg ?_;refine qe hK ?_
   cases hsh:(eE n (g:Nat)).2 with
   |false=>
    rw[if_neg (by simp)];refine qB ?_;refine qq<|qj fun K hK=>qm ?_;refine qe hK<|af.ret ⟨rx,_,_,_,rfl,aj (rfl),?_⟩;exact⟨rfl,_,_,cp.aw cn (hH.drop 1),hg,fun q hq=>by cases hq⟩
   |true=>
    rw[if_pos rfl];obtain⟨⟨nQ,_⟩,hk2,Lb⟩:=tA hsh;have NM:=kP.2.2;obtain⟨kd,L4⟩:∃kd:Nat,(eE n (g:Nat)).1=(kd:Int):=Int.eq_ofNat_of_zero_le hk2;rw[L4,Int.toNat_natCast];rw[L4,Int.toNat_natCast] at nQ;refine qC ?_;refine af.skip<|qq<|qj fun K hK=>qm ?_;refine qg ?_;refine qp (o:=1) ?_;refine ql hH bC ?_;refine qA ?_;refine qg ?_;refine qp (o:=1) ?_;refine qT hH bC fun st hH=>?_;dsimp only[u2,u1,u3,u4,setMany,u5,u6,D.cells,Nat.reduceAdd,mP,bd] at hH;refine qe hK<|qq<|qq<|qj fun K hK=>qp (o:=0) ?_;refine ql hH ax ?_;refine qg ?_;refine qe hK<|af.merge (fun fr st=>∃(g2:Nat) (tmp:List (Nat×D)),fr=⟨8,[.ptr k 0 0,.int .i64 ((241-(f+1):Nat):Int),mj fr 2,mj fr 3,.bool false,.ptr k5 0 0,.int .i64 (kd:Nat),.bool true],tmp⟩∧Has N S2 st (.box k (.mem 0 false [d,.int .i64 ((at_+1:Nat):Int),.int .i64 (g2:Nat)])::.box k5 (.mem 0 false (bd n))::H)∧(g2=if n.op=6 then g+1 else g)∧(g2≤4)) ?_ ?_
    ·refine af.cond (by rfl) (fun q6=>?_) (fun q6=>?_)<;>try simp only[beq_iff_eq,beq_eq_false_iff_ne,ne_eq] at q6
     ·have:=Lb q6;refine qj fun K hK=>qm ?_;refine qg ?_;refine qp (o:=2) ?_;refine ql hH bC ?_;refine qA ?_;refine qg ?_;refine qp (o:=2) ?_;refine qT hH bC fun st hH=>?_;dsimp only[u2,u1,u3,u4,setMany,u5,u6,D.cells,Nat.reduceAdd,mP,bd] at hH;refine qe hK ?_;exact⟨g+1,_,rfl,(by have:=hH.front bC;exact this),by rw[if_pos q6],by omega⟩
     ·refine af.skip ?_;exact⟨g,_,rfl,(by have:=hH.front bC;exact this),by rw[if_neg q6],hg⟩
    ·rintro fr st ⟨g2,tmp,hfr,hH,bk,bG⟩;rw[hfr];clear hfr;generalize mj fr=ee;clear fr;rw[←bk];refine qq<|af.block<|af.loop (fun mm fr st=>∃(kk a2 g4:Nat),fr.clean=⟨8,[.ptr k 0 0,.int .i64 ((241-(f+1):Nat):Int),mj fr 2,mj fr 3,.bool false,.ptr k5 0 0,.int .i64 (kk:Nat),.bool true],[]⟩∧Has N S2 st (.box k (.mem 0 false [d,.int .i64 (a2:Nat),.int .i64 (g4:Nat)])::.box k5 (.mem 0 false (bd n))::H)∧(iG (gA l f) kk a2 g4=iG (gA l f) kd (at_+1) g2)∧(g4≤4)∧(kk=mm)∧(kk≤9223372036854775807)) (kd) ?_ ?_
     ·exact⟨kd,at_+1,g2,rfl,hH,rfl,bG,rfl,by omega⟩
     rintro mm fr st ⟨kk,a2,g4,hfr,hH,hX,a7,G7,hkk⟩;rw[hfr];clear hfr;generalize mj fr=ee;clear fr;refine qq<|qq<|qj fun K hK=>qm ?_;refine qg ?_;refine qe hK ?_
     cases kk with
     |zero=>
      refine af.cond (v:=false) (by dsimp only[Fr.ev,Fr.get,nth,V.look];rfl) (fun h=>by cases h) (fun _=>?_);refine af.exit<|qq<|qj fun K hK=>qm ?_;refine qe hK<|af.ret ⟨rx,_,_,_,rfl,aj (rfl),?_⟩;exact⟨by rw[←hX];rfl,_,_,cp.aw cn (hH.erase 1),a7,fun q hq=>by rw[←hX] at hq;simp only[iG,Option.some.injEq] at hq;subst hq;exact⟨rfl,rfl⟩⟩
     |succ kk=>
      rw[iG] at hX;refine qD rfl (by simp) ?_;refine af.skip<|qq<|af.block<|qq<|qj fun K hK=>qm ?_;refine qm ?_;refine ab.jY (z:=((241-f:Nat):Int)) rfl (ev rfl) (ev rfl) (by(try simp only[List.length_reverse,List.length_cons,List.length_nil,List.length_append,List.length_map,List.length_set]);rw[wrap_i64 (by omega) (by omega)]<;>omega) (ag rfl _) ?_;obtain⟨_,st,aI,rfl,a',g',hH,dJ,hq⟩:=ih (at_:=a2) (g:=g4) (by omega) a7 hH;refine qv aI ?_;refine qg ?_;refine qe hK ?_
      cases ho:gA l f a2 g4 with
      |none=>
       rw[ho] at hX;refine qB ?_;refine qq<|qj fun K hK=>qm ?_;refine qe hK<|af.ret ⟨rx,_,_,_,rfl,aj (rfl),?_⟩;exact⟨by rw[←hX];rfl,_,_,cp.aw cn (hH.erase 1),dJ,fun q hq=>by rw[←hX] at hq;cases hq⟩
      |some q=>
       rw[ho] at hX;obtain⟨rfl,rfl⟩:=hq q ho;refine qC ?_;refine af.skip<|qj fun K hK=>qm ?_;refine ab.nv (z:=((kk:Nat):Int)) rfl (ev rfl) (ev rfl) (by(try simp only[List.length_reverse,List.length_cons,List.length_nil,List.length_append,List.length_map,List.length_set]);rw[wrap_i64 (by omega) (by omega)]<;>omega) (ag rfl _) ?_;refine qm ?_;refine qe hK ?_;exact⟨mm-1,by omega,⟨kk,q.1,q.2,rfl,hH,hX,dJ,by omega,by omega⟩⟩
theorem yC {s0:St} {x:Nl} (hx:x.ok):Ev pv 67 [x.d] s0 (.bool (ft x.l)) s0:=by
 refine Ev.me rfl RA rfl rfl rfl ?_;dsimp only[u3,u4,List.length,Nat.reduceSub,Nat.reduceAdd,w1,w2];obtain⟨bZ,hF,hH⟩:=ri s0;generalize ai .ro s0=S at*;have hc:=hx.c.arg s0.bs.length S;have hl:=hx.nl;have tk:=hx.c;refine qq<|qj fun K hK=>qm ?_;refine qe hK<|qq<|qq<|af.jV 11 (.bool (decide (((x.l.length:Nat):Int)<1)||decide (((x.l.length:Nat):Int)>480))) [] ?_ (fun ff tmp gE=>?_)
 ·refine qm ?_;refine qn ?_;simp only[List.length_map];refine qg ?_;refine qm ?_;refine ab.two 7 rfl (fun bG=>?_) (fun bG=>?_)
  ·refine qs ?_ (hg:=wn bG);refine qs ?_ (hg:=wn bG);refine qs ?_ (hg:=wn bG);refine qt bG ?_;refine ab.nil (cS ?_ ?_)
   ·dsimp only[aO,List.foldl,nth,u2,u1]
    all_goals(first|rfl|simp)
   ·dsimp only[Fr.aE,Fr.put,Fr.clean,Fr.ev,Fr.get,nth,V.look,u1,u2,v1,v2,v3,v4,v5,v6,v7,List.length,u3,u4,Nat.reduceSub,Nat.reduceAdd,List.map]
    all_goals(simp[bG];done)
  ·refine qm ?_ (hg:=wi bG);refine qn ?_ (hg:=wi bG);simp only[List.length_map];refine qg ?_ (hg:=wi bG);refine qu bG ?_;refine ab.nil (cS ?_ ?_)
   ·dsimp only[aO,List.foldl,nth,u2,u1]
    all_goals(first|rfl|simp)
   ·dsimp only[Fr.aE,Fr.put,Fr.clean,Fr.ev,Fr.get,nth,V.look,u1,u2,v1,v2,v3,v4,v5,v6,v7,List.length,u3,u4,Nat.reduceSub,Nat.reduceAdd,List.map]
    all_goals(simp[bG];done)
 dsimp only[aO,List.foldl,nth,u2,u1]
 by_cases hlen:1≤x.l.length∧x.l.length≤480
 ·have hT:(decide (((x.l.length:Nat):Int)<1)||decide (((x.l.length:Nat):Int)>480))=false:=by
   rw[Bool.or_eq_false_iff];exact⟨by rw[decide_eq_false_iff_not];omega,by rw[decide_eq_false_iff_not];omega⟩
  rw[hT] at gE
  have hR:ft x.l=(match gA x.l 241 0 0 with|some r=>decide (r.1=x.l.length)|none=>false):=by
   unfold ft;rw[decide_eq_true hlen.1,decide_eq_true hlen.2];rfl
  rw[hR];clear hR;refine qC ?_;refine af.skip<|qq<|qj fun K hK=>qm ?_;refine ab.fu (qs:=[(0,_)]) rfl rfl rfl rfl ⟨rfl,(ev rfl),(by exact(e_.cells (by assumption)).1),trivial⟩ (by intro q hq;simp only[List.mem_cons,List.not_mem_nil,or_false] at hq;rcases hq with rfl<;>exact⟨rfl,by exact Nat.le_of_ble_eq_true rfl⟩) (by show List.foldl _ [_,_,_] _=_;dsimp only[List.foldl_cons,List.foldl_nil,u2,u1]<;>rfl) (ag rfl _) ?_;refine qb hH fun k14 st NO hH=>?_;refine qm ?_;refine qe hK ?_;have hH:Has s0.bs.length S st (.box k14 (.mem 0 false (mP x.d 0 0))::[]):=hH
  cases bk:(gA x.l 241 0 0).isSome with
  |true=>
   obtain⟨q,hq⟩:=Option.isSome_iff_exists.1 bk;refine qq<|qj fun K hK=>qm ?_;obtain⟨_,st,aI,rfl,a',g',hH,dJ,Nd⟩:=AA hl hx.i hx.c 241 (by omega) (by omega) hH;refine qv aI ?_;refine qm ?_;refine qm ?_ (hg:=wi bk);refine qg ?_ (hg:=wi bk);refine qp (o:=1) ?_ (hg:=wi bk);refine ql hH ax ?_ (hg:=wi bk);refine qm ?_ (hg:=wi bk);refine qn ?_ (hg:=wi bk);simp only[List.length_map];refine qg ?_ (hg:=wi bk);refine qt bk ?_;refine qm ?_;refine qe hK ?_;obtain⟨rfl,rfl⟩:=Nd q hq;rw[hq]
   have he:decide (q.1=x.l.length)=(((q.1:Nat):Int)==((x.l.length:Nat):Int)):=by
    rw[Bool.eq_iff_iff];simp only[decide_eq_true_eq,beq_iff_eq];omega
   simp only[he];refine af.ret ⟨rx,_,rfl,rl bZ hH (rfl)⟩
  |false=>
   have hq:gA x.l 241 0 0=none:=by
    cases hq:gA x.l 241 0 0 with
    |none=>rfl
    |some q=>rw[hq] at bk;cases bk
   refine qq<|qj fun K hK=>qm ?_;obtain⟨_,st,aI,rfl,a',g',hH,dJ,Nd⟩:=AA hl hx.i hx.c 241 (by omega) (by omega) hH;refine qv aI ?_;refine qm ?_;refine qs ?_ (hg:=wn bk);refine qs ?_ (hg:=wn bk);refine qs ?_ (hg:=wn bk);refine qs ?_ (hg:=wn bk);refine qs ?_ (hg:=wn bk);refine qs ?_ (hg:=wn bk);refine qs ?_ (hg:=wn bk);refine qu bk ?_;refine qm ?_;refine qe hK ?_;rw[hq];refine af.ret ⟨rx,_,rfl,rl bZ hH (rfl)⟩
 ·have hT:(decide (((x.l.length:Nat):Int)<1)||decide (((x.l.length:Nat):Int)>480))=true:=by
   rw[Bool.or_eq_true,decide_eq_true_eq,decide_eq_true_eq];omega
  rw[hT] at gE
  have hR:ft x.l=false:=by
   unfold ft
   by_cases h1:1≤x.l.length
   ·rw[decide_eq_true h1,decide_eq_false (fun h2=>hlen ⟨h1,h2⟩)];rfl
   ·rw[decide_eq_false h1];rfl
  rw[hR];refine qB ?_;refine qq<|qj fun K hK=>qm ?_;refine qe hK<|af.ret ⟨rx,_,rfl,rl bZ hH (rfl)⟩
def aP (fr:Go.V.Fr) (k:Nat):Go.V.D:=Go.V.nth .bu fr.loc k
def lT (es:List Int) (a:Nat) (M:List Int):List Int:=es.take a++M++es.drop (a+M.length)
theorem xj {es M:List Int} {a:Nat} (h:a+M.length≤es.length):(lT es a M).length=es.length:=by
 unfold lT;simp only[List.length_append,List.length_take,List.length_drop];omega
theorem xi {es:List Int} {a:Nat}:lT es a []=es:=by
 unfold lT;simp
theorem Cr {es M:List Int} {a:Nat} {x:Int} (h:a≤es.length):(lT es a (x::M))[a]?=some x:=by
 unfold lT;rw[List.append_assoc,List.getElem?_append_right (by simp only[List.length_take];omega)];simp[Nat.min_eq_left h]
theorem xg {es M M':List Int} {a:Nat} (h:a+M.length+M'.length≤es.length):lT (lT es a M) (a+M.length) M'=lT es a (M++M'):=by
 unfold lT;have h1:(es.take a++M).length=a+M.length:=by simp only[List.length_append,List.length_take];omega
 rw[List.take_append_of_le_length (by omega),List.take_of_length_le (by omega)];rw[←h1,List.drop_append,List.drop_eq_nil_of_le (by omega),List.nil_append,h1,List.drop_drop];simp only[List.append_assoc,List.length_append]
 congr 4
 omega
theorem xh {es M:List Int} {a:Nat} {v:Int} (h:a+1+M.length≤es.length):(lT es (a+1) M).set a v=lT es a (v::M):=by
 unfold lT;have h1:(es.take a).length=a:=by simp only[List.length_take];omega
 rw[List.append_assoc,List.take_add_one,List.getElem?_eq_getElem (by omega)];simp only[Option.toList_some,List.append_assoc,List.cons_append,List.nil_append,List.length_cons];rw[List.set_append_right _ _ (by omega),h1,Nat.sub_self,List.set_cons_zero]
 congr 4
 omega
theorem zY {l:List da} {d:D} (hl:l.length≤1048576) (hi:∀n∈l,n.ok) (hd:e_ d 7 (l.map bd)):∀(m:Nat) (t:Tr),t.flat.length≤m→t.ok→∀{N:Nat} {S s0:St} {H:List bF} {out:D} {es:List Int} {at_:Nat},eS l at_ t.flat→es.length=l.length→Has N S s0 (.aM out 1 (es.map av)::H)→
  ∃r ah,Ev pv 68 [d,out,.int .i64 (at_:Nat)] s0 r ah∧r=.int .i64 ((at_+t.flat.length:Nat):Int)∧Has N S ah (.aM out 1 ((lT es at_ t.zs).map av)::H):=by
 intro m
 induction m with
 |zero=>intro t h;have:=t.gH;omega
 |succ m ih=>
  rintro⟨n,ks⟩ hm ba N S s0 H out es at_ jc pB hH;simp only[Tr.ok] at ba;obtain⟨kP,kX⟩:=ba;simp only[Tr.flat,List.length_cons] at hm;have hle:=jc.le (by simp[Tr.flat]);simp only[Tr.flat] at jc hle;simp only[List.length_cons] at hle;have hn:=jc.head;have jc:=jc.tail;have Nz:=hi n (List.mem_of_getElem? hn);have gk:=kf hn;have KS:=uc Nz;have L4:=kP.1;have lC:=bA.jM ks;refine Ev.i7 rfl Rz rfl rfl rfl ?_;dsimp only[u3,u4,List.length,Nat.reduceSub,Nat.reduceAdd,w1,w2];have cp:=hH;have hH:=hH.ct;have cn:(ai .rw s0).bs=s0.bs:=rfl;generalize ai .rw s0=S2 at*;have hc:=hd.arg N S2;refine qq<|qj fun K hK=>qm ?_;refine qe hK<|qq<|qj fun K hK=>qm ?_;refine qm ?_;refine qr fun S0 Ns=>?_;refine ab.cY rfl (ev rfl) (by assumption) rfl (by dsimp only[Fr.put,u1,u2]<;>rfl) ?_;refine qa hH fun k7 st OP hH=>?_;refine ab.sF hH rfl (ev rfl) (ev rfl) (by rfl) (by exact rfl) (by exact ax) (by exact rfl) (by exact .inr (by assumption)) (fun st hH=>?_);dsimp only[u2,u1,u3,u4,setMany,u5,u6,D.cells,Nat.reduceAdd,bd,av] at hH;refine qe hK<|qq<|qj fun K hK=>qm ?_;refine qA ?_;refine qm ?_;refine qe hK<|qq<|qj fun K hK=>qm ?_;refine qe hK<|qq<|qq<|qj fun K hK=>qp (o:=6) ?_;refine ql hH ax ?_;refine qm ?_;refine qe hK<|af.block<|af.loop (fun mm fr st=>∃(i j ss:Nat) (rest:bA) (nC:List Int),fr.clean=⟨36,[d,out,.int .i64 (at_:Nat),aP fr 3,aP fr 4,aP fr 5,.int .i64 0,.ptr k7 0 0,.int .i64 (j:Nat),.int .i64 ((min ss 401:Nat):Int),aP fr 10,aP fr 11,aP fr 12,aP fr 13,aP fr 14,aP fr 15,aP fr 16,aP fr 17,.int .i64 n.kids,.int .i64 (i:Nat),aP fr 20,aP fr 21,aP fr 22,aP fr 23,aP fr 24,aP fr 25,aP fr 26,aP fr 27,aP fr 28,aP fr 29,aP fr 30,aP fr 31,aP fr 32,aP fr 33,aP fr 34,aP fr 35],[]⟩∧Has N S2 st (.aM out 1 (nC.map av)::.box k7 (.mem 0 false (bd n))::H)∧(mm=rest.len)∧(i+rest.len=ks.len)∧(eS l j rest.flat)∧(rest.ok)∧(ss+rest.sz=ks.sz)∧(nC.length=l.length)∧(lT nC j rest.zs=lT es (at_+1) ks.zs)∧(j+rest.flat.length=at_+1+ks.flat.length)∧(rest.flat.length≤m)) (ks.len) ?_ ?_
  ·exact⟨0,at_+1,0,ks,es,rfl,(by have:=hH.front bC;exact this),rfl,by omega,jc,kX,by omega,pB,rfl,rfl,by omega⟩
  rintro mm fr st ⟨i,j,ss,rest,nC,hfr,hH,wv,y5,nA,jq,zA,wz,sG,hj,KP⟩;rw[hfr];clear hfr;generalize aP fr=ee;clear fr;refine qq<|qj fun K hK=>qg ?_;refine qe hK ?_
  cases rest with
  |nil=>
   simp only[bA.len] at y5;simp only[bA.sz] at zA;simp only[bA.flat,List.length_nil] at hj;simp only[bA.zs,xi] at sG;have gS:decide ((i:Int)<n.kids)=false:=by rw[decide_eq_false_iff_not];omega
   refine qq<|qE rfl (by rw[gS]) ?_;refine af.exit ?_;obtain rfl:ss=ks.sz:=by omega
   have jc:=nA;refine qq<|qq<|qj fun K hK=>qp (o:=0) ?_;refine ql hH bC ?_;refine qe hK<|af.merge (fun fr st=>∃(tmp:List (Nat×D)),fr=⟨36,[d,out,.int .i64 (at_:Nat),aP fr 3,aP fr 4,aP fr 5,.int .i64 0,.ptr k7 0 0,.int .i64 (j:Nat),.int .i64 ((bH n (min ks.sz 401) ks.len:Nat):Int),aP fr 10,aP fr 11,aP fr 12,aP fr 13,aP fr 14,aP fr 15,aP fr 16,aP fr 17,aP fr 18,aP fr 19,aP fr 20,aP fr 21,aP fr 22,aP fr 23,aP fr 24,aP fr 25,aP fr 26,aP fr 27,aP fr 28,aP fr 29,aP fr 30,aP fr 31,aP fr 32,aP fr 33,aP fr 34,aP fr 35],tmp⟩∧Has N S2 st (.aM out 1 (nC.map av)::.box k7 (.mem 0 false (bd n))::H)) ?_ ?_
   ·refine af.block<|qq<|qq<|qj fun K hK=>qg ?_;refine qm ?_;refine qe hK ?_;generalize hw:min ks.sz 401=w;have PC:w≤401:=by omega
    have gF:ks.len≤9223372036854775→True:=fun _=>trivial
    by_cases q2:n.op=2
    ·have hz:bH n w ks.len=1:=by unfold bH;rw[if_pos (.inl q2)]
     rw[hz];refine qD rfl (by simp[q2]) ?_;refine af.skip<|qD rfl (by simp[q2]) ?_;refine qj fun K hK=>qm ?_;refine qe hK ?_;exact⟨_,rfl,hH⟩
    refine qE rfl (by simp[q2]) ?_;refine qq<|qj fun K hK=>qg ?_;refine qm ?_;refine qe hK ?_
    by_cases q7:n.op=7
    ·have hz:bH n w ks.len=1:=by unfold bH;rw[if_pos (.inr (.inl q7))]
     rw[hz];refine qD rfl (by simp[q7]) ?_;refine af.skip<|qD rfl (by simp[q7]) ?_;refine qj fun K hK=>qm ?_;refine qe hK ?_;exact⟨_,rfl,hH⟩
    refine qE rfl (by simp[q7]) ?_;refine qj fun K hK=>qg ?_;refine qm ?_;refine qe hK ?_
    by_cases q8:n.op=8
    ·have hz:bH n w ks.len=1:=by unfold bH;rw[if_pos (.inr (.inr q8))]
     rw[hz];refine qD rfl (by simp[q8]) ?_;refine qj fun K hK=>qm ?_;refine qe hK ?_;exact⟨_,rfl,hH⟩
    refine qE rfl (by simp[q8]) ?_
    have hz0:bH n w ks.len=if n.op=4 then w+2*(ks.len-1) else if n.op=6 then w+2 else if n.op=5 then(if n.mx=-1 then n.mn.toNat*w+w+2 else n.mn.toNat*w+(n.mx.toNat-n.mn.toNat)*(w+1)) else w:=by
     unfold bH;rw[if_neg (by omega)]
    rw[hz0];clear hz0;obtain⟨_,gR⟩:=kP;have hq:(n.op=1∧ks.len=0)∨((n.op=3∨n.op=4)∧2≤ks.len)∨(n.op=5∧ks.len=1∧0≤n.mn∧n.mn≤30∧(n.mx=-1∨(n.mn≤n.mx∧n.mx≤30)))∨(n.op=6∧ks.len=1∧1≤n.cap∧n.cap≤4):=by omega
    refine qq<|qj fun K hK=>qg ?_;refine qm ?_;refine qe hK ?_
    by_cases q4:n.op=4
    ·rw[if_pos q4];have hk2:2≤ks.len:=by omega
     refine qD rfl (by simp[q4]) ?_;refine qj fun K hK=>qm ?_;refine qp (o:=6) ?_;refine ql hH bC ?_;refine ab.nv (z:=((ks.len-1:Nat):Int)) rfl (ev rfl) (ev rfl) (by(try simp only[List.length_reverse,List.length_cons,List.length_nil,List.length_append,List.length_map,List.length_set]);rw[wrap_i64 (by omega) (by omega)]<;>omega) (ag rfl _) ?_;refine ab.vY (z:=((2*(ks.len-1):Nat):Int)) rfl (ev rfl) (ev rfl) (by(try simp only[List.length_reverse,List.length_cons,List.length_nil,List.length_append,List.length_map,List.length_set]);rw[wrap_i64 (by omega) (by omega)]<;>omega) (ag rfl _) ?_;refine ab.jY (z:=((w+2*(ks.len-1):Nat):Int)) rfl (ev rfl) (ev rfl) (by(try simp only[List.length_reverse,List.length_cons,List.length_nil,List.length_append,List.length_map,List.length_set]);rw[wrap_i64 (by omega) (by omega)]<;>omega) (ag rfl _) ?_;refine qm ?_;refine qe hK ?_;exact⟨_,rfl,hH⟩
    rw[if_neg q4];refine qE rfl (by simp[q4]) ?_;refine qq<|qj fun K hK=>qg ?_;refine qm ?_;refine qe hK ?_
    by_cases q6:n.op=6
    ·rw[if_pos q6];refine qD rfl (by simp[q6]) ?_;refine qj fun K hK=>qm ?_;refine qA ?_;refine qm ?_;refine qe hK ?_;exact⟨_,rfl,hH⟩
    rw[if_neg q6];refine qE rfl (by simp[q6]) ?_;refine qq<|qj fun K hK=>qg ?_;refine qm ?_;refine qe hK ?_
    by_cases q5:n.op=5
    ·rw[if_pos q5];refine qD rfl (by simp[q5]) ?_;refine qq<|qj fun K hK=>qp (o:=3) ?_;refine ql hH bC ?_;refine qg ?_;refine qe hK ?_;have zD:0≤n.mn∧n.mn≤30∧(n.mx=-1∨(n.mn≤n.mx∧n.mx≤30)):=by omega
     obtain⟨a,ha⟩:∃a:Nat,n.mn=(a:Int):=Int.eq_ofNat_of_zero_le zD.1;have Tb:n.mn.toNat=a:=by omega
     have h1:a*w≤30*401:=Nat.mul_le_mul (by omega) PC;have hmul:n.mn*(w:Int)=((a*w:Nat):Int):=by rw[ha];push_cast;rfl
     rw[Tb]
     by_cases Ah:n.mx=-1
     ·rw[if_pos Ah];refine qD rfl (by simp[Ah]) ?_;refine qj fun K hK=>qp (o:=2) ?_;refine ql hH bC ?_;refine qm ?_;refine ab.vY (z:=((a*w:Nat):Int)) rfl (ev rfl) (ev rfl) (by(try simp only[List.length_reverse,List.length_cons,List.length_nil,List.length_append,List.length_map,List.length_set]);rw[wrap_i64 (by omega) (by omega)]<;>omega) (ag rfl _) ?_;refine qm ?_;refine ab.jY (z:=((a*w+w:Nat):Int)) rfl (ev rfl) (ev rfl) (by(try simp only[List.length_reverse,List.length_cons,List.length_nil,List.length_append,List.length_map,List.length_set]);rw[wrap_i64 (by omega) (by omega)]<;>omega) (ag rfl _) ?_;refine ab.jY (z:=((a*w+w+2:Nat):Int)) rfl (ev rfl) (ev rfl) (by(try simp only[List.length_reverse,List.length_cons,List.length_nil,List.length_append,List.length_map,List.length_set]);rw[wrap_i64 (by omega) (by omega)]<;>omega) (ag rfl _) ?_;refine qm ?_;refine qe hK ?_;exact⟨_,rfl,hH⟩
     ·rw[if_neg Ah];obtain⟨b,hb⟩:∃b:Nat,n.mx=(b:Int):=Int.eq_ofNat_of_zero_le (by omega);have UK:n.mx.toNat=b:=by omega
      have h2:(b-a)*(w+1)≤30*402:=Nat.mul_le_mul (by omega) (by omega);rw[UK];refine qE rfl (by simp[Ah]) ?_;refine qj fun K hK=>qp (o:=2) ?_;refine ql hH bC ?_;refine qm ?_;refine ab.vY (z:=((a*w:Nat):Int)) rfl (ev rfl) (ev rfl) (by(try simp only[List.length_reverse,List.length_cons,List.length_nil,List.length_append,List.length_map,List.length_set]);rw[wrap_i64 (by omega) (by omega)]<;>omega) (ag rfl _) ?_;refine qp (o:=3) ?_;refine ql hH bC ?_;refine qp (o:=2) ?_;refine ql hH bC ?_;refine ab.nv (z:=((b-a:Nat):Int)) rfl (ev rfl) (ev rfl) (by(try simp only[List.length_reverse,List.length_cons,List.length_nil,List.length_append,List.length_map,List.length_set]);rw[wrap_i64 (by omega) (by omega)]<;>omega) (ag rfl _) ?_;refine qm ?_;refine ab.jY (z:=((w+1:Nat):Int)) rfl (ev rfl) (ev rfl) (by(try simp only[List.length_reverse,List.length_cons,List.length_nil,List.length_append,List.length_map,List.length_set]);rw[wrap_i64 (by omega) (by omega)]<;>omega) (ag rfl _) ?_;refine ab.vY (z:=(((b-a)*(w+1):Nat):Int)) rfl (ev rfl) (ev rfl) (by(try simp only[List.length_reverse,List.length_cons,List.length_nil,List.length_append,List.length_map,List.length_set]);rw[wrap_i64 (by omega) (by omega)]<;>omega) (ag rfl _) ?_;refine ab.jY (z:=((a*w+(b-a)*(w+1):Nat):Int)) rfl (ev rfl) (ev rfl) (by(try simp only[List.length_reverse,List.length_cons,List.length_nil,List.length_append,List.length_map,List.length_set]);rw[wrap_i64 (by omega) (by omega)]<;>omega) (ag rfl _) ?_;refine qm ?_;refine qe hK ?_;exact⟨_,rfl,hH⟩
    ·rw[if_neg q5];refine qE rfl (by simp[q5]) ?_;refine af.skip ?_;exact⟨_,rfl,hH⟩
   ·rintro fr st ⟨tmp,hfr,hH⟩;rw[hfr];clear hfr;generalize aP fr=ee;clear fr;have kz:=GI (n:=n) (k:=ks.len) (s:=ks.sz);have gY:at_<nC.length:=by omega
    obtain⟨w,hw⟩:∃w,nC[at_]?=some w:=⟨nC[at_]'gY,List.getElem?_eq_getElem _⟩
    have UY:=dW hw;refine qq<|qj fun K hK=>qm ?_;refine qm ?_;refine qm ?_;refine ab.MQ (z:=((min (bH n ks.sz ks.len) 401:Nat):Int)) (t1:=_) (t2:=_) rfl (ev rfl) (ev rfl) (by omega) (ag rfl _) ?_;refine qi hH ax fun T_ P3=>?_;refine ab.kI hH rfl (ev rfl) (ev rfl) (by assumption) rfl rfl (by exact ax) (by assumption) (Nat.le_of_ble_eq_true rfl) (by exact .inr rfl) (fun st hH=>?_);dsimp only[u2,u1,u3,u4,setMany,u5,u6,D.cells,Nat.reduceAdd,bd,av] at hH;refine qe hK<|qq<|qj fun K hK=>qm ?_;refine qm ?_;refine qe hK<|af.ret ⟨rx,_,_,_,rfl,aj (rfl),?_⟩;have QC:j=at_+(Tr.mk n ks).flat.length:=by simp only[Tr.flat,List.length_cons];omega
    refine⟨by rw[QC];rfl,?_⟩
    have fG:lT es at_ (Tr.zs (.mk n ks))=nC.set at_ ((min (bH n ks.sz ks.len) 401:Nat):Int):=by
     rw[sG,xh (by rw[bA.hY];omega)];rfl
    rw[fG,List.map_set];exact cp.uw cn (hH.erase 1)
  |cons t ts=>
   simp only[bA.len] at y5 wv;simp only[bA.sz] at zA;simp only[bA.flat,List.length_append] at hj nA KP;simp only[bA.zs] at sG;simp only[bA.ok] at jq;have gS:decide ((i:Int)<n.kids)=true:=by rw[decide_eq_true_eq];omega
   have M5:=t.gH;have KF:=t.hY;have MZ:=ts.hY;have Lh:(lT nC j t.zs).length=l.length:=by rw[xj (by omega)];exact wz
   have Ux:(lT nC j t.zs)[j]?=some ((min t.sz 401:Nat):Int):=by
    obtain⟨n',MW⟩:=t;simp only[Tr.zs,Tr.sz];exact Cr (by omega)
   have Xu:=dW Ux;refine qq<|qD rfl (by rw[gS]) ?_;refine af.skip<|qq<|af.block<|qq<|qj fun K hK=>qm ?_;refine qm ?_;refine qe hK<|qq<|qj fun K hK=>qm ?_;refine qm ?_;refine qm ?_;obtain⟨_,st,aI,rfl,hH⟩:=ih t (by omega) jq.1 nA.left wz hH;refine qv aI ?_;refine qm ?_;refine qe hK<|qj fun K hK=>qm ?_;refine qm ?_;refine qm ?_;refine qi hH ax fun Um Qf=>?_;refine qo hH ax ?_;refine ab.jY (z:=((min ss 401+min t.sz 401:Nat):Int)) rfl (ev rfl) (ev rfl) (by(try simp only[List.length_reverse,List.length_cons,List.length_nil,List.length_append,List.length_map,List.length_set]);rw[wrap_i64 (by omega) (by omega)]<;>omega) (by dsimp only[Fr.put,u1,u2]<;>rfl) ?_;refine ab.MQ (z:=((min (ss+t.sz) 401:Nat):Int)) (t1:=_) (t2:=_) rfl (ev rfl) (ev rfl) (by omega) (by dsimp only[Fr.put,u1,u2]<;>rfl) ?_;refine qm ?_;refine qe hK<|qj fun K hK=>qA ?_;refine qm ?_;refine qe hK ?_;exact⟨mm-1,by omega,⟨i+1,j+t.flat.length,ss+t.sz,ts,lT nC j t.zs,rfl,hH,by omega,by omega,nA.right,jq.2,by omega,Lh,by rw[←sG];have:=xg (es:=nC) (a:=j) (M:=t.zs) (M':=ts.zs) (by omega);rw[KF] at this;exact this,by omega,by omega⟩⟩
theorem Gy {l:List da} {d:D} (hl:l.length≤1048576) (hi:∀n∈l,n.ok) (hd:e_ d 7 (l.map bd)):∀(m:Nat) (t:Tr),t.flat.length≤m→t.ok→∀{N:Nat} {S s0:St} {H:List bF} {out:D} {es:List Int} {at_:Nat},eS l at_ t.flat→es.length=l.length→Has N S s0 (.aM out 1 (es.map av)::H)→
  ∃r ah,Ev pv 69 [d,out,.int .i64 (at_:Nat)] s0 r ah∧r=.int .i64 ((at_+t.flat.length:Nat):Int)∧Has N S ah (.aM out 1 ((lT es at_ (t.es at_)).map av)::H):=by
 intro m
 induction m with
 |zero=>intro t h;have:=t.gH;omega
 |succ m ih=>
  rintro⟨n,ks⟩ hm ba N S s0 H out es at_ jc pB hH;simp only[Tr.ok] at ba;obtain⟨kP,kX⟩:=ba;simp only[Tr.flat,List.length_cons] at hm;have hle:=jc.le (by simp[Tr.flat]);simp only[Tr.flat] at jc hle;simp only[List.length_cons] at hle;have hn:=jc.head;have jc:=jc.tail;have Nz:=hi n (List.mem_of_getElem? hn);have gk:=kf hn;have L4:=kP.1;have lC:=bA.jM ks;refine Ev.i7 rfl Ry rfl rfl rfl ?_;dsimp only[u3,u4,List.length,Nat.reduceSub,Nat.reduceAdd,w1,w2];have cp:=hH;have hH:=hH.ct;have cn:(ai .rw s0).bs=s0.bs:=rfl;generalize ai .rw s0=S2 at*;have hc:=hd.arg N S2;refine qq<|qj fun K hK=>qm ?_;refine qe hK<|qq<|qj fun K hK=>qm ?_;refine qA ?_;refine qm ?_;refine qe hK<|qq<|qq<|qj fun K hK=>qm ?_;refine qm ?_;refine qr fun S1 Nt=>?_;refine qf (fo:=6) fun S0 Ns=>?_;refine qR ?_;refine qm ?_;refine qe hK<|af.block<|af.loop (fun mm fr st=>∃(i j:Nat) (rest:bA) (nC:List Int),fr.clean=⟨16,[d,out,.int .i64 (at_:Nat),aP fr 3,aP fr 4,aP fr 5,.int .i64 0,.int .i64 (j:Nat),aP fr 8,aP fr 9,aP fr 10,aP fr 11,aP fr 12,aP fr 13,.int .i64 n.kids,.int .i64 (i:Nat)],[]⟩∧Has N S2 st (.aM out 1 (nC.map av)::H)∧(mm=rest.len)∧(i+rest.len=ks.len)∧(eS l j rest.flat)∧(rest.ok)∧(nC.length=l.length)∧(lT nC j (rest.es j)=lT es (at_+1) (ks.es (at_+1)))∧(j+rest.flat.length=at_+1+ks.flat.length)∧(rest.flat.length≤m)) (ks.len) ?_ ?_
  ·exact⟨0,at_+1,ks,es,rfl,hH,rfl,by omega,jc,kX,pB,rfl,rfl,by omega⟩
  rintro mm fr st ⟨i,j,rest,nC,hfr,hH,wv,y5,nA,jq,wz,sG,hj,KP⟩;rw[hfr];clear hfr;generalize aP fr=ee;clear fr;refine qq<|qj fun K hK=>qg ?_;refine qe hK ?_
  cases rest with
  |nil=>
   simp only[bA.len] at y5;simp only[bA.flat,List.length_nil] at hj;simp only[bA.es,xi] at sG;have gS:decide ((i:Int)<n.kids)=false:=by rw[decide_eq_false_iff_not];omega
   have gY:at_<nC.length:=by omega
   obtain⟨w,hw⟩:∃w,nC[at_]?=some w:=⟨nC[at_]'gY,List.getElem?_eq_getElem _⟩
   have UY:=dW hw;refine qq<|qE rfl (by rw[gS]) ?_;refine af.exit<|qq<|qj fun K hK=>qm ?_;refine qm ?_;refine qm ?_;refine qi hH ax fun ML Bc=>?_;refine ab.kI hH rfl (ev rfl) (ev rfl) (by assumption) rfl rfl (by exact ax) (by assumption) (Nat.le_of_ble_eq_true rfl) (by exact .inr rfl) (fun st hH=>?_);dsimp only[u2,u1,u3,u4,setMany,u5,u6,D.cells,Nat.reduceAdd,bd,av] at hH;refine qe hK<|qq<|qj fun K hK=>qm ?_;refine qm ?_;refine qe hK<|af.ret ⟨rx,_,_,_,rfl,aj (rfl),?_⟩;have QC:j=at_+(Tr.mk n ks).flat.length:=by simp only[Tr.flat,List.length_cons];omega
   refine⟨by rw[QC];rfl,?_⟩
   have fG:lT es at_ (Tr.es (.mk n ks) at_)=nC.set at_ ((j:Nat):Int):=by
    rw[sG,xh (by rw[bA.il];omega)];have:j=at_+1+ks.flat.length:=by omega
    rw[this];rfl
   rw[fG,List.map_set];exact cp.uw cn hH
  |cons t ts=>
   simp only[bA.len] at y5 wv;simp only[bA.flat,List.length_append] at hj nA KP;simp only[bA.es] at sG;simp only[bA.ok] at jq;have gS:decide ((i:Int)<n.kids)=true:=by rw[decide_eq_true_eq];omega
   have M5:=t.gH;have KF:=t.il j;have MZ:=ts.il (j+t.flat.length);have Lh:(lT nC j (t.es j)).length=l.length:=by rw[xj (by omega)];exact wz
   refine qq<|qD rfl (by rw[gS]) ?_;refine af.skip<|qq<|af.block<|qj fun K hK=>qm ?_;refine qm ?_;refine qm ?_;obtain⟨_,st,aI,rfl,hH⟩:=ih t (by omega) jq.1 nA.left wz hH;refine qv aI ?_;refine qm ?_;refine qe hK<|qj fun K hK=>qA ?_;refine qm ?_;refine qe hK ?_;exact⟨mm-1,by omega,⟨i+1,j+t.flat.length,ts,lT nC j (t.es j),rfl,hH,by omega,by omega,nA.right,jq.2,Lh,by rw[←sG];have:=xg (es:=nC) (a:=j) (M:=t.es j) (M':=ts.es (j+t.flat.length)) (by omega);rw[KF] at this;exact this,by omega,by omega⟩⟩
theorem fI {N k:Nat} {S s0:St} {H:List bF} {ks:Nat→Prop} {cd nd zd ed w:D} {code:List aL} {op x y:Int} {rs:List Rg} (hF:S.flr≤N) (hl:code.length≤1048576) (hH:Has N S s0 (.aM w 2 (rs.map au)::.box k (.mem 0 false [cd,nd,zd,ed])::.deep ks cd 4 (code.map aB)::H)):
  ∃r ah,Ev pv 70 [.ptr k 0 0,.agg [.int .i64 op,.int .i64 x,.int .i64 y,w]] s0 r ah∧r=.int .i64 (code.length:Nat)∧∃TM MW,Has N S ah (.box k (.mem 0 false [TM,nd,zd,ed])::.deep MW TM 4 ((code++[cJ op x y rs]).map aB)::H):=by
 refine Ev.i7 rfl Rx rfl rfl rfl ?_;dsimp only[u3,u4,List.length,Nat.reduceSub,Nat.reduceAdd,w1,w2];change af _ _ _ _ s0 _;refine qq<|qj fun K hK=>qb hH fun k3 st Lb hH=>?_;refine qm ?_;refine qe hK<|qq<|qj fun K hK=>qm ?_;refine qm ?_;refine qg ?_;refine qp (o:=0) ?_;refine ql hH dp ?_;refine ab.aT (m:=4) hH rfl (ev rfl) (by exact ax) (by dsimp only[List.drop_succ_cons,List.drop_zero,List.take_succ_cons,List.take_zero,aB]<;>rfl) rfl rfl (ag rfl _) ?_;refine qh (s:=4) (vs:=[_]) hH fun k11 st Ld hH=>?_;obtain⟨hH,Gr⟩:=hH.pt (i:=2) (j:=4) (by decide) dp fT (dN _);dsimp only[u1,u2] at hH;refine ab.jj hH rfl (ev rfl) (ev rfl) fT (hH.rows ax) (.cons (.cons (.plain _ rfl) (.cons (.plain _ rfl) (.cons (.plain _ rfl) (.cons Gr .nil)))) .nil) rfl rfl rfl rfl rfl rfl rfl ⟨(Nat.le_of_ble_eq_true rfl),(Nat.le_of_ble_eq_true rfl)⟩ (fun _=>(ag rfl _)) (by simp only[List.length_map,List.length_cons,List.length_nil];omega) (.inl hF) (fun WX st hH=>?_);dsimp only[u1,u2] at hH;refine qg ?_;refine qp (o:=0) ?_;refine ab.jP hH rfl (ev rfl) (ev rfl) (by exact hH.mF (by exact fT)) (by exact rfl) (by exact ef) (by exact Nat.le_of_ble_eq_true rfl) (by exact .inl hF) (fun st hH=>?_);dsimp only[u2,u1,u3,u4,setMany,u5,u6,D.cells,Nat.reduceAdd,aB] at hH;refine qe hK<|qq<|qj fun K hK=>qm ?_;refine qg ?_;refine qp (o:=0) ?_;refine ql hH ef ?_;refine ab.zj hH rfl (ev rfl) (by exact fT) rfl (ag rfl _) ?_;simp only[List.length_map,List.length_append,List.length_cons,List.length_nil];refine ab.nv (z:=((code.length:Nat):Int)) rfl (ev rfl) (ev rfl) (by(try simp only[List.length_reverse,List.length_cons,List.length_nil,List.length_append,List.length_map,List.length_set]);rw[wrap_i64 (by omega) (by omega)]<;>omega) (ag rfl _) ?_;refine qm ?_;refine qe hK<|af.ret ⟨rx,_,_,_,rfl,rfl,?_⟩;exact⟨rfl,_,_,by rw[List.map_append];exact hH.drop 3⟩
theorem nY {N k:Nat} {S s0:St} {H:List bF} {ks:Nat→Prop} {cd nd zd ed:D} {code:List aL} {at_ over:Nat} {lz:Bool} {x y:Int} (gY:code[at_]?=some (cJ 2 x y [])) (hl:code.length≤1048576) (hH:Has N S s0 (.box k (.mem 0 false [cd,nd,zd,ed])::.deep ks cd 4 (code.map aB)::H)):
  ∃r ah,Ev pv 92 [.ptr k 0 0,.int .i64 (at_:Nat),.int .i64 (over:Nat),.bool lz] s0 r ah∧r=.tup []∧Has N S ah (.box k (.mem 0 false [cd,nd,zd,ed])::.deep ks cd 4 ((code.set at_ (l3 at_ over lz)).map aB)::H):=by
 have hlt:=bz gY;have gk:(code.map aB)[at_]?=some [.int .i64 2,.int .i64 x,.int .i64 y,.sl []]:=fM gY;have fG:∀a b:List D,(code.map aB).set at_ a=(code.map aB).set at_ a:=fun _ _=>rfl;refine Ev.i7 rfl Rh rfl rfl rfl ?_;dsimp only[u3,u4,List.length,Nat.reduceSub,Nat.reduceAdd,w1,w2];have cp:=hH;have hH:=hH.ct;have cn:(ai .rw s0).bs=s0.bs:=rfl;generalize ai .rw s0=S2 at*;refine qq<|qj fun K hK=>qm ?_;refine qg ?_;refine qp (o:=0) ?_;refine ql hH ax ?_;refine qm ?_;refine qm ?_;refine qg ?_;refine qp (o:=0) ?_;refine ql hH ax ?_;refine qm ?_;refine qm ?_;refine ab.jY (z:=((at_+1:Nat):Int)) rfl (ev rfl) (ev rfl) (by(try simp only[List.length_reverse,List.length_cons,List.length_nil,List.length_append,List.length_map,List.length_set]);rw[wrap_i64 (by omega) (by omega)]<;>omega) (ag rfl _) ?_;refine qm ?_;refine ab.BF (s:=4) hH rfl (ev rfl) (ev rfl) (by exact bC) rfl rfl (by exact bz (by assumption)) (fun _=>(ag rfl _)) (fun OD Ge=>?_);refine ab.fL (fo:=1) (m:=0) (o2:=1) rfl (ev rfl) (by assumption) rfl rfl rfl (fun _=>(ag rfl _)) (fun Ph KY=>?_);refine ab.o7 hH rfl (ev rfl) (ev rfl) (by assumption) rfl rfl (by exact bC) (by assumption) (Nat.le_of_ble_eq_true rfl) (by intro d hd;simp only[List.mem_cons,List.not_mem_nil,or_false] at hd;subst hd;rfl) (by exact .inr rfl) (fun st hH=>?_);dsimp only[u2,u1,u3,u4,setMany,u5,u6,D.cells,Nat.reduceAdd,aB] at hH;refine ab.BF (s:=4) hH rfl (ev rfl) (ev rfl) (by exact bC) rfl rfl (by simp only[List.length_map,List.length_set]<;>omega) (fun _=>(ag rfl _)) (fun Pf KW=>?_);refine ab.fL (fo:=2) (m:=0) (o2:=2) rfl (ev rfl) (by assumption) rfl rfl rfl (fun _=>(ag rfl _)) (fun LS y3=>?_);refine ab.o7 hH rfl (ev rfl) (ev rfl) (by assumption) rfl rfl (by exact bC) (List.getElem?_set_self (by simp only[List.length_set,List.length_map];omega)) (Nat.le_of_ble_eq_true rfl) (by intro d hd;simp only[List.mem_cons,List.not_mem_nil,or_false] at hd;subst hd;rfl) (by exact .inr rfl) (fun st hH=>?_);dsimp only[u1,u2,setMany] at hH;rw[List.set_set] at hH;refine qe hK<|qq<|qj fun K hK=>qm ?_;refine qe hK ?_
 cases lz with
 |false=>
  refine qC ?_;refine af.skip ?_;refine⟨fun i h=>(by cases h),_,_,_,rfl,aj rfl,?_⟩;exact⟨rfl,by rw[List.map_set];exact cp.ux cn hH⟩
 |true=>
  refine qB ?_;refine qj fun K hK=>qm ?_;refine qg ?_;refine qp (o:=0) ?_;refine ql hH ax ?_;refine qm ?_;refine qm ?_;refine qg ?_;refine qp (o:=0) ?_;refine ql hH ax ?_;refine qm ?_;refine qm ?_;refine qm ?_;refine ab.jY (z:=((at_+1:Nat):Int)) rfl (ev rfl) (ev rfl) (by(try simp only[List.length_reverse,List.length_cons,List.length_nil,List.length_append,List.length_map,List.length_set]);rw[wrap_i64 (by omega) (by omega)]<;>omega) (ag rfl _) ?_;refine ab.BF (s:=4) hH rfl (ev rfl) (ev rfl) (by exact bC) rfl rfl (by simp only[List.length_map,List.length_set]<;>omega) (fun _=>(ag rfl _)) (fun SU Nk=>?_);refine ab.fL (fo:=1) (m:=0) (o2:=1) rfl (ev rfl) (by assumption) rfl rfl rfl (fun _=>(ag rfl _)) (fun Ul Qe=>?_);refine ab.o7 hH rfl (ev rfl) (ev rfl) (by assumption) rfl rfl (by exact bC) (List.getElem?_set_self (by simp only[List.length_set,List.length_map];omega)) (Nat.le_of_ble_eq_true rfl) (by intro d hd;simp only[List.mem_cons,List.not_mem_nil,or_false] at hd;subst hd;rfl) (by exact .inr rfl) (fun st hH=>?_);dsimp only[u1,u2,setMany] at hH;rw[List.set_set] at hH;refine ab.BF (s:=4) hH rfl (ev rfl) (ev rfl) (by exact bC) rfl rfl (by simp only[List.length_map,List.length_set]<;>omega) (fun _=>(ag rfl _)) (fun Xh Vg=>?_);refine ab.fL (fo:=2) (m:=0) (o2:=2) rfl (ev rfl) (by assumption) rfl rfl rfl (fun _=>(ag rfl _)) (fun Xg Vf=>?_);refine ab.o7 hH rfl (ev rfl) (ev rfl) (by assumption) rfl rfl (by exact bC) (List.getElem?_set_self (by simp only[List.length_set,List.length_map];omega)) (Nat.le_of_ble_eq_true rfl) (by intro d hd;simp only[List.mem_cons,List.not_mem_nil,or_false] at hd;subst hd;rfl) (by exact .inr rfl) (fun st hH=>?_);dsimp only[u1,u2,setMany] at hH;rw[List.set_set] at hH;refine qe hK ?_;refine⟨fun i h=>(by cases h),_,_,_,rfl,aj rfl,?_⟩;exact⟨rfl,by rw[List.map_set];exact cp.ux cn hH⟩
def aq (fr:Go.V.Fr) (k:Nat):Go.V.D:=Go.V.nth .bu fr.loc k
def jH (n:Nat):List D:=[.int .i64 (n:Nat)]
theorem uf {l:List Nat} {i q:Nat} (h:l[i]?=some q):(l.map jH)[i]?=some (jH q):=by rw[List.getElem?_map,h];rfl
def L_ (N:Nat) (S st:St) (k:Nat) (nd zd ed:D) (Z E:List Int) (H:List bF) (code:List aL):Prop:=
 ∃cd ks,Has N S st (.box k (.mem 0 false [cd,nd,zd,ed])::.deep ks cd 4 (code.map aB)::.aM zd 1 (Z.map av)::.aM ed 1 (E.map av)::H)
def pw (l:List da) (t:Tr):Prop:=∀{N k:Nat} {S s0:St} {H:List bF} {nd zd ed:D} {code:List aL} {Z E:List Int} {at_:Nat},S.flr≤N→e_ nd 7 (l.map bd)→eS l at_ t.flat→eS Z at_ t.zs→eS E at_ (t.es at_)→t.ok→code.length+t.sz≤1000000→L_ N S s0 k nd zd ed Z E H code→
 ∃r ah,Ev pv 71 [.ptr k 0 0,.int .i64 (at_:Nat)] s0 r ah∧r=.tup []∧L_ N S ah k nd zd ed Z E H (code++aQ t code.length)
theorem xW {E:List Int} {t:Tr} {a:Nat} (h:eS E a (t.es a)):E[a]?=some ((a+t.flat.length:Nat):Int):=by
 obtain⟨n,ks⟩:=t;simp only[Tr.es] at h;rw[h.head];simp only[Tr.flat,List.length_cons]
 congr 2;omega
theorem w_ {Z:List Int} {t:Tr} {a:Nat} (h:eS Z a t.zs):Z[a]?=some ((min t.sz 401:Nat):Int):=by
 obtain⟨n,ks⟩:=t;simp only[Tr.zs] at h;rw[h.head];rfl
theorem LH {l:List da} (vt:l.length≤1048576) {m:Nat} (ih:∀t:Tr,t.flat.length≤m→pw l t) {n:da} {ks:bA} (fe:n.op=4) (Tm:ks.flat.length≤m) (kP:ud n ks.len) (kX:ks.ok) {N k:Nat} {S s0:St} {H:List bF} {nd zd ed:D} {code:List aL} {Z E:List Int} {at_:Nat} (hF:S.flr≤N) (wu:e_ nd 7 (l.map bd)) (gQ:eS l at_ (n::ks.flat)) (hsz:eS Z (at_+1) ks.zs) (th:eS E (at_+1) (ks.es (at_+1))) (hb:code.length+bH n ks.sz ks.len≤1000000) (hM:L_ N S s0 k nd zd ed Z E H code):
  ∃r ah,Ev pv 81 [.ptr k 0 0,.int .i64 (at_:Nat)] s0 r ah∧r=.tup []∧L_ N S ah k nd zd ed Z E H (code++dX (ly (code.length+bH n ks.sz ks.len)) ks code.length):=by
 obtain⟨cd,dk,hH⟩:=hM;have hle:=gQ.le (by simp);simp only[List.length_cons] at hle;have hn:=gQ.head;have gQ:=gQ.tail;have gk:=kf hn;have L4:=kP.1;have gF:=bA.jM ks
 have hk2:2≤ks.len:=by
  obtain⟨_,hq⟩:=kP;omega
 have Gh:bH n ks.sz ks.len=ks.sz+2*(ks.len-1):=by unfold bH;rw[if_neg (by omega),if_pos fe]
 rw[Gh] at hb⊢;clear Gh;refine Ev.i7 rfl Ro rfl rfl rfl ?_;dsimp only[u3,u4,List.length,Nat.reduceSub,Nat.reduceAdd,w1,w2];change af _ _ _ _ s0 _;have hc:=wu.arg N S;refine qq<|qj fun K hK=>qm ?_;refine qe hK<|qq<|qj fun K hK=>qm ?_;refine qA ?_;refine qm ?_;refine qe hK<|qq<|qq<|qj fun K hK=>qm ?_;refine qg ?_;refine qp (o:=1) ?_;refine ql hH ax ?_;refine qm ?_;refine qr fun Uq Qj=>?_;refine qf (fo:=6) fun Pj KZ=>?_;refine qR ?_;refine qm ?_;refine qe hK ?_;have hH:Has N S s0 (.box k (.mem 0 false [cd,nd,zd,ed])::.deep dk cd 4 (code.map aB)::.aM zd 1 (Z.map av)::.aM ed 1 (E.map av)::.aM .nul 1 (([]:List Nat).map jH)::H):=(hH.dP 1).FB;refine af.block<|af.loop (fun mm fr st=>∃(i j:Nat) (rest:bA) (cd jd:D) (dk:Nat→Prop) (aW:List aL) (js:List Nat),fr.clean=⟨68,[.ptr k 0 0,.int .i64 (at_:Nat),aq fr 2,aq fr 3,jd,.int .i64 (j:Nat),aq fr 6,aq fr 7,aq fr 8,aq fr 9,aq fr 10,aq fr 11,aq fr 12,aq fr 13,aq fr 14,aq fr 15,aq fr 16,aq fr 17,aq fr 18,.int .i64 n.kids,.int .i64 (i:Nat),aq fr 21,aq fr 22,aq fr 23,aq fr 24,aq fr 25,aq fr 26,aq fr 27,aq fr 28,aq fr 29,aq fr 30,aq fr 31,aq fr 32,aq fr 33,aq fr 34,aq fr 35,aq fr 36,aq fr 37,aq fr 38,aq fr 39,aq fr 40,aq fr 41,aq fr 42,aq fr 43,aq fr 44,aq fr 45,aq fr 46,aq fr 47,aq fr 48,aq fr 49,aq fr 50,aq fr 51,aq fr 52,aq fr 53,aq fr 54,aq fr 55,aq fr 56,aq fr 57,aq fr 58,aq fr 59,aq fr 60,aq fr 61,aq fr 62,aq fr 63,aq fr 64,aq fr 65,aq fr 66,aq fr 67],[]⟩∧Has N S st (.box k (.mem 0 false [cd,nd,zd,ed])::.deep dk cd 4 (aW.map aB)::.aM zd 1 (Z.map av)::.aM ed 1 (E.map av)::.aM jd 1 (js.map jH)::H)∧(mm=rest.len)∧(i+rest.len=ks.len)∧(0<rest.len)∧(eS l j rest.flat)∧(eS Z j rest.zs)∧(eS E j (rest.es j))∧(rest.ok)∧(aW++dX (ly 0) rest aW.length=code++dX (ly 0) ks code.length)∧(js++po rest aW.length=po ks code.length)∧(aW.length+(rest.sz+2*(rest.len-1))=code.length+(ks.sz+2*(ks.len-1)))∧(rest.flat.length≤m)∧(js.length≤i)) (ks.len) ?_ ?_
 ·exact⟨0,at_+1,ks,cd,.nul,dk,code,[],rfl,hH,rfl,by omega,by omega,gQ,hsz,th,kX,rfl,rfl,rfl,Tm,by simp⟩
 rintro mm fr st ⟨i,j,rest,cd,jd,dk,aW,js,hfr,hH,wv,y5,OL,nA,uB,nz,jq,gG,hjs,hcl,KP,iR⟩;rw[hfr];clear hfr;generalize aq fr=ee;clear fr;refine qq<|qj fun K hK=>qg ?_;refine qe hK ?_
 cases rest with
 |nil=>simp[bA.len] at OL
 |cons t ts=>
  simp only[bA.len] at y5 wv hcl;simp only[bA.sz] at hcl;simp only[bA.flat,List.length_append] at nA KP;simp only[bA.zs] at uB;simp only[bA.es] at nz;simp only[bA.ok] at jq;have KF:=t.hY;have M7:=t.il j;have yX:=ck t (aW.length+1) jq.1;have PW:=dW (xW nz.left);have gS:decide ((i:Int)<n.kids)=true:=by rw[decide_eq_true_eq];omega
  refine qq<|qD rfl (by rw[gS]) ?_;refine af.skip<|qq<|af.block<|qq<|qj fun K hK=>qm ?_;refine qm ?_;refine qe hK<|qq<|qq<|qj fun K hK=>qm ?_;refine qm ?_;refine qg ?_;refine qp (o:=1) ?_;refine ql hH ax ?_;refine qm ?_;refine qr fun Um Qf=>?_;refine qf (fo:=6) fun SZ Nr=>?_;refine qR ?_;refine ab.nv (z:=((ks.len-1:Nat):Int)) rfl (ev rfl) (ev rfl) (by(try simp only[List.length_reverse,List.length_cons,List.length_nil,List.length_append,List.length_map,List.length_set]);rw[wrap_i64 (by omega) (by omega)]<;>omega) (by dsimp only[Fr.put,u1,u2]<;>rfl) ?_;refine qg ?_;refine qe hK ?_
  by_cases xM:ts.len=0
  ·simp only[dX,po,if_pos xM,List.append_nil] at gG hjs;have UH:=bA.len_nil xM;subst UH;simp only[bA.sz,bA.len] at hcl y5;have Lk:(((i:Nat):Int)==((ks.len-1:Nat):Int))=true:=by rw[beq_iff_eq];omega
   refine qD rfl (by rw[Lk]) ?_;refine qq<|qj fun K hK=>qm ?_;refine qm ?_;obtain⟨_,st,aI,rfl,cd,dk,hH⟩:=ih t (by omega) hF wu nA.left uB.left nz.left jq.1 (by omega) ⟨cd,dk,hH⟩;refine qv aI ?_;refine qe hK<|af.exit<|qq<|qj fun K hK=>qm ?_;refine qn ?_ (hR:=hH.rows fT);simp only[List.length_map];refine qm ?_;refine qe hK ?_;rw[gG] at hH;have hal:=pk (ly 0) ks code.length kX;obtain⟨Cc,G4⟩:=mM (jp:=ly (code.length+(ks.sz+2*(ks.len-1)))) (i0:=ly 0) ks code.length code [] kX rfl;simp only[List.append_nil] at Cc G4;have Q7:(code++dX (ly 0) ks code.length).length=code.length+(ks.sz+2*(ks.len-1)):=by rw[List.length_append,hal]
   rw[←hjs] at Cc G4;rw[←Cc];clear Cc gG;generalize code++dX (ly 0) ks code.length=C0 at*;generalize code.length+(ks.sz+2*(ks.len-1))=e at*;refine af.block<|af.loop (fun mm fr st=>∃(q:Nat) (C:List aL),fr.clean=⟨68,[.ptr k 0 0,aq fr 1,aq fr 2,aq fr 3,aq fr 4,aq fr 5,aq fr 6,aq fr 7,aq fr 8,aq fr 9,aq fr 10,aq fr 11,aq fr 12,aq fr 13,aq fr 14,aq fr 15,aq fr 16,aq fr 17,aq fr 18,aq fr 19,aq fr 20,aq fr 21,aq fr 22,aq fr 23,aq fr 24,aq fr 25,aq fr 26,aq fr 27,aq fr 28,aq fr 29,aq fr 30,aq fr 31,aq fr 32,aq fr 33,aq fr 34,aq fr 35,aq fr 36,aq fr 37,aq fr 38,aq fr 39,aq fr 40,aq fr 41,aq fr 42,aq fr 43,aq fr 44,aq fr 45,aq fr 46,aq fr 47,aq fr 48,aq fr 49,aq fr 50,aq fr 51,aq fr 52,aq fr 53,aq fr 54,aq fr 55,aq fr 56,aq fr 57,aq fr 58,aq fr 59,aq fr 60,aq fr 61,aq fr 62,aq fr 63,aq fr 64,jd,.int .i64 (js.length:Nat),.int .i64 (q:Nat)],[]⟩∧Has N S st (.box k (.mem 0 false [cd,nd,zd,ed])::.deep dk cd 4 (C.map aB)::.aM zd 1 (Z.map av)::.aM ed 1 (E.map av)::.aM jd 1 (js.map jH)::H)∧(q+mm=js.length)∧(gx (fun _=>ly e) C (js.drop q)=gx (fun _=>ly e) C0 js)∧(∀p∈js,∃v:Int,C[p]?=some (cJ 3 v 0 []))∧(C.length=e)) (js.length) ?_ ?_
   ·exact⟨0,C0,rfl,hH,by omega,rfl,fun p hp=>⟨_,G4 p hp⟩,Q7⟩
   rintro mm fr st ⟨q,C,hfr,hH,hq,f_,lE,L8⟩;rw[hfr];clear hfr;generalize aq fr=ee;clear fr;refine qq<|qj fun K hK=>qg ?_;refine qe hK<|qq ?_;refine af.cond (by rfl) (fun hlt=>?_) (fun hlt=>?_)<;>try simp only[decide_eq_true_eq,decide_eq_false_iff_not] at hlt
   ·refine af.skip ?_;have G2:q<js.length:=by omega
    obtain⟨p,hp⟩:∃p,js[q]?=some p:=⟨js[q]'G2,List.getElem?_eq_getElem _⟩
    obtain⟨v,hv⟩:=lE p (List.mem_of_getElem? hp);have gk:=uf hp;have oQ:=fM hv;have ij:=bz hv;refine qq<|af.block<|qq<|qj fun K hK=>qi hH fT fun Ud P7=>?_;refine qo hH fT ?_;refine qm ?_;refine qe hK<|qj fun K hK=>qm ?_;refine qg ?_;refine qp (o:=0) ?_;refine ql hH ax ?_;refine qm ?_;refine qm ?_;refine qg ?_;refine qp (o:=0) ?_;refine ql hH ax ?_;refine ab.zj hH rfl (ev rfl) (by exact bC) rfl (ag rfl _) ?_;simp only[List.length_map];refine ab.BF (s:=4) hH rfl (ev rfl) (ev rfl) (by exact bC) rfl rfl (by exact bz (by assumption)) (fun _=>(ag rfl _)) (fun T_ P3=>?_);refine ab.fL (fo:=1) (m:=0) (o2:=1) rfl (ev rfl) (by assumption) rfl rfl rfl (fun _=>(ag rfl _)) (fun W5 U5=>?_);refine ab.o7 hH rfl (ev rfl) (ev rfl) (by assumption) rfl rfl (by exact bC) (by assumption) (Nat.le_of_ble_eq_true rfl) (by intro d hd;simp only[List.mem_cons,List.not_mem_nil,or_false] at hd;subst hd;rfl) (by exact .inl hF) (fun st hH=>?_);dsimp only[u2,u1,u3,u4,setMany,u5,u6,D.cells,Nat.reduceAdd,aB,bd,av,jH] at hH;refine qe hK<|qj fun K hK=>qA ?_;refine qm ?_;refine qe hK ?_
    have wA:js.drop q=p::js.drop (q+1):=by
     rw[List.drop_eq_getElem_cons G2]
     congr 1
     exact Option.some.inj ((List.getElem?_eq_getElem _).symm.trans hp)
    refine⟨mm-1,by omega,⟨q+1,C.set p (ly e),rfl,(by rw[List.map_set,←L8];exact hH),by omega,by rw[wA] at f_;exact f_,?_,by rw[List.length_set];exact L8⟩⟩;intro p' sJ
    by_cases hpp:p'=p
    ·subst hpp;exact⟨_,List.getElem?_set_self ij⟩
    ·rw[List.getElem?_set_ne (fun e=>hpp e.symm)];exact lE p' sJ
   ·refine af.exit ?_;refine⟨fun i h=>(by cases h),_,_,_,rfl,rfl,?_⟩;have Gc:q=js.length:=by omega
    rw[Gc,List.drop_length] at f_;have f_:C=gx (fun _=>ly e) C0 js:=f_;rw[←f_];exact⟨rfl,cd,dk,hH.erase 4⟩
  ·simp only[dX,po,if_neg xM] at gG hjs;have Lk:(((i:Nat):Int)==((ks.len-1:Nat):Int))=false:=by rw[beq_eq_false_iff_ne];omega
   refine qE rfl (by rw[Lk]) ?_;refine af.skip<|qq<|qj fun K hK=>qm ?_;refine ab.go (d:=.agg [.int .i64 2,.int .i64 0,.int .i64 0,.nul]) (st1:=_) rfl rfl rfl (by dsimp only[Fr.put,u1,u2]<;>rfl) ?_;have hH:=hH.dP 2;obtain⟨_,st,aI,rfl,cd,dk,hH⟩:=fI (rs:=[]) hF (by omega) hH;refine qv aI ?_;refine qm ?_;refine qe hK ?_;have lD:(aW++[cJ 2 0 0 []]).length=aW.length+1:=by simp
   refine qq<|qj fun K hK=>qm ?_;refine qm ?_;obtain⟨_,st,aI,rfl,cd,dk,hH⟩:=ih t (by omega) hF wu nA.left uB.left nz.left jq.1 (by omega) ⟨cd,dk,hH⟩;refine qv aI ?_;refine qe hK ?_;rw[lD] at hH;have mD:(aW++[cJ 2 0 0 []]++aQ t (aW.length+1)).length=aW.length+1+t.sz:=by rw[List.length_append,lD,yX]
   refine qq<|qj fun K hK=>qm ?_;refine qm ?_;refine ab.go (d:=.agg [.int .i64 3,.int .i64 0,.int .i64 0,.nul]) (st1:=_) rfl rfl rfl (by dsimp only[Fr.put,u1,u2]<;>rfl) ?_;have hH:=hH.dP 2;obtain⟨_,st,aI,rfl,cd,dk,hH⟩:=fI (rs:=[]) hF (by omega) hH;refine qv aI ?_;refine qh (s:=1) (vs:=[_]) hH fun k47 st VN hH=>?_;refine qP hH pC (hH.rows ax) fun O0 st hH=>?_;dsimp only[u2,u1,u3,u4,setMany,u5,u6,D.cells,Nat.reduceAdd,aB,bd,av,jH] at hH;refine qm ?_;refine qe hK ?_;have hH:=hH.drop 1
   have Lo:(aW++[cJ 2 0 0 []]++aQ t (aW.length+1)++[cJ 3 0 0 []])[aW.length]?=some (cJ 2 0 0 []):=by
    rw[List.append_assoc,List.append_assoc];exact nS _ _ _
   have Bn:(aW++[cJ 2 0 0 []]++aQ t (aW.length+1)++[cJ 3 0 0 []]).length=aW.length+1+t.sz+1:=by rw[List.length_append,mD];rfl
   have F8:(aW++[cJ 2 0 0 []]++aQ t (aW.length+1)++[cJ 3 0 0 []]).set aW.length (l3 aW.length (aW.length+1+t.sz+1) false)=aW++(l3 aW.length (aW.length+1+t.sz+1) false::(aQ t (aW.length+1)++[ly 0])):=by
    rw[List.append_assoc,List.append_assoc];exact nK _ _ _ _
   have Lj:(aW++(l3 aW.length (aW.length+1+t.sz+1) false::(aQ t (aW.length+1)++[ly 0]))).length=aW.length+t.sz+2:=by rw[←F8,List.length_set,Bn];omega
   generalize aW++[cJ 2 0 0 []]++aQ t (aW.length+1)++[cJ 3 0 0 []]=BH at*;refine qq<|qj fun K hK=>qm ?_;refine qm ?_;refine qm ?_;refine qg ?_;refine qp (o:=0) ?_;refine ql hH ax ?_;refine ab.zj hH rfl (ev rfl) (by exact bC) rfl (by dsimp only[Fr.put,u1,u2]<;>rfl) ?_;simp only[List.length_map,List.length_append,List.length_cons,List.length_nil];obtain⟨_,st,aI,rfl,hH⟩:=nY (at_:=aW.length) (over:=BH.length) (lz:=false) Lo (by omega) hH;refine qv aI ?_;refine qe hK ?_;rw[Bn,F8] at hH;refine qj fun K hK=>qm ?_;refine qg ?_;refine qp (o:=3) ?_;refine ql hH ax ?_;refine qm ?_;refine qi hH ef fun Uf P9=>?_;refine qo hH ef ?_;refine qm ?_;refine qe hK<|qj fun K hK=>qA ?_;refine qm ?_;refine qe hK ?_;exact⟨mm-1,by omega,⟨i+1,j+t.flat.length,ts,cd,O0,dk,aW++(l3 aW.length (aW.length+1+t.sz+1) false::(aQ t (aW.length+1)++[ly 0])),js++[aW.length+1+t.sz],rfl,(by rw[List.map_append (f:=jH)];rw[mD] at hH;exact hH),by omega,by omega,by omega,nA.right,by rw[←KF];exact uB.right,by rw[←M7];rw[←M7] at nz;exact nz.right,jq.2,by rw[Lj,←gG];simp only[List.append_assoc,List.cons_append,List.nil_append],by rw[Lj,←hjs];simp only[List.append_assoc,List.cons_append,List.nil_append],by rw[Lj];omega,by omega,by rw[List.length_append];simp only[List.length_cons,List.length_nil];omega⟩⟩
end Go.Proofs.YtbdilgkfnacahaaGreat
