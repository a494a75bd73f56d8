/-
 Are nodes a pattern? syntax.Right, walked.
-/
import Derived.Test.YtbdnabmmlbiomaaXGPi
import Derived.Test.YtbdnabmmlbiomaaXGKa
import Derived.Test.YtbdnabmmlbiomaaXGQa
set_option maxRecDepth 100000
set_option maxHeartbeats 4000000
set_option linter.unusedSimpArgs false
set_option linter.unusedVariables false
namespace Go.Proofs.Ytbdnabmmlbiomaa
open Go.V Go
def mH (fr:Go.V.Fr) (k:Nat):Go.V.D:=Go.V.nth .bw fr.loc k
theorem AK {s0:St} {n:dr} (hn:n.ok):Ev pv 79 [.agg (a8 n)] s0 (.bool (sC n)) s0:=by
 refine Ev.pW rfl Rl rfl rfl rfl ?_;dsimp only[u3,u4,List.length,Nat.reduceSub,Nat.reduceAdd,w1,w2];obtain⟨cM,hF,hH⟩:=ri s0;generalize ak .ro s0=S at*;have zh:=hn.1.arg s0.bs.length S;have rC:=hn.2.1;refine qq<|qj fun K hK=>qb hH fun k1 st o9 hH=>?_;dsimp only[u2,u1,u3,u4,setMany,u5,u6,D.cells,Nat.reduceAdd,a8] at hH;refine qm ?_;refine qe hK<|qq<|qj fun K hK=>qp (o:=0) ?_;refine ql hH aB ?_;refine qg ?_;refine qm ?_;refine qe hK<|qq<|af.ln 2 (.bool (((n.op==2)||((n.rs.length:Nat):Int)==0) &&((n.op==5)||((n.mn==0) &&(n.mx==0) &&!n.lz)) &&((n.op==6)||(n.cap==0)))) [] ?_ (fun ff tmp=>?_)
 ·refine qp (o:=0) ?_;refine ql hH aB ?_;refine qg ?_;refine qm ?_;refine ab.two 10 rfl (fun bD=>?_) (fun bD=>?_)
  ·refine qs ?_ (hg:=wn bD);refine qs ?_ (hg:=wn bD);refine qs ?_ (hg:=wn bD);refine qs ?_ (hg:=wn bD);refine qt bD ?_;refine qm ?_;refine qm ?_;refine qm ?_;refine ab.two 18 rfl (fun bC=>?_) (fun bC=>?_)
   ·refine qs ?_ (hg:=wn bC);refine qs ?_ (hg:=wn bC);refine qs ?_ (hg:=wn bC);refine qs ?_ (hg:=wn bC);refine qs ?_;refine qs ?_;refine qs ?_;refine qs ?_ (hg:=wn bC);refine qs ?_ (hg:=wn bC);refine qs ?_;refine qs ?_;refine qs ?_;refine qs ?_ (hg:=wn bC);refine qt bC ?_;refine qg ?_;refine qm ?_;refine qp (o:=0) ?_;refine ql hH aB ?_;refine qg ?_;refine qm ?_;refine ab.two 38 rfl (fun cP=>?_) (fun cP=>?_)
    ·refine qs ?_ (hg:=wn cP);refine qs ?_ (hg:=wn cP);refine qs ?_ (hg:=wn cP);refine qt cP ?_;refine qg ?_;refine qm ?_;refine ab.nil (aY ?_);dsimp only[aM,List.foldl,nth,u2,u1];dsimp only[Fr.aF,Fr.put,Fr.clean,Fr.ev,Fr.get,nth,V.look,u1,u2,v1,v2,v3,v4,v5,v6,v7,List.length,u3,u4,Nat.reduceSub,Nat.reduceAdd,List.map]
     all_goals(simp[bD,bC,cP];done)
    ·refine qp (o:=5) ?_ (hg:=wi cP);refine ql hH aB ?_ (hg:=wi cP);refine qg ?_ (hg:=wi cP);refine qu cP ?_;refine qg ?_;refine qm ?_;refine ab.nil (aY ?_);dsimp only[aM,List.foldl,nth,u2,u1];dsimp only[Fr.aF,Fr.put,Fr.clean,Fr.ev,Fr.get,nth,V.look,u1,u2,v1,v2,v3,v4,v5,v6,v7,List.length,u3,u4,Nat.reduceSub,Nat.reduceAdd,List.map]
     all_goals(simp[bD,bC,cP];done)
   ·refine qp (o:=2) ?_ (hg:=wi bC);refine ql hH aB ?_ (hg:=wi bC);refine qg ?_ (hg:=wi bC);refine qm ?_ (hg:=wi bC);refine ab.two 22 rfl (fun fm=>?_) (fun fm=>?_)
    ·refine qp (o:=3) ?_ (hg:=wi fm);refine ql hH aB ?_ (hg:=wi fm);refine qg ?_ (hg:=wi fm);refine ab.dI (aD rfl rfl rfl bC) rfl fm (ae rfl _) ?_;refine qm ?_ (hg:=wi bC);refine ab.two 27 rfl (fun fQ=>?_) (fun fQ=>?_)
     ·refine qp (o:=4) ?_ (hg:=wi fQ);refine ql hH aB ?_ (hg:=wi fQ);refine qg ?_ (hg:=wi fQ);refine ab.dI (aD rfl rfl rfl bC) rfl fQ (ae rfl _) ?_;refine qu bC ?_;refine qg ?_;refine qm ?_;refine ab.two 34 rfl (fun dE=>?_) (fun dE=>?_)
      ·refine qp (o:=0) ?_ (hg:=wi dE);refine ql hH aB ?_ (hg:=wi dE);refine qg ?_ (hg:=wi dE);refine qm ?_ (hg:=wi dE);refine ab.two 38 rfl (fun cP=>?_) (fun cP=>?_)
       ·refine qs ?_ (hg:=wn cP);refine qs ?_ (hg:=wn cP);refine qs ?_ (hg:=wn cP);refine ab.dI (aD rfl rfl rfl dE) rfl cP (ae rfl _) ?_;refine qt dE ?_;refine qm ?_;refine ab.nil (aY ?_);dsimp only[aM,List.foldl,nth,u2,u1];dsimp only[Fr.aF,Fr.put,Fr.clean,Fr.ev,Fr.get,nth,V.look,u1,u2,v1,v2,v3,v4,v5,v6,v7,List.length,u3,u4,Nat.reduceSub,Nat.reduceAdd,List.map]
        all_goals(simp[bD,bC,fm,fQ,dE,cP];done)
       ·refine qp (o:=5) ?_ (hg:=wi cP);refine ql hH aB ?_ (hg:=wi cP);refine qg ?_ (hg:=wi cP);refine ab.da (aD rfl rfl rfl dE) rfl cP (ae rfl _) ?_;refine qt dE ?_;refine qm ?_;refine ab.nil (aY ?_);dsimp only[aM,List.foldl,nth,u2,u1];dsimp only[Fr.aF,Fr.put,Fr.clean,Fr.ev,Fr.get,nth,V.look,u1,u2,v1,v2,v3,v4,v5,v6,v7,List.length,u3,u4,Nat.reduceSub,Nat.reduceAdd,List.map]
        all_goals(simp[bD,bC,fm,fQ,dE,cP];done)
      ·refine qs ?_ (hg:=wn dE);refine qs ?_ (hg:=wn dE);refine qs ?_ (hg:=wn dE);refine qs ?_ (hg:=wn dE);refine qs ?_;refine qs ?_;refine qs ?_;refine qs ?_ (hg:=wn dE);refine qu dE ?_;refine qm ?_;refine ab.nil (aY ?_);dsimp only[aM,List.foldl,nth,u2,u1];dsimp only[Fr.aF,Fr.put,Fr.clean,Fr.ev,Fr.get,nth,V.look,u1,u2,v1,v2,v3,v4,v5,v6,v7,List.length,u3,u4,Nat.reduceSub,Nat.reduceAdd,List.map]
       all_goals(simp[bD,bC,fm,fQ,dE];done)
     ·refine qs ?_ (hg:=wn fQ);refine qs ?_ (hg:=wn fQ);refine qs ?_ (hg:=wn fQ);refine ab.da (aD rfl rfl rfl bC) rfl fQ (ae rfl _) ?_;refine qu bC ?_;refine qg ?_;refine qm ?_;refine qs ?_;refine qs ?_;refine qs ?_;refine qs ?_;refine qs ?_;refine qs ?_;refine qs ?_;refine qs ?_;refine qg ?_;refine qm ?_;refine ab.nil (aY ?_);dsimp only[aM,List.foldl,nth,u2,u1];dsimp only[Fr.aF,Fr.put,Fr.clean,Fr.ev,Fr.get,nth,V.look,u1,u2,v1,v2,v3,v4,v5,v6,v7,List.length,u3,u4,Nat.reduceSub,Nat.reduceAdd,List.map]
      all_goals(simp[bD,bC,fm,fQ];done)
    ·refine qs ?_ (hg:=wn fm);refine qs ?_ (hg:=wn fm);refine qs ?_ (hg:=wn fm);refine ab.da (aD rfl rfl rfl bC) rfl fm (ae rfl _) ?_;refine qm ?_ (hg:=wi bC);refine qs ?_;refine qs ?_;refine qs ?_;refine qg ?_ (hg:=wi bC);refine qu bC ?_;refine qg ?_;refine qm ?_;refine qs ?_;refine qs ?_;refine qs ?_;refine qs ?_;refine qs ?_;refine qs ?_;refine qs ?_;refine qs ?_;refine qg ?_;refine qm ?_;refine ab.nil (aY ?_);dsimp only[aM,List.foldl,nth,u2,u1];dsimp only[Fr.aF,Fr.put,Fr.clean,Fr.ev,Fr.get,nth,V.look,u1,u2,v1,v2,v3,v4,v5,v6,v7,List.length,u3,u4,Nat.reduceSub,Nat.reduceAdd,List.map]
     all_goals(simp[bD,bC,fm];done)
  ·refine qp (o:=1) ?_ (hg:=wi bD);refine ql hH aB ?_ (hg:=wi bD);refine qn ?_ (hg:=wi bD);simp only[List.length_map];refine qg ?_ (hg:=wi bD);refine qu bD ?_;refine qm ?_;refine ab.two 16 rfl (fun b8=>?_) (fun b8=>?_)
   ·refine qm ?_ (hg:=wi b8);refine qm ?_ (hg:=wi b8);refine ab.two 18 rfl (fun bC=>?_) (fun bC=>?_)
    ·refine qs ?_ (hg:=wn bC);refine qs ?_ (hg:=wn bC);refine qs ?_ (hg:=wn bC);refine qs ?_ (hg:=wn bC);refine qs ?_;refine qs ?_;refine qs ?_;refine qs ?_ (hg:=wn bC);refine qs ?_ (hg:=wn bC);refine qs ?_;refine qs ?_;refine qs ?_;refine qs ?_ (hg:=wn bC);refine ab.dI (aD rfl rfl rfl b8) rfl bC (ae rfl _) ?_;refine qt b8 ?_;refine qm ?_;refine qp (o:=0) ?_;refine ql hH aB ?_;refine qg ?_;refine qm ?_;refine ab.two 38 rfl (fun cP=>?_) (fun cP=>?_)
     ·refine qs ?_ (hg:=wn cP);refine qs ?_ (hg:=wn cP);refine qs ?_ (hg:=wn cP);refine qt cP ?_;refine qg ?_;refine qm ?_;refine ab.nil (aY ?_);dsimp only[aM,List.foldl,nth,u2,u1];dsimp only[Fr.aF,Fr.put,Fr.clean,Fr.ev,Fr.get,nth,V.look,u1,u2,v1,v2,v3,v4,v5,v6,v7,List.length,u3,u4,Nat.reduceSub,Nat.reduceAdd,List.map]
      all_goals(simp[bD,b8,bC,cP];done)
     ·refine qp (o:=5) ?_ (hg:=wi cP);refine ql hH aB ?_ (hg:=wi cP);refine qg ?_ (hg:=wi cP);refine qu cP ?_;refine qg ?_;refine qm ?_;refine ab.nil (aY ?_);dsimp only[aM,List.foldl,nth,u2,u1];dsimp only[Fr.aF,Fr.put,Fr.clean,Fr.ev,Fr.get,nth,V.look,u1,u2,v1,v2,v3,v4,v5,v6,v7,List.length,u3,u4,Nat.reduceSub,Nat.reduceAdd,List.map]
      all_goals(simp[bD,b8,bC,cP];done)
    ·refine qp (o:=2) ?_ (hg:=wi bC);refine ql hH aB ?_ (hg:=wi bC);refine qg ?_ (hg:=wi bC);refine qm ?_ (hg:=wi bC);refine ab.two 22 rfl (fun fm=>?_) (fun fm=>?_)
     ·refine qp (o:=3) ?_ (hg:=wi fm);refine ql hH aB ?_ (hg:=wi fm);refine qg ?_ (hg:=wi fm);refine ab.dI (aD rfl rfl rfl bC) rfl fm (ae rfl _) ?_;refine qm ?_ (hg:=wi bC);refine ab.two 27 rfl (fun fQ=>?_) (fun fQ=>?_)
      ·refine qp (o:=4) ?_ (hg:=wi fQ);refine ql hH aB ?_ (hg:=wi fQ);refine qg ?_ (hg:=wi fQ);refine ab.dI (aD rfl rfl rfl bC) rfl fQ (ae rfl _) ?_;refine ab.da (aD rfl rfl rfl b8) rfl bC (ae rfl _) ?_;refine qt b8 ?_;refine qm ?_;refine ab.two 34 rfl (fun dE=>?_) (fun dE=>?_)
       ·refine qp (o:=0) ?_ (hg:=wi dE);refine ql hH aB ?_ (hg:=wi dE);refine qg ?_ (hg:=wi dE);refine qm ?_ (hg:=wi dE);refine ab.two 38 rfl (fun cP=>?_) (fun cP=>?_)
        ·refine qs ?_ (hg:=wn cP);refine qs ?_ (hg:=wn cP);refine qs ?_ (hg:=wn cP);refine ab.dI (aD rfl rfl rfl dE) rfl cP (ae rfl _) ?_;refine qt dE ?_;refine qm ?_;refine ab.nil (aY ?_);dsimp only[aM,List.foldl,nth,u2,u1];dsimp only[Fr.aF,Fr.put,Fr.clean,Fr.ev,Fr.get,nth,V.look,u1,u2,v1,v2,v3,v4,v5,v6,v7,List.length,u3,u4,Nat.reduceSub,Nat.reduceAdd,List.map]
         all_goals(simp[bD,b8,bC,fm,fQ,dE,cP];done)
        ·refine qp (o:=5) ?_ (hg:=wi cP);refine ql hH aB ?_ (hg:=wi cP);refine qg ?_ (hg:=wi cP);refine ab.da (aD rfl rfl rfl dE) rfl cP (ae rfl _) ?_;refine qt dE ?_;refine qm ?_;refine ab.nil (aY ?_);dsimp only[aM,List.foldl,nth,u2,u1];dsimp only[Fr.aF,Fr.put,Fr.clean,Fr.ev,Fr.get,nth,V.look,u1,u2,v1,v2,v3,v4,v5,v6,v7,List.length,u3,u4,Nat.reduceSub,Nat.reduceAdd,List.map]
         all_goals(simp[bD,b8,bC,fm,fQ,dE,cP];done)
       ·refine qs ?_ (hg:=wn dE);refine qs ?_ (hg:=wn dE);refine qs ?_ (hg:=wn dE);refine qs ?_ (hg:=wn dE);refine qs ?_;refine qs ?_;refine qs ?_;refine qs ?_ (hg:=wn dE);refine qu dE ?_;refine qm ?_;refine ab.nil (aY ?_);dsimp only[aM,List.foldl,nth,u2,u1];dsimp only[Fr.aF,Fr.put,Fr.clean,Fr.ev,Fr.get,nth,V.look,u1,u2,v1,v2,v3,v4,v5,v6,v7,List.length,u3,u4,Nat.reduceSub,Nat.reduceAdd,List.map]
        all_goals(simp[bD,b8,bC,fm,fQ,dE];done)
      ·refine qs ?_ (hg:=wn fQ);refine qs ?_ (hg:=wn fQ);refine qs ?_ (hg:=wn fQ);refine ab.da (aD rfl rfl rfl bC) rfl fQ (ae rfl _) ?_;refine ab.da (aD rfl rfl rfl b8) rfl bC (ae rfl _) ?_;refine qt b8 ?_;refine qm ?_;refine qs ?_;refine qs ?_;refine qs ?_;refine qs ?_;refine qs ?_;refine qs ?_;refine qs ?_;refine qs ?_;refine qg ?_;refine qm ?_;refine ab.nil (aY ?_);dsimp only[aM,List.foldl,nth,u2,u1];dsimp only[Fr.aF,Fr.put,Fr.clean,Fr.ev,Fr.get,nth,V.look,u1,u2,v1,v2,v3,v4,v5,v6,v7,List.length,u3,u4,Nat.reduceSub,Nat.reduceAdd,List.map]
       all_goals(simp[bD,b8,bC,fm,fQ];done)
     ·refine qs ?_ (hg:=wn fm);refine qs ?_ (hg:=wn fm);refine qs ?_ (hg:=wn fm);refine ab.da (aD rfl rfl rfl bC) rfl fm (ae rfl _) ?_;refine qm ?_ (hg:=wi bC);refine qs ?_;refine qs ?_;refine qs ?_;refine qg ?_ (hg:=wi bC);refine ab.da (aD rfl rfl rfl b8) rfl bC (ae rfl _) ?_;refine qt b8 ?_;refine qm ?_;refine qs ?_;refine qs ?_;refine qs ?_;refine qs ?_;refine qs ?_;refine qs ?_;refine qs ?_;refine qs ?_;refine qg ?_;refine qm ?_;refine ab.nil (aY ?_);dsimp only[aM,List.foldl,nth,u2,u1];dsimp only[Fr.aF,Fr.put,Fr.clean,Fr.ev,Fr.get,nth,V.look,u1,u2,v1,v2,v3,v4,v5,v6,v7,List.length,u3,u4,Nat.reduceSub,Nat.reduceAdd,List.map]
      all_goals(simp[bD,b8,bC,fm];done)
   ·refine qs ?_ (hg:=wn b8);refine qs ?_ (hg:=wn b8);refine qs ?_;refine qs ?_;refine qs ?_;refine qs ?_;refine qs ?_;refine qs ?_;refine qs ?_;refine qs ?_;refine qs ?_;refine qs ?_;refine qs ?_;refine qs ?_;refine qs ?_;refine qs ?_ (hg:=wn b8);refine qu b8 ?_;refine qm ?_;refine qs ?_;refine qs ?_;refine qs ?_;refine qs ?_;refine qs ?_;refine qs ?_;refine qs ?_;refine qs ?_;refine qg ?_;refine qm ?_;refine ab.nil (aY ?_);dsimp only[aM,List.foldl,nth,u2,u1];dsimp only[Fr.aF,Fr.put,Fr.clean,Fr.ev,Fr.get,nth,V.look,u1,u2,v1,v2,v3,v4,v5,v6,v7,List.length,u3,u4,Nat.reduceSub,Nat.reduceAdd,List.map]
    all_goals(simp[bD,b8];done)
 dsimp only[aM,List.foldl,nth,u2,u1];refine af.ret ⟨rx,_,rfl,rl cM hH (rfl)⟩
theorem vK {s0:St} {n:dr} (hn:n.ok) {g:Nat} (hg:g≤1048576):Ev pv 73 [.agg (a8 n),.int .i64 (g:Nat)] s0 (.tup [.int .i64 (eQ n (g:Nat)).1,.bool (eQ n (g:Nat)).2]) s0:=by
 refine Ev.pW rfl Rr rfl rfl rfl ?_;dsimp only[u3,u4,List.length,Nat.reduceSub,Nat.reduceAdd,w1,w2];obtain⟨cM,hF,hH⟩:=ri s0;generalize ak .ro s0=S at*;have zh:=hn.1.arg s0.bs.length S;have rC:=hn.2.1;refine qq<|qj fun K hK=>qb hH fun k2 st hk2 hH=>?_;dsimp only[u2,u1,u3,u4,setMany,u5,u6,D.cells,Nat.reduceAdd,a8] at hH;refine qm ?_;refine qm ?_;refine qe hK<|qq<|qq<|qj fun K hK=>?_;refine ab.bf (m:=7) hH rfl (ev rfl) (by exact aB) (by dsimp only[List.drop_succ_cons,List.drop_zero,List.take_succ_cons,List.take_zero,a8]<;>rfl) rfl rfl (by dsimp only[Fr.put,u1,u2]<;>rfl) ?_;refine qv (AK hn) ?_;refine qg ?_;refine qe hK ?_;unfold eQ
 cases hp:sC n with
 |false=>
  rw[if_pos rfl];refine qB ?_;refine qq<|qj fun K hK=>qm ?_;refine qm ?_;refine qe hK<|af.ret ⟨rx,_,rfl,rl cM hH (rfl)⟩
 |true=>
  rw[if_neg (by simp)];refine qC ?_;refine af.skip<|qq<|qq<|qj fun K hK=>qp (o:=0) ?_;refine ql hH aB ?_;refine qe hK<|af.block<|qq<|qq<|qj fun K hK=>qg ?_;refine qm ?_;refine qe hK ?_
  by_cases q1:n.op=1
  ·rw[if_pos (.inl q1)];refine qD rfl (by simp[q1]) ?_;refine af.skip<|qD rfl (by simp[q1]) ?_;refine qq<|qj fun K hK=>qp (o:=6) ?_;refine ql hH aB ?_;refine qg ?_;refine qm ?_;refine qm ?_;refine qe hK<|af.ret ⟨rx,_,rfl,rl cM hH (rfl)⟩
  refine qE rfl (by simp[q1]) ?_;refine qq<|qj fun K hK=>qg ?_;refine qm ?_;refine qe hK ?_
  by_cases q7:n.op=7
  ·rw[if_pos (.inr (.inl q7))];refine qD rfl (by simp[q7]) ?_;refine af.skip<|qD rfl (by simp[q7]) ?_;refine qq<|qj fun K hK=>qp (o:=6) ?_;refine ql hH aB ?_;refine qg ?_;refine qm ?_;refine qm ?_;refine qe hK<|af.ret ⟨rx,_,rfl,rl cM hH (rfl)⟩
  refine qE rfl (by simp[q7]) ?_;refine qj fun K hK=>qg ?_;refine qm ?_;refine qe hK ?_
  by_cases q8:n.op=8
  ·rw[if_pos (.inr (.inr q8))];refine qD rfl (by simp[q8]) ?_;refine qq<|qj fun K hK=>qp (o:=6) ?_;refine ql hH aB ?_;refine qg ?_;refine qm ?_;refine qm ?_;refine qe hK<|af.ret ⟨rx,_,rfl,rl cM hH (rfl)⟩
  refine qE rfl (by simp[q8]) ?_;rw[if_neg (by omega)];refine qq<|qj fun K hK=>qg ?_;refine qm ?_;refine qe hK ?_;refine af.cond (by rfl) (fun q2=>?_) (fun q2=>?_)<;>try simp only[beq_iff_eq,beq_eq_false_iff_ne,ne_eq] at q2
  ·rw[if_pos q2];refine qq<|af.K' [4,5] (fun ff=>ff 4=.int .i64 0∧ff 5=.bool ((n.kids==0) &&eR n.rs)) ?_ (fun ff tmp zm=>?_)
   ·refine qp (o:=6) ?_;refine ql hH aB ?_;refine qg ?_;refine qm ?_;refine ab.two 23 rfl (fun bD=>?_) (fun bD=>?_)
    ·refine qp (o:=1) ?_ (hg:=wi bD);refine ql hH aB ?_ (hg:=wi bD);refine qv (tY (zh.rows hH) rC) ?_ (hg:=wi bD);refine qt bD ?_;refine qm ?_;refine qm ?_;refine ab.nil (jZ ?_ ?_)
     ·dsimp only[aM,List.foldl,nth,u2,u1]
     ·dsimp only[nth];dsimp only[Fr.aF,Fr.put,Fr.clean,Fr.ev,Fr.get,nth,V.look,u1,u2,v1,v2,v3,v4,v5,v6,v7,List.length,u3,u4,Nat.reduceSub,Nat.reduceAdd,List.map];refine⟨?_,?_⟩<;>(first|rfl|(simp[bD];done)|(simp_all;done)|(simp[bD];omega)|(simp_all;omega))
    ·refine qs ?_ (hg:=wn bD);refine qs ?_ (hg:=wn bD);refine qs ?_ (hg:=wn bD);refine qu bD ?_;refine qm ?_;refine qm ?_;refine ab.nil (jZ ?_ ?_)
     ·dsimp only[aM,List.foldl,nth,u2,u1]
     ·dsimp only[nth];dsimp only[Fr.aF,Fr.put,Fr.clean,Fr.ev,Fr.get,nth,V.look,u1,u2,v1,v2,v3,v4,v5,v6,v7,List.length,u3,u4,Nat.reduceSub,Nat.reduceAdd,List.map];refine⟨?_,?_⟩<;>(first|rfl|(simp[bD];done)|(simp_all;done)|(simp[bD];omega)|(simp_all;omega))
   dsimp only[aM,List.foldl,nth,u2,u1];obtain⟨Bu,Bt⟩:=zm;rw[Bu,Bt];refine af.ret ⟨rx,_,rfl,rl cM hH (rfl)⟩
  rw[if_neg q2];refine qq<|qq<|qj fun K hK=>qg ?_;refine qm ?_;refine qe hK ?_
  by_cases q3:n.op=3
  ·rw[if_pos (.inl q3)];refine qD rfl (by simp[q3]) ?_;refine af.skip<|qD rfl (by simp[q3]) ?_;refine qq<|qj fun K hK=>qp (o:=6) ?_;refine ql hH aB ?_;refine qp (o:=6) ?_;refine ql hH aB ?_;refine qg ?_;refine qm ?_;refine qm ?_;refine qe hK<|af.ret ⟨rx,_,rfl,rl cM hH (rfl)⟩
  refine qE rfl (by simp[q3]) ?_;refine qj fun K hK=>qg ?_;refine qm ?_;refine qe hK ?_
  by_cases q4:n.op=4
  ·rw[if_pos (.inr q4)];refine qD rfl (by simp[q4]) ?_;refine qq<|qj fun K hK=>qp (o:=6) ?_;refine ql hH aB ?_;refine qp (o:=6) ?_;refine ql hH aB ?_;refine qg ?_;refine qm ?_;refine qm ?_;refine qe hK<|af.ret ⟨rx,_,rfl,rl cM hH (rfl)⟩
  rw[if_neg (by omega)];refine qE rfl (by simp[q4]) ?_;refine qq<|qj fun K hK=>qg ?_;refine qm ?_;refine qe hK ?_;refine af.cond (by rfl) (fun q5=>?_) (fun q5=>?_)<;>try simp only[beq_iff_eq,beq_eq_false_iff_ne,ne_eq] at q5
  ·rw[if_pos q5];refine qq<|af.K' [4,5] (fun ff=>ff 4=.int .i64 1∧ff 5=.bool ((n.kids==1) &&decide (n.mn≥0) &&decide (n.mn≤30) &&((n.mx==-1)||(decide (n.mx≥n.mn) &&decide (n.mx≤30))))) ?_ (fun ff tmp zm=>?_)
   ·refine qp (o:=6) ?_;refine ql hH aB ?_;refine qg ?_;refine qm ?_;refine ab.two 41 rfl (fun bD=>?_) (fun bD=>?_)
    ·refine qp (o:=2) ?_ (hg:=wi bD);refine ql hH aB ?_ (hg:=wi bD);refine qg ?_ (hg:=wi bD);refine qt bD ?_;refine qm ?_;refine ab.two 46 rfl (fun dc=>?_) (fun dc=>?_)
     ·refine qp (o:=2) ?_ (hg:=wi dc);refine ql hH aB ?_ (hg:=wi dc);refine qg ?_ (hg:=wi dc);refine qt dc ?_;refine qm ?_;refine ab.two 51 rfl (fun cQ=>?_) (fun cQ=>?_)
      ·refine qp (o:=3) ?_ (hg:=wi cQ);refine ql hH aB ?_ (hg:=wi cQ);refine qg ?_ (hg:=wi cQ);refine qm ?_ (hg:=wi cQ);refine ab.two 55 rfl (fun a7=>?_) (fun a7=>?_)
       ·refine qs ?_ (hg:=wn a7);refine qs ?_ (hg:=wn a7);refine qs ?_ (hg:=wn a7);refine qs ?_ (hg:=wn a7);refine qs ?_ (hg:=wn a7);refine qs ?_ (hg:=wn a7);refine qs ?_;refine qs ?_;refine qs ?_;refine qs ?_ (hg:=wn a7);refine ab.dI (aD rfl rfl rfl cQ) rfl a7 (ae rfl _) ?_;refine qt cQ ?_;refine qm ?_;refine qm ?_;refine ab.nil (jZ ?_ ?_)
        ·dsimp only[aM,List.foldl,nth,u2,u1]
        ·dsimp only[nth];dsimp only[Fr.aF,Fr.put,Fr.clean,Fr.ev,Fr.get,nth,V.look,u1,u2,v1,v2,v3,v4,v5,v6,v7,List.length,u3,u4,Nat.reduceSub,Nat.reduceAdd,List.map];refine⟨?_,?_⟩<;>(first|rfl|(simp[bD,dc,cQ,a7];done)|(simp_all;done)|(simp[bD,dc,cQ,a7];omega)|(simp_all;omega))
       ·refine qp (o:=3) ?_ (hg:=wi a7);refine ql hH aB ?_ (hg:=wi a7);refine qp (o:=2) ?_ (hg:=wi a7);refine ql hH aB ?_ (hg:=wi a7);refine qg ?_ (hg:=wi a7);refine qm ?_ (hg:=wi a7);refine ab.two 61 rfl (fun mQ=>?_) (fun mQ=>?_)
        ·refine qp (o:=3) ?_ (hg:=wi mQ);refine ql hH aB ?_ (hg:=wi mQ);refine qg ?_ (hg:=wi mQ);refine ab.dI (aD rfl rfl rfl a7) rfl mQ (ae rfl _) ?_;refine ab.da (aD rfl rfl rfl cQ) rfl a7 (ae rfl _) ?_;refine qt cQ ?_;refine qm ?_;refine qm ?_;refine ab.nil (jZ ?_ ?_)
         ·dsimp only[aM,List.foldl,nth,u2,u1]
         ·dsimp only[nth];dsimp only[Fr.aF,Fr.put,Fr.clean,Fr.ev,Fr.get,nth,V.look,u1,u2,v1,v2,v3,v4,v5,v6,v7,List.length,u3,u4,Nat.reduceSub,Nat.reduceAdd,List.map];refine⟨?_,?_⟩<;>(first|rfl|(simp[bD,dc,cQ,a7,mQ];done)|(simp_all;done)|(simp[bD,dc,cQ,a7,mQ];omega)|(simp_all;omega))
        ·refine qs ?_ (hg:=wn mQ);refine qs ?_ (hg:=wn mQ);refine qs ?_ (hg:=wn mQ);refine ab.da (aD rfl rfl rfl a7) rfl mQ (ae rfl _) ?_;refine ab.da (aD rfl rfl rfl cQ) rfl a7 (ae rfl _) ?_;refine qt cQ ?_;refine qm ?_;refine qm ?_;refine ab.nil (jZ ?_ ?_)
         ·dsimp only[aM,List.foldl,nth,u2,u1]
         ·dsimp only[nth];dsimp only[Fr.aF,Fr.put,Fr.clean,Fr.ev,Fr.get,nth,V.look,u1,u2,v1,v2,v3,v4,v5,v6,v7,List.length,u3,u4,Nat.reduceSub,Nat.reduceAdd,List.map];refine⟨?_,?_⟩<;>(first|rfl|(simp[bD,dc,cQ,a7,mQ];done)|(simp_all;done)|(simp[bD,dc,cQ,a7,mQ];omega)|(simp_all;omega))
      ·refine qs ?_ (hg:=wn cQ);refine qs ?_ (hg:=wn cQ);refine qs ?_ (hg:=wn cQ);refine qs ?_ (hg:=wn cQ);refine qs ?_;refine qs ?_;refine qs ?_;refine qs ?_;refine qs ?_;refine qs ?_;refine qs ?_;refine qs ?_;refine qs ?_;refine qs ?_;refine qs ?_ (hg:=wn cQ);refine qu cQ ?_;refine qm ?_;refine qm ?_;refine ab.nil (jZ ?_ ?_)
       ·dsimp only[aM,List.foldl,nth,u2,u1]
       ·dsimp only[nth];dsimp only[Fr.aF,Fr.put,Fr.clean,Fr.ev,Fr.get,nth,V.look,u1,u2,v1,v2,v3,v4,v5,v6,v7,List.length,u3,u4,Nat.reduceSub,Nat.reduceAdd,List.map];refine⟨?_,?_⟩<;>(first|rfl|(simp[bD,dc,cQ];done)|(simp_all;done)|(simp[bD,dc,cQ];omega)|(simp_all;omega))
     ·refine qs ?_ (hg:=wn dc);refine qs ?_ (hg:=wn dc);refine qs ?_ (hg:=wn dc);refine qu dc ?_;refine qm ?_;refine qs ?_;refine qs ?_;refine qs ?_;refine qs ?_;refine qs ?_;refine qs ?_;refine qs ?_;refine qs ?_;refine qs ?_;refine qs ?_;refine qs ?_;refine qs ?_;refine qs ?_;refine qs ?_;refine qs ?_;refine qg ?_;refine qm ?_;refine qm ?_;refine ab.nil (jZ ?_ ?_)
      ·dsimp only[aM,List.foldl,nth,u2,u1]
      ·dsimp only[nth];dsimp only[Fr.aF,Fr.put,Fr.clean,Fr.ev,Fr.get,nth,V.look,u1,u2,v1,v2,v3,v4,v5,v6,v7,List.length,u3,u4,Nat.reduceSub,Nat.reduceAdd,List.map];refine⟨?_,?_⟩<;>(first|rfl|(simp[bD,dc];done)|(simp_all;done)|(simp[bD,dc];omega)|(simp_all;omega))
    ·refine qs ?_ (hg:=wn bD);refine qs ?_ (hg:=wn bD);refine qs ?_ (hg:=wn bD);refine qu bD ?_;refine qm ?_;refine qs ?_;refine qs ?_;refine qs ?_;refine qg ?_;refine qm ?_;refine qs ?_;refine qs ?_;refine qs ?_;refine qs ?_;refine qs ?_;refine qs ?_;refine qs ?_;refine qs ?_;refine qs ?_;refine qs ?_;refine qs ?_;refine qs ?_;refine qs ?_;refine qs ?_;refine qs ?_;refine qg ?_;refine qm ?_;refine qm ?_;refine ab.nil (jZ ?_ ?_)
     ·dsimp only[aM,List.foldl,nth,u2,u1]
     ·dsimp only[nth];dsimp only[Fr.aF,Fr.put,Fr.clean,Fr.ev,Fr.get,nth,V.look,u1,u2,v1,v2,v3,v4,v5,v6,v7,List.length,u3,u4,Nat.reduceSub,Nat.reduceAdd,List.map];refine⟨?_,?_⟩<;>(first|rfl|(simp[bD];done)|(simp_all;done)|(simp[bD];omega)|(simp_all;omega))
   dsimp only[aM,List.foldl,nth,u2,u1];obtain⟨Bu,Bt⟩:=zm;rw[Bu,Bt];refine af.ret ⟨rx,_,rfl,rl cM hH (rfl)⟩
  rw[if_neg q5];refine qq<|qj fun K hK=>qg ?_;refine qm ?_;refine qe hK ?_;refine af.cond (by rfl) (fun q6=>?_) (fun q6=>?_)<;>try simp only[beq_iff_eq,beq_eq_false_iff_ne,ne_eq] at q6
  ·rw[if_pos q6];refine qq<|af.K' [4,5] (fun ff=>ff 4=.int .i64 1∧ff 5=.bool ((n.kids==1) &&(n.cap==((g+1:Nat):Int)) &&decide (n.cap≤4))) ?_ (fun ff tmp zm=>?_)
   ·refine qp (o:=6) ?_;refine ql hH aB ?_;refine qg ?_;refine qm ?_;refine ab.two 73 rfl (fun bD=>?_) (fun bD=>?_)
    ·refine qp (o:=5) ?_ (hg:=wi bD);refine ql hH aB ?_ (hg:=wi bD);refine qm ?_ (hg:=wi bD);refine qA ?_ (hg:=wi bD);refine qg ?_ (hg:=wi bD);refine qt bD ?_;refine qm ?_;refine ab.two 80 rfl (fun aZ=>?_) (fun aZ=>?_)
     ·refine qp (o:=5) ?_ (hg:=wi aZ);refine ql hH aB ?_ (hg:=wi aZ);refine qg ?_ (hg:=wi aZ);refine qt aZ ?_;refine qm ?_;refine qm ?_;refine ab.nil (jZ ?_ ?_)
      ·dsimp only[aM,List.foldl,nth,u2,u1]
      ·dsimp only[nth];dsimp only[Fr.aF,Fr.put,Fr.clean,Fr.ev,Fr.get,nth,V.look,u1,u2,v1,v2,v3,v4,v5,v6,v7,List.length,u3,u4,Nat.reduceSub,Nat.reduceAdd,List.map];refine⟨?_,?_⟩<;>(first|rfl|(simp[bD,aZ];done)|(simp_all;done)|(simp[bD,aZ];omega)|(simp_all;omega))
     ·refine qs ?_ (hg:=wn aZ);refine qs ?_ (hg:=wn aZ);refine qs ?_ (hg:=wn aZ);refine qu aZ ?_;refine qm ?_;refine qm ?_;refine ab.nil (jZ ?_ ?_)
      ·dsimp only[aM,List.foldl,nth,u2,u1]
      ·dsimp only[nth];dsimp only[Fr.aF,Fr.put,Fr.clean,Fr.ev,Fr.get,nth,V.look,u1,u2,v1,v2,v3,v4,v5,v6,v7,List.length,u3,u4,Nat.reduceSub,Nat.reduceAdd,List.map];refine⟨?_,?_⟩<;>(first|rfl|(simp[bD,aZ];done)|(simp_all;done)|(simp[bD,aZ];omega)|(simp_all;omega))
    ·refine qs ?_ (hg:=wn bD);refine qs ?_ (hg:=wn bD);refine qs ?_ (hg:=wn bD);refine qs ?_ (hg:=wn bD);refine qs ?_ (hg:=wn bD);refine qu bD ?_;refine qm ?_;refine qs ?_;refine qs ?_;refine qs ?_;refine qg ?_;refine qm ?_;refine qm ?_;refine ab.nil (jZ ?_ ?_)
     ·dsimp only[aM,List.foldl,nth,u2,u1]
     ·dsimp only[nth];dsimp only[Fr.aF,Fr.put,Fr.clean,Fr.ev,Fr.get,nth,V.look,u1,u2,v1,v2,v3,v4,v5,v6,v7,List.length,u3,u4,Nat.reduceSub,Nat.reduceAdd,List.map];refine⟨?_,?_⟩<;>(first|rfl|(simp[bD];done)|(simp_all;done)|(simp[bD];omega)|(simp_all;omega))
   dsimp only[aM,List.foldl,nth,u2,u1];obtain⟨Bu,Bt⟩:=zm;rw[Bu,Bt];refine af.ret ⟨rx,_,rfl,rl cM hH (rfl)⟩
  ·rw[if_neg q6];refine af.skip<|qq<|qj fun K hK=>qm ?_;refine qm ?_;refine qe hK<|af.ret ⟨rx,_,rfl,rl cM hH (rfl)⟩
theorem uz {n:dr} (h:n.ok):refs (a8 n)=0:=by
 have:=h.1.ref;simp only[a8,refs,D.ref,this,Nat.max_self]
def nb (d:D) (at_ g:Nat):List D:=[d,.int .i64 (at_:Nat),.int .i64 (g:Nat)]
theorem AW {l:List dr} {d:D} (hl:l.length≤1048576) (hi:∀n∈l,n.ok) (hd:gY d 7 (l.map a8)):∀(f:Nat) {N k:Nat} {S s0:St} {H:List bP} {at_ g:Nat},f≤241→g≤4→Has N S s0 (.box k (.mem 0 false (nb d at_ g))::H)→
  ∃r ah,Ev pv 64 [.ptr k 0 0,.int .i64 ((241-f:Nat):Int)] s0 r ah∧r=.bool (gM l f at_ g).isSome∧∃a' g',Has N S ah (.box k (.mem 0 false (nb d a' g'))::H)∧g'≤4∧∀q,gM l f at_ g=some q→a'=q.1∧g'=q.2:=by
 intro f
 induction f with
 |zero=>
  intro N k S s0 H at_ g hf hg hH;refine Ev.jD rfl NY rfl rfl rfl ?_;dsimp only[u3,u4,List.length,Nat.reduceSub,Nat.reduceAdd,w1,w2];have cy:=hH;have hH:=hH.cA;have cx:(ak .rw s0).bs=s0.bs:=rfl;generalize ak .rw s0=S2 at*;have hc:=hd.arg N S2;refine qq<|qj fun K hK=>qm ?_;refine qe hK<|qq<|qq<|af.jy 21 (.bool (decide ((at_:Int)≥(l.length:Nat))||decide (((241-0:Nat):Int)>240))) [] ?_ (fun ff tmp gh=>?_)
  ·refine qm ?_;refine qg ?_;refine qp (o:=1) ?_;refine ql hH aB ?_;refine qm ?_;refine qg ?_;refine qp (o:=0) ?_;refine ql hH aB ?_;refine qn ?_;simp only[List.length_map];refine qg ?_;refine qm ?_;refine ab.two 18 rfl (fun aZ=>?_) (fun aZ=>?_)
   ·refine qs ?_ (hg:=wn aZ);refine qs ?_ (hg:=wn aZ);refine qt aZ ?_;refine ab.nil (cX ?_ ?_)
    ·dsimp only[aM,List.foldl,nth,u2,u1]
     all_goals(first|rfl|simp)
    ·dsimp only[Fr.aF,Fr.put,Fr.clean,Fr.ev,Fr.get,nth,V.look,u1,u2,v1,v2,v3,v4,v5,v6,v7,List.length,u3,u4,Nat.reduceSub,Nat.reduceAdd,List.map]
     all_goals(simp[aZ];done)
   ·refine qm ?_ (hg:=wi aZ);refine qg ?_ (hg:=wi aZ);refine qu aZ ?_;refine ab.nil (cX ?_ ?_)
    ·dsimp only[aM,List.foldl,nth,u2,u1]
     all_goals(first|rfl|simp)
    ·dsimp only[Fr.aF,Fr.put,Fr.clean,Fr.ev,Fr.get,nth,V.look,u1,u2,v1,v2,v3,v4,v5,v6,v7,List.length,u3,u4,Nat.reduceSub,Nat.reduceAdd,List.map]
     all_goals(simp[aZ];done)
  dsimp only[aM,List.foldl,nth,u2,u1];have hT:(decide ((at_:Int)≥(l.length:Nat))||decide (((241-0:Nat):Int)>240))=true:=by simp
  rw[hT] at gh;refine qB ?_;refine qq<|qj fun K hK=>qm ?_;refine qe hK<|af.ret ⟨rx,_,_,_,rfl,aj (rfl),?_⟩;exact⟨rfl,_,_,cy.ax cx hH,hg,fun q hq=>by simp[gM] at hq⟩
 |succ f ih=>
  intro N k S s0 H at_ g hf hg hH;refine Ev.jD rfl NY rfl rfl rfl ?_;dsimp only[u3,u4,List.length,Nat.reduceSub,Nat.reduceAdd,w1,w2];have cy:=hH;have hH:=hH.cA;have cx:(ak .rw s0).bs=s0.bs:=rfl;generalize ak .rw s0=S2 at*;have hc:=hd.arg N S2;refine qq<|qj fun K hK=>qm ?_;refine qe hK<|qq<|qq<|af.jy 21 (.bool (decide ((at_:Int)≥(l.length:Nat))||decide (((241-(f+1):Nat):Int)>240))) [] ?_ (fun ff tmp gh=>?_)
  ·refine qm ?_;refine qg ?_;refine qp (o:=1) ?_;refine ql hH aB ?_;refine qm ?_;refine qg ?_;refine qp (o:=0) ?_;refine ql hH aB ?_;refine qn ?_;simp only[List.length_map];refine qg ?_;refine qm ?_;refine ab.two 18 rfl (fun aZ=>?_) (fun aZ=>?_)
   ·refine qs ?_ (hg:=wn aZ);refine qs ?_ (hg:=wn aZ);refine qt aZ ?_;refine ab.nil (cX ?_ ?_)
    ·dsimp only[aM,List.foldl,nth,u2,u1]
     all_goals(first|rfl|simp)
    ·dsimp only[Fr.aF,Fr.put,Fr.clean,Fr.ev,Fr.get,nth,V.look,u1,u2,v1,v2,v3,v4,v5,v6,v7,List.length,u3,u4,Nat.reduceSub,Nat.reduceAdd,List.map]
     all_goals(simp_all;done)
   ·refine qm ?_ (hg:=wi aZ);refine qg ?_ (hg:=wi aZ);refine qu aZ ?_;refine ab.nil (cX ?_ ?_)
    ·dsimp only[aM,List.foldl,nth,u2,u1]
     all_goals(first|rfl|simp)
    ·dsimp only[Fr.aF,Fr.put,Fr.clean,Fr.ev,Fr.get,nth,V.look,u1,u2,v1,v2,v3,v4,v5,v6,v7,List.length,u3,u4,Nat.reduceSub,Nat.reduceAdd,List.map]
     all_goals(simp_all;omega)
  dsimp only[aM,List.foldl,nth,u2,u1]
  by_cases ha:l.length≤at_
  ·have hT:(decide ((at_:Int)≥(l.length:Nat))||decide (((241-(f+1):Nat):Int)>240))=true:=by
    rw[Bool.or_eq_true];exact .inl (by rw[decide_eq_true_eq];omega)
   rw[hT] at gh;have hn:gM l (f+1) at_ g=none:=by unfold gM;rw[List.getElem?_eq_none ha]
   rw[hn];refine qB ?_;refine qq<|qj fun K hK=>qm ?_;refine qe hK<|af.ret ⟨rx,_,_,_,rfl,aj (rfl),?_⟩;exact⟨rfl,_,_,cy.ax cx hH,hg,fun q hq=>by cases hq⟩
  ·have hT:(decide ((at_:Int)≥(l.length:Nat))||decide (((241-(f+1):Nat):Int)>240))=false:=by
    rw[Bool.or_eq_false_iff];exact⟨by rw[decide_eq_false_iff_not];omega,by rw[decide_eq_false_iff_not];omega⟩
   rw[hT] at gh
   obtain⟨n,hn⟩:∃n,l[at_]?=some n:=⟨l[at_]'(by omega),List.getElem?_eq_getElem _⟩
   have kP:=hi n (List.mem_of_getElem? hn);have hO:=ky hn;have Lu:=uz kP
   have jt:gM l (f+1) at_ g=if(eQ n (g:Nat)).2=true then iT (gM l f) (eQ n (g:Nat)).1.toNat (at_+1) (if n.op=6 then g+1 else g) else none:=by
    rw[gM,hn]
   rw[jt];clear jt;refine qC ?_;refine af.skip<|qq<|qj fun K hK=>qm ?_;refine qg ?_;refine qp (o:=0) ?_;refine ql hH aB ?_;refine qm ?_;refine qg ?_;refine qp (o:=1) ?_;refine ql hH aB ?_;refine qr fun SM MW=>?_;refine ab.eA rfl (ev rfl) (by assumption) rfl (ae rfl _) ?_;refine qa hH fun k5 st KK hH=>?_;dsimp only[u2,u1,u3,u4,setMany,u5,u6,D.cells,Nat.reduceAdd,nb,a8] at hH;refine ab.s9 hH rfl (ev rfl) (ev rfl) (by rfl) (by exact rfl) (by exact aB) (by exact rfl) (by exact .inr (by assumption)) (fun st hH=>?_);dsimp only[u2,u1,u3,u4,setMany,u5,u6,D.cells,Nat.reduceAdd,nb,a8] at hH;refine qe hK<|qq<|qj fun K hK=>?_;refine ab.bf (m:=7) hH rfl (ev rfl) (by exact aB) (by dsimp only[List.drop_succ_cons,List.drop_zero,List.take_succ_cons,List.take_zero,nb,a8]<;>rfl) rfl rfl (ae rfl _) ?_;refine qm ?_;refine qg ?_;refine qp (o:=2) ?_;refine ql hH b4 ?_;refine qv (vK kP (by omega)) ?_;refine qm ?_;refine qg ?_;refine qg ?_;refine qm ?_;refine qm ?_;refine qe hK<|qq<|qq<|qj fun K hK=>qm ?_;refine qg ?_;refine qe hK ?_
   cases hsh:(eQ n (g:Nat)).2 with
   |false=>
    rw[if_neg (by simp)];refine qB ?_;refine qq<|qj fun K hK=>qm ?_;refine qe hK<|af.ret ⟨rx,_,_,_,rfl,aj (rfl),?_⟩;exact⟨rfl,_,_,cy.ax cx (hH.drop 1),hg,fun q hq=>by cases hq⟩
   |true=>
    rw[if_pos rfl];obtain⟨⟨o9,_⟩,hk2,Nj⟩:=tR hsh;have Oi:=kP.2.2;obtain⟨kd,Lz⟩:∃kd:Nat,(eQ n (g:Nat)).1=(kd:Int):=Int.eq_ofNat_of_zero_le hk2;rw[Lz,Int.toNat_natCast];rw[Lz,Int.toNat_natCast] at o9;refine qC ?_;refine af.skip<|qq<|qj fun K hK=>qm ?_;refine qg ?_;refine qp (o:=1) ?_;refine ql hH b4 ?_;refine qA ?_;refine qg ?_;refine qp (o:=1) ?_;refine qT hH b4 fun st hH=>?_;dsimp only[u2,u1,u3,u4,setMany,u5,u6,D.cells,Nat.reduceAdd,nb,a8] at hH;refine qe hK<|qq<|qq<|qj fun K hK=>qp (o:=0) ?_;refine ql hH aB ?_;refine qg ?_;refine qe hK<|af.merge (fun fr st=>∃(g2:Nat) (tmp:List (Nat×D)),fr=⟨8,[.ptr k 0 0,.int .i64 ((241-(f+1):Nat):Int),mH fr 2,mH fr 3,.bool false,.ptr k5 0 0,.int .i64 (kd:Nat),.bool true],tmp⟩∧Has N S2 st (.box k (.mem 0 false [d,.int .i64 ((at_+1:Nat):Int),.int .i64 (g2:Nat)])::.box k5 (.mem 0 false (a8 n))::H)∧(g2=if n.op=6 then g+1 else g)∧(g2≤4)) ?_ ?_
    ·refine af.cond (by rfl) (fun q6=>?_) (fun q6=>?_)<;>try simp only[beq_iff_eq,beq_eq_false_iff_ne,ne_eq] at q6
     ·have:=Nj q6;refine qj fun K hK=>qm ?_;refine qg ?_;refine qp (o:=2) ?_;refine ql hH b4 ?_;refine qA ?_;refine qg ?_;refine qp (o:=2) ?_;refine qT hH b4 fun st hH=>?_;dsimp only[u2,u1,u3,u4,setMany,u5,u6,D.cells,Nat.reduceAdd,nb,a8] at hH;refine qe hK ?_;exact⟨g+1,_,rfl,(by have:=hH.front b4;exact this),by rw[if_pos q6],by omega⟩
     ·refine af.skip ?_;exact⟨g,_,rfl,(by have:=hH.front b4;exact this),by rw[if_neg q6],hg⟩
    ·rintro fr st ⟨g2,tmp,hfr,hH,bh,bD⟩;rw[hfr];clear hfr;generalize mH fr=ee;clear fr;rw[←bh];refine qq<|af.block<|af.loop (fun mm fr st=>∃(kk a2 g4:Nat),fr.clean=⟨8,[.ptr k 0 0,.int .i64 ((241-(f+1):Nat):Int),mH fr 2,mH fr 3,.bool false,.ptr k5 0 0,.int .i64 (kk:Nat),.bool true],[]⟩∧Has N S2 st (.box k (.mem 0 false [d,.int .i64 (a2:Nat),.int .i64 (g4:Nat)])::.box k5 (.mem 0 false (a8 n))::H)∧(iT (gM l f) kk a2 g4=iT (gM l f) kd (at_+1) g2)∧(g4≤4)∧(kk=mm)∧(kk≤9223372036854775807)) (kd) ?_ ?_
     ·exact⟨kd,at_+1,g2,rfl,hH,rfl,bD,rfl,by omega⟩
     rintro mm fr st ⟨kk,a2,g4,hfr,hH,hX,bA,GI,hkk⟩;rw[hfr];clear hfr;generalize mH fr=ee;clear fr;refine qq<|qq<|qj fun K hK=>qm ?_;refine qg ?_;refine qe hK ?_
     cases kk with
     |zero=>
      refine af.cond (v:=false) (by dsimp only[Fr.ev,Fr.get,nth,V.look];rfl) (fun h=>by cases h) (fun _=>?_);refine af.exit<|qq<|qj fun K hK=>qm ?_;refine qe hK<|af.ret ⟨rx,_,_,_,rfl,aj (rfl),?_⟩;exact⟨by rw[←hX];rfl,_,_,cy.ax cx (hH.erase 1),bA,fun q hq=>by rw[←hX] at hq;simp only[iT,Option.some.injEq] at hq;subst hq;exact⟨rfl,rfl⟩⟩
     |succ kk=>
      rw[iT] at hX;refine qD rfl (by simp) ?_;refine af.skip<|qq<|af.block<|qq<|qj fun K hK=>qm ?_;refine qm ?_;refine ab.kK (z:=((241-f:Nat):Int)) rfl (ev rfl) (ev rfl) (by(try simp only[List.length_reverse,List.length_cons,List.length_nil,List.length_append,List.length_map,List.length_set]);rw[wrap_i64 (by omega) (by omega)]<;>omega) (ae rfl _) ?_;obtain⟨_,st,aO,rfl,a',g',hH,ej,hq⟩:=ih (at_:=a2) (g:=g4) (by omega) bA hH;refine qv aO ?_;refine qg ?_;refine qe hK ?_
      cases ho:gM l f a2 g4 with
      |none=>
       rw[ho] at hX;refine qB ?_;refine qq<|qj fun K hK=>qm ?_;refine qe hK<|af.ret ⟨rx,_,_,_,rfl,aj (rfl),?_⟩;exact⟨by rw[←hX];rfl,_,_,cy.ax cx (hH.erase 1),ej,fun q hq=>by rw[←hX] at hq;cases hq⟩
      |some q=>
       rw[ho] at hX;obtain⟨rfl,rfl⟩:=hq q ho;refine qC ?_;refine af.skip<|qj fun K hK=>qm ?_;refine ab.lA (z:=((kk:Nat):Int)) rfl (ev rfl) (ev rfl) (by(try simp only[List.length_reverse,List.length_cons,List.length_nil,List.length_append,List.length_map,List.length_set]);rw[wrap_i64 (by omega) (by omega)]<;>omega) (ae rfl _) ?_;refine qm ?_;refine qe hK ?_;exact⟨mm-1,by omega,⟨kk,q.1,q.2,rfl,hH,hX,ej,by omega,by omega⟩⟩
theorem yS {s0:St} {x:Nl} (hx:x.ok):Ev pv 39 [x.d] s0 (.bool (fI x.l)) s0:=by
 refine Ev.pW rfl RR rfl rfl rfl ?_;dsimp only[u3,u4,List.length,Nat.reduceSub,Nat.reduceAdd,w1,w2];obtain⟨cM,hF,hH⟩:=ri s0;generalize ak .ro s0=S at*;have hc:=hx.c.arg s0.bs.length S;have hl:=hx.nl;have tF:=hx.c;refine qq<|qj fun K hK=>qm ?_;refine qe hK<|qq<|qq<|af.jy 11 (.bool (decide (((x.l.length:Nat):Int)<1)||decide (((x.l.length:Nat):Int)>480))) [] ?_ (fun ff tmp gh=>?_)
 ·refine qm ?_;refine qn ?_;simp only[List.length_map];refine qg ?_;refine qm ?_;refine ab.two 7 rfl (fun bD=>?_) (fun bD=>?_)
  ·refine qs ?_ (hg:=wn bD);refine qs ?_ (hg:=wn bD);refine qs ?_ (hg:=wn bD);refine qt bD ?_;refine ab.nil (cX ?_ ?_)
   ·dsimp only[aM,List.foldl,nth,u2,u1]
    all_goals(first|rfl|simp)
   ·dsimp only[Fr.aF,Fr.put,Fr.clean,Fr.ev,Fr.get,nth,V.look,u1,u2,v1,v2,v3,v4,v5,v6,v7,List.length,u3,u4,Nat.reduceSub,Nat.reduceAdd,List.map]
    all_goals(simp[bD];done)
  ·refine qm ?_ (hg:=wi bD);refine qn ?_ (hg:=wi bD);simp only[List.length_map];refine qg ?_ (hg:=wi bD);refine qu bD ?_;refine ab.nil (cX ?_ ?_)
   ·dsimp only[aM,List.foldl,nth,u2,u1]
    all_goals(first|rfl|simp)
   ·dsimp only[Fr.aF,Fr.put,Fr.clean,Fr.ev,Fr.get,nth,V.look,u1,u2,v1,v2,v3,v4,v5,v6,v7,List.length,u3,u4,Nat.reduceSub,Nat.reduceAdd,List.map]
    all_goals(simp[bD];done)
 dsimp only[aM,List.foldl,nth,u2,u1]
 by_cases hlen:1≤x.l.length∧x.l.length≤480
 ·have hT:(decide (((x.l.length:Nat):Int)<1)||decide (((x.l.length:Nat):Int)>480))=false:=by
   rw[Bool.or_eq_false_iff];exact⟨by rw[decide_eq_false_iff_not];omega,by rw[decide_eq_false_iff_not];omega⟩
  rw[hT] at gh
  have hR:fI x.l=(match gM x.l 241 0 0 with|some r=>decide (r.1=x.l.length)|none=>false):=by
   unfold fI;rw[decide_eq_true hlen.1,decide_eq_true hlen.2];rfl
  rw[hR];clear hR;refine qC ?_;refine af.skip<|qq<|qj fun K hK=>qm ?_;refine ab.fX (qs:=[(0,_)]) rfl rfl rfl rfl ⟨rfl,(ev rfl),(by exact(gY.cells (by assumption)).1),trivial⟩ (by intro q hq;simp only[List.mem_cons,List.not_mem_nil,or_false] at hq;rcases hq with rfl<;>exact⟨rfl,by exact Nat.le_of_ble_eq_true rfl⟩) (by show List.foldl _ [_,_,_] _=_;dsimp only[List.foldl_cons,List.foldl_nil,u2,u1]<;>rfl) (ae rfl _) ?_;refine qb hH fun k14 st Nn hH=>?_;refine qm ?_;refine qe hK ?_;have hH:Has s0.bs.length S st (.box k14 (.mem 0 false (nb x.d 0 0))::[]):=hH
  cases bh:(gM x.l 241 0 0).isSome with
  |true=>
   obtain⟨q,hq⟩:=Option.isSome_iff_exists.1 bh;refine qq<|qj fun K hK=>qm ?_;obtain⟨_,st,aO,rfl,a',g',hH,ej,MS⟩:=AW hl hx.i hx.c 241 (by omega) (by omega) hH;refine qv aO ?_;refine qm ?_;refine qm ?_ (hg:=wi bh);refine qg ?_ (hg:=wi bh);refine qp (o:=1) ?_ (hg:=wi bh);refine ql hH aB ?_ (hg:=wi bh);refine qm ?_ (hg:=wi bh);refine qn ?_ (hg:=wi bh);simp only[List.length_map];refine qg ?_ (hg:=wi bh);refine qt bh ?_;refine qm ?_;refine qe hK ?_;obtain⟨rfl,rfl⟩:=MS q hq;rw[hq]
   have he:decide (q.1=x.l.length)=(((q.1:Nat):Int)==((x.l.length:Nat):Int)):=by
    rw[Bool.eq_iff_iff];simp only[decide_eq_true_eq,beq_iff_eq];omega
   simp only[he];refine af.ret ⟨rx,_,rfl,rl cM hH (rfl)⟩
  |false=>
   have hq:gM x.l 241 0 0=none:=by
    cases hq:gM x.l 241 0 0 with
    |none=>rfl
    |some q=>rw[hq] at bh;cases bh
   refine qq<|qj fun K hK=>qm ?_;obtain⟨_,st,aO,rfl,a',g',hH,ej,MS⟩:=AW hl hx.i hx.c 241 (by omega) (by omega) hH;refine qv aO ?_;refine qm ?_;refine qs ?_ (hg:=wn bh);refine qs ?_ (hg:=wn bh);refine qs ?_ (hg:=wn bh);refine qs ?_ (hg:=wn bh);refine qs ?_ (hg:=wn bh);refine qs ?_ (hg:=wn bh);refine qs ?_ (hg:=wn bh);refine qu bh ?_;refine qm ?_;refine qe hK ?_;rw[hq];refine af.ret ⟨rx,_,rfl,rl cM hH (rfl)⟩
 ·have hT:(decide (((x.l.length:Nat):Int)<1)||decide (((x.l.length:Nat):Int)>480))=true:=by
   rw[Bool.or_eq_true,decide_eq_true_eq,decide_eq_true_eq];omega
  rw[hT] at gh
  have hR:fI x.l=false:=by
   unfold fI
   by_cases h1:1≤x.l.length
   ·rw[decide_eq_true h1,decide_eq_false (fun h2=>hlen ⟨h1,h2⟩)];rfl
   ·rw[decide_eq_false h1];rfl
  rw[hR];refine qB ?_;refine qq<|qj fun K hK=>qm ?_;refine qe hK<|af.ret ⟨rx,_,rfl,rl cM hH (rfl)⟩
def aQ (fr:Go.V.Fr) (k:Nat):Go.V.D:=Go.V.nth .bw fr.loc k
def mb (es:List Int) (a:Nat) (M:List Int):List Int:=es.take a++M++es.drop (a+M.length)
theorem xy {es M:List Int} {a:Nat} (h:a+M.length≤es.length):(mb es a M).length=es.length:=by
 unfold mb;simp only[List.length_append,List.length_take,List.length_drop];omega
theorem xx {es:List Int} {a:Nat}:mb es a []=es:=by
 unfold mb;simp
theorem CD {es M:List Int} {a:Nat} {x:Int} (h:a≤es.length):(mb es a (x::M))[a]?=some x:=by
 unfold mb;rw[List.append_assoc,List.getElem?_append_right (by simp only[List.length_take];omega)];simp[Nat.min_eq_left h]
theorem xv {es M M':List Int} {a:Nat} (h:a+M.length+M'.length≤es.length):mb (mb es a M) (a+M.length) M'=mb es a (M++M'):=by
 unfold mb;have h1:(es.take a++M).length=a+M.length:=by simp only[List.length_append,List.length_take];omega
 rw[List.take_append_of_le_length (by omega),List.take_of_length_le (by omega)];rw[←h1,List.drop_append,List.drop_eq_nil_of_le (by omega),List.nil_append,h1,List.drop_drop];simp only[List.append_assoc,List.length_append]
 congr 4
 omega
theorem xw {es M:List Int} {a:Nat} {v:Int} (h:a+1+M.length≤es.length):(mb es (a+1) M).set a v=mb es a (v::M):=by
 unfold mb;have h1:(es.take a).length=a:=by simp only[List.length_take];omega
 rw[List.append_assoc,List.take_add_one,List.getElem?_eq_getElem (by omega)];simp only[Option.toList_some,List.append_assoc,List.cons_append,List.nil_append,List.length_cons];rw[List.set_append_right _ _ (by omega),h1,Nat.sub_self,List.set_cons_zero]
 congr 4
 omega
theorem Aq {l:List dr} {d:D} (hl:l.length≤1048576) (hi:∀n∈l,n.ok) (hd:gY d 7 (l.map a8)):∀(m:Nat) (t:Tr),t.flat.length≤m→t.ok→∀{N:Nat} {S s0:St} {H:List bP} {out:D} {es:List Int} {at_:Nat},fc l at_ t.flat→es.length=l.length→Has N S s0 (.aL out 1 (es.map aq)::H)→
  ∃r ah,Ev pv 40 [d,out,.int .i64 (at_:Nat)] s0 r ah∧r=.int .i64 ((at_+t.flat.length:Nat):Int)∧Has N S ah (.aL out 1 ((mb es at_ t.zs).map aq)::H):=by
 intro m
 induction m with
 |zero=>intro t h;have:=t.gT;omega
 |succ m ih=>
  rintro⟨n,ks⟩ hm ba N S s0 H out es at_ jr tD hH;simp only[Tr.ok] at ba;obtain⟨kP,lu⟩:=ba;simp only[Tr.flat,List.length_cons] at hm;have hle:=jr.le (by simp[Tr.flat]);simp only[Tr.flat] at jr hle;simp only[List.length_cons] at hle;have hn:=jr.head;have jr:=jr.tail;have M5:=hi n (List.mem_of_getElem? hn);have hO:=ky hn;have Lu:=uz M5;have Lz:=kP.1;have pa:=bE.jY ks;refine Ev.jD rfl RQ rfl rfl rfl ?_;dsimp only[u3,u4,List.length,Nat.reduceSub,Nat.reduceAdd,w1,w2];have cy:=hH;have hH:=hH.cA;have cx:(ak .rw s0).bs=s0.bs:=rfl;generalize ak .rw s0=S2 at*;have hc:=hd.arg N S2;refine qq<|qj fun K hK=>qm ?_;refine qe hK<|qq<|qj fun K hK=>qm ?_;refine qm ?_;refine qr fun Ut P3=>?_;refine ab.eA rfl (ev rfl) (by assumption) rfl (by dsimp only[Fr.put,u1,u2]<;>rfl) ?_;refine qa hH fun k7 st Qg hH=>?_;refine ab.s9 hH rfl (ev rfl) (ev rfl) (by rfl) (by exact rfl) (by exact aB) (by exact rfl) (by exact .inr (by assumption)) (fun st hH=>?_);dsimp only[u2,u1,u3,u4,setMany,u5,u6,D.cells,Nat.reduceAdd,a8,aq] at hH;refine qe hK<|qq<|qj fun K hK=>qm ?_;refine qA ?_;refine qm ?_;refine qe hK<|qq<|qj fun K hK=>qm ?_;refine qe hK<|qq<|qq<|qj fun K hK=>qp (o:=6) ?_;refine ql hH aB ?_;refine qm ?_;refine qe hK<|af.block<|af.loop (fun mm fr st=>∃(i j ss:Nat) (rest:bE) (nT:List Int),fr.clean=⟨36,[d,out,.int .i64 (at_:Nat),aQ fr 3,aQ fr 4,aQ fr 5,.int .i64 0,.ptr k7 0 0,.int .i64 (j:Nat),.int .i64 ((min ss 401:Nat):Int),aQ fr 10,aQ fr 11,aQ fr 12,aQ fr 13,aQ fr 14,aQ fr 15,aQ fr 16,aQ fr 17,.int .i64 n.kids,.int .i64 (i:Nat),aQ fr 20,aQ fr 21,aQ fr 22,aQ fr 23,aQ fr 24,aQ fr 25,aQ fr 26,aQ fr 27,aQ fr 28,aQ fr 29,aQ fr 30,aQ fr 31,aQ fr 32,aQ fr 33,aQ fr 34,aQ fr 35],[]⟩∧Has N S2 st (.aL out 1 (nT.map aq)::.box k7 (.mem 0 false (a8 n))::H)∧(mm=rest.len)∧(i+rest.len=ks.len)∧(fc l j rest.flat)∧(rest.ok)∧(ss+rest.sz=ks.sz)∧(nT.length=l.length)∧(mb nT j rest.zs=mb es (at_+1) ks.zs)∧(j+rest.flat.length=at_+1+ks.flat.length)∧(rest.flat.length≤m)) (ks.len) ?_ ?_
  ·exact⟨0,at_+1,0,ks,es,rfl,(by have:=hH.front b4;exact this),rfl,by omega,jr,lu,by omega,tD,rfl,rfl,by omega⟩
  rintro mm fr st ⟨i,j,ss,rest,nT,hfr,hH,vA,zj,nQ,jG,zR,wF,s_,hj,Kt⟩;rw[hfr];clear hfr;generalize aQ fr=ee;clear fr;refine qq<|qj fun K hK=>qg ?_;refine qe hK ?_
  cases rest with
  |nil=>
   simp only[bE.len] at zj;simp only[bE.sz] at zR;simp only[bE.flat,List.length_nil] at hj;simp only[bE.zs,xx] at s_;have ib:decide ((i:Int)<n.kids)=false:=by rw[decide_eq_false_iff_not];omega
   refine qq<|qE rfl (by rw[ib]) ?_;refine af.exit ?_;obtain rfl:ss=ks.sz:=by omega
   have jr:=nQ;refine qq<|qq<|qj fun K hK=>qp (o:=0) ?_;refine ql hH b4 ?_;refine qe hK<|af.merge (fun fr st=>∃(tmp:List (Nat×D)),fr=⟨36,[d,out,.int .i64 (at_:Nat),aQ fr 3,aQ fr 4,aQ fr 5,.int .i64 0,.ptr k7 0 0,.int .i64 (j:Nat),.int .i64 ((bL n (min ks.sz 401) ks.len:Nat):Int),aQ fr 10,aQ fr 11,aQ fr 12,aQ fr 13,aQ fr 14,aQ fr 15,aQ fr 16,aQ fr 17,aQ fr 18,aQ fr 19,aQ fr 20,aQ fr 21,aQ fr 22,aQ fr 23,aQ fr 24,aQ fr 25,aQ fr 26,aQ fr 27,aQ fr 28,aQ fr 29,aQ fr 30,aQ fr 31,aQ fr 32,aQ fr 33,aQ fr 34,aQ fr 35],tmp⟩∧Has N S2 st (.aL out 1 (nT.map aq)::.box k7 (.mem 0 false (a8 n))::H)) ?_ ?_
   ·refine af.block<|qq<|qq<|qj fun K hK=>qg ?_;refine qm ?_;refine qe hK ?_;generalize hw:min ks.sz 401=w;have O4:w≤401:=by omega
    have hU:ks.len≤9223372036854775→True:=fun _=>trivial
    by_cases q2:n.op=2
    ·have hz:bL n w ks.len=1:=by unfold bL;rw[if_pos (.inl q2)]
     rw[hz];refine qD rfl (by simp[q2]) ?_;refine af.skip<|qD rfl (by simp[q2]) ?_;refine qj fun K hK=>qm ?_;refine qe hK ?_;exact⟨_,rfl,hH⟩
    refine qE rfl (by simp[q2]) ?_;refine qq<|qj fun K hK=>qg ?_;refine qm ?_;refine qe hK ?_
    by_cases q7:n.op=7
    ·have hz:bL n w ks.len=1:=by unfold bL;rw[if_pos (.inr (.inl q7))]
     rw[hz];refine qD rfl (by simp[q7]) ?_;refine af.skip<|qD rfl (by simp[q7]) ?_;refine qj fun K hK=>qm ?_;refine qe hK ?_;exact⟨_,rfl,hH⟩
    refine qE rfl (by simp[q7]) ?_;refine qj fun K hK=>qg ?_;refine qm ?_;refine qe hK ?_
    by_cases q8:n.op=8
    ·have hz:bL n w ks.len=1:=by unfold bL;rw[if_pos (.inr (.inr q8))]
     rw[hz];refine qD rfl (by simp[q8]) ?_;refine qj fun K hK=>qm ?_;refine qe hK ?_;exact⟨_,rfl,hH⟩
    refine qE rfl (by simp[q8]) ?_
    have hz0:bL n w ks.len=if n.op=4 then w+2*(ks.len-1) else if n.op=6 then w+2 else if n.op=5 then(if n.mx=-1 then n.mn.toNat*w+w+2 else n.mn.toNat*w+(n.mx.toNat-n.mn.toNat)*(w+1)) else w:=by
     unfold bL;rw[if_neg (by omega)]
    rw[hz0];clear hz0;obtain⟨_,gG⟩:=kP;have hq:(n.op=1∧ks.len=0)∨((n.op=3∨n.op=4)∧2≤ks.len)∨(n.op=5∧ks.len=1∧0≤n.mn∧n.mn≤30∧(n.mx=-1∨(n.mn≤n.mx∧n.mx≤30)))∨(n.op=6∧ks.len=1∧1≤n.cap∧n.cap≤4):=by omega
    refine qq<|qj fun K hK=>qg ?_;refine qm ?_;refine qe hK ?_
    by_cases q4:n.op=4
    ·rw[if_pos q4];have hk2:2≤ks.len:=by omega
     refine qD rfl (by simp[q4]) ?_;refine qj fun K hK=>qm ?_;refine qp (o:=6) ?_;refine ql hH b4 ?_;refine ab.lA (z:=((ks.len-1:Nat):Int)) rfl (ev rfl) (ev rfl) (by(try simp only[List.length_reverse,List.length_cons,List.length_nil,List.length_append,List.length_map,List.length_set]);rw[wrap_i64 (by omega) (by omega)]<;>omega) (ae rfl _) ?_;refine ab.sI (z:=((2*(ks.len-1):Nat):Int)) rfl (ev rfl) (ev rfl) (by(try simp only[List.length_reverse,List.length_cons,List.length_nil,List.length_append,List.length_map,List.length_set]);rw[wrap_i64 (by omega) (by omega)]<;>omega) (ae rfl _) ?_;refine ab.kK (z:=((w+2*(ks.len-1):Nat):Int)) rfl (ev rfl) (ev rfl) (by(try simp only[List.length_reverse,List.length_cons,List.length_nil,List.length_append,List.length_map,List.length_set]);rw[wrap_i64 (by omega) (by omega)]<;>omega) (ae rfl _) ?_;refine qm ?_;refine qe hK ?_;exact⟨_,rfl,hH⟩
    rw[if_neg q4];refine qE rfl (by simp[q4]) ?_;refine qq<|qj fun K hK=>qg ?_;refine qm ?_;refine qe hK ?_
    by_cases q6:n.op=6
    ·rw[if_pos q6];refine qD rfl (by simp[q6]) ?_;refine qj fun K hK=>qm ?_;refine qA ?_;refine qm ?_;refine qe hK ?_;exact⟨_,rfl,hH⟩
    rw[if_neg q6];refine qE rfl (by simp[q6]) ?_;refine qq<|qj fun K hK=>qg ?_;refine qm ?_;refine qe hK ?_
    by_cases q5:n.op=5
    ·rw[if_pos q5];refine qD rfl (by simp[q5]) ?_;refine qq<|qj fun K hK=>qp (o:=3) ?_;refine ql hH b4 ?_;refine qg ?_;refine qe hK ?_;have zU:0≤n.mn∧n.mn≤30∧(n.mx=-1∨(n.mn≤n.mx∧n.mx≤30)):=by omega
     obtain⟨a,ha⟩:∃a:Nat,n.mn=(a:Int):=Int.eq_ofNat_of_zero_le zU.1;have UT:n.mn.toNat=a:=by omega
     have h1:a*w≤30*401:=Nat.mul_le_mul (by omega) O4;have hmul:n.mn*(w:Int)=((a*w:Nat):Int):=by rw[ha];push_cast;rfl
     rw[UT]
     by_cases AE:n.mx=-1
     ·rw[if_pos AE];refine qD rfl (by simp[AE]) ?_;refine qj fun K hK=>qp (o:=2) ?_;refine ql hH b4 ?_;refine qm ?_;refine ab.sI (z:=((a*w:Nat):Int)) rfl (ev rfl) (ev rfl) (by(try simp only[List.length_reverse,List.length_cons,List.length_nil,List.length_append,List.length_map,List.length_set]);rw[wrap_i64 (by omega) (by omega)]<;>omega) (ae rfl _) ?_;refine qm ?_;refine ab.kK (z:=((a*w+w:Nat):Int)) rfl (ev rfl) (ev rfl) (by(try simp only[List.length_reverse,List.length_cons,List.length_nil,List.length_append,List.length_map,List.length_set]);rw[wrap_i64 (by omega) (by omega)]<;>omega) (ae rfl _) ?_;refine ab.kK (z:=((a*w+w+2:Nat):Int)) rfl (ev rfl) (ev rfl) (by(try simp only[List.length_reverse,List.length_cons,List.length_nil,List.length_append,List.length_map,List.length_set]);rw[wrap_i64 (by omega) (by omega)]<;>omega) (ae rfl _) ?_;refine qm ?_;refine qe hK ?_;exact⟨_,rfl,hH⟩
     ·rw[if_neg AE];obtain⟨b,hb⟩:∃b:Nat,n.mx=(b:Int):=Int.eq_ofNat_of_zero_le (by omega);have US:n.mx.toNat=b:=by omega
      have h2:(b-a)*(w+1)≤30*402:=Nat.mul_le_mul (by omega) (by omega);rw[US];refine qE rfl (by simp[AE]) ?_;refine qj fun K hK=>qp (o:=2) ?_;refine ql hH b4 ?_;refine qm ?_;refine ab.sI (z:=((a*w:Nat):Int)) rfl (ev rfl) (ev rfl) (by(try simp only[List.length_reverse,List.length_cons,List.length_nil,List.length_append,List.length_map,List.length_set]);rw[wrap_i64 (by omega) (by omega)]<;>omega) (ae rfl _) ?_;refine qp (o:=3) ?_;refine ql hH b4 ?_;refine qp (o:=2) ?_;refine ql hH b4 ?_;refine ab.lA (z:=((b-a:Nat):Int)) rfl (ev rfl) (ev rfl) (by(try simp only[List.length_reverse,List.length_cons,List.length_nil,List.length_append,List.length_map,List.length_set]);rw[wrap_i64 (by omega) (by omega)]<;>omega) (ae rfl _) ?_;refine qm ?_;refine ab.kK (z:=((w+1:Nat):Int)) rfl (ev rfl) (ev rfl) (by(try simp only[List.length_reverse,List.length_cons,List.length_nil,List.length_append,List.length_map,List.length_set]);rw[wrap_i64 (by omega) (by omega)]<;>omega) (ae rfl _) ?_;refine ab.sI (z:=(((b-a)*(w+1):Nat):Int)) rfl (ev rfl) (ev rfl) (by(try simp only[List.length_reverse,List.length_cons,List.length_nil,List.length_append,List.length_map,List.length_set]);rw[wrap_i64 (by omega) (by omega)]<;>omega) (ae rfl _) ?_;refine ab.kK (z:=((a*w+(b-a)*(w+1):Nat):Int)) rfl (ev rfl) (ev rfl) (by(try simp only[List.length_reverse,List.length_cons,List.length_nil,List.length_append,List.length_map,List.length_set]);rw[wrap_i64 (by omega) (by omega)]<;>omega) (ae rfl _) ?_;refine qm ?_;refine qe hK ?_;exact⟨_,rfl,hH⟩
    ·rw[if_neg q5];refine qE rfl (by simp[q5]) ?_;refine af.skip ?_;exact⟨_,rfl,hH⟩
   ·rintro fr st ⟨tmp,hfr,hH⟩;rw[hfr];clear hfr;generalize aQ fr=ee;clear fr;have kI:=Gg (n:=n) (k:=ks.len) (s:=ks.sz);have ic:at_<nT.length:=by omega
    obtain⟨w,hw⟩:∃w,nT[at_]?=some w:=⟨nT[at_]'ic,List.getElem?_eq_getElem _⟩
    have U7:=ei hw;refine qq<|qj fun K hK=>qm ?_;refine qm ?_;refine qm ?_;refine ab.Mp (z:=((min (bL n ks.sz ks.len) 401:Nat):Int)) (t1:=_) (t2:=_) rfl (ev rfl) (ev rfl) (by omega) (ae rfl _) ?_;refine qi hH aB fun T_ PG=>?_;refine ab.kX hH rfl (ev rfl) (ev rfl) (by assumption) rfl rfl (by exact aB) (by assumption) (Nat.le_of_ble_eq_true rfl) (by exact .inr rfl) (fun st hH=>?_);dsimp only[u2,u1,u3,u4,setMany,u5,u6,D.cells,Nat.reduceAdd,a8,aq] at hH;refine qe hK<|qq<|qj fun K hK=>qm ?_;refine qm ?_;refine qe hK<|af.ret ⟨rx,_,_,_,rfl,aj (rfl),?_⟩;have Qn:j=at_+(Tr.mk n ks).flat.length:=by simp only[Tr.flat,List.length_cons];omega
    refine⟨by rw[Qn];rfl,?_⟩
    have ek:mb es at_ (Tr.zs (.mk n ks))=nT.set at_ ((min (bL n ks.sz ks.len) 401:Nat):Int):=by
     rw[s_,xw (by rw[bE.iz];omega)];rfl
    rw[ek,List.map_set];exact cy.uJ cx (hH.erase 1)
  |cons t ts=>
   simp only[bE.len] at zj vA;simp only[bE.sz] at zR;simp only[bE.flat,List.length_append] at hj nQ Kt;simp only[bE.zs] at s_;simp only[bE.ok] at jG;have ib:decide ((i:Int)<n.kids)=true:=by rw[decide_eq_true_eq];omega
   have O_:=t.gT;have Kl:=t.iz;have My:=ts.iz;have KO:(mb nT j t.zs).length=l.length:=by rw[xy (by omega)];exact wF
   have UE:(mb nT j t.zs)[j]?=some ((min t.sz 401:Nat):Int):=by
    obtain⟨n',Mv⟩:=t;simp only[Tr.zs,Tr.sz];exact CD (by omega)
   have XL:=ei UE;refine qq<|qD rfl (by rw[ib]) ?_;refine af.skip<|qq<|af.block<|qq<|qj fun K hK=>qm ?_;refine qm ?_;refine qe hK<|qq<|qj fun K hK=>qm ?_;refine qm ?_;refine qm ?_;obtain⟨_,st,aO,rfl,hH⟩:=ih t (by omega) jG.1 nQ.left wF hH;refine qv aO ?_;refine qm ?_;refine qe hK<|qj fun K hK=>qm ?_;refine qm ?_;refine qm ?_;refine qi hH aB fun Up PY=>?_;refine qo hH aB ?_;refine ab.kK (z:=((min ss 401+min t.sz 401:Nat):Int)) rfl (ev rfl) (ev rfl) (by(try simp only[List.length_reverse,List.length_cons,List.length_nil,List.length_append,List.length_map,List.length_set]);rw[wrap_i64 (by omega) (by omega)]<;>omega) (by dsimp only[Fr.put,u1,u2]<;>rfl) ?_;refine ab.Mp (z:=((min (ss+t.sz) 401:Nat):Int)) (t1:=_) (t2:=_) rfl (ev rfl) (ev rfl) (by omega) (by dsimp only[Fr.put,u1,u2]<;>rfl) ?_;refine qm ?_;refine qe hK<|qj fun K hK=>qA ?_;refine qm ?_;refine qe hK ?_;exact⟨mm-1,by omega,⟨i+1,j+t.flat.length,ss+t.sz,ts,mb nT j t.zs,rfl,hH,by omega,by omega,nQ.right,jG.2,by omega,KO,by rw[←s_];have:=xv (es:=nT) (a:=j) (M:=t.zs) (M':=ts.zs) (by omega);rw[Kl] at this;exact this,by omega,by omega⟩⟩
theorem F9 {l:List dr} {d:D} (hl:l.length≤1048576) (hi:∀n∈l,n.ok) (hd:gY d 7 (l.map a8)):∀(m:Nat) (t:Tr),t.flat.length≤m→t.ok→∀{N:Nat} {S s0:St} {H:List bP} {out:D} {es:List Int} {at_:Nat},fc l at_ t.flat→es.length=l.length→Has N S s0 (.aL out 1 (es.map aq)::H)→
  ∃r ah,Ev pv 41 [d,out,.int .i64 (at_:Nat)] s0 r ah∧r=.int .i64 ((at_+t.flat.length:Nat):Int)∧Has N S ah (.aL out 1 ((mb es at_ (t.es at_)).map aq)::H):=by
 intro m
 induction m with
 |zero=>intro t h;have:=t.gT;omega
 |succ m ih=>
  rintro⟨n,ks⟩ hm ba N S s0 H out es at_ jr tD hH;simp only[Tr.ok] at ba;obtain⟨kP,lu⟩:=ba;simp only[Tr.flat,List.length_cons] at hm;have hle:=jr.le (by simp[Tr.flat]);simp only[Tr.flat] at jr hle;simp only[List.length_cons] at hle;have hn:=jr.head;have jr:=jr.tail;have M5:=hi n (List.mem_of_getElem? hn);have hO:=ky hn;have Lz:=kP.1;have pa:=bE.jY ks;refine Ev.jD rfl RP rfl rfl rfl ?_;dsimp only[u3,u4,List.length,Nat.reduceSub,Nat.reduceAdd,w1,w2];have cy:=hH;have hH:=hH.cA;have cx:(ak .rw s0).bs=s0.bs:=rfl;generalize ak .rw s0=S2 at*;have hc:=hd.arg N S2;refine qq<|qj fun K hK=>qm ?_;refine qe hK<|qq<|qj fun K hK=>qm ?_;refine qA ?_;refine qm ?_;refine qe hK<|qq<|qq<|qj fun K hK=>qm ?_;refine qm ?_;refine qr fun SQ M0=>?_;refine qf (fo:=6) fun Ut P3=>?_;refine qR ?_;refine qm ?_;refine qe hK<|af.block<|af.loop (fun mm fr st=>∃(i j:Nat) (rest:bE) (nT:List Int),fr.clean=⟨16,[d,out,.int .i64 (at_:Nat),aQ fr 3,aQ fr 4,aQ fr 5,.int .i64 0,.int .i64 (j:Nat),aQ fr 8,aQ fr 9,aQ fr 10,aQ fr 11,aQ fr 12,aQ fr 13,.int .i64 n.kids,.int .i64 (i:Nat)],[]⟩∧Has N S2 st (.aL out 1 (nT.map aq)::H)∧(mm=rest.len)∧(i+rest.len=ks.len)∧(fc l j rest.flat)∧(rest.ok)∧(nT.length=l.length)∧(mb nT j (rest.es j)=mb es (at_+1) (ks.es (at_+1)))∧(j+rest.flat.length=at_+1+ks.flat.length)∧(rest.flat.length≤m)) (ks.len) ?_ ?_
  ·exact⟨0,at_+1,ks,es,rfl,hH,rfl,by omega,jr,lu,tD,rfl,rfl,by omega⟩
  rintro mm fr st ⟨i,j,rest,nT,hfr,hH,vA,zj,nQ,jG,wF,s_,hj,Kt⟩;rw[hfr];clear hfr;generalize aQ fr=ee;clear fr;refine qq<|qj fun K hK=>qg ?_;refine qe hK ?_
  cases rest with
  |nil=>
   simp only[bE.len] at zj;simp only[bE.flat,List.length_nil] at hj;simp only[bE.es,xx] at s_;have ib:decide ((i:Int)<n.kids)=false:=by rw[decide_eq_false_iff_not];omega
   have ic:at_<nT.length:=by omega
   obtain⟨w,hw⟩:∃w,nT[at_]?=some w:=⟨nT[at_]'ic,List.getElem?_eq_getElem _⟩
   have U7:=ei hw;refine qq<|qE rfl (by rw[ib]) ?_;refine af.exit<|qq<|qj fun K hK=>qm ?_;refine qm ?_;refine qm ?_;refine qi hH aB fun N' FQ=>?_;refine ab.kX hH rfl (ev rfl) (ev rfl) (by assumption) rfl rfl (by exact aB) (by assumption) (Nat.le_of_ble_eq_true rfl) (by exact .inr rfl) (fun st hH=>?_);dsimp only[u2,u1,u3,u4,setMany,u5,u6,D.cells,Nat.reduceAdd,a8,aq] at hH;refine qe hK<|qq<|qj fun K hK=>qm ?_;refine qm ?_;refine qe hK<|af.ret ⟨rx,_,_,_,rfl,aj (rfl),?_⟩;have Qn:j=at_+(Tr.mk n ks).flat.length:=by simp only[Tr.flat,List.length_cons];omega
   refine⟨by rw[Qn];rfl,?_⟩
   have ek:mb es at_ (Tr.es (.mk n ks) at_)=nT.set at_ ((j:Nat):Int):=by
    rw[s_,xw (by rw[bE.iG];omega)];have:j=at_+1+ks.flat.length:=by omega
    rw[this];rfl
   rw[ek,List.map_set];exact cy.uJ cx hH
  |cons t ts=>
   simp only[bE.len] at zj vA;simp only[bE.flat,List.length_append] at hj nQ Kt;simp only[bE.es] at s_;simp only[bE.ok] at jG;have ib:decide ((i:Int)<n.kids)=true:=by rw[decide_eq_true_eq];omega
   have O_:=t.gT;have Kl:=t.iG j;have My:=ts.iG (j+t.flat.length);have KO:(mb nT j (t.es j)).length=l.length:=by rw[xy (by omega)];exact wF
   refine qq<|qD rfl (by rw[ib]) ?_;refine af.skip<|qq<|af.block<|qj fun K hK=>qm ?_;refine qm ?_;refine qm ?_;obtain⟨_,st,aO,rfl,hH⟩:=ih t (by omega) jG.1 nQ.left wF hH;refine qv aO ?_;refine qm ?_;refine qe hK<|qj fun K hK=>qA ?_;refine qm ?_;refine qe hK ?_;exact⟨mm-1,by omega,⟨i+1,j+t.flat.length,ts,mb nT j (t.es j),rfl,hH,by omega,by omega,nQ.right,jG.2,KO,by rw[←s_];have:=xv (es:=nT) (a:=j) (M:=t.es j) (M':=ts.es (j+t.flat.length)) (by omega);rw[Kl] at this;exact this,by omega,by omega⟩⟩
theorem fS {N k:Nat} {S s0:St} {H:List bP} {ks:Nat→Prop} {cd nd zd ed w:D} {code:List aK} {op x y:Int} {rs:List Rg} (hF:S.flr≤N) (hl:code.length≤1048576) (hH:Has N S s0 (.aL w 2 (rs.map aw)::.box k (.mem 0 false [cd,nd,zd,ed])::.deep ks cd 4 (code.map aG)::H)):
  ∃r ah,Ev pv 42 [.ptr k 0 0,.agg [.int .i64 op,.int .i64 x,.int .i64 y,w]] s0 r ah∧r=.int .i64 (code.length:Nat)∧∃TG Mv,Has N S ah (.box k (.mem 0 false [TG,nd,zd,ed])::.deep Mv TG 4 ((code++[cS op x y rs]).map aG)::H):=by
 refine Ev.jD rfl RO rfl rfl rfl ?_;dsimp only[u3,u4,List.length,Nat.reduceSub,Nat.reduceAdd,w1,w2];change af _ _ _ _ s0 _;refine qq<|qj fun K hK=>qb hH fun k3 st Nj hH=>?_;refine qm ?_;refine qe hK<|qq<|qj fun K hK=>qm ?_;refine qm ?_;refine qg ?_;refine qp (o:=0) ?_;refine ql hH cU ?_;refine ab.bf (m:=4) hH rfl (ev rfl) (by exact aB) (by dsimp only[List.drop_succ_cons,List.drop_zero,List.take_succ_cons,List.take_zero,aG]<;>rfl) rfl rfl (ae rfl _) ?_;refine qh (s:=4) (vs:=[_]) hH fun k11 st KL hH=>?_;obtain⟨hH,QG⟩:=hH.Ca (i:=2) (j:=4) (by decide) cU fW (dU _);dsimp only[u1,u2] at hH;refine ab.oi hH rfl (ev rfl) (ev rfl) fW (hH.rows aB) (.cons (.cons (.plain _ rfl) (.cons (.plain _ rfl) (.cons (.plain _ rfl) (.cons QG .nil)))) .nil) rfl rfl rfl rfl rfl rfl rfl ⟨(Nat.le_of_ble_eq_true rfl),(Nat.le_of_ble_eq_true rfl)⟩ (fun _=>(ae rfl _)) (by simp only[List.length_map,List.length_cons,List.length_nil];omega) (.inl hF) (fun Xg st hH=>?_);dsimp only[u1,u2] at hH;refine qg ?_;refine qp (o:=0) ?_;refine ab.mO hH rfl (ev rfl) (ev rfl) (by exact hH.wT (by exact fW)) (by exact rfl) (by exact eF) (by exact Nat.le_of_ble_eq_true rfl) (by exact .inl hF) (fun st hH=>?_);dsimp only[u2,u1,u3,u4,setMany,u5,u6,D.cells,Nat.reduceAdd,aG] at hH;refine qe hK<|qq<|qj fun K hK=>qm ?_;refine qg ?_;refine qp (o:=0) ?_;refine ql hH eF ?_;refine ab.zC hH rfl (ev rfl) (by exact fW) rfl (ae rfl _) ?_;simp only[List.length_map,List.length_append,List.length_cons,List.length_nil];refine ab.lA (z:=((code.length:Nat):Int)) rfl (ev rfl) (ev rfl) (by(try simp only[List.length_reverse,List.length_cons,List.length_nil,List.length_append,List.length_map,List.length_set]);rw[wrap_i64 (by omega) (by omega)]<;>omega) (ae rfl _) ?_;refine qm ?_;refine qe hK<|af.ret ⟨rx,_,_,_,rfl,rfl,?_⟩;exact⟨rfl,_,_,by rw[List.map_append];exact hH.drop 3⟩
theorem ou {N k:Nat} {S s0:St} {H:List bP} {ks:Nat→Prop} {cd nd zd ed:D} {code:List aK} {at_ over:Nat} {lz:Bool} {x y:Int} (ic:code[at_]?=some (cS 2 x y [])) (hl:code.length≤1048576) (hH:Has N S s0 (.box k (.mem 0 false [cd,nd,zd,ed])::.deep ks cd 4 (code.map aG)::H)):
  ∃r ah,Ev pv 74 [.ptr k 0 0,.int .i64 (at_:Nat),.int .i64 (over:Nat),.bool lz] s0 r ah∧r=.tup []∧Has N S ah (.box k (.mem 0 false [cd,nd,zd,ed])::.deep ks cd 4 ((code.set at_ (ml at_ over lz)).map aG)::H):=by
 have hlt:=bj ic;have hO:(code.map aG)[at_]?=some [.int .i64 2,.int .i64 x,.int .i64 y,.sl []]:=gz ic;have ek:∀a b:List D,(code.map aG).set at_ a=(code.map aG).set at_ a:=fun _ _=>rfl;refine Ev.jD rfl Rq rfl rfl rfl ?_;dsimp only[u3,u4,List.length,Nat.reduceSub,Nat.reduceAdd,w1,w2];have cy:=hH;have hH:=hH.cA;have cx:(ak .rw s0).bs=s0.bs:=rfl;generalize ak .rw s0=S2 at*;refine qq<|qj fun K hK=>qm ?_;refine qg ?_;refine qp (o:=0) ?_;refine ql hH aB ?_;refine qm ?_;refine qm ?_;refine qg ?_;refine qp (o:=0) ?_;refine ql hH aB ?_;refine qm ?_;refine qm ?_;refine ab.kK (z:=((at_+1:Nat):Int)) rfl (ev rfl) (ev rfl) (by(try simp only[List.length_reverse,List.length_cons,List.length_nil,List.length_append,List.length_map,List.length_set]);rw[wrap_i64 (by omega) (by omega)]<;>omega) (ae rfl _) ?_;refine qm ?_;refine ab.BP (s:=4) hH rfl (ev rfl) (ev rfl) (by exact b4) rfl rfl (by exact bj (by assumption)) (fun _=>(ae rfl _)) (fun OM Ky=>?_);refine ab.eN (fo:=1) (m:=0) (o2:=1) rfl (ev rfl) (by assumption) rfl rfl rfl (fun _=>(ae rfl _)) (fun OL Kx=>?_);refine ab.py hH rfl (ev rfl) (ev rfl) (by assumption) rfl rfl (by exact b4) (by assumption) (Nat.le_of_ble_eq_true rfl) (by intro d hd;simp only[List.mem_cons,List.not_mem_nil,or_false] at hd;subst hd;rfl) (by exact .inr rfl) (fun st hH=>?_);dsimp only[u2,u1,u3,u4,setMany,u5,u6,D.cells,Nat.reduceAdd,aG] at hH;refine ab.BP (s:=4) hH rfl (ev rfl) (ev rfl) (by exact b4) rfl rfl (by simp only[List.length_map,List.length_set]<;>omega) (fun _=>(ae rfl _)) (fun Ur P0=>?_);refine ab.eN (fo:=2) (m:=0) (o2:=2) rfl (ev rfl) (by assumption) rfl rfl rfl (fun _=>(ae rfl _)) (fun Oa FR=>?_);refine ab.py hH rfl (ev rfl) (ev rfl) (by assumption) rfl rfl (by exact b4) (List.getElem?_set_self (by simp only[List.length_set,List.length_map];omega)) (Nat.le_of_ble_eq_true rfl) (by intro d hd;simp only[List.mem_cons,List.not_mem_nil,or_false] at hd;subst hd;rfl) (by exact .inr rfl) (fun st hH=>?_);dsimp only[u1,u2,setMany] at hH;rw[List.set_set] at hH;refine qe hK<|qq<|qj fun K hK=>qm ?_;refine qe hK ?_
 cases lz with
 |false=>
  refine qC ?_;refine af.skip ?_;refine⟨fun i h=>(by cases h),_,_,_,rfl,aj rfl,?_⟩;exact⟨rfl,by rw[List.map_set];exact cy.uK cx hH⟩
 |true=>
  refine qB ?_;refine qj fun K hK=>qm ?_;refine qg ?_;refine qp (o:=0) ?_;refine ql hH aB ?_;refine qm ?_;refine qm ?_;refine qg ?_;refine qp (o:=0) ?_;refine ql hH aB ?_;refine qm ?_;refine qm ?_;refine qm ?_;refine ab.kK (z:=((at_+1:Nat):Int)) rfl (ev rfl) (ev rfl) (by(try simp only[List.length_reverse,List.length_cons,List.length_nil,List.length_append,List.length_map,List.length_set]);rw[wrap_i64 (by omega) (by omega)]<;>omega) (ae rfl _) ?_;refine ab.BP (s:=4) hH rfl (ev rfl) (ev rfl) (by exact b4) rfl rfl (by simp only[List.length_map,List.length_set]<;>omega) (fun _=>(ae rfl _)) (fun Ul PU=>?_);refine ab.eN (fo:=1) (m:=0) (o2:=1) rfl (ev rfl) (by assumption) rfl rfl rfl (fun _=>(ae rfl _)) (fun Uk PT=>?_);refine ab.py hH rfl (ev rfl) (ev rfl) (by assumption) rfl rfl (by exact b4) (List.getElem?_set_self (by simp only[List.length_set,List.length_map];omega)) (Nat.le_of_ble_eq_true rfl) (by intro d hd;simp only[List.mem_cons,List.not_mem_nil,or_false] at hd;subst hd;rfl) (by exact .inr rfl) (fun st hH=>?_);dsimp only[u1,u2,setMany] at hH;rw[List.set_set] at hH;refine ab.BP (s:=4) hH rfl (ev rfl) (ev rfl) (by exact b4) rfl rfl (by simp only[List.length_map,List.length_set]<;>omega) (fun _=>(ae rfl _)) (fun XB Vp=>?_);refine ab.eN (fo:=2) (m:=0) (o2:=2) rfl (ev rfl) (by assumption) rfl rfl rfl (fun _=>(ae rfl _)) (fun Uj PS=>?_);refine ab.py hH rfl (ev rfl) (ev rfl) (by assumption) rfl rfl (by exact b4) (List.getElem?_set_self (by simp only[List.length_set,List.length_map];omega)) (Nat.le_of_ble_eq_true rfl) (by intro d hd;simp only[List.mem_cons,List.not_mem_nil,or_false] at hd;subst hd;rfl) (by exact .inr rfl) (fun st hH=>?_);dsimp only[u1,u2,setMany] at hH;rw[List.set_set] at hH;refine qe hK ?_;refine⟨fun i h=>(by cases h),_,_,_,rfl,aj rfl,?_⟩;exact⟨rfl,by rw[List.map_set];exact cy.uK cx hH⟩
def av (fr:Go.V.Fr) (k:Nat):Go.V.D:=Go.V.nth .bw fr.loc k
def jT (n:Nat):List D:=[.int .i64 (n:Nat)]
theorem uD {l:List Nat} {i q:Nat} (h:l[i]?=some q):(l.map jT)[i]?=some (jT q):=by rw[List.getElem?_map,h];rfl
def LF (N:Nat) (S st:St) (k:Nat) (nd zd ed:D) (Z E:List Int) (H:List bP) (code:List aK):Prop:=
 ∃cd ks,Has N S st (.box k (.mem 0 false [cd,nd,zd,ed])::.deep ks cd 4 (code.map aG)::.aL zd 1 (Z.map aq)::.aL ed 1 (E.map aq)::H)
def pL (l:List dr) (t:Tr):Prop:=∀{N k:Nat} {S s0:St} {H:List bP} {nd zd ed:D} {code:List aK} {Z E:List Int} {at_:Nat},S.flr≤N→gY nd 7 (l.map a8)→fc l at_ t.flat→fc Z at_ t.zs→fc E at_ (t.es at_)→t.ok→code.length+t.sz≤1000000→LF N S s0 k nd zd ed Z E H code→
 ∃r ah,Ev pv 43 [.ptr k 0 0,.int .i64 (at_:Nat)] s0 r ah∧r=.tup []∧LF N S ah k nd zd ed Z E H (code++aS t code.length)
theorem ym {E:List Int} {t:Tr} {a:Nat} (h:fc E a (t.es a)):E[a]?=some ((a+t.flat.length:Nat):Int):=by
 obtain⟨n,ks⟩:=t;simp only[Tr.es] at h;rw[h.head];simp only[Tr.flat,List.length_cons]
 congr 2;omega
theorem xj {Z:List Int} {t:Tr} {a:Nat} (h:fc Z a t.zs):Z[a]?=some ((min t.sz 401:Nat):Int):=by
 obtain⟨n,ks⟩:=t;simp only[Tr.zs] at h;rw[h.head];rfl
theorem Lg {l:List dr} (zV:l.length≤1048576) {m:Nat} (ih:∀t:Tr,t.flat.length≤m→pL l t) {n:dr} {ks:bE} (fw:n.op=4) (Th:ks.flat.length≤m) (kP:uA n ks.len) (lu:ks.ok) {N k:Nat} {S s0:St} {H:List bP} {nd zd ed:D} {code:List aK} {Z E:List Int} {at_:Nat} (hF:S.flr≤N) (wz:gY nd 7 (l.map a8)) (jb:fc l at_ (n::ks.flat)) (hsz:fc Z (at_+1) ks.zs) (tC:fc E (at_+1) (ks.es (at_+1))) (hb:code.length+bL n ks.sz ks.len≤1000000) (hM:LF N S s0 k nd zd ed Z E H code):
  ∃r ah,Ev pv 65 [.ptr k 0 0,.int .i64 (at_:Nat)] s0 r ah∧r=.tup []∧LF N S ah k nd zd ed Z E H (code++eo (lI (code.length+bL n ks.sz ks.len)) ks code.length):=by
 obtain⟨cd,dk,hH⟩:=hM;have hle:=jb.le (by simp);simp only[List.length_cons] at hle;have hn:=jb.head;have jb:=jb.tail;have hO:=ky hn;have Lz:=kP.1;have hU:=bE.jY ks
 have hk2:2≤ks.len:=by
  obtain⟨_,hq⟩:=kP;omega
 have FV:bL n ks.sz ks.len=ks.sz+2*(ks.len-1):=by unfold bL;rw[if_neg (by omega),if_pos fw]
 rw[FV] at hb⊢;clear FV;refine Ev.jD rfl Ry rfl rfl rfl ?_;dsimp only[u3,u4,List.length,Nat.reduceSub,Nat.reduceAdd,w1,w2];change af _ _ _ _ s0 _;have hc:=wz.arg N S;refine qq<|qj fun K hK=>qm ?_;refine qe hK<|qq<|qj fun K hK=>qm ?_;refine qA ?_;refine qm ?_;refine qe hK<|qq<|qq<|qj fun K hK=>qm ?_;refine qg ?_;refine qp (o:=1) ?_;refine ql hH aB ?_;refine qm ?_;refine qr fun Us P2=>?_;refine qf (fo:=6) fun SO MY=>?_;refine qR ?_;refine qm ?_;refine qe hK ?_;have hH:Has N S s0 (.box k (.mem 0 false [cd,nd,zd,ed])::.deep dk cd 4 (code.map aG)::.aL zd 1 (Z.map aq)::.aL ed 1 (E.map aq)::.aL .nul 1 (([]:List Nat).map jT)::H):=(hH.eB 1).E9;refine af.block<|af.loop (fun mm fr st=>∃(i j:Nat) (rest:bE) (cd jd:D) (dk:Nat→Prop) (aV:List aK) (js:List Nat),fr.clean=⟨68,[.ptr k 0 0,.int .i64 (at_:Nat),av fr 2,av fr 3,jd,.int .i64 (j:Nat),av fr 6,av fr 7,av fr 8,av fr 9,av fr 10,av fr 11,av fr 12,av fr 13,av fr 14,av fr 15,av fr 16,av fr 17,av fr 18,.int .i64 n.kids,.int .i64 (i:Nat),av fr 21,av fr 22,av fr 23,av fr 24,av fr 25,av fr 26,av fr 27,av fr 28,av fr 29,av fr 30,av fr 31,av fr 32,av fr 33,av fr 34,av fr 35,av fr 36,av fr 37,av fr 38,av fr 39,av fr 40,av fr 41,av fr 42,av fr 43,av fr 44,av fr 45,av fr 46,av fr 47,av fr 48,av fr 49,av fr 50,av fr 51,av fr 52,av fr 53,av fr 54,av fr 55,av fr 56,av fr 57,av fr 58,av fr 59,av fr 60,av fr 61,av fr 62,av fr 63,av fr 64,av fr 65,av fr 66,av fr 67],[]⟩∧Has N S st (.box k (.mem 0 false [cd,nd,zd,ed])::.deep dk cd 4 (aV.map aG)::.aL zd 1 (Z.map aq)::.aL ed 1 (E.map aq)::.aL jd 1 (js.map jT)::H)∧(mm=rest.len)∧(i+rest.len=ks.len)∧(0<rest.len)∧(fc l j rest.flat)∧(fc Z j rest.zs)∧(fc E j (rest.es j))∧(rest.ok)∧(aV++eo (lI 0) rest aV.length=code++eo (lI 0) ks code.length)∧(js++pK rest aV.length=pK ks code.length)∧(aV.length+(rest.sz+2*(rest.len-1))=code.length+(ks.sz+2*(ks.len-1)))∧(rest.flat.length≤m)∧(js.length≤i)) (ks.len) ?_ ?_
 ·exact⟨0,at_+1,ks,cd,.nul,dk,code,[],rfl,hH,rfl,by omega,by omega,jb,hsz,tC,lu,rfl,rfl,rfl,Th,by simp⟩
 rintro mm fr st ⟨i,j,rest,cd,jd,dk,aV,js,hfr,hH,vA,zj,MR,nQ,uO,nP,jG,gS,hjs,hcl,Kt,kC⟩;rw[hfr];clear hfr;generalize av fr=ee;clear fr;refine qq<|qj fun K hK=>qg ?_;refine qe hK ?_
 cases rest with
 |nil=>simp[bE.len] at MR
 |cons t ts=>
  simp only[bE.len] at zj vA hcl;simp only[bE.sz] at hcl;simp only[bE.flat,List.length_append] at nQ Kt;simp only[bE.zs] at uO;simp only[bE.es] at nP;simp only[bE.ok] at jG;have Kl:=t.iz;have MF:=t.iG j;have zf:=ct t (aV.length+1) jG.1;have Px:=ei (ym nP.left);have ib:decide ((i:Int)<n.kids)=true:=by rw[decide_eq_true_eq];omega
  refine qq<|qD rfl (by rw[ib]) ?_;refine af.skip<|qq<|af.block<|qq<|qj fun K hK=>qm ?_;refine qm ?_;refine qe hK<|qq<|qq<|qj fun K hK=>qm ?_;refine qm ?_;refine qg ?_;refine qp (o:=1) ?_;refine ql hH aB ?_;refine qm ?_;refine qr fun Up PY=>?_;refine qf (fo:=6) fun SM MW=>?_;refine qR ?_;refine ab.lA (z:=((ks.len-1:Nat):Int)) rfl (ev rfl) (ev rfl) (by(try simp only[List.length_reverse,List.length_cons,List.length_nil,List.length_append,List.length_map,List.length_set]);rw[wrap_i64 (by omega) (by omega)]<;>omega) (by dsimp only[Fr.put,u1,u2]<;>rfl) ?_;refine qg ?_;refine qe hK ?_
  by_cases ya:ts.len=0
  ·simp only[eo,pK,if_pos ya,List.append_nil] at gS hjs;have UR:=bE.len_nil ya;subst UR;simp only[bE.sz,bE.len] at hcl zj;have KS:(((i:Nat):Int)==((ks.len-1:Nat):Int))=true:=by rw[beq_iff_eq];omega
   refine qD rfl (by rw[KS]) ?_;refine qq<|qj fun K hK=>qm ?_;refine qm ?_;obtain⟨_,st,aO,rfl,cd,dk,hH⟩:=ih t (by omega) hF wz nQ.left uO.left nP.left jG.1 (by omega) ⟨cd,dk,hH⟩;refine qv aO ?_;refine qe hK<|af.exit<|qq<|qj fun K hK=>qm ?_;refine qn ?_ (hR:=hH.rows fW);simp only[List.length_map];refine qm ?_;refine qe hK ?_;rw[gS] at hH;have hal:=pJ (lI 0) ks code.length lu;obtain⟨FT,Kz⟩:=mY (jp:=lI (code.length+(ks.sz+2*(ks.len-1)))) (i0:=lI 0) ks code.length code [] lu rfl;simp only[List.append_nil] at FT Kz;have QW:(code++eo (lI 0) ks code.length).length=code.length+(ks.sz+2*(ks.len-1)):=by rw[List.length_append,hal]
   rw[←hjs] at FT Kz;rw[←FT];clear FT gS;generalize code++eo (lI 0) ks code.length=C0 at*;generalize code.length+(ks.sz+2*(ks.len-1))=e at*;refine af.block<|af.loop (fun mm fr st=>∃(q:Nat) (C:List aK),fr.clean=⟨68,[.ptr k 0 0,av fr 1,av fr 2,av fr 3,av fr 4,av fr 5,av fr 6,av fr 7,av fr 8,av fr 9,av fr 10,av fr 11,av fr 12,av fr 13,av fr 14,av fr 15,av fr 16,av fr 17,av fr 18,av fr 19,av fr 20,av fr 21,av fr 22,av fr 23,av fr 24,av fr 25,av fr 26,av fr 27,av fr 28,av fr 29,av fr 30,av fr 31,av fr 32,av fr 33,av fr 34,av fr 35,av fr 36,av fr 37,av fr 38,av fr 39,av fr 40,av fr 41,av fr 42,av fr 43,av fr 44,av fr 45,av fr 46,av fr 47,av fr 48,av fr 49,av fr 50,av fr 51,av fr 52,av fr 53,av fr 54,av fr 55,av fr 56,av fr 57,av fr 58,av fr 59,av fr 60,av fr 61,av fr 62,av fr 63,av fr 64,jd,.int .i64 (js.length:Nat),.int .i64 (q:Nat)],[]⟩∧Has N S st (.box k (.mem 0 false [cd,nd,zd,ed])::.deep dk cd 4 (C.map aG)::.aL zd 1 (Z.map aq)::.aL ed 1 (E.map aq)::.aL jd 1 (js.map jT)::H)∧(q+mm=js.length)∧(gJ (fun _=>lI e) C (js.drop q)=gJ (fun _=>lI e) C0 js)∧(∀p∈js,∃v:Int,C[p]?=some (cS 3 v 0 []))∧(C.length=e)) (js.length) ?_ ?_
   ·exact⟨0,C0,rfl,hH,by omega,rfl,fun p hp=>⟨_,Kz p hp⟩,QW⟩
   rintro mm fr st ⟨q,C,hfr,hH,hq,gi,lP,LD⟩;rw[hfr];clear hfr;generalize av fr=ee;clear fr;refine qq<|qj fun K hK=>qg ?_;refine qe hK<|qq ?_;refine af.cond (by rfl) (fun hlt=>?_) (fun hlt=>?_)<;>try simp only[decide_eq_true_eq,decide_eq_false_iff_not] at hlt
   ·refine af.skip ?_;have GD:q<js.length:=by omega
    obtain⟨p,hp⟩:∃p,js[q]?=some p:=⟨js[q]'GD,List.getElem?_eq_getElem _⟩
    obtain⟨v,hv⟩:=lP p (List.mem_of_getElem? hp);have hO:=uD hp;have mP:=gz hv;have fF:=bj hv;refine qq<|af.block<|qq<|qj fun K hK=>qi hH fW fun Uc PJ=>?_;refine qo hH fW ?_;refine qm ?_;refine qe hK<|qj fun K hK=>qm ?_;refine qg ?_;refine qp (o:=0) ?_;refine ql hH aB ?_;refine qm ?_;refine qm ?_;refine qg ?_;refine qp (o:=0) ?_;refine ql hH aB ?_;refine ab.zC hH rfl (ev rfl) (by exact b4) rfl (ae rfl _) ?_;simp only[List.length_map];refine ab.BP (s:=4) hH rfl (ev rfl) (ev rfl) (by exact b4) rfl rfl (by exact bj (by assumption)) (fun _=>(ae rfl _)) (fun T_ PG=>?_);refine ab.eN (fo:=1) (m:=0) (o2:=1) rfl (ev rfl) (by assumption) rfl rfl rfl (fun _=>(ae rfl _)) (fun T9 PF=>?_);refine ab.py hH rfl (ev rfl) (ev rfl) (by assumption) rfl rfl (by exact b4) (by assumption) (Nat.le_of_ble_eq_true rfl) (by intro d hd;simp only[List.mem_cons,List.not_mem_nil,or_false] at hd;subst hd;rfl) (by exact .inl hF) (fun st hH=>?_);dsimp only[u2,u1,u3,u4,setMany,u5,u6,D.cells,Nat.reduceAdd,aG,a8,aq,jT] at hH;refine qe hK<|qj fun K hK=>qA ?_;refine qm ?_;refine qe hK ?_
    have p_:js.drop q=p::js.drop (q+1):=by
     rw[List.drop_eq_getElem_cons GD]
     congr 1
     exact Option.some.inj ((List.getElem?_eq_getElem _).symm.trans hp)
    refine⟨mm-1,by omega,⟨q+1,C.set p (lI e),rfl,(by rw[List.map_set,←LD];exact hH),by omega,by rw[p_] at gi;exact gi,?_,by rw[List.length_set];exact LD⟩⟩;intro p' tb
    by_cases hpp:p'=p
    ·subst hpp;exact⟨_,List.getElem?_set_self fF⟩
    ·rw[List.getElem?_set_ne (fun e=>hpp e.symm)];exact lP p' tb
   ·refine af.exit ?_;refine⟨fun i h=>(by cases h),_,_,_,rfl,rfl,?_⟩;have FN:q=js.length:=by omega
    rw[FN,List.drop_length] at gi;have gi:C=gJ (fun _=>lI e) C0 js:=gi;rw[←gi];exact⟨rfl,cd,dk,hH.erase 4⟩
  ·simp only[eo,pK,if_neg ya] at gS hjs;have KS:(((i:Nat):Int)==((ks.len-1:Nat):Int))=false:=by rw[beq_eq_false_iff_ne];omega
   refine qE rfl (by rw[KS]) ?_;refine af.skip<|qq<|qj fun K hK=>qm ?_;refine ab.go (d:=.agg [.int .i64 2,.int .i64 0,.int .i64 0,.nul]) (st1:=_) rfl rfl rfl (by dsimp only[Fr.put,u1,u2]<;>rfl) ?_;have hH:=hH.eB 2;obtain⟨_,st,aO,rfl,cd,dk,hH⟩:=fS (rs:=[]) hF (by omega) hH;refine qv aO ?_;refine qm ?_;refine qe hK ?_;have lO:(aV++[cS 2 0 0 []]).length=aV.length+1:=by simp
   refine qq<|qj fun K hK=>qm ?_;refine qm ?_;obtain⟨_,st,aO,rfl,cd,dk,hH⟩:=ih t (by omega) hF wz nQ.left uO.left nP.left jG.1 (by omega) ⟨cd,dk,hH⟩;refine qv aO ?_;refine qe hK ?_;rw[lO] at hH;have mR:(aV++[cS 2 0 0 []]++aS t (aV.length+1)).length=aV.length+1+t.sz:=by rw[List.length_append,lO,zf]
   refine qq<|qj fun K hK=>qm ?_;refine qm ?_;refine ab.go (d:=.agg [.int .i64 3,.int .i64 0,.int .i64 0,.nul]) (st1:=_) rfl rfl rfl (by dsimp only[Fr.put,u1,u2]<;>rfl) ?_;have hH:=hH.eB 2;obtain⟨_,st,aO,rfl,cd,dk,hH⟩:=fS (rs:=[]) hF (by omega) hH;refine qv aO ?_;refine qh (s:=1) (vs:=[_]) hH fun k47 st VV hH=>?_;refine qP hH l7 (hH.rows aB) fun Oz st hH=>?_;dsimp only[u2,u1,u3,u4,setMany,u5,u6,D.cells,Nat.reduceAdd,aG,a8,aq,jT] at hH;refine qm ?_;refine qe hK ?_;have hH:=hH.drop 1
   have KY:(aV++[cS 2 0 0 []]++aS t (aV.length+1)++[cS 3 0 0 []])[aV.length]?=some (cS 2 0 0 []):=by
    rw[List.append_assoc,List.append_assoc];exact oh _ _ _
   have Bz:(aV++[cS 2 0 0 []]++aS t (aV.length+1)++[cS 3 0 0 []]).length=aV.length+1+t.sz+1:=by rw[List.length_append,mR];rfl
   have FI:(aV++[cS 2 0 0 []]++aS t (aV.length+1)++[cS 3 0 0 []]).set aV.length (ml aV.length (aV.length+1+t.sz+1) false)=aV++(ml aV.length (aV.length+1+t.sz+1) false::(aS t (aV.length+1)++[lI 0])):=by
    rw[List.append_assoc,List.append_assoc];exact n9 _ _ _ _
   have KR:(aV++(ml aV.length (aV.length+1+t.sz+1) false::(aS t (aV.length+1)++[lI 0]))).length=aV.length+t.sz+2:=by rw[←FI,List.length_set,Bz];omega
   generalize aV++[cS 2 0 0 []]++aS t (aV.length+1)++[cS 3 0 0 []]=BT at*;refine qq<|qj fun K hK=>qm ?_;refine qm ?_;refine qm ?_;refine qg ?_;refine qp (o:=0) ?_;refine ql hH aB ?_;refine ab.zC hH rfl (ev rfl) (by exact b4) rfl (by dsimp only[Fr.put,u1,u2]<;>rfl) ?_;simp only[List.length_map,List.length_append,List.length_cons,List.length_nil];obtain⟨_,st,aO,rfl,hH⟩:=ou (at_:=aV.length) (over:=BT.length) (lz:=false) KY (by omega) hH;refine qv aO ?_;refine qe hK ?_;rw[Bz,FI] at hH;refine qj fun K hK=>qm ?_;refine qg ?_;refine qp (o:=3) ?_;refine ql hH aB ?_;refine qm ?_;refine qi hH eF fun Ue PM=>?_;refine qo hH eF ?_;refine qm ?_;refine qe hK<|qj fun K hK=>qA ?_;refine qm ?_;refine qe hK ?_;exact⟨mm-1,by omega,⟨i+1,j+t.flat.length,ts,cd,Oz,dk,aV++(ml aV.length (aV.length+1+t.sz+1) false::(aS t (aV.length+1)++[lI 0])),js++[aV.length+1+t.sz],rfl,(by rw[List.map_append (f:=jT)];rw[mR] at hH;exact hH),by omega,by omega,by omega,nQ.right,by rw[←Kl];exact uO.right,by rw[←MF];rw[←MF] at nP;exact nP.right,jG.2,by rw[KR,←gS];simp only[List.append_assoc,List.cons_append,List.nil_append],by rw[KR,←hjs];simp only[List.append_assoc,List.cons_append,List.nil_append],by rw[KR];omega,by omega,by rw[List.length_append];simp only[List.length_cons,List.length_nil];omega⟩⟩
end Go.Proofs.Ytbdnabmmlbiomaa
