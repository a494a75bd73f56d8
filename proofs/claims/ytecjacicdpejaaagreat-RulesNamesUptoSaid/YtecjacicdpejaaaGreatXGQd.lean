/-
 Are nodes a pattern? syntax.Right, walked.
-/
import Derived.Test.YtecjacicdpejaaaGreatXGPb
import Derived.Test.YtecjacicdpejaaaGreatXKa
set_option maxRecDepth 100000
set_option maxHeartbeats 4000000
set_option linter.unusedSimpArgs false
set_option linter.unusedVariables false
namespace Go.Proofs.YtecjacicdpejaaaGreat
open Go.V Go
def nN (fr:Go.V.Fr) (k:Nat):Go.V.D:=Go.V.nth .bp fr.loc k
theorem CW {s0:St} {n:bB} (hn:n.ok):Ev pv 249 [.agg (aG n)] s0 (.bool (ug n)) s0:=by
 refine Ev.jq rfl LK rfl rfl rfl ?_;dsimp only[u3,u4,List.length,Nat.reduceSub,Nat.reduceAdd,w1,w2];obtain⟨bf,hF,hH⟩:=ri s0;generalize ai .ro s0=S at*;have yM:=hn.1.arg s0.bs.length S;have Bw:=hn.2.1;refine qq<|qj fun K hK=>qb hH fun k1 st lR hH=>?_;dsimp only[u2,u1,u3,u4,setMany,u5,u6,D.cells,Nat.reduceAdd,aG] at hH;refine qm ?_;refine qe hK<|qq<|qj fun K hK=>qp (o:=0) ?_;refine ql hH ax ?_;refine qg ?_;refine qm ?_;refine qe hK<|qq<|ag.sm 2 (.bool (((n.op==2)||((n.rs.length:Nat):Int)==0) &&((n.op==5)||((n.mn==0) &&(n.mx==0) &&!n.lz)) &&((n.op==6)||(n.cap==0)))) [] ?_ (fun ff tmp=>?_)
 ·refine qp (o:=0) ?_;refine ql hH ax ?_;refine qg ?_;refine qm ?_;refine ae.two 10 rfl (fun bC=>?_) (fun bC=>?_)
  ·refine qs ?_ (hg:=wn bC);refine qs ?_ (hg:=wn bC);refine qs ?_ (hg:=wn bC);refine qs ?_ (hg:=wn bC);refine qt bC ?_;refine qm ?_;refine qm ?_;refine qm ?_;refine ae.two 18 rfl (fun bK=>?_) (fun bK=>?_)
   ·refine qs ?_ (hg:=wn bK);refine qs ?_ (hg:=wn bK);refine qs ?_ (hg:=wn bK);refine qs ?_ (hg:=wn bK);refine qs ?_;refine qs ?_;refine qs ?_;refine qs ?_ (hg:=wn bK);refine qs ?_ (hg:=wn bK);refine qs ?_;refine qs ?_;refine qs ?_;refine qs ?_ (hg:=wn bK);refine qt bK ?_;refine qg ?_;refine qm ?_;refine qp (o:=0) ?_;refine ql hH ax ?_;refine qg ?_;refine qm ?_;refine ae.two 38 rfl (fun cV=>?_) (fun cV=>?_)
    ·refine qs ?_ (hg:=wn cV);refine qs ?_ (hg:=wn cV);refine qs ?_ (hg:=wn cV);refine qt cV ?_;refine qg ?_;refine qm ?_;refine ae.nil (aM ?_);dsimp only[aD,List.foldl,nth,u2,u1];dsimp only[Fr.ay,Fr.put,Fr.clean,Fr.ev,Fr.get,nth,V.look,u1,u2,v1,v2,v3,v4,v5,v6,v7,List.length,u3,u4,Nat.reduceSub,Nat.reduceAdd,List.map]
     all_goals(simp[bC,bK,cV];done)
    ·refine qp (o:=5) ?_ (hg:=wi cV);refine ql hH ax ?_ (hg:=wi cV);refine qg ?_ (hg:=wi cV);refine qu cV ?_;refine qg ?_;refine qm ?_;refine ae.nil (aM ?_);dsimp only[aD,List.foldl,nth,u2,u1];dsimp only[Fr.ay,Fr.put,Fr.clean,Fr.ev,Fr.get,nth,V.look,u1,u2,v1,v2,v3,v4,v5,v6,v7,List.length,u3,u4,Nat.reduceSub,Nat.reduceAdd,List.map]
     all_goals(simp[bC,bK,cV];done)
   ·refine qp (o:=2) ?_ (hg:=wi bK);refine ql hH ax ?_ (hg:=wi bK);refine qg ?_ (hg:=wi bK);refine qm ?_ (hg:=wi bK);refine ae.two 22 rfl (fun fJ=>?_) (fun fJ=>?_)
    ·refine qp (o:=3) ?_ (hg:=wi fJ);refine ql hH ax ?_ (hg:=wi fJ);refine qg ?_ (hg:=wi fJ);refine ae.cP (aj rfl rfl rfl bK) rfl fJ (aa rfl _) ?_;refine qm ?_ (hg:=wi bK);refine ae.two 27 rfl (fun gr=>?_) (fun gr=>?_)
     ·refine qp (o:=4) ?_ (hg:=wi gr);refine ql hH ax ?_ (hg:=wi gr);refine qg ?_ (hg:=wi gr);refine ae.cP (aj rfl rfl rfl bK) rfl gr (aa rfl _) ?_;refine qu bK ?_;refine qg ?_;refine qm ?_;refine ae.two 34 rfl (fun dV=>?_) (fun dV=>?_)
      ·refine qp (o:=0) ?_ (hg:=wi dV);refine ql hH ax ?_ (hg:=wi dV);refine qg ?_ (hg:=wi dV);refine qm ?_ (hg:=wi dV);refine ae.two 38 rfl (fun cV=>?_) (fun cV=>?_)
       ·refine qs ?_ (hg:=wn cV);refine qs ?_ (hg:=wn cV);refine qs ?_ (hg:=wn cV);refine ae.cP (aj rfl rfl rfl dV) rfl cV (aa rfl _) ?_;refine qt dV ?_;refine qm ?_;refine ae.nil (aM ?_);dsimp only[aD,List.foldl,nth,u2,u1];dsimp only[Fr.ay,Fr.put,Fr.clean,Fr.ev,Fr.get,nth,V.look,u1,u2,v1,v2,v3,v4,v5,v6,v7,List.length,u3,u4,Nat.reduceSub,Nat.reduceAdd,List.map]
        all_goals(simp[bC,bK,fJ,gr,dV,cV];done)
       ·refine qp (o:=5) ?_ (hg:=wi cV);refine ql hH ax ?_ (hg:=wi cV);refine qg ?_ (hg:=wi cV);refine ae.cH (aj rfl rfl rfl dV) rfl cV (aa rfl _) ?_;refine qt dV ?_;refine qm ?_;refine ae.nil (aM ?_);dsimp only[aD,List.foldl,nth,u2,u1];dsimp only[Fr.ay,Fr.put,Fr.clean,Fr.ev,Fr.get,nth,V.look,u1,u2,v1,v2,v3,v4,v5,v6,v7,List.length,u3,u4,Nat.reduceSub,Nat.reduceAdd,List.map]
        all_goals(simp[bC,bK,fJ,gr,dV,cV];done)
      ·refine qs ?_ (hg:=wn dV);refine qs ?_ (hg:=wn dV);refine qs ?_ (hg:=wn dV);refine qs ?_ (hg:=wn dV);refine qs ?_;refine qs ?_;refine qs ?_;refine qs ?_ (hg:=wn dV);refine qu dV ?_;refine qm ?_;refine ae.nil (aM ?_);dsimp only[aD,List.foldl,nth,u2,u1];dsimp only[Fr.ay,Fr.put,Fr.clean,Fr.ev,Fr.get,nth,V.look,u1,u2,v1,v2,v3,v4,v5,v6,v7,List.length,u3,u4,Nat.reduceSub,Nat.reduceAdd,List.map]
       all_goals(simp[bC,bK,fJ,gr,dV];done)
     ·refine qs ?_ (hg:=wn gr);refine qs ?_ (hg:=wn gr);refine qs ?_ (hg:=wn gr);refine ae.cH (aj rfl rfl rfl bK) rfl gr (aa rfl _) ?_;refine qu bK ?_;refine qg ?_;refine qm ?_;refine qs ?_;refine qs ?_;refine qs ?_;refine qs ?_;refine qs ?_;refine qs ?_;refine qs ?_;refine qs ?_;refine qg ?_;refine qm ?_;refine ae.nil (aM ?_);dsimp only[aD,List.foldl,nth,u2,u1];dsimp only[Fr.ay,Fr.put,Fr.clean,Fr.ev,Fr.get,nth,V.look,u1,u2,v1,v2,v3,v4,v5,v6,v7,List.length,u3,u4,Nat.reduceSub,Nat.reduceAdd,List.map]
      all_goals(simp[bC,bK,fJ,gr];done)
    ·refine qs ?_ (hg:=wn fJ);refine qs ?_ (hg:=wn fJ);refine qs ?_ (hg:=wn fJ);refine ae.cH (aj rfl rfl rfl bK) rfl fJ (aa rfl _) ?_;refine qm ?_ (hg:=wi bK);refine qs ?_;refine qs ?_;refine qs ?_;refine qg ?_ (hg:=wi bK);refine qu bK ?_;refine qg ?_;refine qm ?_;refine qs ?_;refine qs ?_;refine qs ?_;refine qs ?_;refine qs ?_;refine qs ?_;refine qs ?_;refine qs ?_;refine qg ?_;refine qm ?_;refine ae.nil (aM ?_);dsimp only[aD,List.foldl,nth,u2,u1];dsimp only[Fr.ay,Fr.put,Fr.clean,Fr.ev,Fr.get,nth,V.look,u1,u2,v1,v2,v3,v4,v5,v6,v7,List.length,u3,u4,Nat.reduceSub,Nat.reduceAdd,List.map]
     all_goals(simp[bC,bK,fJ];done)
  ·refine qp (o:=1) ?_ (hg:=wi bC);refine ql hH ax ?_ (hg:=wi bC);refine qn ?_ (hg:=wi bC);simp only[List.length_map];refine qg ?_ (hg:=wi bC);refine qu bC ?_;refine qm ?_;refine ae.two 16 rfl (fun bX=>?_) (fun bX=>?_)
   ·refine qm ?_ (hg:=wi bX);refine qm ?_ (hg:=wi bX);refine ae.two 18 rfl (fun bK=>?_) (fun bK=>?_)
    ·refine qs ?_ (hg:=wn bK);refine qs ?_ (hg:=wn bK);refine qs ?_ (hg:=wn bK);refine qs ?_ (hg:=wn bK);refine qs ?_;refine qs ?_;refine qs ?_;refine qs ?_ (hg:=wn bK);refine qs ?_ (hg:=wn bK);refine qs ?_;refine qs ?_;refine qs ?_;refine qs ?_ (hg:=wn bK);refine ae.cP (aj rfl rfl rfl bX) rfl bK (aa rfl _) ?_;refine qt bX ?_;refine qm ?_;refine qp (o:=0) ?_;refine ql hH ax ?_;refine qg ?_;refine qm ?_;refine ae.two 38 rfl (fun cV=>?_) (fun cV=>?_)
     ·refine qs ?_ (hg:=wn cV);refine qs ?_ (hg:=wn cV);refine qs ?_ (hg:=wn cV);refine qt cV ?_;refine qg ?_;refine qm ?_;refine ae.nil (aM ?_);dsimp only[aD,List.foldl,nth,u2,u1];dsimp only[Fr.ay,Fr.put,Fr.clean,Fr.ev,Fr.get,nth,V.look,u1,u2,v1,v2,v3,v4,v5,v6,v7,List.length,u3,u4,Nat.reduceSub,Nat.reduceAdd,List.map]
      all_goals(simp[bC,bX,bK,cV];done)
     ·refine qp (o:=5) ?_ (hg:=wi cV);refine ql hH ax ?_ (hg:=wi cV);refine qg ?_ (hg:=wi cV);refine qu cV ?_;refine qg ?_;refine qm ?_;refine ae.nil (aM ?_);dsimp only[aD,List.foldl,nth,u2,u1];dsimp only[Fr.ay,Fr.put,Fr.clean,Fr.ev,Fr.get,nth,V.look,u1,u2,v1,v2,v3,v4,v5,v6,v7,List.length,u3,u4,Nat.reduceSub,Nat.reduceAdd,List.map]
      all_goals(simp[bC,bX,bK,cV];done)
    ·refine qp (o:=2) ?_ (hg:=wi bK);refine ql hH ax ?_ (hg:=wi bK);refine qg ?_ (hg:=wi bK);refine qm ?_ (hg:=wi bK);refine ae.two 22 rfl (fun fJ=>?_) (fun fJ=>?_)
     ·refine qp (o:=3) ?_ (hg:=wi fJ);refine ql hH ax ?_ (hg:=wi fJ);refine qg ?_ (hg:=wi fJ);refine ae.cP (aj rfl rfl rfl bK) rfl fJ (aa rfl _) ?_;refine qm ?_ (hg:=wi bK);refine ae.two 27 rfl (fun gr=>?_) (fun gr=>?_)
      ·refine qp (o:=4) ?_ (hg:=wi gr);refine ql hH ax ?_ (hg:=wi gr);refine qg ?_ (hg:=wi gr);refine ae.cP (aj rfl rfl rfl bK) rfl gr (aa rfl _) ?_;refine ae.cH (aj rfl rfl rfl bX) rfl bK (aa rfl _) ?_;refine qt bX ?_;refine qm ?_;refine ae.two 34 rfl (fun dV=>?_) (fun dV=>?_)
       ·refine qp (o:=0) ?_ (hg:=wi dV);refine ql hH ax ?_ (hg:=wi dV);refine qg ?_ (hg:=wi dV);refine qm ?_ (hg:=wi dV);refine ae.two 38 rfl (fun cV=>?_) (fun cV=>?_)
        ·refine qs ?_ (hg:=wn cV);refine qs ?_ (hg:=wn cV);refine qs ?_ (hg:=wn cV);refine ae.cP (aj rfl rfl rfl dV) rfl cV (aa rfl _) ?_;refine qt dV ?_;refine qm ?_;refine ae.nil (aM ?_);dsimp only[aD,List.foldl,nth,u2,u1];dsimp only[Fr.ay,Fr.put,Fr.clean,Fr.ev,Fr.get,nth,V.look,u1,u2,v1,v2,v3,v4,v5,v6,v7,List.length,u3,u4,Nat.reduceSub,Nat.reduceAdd,List.map]
         all_goals(simp[bC,bX,bK,fJ,gr,dV,cV];done)
        ·refine qp (o:=5) ?_ (hg:=wi cV);refine ql hH ax ?_ (hg:=wi cV);refine qg ?_ (hg:=wi cV);refine ae.cH (aj rfl rfl rfl dV) rfl cV (aa rfl _) ?_;refine qt dV ?_;refine qm ?_;refine ae.nil (aM ?_);dsimp only[aD,List.foldl,nth,u2,u1];dsimp only[Fr.ay,Fr.put,Fr.clean,Fr.ev,Fr.get,nth,V.look,u1,u2,v1,v2,v3,v4,v5,v6,v7,List.length,u3,u4,Nat.reduceSub,Nat.reduceAdd,List.map]
         all_goals(simp[bC,bX,bK,fJ,gr,dV,cV];done)
       ·refine qs ?_ (hg:=wn dV);refine qs ?_ (hg:=wn dV);refine qs ?_ (hg:=wn dV);refine qs ?_ (hg:=wn dV);refine qs ?_;refine qs ?_;refine qs ?_;refine qs ?_ (hg:=wn dV);refine qu dV ?_;refine qm ?_;refine ae.nil (aM ?_);dsimp only[aD,List.foldl,nth,u2,u1];dsimp only[Fr.ay,Fr.put,Fr.clean,Fr.ev,Fr.get,nth,V.look,u1,u2,v1,v2,v3,v4,v5,v6,v7,List.length,u3,u4,Nat.reduceSub,Nat.reduceAdd,List.map]
        all_goals(simp[bC,bX,bK,fJ,gr,dV];done)
      ·refine qs ?_ (hg:=wn gr);refine qs ?_ (hg:=wn gr);refine qs ?_ (hg:=wn gr);refine ae.cH (aj rfl rfl rfl bK) rfl gr (aa rfl _) ?_;refine ae.cH (aj rfl rfl rfl bX) rfl bK (aa rfl _) ?_;refine qt bX ?_;refine qm ?_;refine qs ?_;refine qs ?_;refine qs ?_;refine qs ?_;refine qs ?_;refine qs ?_;refine qs ?_;refine qs ?_;refine qg ?_;refine qm ?_;refine ae.nil (aM ?_);dsimp only[aD,List.foldl,nth,u2,u1];dsimp only[Fr.ay,Fr.put,Fr.clean,Fr.ev,Fr.get,nth,V.look,u1,u2,v1,v2,v3,v4,v5,v6,v7,List.length,u3,u4,Nat.reduceSub,Nat.reduceAdd,List.map]
       all_goals(simp[bC,bX,bK,fJ,gr];done)
     ·refine qs ?_ (hg:=wn fJ);refine qs ?_ (hg:=wn fJ);refine qs ?_ (hg:=wn fJ);refine ae.cH (aj rfl rfl rfl bK) rfl fJ (aa rfl _) ?_;refine qm ?_ (hg:=wi bK);refine qs ?_;refine qs ?_;refine qs ?_;refine qg ?_ (hg:=wi bK);refine ae.cH (aj rfl rfl rfl bX) rfl bK (aa rfl _) ?_;refine qt bX ?_;refine qm ?_;refine qs ?_;refine qs ?_;refine qs ?_;refine qs ?_;refine qs ?_;refine qs ?_;refine qs ?_;refine qs ?_;refine qg ?_;refine qm ?_;refine ae.nil (aM ?_);dsimp only[aD,List.foldl,nth,u2,u1];dsimp only[Fr.ay,Fr.put,Fr.clean,Fr.ev,Fr.get,nth,V.look,u1,u2,v1,v2,v3,v4,v5,v6,v7,List.length,u3,u4,Nat.reduceSub,Nat.reduceAdd,List.map]
      all_goals(simp[bC,bX,bK,fJ];done)
   ·refine qs ?_ (hg:=wn bX);refine qs ?_ (hg:=wn bX);refine qs ?_;refine qs ?_;refine qs ?_;refine qs ?_;refine qs ?_;refine qs ?_;refine qs ?_;refine qs ?_;refine qs ?_;refine qs ?_;refine qs ?_;refine qs ?_;refine qs ?_;refine qs ?_ (hg:=wn bX);refine qu bX ?_;refine qm ?_;refine qs ?_;refine qs ?_;refine qs ?_;refine qs ?_;refine qs ?_;refine qs ?_;refine qs ?_;refine qs ?_;refine qg ?_;refine qm ?_;refine ae.nil (aM ?_);dsimp only[aD,List.foldl,nth,u2,u1];dsimp only[Fr.ay,Fr.put,Fr.clean,Fr.ev,Fr.get,nth,V.look,u1,u2,v1,v2,v3,v4,v5,v6,v7,List.length,u3,u4,Nat.reduceSub,Nat.reduceAdd,List.map]
    all_goals(simp[bC,bX];done)
 dsimp only[aD,List.foldl,nth,u2,u1];refine ag.ret ⟨rx,_,rfl,rl bf hH (rfl)⟩
theorem xY {s0:St} {n:bB} (hn:n.ok) {g:Nat} (hg:g≤1048576):Ev pv 221 [.agg (aG n),.int .i64 (g:Nat)] s0 (.tup [.int .i64 (gf n (g:Nat)).1,.bool (gf n (g:Nat)).2]) s0:=by
 refine Ev.jq rfl L0 rfl rfl rfl ?_;dsimp only[u3,u4,List.length,Nat.reduceSub,Nat.reduceAdd,w1,w2];obtain⟨bf,hF,hH⟩:=ri s0;generalize ai .ro s0=S at*;have yM:=hn.1.arg s0.bs.length S;have Bw:=hn.2.1;refine qq<|qj fun K hK=>qb hH fun k2 st hk2 hH=>?_;dsimp only[u2,u1,u3,u4,setMany,u5,u6,D.cells,Nat.reduceAdd,aG] at hH;refine qm ?_;refine qm ?_;refine qe hK<|qq<|qq<|qj fun K hK=>?_;refine ae.aV (m:=7) hH rfl (ev rfl) (by exact ax) (by dsimp only[List.drop_succ_cons,List.drop_zero,List.take_succ_cons,List.take_zero,aG]<;>rfl) rfl rfl (by dsimp only[Fr.put,u1,u2]<;>rfl) ?_;refine qv (CW hn) ?_;refine qg ?_;refine qe hK ?_;unfold gf
 cases hp:ug n with
 |false=>
  rw[if_pos rfl];refine qB ?_;refine qq<|qj fun K hK=>qm ?_;refine qm ?_;refine qe hK<|ag.ret ⟨rx,_,rfl,rl bf hH (rfl)⟩
 |true=>
  rw[if_neg (by simp)];refine qC ?_;refine ag.skip<|qq<|qq<|qj fun K hK=>qp (o:=0) ?_;refine ql hH ax ?_;refine qe hK<|ag.block<|qq<|qq<|qj fun K hK=>qg ?_;refine qm ?_;refine qe hK ?_
  by_cases q1:n.op=1
  ·rw[if_pos (.inl q1)];refine qD rfl (by simp[q1]) ?_;refine ag.skip<|qD rfl (by simp[q1]) ?_;refine qq<|qj fun K hK=>qp (o:=6) ?_;refine ql hH ax ?_;refine qg ?_;refine qm ?_;refine qm ?_;refine qe hK<|ag.ret ⟨rx,_,rfl,rl bf hH (rfl)⟩
  refine qE rfl (by simp[q1]) ?_;refine qq<|qj fun K hK=>qg ?_;refine qm ?_;refine qe hK ?_
  by_cases q7:n.op=7
  ·rw[if_pos (.inr (.inl q7))];refine qD rfl (by simp[q7]) ?_;refine ag.skip<|qD rfl (by simp[q7]) ?_;refine qq<|qj fun K hK=>qp (o:=6) ?_;refine ql hH ax ?_;refine qg ?_;refine qm ?_;refine qm ?_;refine qe hK<|ag.ret ⟨rx,_,rfl,rl bf hH (rfl)⟩
  refine qE rfl (by simp[q7]) ?_;refine qj fun K hK=>qg ?_;refine qm ?_;refine qe hK ?_
  by_cases q8:n.op=8
  ·rw[if_pos (.inr (.inr q8))];refine qD rfl (by simp[q8]) ?_;refine qq<|qj fun K hK=>qp (o:=6) ?_;refine ql hH ax ?_;refine qg ?_;refine qm ?_;refine qm ?_;refine qe hK<|ag.ret ⟨rx,_,rfl,rl bf hH (rfl)⟩
  refine qE rfl (by simp[q8]) ?_;rw[if_neg (by omega)];refine qq<|qj fun K hK=>qg ?_;refine qm ?_;refine qe hK ?_;refine ag.cond (by rfl) (fun q2=>?_) (fun q2=>?_)<;>try simp only[beq_iff_eq,beq_eq_false_iff_ne,ne_eq] at q2
  ·rw[if_pos q2];refine qq<|ag.IW [4,5] (fun ff=>ff 4=.int .i64 0∧ff 5=.bool ((n.kids==0) &&nB n.rs)) ?_ (fun ff tmp lZ=>?_)
   ·refine qp (o:=6) ?_;refine ql hH ax ?_;refine qg ?_;refine qm ?_;refine ae.two 23 rfl (fun bC=>?_) (fun bC=>?_)
    ·refine qp (o:=1) ?_ (hg:=wi bC);refine ql hH ax ?_ (hg:=wi bC);refine qv (CM (yM.rows hH) Bw) ?_ (hg:=wi bC);refine qt bC ?_;refine qm ?_;refine qm ?_;refine ae.nil (kf ?_ ?_)
     ·dsimp only[aD,List.foldl,nth,u2,u1]
     ·dsimp only[nth];dsimp only[Fr.ay,Fr.put,Fr.clean,Fr.ev,Fr.get,nth,V.look,u1,u2,v1,v2,v3,v4,v5,v6,v7,List.length,u3,u4,Nat.reduceSub,Nat.reduceAdd,List.map];refine⟨?_,?_⟩<;>(first|rfl|(simp[bC];done)|(simp_all;done)|(simp[bC];omega)|(simp_all;omega))
    ·refine qs ?_ (hg:=wn bC);refine qs ?_ (hg:=wn bC);refine qs ?_ (hg:=wn bC);refine qu bC ?_;refine qm ?_;refine qm ?_;refine ae.nil (kf ?_ ?_)
     ·dsimp only[aD,List.foldl,nth,u2,u1]
     ·dsimp only[nth];dsimp only[Fr.ay,Fr.put,Fr.clean,Fr.ev,Fr.get,nth,V.look,u1,u2,v1,v2,v3,v4,v5,v6,v7,List.length,u3,u4,Nat.reduceSub,Nat.reduceAdd,List.map];refine⟨?_,?_⟩<;>(first|rfl|(simp[bC];done)|(simp_all;done)|(simp[bC];omega)|(simp_all;omega))
   dsimp only[aD,List.foldl,nth,u2,u1];obtain⟨DZ,DY⟩:=lZ;rw[DZ,DY];refine ag.ret ⟨rx,_,rfl,rl bf hH (rfl)⟩
  rw[if_neg q2];refine qq<|qq<|qj fun K hK=>qg ?_;refine qm ?_;refine qe hK ?_
  by_cases q3:n.op=3
  ·rw[if_pos (.inl q3)];refine qD rfl (by simp[q3]) ?_;refine ag.skip<|qD rfl (by simp[q3]) ?_;refine qq<|qj fun K hK=>qp (o:=6) ?_;refine ql hH ax ?_;refine qp (o:=6) ?_;refine ql hH ax ?_;refine qg ?_;refine qm ?_;refine qm ?_;refine qe hK<|ag.ret ⟨rx,_,rfl,rl bf hH (rfl)⟩
  refine qE rfl (by simp[q3]) ?_;refine qj fun K hK=>qg ?_;refine qm ?_;refine qe hK ?_
  by_cases q4:n.op=4
  ·rw[if_pos (.inr q4)];refine qD rfl (by simp[q4]) ?_;refine qq<|qj fun K hK=>qp (o:=6) ?_;refine ql hH ax ?_;refine qp (o:=6) ?_;refine ql hH ax ?_;refine qg ?_;refine qm ?_;refine qm ?_;refine qe hK<|ag.ret ⟨rx,_,rfl,rl bf hH (rfl)⟩
  rw[if_neg (by omega)];refine qE rfl (by simp[q4]) ?_;refine qq<|qj fun K hK=>qg ?_;refine qm ?_;refine qe hK ?_;refine ag.cond (by rfl) (fun q5=>?_) (fun q5=>?_)<;>try simp only[beq_iff_eq,beq_eq_false_iff_ne,ne_eq] at q5
  ·rw[if_pos q5];refine qq<|ag.IW [4,5] (fun ff=>ff 4=.int .i64 1∧ff 5=.bool ((n.kids==1) &&decide (n.mn≥0) &&decide (n.mn≤30) &&((n.mx==-1)||(decide (n.mx≥n.mn) &&decide (n.mx≤30))))) ?_ (fun ff tmp lZ=>?_)
   ·refine qp (o:=6) ?_;refine ql hH ax ?_;refine qg ?_;refine qm ?_;refine ae.two 41 rfl (fun bC=>?_) (fun bC=>?_)
    ·refine qp (o:=2) ?_ (hg:=wi bC);refine ql hH ax ?_ (hg:=wi bC);refine qg ?_ (hg:=wi bC);refine qt bC ?_;refine qm ?_;refine ae.two 46 rfl (fun bL=>?_) (fun bL=>?_)
     ·refine qp (o:=2) ?_ (hg:=wi bL);refine ql hH ax ?_ (hg:=wi bL);refine qg ?_ (hg:=wi bL);refine qt bL ?_;refine qm ?_;refine ae.two 51 rfl (fun dW=>?_) (fun dW=>?_)
      ·refine qp (o:=3) ?_ (hg:=wi dW);refine ql hH ax ?_ (hg:=wi dW);refine qg ?_ (hg:=wi dW);refine qm ?_ (hg:=wi dW);refine ae.two 55 rfl (fun aF=>?_) (fun aF=>?_)
       ·refine qs ?_ (hg:=wn aF);refine qs ?_ (hg:=wn aF);refine qs ?_ (hg:=wn aF);refine qs ?_ (hg:=wn aF);refine qs ?_ (hg:=wn aF);refine qs ?_ (hg:=wn aF);refine qs ?_;refine qs ?_;refine qs ?_;refine qs ?_ (hg:=wn aF);refine ae.cP (aj rfl rfl rfl dW) rfl aF (aa rfl _) ?_;refine qt dW ?_;refine qm ?_;refine qm ?_;refine ae.nil (kf ?_ ?_)
        ·dsimp only[aD,List.foldl,nth,u2,u1]
        ·dsimp only[nth];dsimp only[Fr.ay,Fr.put,Fr.clean,Fr.ev,Fr.get,nth,V.look,u1,u2,v1,v2,v3,v4,v5,v6,v7,List.length,u3,u4,Nat.reduceSub,Nat.reduceAdd,List.map];refine⟨?_,?_⟩<;>(first|rfl|(simp[bC,bL,dW,aF];done)|(simp_all;done)|(simp[bC,bL,dW,aF];omega)|(simp_all;omega))
       ·refine qp (o:=3) ?_ (hg:=wi aF);refine ql hH ax ?_ (hg:=wi aF);refine qp (o:=2) ?_ (hg:=wi aF);refine ql hH ax ?_ (hg:=wi aF);refine qg ?_ (hg:=wi aF);refine qm ?_ (hg:=wi aF);refine ae.two 61 rfl (fun nV=>?_) (fun nV=>?_)
        ·refine qp (o:=3) ?_ (hg:=wi nV);refine ql hH ax ?_ (hg:=wi nV);refine qg ?_ (hg:=wi nV);refine ae.cP (aj rfl rfl rfl aF) rfl nV (aa rfl _) ?_;refine ae.cH (aj rfl rfl rfl dW) rfl aF (aa rfl _) ?_;refine qt dW ?_;refine qm ?_;refine qm ?_;refine ae.nil (kf ?_ ?_)
         ·dsimp only[aD,List.foldl,nth,u2,u1]
         ·dsimp only[nth];dsimp only[Fr.ay,Fr.put,Fr.clean,Fr.ev,Fr.get,nth,V.look,u1,u2,v1,v2,v3,v4,v5,v6,v7,List.length,u3,u4,Nat.reduceSub,Nat.reduceAdd,List.map];refine⟨?_,?_⟩<;>(first|rfl|(simp[bC,bL,dW,aF,nV];done)|(simp_all;done)|(simp[bC,bL,dW,aF,nV];omega)|(simp_all;omega))
        ·refine qs ?_ (hg:=wn nV);refine qs ?_ (hg:=wn nV);refine qs ?_ (hg:=wn nV);refine ae.cH (aj rfl rfl rfl aF) rfl nV (aa rfl _) ?_;refine ae.cH (aj rfl rfl rfl dW) rfl aF (aa rfl _) ?_;refine qt dW ?_;refine qm ?_;refine qm ?_;refine ae.nil (kf ?_ ?_)
         ·dsimp only[aD,List.foldl,nth,u2,u1]
         ·dsimp only[nth];dsimp only[Fr.ay,Fr.put,Fr.clean,Fr.ev,Fr.get,nth,V.look,u1,u2,v1,v2,v3,v4,v5,v6,v7,List.length,u3,u4,Nat.reduceSub,Nat.reduceAdd,List.map];refine⟨?_,?_⟩<;>(first|rfl|(simp[bC,bL,dW,aF,nV];done)|(simp_all;done)|(simp[bC,bL,dW,aF,nV];omega)|(simp_all;omega))
      ·refine qs ?_ (hg:=wn dW);refine qs ?_ (hg:=wn dW);refine qs ?_ (hg:=wn dW);refine qs ?_ (hg:=wn dW);refine qs ?_;refine qs ?_;refine qs ?_;refine qs ?_;refine qs ?_;refine qs ?_;refine qs ?_;refine qs ?_;refine qs ?_;refine qs ?_;refine qs ?_ (hg:=wn dW);refine qu dW ?_;refine qm ?_;refine qm ?_;refine ae.nil (kf ?_ ?_)
       ·dsimp only[aD,List.foldl,nth,u2,u1]
       ·dsimp only[nth];dsimp only[Fr.ay,Fr.put,Fr.clean,Fr.ev,Fr.get,nth,V.look,u1,u2,v1,v2,v3,v4,v5,v6,v7,List.length,u3,u4,Nat.reduceSub,Nat.reduceAdd,List.map];refine⟨?_,?_⟩<;>(first|rfl|(simp[bC,bL,dW];done)|(simp_all;done)|(simp[bC,bL,dW];omega)|(simp_all;omega))
     ·refine qs ?_ (hg:=wn bL);refine qs ?_ (hg:=wn bL);refine qs ?_ (hg:=wn bL);refine qu bL ?_;refine qm ?_;refine qs ?_;refine qs ?_;refine qs ?_;refine qs ?_;refine qs ?_;refine qs ?_;refine qs ?_;refine qs ?_;refine qs ?_;refine qs ?_;refine qs ?_;refine qs ?_;refine qs ?_;refine qs ?_;refine qs ?_;refine qg ?_;refine qm ?_;refine qm ?_;refine ae.nil (kf ?_ ?_)
      ·dsimp only[aD,List.foldl,nth,u2,u1]
      ·dsimp only[nth];dsimp only[Fr.ay,Fr.put,Fr.clean,Fr.ev,Fr.get,nth,V.look,u1,u2,v1,v2,v3,v4,v5,v6,v7,List.length,u3,u4,Nat.reduceSub,Nat.reduceAdd,List.map];refine⟨?_,?_⟩<;>(first|rfl|(simp[bC,bL];done)|(simp_all;done)|(simp[bC,bL];omega)|(simp_all;omega))
    ·refine qs ?_ (hg:=wn bC);refine qs ?_ (hg:=wn bC);refine qs ?_ (hg:=wn bC);refine qu bC ?_;refine qm ?_;refine qs ?_;refine qs ?_;refine qs ?_;refine qg ?_;refine qm ?_;refine qs ?_;refine qs ?_;refine qs ?_;refine qs ?_;refine qs ?_;refine qs ?_;refine qs ?_;refine qs ?_;refine qs ?_;refine qs ?_;refine qs ?_;refine qs ?_;refine qs ?_;refine qs ?_;refine qs ?_;refine qg ?_;refine qm ?_;refine qm ?_;refine ae.nil (kf ?_ ?_)
     ·dsimp only[aD,List.foldl,nth,u2,u1]
     ·dsimp only[nth];dsimp only[Fr.ay,Fr.put,Fr.clean,Fr.ev,Fr.get,nth,V.look,u1,u2,v1,v2,v3,v4,v5,v6,v7,List.length,u3,u4,Nat.reduceSub,Nat.reduceAdd,List.map];refine⟨?_,?_⟩<;>(first|rfl|(simp[bC];done)|(simp_all;done)|(simp[bC];omega)|(simp_all;omega))
   dsimp only[aD,List.foldl,nth,u2,u1];obtain⟨DZ,DY⟩:=lZ;rw[DZ,DY];refine ag.ret ⟨rx,_,rfl,rl bf hH (rfl)⟩
  rw[if_neg q5];refine qq<|qj fun K hK=>qg ?_;refine qm ?_;refine qe hK ?_;refine ag.cond (by rfl) (fun q6=>?_) (fun q6=>?_)<;>try simp only[beq_iff_eq,beq_eq_false_iff_ne,ne_eq] at q6
  ·rw[if_pos q6];refine qq<|ag.IW [4,5] (fun ff=>ff 4=.int .i64 1∧ff 5=.bool ((n.kids==1) &&(n.cap==((g+1:Nat):Int)) &&decide (n.cap≤4))) ?_ (fun ff tmp lZ=>?_)
   ·refine qp (o:=6) ?_;refine ql hH ax ?_;refine qg ?_;refine qm ?_;refine ae.two 73 rfl (fun bC=>?_) (fun bC=>?_)
    ·refine qp (o:=5) ?_ (hg:=wi bC);refine ql hH ax ?_ (hg:=wi bC);refine qm ?_ (hg:=wi bC);refine qA ?_ (hg:=wi bC);refine qg ?_ (hg:=wi bC);refine qt bC ?_;refine qm ?_;refine ae.two 80 rfl (fun bd=>?_) (fun bd=>?_)
     ·refine qp (o:=5) ?_ (hg:=wi bd);refine ql hH ax ?_ (hg:=wi bd);refine qg ?_ (hg:=wi bd);refine qt bd ?_;refine qm ?_;refine qm ?_;refine ae.nil (kf ?_ ?_)
      ·dsimp only[aD,List.foldl,nth,u2,u1]
      ·dsimp only[nth];dsimp only[Fr.ay,Fr.put,Fr.clean,Fr.ev,Fr.get,nth,V.look,u1,u2,v1,v2,v3,v4,v5,v6,v7,List.length,u3,u4,Nat.reduceSub,Nat.reduceAdd,List.map];refine⟨?_,?_⟩<;>(first|rfl|(simp[bC,bd];done)|(simp_all;done)|(simp[bC,bd];omega)|(simp_all;omega))
     ·refine qs ?_ (hg:=wn bd);refine qs ?_ (hg:=wn bd);refine qs ?_ (hg:=wn bd);refine qu bd ?_;refine qm ?_;refine qm ?_;refine ae.nil (kf ?_ ?_)
      ·dsimp only[aD,List.foldl,nth,u2,u1]
      ·dsimp only[nth];dsimp only[Fr.ay,Fr.put,Fr.clean,Fr.ev,Fr.get,nth,V.look,u1,u2,v1,v2,v3,v4,v5,v6,v7,List.length,u3,u4,Nat.reduceSub,Nat.reduceAdd,List.map];refine⟨?_,?_⟩<;>(first|rfl|(simp[bC,bd];done)|(simp_all;done)|(simp[bC,bd];omega)|(simp_all;omega))
    ·refine qs ?_ (hg:=wn bC);refine qs ?_ (hg:=wn bC);refine qs ?_ (hg:=wn bC);refine qs ?_ (hg:=wn bC);refine qs ?_ (hg:=wn bC);refine qu bC ?_;refine qm ?_;refine qs ?_;refine qs ?_;refine qs ?_;refine qg ?_;refine qm ?_;refine qm ?_;refine ae.nil (kf ?_ ?_)
     ·dsimp only[aD,List.foldl,nth,u2,u1]
     ·dsimp only[nth];dsimp only[Fr.ay,Fr.put,Fr.clean,Fr.ev,Fr.get,nth,V.look,u1,u2,v1,v2,v3,v4,v5,v6,v7,List.length,u3,u4,Nat.reduceSub,Nat.reduceAdd,List.map];refine⟨?_,?_⟩<;>(first|rfl|(simp[bC];done)|(simp_all;done)|(simp[bC];omega)|(simp_all;omega))
   dsimp only[aD,List.foldl,nth,u2,u1];obtain⟨DZ,DY⟩:=lZ;rw[DZ,DY];refine ag.ret ⟨rx,_,rfl,rl bf hH (rfl)⟩
  ·rw[if_neg q6];refine ag.skip<|qq<|qj fun K hK=>qm ?_;refine qm ?_;refine qe hK<|ag.ret ⟨rx,_,rfl,rl bf hH (rfl)⟩
theorem wk {n:bB} (h:n.ok):refs (aG n)=0:=by
 have:=h.1.ref;simp only[aG,refs,D.ref,this,Nat.max_self]
def oi (d:D) (at_ g:Nat):List D:=[d,.int .i64 (at_:Nat),.int .i64 (g:Nat)]
theorem C9 {l:List bB} {d:D} (hl:l.length≤1048576) (hi:∀n∈l,n.ok) (hd:gv d 7 (l.map aG)):∀(f:Nat) {N k:Nat} {S s0:St} {H:List bj} {at_ g:Nat},f≤241→g≤4→Has N S s0 (.box k (.mem 0 false (oi d at_ g))::H)→
  ∃r ah,Ev pv 189 [.ptr k 0 0,.int .i64 ((241-f:Nat):Int)] s0 r ah∧r=.bool (jf l f at_ g).isSome∧∃a' g',Has N S ah (.box k (.mem 0 false (oi d a' g'))::H)∧g'≤4∧∀q,jf l f at_ g=some q→a'=q.1∧g'=q.2:=by
 intro f
 induction f with
 |zero=>
  intro N k S s0 H at_ g hf hg hH;refine Ev.nj rfl G' rfl rfl rfl ?_;dsimp only[u3,u4,List.length,Nat.reduceSub,Nat.reduceAdd,w1,w2];have cD:=hH;have hH:=hH.cE;have cy:(ai .rw s0).bs=s0.bs:=rfl;generalize ai .rw s0=S2 at*;have hc:=hd.arg N S2;refine qq<|qj fun K hK=>qm ?_;refine qe hK<|qq<|qq<|ag.mP 21 (.bool (decide ((at_:Int)≥(l.length:Nat))||decide (((241-0:Nat):Int)>240))) [] ?_ (fun ff tmp fv=>?_)
  ·refine qm ?_;refine qg ?_;refine qp (o:=1) ?_;refine ql hH ax ?_;refine qm ?_;refine qg ?_;refine qp (o:=0) ?_;refine ql hH ax ?_;refine qn ?_;simp only[List.length_map];refine qg ?_;refine qm ?_;refine ae.two 18 rfl (fun bd=>?_) (fun bd=>?_)
   ·refine qs ?_ (hg:=wn bd);refine qs ?_ (hg:=wn bd);refine qt bd ?_;refine ae.nil (dB ?_ ?_)
    ·dsimp only[aD,List.foldl,nth,u2,u1]
     all_goals(first|rfl|simp)
    ·dsimp only[Fr.ay,Fr.put,Fr.clean,Fr.ev,Fr.get,nth,V.look,u1,u2,v1,v2,v3,v4,v5,v6,v7,List.length,u3,u4,Nat.reduceSub,Nat.reduceAdd,List.map]
     all_goals(simp[bd];done)
   ·refine qm ?_ (hg:=wi bd);refine qg ?_ (hg:=wi bd);refine qu bd ?_;refine ae.nil (dB ?_ ?_)
    ·dsimp only[aD,List.foldl,nth,u2,u1]
     all_goals(first|rfl|simp)
    ·dsimp only[Fr.ay,Fr.put,Fr.clean,Fr.ev,Fr.get,nth,V.look,u1,u2,v1,v2,v3,v4,v5,v6,v7,List.length,u3,u4,Nat.reduceSub,Nat.reduceAdd,List.map]
     all_goals(simp[bd];done)
  dsimp only[aD,List.foldl,nth,u2,u1];have hT:(decide ((at_:Int)≥(l.length:Nat))||decide (((241-0:Nat):Int)>240))=true:=by simp
  rw[hT] at fv;refine qB ?_;refine qq<|qj fun K hK=>qm ?_;refine qe hK<|ag.ret ⟨rx,_,_,_,rfl,ak (rfl),?_⟩;exact⟨rfl,_,_,cD.aw cy hH,hg,fun q hq=>by simp[jf] at hq⟩
 |succ f ih=>
  intro N k S s0 H at_ g hf hg hH;refine Ev.nj rfl G' rfl rfl rfl ?_;dsimp only[u3,u4,List.length,Nat.reduceSub,Nat.reduceAdd,w1,w2];have cD:=hH;have hH:=hH.cE;have cy:(ai .rw s0).bs=s0.bs:=rfl;generalize ai .rw s0=S2 at*;have hc:=hd.arg N S2;refine qq<|qj fun K hK=>qm ?_;refine qe hK<|qq<|qq<|ag.mP 21 (.bool (decide ((at_:Int)≥(l.length:Nat))||decide (((241-(f+1):Nat):Int)>240))) [] ?_ (fun ff tmp fv=>?_)
  ·refine qm ?_;refine qg ?_;refine qp (o:=1) ?_;refine ql hH ax ?_;refine qm ?_;refine qg ?_;refine qp (o:=0) ?_;refine ql hH ax ?_;refine qn ?_;simp only[List.length_map];refine qg ?_;refine qm ?_;refine ae.two 18 rfl (fun bd=>?_) (fun bd=>?_)
   ·refine qs ?_ (hg:=wn bd);refine qs ?_ (hg:=wn bd);refine qt bd ?_;refine ae.nil (dB ?_ ?_)
    ·dsimp only[aD,List.foldl,nth,u2,u1]
     all_goals(first|rfl|simp)
    ·dsimp only[Fr.ay,Fr.put,Fr.clean,Fr.ev,Fr.get,nth,V.look,u1,u2,v1,v2,v3,v4,v5,v6,v7,List.length,u3,u4,Nat.reduceSub,Nat.reduceAdd,List.map]
     all_goals(simp_all;done)
   ·refine qm ?_ (hg:=wi bd);refine qg ?_ (hg:=wi bd);refine qu bd ?_;refine ae.nil (dB ?_ ?_)
    ·dsimp only[aD,List.foldl,nth,u2,u1]
     all_goals(first|rfl|simp)
    ·dsimp only[Fr.ay,Fr.put,Fr.clean,Fr.ev,Fr.get,nth,V.look,u1,u2,v1,v2,v3,v4,v5,v6,v7,List.length,u3,u4,Nat.reduceSub,Nat.reduceAdd,List.map]
     all_goals(simp_all;omega)
  dsimp only[aD,List.foldl,nth,u2,u1]
  by_cases ha:l.length≤at_
  ·have hT:(decide ((at_:Int)≥(l.length:Nat))||decide (((241-(f+1):Nat):Int)>240))=true:=by
    rw[Bool.or_eq_true];exact .inl (by rw[decide_eq_true_eq];omega)
   rw[hT] at fv;have hn:jf l (f+1) at_ g=none:=by unfold jf;rw[List.getElem?_eq_none ha]
   rw[hn];refine qB ?_;refine qq<|qj fun K hK=>qm ?_;refine qe hK<|ag.ret ⟨rx,_,_,_,rfl,ak (rfl),?_⟩;exact⟨rfl,_,_,cD.aw cy hH,hg,fun q hq=>by cases hq⟩
  ·have hT:(decide ((at_:Int)≥(l.length:Nat))||decide (((241-(f+1):Nat):Int)>240))=false:=by
    rw[Bool.or_eq_false_iff];exact⟨by rw[decide_eq_false_iff_not];omega,by rw[decide_eq_false_iff_not];omega⟩
   rw[hT] at fv
   obtain⟨n,hn⟩:∃n,l[at_]?=some n:=⟨l[at_]'(by omega),List.getElem?_eq_getElem _⟩
   have rJ:=hi n (List.mem_of_getElem? hn);have gN:=kP hn;have Jl:=wk rJ
   have jE:jf l (f+1) at_ g=if(gf n (g:Nat)).2=true then ly (jf l f) (gf n (g:Nat)).1.toNat (at_+1) (if n.op=6 then g+1 else g) else none:=by
    rw[jf,hn]
   rw[jE];clear jE;refine qC ?_;refine ag.skip<|qq<|qj fun K hK=>qm ?_;refine qg ?_;refine qp (o:=0) ?_;refine ql hH ax ?_;refine qm ?_;refine qg ?_;refine qp (o:=1) ?_;refine ql hH ax ?_;refine qr fun Qo Ku=>?_;refine ae.dj rfl (ev rfl) (by assumption) rfl (aa rfl _) ?_;refine qa hH fun k5 st Gb hH=>?_;dsimp only[u2,u1,u3,u4,setMany,u5,u6,D.cells,Nat.reduceAdd,oi,aG] at hH;refine ae.b8 hH rfl (ev rfl) (ev rfl) (by rfl) (by exact rfl) (by exact ax) (by exact rfl) (by exact .inr (by assumption)) (fun st hH=>?_);dsimp only[u2,u1,u3,u4,setMany,u5,u6,D.cells,Nat.reduceAdd,oi,aG] at hH;refine qe hK<|qq<|qj fun K hK=>?_;refine ae.aV (m:=7) hH rfl (ev rfl) (by exact ax) (by dsimp only[List.drop_succ_cons,List.drop_zero,List.take_succ_cons,List.take_zero,oi,aG]<;>rfl) rfl rfl (aa rfl _) ?_;refine qm ?_;refine qg ?_;refine qp (o:=2) ?_;refine ql hH aX ?_;refine qv (xY rJ (by omega)) ?_;refine qm ?_;refine qg ?_;refine qg ?_;refine qm ?_;refine qm ?_;refine qe hK<|qq<|qq<|qj fun K hK=>qm ?_;refine qg ?_;refine qe hK ?_
   cases hsh:(gf n (g:Nat)).2 with
   |false=>
    rw[if_neg (by simp)];refine qB ?_;refine qq<|qj fun K hK=>qm ?_;refine qe hK<|ag.ret ⟨rx,_,_,_,rfl,ak (rfl),?_⟩;exact⟨rfl,_,_,cD.aw cy (hH.drop 1),hg,fun q hq=>by cases hq⟩
   |true=>
    rw[if_pos rfl];obtain⟨⟨lR,_⟩,hk2,Iq⟩:=vE hsh;have KV:=rJ.2.2;obtain⟨kd,BA⟩:∃kd:Nat,(gf n (g:Nat)).1=(kd:Int):=Int.eq_ofNat_of_zero_le hk2;rw[BA,Int.toNat_natCast];rw[BA,Int.toNat_natCast] at lR;refine qC ?_;refine ag.skip<|qq<|qj fun K hK=>qm ?_;refine qg ?_;refine qp (o:=1) ?_;refine ql hH aX ?_;refine qA ?_;refine qg ?_;refine qp (o:=1) ?_;refine qT hH aX fun st hH=>?_;dsimp only[u2,u1,u3,u4,setMany,u5,u6,D.cells,Nat.reduceAdd,oi,aG] at hH;refine qe hK<|qq<|qq<|qj fun K hK=>qp (o:=0) ?_;refine ql hH ax ?_;refine qg ?_;refine qe hK<|ag.merge (fun fr st=>∃(g2:Nat) (tmp:List (Nat×D)),fr=⟨8,[.ptr k 0 0,.int .i64 ((241-(f+1):Nat):Int),nN fr 2,nN fr 3,.bool false,.ptr k5 0 0,.int .i64 (kd:Nat),.bool true],tmp⟩∧Has N S2 st (.box k (.mem 0 false [d,.int .i64 ((at_+1:Nat):Int),.int .i64 (g2:Nat)])::.box k5 (.mem 0 false (aG n))::H)∧(g2=if n.op=6 then g+1 else g)∧(g2≤4)) ?_ ?_
    ·refine ag.cond (by rfl) (fun q6=>?_) (fun q6=>?_)<;>try simp only[beq_iff_eq,beq_eq_false_iff_ne,ne_eq] at q6
     ·have:=Iq q6;refine qj fun K hK=>qm ?_;refine qg ?_;refine qp (o:=2) ?_;refine ql hH aX ?_;refine qA ?_;refine qg ?_;refine qp (o:=2) ?_;refine qT hH aX fun st hH=>?_;dsimp only[u2,u1,u3,u4,setMany,u5,u6,D.cells,Nat.reduceAdd,oi,aG] at hH;refine qe hK ?_;exact⟨g+1,_,rfl,(by have:=hH.front aX;exact this),by rw[if_pos q6],by omega⟩
     ·refine ag.skip ?_;exact⟨g,_,rfl,(by have:=hH.front aX;exact this),by rw[if_neg q6],hg⟩
    ·rintro fr st ⟨g2,tmp,hfr,hH,aN,bC⟩;rw[hfr];clear hfr;generalize nN fr=ee;clear fr;rw[←aN];refine qq<|ag.block<|ag.loop (fun mm fr st=>∃(kk a2 g4:Nat),fr.clean=⟨8,[.ptr k 0 0,.int .i64 ((241-(f+1):Nat):Int),nN fr 2,nN fr 3,.bool false,.ptr k5 0 0,.int .i64 (kk:Nat),.bool true],[]⟩∧Has N S2 st (.box k (.mem 0 false [d,.int .i64 (a2:Nat),.int .i64 (g4:Nat)])::.box k5 (.mem 0 false (aG n))::H)∧(ly (jf l f) kk a2 g4=ly (jf l f) kd (at_+1) g2)∧(g4≤4)∧(kk=mm)∧(kk≤9223372036854775807)) (kd) ?_ ?_
     ·exact⟨kd,at_+1,g2,rfl,hH,rfl,bC,rfl,by omega⟩
     rintro mm fr st ⟨kk,a2,g4,hfr,hH,hX,ba,Ce,hkk⟩;rw[hfr];clear hfr;generalize nN fr=ee;clear fr;refine qq<|qq<|qj fun K hK=>qm ?_;refine qg ?_;refine qe hK ?_
     cases kk with
     |zero=>
      refine ag.cond (v:=false) (by dsimp only[Fr.ev,Fr.get,nth,V.look];rfl) (fun h=>by cases h) (fun _=>?_);refine ag.exit<|qq<|qj fun K hK=>qm ?_;refine qe hK<|ag.ret ⟨rx,_,_,_,rfl,ak (rfl),?_⟩;exact⟨by rw[←hX];rfl,_,_,cD.aw cy (hH.erase 1),ba,fun q hq=>by rw[←hX] at hq;simp only[ly,Option.some.injEq] at hq;subst hq;exact⟨rfl,rfl⟩⟩
     |succ kk=>
      rw[ly] at hX;refine qD rfl (by simp) ?_;refine ag.skip<|qq<|ag.block<|qq<|qj fun K hK=>qm ?_;refine qm ?_;refine ae.hC (z:=((241-f:Nat):Int)) rfl (ev rfl) (ev rfl) (by(try simp only[List.length_reverse,List.length_cons,List.length_nil,List.length_append,List.length_map,List.length_set]);rw[wrap_i64 (by omega) (by omega)]<;>omega) (aa rfl _) ?_;obtain⟨_,st,aI,rfl,a',g',hH,fk,hq⟩:=ih (at_:=a2) (g:=g4) (by omega) ba hH;refine qv aI ?_;refine qg ?_;refine qe hK ?_
      cases ho:jf l f a2 g4 with
      |none=>
       rw[ho] at hX;refine qB ?_;refine qq<|qj fun K hK=>qm ?_;refine qe hK<|ag.ret ⟨rx,_,_,_,rfl,ak (rfl),?_⟩;exact⟨by rw[←hX];rfl,_,_,cD.aw cy (hH.erase 1),fk,fun q hq=>by rw[←hX] at hq;cases hq⟩
      |some q=>
       rw[ho] at hX;obtain⟨rfl,rfl⟩:=hq q ho;refine qC ?_;refine ag.skip<|qj fun K hK=>qm ?_;refine ae.oS (z:=((kk:Nat):Int)) rfl (ev rfl) (ev rfl) (by(try simp only[List.length_reverse,List.length_cons,List.length_nil,List.length_append,List.length_map,List.length_set]);rw[wrap_i64 (by omega) (by omega)]<;>omega) (aa rfl _) ?_;refine qm ?_;refine qe hK ?_;exact⟨mm-1,by omega,⟨kk,q.1,q.2,rfl,hH,hX,fk,by omega,by omega⟩⟩
theorem sL {s0:St} {x:Nl} (hx:x.ok):Ev pv 135 [x.d] s0 (.bool (gR x.l)) s0:=by
 refine Ev.jq rfl Mo rfl rfl rfl ?_;dsimp only[u3,u4,List.length,Nat.reduceSub,Nat.reduceAdd,w1,w2];obtain⟨bf,hF,hH⟩:=ri s0;generalize ai .ro s0=S at*;have hc:=hx.c.arg s0.bs.length S;have hl:=hx.nl;have w5:=hx.c;refine qq<|qj fun K hK=>qm ?_;refine qe hK<|qq<|qq<|ag.mP 11 (.bool (decide (((x.l.length:Nat):Int)<1)||decide (((x.l.length:Nat):Int)>480))) [] ?_ (fun ff tmp fv=>?_)
 ·refine qm ?_;refine qn ?_;simp only[List.length_map];refine qg ?_;refine qm ?_;refine ae.two 7 rfl (fun bC=>?_) (fun bC=>?_)
  ·refine qs ?_ (hg:=wn bC);refine qs ?_ (hg:=wn bC);refine qs ?_ (hg:=wn bC);refine qt bC ?_;refine ae.nil (dB ?_ ?_)
   ·dsimp only[aD,List.foldl,nth,u2,u1]
    all_goals(first|rfl|simp)
   ·dsimp only[Fr.ay,Fr.put,Fr.clean,Fr.ev,Fr.get,nth,V.look,u1,u2,v1,v2,v3,v4,v5,v6,v7,List.length,u3,u4,Nat.reduceSub,Nat.reduceAdd,List.map]
    all_goals(simp[bC];done)
  ·refine qm ?_ (hg:=wi bC);refine qn ?_ (hg:=wi bC);simp only[List.length_map];refine qg ?_ (hg:=wi bC);refine qu bC ?_;refine ae.nil (dB ?_ ?_)
   ·dsimp only[aD,List.foldl,nth,u2,u1]
    all_goals(first|rfl|simp)
   ·dsimp only[Fr.ay,Fr.put,Fr.clean,Fr.ev,Fr.get,nth,V.look,u1,u2,v1,v2,v3,v4,v5,v6,v7,List.length,u3,u4,Nat.reduceSub,Nat.reduceAdd,List.map]
    all_goals(simp[bC];done)
 dsimp only[aD,List.foldl,nth,u2,u1]
 by_cases hlen:1≤x.l.length∧x.l.length≤480
 ·have hT:(decide (((x.l.length:Nat):Int)<1)||decide (((x.l.length:Nat):Int)>480))=false:=by
   rw[Bool.or_eq_false_iff];exact⟨by rw[decide_eq_false_iff_not];omega,by rw[decide_eq_false_iff_not];omega⟩
  rw[hT] at fv
  have hR:gR x.l=(match jf x.l 241 0 0 with|some r=>decide (r.1=x.l.length)|none=>false):=by
   unfold gR;rw[decide_eq_true hlen.1,decide_eq_true hlen.2];rfl
  rw[hR];clear hR;refine qC ?_;refine ag.skip<|qq<|qj fun K hK=>qm ?_;refine ae.ie (qs:=[(0,_)]) rfl rfl rfl rfl ⟨rfl,(ev rfl),(by exact(gv.cells (by assumption)).1),trivial⟩ (by intro q hq;simp only[List.mem_cons,List.not_mem_nil,or_false] at hq;rcases hq with rfl<;>exact⟨rfl,by exact Nat.le_of_ble_eq_true rfl⟩) (by show List.foldl _ [_,_,_] _=_;dsimp only[List.foldl_cons,List.foldl_nil,u2,u1]<;>rfl) (aa rfl _) ?_;refine qb hH fun k14 st KY hH=>?_;refine qm ?_;refine qe hK ?_;have hH:Has s0.bs.length S st (.box k14 (.mem 0 false (oi x.d 0 0))::[]):=hH
  cases aN:(jf x.l 241 0 0).isSome with
  |true=>
   obtain⟨q,hq⟩:=Option.isSome_iff_exists.1 aN;refine qq<|qj fun K hK=>qm ?_;obtain⟨_,st,aI,rfl,a',g',hH,fk,QI⟩:=C9 hl hx.i hx.c 241 (by omega) (by omega) hH;refine qv aI ?_;refine qm ?_;refine qm ?_ (hg:=wi aN);refine qg ?_ (hg:=wi aN);refine qp (o:=1) ?_ (hg:=wi aN);refine ql hH ax ?_ (hg:=wi aN);refine qm ?_ (hg:=wi aN);refine qn ?_ (hg:=wi aN);simp only[List.length_map];refine qg ?_ (hg:=wi aN);refine qt aN ?_;refine qm ?_;refine qe hK ?_;obtain⟨rfl,rfl⟩:=QI q hq;rw[hq]
   have he:decide (q.1=x.l.length)=(((q.1:Nat):Int)==((x.l.length:Nat):Int)):=by
    rw[Bool.eq_iff_iff];simp only[decide_eq_true_eq,beq_iff_eq];omega
   simp only[he];refine ag.ret ⟨rx,_,rfl,rl bf hH (rfl)⟩
  |false=>
   have hq:jf x.l 241 0 0=none:=by
    cases hq:jf x.l 241 0 0 with
    |none=>rfl
    |some q=>rw[hq] at aN;cases aN
   refine qq<|qj fun K hK=>qm ?_;obtain⟨_,st,aI,rfl,a',g',hH,fk,QI⟩:=C9 hl hx.i hx.c 241 (by omega) (by omega) hH;refine qv aI ?_;refine qm ?_;refine qs ?_ (hg:=wn aN);refine qs ?_ (hg:=wn aN);refine qs ?_ (hg:=wn aN);refine qs ?_ (hg:=wn aN);refine qs ?_ (hg:=wn aN);refine qs ?_ (hg:=wn aN);refine qs ?_ (hg:=wn aN);refine qu aN ?_;refine qm ?_;refine qe hK ?_;rw[hq];refine ag.ret ⟨rx,_,rfl,rl bf hH (rfl)⟩
 ·have hT:(decide (((x.l.length:Nat):Int)<1)||decide (((x.l.length:Nat):Int)>480))=true:=by
   rw[Bool.or_eq_true,decide_eq_true_eq,decide_eq_true_eq];omega
  rw[hT] at fv
  have hR:gR x.l=false:=by
   unfold gR
   by_cases h1:1≤x.l.length
   ·rw[decide_eq_true h1,decide_eq_false (fun h2=>hlen ⟨h1,h2⟩)];rfl
   ·rw[decide_eq_false h1];rfl
  rw[hR];refine qB ?_;refine qq<|qj fun K hK=>qm ?_;refine qe hK<|ag.ret ⟨rx,_,rfl,rl bf hH (rfl)⟩
def aK (fr:Go.V.Fr) (k:Nat):Go.V.D:=Go.V.nth .bp fr.loc k
def ni (es:List Int) (a:Nat) (M:List Int):List Int:=es.take a++M++es.drop (a+M.length)
theorem zw {es M:List Int} {a:Nat} (h:a+M.length≤es.length):(ni es a M).length=es.length:=by
 unfold ni;simp only[List.length_append,List.length_take,List.length_drop];omega
theorem zu {es:List Int} {a:Nat}:ni es a []=es:=by
 unfold ni;simp
theorem Fb {es M:List Int} {a:Nat} {x:Int} (h:a≤es.length):(ni es a (x::M))[a]?=some x:=by
 unfold ni;rw[List.append_assoc,List.getElem?_append_right (by simp only[List.length_take];omega)];simp[Nat.min_eq_left h]
theorem zr {es M M':List Int} {a:Nat} (h:a+M.length+M'.length≤es.length):ni (ni es a M) (a+M.length) M'=ni es a (M++M'):=by
 unfold ni;have h1:(es.take a++M).length=a+M.length:=by simp only[List.length_append,List.length_take];omega
 rw[List.take_append_of_le_length (by omega),List.take_of_length_le (by omega)];rw[←h1,List.drop_append,List.drop_eq_nil_of_le (by omega),List.nil_append,h1,List.drop_drop];simp only[List.append_assoc,List.length_append]
 congr 4
 omega
theorem zt {es M:List Int} {a:Nat} {v:Int} (h:a+1+M.length≤es.length):(ni es (a+1) M).set a v=ni es a (v::M):=by
 unfold ni;have h1:(es.take a).length=a:=by simp only[List.length_take];omega
 rw[List.append_assoc,List.take_add_one,List.getElem?_eq_getElem (by omega)];simp only[Option.toList_some,List.append_assoc,List.cons_append,List.nil_append,List.length_cons];rw[List.set_append_right _ _ (by omega),h1,Nat.sub_self,List.set_cons_zero]
 congr 4
 omega
theorem CD {l:List bB} {d:D} (hl:l.length≤1048576) (hi:∀n∈l,n.ok) (hd:gv d 7 (l.map aG)):∀(m:Nat) (t:Tr),t.flat.length≤m→t.ok→∀{N:Nat} {S s0:St} {H:List bj} {out:D} {es:List Int} {at_:Nat},fY l at_ t.flat→es.length=l.length→Has N S s0 (.aE out 1 (es.map aB)::H)→
  ∃r ah,Ev pv 136 [d,out,.int .i64 (at_:Nat)] s0 r ah∧r=.int .i64 ((at_+t.flat.length:Nat):Int)∧Has N S ah (.aE out 1 ((ni es at_ t.zs).map aB)::H):=by
 intro m
 induction m with
 |zero=>intro t h;have:=t.jk;omega
 |succ m ih=>
  rintro⟨n,ks⟩ hm eo N S s0 H out es at_ mI vh hH;simp only[Tr.ok] at eo;obtain⟨rJ,tf⟩:=eo;simp only[Tr.flat,List.length_cons] at hm;have hle:=mI.le (by simp[Tr.flat]);simp only[Tr.flat] at mI hle;simp only[List.length_cons] at hle;have hn:=mI.head;have mI:=mI.tail;have KD:=hi n (List.mem_of_getElem? hn);have gN:=kP hn;have Jl:=wk KD;have BA:=rJ.1;have jU:=aO.nL ks;refine Ev.nj rfl Mn rfl rfl rfl ?_;dsimp only[u3,u4,List.length,Nat.reduceSub,Nat.reduceAdd,w1,w2];have cD:=hH;have hH:=hH.cE;have cy:(ai .rw s0).bs=s0.bs:=rfl;generalize ai .rw s0=S2 at*;have hc:=hd.arg N S2;refine qq<|qj fun K hK=>qm ?_;refine qe hK<|qq<|qj fun K hK=>qm ?_;refine qm ?_;refine qr fun RL OK=>?_;refine ae.dj rfl (ev rfl) (by assumption) rfl (by dsimp only[Fr.put,u1,u2]<;>rfl) ?_;refine qa hH fun k7 st QP hH=>?_;refine ae.b8 hH rfl (ev rfl) (ev rfl) (by rfl) (by exact rfl) (by exact ax) (by exact rfl) (by exact .inr (by assumption)) (fun st hH=>?_);dsimp only[u2,u1,u3,u4,setMany,u5,u6,D.cells,Nat.reduceAdd,aG,aB] at hH;refine qe hK<|qq<|qj fun K hK=>qm ?_;refine qA ?_;refine qm ?_;refine qe hK<|qq<|qj fun K hK=>qm ?_;refine qe hK<|qq<|qq<|qj fun K hK=>qp (o:=6) ?_;refine ql hH ax ?_;refine qm ?_;refine qe hK<|ag.block<|ag.loop (fun mm fr st=>∃(i j ss:Nat) (rest:aO) (oZ:List Int),fr.clean=⟨36,[d,out,.int .i64 (at_:Nat),aK fr 3,aK fr 4,aK fr 5,.int .i64 0,.ptr k7 0 0,.int .i64 (j:Nat),.int .i64 ((min ss 401:Nat):Int),aK fr 10,aK fr 11,aK fr 12,aK fr 13,aK fr 14,aK fr 15,aK fr 16,aK fr 17,.int .i64 n.kids,.int .i64 (i:Nat),aK fr 20,aK fr 21,aK fr 22,aK fr 23,aK fr 24,aK fr 25,aK fr 26,aK fr 27,aK fr 28,aK fr 29,aK fr 30,aK fr 31,aK fr 32,aK fr 33,aK fr 34,aK fr 35],[]⟩∧Has N S2 st (.aE out 1 (oZ.map aB)::.box k7 (.mem 0 false (aG n))::H)∧(mm=rest.len)∧(i+rest.len=ks.len)∧(fY l j rest.flat)∧(rest.ok)∧(ss+rest.sz=ks.sz)∧(oZ.length=l.length)∧(ni oZ j rest.zs=ni es (at_+1) ks.zs)∧(j+rest.flat.length=at_+1+ks.flat.length)∧(rest.flat.length≤m)) (ks.len) ?_ ?_
  ·exact⟨0,at_+1,0,ks,es,rfl,(by have:=hH.front aX;exact this),rfl,by omega,mI,tf,by omega,vh,rfl,rfl,by omega⟩
  rintro mm fr st ⟨i,j,ss,rest,oZ,hfr,hH,xF,rM,oW,jO,Ca,yQ,rU,hj,hrm⟩;rw[hfr];clear hfr;generalize aK fr=ee;clear fr;refine qq<|qj fun K hK=>qg ?_;refine qe hK ?_
  cases rest with
  |nil=>
   simp only[aO.len] at rM;simp only[aO.sz] at Ca;simp only[aO.flat,List.length_nil] at hj;simp only[aO.zs,zu] at rU;have gy:decide ((i:Int)<n.kids)=false:=by rw[decide_eq_false_iff_not];omega
   refine qq<|qE rfl (by rw[gy]) ?_;refine ag.exit ?_;obtain rfl:ss=ks.sz:=by omega
   have mI:=oW;refine qq<|qq<|qj fun K hK=>qp (o:=0) ?_;refine ql hH aX ?_;refine qe hK<|ag.merge (fun fr st=>∃(tmp:List (Nat×D)),fr=⟨36,[d,out,.int .i64 (at_:Nat),aK fr 3,aK fr 4,aK fr 5,.int .i64 0,.ptr k7 0 0,.int .i64 (j:Nat),.int .i64 ((bQ n (min ks.sz 401) ks.len:Nat):Int),aK fr 10,aK fr 11,aK fr 12,aK fr 13,aK fr 14,aK fr 15,aK fr 16,aK fr 17,aK fr 18,aK fr 19,aK fr 20,aK fr 21,aK fr 22,aK fr 23,aK fr 24,aK fr 25,aK fr 26,aK fr 27,aK fr 28,aK fr 29,aK fr 30,aK fr 31,aK fr 32,aK fr 33,aK fr 34,aK fr 35],tmp⟩∧Has N S2 st (.aE out 1 (oZ.map aB)::.box k7 (.mem 0 false (aG n))::H)) ?_ ?_
   ·refine ag.block<|qq<|qq<|qj fun K hK=>qg ?_;refine qm ?_;refine qe hK ?_;generalize hw:min ks.sz 401=w;have N5:w≤401:=by omega
    have jF:ks.len≤9223372036854775→True:=fun _=>trivial
    by_cases q2:n.op=2
    ·have hz:bQ n w ks.len=1:=by unfold bQ;rw[if_pos (.inl q2)]
     rw[hz];refine qD rfl (by simp[q2]) ?_;refine ag.skip<|qD rfl (by simp[q2]) ?_;refine qj fun K hK=>qm ?_;refine qe hK ?_;exact⟨_,rfl,hH⟩
    refine qE rfl (by simp[q2]) ?_;refine qq<|qj fun K hK=>qg ?_;refine qm ?_;refine qe hK ?_
    by_cases q7:n.op=7
    ·have hz:bQ n w ks.len=1:=by unfold bQ;rw[if_pos (.inr (.inl q7))]
     rw[hz];refine qD rfl (by simp[q7]) ?_;refine ag.skip<|qD rfl (by simp[q7]) ?_;refine qj fun K hK=>qm ?_;refine qe hK ?_;exact⟨_,rfl,hH⟩
    refine qE rfl (by simp[q7]) ?_;refine qj fun K hK=>qg ?_;refine qm ?_;refine qe hK ?_
    by_cases q8:n.op=8
    ·have hz:bQ n w ks.len=1:=by unfold bQ;rw[if_pos (.inr (.inr q8))]
     rw[hz];refine qD rfl (by simp[q8]) ?_;refine qj fun K hK=>qm ?_;refine qe hK ?_;exact⟨_,rfl,hH⟩
    refine qE rfl (by simp[q8]) ?_
    have hz0:bQ n w ks.len=if n.op=4 then w+2*(ks.len-1) else if n.op=6 then w+2 else if n.op=5 then(if n.mx=-1 then n.mn.toNat*w+w+2 else n.mn.toNat*w+(n.mx.toNat-n.mn.toNat)*(w+1)) else w:=by
     unfold bQ;rw[if_neg (by omega)]
    rw[hz0];clear hz0;obtain⟨_,hcs⟩:=rJ;have hq:(n.op=1∧ks.len=0)∨((n.op=3∨n.op=4)∧2≤ks.len)∨(n.op=5∧ks.len=1∧0≤n.mn∧n.mn≤30∧(n.mx=-1∨(n.mn≤n.mx∧n.mx≤30)))∨(n.op=6∧ks.len=1∧1≤n.cap∧n.cap≤4):=by omega
    refine qq<|qj fun K hK=>qg ?_;refine qm ?_;refine qe hK ?_
    by_cases q4:n.op=4
    ·rw[if_pos q4];have hk2:2≤ks.len:=by omega
     refine qD rfl (by simp[q4]) ?_;refine qj fun K hK=>qm ?_;refine qp (o:=6) ?_;refine ql hH aX ?_;refine ae.oS (z:=((ks.len-1:Nat):Int)) rfl (ev rfl) (ev rfl) (by(try simp only[List.length_reverse,List.length_cons,List.length_nil,List.length_append,List.length_map,List.length_set]);rw[wrap_i64 (by omega) (by omega)]<;>omega) (aa rfl _) ?_;refine ae.yt (z:=((2*(ks.len-1):Nat):Int)) rfl (ev rfl) (ev rfl) (by(try simp only[List.length_reverse,List.length_cons,List.length_nil,List.length_append,List.length_map,List.length_set]);rw[wrap_i64 (by omega) (by omega)]<;>omega) (aa rfl _) ?_;refine ae.hC (z:=((w+2*(ks.len-1):Nat):Int)) rfl (ev rfl) (ev rfl) (by(try simp only[List.length_reverse,List.length_cons,List.length_nil,List.length_append,List.length_map,List.length_set]);rw[wrap_i64 (by omega) (by omega)]<;>omega) (aa rfl _) ?_;refine qm ?_;refine qe hK ?_;exact⟨_,rfl,hH⟩
    rw[if_neg q4];refine qE rfl (by simp[q4]) ?_;refine qq<|qj fun K hK=>qg ?_;refine qm ?_;refine qe hK ?_
    by_cases q6:n.op=6
    ·rw[if_pos q6];refine qD rfl (by simp[q6]) ?_;refine qj fun K hK=>qm ?_;refine qA ?_;refine qm ?_;refine qe hK ?_;exact⟨_,rfl,hH⟩
    rw[if_neg q6];refine qE rfl (by simp[q6]) ?_;refine qq<|qj fun K hK=>qg ?_;refine qm ?_;refine qe hK ?_
    by_cases q5:n.op=5
    ·rw[if_pos q5];refine qD rfl (by simp[q5]) ?_;refine qq<|qj fun K hK=>qp (o:=3) ?_;refine ql hH aX ?_;refine qg ?_;refine qe hK ?_;have Cd:0≤n.mn∧n.mn≤30∧(n.mx=-1∨(n.mn≤n.mx∧n.mx≤30)):=by omega
     obtain⟨a,ha⟩:∃a:Nat,n.mn=(a:Int):=Int.eq_ofNat_of_zero_le Cd.1;have R7:n.mn.toNat=a:=by omega
     have h1:a*w≤30*401:=Nat.mul_le_mul (by omega) N5;have hmul:n.mn*(w:Int)=((a*w:Nat):Int):=by rw[ha];push_cast;rfl
     rw[R7]
     by_cases CQ:n.mx=-1
     ·rw[if_pos CQ];refine qD rfl (by simp[CQ]) ?_;refine qj fun K hK=>qp (o:=2) ?_;refine ql hH aX ?_;refine qm ?_;refine ae.yt (z:=((a*w:Nat):Int)) rfl (ev rfl) (ev rfl) (by(try simp only[List.length_reverse,List.length_cons,List.length_nil,List.length_append,List.length_map,List.length_set]);rw[wrap_i64 (by omega) (by omega)]<;>omega) (aa rfl _) ?_;refine qm ?_;refine ae.hC (z:=((a*w+w:Nat):Int)) rfl (ev rfl) (ev rfl) (by(try simp only[List.length_reverse,List.length_cons,List.length_nil,List.length_append,List.length_map,List.length_set]);rw[wrap_i64 (by omega) (by omega)]<;>omega) (aa rfl _) ?_;refine ae.hC (z:=((a*w+w+2:Nat):Int)) rfl (ev rfl) (ev rfl) (by(try simp only[List.length_reverse,List.length_cons,List.length_nil,List.length_append,List.length_map,List.length_set]);rw[wrap_i64 (by omega) (by omega)]<;>omega) (aa rfl _) ?_;refine qm ?_;refine qe hK ?_;exact⟨_,rfl,hH⟩
     ·rw[if_neg CQ];obtain⟨b,hb⟩:∃b:Nat,n.mx=(b:Int):=Int.eq_ofNat_of_zero_le (by omega);have Jk:n.mx.toNat=b:=by omega
      have h2:(b-a)*(w+1)≤30*402:=Nat.mul_le_mul (by omega) (by omega);rw[Jk];refine qE rfl (by simp[CQ]) ?_;refine qj fun K hK=>qp (o:=2) ?_;refine ql hH aX ?_;refine qm ?_;refine ae.yt (z:=((a*w:Nat):Int)) rfl (ev rfl) (ev rfl) (by(try simp only[List.length_reverse,List.length_cons,List.length_nil,List.length_append,List.length_map,List.length_set]);rw[wrap_i64 (by omega) (by omega)]<;>omega) (aa rfl _) ?_;refine qp (o:=3) ?_;refine ql hH aX ?_;refine qp (o:=2) ?_;refine ql hH aX ?_;refine ae.oS (z:=((b-a:Nat):Int)) rfl (ev rfl) (ev rfl) (by(try simp only[List.length_reverse,List.length_cons,List.length_nil,List.length_append,List.length_map,List.length_set]);rw[wrap_i64 (by omega) (by omega)]<;>omega) (aa rfl _) ?_;refine qm ?_;refine ae.hC (z:=((w+1:Nat):Int)) rfl (ev rfl) (ev rfl) (by(try simp only[List.length_reverse,List.length_cons,List.length_nil,List.length_append,List.length_map,List.length_set]);rw[wrap_i64 (by omega) (by omega)]<;>omega) (aa rfl _) ?_;refine ae.yt (z:=(((b-a)*(w+1):Nat):Int)) rfl (ev rfl) (ev rfl) (by(try simp only[List.length_reverse,List.length_cons,List.length_nil,List.length_append,List.length_map,List.length_set]);rw[wrap_i64 (by omega) (by omega)]<;>omega) (aa rfl _) ?_;refine ae.hC (z:=((a*w+(b-a)*(w+1):Nat):Int)) rfl (ev rfl) (ev rfl) (by(try simp only[List.length_reverse,List.length_cons,List.length_nil,List.length_append,List.length_map,List.length_set]);rw[wrap_i64 (by omega) (by omega)]<;>omega) (aa rfl _) ?_;refine qm ?_;refine qe hK ?_;exact⟨_,rfl,hH⟩
    ·rw[if_neg q5];refine qE rfl (by simp[q5]) ?_;refine ag.skip ?_;exact⟨_,rfl,hH⟩
   ·rintro fr st ⟨tmp,hfr,hH⟩;rw[hfr];clear hfr;generalize aK fr=ee;clear fr;have kh:=GF (n:=n) (k:=ks.len) (s:=ks.sz);have hat:at_<oZ.length:=by omega
    obtain⟨w,hw⟩:∃w,oZ[at_]?=some w:=⟨oZ[at_]'hat,List.getElem?_eq_getElem _⟩
    have Sr:=iF hw;refine qq<|qj fun K hK=>qm ?_;refine qm ?_;refine qm ?_;refine ae.J7 (z:=((min (bQ n ks.sz ks.len) 401:Nat):Int)) (t1:=_) (t2:=_) rfl (ev rfl) (ev rfl) (by omega) (aa rfl _) ?_;refine qi hH ax fun Rx Ou=>?_;refine ae.pR hH rfl (ev rfl) (ev rfl) (by assumption) rfl rfl (by exact ax) (by assumption) (Nat.le_of_ble_eq_true rfl) (by exact .inr rfl) (fun st hH=>?_);dsimp only[u2,u1,u3,u4,setMany,u5,u6,D.cells,Nat.reduceAdd,aG,aB] at hH;refine qe hK<|qq<|qj fun K hK=>qm ?_;refine qm ?_;refine qe hK<|ag.ret ⟨rx,_,_,_,rfl,ak (rfl),?_⟩;have KZ:j=at_+(Tr.mk n ks).flat.length:=by simp only[Tr.flat,List.length_cons];omega
    refine⟨by rw[KZ];rfl,?_⟩
    have g_:ni es at_ (Tr.zs (.mk n ks))=oZ.set at_ ((min (bQ n ks.sz ks.len) 401:Nat):Int):=by
     rw[rU,zt (by rw[aO.iO];omega)];rfl
    rw[g_,List.map_set];exact cD.qH cy (hH.erase 1)
  |cons t ts=>
   simp only[aO.len] at rM xF;simp only[aO.sz] at Ca;simp only[aO.flat,List.length_append] at hj oW hrm;simp only[aO.zs] at rU;simp only[aO.ok] at jO;have gy:decide ((i:Int)<n.kids)=true:=by rw[decide_eq_true_eq];omega
   have R6:=t.jk;have HS:=t.iO;have hzz:=ts.iO;have Iu:(ni oZ j t.zs).length=l.length:=by rw[zw (by omega)];exact yQ
   have RU:(ni oZ j t.zs)[j]?=some ((min t.sz 401:Nat):Int):=by
    obtain⟨n',Ke⟩:=t;simp only[Tr.zs,Tr.sz];exact Fb (by omega)
   have UH:=iF RU;refine qq<|qD rfl (by rw[gy]) ?_;refine ag.skip<|qq<|ag.block<|qq<|qj fun K hK=>qm ?_;refine qm ?_;refine qe hK<|qq<|qj fun K hK=>qm ?_;refine qm ?_;refine qm ?_;obtain⟨_,st,aI,rfl,hH⟩:=ih t (by omega) jO.1 oW.left yQ hH;refine qv aI ?_;refine qm ?_;refine qe hK<|qj fun K hK=>qm ?_;refine qm ?_;refine qm ?_;refine qi hH ax fun Qp Kv=>?_;refine qo hH ax ?_;refine ae.hC (z:=((min ss 401+min t.sz 401:Nat):Int)) rfl (ev rfl) (ev rfl) (by(try simp only[List.length_reverse,List.length_cons,List.length_nil,List.length_append,List.length_map,List.length_set]);rw[wrap_i64 (by omega) (by omega)]<;>omega) (by dsimp only[Fr.put,u1,u2]<;>rfl) ?_;refine ae.J7 (z:=((min (ss+t.sz) 401:Nat):Int)) (t1:=_) (t2:=_) rfl (ev rfl) (ev rfl) (by omega) (by dsimp only[Fr.put,u1,u2]<;>rfl) ?_;refine qm ?_;refine qe hK<|qj fun K hK=>qA ?_;refine qm ?_;refine qe hK ?_;exact⟨mm-1,by omega,⟨i+1,j+t.flat.length,ss+t.sz,ts,ni oZ j t.zs,rfl,hH,by omega,by omega,oW.right,jO.2,by omega,Iu,by rw[←rU];have:=zr (es:=oZ) (a:=j) (M:=t.zs) (M':=ts.zs) (by omega);rw[HS] at this;exact this,by omega,by omega⟩⟩
theorem Gr {l:List bB} {d:D} (hl:l.length≤1048576) (hi:∀n∈l,n.ok) (hd:gv d 7 (l.map aG)):∀(m:Nat) (t:Tr),t.flat.length≤m→t.ok→∀{N:Nat} {S s0:St} {H:List bj} {out:D} {es:List Int} {at_:Nat},fY l at_ t.flat→es.length=l.length→Has N S s0 (.aE out 1 (es.map aB)::H)→
  ∃r ah,Ev pv 137 [d,out,.int .i64 (at_:Nat)] s0 r ah∧r=.int .i64 ((at_+t.flat.length:Nat):Int)∧Has N S ah (.aE out 1 ((ni es at_ (t.es at_)).map aB)::H):=by
 intro m
 induction m with
 |zero=>intro t h;have:=t.jk;omega
 |succ m ih=>
  rintro⟨n,ks⟩ hm eo N S s0 H out es at_ mI vh hH;simp only[Tr.ok] at eo;obtain⟨rJ,tf⟩:=eo;simp only[Tr.flat,List.length_cons] at hm;have hle:=mI.le (by simp[Tr.flat]);simp only[Tr.flat] at mI hle;simp only[List.length_cons] at hle;have hn:=mI.head;have mI:=mI.tail;have KD:=hi n (List.mem_of_getElem? hn);have gN:=kP hn;have BA:=rJ.1;have jU:=aO.nL ks;refine Ev.nj rfl Mm rfl rfl rfl ?_;dsimp only[u3,u4,List.length,Nat.reduceSub,Nat.reduceAdd,w1,w2];have cD:=hH;have hH:=hH.cE;have cy:(ai .rw s0).bs=s0.bs:=rfl;generalize ai .rw s0=S2 at*;have hc:=hd.arg N S2;refine qq<|qj fun K hK=>qm ?_;refine qe hK<|qq<|qj fun K hK=>qm ?_;refine qA ?_;refine qm ?_;refine qe hK<|qq<|qq<|qj fun K hK=>qm ?_;refine qm ?_;refine qr fun MU DO=>?_;refine qf (fo:=6) fun RL OK=>?_;refine qR ?_;refine qm ?_;refine qe hK<|ag.block<|ag.loop (fun mm fr st=>∃(i j:Nat) (rest:aO) (oZ:List Int),fr.clean=⟨16,[d,out,.int .i64 (at_:Nat),aK fr 3,aK fr 4,aK fr 5,.int .i64 0,.int .i64 (j:Nat),aK fr 8,aK fr 9,aK fr 10,aK fr 11,aK fr 12,aK fr 13,.int .i64 n.kids,.int .i64 (i:Nat)],[]⟩∧Has N S2 st (.aE out 1 (oZ.map aB)::H)∧(mm=rest.len)∧(i+rest.len=ks.len)∧(fY l j rest.flat)∧(rest.ok)∧(oZ.length=l.length)∧(ni oZ j (rest.es j)=ni es (at_+1) (ks.es (at_+1)))∧(j+rest.flat.length=at_+1+ks.flat.length)∧(rest.flat.length≤m)) (ks.len) ?_ ?_
  ·exact⟨0,at_+1,ks,es,rfl,hH,rfl,by omega,mI,tf,vh,rfl,rfl,by omega⟩
  rintro mm fr st ⟨i,j,rest,oZ,hfr,hH,xF,rM,oW,jO,yQ,rU,hj,hrm⟩;rw[hfr];clear hfr;generalize aK fr=ee;clear fr;refine qq<|qj fun K hK=>qg ?_;refine qe hK ?_
  cases rest with
  |nil=>
   simp only[aO.len] at rM;simp only[aO.flat,List.length_nil] at hj;simp only[aO.es,zu] at rU;have gy:decide ((i:Int)<n.kids)=false:=by rw[decide_eq_false_iff_not];omega
   have hat:at_<oZ.length:=by omega
   obtain⟨w,hw⟩:∃w,oZ[at_]?=some w:=⟨oZ[at_]'hat,List.getElem?_eq_getElem _⟩
   have Sr:=iF hw;refine qq<|qE rfl (by rw[gy]) ?_;refine ag.exit<|qq<|qj fun K hK=>qm ?_;refine qm ?_;refine qm ?_;refine qi hH ax fun NM H8=>?_;refine ae.pR hH rfl (ev rfl) (ev rfl) (by assumption) rfl rfl (by exact ax) (by assumption) (Nat.le_of_ble_eq_true rfl) (by exact .inr rfl) (fun st hH=>?_);dsimp only[u2,u1,u3,u4,setMany,u5,u6,D.cells,Nat.reduceAdd,aG,aB] at hH;refine qe hK<|qq<|qj fun K hK=>qm ?_;refine qm ?_;refine qe hK<|ag.ret ⟨rx,_,_,_,rfl,ak (rfl),?_⟩;have KZ:j=at_+(Tr.mk n ks).flat.length:=by simp only[Tr.flat,List.length_cons];omega
   refine⟨by rw[KZ];rfl,?_⟩
   have g_:ni es at_ (Tr.es (.mk n ks) at_)=oZ.set at_ ((j:Nat):Int):=by
    rw[rU,zt (by rw[aO.iV];omega)];have:j=at_+1+ks.flat.length:=by omega
    rw[this];rfl
   rw[g_,List.map_set];exact cD.qH cy hH
  |cons t ts=>
   simp only[aO.len] at rM xF;simp only[aO.flat,List.length_append] at hj oW hrm;simp only[aO.es] at rU;simp only[aO.ok] at jO;have gy:decide ((i:Int)<n.kids)=true:=by rw[decide_eq_true_eq];omega
   have R6:=t.jk;have HS:=t.iV j;have hzz:=ts.iV (j+t.flat.length);have Iu:(ni oZ j (t.es j)).length=l.length:=by rw[zw (by omega)];exact yQ
   refine qq<|qD rfl (by rw[gy]) ?_;refine ag.skip<|qq<|ag.block<|qj fun K hK=>qm ?_;refine qm ?_;refine qm ?_;obtain⟨_,st,aI,rfl,hH⟩:=ih t (by omega) jO.1 oW.left yQ hH;refine qv aI ?_;refine qm ?_;refine qe hK<|qj fun K hK=>qA ?_;refine qm ?_;refine qe hK ?_;exact⟨mm-1,by omega,⟨i+1,j+t.flat.length,ts,ni oZ j (t.es j),rfl,hH,by omega,by omega,oW.right,jO.2,Iu,by rw[←rU];have:=zr (es:=oZ) (a:=j) (M:=t.es j) (M':=ts.es (j+t.flat.length)) (by omega);rw[HS] at this;exact this,by omega,by omega⟩⟩
theorem gu {N k:Nat} {S s0:St} {H:List bj} {ks:Nat→Prop} {cd nd zd ed w:D} {code:List aZ} {op x y:Int} {rs:List Rg} (hF:S.flr≤N) (hl:code.length≤1048576) (hH:Has N S s0 (.aE w 2 (rs.map au)::.box k (.mem 0 false [cd,nd,zd,ed])::.deep ks cd 4 (code.map c_)::H)):
  ∃r ah,Ev pv 138 [.ptr k 0 0,.agg [.int .i64 op,.int .i64 x,.int .i64 y,w]] s0 r ah∧r=.int .i64 (code.length:Nat)∧∃Q7 Ke,Has N S ah (.box k (.mem 0 false [Q7,nd,zd,ed])::.deep Ke Q7 4 ((code++[dG op x y rs]).map c_)::H):=by
 refine Ev.nj rfl Ml rfl rfl rfl ?_;dsimp only[u3,u4,List.length,Nat.reduceSub,Nat.reduceAdd,w1,w2];change ag _ _ _ _ s0 _;refine qq<|qj fun K hK=>qb hH fun k3 st Iq hH=>?_;refine qm ?_;refine qe hK<|qq<|qj fun K hK=>qm ?_;refine qm ?_;refine qg ?_;refine qp (o:=0) ?_;refine ql hH bV ?_;refine ae.aV (m:=4) hH rfl (ev rfl) (by exact ax) (by dsimp only[List.drop_succ_cons,List.drop_zero,List.take_succ_cons,List.take_zero,c_]<;>rfl) rfl rfl (aa rfl _) ?_;refine qh (s:=4) (vs:=[_]) hH fun k11 st To hH=>?_;obtain⟨hH,TK⟩:=hH.I' (i:=2) (j:=4) (by decide) bV cM (gE _);dsimp only[u1,u2] at hH;refine ae.u_ hH rfl (ev rfl) (ev rfl) cM (hH.rows ax) (.cons (.cons (.plain _ rfl) (.cons (.plain _ rfl) (.cons (.plain _ rfl) (.cons TK .nil)))) .nil) rfl rfl rfl rfl rfl rfl rfl ⟨(Nat.le_of_ble_eq_true rfl),(Nat.le_of_ble_eq_true rfl)⟩ (fun _=>(aa rfl _)) (by simp only[List.length_map,List.length_cons,List.length_nil];omega) (.inl hF) (fun Uf st hH=>?_);dsimp only[u1,u2] at hH;refine qg ?_;refine qp (o:=0) ?_;refine ae.uJ hH rfl (ev rfl) (ev rfl) (by exact hH.rv (by exact cM)) (by exact rfl) (by exact da) (by exact Nat.le_of_ble_eq_true rfl) (by exact .inl hF) (fun st hH=>?_);dsimp only[u2,u1,u3,u4,setMany,u5,u6,D.cells,Nat.reduceAdd,c_] at hH;refine qe hK<|qq<|qj fun K hK=>qm ?_;refine qg ?_;refine qp (o:=0) ?_;refine ql hH da ?_;refine ae.BP hH rfl (ev rfl) (by exact cM) rfl (aa rfl _) ?_;simp only[List.length_map,List.length_append,List.length_cons,List.length_nil];refine ae.oS (z:=((code.length:Nat):Int)) rfl (ev rfl) (ev rfl) (by(try simp only[List.length_reverse,List.length_cons,List.length_nil,List.length_append,List.length_map,List.length_set]);rw[wrap_i64 (by omega) (by omega)]<;>omega) (aa rfl _) ?_;refine qm ?_;refine qe hK<|ag.ret ⟨rx,_,_,_,rfl,rfl,?_⟩;exact⟨rfl,_,_,by rw[List.map_append];exact hH.drop 3⟩
theorem pE {N k:Nat} {S s0:St} {H:List bj} {ks:Nat→Prop} {cd nd zd ed:D} {code:List aZ} {at_ over:Nat} {lz:Bool} {x y:Int} (hat:code[at_]?=some (dG 2 x y [])) (hl:code.length≤1048576) (hH:Has N S s0 (.box k (.mem 0 false [cd,nd,zd,ed])::.deep ks cd 4 (code.map c_)::H)):
  ∃r ah,Ev pv 222 [.ptr k 0 0,.int .i64 (at_:Nat),.int .i64 (over:Nat),.bool lz] s0 r ah∧r=.tup []∧Has N S ah (.box k (.mem 0 false [cd,nd,zd,ed])::.deep ks cd 4 ((code.set at_ (om at_ over lz)).map c_)::H):=by
 have hlt:=cA hat;have gN:(code.map c_)[at_]?=some [.int .i64 2,.int .i64 x,.int .i64 y,.sl []]:=zY hat;have g_:∀a b:List D,(code.map c_).set at_ a=(code.map c_).set at_ a:=fun _ _=>rfl;refine Ev.nj rfl LZ rfl rfl rfl ?_;dsimp only[u3,u4,List.length,Nat.reduceSub,Nat.reduceAdd,w1,w2];have cD:=hH;have hH:=hH.cE;have cy:(ai .rw s0).bs=s0.bs:=rfl;generalize ai .rw s0=S2 at*;refine qq<|qj fun K hK=>qm ?_;refine qg ?_;refine qp (o:=0) ?_;refine ql hH ax ?_;refine qm ?_;refine qm ?_;refine qg ?_;refine qp (o:=0) ?_;refine ql hH ax ?_;refine qm ?_;refine qm ?_;refine ae.hC (z:=((at_+1:Nat):Int)) rfl (ev rfl) (ev rfl) (by(try simp only[List.length_reverse,List.length_cons,List.length_nil,List.length_append,List.length_map,List.length_set]);rw[wrap_i64 (by omega) (by omega)]<;>omega) (aa rfl _) ?_;refine qm ?_;refine ae.Ek (s:=4) hH rfl (ev rfl) (ev rfl) (by exact aX) rfl rfl (by exact cA (by assumption)) (fun _=>(aa rfl _)) (fun Qr Kx=>?_);refine ae.de (fo:=1) (m:=0) (o2:=1) rfl (ev rfl) (by assumption) rfl rfl rfl (fun _=>(aa rfl _)) (fun Qq Kw=>?_);refine ae.rq hH rfl (ev rfl) (ev rfl) (by assumption) rfl rfl (by exact aX) (by assumption) (Nat.le_of_ble_eq_true rfl) (by intro d hd;simp only[List.mem_cons,List.not_mem_nil,or_false] at hd;subst hd;rfl) (by exact .inr rfl) (fun st hH=>?_);dsimp only[u2,u1,u3,u4,setMany,u5,u6,D.cells,Nat.reduceAdd,c_] at hH;refine ae.Ek (s:=4) hH rfl (ev rfl) (ev rfl) (by exact aX) rfl rfl (by simp only[List.length_map,List.length_set]<;>omega) (fun _=>(aa rfl _)) (fun NN H9=>?_);refine ae.de (fo:=2) (m:=0) (o2:=2) rfl (ev rfl) (by assumption) rfl rfl rfl (fun _=>(aa rfl _)) (fun Hy yN=>?_);refine ae.rq hH rfl (ev rfl) (ev rfl) (by assumption) rfl rfl (by exact aX) (List.getElem?_set_self (by simp only[List.length_set,List.length_map];omega)) (Nat.le_of_ble_eq_true rfl) (by intro d hd;simp only[List.mem_cons,List.not_mem_nil,or_false] at hd;subst hd;rfl) (by exact .inr rfl) (fun st hH=>?_);dsimp only[u1,u2,setMany] at hH;rw[List.set_set] at hH;refine qe hK<|qq<|qj fun K hK=>qm ?_;refine qe hK ?_
 cases lz with
 |false=>
  refine qC ?_;refine ag.skip ?_;refine⟨fun i h=>(by cases h),_,_,_,rfl,ak rfl,?_⟩;exact⟨rfl,by rw[List.map_set];exact cD.wG cy hH⟩
 |true=>
  refine qB ?_;refine qj fun K hK=>qm ?_;refine qg ?_;refine qp (o:=0) ?_;refine ql hH ax ?_;refine qm ?_;refine qm ?_;refine qg ?_;refine qp (o:=0) ?_;refine ql hH ax ?_;refine qm ?_;refine qm ?_;refine qm ?_;refine ae.hC (z:=((at_+1:Nat):Int)) rfl (ev rfl) (ev rfl) (by(try simp only[List.length_reverse,List.length_cons,List.length_nil,List.length_append,List.length_map,List.length_set]);rw[wrap_i64 (by omega) (by omega)]<;>omega) (aa rfl _) ?_;refine ae.Ek (s:=4) hH rfl (ev rfl) (ev rfl) (by exact aX) rfl rfl (by simp only[List.length_map,List.length_set]<;>omega) (fun _=>(aa rfl _)) (fun RH OE=>?_);refine ae.de (fo:=1) (m:=0) (o2:=1) rfl (ev rfl) (by assumption) rfl rfl rfl (fun _=>(aa rfl _)) (fun RG OD=>?_);refine ae.rq hH rfl (ev rfl) (ev rfl) (by assumption) rfl rfl (by exact aX) (List.getElem?_set_self (by simp only[List.length_set,List.length_map];omega)) (Nat.le_of_ble_eq_true rfl) (by intro d hd;simp only[List.mem_cons,List.not_mem_nil,or_false] at hd;subst hd;rfl) (by exact .inr rfl) (fun st hH=>?_);dsimp only[u1,u2,setMany] at hH;rw[List.set_set] at hH;refine ae.Ek (s:=4) hH rfl (ev rfl) (ev rfl) (by exact aX) rfl rfl (by simp only[List.length_map,List.length_set]<;>omega) (fun _=>(aa rfl _)) (fun Ux SK=>?_);refine ae.de (fo:=2) (m:=0) (o2:=2) rfl (ev rfl) (by assumption) rfl rfl rfl (fun _=>(aa rfl _)) (fun Uw SJ=>?_);refine ae.rq hH rfl (ev rfl) (ev rfl) (by assumption) rfl rfl (by exact aX) (List.getElem?_set_self (by simp only[List.length_set,List.length_map];omega)) (Nat.le_of_ble_eq_true rfl) (by intro d hd;simp only[List.mem_cons,List.not_mem_nil,or_false] at hd;subst hd;rfl) (by exact .inr rfl) (fun st hH=>?_);dsimp only[u1,u2,setMany] at hH;rw[List.set_set] at hH;refine qe hK ?_;refine⟨fun i h=>(by cases h),_,_,_,rfl,ak rfl,?_⟩;exact⟨rfl,by rw[List.map_set];exact cD.wG cy hH⟩
def av (fr:Go.V.Fr) (k:Nat):Go.V.D:=Go.V.nth .bp fr.loc k
def kb (n:Nat):List D:=[.int .i64 (n:Nat)]
theorem wm {l:List Nat} {i q:Nat} (h:l[i]?=some q):(l.map kb)[i]?=some (kb q):=by rw[List.getElem?_map,h];rfl
def JA (N:Nat) (S st:St) (k:Nat) (nd zd ed:D) (Z E:List Int) (H:List bj) (code:List aZ):Prop:=
 ∃cd ks,Has N S st (.box k (.mem 0 false [cd,nd,zd,ed])::.deep ks cd 4 (code.map c_)::.aE zd 1 (Z.map aB)::.aE ed 1 (E.map aB)::H)
def rF (l:List bB) (t:Tr):Prop:=∀{N k:Nat} {S s0:St} {H:List bj} {nd zd ed:D} {code:List aZ} {Z E:List Int} {at_:Nat},S.flr≤N→gv nd 7 (l.map aG)→fY l at_ t.flat→fY Z at_ t.zs→fY E at_ (t.es at_)→t.ok→code.length+t.sz≤1000000→JA N S s0 k nd zd ed Z E H code→
 ∃r ah,Ev pv 139 [.ptr k 0 0,.int .i64 (at_:Nat)] s0 r ah∧r=.tup []∧JA N S ah k nd zd ed Z E H (code++aS t code.length)
theorem Ar {E:List Int} {t:Tr} {a:Nat} (h:fY E a (t.es a)):E[a]?=some ((a+t.flat.length:Nat):Int):=by
 obtain⟨n,ks⟩:=t;simp only[Tr.es] at h;rw[h.head];simp only[Tr.flat,List.length_cons]
 congr 2;omega
theorem zi {Z:List Int} {t:Tr} {a:Nat} (h:fY Z a t.zs):Z[a]?=some ((min t.sz 401:Nat):Int):=by
 obtain⟨n,ks⟩:=t;simp only[Tr.zs] at h;rw[h.head];rfl
theorem I6 {l:List bB} (qX:l.length≤1048576) {m:Nat} (ih:∀t:Tr,t.flat.length≤m→rF l t) {n:bB} {ks:aO} (hop:n.op=4) (KM:ks.flat.length≤m) (rJ:sS n ks.len) (tf:ks.ok) {N k:Nat} {S s0:St} {H:List bj} {nd zd ed:D} {code:List aZ} {Z E:List Int} {at_:Nat} (hF:S.flr≤N) (yO:gv nd 7 (l.map aG)) (mH:fY l at_ (n::ks.flat)) (hsz:fY Z (at_+1) ks.zs) (xD:fY E (at_+1) (ks.es (at_+1))) (hb:code.length+bQ n ks.sz ks.len≤1000000) (hM:JA N S s0 k nd zd ed Z E H code):
  ∃r ah,Ev pv 190 [.ptr k 0 0,.int .i64 (at_:Nat)] s0 r ah∧r=.tup []∧JA N S ah k nd zd ed Z E H (code++fP (lA (code.length+bQ n ks.sz ks.len)) ks code.length):=by
 obtain⟨cd,dk,hH⟩:=hM;have hle:=mH.le (by simp);simp only[List.length_cons] at hle;have hn:=mH.head;have mH:=mH.tail;have gN:=kP hn;have BA:=rJ.1;have jF:=aO.nL ks
 have hk2:2≤ks.len:=by
  obtain⟨_,hq⟩:=rJ;omega
 have F8:bQ n ks.sz ks.len=ks.sz+2*(ks.len-1):=by unfold bQ;rw[if_neg (by omega),if_pos hop]
 rw[F8] at hb⊢;clear F8;refine Ev.nj rfl L_ rfl rfl rfl ?_;dsimp only[u3,u4,List.length,Nat.reduceSub,Nat.reduceAdd,w1,w2];change ag _ _ _ _ s0 _;have hc:=yO.arg N S;refine qq<|qj fun K hK=>qm ?_;refine qe hK<|qq<|qj fun K hK=>qm ?_;refine qA ?_;refine qm ?_;refine qe hK<|qq<|qq<|qj fun K hK=>qm ?_;refine qg ?_;refine qp (o:=1) ?_;refine ql hH ax ?_;refine qm ?_;refine qr fun RJ OI=>?_;refine qf (fo:=6) fun Qs H_=>?_;refine qR ?_;refine qm ?_;refine qe hK ?_;have hH:Has N S s0 (.box k (.mem 0 false [cd,nd,zd,ed])::.deep dk cd 4 (code.map c_)::.aE zd 1 (Z.map aB)::.aE ed 1 (E.map aB)::.aE .nul 1 (([]:List Nat).map kb)::H):=(hH.eP 1).Fk;refine ag.block<|ag.loop (fun mm fr st=>∃(i j:Nat) (rest:aO) (cd jd:D) (dk:Nat→Prop) (aU:List aZ) (js:List Nat),fr.clean=⟨68,[.ptr k 0 0,.int .i64 (at_:Nat),av fr 2,av fr 3,jd,.int .i64 (j:Nat),av fr 6,av fr 7,av fr 8,av fr 9,av fr 10,av fr 11,av fr 12,av fr 13,av fr 14,av fr 15,av fr 16,av fr 17,av fr 18,.int .i64 n.kids,.int .i64 (i:Nat),av fr 21,av fr 22,av fr 23,av fr 24,av fr 25,av fr 26,av fr 27,av fr 28,av fr 29,av fr 30,av fr 31,av fr 32,av fr 33,av fr 34,av fr 35,av fr 36,av fr 37,av fr 38,av fr 39,av fr 40,av fr 41,av fr 42,av fr 43,av fr 44,av fr 45,av fr 46,av fr 47,av fr 48,av fr 49,av fr 50,av fr 51,av fr 52,av fr 53,av fr 54,av fr 55,av fr 56,av fr 57,av fr 58,av fr 59,av fr 60,av fr 61,av fr 62,av fr 63,av fr 64,av fr 65,av fr 66,av fr 67],[]⟩∧Has N S st (.box k (.mem 0 false [cd,nd,zd,ed])::.deep dk cd 4 (aU.map c_)::.aE zd 1 (Z.map aB)::.aE ed 1 (E.map aB)::.aE jd 1 (js.map kb)::H)∧(mm=rest.len)∧(i+rest.len=ks.len)∧(0<rest.len)∧(fY l j rest.flat)∧(fY Z j rest.zs)∧(fY E j (rest.es j))∧(rest.ok)∧(aU++fP (lA 0) rest aU.length=code++fP (lA 0) ks code.length)∧(js++rD rest aU.length=rD ks code.length)∧(aU.length+(rest.sz+2*(rest.len-1))=code.length+(ks.sz+2*(ks.len-1)))∧(rest.flat.length≤m)∧(js.length≤i)) (ks.len) ?_ ?_
 ·exact⟨0,at_+1,ks,cd,.nul,dk,code,[],rfl,hH,rfl,by omega,by omega,mH,hsz,xD,tf,rfl,rfl,rfl,KM,by simp⟩
 rintro mm fr st ⟨i,j,rest,cd,jd,dk,aU,js,hfr,hH,xF,rM,wQ,oW,wP,oV,jO,iq,hjs,hcl,hrm,hjl⟩;rw[hfr];clear hfr;generalize av fr=ee;clear fr;refine qq<|qj fun K hK=>qg ?_;refine qe hK ?_
 cases rest with
 |nil=>simp[aO.len] at wQ
 |cons t ts=>
  simp only[aO.len] at rM xF hcl;simp only[aO.sz] at hcl;simp only[aO.flat,List.length_append] at oW hrm;simp only[aO.zs] at wP;simp only[aO.es] at oV;simp only[aO.ok] at jO;have HS:=t.iO;have G2:=t.iV j;have Bs:=cp t (aU.length+1) jO.1;have Oj:=iF (Ar oV.left);have gy:decide ((i:Int)<n.kids)=true:=by rw[decide_eq_true_eq];omega
  refine qq<|qD rfl (by rw[gy]) ?_;refine ag.skip<|qq<|ag.block<|qq<|qj fun K hK=>qm ?_;refine qm ?_;refine qe hK<|qq<|qq<|qj fun K hK=>qm ?_;refine qm ?_;refine qg ?_;refine qp (o:=1) ?_;refine ql hH ax ?_;refine qm ?_;refine qr fun Qp Kv=>?_;refine qf (fo:=6) fun Qo Ku=>?_;refine qR ?_;refine ae.oS (z:=((ks.len-1:Nat):Int)) rfl (ev rfl) (ev rfl) (by(try simp only[List.length_reverse,List.length_cons,List.length_nil,List.length_append,List.length_map,List.length_set]);rw[wrap_i64 (by omega) (by omega)]<;>omega) (by dsimp only[Fr.put,u1,u2]<;>rfl) ?_;refine qg ?_;refine qe hK ?_
  by_cases Ad:ts.len=0
  ·simp only[fP,rD,if_pos Ad,List.append_nil] at iq hjs;have htn:=aO.len_nil Ad;subst htn;simp only[aO.sz,aO.len] at hcl rM;have Ix:(((i:Nat):Int)==((ks.len-1:Nat):Int))=true:=by rw[beq_iff_eq];omega
   refine qD rfl (by rw[Ix]) ?_;refine qq<|qj fun K hK=>qm ?_;refine qm ?_;obtain⟨_,st,aI,rfl,cd,dk,hH⟩:=ih t (by omega) hF yO oW.left wP.left oV.left jO.1 (by omega) ⟨cd,dk,hH⟩;refine qv aI ?_;refine qe hK<|ag.exit<|qq<|qj fun K hK=>qm ?_;refine qn ?_ (hR:=hH.rows cM);simp only[List.length_map];refine qm ?_;refine qe hK ?_;rw[iq] at hH;have hal:=nb (lA 0) ks code.length tf;obtain⟨oJ,G5⟩:=oc (jp:=lA (code.length+(ks.sz+2*(ks.len-1)))) (i0:=lA 0) ks code.length code [] tf rfl;simp only[List.append_nil] at oJ G5;have Ju:(code++fP (lA 0) ks code.length).length=code.length+(ks.sz+2*(ks.len-1)):=by rw[List.length_append,hal]
   rw[←hjs] at oJ G5;rw[←oJ];clear oJ iq;generalize code++fP (lA 0) ks code.length=C0 at*;generalize code.length+(ks.sz+2*(ks.len-1))=e at*;refine ag.block<|ag.loop (fun mm fr st=>∃(q:Nat) (C:List aZ),fr.clean=⟨68,[.ptr k 0 0,av fr 1,av fr 2,av fr 3,av fr 4,av fr 5,av fr 6,av fr 7,av fr 8,av fr 9,av fr 10,av fr 11,av fr 12,av fr 13,av fr 14,av fr 15,av fr 16,av fr 17,av fr 18,av fr 19,av fr 20,av fr 21,av fr 22,av fr 23,av fr 24,av fr 25,av fr 26,av fr 27,av fr 28,av fr 29,av fr 30,av fr 31,av fr 32,av fr 33,av fr 34,av fr 35,av fr 36,av fr 37,av fr 38,av fr 39,av fr 40,av fr 41,av fr 42,av fr 43,av fr 44,av fr 45,av fr 46,av fr 47,av fr 48,av fr 49,av fr 50,av fr 51,av fr 52,av fr 53,av fr 54,av fr 55,av fr 56,av fr 57,av fr 58,av fr 59,av fr 60,av fr 61,av fr 62,av fr 63,av fr 64,jd,.int .i64 (js.length:Nat),.int .i64 (q:Nat)],[]⟩∧Has N S st (.box k (.mem 0 false [cd,nd,zd,ed])::.deep dk cd 4 (C.map c_)::.aE zd 1 (Z.map aB)::.aE ed 1 (E.map aB)::.aE jd 1 (js.map kb)::H)∧(q+mm=js.length)∧(h_ (fun _=>lA e) C (js.drop q)=h_ (fun _=>lA e) C0 js)∧(∀p∈js,∃v:Int,C[p]?=some (dG 3 v 0 []))∧(C.length=e)) (js.length) ?_ ?_
   ·exact⟨0,C0,rfl,hH,by omega,rfl,fun p hp=>⟨_,G5 p hp⟩,Ju⟩
   rintro mm fr st ⟨q,C,hfr,hH,hq,gT,hall,Lk⟩;rw[hfr];clear hfr;generalize av fr=ee;clear fr;refine qq<|qj fun K hK=>qg ?_;refine qe hK<|qq ?_;refine ag.cond (by rfl) (fun hlt=>?_) (fun hlt=>?_)<;>try simp only[decide_eq_true_eq,decide_eq_false_iff_not] at hlt
   ·refine ag.skip ?_;have Jm:q<js.length:=by omega
    obtain⟨p,hp⟩:∃p,js[q]?=some p:=⟨js[q]'Jm,List.getElem?_eq_getElem _⟩
    obtain⟨v,hv⟩:=hall p (List.mem_of_getElem? hp);have gN:=wm hp;have rV:=zY hv;have lY:=cA hv;refine qq<|ag.block<|qq<|qj fun K hK=>qi hH cM fun Uq Ow=>?_;refine qo hH cM ?_;refine qm ?_;refine qe hK<|qj fun K hK=>qm ?_;refine qg ?_;refine qp (o:=0) ?_;refine ql hH ax ?_;refine qm ?_;refine qm ?_;refine qg ?_;refine qp (o:=0) ?_;refine ql hH ax ?_;refine ae.BP hH rfl (ev rfl) (by exact aX) rfl (aa rfl _) ?_;simp only[List.length_map];refine ae.Ek (s:=4) hH rfl (ev rfl) (ev rfl) (by exact aX) rfl rfl (by exact cA (by assumption)) (fun _=>(aa rfl _)) (fun Rx Ou=>?_);refine ae.de (fo:=1) (m:=0) (o2:=1) rfl (ev rfl) (by assumption) rfl rfl rfl (fun _=>(aa rfl _)) (fun Uo SB=>?_);refine ae.rq hH rfl (ev rfl) (ev rfl) (by assumption) rfl rfl (by exact aX) (by assumption) (Nat.le_of_ble_eq_true rfl) (by intro d hd;simp only[List.mem_cons,List.not_mem_nil,or_false] at hd;subst hd;rfl) (by exact .inl hF) (fun st hH=>?_);dsimp only[u2,u1,u3,u4,setMany,u5,u6,D.cells,Nat.reduceAdd,c_,aG,aB,kb] at hH;refine qe hK<|qj fun K hK=>qA ?_;refine qm ?_;refine qe hK ?_
    have BD:js.drop q=p::js.drop (q+1):=by
     rw[List.drop_eq_getElem_cons Jm]
     congr 1
     exact Option.some.inj ((List.getElem?_eq_getElem _).symm.trans hp)
    refine⟨mm-1,by omega,⟨q+1,C.set p (lA e),rfl,(by rw[List.map_set,←Lk];exact hH),by omega,by rw[BD] at gT;exact gT,?_,by rw[List.length_set];exact Lk⟩⟩;intro p' uL
    by_cases hpp:p'=p
    ·subst hpp;exact⟨_,List.getElem?_set_self lY⟩
    ·rw[List.getElem?_set_ne (fun e=>hpp e.symm)];exact hall p' uL
   ·refine ag.exit ?_;refine⟨fun i h=>(by cases h),_,_,_,rfl,rfl,?_⟩;have EY:q=js.length:=by omega
    rw[EY,List.drop_length] at gT;have gT:C=h_ (fun _=>lA e) C0 js:=gT;rw[←gT];exact⟨rfl,cd,dk,hH.erase 4⟩
  ·simp only[fP,rD,if_neg Ad] at iq hjs;have Ix:(((i:Nat):Int)==((ks.len-1:Nat):Int))=false:=by rw[beq_eq_false_iff_ne];omega
   refine qE rfl (by rw[Ix]) ?_;refine ag.skip<|qq<|qj fun K hK=>qm ?_;refine ae.go (d:=.agg [.int .i64 2,.int .i64 0,.int .i64 0,.nul]) (st1:=_) rfl rfl rfl (by dsimp only[Fr.put,u1,u2]<;>rfl) ?_;have hH:=hH.eP 2;obtain⟨_,st,aI,rfl,cd,dk,hH⟩:=gu (rs:=[]) hF (by omega) hH;refine qv aI ?_;refine qm ?_;refine qe hK ?_;have mL:(aU++[dG 2 0 0 []]).length=aU.length+1:=by simp
   refine qq<|qj fun K hK=>qm ?_;refine qm ?_;obtain⟨_,st,aI,rfl,cd,dk,hH⟩:=ih t (by omega) hF yO oW.left wP.left oV.left jO.1 (by omega) ⟨cd,dk,hH⟩;refine qv aI ?_;refine qe hK ?_;rw[mL] at hH;have nW:(aU++[dG 2 0 0 []]++aS t (aU.length+1)).length=aU.length+1+t.sz:=by rw[List.length_append,mL,Bs]
   refine qq<|qj fun K hK=>qm ?_;refine qm ?_;refine ae.go (d:=.agg [.int .i64 3,.int .i64 0,.int .i64 0,.nul]) (st1:=_) rfl rfl rfl (by dsimp only[Fr.put,u1,u2]<;>rfl) ?_;have hH:=hH.eP 2;obtain⟨_,st,aI,rfl,cd,dk,hH⟩:=gu (rs:=[]) hF (by omega) hH;refine qv aI ?_;refine qh (s:=1) (vs:=[_]) hH fun k47 st Te hH=>?_;refine qP hH ej (hH.rows ax) fun Nu st hH=>?_;dsimp only[u2,u1,u3,u4,setMany,u5,u6,D.cells,Nat.reduceAdd,c_,aG,aB,kb] at hH;refine qm ?_;refine qe hK ?_;have hH:=hH.drop 1
   have IB:(aU++[dG 2 0 0 []]++aS t (aU.length+1)++[dG 3 0 0 []])[aU.length]?=some (dG 2 0 0 []):=by
    rw[List.append_assoc,List.append_assoc];exact pj _ _ _
   have D4:(aU++[dG 2 0 0 []]++aS t (aU.length+1)++[dG 3 0 0 []]).length=aU.length+1+t.sz+1:=by rw[List.length_append,nW];rfl
   have FZ:(aU++[dG 2 0 0 []]++aS t (aU.length+1)++[dG 3 0 0 []]).set aU.length (om aU.length (aU.length+1+t.sz+1) false)=aU++(om aU.length (aU.length+1+t.sz+1) false::(aS t (aU.length+1)++[lA 0])):=by
    rw[List.append_assoc,List.append_assoc];exact o9 _ _ _ _
   have Iw:(aU++(om aU.length (aU.length+1+t.sz+1) false::(aS t (aU.length+1)++[lA 0]))).length=aU.length+t.sz+2:=by rw[←FZ,List.length_set,D4];omega
   generalize aU++[dG 2 0 0 []]++aS t (aU.length+1)++[dG 3 0 0 []]=El at*;refine qq<|qj fun K hK=>qm ?_;refine qm ?_;refine qm ?_;refine qg ?_;refine qp (o:=0) ?_;refine ql hH ax ?_;refine ae.BP hH rfl (ev rfl) (by exact aX) rfl (by dsimp only[Fr.put,u1,u2]<;>rfl) ?_;simp only[List.length_map,List.length_append,List.length_cons,List.length_nil];obtain⟨_,st,aI,rfl,hH⟩:=pE (at_:=aU.length) (over:=El.length) (lz:=false) IB (by omega) hH;refine qv aI ?_;refine qe hK ?_;rw[D4,FZ] at hH;refine qj fun K hK=>qm ?_;refine qg ?_;refine qp (o:=3) ?_;refine ql hH ax ?_;refine qm ?_;refine qi hH da fun Us SE=>?_;refine qo hH da ?_;refine qm ?_;refine qe hK<|qj fun K hK=>qA ?_;refine qm ?_;refine qe hK ?_;exact⟨mm-1,by omega,⟨i+1,j+t.flat.length,ts,cd,Nu,dk,aU++(om aU.length (aU.length+1+t.sz+1) false::(aS t (aU.length+1)++[lA 0])),js++[aU.length+1+t.sz],rfl,(by rw[List.map_append (f:=kb)];rw[nW] at hH;exact hH),by omega,by omega,by omega,oW.right,by rw[←HS];exact wP.right,by rw[←G2];rw[←G2] at oV;exact oV.right,jO.2,by rw[Iw,←iq];simp only[List.append_assoc,List.cons_append,List.nil_append],by rw[Iw,←hjs];simp only[List.append_assoc,List.cons_append,List.nil_append],by rw[Iw];omega,by omega,by rw[List.length_append];simp only[List.length_cons,List.length_nil];omega⟩⟩
end Go.Proofs.YtecjacicdpejaaaGreat
