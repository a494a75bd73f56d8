import Derived.Test.YtbdnabmmlbiomaaGreatWGPi
import Derived.Test.YtbdnabmmlbiomaaGreatWGKa
import Derived.Test.YtbdnabmmlbiomaaGreatWGQa
set_option linter.unusedSimpArgs false
set_option maxRecDepth 100000
set_option maxHeartbeats 4000000
set_option linter.unusedVariables false
namespace Go.Proofs.YtbdnabmmlbiomaaGreat
open Go.V Go
def oy (fr:Go.V.Fr) (k:Nat):Go.V.D:=Go.V.nth .bD fr.loc k
theorem CW {s0:St} {n:dW} (hn:n.ok):Ev pv 150 [.agg (bt n)] s0 (.bool (uA n)) s0:=by
 refine Ev.oj rfl Us rfl rfl rfl ?_;dsimp only[u3,u4,List.length,Nat.reduceSub,Nat.reduceAdd,w1,w2];obtain⟨cA,hF,hH⟩:=ri s0;generalize ai .ro s0=S at*;have Bu:=hn.1.arg s0.bs.length S;have pt:=hn.2.1;refine qq<|qj fun K hK=>qb hH fun k1 st pQ hH=>?_;dsimp only[u2,u1,u3,u4,setMany,u5,u6,D.cells,Nat.reduceAdd,bt] at hH;refine qm ?_;refine qe hK<|qq<|qj fun K hK=>qp (o:=0) ?_;refine ql hH au ?_;refine qg ?_;refine qm ?_;refine qe hK<|qq<|ag.mH 2 (.bool (((n.op==2)||((n.rs.length:Nat):Int)==0) &&((n.op==5)||((n.mn==0) &&(n.mx==0) &&!n.lz)) &&((n.op==6)||(n.cap==0)))) [] ?_ (fun ff tmp=>?_)
 ·refine qp (o:=0) ?_;refine ql hH au ?_;refine qg ?_;refine qm ?_;refine aa.two 10 rfl (fun bQ=>?_) (fun bQ=>?_)
  ·refine qs ?_ (hg:=wn bQ);refine qs ?_ (hg:=wn bQ);refine qs ?_ (hg:=wn bQ);refine qs ?_ (hg:=wn bQ);refine qt bQ ?_;refine qm ?_;refine qm ?_;refine qm ?_;refine aa.two 18 rfl (fun bR=>?_) (fun bR=>?_)
   ·refine qs ?_ (hg:=wn bR);refine qs ?_ (hg:=wn bR);refine qs ?_ (hg:=wn bR);refine qs ?_ (hg:=wn bR);refine qs ?_;refine qs ?_;refine qs ?_;refine qs ?_ (hg:=wn bR);refine qs ?_ (hg:=wn bR);refine qs ?_;refine qs ?_;refine qs ?_;refine qs ?_ (hg:=wn bR);refine qt bR ?_;refine qg ?_;refine qm ?_;refine qp (o:=0) ?_;refine ql hH au ?_;refine qg ?_;refine qm ?_;refine aa.two 38 rfl (fun dh=>?_) (fun dh=>?_)
    ·refine qs ?_ (hg:=wn dh);refine qs ?_ (hg:=wn dh);refine qs ?_ (hg:=wn dh);refine qt dh ?_;refine qg ?_;refine qm ?_;refine aa.nil (bc ?_);dsimp only[aO,List.foldl,nth,u2,u1];dsimp only[Fr.aE,Fr.put,Fr.clean,Fr.ev,Fr.get,nth,V.look,u1,u2,v1,v2,v3,v4,v5,v6,v7,List.length,u3,u4,Nat.reduceSub,Nat.reduceAdd,List.map]
     all_goals(simp[bQ,bR,dh];done)
    ·refine qp (o:=5) ?_ (hg:=wi dh);refine ql hH au ?_ (hg:=wi dh);refine qg ?_ (hg:=wi dh);refine qu dh ?_;refine qg ?_;refine qm ?_;refine aa.nil (bc ?_);dsimp only[aO,List.foldl,nth,u2,u1];dsimp only[Fr.aE,Fr.put,Fr.clean,Fr.ev,Fr.get,nth,V.look,u1,u2,v1,v2,v3,v4,v5,v6,v7,List.length,u3,u4,Nat.reduceSub,Nat.reduceAdd,List.map]
     all_goals(simp[bQ,bR,dh];done)
   ·refine qp (o:=2) ?_ (hg:=wi bR);refine ql hH au ?_ (hg:=wi bR);refine qg ?_ (hg:=wi bR);refine qm ?_ (hg:=wi bR);refine aa.two 22 rfl (fun gg=>?_) (fun gg=>?_)
    ·refine qp (o:=3) ?_ (hg:=wi gg);refine ql hH au ?_ (hg:=wi gg);refine qg ?_ (hg:=wi gg);refine aa.dU (aC rfl rfl rfl bR) rfl gg (ab rfl _) ?_;refine qm ?_ (hg:=wi bR);refine aa.two 27 rfl (fun gK=>?_) (fun gK=>?_)
     ·refine qp (o:=4) ?_ (hg:=wi gK);refine ql hH au ?_ (hg:=wi gK);refine qg ?_ (hg:=wi gK);refine aa.dU (aC rfl rfl rfl bR) rfl gK (ab rfl _) ?_;refine qu bR ?_;refine qg ?_;refine qm ?_;refine aa.two 34 rfl (fun ew=>?_) (fun ew=>?_)
      ·refine qp (o:=0) ?_ (hg:=wi ew);refine ql hH au ?_ (hg:=wi ew);refine qg ?_ (hg:=wi ew);refine qm ?_ (hg:=wi ew);refine aa.two 38 rfl (fun dh=>?_) (fun dh=>?_)
       ·refine qs ?_ (hg:=wn dh);refine qs ?_ (hg:=wn dh);refine qs ?_ (hg:=wn dh);refine aa.dU (aC rfl rfl rfl ew) rfl dh (ab rfl _) ?_;refine qt ew ?_;refine qm ?_;refine aa.nil (bc ?_);dsimp only[aO,List.foldl,nth,u2,u1];dsimp only[Fr.aE,Fr.put,Fr.clean,Fr.ev,Fr.get,nth,V.look,u1,u2,v1,v2,v3,v4,v5,v6,v7,List.length,u3,u4,Nat.reduceSub,Nat.reduceAdd,List.map]
        all_goals(simp[bQ,bR,gg,gK,ew,dh];done)
       ·refine qp (o:=5) ?_ (hg:=wi dh);refine ql hH au ?_ (hg:=wi dh);refine qg ?_ (hg:=wi dh);refine aa.dr (aC rfl rfl rfl ew) rfl dh (ab rfl _) ?_;refine qt ew ?_;refine qm ?_;refine aa.nil (bc ?_);dsimp only[aO,List.foldl,nth,u2,u1];dsimp only[Fr.aE,Fr.put,Fr.clean,Fr.ev,Fr.get,nth,V.look,u1,u2,v1,v2,v3,v4,v5,v6,v7,List.length,u3,u4,Nat.reduceSub,Nat.reduceAdd,List.map]
        all_goals(simp[bQ,bR,gg,gK,ew,dh];done)
      ·refine qs ?_ (hg:=wn ew);refine qs ?_ (hg:=wn ew);refine qs ?_ (hg:=wn ew);refine qs ?_ (hg:=wn ew);refine qs ?_;refine qs ?_;refine qs ?_;refine qs ?_ (hg:=wn ew);refine qu ew ?_;refine qm ?_;refine aa.nil (bc ?_);dsimp only[aO,List.foldl,nth,u2,u1];dsimp only[Fr.aE,Fr.put,Fr.clean,Fr.ev,Fr.get,nth,V.look,u1,u2,v1,v2,v3,v4,v5,v6,v7,List.length,u3,u4,Nat.reduceSub,Nat.reduceAdd,List.map]
       all_goals(simp[bQ,bR,gg,gK,ew];done)
     ·refine qs ?_ (hg:=wn gK);refine qs ?_ (hg:=wn gK);refine qs ?_ (hg:=wn gK);refine aa.dr (aC rfl rfl rfl bR) rfl gK (ab rfl _) ?_;refine qu bR ?_;refine qg ?_;refine qm ?_;refine qs ?_;refine qs ?_;refine qs ?_;refine qs ?_;refine qs ?_;refine qs ?_;refine qs ?_;refine qs ?_;refine qg ?_;refine qm ?_;refine aa.nil (bc ?_);dsimp only[aO,List.foldl,nth,u2,u1];dsimp only[Fr.aE,Fr.put,Fr.clean,Fr.ev,Fr.get,nth,V.look,u1,u2,v1,v2,v3,v4,v5,v6,v7,List.length,u3,u4,Nat.reduceSub,Nat.reduceAdd,List.map]
      all_goals(simp[bQ,bR,gg,gK];done)
    ·refine qs ?_ (hg:=wn gg);refine qs ?_ (hg:=wn gg);refine qs ?_ (hg:=wn gg);refine aa.dr (aC rfl rfl rfl bR) rfl gg (ab rfl _) ?_;refine qm ?_ (hg:=wi bR);refine qs ?_;refine qs ?_;refine qs ?_;refine qg ?_ (hg:=wi bR);refine qu bR ?_;refine qg ?_;refine qm ?_;refine qs ?_;refine qs ?_;refine qs ?_;refine qs ?_;refine qs ?_;refine qs ?_;refine qs ?_;refine qs ?_;refine qg ?_;refine qm ?_;refine aa.nil (bc ?_);dsimp only[aO,List.foldl,nth,u2,u1];dsimp only[Fr.aE,Fr.put,Fr.clean,Fr.ev,Fr.get,nth,V.look,u1,u2,v1,v2,v3,v4,v5,v6,v7,List.length,u3,u4,Nat.reduceSub,Nat.reduceAdd,List.map]
     all_goals(simp[bQ,bR,gg];done)
  ·refine qp (o:=1) ?_ (hg:=wi bQ);refine ql hH au ?_ (hg:=wi bQ);refine qn ?_ (hg:=wi bQ);simp only[List.length_map];refine qg ?_ (hg:=wi bQ);refine qu bQ ?_;refine qm ?_;refine aa.two 16 rfl (fun cx=>?_) (fun cx=>?_)
   ·refine qm ?_ (hg:=wi cx);refine qm ?_ (hg:=wi cx);refine aa.two 18 rfl (fun bR=>?_) (fun bR=>?_)
    ·refine qs ?_ (hg:=wn bR);refine qs ?_ (hg:=wn bR);refine qs ?_ (hg:=wn bR);refine qs ?_ (hg:=wn bR);refine qs ?_;refine qs ?_;refine qs ?_;refine qs ?_ (hg:=wn bR);refine qs ?_ (hg:=wn bR);refine qs ?_;refine qs ?_;refine qs ?_;refine qs ?_ (hg:=wn bR);refine aa.dU (aC rfl rfl rfl cx) rfl bR (ab rfl _) ?_;refine qt cx ?_;refine qm ?_;refine qp (o:=0) ?_;refine ql hH au ?_;refine qg ?_;refine qm ?_;refine aa.two 38 rfl (fun dh=>?_) (fun dh=>?_)
     ·refine qs ?_ (hg:=wn dh);refine qs ?_ (hg:=wn dh);refine qs ?_ (hg:=wn dh);refine qt dh ?_;refine qg ?_;refine qm ?_;refine aa.nil (bc ?_);dsimp only[aO,List.foldl,nth,u2,u1];dsimp only[Fr.aE,Fr.put,Fr.clean,Fr.ev,Fr.get,nth,V.look,u1,u2,v1,v2,v3,v4,v5,v6,v7,List.length,u3,u4,Nat.reduceSub,Nat.reduceAdd,List.map]
      all_goals(simp[bQ,cx,bR,dh];done)
     ·refine qp (o:=5) ?_ (hg:=wi dh);refine ql hH au ?_ (hg:=wi dh);refine qg ?_ (hg:=wi dh);refine qu dh ?_;refine qg ?_;refine qm ?_;refine aa.nil (bc ?_);dsimp only[aO,List.foldl,nth,u2,u1];dsimp only[Fr.aE,Fr.put,Fr.clean,Fr.ev,Fr.get,nth,V.look,u1,u2,v1,v2,v3,v4,v5,v6,v7,List.length,u3,u4,Nat.reduceSub,Nat.reduceAdd,List.map]
      all_goals(simp[bQ,cx,bR,dh];done)
    ·refine qp (o:=2) ?_ (hg:=wi bR);refine ql hH au ?_ (hg:=wi bR);refine qg ?_ (hg:=wi bR);refine qm ?_ (hg:=wi bR);refine aa.two 22 rfl (fun gg=>?_) (fun gg=>?_)
     ·refine qp (o:=3) ?_ (hg:=wi gg);refine ql hH au ?_ (hg:=wi gg);refine qg ?_ (hg:=wi gg);refine aa.dU (aC rfl rfl rfl bR) rfl gg (ab rfl _) ?_;refine qm ?_ (hg:=wi bR);refine aa.two 27 rfl (fun gK=>?_) (fun gK=>?_)
      ·refine qp (o:=4) ?_ (hg:=wi gK);refine ql hH au ?_ (hg:=wi gK);refine qg ?_ (hg:=wi gK);refine aa.dU (aC rfl rfl rfl bR) rfl gK (ab rfl _) ?_;refine aa.dr (aC rfl rfl rfl cx) rfl bR (ab rfl _) ?_;refine qt cx ?_;refine qm ?_;refine aa.two 34 rfl (fun ew=>?_) (fun ew=>?_)
       ·refine qp (o:=0) ?_ (hg:=wi ew);refine ql hH au ?_ (hg:=wi ew);refine qg ?_ (hg:=wi ew);refine qm ?_ (hg:=wi ew);refine aa.two 38 rfl (fun dh=>?_) (fun dh=>?_)
        ·refine qs ?_ (hg:=wn dh);refine qs ?_ (hg:=wn dh);refine qs ?_ (hg:=wn dh);refine aa.dU (aC rfl rfl rfl ew) rfl dh (ab rfl _) ?_;refine qt ew ?_;refine qm ?_;refine aa.nil (bc ?_);dsimp only[aO,List.foldl,nth,u2,u1];dsimp only[Fr.aE,Fr.put,Fr.clean,Fr.ev,Fr.get,nth,V.look,u1,u2,v1,v2,v3,v4,v5,v6,v7,List.length,u3,u4,Nat.reduceSub,Nat.reduceAdd,List.map]
         all_goals(simp[bQ,cx,bR,gg,gK,ew,dh];done)
        ·refine qp (o:=5) ?_ (hg:=wi dh);refine ql hH au ?_ (hg:=wi dh);refine qg ?_ (hg:=wi dh);refine aa.dr (aC rfl rfl rfl ew) rfl dh (ab rfl _) ?_;refine qt ew ?_;refine qm ?_;refine aa.nil (bc ?_);dsimp only[aO,List.foldl,nth,u2,u1];dsimp only[Fr.aE,Fr.put,Fr.clean,Fr.ev,Fr.get,nth,V.look,u1,u2,v1,v2,v3,v4,v5,v6,v7,List.length,u3,u4,Nat.reduceSub,Nat.reduceAdd,List.map]
         all_goals(simp[bQ,cx,bR,gg,gK,ew,dh];done)
       ·refine qs ?_ (hg:=wn ew);refine qs ?_ (hg:=wn ew);refine qs ?_ (hg:=wn ew);refine qs ?_ (hg:=wn ew);refine qs ?_;refine qs ?_;refine qs ?_;refine qs ?_ (hg:=wn ew);refine qu ew ?_;refine qm ?_;refine aa.nil (bc ?_);dsimp only[aO,List.foldl,nth,u2,u1];dsimp only[Fr.aE,Fr.put,Fr.clean,Fr.ev,Fr.get,nth,V.look,u1,u2,v1,v2,v3,v4,v5,v6,v7,List.length,u3,u4,Nat.reduceSub,Nat.reduceAdd,List.map]
        all_goals(simp[bQ,cx,bR,gg,gK,ew];done)
      ·refine qs ?_ (hg:=wn gK);refine qs ?_ (hg:=wn gK);refine qs ?_ (hg:=wn gK);refine aa.dr (aC rfl rfl rfl bR) rfl gK (ab rfl _) ?_;refine aa.dr (aC rfl rfl rfl cx) rfl bR (ab rfl _) ?_;refine qt cx ?_;refine qm ?_;refine qs ?_;refine qs ?_;refine qs ?_;refine qs ?_;refine qs ?_;refine qs ?_;refine qs ?_;refine qs ?_;refine qg ?_;refine qm ?_;refine aa.nil (bc ?_);dsimp only[aO,List.foldl,nth,u2,u1];dsimp only[Fr.aE,Fr.put,Fr.clean,Fr.ev,Fr.get,nth,V.look,u1,u2,v1,v2,v3,v4,v5,v6,v7,List.length,u3,u4,Nat.reduceSub,Nat.reduceAdd,List.map]
       all_goals(simp[bQ,cx,bR,gg,gK];done)
     ·refine qs ?_ (hg:=wn gg);refine qs ?_ (hg:=wn gg);refine qs ?_ (hg:=wn gg);refine aa.dr (aC rfl rfl rfl bR) rfl gg (ab rfl _) ?_;refine qm ?_ (hg:=wi bR);refine qs ?_;refine qs ?_;refine qs ?_;refine qg ?_ (hg:=wi bR);refine aa.dr (aC rfl rfl rfl cx) rfl bR (ab rfl _) ?_;refine qt cx ?_;refine qm ?_;refine qs ?_;refine qs ?_;refine qs ?_;refine qs ?_;refine qs ?_;refine qs ?_;refine qs ?_;refine qs ?_;refine qg ?_;refine qm ?_;refine aa.nil (bc ?_);dsimp only[aO,List.foldl,nth,u2,u1];dsimp only[Fr.aE,Fr.put,Fr.clean,Fr.ev,Fr.get,nth,V.look,u1,u2,v1,v2,v3,v4,v5,v6,v7,List.length,u3,u4,Nat.reduceSub,Nat.reduceAdd,List.map]
      all_goals(simp[bQ,cx,bR,gg];done)
   ·refine qs ?_ (hg:=wn cx);refine qs ?_ (hg:=wn cx);refine qs ?_;refine qs ?_;refine qs ?_;refine qs ?_;refine qs ?_;refine qs ?_;refine qs ?_;refine qs ?_;refine qs ?_;refine qs ?_;refine qs ?_;refine qs ?_;refine qs ?_;refine qs ?_ (hg:=wn cx);refine qu cx ?_;refine qm ?_;refine qs ?_;refine qs ?_;refine qs ?_;refine qs ?_;refine qs ?_;refine qs ?_;refine qs ?_;refine qs ?_;refine qg ?_;refine qm ?_;refine aa.nil (bc ?_);dsimp only[aO,List.foldl,nth,u2,u1];dsimp only[Fr.aE,Fr.put,Fr.clean,Fr.ev,Fr.get,nth,V.look,u1,u2,v1,v2,v3,v4,v5,v6,v7,List.length,u3,u4,Nat.reduceSub,Nat.reduceAdd,List.map]
    all_goals(simp[bQ,cx];done)
 dsimp only[aO,List.foldl,nth,u2,u1];refine ag.ret ⟨rx,_,rfl,rl cA hH (rfl)⟩
theorem xX {s0:St} {n:dW} (hn:n.ok) {g:Nat} (hg:g≤1048576):Ev pv 138 [.agg (bt n),.int .i64 (g:Nat)] s0 (.tup [.int .i64 (fH n (g:Nat)).1,.bool (fH n (g:Nat)).2]) s0:=by
 refine Ev.oj rfl Uy rfl rfl rfl ?_;dsimp only[u3,u4,List.length,Nat.reduceSub,Nat.reduceAdd,w1,w2];obtain⟨cA,hF,hH⟩:=ri s0;generalize ai .ro s0=S at*;have Bu:=hn.1.arg s0.bs.length S;have pt:=hn.2.1;refine qq<|qj fun K hK=>qb hH fun k2 st hk2 hH=>?_;dsimp only[u2,u1,u3,u4,setMany,u5,u6,D.cells,Nat.reduceAdd,bt] at hH;refine qm ?_;refine qm ?_;refine qe hK<|qq<|qq<|qj fun K hK=>?_;refine aa.bk (m:=7) hH rfl (ev rfl) (by exact au) (by dsimp only[List.drop_succ_cons,List.drop_zero,List.take_succ_cons,List.take_zero,bt]<;>rfl) rfl rfl (by dsimp only[Fr.put,u1,u2]<;>rfl) ?_;refine qv (CW hn) ?_;refine qg ?_;refine qe hK ?_;unfold fH
 cases hp:uA n with
 |false=>
  rw[if_pos rfl];refine qB ?_;refine qq<|qj fun K hK=>qm ?_;refine qm ?_;refine qe hK<|ag.ret ⟨rx,_,rfl,rl cA hH (rfl)⟩
 |true=>
  rw[if_neg (by simp)];refine qC ?_;refine ag.skip<|qq<|qq<|qj fun K hK=>qp (o:=0) ?_;refine ql hH au ?_;refine qe hK<|ag.block<|qq<|qq<|qj fun K hK=>qg ?_;refine qm ?_;refine qe hK ?_
  by_cases q1:n.op=1
  ·rw[if_pos (.inl q1)];refine qD rfl (by simp[q1]) ?_;refine ag.skip<|qD rfl (by simp[q1]) ?_;refine qq<|qj fun K hK=>qp (o:=6) ?_;refine ql hH au ?_;refine qg ?_;refine qm ?_;refine qm ?_;refine qe hK<|ag.ret ⟨rx,_,rfl,rl cA hH (rfl)⟩
  refine qE rfl (by simp[q1]) ?_;refine qq<|qj fun K hK=>qg ?_;refine qm ?_;refine qe hK ?_
  by_cases q7:n.op=7
  ·rw[if_pos (.inr (.inl q7))];refine qD rfl (by simp[q7]) ?_;refine ag.skip<|qD rfl (by simp[q7]) ?_;refine qq<|qj fun K hK=>qp (o:=6) ?_;refine ql hH au ?_;refine qg ?_;refine qm ?_;refine qm ?_;refine qe hK<|ag.ret ⟨rx,_,rfl,rl cA hH (rfl)⟩
  refine qE rfl (by simp[q7]) ?_;refine qj fun K hK=>qg ?_;refine qm ?_;refine qe hK ?_
  by_cases q8:n.op=8
  ·rw[if_pos (.inr (.inr q8))];refine qD rfl (by simp[q8]) ?_;refine qq<|qj fun K hK=>qp (o:=6) ?_;refine ql hH au ?_;refine qg ?_;refine qm ?_;refine qm ?_;refine qe hK<|ag.ret ⟨rx,_,rfl,rl cA hH (rfl)⟩
  refine qE rfl (by simp[q8]) ?_;rw[if_neg (by omega)];refine qq<|qj fun K hK=>qg ?_;refine qm ?_;refine qe hK ?_;refine ag.cond (by rfl) (fun q2=>?_) (fun q2=>?_)<;>try simp only[beq_iff_eq,beq_eq_false_iff_ne,ne_eq] at q2
  ·rw[if_pos q2];refine qq<|ag.Ra [4,5] (fun ff=>ff 4=.int .i64 0∧ff 5=.bool ((n.kids==0) &&fI n.rs)) ?_ (fun ff tmp BC=>?_)
   ·refine qp (o:=6) ?_;refine ql hH au ?_;refine qg ?_;refine qm ?_;refine aa.two 23 rfl (fun bQ=>?_) (fun bQ=>?_)
    ·refine qp (o:=1) ?_ (hg:=wi bQ);refine ql hH au ?_ (hg:=wi bQ);refine qv (vY (Bu.rows hH) pt) ?_ (hg:=wi bQ);refine qt bQ ?_;refine qm ?_;refine qm ?_;refine aa.nil (lg ?_ ?_)
     ·dsimp only[aO,List.foldl,nth,u2,u1]
     ·dsimp only[nth];dsimp only[Fr.aE,Fr.put,Fr.clean,Fr.ev,Fr.get,nth,V.look,u1,u2,v1,v2,v3,v4,v5,v6,v7,List.length,u3,u4,Nat.reduceSub,Nat.reduceAdd,List.map];refine⟨?_,?_⟩<;>(first|rfl|(simp[bQ];done))
    ·refine qs ?_ (hg:=wn bQ);refine qs ?_ (hg:=wn bQ);refine qs ?_ (hg:=wn bQ);refine qu bQ ?_;refine qm ?_;refine qm ?_;refine aa.nil (lg ?_ ?_)
     ·dsimp only[aO,List.foldl,nth,u2,u1]
     ·dsimp only[nth];dsimp only[Fr.aE,Fr.put,Fr.clean,Fr.ev,Fr.get,nth,V.look,u1,u2,v1,v2,v3,v4,v5,v6,v7,List.length,u3,u4,Nat.reduceSub,Nat.reduceAdd,List.map];refine⟨?_,?_⟩<;>(first|rfl|(simp[bQ];done))
   dsimp only[aO,List.foldl,nth,u2,u1];obtain⟨DW,DV⟩:=BC;rw[DW,DV];refine ag.ret ⟨rx,_,rfl,rl cA hH (rfl)⟩
  rw[if_neg q2];refine qq<|qq<|qj fun K hK=>qg ?_;refine qm ?_;refine qe hK ?_
  by_cases q3:n.op=3
  ·rw[if_pos (.inl q3)];refine qD rfl (by simp[q3]) ?_;refine ag.skip<|qD rfl (by simp[q3]) ?_;refine qq<|qj fun K hK=>qp (o:=6) ?_;refine ql hH au ?_;refine qp (o:=6) ?_;refine ql hH au ?_;refine qg ?_;refine qm ?_;refine qm ?_;refine qe hK<|ag.ret ⟨rx,_,rfl,rl cA hH (rfl)⟩
  refine qE rfl (by simp[q3]) ?_;refine qj fun K hK=>qg ?_;refine qm ?_;refine qe hK ?_
  by_cases q4:n.op=4
  ·rw[if_pos (.inr q4)];refine qD rfl (by simp[q4]) ?_;refine qq<|qj fun K hK=>qp (o:=6) ?_;refine ql hH au ?_;refine qp (o:=6) ?_;refine ql hH au ?_;refine qg ?_;refine qm ?_;refine qm ?_;refine qe hK<|ag.ret ⟨rx,_,rfl,rl cA hH (rfl)⟩
  rw[if_neg (by omega)];refine qE rfl (by simp[q4]) ?_;refine qq<|qj fun K hK=>qg ?_;refine qm ?_;refine qe hK ?_;refine ag.cond (by rfl) (fun q5=>?_) (fun q5=>?_)<;>try simp only[beq_iff_eq,beq_eq_false_iff_ne,ne_eq] at q5
  ·rw[if_pos q5];refine qq<|ag.Ra [4,5] (fun ff=>ff 4=.int .i64 1∧ff 5=.bool ((n.kids==1) &&decide (n.mn≥0) &&decide (n.mn≤30) &&((n.mx==-1)||(decide (n.mx≥n.mn) &&decide (n.mx≤30))))) ?_ (fun ff tmp BC=>?_)
   ·refine qp (o:=6) ?_;refine ql hH au ?_;refine qg ?_;refine qm ?_;refine aa.two 41 rfl (fun bQ=>?_) (fun bQ=>?_)
    ·refine qp (o:=2) ?_ (hg:=wi bQ);refine ql hH au ?_ (hg:=wi bQ);refine qg ?_ (hg:=wi bQ);refine qt bQ ?_;refine qm ?_;refine aa.two 46 rfl (fun dF=>?_) (fun dF=>?_)
     ·refine qp (o:=2) ?_ (hg:=wi dF);refine ql hH au ?_ (hg:=wi dF);refine qg ?_ (hg:=wi dF);refine qt dF ?_;refine qm ?_;refine aa.two 51 rfl (fun di=>?_) (fun di=>?_)
      ·refine qp (o:=3) ?_ (hg:=wi di);refine ql hH au ?_ (hg:=wi di);refine qg ?_ (hg:=wi di);refine qm ?_ (hg:=wi di);refine aa.two 55 rfl (fun bn=>?_) (fun bn=>?_)
       ·refine qs ?_ (hg:=wn bn);refine qs ?_ (hg:=wn bn);refine qs ?_ (hg:=wn bn);refine qs ?_ (hg:=wn bn);refine qs ?_ (hg:=wn bn);refine qs ?_ (hg:=wn bn);refine qs ?_;refine qs ?_;refine qs ?_;refine qs ?_ (hg:=wn bn);refine aa.dU (aC rfl rfl rfl di) rfl bn (ab rfl _) ?_;refine qt di ?_;refine qm ?_;refine qm ?_;refine aa.nil (lg ?_ ?_)
        ·dsimp only[aO,List.foldl,nth,u2,u1]
        ·dsimp only[nth];dsimp only[Fr.aE,Fr.put,Fr.clean,Fr.ev,Fr.get,nth,V.look,u1,u2,v1,v2,v3,v4,v5,v6,v7,List.length,u3,u4,Nat.reduceSub,Nat.reduceAdd,List.map];refine⟨?_,?_⟩<;>(first|rfl|(simp[bQ,dF,di,bn];done))
       ·refine qp (o:=3) ?_ (hg:=wi bn);refine ql hH au ?_ (hg:=wi bn);refine qp (o:=2) ?_ (hg:=wi bn);refine ql hH au ?_ (hg:=wi bn);refine qg ?_ (hg:=wi bn);refine qm ?_ (hg:=wi bn);refine aa.two 61 rfl (fun oF=>?_) (fun oF=>?_)
        ·refine qp (o:=3) ?_ (hg:=wi oF);refine ql hH au ?_ (hg:=wi oF);refine qg ?_ (hg:=wi oF);refine aa.dU (aC rfl rfl rfl bn) rfl oF (ab rfl _) ?_;refine aa.dr (aC rfl rfl rfl di) rfl bn (ab rfl _) ?_;refine qt di ?_;refine qm ?_;refine qm ?_;refine aa.nil (lg ?_ ?_)
         ·dsimp only[aO,List.foldl,nth,u2,u1]
         ·dsimp only[nth];dsimp only[Fr.aE,Fr.put,Fr.clean,Fr.ev,Fr.get,nth,V.look,u1,u2,v1,v2,v3,v4,v5,v6,v7,List.length,u3,u4,Nat.reduceSub,Nat.reduceAdd,List.map];refine⟨?_,?_⟩<;>(first|rfl|(simp[bQ,dF,di,bn,oF];done))
        ·refine qs ?_ (hg:=wn oF);refine qs ?_ (hg:=wn oF);refine qs ?_ (hg:=wn oF);refine aa.dr (aC rfl rfl rfl bn) rfl oF (ab rfl _) ?_;refine aa.dr (aC rfl rfl rfl di) rfl bn (ab rfl _) ?_;refine qt di ?_;refine qm ?_;refine qm ?_;refine aa.nil (lg ?_ ?_)
         ·dsimp only[aO,List.foldl,nth,u2,u1]
         ·dsimp only[nth];dsimp only[Fr.aE,Fr.put,Fr.clean,Fr.ev,Fr.get,nth,V.look,u1,u2,v1,v2,v3,v4,v5,v6,v7,List.length,u3,u4,Nat.reduceSub,Nat.reduceAdd,List.map];refine⟨?_,?_⟩<;>(first|rfl|(simp[bQ,dF,di,bn,oF];done))
      ·refine qs ?_ (hg:=wn di);refine qs ?_ (hg:=wn di);refine qs ?_ (hg:=wn di);refine qs ?_ (hg:=wn di);refine qs ?_;refine qs ?_;refine qs ?_;refine qs ?_;refine qs ?_;refine qs ?_;refine qs ?_;refine qs ?_;refine qs ?_;refine qs ?_;refine qs ?_ (hg:=wn di);refine qu di ?_;refine qm ?_;refine qm ?_;refine aa.nil (lg ?_ ?_)
       ·dsimp only[aO,List.foldl,nth,u2,u1]
       ·dsimp only[nth];dsimp only[Fr.aE,Fr.put,Fr.clean,Fr.ev,Fr.get,nth,V.look,u1,u2,v1,v2,v3,v4,v5,v6,v7,List.length,u3,u4,Nat.reduceSub,Nat.reduceAdd,List.map];refine⟨?_,?_⟩<;>(first|rfl|(simp[bQ,dF,di];done))
     ·refine qs ?_ (hg:=wn dF);refine qs ?_ (hg:=wn dF);refine qs ?_ (hg:=wn dF);refine qu dF ?_;refine qm ?_;refine qs ?_;refine qs ?_;refine qs ?_;refine qs ?_;refine qs ?_;refine qs ?_;refine qs ?_;refine qs ?_;refine qs ?_;refine qs ?_;refine qs ?_;refine qs ?_;refine qs ?_;refine qs ?_;refine qs ?_;refine qg ?_;refine qm ?_;refine qm ?_;refine aa.nil (lg ?_ ?_)
      ·dsimp only[aO,List.foldl,nth,u2,u1]
      ·dsimp only[nth];dsimp only[Fr.aE,Fr.put,Fr.clean,Fr.ev,Fr.get,nth,V.look,u1,u2,v1,v2,v3,v4,v5,v6,v7,List.length,u3,u4,Nat.reduceSub,Nat.reduceAdd,List.map];refine⟨?_,?_⟩<;>(first|rfl|(simp[bQ,dF];done))
    ·refine qs ?_ (hg:=wn bQ);refine qs ?_ (hg:=wn bQ);refine qs ?_ (hg:=wn bQ);refine qu bQ ?_;refine qm ?_;refine qs ?_;refine qs ?_;refine qs ?_;refine qg ?_;refine qm ?_;refine qs ?_;refine qs ?_;refine qs ?_;refine qs ?_;refine qs ?_;refine qs ?_;refine qs ?_;refine qs ?_;refine qs ?_;refine qs ?_;refine qs ?_;refine qs ?_;refine qs ?_;refine qs ?_;refine qs ?_;refine qg ?_;refine qm ?_;refine qm ?_;refine aa.nil (lg ?_ ?_)
     ·dsimp only[aO,List.foldl,nth,u2,u1]
     ·dsimp only[nth];dsimp only[Fr.aE,Fr.put,Fr.clean,Fr.ev,Fr.get,nth,V.look,u1,u2,v1,v2,v3,v4,v5,v6,v7,List.length,u3,u4,Nat.reduceSub,Nat.reduceAdd,List.map];refine⟨?_,?_⟩<;>(first|rfl|(simp[bQ];done))
   dsimp only[aO,List.foldl,nth,u2,u1];obtain⟨DW,DV⟩:=BC;rw[DW,DV];refine ag.ret ⟨rx,_,rfl,rl cA hH (rfl)⟩
  rw[if_neg q5];refine qq<|qj fun K hK=>qg ?_;refine qm ?_;refine qe hK ?_;refine ag.cond (by rfl) (fun q6=>?_) (fun q6=>?_)<;>try simp only[beq_iff_eq,beq_eq_false_iff_ne,ne_eq] at q6
  ·rw[if_pos q6];refine qq<|ag.Ra [4,5] (fun ff=>ff 4=.int .i64 1∧ff 5=.bool ((n.kids==1) &&(n.cap==((g+1:Nat):Int)) &&decide (n.cap≤4))) ?_ (fun ff tmp BC=>?_)
   ·refine qp (o:=6) ?_;refine ql hH au ?_;refine qg ?_;refine qm ?_;refine aa.two 73 rfl (fun bQ=>?_) (fun bQ=>?_)
    ·refine qp (o:=5) ?_ (hg:=wi bQ);refine ql hH au ?_ (hg:=wi bQ);refine qm ?_ (hg:=wi bQ);refine qA ?_ (hg:=wi bQ);refine qg ?_ (hg:=wi bQ);refine qt bQ ?_;refine qm ?_;refine aa.two 80 rfl (fun bh=>?_) (fun bh=>?_)
     ·refine qp (o:=5) ?_ (hg:=wi bh);refine ql hH au ?_ (hg:=wi bh);refine qg ?_ (hg:=wi bh);refine qt bh ?_;refine qm ?_;refine qm ?_;refine aa.nil (lg ?_ ?_)
      ·dsimp only[aO,List.foldl,nth,u2,u1]
      ·dsimp only[nth];dsimp only[Fr.aE,Fr.put,Fr.clean,Fr.ev,Fr.get,nth,V.look,u1,u2,v1,v2,v3,v4,v5,v6,v7,List.length,u3,u4,Nat.reduceSub,Nat.reduceAdd,List.map];refine⟨?_,?_⟩<;>(first|rfl|(simp[bQ,bh];done))
     ·refine qs ?_ (hg:=wn bh);refine qs ?_ (hg:=wn bh);refine qs ?_ (hg:=wn bh);refine qu bh ?_;refine qm ?_;refine qm ?_;refine aa.nil (lg ?_ ?_)
      ·dsimp only[aO,List.foldl,nth,u2,u1]
      ·dsimp only[nth];dsimp only[Fr.aE,Fr.put,Fr.clean,Fr.ev,Fr.get,nth,V.look,u1,u2,v1,v2,v3,v4,v5,v6,v7,List.length,u3,u4,Nat.reduceSub,Nat.reduceAdd,List.map];refine⟨?_,?_⟩<;>(first|rfl|(simp[bQ,bh];done))
    ·refine qs ?_ (hg:=wn bQ);refine qs ?_ (hg:=wn bQ);refine qs ?_ (hg:=wn bQ);refine qs ?_ (hg:=wn bQ);refine qs ?_ (hg:=wn bQ);refine qu bQ ?_;refine qm ?_;refine qs ?_;refine qs ?_;refine qs ?_;refine qg ?_;refine qm ?_;refine qm ?_;refine aa.nil (lg ?_ ?_)
     ·dsimp only[aO,List.foldl,nth,u2,u1]
     ·dsimp only[nth];dsimp only[Fr.aE,Fr.put,Fr.clean,Fr.ev,Fr.get,nth,V.look,u1,u2,v1,v2,v3,v4,v5,v6,v7,List.length,u3,u4,Nat.reduceSub,Nat.reduceAdd,List.map];refine⟨?_,?_⟩<;>(first|rfl|(simp[bQ];done))
   dsimp only[aO,List.foldl,nth,u2,u1];obtain⟨DW,DV⟩:=BC;rw[DW,DV];refine ag.ret ⟨rx,_,rfl,rl cA hH (rfl)⟩
  ·rw[if_neg q6];refine ag.skip<|qq<|qj fun K hK=>qm ?_;refine qm ?_;refine qe hK<|ag.ret ⟨rx,_,rfl,rl cA hH (rfl)⟩
theorem wE {n:dW} (h:n.ok):refs (bt n)=0:=by
 have:=h.1.ref;simp only[bt,refs,D.ref,this,Nat.max_self]
def oS (d:D) (at_ g:Nat):List D:=[d,.int .i64 (at_:Nat),.int .i64 (g:Nat)]
theorem Dc {l:List dW} {d:D} (hl:l.length≤1048576) (hi:∀n∈l,n.ok) (hd:eH d 7 (l.map bt)):∀(f:Nat) {N k:Nat} {S s0:St} {H:List bC} {at_ g:Nat},f≤241→g≤4→Has N S s0 (.box k (.mem 0 false (oS d at_ g))::H)→
  ∃r ah,Ev pv 123 [.ptr k 0 0,.int .i64 ((241-f:Nat):Int)] s0 r ah∧r=.bool (iP l f at_ g).isSome∧∃a' g',Has N S ah (.box k (.mem 0 false (oS d a' g'))::H)∧g'≤4∧∀q,iP l f at_ g=some q→a'=q.1∧g'=q.2:=by
 intro f
 induction f with
 |zero=>
  intro N k S s0 H at_ g hf hg hH;refine Ev.iC rfl My rfl rfl rfl ?_;dsimp only[u3,u4,List.length,Nat.reduceSub,Nat.reduceAdd,w1,w2];have cQ:=hH;have hH:=hH.cV;have cG:(ai .rw s0).bs=s0.bs:=rfl;generalize ai .rw s0=S2 at*;have hc:=hd.arg N S2;refine qq<|qj fun K hK=>qm ?_;refine qe hK<|qq<|qq<|ag.kD 21 (.bool (decide ((at_:Int)≥(l.length:Nat))||decide (((241-0:Nat):Int)>240))) [] ?_ (fun ff tmp hO=>?_)
  ·refine qm ?_;refine qg ?_;refine qp (o:=1) ?_;refine ql hH au ?_;refine qm ?_;refine qg ?_;refine qp (o:=0) ?_;refine ql hH au ?_;refine qn ?_;simp only[List.length_map];refine qg ?_;refine qm ?_;refine aa.two 18 rfl (fun bh=>?_) (fun bh=>?_)
   ·refine qs ?_ (hg:=wn bh);refine qs ?_ (hg:=wn bh);refine qt bh ?_;refine aa.nil (dv ?_ ?_)
    ·dsimp only[aO,List.foldl,nth,u2,u1]
     all_goals(first|rfl|simp)
    ·dsimp only[Fr.aE,Fr.put,Fr.clean,Fr.ev,Fr.get,nth,V.look,u1,u2,v1,v2,v3,v4,v5,v6,v7,List.length,u3,u4,Nat.reduceSub,Nat.reduceAdd,List.map]
     all_goals(simp[bh];done)
   ·refine qm ?_ (hg:=wi bh);refine qg ?_ (hg:=wi bh);refine qu bh ?_;refine aa.nil (dv ?_ ?_)
    ·dsimp only[aO,List.foldl,nth,u2,u1]
     all_goals(first|rfl|simp)
    ·dsimp only[Fr.aE,Fr.put,Fr.clean,Fr.ev,Fr.get,nth,V.look,u1,u2,v1,v2,v3,v4,v5,v6,v7,List.length,u3,u4,Nat.reduceSub,Nat.reduceAdd,List.map]
     all_goals(simp[bh];done)
  dsimp only[aO,List.foldl,nth,u2,u1];have hT:(decide ((at_:Int)≥(l.length:Nat))||decide (((241-0:Nat):Int)>240))=true:=by simp
  rw[hT] at hO;refine qB ?_;refine qq<|qj fun K hK=>qm ?_;refine qe hK<|ag.ret ⟨rx,_,_,_,rfl,ak (rfl),?_⟩;exact⟨rfl,_,_,cQ.aA cG hH,hg,fun q hq=>by simp[iP] at hq⟩
 |succ f ih=>
  intro N k S s0 H at_ g hf hg hH;refine Ev.iC rfl My rfl rfl rfl ?_;dsimp only[u3,u4,List.length,Nat.reduceSub,Nat.reduceAdd,w1,w2];have cQ:=hH;have hH:=hH.cV;have cG:(ai .rw s0).bs=s0.bs:=rfl;generalize ai .rw s0=S2 at*;have hc:=hd.arg N S2;refine qq<|qj fun K hK=>qm ?_;refine qe hK<|qq<|qq<|ag.kD 21 (.bool (decide ((at_:Int)≥(l.length:Nat))||decide (((241-(f+1):Nat):Int)>240))) [] ?_ (fun ff tmp hO=>?_)
  ·refine qm ?_;refine qg ?_;refine qp (o:=1) ?_;refine ql hH au ?_;refine qm ?_;refine qg ?_;refine qp (o:=0) ?_;refine ql hH au ?_;refine qn ?_;simp only[List.length_map];refine qg ?_;refine qm ?_;refine aa.two 18 rfl (fun bh=>?_) (fun bh=>?_)
   ·refine qs ?_ (hg:=wn bh);refine qs ?_ (hg:=wn bh);refine qt bh ?_;refine aa.nil (dv ?_ ?_)
    ·dsimp only[aO,List.foldl,nth,u2,u1]
     all_goals(first|rfl|simp)
    ·dsimp only[Fr.aE,Fr.put,Fr.clean,Fr.ev,Fr.get,nth,V.look,u1,u2,v1,v2,v3,v4,v5,v6,v7,List.length,u3,u4,Nat.reduceSub,Nat.reduceAdd,List.map]
     all_goals(simp_all;done)
   ·refine qm ?_ (hg:=wi bh);refine qg ?_ (hg:=wi bh);refine qu bh ?_;refine aa.nil (dv ?_ ?_)
    ·dsimp only[aO,List.foldl,nth,u2,u1]
     all_goals(first|rfl|simp)
    ·dsimp only[Fr.aE,Fr.put,Fr.clean,Fr.ev,Fr.get,nth,V.look,u1,u2,v1,v2,v3,v4,v5,v6,v7,List.length,u3,u4,Nat.reduceSub,Nat.reduceAdd,List.map]
     all_goals(simp_all;omega)
  dsimp only[aO,List.foldl,nth,u2,u1]
  by_cases ha:l.length≤at_
  ·have hT:(decide ((at_:Int)≥(l.length:Nat))||decide (((241-(f+1):Nat):Int)>240))=true:=by
    rw[Bool.or_eq_true];exact .inl (by rw[decide_eq_true_eq];omega)
   rw[hT] at hO;have hn:iP l (f+1) at_ g=none:=by unfold iP;rw[List.getElem?_eq_none ha]
   rw[hn];refine qB ?_;refine qq<|qj fun K hK=>qm ?_;refine qe hK<|ag.ret ⟨rx,_,_,_,rfl,ak (rfl),?_⟩;exact⟨rfl,_,_,cQ.aA cG hH,hg,fun q hq=>by cases hq⟩
  ·have hT:(decide ((at_:Int)≥(l.length:Nat))||decide (((241-(f+1):Nat):Int)>240))=false:=by
    rw[Bool.or_eq_false_iff];exact⟨by rw[decide_eq_false_iff_not];omega,by rw[decide_eq_false_iff_not];omega⟩
   rw[hT] at hO
   obtain⟨n,hn⟩:∃n,l[at_]?=some n:=⟨l[at_]'(by omega),List.getElem?_eq_getElem _⟩
   have mg:=hi n (List.mem_of_getElem? hn);have iv:=lV hn;have Ll:=wE mg
   have kr:iP l (f+1) at_ g=if(fH n (g:Nat)).2=true then jP (iP l f) (fH n (g:Nat)).1.toNat (at_+1) (if n.op=6 then g+1 else g) else none:=by
    rw[iP,hn]
   rw[kr];clear kr;refine qC ?_;refine ag.skip<|qq<|qj fun K hK=>qm ?_;refine qg ?_;refine qp (o:=0) ?_;refine ql hH au ?_;refine qm ?_;refine qg ?_;refine qp (o:=1) ?_;refine ql hH au ?_;refine qr fun Zc S8=>?_;refine aa.dJ rfl (ev rfl) (by assumption) rfl (ab rfl _) ?_;refine qa hH fun k5 st E6 hH=>?_;dsimp only[u2,u1,u3,u4,setMany,u5,u6,D.cells,Nat.reduceAdd,oS,bt] at hH;refine aa.gP hH rfl (ev rfl) (ev rfl) (by rfl) (by exact rfl) (by exact au) (by exact rfl) (by exact .inr (by assumption)) (fun st hH=>?_);dsimp only[u2,u1,u3,u4,setMany,u5,u6,D.cells,Nat.reduceAdd,oS,bt] at hH;refine qe hK<|qq<|qj fun K hK=>?_;refine aa.bk (m:=7) hH rfl (ev rfl) (by exact au) (by dsimp only[List.drop_succ_cons,List.drop_zero,List.take_succ_cons,List.take_zero,oS,bt]<;>rfl) rfl rfl (ab rfl _) ?_;refine qm ?_;refine qg ?_;refine qp (o:=2) ?_;refine ql hH aS ?_;refine qv (xX mg (by omega)) ?_;refine qm ?_;refine qg ?_;refine qg ?_;refine qm ?_;refine qm ?_;refine qe hK<|qq<|qq<|qj fun K hK=>qm ?_;refine qg ?_;refine qe hK ?_
   cases hsh:(fH n (g:Nat)).2 with
   |false=>
    rw[if_neg (by simp)];refine qB ?_;refine qq<|qj fun K hK=>qm ?_;refine qe hK<|ag.ret ⟨rx,_,_,_,rfl,ak (rfl),?_⟩;exact⟨rfl,_,_,cQ.aA cG (hH.drop 1),hg,fun q hq=>by cases hq⟩
   |true=>
    rw[if_pos rfl];obtain⟨⟨pQ,_⟩,hk2,Tu⟩:=vM hsh;have Vd:=mg.2.2;obtain⟨kd,QH⟩:∃kd:Nat,(fH n (g:Nat)).1=(kd:Int):=Int.eq_ofNat_of_zero_le hk2;rw[QH,Int.toNat_natCast];rw[QH,Int.toNat_natCast] at pQ;refine qC ?_;refine ag.skip<|qq<|qj fun K hK=>qm ?_;refine qg ?_;refine qp (o:=1) ?_;refine ql hH aS ?_;refine qA ?_;refine qg ?_;refine qp (o:=1) ?_;refine qT hH aS fun st hH=>?_;dsimp only[u2,u1,u3,u4,setMany,u5,u6,D.cells,Nat.reduceAdd,oS,bt] at hH;refine qe hK<|qq<|qq<|qj fun K hK=>qp (o:=0) ?_;refine ql hH au ?_;refine qg ?_;refine qe hK<|ag.merge (fun fr st=>∃(g2:Nat) (tmp:List (Nat×D)),fr=⟨8,[.ptr k 0 0,.int .i64 ((241-(f+1):Nat):Int),oy fr 2,oy fr 3,.bool false,.ptr k5 0 0,.int .i64 (kd:Nat),.bool true],tmp⟩∧Has N S2 st (.box k (.mem 0 false [d,.int .i64 ((at_+1:Nat):Int),.int .i64 (g2:Nat)])::.box k5 (.mem 0 false (bt n))::H)∧(g2=if n.op=6 then g+1 else g)∧(g2≤4)) ?_ ?_
    ·refine ag.cond (by rfl) (fun q6=>?_) (fun q6=>?_)<;>try simp only[beq_iff_eq,beq_eq_false_iff_ne,ne_eq] at q6
     ·have:=Tu q6;refine qj fun K hK=>qm ?_;refine qg ?_;refine qp (o:=2) ?_;refine ql hH aS ?_;refine qA ?_;refine qg ?_;refine qp (o:=2) ?_;refine qT hH aS fun st hH=>?_;dsimp only[u2,u1,u3,u4,setMany,u5,u6,D.cells,Nat.reduceAdd,oS,bt] at hH;refine qe hK ?_;exact⟨g+1,_,rfl,(by have:=hH.front aS;exact this),by rw[if_pos q6],by omega⟩
     ·refine ag.skip ?_;exact⟨g,_,rfl,(by have:=hH.front aS;exact this),by rw[if_neg q6],hg⟩
    ·rintro fr st ⟨g2,tmp,hfr,hH,bz,bQ⟩;rw[hfr];clear hfr;generalize oy fr=ee;clear fr;rw[←bz];refine qq<|ag.block<|ag.loop (fun mm fr st=>∃(kk a2 g4:Nat),fr.clean=⟨8,[.ptr k 0 0,.int .i64 ((241-(f+1):Nat):Int),oy fr 2,oy fr 3,.bool false,.ptr k5 0 0,.int .i64 (kk:Nat),.bool true],[]⟩∧Has N S2 st (.box k (.mem 0 false [d,.int .i64 (a2:Nat),.int .i64 (g4:Nat)])::.box k5 (.mem 0 false (bt n))::H)∧(jP (iP l f) kk a2 g4=jP (iP l f) kd (at_+1) g2)∧(g4≤4)∧(kk=mm)∧(kk≤9223372036854775807)) (kd) ?_ ?_
     ·exact⟨kd,at_+1,g2,rfl,hH,rfl,bQ,rfl,by omega⟩
     rintro mm fr st ⟨kk,a2,g4,hfr,hH,hX,bN,Mo,hkk⟩;rw[hfr];clear hfr;generalize oy fr=ee;clear fr;refine qq<|qq<|qj fun K hK=>qm ?_;refine qg ?_;refine qe hK ?_
     cases kk with
     |zero=>
      refine ag.cond (v:=false) (by dsimp only[Fr.ev,Fr.get,nth,V.look];rfl) (fun h=>by cases h) (fun _=>?_);refine ag.exit<|qq<|qj fun K hK=>qm ?_;refine qe hK<|ag.ret ⟨rx,_,_,_,rfl,ak (rfl),?_⟩;exact⟨by rw[←hX];rfl,_,_,cQ.aA cG (hH.erase 1),bN,fun q hq=>by rw[←hX] at hq;simp only[jP,Option.some.injEq] at hq;subst hq;exact⟨rfl,rfl⟩⟩
     |succ kk=>
      rw[jP] at hX;refine qD rfl (by simp) ?_;refine ag.skip<|qq<|ag.block<|qq<|qj fun K hK=>qm ?_;refine qm ?_;refine aa.lE (z:=((241-f:Nat):Int)) rfl (ev rfl) (ev rfl) (by rw[wrap_i64 (by omega) (by omega)]<;>omega) (ab rfl _) ?_;obtain⟨_,st,aN,rfl,a',g',hH,eY,hq⟩:=ih (at_:=a2) (g:=g4) (by omega) bN hH;refine qv aN ?_;refine qg ?_;refine qe hK ?_
      cases ho:iP l f a2 g4 with
      |none=>
       rw[ho] at hX;refine qB ?_;refine qq<|qj fun K hK=>qm ?_;refine qe hK<|ag.ret ⟨rx,_,_,_,rfl,ak (rfl),?_⟩;exact⟨by rw[←hX];rfl,_,_,cQ.aA cG (hH.erase 1),eY,fun q hq=>by rw[←hX] at hq;cases hq⟩
      |some q=>
       rw[ho] at hX;obtain⟨rfl,rfl⟩:=hq q ho;refine qC ?_;refine ag.skip<|qj fun K hK=>qm ?_;refine aa.mO (z:=((kk:Nat):Int)) rfl (ev rfl) (ev rfl) (by rw[wrap_i64 (by omega) (by omega)]<;>omega) (ab rfl _) ?_;refine qm ?_;refine qe hK ?_;exact⟨mm-1,by omega,⟨kk,q.1,q.2,rfl,hH,hX,eY,by omega,by omega⟩⟩
theorem A8 {s0:St} {x:Nl} (hx:x.ok):Ev pv 87 [x.d] s0 (.bool (gD x.l)) s0:=by
 refine Ev.oj rfl X9 rfl rfl rfl ?_;dsimp only[u3,u4,List.length,Nat.reduceSub,Nat.reduceAdd,w1,w2];obtain⟨cA,hF,hH⟩:=ri s0;generalize ai .ro s0=S at*;have hc:=hx.c.arg s0.bs.length S;have hl:=hx.nl;have pT:=hx.c;refine qq<|qj fun K hK=>qm ?_;refine qe hK<|qq<|qq<|ag.kD 11 (.bool (decide (((x.l.length:Nat):Int)<1)||decide (((x.l.length:Nat):Int)>480))) [] ?_ (fun ff tmp hO=>?_)
 ·refine qm ?_;refine qn ?_;simp only[List.length_map];refine qg ?_;refine qm ?_;refine aa.two 7 rfl (fun bQ=>?_) (fun bQ=>?_)
  ·refine qs ?_ (hg:=wn bQ);refine qs ?_ (hg:=wn bQ);refine qs ?_ (hg:=wn bQ);refine qt bQ ?_;refine aa.nil (dv ?_ ?_)
   ·dsimp only[aO,List.foldl,nth,u2,u1]
    all_goals(first|rfl|simp)
   ·dsimp only[Fr.aE,Fr.put,Fr.clean,Fr.ev,Fr.get,nth,V.look,u1,u2,v1,v2,v3,v4,v5,v6,v7,List.length,u3,u4,Nat.reduceSub,Nat.reduceAdd,List.map]
    all_goals(simp[bQ];done)
  ·refine qm ?_ (hg:=wi bQ);refine qn ?_ (hg:=wi bQ);simp only[List.length_map];refine qg ?_ (hg:=wi bQ);refine qu bQ ?_;refine aa.nil (dv ?_ ?_)
   ·dsimp only[aO,List.foldl,nth,u2,u1]
    all_goals(first|rfl|simp)
   ·dsimp only[Fr.aE,Fr.put,Fr.clean,Fr.ev,Fr.get,nth,V.look,u1,u2,v1,v2,v3,v4,v5,v6,v7,List.length,u3,u4,Nat.reduceSub,Nat.reduceAdd,List.map]
    all_goals(simp[bQ];done)
 dsimp only[aO,List.foldl,nth,u2,u1]
 by_cases hlen:1≤x.l.length∧x.l.length≤480
 ·have hT:(decide (((x.l.length:Nat):Int)<1)||decide (((x.l.length:Nat):Int)>480))=false:=by
   rw[Bool.or_eq_false_iff];exact⟨by rw[decide_eq_false_iff_not];omega,by rw[decide_eq_false_iff_not];omega⟩
  rw[hT] at hO
  have hR:gD x.l=(match iP x.l 241 0 0 with|some r=>decide (r.1=x.l.length)|none=>false):=by
   unfold gD;rw[decide_eq_true hlen.1,decide_eq_true hlen.2];rfl
  rw[hR];clear hR;refine qC ?_;refine ag.skip<|qq<|qj fun K hK=>qm ?_;refine aa.gu (qs:=[(0,_)]) rfl rfl rfl rfl ⟨rfl,(ev rfl),(by exact(eH.cells (by assumption)).1),trivial⟩ (by intro q hq;simp only[List.mem_cons,List.not_mem_nil,or_false] at hq;rcases hq with rfl<;>exact⟨rfl,by exact Nat.le_of_ble_eq_true rfl⟩) (by show List.foldl _ [_,_,_] _=_;dsimp only[List.foldl_cons,List.foldl_nil,u2,u1]<;>rfl) (ab rfl _) ?_;refine qb hH fun k14 st Ty hH=>?_;refine qm ?_;refine qe hK ?_;have hH:Has s0.bs.length S st (.box k14 (.mem 0 false (oS x.d 0 0))::[]):=hH
  cases bz:(iP x.l 241 0 0).isSome with
  |true=>
   obtain⟨q,hq⟩:=Option.isSome_iff_exists.1 bz;refine qq<|qj fun K hK=>qm ?_;obtain⟨_,st,aN,rfl,a',g',hH,eY,SZ⟩:=Dc hl hx.i hx.c 241 (by omega) (by omega) hH;refine qv aN ?_;refine qm ?_;refine qm ?_ (hg:=wi bz);refine qg ?_ (hg:=wi bz);refine qp (o:=1) ?_ (hg:=wi bz);refine ql hH au ?_ (hg:=wi bz);refine qm ?_ (hg:=wi bz);refine qn ?_ (hg:=wi bz);simp only[List.length_map];refine qg ?_ (hg:=wi bz);refine qt bz ?_;refine qm ?_;refine qe hK ?_;obtain⟨rfl,rfl⟩:=SZ q hq;rw[hq]
   have he:decide (q.1=x.l.length)=(((q.1:Nat):Int)==((x.l.length:Nat):Int)):=by
    rw[Bool.eq_iff_iff];simp only[decide_eq_true_eq,beq_iff_eq];omega
   simp only[he];refine ag.ret ⟨rx,_,rfl,rl cA hH (rfl)⟩
  |false=>
   have hq:iP x.l 241 0 0=none:=by
    cases hq:iP x.l 241 0 0 with
    |none=>rfl
    |some q=>rw[hq] at bz;cases bz
   refine qq<|qj fun K hK=>qm ?_;obtain⟨_,st,aN,rfl,a',g',hH,eY,SZ⟩:=Dc hl hx.i hx.c 241 (by omega) (by omega) hH;refine qv aN ?_;refine qm ?_;refine qs ?_ (hg:=wn bz);refine qs ?_ (hg:=wn bz);refine qs ?_ (hg:=wn bz);refine qs ?_ (hg:=wn bz);refine qs ?_ (hg:=wn bz);refine qs ?_ (hg:=wn bz);refine qs ?_ (hg:=wn bz);refine qu bz ?_;refine qm ?_;refine qe hK ?_;rw[hq];refine ag.ret ⟨rx,_,rfl,rl cA hH (rfl)⟩
 ·have hT:(decide (((x.l.length:Nat):Int)<1)||decide (((x.l.length:Nat):Int)>480))=true:=by
   rw[Bool.or_eq_true,decide_eq_true_eq,decide_eq_true_eq];omega
  rw[hT] at hO
  have hR:gD x.l=false:=by
   unfold gD
   by_cases h1:1≤x.l.length
   ·rw[decide_eq_true h1,decide_eq_false (fun h2=>hlen ⟨h1,h2⟩)];rfl
   ·rw[decide_eq_false h1];rfl
  rw[hR];refine qB ?_;refine qq<|qj fun K hK=>qm ?_;refine qe hK<|ag.ret ⟨rx,_,rfl,rl cA hH (rfl)⟩
def aR (fr:Go.V.Fr) (k:Nat):Go.V.D:=Go.V.nth .bD fr.loc k
def nL (es:List Int) (a:Nat) (M:List Int):List Int:=es.take a++M++es.drop (a+M.length)
theorem zM {es M:List Int} {a:Nat} (h:a+M.length≤es.length):(nL es a M).length=es.length:=by
 unfold nL;simp only[List.length_append,List.length_take,List.length_drop];omega
theorem zL {es:List Int} {a:Nat}:nL es a []=es:=by
 unfold nL;simp
theorem Fp {es M:List Int} {a:Nat} {x:Int} (h:a≤es.length):(nL es a (x::M))[a]?=some x:=by
 unfold nL;rw[List.append_assoc,List.getElem?_append_right (by simp only[List.length_take];omega)];simp[Nat.min_eq_left h]
theorem zJ {es M M':List Int} {a:Nat} (h:a+M.length+M'.length≤es.length):nL (nL es a M) (a+M.length) M'=nL es a (M++M'):=by
 unfold nL;have h1:(es.take a++M).length=a+M.length:=by simp only[List.length_append,List.length_take];omega
 rw[List.take_append_of_le_length (by omega),List.take_of_length_le (by omega)];rw[←h1,List.drop_append,List.drop_eq_nil_of_le (by omega),List.nil_append,h1,List.drop_drop];simp only[List.append_assoc,List.length_append]
 congr 4
 omega
theorem zK {es M:List Int} {a:Nat} {v:Int} (h:a+1+M.length≤es.length):(nL es (a+1) M).set a v=nL es a (v::M):=by
 unfold nL;have h1:(es.take a).length=a:=by simp only[List.length_take];omega
 rw[List.append_assoc,List.take_add_one,List.getElem?_eq_getElem (by omega)];simp only[Option.toList_some,List.append_assoc,List.cons_append,List.nil_append,List.length_cons];rw[List.set_append_right _ _ (by omega),h1,Nat.sub_self,List.set_cons_zero]
 congr 4
 omega
theorem CC {l:List dW} {d:D} (hl:l.length≤1048576) (hi:∀n∈l,n.ok) (hd:eH d 7 (l.map bt)):∀(m:Nat) (t:Tr),t.flat.length≤m→t.ok→∀{N:Nat} {S s0:St} {H:List bC} {out:D} {es:List Int} {at_:Nat},fY l at_ t.flat→es.length=l.length→Has N S s0 (.aM out 1 (es.map aq)::H)→
  ∃r ah,Ev pv 88 [d,out,.int .i64 (at_:Nat)] s0 r ah∧r=.int .i64 ((at_+t.flat.length:Nat):Int)∧Has N S ah (.aM out 1 ((nL es at_ t.zs).map aq)::H):=by
 intro m
 induction m with
 |zero=>intro t h;have:=t.iU;omega
 |succ m ih=>
  rintro⟨n,ks⟩ hm bd N S s0 H out es at_ kq vw hH;simp only[Tr.ok] at bd;obtain⟨mg,mK⟩:=bd;simp only[Tr.flat,List.length_cons] at hm;have hle:=kq.le (by simp[Tr.flat]);simp only[Tr.flat] at kq hle;simp only[List.length_cons] at hle;have hn:=kq.head;have kq:=kq.tail;have Te:=hi n (List.mem_of_getElem? hn);have iv:=lV hn;have Ll:=wE Te;have QH:=mg.1;have px:=bS.lf ks;refine Ev.iC rfl X8 rfl rfl rfl ?_;dsimp only[u3,u4,List.length,Nat.reduceSub,Nat.reduceAdd,w1,w2];have cQ:=hH;have hH:=hH.cV;have cG:(ai .rw s0).bs=s0.bs:=rfl;generalize ai .rw s0=S2 at*;have hc:=hd.arg N S2;refine qq<|qj fun K hK=>qm ?_;refine qe hK<|qq<|qj fun K hK=>qm ?_;refine qm ?_;refine qr fun p13 WQ=>?_;refine aa.dJ rfl (ev rfl) (by assumption) rfl (by dsimp only[Fr.put,u1,u2]<;>rfl) ?_;refine qa hH fun k7 st W8 hH=>?_;refine aa.gP hH rfl (ev rfl) (ev rfl) (by rfl) (by exact rfl) (by exact au) (by exact rfl) (by exact .inr (by assumption)) (fun st hH=>?_);dsimp only[u2,u1,u3,u4,setMany,u5,u6,D.cells,Nat.reduceAdd,bt,aq] at hH;refine qe hK<|qq<|qj fun K hK=>qm ?_;refine qA ?_;refine qm ?_;refine qe hK<|qq<|qj fun K hK=>qm ?_;refine qe hK<|qq<|qq<|qj fun K hK=>qp (o:=6) ?_;refine ql hH au ?_;refine qm ?_;refine qe hK<|ag.block<|ag.loop (fun mm fr st=>∃(i j ss:Nat) (rest:bS) (pz:List Int),fr.clean=⟨36,[d,out,.int .i64 (at_:Nat),aR fr 3,aR fr 4,aR fr 5,.int .i64 0,.ptr k7 0 0,.int .i64 (j:Nat),.int .i64 ((min ss 401:Nat):Int),aR fr 10,aR fr 11,aR fr 12,aR fr 13,aR fr 14,aR fr 15,aR fr 16,aR fr 17,.int .i64 n.kids,.int .i64 (i:Nat),aR fr 20,aR fr 21,aR fr 22,aR fr 23,aR fr 24,aR fr 25,aR fr 26,aR fr 27,aR fr 28,aR fr 29,aR fr 30,aR fr 31,aR fr 32,aR fr 33,aR fr 34,aR fr 35],[]⟩∧Has N S2 st (.aM out 1 (pz.map aq)::.box k7 (.mem 0 false (bt n))::H)∧(mm=rest.len)∧(i+rest.len=ks.len)∧(fY l j rest.flat)∧(rest.ok)∧(ss+rest.sz=ks.sz)∧(pz.length=l.length)∧(nL pz j rest.zs=nL es (at_+1) ks.zs)∧(j+rest.flat.length=at_+1+ks.flat.length)∧(rest.flat.length≤m)) (ks.len) ?_ ?_
  ·exact⟨0,at_+1,0,ks,es,rfl,(by have:=hH.front aS;exact this),rfl,by omega,kq,mK,by omega,vw,rfl,rfl,by omega⟩
  rintro mm fr st ⟨i,j,ss,rest,pz,hfr,hH,xO,BA,pr,jS,Cc,yR,uV,hj,Qp⟩;rw[hfr];clear hfr;generalize aR fr=ee;clear fr;refine qq<|qj fun K hK=>qg ?_;refine qe hK ?_
  cases rest with
  |nil=>
   simp only[bS.len] at BA;simp only[bS.sz] at Cc;simp only[bS.flat,List.length_nil] at hj;simp only[bS.zs,zL] at uV;have iE:decide ((i:Int)<n.kids)=false:=by rw[decide_eq_false_iff_not];omega
   refine qq<|qE rfl (by rw[iE]) ?_;refine ag.exit ?_;obtain rfl:ss=ks.sz:=by omega
   have kq:=pr;refine qq<|qq<|qj fun K hK=>qp (o:=0) ?_;refine ql hH aS ?_;refine qe hK<|ag.merge (fun fr st=>∃(tmp:List (Nat×D)),fr=⟨36,[d,out,.int .i64 (at_:Nat),aR fr 3,aR fr 4,aR fr 5,.int .i64 0,.ptr k7 0 0,.int .i64 (j:Nat),.int .i64 ((bW n (min ks.sz 401) ks.len:Nat):Int),aR fr 10,aR fr 11,aR fr 12,aR fr 13,aR fr 14,aR fr 15,aR fr 16,aR fr 17,aR fr 18,aR fr 19,aR fr 20,aR fr 21,aR fr 22,aR fr 23,aR fr 24,aR fr 25,aR fr 26,aR fr 27,aR fr 28,aR fr 29,aR fr 30,aR fr 31,aR fr 32,aR fr 33,aR fr 34,aR fr 35],tmp⟩∧Has N S2 st (.aM out 1 (pz.map aq)::.box k7 (.mem 0 false (bt n))::H)) ?_ ?_
   ·refine ag.block<|qq<|qq<|qj fun K hK=>qg ?_;refine qm ?_;refine qe hK ?_;generalize hw:min ks.sz 401=w;have V1:w≤401:=by omega
    have gq:ks.len≤9223372036854775→True:=fun _=>trivial
    by_cases q2:n.op=2
    ·have hz:bW n w ks.len=1:=by unfold bW;rw[if_pos (.inl q2)]
     rw[hz];refine qD rfl (by simp[q2]) ?_;refine ag.skip<|qD rfl (by simp[q2]) ?_;refine qj fun K hK=>qm ?_;refine qe hK ?_;exact⟨_,rfl,hH⟩
    refine qE rfl (by simp[q2]) ?_;refine qq<|qj fun K hK=>qg ?_;refine qm ?_;refine qe hK ?_
    by_cases q7:n.op=7
    ·have hz:bW n w ks.len=1:=by unfold bW;rw[if_pos (.inr (.inl q7))]
     rw[hz];refine qD rfl (by simp[q7]) ?_;refine ag.skip<|qD rfl (by simp[q7]) ?_;refine qj fun K hK=>qm ?_;refine qe hK ?_;exact⟨_,rfl,hH⟩
    refine qE rfl (by simp[q7]) ?_;refine qj fun K hK=>qg ?_;refine qm ?_;refine qe hK ?_
    by_cases q8:n.op=8
    ·have hz:bW n w ks.len=1:=by unfold bW;rw[if_pos (.inr (.inr q8))]
     rw[hz];refine qD rfl (by simp[q8]) ?_;refine qj fun K hK=>qm ?_;refine qe hK ?_;exact⟨_,rfl,hH⟩
    refine qE rfl (by simp[q8]) ?_
    have hz0:bW n w ks.len=if n.op=4 then w+2*(ks.len-1) else if n.op=6 then w+2 else if n.op=5 then(if n.mx=-1 then n.mn.toNat*w+w+2 else n.mn.toNat*w+(n.mx.toNat-n.mn.toNat)*(w+1)) else w:=by
     unfold bW;rw[if_neg (by omega)]
    rw[hz0];clear hz0;obtain⟨_,iS⟩:=mg;have hq:(n.op=1∧ks.len=0)∨((n.op=3∨n.op=4)∧2≤ks.len)∨(n.op=5∧ks.len=1∧0≤n.mn∧n.mn≤30∧(n.mx=-1∨(n.mn≤n.mx∧n.mx≤30)))∨(n.op=6∧ks.len=1∧1≤n.cap∧n.cap≤4):=by omega
    refine qq<|qj fun K hK=>qg ?_;refine qm ?_;refine qe hK ?_
    by_cases q4:n.op=4
    ·rw[if_pos q4];have hk2:2≤ks.len:=by omega
     refine qD rfl (by simp[q4]) ?_;refine qj fun K hK=>qm ?_;refine qp (o:=6) ?_;refine ql hH aS ?_;refine aa.mO (z:=((ks.len-1:Nat):Int)) rfl (ev rfl) (ev rfl) (by rw[wrap_i64 (by omega) (by omega)]<;>omega) (ab rfl _) ?_;refine aa.uG (z:=((2*(ks.len-1):Nat):Int)) rfl (ev rfl) (ev rfl) (by rw[wrap_i64 (by omega) (by omega)]<;>omega) (ab rfl _) ?_;refine aa.lE (z:=((w+2*(ks.len-1):Nat):Int)) rfl (ev rfl) (ev rfl) (by rw[wrap_i64 (by omega) (by omega)]<;>omega) (ab rfl _) ?_;refine qm ?_;refine qe hK ?_;exact⟨_,rfl,hH⟩
    rw[if_neg q4];refine qE rfl (by simp[q4]) ?_;refine qq<|qj fun K hK=>qg ?_;refine qm ?_;refine qe hK ?_
    by_cases q6:n.op=6
    ·rw[if_pos q6];refine qD rfl (by simp[q6]) ?_;refine qj fun K hK=>qm ?_;refine qA ?_;refine qm ?_;refine qe hK ?_;exact⟨_,rfl,hH⟩
    rw[if_neg q6];refine qE rfl (by simp[q6]) ?_;refine qq<|qj fun K hK=>qg ?_;refine qm ?_;refine qe hK ?_
    by_cases q5:n.op=5
    ·rw[if_pos q5];refine qD rfl (by simp[q5]) ?_;refine qq<|qj fun K hK=>qp (o:=3) ?_;refine ql hH aS ?_;refine qg ?_;refine qe hK ?_;have Cf:0≤n.mn∧n.mn≤30∧(n.mx=-1∨(n.mn≤n.mx∧n.mx≤30)):=by omega
     obtain⟨a,ha⟩:∃a:Nat,n.mn=(a:Int):=Int.eq_ofNat_of_zero_le Cf.1;have V':n.mn.toNat=a:=by omega
     have h1:a*w≤30*401:=Nat.mul_le_mul (by omega) V1;have hmul:n.mn*(w:Int)=((a*w:Nat):Int):=by rw[ha];push_cast;rfl
     rw[V']
     by_cases CQ:n.mx=-1
     ·rw[if_pos CQ];refine qD rfl (by simp[CQ]) ?_;refine qj fun K hK=>qp (o:=2) ?_;refine ql hH aS ?_;refine qm ?_;refine aa.uG (z:=((a*w:Nat):Int)) rfl (ev rfl) (ev rfl) (by rw[wrap_i64 (by omega) (by omega)]<;>omega) (ab rfl _) ?_;refine qm ?_;refine aa.lE (z:=((a*w+w:Nat):Int)) rfl (ev rfl) (ev rfl) (by rw[wrap_i64 (by omega) (by omega)]<;>omega) (ab rfl _) ?_;refine aa.lE (z:=((a*w+w+2:Nat):Int)) rfl (ev rfl) (ev rfl) (by rw[wrap_i64 (by omega) (by omega)]<;>omega) (ab rfl _) ?_;refine qm ?_;refine qe hK ?_;exact⟨_,rfl,hH⟩
     ·rw[if_neg CQ];obtain⟨b,hb⟩:∃b:Nat,n.mx=(b:Int):=Int.eq_ofNat_of_zero_le (by omega);have htb:n.mx.toNat=b:=by omega
      have h2:(b-a)*(w+1)≤30*402:=Nat.mul_le_mul (by omega) (by omega);rw[htb];refine qE rfl (by simp[CQ]) ?_;refine qj fun K hK=>qp (o:=2) ?_;refine ql hH aS ?_;refine qm ?_;refine aa.uG (z:=((a*w:Nat):Int)) rfl (ev rfl) (ev rfl) (by rw[wrap_i64 (by omega) (by omega)]<;>omega) (ab rfl _) ?_;refine qp (o:=3) ?_;refine ql hH aS ?_;refine qp (o:=2) ?_;refine ql hH aS ?_;refine aa.mO (z:=((b-a:Nat):Int)) rfl (ev rfl) (ev rfl) (by rw[wrap_i64 (by omega) (by omega)]<;>omega) (ab rfl _) ?_;refine qm ?_;refine aa.lE (z:=((w+1:Nat):Int)) rfl (ev rfl) (ev rfl) (by rw[wrap_i64 (by omega) (by omega)]<;>omega) (ab rfl _) ?_;refine aa.uG (z:=(((b-a)*(w+1):Nat):Int)) rfl (ev rfl) (ev rfl) (by rw[wrap_i64 (by omega) (by omega)]<;>omega) (ab rfl _) ?_;refine aa.lE (z:=((a*w+(b-a)*(w+1):Nat):Int)) rfl (ev rfl) (ev rfl) (by rw[wrap_i64 (by omega) (by omega)]<;>omega) (ab rfl _) ?_;refine qm ?_;refine qe hK ?_;exact⟨_,rfl,hH⟩
    ·rw[if_neg q5];refine qE rfl (by simp[q5]) ?_;refine ag.skip ?_;exact⟨_,rfl,hH⟩
   ·rintro fr st ⟨tmp,hfr,hH⟩;rw[hfr];clear hfr;generalize aR fr=ee;clear fr;have l_:=LW (n:=n) (k:=ks.len) (s:=ks.sz);have jb:at_<pz.length:=by omega
    obtain⟨w,hw⟩:∃w,pz[at_]?=some w:=⟨pz[at_]'jb,List.getElem?_eq_getElem _⟩
    have hr9:=eX hw;refine qq<|qj fun K hK=>qm ?_;refine qm ?_;refine qm ?_;refine aa.Sj (z:=((min (bW n ks.sz ks.len) 401:Nat):Int)) (t1:=_) (t2:=_) rfl (ev rfl) (ev rfl) (by omega) (ab rfl _) ?_;refine qi hH au fun p81 Wx=>?_;refine aa.iO hH rfl (ev rfl) (ev rfl) (by assumption) rfl rfl (by exact au) (by assumption) (Nat.le_of_ble_eq_true rfl) (by exact .inr rfl) (fun st hH=>?_);dsimp only[u2,u1,u3,u4,setMany,u5,u6,D.cells,Nat.reduceAdd,bt,aq] at hH;refine qe hK<|qq<|qj fun K hK=>qm ?_;refine qm ?_;refine qe hK<|ag.ret ⟨rx,_,_,_,rfl,ak (rfl),?_⟩;have Xe:j=at_+(Tr.mk n ks).flat.length:=by simp only[Tr.flat,List.length_cons];omega
    refine⟨by rw[Xe];rfl,?_⟩
    have fO:nL es at_ (Tr.zs (.mk n ks))=pz.set at_ ((min (bW n ks.sz ks.len) 401:Nat):Int):=by
     rw[uV,zK (by rw[bS.jq];omega)];rfl
    rw[fO,List.map_set];exact cQ.wP cG (hH.erase 1)
  |cons t ts=>
   simp only[bS.len] at BA xO;simp only[bS.sz] at Cc;simp only[bS.flat,List.length_append] at hj pr Qp;simp only[bS.zs] at uV;simp only[bS.ok] at jS;have iE:decide ((i:Int)<n.kids)=true:=by rw[decide_eq_true_eq];omega
   have V7:=t.iU;have Qf:=t.jq;have Sx:=ts.jq;have QM:(nL pz j t.zs).length=l.length:=by rw[zM (by omega)];exact yR
   have hz8:(nL pz j t.zs)[j]?=some ((min t.sz 401:Nat):Int):=by
    obtain⟨n',Ss⟩:=t;simp only[Tr.zs,Tr.sz];exact Fp (by omega)
   have hr8:=eX hz8;refine qq<|qD rfl (by rw[iE]) ?_;refine ag.skip<|qq<|ag.block<|qq<|qj fun K hK=>qm ?_;refine qm ?_;refine qe hK<|qq<|qj fun K hK=>qm ?_;refine qm ?_;refine qm ?_;obtain⟨_,st,aN,rfl,hH⟩:=ih t (by omega) jS.1 pr.left yR hH;refine qv aN ?_;refine qm ?_;refine qe hK<|qj fun K hK=>qm ?_;refine qm ?_;refine qm ?_;refine qi hH au fun p29 WL=>?_;refine qo hH au ?_;refine aa.lE (z:=((min ss 401+min t.sz 401:Nat):Int)) rfl (ev rfl) (ev rfl) (by rw[wrap_i64 (by omega) (by omega)]<;>omega) (by dsimp only[Fr.put,u1,u2]<;>rfl) ?_;refine aa.Sj (z:=((min (ss+t.sz) 401:Nat):Int)) (t1:=_) (t2:=_) rfl (ev rfl) (ev rfl) (by omega) (by dsimp only[Fr.put,u1,u2]<;>rfl) ?_;refine qm ?_;refine qe hK<|qj fun K hK=>qA ?_;refine qm ?_;refine qe hK ?_;exact⟨mm-1,by omega,⟨i+1,j+t.flat.length,ss+t.sz,ts,nL pz j t.zs,rfl,hH,by omega,by omega,pr.right,jS.2,by omega,QM,by rw[←uV];have:=zJ (es:=pz) (a:=j) (M:=t.zs) (M':=ts.zs) (by omega);rw[Qf] at this;exact this,by omega,by omega⟩⟩
theorem LL {l:List dW} {d:D} (hl:l.length≤1048576) (hi:∀n∈l,n.ok) (hd:eH d 7 (l.map bt)):∀(m:Nat) (t:Tr),t.flat.length≤m→t.ok→∀{N:Nat} {S s0:St} {H:List bC} {out:D} {es:List Int} {at_:Nat},fY l at_ t.flat→es.length=l.length→Has N S s0 (.aM out 1 (es.map aq)::H)→
  ∃r ah,Ev pv 89 [d,out,.int .i64 (at_:Nat)] s0 r ah∧r=.int .i64 ((at_+t.flat.length:Nat):Int)∧Has N S ah (.aM out 1 ((nL es at_ (t.es at_)).map aq)::H):=by
 intro m
 induction m with
 |zero=>intro t h;have:=t.iU;omega
 |succ m ih=>
  rintro⟨n,ks⟩ hm bd N S s0 H out es at_ kq vw hH;simp only[Tr.ok] at bd;obtain⟨mg,mK⟩:=bd;simp only[Tr.flat,List.length_cons] at hm;have hle:=kq.le (by simp[Tr.flat]);simp only[Tr.flat] at kq hle;simp only[List.length_cons] at hle;have hn:=kq.head;have kq:=kq.tail;have Te:=hi n (List.mem_of_getElem? hn);have iv:=lV hn;have QH:=mg.1;have px:=bS.lf ks;refine Ev.iC rfl X7 rfl rfl rfl ?_;dsimp only[u3,u4,List.length,Nat.reduceSub,Nat.reduceAdd,w1,w2];have cQ:=hH;have hH:=hH.cV;have cG:(ai .rw s0).bs=s0.bs:=rfl;generalize ai .rw s0=S2 at*;have hc:=hd.arg N S2;refine qq<|qj fun K hK=>qm ?_;refine qe hK<|qq<|qj fun K hK=>qm ?_;refine qA ?_;refine qm ?_;refine qe hK<|qq<|qq<|qj fun K hK=>qm ?_;refine qm ?_;refine qr fun Zg Ta=>?_;refine qf (fo:=6) fun p13 WQ=>?_;refine qR ?_;refine qm ?_;refine qe hK<|ag.block<|ag.loop (fun mm fr st=>∃(i j:Nat) (rest:bS) (pz:List Int),fr.clean=⟨16,[d,out,.int .i64 (at_:Nat),aR fr 3,aR fr 4,aR fr 5,.int .i64 0,.int .i64 (j:Nat),aR fr 8,aR fr 9,aR fr 10,aR fr 11,aR fr 12,aR fr 13,.int .i64 n.kids,.int .i64 (i:Nat)],[]⟩∧Has N S2 st (.aM out 1 (pz.map aq)::H)∧(mm=rest.len)∧(i+rest.len=ks.len)∧(fY l j rest.flat)∧(rest.ok)∧(pz.length=l.length)∧(nL pz j (rest.es j)=nL es (at_+1) (ks.es (at_+1)))∧(j+rest.flat.length=at_+1+ks.flat.length)∧(rest.flat.length≤m)) (ks.len) ?_ ?_
  ·exact⟨0,at_+1,ks,es,rfl,hH,rfl,by omega,kq,mK,vw,rfl,rfl,by omega⟩
  rintro mm fr st ⟨i,j,rest,pz,hfr,hH,xO,BA,pr,jS,yR,uV,hj,Qp⟩;rw[hfr];clear hfr;generalize aR fr=ee;clear fr;refine qq<|qj fun K hK=>qg ?_;refine qe hK ?_
  cases rest with
  |nil=>
   simp only[bS.len] at BA;simp only[bS.flat,List.length_nil] at hj;simp only[bS.es,zL] at uV;have iE:decide ((i:Int)<n.kids)=false:=by rw[decide_eq_false_iff_not];omega
   have jb:at_<pz.length:=by omega
   obtain⟨w,hw⟩:∃w,pz[at_]?=some w:=⟨pz[at_]'jb,List.getElem?_eq_getElem _⟩
   have hr9:=eX hw;refine qq<|qE rfl (by rw[iE]) ?_;refine ag.exit<|qq<|qj fun K hK=>qm ?_;refine qm ?_;refine qm ?_;refine qi hH au fun U6 Lq=>?_;refine aa.iO hH rfl (ev rfl) (ev rfl) (by assumption) rfl rfl (by exact au) (by assumption) (Nat.le_of_ble_eq_true rfl) (by exact .inr rfl) (fun st hH=>?_);dsimp only[u2,u1,u3,u4,setMany,u5,u6,D.cells,Nat.reduceAdd,bt,aq] at hH;refine qe hK<|qq<|qj fun K hK=>qm ?_;refine qm ?_;refine qe hK<|ag.ret ⟨rx,_,_,_,rfl,ak (rfl),?_⟩;have Xe:j=at_+(Tr.mk n ks).flat.length:=by simp only[Tr.flat,List.length_cons];omega
   refine⟨by rw[Xe];rfl,?_⟩
   have fO:nL es at_ (Tr.es (.mk n ks) at_)=pz.set at_ ((j:Nat):Int):=by
    rw[uV,zK (by rw[bS.jA];omega)];have:j=at_+1+ks.flat.length:=by omega
    rw[this];rfl
   rw[fO,List.map_set];exact cQ.wP cG hH
  |cons t ts=>
   simp only[bS.len] at BA xO;simp only[bS.flat,List.length_append] at hj pr Qp;simp only[bS.es] at uV;simp only[bS.ok] at jS;have iE:decide ((i:Int)<n.kids)=true:=by rw[decide_eq_true_eq];omega
   have V7:=t.iU;have Qf:=t.jA j;have Sx:=ts.jA (j+t.flat.length);have QM:(nL pz j (t.es j)).length=l.length:=by rw[zM (by omega)];exact yR
   refine qq<|qD rfl (by rw[iE]) ?_;refine ag.skip<|qq<|ag.block<|qj fun K hK=>qm ?_;refine qm ?_;refine qm ?_;obtain⟨_,st,aN,rfl,hH⟩:=ih t (by omega) jS.1 pr.left yR hH;refine qv aN ?_;refine qm ?_;refine qe hK<|qj fun K hK=>qA ?_;refine qm ?_;refine qe hK ?_;exact⟨mm-1,by omega,⟨i+1,j+t.flat.length,ts,nL pz j (t.es j),rfl,hH,by omega,by omega,pr.right,jS.2,QM,by rw[←uV];have:=zJ (es:=pz) (a:=j) (M:=t.es j) (M':=ts.es (j+t.flat.length)) (by omega);rw[Qf] at this;exact this,by omega,by omega⟩⟩
theorem gN {N k:Nat} {S s0:St} {H:List bC} {ks:Nat→Prop} {cd nd zd ed w:D} {code:List aJ} {op x y:Int} {rs:List Rg} (hF:S.flr≤N) (hl:code.length≤1048576) (hH:Has N S s0 (.aM w 2 (rs.map ay)::.box k (.mem 0 false [cd,nd,zd,ed])::.deep ks cd 4 (code.map aG)::H)):
  ∃r ah,Ev pv 90 [.ptr k 0 0,.agg [.int .i64 op,.int .i64 x,.int .i64 y,w]] s0 r ah∧r=.int .i64 (code.length:Nat)∧∃Z8 Ss,Has N S ah (.box k (.mem 0 false [Z8,nd,zd,ed])::.deep Ss Z8 4 ((code++[dp op x y rs]).map aG)::H):=by
 refine Ev.iC rfl X6 rfl rfl rfl ?_;dsimp only[u3,u4,List.length,Nat.reduceSub,Nat.reduceAdd,w1,w2];change ag _ _ _ _ s0 _;refine qq<|qj fun K hK=>qb hH fun k3 st Tu hH=>?_;refine qm ?_;refine qe hK<|qq<|qj fun K hK=>qm ?_;refine qm ?_;refine qg ?_;refine qp (o:=0) ?_;refine ql hH ba ?_;refine aa.bk (m:=4) hH rfl (ev rfl) (by exact au) (by dsimp only[List.drop_succ_cons,List.drop_zero,List.take_succ_cons,List.take_zero,aG]<;>rfl) rfl rfl (ab rfl _) ?_;refine qh (s:=4) (vs:=[_]) hH fun k11 st Ly hH=>?_;obtain⟨hH,TO⟩:=hH.zu (i:=2) (j:=4) (by decide) ba bm (eO _);dsimp only[u1,u2] at hH;refine aa.nv hH rfl (ev rfl) (ev rfl) bm (hH.rows au) (.cons (.cons (.plain _ rfl) (.cons (.plain _ rfl) (.cons (.plain _ rfl) (.cons TO .nil)))) .nil) rfl rfl rfl rfl rfl rfl rfl ⟨(Nat.le_of_ble_eq_true rfl),(Nat.le_of_ble_eq_true rfl)⟩ (fun _=>(ab rfl _)) (by simp only[List.length_map,List.length_cons,List.length_nil];omega) (.inl hF) (fun x12 st hH=>?_);dsimp only[u1,u2] at hH;refine qg ?_;refine qp (o:=0) ?_;refine aa.fN hH rfl (ev rfl) (ev rfl) (by exact hH.dN (by exact bm)) (by exact rfl) (by exact bf) (by exact Nat.le_of_ble_eq_true rfl) (by exact .inl hF) (fun st hH=>?_);dsimp only[u2,u1,u3,u4,setMany,u5,u6,D.cells,Nat.reduceAdd,aG] at hH;refine qe hK<|qq<|qj fun K hK=>qm ?_;refine qg ?_;refine qp (o:=0) ?_;refine ql hH bf ?_;refine aa.BS hH rfl (ev rfl) (by exact bm) rfl (ab rfl _) ?_;simp only[List.length_map,List.length_append,List.length_cons,List.length_nil];refine aa.mO (z:=((code.length:Nat):Int)) rfl (ev rfl) (ev rfl) (by rw[wrap_i64 (by omega) (by omega)]<;>omega) (ab rfl _) ?_;refine qm ?_;refine qe hK<|ag.ret ⟨rx,_,_,_,rfl,rfl,?_⟩;exact⟨rfl,_,_,by rw[List.map_append];exact hH.drop 3⟩
theorem qw {N k:Nat} {S s0:St} {H:List bC} {ks:Nat→Prop} {cd nd zd ed:D} {code:List aJ} {at_ over:Nat} {lz:Bool} {x y:Int} (jb:code[at_]?=some (dp 2 x y [])) (hl:code.length≤1048576) (hH:Has N S s0 (.box k (.mem 0 false [cd,nd,zd,ed])::.deep ks cd 4 (code.map aG)::H)):
  ∃r ah,Ev pv 139 [.ptr k 0 0,.int .i64 (at_:Nat),.int .i64 (over:Nat),.bool lz] s0 r ah∧r=.tup []∧Has N S ah (.box k (.mem 0 false [cd,nd,zd,ed])::.deep ks cd 4 ((code.set at_ (nX at_ over lz)).map aG)::H):=by
 have hlt:=bj jb;have iv:(code.map aG)[at_]?=some [.int .i64 2,.int .i64 x,.int .i64 y,.sl []]:=iu jb;have fO:∀a b:List D,(code.map aG).set at_ a=(code.map aG).set at_ a:=fun _ _=>rfl;refine Ev.iC rfl Ux rfl rfl rfl ?_;dsimp only[u3,u4,List.length,Nat.reduceSub,Nat.reduceAdd,w1,w2];have cQ:=hH;have hH:=hH.cV;have cG:(ai .rw s0).bs=s0.bs:=rfl;generalize ai .rw s0=S2 at*;refine qq<|qj fun K hK=>qm ?_;refine qg ?_;refine qp (o:=0) ?_;refine ql hH au ?_;refine qm ?_;refine qm ?_;refine qg ?_;refine qp (o:=0) ?_;refine ql hH au ?_;refine qm ?_;refine qm ?_;refine aa.lE (z:=((at_+1:Nat):Int)) rfl (ev rfl) (ev rfl) (by rw[wrap_i64 (by omega) (by omega)]<;>omega) (ab rfl _) ?_;refine qm ?_;refine aa.Ef (s:=4) hH rfl (ev rfl) (ev rfl) (by exact aS) rfl rfl (by exact bj (by assumption)) (fun _=>(ab rfl _)) (fun VI Qx=>?_);refine aa.iq (fo:=1) (m:=0) (o2:=1) rfl (ev rfl) (by assumption) rfl rfl rfl (fun _=>(ab rfl _)) (fun VH Qw=>?_);refine aa.rS hH rfl (ev rfl) (ev rfl) (by assumption) rfl rfl (by exact aS) (by assumption) (Nat.le_of_ble_eq_true rfl) (by intro d hd;simp only[List.mem_cons,List.not_mem_nil,or_false] at hd;subst hd;rfl) (by exact .inr rfl) (fun st hH=>?_);dsimp only[u2,u1,u3,u4,setMany,u5,u6,D.cells,Nat.reduceAdd,aG] at hH;refine aa.Ef (s:=4) hH rfl (ev rfl) (ev rfl) (by exact aS) rfl rfl (by simp only[List.length_map,List.length_set]<;>omega) (fun _=>(ab rfl _)) (fun p23 WN=>?_);refine aa.iq (fo:=2) (m:=0) (o2:=2) rfl (ev rfl) (by assumption) rfl rfl rfl (fun _=>(ab rfl _)) (fun U7 Lr=>?_);refine aa.rS hH rfl (ev rfl) (ev rfl) (by assumption) rfl rfl (by exact aS) (List.getElem?_set_self (by simp only[List.length_map];omega)) (Nat.le_of_ble_eq_true rfl) (by intro d hd;simp only[List.mem_cons,List.not_mem_nil,or_false] at hd;subst hd;rfl) (by exact .inr rfl) (fun st hH=>?_);dsimp only[u1,u2,setMany] at hH;rw[List.set_set] at hH;refine qe hK<|qq<|qj fun K hK=>qm ?_;refine qe hK ?_
 cases lz with
 |false=>
  refine qC ?_;refine ag.skip ?_;refine⟨fun i h=>(by cases h),_,_,_,rfl,ak rfl,?_⟩;exact⟨rfl,by rw[List.map_set];exact cQ.wQ cG hH⟩
 |true=>
  refine qB ?_;refine qj fun K hK=>qm ?_;refine qg ?_;refine qp (o:=0) ?_;refine ql hH au ?_;refine qm ?_;refine qm ?_;refine qg ?_;refine qp (o:=0) ?_;refine ql hH au ?_;refine qm ?_;refine qm ?_;refine qm ?_;refine aa.lE (z:=((at_+1:Nat):Int)) rfl (ev rfl) (ev rfl) (by rw[wrap_i64 (by omega) (by omega)]<;>omega) (ab rfl _) ?_;refine aa.Ef (s:=4) hH rfl (ev rfl) (ev rfl) (by exact aS) rfl rfl (by simp only[List.length_map,List.length_set]<;>omega) (fun _=>(ab rfl _)) (fun p39 WH=>?_);refine aa.iq (fo:=1) (m:=0) (o2:=1) rfl (ev rfl) (by assumption) rfl rfl rfl (fun _=>(ab rfl _)) (fun p40 WG=>?_);refine aa.rS hH rfl (ev rfl) (ev rfl) (by assumption) rfl rfl (by exact aS) (List.getElem?_set_self (by simp only[List.length_map];omega)) (Nat.le_of_ble_eq_true rfl) (by intro d hd;simp only[List.mem_cons,List.not_mem_nil,or_false] at hd;subst hd;rfl) (by exact .inr rfl) (fun st hH=>?_);dsimp only[u1,u2,setMany] at hH;rw[List.set_set] at hH;refine aa.Ef (s:=4) hH rfl (ev rfl) (ev rfl) (by exact aS) rfl rfl (by simp only[List.length_map,List.length_set]<;>omega) (fun _=>(ab rfl _)) (fun p41 aaz=>?_);refine aa.iq (fo:=2) (m:=0) (o2:=2) rfl (ev rfl) (by assumption) rfl rfl rfl (fun _=>(ab rfl _)) (fun Za S6=>?_);refine aa.rS hH rfl (ev rfl) (ev rfl) (by assumption) rfl rfl (by exact aS) (List.getElem?_set_self (by simp only[List.length_map];omega)) (Nat.le_of_ble_eq_true rfl) (by intro d hd;simp only[List.mem_cons,List.not_mem_nil,or_false] at hd;subst hd;rfl) (by exact .inr rfl) (fun st hH=>?_);dsimp only[u1,u2,setMany] at hH;rw[List.set_set] at hH;refine qe hK ?_;refine⟨fun i h=>(by cases h),_,_,_,rfl,ak rfl,?_⟩;exact⟨rfl,by rw[List.map_set];exact cQ.wQ cG hH⟩
def ax (fr:Go.V.Fr) (k:Nat):Go.V.D:=Go.V.nth .bD fr.loc k
def kX (n:Nat):List D:=[.int .i64 (n:Nat)]
theorem wJ {l:List Nat} {i q:Nat} (h:l[i]?=some q):(l.map kX)[i]?=some (kX q):=by rw[List.getElem?_map,h];rfl
def RH (N:Nat) (S st:St) (k:Nat) (nd zd ed:D) (Z E:List Int) (H:List bC) (code:List aJ):Prop:=
 ∃cd ks,Has N S st (.box k (.mem 0 false [cd,nd,zd,ed])::.deep ks cd 4 (code.map aG)::.aM zd 1 (Z.map aq)::.aM ed 1 (E.map aq)::H)
def sB (l:List dW) (t:Tr):Prop:=∀{N k:Nat} {S s0:St} {H:List bC} {nd zd ed:D} {code:List aJ} {Z E:List Int} {at_:Nat},S.flr≤N→eH nd 7 (l.map bt)→fY l at_ t.flat→fY Z at_ t.zs→fY E at_ (t.es at_)→t.ok→code.length+t.sz≤1000000→RH N S s0 k nd zd ed Z E H code→
 ∃r ah,Ev pv 91 [.ptr k 0 0,.int .i64 (at_:Nat)] s0 r ah∧r=.tup []∧RH N S ah k nd zd ed Z E H (code++aV t code.length)
theorem AB {E:List Int} {t:Tr} {a:Nat} (h:fY E a (t.es a)):E[a]?=some ((a+t.flat.length:Nat):Int):=by
 obtain⟨n,ks⟩:=t;simp only[Tr.es] at h;rw[h.head];simp only[Tr.flat,List.length_cons]
 congr 2;omega
theorem zz {Z:List Int} {t:Tr} {a:Nat} (h:fY Z a t.zs):Z[a]?=some ((min t.sz 401:Nat):Int):=by
 obtain⟨n,ks⟩:=t;simp only[Tr.zs] at h;rw[h.head];rfl
theorem Rm {l:List dW} (yM:l.length≤1048576) {m:Nat} (ih:∀t:Tr,t.flat.length≤m→sB l t) {n:dW} {ks:bS} (gv:n.op=4) (ZF:ks.flat.length≤m) (mg:wF n ks.len) (mK:ks.ok) {N k:Nat} {S s0:St} {H:List bC} {nd zd ed:D} {code:List aJ} {Z E:List Int} {at_:Nat} (hF:S.flr≤N) (yI:eH nd 7 (l.map bt)) (j6:fY l at_ (n::ks.flat)) (hsz:fY Z (at_+1) ks.zs) (vu:fY E (at_+1) (ks.es (at_+1))) (hb:code.length+bW n ks.sz ks.len≤1000000) (hM:RH N S s0 k nd zd ed Z E H code):
  ∃r ah,Ev pv 124 [.ptr k 0 0,.int .i64 (at_:Nat)] s0 r ah∧r=.tup []∧RH N S ah k nd zd ed Z E H (code++eZ (mZ (code.length+bW n ks.sz ks.len)) ks code.length):=by
 obtain⟨cd,dk,hH⟩:=hM;have hle:=j6.le (by simp);simp only[List.length_cons] at hle;have hn:=j6.head;have j6:=j6.tail;have iv:=lV hn;have QH:=mg.1;have gq:=bS.lf ks
 have hk2:2≤ks.len:=by
  obtain⟨_,hq⟩:=mg;omega
 have Lu:bW n ks.sz ks.len=ks.sz+2*(ks.len-1):=by unfold bW;rw[if_neg (by omega),if_pos gv]
 rw[Lu] at hb⊢;clear Lu;refine Ev.iC rfl UF rfl rfl rfl ?_;dsimp only[u3,u4,List.length,Nat.reduceSub,Nat.reduceAdd,w1,w2];change ag _ _ _ _ s0 _;have hc:=yI.arg N S;refine qq<|qj fun K hK=>qm ?_;refine qe hK<|qq<|qj fun K hK=>qm ?_;refine qA ?_;refine qm ?_;refine qe hK<|qq<|qq<|qj fun K hK=>qm ?_;refine qg ?_;refine qp (o:=1) ?_;refine ql hH au ?_;refine qm ?_;refine qr fun p17 WO=>?_;refine qf (fo:=6) fun Ze S_=>?_;refine qR ?_;refine qm ?_;refine qe hK ?_;have hH:Has N S s0 (.box k (.mem 0 false [cd,nd,zd,ed])::.deep dk cd 4 (code.map aG)::.aM zd 1 (Z.map aq)::.aM ed 1 (E.map aq)::.aM .nul 1 (([]:List Nat).map kX)::H):=(hH.er 1).KL;refine ag.block<|ag.loop (fun mm fr st=>∃(i j:Nat) (rest:bS) (cd jd:D) (dk:Nat→Prop) (aZ:List aJ) (js:List Nat),fr.clean=⟨68,[.ptr k 0 0,.int .i64 (at_:Nat),ax fr 2,ax fr 3,jd,.int .i64 (j:Nat),ax fr 6,ax fr 7,ax fr 8,ax fr 9,ax fr 10,ax fr 11,ax fr 12,ax fr 13,ax fr 14,ax fr 15,ax fr 16,ax fr 17,ax fr 18,.int .i64 n.kids,.int .i64 (i:Nat),ax fr 21,ax fr 22,ax fr 23,ax fr 24,ax fr 25,ax fr 26,ax fr 27,ax fr 28,ax fr 29,ax fr 30,ax fr 31,ax fr 32,ax fr 33,ax fr 34,ax fr 35,ax fr 36,ax fr 37,ax fr 38,ax fr 39,ax fr 40,ax fr 41,ax fr 42,ax fr 43,ax fr 44,ax fr 45,ax fr 46,ax fr 47,ax fr 48,ax fr 49,ax fr 50,ax fr 51,ax fr 52,ax fr 53,ax fr 54,ax fr 55,ax fr 56,ax fr 57,ax fr 58,ax fr 59,ax fr 60,ax fr 61,ax fr 62,ax fr 63,ax fr 64,ax fr 65,ax fr 66,ax fr 67],[]⟩∧Has N S st (.box k (.mem 0 false [cd,nd,zd,ed])::.deep dk cd 4 (aZ.map aG)::.aM zd 1 (Z.map aq)::.aM ed 1 (E.map aq)::.aM jd 1 (js.map kX)::H)∧(mm=rest.len)∧(i+rest.len=ks.len)∧(0<rest.len)∧(fY l j rest.flat)∧(fY Z j rest.zs)∧(fY E j (rest.es j))∧(rest.ok)∧(aZ++eZ (mZ 0) rest aZ.length=code++eZ (mZ 0) ks code.length)∧(js++sr rest aZ.length=sr ks code.length)∧(aZ.length+(rest.sz+2*(rest.len-1))=code.length+(ks.sz+2*(ks.len-1)))∧(rest.flat.length≤m)∧(js.length≤i)) (ks.len) ?_ ?_
 ·exact⟨0,at_+1,ks,cd,.nul,dk,code,[],rfl,hH,rfl,by omega,by omega,j6,hsz,vu,mK,rfl,rfl,rfl,ZF,by simp⟩
 rintro mm fr st ⟨i,j,rest,cd,jd,dk,aZ,js,hfr,hH,xO,BA,SY,pr,wW,pq,jS,iT,hjs,hcl,Qp,kL⟩;rw[hfr];clear hfr;generalize ax fr=ee;clear fr;refine qq<|qj fun K hK=>qg ?_;refine qe hK ?_
 cases rest with
 |nil=>simp[bS.len] at SY
 |cons t ts=>
  simp only[bS.len] at BA xO hcl;simp only[bS.sz] at hcl;simp only[bS.flat,List.length_append] at pr Qp;simp only[bS.zs] at wW;simp only[bS.es] at pq;simp only[bS.ok] at jS;have Qf:=t.jq;have SE:=t.jA j;have Bs:=cK t (aZ.length+1) jS.1;have Wr:=eX (AB pq.left);have iE:decide ((i:Int)<n.kids)=true:=by rw[decide_eq_true_eq];omega
  refine qq<|qD rfl (by rw[iE]) ?_;refine ag.skip<|qq<|ag.block<|qq<|qj fun K hK=>qm ?_;refine qm ?_;refine qe hK<|qq<|qq<|qj fun K hK=>qm ?_;refine qm ?_;refine qg ?_;refine qp (o:=1) ?_;refine ql hH au ?_;refine qm ?_;refine qr fun p29 WL=>?_;refine qf (fo:=6) fun Zc S8=>?_;refine qR ?_;refine aa.mO (z:=((ks.len-1:Nat):Int)) rfl (ev rfl) (ev rfl) (by rw[wrap_i64 (by omega) (by omega)]<;>omega) (by dsimp only[Fr.put,u1,u2]<;>rfl) ?_;refine qg ?_;refine qe hK ?_
  by_cases Ap:ts.len=0
  ·simp only[eZ,sr,if_pos Ap,List.append_nil] at iT hjs;have htn:=bS.len_nil Ap;subst htn;simp only[bS.sz,bS.len] at hcl BA;have QQ:(((i:Nat):Int)==((ks.len-1:Nat):Int))=true:=by rw[beq_iff_eq];omega
   refine qD rfl (by rw[QQ]) ?_;refine qq<|qj fun K hK=>qm ?_;refine qm ?_;obtain⟨_,st,aN,rfl,cd,dk,hH⟩:=ih t (by omega) hF yI pr.left wW.left pq.left jS.1 (by omega) ⟨cd,dk,hH⟩;refine qv aN ?_;refine qe hK<|ag.exit<|qq<|qj fun K hK=>qm ?_;refine qn ?_ (hR:=hH.rows bm);simp only[List.length_map];refine qm ?_;refine qe hK ?_;rw[iT] at hH;have hal:=sq (mZ 0) ks code.length mK;obtain⟨Ce,Ls⟩:=oP (jp:=mZ (code.length+(ks.sz+2*(ks.len-1)))) (i0:=mZ 0) ks code.length code [] mK rfl;simp only[List.append_nil] at Ce Ls;have XV:(code++eZ (mZ 0) ks code.length).length=code.length+(ks.sz+2*(ks.len-1)):=by rw[List.length_append,hal]
   rw[←hjs] at Ce Ls;rw[←Ce];clear Ce iT;generalize code++eZ (mZ 0) ks code.length=C0 at*;generalize code.length+(ks.sz+2*(ks.len-1))=e at*;refine ag.block<|ag.loop (fun mm fr st=>∃(q:Nat) (C:List aJ),fr.clean=⟨68,[.ptr k 0 0,ax fr 1,ax fr 2,ax fr 3,ax fr 4,ax fr 5,ax fr 6,ax fr 7,ax fr 8,ax fr 9,ax fr 10,ax fr 11,ax fr 12,ax fr 13,ax fr 14,ax fr 15,ax fr 16,ax fr 17,ax fr 18,ax fr 19,ax fr 20,ax fr 21,ax fr 22,ax fr 23,ax fr 24,ax fr 25,ax fr 26,ax fr 27,ax fr 28,ax fr 29,ax fr 30,ax fr 31,ax fr 32,ax fr 33,ax fr 34,ax fr 35,ax fr 36,ax fr 37,ax fr 38,ax fr 39,ax fr 40,ax fr 41,ax fr 42,ax fr 43,ax fr 44,ax fr 45,ax fr 46,ax fr 47,ax fr 48,ax fr 49,ax fr 50,ax fr 51,ax fr 52,ax fr 53,ax fr 54,ax fr 55,ax fr 56,ax fr 57,ax fr 58,ax fr 59,ax fr 60,ax fr 61,ax fr 62,ax fr 63,ax fr 64,jd,.int .i64 (js.length:Nat),.int .i64 (q:Nat)],[]⟩∧Has N S st (.box k (.mem 0 false [cd,nd,zd,ed])::.deep dk cd 4 (C.map aG)::.aM zd 1 (Z.map aq)::.aM ed 1 (E.map aq)::.aM jd 1 (js.map kX)::H)∧(q+mm=js.length)∧(iJ (fun _=>mZ e) C (js.drop q)=iJ (fun _=>mZ e) C0 js)∧(∀p∈js,∃v:Int,C[p]?=some (dp 3 v 0 []))∧(C.length=e)) (js.length) ?_ ?_
   ·exact⟨0,C0,rfl,hH,by omega,rfl,fun p hp=>⟨_,Ls p hp⟩,XV⟩
   rintro mm fr st ⟨q,C,hfr,hH,hq,hU,lu,RF⟩;rw[hfr];clear hfr;generalize ax fr=ee;clear fr;refine qq<|qj fun K hK=>qg ?_;refine qe hK<|qq ?_;refine ag.cond (by rfl) (fun hlt=>?_) (fun hlt=>?_)<;>try simp only[decide_eq_true_eq,decide_eq_false_iff_not] at hlt
   ·refine ag.skip ?_;have Ml:q<js.length:=by omega
    obtain⟨p,hp⟩:∃p,js[q]?=some p:=⟨js[q]'Ml,List.getElem?_eq_getElem _⟩
    obtain⟨v,hv⟩:=lu p (List.mem_of_getElem? hp);have iv:=wJ hp;have oE:=iu hv;have fU:=bj hv;refine qq<|ag.block<|qq<|qj fun K hK=>qi hH bm fun VG Qv=>?_;refine qo hH bm ?_;refine qm ?_;refine qe hK<|qj fun K hK=>qm ?_;refine qg ?_;refine qp (o:=0) ?_;refine ql hH au ?_;refine qm ?_;refine qm ?_;refine qg ?_;refine qp (o:=0) ?_;refine ql hH au ?_;refine aa.BS hH rfl (ev rfl) (by exact aS) rfl (ab rfl _) ?_;simp only[List.length_map];refine aa.Ef (s:=4) hH rfl (ev rfl) (ev rfl) (by exact aS) rfl rfl (by exact bj (by assumption)) (fun _=>(ab rfl _)) (fun p81 Wx=>?_);refine aa.iq (fo:=1) (m:=0) (o2:=1) rfl (ev rfl) (by assumption) rfl rfl rfl (fun _=>(ab rfl _)) (fun Y9 S3=>?_);refine aa.rS hH rfl (ev rfl) (ev rfl) (by assumption) rfl rfl (by exact aS) (by assumption) (Nat.le_of_ble_eq_true rfl) (by intro d hd;simp only[List.mem_cons,List.not_mem_nil,or_false] at hd;subst hd;rfl) (by exact .inl hF) (fun st hH=>?_);dsimp only[u2,u1,u3,u4,setMany,u5,u6,D.cells,Nat.reduceAdd,aG,bt,aq,kX] at hH;refine qe hK<|qj fun K hK=>qA ?_;refine qm ?_;refine qe hK ?_
    have sQ:js.drop q=p::js.drop (q+1):=by
     rw[List.drop_eq_getElem_cons Ml]
     congr 1
     exact Option.some.inj ((List.getElem?_eq_getElem _).symm.trans hp)
    refine⟨mm-1,by omega,⟨q+1,C.set p (mZ e),rfl,(by rw[List.map_set,←RF];exact hH),by omega,by rw[sQ] at hU;exact hU,?_,by rw[List.length_set];exact RF⟩⟩;intro p' uX
    by_cases hpp:p'=p
    ·subst hpp;exact⟨_,List.getElem?_set_self fU⟩
    ·rw[List.getElem?_set_ne (fun e=>hpp e.symm)];exact lu p' uX
   ·refine ag.exit ?_;refine⟨fun i h=>(by cases h),_,_,_,rfl,rfl,?_⟩;have Ln:q=js.length:=by omega
    rw[Ln,List.drop_length] at hU;have hU:C=iJ (fun _=>mZ e) C0 js:=hU;rw[←hU];exact⟨rfl,cd,dk,hH.erase 4⟩
  ·simp only[eZ,sr,if_neg Ap] at iT hjs;have QQ:(((i:Nat):Int)==((ks.len-1:Nat):Int))=false:=by rw[beq_eq_false_iff_ne];omega
   refine qE rfl (by rw[QQ]) ?_;refine ag.skip<|qq<|qj fun K hK=>qm ?_;refine aa.go (d:=.agg [.int .i64 2,.int .i64 0,.int .i64 0,.nul]) (st1:=_) rfl rfl rfl (by dsimp only[Fr.put,u1,u2]<;>rfl) ?_;have hH:=hH.er 2;obtain⟨_,st,aN,rfl,cd,dk,hH⟩:=gN (rs:=[]) hF (by omega) hH;refine qv aN ?_;refine qm ?_;refine qe hK ?_;have ng:(aZ++[dp 2 0 0 []]).length=aZ.length+1:=by simp
   refine qq<|qj fun K hK=>qm ?_;refine qm ?_;obtain⟨_,st,aN,rfl,cd,dk,hH⟩:=ih t (by omega) hF yI pr.left wW.left pq.left jS.1 (by omega) ⟨cd,dk,hH⟩;refine qv aN ?_;refine qe hK ?_;rw[ng] at hH;have oG:(aZ++[dp 2 0 0 []]++aV t (aZ.length+1)).length=aZ.length+1+t.sz:=by rw[List.length_append,ng,Bs]
   refine qq<|qj fun K hK=>qm ?_;refine qm ?_;refine aa.go (d:=.agg [.int .i64 3,.int .i64 0,.int .i64 0,.nul]) (st1:=_) rfl rfl rfl (by dsimp only[Fr.put,u1,u2]<;>rfl) ?_;have hH:=hH.er 2;obtain⟨_,st,aN,rfl,cd,dk,hH⟩:=gN (rs:=[]) hF (by omega) hH;refine qv aN ?_;refine qh (s:=1) (vs:=[_]) hH fun k47 st aaR hH=>?_;refine qP hH bJ (hH.rows au) fun Vt st hH=>?_;dsimp only[u2,u1,u3,u4,setMany,u5,u6,D.cells,Nat.reduceAdd,aG,bt,aq,kX] at hH;refine qm ?_;refine qe hK ?_;have hH:=hH.drop 1
   have QU:(aZ++[dp 2 0 0 []]++aV t (aZ.length+1)++[dp 3 0 0 []])[aZ.length]?=some (dp 2 0 0 []):=by
    rw[List.append_assoc,List.append_assoc];exact pU _ _ _
   have D1:(aZ++[dp 2 0 0 []]++aV t (aZ.length+1)++[dp 3 0 0 []]).length=aZ.length+1+t.sz+1:=by rw[List.length_append,oG];rfl
   have Lh:(aZ++[dp 2 0 0 []]++aV t (aZ.length+1)++[dp 3 0 0 []]).set aZ.length (nX aZ.length (aZ.length+1+t.sz+1) false)=aZ++(nX aZ.length (aZ.length+1+t.sz+1) false::(aV t (aZ.length+1)++[mZ 0])):=by
    rw[List.append_assoc,List.append_assoc];exact pH _ _ _ _
   have LC:(aZ++(nX aZ.length (aZ.length+1+t.sz+1) false::(aV t (aZ.length+1)++[mZ 0]))).length=aZ.length+t.sz+2:=by rw[←Lh,List.length_set,D1];omega
   generalize aZ++[dp 2 0 0 []]++aV t (aZ.length+1)++[dp 3 0 0 []]=En at*;refine qq<|qj fun K hK=>qm ?_;refine qm ?_;refine qm ?_;refine qg ?_;refine qp (o:=0) ?_;refine ql hH au ?_;refine aa.BS hH rfl (ev rfl) (by exact aS) rfl (by dsimp only[Fr.put,u1,u2]<;>rfl) ?_;simp only[List.length_map,List.length_append,List.length_cons,List.length_nil];obtain⟨_,st,aN,rfl,hH⟩:=qw (at_:=aZ.length) (over:=En.length) (lz:=false) QU (by omega) hH;refine qv aN ?_;refine qe hK ?_;rw[D1,Lh] at hH;refine qj fun K hK=>qm ?_;refine qg ?_;refine qp (o:=3) ?_;refine ql hH au ?_;refine qm ?_;refine qi hH bf fun p62 aas=>?_;refine qo hH bf ?_;refine qm ?_;refine qe hK<|qj fun K hK=>qA ?_;refine qm ?_;refine qe hK ?_;exact⟨mm-1,by omega,⟨i+1,j+t.flat.length,ts,cd,Vt,dk,aZ++(nX aZ.length (aZ.length+1+t.sz+1) false::(aV t (aZ.length+1)++[mZ 0])),js++[aZ.length+1+t.sz],rfl,(by rw[List.map_append (f:=kX)];rw[oG] at hH;exact hH),by omega,by omega,by omega,pr.right,by rw[←Qf];exact wW.right,by rw[←SE];rw[←SE] at pq;exact pq.right,jS.2,by rw[LC,←iT];simp only[List.append_assoc,List.cons_append,List.nil_append],by rw[LC,←hjs];simp only[List.append_assoc,List.cons_append,List.nil_append],by rw[LC];omega,by omega,by rw[List.length_append];simp only[List.length_cons,List.length_nil];omega⟩⟩
end Go.Proofs.YtbdnabmmlbiomaaGreat
