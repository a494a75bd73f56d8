/-
 Are nodes a pattern? syntax.Right, walked.
-/
import Derived.Test.YtbdnabmmlbiomaaXGPi
import Derived.Test.YtbdnabmmlbiomaaXGKa
import Derived.Test.YtbdnabmmlbiomaaXGQa
set_option maxRecDepth 100000
set_option maxHeartbeats 4000000
set_option linter.unusedSimpArgs false
set_option linter.unusedVariables false
namespace Go.Proofs.Ytbdnabmmlbiomaa
open Go.V Go
def lW (fr:Go.V.Fr) (k:Nat):Go.V.D:=Go.V.nth .bp fr.loc k
theorem zY {s0:St} {n:c_} (hn:n.ok):Ev pv 79 [.agg (aX n)] s0 (.bool (rF n)) s0:=by
 refine Ev.nZ rfl Qv rfl rfl rfl ?_;dsimp only[u3,u4,List.length,Nat.reduceSub,Nat.reduceAdd,w1,w2];obtain⟨b_,hF,hH⟩:=ri s0;generalize ai .ro s0=S at*;have AM:=hn.1.arg s0.bs.length S;have va:=hn.2.1;refine qq<|qj fun K hK=>qb hH fun k1 st ox hH=>?_;dsimp only[u2,u1,u3,u4,setMany,u5,u6,D.cells,Nat.reduceAdd,aX] at hH;refine qm ?_;refine qe hK<|qq<|qj fun K hK=>qp (o:=0) ?_;refine ql hH ay ?_;refine qg ?_;refine qm ?_;refine qe hK<|qq<|af.k_ 2 (.bool (((n.op==2)||((n.rs.length:Nat):Int)==0) &&((n.op==5)||((n.mn==0) &&(n.mx==0) &&!n.lz)) &&((n.op==6)||(n.cap==0)))) [] ?_ (fun ff tmp=>?_)
 ·refine qp (o:=0) ?_;refine ql hH ay ?_;refine qg ?_;refine qm ?_;refine ab.two 10 rfl (fun bF=>?_) (fun bF=>?_)
  ·refine qs ?_ (hg:=wn bF);refine qs ?_ (hg:=wn bF);refine qs ?_ (hg:=wn bF);refine qs ?_ (hg:=wn bF);refine qt bF ?_;refine qm ?_;refine qm ?_;refine qm ?_;refine ab.two 18 rfl (fun a8=>?_) (fun a8=>?_)
   ·refine qs ?_ (hg:=wn a8);refine qs ?_ (hg:=wn a8);refine qs ?_ (hg:=wn a8);refine qs ?_ (hg:=wn a8);refine qs ?_;refine qs ?_;refine qs ?_;refine qs ?_ (hg:=wn a8);refine qs ?_ (hg:=wn a8);refine qs ?_;refine qs ?_;refine qs ?_;refine qs ?_ (hg:=wn a8);refine qt a8 ?_;refine qg ?_;refine qm ?_;refine qp (o:=0) ?_;refine ql hH ay ?_;refine qg ?_;refine qm ?_;refine ab.two 38 rfl (fun cE=>?_) (fun cE=>?_)
    ·refine qs ?_ (hg:=wn cE);refine qs ?_ (hg:=wn cE);refine qs ?_ (hg:=wn cE);refine qt cE ?_;refine qg ?_;refine qm ?_;refine ab.nil (aU ?_);dsimp only[aI,List.foldl,nth,u2,u1];dsimp only[Fr.aC,Fr.put,Fr.clean,Fr.ev,Fr.get,nth,V.look,u1,u2,v1,v2,v3,v4,v5,v6,v7,List.length,u3,u4,Nat.reduceSub,Nat.reduceAdd,List.map]
     all_goals(simp[bF,a8,cE];done)
    ·refine qp (o:=5) ?_ (hg:=wi cE);refine ql hH ay ?_ (hg:=wi cE);refine qg ?_ (hg:=wi cE);refine qu cE ?_;refine qg ?_;refine qm ?_;refine ab.nil (aU ?_);dsimp only[aI,List.foldl,nth,u2,u1];dsimp only[Fr.aC,Fr.put,Fr.clean,Fr.ev,Fr.get,nth,V.look,u1,u2,v1,v2,v3,v4,v5,v6,v7,List.length,u3,u4,Nat.reduceSub,Nat.reduceAdd,List.map]
     all_goals(simp[bF,a8,cE];done)
   ·refine qp (o:=2) ?_ (hg:=wi a8);refine ql hH ay ?_ (hg:=wi a8);refine qg ?_ (hg:=wi a8);refine qm ?_ (hg:=wi a8);refine ab.two 22 rfl (fun eP=>?_) (fun eP=>?_)
    ·refine qp (o:=3) ?_ (hg:=wi eP);refine ql hH ay ?_ (hg:=wi eP);refine qg ?_ (hg:=wi eP);refine ab.dG (aB rfl rfl rfl a8) rfl eP (ag rfl _) ?_;refine qm ?_ (hg:=wi a8);refine ab.two 27 rfl (fun ft=>?_) (fun ft=>?_)
     ·refine qp (o:=4) ?_ (hg:=wi ft);refine ql hH ay ?_ (hg:=wi ft);refine qg ?_ (hg:=wi ft);refine ab.dG (aB rfl rfl rfl a8) rfl ft (ag rfl _) ?_;refine qu a8 ?_;refine qg ?_;refine qm ?_;refine ab.two 34 rfl (fun dq=>?_) (fun dq=>?_)
      ·refine qp (o:=0) ?_ (hg:=wi dq);refine ql hH ay ?_ (hg:=wi dq);refine qg ?_ (hg:=wi dq);refine qm ?_ (hg:=wi dq);refine ab.two 38 rfl (fun cE=>?_) (fun cE=>?_)
       ·refine qs ?_ (hg:=wn cE);refine qs ?_ (hg:=wn cE);refine qs ?_ (hg:=wn cE);refine ab.dG (aB rfl rfl rfl dq) rfl cE (ag rfl _) ?_;refine qt dq ?_;refine qm ?_;refine ab.nil (aU ?_);dsimp only[aI,List.foldl,nth,u2,u1];dsimp only[Fr.aC,Fr.put,Fr.clean,Fr.ev,Fr.get,nth,V.look,u1,u2,v1,v2,v3,v4,v5,v6,v7,List.length,u3,u4,Nat.reduceSub,Nat.reduceAdd,List.map]
        all_goals(simp[bF,a8,eP,ft,dq,cE];done)
       ·refine qp (o:=5) ?_ (hg:=wi cE);refine ql hH ay ?_ (hg:=wi cE);refine qg ?_ (hg:=wi cE);refine ab.cX (aB rfl rfl rfl dq) rfl cE (ag rfl _) ?_;refine qt dq ?_;refine qm ?_;refine ab.nil (aU ?_);dsimp only[aI,List.foldl,nth,u2,u1];dsimp only[Fr.aC,Fr.put,Fr.clean,Fr.ev,Fr.get,nth,V.look,u1,u2,v1,v2,v3,v4,v5,v6,v7,List.length,u3,u4,Nat.reduceSub,Nat.reduceAdd,List.map]
        all_goals(simp[bF,a8,eP,ft,dq,cE];done)
      ·refine qs ?_ (hg:=wn dq);refine qs ?_ (hg:=wn dq);refine qs ?_ (hg:=wn dq);refine qs ?_ (hg:=wn dq);refine qs ?_;refine qs ?_;refine qs ?_;refine qs ?_ (hg:=wn dq);refine qu dq ?_;refine qm ?_;refine ab.nil (aU ?_);dsimp only[aI,List.foldl,nth,u2,u1];dsimp only[Fr.aC,Fr.put,Fr.clean,Fr.ev,Fr.get,nth,V.look,u1,u2,v1,v2,v3,v4,v5,v6,v7,List.length,u3,u4,Nat.reduceSub,Nat.reduceAdd,List.map]
       all_goals(simp[bF,a8,eP,ft,dq];done)
     ·refine qs ?_ (hg:=wn ft);refine qs ?_ (hg:=wn ft);refine qs ?_ (hg:=wn ft);refine ab.cX (aB rfl rfl rfl a8) rfl ft (ag rfl _) ?_;refine qu a8 ?_;refine qg ?_;refine qm ?_;refine qs ?_;refine qs ?_;refine qs ?_;refine qs ?_;refine qs ?_;refine qs ?_;refine qs ?_;refine qs ?_;refine qg ?_;refine qm ?_;refine ab.nil (aU ?_);dsimp only[aI,List.foldl,nth,u2,u1];dsimp only[Fr.aC,Fr.put,Fr.clean,Fr.ev,Fr.get,nth,V.look,u1,u2,v1,v2,v3,v4,v5,v6,v7,List.length,u3,u4,Nat.reduceSub,Nat.reduceAdd,List.map]
      all_goals(simp[bF,a8,eP,ft];done)
    ·refine qs ?_ (hg:=wn eP);refine qs ?_ (hg:=wn eP);refine qs ?_ (hg:=wn eP);refine ab.cX (aB rfl rfl rfl a8) rfl eP (ag rfl _) ?_;refine qm ?_ (hg:=wi a8);refine qs ?_;refine qs ?_;refine qs ?_;refine qg ?_ (hg:=wi a8);refine qu a8 ?_;refine qg ?_;refine qm ?_;refine qs ?_;refine qs ?_;refine qs ?_;refine qs ?_;refine qs ?_;refine qs ?_;refine qs ?_;refine qs ?_;refine qg ?_;refine qm ?_;refine ab.nil (aU ?_);dsimp only[aI,List.foldl,nth,u2,u1];dsimp only[Fr.aC,Fr.put,Fr.clean,Fr.ev,Fr.get,nth,V.look,u1,u2,v1,v2,v3,v4,v5,v6,v7,List.length,u3,u4,Nat.reduceSub,Nat.reduceAdd,List.map]
     all_goals(simp[bF,a8,eP];done)
  ·refine qp (o:=1) ?_ (hg:=wi bF);refine ql hH ay ?_ (hg:=wi bF);refine qn ?_ (hg:=wi bF);simp only[List.length_map];refine qg ?_ (hg:=wi bF);refine qu bF ?_;refine qm ?_;refine ab.two 16 rfl (fun cw=>?_) (fun cw=>?_)
   ·refine qm ?_ (hg:=wi cw);refine qm ?_ (hg:=wi cw);refine ab.two 18 rfl (fun a8=>?_) (fun a8=>?_)
    ·refine qs ?_ (hg:=wn a8);refine qs ?_ (hg:=wn a8);refine qs ?_ (hg:=wn a8);refine qs ?_ (hg:=wn a8);refine qs ?_;refine qs ?_;refine qs ?_;refine qs ?_ (hg:=wn a8);refine qs ?_ (hg:=wn a8);refine qs ?_;refine qs ?_;refine qs ?_;refine qs ?_ (hg:=wn a8);refine ab.dG (aB rfl rfl rfl cw) rfl a8 (ag rfl _) ?_;refine qt cw ?_;refine qm ?_;refine qp (o:=0) ?_;refine ql hH ay ?_;refine qg ?_;refine qm ?_;refine ab.two 38 rfl (fun cE=>?_) (fun cE=>?_)
     ·refine qs ?_ (hg:=wn cE);refine qs ?_ (hg:=wn cE);refine qs ?_ (hg:=wn cE);refine qt cE ?_;refine qg ?_;refine qm ?_;refine ab.nil (aU ?_);dsimp only[aI,List.foldl,nth,u2,u1];dsimp only[Fr.aC,Fr.put,Fr.clean,Fr.ev,Fr.get,nth,V.look,u1,u2,v1,v2,v3,v4,v5,v6,v7,List.length,u3,u4,Nat.reduceSub,Nat.reduceAdd,List.map]
      all_goals(simp[bF,cw,a8,cE];done)
     ·refine qp (o:=5) ?_ (hg:=wi cE);refine ql hH ay ?_ (hg:=wi cE);refine qg ?_ (hg:=wi cE);refine qu cE ?_;refine qg ?_;refine qm ?_;refine ab.nil (aU ?_);dsimp only[aI,List.foldl,nth,u2,u1];dsimp only[Fr.aC,Fr.put,Fr.clean,Fr.ev,Fr.get,nth,V.look,u1,u2,v1,v2,v3,v4,v5,v6,v7,List.length,u3,u4,Nat.reduceSub,Nat.reduceAdd,List.map]
      all_goals(simp[bF,cw,a8,cE];done)
    ·refine qp (o:=2) ?_ (hg:=wi a8);refine ql hH ay ?_ (hg:=wi a8);refine qg ?_ (hg:=wi a8);refine qm ?_ (hg:=wi a8);refine ab.two 22 rfl (fun eP=>?_) (fun eP=>?_)
     ·refine qp (o:=3) ?_ (hg:=wi eP);refine ql hH ay ?_ (hg:=wi eP);refine qg ?_ (hg:=wi eP);refine ab.dG (aB rfl rfl rfl a8) rfl eP (ag rfl _) ?_;refine qm ?_ (hg:=wi a8);refine ab.two 27 rfl (fun ft=>?_) (fun ft=>?_)
      ·refine qp (o:=4) ?_ (hg:=wi ft);refine ql hH ay ?_ (hg:=wi ft);refine qg ?_ (hg:=wi ft);refine ab.dG (aB rfl rfl rfl a8) rfl ft (ag rfl _) ?_;refine ab.cX (aB rfl rfl rfl cw) rfl a8 (ag rfl _) ?_;refine qt cw ?_;refine qm ?_;refine ab.two 34 rfl (fun dq=>?_) (fun dq=>?_)
       ·refine qp (o:=0) ?_ (hg:=wi dq);refine ql hH ay ?_ (hg:=wi dq);refine qg ?_ (hg:=wi dq);refine qm ?_ (hg:=wi dq);refine ab.two 38 rfl (fun cE=>?_) (fun cE=>?_)
        ·refine qs ?_ (hg:=wn cE);refine qs ?_ (hg:=wn cE);refine qs ?_ (hg:=wn cE);refine ab.dG (aB rfl rfl rfl dq) rfl cE (ag rfl _) ?_;refine qt dq ?_;refine qm ?_;refine ab.nil (aU ?_);dsimp only[aI,List.foldl,nth,u2,u1];dsimp only[Fr.aC,Fr.put,Fr.clean,Fr.ev,Fr.get,nth,V.look,u1,u2,v1,v2,v3,v4,v5,v6,v7,List.length,u3,u4,Nat.reduceSub,Nat.reduceAdd,List.map]
         all_goals(simp[bF,cw,a8,eP,ft,dq,cE];done)
        ·refine qp (o:=5) ?_ (hg:=wi cE);refine ql hH ay ?_ (hg:=wi cE);refine qg ?_ (hg:=wi cE);refine ab.cX (aB rfl rfl rfl dq) rfl cE (ag rfl _) ?_;refine qt dq ?_;refine qm ?_;refine ab.nil (aU ?_);dsimp only[aI,List.foldl,nth,u2,u1];dsimp only[Fr.aC,Fr.put,Fr.clean,Fr.ev,Fr.get,nth,V.look,u1,u2,v1,v2,v3,v4,v5,v6,v7,List.length,u3,u4,Nat.reduceSub,Nat.reduceAdd,List.map]
         all_goals(simp[bF,cw,a8,eP,ft,dq,cE];done)
       ·refine qs ?_ (hg:=wn dq);refine qs ?_ (hg:=wn dq);refine qs ?_ (hg:=wn dq);refine qs ?_ (hg:=wn dq);refine qs ?_;refine qs ?_;refine qs ?_;refine qs ?_ (hg:=wn dq);refine qu dq ?_;refine qm ?_;refine ab.nil (aU ?_);dsimp only[aI,List.foldl,nth,u2,u1];dsimp only[Fr.aC,Fr.put,Fr.clean,Fr.ev,Fr.get,nth,V.look,u1,u2,v1,v2,v3,v4,v5,v6,v7,List.length,u3,u4,Nat.reduceSub,Nat.reduceAdd,List.map]
        all_goals(simp[bF,cw,a8,eP,ft,dq];done)
      ·refine qs ?_ (hg:=wn ft);refine qs ?_ (hg:=wn ft);refine qs ?_ (hg:=wn ft);refine ab.cX (aB rfl rfl rfl a8) rfl ft (ag rfl _) ?_;refine ab.cX (aB rfl rfl rfl cw) rfl a8 (ag rfl _) ?_;refine qt cw ?_;refine qm ?_;refine qs ?_;refine qs ?_;refine qs ?_;refine qs ?_;refine qs ?_;refine qs ?_;refine qs ?_;refine qs ?_;refine qg ?_;refine qm ?_;refine ab.nil (aU ?_);dsimp only[aI,List.foldl,nth,u2,u1];dsimp only[Fr.aC,Fr.put,Fr.clean,Fr.ev,Fr.get,nth,V.look,u1,u2,v1,v2,v3,v4,v5,v6,v7,List.length,u3,u4,Nat.reduceSub,Nat.reduceAdd,List.map]
       all_goals(simp[bF,cw,a8,eP,ft];done)
     ·refine qs ?_ (hg:=wn eP);refine qs ?_ (hg:=wn eP);refine qs ?_ (hg:=wn eP);refine ab.cX (aB rfl rfl rfl a8) rfl eP (ag rfl _) ?_;refine qm ?_ (hg:=wi a8);refine qs ?_;refine qs ?_;refine qs ?_;refine qg ?_ (hg:=wi a8);refine ab.cX (aB rfl rfl rfl cw) rfl a8 (ag rfl _) ?_;refine qt cw ?_;refine qm ?_;refine qs ?_;refine qs ?_;refine qs ?_;refine qs ?_;refine qs ?_;refine qs ?_;refine qs ?_;refine qs ?_;refine qg ?_;refine qm ?_;refine ab.nil (aU ?_);dsimp only[aI,List.foldl,nth,u2,u1];dsimp only[Fr.aC,Fr.put,Fr.clean,Fr.ev,Fr.get,nth,V.look,u1,u2,v1,v2,v3,v4,v5,v6,v7,List.length,u3,u4,Nat.reduceSub,Nat.reduceAdd,List.map]
      all_goals(simp[bF,cw,a8,eP];done)
   ·refine qs ?_ (hg:=wn cw);refine qs ?_ (hg:=wn cw);refine qs ?_;refine qs ?_;refine qs ?_;refine qs ?_;refine qs ?_;refine qs ?_;refine qs ?_;refine qs ?_;refine qs ?_;refine qs ?_;refine qs ?_;refine qs ?_;refine qs ?_;refine qs ?_ (hg:=wn cw);refine qu cw ?_;refine qm ?_;refine qs ?_;refine qs ?_;refine qs ?_;refine qs ?_;refine qs ?_;refine qs ?_;refine qs ?_;refine qs ?_;refine qg ?_;refine qm ?_;refine ab.nil (aU ?_);dsimp only[aI,List.foldl,nth,u2,u1];dsimp only[Fr.aC,Fr.put,Fr.clean,Fr.ev,Fr.get,nth,V.look,u1,u2,v1,v2,v3,v4,v5,v6,v7,List.length,u3,u4,Nat.reduceSub,Nat.reduceAdd,List.map]
    all_goals(simp[bF,cw];done)
 dsimp only[aI,List.foldl,nth,u2,u1];refine af.ret ⟨rx,_,rfl,rl b_ hH (rfl)⟩
theorem vn {s0:St} {n:c_} (hn:n.ok) {g:Nat} (hg:g≤1048576):Ev pv 73 [.agg (aX n),.int .i64 (g:Nat)] s0 (.tup [.int .i64 (ez n (g:Nat)).1,.bool (ez n (g:Nat)).2]) s0:=by
 refine Ev.nZ rfl QB rfl rfl rfl ?_;dsimp only[u3,u4,List.length,Nat.reduceSub,Nat.reduceAdd,w1,w2];obtain⟨b_,hF,hH⟩:=ri s0;generalize ai .ro s0=S at*;have AM:=hn.1.arg s0.bs.length S;have va:=hn.2.1;refine qq<|qj fun K hK=>qb hH fun k2 st hk2 hH=>?_;dsimp only[u2,u1,u3,u4,setMany,u5,u6,D.cells,Nat.reduceAdd,aX] at hH;refine qm ?_;refine qm ?_;refine qe hK<|qq<|qq<|qj fun K hK=>?_;refine ab.bN (m:=7) hH rfl (ev rfl) (by exact ay) (by dsimp only[List.drop_succ_cons,List.drop_zero,List.take_succ_cons,List.take_zero,aX]<;>rfl) rfl rfl (by dsimp only[Fr.put,u1,u2]<;>rfl) ?_;refine qv (zY hn) ?_;refine qg ?_;refine qe hK ?_;unfold ez
 cases hp:rF n with
 |false=>
  rw[if_pos rfl];refine qB ?_;refine qq<|qj fun K hK=>qm ?_;refine qm ?_;refine qe hK<|af.ret ⟨rx,_,rfl,rl b_ hH (rfl)⟩
 |true=>
  rw[if_neg (by simp)];refine qC ?_;refine af.skip<|qq<|qq<|qj fun K hK=>qp (o:=0) ?_;refine ql hH ay ?_;refine qe hK<|af.block<|qq<|qq<|qj fun K hK=>qg ?_;refine qm ?_;refine qe hK ?_
  by_cases q1:n.op=1
  ·rw[if_pos (.inl q1)];refine qD rfl (by simp[q1]) ?_;refine af.skip<|qD rfl (by simp[q1]) ?_;refine qq<|qj fun K hK=>qp (o:=6) ?_;refine ql hH ay ?_;refine qg ?_;refine qm ?_;refine qm ?_;refine qe hK<|af.ret ⟨rx,_,rfl,rl b_ hH (rfl)⟩
  refine qE rfl (by simp[q1]) ?_;refine qq<|qj fun K hK=>qg ?_;refine qm ?_;refine qe hK ?_
  by_cases q7:n.op=7
  ·rw[if_pos (.inr (.inl q7))];refine qD rfl (by simp[q7]) ?_;refine af.skip<|qD rfl (by simp[q7]) ?_;refine qq<|qj fun K hK=>qp (o:=6) ?_;refine ql hH ay ?_;refine qg ?_;refine qm ?_;refine qm ?_;refine qe hK<|af.ret ⟨rx,_,rfl,rl b_ hH (rfl)⟩
  refine qE rfl (by simp[q7]) ?_;refine qj fun K hK=>qg ?_;refine qm ?_;refine qe hK ?_
  by_cases q8:n.op=8
  ·rw[if_pos (.inr (.inr q8))];refine qD rfl (by simp[q8]) ?_;refine qq<|qj fun K hK=>qp (o:=6) ?_;refine ql hH ay ?_;refine qg ?_;refine qm ?_;refine qm ?_;refine qe hK<|af.ret ⟨rx,_,rfl,rl b_ hH (rfl)⟩
  refine qE rfl (by simp[q8]) ?_;rw[if_neg (by omega)];refine qq<|qj fun K hK=>qg ?_;refine qm ?_;refine qe hK ?_;refine af.cond (by rfl) (fun q2=>?_) (fun q2=>?_)<;>try simp only[beq_iff_eq,beq_eq_false_iff_ne,ne_eq] at q2
  ·rw[if_pos q2];refine qq<|af.KO [4,5] (fun ff=>ff 4=.int .i64 0∧ff 5=.bool ((n.kids==0) &&eA n.rs)) ?_ (fun ff tmp yO=>?_)
   ·refine qp (o:=6) ?_;refine ql hH ay ?_;refine qg ?_;refine qm ?_;refine ab.two 23 rfl (fun bF=>?_) (fun bF=>?_)
    ·refine qp (o:=1) ?_ (hg:=wi bF);refine ql hH ay ?_ (hg:=wi bF);refine qv (tq (AM.rows hH) va) ?_ (hg:=wi bF);refine qt bF ?_;refine qm ?_;refine qm ?_;refine ab.nil (jx ?_ ?_)
     ·dsimp only[aI,List.foldl,nth,u2,u1]
     ·dsimp only[nth];dsimp only[Fr.aC,Fr.put,Fr.clean,Fr.ev,Fr.get,nth,V.look,u1,u2,v1,v2,v3,v4,v5,v6,v7,List.length,u3,u4,Nat.reduceSub,Nat.reduceAdd,List.map];refine⟨?_,?_⟩<;>(first|rfl|(simp[bF];done)|(simp_all;done)|(simp[bF];omega)|(simp_all;omega))
    ·refine qs ?_ (hg:=wn bF);refine qs ?_ (hg:=wn bF);refine qs ?_ (hg:=wn bF);refine qu bF ?_;refine qm ?_;refine qm ?_;refine ab.nil (jx ?_ ?_)
     ·dsimp only[aI,List.foldl,nth,u2,u1]
     ·dsimp only[nth];dsimp only[Fr.aC,Fr.put,Fr.clean,Fr.ev,Fr.get,nth,V.look,u1,u2,v1,v2,v3,v4,v5,v6,v7,List.length,u3,u4,Nat.reduceSub,Nat.reduceAdd,List.map];refine⟨?_,?_⟩<;>(first|rfl|(simp[bF];done)|(simp_all;done)|(simp[bF];omega)|(simp_all;omega))
   dsimp only[aI,List.foldl,nth,u2,u1];obtain⟨A1,A0⟩:=yO;rw[A1,A0];refine af.ret ⟨rx,_,rfl,rl b_ hH (rfl)⟩
  rw[if_neg q2];refine qq<|qq<|qj fun K hK=>qg ?_;refine qm ?_;refine qe hK ?_
  by_cases q3:n.op=3
  ·rw[if_pos (.inl q3)];refine qD rfl (by simp[q3]) ?_;refine af.skip<|qD rfl (by simp[q3]) ?_;refine qq<|qj fun K hK=>qp (o:=6) ?_;refine ql hH ay ?_;refine qp (o:=6) ?_;refine ql hH ay ?_;refine qg ?_;refine qm ?_;refine qm ?_;refine qe hK<|af.ret ⟨rx,_,rfl,rl b_ hH (rfl)⟩
  refine qE rfl (by simp[q3]) ?_;refine qj fun K hK=>qg ?_;refine qm ?_;refine qe hK ?_
  by_cases q4:n.op=4
  ·rw[if_pos (.inr q4)];refine qD rfl (by simp[q4]) ?_;refine qq<|qj fun K hK=>qp (o:=6) ?_;refine ql hH ay ?_;refine qp (o:=6) ?_;refine ql hH ay ?_;refine qg ?_;refine qm ?_;refine qm ?_;refine qe hK<|af.ret ⟨rx,_,rfl,rl b_ hH (rfl)⟩
  rw[if_neg (by omega)];refine qE rfl (by simp[q4]) ?_;refine qq<|qj fun K hK=>qg ?_;refine qm ?_;refine qe hK ?_;refine af.cond (by rfl) (fun q5=>?_) (fun q5=>?_)<;>try simp only[beq_iff_eq,beq_eq_false_iff_ne,ne_eq] at q5
  ·rw[if_pos q5];refine qq<|af.KO [4,5] (fun ff=>ff 4=.int .i64 1∧ff 5=.bool ((n.kids==1) &&decide (n.mn≥0) &&decide (n.mn≤30) &&((n.mx==-1)||(decide (n.mx≥n.mn) &&decide (n.mx≤30))))) ?_ (fun ff tmp yO=>?_)
   ·refine qp (o:=6) ?_;refine ql hH ay ?_;refine qg ?_;refine qm ?_;refine ab.two 41 rfl (fun bF=>?_) (fun bF=>?_)
    ·refine qp (o:=2) ?_ (hg:=wi bF);refine ql hH ay ?_ (hg:=wi bF);refine qg ?_ (hg:=wi bF);refine qt bF ?_;refine qm ?_;refine ab.two 46 rfl (fun fU=>?_) (fun fU=>?_)
     ·refine qp (o:=2) ?_ (hg:=wi fU);refine ql hH ay ?_ (hg:=wi fU);refine qg ?_ (hg:=wi fU);refine qt fU ?_;refine qm ?_;refine ab.two 51 rfl (fun cG=>?_) (fun cG=>?_)
      ·refine qp (o:=3) ?_ (hg:=wi cG);refine ql hH ay ?_ (hg:=wi cG);refine qg ?_ (hg:=wi cG);refine qm ?_ (hg:=wi cG);refine ab.two 55 rfl (fun aW=>?_) (fun aW=>?_)
       ·refine qs ?_ (hg:=wn aW);refine qs ?_ (hg:=wn aW);refine qs ?_ (hg:=wn aW);refine qs ?_ (hg:=wn aW);refine qs ?_ (hg:=wn aW);refine qs ?_ (hg:=wn aW);refine qs ?_;refine qs ?_;refine qs ?_;refine qs ?_ (hg:=wn aW);refine ab.dG (aB rfl rfl rfl cG) rfl aW (ag rfl _) ?_;refine qt cG ?_;refine qm ?_;refine qm ?_;refine ab.nil (jx ?_ ?_)
        ·dsimp only[aI,List.foldl,nth,u2,u1]
        ·dsimp only[nth];dsimp only[Fr.aC,Fr.put,Fr.clean,Fr.ev,Fr.get,nth,V.look,u1,u2,v1,v2,v3,v4,v5,v6,v7,List.length,u3,u4,Nat.reduceSub,Nat.reduceAdd,List.map];refine⟨?_,?_⟩<;>(first|rfl|(simp[bF,fU,cG,aW];done)|(simp_all;done)|(simp[bF,fU,cG,aW];omega)|(simp_all;omega))
       ·refine qp (o:=3) ?_ (hg:=wi aW);refine ql hH ay ?_ (hg:=wi aW);refine qp (o:=2) ?_ (hg:=wi aW);refine ql hH ay ?_ (hg:=wi aW);refine qg ?_ (hg:=wi aW);refine qm ?_ (hg:=wi aW);refine ab.two 61 rfl (fun l7=>?_) (fun l7=>?_)
        ·refine qp (o:=3) ?_ (hg:=wi l7);refine ql hH ay ?_ (hg:=wi l7);refine qg ?_ (hg:=wi l7);refine ab.dG (aB rfl rfl rfl aW) rfl l7 (ag rfl _) ?_;refine ab.cX (aB rfl rfl rfl cG) rfl aW (ag rfl _) ?_;refine qt cG ?_;refine qm ?_;refine qm ?_;refine ab.nil (jx ?_ ?_)
         ·dsimp only[aI,List.foldl,nth,u2,u1]
         ·dsimp only[nth];dsimp only[Fr.aC,Fr.put,Fr.clean,Fr.ev,Fr.get,nth,V.look,u1,u2,v1,v2,v3,v4,v5,v6,v7,List.length,u3,u4,Nat.reduceSub,Nat.reduceAdd,List.map];refine⟨?_,?_⟩<;>(first|rfl|(simp[bF,fU,cG,aW,l7];done)|(simp_all;done)|(simp[bF,fU,cG,aW,l7];omega)|(simp_all;omega))
        ·refine qs ?_ (hg:=wn l7);refine qs ?_ (hg:=wn l7);refine qs ?_ (hg:=wn l7);refine ab.cX (aB rfl rfl rfl aW) rfl l7 (ag rfl _) ?_;refine ab.cX (aB rfl rfl rfl cG) rfl aW (ag rfl _) ?_;refine qt cG ?_;refine qm ?_;refine qm ?_;refine ab.nil (jx ?_ ?_)
         ·dsimp only[aI,List.foldl,nth,u2,u1]
         ·dsimp only[nth];dsimp only[Fr.aC,Fr.put,Fr.clean,Fr.ev,Fr.get,nth,V.look,u1,u2,v1,v2,v3,v4,v5,v6,v7,List.length,u3,u4,Nat.reduceSub,Nat.reduceAdd,List.map];refine⟨?_,?_⟩<;>(first|rfl|(simp[bF,fU,cG,aW,l7];done)|(simp_all;done)|(simp[bF,fU,cG,aW,l7];omega)|(simp_all;omega))
      ·refine qs ?_ (hg:=wn cG);refine qs ?_ (hg:=wn cG);refine qs ?_ (hg:=wn cG);refine qs ?_ (hg:=wn cG);refine qs ?_;refine qs ?_;refine qs ?_;refine qs ?_;refine qs ?_;refine qs ?_;refine qs ?_;refine qs ?_;refine qs ?_;refine qs ?_;refine qs ?_ (hg:=wn cG);refine qu cG ?_;refine qm ?_;refine qm ?_;refine ab.nil (jx ?_ ?_)
       ·dsimp only[aI,List.foldl,nth,u2,u1]
       ·dsimp only[nth];dsimp only[Fr.aC,Fr.put,Fr.clean,Fr.ev,Fr.get,nth,V.look,u1,u2,v1,v2,v3,v4,v5,v6,v7,List.length,u3,u4,Nat.reduceSub,Nat.reduceAdd,List.map];refine⟨?_,?_⟩<;>(first|rfl|(simp[bF,fU,cG];done)|(simp_all;done)|(simp[bF,fU,cG];omega)|(simp_all;omega))
     ·refine qs ?_ (hg:=wn fU);refine qs ?_ (hg:=wn fU);refine qs ?_ (hg:=wn fU);refine qu fU ?_;refine qm ?_;refine qs ?_;refine qs ?_;refine qs ?_;refine qs ?_;refine qs ?_;refine qs ?_;refine qs ?_;refine qs ?_;refine qs ?_;refine qs ?_;refine qs ?_;refine qs ?_;refine qs ?_;refine qs ?_;refine qs ?_;refine qg ?_;refine qm ?_;refine qm ?_;refine ab.nil (jx ?_ ?_)
      ·dsimp only[aI,List.foldl,nth,u2,u1]
      ·dsimp only[nth];dsimp only[Fr.aC,Fr.put,Fr.clean,Fr.ev,Fr.get,nth,V.look,u1,u2,v1,v2,v3,v4,v5,v6,v7,List.length,u3,u4,Nat.reduceSub,Nat.reduceAdd,List.map];refine⟨?_,?_⟩<;>(first|rfl|(simp[bF,fU];done)|(simp_all;done)|(simp[bF,fU];omega)|(simp_all;omega))
    ·refine qs ?_ (hg:=wn bF);refine qs ?_ (hg:=wn bF);refine qs ?_ (hg:=wn bF);refine qu bF ?_;refine qm ?_;refine qs ?_;refine qs ?_;refine qs ?_;refine qg ?_;refine qm ?_;refine qs ?_;refine qs ?_;refine qs ?_;refine qs ?_;refine qs ?_;refine qs ?_;refine qs ?_;refine qs ?_;refine qs ?_;refine qs ?_;refine qs ?_;refine qs ?_;refine qs ?_;refine qs ?_;refine qs ?_;refine qg ?_;refine qm ?_;refine qm ?_;refine ab.nil (jx ?_ ?_)
     ·dsimp only[aI,List.foldl,nth,u2,u1]
     ·dsimp only[nth];dsimp only[Fr.aC,Fr.put,Fr.clean,Fr.ev,Fr.get,nth,V.look,u1,u2,v1,v2,v3,v4,v5,v6,v7,List.length,u3,u4,Nat.reduceSub,Nat.reduceAdd,List.map];refine⟨?_,?_⟩<;>(first|rfl|(simp[bF];done)|(simp_all;done)|(simp[bF];omega)|(simp_all;omega))
   dsimp only[aI,List.foldl,nth,u2,u1];obtain⟨A1,A0⟩:=yO;rw[A1,A0];refine af.ret ⟨rx,_,rfl,rl b_ hH (rfl)⟩
  rw[if_neg q5];refine qq<|qj fun K hK=>qg ?_;refine qm ?_;refine qe hK ?_;refine af.cond (by rfl) (fun q6=>?_) (fun q6=>?_)<;>try simp only[beq_iff_eq,beq_eq_false_iff_ne,ne_eq] at q6
  ·rw[if_pos q6];refine qq<|af.KO [4,5] (fun ff=>ff 4=.int .i64 1∧ff 5=.bool ((n.kids==1) &&(n.cap==((g+1:Nat):Int)) &&decide (n.cap≤4))) ?_ (fun ff tmp yO=>?_)
   ·refine qp (o:=6) ?_;refine ql hH ay ?_;refine qg ?_;refine qm ?_;refine ab.two 73 rfl (fun bF=>?_) (fun bF=>?_)
    ·refine qp (o:=5) ?_ (hg:=wi bF);refine ql hH ay ?_ (hg:=wi bF);refine qm ?_ (hg:=wi bF);refine qA ?_ (hg:=wi bF);refine qg ?_ (hg:=wi bF);refine qt bF ?_;refine qm ?_;refine ab.two 80 rfl (fun aS=>?_) (fun aS=>?_)
     ·refine qp (o:=5) ?_ (hg:=wi aS);refine ql hH ay ?_ (hg:=wi aS);refine qg ?_ (hg:=wi aS);refine qt aS ?_;refine qm ?_;refine qm ?_;refine ab.nil (jx ?_ ?_)
      ·dsimp only[aI,List.foldl,nth,u2,u1]
      ·dsimp only[nth];dsimp only[Fr.aC,Fr.put,Fr.clean,Fr.ev,Fr.get,nth,V.look,u1,u2,v1,v2,v3,v4,v5,v6,v7,List.length,u3,u4,Nat.reduceSub,Nat.reduceAdd,List.map];refine⟨?_,?_⟩<;>(first|rfl|(simp[bF,aS];done)|(simp_all;done)|(simp[bF,aS];omega)|(simp_all;omega))
     ·refine qs ?_ (hg:=wn aS);refine qs ?_ (hg:=wn aS);refine qs ?_ (hg:=wn aS);refine qu aS ?_;refine qm ?_;refine qm ?_;refine ab.nil (jx ?_ ?_)
      ·dsimp only[aI,List.foldl,nth,u2,u1]
      ·dsimp only[nth];dsimp only[Fr.aC,Fr.put,Fr.clean,Fr.ev,Fr.get,nth,V.look,u1,u2,v1,v2,v3,v4,v5,v6,v7,List.length,u3,u4,Nat.reduceSub,Nat.reduceAdd,List.map];refine⟨?_,?_⟩<;>(first|rfl|(simp[bF,aS];done)|(simp_all;done)|(simp[bF,aS];omega)|(simp_all;omega))
    ·refine qs ?_ (hg:=wn bF);refine qs ?_ (hg:=wn bF);refine qs ?_ (hg:=wn bF);refine qs ?_ (hg:=wn bF);refine qs ?_ (hg:=wn bF);refine qu bF ?_;refine qm ?_;refine qs ?_;refine qs ?_;refine qs ?_;refine qg ?_;refine qm ?_;refine qm ?_;refine ab.nil (jx ?_ ?_)
     ·dsimp only[aI,List.foldl,nth,u2,u1]
     ·dsimp only[nth];dsimp only[Fr.aC,Fr.put,Fr.clean,Fr.ev,Fr.get,nth,V.look,u1,u2,v1,v2,v3,v4,v5,v6,v7,List.length,u3,u4,Nat.reduceSub,Nat.reduceAdd,List.map];refine⟨?_,?_⟩<;>(first|rfl|(simp[bF];done)|(simp_all;done)|(simp[bF];omega)|(simp_all;omega))
   dsimp only[aI,List.foldl,nth,u2,u1];obtain⟨A1,A0⟩:=yO;rw[A1,A0];refine af.ret ⟨rx,_,rfl,rl b_ hH (rfl)⟩
  ·rw[if_neg q6];refine af.skip<|qq<|qj fun K hK=>qm ?_;refine qm ?_;refine qe hK<|af.ret ⟨rx,_,rfl,rl b_ hH (rfl)⟩
theorem tR {n:c_} (h:n.ok):refs (aX n)=0:=by
 have:=h.1.ref;simp only[aX,refs,D.ref,this,Nat.max_self]
def mj (d:D) (at_ g:Nat):List D:=[d,.int .i64 (at_:Nat),.int .i64 (g:Nat)]
theorem Ag {l:List c_} {d:D} (hl:l.length≤1048576) (hi:∀n∈l,n.ok) (hd:fK d 7 (l.map aX)):∀(f:Nat) {N k:Nat} {S s0:St} {H:List bC} {at_ g:Nat},f≤241→g≤4→Has N S s0 (.box k (.mem 0 false (mj d at_ g))::H)→
  ∃r ah,Ev pv 64 [.ptr k 0 0,.int .i64 ((241-f:Nat):Int)] s0 r ah∧r=.bool (gi l f at_ g).isSome∧∃a' g',Has N S ah (.box k (.mem 0 false (mj d a' g'))::H)∧g'≤4∧∀q,gi l f at_ g=some q→a'=q.1∧g'=q.2:=by
 intro f
 induction f with
 |zero=>
  intro N k S s0 H at_ g hf hg hH;refine Ev.iY rfl NC rfl rfl rfl ?_;dsimp only[u3,u4,List.length,Nat.reduceSub,Nat.reduceAdd,w1,w2];have ck:=hH;have hH:=hH.cn;have ch:(ai .rw s0).bs=s0.bs:=rfl;generalize ai .rw s0=S2 at*;have hc:=hd.arg N S2;refine qq<|qj fun K hK=>qm ?_;refine qe hK<|qq<|qq<|af.j8 21 (.bool (decide ((at_:Int)≥(l.length:Nat))||decide (((241-0:Nat):Int)>240))) [] ?_ (fun ff tmp gB=>?_)
  ·refine qm ?_;refine qg ?_;refine qp (o:=1) ?_;refine ql hH ay ?_;refine qm ?_;refine qg ?_;refine qp (o:=0) ?_;refine ql hH ay ?_;refine qn ?_;simp only[List.length_map];refine qg ?_;refine qm ?_;refine ab.two 18 rfl (fun aS=>?_) (fun aS=>?_)
   ·refine qs ?_ (hg:=wn aS);refine qs ?_ (hg:=wn aS);refine qt aS ?_;refine ab.nil (cP ?_ ?_)
    ·dsimp only[aI,List.foldl,nth,u2,u1]
     all_goals(first|rfl|simp)
    ·dsimp only[Fr.aC,Fr.put,Fr.clean,Fr.ev,Fr.get,nth,V.look,u1,u2,v1,v2,v3,v4,v5,v6,v7,List.length,u3,u4,Nat.reduceSub,Nat.reduceAdd,List.map]
     all_goals(simp[aS];done)
   ·refine qm ?_ (hg:=wi aS);refine qg ?_ (hg:=wi aS);refine qu aS ?_;refine ab.nil (cP ?_ ?_)
    ·dsimp only[aI,List.foldl,nth,u2,u1]
     all_goals(first|rfl|simp)
    ·dsimp only[Fr.aC,Fr.put,Fr.clean,Fr.ev,Fr.get,nth,V.look,u1,u2,v1,v2,v3,v4,v5,v6,v7,List.length,u3,u4,Nat.reduceSub,Nat.reduceAdd,List.map]
     all_goals(simp[aS];done)
  dsimp only[aI,List.foldl,nth,u2,u1];have hT:(decide ((at_:Int)≥(l.length:Nat))||decide (((241-0:Nat):Int)>240))=true:=by simp
  rw[hT] at gB;refine qB ?_;refine qq<|qj fun K hK=>qm ?_;refine qe hK<|af.ret ⟨rx,_,_,_,rfl,aj (rfl),?_⟩;exact⟨rfl,_,_,ck.av ch hH,hg,fun q hq=>by simp[gi] at hq⟩
 |succ f ih=>
  intro N k S s0 H at_ g hf hg hH;refine Ev.iY rfl NC rfl rfl rfl ?_;dsimp only[u3,u4,List.length,Nat.reduceSub,Nat.reduceAdd,w1,w2];have ck:=hH;have hH:=hH.cn;have ch:(ai .rw s0).bs=s0.bs:=rfl;generalize ai .rw s0=S2 at*;have hc:=hd.arg N S2;refine qq<|qj fun K hK=>qm ?_;refine qe hK<|qq<|qq<|af.j8 21 (.bool (decide ((at_:Int)≥(l.length:Nat))||decide (((241-(f+1):Nat):Int)>240))) [] ?_ (fun ff tmp gB=>?_)
  ·refine qm ?_;refine qg ?_;refine qp (o:=1) ?_;refine ql hH ay ?_;refine qm ?_;refine qg ?_;refine qp (o:=0) ?_;refine ql hH ay ?_;refine qn ?_;simp only[List.length_map];refine qg ?_;refine qm ?_;refine ab.two 18 rfl (fun aS=>?_) (fun aS=>?_)
   ·refine qs ?_ (hg:=wn aS);refine qs ?_ (hg:=wn aS);refine qt aS ?_;refine ab.nil (cP ?_ ?_)
    ·dsimp only[aI,List.foldl,nth,u2,u1]
     all_goals(first|rfl|simp)
    ·dsimp only[Fr.aC,Fr.put,Fr.clean,Fr.ev,Fr.get,nth,V.look,u1,u2,v1,v2,v3,v4,v5,v6,v7,List.length,u3,u4,Nat.reduceSub,Nat.reduceAdd,List.map]
     all_goals(simp_all;done)
   ·refine qm ?_ (hg:=wi aS);refine qg ?_ (hg:=wi aS);refine qu aS ?_;refine ab.nil (cP ?_ ?_)
    ·dsimp only[aI,List.foldl,nth,u2,u1]
     all_goals(first|rfl|simp)
    ·dsimp only[Fr.aC,Fr.put,Fr.clean,Fr.ev,Fr.get,nth,V.look,u1,u2,v1,v2,v3,v4,v5,v6,v7,List.length,u3,u4,Nat.reduceSub,Nat.reduceAdd,List.map]
     all_goals(simp_all;omega)
  dsimp only[aI,List.foldl,nth,u2,u1]
  by_cases ha:l.length≤at_
  ·have hT:(decide ((at_:Int)≥(l.length:Nat))||decide (((241-(f+1):Nat):Int)>240))=true:=by
    rw[Bool.or_eq_true];exact .inl (by rw[decide_eq_true_eq];omega)
   rw[hT] at gB;have hn:gi l (f+1) at_ g=none:=by unfold gi;rw[List.getElem?_eq_none ha]
   rw[hn];refine qB ?_;refine qq<|qj fun K hK=>qm ?_;refine qe hK<|af.ret ⟨rx,_,_,_,rfl,aj (rfl),?_⟩;exact⟨rfl,_,_,ck.av ch hH,hg,fun q hq=>by cases hq⟩
  ·have hT:(decide ((at_:Int)≥(l.length:Nat))||decide (((241-(f+1):Nat):Int)>240))=false:=by
    rw[Bool.or_eq_false_iff];exact⟨by rw[decide_eq_false_iff_not];omega,by rw[decide_eq_false_iff_not];omega⟩
   rw[hT] at gB
   obtain⟨n,hn⟩:∃n,l[at_]?=some n:=⟨l[at_]'(by omega),List.getElem?_eq_getElem _⟩
   have l5:=hi n (List.mem_of_getElem? hn);have gD:=jR hn;have J0:=tR l5
   have iL:gi l (f+1) at_ g=if(ez n (g:Nat)).2=true then ir (gi l f) (ez n (g:Nat)).1.toNat (at_+1) (if n.op=6 then g+1 else g) else none:=by
    rw[gi,hn]
   rw[iL];clear iL;refine qC ?_;refine af.skip<|qq<|qj fun K hK=>qm ?_;refine qg ?_;refine qp (o:=0) ?_;refine ql hH ay ?_;refine qm ?_;refine qg ?_;refine qp (o:=1) ?_;refine ql hH ay ?_;refine qr fun R2 ME=>?_;refine ab.dE rfl (ev rfl) (by assumption) rfl (ag rfl _) ?_;refine qa hH fun k5 st Ga hH=>?_;dsimp only[u2,u1,u3,u4,setMany,u5,u6,D.cells,Nat.reduceAdd,mj,aX] at hH;refine ab.sc hH rfl (ev rfl) (ev rfl) (by rfl) (by exact rfl) (by exact ay) (by exact rfl) (by exact .inr (by assumption)) (fun st hH=>?_);dsimp only[u2,u1,u3,u4,setMany,u5,u6,D.cells,Nat.reduceAdd,mj,aX] at hH;refine qe hK<|qq<|qj fun K hK=>?_;refine ab.bN (m:=7) hH rfl (ev rfl) (by exact ay) (by dsimp only[List.drop_succ_cons,List.drop_zero,List.take_succ_cons,List.take_zero,mj,aX]<;>rfl) rfl rfl (ag rfl _) ?_;refine qm ?_;refine qg ?_;refine qp (o:=2) ?_;refine ql hH b5 ?_;refine qv (vn l5 (by omega)) ?_;refine qm ?_;refine qg ?_;refine qg ?_;refine qm ?_;refine qm ?_;refine qe hK<|qq<|qq<|qj fun K hK=>qm ?_;refine qg ?_;refine qe hK ?_
   cases hsh:(ez n (g:Nat)).2 with
   |false=>
    rw[if_neg (by simp)];refine qB ?_;refine qq<|qj fun K hK=>qm ?_;refine qe hK<|af.ret ⟨rx,_,_,_,rfl,aj (rfl),?_⟩;exact⟨rfl,_,_,ck.av ch (hH.drop 1),hg,fun q hq=>by cases hq⟩
   |true=>
    rw[if_pos rfl];obtain⟨⟨ox,_⟩,hk2,NZ⟩:=ti hsh;have Px:=l5.2.2;obtain⟨kd,Lb⟩:∃kd:Nat,(ez n (g:Nat)).1=(kd:Int):=Int.eq_ofNat_of_zero_le hk2;rw[Lb,Int.toNat_natCast];rw[Lb,Int.toNat_natCast] at ox;refine qC ?_;refine af.skip<|qq<|qj fun K hK=>qm ?_;refine qg ?_;refine qp (o:=1) ?_;refine ql hH b5 ?_;refine qA ?_;refine qg ?_;refine qp (o:=1) ?_;refine qT hH b5 fun st hH=>?_;dsimp only[u2,u1,u3,u4,setMany,u5,u6,D.cells,Nat.reduceAdd,mj,aX] at hH;refine qe hK<|qq<|qq<|qj fun K hK=>qp (o:=0) ?_;refine ql hH ay ?_;refine qg ?_;refine qe hK<|af.merge (fun fr st=>∃(g2:Nat) (tmp:List (Nat×D)),fr=⟨8,[.ptr k 0 0,.int .i64 ((241-(f+1):Nat):Int),lW fr 2,lW fr 3,.bool false,.ptr k5 0 0,.int .i64 (kd:Nat),.bool true],tmp⟩∧Has N S2 st (.box k (.mem 0 false [d,.int .i64 ((at_+1:Nat):Int),.int .i64 (g2:Nat)])::.box k5 (.mem 0 false (aX n))::H)∧(g2=if n.op=6 then g+1 else g)∧(g2≤4)) ?_ ?_
    ·refine af.cond (by rfl) (fun q6=>?_) (fun q6=>?_)<;>try simp only[beq_iff_eq,beq_eq_false_iff_ne,ne_eq] at q6
     ·have:=NZ q6;refine qj fun K hK=>qm ?_;refine qg ?_;refine qp (o:=2) ?_;refine ql hH b5 ?_;refine qA ?_;refine qg ?_;refine qp (o:=2) ?_;refine qT hH b5 fun st hH=>?_;dsimp only[u2,u1,u3,u4,setMany,u5,u6,D.cells,Nat.reduceAdd,mj,aX] at hH;refine qe hK ?_;exact⟨g+1,_,rfl,(by have:=hH.front b5;exact this),by rw[if_pos q6],by omega⟩
     ·refine af.skip ?_;exact⟨g,_,rfl,(by have:=hH.front b5;exact this),by rw[if_neg q6],hg⟩
    ·rintro fr st ⟨g2,tmp,hfr,hH,bf,bF⟩;rw[hfr];clear hfr;generalize lW fr=ee;clear fr;rw[←bf];refine qq<|af.block<|af.loop (fun mm fr st=>∃(kk a2 g4:Nat),fr.clean=⟨8,[.ptr k 0 0,.int .i64 ((241-(f+1):Nat):Int),lW fr 2,lW fr 3,.bool false,.ptr k5 0 0,.int .i64 (kk:Nat),.bool true],[]⟩∧Has N S2 st (.box k (.mem 0 false [d,.int .i64 (a2:Nat),.int .i64 (g4:Nat)])::.box k5 (.mem 0 false (aX n))::H)∧(ir (gi l f) kk a2 g4=ir (gi l f) kd (at_+1) g2)∧(g4≤4)∧(kk=mm)∧(kk≤9223372036854775807)) (kd) ?_ ?_
     ·exact⟨kd,at_+1,g2,rfl,hH,rfl,bF,rfl,by omega⟩
     rintro mm fr st ⟨kk,a2,g4,hfr,hH,hX,bc,F8,hkk⟩;rw[hfr];clear hfr;generalize lW fr=ee;clear fr;refine qq<|qq<|qj fun K hK=>qm ?_;refine qg ?_;refine qe hK ?_
     cases kk with
     |zero=>
      refine af.cond (v:=false) (by dsimp only[Fr.ev,Fr.get,nth,V.look];rfl) (fun h=>by cases h) (fun _=>?_);refine af.exit<|qq<|qj fun K hK=>qm ?_;refine qe hK<|af.ret ⟨rx,_,_,_,rfl,aj (rfl),?_⟩;exact⟨by rw[←hX];rfl,_,_,ck.av ch (hH.erase 1),bc,fun q hq=>by rw[←hX] at hq;simp only[ir,Option.some.injEq] at hq;subst hq;exact⟨rfl,rfl⟩⟩
     |succ kk=>
      rw[ir] at hX;refine qD rfl (by simp) ?_;refine af.skip<|qq<|af.block<|qq<|qj fun K hK=>qm ?_;refine qm ?_;refine ab.ka (z:=((241-f:Nat):Int)) rfl (ev rfl) (ev rfl) (by(try simp only[List.length_reverse,List.length_cons,List.length_nil,List.length_append,List.length_map,List.length_set]);rw[wrap_i64 (by omega) (by omega)]<;>omega) (ag rfl _) ?_;obtain⟨_,st,aH,rfl,a',g',hH,dM,hq⟩:=ih (at_:=a2) (g:=g4) (by omega) bc hH;refine qv aH ?_;refine qg ?_;refine qe hK ?_
      cases ho:gi l f a2 g4 with
      |none=>
       rw[ho] at hX;refine qB ?_;refine qq<|qj fun K hK=>qm ?_;refine qe hK<|af.ret ⟨rx,_,_,_,rfl,aj (rfl),?_⟩;exact⟨by rw[←hX];rfl,_,_,ck.av ch (hH.erase 1),dM,fun q hq=>by rw[←hX] at hq;cases hq⟩
      |some q=>
       rw[ho] at hX;obtain⟨rfl,rfl⟩:=hq q ho;refine qC ?_;refine af.skip<|qj fun K hK=>qm ?_;refine ab.mN (z:=((kk:Nat):Int)) rfl (ev rfl) (ev rfl) (by(try simp only[List.length_reverse,List.length_cons,List.length_nil,List.length_append,List.length_map,List.length_set]);rw[wrap_i64 (by omega) (by omega)]<;>omega) (ag rfl _) ?_;refine qm ?_;refine qe hK ?_;exact⟨mm-1,by omega,⟨kk,q.1,q.2,rfl,hH,hX,dM,by omega,by omega⟩⟩
theorem yp {s0:St} {x:Nl} (hx:x.ok):Ev pv 39 [x.d] s0 (.bool (e_ x.l)) s0:=by
 refine Ev.nZ rfl QZ rfl rfl rfl ?_;dsimp only[u3,u4,List.length,Nat.reduceSub,Nat.reduceAdd,w1,w2];obtain⟨b_,hF,hH⟩:=ri s0;generalize ai .ro s0=S at*;have hc:=hx.c.arg s0.bs.length S;have hl:=hx.nl;have s8:=hx.c;refine qq<|qj fun K hK=>qm ?_;refine qe hK<|qq<|qq<|af.j8 11 (.bool (decide (((x.l.length:Nat):Int)<1)||decide (((x.l.length:Nat):Int)>480))) [] ?_ (fun ff tmp gB=>?_)
 ·refine qm ?_;refine qn ?_;simp only[List.length_map];refine qg ?_;refine qm ?_;refine ab.two 7 rfl (fun bF=>?_) (fun bF=>?_)
  ·refine qs ?_ (hg:=wn bF);refine qs ?_ (hg:=wn bF);refine qs ?_ (hg:=wn bF);refine qt bF ?_;refine ab.nil (cP ?_ ?_)
   ·dsimp only[aI,List.foldl,nth,u2,u1]
    all_goals(first|rfl|simp)
   ·dsimp only[Fr.aC,Fr.put,Fr.clean,Fr.ev,Fr.get,nth,V.look,u1,u2,v1,v2,v3,v4,v5,v6,v7,List.length,u3,u4,Nat.reduceSub,Nat.reduceAdd,List.map]
    all_goals(simp[bF];done)
  ·refine qm ?_ (hg:=wi bF);refine qn ?_ (hg:=wi bF);simp only[List.length_map];refine qg ?_ (hg:=wi bF);refine qu bF ?_;refine ab.nil (cP ?_ ?_)
   ·dsimp only[aI,List.foldl,nth,u2,u1]
    all_goals(first|rfl|simp)
   ·dsimp only[Fr.aC,Fr.put,Fr.clean,Fr.ev,Fr.get,nth,V.look,u1,u2,v1,v2,v3,v4,v5,v6,v7,List.length,u3,u4,Nat.reduceSub,Nat.reduceAdd,List.map]
    all_goals(simp[bF];done)
 dsimp only[aI,List.foldl,nth,u2,u1]
 by_cases hlen:1≤x.l.length∧x.l.length≤480
 ·have hT:(decide (((x.l.length:Nat):Int)<1)||decide (((x.l.length:Nat):Int)>480))=false:=by
   rw[Bool.or_eq_false_iff];exact⟨by rw[decide_eq_false_iff_not];omega,by rw[decide_eq_false_iff_not];omega⟩
  rw[hT] at gB
  have hR:e_ x.l=(match gi x.l 241 0 0 with|some r=>decide (r.1=x.l.length)|none=>false):=by
   unfold e_;rw[decide_eq_true hlen.1,decide_eq_true hlen.2];rfl
  rw[hR];clear hR;refine qC ?_;refine af.skip<|qq<|qj fun K hK=>qm ?_;refine ab.fe (qs:=[(0,_)]) rfl rfl rfl rfl ⟨rfl,(ev rfl),(by exact(fK.cells (by assumption)).1),trivial⟩ (by intro q hq;simp only[List.mem_cons,List.not_mem_nil,or_false] at hq;rcases hq with rfl<;>exact⟨rfl,by exact Nat.le_of_ble_eq_true rfl⟩) (by show List.foldl _ [_,_,_] _=_;dsimp only[List.foldl_cons,List.foldl_nil,u2,u1]<;>rfl) (ag rfl _) ?_;refine qb hH fun k14 st M1 hH=>?_;refine qm ?_;refine qe hK ?_;have hH:Has s0.bs.length S st (.box k14 (.mem 0 false (mj x.d 0 0))::[]):=hH
  cases bf:(gi x.l 241 0 0).isSome with
  |true=>
   obtain⟨q,hq⟩:=Option.isSome_iff_exists.1 bf;refine qq<|qj fun K hK=>qm ?_;obtain⟨_,st,aH,rfl,a',g',hH,dM,Mv⟩:=Ag hl hx.i hx.c 241 (by omega) (by omega) hH;refine qv aH ?_;refine qm ?_;refine qm ?_ (hg:=wi bf);refine qg ?_ (hg:=wi bf);refine qp (o:=1) ?_ (hg:=wi bf);refine ql hH ay ?_ (hg:=wi bf);refine qm ?_ (hg:=wi bf);refine qn ?_ (hg:=wi bf);simp only[List.length_map];refine qg ?_ (hg:=wi bf);refine qt bf ?_;refine qm ?_;refine qe hK ?_;obtain⟨rfl,rfl⟩:=Mv q hq;rw[hq]
   have he:decide (q.1=x.l.length)=(((q.1:Nat):Int)==((x.l.length:Nat):Int)):=by
    rw[Bool.eq_iff_iff];simp only[decide_eq_true_eq,beq_iff_eq];omega
   simp only[he];refine af.ret ⟨rx,_,rfl,rl b_ hH (rfl)⟩
  |false=>
   have hq:gi x.l 241 0 0=none:=by
    cases hq:gi x.l 241 0 0 with
    |none=>rfl
    |some q=>rw[hq] at bf;cases bf
   refine qq<|qj fun K hK=>qm ?_;obtain⟨_,st,aH,rfl,a',g',hH,dM,Mv⟩:=Ag hl hx.i hx.c 241 (by omega) (by omega) hH;refine qv aH ?_;refine qm ?_;refine qs ?_ (hg:=wn bf);refine qs ?_ (hg:=wn bf);refine qs ?_ (hg:=wn bf);refine qs ?_ (hg:=wn bf);refine qs ?_ (hg:=wn bf);refine qs ?_ (hg:=wn bf);refine qs ?_ (hg:=wn bf);refine qu bf ?_;refine qm ?_;refine qe hK ?_;rw[hq];refine af.ret ⟨rx,_,rfl,rl b_ hH (rfl)⟩
 ·have hT:(decide (((x.l.length:Nat):Int)<1)||decide (((x.l.length:Nat):Int)>480))=true:=by
   rw[Bool.or_eq_true,decide_eq_true_eq,decide_eq_true_eq];omega
  rw[hT] at gB
  have hR:e_ x.l=false:=by
   unfold e_
   by_cases h1:1≤x.l.length
   ·rw[decide_eq_true h1,decide_eq_false (fun h2=>hlen ⟨h1,h2⟩)];rfl
   ·rw[decide_eq_false h1];rfl
  rw[hR];refine qB ?_;refine qq<|qj fun K hK=>qm ?_;refine qe hK<|af.ret ⟨rx,_,rfl,rl b_ hH (rfl)⟩
def aL (fr:Go.V.Fr) (k:Nat):Go.V.D:=Go.V.nth .bp fr.loc k
def lC (es:List Int) (a:Nat) (M:List Int):List Int:=es.take a++M++es.drop (a+M.length)
theorem w5 {es M:List Int} {a:Nat} (h:a+M.length≤es.length):(lC es a M).length=es.length:=by
 unfold lC;simp only[List.length_append,List.length_take,List.length_drop];omega
theorem wZ {es:List Int} {a:Nat}:lC es a []=es:=by
 unfold lC;simp
theorem B9 {es M:List Int} {a:Nat} {x:Int} (h:a≤es.length):(lC es a (x::M))[a]?=some x:=by
 unfold lC;rw[List.append_assoc,List.getElem?_append_right (by simp only[List.length_take];omega)];simp[Nat.min_eq_left h]
theorem wX {es M M':List Int} {a:Nat} (h:a+M.length+M'.length≤es.length):lC (lC es a M) (a+M.length) M'=lC es a (M++M'):=by
 unfold lC;have h1:(es.take a++M).length=a+M.length:=by simp only[List.length_append,List.length_take];omega
 rw[List.take_append_of_le_length (by omega),List.take_of_length_le (by omega)];rw[←h1,List.drop_append,List.drop_eq_nil_of_le (by omega),List.nil_append,h1,List.drop_drop];simp only[List.append_assoc,List.length_append]
 congr 4
 omega
theorem wY {es M:List Int} {a:Nat} {v:Int} (h:a+1+M.length≤es.length):(lC es (a+1) M).set a v=lC es a (v::M):=by
 unfold lC;have h1:(es.take a).length=a:=by simp only[List.length_take];omega
 rw[List.append_assoc,List.take_add_one,List.getElem?_eq_getElem (by omega)];simp only[Option.toList_some,List.append_assoc,List.cons_append,List.nil_append,List.length_cons];rw[List.set_append_right _ _ (by omega),h1,Nat.sub_self,List.set_cons_zero]
 congr 4
 omega
theorem zI {l:List c_} {d:D} (hl:l.length≤1048576) (hi:∀n∈l,n.ok) (hd:fK d 7 (l.map aX)):∀(m:Nat) (t:Tr),t.flat.length≤m→t.ok→∀{N:Nat} {S s0:St} {H:List bC} {out:D} {es:List Int} {at_:Nat},eL l at_ t.flat→es.length=l.length→Has N S s0 (.aJ out 1 (es.map aw)::H)→
  ∃r ah,Ev pv 40 [d,out,.int .i64 (at_:Nat)] s0 r ah∧r=.int .i64 ((at_+t.flat.length:Nat):Int)∧Has N S ah (.aJ out 1 ((lC es at_ t.zs).map aw)::H):=by
 intro m
 induction m with
 |zero=>intro t h;have:=t.gr;omega
 |succ m ih=>
  rintro⟨n,ks⟩ hm a_ N S s0 H out es at_ iK oz hH;simp only[Tr.ok] at a_;obtain⟨l5,kD⟩:=a_;simp only[Tr.flat,List.length_cons] at hm;have hle:=iK.le (by simp[Tr.flat]);simp only[Tr.flat] at iK hle;simp only[List.length_cons] at hle;have hn:=iK.head;have iK:=iK.tail;have MO:=hi n (List.mem_of_getElem? hn);have gD:=jR hn;have J0:=tR MO;have Lb:=l5.1;have mT:=bu.jw ks;refine Ev.iY rfl QY rfl rfl rfl ?_;dsimp only[u3,u4,List.length,Nat.reduceSub,Nat.reduceAdd,w1,w2];have ck:=hH;have hH:=hH.cn;have ch:(ai .rw s0).bs=s0.bs:=rfl;generalize ai .rw s0=S2 at*;have hc:=hd.arg N S2;refine qq<|qj fun K hK=>qm ?_;refine qe hK<|qq<|qj fun K hK=>qm ?_;refine qm ?_;refine qr fun Tt Pm=>?_;refine ab.dE rfl (ev rfl) (by assumption) rfl (by dsimp only[Fr.put,u1,u2]<;>rfl) ?_;refine qa hH fun k7 st Sq hH=>?_;refine ab.sc hH rfl (ev rfl) (ev rfl) (by rfl) (by exact rfl) (by exact ay) (by exact rfl) (by exact .inr (by assumption)) (fun st hH=>?_);dsimp only[u2,u1,u3,u4,setMany,u5,u6,D.cells,Nat.reduceAdd,aX,aw] at hH;refine qe hK<|qq<|qj fun K hK=>qm ?_;refine qA ?_;refine qm ?_;refine qe hK<|qq<|qj fun K hK=>qm ?_;refine qe hK<|qq<|qq<|qj fun K hK=>qp (o:=6) ?_;refine ql hH ay ?_;refine qm ?_;refine qe hK<|af.block<|af.loop (fun mm fr st=>∃(i j ss:Nat) (rest:bu) (mV:List Int),fr.clean=⟨36,[d,out,.int .i64 (at_:Nat),aL fr 3,aL fr 4,aL fr 5,.int .i64 0,.ptr k7 0 0,.int .i64 (j:Nat),.int .i64 ((min ss 401:Nat):Int),aL fr 10,aL fr 11,aL fr 12,aL fr 13,aL fr 14,aL fr 15,aL fr 16,aL fr 17,.int .i64 n.kids,.int .i64 (i:Nat),aL fr 20,aL fr 21,aL fr 22,aL fr 23,aL fr 24,aL fr 25,aL fr 26,aL fr 27,aL fr 28,aL fr 29,aL fr 30,aL fr 31,aL fr 32,aL fr 33,aL fr 34,aL fr 35],[]⟩∧Has N S2 st (.aJ out 1 (mV.map aw)::.box k7 (.mem 0 false (aX n))::H)∧(mm=rest.len)∧(i+rest.len=ks.len)∧(eL l j rest.flat)∧(rest.ok)∧(ss+rest.sz=ks.sz)∧(mV.length=l.length)∧(lC mV j rest.zs=lC es (at_+1) ks.zs)∧(j+rest.flat.length=at_+1+ks.flat.length)∧(rest.flat.length≤m)) (ks.len) ?_ ?_
  ·exact⟨0,at_+1,0,ks,es,rfl,(by have:=hH.front b5;exact this),rfl,by omega,iK,kD,by omega,oz,rfl,rfl,by omega⟩
  rintro mm fr st ⟨i,j,ss,rest,mV,hfr,hH,vX,yM,mR,i_,zi,wa,sf,hj,JZ⟩;rw[hfr];clear hfr;generalize aL fr=ee;clear fr;refine qq<|qj fun K hK=>qg ?_;refine qe hK ?_
  cases rest with
  |nil=>
   simp only[bu.len] at yM;simp only[bu.sz] at zi;simp only[bu.flat,List.length_nil] at hj;simp only[bu.zs,wZ] at sf;have gE:decide ((i:Int)<n.kids)=false:=by rw[decide_eq_false_iff_not];omega
   refine qq<|qE rfl (by rw[gE]) ?_;refine af.exit ?_;obtain rfl:ss=ks.sz:=by omega
   have iK:=mR;refine qq<|qq<|qj fun K hK=>qp (o:=0) ?_;refine ql hH b5 ?_;refine qe hK<|af.merge (fun fr st=>∃(tmp:List (Nat×D)),fr=⟨36,[d,out,.int .i64 (at_:Nat),aL fr 3,aL fr 4,aL fr 5,.int .i64 0,.ptr k7 0 0,.int .i64 (j:Nat),.int .i64 ((bD n (min ks.sz 401) ks.len:Nat):Int),aL fr 10,aL fr 11,aL fr 12,aL fr 13,aL fr 14,aL fr 15,aL fr 16,aL fr 17,aL fr 18,aL fr 19,aL fr 20,aL fr 21,aL fr 22,aL fr 23,aL fr 24,aL fr 25,aL fr 26,aL fr 27,aL fr 28,aL fr 29,aL fr 30,aL fr 31,aL fr 32,aL fr 33,aL fr 34,aL fr 35],tmp⟩∧Has N S2 st (.aJ out 1 (mV.map aw)::.box k7 (.mem 0 false (aX n))::H)) ?_ ?_
   ·refine af.block<|qq<|qq<|qj fun K hK=>qg ?_;refine qm ?_;refine qe hK ?_;generalize hw:min ks.sz 401=w;have OG:w≤401:=by omega
    have gM:ks.len≤9223372036854775→True:=fun _=>trivial
    by_cases q2:n.op=2
    ·have hz:bD n w ks.len=1:=by unfold bD;rw[if_pos (.inl q2)]
     rw[hz];refine qD rfl (by simp[q2]) ?_;refine af.skip<|qD rfl (by simp[q2]) ?_;refine qj fun K hK=>qm ?_;refine qe hK ?_;exact⟨_,rfl,hH⟩
    refine qE rfl (by simp[q2]) ?_;refine qq<|qj fun K hK=>qg ?_;refine qm ?_;refine qe hK ?_
    by_cases q7:n.op=7
    ·have hz:bD n w ks.len=1:=by unfold bD;rw[if_pos (.inr (.inl q7))]
     rw[hz];refine qD rfl (by simp[q7]) ?_;refine af.skip<|qD rfl (by simp[q7]) ?_;refine qj fun K hK=>qm ?_;refine qe hK ?_;exact⟨_,rfl,hH⟩
    refine qE rfl (by simp[q7]) ?_;refine qj fun K hK=>qg ?_;refine qm ?_;refine qe hK ?_
    by_cases q8:n.op=8
    ·have hz:bD n w ks.len=1:=by unfold bD;rw[if_pos (.inr (.inr q8))]
     rw[hz];refine qD rfl (by simp[q8]) ?_;refine qj fun K hK=>qm ?_;refine qe hK ?_;exact⟨_,rfl,hH⟩
    refine qE rfl (by simp[q8]) ?_
    have hz0:bD n w ks.len=if n.op=4 then w+2*(ks.len-1) else if n.op=6 then w+2 else if n.op=5 then(if n.mx=-1 then n.mn.toNat*w+w+2 else n.mn.toNat*w+(n.mx.toNat-n.mn.toNat)*(w+1)) else w:=by
     unfold bD;rw[if_neg (by omega)]
    rw[hz0];clear hz0;obtain⟨_,hY⟩:=l5;have hq:(n.op=1∧ks.len=0)∨((n.op=3∨n.op=4)∧2≤ks.len)∨(n.op=5∧ks.len=1∧0≤n.mn∧n.mn≤30∧(n.mx=-1∨(n.mn≤n.mx∧n.mx≤30)))∨(n.op=6∧ks.len=1∧1≤n.cap∧n.cap≤4):=by omega
    refine qq<|qj fun K hK=>qg ?_;refine qm ?_;refine qe hK ?_
    by_cases q4:n.op=4
    ·rw[if_pos q4];have hk2:2≤ks.len:=by omega
     refine qD rfl (by simp[q4]) ?_;refine qj fun K hK=>qm ?_;refine qp (o:=6) ?_;refine ql hH b5 ?_;refine ab.mN (z:=((ks.len-1:Nat):Int)) rfl (ev rfl) (ev rfl) (by(try simp only[List.length_reverse,List.length_cons,List.length_nil,List.length_append,List.length_map,List.length_set]);rw[wrap_i64 (by omega) (by omega)]<;>omega) (ag rfl _) ?_;refine ab.vK (z:=((2*(ks.len-1):Nat):Int)) rfl (ev rfl) (ev rfl) (by(try simp only[List.length_reverse,List.length_cons,List.length_nil,List.length_append,List.length_map,List.length_set]);rw[wrap_i64 (by omega) (by omega)]<;>omega) (ag rfl _) ?_;refine ab.ka (z:=((w+2*(ks.len-1):Nat):Int)) rfl (ev rfl) (ev rfl) (by(try simp only[List.length_reverse,List.length_cons,List.length_nil,List.length_append,List.length_map,List.length_set]);rw[wrap_i64 (by omega) (by omega)]<;>omega) (ag rfl _) ?_;refine qm ?_;refine qe hK ?_;exact⟨_,rfl,hH⟩
    rw[if_neg q4];refine qE rfl (by simp[q4]) ?_;refine qq<|qj fun K hK=>qg ?_;refine qm ?_;refine qe hK ?_
    by_cases q6:n.op=6
    ·rw[if_pos q6];refine qD rfl (by simp[q6]) ?_;refine qj fun K hK=>qm ?_;refine qA ?_;refine qm ?_;refine qe hK ?_;exact⟨_,rfl,hH⟩
    rw[if_neg q6];refine qE rfl (by simp[q6]) ?_;refine qq<|qj fun K hK=>qg ?_;refine qm ?_;refine qe hK ?_
    by_cases q5:n.op=5
    ·rw[if_pos q5];refine qD rfl (by simp[q5]) ?_;refine qq<|qj fun K hK=>qp (o:=3) ?_;refine ql hH b5 ?_;refine qg ?_;refine qe hK ?_;have zk:0≤n.mn∧n.mn≤30∧(n.mx=-1∨(n.mn≤n.mx∧n.mx≤30)):=by omega
     obtain⟨a,ha⟩:∃a:Nat,n.mn=(a:Int):=Int.eq_ofNat_of_zero_le zk.1;have Sf:n.mn.toNat=a:=by omega
     have h1:a*w≤30*401:=Nat.mul_le_mul (by omega) OG;have hmul:n.mn*(w:Int)=((a*w:Nat):Int):=by rw[ha];push_cast;rfl
     rw[Sf]
     by_cases zT:n.mx=-1
     ·rw[if_pos zT];refine qD rfl (by simp[zT]) ?_;refine qj fun K hK=>qp (o:=2) ?_;refine ql hH b5 ?_;refine qm ?_;refine ab.vK (z:=((a*w:Nat):Int)) rfl (ev rfl) (ev rfl) (by(try simp only[List.length_reverse,List.length_cons,List.length_nil,List.length_append,List.length_map,List.length_set]);rw[wrap_i64 (by omega) (by omega)]<;>omega) (ag rfl _) ?_;refine qm ?_;refine ab.ka (z:=((a*w+w:Nat):Int)) rfl (ev rfl) (ev rfl) (by(try simp only[List.length_reverse,List.length_cons,List.length_nil,List.length_append,List.length_map,List.length_set]);rw[wrap_i64 (by omega) (by omega)]<;>omega) (ag rfl _) ?_;refine ab.ka (z:=((a*w+w+2:Nat):Int)) rfl (ev rfl) (ev rfl) (by(try simp only[List.length_reverse,List.length_cons,List.length_nil,List.length_append,List.length_map,List.length_set]);rw[wrap_i64 (by omega) (by omega)]<;>omega) (ag rfl _) ?_;refine qm ?_;refine qe hK ?_;exact⟨_,rfl,hH⟩
     ·rw[if_neg zT];obtain⟨b,hb⟩:∃b:Nat,n.mx=(b:Int):=Int.eq_ofNat_of_zero_le (by omega);have TO:n.mx.toNat=b:=by omega
      have h2:(b-a)*(w+1)≤30*402:=Nat.mul_le_mul (by omega) (by omega);rw[TO];refine qE rfl (by simp[zT]) ?_;refine qj fun K hK=>qp (o:=2) ?_;refine ql hH b5 ?_;refine qm ?_;refine ab.vK (z:=((a*w:Nat):Int)) rfl (ev rfl) (ev rfl) (by(try simp only[List.length_reverse,List.length_cons,List.length_nil,List.length_append,List.length_map,List.length_set]);rw[wrap_i64 (by omega) (by omega)]<;>omega) (ag rfl _) ?_;refine qp (o:=3) ?_;refine ql hH b5 ?_;refine qp (o:=2) ?_;refine ql hH b5 ?_;refine ab.mN (z:=((b-a:Nat):Int)) rfl (ev rfl) (ev rfl) (by(try simp only[List.length_reverse,List.length_cons,List.length_nil,List.length_append,List.length_map,List.length_set]);rw[wrap_i64 (by omega) (by omega)]<;>omega) (ag rfl _) ?_;refine qm ?_;refine ab.ka (z:=((w+1:Nat):Int)) rfl (ev rfl) (ev rfl) (by(try simp only[List.length_reverse,List.length_cons,List.length_nil,List.length_append,List.length_map,List.length_set]);rw[wrap_i64 (by omega) (by omega)]<;>omega) (ag rfl _) ?_;refine ab.vK (z:=(((b-a)*(w+1):Nat):Int)) rfl (ev rfl) (ev rfl) (by(try simp only[List.length_reverse,List.length_cons,List.length_nil,List.length_append,List.length_map,List.length_set]);rw[wrap_i64 (by omega) (by omega)]<;>omega) (ag rfl _) ?_;refine ab.ka (z:=((a*w+(b-a)*(w+1):Nat):Int)) rfl (ev rfl) (ev rfl) (by(try simp only[List.length_reverse,List.length_cons,List.length_nil,List.length_append,List.length_map,List.length_set]);rw[wrap_i64 (by omega) (by omega)]<;>omega) (ag rfl _) ?_;refine qm ?_;refine qe hK ?_;exact⟨_,rfl,hH⟩
    ·rw[if_neg q5];refine qE rfl (by simp[q5]) ?_;refine af.skip ?_;exact⟨_,rfl,hH⟩
   ·rintro fr st ⟨tmp,hfr,hH⟩;rw[hfr];clear hfr;generalize aL fr=ee;clear fr;have j6:=FL (n:=n) (k:=ks.len) (s:=ks.sz);have gN:at_<mV.length:=by omega
    obtain⟨w,hw⟩:∃w,mV[at_]?=some w:=⟨mV[at_]'gN,List.getElem?_eq_getElem _⟩
    have TZ:=eO hw;refine qq<|qj fun K hK=>qm ?_;refine qm ?_;refine qm ?_;refine ab.L5 (z:=((min (bD n ks.sz ks.len) 401:Nat):Int)) (t1:=_) (t2:=_) rfl (ev rfl) (ev rfl) (by omega) (ag rfl _) ?_;refine qi hH ay fun Te O9=>?_;refine ab.lO hH rfl (ev rfl) (ev rfl) (by assumption) rfl rfl (by exact ay) (by assumption) (Nat.le_of_ble_eq_true rfl) (by exact .inr rfl) (fun st hH=>?_);dsimp only[u2,u1,u3,u4,setMany,u5,u6,D.cells,Nat.reduceAdd,aX,aw] at hH;refine qe hK<|qq<|qj fun K hK=>qm ?_;refine qm ?_;refine qe hK<|af.ret ⟨rx,_,_,_,rfl,aj (rfl),?_⟩;have PC:j=at_+(Tr.mk n ks).flat.length:=by simp only[Tr.flat,List.length_cons];omega
    refine⟨by rw[PC];rfl,?_⟩
    have fu:lC es at_ (Tr.zs (.mk n ks))=mV.set at_ ((min (bD n ks.sz ks.len) 401:Nat):Int):=by
     rw[sf,wY (by rw[bu.gT];omega)];rfl
    rw[fu,List.map_set];exact ck.ud ch (hH.erase 1)
  |cons t ts=>
   simp only[bu.len] at yM vX;simp only[bu.sz] at zi;simp only[bu.flat,List.length_append] at hj mR JZ;simp only[bu.zs] at sf;simp only[bu.ok] at i_;have gE:decide ((i:Int)<n.kids)=true:=by rw[decide_eq_true_eq];omega
   have OM:=t.gr;have JR:=t.gT;have Mf:=ts.gT;have Kl:(lC mV j t.zs).length=l.length:=by rw[w5 (by omega)];exact wa
   have TA:(lC mV j t.zs)[j]?=some ((min t.sz 401:Nat):Int):=by
    obtain⟨n',Mc⟩:=t;simp only[Tr.zs,Tr.sz];exact B9 (by omega)
   have WR:=eO TA;refine qq<|qD rfl (by rw[gE]) ?_;refine af.skip<|qq<|af.block<|qq<|qj fun K hK=>qm ?_;refine qm ?_;refine qe hK<|qq<|qj fun K hK=>qm ?_;refine qm ?_;refine qm ?_;obtain⟨_,st,aH,rfl,hH⟩:=ih t (by omega) i_.1 mR.left wa hH;refine qv aH ?_;refine qm ?_;refine qe hK<|qj fun K hK=>qm ?_;refine qm ?_;refine qm ?_;refine qi hH ay fun Tm Pf=>?_;refine qo hH ay ?_;refine ab.ka (z:=((min ss 401+min t.sz 401:Nat):Int)) rfl (ev rfl) (ev rfl) (by(try simp only[List.length_reverse,List.length_cons,List.length_nil,List.length_append,List.length_map,List.length_set]);rw[wrap_i64 (by omega) (by omega)]<;>omega) (by dsimp only[Fr.put,u1,u2]<;>rfl) ?_;refine ab.L5 (z:=((min (ss+t.sz) 401:Nat):Int)) (t1:=_) (t2:=_) rfl (ev rfl) (ev rfl) (by omega) (by dsimp only[Fr.put,u1,u2]<;>rfl) ?_;refine qm ?_;refine qe hK<|qj fun K hK=>qA ?_;refine qm ?_;refine qe hK ?_;exact⟨mm-1,by omega,⟨i+1,j+t.flat.length,ss+t.sz,ts,lC mV j t.zs,rfl,hH,by omega,by omega,mR.right,i_.2,by omega,Kl,by rw[←sf];have:=wX (es:=mV) (a:=j) (M:=t.zs) (M':=ts.zs) (by omega);rw[JR] at this;exact this,by omega,by omega⟩⟩
theorem FD {l:List c_} {d:D} (hl:l.length≤1048576) (hi:∀n∈l,n.ok) (hd:fK d 7 (l.map aX)):∀(m:Nat) (t:Tr),t.flat.length≤m→t.ok→∀{N:Nat} {S s0:St} {H:List bC} {out:D} {es:List Int} {at_:Nat},eL l at_ t.flat→es.length=l.length→Has N S s0 (.aJ out 1 (es.map aw)::H)→
  ∃r ah,Ev pv 41 [d,out,.int .i64 (at_:Nat)] s0 r ah∧r=.int .i64 ((at_+t.flat.length:Nat):Int)∧Has N S ah (.aJ out 1 ((lC es at_ (t.es at_)).map aw)::H):=by
 intro m
 induction m with
 |zero=>intro t h;have:=t.gr;omega
 |succ m ih=>
  rintro⟨n,ks⟩ hm a_ N S s0 H out es at_ iK oz hH;simp only[Tr.ok] at a_;obtain⟨l5,kD⟩:=a_;simp only[Tr.flat,List.length_cons] at hm;have hle:=iK.le (by simp[Tr.flat]);simp only[Tr.flat] at iK hle;simp only[List.length_cons] at hle;have hn:=iK.head;have iK:=iK.tail;have MO:=hi n (List.mem_of_getElem? hn);have gD:=jR hn;have Lb:=l5.1;have mT:=bu.jw ks;refine Ev.iY rfl QX rfl rfl rfl ?_;dsimp only[u3,u4,List.length,Nat.reduceSub,Nat.reduceAdd,w1,w2];have ck:=hH;have hH:=hH.cn;have ch:(ai .rw s0).bs=s0.bs:=rfl;generalize ai .rw s0=S2 at*;have hc:=hd.arg N S2;refine qq<|qj fun K hK=>qm ?_;refine qe hK<|qq<|qj fun K hK=>qm ?_;refine qA ?_;refine qm ?_;refine qe hK<|qq<|qq<|qj fun K hK=>qm ?_;refine qm ?_;refine qr fun R5 MI=>?_;refine qf (fo:=6) fun Tt Pm=>?_;refine qR ?_;refine qm ?_;refine qe hK<|af.block<|af.loop (fun mm fr st=>∃(i j:Nat) (rest:bu) (mV:List Int),fr.clean=⟨16,[d,out,.int .i64 (at_:Nat),aL fr 3,aL fr 4,aL fr 5,.int .i64 0,.int .i64 (j:Nat),aL fr 8,aL fr 9,aL fr 10,aL fr 11,aL fr 12,aL fr 13,.int .i64 n.kids,.int .i64 (i:Nat)],[]⟩∧Has N S2 st (.aJ out 1 (mV.map aw)::H)∧(mm=rest.len)∧(i+rest.len=ks.len)∧(eL l j rest.flat)∧(rest.ok)∧(mV.length=l.length)∧(lC mV j (rest.es j)=lC es (at_+1) (ks.es (at_+1)))∧(j+rest.flat.length=at_+1+ks.flat.length)∧(rest.flat.length≤m)) (ks.len) ?_ ?_
  ·exact⟨0,at_+1,ks,es,rfl,hH,rfl,by omega,iK,kD,oz,rfl,rfl,by omega⟩
  rintro mm fr st ⟨i,j,rest,mV,hfr,hH,vX,yM,mR,i_,wa,sf,hj,JZ⟩;rw[hfr];clear hfr;generalize aL fr=ee;clear fr;refine qq<|qj fun K hK=>qg ?_;refine qe hK ?_
  cases rest with
  |nil=>
   simp only[bu.len] at yM;simp only[bu.flat,List.length_nil] at hj;simp only[bu.es,wZ] at sf;have gE:decide ((i:Int)<n.kids)=false:=by rw[decide_eq_false_iff_not];omega
   have gN:at_<mV.length:=by omega
   obtain⟨w,hw⟩:∃w,mV[at_]?=some w:=⟨mV[at_]'gN,List.getElem?_eq_getElem _⟩
   have TZ:=eO hw;refine qq<|qE rfl (by rw[gE]) ?_;refine af.exit<|qq<|qj fun K hK=>qm ?_;refine qm ?_;refine qm ?_;refine qi hH ay fun LW AR=>?_;refine ab.lO hH rfl (ev rfl) (ev rfl) (by assumption) rfl rfl (by exact ay) (by assumption) (Nat.le_of_ble_eq_true rfl) (by exact .inr rfl) (fun st hH=>?_);dsimp only[u2,u1,u3,u4,setMany,u5,u6,D.cells,Nat.reduceAdd,aX,aw] at hH;refine qe hK<|qq<|qj fun K hK=>qm ?_;refine qm ?_;refine qe hK<|af.ret ⟨rx,_,_,_,rfl,aj (rfl),?_⟩;have PC:j=at_+(Tr.mk n ks).flat.length:=by simp only[Tr.flat,List.length_cons];omega
   refine⟨by rw[PC];rfl,?_⟩
   have fu:lC es at_ (Tr.es (.mk n ks) at_)=mV.set at_ ((j:Nat):Int):=by
    rw[sf,wY (by rw[bu.g_];omega)];have:j=at_+1+ks.flat.length:=by omega
    rw[this];rfl
   rw[fu,List.map_set];exact ck.ud ch hH
  |cons t ts=>
   simp only[bu.len] at yM vX;simp only[bu.flat,List.length_append] at hj mR JZ;simp only[bu.es] at sf;simp only[bu.ok] at i_;have gE:decide ((i:Int)<n.kids)=true:=by rw[decide_eq_true_eq];omega
   have OM:=t.gr;have JR:=t.g_ j;have Mf:=ts.g_ (j+t.flat.length);have Kl:(lC mV j (t.es j)).length=l.length:=by rw[w5 (by omega)];exact wa
   refine qq<|qD rfl (by rw[gE]) ?_;refine af.skip<|qq<|af.block<|qj fun K hK=>qm ?_;refine qm ?_;refine qm ?_;obtain⟨_,st,aH,rfl,hH⟩:=ih t (by omega) i_.1 mR.left wa hH;refine qv aH ?_;refine qm ?_;refine qe hK<|qj fun K hK=>qA ?_;refine qm ?_;refine qe hK ?_;exact⟨mm-1,by omega,⟨i+1,j+t.flat.length,ts,lC mV j (t.es j),rfl,hH,by omega,by omega,mR.right,i_.2,Kl,by rw[←sf];have:=wX (es:=mV) (a:=j) (M:=t.es j) (M':=ts.es (j+t.flat.length)) (by omega);rw[JR] at this;exact this,by omega,by omega⟩⟩
theorem fw {N k:Nat} {S s0:St} {H:List bC} {ks:Nat→Prop} {cd nd zd ed w:D} {code:List aG} {op x y:Int} {rs:List Rg} (hF:S.flr≤N) (hl:code.length≤1048576) (hH:Has N S s0 (.aJ w 2 (rs.map au)::.box k (.mem 0 false [cd,nd,zd,ed])::.deep ks cd 4 (code.map aM)::H)):
  ∃r ah,Ev pv 42 [.ptr k 0 0,.agg [.int .i64 op,.int .i64 x,.int .i64 y,w]] s0 r ah∧r=.int .i64 (code.length:Nat)∧∃SN Mc,Has N S ah (.box k (.mem 0 false [SN,nd,zd,ed])::.deep Mc SN 4 ((code++[cH op x y rs]).map aM)::H):=by
 refine Ev.iY rfl QW rfl rfl rfl ?_;dsimp only[u3,u4,List.length,Nat.reduceSub,Nat.reduceAdd,w1,w2];change af _ _ _ _ s0 _;refine qq<|qj fun K hK=>qb hH fun k3 st NZ hH=>?_;refine qm ?_;refine qe hK<|qq<|qj fun K hK=>qm ?_;refine qm ?_;refine qg ?_;refine qp (o:=0) ?_;refine ql hH eV ?_;refine ab.bN (m:=4) hH rfl (ev rfl) (by exact ay) (by dsimp only[List.drop_succ_cons,List.drop_zero,List.take_succ_cons,List.take_zero,aM]<;>rfl) rfl rfl (ag rfl _) ?_;refine qh (s:=4) (vs:=[_]) hH fun k11 st M4 hH=>?_;obtain⟨hH,Ng⟩:=hH.wO (i:=2) (j:=4) (by decide) eV gw (dF _);dsimp only[u1,u2] at hH;refine ab.kZ hH rfl (ev rfl) (ev rfl) gw (hH.rows ay) (.cons (.cons (.plain _ rfl) (.cons (.plain _ rfl) (.cons (.plain _ rfl) (.cons Ng .nil)))) .nil) rfl rfl rfl rfl rfl rfl rfl ⟨(Nat.le_of_ble_eq_true rfl),(Nat.le_of_ble_eq_true rfl)⟩ (fun _=>(ag rfl _)) (by simp only[List.length_map,List.length_cons,List.length_nil];omega) (.inl hF) (fun V' st hH=>?_);dsimp only[u1,u2] at hH;refine qg ?_;refine qp (o:=0) ?_;refine ab.ow hH rfl (ev rfl) (ev rfl) (by exact hH.sO (by exact gw)) (by exact rfl) (by exact gG) (by exact Nat.le_of_ble_eq_true rfl) (by exact .inl hF) (fun st hH=>?_);dsimp only[u2,u1,u3,u4,setMany,u5,u6,D.cells,Nat.reduceAdd,aM] at hH;refine qe hK<|qq<|qj fun K hK=>qm ?_;refine qg ?_;refine qp (o:=0) ?_;refine ql hH gG ?_;refine ab.y4 hH rfl (ev rfl) (by exact gw) rfl (ag rfl _) ?_;simp only[List.length_map,List.length_append,List.length_cons,List.length_nil];refine ab.mN (z:=((code.length:Nat):Int)) rfl (ev rfl) (ev rfl) (by(try simp only[List.length_reverse,List.length_cons,List.length_nil,List.length_append,List.length_map,List.length_set]);rw[wrap_i64 (by omega) (by omega)]<;>omega) (ag rfl _) ?_;refine qm ?_;refine qe hK<|af.ret ⟨rx,_,_,_,rfl,rfl,?_⟩;exact⟨rfl,_,_,by rw[List.map_append];exact hH.drop 3⟩
theorem nC {N k:Nat} {S s0:St} {H:List bC} {ks:Nat→Prop} {cd nd zd ed:D} {code:List aG} {at_ over:Nat} {lz:Bool} {x y:Int} (gN:code[at_]?=some (cH 2 x y [])) (hl:code.length≤1048576) (hH:Has N S s0 (.box k (.mem 0 false [cd,nd,zd,ed])::.deep ks cd 4 (code.map aM)::H)):
  ∃r ah,Ev pv 74 [.ptr k 0 0,.int .i64 (at_:Nat),.int .i64 (over:Nat),.bool lz] s0 r ah∧r=.tup []∧Has N S ah (.box k (.mem 0 false [cd,nd,zd,ed])::.deep ks cd 4 ((code.set at_ (lG at_ over lz)).map aM)::H):=by
 have hlt:=bt gN;have gD:(code.map aM)[at_]?=some [.int .i64 2,.int .i64 x,.int .i64 y,.sl []]:=gK gN;have fu:∀a b:List D,(code.map aM).set at_ a=(code.map aM).set at_ a:=fun _ _=>rfl;refine Ev.iY rfl QA rfl rfl rfl ?_;dsimp only[u3,u4,List.length,Nat.reduceSub,Nat.reduceAdd,w1,w2];have ck:=hH;have hH:=hH.cn;have ch:(ai .rw s0).bs=s0.bs:=rfl;generalize ai .rw s0=S2 at*;refine qq<|qj fun K hK=>qm ?_;refine qg ?_;refine qp (o:=0) ?_;refine ql hH ay ?_;refine qm ?_;refine qm ?_;refine qg ?_;refine qp (o:=0) ?_;refine ql hH ay ?_;refine qm ?_;refine qm ?_;refine ab.ka (z:=((at_+1:Nat):Int)) rfl (ev rfl) (ev rfl) (by(try simp only[List.length_reverse,List.length_cons,List.length_nil,List.length_append,List.length_map,List.length_set]);rw[wrap_i64 (by omega) (by omega)]<;>omega) (ag rfl _) ?_;refine qm ?_;refine ab.Bl (s:=4) hH rfl (ev rfl) (ev rfl) (by exact b5) rfl rfl (by exact bt (by assumption)) (fun _=>(ag rfl _)) (fun Oj J5=>?_);refine ab.fY (fo:=1) (m:=0) (o2:=1) rfl (ev rfl) (by assumption) rfl rfl rfl (fun _=>(ag rfl _)) (fun Oi J4=>?_);refine ab.oN hH rfl (ev rfl) (ev rfl) (by assumption) rfl rfl (by exact b5) (by assumption) (Nat.le_of_ble_eq_true rfl) (by intro d hd;simp only[List.mem_cons,List.not_mem_nil,or_false] at hd;subst hd;rfl) (by exact .inr rfl) (fun st hH=>?_);dsimp only[u2,u1,u3,u4,setMany,u5,u6,D.cells,Nat.reduceAdd,aM] at hH;refine ab.Bl (s:=4) hH rfl (ev rfl) (ev rfl) (by exact b5) rfl rfl (by simp only[List.length_map,List.length_set]<;>omega) (fun _=>(ag rfl _)) (fun R3 MF=>?_);refine ab.fY (fo:=2) (m:=0) (o2:=2) rfl (ev rfl) (by assumption) rfl rfl rfl (fun _=>(ag rfl _)) (fun LX AS=>?_);refine ab.oN hH rfl (ev rfl) (ev rfl) (by assumption) rfl rfl (by exact b5) (List.getElem?_set_self (by simp only[List.length_set,List.length_map];omega)) (Nat.le_of_ble_eq_true rfl) (by intro d hd;simp only[List.mem_cons,List.not_mem_nil,or_false] at hd;subst hd;rfl) (by exact .inr rfl) (fun st hH=>?_);dsimp only[u1,u2,setMany] at hH;rw[List.set_set] at hH;refine qe hK<|qq<|qj fun K hK=>qm ?_;refine qe hK ?_
 cases lz with
 |false=>
  refine qC ?_;refine af.skip ?_;refine⟨fun i h=>(by cases h),_,_,_,rfl,aj rfl,?_⟩;exact⟨rfl,by rw[List.map_set];exact ck.ue ch hH⟩
 |true=>
  refine qB ?_;refine qj fun K hK=>qm ?_;refine qg ?_;refine qp (o:=0) ?_;refine ql hH ay ?_;refine qm ?_;refine qm ?_;refine qg ?_;refine qp (o:=0) ?_;refine ql hH ay ?_;refine qm ?_;refine qm ?_;refine qm ?_;refine ab.ka (z:=((at_+1:Nat):Int)) rfl (ev rfl) (ev rfl) (by(try simp only[List.length_reverse,List.length_cons,List.length_nil,List.length_append,List.length_map,List.length_set]);rw[wrap_i64 (by omega) (by omega)]<;>omega) (ag rfl _) ?_;refine ab.Bl (s:=4) hH rfl (ev rfl) (ev rfl) (by exact b5) rfl rfl (by simp only[List.length_map,List.length_set]<;>omega) (fun _=>(ag rfl _)) (fun Tj Pb=>?_);refine ab.fY (fo:=1) (m:=0) (o2:=1) rfl (ev rfl) (by assumption) rfl rfl rfl (fun _=>(ag rfl _)) (fun Ti Pa=>?_);refine ab.oN hH rfl (ev rfl) (ev rfl) (by assumption) rfl rfl (by exact b5) (List.getElem?_set_self (by simp only[List.length_set,List.length_map];omega)) (Nat.le_of_ble_eq_true rfl) (by intro d hd;simp only[List.mem_cons,List.not_mem_nil,or_false] at hd;subst hd;rfl) (by exact .inr rfl) (fun st hH=>?_);dsimp only[u1,u2,setMany] at hH;rw[List.set_set] at hH;refine ab.Bl (s:=4) hH rfl (ev rfl) (ev rfl) (by exact b5) rfl rfl (by simp only[List.length_map,List.length_set]<;>omega) (fun _=>(ag rfl _)) (fun WC Uq=>?_);refine ab.fY (fo:=2) (m:=0) (o2:=2) rfl (ev rfl) (by assumption) rfl rfl rfl (fun _=>(ag rfl _)) (fun WB Up=>?_);refine ab.oN hH rfl (ev rfl) (ev rfl) (by assumption) rfl rfl (by exact b5) (List.getElem?_set_self (by simp only[List.length_set,List.length_map];omega)) (Nat.le_of_ble_eq_true rfl) (by intro d hd;simp only[List.mem_cons,List.not_mem_nil,or_false] at hd;subst hd;rfl) (by exact .inr rfl) (fun st hH=>?_);dsimp only[u1,u2,setMany] at hH;rw[List.set_set] at hH;refine qe hK ?_;refine⟨fun i h=>(by cases h),_,_,_,rfl,aj rfl,?_⟩;exact⟨rfl,by rw[List.map_set];exact ck.ue ch hH⟩
def aq (fr:Go.V.Fr) (k:Nat):Go.V.D:=Go.V.nth .bp fr.loc k
def jq (n:Nat):List D:=[.int .i64 (n:Nat)]
theorem tU {l:List Nat} {i q:Nat} (h:l[i]?=some q):(l.map jq)[i]?=some (jq q):=by rw[List.getElem?_map,h];rfl
def Lg (N:Nat) (S st:St) (k:Nat) (nd zd ed:D) (Z E:List Int) (H:List bC) (code:List aG):Prop:=
 ∃cd ks,Has N S st (.box k (.mem 0 false [cd,nd,zd,ed])::.deep ks cd 4 (code.map aM)::.aJ zd 1 (Z.map aw)::.aJ ed 1 (E.map aw)::H)
def oZ (l:List c_) (t:Tr):Prop:=∀{N k:Nat} {S s0:St} {H:List bC} {nd zd ed:D} {code:List aG} {Z E:List Int} {at_:Nat},S.flr≤N→fK nd 7 (l.map aX)→eL l at_ t.flat→eL Z at_ t.zs→eL E at_ (t.es at_)→t.ok→code.length+t.sz≤1000000→Lg N S s0 k nd zd ed Z E H code→
 ∃r ah,Ev pv 43 [.ptr k 0 0,.int .i64 (at_:Nat)] s0 r ah∧r=.tup []∧Lg N S ah k nd zd ed Z E H (code++aO t code.length)
theorem xK {E:List Int} {t:Tr} {a:Nat} (h:eL E a (t.es a)):E[a]?=some ((a+t.flat.length:Nat):Int):=by
 obtain⟨n,ks⟩:=t;simp only[Tr.es] at h;rw[h.head];simp only[Tr.flat,List.length_cons]
 congr 2;omega
theorem wS {Z:List Int} {t:Tr} {a:Nat} (h:eL Z a t.zs):Z[a]?=some ((min t.sz 401:Nat):Int):=by
 obtain⟨n,ks⟩:=t;simp only[Tr.zs] at h;rw[h.head];rfl
theorem KW {l:List c_} (vc:l.length≤1048576) {m:Nat} (ih:∀t:Tr,t.flat.length≤m→oZ l t) {n:c_} {ks:bu} (eU:n.op=4) (Sp:ks.flat.length≤m) (l5:tS n ks.len) (kD:ks.ok) {N k:Nat} {S s0:St} {H:List bC} {nd zd ed:D} {code:List aG} {Z E:List Int} {at_:Nat} (hF:S.flr≤N) (vW:fK nd 7 (l.map aX)) (iV:eL l at_ (n::ks.flat)) (hsz:eL Z (at_+1) ks.zs) (sX:eL E (at_+1) (ks.es (at_+1))) (hb:code.length+bD n ks.sz ks.len≤1000000) (hM:Lg N S s0 k nd zd ed Z E H code):
  ∃r ah,Ev pv 65 [.ptr k 0 0,.int .i64 (at_:Nat)] s0 r ah∧r=.tup []∧Lg N S ah k nd zd ed Z E H (code++dP (kR (code.length+bD n ks.sz ks.len)) ks code.length):=by
 obtain⟨cd,dk,hH⟩:=hM;have hle:=iV.le (by simp);simp only[List.length_cons] at hle;have hn:=iV.head;have iV:=iV.tail;have gD:=jR hn;have Lb:=l5.1;have gM:=bu.jw ks
 have hk2:2≤ks.len:=by
  obtain⟨_,hq⟩:=l5;omega
 have Fm:bD n ks.sz ks.len=ks.sz+2*(ks.len-1):=by unfold bD;rw[if_neg (by omega),if_pos eU]
 rw[Fm] at hb⊢;clear Fm;refine Ev.iY rfl QH rfl rfl rfl ?_;dsimp only[u3,u4,List.length,Nat.reduceSub,Nat.reduceAdd,w1,w2];change af _ _ _ _ s0 _;have hc:=vW.arg N S;refine qq<|qj fun K hK=>qm ?_;refine qe hK<|qq<|qj fun K hK=>qm ?_;refine qA ?_;refine qm ?_;refine qe hK<|qq<|qq<|qj fun K hK=>qm ?_;refine qg ?_;refine qp (o:=1) ?_;refine ql hH ay ?_;refine qm ?_;refine qr fun Tp Pk=>?_;refine qf (fo:=6) fun R4 MG=>?_;refine qR ?_;refine qm ?_;refine qe hK ?_;have hH:Has N S s0 (.box k (.mem 0 false [cd,nd,zd,ed])::.deep dk cd 4 (code.map aM)::.aJ zd 1 (Z.map aw)::.aJ ed 1 (E.map aw)::.aJ .nul 1 (([]:List Nat).map jq)::H):=(hH.eo 1).EC;refine af.block<|af.loop (fun mm fr st=>∃(i j:Nat) (rest:bu) (cd jd:D) (dk:Nat→Prop) (aR:List aG) (js:List Nat),fr.clean=⟨68,[.ptr k 0 0,.int .i64 (at_:Nat),aq fr 2,aq fr 3,jd,.int .i64 (j:Nat),aq fr 6,aq fr 7,aq fr 8,aq fr 9,aq fr 10,aq fr 11,aq fr 12,aq fr 13,aq fr 14,aq fr 15,aq fr 16,aq fr 17,aq fr 18,.int .i64 n.kids,.int .i64 (i:Nat),aq fr 21,aq fr 22,aq fr 23,aq fr 24,aq fr 25,aq fr 26,aq fr 27,aq fr 28,aq fr 29,aq fr 30,aq fr 31,aq fr 32,aq fr 33,aq fr 34,aq fr 35,aq fr 36,aq fr 37,aq fr 38,aq fr 39,aq fr 40,aq fr 41,aq fr 42,aq fr 43,aq fr 44,aq fr 45,aq fr 46,aq fr 47,aq fr 48,aq fr 49,aq fr 50,aq fr 51,aq fr 52,aq fr 53,aq fr 54,aq fr 55,aq fr 56,aq fr 57,aq fr 58,aq fr 59,aq fr 60,aq fr 61,aq fr 62,aq fr 63,aq fr 64,aq fr 65,aq fr 66,aq fr 67],[]⟩∧Has N S st (.box k (.mem 0 false [cd,nd,zd,ed])::.deep dk cd 4 (aR.map aM)::.aJ zd 1 (Z.map aw)::.aJ ed 1 (E.map aw)::.aJ jd 1 (js.map jq)::H)∧(mm=rest.len)∧(i+rest.len=ks.len)∧(0<rest.len)∧(eL l j rest.flat)∧(eL Z j rest.zs)∧(eL E j (rest.es j))∧(rest.ok)∧(aR++dP (kR 0) rest aR.length=code++dP (kR 0) ks code.length)∧(js++oX rest aR.length=oX ks code.length)∧(aR.length+(rest.sz+2*(rest.len-1))=code.length+(ks.sz+2*(ks.len-1)))∧(rest.flat.length≤m)∧(js.length≤i)) (ks.len) ?_ ?_
 ·exact⟨0,at_+1,ks,cd,.nul,dk,code,[],rfl,hH,rfl,by omega,by omega,iV,hsz,sX,kD,rfl,rfl,rfl,Sp,by simp⟩
 rintro mm fr st ⟨i,j,rest,cd,jd,dk,aR,js,hfr,hH,vX,yM,NS,mR,uj,mQ,i_,gq,hjs,hcl,JZ,jW⟩;rw[hfr];clear hfr;generalize aq fr=ee;clear fr;refine qq<|qj fun K hK=>qg ?_;refine qe hK ?_
 cases rest with
 |nil=>simp[bu.len] at NS
 |cons t ts=>
  simp only[bu.len] at yM vX hcl;simp only[bu.sz] at hcl;simp only[bu.flat,List.length_append] at mR JZ;simp only[bu.zs] at uj;simp only[bu.es] at mQ;simp only[bu.ok] at i_;have JR:=t.gT;have Ml:=t.g_ j;have yJ:=b9 t (aR.length+1) i_.1;have O2:=eO (xK mQ.left);have gE:decide ((i:Int)<n.kids)=true:=by rw[decide_eq_true_eq];omega
  refine qq<|qD rfl (by rw[gE]) ?_;refine af.skip<|qq<|af.block<|qq<|qj fun K hK=>qm ?_;refine qm ?_;refine qe hK<|qq<|qq<|qj fun K hK=>qm ?_;refine qm ?_;refine qg ?_;refine qp (o:=1) ?_;refine ql hH ay ?_;refine qm ?_;refine qr fun Tm Pf=>?_;refine qf (fo:=6) fun R2 ME=>?_;refine qR ?_;refine ab.mN (z:=((ks.len-1:Nat):Int)) rfl (ev rfl) (ev rfl) (by(try simp only[List.length_reverse,List.length_cons,List.length_nil,List.length_append,List.length_map,List.length_set]);rw[wrap_i64 (by omega) (by omega)]<;>omega) (by dsimp only[Fr.put,u1,u2]<;>rfl) ?_;refine qg ?_;refine qe hK ?_
  by_cases xz:ts.len=0
  ·simp only[dP,oX,if_pos xz,List.append_nil] at gq hjs;have TK:=bu.len_nil xz;subst TK;simp only[bu.sz,bu.len] at hcl yM;have Ko:(((i:Nat):Int)==((ks.len-1:Nat):Int))=true:=by rw[beq_iff_eq];omega
   refine qD rfl (by rw[Ko]) ?_;refine qq<|qj fun K hK=>qm ?_;refine qm ?_;obtain⟨_,st,aH,rfl,cd,dk,hH⟩:=ih t (by omega) hF vW mR.left uj.left mQ.left i_.1 (by omega) ⟨cd,dk,hH⟩;refine qv aH ?_;refine qe hK<|af.exit<|qq<|qj fun K hK=>qm ?_;refine qn ?_ (hR:=hH.rows gw);simp only[List.length_map];refine qm ?_;refine qe hK ?_;rw[gq] at hH;have hal:=oW (kR 0) ks code.length kD;obtain⟨BU,F5⟩:=mg (jp:=kR (code.length+(ks.sz+2*(ks.len-1)))) (i0:=kR 0) ks code.length code [] kD rfl;simp only[List.append_nil] at BU F5;have Qe:(code++dP (kR 0) ks code.length).length=code.length+(ks.sz+2*(ks.len-1)):=by rw[List.length_append,hal]
   rw[←hjs] at BU F5;rw[←BU];clear BU gq;generalize code++dP (kR 0) ks code.length=C0 at*;generalize code.length+(ks.sz+2*(ks.len-1))=e at*;refine af.block<|af.loop (fun mm fr st=>∃(q:Nat) (C:List aG),fr.clean=⟨68,[.ptr k 0 0,aq fr 1,aq fr 2,aq fr 3,aq fr 4,aq fr 5,aq fr 6,aq fr 7,aq fr 8,aq fr 9,aq fr 10,aq fr 11,aq fr 12,aq fr 13,aq fr 14,aq fr 15,aq fr 16,aq fr 17,aq fr 18,aq fr 19,aq fr 20,aq fr 21,aq fr 22,aq fr 23,aq fr 24,aq fr 25,aq fr 26,aq fr 27,aq fr 28,aq fr 29,aq fr 30,aq fr 31,aq fr 32,aq fr 33,aq fr 34,aq fr 35,aq fr 36,aq fr 37,aq fr 38,aq fr 39,aq fr 40,aq fr 41,aq fr 42,aq fr 43,aq fr 44,aq fr 45,aq fr 46,aq fr 47,aq fr 48,aq fr 49,aq fr 50,aq fr 51,aq fr 52,aq fr 53,aq fr 54,aq fr 55,aq fr 56,aq fr 57,aq fr 58,aq fr 59,aq fr 60,aq fr 61,aq fr 62,aq fr 63,aq fr 64,jd,.int .i64 (js.length:Nat),.int .i64 (q:Nat)],[]⟩∧Has N S st (.box k (.mem 0 false [cd,nd,zd,ed])::.deep dk cd 4 (C.map aM)::.aJ zd 1 (Z.map aw)::.aJ ed 1 (E.map aw)::.aJ jd 1 (js.map jq)::H)∧(q+mm=js.length)∧(gg (fun _=>kR e) C (js.drop q)=gg (fun _=>kR e) C0 js)∧(∀p∈js,∃v:Int,C[p]?=some (cH 3 v 0 []))∧(C.length=e)) (js.length) ?_ ?_
   ·exact⟨0,C0,rfl,hH,by omega,rfl,fun p hp=>⟨_,F5 p hp⟩,Qe⟩
   rintro mm fr st ⟨q,C,hfr,hH,hq,gC,kW,Lf⟩;rw[hfr];clear hfr;generalize aq fr=ee;clear fr;refine qq<|qj fun K hK=>qg ?_;refine qe hK<|qq ?_;refine af.cond (by rfl) (fun hlt=>?_) (fun hlt=>?_)<;>try simp only[decide_eq_true_eq,decide_eq_false_iff_not] at hlt
   ·refine af.skip ?_;have F3:q<js.length:=by omega
    obtain⟨p,hp⟩:∃p,js[q]?=some p:=⟨js[q]'F3,List.getElem?_eq_getElem _⟩
    obtain⟨v,hv⟩:=kW p (List.mem_of_getElem? hp);have gD:=tU hp;have o6:=gK hv;have jf:=bt hv;refine qq<|af.block<|qq<|qj fun K hK=>qi hH gw fun Wo Uc=>?_;refine qo hH gw ?_;refine qm ?_;refine qe hK<|qj fun K hK=>qm ?_;refine qg ?_;refine qp (o:=0) ?_;refine ql hH ay ?_;refine qm ?_;refine qm ?_;refine qg ?_;refine qp (o:=0) ?_;refine ql hH ay ?_;refine ab.y4 hH rfl (ev rfl) (by exact b5) rfl (ag rfl _) ?_;simp only[List.length_map];refine ab.Bl (s:=4) hH rfl (ev rfl) (ev rfl) (by exact b5) rfl rfl (by exact bt (by assumption)) (fun _=>(ag rfl _)) (fun Te O9=>?_);refine ab.fY (fo:=1) (m:=0) (o2:=1) rfl (ev rfl) (by assumption) rfl rfl rfl (fun _=>(ag rfl _)) (fun Wj T9=>?_);refine ab.oN hH rfl (ev rfl) (ev rfl) (by assumption) rfl rfl (by exact b5) (by assumption) (Nat.le_of_ble_eq_true rfl) (by intro d hd;simp only[List.mem_cons,List.not_mem_nil,or_false] at hd;subst hd;rfl) (by exact .inl hF) (fun st hH=>?_);dsimp only[u2,u1,u3,u4,setMany,u5,u6,D.cells,Nat.reduceAdd,aM,aX,aw,jq] at hH;refine qe hK<|qj fun K hK=>qA ?_;refine qm ?_;refine qe hK ?_
    have A4:js.drop q=p::js.drop (q+1):=by
     rw[List.drop_eq_getElem_cons F3]
     congr 1
     exact Option.some.inj ((List.getElem?_eq_getElem _).symm.trans hp)
    refine⟨mm-1,by omega,⟨q+1,C.set p (kR e),rfl,(by rw[List.map_set,←Lf];exact hH),by omega,by rw[A4] at gC;exact gC,?_,by rw[List.length_set];exact Lf⟩⟩;intro p' su
    by_cases hpp:p'=p
    ·subst hpp;exact⟨_,List.getElem?_set_self jf⟩
    ·rw[List.getElem?_set_ne (fun e=>hpp e.symm)];exact kW p' su
   ·refine af.exit ?_;refine⟨fun i h=>(by cases h),_,_,_,rfl,rfl,?_⟩;have sr:q=js.length:=by omega
    rw[sr,List.drop_length] at gC;have gC:C=gg (fun _=>kR e) C0 js:=gC;rw[←gC];exact⟨rfl,cd,dk,hH.erase 4⟩
  ·simp only[dP,oX,if_neg xz] at gq hjs;have Ko:(((i:Nat):Int)==((ks.len-1:Nat):Int))=false:=by rw[beq_eq_false_iff_ne];omega
   refine qE rfl (by rw[Ko]) ?_;refine af.skip<|qq<|qj fun K hK=>qm ?_;refine ab.go (d:=.agg [.int .i64 2,.int .i64 0,.int .i64 0,.nul]) (st1:=_) rfl rfl rfl (by dsimp only[Fr.put,u1,u2]<;>rfl) ?_;have hH:=hH.eo 2;obtain⟨_,st,aH,rfl,cd,dk,hH⟩:=fw (rs:=[]) hF (by omega) hH;refine qv aH ?_;refine qm ?_;refine qe hK ?_;have kV:(aR++[cH 2 0 0 []]).length=aR.length+1:=by simp
   refine qq<|qj fun K hK=>qm ?_;refine qm ?_;obtain⟨_,st,aH,rfl,cd,dk,hH⟩:=ih t (by omega) hF vW mR.left uj.left mQ.left i_.1 (by omega) ⟨cd,dk,hH⟩;refine qv aH ?_;refine qe hK ?_;rw[kV] at hH;have l8:(aR++[cH 2 0 0 []]++aO t (aR.length+1)).length=aR.length+1+t.sz:=by rw[List.length_append,kV,yJ]
   refine qq<|qj fun K hK=>qm ?_;refine qm ?_;refine ab.go (d:=.agg [.int .i64 3,.int .i64 0,.int .i64 0,.nul]) (st1:=_) rfl rfl rfl (by dsimp only[Fr.put,u1,u2]<;>rfl) ?_;have hH:=hH.eo 2;obtain⟨_,st,aH,rfl,cd,dk,hH⟩:=fw (rs:=[]) hF (by omega) hH;refine qv aH ?_;refine qh (s:=1) (vs:=[_]) hH fun k47 st UX hH=>?_;refine qP hH sR (hH.rows ay) fun N_ st hH=>?_;dsimp only[u2,u1,u3,u4,setMany,u5,u6,D.cells,Nat.reduceAdd,aM,aX,aw,jq] at hH;refine qm ?_;refine qe hK ?_;have hH:=hH.drop 1
   have Ks:(aR++[cH 2 0 0 []]++aO t (aR.length+1)++[cH 3 0 0 []])[aR.length]?=some (cH 2 0 0 []):=by
    rw[List.append_assoc,List.append_assoc];exact nj _ _ _
   have A6:(aR++[cH 2 0 0 []]++aO t (aR.length+1)++[cH 3 0 0 []]).length=aR.length+1+t.sz+1:=by rw[List.length_append,l8];rfl
   have E9:(aR++[cH 2 0 0 []]++aO t (aR.length+1)++[cH 3 0 0 []]).set aR.length (lG aR.length (aR.length+1+t.sz+1) false)=aR++(lG aR.length (aR.length+1+t.sz+1) false::(aO t (aR.length+1)++[kR 0])):=by
    rw[List.append_assoc,List.append_assoc];exact nb _ _ _ _
   have Kn:(aR++(lG aR.length (aR.length+1+t.sz+1) false::(aO t (aR.length+1)++[kR 0]))).length=aR.length+t.sz+2:=by rw[←E9,List.length_set,A6];omega
   generalize aR++[cH 2 0 0 []]++aO t (aR.length+1)++[cH 3 0 0 []]=Bn at*;refine qq<|qj fun K hK=>qm ?_;refine qm ?_;refine qm ?_;refine qg ?_;refine qp (o:=0) ?_;refine ql hH ay ?_;refine ab.y4 hH rfl (ev rfl) (by exact b5) rfl (by dsimp only[Fr.put,u1,u2]<;>rfl) ?_;simp only[List.length_map,List.length_append,List.length_cons,List.length_nil];obtain⟨_,st,aH,rfl,hH⟩:=nC (at_:=aR.length) (over:=Bn.length) (lz:=false) Ks (by omega) hH;refine qv aH ?_;refine qe hK ?_;rw[A6,E9] at hH;refine qj fun K hK=>qm ?_;refine qg ?_;refine qp (o:=3) ?_;refine ql hH ay ?_;refine qm ?_;refine qi hH gG fun Ws Ug=>?_;refine qo hH gG ?_;refine qm ?_;refine qe hK<|qj fun K hK=>qA ?_;refine qm ?_;refine qe hK ?_;exact⟨mm-1,by omega,⟨i+1,j+t.flat.length,ts,cd,N_,dk,aR++(lG aR.length (aR.length+1+t.sz+1) false::(aO t (aR.length+1)++[kR 0])),js++[aR.length+1+t.sz],rfl,(by rw[List.map_append (f:=jq)];rw[l8] at hH;exact hH),by omega,by omega,by omega,mR.right,by rw[←JR];exact uj.right,by rw[←Ml];rw[←Ml] at mQ;exact mQ.right,i_.2,by rw[Kn,←gq];simp only[List.append_assoc,List.cons_append,List.nil_append],by rw[Kn,←hjs];simp only[List.append_assoc,List.cons_append,List.nil_append],by rw[Kn];omega,by omega,by rw[List.length_append];simp only[List.length_cons,List.length_nil];omega⟩⟩
end Go.Proofs.Ytbdnabmmlbiomaa
