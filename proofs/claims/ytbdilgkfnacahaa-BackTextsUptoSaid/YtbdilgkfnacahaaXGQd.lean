/-
 Are nodes a pattern? syntax.Right, walked.
-/
import Derived.Test.YtbdilgkfnacahaaXGPh
import Derived.Test.YtbdilgkfnacahaaXGM3
import Derived.Test.YtbdilgkfnacahaaXGPc
set_option maxRecDepth 100000
set_option maxHeartbeats 4000000
set_option linter.unusedSimpArgs false
set_option linter.unusedVariables false
namespace Go.Proofs.Ytbdilgkfnacahaa
open Go.V Go
def mg (fr:Go.V.Fr) (k:Nat):Go.V.D:=Go.V.nth .bA fr.loc k
theorem y5 {s0:St} {n:ec} (hn:n.ok):Ev pv 80 [.agg (bj n)] s0 (.bool (qZ n)) s0:=by
 refine Ev.j8 rfl PM rfl rfl rfl ?_;dsimp only[u3,u4,List.length,Nat.reduceSub,Nat.reduceAdd,w1,w2];obtain⟨bN,hF,hH⟩:=ri s0;generalize aj .ro s0=S at*;have tO:=hn.1.arg s0.bs.length S;have zI:=hn.2.1;refine qq<|qj fun K hK=>qb hH fun k1 st o6 hH=>?_;dsimp only[u2,u1,u3,u4,setMany,u5,u6,D.cells,Nat.reduceAdd,bj] at hH;refine qm ?_;refine qe hK<|qq<|qj fun K hK=>qp (o:=0) ?_;refine ql hH aB ?_;refine qg ?_;refine qm ?_;refine qe hK<|qq<|af.jO 2 (.bool (((n.op==2)||((n.rs.length:Nat):Int)==0) &&((n.op==5)||((n.mn==0) &&(n.mx==0) &&!n.lz)) &&((n.op==6)||(n.cap==0)))) [] ?_ (fun ff tmp=>?_)
 ·refine qp (o:=0) ?_;refine ql hH aB ?_;refine qg ?_;refine qm ?_;refine ae.two 10 rfl (fun aZ=>?_) (fun aZ=>?_)
  ·refine qs ?_ (hg:=wn aZ);refine qs ?_ (hg:=wn aZ);refine qs ?_ (hg:=wn aZ);refine qs ?_ (hg:=wn aZ);refine qt aZ ?_;refine qm ?_;refine qm ?_;refine qm ?_;refine ae.two 18 rfl (fun a7=>?_) (fun a7=>?_)
   ·refine qs ?_ (hg:=wn a7);refine qs ?_ (hg:=wn a7);refine qs ?_ (hg:=wn a7);refine qs ?_ (hg:=wn a7);refine qs ?_;refine qs ?_;refine qs ?_;refine qs ?_ (hg:=wn a7);refine qs ?_ (hg:=wn a7);refine qs ?_;refine qs ?_;refine qs ?_;refine qs ?_ (hg:=wn a7);refine qt a7 ?_;refine qg ?_;refine qm ?_;refine qp (o:=0) ?_;refine ql hH aB ?_;refine qg ?_;refine qm ?_;refine ae.two 38 rfl (fun cM=>?_) (fun cM=>?_)
    ·refine qs ?_ (hg:=wn cM);refine qs ?_ (hg:=wn cM);refine qs ?_ (hg:=wn cM);refine qt cM ?_;refine qg ?_;refine qm ?_;refine ae.nil (aX ?_);dsimp only[aD,List.foldl,nth,u2,u1];dsimp only[Fr.au,Fr.put,Fr.clean,Fr.ev,Fr.get,nth,V.look,u1,u2,v1,v2,v3,v4,v5,v6,v7,List.length,u3,u4,Nat.reduceSub,Nat.reduceAdd,List.map]
     all_goals(simp[aZ,a7,cM];done)
    ·refine qp (o:=5) ?_ (hg:=wi cM);refine ql hH aB ?_ (hg:=wi cM);refine qg ?_ (hg:=wi cM);refine qu cM ?_;refine qg ?_;refine qm ?_;refine ae.nil (aX ?_);dsimp only[aD,List.foldl,nth,u2,u1];dsimp only[Fr.au,Fr.put,Fr.clean,Fr.ev,Fr.get,nth,V.look,u1,u2,v1,v2,v3,v4,v5,v6,v7,List.length,u3,u4,Nat.reduceSub,Nat.reduceAdd,List.map]
     all_goals(simp[aZ,a7,cM];done)
   ·refine qp (o:=2) ?_ (hg:=wi a7);refine ql hH aB ?_ (hg:=wi a7);refine qg ?_ (hg:=wi a7);refine qm ?_ (hg:=wi a7);refine ae.two 22 rfl (fun e6=>?_) (fun e6=>?_)
    ·refine qp (o:=3) ?_ (hg:=wi e6);refine ql hH aB ?_ (hg:=wi e6);refine qg ?_ (hg:=wi e6);refine ae.dA (aH rfl rfl rfl a7) rfl e6 (ag rfl _) ?_;refine qm ?_ (hg:=wi a7);refine ae.two 27 rfl (fun fI=>?_) (fun fI=>?_)
     ·refine qp (o:=4) ?_ (hg:=wi fI);refine ql hH aB ?_ (hg:=wi fI);refine qg ?_ (hg:=wi fI);refine ae.dA (aH rfl rfl rfl a7) rfl fI (ag rfl _) ?_;refine qu a7 ?_;refine qg ?_;refine qm ?_;refine ae.two 34 rfl (fun dG=>?_) (fun dG=>?_)
      ·refine qp (o:=0) ?_ (hg:=wi dG);refine ql hH aB ?_ (hg:=wi dG);refine qg ?_ (hg:=wi dG);refine qm ?_ (hg:=wi dG);refine ae.two 38 rfl (fun cM=>?_) (fun cM=>?_)
       ·refine qs ?_ (hg:=wn cM);refine qs ?_ (hg:=wn cM);refine qs ?_ (hg:=wn cM);refine ae.dA (aH rfl rfl rfl dG) rfl cM (ag rfl _) ?_;refine qt dG ?_;refine qm ?_;refine ae.nil (aX ?_);dsimp only[aD,List.foldl,nth,u2,u1];dsimp only[Fr.au,Fr.put,Fr.clean,Fr.ev,Fr.get,nth,V.look,u1,u2,v1,v2,v3,v4,v5,v6,v7,List.length,u3,u4,Nat.reduceSub,Nat.reduceAdd,List.map]
        all_goals(simp[aZ,a7,e6,fI,dG,cM];done)
       ·refine qp (o:=5) ?_ (hg:=wi cM);refine ql hH aB ?_ (hg:=wi cM);refine qg ?_ (hg:=wi cM);refine ae.cV (aH rfl rfl rfl dG) rfl cM (ag rfl _) ?_;refine qt dG ?_;refine qm ?_;refine ae.nil (aX ?_);dsimp only[aD,List.foldl,nth,u2,u1];dsimp only[Fr.au,Fr.put,Fr.clean,Fr.ev,Fr.get,nth,V.look,u1,u2,v1,v2,v3,v4,v5,v6,v7,List.length,u3,u4,Nat.reduceSub,Nat.reduceAdd,List.map]
        all_goals(simp[aZ,a7,e6,fI,dG,cM];done)
      ·refine qs ?_ (hg:=wn dG);refine qs ?_ (hg:=wn dG);refine qs ?_ (hg:=wn dG);refine qs ?_ (hg:=wn dG);refine qs ?_;refine qs ?_;refine qs ?_;refine qs ?_ (hg:=wn dG);refine qu dG ?_;refine qm ?_;refine ae.nil (aX ?_);dsimp only[aD,List.foldl,nth,u2,u1];dsimp only[Fr.au,Fr.put,Fr.clean,Fr.ev,Fr.get,nth,V.look,u1,u2,v1,v2,v3,v4,v5,v6,v7,List.length,u3,u4,Nat.reduceSub,Nat.reduceAdd,List.map]
       all_goals(simp[aZ,a7,e6,fI,dG];done)
     ·refine qs ?_ (hg:=wn fI);refine qs ?_ (hg:=wn fI);refine qs ?_ (hg:=wn fI);refine ae.cV (aH rfl rfl rfl a7) rfl fI (ag rfl _) ?_;refine qu a7 ?_;refine qg ?_;refine qm ?_;refine qs ?_;refine qs ?_;refine qs ?_;refine qs ?_;refine qs ?_;refine qs ?_;refine qs ?_;refine qs ?_;refine qg ?_;refine qm ?_;refine ae.nil (aX ?_);dsimp only[aD,List.foldl,nth,u2,u1];dsimp only[Fr.au,Fr.put,Fr.clean,Fr.ev,Fr.get,nth,V.look,u1,u2,v1,v2,v3,v4,v5,v6,v7,List.length,u3,u4,Nat.reduceSub,Nat.reduceAdd,List.map]
      all_goals(simp[aZ,a7,e6,fI];done)
    ·refine qs ?_ (hg:=wn e6);refine qs ?_ (hg:=wn e6);refine qs ?_ (hg:=wn e6);refine ae.cV (aH rfl rfl rfl a7) rfl e6 (ag rfl _) ?_;refine qm ?_ (hg:=wi a7);refine qs ?_;refine qs ?_;refine qs ?_;refine qg ?_ (hg:=wi a7);refine qu a7 ?_;refine qg ?_;refine qm ?_;refine qs ?_;refine qs ?_;refine qs ?_;refine qs ?_;refine qs ?_;refine qs ?_;refine qs ?_;refine qs ?_;refine qg ?_;refine qm ?_;refine ae.nil (aX ?_);dsimp only[aD,List.foldl,nth,u2,u1];dsimp only[Fr.au,Fr.put,Fr.clean,Fr.ev,Fr.get,nth,V.look,u1,u2,v1,v2,v3,v4,v5,v6,v7,List.length,u3,u4,Nat.reduceSub,Nat.reduceAdd,List.map]
     all_goals(simp[aZ,a7,e6];done)
  ·refine qp (o:=1) ?_ (hg:=wi aZ);refine ql hH aB ?_ (hg:=wi aZ);refine qn ?_ (hg:=wi aZ);simp only[List.length_map];refine qg ?_ (hg:=wi aZ);refine qu aZ ?_;refine qm ?_;refine ae.two 16 rfl (fun b8=>?_) (fun b8=>?_)
   ·refine qm ?_ (hg:=wi b8);refine qm ?_ (hg:=wi b8);refine ae.two 18 rfl (fun a7=>?_) (fun a7=>?_)
    ·refine qs ?_ (hg:=wn a7);refine qs ?_ (hg:=wn a7);refine qs ?_ (hg:=wn a7);refine qs ?_ (hg:=wn a7);refine qs ?_;refine qs ?_;refine qs ?_;refine qs ?_ (hg:=wn a7);refine qs ?_ (hg:=wn a7);refine qs ?_;refine qs ?_;refine qs ?_;refine qs ?_ (hg:=wn a7);refine ae.dA (aH rfl rfl rfl b8) rfl a7 (ag rfl _) ?_;refine qt b8 ?_;refine qm ?_;refine qp (o:=0) ?_;refine ql hH aB ?_;refine qg ?_;refine qm ?_;refine ae.two 38 rfl (fun cM=>?_) (fun cM=>?_)
     ·refine qs ?_ (hg:=wn cM);refine qs ?_ (hg:=wn cM);refine qs ?_ (hg:=wn cM);refine qt cM ?_;refine qg ?_;refine qm ?_;refine ae.nil (aX ?_);dsimp only[aD,List.foldl,nth,u2,u1];dsimp only[Fr.au,Fr.put,Fr.clean,Fr.ev,Fr.get,nth,V.look,u1,u2,v1,v2,v3,v4,v5,v6,v7,List.length,u3,u4,Nat.reduceSub,Nat.reduceAdd,List.map]
      all_goals(simp[aZ,b8,a7,cM];done)
     ·refine qp (o:=5) ?_ (hg:=wi cM);refine ql hH aB ?_ (hg:=wi cM);refine qg ?_ (hg:=wi cM);refine qu cM ?_;refine qg ?_;refine qm ?_;refine ae.nil (aX ?_);dsimp only[aD,List.foldl,nth,u2,u1];dsimp only[Fr.au,Fr.put,Fr.clean,Fr.ev,Fr.get,nth,V.look,u1,u2,v1,v2,v3,v4,v5,v6,v7,List.length,u3,u4,Nat.reduceSub,Nat.reduceAdd,List.map]
      all_goals(simp[aZ,b8,a7,cM];done)
    ·refine qp (o:=2) ?_ (hg:=wi a7);refine ql hH aB ?_ (hg:=wi a7);refine qg ?_ (hg:=wi a7);refine qm ?_ (hg:=wi a7);refine ae.two 22 rfl (fun e6=>?_) (fun e6=>?_)
     ·refine qp (o:=3) ?_ (hg:=wi e6);refine ql hH aB ?_ (hg:=wi e6);refine qg ?_ (hg:=wi e6);refine ae.dA (aH rfl rfl rfl a7) rfl e6 (ag rfl _) ?_;refine qm ?_ (hg:=wi a7);refine ae.two 27 rfl (fun fI=>?_) (fun fI=>?_)
      ·refine qp (o:=4) ?_ (hg:=wi fI);refine ql hH aB ?_ (hg:=wi fI);refine qg ?_ (hg:=wi fI);refine ae.dA (aH rfl rfl rfl a7) rfl fI (ag rfl _) ?_;refine ae.cV (aH rfl rfl rfl b8) rfl a7 (ag rfl _) ?_;refine qt b8 ?_;refine qm ?_;refine ae.two 34 rfl (fun dG=>?_) (fun dG=>?_)
       ·refine qp (o:=0) ?_ (hg:=wi dG);refine ql hH aB ?_ (hg:=wi dG);refine qg ?_ (hg:=wi dG);refine qm ?_ (hg:=wi dG);refine ae.two 38 rfl (fun cM=>?_) (fun cM=>?_)
        ·refine qs ?_ (hg:=wn cM);refine qs ?_ (hg:=wn cM);refine qs ?_ (hg:=wn cM);refine ae.dA (aH rfl rfl rfl dG) rfl cM (ag rfl _) ?_;refine qt dG ?_;refine qm ?_;refine ae.nil (aX ?_);dsimp only[aD,List.foldl,nth,u2,u1];dsimp only[Fr.au,Fr.put,Fr.clean,Fr.ev,Fr.get,nth,V.look,u1,u2,v1,v2,v3,v4,v5,v6,v7,List.length,u3,u4,Nat.reduceSub,Nat.reduceAdd,List.map]
         all_goals(simp[aZ,b8,a7,e6,fI,dG,cM];done)
        ·refine qp (o:=5) ?_ (hg:=wi cM);refine ql hH aB ?_ (hg:=wi cM);refine qg ?_ (hg:=wi cM);refine ae.cV (aH rfl rfl rfl dG) rfl cM (ag rfl _) ?_;refine qt dG ?_;refine qm ?_;refine ae.nil (aX ?_);dsimp only[aD,List.foldl,nth,u2,u1];dsimp only[Fr.au,Fr.put,Fr.clean,Fr.ev,Fr.get,nth,V.look,u1,u2,v1,v2,v3,v4,v5,v6,v7,List.length,u3,u4,Nat.reduceSub,Nat.reduceAdd,List.map]
         all_goals(simp[aZ,b8,a7,e6,fI,dG,cM];done)
       ·refine qs ?_ (hg:=wn dG);refine qs ?_ (hg:=wn dG);refine qs ?_ (hg:=wn dG);refine qs ?_ (hg:=wn dG);refine qs ?_;refine qs ?_;refine qs ?_;refine qs ?_ (hg:=wn dG);refine qu dG ?_;refine qm ?_;refine ae.nil (aX ?_);dsimp only[aD,List.foldl,nth,u2,u1];dsimp only[Fr.au,Fr.put,Fr.clean,Fr.ev,Fr.get,nth,V.look,u1,u2,v1,v2,v3,v4,v5,v6,v7,List.length,u3,u4,Nat.reduceSub,Nat.reduceAdd,List.map]
        all_goals(simp[aZ,b8,a7,e6,fI,dG];done)
      ·refine qs ?_ (hg:=wn fI);refine qs ?_ (hg:=wn fI);refine qs ?_ (hg:=wn fI);refine ae.cV (aH rfl rfl rfl a7) rfl fI (ag rfl _) ?_;refine ae.cV (aH rfl rfl rfl b8) rfl a7 (ag rfl _) ?_;refine qt b8 ?_;refine qm ?_;refine qs ?_;refine qs ?_;refine qs ?_;refine qs ?_;refine qs ?_;refine qs ?_;refine qs ?_;refine qs ?_;refine qg ?_;refine qm ?_;refine ae.nil (aX ?_);dsimp only[aD,List.foldl,nth,u2,u1];dsimp only[Fr.au,Fr.put,Fr.clean,Fr.ev,Fr.get,nth,V.look,u1,u2,v1,v2,v3,v4,v5,v6,v7,List.length,u3,u4,Nat.reduceSub,Nat.reduceAdd,List.map]
       all_goals(simp[aZ,b8,a7,e6,fI];done)
     ·refine qs ?_ (hg:=wn e6);refine qs ?_ (hg:=wn e6);refine qs ?_ (hg:=wn e6);refine ae.cV (aH rfl rfl rfl a7) rfl e6 (ag rfl _) ?_;refine qm ?_ (hg:=wi a7);refine qs ?_;refine qs ?_;refine qs ?_;refine qg ?_ (hg:=wi a7);refine ae.cV (aH rfl rfl rfl b8) rfl a7 (ag rfl _) ?_;refine qt b8 ?_;refine qm ?_;refine qs ?_;refine qs ?_;refine qs ?_;refine qs ?_;refine qs ?_;refine qs ?_;refine qs ?_;refine qs ?_;refine qg ?_;refine qm ?_;refine ae.nil (aX ?_);dsimp only[aD,List.foldl,nth,u2,u1];dsimp only[Fr.au,Fr.put,Fr.clean,Fr.ev,Fr.get,nth,V.look,u1,u2,v1,v2,v3,v4,v5,v6,v7,List.length,u3,u4,Nat.reduceSub,Nat.reduceAdd,List.map]
      all_goals(simp[aZ,b8,a7,e6];done)
   ·refine qs ?_ (hg:=wn b8);refine qs ?_ (hg:=wn b8);refine qs ?_;refine qs ?_;refine qs ?_;refine qs ?_;refine qs ?_;refine qs ?_;refine qs ?_;refine qs ?_;refine qs ?_;refine qs ?_;refine qs ?_;refine qs ?_;refine qs ?_;refine qs ?_ (hg:=wn b8);refine qu b8 ?_;refine qm ?_;refine qs ?_;refine qs ?_;refine qs ?_;refine qs ?_;refine qs ?_;refine qs ?_;refine qs ?_;refine qs ?_;refine qg ?_;refine qm ?_;refine ae.nil (aX ?_);dsimp only[aD,List.foldl,nth,u2,u1];dsimp only[Fr.au,Fr.put,Fr.clean,Fr.ev,Fr.get,nth,V.look,u1,u2,v1,v2,v3,v4,v5,v6,v7,List.length,u3,u4,Nat.reduceSub,Nat.reduceAdd,List.map]
    all_goals(simp[aZ,b8];done)
 dsimp only[aD,List.foldl,nth,u2,u1];refine af.ret ⟨rx,_,rfl,rl bN hH (rfl)⟩
theorem uN {s0:St} {n:ec} (hn:n.ok) {g:Nat} (hg:g≤1048576):Ev pv 66 [.agg (bj n),.int .i64 (g:Nat)] s0 (.tup [.int .i64 (fu n (g:Nat)).1,.bool (fu n (g:Nat)).2]) s0:=by
 refine Ev.j8 rfl PX rfl rfl rfl ?_;dsimp only[u3,u4,List.length,Nat.reduceSub,Nat.reduceAdd,w1,w2];obtain⟨bN,hF,hH⟩:=ri s0;generalize aj .ro s0=S at*;have tO:=hn.1.arg s0.bs.length S;have zI:=hn.2.1;refine qq<|qj fun K hK=>qb hH fun k2 st hk2 hH=>?_;dsimp only[u2,u1,u3,u4,setMany,u5,u6,D.cells,Nat.reduceAdd,bj] at hH;refine qm ?_;refine qm ?_;refine qe hK<|qq<|qq<|qj fun K hK=>?_;refine ae.bF (m:=7) hH rfl (ev rfl) (by exact aB) (by dsimp only[List.drop_succ_cons,List.drop_zero,List.take_succ_cons,List.take_zero,bj]<;>rfl) rfl rfl (by dsimp only[Fr.put,u1,u2]<;>rfl) ?_;refine qv (y5 hn) ?_;refine qg ?_;refine qe hK ?_;unfold fu
 cases hp:qZ n with
 |false=>
  rw[if_pos rfl];refine qB ?_;refine qq<|qj fun K hK=>qm ?_;refine qm ?_;refine qe hK<|af.ret ⟨rx,_,rfl,rl bN hH (rfl)⟩
 |true=>
  rw[if_neg (by simp)];refine qC ?_;refine af.skip<|qq<|qq<|qj fun K hK=>qp (o:=0) ?_;refine ql hH aB ?_;refine qe hK<|af.block<|qq<|qq<|qj fun K hK=>qg ?_;refine qm ?_;refine qe hK ?_
  by_cases q1:n.op=1
  ·rw[if_pos (.inl q1)];refine qD rfl (by simp[q1]) ?_;refine af.skip<|qD rfl (by simp[q1]) ?_;refine qq<|qj fun K hK=>qp (o:=6) ?_;refine ql hH aB ?_;refine qg ?_;refine qm ?_;refine qm ?_;refine qe hK<|af.ret ⟨rx,_,rfl,rl bN hH (rfl)⟩
  refine qE rfl (by simp[q1]) ?_;refine qq<|qj fun K hK=>qg ?_;refine qm ?_;refine qe hK ?_
  by_cases q7:n.op=7
  ·rw[if_pos (.inr (.inl q7))];refine qD rfl (by simp[q7]) ?_;refine af.skip<|qD rfl (by simp[q7]) ?_;refine qq<|qj fun K hK=>qp (o:=6) ?_;refine ql hH aB ?_;refine qg ?_;refine qm ?_;refine qm ?_;refine qe hK<|af.ret ⟨rx,_,rfl,rl bN hH (rfl)⟩
  refine qE rfl (by simp[q7]) ?_;refine qj fun K hK=>qg ?_;refine qm ?_;refine qe hK ?_
  by_cases q8:n.op=8
  ·rw[if_pos (.inr (.inr q8))];refine qD rfl (by simp[q8]) ?_;refine qq<|qj fun K hK=>qp (o:=6) ?_;refine ql hH aB ?_;refine qg ?_;refine qm ?_;refine qm ?_;refine qe hK<|af.ret ⟨rx,_,rfl,rl bN hH (rfl)⟩
  refine qE rfl (by simp[q8]) ?_;rw[if_neg (by omega)];refine qq<|qj fun K hK=>qg ?_;refine qm ?_;refine qe hK ?_;refine af.cond (by rfl) (fun q2=>?_) (fun q2=>?_)<;>try simp only[beq_iff_eq,beq_eq_false_iff_ne,ne_eq] at q2
  ·rw[if_pos q2];refine qq<|af.JU [4,5] (fun ff=>ff 4=.int .i64 0∧ff 5=.bool ((n.kids==0) &&gy n.rs)) ?_ (fun ff tmp x7=>?_)
   ·refine qp (o:=6) ?_;refine ql hH aB ?_;refine qg ?_;refine qm ?_;refine ae.two 23 rfl (fun aZ=>?_) (fun aZ=>?_)
    ·refine qp (o:=1) ?_ (hg:=wi aZ);refine ql hH aB ?_ (hg:=wi aZ);refine qv (sX (tO.rows hH) zI) ?_ (hg:=wi aZ);refine qt aZ ?_;refine qm ?_;refine qm ?_;refine ae.nil (jG ?_ ?_)
     ·dsimp only[aD,List.foldl,nth,u2,u1]
     ·dsimp only[nth];dsimp only[Fr.au,Fr.put,Fr.clean,Fr.ev,Fr.get,nth,V.look,u1,u2,v1,v2,v3,v4,v5,v6,v7,List.length,u3,u4,Nat.reduceSub,Nat.reduceAdd,List.map];refine⟨?_,?_⟩<;>(first|rfl|(simp[aZ];done)|(simp_all;done)|(simp[aZ];omega)|(simp_all;omega))
    ·refine qs ?_ (hg:=wn aZ);refine qs ?_ (hg:=wn aZ);refine qs ?_ (hg:=wn aZ);refine qu aZ ?_;refine qm ?_;refine qm ?_;refine ae.nil (jG ?_ ?_)
     ·dsimp only[aD,List.foldl,nth,u2,u1]
     ·dsimp only[nth];dsimp only[Fr.au,Fr.put,Fr.clean,Fr.ev,Fr.get,nth,V.look,u1,u2,v1,v2,v3,v4,v5,v6,v7,List.length,u3,u4,Nat.reduceSub,Nat.reduceAdd,List.map];refine⟨?_,?_⟩<;>(first|rfl|(simp[aZ];done)|(simp_all;done)|(simp[aZ];omega)|(simp_all;omega))
   dsimp only[aD,List.foldl,nth,u2,u1];obtain⟨zV,zU⟩:=x7;rw[zV,zU];refine af.ret ⟨rx,_,rfl,rl bN hH (rfl)⟩
  rw[if_neg q2];refine qq<|qq<|qj fun K hK=>qg ?_;refine qm ?_;refine qe hK ?_
  by_cases q3:n.op=3
  ·rw[if_pos (.inl q3)];refine qD rfl (by simp[q3]) ?_;refine af.skip<|qD rfl (by simp[q3]) ?_;refine qq<|qj fun K hK=>qp (o:=6) ?_;refine ql hH aB ?_;refine qp (o:=6) ?_;refine ql hH aB ?_;refine qg ?_;refine qm ?_;refine qm ?_;refine qe hK<|af.ret ⟨rx,_,rfl,rl bN hH (rfl)⟩
  refine qE rfl (by simp[q3]) ?_;refine qj fun K hK=>qg ?_;refine qm ?_;refine qe hK ?_
  by_cases q4:n.op=4
  ·rw[if_pos (.inr q4)];refine qD rfl (by simp[q4]) ?_;refine qq<|qj fun K hK=>qp (o:=6) ?_;refine ql hH aB ?_;refine qp (o:=6) ?_;refine ql hH aB ?_;refine qg ?_;refine qm ?_;refine qm ?_;refine qe hK<|af.ret ⟨rx,_,rfl,rl bN hH (rfl)⟩
  rw[if_neg (by omega)];refine qE rfl (by simp[q4]) ?_;refine qq<|qj fun K hK=>qg ?_;refine qm ?_;refine qe hK ?_;refine af.cond (by rfl) (fun q5=>?_) (fun q5=>?_)<;>try simp only[beq_iff_eq,beq_eq_false_iff_ne,ne_eq] at q5
  ·rw[if_pos q5];refine qq<|af.JU [4,5] (fun ff=>ff 4=.int .i64 1∧ff 5=.bool ((n.kids==1) &&decide (n.mn≥0) &&decide (n.mn≤30) &&((n.mx==-1)||(decide (n.mx≥n.mn) &&decide (n.mx≤30))))) ?_ (fun ff tmp x7=>?_)
   ·refine qp (o:=6) ?_;refine ql hH aB ?_;refine qg ?_;refine qm ?_;refine ae.two 41 rfl (fun aZ=>?_) (fun aZ=>?_)
    ·refine qp (o:=2) ?_ (hg:=wi aZ);refine ql hH aB ?_ (hg:=wi aZ);refine qg ?_ (hg:=wi aZ);refine qt aZ ?_;refine qm ?_;refine ae.two 46 rfl (fun er=>?_) (fun er=>?_)
     ·refine qp (o:=2) ?_ (hg:=wi er);refine ql hH aB ?_ (hg:=wi er);refine qg ?_ (hg:=wi er);refine qt er ?_;refine qm ?_;refine ae.two 51 rfl (fun bP=>?_) (fun bP=>?_)
      ·refine qp (o:=3) ?_ (hg:=wi bP);refine ql hH aB ?_ (hg:=wi bP);refine qg ?_ (hg:=wi bP);refine qm ?_ (hg:=wi bP);refine ae.two 55 rfl (fun bh=>?_) (fun bh=>?_)
       ·refine qs ?_ (hg:=wn bh);refine qs ?_ (hg:=wn bh);refine qs ?_ (hg:=wn bh);refine qs ?_ (hg:=wn bh);refine qs ?_ (hg:=wn bh);refine qs ?_ (hg:=wn bh);refine qs ?_;refine qs ?_;refine qs ?_;refine qs ?_ (hg:=wn bh);refine ae.dA (aH rfl rfl rfl bP) rfl bh (ag rfl _) ?_;refine qt bP ?_;refine qm ?_;refine qm ?_;refine ae.nil (jG ?_ ?_)
        ·dsimp only[aD,List.foldl,nth,u2,u1]
        ·dsimp only[nth];dsimp only[Fr.au,Fr.put,Fr.clean,Fr.ev,Fr.get,nth,V.look,u1,u2,v1,v2,v3,v4,v5,v6,v7,List.length,u3,u4,Nat.reduceSub,Nat.reduceAdd,List.map];refine⟨?_,?_⟩<;>(first|rfl|(simp[aZ,er,bP,bh];done)|(simp_all;done)|(simp[aZ,er,bP,bh];omega)|(simp_all;omega))
       ·refine qp (o:=3) ?_ (hg:=wi bh);refine ql hH aB ?_ (hg:=wi bh);refine qp (o:=2) ?_ (hg:=wi bh);refine ql hH aB ?_ (hg:=wi bh);refine qg ?_ (hg:=wi bh);refine qm ?_ (hg:=wi bh);refine ae.two 61 rfl (fun mq=>?_) (fun mq=>?_)
        ·refine qp (o:=3) ?_ (hg:=wi mq);refine ql hH aB ?_ (hg:=wi mq);refine qg ?_ (hg:=wi mq);refine ae.dA (aH rfl rfl rfl bh) rfl mq (ag rfl _) ?_;refine ae.cV (aH rfl rfl rfl bP) rfl bh (ag rfl _) ?_;refine qt bP ?_;refine qm ?_;refine qm ?_;refine ae.nil (jG ?_ ?_)
         ·dsimp only[aD,List.foldl,nth,u2,u1]
         ·dsimp only[nth];dsimp only[Fr.au,Fr.put,Fr.clean,Fr.ev,Fr.get,nth,V.look,u1,u2,v1,v2,v3,v4,v5,v6,v7,List.length,u3,u4,Nat.reduceSub,Nat.reduceAdd,List.map];refine⟨?_,?_⟩<;>(first|rfl|(simp[aZ,er,bP,bh,mq];done)|(simp_all;done)|(simp[aZ,er,bP,bh,mq];omega)|(simp_all;omega))
        ·refine qs ?_ (hg:=wn mq);refine qs ?_ (hg:=wn mq);refine qs ?_ (hg:=wn mq);refine ae.cV (aH rfl rfl rfl bh) rfl mq (ag rfl _) ?_;refine ae.cV (aH rfl rfl rfl bP) rfl bh (ag rfl _) ?_;refine qt bP ?_;refine qm ?_;refine qm ?_;refine ae.nil (jG ?_ ?_)
         ·dsimp only[aD,List.foldl,nth,u2,u1]
         ·dsimp only[nth];dsimp only[Fr.au,Fr.put,Fr.clean,Fr.ev,Fr.get,nth,V.look,u1,u2,v1,v2,v3,v4,v5,v6,v7,List.length,u3,u4,Nat.reduceSub,Nat.reduceAdd,List.map];refine⟨?_,?_⟩<;>(first|rfl|(simp[aZ,er,bP,bh,mq];done)|(simp_all;done)|(simp[aZ,er,bP,bh,mq];omega)|(simp_all;omega))
      ·refine qs ?_ (hg:=wn bP);refine qs ?_ (hg:=wn bP);refine qs ?_ (hg:=wn bP);refine qs ?_ (hg:=wn bP);refine qs ?_;refine qs ?_;refine qs ?_;refine qs ?_;refine qs ?_;refine qs ?_;refine qs ?_;refine qs ?_;refine qs ?_;refine qs ?_;refine qs ?_ (hg:=wn bP);refine qu bP ?_;refine qm ?_;refine qm ?_;refine ae.nil (jG ?_ ?_)
       ·dsimp only[aD,List.foldl,nth,u2,u1]
       ·dsimp only[nth];dsimp only[Fr.au,Fr.put,Fr.clean,Fr.ev,Fr.get,nth,V.look,u1,u2,v1,v2,v3,v4,v5,v6,v7,List.length,u3,u4,Nat.reduceSub,Nat.reduceAdd,List.map];refine⟨?_,?_⟩<;>(first|rfl|(simp[aZ,er,bP];done)|(simp_all;done)|(simp[aZ,er,bP];omega)|(simp_all;omega))
     ·refine qs ?_ (hg:=wn er);refine qs ?_ (hg:=wn er);refine qs ?_ (hg:=wn er);refine qu er ?_;refine qm ?_;refine qs ?_;refine qs ?_;refine qs ?_;refine qs ?_;refine qs ?_;refine qs ?_;refine qs ?_;refine qs ?_;refine qs ?_;refine qs ?_;refine qs ?_;refine qs ?_;refine qs ?_;refine qs ?_;refine qs ?_;refine qg ?_;refine qm ?_;refine qm ?_;refine ae.nil (jG ?_ ?_)
      ·dsimp only[aD,List.foldl,nth,u2,u1]
      ·dsimp only[nth];dsimp only[Fr.au,Fr.put,Fr.clean,Fr.ev,Fr.get,nth,V.look,u1,u2,v1,v2,v3,v4,v5,v6,v7,List.length,u3,u4,Nat.reduceSub,Nat.reduceAdd,List.map];refine⟨?_,?_⟩<;>(first|rfl|(simp[aZ,er];done)|(simp_all;done)|(simp[aZ,er];omega)|(simp_all;omega))
    ·refine qs ?_ (hg:=wn aZ);refine qs ?_ (hg:=wn aZ);refine qs ?_ (hg:=wn aZ);refine qu aZ ?_;refine qm ?_;refine qs ?_;refine qs ?_;refine qs ?_;refine qg ?_;refine qm ?_;refine qs ?_;refine qs ?_;refine qs ?_;refine qs ?_;refine qs ?_;refine qs ?_;refine qs ?_;refine qs ?_;refine qs ?_;refine qs ?_;refine qs ?_;refine qs ?_;refine qs ?_;refine qs ?_;refine qs ?_;refine qg ?_;refine qm ?_;refine qm ?_;refine ae.nil (jG ?_ ?_)
     ·dsimp only[aD,List.foldl,nth,u2,u1]
     ·dsimp only[nth];dsimp only[Fr.au,Fr.put,Fr.clean,Fr.ev,Fr.get,nth,V.look,u1,u2,v1,v2,v3,v4,v5,v6,v7,List.length,u3,u4,Nat.reduceSub,Nat.reduceAdd,List.map];refine⟨?_,?_⟩<;>(first|rfl|(simp[aZ];done)|(simp_all;done)|(simp[aZ];omega)|(simp_all;omega))
   dsimp only[aD,List.foldl,nth,u2,u1];obtain⟨zV,zU⟩:=x7;rw[zV,zU];refine af.ret ⟨rx,_,rfl,rl bN hH (rfl)⟩
  rw[if_neg q5];refine qq<|qj fun K hK=>qg ?_;refine qm ?_;refine qe hK ?_;refine af.cond (by rfl) (fun q6=>?_) (fun q6=>?_)<;>try simp only[beq_iff_eq,beq_eq_false_iff_ne,ne_eq] at q6
  ·rw[if_pos q6];refine qq<|af.JU [4,5] (fun ff=>ff 4=.int .i64 1∧ff 5=.bool ((n.kids==1) &&(n.cap==((g+1:Nat):Int)) &&decide (n.cap≤4))) ?_ (fun ff tmp x7=>?_)
   ·refine qp (o:=6) ?_;refine ql hH aB ?_;refine qg ?_;refine qm ?_;refine ae.two 73 rfl (fun aZ=>?_) (fun aZ=>?_)
    ·refine qp (o:=5) ?_ (hg:=wi aZ);refine ql hH aB ?_ (hg:=wi aZ);refine qm ?_ (hg:=wi aZ);refine qA ?_ (hg:=wi aZ);refine qg ?_ (hg:=wi aZ);refine qt aZ ?_;refine qm ?_;refine ae.two 80 rfl (fun aV=>?_) (fun aV=>?_)
     ·refine qp (o:=5) ?_ (hg:=wi aV);refine ql hH aB ?_ (hg:=wi aV);refine qg ?_ (hg:=wi aV);refine qt aV ?_;refine qm ?_;refine qm ?_;refine ae.nil (jG ?_ ?_)
      ·dsimp only[aD,List.foldl,nth,u2,u1]
      ·dsimp only[nth];dsimp only[Fr.au,Fr.put,Fr.clean,Fr.ev,Fr.get,nth,V.look,u1,u2,v1,v2,v3,v4,v5,v6,v7,List.length,u3,u4,Nat.reduceSub,Nat.reduceAdd,List.map];refine⟨?_,?_⟩<;>(first|rfl|(simp[aZ,aV];done)|(simp_all;done)|(simp[aZ,aV];omega)|(simp_all;omega))
     ·refine qs ?_ (hg:=wn aV);refine qs ?_ (hg:=wn aV);refine qs ?_ (hg:=wn aV);refine qu aV ?_;refine qm ?_;refine qm ?_;refine ae.nil (jG ?_ ?_)
      ·dsimp only[aD,List.foldl,nth,u2,u1]
      ·dsimp only[nth];dsimp only[Fr.au,Fr.put,Fr.clean,Fr.ev,Fr.get,nth,V.look,u1,u2,v1,v2,v3,v4,v5,v6,v7,List.length,u3,u4,Nat.reduceSub,Nat.reduceAdd,List.map];refine⟨?_,?_⟩<;>(first|rfl|(simp[aZ,aV];done)|(simp_all;done)|(simp[aZ,aV];omega)|(simp_all;omega))
    ·refine qs ?_ (hg:=wn aZ);refine qs ?_ (hg:=wn aZ);refine qs ?_ (hg:=wn aZ);refine qs ?_ (hg:=wn aZ);refine qs ?_ (hg:=wn aZ);refine qu aZ ?_;refine qm ?_;refine qs ?_;refine qs ?_;refine qs ?_;refine qg ?_;refine qm ?_;refine qm ?_;refine ae.nil (jG ?_ ?_)
     ·dsimp only[aD,List.foldl,nth,u2,u1]
     ·dsimp only[nth];dsimp only[Fr.au,Fr.put,Fr.clean,Fr.ev,Fr.get,nth,V.look,u1,u2,v1,v2,v3,v4,v5,v6,v7,List.length,u3,u4,Nat.reduceSub,Nat.reduceAdd,List.map];refine⟨?_,?_⟩<;>(first|rfl|(simp[aZ];done)|(simp_all;done)|(simp[aZ];omega)|(simp_all;omega))
   dsimp only[aD,List.foldl,nth,u2,u1];obtain⟨zV,zU⟩:=x7;rw[zV,zU];refine af.ret ⟨rx,_,rfl,rl bN hH (rfl)⟩
  ·rw[if_neg q6];refine af.skip<|qq<|qj fun K hK=>qm ?_;refine qm ?_;refine qe hK<|af.ret ⟨rx,_,rfl,rl bN hH (rfl)⟩
theorem tu {n:ec} (h:n.ok):refs (bj n)=0:=by
 have:=h.1.ref;simp only[bj,refs,D.ref,this,Nat.max_self]
def mH (d:D) (at_ g:Nat):List D:=[d,.int .i64 (at_:Nat),.int .i64 (g:Nat)]
theorem zf {l:List ec} {d:D} (hl:l.length≤1048576) (hi:∀n∈l,n.ok) (hd:gq d 7 (l.map bj)):∀(f:Nat) {N k:Nat} {S s0:St} {H:List cz} {at_ g:Nat},f≤241→g≤4→Has N S s0 (.box k (.mem 0 false (mH d at_ g))::H)→
  ∃r ai,Ev pv 46 [.ptr k 0 0,.int .i64 ((241-f:Nat):Int)] s0 r ai∧r=.bool (il l f at_ g).isSome∧∃a' g',Has N S ai (.box k (.mem 0 false (mH d a' g'))::H)∧g'≤4∧∀q,il l f at_ g=some q→a'=q.1∧g'=q.2:=by
 intro f
 induction f with
 |zero=>
  intro N k S s0 H at_ g hf hg hH;refine Ev.mP rfl Mv rfl rfl rfl ?_;dsimp only[u3,u4,List.length,Nat.reduceSub,Nat.reduceAdd,w1,w2];have cy:=hH;have hH:=hH.cH;have cq:(aj .rw s0).bs=s0.bs:=rfl;generalize aj .rw s0=S2 at*;have hc:=hd.arg N S2;refine qq<|qj fun K hK=>qm ?_;refine qe hK<|qq<|qq<|af.eY 21 (.bool (decide ((at_:Int)≥(l.length:Nat))||decide (((241-0:Nat):Int)>240))) [] ?_ (fun ff tmp d_=>?_)
  ·refine qm ?_;refine qg ?_;refine qp (o:=1) ?_;refine ql hH aB ?_;refine qm ?_;refine qg ?_;refine qp (o:=0) ?_;refine ql hH aB ?_;refine qn ?_;simp only[List.length_map];refine qg ?_;refine qm ?_;refine ae.two 18 rfl (fun aV=>?_) (fun aV=>?_)
   ·refine qs ?_ (hg:=wn aV);refine qs ?_ (hg:=wn aV);refine qt aV ?_;refine ae.nil (bq ?_ ?_)
    ·dsimp only[aD,List.foldl,nth,u2,u1]
     all_goals(first|rfl|simp)
    ·dsimp only[Fr.au,Fr.put,Fr.clean,Fr.ev,Fr.get,nth,V.look,u1,u2,v1,v2,v3,v4,v5,v6,v7,List.length,u3,u4,Nat.reduceSub,Nat.reduceAdd,List.map]
     all_goals(simp[aV];done)
   ·refine qm ?_ (hg:=wi aV);refine qg ?_ (hg:=wi aV);refine qu aV ?_;refine ae.nil (bq ?_ ?_)
    ·dsimp only[aD,List.foldl,nth,u2,u1]
     all_goals(first|rfl|simp)
    ·dsimp only[Fr.au,Fr.put,Fr.clean,Fr.ev,Fr.get,nth,V.look,u1,u2,v1,v2,v3,v4,v5,v6,v7,List.length,u3,u4,Nat.reduceSub,Nat.reduceAdd,List.map]
     all_goals(simp[aV];done)
  dsimp only[aD,List.foldl,nth,u2,u1];have hT:(decide ((at_:Int)≥(l.length:Nat))||decide (((241-0:Nat):Int)>240))=true:=by simp
  rw[hT] at d_;refine qB ?_;refine qq<|qj fun K hK=>qm ?_;refine qe hK<|af.ret ⟨rx,_,_,_,rfl,av (rfl),?_⟩;exact⟨rfl,_,_,cy.aA cq hH,hg,fun q hq=>by simp[il] at hq⟩
 |succ f ih=>
  intro N k S s0 H at_ g hf hg hH;refine Ev.mP rfl Mv rfl rfl rfl ?_;dsimp only[u3,u4,List.length,Nat.reduceSub,Nat.reduceAdd,w1,w2];have cy:=hH;have hH:=hH.cH;have cq:(aj .rw s0).bs=s0.bs:=rfl;generalize aj .rw s0=S2 at*;have hc:=hd.arg N S2;refine qq<|qj fun K hK=>qm ?_;refine qe hK<|qq<|qq<|af.eY 21 (.bool (decide ((at_:Int)≥(l.length:Nat))||decide (((241-(f+1):Nat):Int)>240))) [] ?_ (fun ff tmp d_=>?_)
  ·refine qm ?_;refine qg ?_;refine qp (o:=1) ?_;refine ql hH aB ?_;refine qm ?_;refine qg ?_;refine qp (o:=0) ?_;refine ql hH aB ?_;refine qn ?_;simp only[List.length_map];refine qg ?_;refine qm ?_;refine ae.two 18 rfl (fun aV=>?_) (fun aV=>?_)
   ·refine qs ?_ (hg:=wn aV);refine qs ?_ (hg:=wn aV);refine qt aV ?_;refine ae.nil (bq ?_ ?_)
    ·dsimp only[aD,List.foldl,nth,u2,u1]
     all_goals(first|rfl|simp)
    ·dsimp only[Fr.au,Fr.put,Fr.clean,Fr.ev,Fr.get,nth,V.look,u1,u2,v1,v2,v3,v4,v5,v6,v7,List.length,u3,u4,Nat.reduceSub,Nat.reduceAdd,List.map]
     all_goals(simp_all;done)
   ·refine qm ?_ (hg:=wi aV);refine qg ?_ (hg:=wi aV);refine qu aV ?_;refine ae.nil (bq ?_ ?_)
    ·dsimp only[aD,List.foldl,nth,u2,u1]
     all_goals(first|rfl|simp)
    ·dsimp only[Fr.au,Fr.put,Fr.clean,Fr.ev,Fr.get,nth,V.look,u1,u2,v1,v2,v3,v4,v5,v6,v7,List.length,u3,u4,Nat.reduceSub,Nat.reduceAdd,List.map]
     all_goals(simp_all;omega)
  dsimp only[aD,List.foldl,nth,u2,u1]
  by_cases ha:l.length≤at_
  ·have hT:(decide ((at_:Int)≥(l.length:Nat))||decide (((241-(f+1):Nat):Int)>240))=true:=by
    rw[Bool.or_eq_true];exact .inl (by rw[decide_eq_true_eq];omega)
   rw[hT] at d_;have hn:il l (f+1) at_ g=none:=by unfold il;rw[List.getElem?_eq_none ha]
   rw[hn];refine qB ?_;refine qq<|qj fun K hK=>qm ?_;refine qe hK<|af.ret ⟨rx,_,_,_,rfl,av (rfl),?_⟩;exact⟨rfl,_,_,cy.aA cq hH,hg,fun q hq=>by cases hq⟩
  ·have hT:(decide ((at_:Int)≥(l.length:Nat))||decide (((241-(f+1):Nat):Int)>240))=false:=by
    rw[Bool.or_eq_false_iff];exact⟨by rw[decide_eq_false_iff_not];omega,by rw[decide_eq_false_iff_not];omega⟩
   rw[hT] at d_
   obtain⟨n,hn⟩:∃n,l[at_]?=some n:=⟨l[at_]'(by omega),List.getElem?_eq_getElem _⟩
   have kv:=hi n (List.mem_of_getElem? hn);have gI:=j7 hn;have Rj:=tu kv
   have iS:il l (f+1) at_ g=if(fu n (g:Nat)).2=true then kq (il l f) (fu n (g:Nat)).1.toNat (at_+1) (if n.op=6 then g+1 else g) else none:=by
    rw[il,hn]
   rw[iS];clear iS;refine qC ?_;refine af.skip<|qq<|qj fun K hK=>qm ?_;refine qg ?_;refine qp (o:=0) ?_;refine ql hH aB ?_;refine qm ?_;refine qg ?_;refine qp (o:=1) ?_;refine ql hH aB ?_;refine qr fun QZ LC=>?_;refine ae.dt rfl (ev rfl) (by assumption) rfl (ag rfl _) ?_;refine qa hH fun k5 st L2 hH=>?_;dsimp only[u2,u1,u3,u4,setMany,u5,u6,D.cells,Nat.reduceAdd,mH,bj] at hH;refine ae.rB hH rfl (ev rfl) (ev rfl) (by rfl) (by exact rfl) (by exact aB) (by exact rfl) (by exact .inr (by assumption)) (fun st hH=>?_);dsimp only[u2,u1,u3,u4,setMany,u5,u6,D.cells,Nat.reduceAdd,mH,bj] at hH;refine qe hK<|qq<|qj fun K hK=>?_;refine ae.bF (m:=7) hH rfl (ev rfl) (by exact aB) (by dsimp only[List.drop_succ_cons,List.drop_zero,List.take_succ_cons,List.take_zero,mH,bj]<;>rfl) rfl rfl (ag rfl _) ?_;refine qm ?_;refine qg ?_;refine qp (o:=2) ?_;refine ql hH bu ?_;refine qv (uN kv (by omega)) ?_;refine qm ?_;refine qg ?_;refine qg ?_;refine qm ?_;refine qm ?_;refine qe hK<|qq<|qq<|qj fun K hK=>qm ?_;refine qg ?_;refine qe hK ?_
   cases hsh:(fu n (g:Nat)).2 with
   |false=>
    rw[if_neg (by simp)];refine qB ?_;refine qq<|qj fun K hK=>qm ?_;refine qe hK<|af.ret ⟨rx,_,_,_,rfl,av (rfl),?_⟩;exact⟨rfl,_,_,cy.aA cq (hH.drop 1),hg,fun q hq=>by cases hq⟩
   |true=>
    rw[if_pos rfl];obtain⟨⟨o6,_⟩,hk2,Kj⟩:=sK hsh;have M3:=kv.2.2;obtain⟨kd,Kh⟩:∃kd:Nat,(fu n (g:Nat)).1=(kd:Int):=Int.eq_ofNat_of_zero_le hk2;rw[Kh,Int.toNat_natCast];rw[Kh,Int.toNat_natCast] at o6;refine qC ?_;refine af.skip<|qq<|qj fun K hK=>qm ?_;refine qg ?_;refine qp (o:=1) ?_;refine ql hH bu ?_;refine qA ?_;refine qg ?_;refine qp (o:=1) ?_;refine qT hH bu fun st hH=>?_;dsimp only[u2,u1,u3,u4,setMany,u5,u6,D.cells,Nat.reduceAdd,mH,bj] at hH;refine qe hK<|qq<|qq<|qj fun K hK=>qp (o:=0) ?_;refine ql hH aB ?_;refine qg ?_;refine qe hK<|af.merge (fun fr st=>∃(g2:Nat) (tmp:List (Nat×D)),fr=⟨8,[.ptr k 0 0,.int .i64 ((241-(f+1):Nat):Int),mg fr 2,mg fr 3,.bool false,.ptr k5 0 0,.int .i64 (kd:Nat),.bool true],tmp⟩∧Has N S2 st (.box k (.mem 0 false [d,.int .i64 ((at_+1:Nat):Int),.int .i64 (g2:Nat)])::.box k5 (.mem 0 false (bj n))::H)∧(g2=if n.op=6 then g+1 else g)∧(g2≤4)) ?_ ?_
    ·refine af.cond (by rfl) (fun q6=>?_) (fun q6=>?_)<;>try simp only[beq_iff_eq,beq_eq_false_iff_ne,ne_eq] at q6
     ·have:=Kj q6;refine qj fun K hK=>qm ?_;refine qg ?_;refine qp (o:=2) ?_;refine ql hH bu ?_;refine qA ?_;refine qg ?_;refine qp (o:=2) ?_;refine qT hH bu fun st hH=>?_;dsimp only[u2,u1,u3,u4,setMany,u5,u6,D.cells,Nat.reduceAdd,mH,bj] at hH;refine qe hK ?_;exact⟨g+1,_,rfl,(by have:=hH.front bu;exact this),by rw[if_pos q6],by omega⟩
     ·refine af.skip ?_;exact⟨g,_,rfl,(by have:=hH.front bu;exact this),by rw[if_neg q6],hg⟩
    ·rintro fr st ⟨g2,tmp,hfr,hH,bm,aZ⟩;rw[hfr];clear hfr;generalize mg fr=ee;clear fr;rw[←bm];refine qq<|af.block<|af.loop (fun mm fr st=>∃(kk a2 g4:Nat),fr.clean=⟨8,[.ptr k 0 0,.int .i64 ((241-(f+1):Nat):Int),mg fr 2,mg fr 3,.bool false,.ptr k5 0 0,.int .i64 (kk:Nat),.bool true],[]⟩∧Has N S2 st (.box k (.mem 0 false [d,.int .i64 (a2:Nat),.int .i64 (g4:Nat)])::.box k5 (.mem 0 false (bj n))::H)∧(kq (il l f) kk a2 g4=kq (il l f) kd (at_+1) g2)∧(g4≤4)∧(kk=mm)∧(kk≤9223372036854775807)) (kd) ?_ ?_
     ·exact⟨kd,at_+1,g2,rfl,hH,rfl,aZ,rfl,by omega⟩
     rintro mm fr st ⟨kk,a2,g4,hfr,hH,hX,bc,Kg,hkk⟩;rw[hfr];clear hfr;generalize mg fr=ee;clear fr;refine qq<|qq<|qj fun K hK=>qm ?_;refine qg ?_;refine qe hK ?_
     cases kk with
     |zero=>
      refine af.cond (v:=false) (by dsimp only[Fr.ev,Fr.get,nth,V.look];rfl) (fun h=>by cases h) (fun _=>?_);refine af.exit<|qq<|qj fun K hK=>qm ?_;refine qe hK<|af.ret ⟨rx,_,_,_,rfl,av (rfl),?_⟩;exact⟨by rw[←hX];rfl,_,_,cy.aA cq (hH.erase 1),bc,fun q hq=>by rw[←hX] at hq;simp only[kq,Option.some.injEq] at hq;subst hq;exact⟨rfl,rfl⟩⟩
     |succ kk=>
      rw[kq] at hX;refine qD rfl (by simp) ?_;refine af.skip<|qq<|af.block<|qq<|qj fun K hK=>qm ?_;refine qm ?_;refine ae.kN (z:=((241-f:Nat):Int)) rfl (ev rfl) (ev rfl) (by(try simp only[List.length_reverse,List.length_cons,List.length_nil,List.length_append,List.length_map,List.length_set]);rw[wrap_i64 (by omega) (by omega)]<;>omega) (ag rfl _) ?_;obtain⟨_,st,aS,rfl,a',g',hH,c_,hq⟩:=ih (at_:=a2) (g:=g4) (by omega) bc hH;refine qv aS ?_;refine qg ?_;refine qe hK ?_
      cases ho:il l f a2 g4 with
      |none=>
       rw[ho] at hX;refine qB ?_;refine qq<|qj fun K hK=>qm ?_;refine qe hK<|af.ret ⟨rx,_,_,_,rfl,av (rfl),?_⟩;exact⟨by rw[←hX];rfl,_,_,cy.aA cq (hH.erase 1),c_,fun q hq=>by rw[←hX] at hq;cases hq⟩
      |some q=>
       rw[ho] at hX;obtain⟨rfl,rfl⟩:=hq q ho;refine qC ?_;refine af.skip<|qj fun K hK=>qm ?_;refine ae.gj (z:=((kk:Nat):Int)) rfl (ev rfl) (ev rfl) (by(try simp only[List.length_reverse,List.length_cons,List.length_nil,List.length_append,List.length_map,List.length_set]);rw[wrap_i64 (by omega) (by omega)]<;>omega) (ag rfl _) ?_;refine qm ?_;refine qe hK ?_;exact⟨mm-1,by omega,⟨kk,q.1,q.2,rfl,hH,hX,c_,by omega,by omega⟩⟩
theorem xB {s0:St} {x:Nl} (hx:x.ok):Ev pv 21 [x.d] s0 (.bool (gY x.l)) s0:=by
 refine Ev.j8 rfl Ql rfl rfl rfl ?_;dsimp only[u3,u4,List.length,Nat.reduceSub,Nat.reduceAdd,w1,w2];obtain⟨bN,hF,hH⟩:=ri s0;generalize aj .ro s0=S at*;have hc:=hx.c.arg s0.bs.length S;have hl:=hx.nl;have o7:=hx.c;refine qq<|qj fun K hK=>qm ?_;refine qe hK<|qq<|qq<|af.eY 11 (.bool (decide (((x.l.length:Nat):Int)<1)||decide (((x.l.length:Nat):Int)>480))) [] ?_ (fun ff tmp d_=>?_)
 ·refine qm ?_;refine qn ?_;simp only[List.length_map];refine qg ?_;refine qm ?_;refine ae.two 7 rfl (fun aZ=>?_) (fun aZ=>?_)
  ·refine qs ?_ (hg:=wn aZ);refine qs ?_ (hg:=wn aZ);refine qs ?_ (hg:=wn aZ);refine qt aZ ?_;refine ae.nil (bq ?_ ?_)
   ·dsimp only[aD,List.foldl,nth,u2,u1]
    all_goals(first|rfl|simp)
   ·dsimp only[Fr.au,Fr.put,Fr.clean,Fr.ev,Fr.get,nth,V.look,u1,u2,v1,v2,v3,v4,v5,v6,v7,List.length,u3,u4,Nat.reduceSub,Nat.reduceAdd,List.map]
    all_goals(simp[aZ];done)
  ·refine qm ?_ (hg:=wi aZ);refine qn ?_ (hg:=wi aZ);simp only[List.length_map];refine qg ?_ (hg:=wi aZ);refine qu aZ ?_;refine ae.nil (bq ?_ ?_)
   ·dsimp only[aD,List.foldl,nth,u2,u1]
    all_goals(first|rfl|simp)
   ·dsimp only[Fr.au,Fr.put,Fr.clean,Fr.ev,Fr.get,nth,V.look,u1,u2,v1,v2,v3,v4,v5,v6,v7,List.length,u3,u4,Nat.reduceSub,Nat.reduceAdd,List.map]
    all_goals(simp[aZ];done)
 dsimp only[aD,List.foldl,nth,u2,u1]
 by_cases hlen:1≤x.l.length∧x.l.length≤480
 ·have hT:(decide (((x.l.length:Nat):Int)<1)||decide (((x.l.length:Nat):Int)>480))=false:=by
   rw[Bool.or_eq_false_iff];exact⟨by rw[decide_eq_false_iff_not];omega,by rw[decide_eq_false_iff_not];omega⟩
  rw[hT] at d_
  have hR:gY x.l=(match il x.l 241 0 0 with|some r=>decide (r.1=x.l.length)|none=>false):=by
   unfold gY;rw[decide_eq_true hlen.1,decide_eq_true hlen.2];rfl
  rw[hR];clear hR;refine qC ?_;refine af.skip<|qq<|qj fun K hK=>qm ?_;refine ae.gB (qs:=[(0,_)]) rfl rfl rfl rfl ⟨rfl,(ev rfl),(by exact(gq.cells (by assumption)).1),trivial⟩ (by intro q hq;simp only[List.mem_cons,List.not_mem_nil,or_false] at hq;rcases hq with rfl<;>exact⟨rfl,by exact Nat.le_of_ble_eq_true rfl⟩) (by show List.foldl _ [_,_,_] _=_;dsimp only[List.foldl_cons,List.foldl_nil,u2,u1]<;>rfl) (ag rfl _) ?_;refine qb hH fun AU st Jp hH=>?_;refine qm ?_;refine qe hK ?_;have hH:Has s0.bs.length S st (.box AU (.mem 0 false (mH x.d 0 0))::[]):=hH
  cases bm:(il x.l 241 0 0).isSome with
  |true=>
   obtain⟨q,hq⟩:=Option.isSome_iff_exists.1 bm;refine qq<|qj fun K hK=>qm ?_;obtain⟨_,st,aS,rfl,a',g',hH,c_,Rk⟩:=zf hl hx.i hx.c 241 (by omega) (by omega) hH;refine qv aS ?_;refine qm ?_;refine qm ?_ (hg:=wi bm);refine qg ?_ (hg:=wi bm);refine qp (o:=1) ?_ (hg:=wi bm);refine ql hH aB ?_ (hg:=wi bm);refine qm ?_ (hg:=wi bm);refine qn ?_ (hg:=wi bm);simp only[List.length_map];refine qg ?_ (hg:=wi bm);refine qt bm ?_;refine qm ?_;refine qe hK ?_;obtain⟨rfl,rfl⟩:=Rk q hq;rw[hq]
   have he:decide (q.1=x.l.length)=(((q.1:Nat):Int)==((x.l.length:Nat):Int)):=by
    rw[Bool.eq_iff_iff];simp only[decide_eq_true_eq,beq_iff_eq];omega
   simp only[he];refine af.ret ⟨rx,_,rfl,rl bN hH (rfl)⟩
  |false=>
   have hq:il x.l 241 0 0=none:=by
    cases hq:il x.l 241 0 0 with
    |none=>rfl
    |some q=>rw[hq] at bm;cases bm
   refine qq<|qj fun K hK=>qm ?_;obtain⟨_,st,aS,rfl,a',g',hH,c_,Rk⟩:=zf hl hx.i hx.c 241 (by omega) (by omega) hH;refine qv aS ?_;refine qm ?_;refine qs ?_ (hg:=wn bm);refine qs ?_ (hg:=wn bm);refine qs ?_ (hg:=wn bm);refine qs ?_ (hg:=wn bm);refine qs ?_ (hg:=wn bm);refine qs ?_ (hg:=wn bm);refine qs ?_ (hg:=wn bm);refine qu bm ?_;refine qm ?_;refine qe hK ?_;rw[hq];refine af.ret ⟨rx,_,rfl,rl bN hH (rfl)⟩
 ·have hT:(decide (((x.l.length:Nat):Int)<1)||decide (((x.l.length:Nat):Int)>480))=true:=by
   rw[Bool.or_eq_true,decide_eq_true_eq,decide_eq_true_eq];omega
  rw[hT] at d_
  have hR:gY x.l=false:=by
   unfold gY
   by_cases h1:1≤x.l.length
   ·rw[decide_eq_true h1,decide_eq_false (fun h2=>hlen ⟨h1,h2⟩)];rfl
   ·rw[decide_eq_false h1];rfl
  rw[hR];refine qB ?_;refine qq<|qj fun K hK=>qm ?_;refine qe hK<|af.ret ⟨rx,_,rfl,rl bN hH (rfl)⟩
def aR (fr:Go.V.Fr) (k:Nat):Go.V.D:=Go.V.nth .bA fr.loc k
def lS (es:List Int) (a:Nat) (M:List Int):List Int:=es.take a++M++es.drop (a+M.length)
theorem wA {es M:List Int} {a:Nat} (h:a+M.length≤es.length):(lS es a M).length=es.length:=by
 unfold lS;simp only[List.length_append,List.length_take,List.length_drop];omega
theorem wz {es:List Int} {a:Nat}:lS es a []=es:=by
 unfold lS;simp
theorem Ba {es M:List Int} {a:Nat} {x:Int} (h:a≤es.length):(lS es a (x::M))[a]?=some x:=by
 unfold lS;rw[List.append_assoc,List.getElem?_append_right (by simp only[List.length_take];omega)];simp[Nat.min_eq_left h]
theorem wx {es M M':List Int} {a:Nat} (h:a+M.length+M'.length≤es.length):lS (lS es a M) (a+M.length) M'=lS es a (M++M'):=by
 unfold lS;have h1:(es.take a++M).length=a+M.length:=by simp only[List.length_append,List.length_take];omega
 rw[List.take_append_of_le_length (by omega),List.take_of_length_le (by omega)];rw[←h1,List.drop_append,List.drop_eq_nil_of_le (by omega),List.nil_append,h1,List.drop_drop];simp only[List.append_assoc,List.length_append]
 congr 4
 omega
theorem wy {es M:List Int} {a:Nat} {v:Int} (h:a+1+M.length≤es.length):(lS es (a+1) M).set a v=lS es a (v::M):=by
 unfold lS;have h1:(es.take a).length=a:=by simp only[List.length_take];omega
 rw[List.append_assoc,List.take_add_one,List.getElem?_eq_getElem (by omega)];simp only[Option.toList_some,List.append_assoc,List.cons_append,List.nil_append,List.length_cons];rw[List.set_append_right _ _ (by omega),h1,Nat.sub_self,List.set_cons_zero]
 congr 4
 omega
theorem yN {l:List ec} {d:D} (hl:l.length≤1048576) (hi:∀n∈l,n.ok) (hd:gq d 7 (l.map bj)):∀(m:Nat) (t:Tr),t.flat.length≤m→t.ok→∀{N:Nat} {S s0:St} {H:List cz} {out:D} {es:List Int} {at_:Nat},fp l at_ t.flat→es.length=l.length→Has N S s0 (.aT out 1 (es.map aq)::H)→
  ∃r ai,Ev pv 37 [d,out,.int .i64 (at_:Nat)] s0 r ai∧r=.int .i64 ((at_+t.flat.length:Nat):Int)∧Has N S ai (.aT out 1 ((lS es at_ t.zs).map aq)::H):=by
 intro m
 induction m with
 |zero=>intro t h;have:=t.iz;omega
 |succ m ih=>
  rintro⟨n,ks⟩ hm dz N S s0 H out es at_ lp sr hH;simp only[Tr.ok] at dz;obtain⟨kv,sm⟩:=dz;simp only[Tr.flat,List.length_cons] at hm;have hle:=lp.le (by simp[Tr.flat]);simp only[Tr.flat] at lp hle;simp only[List.length_cons] at hle;have hn:=lp.head;have lp:=lp.tail;have LN:=hi n (List.mem_of_getElem? hn);have gI:=j7 hn;have Rj:=tu LN;have Kh:=kv.1;have nh:=bU.og ks;refine Ev.mP rfl Qc rfl rfl rfl ?_;dsimp only[u3,u4,List.length,Nat.reduceSub,Nat.reduceAdd,w1,w2];have cy:=hH;have hH:=hH.cH;have cq:(aj .rw s0).bs=s0.bs:=rfl;generalize aj .rw s0=S2 at*;have hc:=hd.arg N S2;refine qq<|qj fun K hK=>qm ?_;refine qe hK<|qq<|qj fun K hK=>qm ?_;refine qm ?_;refine qr fun S7 OB=>?_;refine ae.dt rfl (ev rfl) (by assumption) rfl (by dsimp only[Fr.put,u1,u2]<;>rfl) ?_;refine qa hH fun k7 st M1 hH=>?_;refine ae.rB hH rfl (ev rfl) (ev rfl) (by rfl) (by exact rfl) (by exact aB) (by exact rfl) (by exact .inr (by assumption)) (fun st hH=>?_);dsimp only[u2,u1,u3,u4,setMany,u5,u6,D.cells,Nat.reduceAdd,bj,aq] at hH;refine qe hK<|qq<|qj fun K hK=>qm ?_;refine qA ?_;refine qm ?_;refine qe hK<|qq<|qj fun K hK=>qm ?_;refine qe hK<|qq<|qq<|qj fun K hK=>qp (o:=6) ?_;refine ql hH aB ?_;refine qm ?_;refine qe hK<|af.block<|af.loop (fun mm fr st=>∃(i j ss:Nat) (rest:bU) (nj:List Int),fr.clean=⟨36,[d,out,.int .i64 (at_:Nat),aR fr 3,aR fr 4,aR fr 5,.int .i64 0,.ptr k7 0 0,.int .i64 (j:Nat),.int .i64 ((min ss 401:Nat):Int),aR fr 10,aR fr 11,aR fr 12,aR fr 13,aR fr 14,aR fr 15,aR fr 16,aR fr 17,.int .i64 n.kids,.int .i64 (i:Nat),aR fr 20,aR fr 21,aR fr 22,aR fr 23,aR fr 24,aR fr 25,aR fr 26,aR fr 27,aR fr 28,aR fr 29,aR fr 30,aR fr 31,aR fr 32,aR fr 33,aR fr 34,aR fr 35],[]⟩∧Has N S2 st (.aT out 1 (nj.map aq)::.box k7 (.mem 0 false (bj n))::H)∧(mm=rest.len)∧(i+rest.len=ks.len)∧(fp l j rest.flat)∧(rest.ok)∧(ss+rest.sz=ks.sz)∧(nj.length=l.length)∧(lS nj j rest.zs=lS es (at_+1) ks.zs)∧(j+rest.flat.length=at_+1+ks.flat.length)∧(rest.flat.length≤m)) (ks.len) ?_ ?_
  ·exact⟨0,at_+1,0,ks,es,rfl,(by have:=hH.front bu;exact this),rfl,by omega,lp,sm,by omega,sr,rfl,rfl,by omega⟩
  rintro mm fr st ⟨i,j,ss,rest,nj,hfr,hH,sk,sq,nc,jh,wT,vC,rC,hj,I5⟩;rw[hfr];clear hfr;generalize aR fr=ee;clear fr;refine qq<|qj fun K hK=>qg ?_;refine qe hK ?_
  cases rest with
  |nil=>
   simp only[bU.len] at sq;simp only[bU.sz] at wT;simp only[bU.flat,List.length_nil] at hj;simp only[bU.zs,wz] at rC;have gK:decide ((i:Int)<n.kids)=false:=by rw[decide_eq_false_iff_not];omega
   refine qq<|qE rfl (by rw[gK]) ?_;refine af.exit ?_;obtain rfl:ss=ks.sz:=by omega
   have lp:=nc;refine qq<|qq<|qj fun K hK=>qp (o:=0) ?_;refine ql hH bu ?_;refine qe hK<|af.merge (fun fr st=>∃(tmp:List (Nat×D)),fr=⟨36,[d,out,.int .i64 (at_:Nat),aR fr 3,aR fr 4,aR fr 5,.int .i64 0,.ptr k7 0 0,.int .i64 (j:Nat),.int .i64 ((bW n (min ks.sz 401) ks.len:Nat):Int),aR fr 10,aR fr 11,aR fr 12,aR fr 13,aR fr 14,aR fr 15,aR fr 16,aR fr 17,aR fr 18,aR fr 19,aR fr 20,aR fr 21,aR fr 22,aR fr 23,aR fr 24,aR fr 25,aR fr 26,aR fr 27,aR fr 28,aR fr 29,aR fr 30,aR fr 31,aR fr 32,aR fr 33,aR fr 34,aR fr 35],tmp⟩∧Has N S2 st (.aT out 1 (nj.map aq)::.box k7 (.mem 0 false (bj n))::H)) ?_ ?_
   ·refine af.block<|qq<|qq<|qj fun K hK=>qg ?_;refine qm ?_;refine qe hK ?_;generalize hw:min ks.sz 401=w;have NT:w≤401:=by omega
    have nE:ks.len≤9223372036854775→True:=fun _=>trivial
    by_cases q2:n.op=2
    ·have hz:bW n w ks.len=1:=by unfold bW;rw[if_pos (.inl q2)]
     rw[hz];refine qD rfl (by simp[q2]) ?_;refine af.skip<|qD rfl (by simp[q2]) ?_;refine qj fun K hK=>qm ?_;refine qe hK ?_;exact⟨_,rfl,hH⟩
    refine qE rfl (by simp[q2]) ?_;refine qq<|qj fun K hK=>qg ?_;refine qm ?_;refine qe hK ?_
    by_cases q7:n.op=7
    ·have hz:bW n w ks.len=1:=by unfold bW;rw[if_pos (.inr (.inl q7))]
     rw[hz];refine qD rfl (by simp[q7]) ?_;refine af.skip<|qD rfl (by simp[q7]) ?_;refine qj fun K hK=>qm ?_;refine qe hK ?_;exact⟨_,rfl,hH⟩
    refine qE rfl (by simp[q7]) ?_;refine qj fun K hK=>qg ?_;refine qm ?_;refine qe hK ?_
    by_cases q8:n.op=8
    ·have hz:bW n w ks.len=1:=by unfold bW;rw[if_pos (.inr (.inr q8))]
     rw[hz];refine qD rfl (by simp[q8]) ?_;refine qj fun K hK=>qm ?_;refine qe hK ?_;exact⟨_,rfl,hH⟩
    refine qE rfl (by simp[q8]) ?_
    have hz0:bW n w ks.len=if n.op=4 then w+2*(ks.len-1) else if n.op=6 then w+2 else if n.op=5 then(if n.mx=-1 then n.mn.toNat*w+w+2 else n.mn.toNat*w+(n.mx.toNat-n.mn.toNat)*(w+1)) else w:=by
     unfold bW;rw[if_neg (by omega)]
    rw[hz0];clear hz0;obtain⟨_,jc⟩:=kv;have hq:(n.op=1∧ks.len=0)∨((n.op=3∨n.op=4)∧2≤ks.len)∨(n.op=5∧ks.len=1∧0≤n.mn∧n.mn≤30∧(n.mx=-1∨(n.mn≤n.mx∧n.mx≤30)))∨(n.op=6∧ks.len=1∧1≤n.cap∧n.cap≤4):=by omega
    refine qq<|qj fun K hK=>qg ?_;refine qm ?_;refine qe hK ?_
    by_cases q4:n.op=4
    ·rw[if_pos q4];have hk2:2≤ks.len:=by omega
     refine qD rfl (by simp[q4]) ?_;refine qj fun K hK=>qm ?_;refine qp (o:=6) ?_;refine ql hH bu ?_;refine ae.gj (z:=((ks.len-1:Nat):Int)) rfl (ev rfl) (ev rfl) (by(try simp only[List.length_reverse,List.length_cons,List.length_nil,List.length_append,List.length_map,List.length_set]);rw[wrap_i64 (by omega) (by omega)]<;>omega) (ag rfl _) ?_;refine ae.na (z:=((2*(ks.len-1):Nat):Int)) rfl (ev rfl) (ev rfl) (by(try simp only[List.length_reverse,List.length_cons,List.length_nil,List.length_append,List.length_map,List.length_set]);rw[wrap_i64 (by omega) (by omega)]<;>omega) (ag rfl _) ?_;refine ae.kN (z:=((w+2*(ks.len-1):Nat):Int)) rfl (ev rfl) (ev rfl) (by(try simp only[List.length_reverse,List.length_cons,List.length_nil,List.length_append,List.length_map,List.length_set]);rw[wrap_i64 (by omega) (by omega)]<;>omega) (ag rfl _) ?_;refine qm ?_;refine qe hK ?_;exact⟨_,rfl,hH⟩
    rw[if_neg q4];refine qE rfl (by simp[q4]) ?_;refine qq<|qj fun K hK=>qg ?_;refine qm ?_;refine qe hK ?_
    by_cases q6:n.op=6
    ·rw[if_pos q6];refine qD rfl (by simp[q6]) ?_;refine qj fun K hK=>qm ?_;refine qA ?_;refine qm ?_;refine qe hK ?_;exact⟨_,rfl,hH⟩
    rw[if_neg q6];refine qE rfl (by simp[q6]) ?_;refine qq<|qj fun K hK=>qg ?_;refine qm ?_;refine qe hK ?_
    by_cases q5:n.op=5
    ·rw[if_pos q5];refine qD rfl (by simp[q5]) ?_;refine qq<|qj fun K hK=>qp (o:=3) ?_;refine ql hH bu ?_;refine qg ?_;refine qe hK ?_;have yA:0≤n.mn∧n.mn≤30∧(n.mx=-1∨(n.mn≤n.mx∧n.mx≤30)):=by omega
     obtain⟨a,ha⟩:∃a:Nat,n.mn=(a:Int):=Int.eq_ofNat_of_zero_le yA.1;have TT:n.mn.toNat=a:=by omega
     have h1:a*w≤30*401:=Nat.mul_le_mul (by omega) NT;have hmul:n.mn*(w:Int)=((a*w:Nat):Int):=by rw[ha];push_cast;rfl
     rw[TT]
     by_cases yW:n.mx=-1
     ·rw[if_pos yW];refine qD rfl (by simp[yW]) ?_;refine qj fun K hK=>qp (o:=2) ?_;refine ql hH bu ?_;refine qm ?_;refine ae.na (z:=((a*w:Nat):Int)) rfl (ev rfl) (ev rfl) (by(try simp only[List.length_reverse,List.length_cons,List.length_nil,List.length_append,List.length_map,List.length_set]);rw[wrap_i64 (by omega) (by omega)]<;>omega) (ag rfl _) ?_;refine qm ?_;refine ae.kN (z:=((a*w+w:Nat):Int)) rfl (ev rfl) (ev rfl) (by(try simp only[List.length_reverse,List.length_cons,List.length_nil,List.length_append,List.length_map,List.length_set]);rw[wrap_i64 (by omega) (by omega)]<;>omega) (ag rfl _) ?_;refine ae.kN (z:=((a*w+w+2:Nat):Int)) rfl (ev rfl) (ev rfl) (by(try simp only[List.length_reverse,List.length_cons,List.length_nil,List.length_append,List.length_map,List.length_set]);rw[wrap_i64 (by omega) (by omega)]<;>omega) (ag rfl _) ?_;refine qm ?_;refine qe hK ?_;exact⟨_,rfl,hH⟩
     ·rw[if_neg yW];obtain⟨b,hb⟩:∃b:Nat,n.mx=(b:Int):=Int.eq_ofNat_of_zero_le (by omega);have TS:n.mx.toNat=b:=by omega
      have h2:(b-a)*(w+1)≤30*402:=Nat.mul_le_mul (by omega) (by omega);rw[TS];refine qE rfl (by simp[yW]) ?_;refine qj fun K hK=>qp (o:=2) ?_;refine ql hH bu ?_;refine qm ?_;refine ae.na (z:=((a*w:Nat):Int)) rfl (ev rfl) (ev rfl) (by(try simp only[List.length_reverse,List.length_cons,List.length_nil,List.length_append,List.length_map,List.length_set]);rw[wrap_i64 (by omega) (by omega)]<;>omega) (ag rfl _) ?_;refine qp (o:=3) ?_;refine ql hH bu ?_;refine qp (o:=2) ?_;refine ql hH bu ?_;refine ae.gj (z:=((b-a:Nat):Int)) rfl (ev rfl) (ev rfl) (by(try simp only[List.length_reverse,List.length_cons,List.length_nil,List.length_append,List.length_map,List.length_set]);rw[wrap_i64 (by omega) (by omega)]<;>omega) (ag rfl _) ?_;refine qm ?_;refine ae.kN (z:=((w+1:Nat):Int)) rfl (ev rfl) (ev rfl) (by(try simp only[List.length_reverse,List.length_cons,List.length_nil,List.length_append,List.length_map,List.length_set]);rw[wrap_i64 (by omega) (by omega)]<;>omega) (ag rfl _) ?_;refine ae.na (z:=(((b-a)*(w+1):Nat):Int)) rfl (ev rfl) (ev rfl) (by(try simp only[List.length_reverse,List.length_cons,List.length_nil,List.length_append,List.length_map,List.length_set]);rw[wrap_i64 (by omega) (by omega)]<;>omega) (ag rfl _) ?_;refine ae.kN (z:=((a*w+(b-a)*(w+1):Nat):Int)) rfl (ev rfl) (ev rfl) (by(try simp only[List.length_reverse,List.length_cons,List.length_nil,List.length_append,List.length_map,List.length_set]);rw[wrap_i64 (by omega) (by omega)]<;>omega) (ag rfl _) ?_;refine qm ?_;refine qe hK ?_;exact⟨_,rfl,hH⟩
    ·rw[if_neg q5];refine qE rfl (by simp[q5]) ?_;refine af.skip ?_;exact⟨_,rfl,hH⟩
   ·rintro fr st ⟨tmp,hfr,hH⟩;rw[hfr];clear hfr;generalize aR fr=ee;clear fr;have ko:=EO (n:=n) (k:=ks.len) (s:=ks.sz);have iy:at_<nj.length:=by omega
    obtain⟨w,hw⟩:∃w,nj[at_]?=some w:=⟨nj[at_]'iy,List.getElem?_eq_getElem _⟩
    have T4:=cW hw;refine qq<|qj fun K hK=>qm ?_;refine qm ?_;refine qm ?_;refine ae.K8 (z:=((min (bW n ks.sz ks.len) 401:Nat):Int)) (t1:=_) (t2:=_) rfl (ev rfl) (ev rfl) (by omega) (ag rfl _) ?_;refine qi hH aB fun SK Oh=>?_;refine ae.gz hH rfl (ev rfl) (ev rfl) (by assumption) rfl rfl (by exact aB) (by assumption) (Nat.le_of_ble_eq_true rfl) (by exact .inr rfl) (fun st hH=>?_);dsimp only[u2,u1,u3,u4,setMany,u5,u6,D.cells,Nat.reduceAdd,bj,aq] at hH;refine qe hK<|qq<|qj fun K hK=>qm ?_;refine qm ?_;refine qe hK<|af.ret ⟨rx,_,_,_,rfl,av (rfl),?_⟩;have OZ:j=at_+(Tr.mk n ks).flat.length:=by simp only[Tr.flat,List.length_cons];omega
    refine⟨by rw[OZ];rfl,?_⟩
    have dD:lS es at_ (Tr.zs (.mk n ks))=nj.set at_ ((min (bW n ks.sz ks.len) 401:Nat):Int):=by
     rw[rC,wy (by rw[bU.gV];omega)];rfl
    rw[dD,List.map_set];exact cy.tG cq (hH.erase 1)
  |cons t ts=>
   simp only[bU.len] at sq sk;simp only[bU.sz] at wT;simp only[bU.flat,List.length_append] at hj nc I5;simp only[bU.zs] at rC;simp only[bU.ok] at jh;have gK:decide ((i:Int)<n.kids)=true:=by rw[decide_eq_true_eq];omega
   have TP:=t.iz;have I0:=t.gV;have Lh:=ts.gV;have Jt:(lS nj j t.zs).length=l.length:=by rw[wA (by omega)];exact vC
   have TH:(lS nj j t.zs)[j]?=some ((min t.sz 401:Nat):Int):=by
    obtain⟨n',Lc⟩:=t;simp only[Tr.zs,Tr.sz];exact Ba (by omega)
   have WK:=cW TH;refine qq<|qD rfl (by rw[gK]) ?_;refine af.skip<|qq<|af.block<|qq<|qj fun K hK=>qm ?_;refine qm ?_;refine qe hK<|qq<|qj fun K hK=>qm ?_;refine qm ?_;refine qm ?_;obtain⟨_,st,aS,rfl,hH⟩:=ih t (by omega) jh.1 nc.left vC hH;refine qv aS ?_;refine qm ?_;refine qe hK<|qj fun K hK=>qm ?_;refine qm ?_;refine qm ?_;refine qi hH aB fun Q0 LD=>?_;refine qo hH aB ?_;refine ae.kN (z:=((min ss 401+min t.sz 401:Nat):Int)) rfl (ev rfl) (ev rfl) (by(try simp only[List.length_reverse,List.length_cons,List.length_nil,List.length_append,List.length_map,List.length_set]);rw[wrap_i64 (by omega) (by omega)]<;>omega) (by dsimp only[Fr.put,u1,u2]<;>rfl) ?_;refine ae.K8 (z:=((min (ss+t.sz) 401:Nat):Int)) (t1:=_) (t2:=_) rfl (ev rfl) (ev rfl) (by omega) (by dsimp only[Fr.put,u1,u2]<;>rfl) ?_;refine qm ?_;refine qe hK<|qj fun K hK=>qA ?_;refine qm ?_;refine qe hK ?_;exact⟨mm-1,by omega,⟨i+1,j+t.flat.length,ss+t.sz,ts,lS nj j t.zs,rfl,hH,by omega,by omega,nc.right,jh.2,by omega,Jt,by rw[←rC];have:=wx (es:=nj) (a:=j) (M:=t.zs) (M':=ts.zs) (by omega);rw[I0] at this;exact this,by omega,by omega⟩⟩
theorem EH {l:List ec} {d:D} (hl:l.length≤1048576) (hi:∀n∈l,n.ok) (hd:gq d 7 (l.map bj)):∀(m:Nat) (t:Tr),t.flat.length≤m→t.ok→∀{N:Nat} {S s0:St} {H:List cz} {out:D} {es:List Int} {at_:Nat},fp l at_ t.flat→es.length=l.length→Has N S s0 (.aT out 1 (es.map aq)::H)→
  ∃r ai,Ev pv 38 [d,out,.int .i64 (at_:Nat)] s0 r ai∧r=.int .i64 ((at_+t.flat.length:Nat):Int)∧Has N S ai (.aT out 1 ((lS es at_ (t.es at_)).map aq)::H):=by
 intro m
 induction m with
 |zero=>intro t h;have:=t.iz;omega
 |succ m ih=>
  rintro⟨n,ks⟩ hm dz N S s0 H out es at_ lp sr hH;simp only[Tr.ok] at dz;obtain⟨kv,sm⟩:=dz;simp only[Tr.flat,List.length_cons] at hm;have hle:=lp.le (by simp[Tr.flat]);simp only[Tr.flat] at lp hle;simp only[List.length_cons] at hle;have hn:=lp.head;have lp:=lp.tail;have LN:=hi n (List.mem_of_getElem? hn);have gI:=j7 hn;have Kh:=kv.1;have nh:=bU.og ks;refine Ev.mP rfl Qb rfl rfl rfl ?_;dsimp only[u3,u4,List.length,Nat.reduceSub,Nat.reduceAdd,w1,w2];have cy:=hH;have hH:=hH.cH;have cq:(aj .rw s0).bs=s0.bs:=rfl;generalize aj .rw s0=S2 at*;have hc:=hd.arg N S2;refine qq<|qj fun K hK=>qm ?_;refine qe hK<|qq<|qj fun K hK=>qm ?_;refine qA ?_;refine qm ?_;refine qe hK<|qq<|qq<|qj fun K hK=>qm ?_;refine qm ?_;refine qr fun Q3 LI=>?_;refine qf (fo:=6) fun S7 OB=>?_;refine qR ?_;refine qm ?_;refine qe hK<|af.block<|af.loop (fun mm fr st=>∃(i j:Nat) (rest:bU) (nj:List Int),fr.clean=⟨16,[d,out,.int .i64 (at_:Nat),aR fr 3,aR fr 4,aR fr 5,.int .i64 0,.int .i64 (j:Nat),aR fr 8,aR fr 9,aR fr 10,aR fr 11,aR fr 12,aR fr 13,.int .i64 n.kids,.int .i64 (i:Nat)],[]⟩∧Has N S2 st (.aT out 1 (nj.map aq)::H)∧(mm=rest.len)∧(i+rest.len=ks.len)∧(fp l j rest.flat)∧(rest.ok)∧(nj.length=l.length)∧(lS nj j (rest.es j)=lS es (at_+1) (ks.es (at_+1)))∧(j+rest.flat.length=at_+1+ks.flat.length)∧(rest.flat.length≤m)) (ks.len) ?_ ?_
  ·exact⟨0,at_+1,ks,es,rfl,hH,rfl,by omega,lp,sm,sr,rfl,rfl,by omega⟩
  rintro mm fr st ⟨i,j,rest,nj,hfr,hH,sk,sq,nc,jh,vC,rC,hj,I5⟩;rw[hfr];clear hfr;generalize aR fr=ee;clear fr;refine qq<|qj fun K hK=>qg ?_;refine qe hK ?_
  cases rest with
  |nil=>
   simp only[bU.len] at sq;simp only[bU.flat,List.length_nil] at hj;simp only[bU.es,wz] at rC;have gK:decide ((i:Int)<n.kids)=false:=by rw[decide_eq_false_iff_not];omega
   have iy:at_<nj.length:=by omega
   obtain⟨w,hw⟩:∃w,nj[at_]?=some w:=⟨nj[at_]'iy,List.getElem?_eq_getElem _⟩
   have T4:=cW hw;refine qq<|qE rfl (by rw[gK]) ?_;refine af.exit<|qq<|qj fun K hK=>qm ?_;refine qm ?_;refine qm ?_;refine qi hH aB fun MR El=>?_;refine ae.gz hH rfl (ev rfl) (ev rfl) (by assumption) rfl rfl (by exact aB) (by assumption) (Nat.le_of_ble_eq_true rfl) (by exact .inr rfl) (fun st hH=>?_);dsimp only[u2,u1,u3,u4,setMany,u5,u6,D.cells,Nat.reduceAdd,bj,aq] at hH;refine qe hK<|qq<|qj fun K hK=>qm ?_;refine qm ?_;refine qe hK<|af.ret ⟨rx,_,_,_,rfl,av (rfl),?_⟩;have OZ:j=at_+(Tr.mk n ks).flat.length:=by simp only[Tr.flat,List.length_cons];omega
   refine⟨by rw[OZ];rfl,?_⟩
   have dD:lS es at_ (Tr.es (.mk n ks) at_)=nj.set at_ ((j:Nat):Int):=by
    rw[rC,wy (by rw[bU.h_];omega)];have:j=at_+1+ks.flat.length:=by omega
    rw[this];rfl
   rw[dD,List.map_set];exact cy.tG cq hH
  |cons t ts=>
   simp only[bU.len] at sq sk;simp only[bU.flat,List.length_append] at hj nc I5;simp only[bU.es] at rC;simp only[bU.ok] at jh;have gK:decide ((i:Int)<n.kids)=true:=by rw[decide_eq_true_eq];omega
   have TP:=t.iz;have I0:=t.h_ j;have Lh:=ts.h_ (j+t.flat.length);have Jt:(lS nj j (t.es j)).length=l.length:=by rw[wA (by omega)];exact vC
   refine qq<|qD rfl (by rw[gK]) ?_;refine af.skip<|qq<|af.block<|qj fun K hK=>qm ?_;refine qm ?_;refine qm ?_;obtain⟨_,st,aS,rfl,hH⟩:=ih t (by omega) jh.1 nc.left vC hH;refine qv aS ?_;refine qm ?_;refine qe hK<|qj fun K hK=>qA ?_;refine qm ?_;refine qe hK ?_;exact⟨mm-1,by omega,⟨i+1,j+t.flat.length,ts,lS nj j (t.es j),rfl,hH,by omega,by omega,nc.right,jh.2,Jt,by rw[←rC];have:=wx (es:=nj) (a:=j) (M:=t.es j) (M':=ts.es (j+t.flat.length)) (by omega);rw[I0] at this;exact this,by omega,by omega⟩⟩
theorem fM {N k:Nat} {S s0:St} {H:List cz} {ks:Nat→Prop} {cd nd zd ed w:D} {code:List bC} {op x y:Int} {rs:List Rg} (hF:S.flr≤N) (hl:code.length≤1048576) (hH:Has N S s0 (.aT w 2 (rs.map aw)::.box k (.mem 0 false [cd,nd,zd,ed])::.deep ks cd 4 (code.map aL)::H)):
  ∃r ai,Ev pv 39 [.ptr k 0 0,.agg [.int .i64 op,.int .i64 x,.int .i64 y,w]] s0 r ai∧r=.int .i64 (code.length:Nat)∧∃Se Lc,Has N S ai (.box k (.mem 0 false [Se,nd,zd,ed])::.deep Lc Se 4 ((code++[ej op x y rs]).map aL)::H):=by
 refine Ev.mP rfl Qa rfl rfl rfl ?_;dsimp only[u3,u4,List.length,Nat.reduceSub,Nat.reduceAdd,w1,w2];change af _ _ _ _ s0 _;refine qq<|qj fun K hK=>qb hH fun k3 st Kj hH=>?_;refine qm ?_;refine qe hK<|qq<|qj fun K hK=>qm ?_;refine qm ?_;refine qg ?_;refine qp (o:=0) ?_;refine ql hH ez ?_;refine ae.bF (m:=4) hH rfl (ev rfl) (by exact aB) (by dsimp only[List.drop_succ_cons,List.drop_zero,List.take_succ_cons,List.take_zero,aL]<;>rfl) rfl rfl (ag rfl _) ?_;refine qh (s:=4) (vs:=[_]) hH fun Le st Eu hH=>?_;obtain⟨hH,Ve⟩:=hH.J4 (i:=2) (j:=4) (by decide) ez iZ (eT _);dsimp only[u1,u2] at hH;refine ae.rU hH rfl (ev rfl) (ev rfl) iZ (hH.rows aB) (.cons (.cons (.plain _ rfl) (.cons (.plain _ rfl) (.cons (.plain _ rfl) (.cons Ve .nil)))) .nil) rfl rfl rfl rfl rfl rfl rfl ⟨(Nat.le_of_ble_eq_true rfl),(Nat.le_of_ble_eq_true rfl)⟩ (fun _=>(ag rfl _)) (by simp only[List.length_map,List.length_cons,List.length_nil];omega) (.inl hF) (fun VV st hH=>?_);dsimp only[u1,u2] at hH;refine qg ?_;refine qp (o:=0) ?_;refine ae.ow hH rfl (ev rfl) (ev rfl) (by exact hH.Ao (by exact iZ)) (by exact rfl) (by exact gm) (by exact Nat.le_of_ble_eq_true rfl) (by exact .inl hF) (fun st hH=>?_);dsimp only[u2,u1,u3,u4,setMany,u5,u6,D.cells,Nat.reduceAdd,aL] at hH;refine qe hK<|qq<|qj fun K hK=>qm ?_;refine qg ?_;refine qp (o:=0) ?_;refine ql hH gm ?_;refine ae.yj hH rfl (ev rfl) (by exact iZ) rfl (ag rfl _) ?_;simp only[List.length_map,List.length_append,List.length_cons,List.length_nil];refine ae.gj (z:=((code.length:Nat):Int)) rfl (ev rfl) (ev rfl) (by(try simp only[List.length_reverse,List.length_cons,List.length_nil,List.length_append,List.length_map,List.length_set]);rw[wrap_i64 (by omega) (by omega)]<;>omega) (ag rfl _) ?_;refine qm ?_;refine qe hK<|af.ret ⟨rx,_,_,_,rfl,rfl,?_⟩;exact⟨rfl,_,_,by rw[List.map_append];exact hH.drop 3⟩
theorem nN {N k:Nat} {S s0:St} {H:List cz} {ks:Nat→Prop} {cd nd zd ed:D} {code:List bC} {at_ over:Nat} {lz:Bool} {x y:Int} (iy:code[at_]?=some (ej 2 x y [])) (hl:code.length≤1048576) (hH:Has N S s0 (.box k (.mem 0 false [cd,nd,zd,ed])::.deep ks cd 4 (code.map aL)::H)):
  ∃r ai,Ev pv 76 [.ptr k 0 0,.int .i64 (at_:Nat),.int .i64 (over:Nat),.bool lz] s0 r ai∧r=.tup []∧Has N S ai (.box k (.mem 0 false [cd,nd,zd,ed])::.deep ks cd 4 ((code.set at_ (qL at_ over lz)).map aL)::H):=by
 have hlt:=cn iy;have gI:(code.map aL)[at_]?=some [.int .i64 2,.int .i64 x,.int .i64 y,.sl []]:=fO iy;have dD:∀a b:List D,(code.map aL).set at_ a=(code.map aL).set at_ a:=fun _ _=>rfl;refine Ev.mP rfl PN rfl rfl rfl ?_;dsimp only[u3,u4,List.length,Nat.reduceSub,Nat.reduceAdd,w1,w2];have cy:=hH;have hH:=hH.cH;have cq:(aj .rw s0).bs=s0.bs:=rfl;generalize aj .rw s0=S2 at*;refine qq<|qj fun K hK=>qm ?_;refine qg ?_;refine qp (o:=0) ?_;refine ql hH aB ?_;refine qm ?_;refine qm ?_;refine qg ?_;refine qp (o:=0) ?_;refine ql hH aB ?_;refine qm ?_;refine qm ?_;refine ae.kN (z:=((at_+1:Nat):Int)) rfl (ev rfl) (ev rfl) (by(try simp only[List.length_reverse,List.length_cons,List.length_nil,List.length_append,List.length_map,List.length_set]);rw[wrap_i64 (by omega) (by omega)]<;>omega) (ag rfl _) ?_;refine qm ?_;refine ae.Am (s:=4) hH rfl (ev rfl) (ev rfl) (by exact bu) rfl rfl (by exact cn (by assumption)) (fun _=>(ag rfl _)) (fun K3 zK=>?_);refine ae.fN (fo:=1) (m:=0) (o2:=1) rfl (ev rfl) (by assumption) rfl rfl rfl (fun _=>(ag rfl _)) (fun MT En=>?_);refine ae.oK hH rfl (ev rfl) (ev rfl) (by assumption) rfl rfl (by exact bu) (by assumption) (Nat.le_of_ble_eq_true rfl) (by intro d hd;simp only[List.mem_cons,List.not_mem_nil,or_false] at hd;subst hd;rfl) (by exact .inr rfl) (fun st hH=>?_);dsimp only[u2,u1,u3,u4,setMany,u5,u6,D.cells,Nat.reduceAdd,aL] at hH;refine ae.Am (s:=4) hH rfl (ev rfl) (ev rfl) (by exact bu) rfl rfl (by simp only[List.length_map,List.length_set]<;>omega) (fun _=>(ag rfl _)) (fun Q1 LF=>?_);refine ae.fN (fo:=2) (m:=0) (o2:=2) rfl (ev rfl) (by assumption) rfl rfl rfl (fun _=>(ag rfl _)) (fun MS Em=>?_);refine ae.oK hH rfl (ev rfl) (ev rfl) (by assumption) rfl rfl (by exact bu) (List.getElem?_set_self (by simp only[List.length_set,List.length_map];omega)) (Nat.le_of_ble_eq_true rfl) (by intro d hd;simp only[List.mem_cons,List.not_mem_nil,or_false] at hd;subst hd;rfl) (by exact .inr rfl) (fun st hH=>?_);dsimp only[u1,u2,setMany] at hH;rw[List.set_set] at hH;refine qe hK<|qq<|qj fun K hK=>qm ?_;refine qe hK ?_
 cases lz with
 |false=>
  refine qC ?_;refine af.skip ?_;refine⟨fun i h=>(by cases h),_,_,_,rfl,av rfl,?_⟩;exact⟨rfl,by rw[List.map_set];exact cy.tH cq hH⟩
 |true=>
  refine qB ?_;refine qj fun K hK=>qm ?_;refine qg ?_;refine qp (o:=0) ?_;refine ql hH aB ?_;refine qm ?_;refine qm ?_;refine qg ?_;refine qp (o:=0) ?_;refine ql hH aB ?_;refine qm ?_;refine qm ?_;refine qm ?_;refine ae.kN (z:=((at_+1:Nat):Int)) rfl (ev rfl) (ev rfl) (by(try simp only[List.length_reverse,List.length_cons,List.length_nil,List.length_append,List.length_map,List.length_set]);rw[wrap_i64 (by omega) (by omega)]<;>omega) (ag rfl _) ?_;refine ae.Am (s:=4) hH rfl (ev rfl) (ev rfl) (by exact bu) rfl rfl (by simp only[List.length_map,List.length_set]<;>omega) (fun _=>(ag rfl _)) (fun QY LB=>?_);refine ae.fN (fo:=1) (m:=0) (o2:=1) rfl (ev rfl) (by assumption) rfl rfl rfl (fun _=>(ag rfl _)) (fun SV Ov=>?_);refine ae.oK hH rfl (ev rfl) (ev rfl) (by assumption) rfl rfl (by exact bu) (List.getElem?_set_self (by simp only[List.length_set,List.length_map];omega)) (Nat.le_of_ble_eq_true rfl) (by intro d hd;simp only[List.mem_cons,List.not_mem_nil,or_false] at hd;subst hd;rfl) (by exact .inr rfl) (fun st hH=>?_);dsimp only[u1,u2,setMany] at hH;rw[List.set_set] at hH;refine ae.Am (s:=4) hH rfl (ev rfl) (ev rfl) (by exact bu) rfl rfl (by simp only[List.length_map,List.length_set]<;>omega) (fun _=>(ag rfl _)) (fun Wl Us=>?_);refine ae.fN (fo:=2) (m:=0) (o2:=2) rfl (ev rfl) (by assumption) rfl rfl rfl (fun _=>(ag rfl _)) (fun SU Ou=>?_);refine ae.oK hH rfl (ev rfl) (ev rfl) (by assumption) rfl rfl (by exact bu) (List.getElem?_set_self (by simp only[List.length_set,List.length_map];omega)) (Nat.le_of_ble_eq_true rfl) (by intro d hd;simp only[List.mem_cons,List.not_mem_nil,or_false] at hd;subst hd;rfl) (by exact .inr rfl) (fun st hH=>?_);dsimp only[u1,u2,setMany] at hH;rw[List.set_set] at hH;refine qe hK ?_;refine⟨fun i h=>(by cases h),_,_,_,rfl,av rfl,?_⟩;exact⟨rfl,by rw[List.map_set];exact cy.tH cq hH⟩
def az (fr:Go.V.Fr) (k:Nat):Go.V.D:=Go.V.nth .bA fr.loc k
def jA (n:Nat):List D:=[.int .i64 (n:Nat)]
theorem tz {l:List Nat} {i q:Nat} (h:l[i]?=some q):(l.map jA)[i]?=some (jA q):=by rw[List.getElem?_map,h];rfl
def Kp (N:Nat) (S st:St) (k:Nat) (nd zd ed:D) (Z E:List Int) (H:List cz) (code:List bC):Prop:=
 ∃cd ks,Has N S st (.box k (.mem 0 false [cd,nd,zd,ed])::.deep ks cd 4 (code.map aL)::.aT zd 1 (Z.map aq)::.aT ed 1 (E.map aq)::H)
def oU (l:List ec) (t:Tr):Prop:=∀{N k:Nat} {S s0:St} {H:List cz} {nd zd ed:D} {code:List bC} {Z E:List Int} {at_:Nat},S.flr≤N→gq nd 7 (l.map bj)→fp l at_ t.flat→fp Z at_ t.zs→fp E at_ (t.es at_)→t.ok→code.length+t.sz≤1000000→Kp N S s0 k nd zd ed Z E H code→
 ∃r ai,Ev pv 40 [.ptr k 0 0,.int .i64 (at_:Nat)] s0 r ai∧r=.tup []∧Kp N S ai k nd zd ed Z E H (code++a8 t code.length)
theorem xf {E:List Int} {t:Tr} {a:Nat} (h:fp E a (t.es a)):E[a]?=some ((a+t.flat.length:Nat):Int):=by
 obtain⟨n,ks⟩:=t;simp only[Tr.es] at h;rw[h.head];simp only[Tr.flat,List.length_cons]
 congr 2;omega
theorem wg {Z:List Int} {t:Tr} {a:Nat} (h:fp Z a t.zs):Z[a]?=some ((min t.sz 401:Nat):Int):=by
 obtain⟨n,ks⟩:=t;simp only[Tr.zs] at h;rw[h.head];rfl
theorem J1 {l:List ec} (AY:l.length≤1048576) {m:Nat} (ih:∀t:Tr,t.flat.length≤m→oU l t) {n:ec} {ks:bU} (fm:n.op=4) (RF:ks.flat.length≤m) (kv:tv n ks.len) (sm:ks.ok) {N k:Nat} {S s0:St} {H:List cz} {nd zd ed:D} {code:List bC} {Z E:List Int} {at_:Nat} (hF:S.flr≤N) (vw:gq nd 7 (l.map bj)) (jb:fp l at_ (n::ks.flat)) (hsz:fp Z (at_+1) ks.zs) (yy:fp E (at_+1) (ks.es (at_+1))) (hb:code.length+bW n ks.sz ks.len≤1000000) (hM:Kp N S s0 k nd zd ed Z E H code):
  ∃r ai,Ev pv 61 [.ptr k 0 0,.int .i64 (at_:Nat)] s0 r ai∧r=.tup []∧Kp N S ai k nd zd ed Z E H (code++gF (pK (code.length+bW n ks.sz ks.len)) ks code.length):=by
 obtain⟨cd,dk,hH⟩:=hM;have hle:=jb.le (by simp);simp only[List.length_cons] at hle;have hn:=jb.head;have jb:=jb.tail;have gI:=j7 hn;have Kh:=kv.1;have nE:=bU.og ks
 have hk2:2≤ks.len:=by
  obtain⟨_,hq⟩:=kv;omega
 have Er:bW n ks.sz ks.len=ks.sz+2*(ks.len-1):=by unfold bW;rw[if_neg (by omega),if_pos fm]
 rw[Er] at hb⊢;clear Er;refine Ev.mP rfl PZ rfl rfl rfl ?_;dsimp only[u3,u4,List.length,Nat.reduceSub,Nat.reduceAdd,w1,w2];change af _ _ _ _ s0 _;have hc:=vw.arg N S;refine qq<|qj fun K hK=>qm ?_;refine qe hK<|qq<|qj fun K hK=>qm ?_;refine qA ?_;refine qm ?_;refine qe hK<|qq<|qq<|qj fun K hK=>qm ?_;refine qg ?_;refine qp (o:=1) ?_;refine ql hH aB ?_;refine qm ?_;refine qr fun Nw Jd=>?_;refine qf (fo:=6) fun S5 OA=>?_;refine qR ?_;refine qm ?_;refine qe hK ?_;have hH:Has N S s0 (.box k (.mem 0 false [cd,nd,zd,ed])::.deep dk cd 4 (code.map aL)::.aT zd 1 (Z.map aq)::.aT ed 1 (E.map aq)::.aT .nul 1 (([]:List Nat).map jA)::H):=(hH.fx 1).DM;refine af.block<|af.loop (fun mm fr st=>∃(i j:Nat) (rest:bU) (cd jd:D) (dk:Nat→Prop) (a_:List bC) (js:List Nat),fr.clean=⟨68,[.ptr k 0 0,.int .i64 (at_:Nat),az fr 2,az fr 3,jd,.int .i64 (j:Nat),az fr 6,az fr 7,az fr 8,az fr 9,az fr 10,az fr 11,az fr 12,az fr 13,az fr 14,az fr 15,az fr 16,az fr 17,az fr 18,.int .i64 n.kids,.int .i64 (i:Nat),az fr 21,az fr 22,az fr 23,az fr 24,az fr 25,az fr 26,az fr 27,az fr 28,az fr 29,az fr 30,az fr 31,az fr 32,az fr 33,az fr 34,az fr 35,az fr 36,az fr 37,az fr 38,az fr 39,az fr 40,az fr 41,az fr 42,az fr 43,az fr 44,az fr 45,az fr 46,az fr 47,az fr 48,az fr 49,az fr 50,az fr 51,az fr 52,az fr 53,az fr 54,az fr 55,az fr 56,az fr 57,az fr 58,az fr 59,az fr 60,az fr 61,az fr 62,az fr 63,az fr 64,az fr 65,az fr 66,az fr 67],[]⟩∧Has N S st (.box k (.mem 0 false [cd,nd,zd,ed])::.deep dk cd 4 (a_.map aL)::.aT zd 1 (Z.map aq)::.aT ed 1 (E.map aq)::.aT jd 1 (js.map jA)::H)∧(mm=rest.len)∧(i+rest.len=ks.len)∧(0<rest.len)∧(fp l j rest.flat)∧(fp Z j rest.zs)∧(fp E j (rest.es j))∧(rest.ok)∧(a_++gF (pK 0) rest a_.length=code++gF (pK 0) ks code.length)∧(js++oT rest a_.length=oT ks code.length)∧(a_.length+(rest.sz+2*(rest.len-1))=code.length+(ks.sz+2*(ks.len-1)))∧(rest.flat.length≤m)∧(js.length≤i)) (ks.len) ?_ ?_
 ·exact⟨0,at_+1,ks,cd,.nul,dk,code,[],rfl,hH,rfl,by omega,by omega,jb,hsz,yy,sm,rfl,rfl,rfl,RF,by simp⟩
 rintro mm fr st ⟨i,j,rest,cd,jd,dk,a_,js,hfr,hH,sk,sq,I_,nc,tN,nb,jh,gd,hjs,hcl,I5,ng⟩;rw[hfr];clear hfr;generalize az fr=ee;clear fr;refine qq<|qj fun K hK=>qg ?_;refine qe hK ?_
 cases rest with
 |nil=>simp[bU.len] at I_
 |cons t ts=>
  simp only[bU.len] at sq sk hcl;simp only[bU.sz] at hcl;simp only[bU.flat,List.length_append] at nc I5;simp only[bU.zs] at tN;simp only[bU.es] at nb;simp only[bU.ok] at jh;have I0:=t.gV;have Ln:=t.h_ j;have x0:=dF t (a_.length+1) jh.1;have N9:=cW (xf nb.left);have gK:decide ((i:Int)<n.kids)=true:=by rw[decide_eq_true_eq];omega
  refine qq<|qD rfl (by rw[gK]) ?_;refine af.skip<|qq<|af.block<|qq<|qj fun K hK=>qm ?_;refine qm ?_;refine qe hK<|qq<|qq<|qj fun K hK=>qm ?_;refine qm ?_;refine qg ?_;refine qp (o:=1) ?_;refine ql hH aB ?_;refine qm ?_;refine qr fun Q0 LD=>?_;refine qf (fo:=6) fun QZ LC=>?_;refine qR ?_;refine ae.gj (z:=((ks.len-1:Nat):Int)) rfl (ev rfl) (ev rfl) (by(try simp only[List.length_reverse,List.length_cons,List.length_nil,List.length_append,List.length_map,List.length_set]);rw[wrap_i64 (by omega) (by omega)]<;>omega) (by dsimp only[Fr.put,u1,u2]<;>rfl) ?_;refine qg ?_;refine qe hK ?_
  by_cases mU:ts.len=0
  ·simp only[gF,oT,if_pos mU,List.append_nil] at gd hjs;have TQ:=bU.len_nil mU;subst TQ;simp only[bU.sz,bU.len] at hcl sq;have Jw:(((i:Nat):Int)==((ks.len-1:Nat):Int))=true:=by rw[beq_iff_eq];omega
   refine qD rfl (by rw[Jw]) ?_;refine qq<|qj fun K hK=>qm ?_;refine qm ?_;obtain⟨_,st,aS,rfl,cd,dk,hH⟩:=ih t (by omega) hF vw nc.left tN.left nb.left jh.1 (by omega) ⟨cd,dk,hH⟩;refine qv aS ?_;refine qe hK<|af.exit<|qq<|qj fun K hK=>qm ?_;refine qn ?_ (hR:=hH.rows iZ);simp only[List.length_map];refine qm ?_;refine qe hK ?_;rw[gd] at hH;have hal:=oS (pK 0) ks code.length sm;obtain⟨Eo,Jc⟩:=mE (jp:=pK (code.length+(ks.sz+2*(ks.len-1)))) (i0:=pK 0) ks code.length code [] sm rfl;simp only[List.append_nil] at Eo Jc;have Ps:(code++gF (pK 0) ks code.length).length=code.length+(ks.sz+2*(ks.len-1)):=by rw[List.length_append,hal]
   rw[←hjs] at Eo Jc;rw[←Eo];clear Eo gd;generalize code++gF (pK 0) ks code.length=C0 at*;generalize code.length+(ks.sz+2*(ks.len-1))=e at*;refine af.block<|af.loop (fun mm fr st=>∃(q:Nat) (C:List bC),fr.clean=⟨68,[.ptr k 0 0,az fr 1,az fr 2,az fr 3,az fr 4,az fr 5,az fr 6,az fr 7,az fr 8,az fr 9,az fr 10,az fr 11,az fr 12,az fr 13,az fr 14,az fr 15,az fr 16,az fr 17,az fr 18,az fr 19,az fr 20,az fr 21,az fr 22,az fr 23,az fr 24,az fr 25,az fr 26,az fr 27,az fr 28,az fr 29,az fr 30,az fr 31,az fr 32,az fr 33,az fr 34,az fr 35,az fr 36,az fr 37,az fr 38,az fr 39,az fr 40,az fr 41,az fr 42,az fr 43,az fr 44,az fr 45,az fr 46,az fr 47,az fr 48,az fr 49,az fr 50,az fr 51,az fr 52,az fr 53,az fr 54,az fr 55,az fr 56,az fr 57,az fr 58,az fr 59,az fr 60,az fr 61,az fr 62,az fr 63,az fr 64,jd,.int .i64 (js.length:Nat),.int .i64 (q:Nat)],[]⟩∧Has N S st (.box k (.mem 0 false [cd,nd,zd,ed])::.deep dk cd 4 (C.map aL)::.aT zd 1 (Z.map aq)::.aT ed 1 (E.map aq)::.aT jd 1 (js.map jA)::H)∧(q+mm=js.length)∧(gw (fun _=>pK e) C (js.drop q)=gw (fun _=>pK e) C0 js)∧(∀p∈js,∃v:Int,C[p]?=some (ej 3 v 0 []))∧(C.length=e)) (js.length) ?_ ?_
   ·exact⟨0,C0,rfl,hH,by omega,rfl,fun p hp=>⟨_,Jc p hp⟩,Ps⟩
   rintro mm fr st ⟨q,C,hfr,hH,hq,c9,jk,Ms⟩;rw[hfr];clear hfr;generalize az fr=ee;clear fr;refine qq<|qj fun K hK=>qg ?_;refine qe hK<|qq ?_;refine af.cond (by rfl) (fun hlt=>?_) (fun hlt=>?_)<;>try simp only[decide_eq_true_eq,decide_eq_false_iff_not] at hlt
   ·refine af.skip ?_;have Ke:q<js.length:=by omega
    obtain⟨p,hp⟩:∃p,js[q]?=some p:=⟨js[q]'Ke,List.getElem?_eq_getElem _⟩
    obtain⟨v,hv⟩:=jk p (List.mem_of_getElem? hp);have gI:=tz hp;have kP:=fO hv;have ji:=cn hv;refine qq<|af.block<|qq<|qj fun K hK=>qi hH iZ fun SO Om=>?_;refine qo hH iZ ?_;refine qm ?_;refine qe hK<|qj fun K hK=>qm ?_;refine qg ?_;refine qp (o:=0) ?_;refine ql hH aB ?_;refine qm ?_;refine qm ?_;refine qg ?_;refine qp (o:=0) ?_;refine ql hH aB ?_;refine ae.yj hH rfl (ev rfl) (by exact bu) rfl (ag rfl _) ?_;simp only[List.length_map];refine ae.Am (s:=4) hH rfl (ev rfl) (ev rfl) (by exact bu) rfl rfl (by exact cn (by assumption)) (fun _=>(ag rfl _)) (fun SK Oh=>?_);refine ae.fN (fo:=1) (m:=0) (o2:=1) rfl (ev rfl) (by assumption) rfl rfl rfl (fun _=>(ag rfl _)) (fun SJ Og=>?_);refine ae.oK hH rfl (ev rfl) (ev rfl) (by assumption) rfl rfl (by exact bu) (by assumption) (Nat.le_of_ble_eq_true rfl) (by intro d hd;simp only[List.mem_cons,List.not_mem_nil,or_false] at hd;subst hd;rfl) (by exact .inl hF) (fun st hH=>?_);dsimp only[u2,u1,u3,u4,setMany,u5,u6,D.cells,Nat.reduceAdd,aL,bj,aq,jA] at hH;refine qe hK<|qj fun K hK=>qA ?_;refine qm ?_;refine qe hK ?_
    have x8:js.drop q=p::js.drop (q+1):=by
     rw[List.drop_eq_getElem_cons Ke]
     congr 1
     exact Option.some.inj ((List.getElem?_eq_getElem _).symm.trans hp)
    refine⟨mm-1,by omega,⟨q+1,C.set p (pK e),rfl,(by rw[List.map_set,←Ms];exact hH),by omega,by rw[x8] at c9;exact c9,?_,by rw[List.length_set];exact Ms⟩⟩;intro p' rD
    by_cases hpp:p'=p
    ·subst hpp;exact⟨_,List.getElem?_set_self ji⟩
    ·rw[List.getElem?_set_ne (fun e=>hpp e.symm)];exact jk p' rD
   ·refine af.exit ?_;refine⟨fun i h=>(by cases h),_,_,_,rfl,rfl,?_⟩;have Ei:q=js.length:=by omega
    rw[Ei,List.drop_length] at c9;have c9:C=gw (fun _=>pK e) C0 js:=c9;rw[←c9];exact⟨rfl,cd,dk,hH.erase 4⟩
  ·simp only[gF,oT,if_neg mU] at gd hjs;have Jw:(((i:Nat):Int)==((ks.len-1:Nat):Int))=false:=by rw[beq_eq_false_iff_ne];omega
   refine qE rfl (by rw[Jw]) ?_;refine af.skip<|qq<|qj fun K hK=>qm ?_;refine ae.go (d:=.agg [.int .i64 2,.int .i64 0,.int .i64 0,.nul]) (st1:=_) rfl rfl rfl (by dsimp only[Fr.put,u1,u2]<;>rfl) ?_;have hH:=hH.fx 2;obtain⟨_,st,aS,rfl,cd,dk,hH⟩:=fM (rs:=[]) hF (by omega) hH;refine qv aS ?_;refine qm ?_;refine qe hK ?_;have lv:(a_++[ej 2 0 0 []]).length=a_.length+1:=by simp
   refine qq<|qj fun K hK=>qm ?_;refine qm ?_;obtain⟨_,st,aS,rfl,cd,dk,hH⟩:=ih t (by omega) hF vw nc.left tN.left nb.left jh.1 (by omega) ⟨cd,dk,hH⟩;refine qv aS ?_;refine qe hK ?_;rw[lv] at hH;have mr:(a_++[ej 2 0 0 []]++a8 t (a_.length+1)).length=a_.length+1+t.sz:=by rw[List.length_append,lv,x0]
   refine qq<|qj fun K hK=>qm ?_;refine qm ?_;refine ae.go (d:=.agg [.int .i64 3,.int .i64 0,.int .i64 0,.nul]) (st1:=_) rfl rfl rfl (by dsimp only[Fr.put,u1,u2]<;>rfl) ?_;have hH:=hH.fx 2;obtain⟨_,st,aS,rfl,cd,dk,hH⟩:=fM (rs:=[]) hF (by omega) hH;refine qv aS ?_;refine qh (s:=1) (vs:=[_]) hH fun Tp st OR hH=>?_;refine qP hH qz (hH.rows aB) fun Kq st hH=>?_;dsimp only[u2,u1,u3,u4,setMany,u5,u6,D.cells,Nat.reduceAdd,aL,bj,aq,jA] at hH;refine qm ?_;refine qe hK ?_;have hH:=hH.drop 1
   have JA:(a_++[ej 2 0 0 []]++a8 t (a_.length+1)++[ej 3 0 0 []])[a_.length]?=some (ej 2 0 0 []):=by
    rw[List.append_assoc,List.append_assoc];exact nG _ _ _
   have zZ:(a_++[ej 2 0 0 []]++a8 t (a_.length+1)++[ej 3 0 0 []]).length=a_.length+1+t.sz+1:=by rw[List.length_append,mr];rfl
   have Ed:(a_++[ej 2 0 0 []]++a8 t (a_.length+1)++[ej 3 0 0 []]).set a_.length (qL a_.length (a_.length+1+t.sz+1) false)=a_++(qL a_.length (a_.length+1+t.sz+1) false::(a8 t (a_.length+1)++[pK 0])):=by
    rw[List.append_assoc,List.append_assoc];exact nz _ _ _ _
   have Jv:(a_++(qL a_.length (a_.length+1+t.sz+1) false::(a8 t (a_.length+1)++[pK 0]))).length=a_.length+t.sz+2:=by rw[←Ed,List.length_set,zZ];omega
   generalize a_++[ej 2 0 0 []]++a8 t (a_.length+1)++[ej 3 0 0 []]=Ap at*;refine qq<|qj fun K hK=>qm ?_;refine qm ?_;refine qm ?_;refine qg ?_;refine qp (o:=0) ?_;refine ql hH aB ?_;refine ae.yj hH rfl (ev rfl) (by exact bu) rfl (by dsimp only[Fr.put,u1,u2]<;>rfl) ?_;simp only[List.length_map,List.length_append,List.length_cons,List.length_nil];obtain⟨_,st,aS,rfl,hH⟩:=nN (at_:=a_.length) (over:=Ap.length) (lz:=false) JA (by omega) hH;refine qv aS ?_;refine qe hK ?_;rw[zZ,Ed] at hH;refine qj fun K hK=>qm ?_;refine qg ?_;refine qp (o:=3) ?_;refine ql hH aB ?_;refine qm ?_;refine qi hH gm fun Wa Uh=>?_;refine qo hH gm ?_;refine qm ?_;refine qe hK<|qj fun K hK=>qA ?_;refine qm ?_;refine qe hK ?_;exact⟨mm-1,by omega,⟨i+1,j+t.flat.length,ts,cd,Kq,dk,a_++(qL a_.length (a_.length+1+t.sz+1) false::(a8 t (a_.length+1)++[pK 0])),js++[a_.length+1+t.sz],rfl,(by rw[List.map_append (f:=jA)];rw[mr] at hH;exact hH),by omega,by omega,by omega,nc.right,by rw[←I0];exact tN.right,by rw[←Ln];rw[←Ln] at nb;exact nb.right,jh.2,by rw[Jv,←gd];simp only[List.append_assoc,List.cons_append,List.nil_append],by rw[Jv,←hjs];simp only[List.append_assoc,List.cons_append,List.nil_append],by rw[Jv];omega,by omega,by rw[List.length_append];simp only[List.length_cons,List.length_nil];omega⟩⟩
end Go.Proofs.Ytbdilgkfnacahaa
