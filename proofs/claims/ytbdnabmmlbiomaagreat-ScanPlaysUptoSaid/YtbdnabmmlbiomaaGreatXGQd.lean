import Derived.Test.YtbdnabmmlbiomaaGreatXGPi
import Derived.Test.YtbdnabmmlbiomaaGreatXGKa
import Derived.Test.YtbdnabmmlbiomaaGreatXGQa
set_option maxRecDepth 100000
set_option maxHeartbeats 4000000
set_option linter.unusedSimpArgs false
set_option linter.unusedVariables false
namespace Go.Proofs.YtbdnabmmlbiomaaGreat
open Go.V Go
def nX (fr:Go.V.Fr) (k:Nat):Go.V.D:=Go.V.nth .bp fr.loc k
theorem CJ {s0:St} {n:dM} (hn:n.ok):Ev pv 150 [.agg (bm n)] s0 (.bool (tR n)) s0:=by
 refine Ev.iS rfl Uc rfl rfl rfl ?_;dsimp only[u3,u4,List.length,Nat.reduceSub,Nat.reduceAdd,w1,w2];obtain⟨bT,hF,hH⟩:=ri s0;generalize ag .ro s0=S at*;have yH:=hn.1.arg s0.bs.length S;have oZ:=hn.2.1;refine qq<|qj fun K hK=>qb hH fun k1 st o5 hH=>?_;dsimp only[u2,u1,u3,u4,setMany,u5,u6,D.cells,Nat.reduceAdd,bm] at hH;refine qm ?_;refine qe hK<|qq<|qj fun K hK=>qp (o:=0) ?_;refine ql hH aB ?_;refine qg ?_;refine qm ?_;refine qe hK<|qq<|ab.mX 2 (.bool (((n.op==2)||((n.rs.length:Nat):Int)==0) &&((n.op==5)||((n.mn==0) &&(n.mx==0) &&!n.lz)) &&((n.op==6)||(n.cap==0)))) [] ?_ (fun ff tmp=>?_)
 ·refine qp (o:=0) ?_;refine ql hH aB ?_;refine qg ?_;refine qm ?_;refine aa.two 10 rfl (fun bP=>?_) (fun bP=>?_)
  ·refine qs ?_ (hg:=wn bP);refine qs ?_ (hg:=wn bP);refine qs ?_ (hg:=wn bP);refine qs ?_ (hg:=wn bP);refine qt bP ?_;refine qm ?_;refine qm ?_;refine qm ?_;refine aa.two 18 rfl (fun bo=>?_) (fun bo=>?_)
   ·refine qs ?_ (hg:=wn bo);refine qs ?_ (hg:=wn bo);refine qs ?_ (hg:=wn bo);refine qs ?_ (hg:=wn bo);refine qs ?_;refine qs ?_;refine qs ?_;refine qs ?_ (hg:=wn bo);refine qs ?_ (hg:=wn bo);refine qs ?_;refine qs ?_;refine qs ?_;refine qs ?_ (hg:=wn bo);refine qt bo ?_;refine qg ?_;refine qm ?_;refine qp (o:=0) ?_;refine ql hH aB ?_;refine qg ?_;refine qm ?_;refine aa.two 38 rfl (fun cY=>?_) (fun cY=>?_)
    ·refine qs ?_ (hg:=wn cY);refine qs ?_ (hg:=wn cY);refine qs ?_ (hg:=wn cY);refine qt cY ?_;refine qg ?_;refine qm ?_;refine aa.nil (bf ?_);dsimp only[aR,List.foldl,nth,u2,u1];dsimp only[Fr.aj,Fr.put,Fr.clean,Fr.ev,Fr.get,nth,V.look,u1,u2,v1,v2,v3,v4,v5,v6,v7,List.length,u3,u4,Nat.reduceSub,Nat.reduceAdd,List.map]
     all_goals(simp[bP,bo,cY];done)
    ·refine qp (o:=5) ?_ (hg:=wi cY);refine ql hH aB ?_ (hg:=wi cY);refine qg ?_ (hg:=wi cY);refine qu cY ?_;refine qg ?_;refine qm ?_;refine aa.nil (bf ?_);dsimp only[aR,List.foldl,nth,u2,u1];dsimp only[Fr.aj,Fr.put,Fr.clean,Fr.ev,Fr.get,nth,V.look,u1,u2,v1,v2,v3,v4,v5,v6,v7,List.length,u3,u4,Nat.reduceSub,Nat.reduceAdd,List.map]
     all_goals(simp[bP,bo,cY];done)
   ·refine qp (o:=2) ?_ (hg:=wi bo);refine ql hH aB ?_ (hg:=wi bo);refine qg ?_ (hg:=wi bo);refine qm ?_ (hg:=wi bo);refine aa.two 22 rfl (fun fY=>?_) (fun fY=>?_)
    ·refine qp (o:=3) ?_ (hg:=wi fY);refine ql hH aB ?_ (hg:=wi fY);refine qg ?_ (hg:=wi fY);refine aa.eJ (aD rfl rfl rfl bo) rfl fY (ah rfl _) ?_;refine qm ?_ (hg:=wi bo);refine aa.two 27 rfl (fun gx=>?_) (fun gx=>?_)
     ·refine qp (o:=4) ?_ (hg:=wi gx);refine ql hH aB ?_ (hg:=wi gx);refine qg ?_ (hg:=wi gx);refine aa.eJ (aD rfl rfl rfl bo) rfl gx (ah rfl _) ?_;refine qu bo ?_;refine qg ?_;refine qm ?_;refine aa.two 34 rfl (fun ej=>?_) (fun ej=>?_)
      ·refine qp (o:=0) ?_ (hg:=wi ej);refine ql hH aB ?_ (hg:=wi ej);refine qg ?_ (hg:=wi ej);refine qm ?_ (hg:=wi ej);refine aa.two 38 rfl (fun cY=>?_) (fun cY=>?_)
       ·refine qs ?_ (hg:=wn cY);refine qs ?_ (hg:=wn cY);refine qs ?_ (hg:=wn cY);refine aa.eJ (aD rfl rfl rfl ej) rfl cY (ah rfl _) ?_;refine qt ej ?_;refine qm ?_;refine aa.nil (bf ?_);dsimp only[aR,List.foldl,nth,u2,u1];dsimp only[Fr.aj,Fr.put,Fr.clean,Fr.ev,Fr.get,nth,V.look,u1,u2,v1,v2,v3,v4,v5,v6,v7,List.length,u3,u4,Nat.reduceSub,Nat.reduceAdd,List.map]
        all_goals(simp[bP,bo,fY,gx,ej,cY];done)
       ·refine qp (o:=5) ?_ (hg:=wi cY);refine ql hH aB ?_ (hg:=wi cY);refine qg ?_ (hg:=wi cY);refine aa.dA (aD rfl rfl rfl ej) rfl cY (ah rfl _) ?_;refine qt ej ?_;refine qm ?_;refine aa.nil (bf ?_);dsimp only[aR,List.foldl,nth,u2,u1];dsimp only[Fr.aj,Fr.put,Fr.clean,Fr.ev,Fr.get,nth,V.look,u1,u2,v1,v2,v3,v4,v5,v6,v7,List.length,u3,u4,Nat.reduceSub,Nat.reduceAdd,List.map]
        all_goals(simp[bP,bo,fY,gx,ej,cY];done)
      ·refine qs ?_ (hg:=wn ej);refine qs ?_ (hg:=wn ej);refine qs ?_ (hg:=wn ej);refine qs ?_ (hg:=wn ej);refine qs ?_;refine qs ?_;refine qs ?_;refine qs ?_ (hg:=wn ej);refine qu ej ?_;refine qm ?_;refine aa.nil (bf ?_);dsimp only[aR,List.foldl,nth,u2,u1];dsimp only[Fr.aj,Fr.put,Fr.clean,Fr.ev,Fr.get,nth,V.look,u1,u2,v1,v2,v3,v4,v5,v6,v7,List.length,u3,u4,Nat.reduceSub,Nat.reduceAdd,List.map]
       all_goals(simp[bP,bo,fY,gx,ej];done)
     ·refine qs ?_ (hg:=wn gx);refine qs ?_ (hg:=wn gx);refine qs ?_ (hg:=wn gx);refine aa.dA (aD rfl rfl rfl bo) rfl gx (ah rfl _) ?_;refine qu bo ?_;refine qg ?_;refine qm ?_;refine qs ?_;refine qs ?_;refine qs ?_;refine qs ?_;refine qs ?_;refine qs ?_;refine qs ?_;refine qs ?_;refine qg ?_;refine qm ?_;refine aa.nil (bf ?_);dsimp only[aR,List.foldl,nth,u2,u1];dsimp only[Fr.aj,Fr.put,Fr.clean,Fr.ev,Fr.get,nth,V.look,u1,u2,v1,v2,v3,v4,v5,v6,v7,List.length,u3,u4,Nat.reduceSub,Nat.reduceAdd,List.map]
      all_goals(simp[bP,bo,fY,gx];done)
    ·refine qs ?_ (hg:=wn fY);refine qs ?_ (hg:=wn fY);refine qs ?_ (hg:=wn fY);refine aa.dA (aD rfl rfl rfl bo) rfl fY (ah rfl _) ?_;refine qm ?_ (hg:=wi bo);refine qs ?_;refine qs ?_;refine qs ?_;refine qg ?_ (hg:=wi bo);refine qu bo ?_;refine qg ?_;refine qm ?_;refine qs ?_;refine qs ?_;refine qs ?_;refine qs ?_;refine qs ?_;refine qs ?_;refine qs ?_;refine qs ?_;refine qg ?_;refine qm ?_;refine aa.nil (bf ?_);dsimp only[aR,List.foldl,nth,u2,u1];dsimp only[Fr.aj,Fr.put,Fr.clean,Fr.ev,Fr.get,nth,V.look,u1,u2,v1,v2,v3,v4,v5,v6,v7,List.length,u3,u4,Nat.reduceSub,Nat.reduceAdd,List.map]
     all_goals(simp[bP,bo,fY];done)
  ·refine qp (o:=1) ?_ (hg:=wi bP);refine ql hH aB ?_ (hg:=wi bP);refine qn ?_ (hg:=wi bP);simp only[List.length_map];refine qg ?_ (hg:=wi bP);refine qu bP ?_;refine qm ?_;refine aa.two 16 rfl (fun cH=>?_) (fun cH=>?_)
   ·refine qm ?_ (hg:=wi cH);refine qm ?_ (hg:=wi cH);refine aa.two 18 rfl (fun bo=>?_) (fun bo=>?_)
    ·refine qs ?_ (hg:=wn bo);refine qs ?_ (hg:=wn bo);refine qs ?_ (hg:=wn bo);refine qs ?_ (hg:=wn bo);refine qs ?_;refine qs ?_;refine qs ?_;refine qs ?_ (hg:=wn bo);refine qs ?_ (hg:=wn bo);refine qs ?_;refine qs ?_;refine qs ?_;refine qs ?_ (hg:=wn bo);refine aa.eJ (aD rfl rfl rfl cH) rfl bo (ah rfl _) ?_;refine qt cH ?_;refine qm ?_;refine qp (o:=0) ?_;refine ql hH aB ?_;refine qg ?_;refine qm ?_;refine aa.two 38 rfl (fun cY=>?_) (fun cY=>?_)
     ·refine qs ?_ (hg:=wn cY);refine qs ?_ (hg:=wn cY);refine qs ?_ (hg:=wn cY);refine qt cY ?_;refine qg ?_;refine qm ?_;refine aa.nil (bf ?_);dsimp only[aR,List.foldl,nth,u2,u1];dsimp only[Fr.aj,Fr.put,Fr.clean,Fr.ev,Fr.get,nth,V.look,u1,u2,v1,v2,v3,v4,v5,v6,v7,List.length,u3,u4,Nat.reduceSub,Nat.reduceAdd,List.map]
      all_goals(simp[bP,cH,bo,cY];done)
     ·refine qp (o:=5) ?_ (hg:=wi cY);refine ql hH aB ?_ (hg:=wi cY);refine qg ?_ (hg:=wi cY);refine qu cY ?_;refine qg ?_;refine qm ?_;refine aa.nil (bf ?_);dsimp only[aR,List.foldl,nth,u2,u1];dsimp only[Fr.aj,Fr.put,Fr.clean,Fr.ev,Fr.get,nth,V.look,u1,u2,v1,v2,v3,v4,v5,v6,v7,List.length,u3,u4,Nat.reduceSub,Nat.reduceAdd,List.map]
      all_goals(simp[bP,cH,bo,cY];done)
    ·refine qp (o:=2) ?_ (hg:=wi bo);refine ql hH aB ?_ (hg:=wi bo);refine qg ?_ (hg:=wi bo);refine qm ?_ (hg:=wi bo);refine aa.two 22 rfl (fun fY=>?_) (fun fY=>?_)
     ·refine qp (o:=3) ?_ (hg:=wi fY);refine ql hH aB ?_ (hg:=wi fY);refine qg ?_ (hg:=wi fY);refine aa.eJ (aD rfl rfl rfl bo) rfl fY (ah rfl _) ?_;refine qm ?_ (hg:=wi bo);refine aa.two 27 rfl (fun gx=>?_) (fun gx=>?_)
      ·refine qp (o:=4) ?_ (hg:=wi gx);refine ql hH aB ?_ (hg:=wi gx);refine qg ?_ (hg:=wi gx);refine aa.eJ (aD rfl rfl rfl bo) rfl gx (ah rfl _) ?_;refine aa.dA (aD rfl rfl rfl cH) rfl bo (ah rfl _) ?_;refine qt cH ?_;refine qm ?_;refine aa.two 34 rfl (fun ej=>?_) (fun ej=>?_)
       ·refine qp (o:=0) ?_ (hg:=wi ej);refine ql hH aB ?_ (hg:=wi ej);refine qg ?_ (hg:=wi ej);refine qm ?_ (hg:=wi ej);refine aa.two 38 rfl (fun cY=>?_) (fun cY=>?_)
        ·refine qs ?_ (hg:=wn cY);refine qs ?_ (hg:=wn cY);refine qs ?_ (hg:=wn cY);refine aa.eJ (aD rfl rfl rfl ej) rfl cY (ah rfl _) ?_;refine qt ej ?_;refine qm ?_;refine aa.nil (bf ?_);dsimp only[aR,List.foldl,nth,u2,u1];dsimp only[Fr.aj,Fr.put,Fr.clean,Fr.ev,Fr.get,nth,V.look,u1,u2,v1,v2,v3,v4,v5,v6,v7,List.length,u3,u4,Nat.reduceSub,Nat.reduceAdd,List.map]
         all_goals(simp[bP,cH,bo,fY,gx,ej,cY];done)
        ·refine qp (o:=5) ?_ (hg:=wi cY);refine ql hH aB ?_ (hg:=wi cY);refine qg ?_ (hg:=wi cY);refine aa.dA (aD rfl rfl rfl ej) rfl cY (ah rfl _) ?_;refine qt ej ?_;refine qm ?_;refine aa.nil (bf ?_);dsimp only[aR,List.foldl,nth,u2,u1];dsimp only[Fr.aj,Fr.put,Fr.clean,Fr.ev,Fr.get,nth,V.look,u1,u2,v1,v2,v3,v4,v5,v6,v7,List.length,u3,u4,Nat.reduceSub,Nat.reduceAdd,List.map]
         all_goals(simp[bP,cH,bo,fY,gx,ej,cY];done)
       ·refine qs ?_ (hg:=wn ej);refine qs ?_ (hg:=wn ej);refine qs ?_ (hg:=wn ej);refine qs ?_ (hg:=wn ej);refine qs ?_;refine qs ?_;refine qs ?_;refine qs ?_ (hg:=wn ej);refine qu ej ?_;refine qm ?_;refine aa.nil (bf ?_);dsimp only[aR,List.foldl,nth,u2,u1];dsimp only[Fr.aj,Fr.put,Fr.clean,Fr.ev,Fr.get,nth,V.look,u1,u2,v1,v2,v3,v4,v5,v6,v7,List.length,u3,u4,Nat.reduceSub,Nat.reduceAdd,List.map]
        all_goals(simp[bP,cH,bo,fY,gx,ej];done)
      ·refine qs ?_ (hg:=wn gx);refine qs ?_ (hg:=wn gx);refine qs ?_ (hg:=wn gx);refine aa.dA (aD rfl rfl rfl bo) rfl gx (ah rfl _) ?_;refine aa.dA (aD rfl rfl rfl cH) rfl bo (ah rfl _) ?_;refine qt cH ?_;refine qm ?_;refine qs ?_;refine qs ?_;refine qs ?_;refine qs ?_;refine qs ?_;refine qs ?_;refine qs ?_;refine qs ?_;refine qg ?_;refine qm ?_;refine aa.nil (bf ?_);dsimp only[aR,List.foldl,nth,u2,u1];dsimp only[Fr.aj,Fr.put,Fr.clean,Fr.ev,Fr.get,nth,V.look,u1,u2,v1,v2,v3,v4,v5,v6,v7,List.length,u3,u4,Nat.reduceSub,Nat.reduceAdd,List.map]
       all_goals(simp[bP,cH,bo,fY,gx];done)
     ·refine qs ?_ (hg:=wn fY);refine qs ?_ (hg:=wn fY);refine qs ?_ (hg:=wn fY);refine aa.dA (aD rfl rfl rfl bo) rfl fY (ah rfl _) ?_;refine qm ?_ (hg:=wi bo);refine qs ?_;refine qs ?_;refine qs ?_;refine qg ?_ (hg:=wi bo);refine aa.dA (aD rfl rfl rfl cH) rfl bo (ah rfl _) ?_;refine qt cH ?_;refine qm ?_;refine qs ?_;refine qs ?_;refine qs ?_;refine qs ?_;refine qs ?_;refine qs ?_;refine qs ?_;refine qs ?_;refine qg ?_;refine qm ?_;refine aa.nil (bf ?_);dsimp only[aR,List.foldl,nth,u2,u1];dsimp only[Fr.aj,Fr.put,Fr.clean,Fr.ev,Fr.get,nth,V.look,u1,u2,v1,v2,v3,v4,v5,v6,v7,List.length,u3,u4,Nat.reduceSub,Nat.reduceAdd,List.map]
      all_goals(simp[bP,cH,bo,fY];done)
   ·refine qs ?_ (hg:=wn cH);refine qs ?_ (hg:=wn cH);refine qs ?_;refine qs ?_;refine qs ?_;refine qs ?_;refine qs ?_;refine qs ?_;refine qs ?_;refine qs ?_;refine qs ?_;refine qs ?_;refine qs ?_;refine qs ?_;refine qs ?_;refine qs ?_ (hg:=wn cH);refine qu cH ?_;refine qm ?_;refine qs ?_;refine qs ?_;refine qs ?_;refine qs ?_;refine qs ?_;refine qs ?_;refine qs ?_;refine qs ?_;refine qg ?_;refine qm ?_;refine aa.nil (bf ?_);dsimp only[aR,List.foldl,nth,u2,u1];dsimp only[Fr.aj,Fr.put,Fr.clean,Fr.ev,Fr.get,nth,V.look,u1,u2,v1,v2,v3,v4,v5,v6,v7,List.length,u3,u4,Nat.reduceSub,Nat.reduceAdd,List.map]
    all_goals(simp[bP,cH];done)
 dsimp only[aR,List.foldl,nth,u2,u1];refine ab.ret ⟨rx,_,rfl,rl bT hH (rfl)⟩
theorem xK {s0:St} {n:dM} (hn:n.ok) {g:Nat} (hg:g≤1048576):Ev pv 138 [.agg (bm n),.int .i64 (g:Nat)] s0 (.tup [.int .i64 (ft n (g:Nat)).1,.bool (ft n (g:Nat)).2]) s0:=by
 refine Ev.iS rfl Ui rfl rfl rfl ?_;dsimp only[u3,u4,List.length,Nat.reduceSub,Nat.reduceAdd,w1,w2];obtain⟨bT,hF,hH⟩:=ri s0;generalize ag .ro s0=S at*;have yH:=hn.1.arg s0.bs.length S;have oZ:=hn.2.1;refine qq<|qj fun K hK=>qb hH fun k2 st hk2 hH=>?_;dsimp only[u2,u1,u3,u4,setMany,u5,u6,D.cells,Nat.reduceAdd,bm] at hH;refine qm ?_;refine qm ?_;refine qe hK<|qq<|qq<|qj fun K hK=>?_;refine aa.aT (m:=7) hH rfl (ev rfl) (by exact aB) (by dsimp only[List.drop_succ_cons,List.drop_zero,List.take_succ_cons,List.take_zero,bm]<;>rfl) rfl rfl (by dsimp only[Fr.put,u1,u2]<;>rfl) ?_;refine qv (CJ hn) ?_;refine qg ?_;refine qe hK ?_;unfold ft
 cases hp:tR n with
 |false=>
  rw[if_pos rfl];refine qB ?_;refine qq<|qj fun K hK=>qm ?_;refine qm ?_;refine qe hK<|ab.ret ⟨rx,_,rfl,rl bT hH (rfl)⟩
 |true=>
  rw[if_neg (by simp)];refine qC ?_;refine ab.skip<|qq<|qq<|qj fun K hK=>qp (o:=0) ?_;refine ql hH aB ?_;refine qe hK<|ab.block<|qq<|qq<|qj fun K hK=>qg ?_;refine qm ?_;refine qe hK ?_
  by_cases q1:n.op=1
  ·rw[if_pos (.inl q1)];refine qD rfl (by simp[q1]) ?_;refine ab.skip<|qD rfl (by simp[q1]) ?_;refine qq<|qj fun K hK=>qp (o:=6) ?_;refine ql hH aB ?_;refine qg ?_;refine qm ?_;refine qm ?_;refine qe hK<|ab.ret ⟨rx,_,rfl,rl bT hH (rfl)⟩
  refine qE rfl (by simp[q1]) ?_;refine qq<|qj fun K hK=>qg ?_;refine qm ?_;refine qe hK ?_
  by_cases q7:n.op=7
  ·rw[if_pos (.inr (.inl q7))];refine qD rfl (by simp[q7]) ?_;refine ab.skip<|qD rfl (by simp[q7]) ?_;refine qq<|qj fun K hK=>qp (o:=6) ?_;refine ql hH aB ?_;refine qg ?_;refine qm ?_;refine qm ?_;refine qe hK<|ab.ret ⟨rx,_,rfl,rl bT hH (rfl)⟩
  refine qE rfl (by simp[q7]) ?_;refine qj fun K hK=>qg ?_;refine qm ?_;refine qe hK ?_
  by_cases q8:n.op=8
  ·rw[if_pos (.inr (.inr q8))];refine qD rfl (by simp[q8]) ?_;refine qq<|qj fun K hK=>qp (o:=6) ?_;refine ql hH aB ?_;refine qg ?_;refine qm ?_;refine qm ?_;refine qe hK<|ab.ret ⟨rx,_,rfl,rl bT hH (rfl)⟩
  refine qE rfl (by simp[q8]) ?_;rw[if_neg (by omega)];refine qq<|qj fun K hK=>qg ?_;refine qm ?_;refine qe hK ?_;refine ab.cond (by rfl) (fun q2=>?_) (fun q2=>?_)<;>try simp only[beq_iff_eq,beq_eq_false_iff_ne,ne_eq] at q2
  ·rw[if_pos q2];refine qq<|ab.QZ [4,5] (fun ff=>ff 4=.int .i64 0∧ff 5=.bool ((n.kids==0) &&fu n.rs)) ?_ (fun ff tmp Br=>?_)
   ·refine qp (o:=6) ?_;refine ql hH aB ?_;refine qg ?_;refine qm ?_;refine aa.two 23 rfl (fun bP=>?_) (fun bP=>?_)
    ·refine qp (o:=1) ?_ (hg:=wi bP);refine ql hH aB ?_ (hg:=wi bP);refine qv (vE (yH.rows hH) oZ) ?_ (hg:=wi bP);refine qt bP ?_;refine qm ?_;refine qm ?_;refine aa.nil (kX ?_ ?_)
     ·dsimp only[aR,List.foldl,nth,u2,u1]
     ·dsimp only[nth];dsimp only[Fr.aj,Fr.put,Fr.clean,Fr.ev,Fr.get,nth,V.look,u1,u2,v1,v2,v3,v4,v5,v6,v7,List.length,u3,u4,Nat.reduceSub,Nat.reduceAdd,List.map];refine⟨?_,?_⟩<;>(first|rfl|(simp[bP];done))
    ·refine qs ?_ (hg:=wn bP);refine qs ?_ (hg:=wn bP);refine qs ?_ (hg:=wn bP);refine qu bP ?_;refine qm ?_;refine qm ?_;refine aa.nil (kX ?_ ?_)
     ·dsimp only[aR,List.foldl,nth,u2,u1]
     ·dsimp only[nth];dsimp only[Fr.aj,Fr.put,Fr.clean,Fr.ev,Fr.get,nth,V.look,u1,u2,v1,v2,v3,v4,v5,v6,v7,List.length,u3,u4,Nat.reduceSub,Nat.reduceAdd,List.map];refine⟨?_,?_⟩<;>(first|rfl|(simp[bP];done))
   dsimp only[aR,List.foldl,nth,u2,u1];obtain⟨DQ,DP⟩:=Br;rw[DQ,DP];refine ab.ret ⟨rx,_,rfl,rl bT hH (rfl)⟩
  rw[if_neg q2];refine qq<|qq<|qj fun K hK=>qg ?_;refine qm ?_;refine qe hK ?_
  by_cases q3:n.op=3
  ·rw[if_pos (.inl q3)];refine qD rfl (by simp[q3]) ?_;refine ab.skip<|qD rfl (by simp[q3]) ?_;refine qq<|qj fun K hK=>qp (o:=6) ?_;refine ql hH aB ?_;refine qp (o:=6) ?_;refine ql hH aB ?_;refine qg ?_;refine qm ?_;refine qm ?_;refine qe hK<|ab.ret ⟨rx,_,rfl,rl bT hH (rfl)⟩
  refine qE rfl (by simp[q3]) ?_;refine qj fun K hK=>qg ?_;refine qm ?_;refine qe hK ?_
  by_cases q4:n.op=4
  ·rw[if_pos (.inr q4)];refine qD rfl (by simp[q4]) ?_;refine qq<|qj fun K hK=>qp (o:=6) ?_;refine ql hH aB ?_;refine qp (o:=6) ?_;refine ql hH aB ?_;refine qg ?_;refine qm ?_;refine qm ?_;refine qe hK<|ab.ret ⟨rx,_,rfl,rl bT hH (rfl)⟩
  rw[if_neg (by omega)];refine qE rfl (by simp[q4]) ?_;refine qq<|qj fun K hK=>qg ?_;refine qm ?_;refine qe hK ?_;refine ab.cond (by rfl) (fun q5=>?_) (fun q5=>?_)<;>try simp only[beq_iff_eq,beq_eq_false_iff_ne,ne_eq] at q5
  ·rw[if_pos q5];refine qq<|ab.QZ [4,5] (fun ff=>ff 4=.int .i64 1∧ff 5=.bool ((n.kids==1) &&decide (n.mn≥0) &&decide (n.mn≤30) &&((n.mx==-1)||(decide (n.mx≥n.mn) &&decide (n.mx≤30))))) ?_ (fun ff tmp Br=>?_)
   ·refine qp (o:=6) ?_;refine ql hH aB ?_;refine qg ?_;refine qm ?_;refine aa.two 41 rfl (fun bP=>?_) (fun bP=>?_)
    ·refine qp (o:=2) ?_ (hg:=wi bP);refine ql hH aB ?_ (hg:=wi bP);refine qg ?_ (hg:=wi bP);refine qt bP ?_;refine qm ?_;refine aa.two 46 rfl (fun gZ=>?_) (fun gZ=>?_)
     ·refine qp (o:=2) ?_ (hg:=wi gZ);refine ql hH aB ?_ (hg:=wi gZ);refine qg ?_ (hg:=wi gZ);refine qt gZ ?_;refine qm ?_;refine aa.two 51 rfl (fun cZ=>?_) (fun cZ=>?_)
      ·refine qp (o:=3) ?_ (hg:=wi cZ);refine ql hH aB ?_ (hg:=wi cZ);refine qg ?_ (hg:=wi cZ);refine qm ?_ (hg:=wi cZ);refine aa.two 55 rfl (fun bk=>?_) (fun bk=>?_)
       ·refine qs ?_ (hg:=wn bk);refine qs ?_ (hg:=wn bk);refine qs ?_ (hg:=wn bk);refine qs ?_ (hg:=wn bk);refine qs ?_ (hg:=wn bk);refine qs ?_ (hg:=wn bk);refine qs ?_;refine qs ?_;refine qs ?_;refine qs ?_ (hg:=wn bk);refine aa.eJ (aD rfl rfl rfl cZ) rfl bk (ah rfl _) ?_;refine qt cZ ?_;refine qm ?_;refine qm ?_;refine aa.nil (kX ?_ ?_)
        ·dsimp only[aR,List.foldl,nth,u2,u1]
        ·dsimp only[nth];dsimp only[Fr.aj,Fr.put,Fr.clean,Fr.ev,Fr.get,nth,V.look,u1,u2,v1,v2,v3,v4,v5,v6,v7,List.length,u3,u4,Nat.reduceSub,Nat.reduceAdd,List.map];refine⟨?_,?_⟩<;>(first|rfl|(simp[bP,gZ,cZ,bk];done))
       ·refine qp (o:=3) ?_ (hg:=wi bk);refine ql hH aB ?_ (hg:=wi bk);refine qp (o:=2) ?_ (hg:=wi bk);refine ql hH aB ?_ (hg:=wi bk);refine qg ?_ (hg:=wi bk);refine qm ?_ (hg:=wi bk);refine aa.two 61 rfl (fun oa=>?_) (fun oa=>?_)
        ·refine qp (o:=3) ?_ (hg:=wi oa);refine ql hH aB ?_ (hg:=wi oa);refine qg ?_ (hg:=wi oa);refine aa.eJ (aD rfl rfl rfl bk) rfl oa (ah rfl _) ?_;refine aa.dA (aD rfl rfl rfl cZ) rfl bk (ah rfl _) ?_;refine qt cZ ?_;refine qm ?_;refine qm ?_;refine aa.nil (kX ?_ ?_)
         ·dsimp only[aR,List.foldl,nth,u2,u1]
         ·dsimp only[nth];dsimp only[Fr.aj,Fr.put,Fr.clean,Fr.ev,Fr.get,nth,V.look,u1,u2,v1,v2,v3,v4,v5,v6,v7,List.length,u3,u4,Nat.reduceSub,Nat.reduceAdd,List.map];refine⟨?_,?_⟩<;>(first|rfl|(simp[bP,gZ,cZ,bk,oa];done))
        ·refine qs ?_ (hg:=wn oa);refine qs ?_ (hg:=wn oa);refine qs ?_ (hg:=wn oa);refine aa.dA (aD rfl rfl rfl bk) rfl oa (ah rfl _) ?_;refine aa.dA (aD rfl rfl rfl cZ) rfl bk (ah rfl _) ?_;refine qt cZ ?_;refine qm ?_;refine qm ?_;refine aa.nil (kX ?_ ?_)
         ·dsimp only[aR,List.foldl,nth,u2,u1]
         ·dsimp only[nth];dsimp only[Fr.aj,Fr.put,Fr.clean,Fr.ev,Fr.get,nth,V.look,u1,u2,v1,v2,v3,v4,v5,v6,v7,List.length,u3,u4,Nat.reduceSub,Nat.reduceAdd,List.map];refine⟨?_,?_⟩<;>(first|rfl|(simp[bP,gZ,cZ,bk,oa];done))
      ·refine qs ?_ (hg:=wn cZ);refine qs ?_ (hg:=wn cZ);refine qs ?_ (hg:=wn cZ);refine qs ?_ (hg:=wn cZ);refine qs ?_;refine qs ?_;refine qs ?_;refine qs ?_;refine qs ?_;refine qs ?_;refine qs ?_;refine qs ?_;refine qs ?_;refine qs ?_;refine qs ?_ (hg:=wn cZ);refine qu cZ ?_;refine qm ?_;refine qm ?_;refine aa.nil (kX ?_ ?_)
       ·dsimp only[aR,List.foldl,nth,u2,u1]
       ·dsimp only[nth];dsimp only[Fr.aj,Fr.put,Fr.clean,Fr.ev,Fr.get,nth,V.look,u1,u2,v1,v2,v3,v4,v5,v6,v7,List.length,u3,u4,Nat.reduceSub,Nat.reduceAdd,List.map];refine⟨?_,?_⟩<;>(first|rfl|(simp[bP,gZ,cZ];done))
     ·refine qs ?_ (hg:=wn gZ);refine qs ?_ (hg:=wn gZ);refine qs ?_ (hg:=wn gZ);refine qu gZ ?_;refine qm ?_;refine qs ?_;refine qs ?_;refine qs ?_;refine qs ?_;refine qs ?_;refine qs ?_;refine qs ?_;refine qs ?_;refine qs ?_;refine qs ?_;refine qs ?_;refine qs ?_;refine qs ?_;refine qs ?_;refine qs ?_;refine qg ?_;refine qm ?_;refine qm ?_;refine aa.nil (kX ?_ ?_)
      ·dsimp only[aR,List.foldl,nth,u2,u1]
      ·dsimp only[nth];dsimp only[Fr.aj,Fr.put,Fr.clean,Fr.ev,Fr.get,nth,V.look,u1,u2,v1,v2,v3,v4,v5,v6,v7,List.length,u3,u4,Nat.reduceSub,Nat.reduceAdd,List.map];refine⟨?_,?_⟩<;>(first|rfl|(simp[bP,gZ];done))
    ·refine qs ?_ (hg:=wn bP);refine qs ?_ (hg:=wn bP);refine qs ?_ (hg:=wn bP);refine qu bP ?_;refine qm ?_;refine qs ?_;refine qs ?_;refine qs ?_;refine qg ?_;refine qm ?_;refine qs ?_;refine qs ?_;refine qs ?_;refine qs ?_;refine qs ?_;refine qs ?_;refine qs ?_;refine qs ?_;refine qs ?_;refine qs ?_;refine qs ?_;refine qs ?_;refine qs ?_;refine qs ?_;refine qs ?_;refine qg ?_;refine qm ?_;refine qm ?_;refine aa.nil (kX ?_ ?_)
     ·dsimp only[aR,List.foldl,nth,u2,u1]
     ·dsimp only[nth];dsimp only[Fr.aj,Fr.put,Fr.clean,Fr.ev,Fr.get,nth,V.look,u1,u2,v1,v2,v3,v4,v5,v6,v7,List.length,u3,u4,Nat.reduceSub,Nat.reduceAdd,List.map];refine⟨?_,?_⟩<;>(first|rfl|(simp[bP];done))
   dsimp only[aR,List.foldl,nth,u2,u1];obtain⟨DQ,DP⟩:=Br;rw[DQ,DP];refine ab.ret ⟨rx,_,rfl,rl bT hH (rfl)⟩
  rw[if_neg q5];refine qq<|qj fun K hK=>qg ?_;refine qm ?_;refine qe hK ?_;refine ab.cond (by rfl) (fun q6=>?_) (fun q6=>?_)<;>try simp only[beq_iff_eq,beq_eq_false_iff_ne,ne_eq] at q6
  ·rw[if_pos q6];refine qq<|ab.QZ [4,5] (fun ff=>ff 4=.int .i64 1∧ff 5=.bool ((n.kids==1) &&(n.cap==((g+1:Nat):Int)) &&decide (n.cap≤4))) ?_ (fun ff tmp Br=>?_)
   ·refine qp (o:=6) ?_;refine ql hH aB ?_;refine qg ?_;refine qm ?_;refine aa.two 73 rfl (fun bP=>?_) (fun bP=>?_)
    ·refine qp (o:=5) ?_ (hg:=wi bP);refine ql hH aB ?_ (hg:=wi bP);refine qm ?_ (hg:=wi bP);refine qA ?_ (hg:=wi bP);refine qg ?_ (hg:=wi bP);refine qt bP ?_;refine qm ?_;refine aa.two 80 rfl (fun bh=>?_) (fun bh=>?_)
     ·refine qp (o:=5) ?_ (hg:=wi bh);refine ql hH aB ?_ (hg:=wi bh);refine qg ?_ (hg:=wi bh);refine qt bh ?_;refine qm ?_;refine qm ?_;refine aa.nil (kX ?_ ?_)
      ·dsimp only[aR,List.foldl,nth,u2,u1]
      ·dsimp only[nth];dsimp only[Fr.aj,Fr.put,Fr.clean,Fr.ev,Fr.get,nth,V.look,u1,u2,v1,v2,v3,v4,v5,v6,v7,List.length,u3,u4,Nat.reduceSub,Nat.reduceAdd,List.map];refine⟨?_,?_⟩<;>(first|rfl|(simp[bP,bh];done))
     ·refine qs ?_ (hg:=wn bh);refine qs ?_ (hg:=wn bh);refine qs ?_ (hg:=wn bh);refine qu bh ?_;refine qm ?_;refine qm ?_;refine aa.nil (kX ?_ ?_)
      ·dsimp only[aR,List.foldl,nth,u2,u1]
      ·dsimp only[nth];dsimp only[Fr.aj,Fr.put,Fr.clean,Fr.ev,Fr.get,nth,V.look,u1,u2,v1,v2,v3,v4,v5,v6,v7,List.length,u3,u4,Nat.reduceSub,Nat.reduceAdd,List.map];refine⟨?_,?_⟩<;>(first|rfl|(simp[bP,bh];done))
    ·refine qs ?_ (hg:=wn bP);refine qs ?_ (hg:=wn bP);refine qs ?_ (hg:=wn bP);refine qs ?_ (hg:=wn bP);refine qs ?_ (hg:=wn bP);refine qu bP ?_;refine qm ?_;refine qs ?_;refine qs ?_;refine qs ?_;refine qg ?_;refine qm ?_;refine qm ?_;refine aa.nil (kX ?_ ?_)
     ·dsimp only[aR,List.foldl,nth,u2,u1]
     ·dsimp only[nth];dsimp only[Fr.aj,Fr.put,Fr.clean,Fr.ev,Fr.get,nth,V.look,u1,u2,v1,v2,v3,v4,v5,v6,v7,List.length,u3,u4,Nat.reduceSub,Nat.reduceAdd,List.map];refine⟨?_,?_⟩<;>(first|rfl|(simp[bP];done))
   dsimp only[aR,List.foldl,nth,u2,u1];obtain⟨DQ,DP⟩:=Br;rw[DQ,DP];refine ab.ret ⟨rx,_,rfl,rl bT hH (rfl)⟩
  ·rw[if_neg q6];refine ab.skip<|qq<|qj fun K hK=>qm ?_;refine qm ?_;refine qe hK<|ab.ret ⟨rx,_,rfl,rl bT hH (rfl)⟩
theorem vZ {n:dM} (h:n.ok):refs (bm n)=0:=by
 have:=h.1.ref;simp only[bm,refs,D.ref,this,Nat.max_self]
def ov (d:D) (at_ g:Nat):List D:=[d,.int .i64 (at_:Nat),.int .i64 (g:Nat)]
theorem CX {l:List dM} {d:D} (hl:l.length≤1048576) (hi:∀n∈l,n.ok) (hd:eE d 7 (l.map bm)):∀(f:Nat) {N k:Nat} {S s0:St} {H:List bt} {at_ g:Nat},f≤241→g≤4→Has N S s0 (.box k (.mem 0 false (ov d at_ g))::H)→
  ∃r ai,Ev pv 123 [.ptr k 0 0,.int .i64 ((241-f:Nat):Int)] s0 r ai∧r=.bool (iB l f at_ g).isSome∧∃a' g',Has N S ai (.box k (.mem 0 false (ov d a' g'))::H)∧g'≤4∧∀q,iB l f at_ g=some q→a'=q.1∧g'=q.2:=by
 intro f
 induction f with
 |zero=>
  intro N k S s0 H at_ g hf hg hH;refine Ev.il rfl Ml rfl rfl rfl ?_;dsimp only[u3,u4,List.length,Nat.reduceSub,Nat.reduceAdd,w1,w2];have cF:=hH;have hH:=hH.cI;have ct:(ag .rw s0).bs=s0.bs:=rfl;generalize ag .rw s0=S2 at*;have hc:=hd.arg N S2;refine qq<|qj fun K hK=>qm ?_;refine qe hK<|qq<|qq<|ab.kB 21 (.bool (decide ((at_:Int)≥(l.length:Nat))||decide (((241-0:Nat):Int)>240))) [] ?_ (fun ff tmp hU=>?_)
  ·refine qm ?_;refine qg ?_;refine qp (o:=1) ?_;refine ql hH aB ?_;refine qm ?_;refine qg ?_;refine qp (o:=0) ?_;refine ql hH aB ?_;refine qn ?_;simp only[List.length_map];refine qg ?_;refine qm ?_;refine aa.two 18 rfl (fun bh=>?_) (fun bh=>?_)
   ·refine qs ?_ (hg:=wn bh);refine qs ?_ (hg:=wn bh);refine qt bh ?_;refine aa.nil (c_ ?_ ?_)
    ·dsimp only[aR,List.foldl,nth,u2,u1]
     all_goals(first|rfl|simp)
    ·dsimp only[Fr.aj,Fr.put,Fr.clean,Fr.ev,Fr.get,nth,V.look,u1,u2,v1,v2,v3,v4,v5,v6,v7,List.length,u3,u4,Nat.reduceSub,Nat.reduceAdd,List.map]
     all_goals(simp[bh];done)
   ·refine qm ?_ (hg:=wi bh);refine qg ?_ (hg:=wi bh);refine qu bh ?_;refine aa.nil (c_ ?_ ?_)
    ·dsimp only[aR,List.foldl,nth,u2,u1]
     all_goals(first|rfl|simp)
    ·dsimp only[Fr.aj,Fr.put,Fr.clean,Fr.ev,Fr.get,nth,V.look,u1,u2,v1,v2,v3,v4,v5,v6,v7,List.length,u3,u4,Nat.reduceSub,Nat.reduceAdd,List.map]
     all_goals(simp[bh];done)
  dsimp only[aR,List.foldl,nth,u2,u1];have hT:(decide ((at_:Int)≥(l.length:Nat))||decide (((241-0:Nat):Int)>240))=true:=by simp
  rw[hT] at hU;refine qB ?_;refine qq<|qj fun K hK=>qm ?_;refine qe hK<|ab.ret ⟨rx,_,_,_,rfl,ak (rfl),?_⟩;exact⟨rfl,_,_,cF.aA ct hH,hg,fun q hq=>by simp[iB] at hq⟩
 |succ f ih=>
  intro N k S s0 H at_ g hf hg hH;refine Ev.il rfl Ml rfl rfl rfl ?_;dsimp only[u3,u4,List.length,Nat.reduceSub,Nat.reduceAdd,w1,w2];have cF:=hH;have hH:=hH.cI;have ct:(ag .rw s0).bs=s0.bs:=rfl;generalize ag .rw s0=S2 at*;have hc:=hd.arg N S2;refine qq<|qj fun K hK=>qm ?_;refine qe hK<|qq<|qq<|ab.kB 21 (.bool (decide ((at_:Int)≥(l.length:Nat))||decide (((241-(f+1):Nat):Int)>240))) [] ?_ (fun ff tmp hU=>?_)
  ·refine qm ?_;refine qg ?_;refine qp (o:=1) ?_;refine ql hH aB ?_;refine qm ?_;refine qg ?_;refine qp (o:=0) ?_;refine ql hH aB ?_;refine qn ?_;simp only[List.length_map];refine qg ?_;refine qm ?_;refine aa.two 18 rfl (fun bh=>?_) (fun bh=>?_)
   ·refine qs ?_ (hg:=wn bh);refine qs ?_ (hg:=wn bh);refine qt bh ?_;refine aa.nil (c_ ?_ ?_)
    ·dsimp only[aR,List.foldl,nth,u2,u1]
     all_goals(first|rfl|simp)
    ·dsimp only[Fr.aj,Fr.put,Fr.clean,Fr.ev,Fr.get,nth,V.look,u1,u2,v1,v2,v3,v4,v5,v6,v7,List.length,u3,u4,Nat.reduceSub,Nat.reduceAdd,List.map]
     all_goals(simp_all;done)
   ·refine qm ?_ (hg:=wi bh);refine qg ?_ (hg:=wi bh);refine qu bh ?_;refine aa.nil (c_ ?_ ?_)
    ·dsimp only[aR,List.foldl,nth,u2,u1]
     all_goals(first|rfl|simp)
    ·dsimp only[Fr.aj,Fr.put,Fr.clean,Fr.ev,Fr.get,nth,V.look,u1,u2,v1,v2,v3,v4,v5,v6,v7,List.length,u3,u4,Nat.reduceSub,Nat.reduceAdd,List.map]
     all_goals(simp_all;omega)
  dsimp only[aR,List.foldl,nth,u2,u1]
  by_cases ha:l.length≤at_
  ·have hT:(decide ((at_:Int)≥(l.length:Nat))||decide (((241-(f+1):Nat):Int)>240))=true:=by
    rw[Bool.or_eq_true];exact .inl (by rw[decide_eq_true_eq];omega)
   rw[hT] at hU;have hn:iB l (f+1) at_ g=none:=by unfold iB;rw[List.getElem?_eq_none ha]
   rw[hn];refine qB ?_;refine qq<|qj fun K hK=>qm ?_;refine qe hK<|ab.ret ⟨rx,_,_,_,rfl,ak (rfl),?_⟩;exact⟨rfl,_,_,cF.aA ct hH,hg,fun q hq=>by cases hq⟩
  ·have hT:(decide ((at_:Int)≥(l.length:Nat))||decide (((241-(f+1):Nat):Int)>240))=false:=by
    rw[Bool.or_eq_false_iff];exact⟨by rw[decide_eq_false_iff_not];omega,by rw[decide_eq_false_iff_not];omega⟩
   rw[hT] at hU
   obtain⟨n,hn⟩:∃n,l[at_]?=some n:=⟨l[at_]'(by omega),List.getElem?_eq_getElem _⟩
   have l_:=hi n (List.mem_of_getElem? hn);have gJ:=lI hn;have DA:=vZ l_
   have ke:iB l (f+1) at_ g=if(ft n (g:Nat)).2=true then jJ (iB l f) (ft n (g:Nat)).1.toNat (at_+1) (if n.op=6 then g+1 else g) else none:=by
    rw[iB,hn]
   rw[ke];clear ke;refine qC ?_;refine ab.skip<|qq<|qj fun K hK=>qm ?_;refine qg ?_;refine qp (o:=0) ?_;refine ql hH aB ?_;refine qm ?_;refine qg ?_;refine qp (o:=1) ?_;refine ql hH aB ?_;refine qr fun Vt Qf=>?_;refine aa.db rfl (ev rfl) (by assumption) rfl (ah rfl _) ?_;refine qa hH fun k5 st Aa hH=>?_;dsimp only[u2,u1,u3,u4,setMany,u5,u6,D.cells,Nat.reduceAdd,ov,bm] at hH;refine aa.uj hH rfl (ev rfl) (ev rfl) (by rfl) (by exact rfl) (by exact aB) (by exact rfl) (by exact .inr (by assumption)) (fun st hH=>?_);dsimp only[u2,u1,u3,u4,setMany,u5,u6,D.cells,Nat.reduceAdd,ov,bm] at hH;refine qe hK<|qq<|qj fun K hK=>?_;refine aa.aT (m:=7) hH rfl (ev rfl) (by exact aB) (by dsimp only[List.drop_succ_cons,List.drop_zero,List.take_succ_cons,List.take_zero,ov,bm]<;>rfl) rfl rfl (ah rfl _) ?_;refine qm ?_;refine qg ?_;refine qp (o:=2) ?_;refine ql hH bF ?_;refine qv (xK l_ (by omega)) ?_;refine qm ?_;refine qg ?_;refine qg ?_;refine qm ?_;refine qm ?_;refine qe hK<|qq<|qq<|qj fun K hK=>qm ?_;refine qg ?_;refine qe hK ?_
   cases hsh:(ft n (g:Nat)).2 with
   |false=>
    rw[if_neg (by simp)];refine qB ?_;refine qq<|qj fun K hK=>qm ?_;refine qe hK<|ab.ret ⟨rx,_,_,_,rfl,ak (rfl),?_⟩;exact⟨rfl,_,_,cF.aA ct (hH.drop 1),hg,fun q hq=>by cases hq⟩
   |true=>
    rw[if_pos rfl];obtain⟨⟨o5,_⟩,hk2,EU⟩:=vj hsh;have Ry:=l_.2.2;obtain⟨kd,Qr⟩:∃kd:Nat,(ft n (g:Nat)).1=(kd:Int):=Int.eq_ofNat_of_zero_le hk2;rw[Qr,Int.toNat_natCast];rw[Qr,Int.toNat_natCast] at o5;refine qC ?_;refine ab.skip<|qq<|qj fun K hK=>qm ?_;refine qg ?_;refine qp (o:=1) ?_;refine ql hH bF ?_;refine qA ?_;refine qg ?_;refine qp (o:=1) ?_;refine qT hH bF fun st hH=>?_;dsimp only[u2,u1,u3,u4,setMany,u5,u6,D.cells,Nat.reduceAdd,ov,bm] at hH;refine qe hK<|qq<|qq<|qj fun K hK=>qp (o:=0) ?_;refine ql hH aB ?_;refine qg ?_;refine qe hK<|ab.merge (fun fr st=>∃(g2:Nat) (tmp:List (Nat×D)),fr=⟨8,[.ptr k 0 0,.int .i64 ((241-(f+1):Nat):Int),nX fr 2,nX fr 3,.bool false,.ptr k5 0 0,.int .i64 (kd:Nat),.bool true],tmp⟩∧Has N S2 st (.box k (.mem 0 false [d,.int .i64 ((at_+1:Nat):Int),.int .i64 (g2:Nat)])::.box k5 (.mem 0 false (bm n))::H)∧(g2=if n.op=6 then g+1 else g)∧(g2≤4)) ?_ ?_
    ·refine ab.cond (by rfl) (fun q6=>?_) (fun q6=>?_)<;>try simp only[beq_iff_eq,beq_eq_false_iff_ne,ne_eq] at q6
     ·have:=EU q6;refine qj fun K hK=>qm ?_;refine qg ?_;refine qp (o:=2) ?_;refine ql hH bF ?_;refine qA ?_;refine qg ?_;refine qp (o:=2) ?_;refine qT hH bF fun st hH=>?_;dsimp only[u2,u1,u3,u4,setMany,u5,u6,D.cells,Nat.reduceAdd,ov,bm] at hH;refine qe hK ?_;exact⟨g+1,_,rfl,(by have:=hH.front bF;exact this),by rw[if_pos q6],by omega⟩
     ·refine ab.skip ?_;exact⟨g,_,rfl,(by have:=hH.front bF;exact this),by rw[if_neg q6],hg⟩
    ·rintro fr st ⟨g2,tmp,hfr,hH,bj,bP⟩;rw[hfr];clear hfr;generalize nX fr=ee;clear fr;rw[←bj];refine qq<|ab.block<|ab.loop (fun mm fr st=>∃(kk a2 g4:Nat),fr.clean=⟨8,[.ptr k 0 0,.int .i64 ((241-(f+1):Nat):Int),nX fr 2,nX fr 3,.bool false,.ptr k5 0 0,.int .i64 (kk:Nat),.bool true],[]⟩∧Has N S2 st (.box k (.mem 0 false [d,.int .i64 (a2:Nat),.int .i64 (g4:Nat)])::.box k5 (.mem 0 false (bm n))::H)∧(jJ (iB l f) kk a2 g4=jJ (iB l f) kd (at_+1) g2)∧(g4≤4)∧(kk=mm)∧(kk≤9223372036854775807)) (kd) ?_ ?_
     ·exact⟨kd,at_+1,g2,rfl,hH,rfl,bP,rfl,by omega⟩
     rintro mm fr st ⟨kk,a2,g4,hfr,hH,hX,bd,Ma,hkk⟩;rw[hfr];clear hfr;generalize nX fr=ee;clear fr;refine qq<|qq<|qj fun K hK=>qm ?_;refine qg ?_;refine qe hK ?_
     cases kk with
     |zero=>
      refine ab.cond (v:=false) (by dsimp only[Fr.ev,Fr.get,nth,V.look];rfl) (fun h=>by cases h) (fun _=>?_);refine ab.exit<|qq<|qj fun K hK=>qm ?_;refine qe hK<|ab.ret ⟨rx,_,_,_,rfl,ak (rfl),?_⟩;exact⟨by rw[←hX];rfl,_,_,cF.aA ct (hH.erase 1),bd,fun q hq=>by rw[←hX] at hq;simp only[jJ,Option.some.injEq] at hq;subst hq;exact⟨rfl,rfl⟩⟩
     |succ kk=>
      rw[jJ] at hX;refine qD rfl (by simp) ?_;refine ab.skip<|qq<|ab.block<|qq<|qj fun K hK=>qm ?_;refine qm ?_;refine aa.lq (z:=((241-f:Nat):Int)) rfl (ev rfl) (ev rfl) (by rw[wrap_i64 (by omega) (by omega)]<;>omega) (ah rfl _) ?_;obtain⟨_,st,aK,rfl,a',g',hH,eP,hq⟩:=ih (at_:=a2) (g:=g4) (by omega) bd hH;refine qv aK ?_;refine qg ?_;refine qe hK ?_
      cases ho:iB l f a2 g4 with
      |none=>
       rw[ho] at hX;refine qB ?_;refine qq<|qj fun K hK=>qm ?_;refine qe hK<|ab.ret ⟨rx,_,_,_,rfl,ak (rfl),?_⟩;exact⟨by rw[←hX];rfl,_,_,cF.aA ct (hH.erase 1),eP,fun q hq=>by rw[←hX] at hq;cases hq⟩
      |some q=>
       rw[ho] at hX;obtain⟨rfl,rfl⟩:=hq q ho;refine qC ?_;refine ab.skip<|qj fun K hK=>qm ?_;refine aa.oS (z:=((kk:Nat):Int)) rfl (ev rfl) (ev rfl) (by rw[wrap_i64 (by omega) (by omega)]<;>omega) (ah rfl _) ?_;refine qm ?_;refine qe hK ?_;exact⟨mm-1,by omega,⟨kk,q.1,q.2,rfl,hH,hX,eP,by omega,by omega⟩⟩
theorem AQ {s0:St} {x:Nl} (hx:x.ok):Ev pv 87 [x.d] s0 (.bool (gm x.l)) s0:=by
 refine Ev.iS rfl XJ rfl rfl rfl ?_;dsimp only[u3,u4,List.length,Nat.reduceSub,Nat.reduceAdd,w1,w2];obtain⟨bT,hF,hH⟩:=ri s0;generalize ag .ro s0=S at*;have hc:=hx.c.arg s0.bs.length S;have hl:=hx.nl;have pw:=hx.c;refine qq<|qj fun K hK=>qm ?_;refine qe hK<|qq<|qq<|ab.kB 11 (.bool (decide (((x.l.length:Nat):Int)<1)||decide (((x.l.length:Nat):Int)>480))) [] ?_ (fun ff tmp hU=>?_)
 ·refine qm ?_;refine qn ?_;simp only[List.length_map];refine qg ?_;refine qm ?_;refine aa.two 7 rfl (fun bP=>?_) (fun bP=>?_)
  ·refine qs ?_ (hg:=wn bP);refine qs ?_ (hg:=wn bP);refine qs ?_ (hg:=wn bP);refine qt bP ?_;refine aa.nil (c_ ?_ ?_)
   ·dsimp only[aR,List.foldl,nth,u2,u1]
    all_goals(first|rfl|simp)
   ·dsimp only[Fr.aj,Fr.put,Fr.clean,Fr.ev,Fr.get,nth,V.look,u1,u2,v1,v2,v3,v4,v5,v6,v7,List.length,u3,u4,Nat.reduceSub,Nat.reduceAdd,List.map]
    all_goals(simp[bP];done)
  ·refine qm ?_ (hg:=wi bP);refine qn ?_ (hg:=wi bP);simp only[List.length_map];refine qg ?_ (hg:=wi bP);refine qu bP ?_;refine aa.nil (c_ ?_ ?_)
   ·dsimp only[aR,List.foldl,nth,u2,u1]
    all_goals(first|rfl|simp)
   ·dsimp only[Fr.aj,Fr.put,Fr.clean,Fr.ev,Fr.get,nth,V.look,u1,u2,v1,v2,v3,v4,v5,v6,v7,List.length,u3,u4,Nat.reduceSub,Nat.reduceAdd,List.map]
    all_goals(simp[bP];done)
 dsimp only[aR,List.foldl,nth,u2,u1]
 by_cases hlen:1≤x.l.length∧x.l.length≤480
 ·have hT:(decide (((x.l.length:Nat):Int)<1)||decide (((x.l.length:Nat):Int)>480))=false:=by
   rw[Bool.or_eq_false_iff];exact⟨by rw[decide_eq_false_iff_not];omega,by rw[decide_eq_false_iff_not];omega⟩
  rw[hT] at hU
  have hR:gm x.l=(match iB x.l 241 0 0 with|some r=>decide (r.1=x.l.length)|none=>false):=by
   unfold gm;rw[decide_eq_true hlen.1,decide_eq_true hlen.2];rfl
  rw[hR];clear hR;refine qC ?_;refine ab.skip<|qq<|qj fun K hK=>qm ?_;refine aa.gd (qs:=[(0,_)]) rfl rfl rfl rfl ⟨rfl,(ev rfl),(by exact(eE.cells (by assumption)).1),trivial⟩ (by intro q hq;simp only[List.mem_cons,List.not_mem_nil,or_false] at hq;rcases hq with rfl<;>exact⟨rfl,by exact Nat.le_of_ble_eq_true rfl⟩) (by show List.foldl _ [_,_,_] _=_;dsimp only[List.foldl_cons,List.foldl_nil,u2,u1]<;>rfl) (ah rfl _) ?_;refine qb hH fun k14 st Tn hH=>?_;refine qm ?_;refine qe hK ?_;have hH:Has s0.bs.length S st (.box k14 (.mem 0 false (ov x.d 0 0))::[]):=hH
  cases bj:(iB x.l 241 0 0).isSome with
  |true=>
   obtain⟨q,hq⟩:=Option.isSome_iff_exists.1 bj;refine qq<|qj fun K hK=>qm ?_;obtain⟨_,st,aK,rfl,a',g',hH,eP,SR⟩:=CX hl hx.i hx.c 241 (by omega) (by omega) hH;refine qv aK ?_;refine qm ?_;refine qm ?_ (hg:=wi bj);refine qg ?_ (hg:=wi bj);refine qp (o:=1) ?_ (hg:=wi bj);refine ql hH aB ?_ (hg:=wi bj);refine qm ?_ (hg:=wi bj);refine qn ?_ (hg:=wi bj);simp only[List.length_map];refine qg ?_ (hg:=wi bj);refine qt bj ?_;refine qm ?_;refine qe hK ?_;obtain⟨rfl,rfl⟩:=SR q hq;rw[hq]
   have he:decide (q.1=x.l.length)=(((q.1:Nat):Int)==((x.l.length:Nat):Int)):=by
    rw[Bool.eq_iff_iff];simp only[decide_eq_true_eq,beq_iff_eq];omega
   simp only[he];refine ab.ret ⟨rx,_,rfl,rl bT hH (rfl)⟩
  |false=>
   have hq:iB x.l 241 0 0=none:=by
    cases hq:iB x.l 241 0 0 with
    |none=>rfl
    |some q=>rw[hq] at bj;cases bj
   refine qq<|qj fun K hK=>qm ?_;obtain⟨_,st,aK,rfl,a',g',hH,eP,SR⟩:=CX hl hx.i hx.c 241 (by omega) (by omega) hH;refine qv aK ?_;refine qm ?_;refine qs ?_ (hg:=wn bj);refine qs ?_ (hg:=wn bj);refine qs ?_ (hg:=wn bj);refine qs ?_ (hg:=wn bj);refine qs ?_ (hg:=wn bj);refine qs ?_ (hg:=wn bj);refine qs ?_ (hg:=wn bj);refine qu bj ?_;refine qm ?_;refine qe hK ?_;rw[hq];refine ab.ret ⟨rx,_,rfl,rl bT hH (rfl)⟩
 ·have hT:(decide (((x.l.length:Nat):Int)<1)||decide (((x.l.length:Nat):Int)>480))=true:=by
   rw[Bool.or_eq_true,decide_eq_true_eq,decide_eq_true_eq];omega
  rw[hT] at hU
  have hR:gm x.l=false:=by
   unfold gm
   by_cases h1:1≤x.l.length
   ·rw[decide_eq_true h1,decide_eq_false (fun h2=>hlen ⟨h1,h2⟩)];rfl
   ·rw[decide_eq_false h1];rfl
  rw[hR];refine qB ?_;refine qq<|qj fun K hK=>qm ?_;refine qe hK<|ab.ret ⟨rx,_,rfl,rl bT hH (rfl)⟩
def aV (fr:Go.V.Fr) (k:Nat):Go.V.D:=Go.V.nth .bp fr.loc k
def nr (es:List Int) (a:Nat) (M:List Int):List Int:=es.take a++M++es.drop (a+M.length)
theorem zB {es M:List Int} {a:Nat} (h:a+M.length≤es.length):(nr es a M).length=es.length:=by
 unfold nr;simp only[List.length_append,List.length_take,List.length_drop];omega
theorem zA {es:List Int} {a:Nat}:nr es a []=es:=by
 unfold nr;simp
theorem Fa {es M:List Int} {a:Nat} {x:Int} (h:a≤es.length):(nr es a (x::M))[a]?=some x:=by
 unfold nr;rw[List.append_assoc,List.getElem?_append_right (by simp only[List.length_take];omega)];simp[Nat.min_eq_left h]
theorem zy {es M M':List Int} {a:Nat} (h:a+M.length+M'.length≤es.length):nr (nr es a M) (a+M.length) M'=nr es a (M++M'):=by
 unfold nr;have h1:(es.take a++M).length=a+M.length:=by simp only[List.length_append,List.length_take];omega
 rw[List.take_append_of_le_length (by omega),List.take_of_length_le (by omega)];rw[←h1,List.drop_append,List.drop_eq_nil_of_le (by omega),List.nil_append,h1,List.drop_drop];simp only[List.append_assoc,List.length_append]
 congr 4
 omega
theorem zz {es M:List Int} {a:Nat} {v:Int} (h:a+1+M.length≤es.length):(nr es (a+1) M).set a v=nr es a (v::M):=by
 unfold nr;have h1:(es.take a).length=a:=by simp only[List.length_take];omega
 rw[List.append_assoc,List.take_add_one,List.getElem?_eq_getElem (by omega)];simp only[Option.toList_some,List.append_assoc,List.cons_append,List.nil_append,List.length_cons];rw[List.set_append_right _ _ (by omega),h1,Nat.sub_self,List.set_cons_zero]
 congr 4
 omega
theorem Cl {l:List dM} {d:D} (hl:l.length≤1048576) (hi:∀n∈l,n.ok) (hd:eE d 7 (l.map bm)):∀(m:Nat) (t:Tr),t.flat.length≤m→t.ok→∀{N:Nat} {S s0:St} {H:List bt} {out:D} {es:List Int} {at_:Nat},fO l at_ t.flat→es.length=l.length→Has N S s0 (.aP out 1 (es.map ay)::H)→
  ∃r ai,Ev pv 88 [d,out,.int .i64 (at_:Nat)] s0 r ai∧r=.int .i64 ((at_+t.flat.length:Nat):Int)∧Has N S ai (.aP out 1 ((nr es at_ t.zs).map ay)::H):=by
 intro m
 induction m with
 |zero=>intro t h;have:=t.iK;omega
 |succ m ih=>
  rintro⟨n,ks⟩ hm bc N S s0 H out es at_ kc rV hH;simp only[Tr.ok] at bc;obtain⟨l_,mj⟩:=bc;simp only[Tr.flat,List.length_cons] at hm;have hle:=kc.le (by simp[Tr.flat]);simp only[Tr.flat] at kc hle;simp only[List.length_cons] at hle;have hn:=kc.head;have kc:=kc.tail;have S9:=hi n (List.mem_of_getElem? hn);have gJ:=lI hn;have DA:=vZ S9;have Qr:=l_.1;have ml:=bI.kW ks;refine Ev.il rfl XI rfl rfl rfl ?_;dsimp only[u3,u4,List.length,Nat.reduceSub,Nat.reduceAdd,w1,w2];have cF:=hH;have hH:=hH.cI;have ct:(ag .rw s0).bs=s0.bs:=rfl;generalize ag .rw s0=S2 at*;have hc:=hd.arg N S2;refine qq<|qj fun K hK=>qm ?_;refine qe hK<|qq<|qj fun K hK=>qm ?_;refine qm ?_;refine qr fun Y7 S4=>?_;refine aa.db rfl (ev rfl) (by assumption) rfl (by dsimp only[Fr.put,u1,u2]<;>rfl) ?_;refine qa hH fun k7 st U3 hH=>?_;refine aa.uj hH rfl (ev rfl) (ev rfl) (by rfl) (by exact rfl) (by exact aB) (by exact rfl) (by exact .inr (by assumption)) (fun st hH=>?_);dsimp only[u2,u1,u3,u4,setMany,u5,u6,D.cells,Nat.reduceAdd,bm,ay] at hH;refine qe hK<|qq<|qj fun K hK=>qm ?_;refine qA ?_;refine qm ?_;refine qe hK<|qq<|qj fun K hK=>qm ?_;refine qe hK<|qq<|qq<|qj fun K hK=>qp (o:=6) ?_;refine ql hH aB ?_;refine qm ?_;refine qe hK<|ab.block<|ab.loop (fun mm fr st=>∃(i j ss:Nat) (rest:bI) (o6:List Int),fr.clean=⟨36,[d,out,.int .i64 (at_:Nat),aV fr 3,aV fr 4,aV fr 5,.int .i64 0,.ptr k7 0 0,.int .i64 (j:Nat),.int .i64 ((min ss 401:Nat):Int),aV fr 10,aV fr 11,aV fr 12,aV fr 13,aV fr 14,aV fr 15,aV fr 16,aV fr 17,.int .i64 n.kids,.int .i64 (i:Nat),aV fr 20,aV fr 21,aV fr 22,aV fr 23,aV fr 24,aV fr 25,aV fr 26,aV fr 27,aV fr 28,aV fr 29,aV fr 30,aV fr 31,aV fr 32,aV fr 33,aV fr 34,aV fr 35],[]⟩∧Has N S2 st (.aP out 1 (o6.map ay)::.box k7 (.mem 0 false (bm n))::H)∧(mm=rest.len)∧(i+rest.len=ks.len)∧(fO l j rest.flat)∧(rest.ok)∧(ss+rest.sz=ks.sz)∧(o6.length=l.length)∧(nr o6 j rest.zs=nr es (at_+1) ks.zs)∧(j+rest.flat.length=at_+1+ks.flat.length)∧(rest.flat.length≤m)) (ks.len) ?_ ?_
  ·exact⟨0,at_+1,0,ks,es,rfl,(by have:=hH.front bF;exact this),rfl,by omega,kc,mj,by omega,rV,rfl,rfl,by omega⟩
  rintro mm fr st ⟨i,j,ss,rest,o6,hfr,hH,yJ,u_,oY,jo,B0,yN,uo,hj,P_⟩;rw[hfr];clear hfr;generalize aV fr=ee;clear fr;refine qq<|qj fun K hK=>qg ?_;refine qe hK ?_
  cases rest with
  |nil=>
   simp only[bI.len] at u_;simp only[bI.sz] at B0;simp only[bI.flat,List.length_nil] at hj;simp only[bI.zs,zA] at uo;have gL:decide ((i:Int)<n.kids)=false:=by rw[decide_eq_false_iff_not];omega
   refine qq<|qE rfl (by rw[gL]) ?_;refine ab.exit ?_;obtain rfl:ss=ks.sz:=by omega
   have kc:=oY;refine qq<|qq<|qj fun K hK=>qp (o:=0) ?_;refine ql hH bF ?_;refine qe hK<|ab.merge (fun fr st=>∃(tmp:List (Nat×D)),fr=⟨36,[d,out,.int .i64 (at_:Nat),aV fr 3,aV fr 4,aV fr 5,.int .i64 0,.ptr k7 0 0,.int .i64 (j:Nat),.int .i64 ((bQ n (min ks.sz 401) ks.len:Nat):Int),aV fr 10,aV fr 11,aV fr 12,aV fr 13,aV fr 14,aV fr 15,aV fr 16,aV fr 17,aV fr 18,aV fr 19,aV fr 20,aV fr 21,aV fr 22,aV fr 23,aV fr 24,aV fr 25,aV fr 26,aV fr 27,aV fr 28,aV fr 29,aV fr 30,aV fr 31,aV fr 32,aV fr 33,aV fr 34,aV fr 35],tmp⟩∧Has N S2 st (.aP out 1 (o6.map ay)::.box k7 (.mem 0 false (bm n))::H)) ?_ ?_
   ·refine ab.block<|qq<|qq<|qj fun K hK=>qg ?_;refine qm ?_;refine qe hK ?_;generalize hw:min ks.sz 401=w;have VS:w≤401:=by omega
    have gi:ks.len≤9223372036854775→True:=fun _=>trivial
    by_cases q2:n.op=2
    ·have hz:bQ n w ks.len=1:=by unfold bQ;rw[if_pos (.inl q2)]
     rw[hz];refine qD rfl (by simp[q2]) ?_;refine ab.skip<|qD rfl (by simp[q2]) ?_;refine qj fun K hK=>qm ?_;refine qe hK ?_;exact⟨_,rfl,hH⟩
    refine qE rfl (by simp[q2]) ?_;refine qq<|qj fun K hK=>qg ?_;refine qm ?_;refine qe hK ?_
    by_cases q7:n.op=7
    ·have hz:bQ n w ks.len=1:=by unfold bQ;rw[if_pos (.inr (.inl q7))]
     rw[hz];refine qD rfl (by simp[q7]) ?_;refine ab.skip<|qD rfl (by simp[q7]) ?_;refine qj fun K hK=>qm ?_;refine qe hK ?_;exact⟨_,rfl,hH⟩
    refine qE rfl (by simp[q7]) ?_;refine qj fun K hK=>qg ?_;refine qm ?_;refine qe hK ?_
    by_cases q8:n.op=8
    ·have hz:bQ n w ks.len=1:=by unfold bQ;rw[if_pos (.inr (.inr q8))]
     rw[hz];refine qD rfl (by simp[q8]) ?_;refine qj fun K hK=>qm ?_;refine qe hK ?_;exact⟨_,rfl,hH⟩
    refine qE rfl (by simp[q8]) ?_
    have hz0:bQ n w ks.len=if n.op=4 then w+2*(ks.len-1) else if n.op=6 then w+2 else if n.op=5 then(if n.mx=-1 then n.mn.toNat*w+w+2 else n.mn.toNat*w+(n.mx.toNat-n.mn.toNat)*(w+1)) else w:=by
     unfold bQ;rw[if_neg (by omega)]
    rw[hz0];clear hz0;obtain⟨_,h_⟩:=l_;have hq:(n.op=1∧ks.len=0)∨((n.op=3∨n.op=4)∧2≤ks.len)∨(n.op=5∧ks.len=1∧0≤n.mn∧n.mn≤30∧(n.mx=-1∨(n.mn≤n.mx∧n.mx≤30)))∨(n.op=6∧ks.len=1∧1≤n.cap∧n.cap≤4):=by omega
    refine qq<|qj fun K hK=>qg ?_;refine qm ?_;refine qe hK ?_
    by_cases q4:n.op=4
    ·rw[if_pos q4];have hk2:2≤ks.len:=by omega
     refine qD rfl (by simp[q4]) ?_;refine qj fun K hK=>qm ?_;refine qp (o:=6) ?_;refine ql hH bF ?_;refine aa.oS (z:=((ks.len-1:Nat):Int)) rfl (ev rfl) (ev rfl) (by rw[wrap_i64 (by omega) (by omega)]<;>omega) (ah rfl _) ?_;refine aa.yp (z:=((2*(ks.len-1):Nat):Int)) rfl (ev rfl) (ev rfl) (by rw[wrap_i64 (by omega) (by omega)]<;>omega) (ah rfl _) ?_;refine aa.lq (z:=((w+2*(ks.len-1):Nat):Int)) rfl (ev rfl) (ev rfl) (by rw[wrap_i64 (by omega) (by omega)]<;>omega) (ah rfl _) ?_;refine qm ?_;refine qe hK ?_;exact⟨_,rfl,hH⟩
    rw[if_neg q4];refine qE rfl (by simp[q4]) ?_;refine qq<|qj fun K hK=>qg ?_;refine qm ?_;refine qe hK ?_
    by_cases q6:n.op=6
    ·rw[if_pos q6];refine qD rfl (by simp[q6]) ?_;refine qj fun K hK=>qm ?_;refine qA ?_;refine qm ?_;refine qe hK ?_;exact⟨_,rfl,hH⟩
    rw[if_neg q6];refine qE rfl (by simp[q6]) ?_;refine qq<|qj fun K hK=>qg ?_;refine qm ?_;refine qe hK ?_
    by_cases q5:n.op=5
    ·rw[if_pos q5];refine qD rfl (by simp[q5]) ?_;refine qq<|qj fun K hK=>qp (o:=3) ?_;refine ql hH bF ?_;refine qg ?_;refine qe hK ?_;have B3:0≤n.mn∧n.mn≤30∧(n.mx=-1∨(n.mn≤n.mx∧n.mx≤30)):=by omega
     obtain⟨a,ha⟩:∃a:Nat,n.mn=(a:Int):=Int.eq_ofNat_of_zero_le B3.1;have V1:n.mn.toNat=a:=by omega
     have h1:a*w≤30*401:=Nat.mul_le_mul (by omega) VS;have hmul:n.mn*(w:Int)=((a*w:Nat):Int):=by rw[ha];push_cast;rfl
     rw[V1]
     by_cases CC:n.mx=-1
     ·rw[if_pos CC];refine qD rfl (by simp[CC]) ?_;refine qj fun K hK=>qp (o:=2) ?_;refine ql hH bF ?_;refine qm ?_;refine aa.yp (z:=((a*w:Nat):Int)) rfl (ev rfl) (ev rfl) (by rw[wrap_i64 (by omega) (by omega)]<;>omega) (ah rfl _) ?_;refine qm ?_;refine aa.lq (z:=((a*w+w:Nat):Int)) rfl (ev rfl) (ev rfl) (by rw[wrap_i64 (by omega) (by omega)]<;>omega) (ah rfl _) ?_;refine aa.lq (z:=((a*w+w+2:Nat):Int)) rfl (ev rfl) (ev rfl) (by rw[wrap_i64 (by omega) (by omega)]<;>omega) (ah rfl _) ?_;refine qm ?_;refine qe hK ?_;exact⟨_,rfl,hH⟩
     ·rw[if_neg CC];obtain⟨b,hb⟩:∃b:Nat,n.mx=(b:Int):=Int.eq_ofNat_of_zero_le (by omega);have htb:n.mx.toNat=b:=by omega
      have h2:(b-a)*(w+1)≤30*402:=Nat.mul_le_mul (by omega) (by omega);rw[htb];refine qE rfl (by simp[CC]) ?_;refine qj fun K hK=>qp (o:=2) ?_;refine ql hH bF ?_;refine qm ?_;refine aa.yp (z:=((a*w:Nat):Int)) rfl (ev rfl) (ev rfl) (by rw[wrap_i64 (by omega) (by omega)]<;>omega) (ah rfl _) ?_;refine qp (o:=3) ?_;refine ql hH bF ?_;refine qp (o:=2) ?_;refine ql hH bF ?_;refine aa.oS (z:=((b-a:Nat):Int)) rfl (ev rfl) (ev rfl) (by rw[wrap_i64 (by omega) (by omega)]<;>omega) (ah rfl _) ?_;refine qm ?_;refine aa.lq (z:=((w+1:Nat):Int)) rfl (ev rfl) (ev rfl) (by rw[wrap_i64 (by omega) (by omega)]<;>omega) (ah rfl _) ?_;refine aa.yp (z:=(((b-a)*(w+1):Nat):Int)) rfl (ev rfl) (ev rfl) (by rw[wrap_i64 (by omega) (by omega)]<;>omega) (ah rfl _) ?_;refine aa.lq (z:=((a*w+(b-a)*(w+1):Nat):Int)) rfl (ev rfl) (ev rfl) (by rw[wrap_i64 (by omega) (by omega)]<;>omega) (ah rfl _) ?_;refine qm ?_;refine qe hK ?_;exact⟨_,rfl,hH⟩
    ·rw[if_neg q5];refine qE rfl (by simp[q5]) ?_;refine ab.skip ?_;exact⟨_,rfl,hH⟩
   ·rintro fr st ⟨tmp,hfr,hH⟩;rw[hfr];clear hfr;generalize aV fr=ee;clear fr;have lU:=LH (n:=n) (k:=ks.len) (s:=ks.sz);have iZ:at_<o6.length:=by omega
    obtain⟨w,hw⟩:∃w,o6[at_]?=some w:=⟨o6[at_]'iZ,List.getElem?_eq_getElem _⟩
    have hr9:=eO hw;refine qq<|qj fun K hK=>qm ?_;refine qm ?_;refine qm ?_;refine aa.Si (z:=((min (bQ n ks.sz ks.len) 401:Nat):Int)) (t1:=_) (t2:=_) rfl (ev rfl) (ev rfl) (by omega) (ah rfl _) ?_;refine qi hH aB fun p81 Wj=>?_;refine aa.l4 hH rfl (ev rfl) (ev rfl) (by assumption) rfl rfl (by exact aB) (by assumption) (Nat.le_of_ble_eq_true rfl) (by exact .inr rfl) (fun st hH=>?_);dsimp only[u2,u1,u3,u4,setMany,u5,u6,D.cells,Nat.reduceAdd,bm,ay] at hH;refine qe hK<|qq<|qj fun K hK=>qm ?_;refine qm ?_;refine qe hK<|ab.ret ⟨rx,_,_,_,rfl,ak (rfl),?_⟩;have WX:j=at_+(Tr.mk n ks).flat.length:=by simp only[Tr.flat,List.length_cons];omega
    refine⟨by rw[WX];rfl,?_⟩
    have gy:nr es at_ (Tr.zs (.mk n ks))=o6.set at_ ((min (bQ n ks.sz ks.len) 401:Nat):Int):=by
     rw[uo,zz (by rw[bI.jf];omega)];rfl
    rw[gy,List.map_set];exact cF.wu ct (hH.erase 1)
  |cons t ts=>
   simp only[bI.len] at u_ yJ;simp only[bI.sz] at B0;simp only[bI.flat,List.length_append] at hj oY P_;simp only[bI.zs] at uo;simp only[bI.ok] at jo;have gL:decide ((i:Int)<n.kids)=true:=by rw[decide_eq_true_eq];omega
   have SD:=t.iK;have PY:=t.jf;have Sv:=ts.jf;have QC:(nr o6 j t.zs).length=l.length:=by rw[zB (by omega)];exact yN
   have hz8:(nr o6 j t.zs)[j]?=some ((min t.sz 401:Nat):Int):=by
    obtain⟨n',Sq⟩:=t;simp only[Tr.zs,Tr.sz];exact Fa (by omega)
   have hr8:=eO hz8;refine qq<|qD rfl (by rw[gL]) ?_;refine ab.skip<|qq<|ab.block<|qq<|qj fun K hK=>qm ?_;refine qm ?_;refine qe hK<|qq<|qj fun K hK=>qm ?_;refine qm ?_;refine qm ?_;obtain⟨_,st,aK,rfl,hH⟩:=ih t (by omega) jo.1 oY.left yN hH;refine qv aK ?_;refine qm ?_;refine qe hK<|qj fun K hK=>qm ?_;refine qm ?_;refine qm ?_;refine qi hH aB fun p29 Ww=>?_;refine qo hH aB ?_;refine aa.lq (z:=((min ss 401+min t.sz 401:Nat):Int)) rfl (ev rfl) (ev rfl) (by rw[wrap_i64 (by omega) (by omega)]<;>omega) (by dsimp only[Fr.put,u1,u2]<;>rfl) ?_;refine aa.Si (z:=((min (ss+t.sz) 401:Nat):Int)) (t1:=_) (t2:=_) rfl (ev rfl) (ev rfl) (by omega) (by dsimp only[Fr.put,u1,u2]<;>rfl) ?_;refine qm ?_;refine qe hK<|qj fun K hK=>qA ?_;refine qm ?_;refine qe hK ?_;exact⟨mm-1,by omega,⟨i+1,j+t.flat.length,ss+t.sz,ts,nr o6 j t.zs,rfl,hH,by omega,by omega,oY.right,jo.2,by omega,QC,by rw[←uo];have:=zy (es:=o6) (a:=j) (M:=t.zs) (M':=ts.zs) (by omega);rw[PY] at this;exact this,by omega,by omega⟩⟩
theorem Lx {l:List dM} {d:D} (hl:l.length≤1048576) (hi:∀n∈l,n.ok) (hd:eE d 7 (l.map bm)):∀(m:Nat) (t:Tr),t.flat.length≤m→t.ok→∀{N:Nat} {S s0:St} {H:List bt} {out:D} {es:List Int} {at_:Nat},fO l at_ t.flat→es.length=l.length→Has N S s0 (.aP out 1 (es.map ay)::H)→
  ∃r ai,Ev pv 89 [d,out,.int .i64 (at_:Nat)] s0 r ai∧r=.int .i64 ((at_+t.flat.length:Nat):Int)∧Has N S ai (.aP out 1 ((nr es at_ (t.es at_)).map ay)::H):=by
 intro m
 induction m with
 |zero=>intro t h;have:=t.iK;omega
 |succ m ih=>
  rintro⟨n,ks⟩ hm bc N S s0 H out es at_ kc rV hH;simp only[Tr.ok] at bc;obtain⟨l_,mj⟩:=bc;simp only[Tr.flat,List.length_cons] at hm;have hle:=kc.le (by simp[Tr.flat]);simp only[Tr.flat] at kc hle;simp only[List.length_cons] at hle;have hn:=kc.head;have kc:=kc.tail;have S9:=hi n (List.mem_of_getElem? hn);have gJ:=lI hn;have Qr:=l_.1;have ml:=bI.kW ks;refine Ev.il rfl XH rfl rfl rfl ?_;dsimp only[u3,u4,List.length,Nat.reduceSub,Nat.reduceAdd,w1,w2];have cF:=hH;have hH:=hH.cI;have ct:(ag .rw s0).bs=s0.bs:=rfl;generalize ag .rw s0=S2 at*;have hc:=hd.arg N S2;refine qq<|qj fun K hK=>qm ?_;refine qe hK<|qq<|qj fun K hK=>qm ?_;refine qA ?_;refine qm ?_;refine qe hK<|qq<|qq<|qj fun K hK=>qm ?_;refine qm ?_;refine qr fun Y8 S5=>?_;refine qf (fo:=6) fun Y7 S4=>?_;refine qR ?_;refine qm ?_;refine qe hK<|ab.block<|ab.loop (fun mm fr st=>∃(i j:Nat) (rest:bI) (o6:List Int),fr.clean=⟨16,[d,out,.int .i64 (at_:Nat),aV fr 3,aV fr 4,aV fr 5,.int .i64 0,.int .i64 (j:Nat),aV fr 8,aV fr 9,aV fr 10,aV fr 11,aV fr 12,aV fr 13,.int .i64 n.kids,.int .i64 (i:Nat)],[]⟩∧Has N S2 st (.aP out 1 (o6.map ay)::H)∧(mm=rest.len)∧(i+rest.len=ks.len)∧(fO l j rest.flat)∧(rest.ok)∧(o6.length=l.length)∧(nr o6 j (rest.es j)=nr es (at_+1) (ks.es (at_+1)))∧(j+rest.flat.length=at_+1+ks.flat.length)∧(rest.flat.length≤m)) (ks.len) ?_ ?_
  ·exact⟨0,at_+1,ks,es,rfl,hH,rfl,by omega,kc,mj,rV,rfl,rfl,by omega⟩
  rintro mm fr st ⟨i,j,rest,o6,hfr,hH,yJ,u_,oY,jo,yN,uo,hj,P_⟩;rw[hfr];clear hfr;generalize aV fr=ee;clear fr;refine qq<|qj fun K hK=>qg ?_;refine qe hK ?_
  cases rest with
  |nil=>
   simp only[bI.len] at u_;simp only[bI.flat,List.length_nil] at hj;simp only[bI.es,zA] at uo;have gL:decide ((i:Int)<n.kids)=false:=by rw[decide_eq_false_iff_not];omega
   have iZ:at_<o6.length:=by omega
   obtain⟨w,hw⟩:∃w,o6[at_]?=some w:=⟨o6[at_]'iZ,List.getElem?_eq_getElem _⟩
   have hr9:=eO hw;refine qq<|qE rfl (by rw[gL]) ?_;refine ab.exit<|qq<|qj fun K hK=>qm ?_;refine qm ?_;refine qm ?_;refine qi hH aB fun Sb DG=>?_;refine aa.l4 hH rfl (ev rfl) (ev rfl) (by assumption) rfl rfl (by exact aB) (by assumption) (Nat.le_of_ble_eq_true rfl) (by exact .inr rfl) (fun st hH=>?_);dsimp only[u2,u1,u3,u4,setMany,u5,u6,D.cells,Nat.reduceAdd,bm,ay] at hH;refine qe hK<|qq<|qj fun K hK=>qm ?_;refine qm ?_;refine qe hK<|ab.ret ⟨rx,_,_,_,rfl,ak (rfl),?_⟩;have WX:j=at_+(Tr.mk n ks).flat.length:=by simp only[Tr.flat,List.length_cons];omega
   refine⟨by rw[WX];rfl,?_⟩
   have gy:nr es at_ (Tr.es (.mk n ks) at_)=o6.set at_ ((j:Nat):Int):=by
    rw[uo,zz (by rw[bI.jr];omega)];have:j=at_+1+ks.flat.length:=by omega
    rw[this];rfl
   rw[gy,List.map_set];exact cF.wu ct hH
  |cons t ts=>
   simp only[bI.len] at u_ yJ;simp only[bI.flat,List.length_append] at hj oY P_;simp only[bI.es] at uo;simp only[bI.ok] at jo;have gL:decide ((i:Int)<n.kids)=true:=by rw[decide_eq_true_eq];omega
   have SD:=t.iK;have PY:=t.jr j;have Sv:=ts.jr (j+t.flat.length);have QC:(nr o6 j (t.es j)).length=l.length:=by rw[zB (by omega)];exact yN
   refine qq<|qD rfl (by rw[gL]) ?_;refine ab.skip<|qq<|ab.block<|qj fun K hK=>qm ?_;refine qm ?_;refine qm ?_;obtain⟨_,st,aK,rfl,hH⟩:=ih t (by omega) jo.1 oY.left yN hH;refine qv aK ?_;refine qm ?_;refine qe hK<|qj fun K hK=>qA ?_;refine qm ?_;refine qe hK ?_;exact⟨mm-1,by omega,⟨i+1,j+t.flat.length,ts,nr o6 j (t.es j),rfl,hH,by omega,by omega,oY.right,jo.2,QC,by rw[←uo];have:=zy (es:=o6) (a:=j) (M:=t.es j) (M':=ts.es (j+t.flat.length)) (by omega);rw[PY] at this;exact this,by omega,by omega⟩⟩
theorem gA {N k:Nat} {S s0:St} {H:List bt} {ks:Nat→Prop} {cd nd zd ed w:D} {code:List aO} {op x y:Int} {rs:List Rg} (hF:S.flr≤N) (hl:code.length≤1048576) (hH:Has N S s0 (.aP w 2 (rs.map ax)::.box k (.mem 0 false [cd,nd,zd,ed])::.deep ks cd 4 (code.map aH)::H)):
  ∃r ai,Ev pv 90 [.ptr k 0 0,.agg [.int .i64 op,.int .i64 x,.int .i64 y,w]] s0 r ai∧r=.int .i64 (code.length:Nat)∧∃ZY Sq,Has N S ai (.box k (.mem 0 false [ZY,nd,zd,ed])::.deep Sq ZY 4 ((code++[c8 op x y rs]).map aH)::H):=by
 refine Ev.il rfl XG rfl rfl rfl ?_;dsimp only[u3,u4,List.length,Nat.reduceSub,Nat.reduceAdd,w1,w2];change ab _ _ _ _ s0 _;refine qq<|qj fun K hK=>qb hH fun k3 st EU hH=>?_;refine qm ?_;refine qe hK<|qq<|qj fun K hK=>qm ?_;refine qm ?_;refine qg ?_;refine qp (o:=0) ?_;refine ql hH dL ?_;refine aa.aT (m:=4) hH rfl (ev rfl) (by exact aB) (by dsimp only[List.drop_succ_cons,List.drop_zero,List.take_succ_cons,List.take_zero,aH]<;>rfl) rfl rfl (ah rfl _) ?_;refine qh (s:=4) (vs:=[_]) hH fun k11 st Qv hH=>?_;obtain⟨hH,Ln⟩:=hH.rO (i:=2) (j:=4) (by decide) dL gO (eH _);dsimp only[u1,u2] at hH;refine aa.kj hH rfl (ev rfl) (ev rfl) gO (hH.rows aB) (.cons (.cons (.plain _ rfl) (.cons (.plain _ rfl) (.cons (.plain _ rfl) (.cons Ln .nil)))) .nil) rfl rfl rfl rfl rfl rfl rfl ⟨(Nat.le_of_ble_eq_true rfl),(Nat.le_of_ble_eq_true rfl)⟩ (fun _=>(ah rfl _)) (by simp only[List.length_map,List.length_cons,List.length_nil];omega) (.inl hF) (fun x12 st hH=>?_);dsimp only[u1,u2] at hH;refine qg ?_;refine qp (o:=0) ?_;refine aa.k_ hH rfl (ev rfl) (ev rfl) (by exact hH.og (by exact gO)) (by exact rfl) (by exact eQ) (by exact Nat.le_of_ble_eq_true rfl) (by exact .inl hF) (fun st hH=>?_);dsimp only[u2,u1,u3,u4,setMany,u5,u6,D.cells,Nat.reduceAdd,aH] at hH;refine qe hK<|qq<|qj fun K hK=>qm ?_;refine qg ?_;refine qp (o:=0) ?_;refine ql hH eQ ?_;refine aa.BI hH rfl (ev rfl) (by exact gO) rfl (ah rfl _) ?_;simp only[List.length_map,List.length_append,List.length_cons,List.length_nil];refine aa.oS (z:=((code.length:Nat):Int)) rfl (ev rfl) (ev rfl) (by rw[wrap_i64 (by omega) (by omega)]<;>omega) (ah rfl _) ?_;refine qm ?_;refine qe hK<|ab.ret ⟨rx,_,_,_,rfl,rfl,?_⟩;exact⟨rfl,_,_,by rw[List.map_append];exact hH.drop 3⟩
theorem pG {N k:Nat} {S s0:St} {H:List bt} {ks:Nat→Prop} {cd nd zd ed:D} {code:List aO} {at_ over:Nat} {lz:Bool} {x y:Int} (iZ:code[at_]?=some (c8 2 x y [])) (hl:code.length≤1048576) (hH:Has N S s0 (.box k (.mem 0 false [cd,nd,zd,ed])::.deep ks cd 4 (code.map aH)::H)):
  ∃r ai,Ev pv 139 [.ptr k 0 0,.int .i64 (at_:Nat),.int .i64 (over:Nat),.bool lz] s0 r ai∧r=.tup []∧Has N S ai (.box k (.mem 0 false [cd,nd,zd,ed])::.deep ks cd 4 ((code.set at_ (nE at_ over lz)).map aH)::H):=by
 have hlt:=bH iZ;have gJ:(code.map aH)[at_]?=some [.int .i64 2,.int .i64 x,.int .i64 y,.sl []]:=gD iZ;have gy:∀a b:List D,(code.map aH).set at_ a=(code.map aH).set at_ a:=fun _ _=>rfl;refine Ev.il rfl Uh rfl rfl rfl ?_;dsimp only[u3,u4,List.length,Nat.reduceSub,Nat.reduceAdd,w1,w2];have cF:=hH;have hH:=hH.cI;have ct:(ag .rw s0).bs=s0.bs:=rfl;generalize ag .rw s0=S2 at*;refine qq<|qj fun K hK=>qm ?_;refine qg ?_;refine qp (o:=0) ?_;refine ql hH aB ?_;refine qm ?_;refine qm ?_;refine qg ?_;refine qp (o:=0) ?_;refine ql hH aB ?_;refine qm ?_;refine qm ?_;refine aa.lq (z:=((at_+1:Nat):Int)) rfl (ev rfl) (ev rfl) (by rw[wrap_i64 (by omega) (by omega)]<;>omega) (ah rfl _) ?_;refine qm ?_;refine aa.Ea (s:=4) hH rfl (ev rfl) (ev rfl) (by exact bF) rfl rfl (by exact bH (by assumption)) (fun _=>(ah rfl _)) (fun UR Le=>?_);refine aa.gC (fo:=1) (m:=0) (o2:=1) rfl (ev rfl) (by assumption) rfl rfl rfl (fun _=>(ah rfl _)) (fun Vv Qh=>?_);refine aa.ru hH rfl (ev rfl) (ev rfl) (by assumption) rfl rfl (by exact bF) (by assumption) (Nat.le_of_ble_eq_true rfl) (by intro d hd;simp only[List.mem_cons,List.not_mem_nil,or_false] at hd;subst hd;rfl) (by exact .inr rfl) (fun st hH=>?_);dsimp only[u2,u1,u3,u4,setMany,u5,u6,D.cells,Nat.reduceAdd,aH] at hH;refine aa.Ea (s:=4) hH rfl (ev rfl) (ev rfl) (by exact bF) rfl rfl (by simp only[List.length_map,List.length_set]<;>omega) (fun _=>(ah rfl _)) (fun Vu Qg=>?_);refine aa.gC (fo:=2) (m:=0) (o2:=2) rfl (ev rfl) (by assumption) rfl rfl rfl (fun _=>(ah rfl _)) (fun Rl Bn=>?_);refine aa.ru hH rfl (ev rfl) (ev rfl) (by assumption) rfl rfl (by exact bF) (List.getElem?_set_self (by simp only[List.length_map];omega)) (Nat.le_of_ble_eq_true rfl) (by intro d hd;simp only[List.mem_cons,List.not_mem_nil,or_false] at hd;subst hd;rfl) (by exact .inr rfl) (fun st hH=>?_);dsimp only[u1,u2,setMany] at hH;rw[List.set_set] at hH;refine qe hK<|qq<|qj fun K hK=>qm ?_;refine qe hK ?_
 cases lz with
 |false=>
  refine qC ?_;refine ab.skip ?_;refine⟨fun i h=>(by cases h),_,_,_,rfl,ak rfl,?_⟩;exact⟨rfl,by rw[List.map_set];exact cF.wv ct hH⟩
 |true=>
  refine qB ?_;refine qj fun K hK=>qm ?_;refine qg ?_;refine qp (o:=0) ?_;refine ql hH aB ?_;refine qm ?_;refine qm ?_;refine qg ?_;refine qp (o:=0) ?_;refine ql hH aB ?_;refine qm ?_;refine qm ?_;refine qm ?_;refine aa.lq (z:=((at_+1:Nat):Int)) rfl (ev rfl) (ev rfl) (by rw[wrap_i64 (by omega) (by omega)]<;>omega) (ah rfl _) ?_;refine aa.Ea (s:=4) hH rfl (ev rfl) (ev rfl) (by exact bF) rfl rfl (by simp only[List.length_map,List.length_set]<;>omega) (fun _=>(ah rfl _)) (fun Y4 SZ=>?_);refine aa.gC (fo:=1) (m:=0) (o2:=1) rfl (ev rfl) (by assumption) rfl rfl rfl (fun _=>(ah rfl _)) (fun p40 Wu=>?_);refine aa.ru hH rfl (ev rfl) (ev rfl) (by assumption) rfl rfl (by exact bF) (List.getElem?_set_self (by simp only[List.length_map];omega)) (Nat.le_of_ble_eq_true rfl) (by intro d hd;simp only[List.mem_cons,List.not_mem_nil,or_false] at hd;subst hd;rfl) (by exact .inr rfl) (fun st hH=>?_);dsimp only[u1,u2,setMany] at hH;rw[List.set_set] at hH;refine aa.Ea (s:=4) hH rfl (ev rfl) (ev rfl) (by exact bF) rfl rfl (by simp only[List.length_map,List.length_set]<;>omega) (fun _=>(ah rfl _)) (fun p41 aaB=>?_);refine aa.gC (fo:=2) (m:=0) (o2:=2) rfl (ev rfl) (by assumption) rfl rfl rfl (fun _=>(ah rfl _)) (fun p42 aaA=>?_);refine aa.ru hH rfl (ev rfl) (ev rfl) (by assumption) rfl rfl (by exact bF) (List.getElem?_set_self (by simp only[List.length_map];omega)) (Nat.le_of_ble_eq_true rfl) (by intro d hd;simp only[List.mem_cons,List.not_mem_nil,or_false] at hd;subst hd;rfl) (by exact .inr rfl) (fun st hH=>?_);dsimp only[u1,u2,setMany] at hH;rw[List.set_set] at hH;refine qe hK ?_;refine⟨fun i h=>(by cases h),_,_,_,rfl,ak rfl,?_⟩;exact⟨rfl,by rw[List.map_set];exact cF.wv ct hH⟩
def av (fr:Go.V.Fr) (k:Nat):Go.V.D:=Go.V.nth .bp fr.loc k
def kR (n:Nat):List D:=[.int .i64 (n:Nat)]
theorem wb {l:List Nat} {i q:Nat} (h:l[i]?=some q):(l.map kR)[i]?=some (kR q):=by rw[List.getElem?_map,h];rfl
def RF (N:Nat) (S st:St) (k:Nat) (nd zd ed:D) (Z E:List Int) (H:List bt) (code:List aO):Prop:=
 ∃cd ks,Has N S st (.box k (.mem 0 false [cd,nd,zd,ed])::.deep ks cd 4 (code.map aH)::.aP zd 1 (Z.map ay)::.aP ed 1 (E.map ay)::H)
def rQ (l:List dM) (t:Tr):Prop:=∀{N k:Nat} {S s0:St} {H:List bt} {nd zd ed:D} {code:List aO} {Z E:List Int} {at_:Nat},S.flr≤N→eE nd 7 (l.map bm)→fO l at_ t.flat→fO Z at_ t.zs→fO E at_ (t.es at_)→t.ok→code.length+t.sz≤1000000→RF N S s0 k nd zd ed Z E H code→
 ∃r ai,Ev pv 91 [.ptr k 0 0,.int .i64 (at_:Nat)] s0 r ai∧r=.tup []∧RF N S ai k nd zd ed Z E H (code++aX t code.length)
theorem Al {E:List Int} {t:Tr} {a:Nat} (h:fO E a (t.es a)):E[a]?=some ((a+t.flat.length:Nat):Int):=by
 obtain⟨n,ks⟩:=t;simp only[Tr.es] at h;rw[h.head];simp only[Tr.flat,List.length_cons]
 congr 2;omega
theorem zp {Z:List Int} {t:Tr} {a:Nat} (h:fO Z a t.zs):Z[a]?=some ((min t.sz 401:Nat):Int):=by
 obtain⟨n,ks⟩:=t;simp only[Tr.zs] at h;rw[h.head];rfl
theorem Q8 {l:List dM} (o4:l.length≤1048576) {m:Nat} (ih:∀t:Tr,t.flat.length≤m→rQ l t) {n:dM} {ks:bI} (gg:n.op=4) (Zu:ks.flat.length≤m) (l_:v_ n ks.len) (mj:ks.ok) {N k:Nat} {S s0:St} {H:List bt} {nd zd ed:D} {code:List aO} {Z E:List Int} {at_:Nat} (hF:S.flr≤N) (yI:eE nd 7 (l.map bm)) (iT:fO l at_ (n::ks.flat)) (hsz:fO Z (at_+1) ks.zs) (u7:fO E (at_+1) (ks.es (at_+1))) (hb:code.length+bQ n ks.sz ks.len≤1000000) (hM:RF N S s0 k nd zd ed Z E H code):
  ∃r ai,Ev pv 124 [.ptr k 0 0,.int .i64 (at_:Nat)] s0 r ai∧r=.tup []∧RF N S ai k nd zd ed Z E H (code++eR (mK (code.length+bQ n ks.sz ks.len)) ks code.length):=by
 obtain⟨cd,dk,hH⟩:=hM;have hle:=iT.le (by simp);simp only[List.length_cons] at hle;have hn:=iT.head;have iT:=iT.tail;have gJ:=lI hn;have Qr:=l_.1;have gi:=bI.kW ks
 have hk2:2≤ks.len:=by
  obtain⟨_,hq⟩:=l_;omega
 have Li:bQ n ks.sz ks.len=ks.sz+2*(ks.len-1):=by unfold bQ;rw[if_neg (by omega),if_pos gg]
 rw[Li] at hb⊢;clear Li;refine Ev.il rfl Ur rfl rfl rfl ?_;dsimp only[u3,u4,List.length,Nat.reduceSub,Nat.reduceAdd,w1,w2];change ab _ _ _ _ s0 _;have hc:=yI.arg N S;refine qq<|qj fun K hK=>qm ?_;refine qe hK<|qq<|qj fun K hK=>qm ?_;refine qA ?_;refine qm ?_;refine qe hK<|qq<|qq<|qj fun K hK=>qm ?_;refine qg ?_;refine qp (o:=1) ?_;refine ql hH aB ?_;refine qm ?_;refine qr fun p17 WA=>?_;refine qf (fo:=6) fun Vw Qi=>?_;refine qR ?_;refine qm ?_;refine qe hK ?_;have hH:Has N S s0 (.box k (.mem 0 false [cd,nd,zd,ed])::.deep dk cd 4 (code.map aH)::.aP zd 1 (Z.map ay)::.aP ed 1 (E.map ay)::.aP .nul 1 (([]:List Nat).map kR)::H):=(hH.d_ 1).Kz;refine ab.block<|ab.loop (fun mm fr st=>∃(i j:Nat) (rest:bI) (cd jd:D) (dk:Nat→Prop) (ba:List aO) (js:List Nat),fr.clean=⟨68,[.ptr k 0 0,.int .i64 (at_:Nat),av fr 2,av fr 3,jd,.int .i64 (j:Nat),av fr 6,av fr 7,av fr 8,av fr 9,av fr 10,av fr 11,av fr 12,av fr 13,av fr 14,av fr 15,av fr 16,av fr 17,av fr 18,.int .i64 n.kids,.int .i64 (i:Nat),av fr 21,av fr 22,av fr 23,av fr 24,av fr 25,av fr 26,av fr 27,av fr 28,av fr 29,av fr 30,av fr 31,av fr 32,av fr 33,av fr 34,av fr 35,av fr 36,av fr 37,av fr 38,av fr 39,av fr 40,av fr 41,av fr 42,av fr 43,av fr 44,av fr 45,av fr 46,av fr 47,av fr 48,av fr 49,av fr 50,av fr 51,av fr 52,av fr 53,av fr 54,av fr 55,av fr 56,av fr 57,av fr 58,av fr 59,av fr 60,av fr 61,av fr 62,av fr 63,av fr 64,av fr 65,av fr 66,av fr 67],[]⟩∧Has N S st (.box k (.mem 0 false [cd,nd,zd,ed])::.deep dk cd 4 (ba.map aH)::.aP zd 1 (Z.map ay)::.aP ed 1 (E.map ay)::.aP jd 1 (js.map kR)::H)∧(mm=rest.len)∧(i+rest.len=ks.len)∧(0<rest.len)∧(fO l j rest.flat)∧(fO Z j rest.zs)∧(fO E j (rest.es j))∧(rest.ok)∧(ba++eR (mK 0) rest ba.length=code++eR (mK 0) ks code.length)∧(js++rJ rest ba.length=rJ ks code.length)∧(ba.length+(rest.sz+2*(rest.len-1))=code.length+(ks.sz+2*(ks.len-1)))∧(rest.flat.length≤m)∧(js.length≤i)) (ks.len) ?_ ?_
 ·exact⟨0,at_+1,ks,cd,.nul,dk,code,[],rfl,hH,rfl,by omega,by omega,iT,hsz,u7,mj,rfl,rfl,rfl,Zu,by simp⟩
 rintro mm fr st ⟨i,j,rest,cd,jd,dk,ba,js,hfr,hH,yJ,u_,UX,oY,wD,oX,jo,iG,hjs,hcl,P_,jq⟩;rw[hfr];clear hfr;generalize av fr=ee;clear fr;refine qq<|qj fun K hK=>qg ?_;refine qe hK ?_
 cases rest with
 |nil=>simp[bI.len] at UX
 |cons t ts=>
  simp only[bI.len] at u_ yJ hcl;simp only[bI.sz] at hcl;simp only[bI.flat,List.length_append] at oY P_;simp only[bI.zs] at wD;simp only[bI.es] at oX;simp only[bI.ok] at jo;have PY:=t.jf;have SF:=t.jr j;have Bj:=cy t (ba.length+1) jo.1;have Wc:=eO (Al oX.left);have gL:decide ((i:Int)<n.kids)=true:=by rw[decide_eq_true_eq];omega
  refine qq<|qD rfl (by rw[gL]) ?_;refine ab.skip<|qq<|ab.block<|qq<|qj fun K hK=>qm ?_;refine qm ?_;refine qe hK<|qq<|qq<|qj fun K hK=>qm ?_;refine qm ?_;refine qg ?_;refine qp (o:=1) ?_;refine ql hH aB ?_;refine qm ?_;refine qr fun p29 Ww=>?_;refine qf (fo:=6) fun Vt Qf=>?_;refine qR ?_;refine aa.oS (z:=((ks.len-1:Nat):Int)) rfl (ev rfl) (ev rfl) (by rw[wrap_i64 (by omega) (by omega)]<;>omega) (by dsimp only[Fr.put,u1,u2]<;>rfl) ?_;refine qg ?_;refine qe hK ?_
  by_cases z_:ts.len=0
  ·simp only[eR,rJ,if_pos z_,List.append_nil] at iG hjs;have htn:=bI.len_nil z_;subst htn;simp only[bI.sz,bI.len] at hcl u_;have QE:(((i:Nat):Int)==((ks.len-1:Nat):Int))=true:=by rw[beq_iff_eq];omega
   refine qD rfl (by rw[QE]) ?_;refine qq<|qj fun K hK=>qm ?_;refine qm ?_;obtain⟨_,st,aK,rfl,cd,dk,hH⟩:=ih t (by omega) hF yI oY.left wD.left oX.left jo.1 (by omega) ⟨cd,dk,hH⟩;refine qv aK ?_;refine qe hK<|ab.exit<|qq<|qj fun K hK=>qm ?_;refine qn ?_ (hR:=hH.rows gO);simp only[List.length_map];refine qm ?_;refine qe hK ?_;rw[iG] at hH;have hal:=rI (mK 0) ks code.length mj;obtain⟨B2,Lg⟩:=oq (jp:=mK (code.length+(ks.sz+2*(ks.len-1)))) (i0:=mK 0) ks code.length code [] mj rfl;simp only[List.append_nil] at B2 Lg;have XB:(code++eR (mK 0) ks code.length).length=code.length+(ks.sz+2*(ks.len-1)):=by rw[List.length_append,hal]
   rw[←hjs] at B2 Lg;rw[←B2];clear B2 iG;generalize code++eR (mK 0) ks code.length=C0 at*;generalize code.length+(ks.sz+2*(ks.len-1))=e at*;refine ab.block<|ab.loop (fun mm fr st=>∃(q:Nat) (C:List aO),fr.clean=⟨68,[.ptr k 0 0,av fr 1,av fr 2,av fr 3,av fr 4,av fr 5,av fr 6,av fr 7,av fr 8,av fr 9,av fr 10,av fr 11,av fr 12,av fr 13,av fr 14,av fr 15,av fr 16,av fr 17,av fr 18,av fr 19,av fr 20,av fr 21,av fr 22,av fr 23,av fr 24,av fr 25,av fr 26,av fr 27,av fr 28,av fr 29,av fr 30,av fr 31,av fr 32,av fr 33,av fr 34,av fr 35,av fr 36,av fr 37,av fr 38,av fr 39,av fr 40,av fr 41,av fr 42,av fr 43,av fr 44,av fr 45,av fr 46,av fr 47,av fr 48,av fr 49,av fr 50,av fr 51,av fr 52,av fr 53,av fr 54,av fr 55,av fr 56,av fr 57,av fr 58,av fr 59,av fr 60,av fr 61,av fr 62,av fr 63,av fr 64,jd,.int .i64 (js.length:Nat),.int .i64 (q:Nat)],[]⟩∧Has N S st (.box k (.mem 0 false [cd,nd,zd,ed])::.deep dk cd 4 (C.map aH)::.aP zd 1 (Z.map ay)::.aP ed 1 (E.map ay)::.aP jd 1 (js.map kR)::H)∧(q+mm=js.length)∧(iy (fun _=>mK e) C (js.drop q)=iy (fun _=>mK e) C0 js)∧(∀p∈js,∃v:Int,C[p]?=some (c8 3 v 0 []))∧(C.length=e)) (js.length) ?_ ?_
   ·exact⟨0,C0,rfl,hH,by omega,rfl,fun p hp=>⟨_,Lg p hp⟩,XB⟩
   rintro mm fr st ⟨q,C,hfr,hH,hq,gT,mT,RC⟩;rw[hfr];clear hfr;generalize av fr=ee;clear fr;refine qq<|qj fun K hK=>qg ?_;refine qe hK<|qq ?_;refine ab.cond (by rfl) (fun hlt=>?_) (fun hlt=>?_)<;>try simp only[decide_eq_true_eq,decide_eq_false_iff_not] at hlt
   ·refine ab.skip ?_;have L8:q<js.length:=by omega
    obtain⟨p,hp⟩:∃p,js[q]?=some p:=⟨js[q]'L8,List.getElem?_eq_getElem _⟩
    obtain⟨v,hv⟩:=mT p (List.mem_of_getElem? hp);have gJ:=wb hp;have o3:=gD hv;have iq:=bH hv;refine qq<|ab.block<|qq<|qj fun K hK=>qi hH gO fun p69 aas=>?_;refine qo hH gO ?_;refine qm ?_;refine qe hK<|qj fun K hK=>qm ?_;refine qg ?_;refine qp (o:=0) ?_;refine ql hH aB ?_;refine qm ?_;refine qm ?_;refine qg ?_;refine qp (o:=0) ?_;refine ql hH aB ?_;refine aa.BI hH rfl (ev rfl) (by exact bF) rfl (ah rfl _) ?_;simp only[List.length_map];refine aa.Ea (s:=4) hH rfl (ev rfl) (ev rfl) (by exact bF) rfl rfl (by exact bH (by assumption)) (fun _=>(ah rfl _)) (fun p81 Wj=>?_);refine aa.gC (fo:=1) (m:=0) (o2:=1) rfl (ev rfl) (by assumption) rfl rfl rfl (fun _=>(ah rfl _)) (fun p82 aan=>?_);refine aa.ru hH rfl (ev rfl) (ev rfl) (by assumption) rfl rfl (by exact bF) (by assumption) (Nat.le_of_ble_eq_true rfl) (by intro d hd;simp only[List.mem_cons,List.not_mem_nil,or_false] at hd;subst hd;rfl) (by exact .inl hF) (fun st hH=>?_);dsimp only[u2,u1,u3,u4,setMany,u5,u6,D.cells,Nat.reduceAdd,aH,bm,ay,kR] at hH;refine qe hK<|qj fun K hK=>qA ?_;refine qm ?_;refine qe hK ?_
    have q_:js.drop q=p::js.drop (q+1):=by
     rw[List.drop_eq_getElem_cons L8]
     congr 1
     exact Option.some.inj ((List.getElem?_eq_getElem _).symm.trans hp)
    refine⟨mm-1,by omega,⟨q+1,C.set p (mK e),rfl,(by rw[List.map_set,←RC];exact hH),by omega,by rw[q_] at gT;exact gT,?_,by rw[List.length_set];exact RC⟩⟩;intro p' uw
    by_cases hpp:p'=p
    ·subst hpp;exact⟨_,List.getElem?_set_self iq⟩
    ·rw[List.getElem?_set_ne (fun e=>hpp e.symm)];exact mT p' uw
   ·refine ab.exit ?_;refine⟨fun i h=>(by cases h),_,_,_,rfl,rfl,?_⟩;have wG:q=js.length:=by omega
    rw[wG,List.drop_length] at gT;have gT:C=iy (fun _=>mK e) C0 js:=gT;rw[←gT];exact⟨rfl,cd,dk,hH.erase 4⟩
  ·simp only[eR,rJ,if_neg z_] at iG hjs;have QE:(((i:Nat):Int)==((ks.len-1:Nat):Int))=false:=by rw[beq_eq_false_iff_ne];omega
   refine qE rfl (by rw[QE]) ?_;refine ab.skip<|qq<|qj fun K hK=>qm ?_;refine aa.go (d:=.agg [.int .i64 2,.int .i64 0,.int .i64 0,.nul]) (st1:=_) rfl rfl rfl (by dsimp only[Fr.put,u1,u2]<;>rfl) ?_;have hH:=hH.d_ 2;obtain⟨_,st,aK,rfl,cd,dk,hH⟩:=gA (rs:=[]) hF (by omega) hH;refine qv aK ?_;refine qm ?_;refine qe hK ?_;have mR:(ba++[c8 2 0 0 []]).length=ba.length+1:=by simp
   refine qq<|qj fun K hK=>qm ?_;refine qm ?_;obtain⟨_,st,aK,rfl,cd,dk,hH⟩:=ih t (by omega) hF yI oY.left wD.left oX.left jo.1 (by omega) ⟨cd,dk,hH⟩;refine qv aK ?_;refine qe hK ?_;rw[mR] at hH;have mQ:(ba++[c8 2 0 0 []]++aX t (ba.length+1)).length=ba.length+1+t.sz:=by rw[List.length_append,mR,Bj]
   refine qq<|qj fun K hK=>qm ?_;refine qm ?_;refine aa.go (d:=.agg [.int .i64 3,.int .i64 0,.int .i64 0,.nul]) (st1:=_) rfl rfl rfl (by dsimp only[Fr.put,u1,u2]<;>rfl) ?_;have hH:=hH.d_ 2;obtain⟨_,st,aK,rfl,cd,dk,hH⟩:=gA (rs:=[]) hF (by omega) hH;refine qv aK ?_;refine qh (s:=1) (vs:=[_]) hH fun k47 st aaU hH=>?_;refine qP hH rH (hH.rows aB) fun Vd st hH=>?_;dsimp only[u2,u1,u3,u4,setMany,u5,u6,D.cells,Nat.reduceAdd,aH,bm,ay,kR] at hH;refine qm ?_;refine qe hK ?_;have hH:=hH.drop 1
   have QM:(ba++[c8 2 0 0 []]++aX t (ba.length+1)++[c8 3 0 0 []])[ba.length]?=some (c8 2 0 0 []):=by
    rw[List.append_assoc,List.append_assoc];exact py _ _ _
   have DU:(ba++[c8 2 0 0 []]++aX t (ba.length+1)++[c8 3 0 0 []]).length=ba.length+1+t.sz+1:=by rw[List.length_append,mQ];rfl
   have K6:(ba++[c8 2 0 0 []]++aX t (ba.length+1)++[c8 3 0 0 []]).set ba.length (nE ba.length (ba.length+1+t.sz+1) false)=ba++(nE ba.length (ba.length+1+t.sz+1) false::(aX t (ba.length+1)++[mK 0])):=by
    rw[List.append_assoc,List.append_assoc];exact pf _ _ _ _
   have Lo:(ba++(nE ba.length (ba.length+1+t.sz+1) false::(aX t (ba.length+1)++[mK 0]))).length=ba.length+t.sz+2:=by rw[←K6,List.length_set,DU];omega
   generalize ba++[c8 2 0 0 []]++aX t (ba.length+1)++[c8 3 0 0 []]=Ee at*;refine qq<|qj fun K hK=>qm ?_;refine qm ?_;refine qm ?_;refine qg ?_;refine qp (o:=0) ?_;refine ql hH aB ?_;refine aa.BI hH rfl (ev rfl) (by exact bF) rfl (by dsimp only[Fr.put,u1,u2]<;>rfl) ?_;simp only[List.length_map,List.length_append,List.length_cons,List.length_nil];obtain⟨_,st,aK,rfl,hH⟩:=pG (at_:=ba.length) (over:=Ee.length) (lz:=false) QM (by omega) hH;refine qv aK ?_;refine qe hK ?_;rw[DU,K6] at hH;refine qj fun K hK=>qm ?_;refine qg ?_;refine qp (o:=3) ?_;refine ql hH aB ?_;refine qm ?_;refine qi hH eQ fun p62 aav=>?_;refine qo hH eQ ?_;refine qm ?_;refine qe hK<|qj fun K hK=>qA ?_;refine qm ?_;refine qe hK ?_;exact⟨mm-1,by omega,⟨i+1,j+t.flat.length,ts,cd,Vd,dk,ba++(nE ba.length (ba.length+1+t.sz+1) false::(aX t (ba.length+1)++[mK 0])),js++[ba.length+1+t.sz],rfl,(by rw[List.map_append (f:=kR)];rw[mQ] at hH;exact hH),by omega,by omega,by omega,oY.right,by rw[←PY];exact wD.right,by rw[←SF];rw[←SF] at oX;exact oX.right,jo.2,by rw[Lo,←iG];simp only[List.append_assoc,List.cons_append,List.nil_append],by rw[Lo,←hjs];simp only[List.append_assoc,List.cons_append,List.nil_append],by rw[Lo];omega,by omega,by rw[List.length_append];simp only[List.length_cons,List.length_nil];omega⟩⟩
end Go.Proofs.YtbdnabmmlbiomaaGreat
