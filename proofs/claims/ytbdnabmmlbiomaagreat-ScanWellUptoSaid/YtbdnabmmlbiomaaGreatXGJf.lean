/-
 Programs as they are looked at: one instruction.
-/
import Derived.Test.YtbdnabmmlbiomaaGreatXGCa
import Derived.Test.YtbdnabmmlbiomaaGreatXPx
import Derived.Test.YtbdnabmmlbiomaaGreatXM2
import Derived.KernelRfl
import Derived.Test.YtbdnabmmlbiomaaGreatXGKa
set_option maxRecDepth 100000
set_option maxHeartbeats 4000000
set_option linter.unusedSimpArgs false
set_option linter.unusedVariables false
namespace Go.Proofs.YtbdnabmmlbiomaaGreat
open Go.V Go
structure aQ where
 op:Int
 x:Int
 y:Int
 rd:D
 rs:List Rg
def aC (i:aQ):List D:=[.int .i64 i.op,.int .i64 i.x,.int .i64 i.y,i.rd]
def aQ.ok (i:aQ):Prop:=dr i.rd 2 (i.rs.map ax)∧i.rs.length≤1048576
def aw (n:Int):List D:=[.int .i64 n]
structure Pg where
 cd:D
 code:List aQ
 sd:D
 ak:List Int
structure Pg.ok (p:Pg):Prop where
 c:dr p.cd 4 (p.code.map aC)
 s:dr p.sd 1 (p.ak.map aw)
 i:∀x∈p.code,x.ok
 cl:p.code.length≤1048576
 sl:p.ak.length≤1048576
def Pg.cs (p:Pg):List D:=[p.cd,p.sd]
def Pg.d (p:Pg):D:=.agg p.cs
theorem eB {l:List aQ} {i:Nat} {q:aQ} (h:l[i]?=some q):(l.map aC)[i]?=some (aC q):=by rw[List.getElem?_map,h];rfl
theorem eA {l:List Int} {i:Nat} {q:Int} (h:l[i]?=some q):(l.map aw)[i]?=some (aw q):=by rw[List.getElem?_map,h];rfl
def jQ (v n:Int):Bool:=decide (v≥0) &&decide (v<n)
noncomputable def cC (n ns pc:Nat) (i:aQ):Bool:=
 if i.op=1 then i.y==0 &&(decide (((pc+1:Nat):Int)<n) &&i.x==0 &&eI i.rs)
 else i.rs.isEmpty &&
  (if i.op=2 then jQ i.x n &&jQ i.y n
  else i.y==0 &&
   (if i.op=3 then jQ i.x n
   else if i.op=4 then decide (((pc+1:Nat):Int)<n) &&jQ i.x 10
   else if i.op=5∨i.op=6 then decide (((pc+1:Nat):Int)<n) &&i.x==0
   else if i.op=7 then jQ i.x ns
   else false))
theorem iQ {s0:St} (v n:Int):Ev pv 105 [.int .i64 v,.int .i64 n] s0 (.bool (jQ v n)) s0:=by
 refine Ev.h_ rfl Wn rfl rfl rfl ?_;dsimp only[u3,u4,List.length,Nat.reduceSub,Nat.reduceAdd,w1,w2];obtain⟨bt,hF,hH⟩:=ri s0;generalize ah .ro s0=S at*;refine qq<|qj fun K hK=>qm ?_;refine qe hK<|qq<|ab.lV 4 (.bool (decide (v≥0) &&decide (v<n))) [] ?_ (fun ff tmp=>?_)
 ·refine qm ?_;refine qg ?_;refine qm ?_;refine aa.two 7 rfl (fun aZ=>?_) (fun aZ=>?_)
  ·refine qm ?_ (hg:=wi aZ);refine qm ?_ (hg:=wi aZ);refine qg ?_ (hg:=wi aZ);refine qt aZ ?_;refine qm ?_;refine aa.nil (bp ?_);dsimp only[aB,List.foldl,nth,u2,u1];dsimp only[Fr.aj,Fr.put,Fr.clean,Fr.ev,Fr.get,nth,V.look,u1,u2,v1,v2,v3,v4,v5,v6,v7,List.length,u3,u4,Nat.reduceSub,Nat.reduceAdd,List.map]
   all_goals(simp[aZ];done)
  ·refine qs ?_ (hg:=wn aZ);refine qs ?_ (hg:=wn aZ);refine qs ?_ (hg:=wn aZ);refine qu aZ ?_;refine qm ?_;refine aa.nil (bp ?_);dsimp only[aB,List.foldl,nth,u2,u1];dsimp only[Fr.aj,Fr.put,Fr.clean,Fr.ev,Fr.get,nth,V.look,u1,u2,v1,v2,v3,v4,v5,v6,v7,List.length,u3,u4,Nat.reduceSub,Nat.reduceAdd,List.map]
   all_goals(simp[aZ];done)
 dsimp only[aB,List.foldl,nth,u2,u1];refine ab.ret ⟨rx,_,rfl,rl bt hH (rfl)⟩
theorem BW {s0:St} {p:Pg} {pc:Nat} {i:aQ} (hp:p.ok) (hi:p.code[pc]?=some i):Ev pv 104 [p.d,.int .i64 (pc:Nat)] s0 (.bool (cC p.code.length p.ak.length pc i)) s0:=by
 refine Ev.h_ rfl Wo rfl rfl rfl ?_;dsimp only[u3,u4,List.length,Nat.reduceSub,Nat.reduceAdd,w1,w2];obtain⟨bt,hF,hH⟩:=ri s0;generalize ah .ro s0=S at*;have hc:=hp.c.arg s0.bs.length S;have hs:=hp.s.arg s0.bs.length S;have Di:=hp.i i (List.mem_of_getElem? hi);have U5:=Di.1.arg s0.bs.length S;have hil:=Di.2;have hcl:=hp.cl;have iE:=hp.sl;have hr:=eB hi;have hlt:=bC hi;unfold Pg.d;refine qq<|qj fun K hK=>qb hH fun k2 st hk2 hH=>?_;dsimp only[u2,u1,u3,u4,setMany,u5,u6,D.cells,Nat.reduceAdd,Pg.cs,aC,aw] at hH;refine qm ?_;refine qe hK<|qq<|qj fun K hK=>qp (o:=0) ?_;refine ql hH av ?_;refine qm ?_;refine qr fun WK MA=>?_;refine aa.cA rfl (ev rfl) (by assumption) rfl (by dsimp only[Fr.put,u1,u2]<;>rfl) ?_;refine qa hH fun k5 st yh hH=>?_;refine qS hH av fun st hH=>?_;dsimp only[u2,u1,u3,u4,setMany,u5,u6,D.cells,Nat.reduceAdd,Pg.cs,aC,aw] at hH;refine qe hK<|qq<|qj fun K hK=>qm ?_;refine qA ?_;refine qp (o:=0) ?_;refine ql hH bh ?_;refine qn ?_;simp only[List.length_map];refine qg ?_;refine qm ?_;refine qe hK<|qq<|qq<|ab.lV 36 (.bool (((i.op !=1) &&decide ((i.rs.length:Int)>0))||((i.op !=2) &&(i.y !=0)))) [18,19,20,21,22,23,24,25,26,27,28,29,30,31,32,33,34,35] ?_ (fun ff tmp=>?_)
 ·refine qp (o:=0) ?_;refine ql hH av ?_;refine qg ?_;refine qm ?_;refine aa.two 21 rfl (fun aR=>?_) (fun aR=>?_)
  ·refine qp (o:=3) ?_ (hg:=wi aR);refine ql hH av ?_ (hg:=wi aR);refine qn ?_ (hg:=wi aR);simp only[List.length_map];refine qg ?_ (hg:=wi aR);refine qt aR ?_;refine qm ?_;refine aa.two 27 rfl (fun bV=>?_) (fun bV=>?_)
   ·refine qs ?_ (hg:=wn bV);refine qs ?_ (hg:=wn bV);refine qs ?_ (hg:=wn bV);refine qs ?_ (hg:=wn bV);refine qs ?_;refine qs ?_;refine qs ?_;refine qs ?_ (hg:=wn bV);refine qt bV ?_;refine aa.nil (bp ?_);dsimp only[aB,List.foldl,nth,u2,u1];dsimp only[Fr.aj,Fr.put,Fr.clean,Fr.ev,Fr.get,nth,V.look,u1,u2,v1,v2,v3,v4,v5,v6,v7,List.length,u3,u4,Nat.reduceSub,Nat.reduceAdd,List.map]
    all_goals(simp_all;done)
   ·refine qp (o:=0) ?_ (hg:=wi bV);refine ql hH av ?_ (hg:=wi bV);refine qg ?_ (hg:=wi bV);refine qm ?_ (hg:=wi bV);refine aa.two 31 rfl (fun bu=>?_) (fun bu=>?_)
    ·refine qp (o:=2) ?_ (hg:=wi bu);refine ql hH av ?_ (hg:=wi bu);refine qg ?_ (hg:=wi bu);refine aa.dI (aq rfl rfl rfl bV) rfl bu (by dsimp only[Fr.put,u1,u2]<;>rfl) ?_;refine qu bV ?_;refine aa.nil (bp ?_);dsimp only[aB,List.foldl,nth,u2,u1];dsimp only[Fr.aj,Fr.put,Fr.clean,Fr.ev,Fr.get,nth,V.look,u1,u2,v1,v2,v3,v4,v5,v6,v7,List.length,u3,u4,Nat.reduceSub,Nat.reduceAdd,List.map]
     all_goals(simp_all;done)
    ·refine qs ?_ (hg:=wn bu);refine qs ?_ (hg:=wn bu);refine qs ?_ (hg:=wn bu);refine aa.de (aq rfl rfl rfl bV) rfl bu (by dsimp only[Fr.put,u1,u2]<;>rfl) ?_;refine qu bV ?_;refine aa.nil (bp ?_);dsimp only[aB,List.foldl,nth,u2,u1];dsimp only[Fr.aj,Fr.put,Fr.clean,Fr.ev,Fr.get,nth,V.look,u1,u2,v1,v2,v3,v4,v5,v6,v7,List.length,u3,u4,Nat.reduceSub,Nat.reduceAdd,List.map]
     all_goals(simp_all;done)
  ·refine qs ?_ (hg:=wn aR);refine qs ?_ (hg:=wn aR);refine qs ?_ (hg:=wn aR);refine qs ?_ (hg:=wn aR);refine qu aR ?_;refine qm ?_;refine qp (o:=0) ?_;refine ql hH av ?_;refine qg ?_;refine qm ?_;refine aa.two 31 rfl (fun bu=>?_) (fun bu=>?_)
   ·refine qp (o:=2) ?_ (hg:=wi bu);refine ql hH av ?_ (hg:=wi bu);refine qg ?_ (hg:=wi bu);refine qt bu ?_;refine qg ?_;refine aa.nil (bp ?_);dsimp only[aB,List.foldl,nth,u2,u1];dsimp only[Fr.aj,Fr.put,Fr.clean,Fr.ev,Fr.get,nth,V.look,u1,u2,v1,v2,v3,v4,v5,v6,v7,List.length,u3,u4,Nat.reduceSub,Nat.reduceAdd,List.map]
    all_goals(simp[aR,bu];done)
   ·refine qs ?_ (hg:=wn bu);refine qs ?_ (hg:=wn bu);refine qs ?_ (hg:=wn bu);refine qu bu ?_;refine qg ?_;refine aa.nil (bp ?_);dsimp only[aB,List.foldl,nth,u2,u1];dsimp only[Fr.aj,Fr.put,Fr.clean,Fr.ev,Fr.get,nth,V.look,u1,u2,v1,v2,v3,v4,v5,v6,v7,List.length,u3,u4,Nat.reduceSub,Nat.reduceAdd,List.map]
    all_goals(simp[aR,bu];done)
 dsimp only[aB,List.foldl,nth,u2,u1];generalize ff 18=e18;generalize ff 19=e19;generalize ff 20=e20;generalize ff 21=e21;generalize ff 22=e22;generalize ff 23=e23;generalize ff 24=e24;generalize ff 25=e25;generalize ff 26=e26;generalize ff 27=e27;generalize ff 28=e28;generalize ff 29=e29;generalize ff 30=e30;generalize ff 31=e31;generalize ff 32=e32;generalize ff 33=e33;generalize ff 34=e34;generalize ff 35=e35;have UW:(i.rs.isEmpty=!decide ((i.rs.length:Int)>0)):=by cases i.rs<;>simp<;>omega
 have hsh:cC p.code.length p.ak.length pc i=if((i.op !=1) &&decide ((i.rs.length:Int)>0))||((i.op !=2) &&(i.y !=0)) then false else
   (if i.op=1 then(decide (((pc+1:Nat):Int)<p.code.length) &&i.x==0) &&eI i.rs
   else if i.op=2 then jQ i.x p.code.length &&jQ i.y p.code.length
   else if i.op=3 then jQ i.x p.code.length
   else if i.op=4 then decide (((pc+1:Nat):Int)<p.code.length) &&jQ i.x 10
   else if i.op=5 then decide (((pc+1:Nat):Int)<p.code.length) &&i.x==0
   else if i.op=6 then decide (((pc+1:Nat):Int)<p.code.length) &&i.x==0
   else if i.op=7 then jQ i.x p.ak.length
   else false):=by
  unfold cC;rw[UW];generalize decide ((i.rs.length:Int)>0)=b
  by_cases h1:i.op=1
  ·have h2:i.op≠2:=by omega
   simp only[h1];cases b<;>by_cases hy:i.y=0<;>simp[hy]
  ·by_cases h2:i.op=2
   ·simp only[h2];cases b<;>simp
   ·by_cases h56:i.op=5
    ·simp only[h56];cases b<;>by_cases hy:i.y=0<;>simp[hy]
    ·cases b<;>by_cases hy:i.y=0<;>simp[h1,h2,h56,hy]
 rw[hsh];refine qc (fun h0=>?_) (fun h0=>?_)<;>try simp only[cs] at h0
 ·refine qq<|qj fun K hK=>qm ?_;refine qe hK ?_;rw[if_pos h0];refine ab.ret ⟨rx,_,rfl,rl bt hH (rfl)⟩
 ·rw[if_neg (by rw[h0];simp)];refine ab.skip<|qq<|qq<|qj fun K hK=>qp (o:=0) ?_;refine ql hH av ?_;refine qe hK<|ab.block<|qq<|qj fun K hK=>qg ?_;refine qm ?_;refine qe hK ?_;refine ab.cond (by rfl) (fun h1=>?_) (fun h1=>?_)<;>try simp only[beq_iff_eq,beq_eq_false_iff_ne,ne_eq] at h1
  ·rw[if_pos h1];refine qq<|ab.lV 4 (.bool ((decide (((pc+1:Nat):Int)<p.code.length) &&(i.x==0)) &&eI i.rs)) [] ?_ (fun ff tmp=>?_)
   ·refine qm ?_;refine qm ?_;refine aa.two 42 rfl (fun cW=>?_) (fun cW=>?_)
    ·refine qp (o:=1) ?_ (hg:=wi cW);refine ql hH av ?_ (hg:=wi cW);refine qg ?_ (hg:=wi cW);refine qt cW ?_;refine qm ?_;refine aa.two 47 rfl (fun cM=>?_) (fun cM=>?_)
     ·refine qp (o:=3) ?_ (hg:=wi cM);refine ql hH av ?_ (hg:=wi cM);refine qv (xf (U5.rows hH) hil) ?_ (hg:=wi cM);refine qt cM ?_;refine qm ?_;refine aa.nil (bp ?_);dsimp only[aB,List.foldl,nth,u2,u1];dsimp only[Fr.aj,Fr.put,Fr.clean,Fr.ev,Fr.get,nth,V.look,u1,u2,v1,v2,v3,v4,v5,v6,v7,List.length,u3,u4,Nat.reduceSub,Nat.reduceAdd,List.map]
      all_goals(simp[cW,cM];done)
     ·refine qs ?_ (hg:=wn cM);refine qs ?_ (hg:=wn cM);refine qs ?_ (hg:=wn cM);refine qu cM ?_;refine qm ?_;refine aa.nil (bp ?_);dsimp only[aB,List.foldl,nth,u2,u1];dsimp only[Fr.aj,Fr.put,Fr.clean,Fr.ev,Fr.get,nth,V.look,u1,u2,v1,v2,v3,v4,v5,v6,v7,List.length,u3,u4,Nat.reduceSub,Nat.reduceAdd,List.map]
      all_goals(simp[cW,cM];done)
    ·refine qs ?_ (hg:=wn cW);refine qs ?_ (hg:=wn cW);refine qs ?_ (hg:=wn cW);refine qu cW ?_;refine qm ?_;refine qs ?_;refine qs ?_;refine qs ?_;refine qg ?_;refine qm ?_;refine aa.nil (bp ?_);dsimp only[aB,List.foldl,nth,u2,u1];dsimp only[Fr.aj,Fr.put,Fr.clean,Fr.ev,Fr.get,nth,V.look,u1,u2,v1,v2,v3,v4,v5,v6,v7,List.length,u3,u4,Nat.reduceSub,Nat.reduceAdd,List.map]
     all_goals(simp[cW];done)
   dsimp only[aB,List.foldl,nth,u2,u1];refine ab.ret ⟨rx,_,rfl,rl bt hH (rfl)⟩
  ·rw[if_neg h1];refine qq<|qj fun K hK=>qg ?_;refine qm ?_;refine qe hK ?_;refine ab.cond (by rfl) (fun h2=>?_) (fun h2=>?_)<;>try simp only[beq_iff_eq,beq_eq_false_iff_ne,ne_eq] at h2
   ·rw[if_pos h2];refine qq<|ab.lV 4 (.bool (jQ i.x p.code.length &&jQ i.y p.code.length)) [] ?_ (fun ff tmp=>?_)
    ·refine qp (o:=1) ?_;refine ql hH av ?_;refine qp (o:=0) ?_;refine ql hH bh ?_;refine qn ?_;simp only[List.length_map];refine qv (iQ _ _) ?_;refine qm ?_;refine aa.two 60 rfl (fun cM=>?_) (fun cM=>?_)
     ·refine qp (o:=2) ?_ (hg:=wi cM);refine ql hH av ?_ (hg:=wi cM);refine qp (o:=0) ?_ (hg:=wi cM);refine ql hH bh ?_ (hg:=wi cM);refine qn ?_ (hg:=wi cM);simp only[List.length_map];refine qv (iQ _ _) ?_ (hg:=wi cM);refine qt cM ?_;refine qm ?_;refine aa.nil (bp ?_);dsimp only[aB,List.foldl,nth,u2,u1];dsimp only[Fr.aj,Fr.put,Fr.clean,Fr.ev,Fr.get,nth,V.look,u1,u2,v1,v2,v3,v4,v5,v6,v7,List.length,u3,u4,Nat.reduceSub,Nat.reduceAdd,List.map]
      all_goals(simp[cM];done)
     ·refine qs ?_ (hg:=wn cM);refine qs ?_ (hg:=wn cM);refine qs ?_ (hg:=wn cM);refine qs ?_ (hg:=wn cM);refine qs ?_ (hg:=wn cM);refine qs ?_ (hg:=wn cM);refine qu cM ?_;refine qm ?_;refine aa.nil (bp ?_);dsimp only[aB,List.foldl,nth,u2,u1];dsimp only[Fr.aj,Fr.put,Fr.clean,Fr.ev,Fr.get,nth,V.look,u1,u2,v1,v2,v3,v4,v5,v6,v7,List.length,u3,u4,Nat.reduceSub,Nat.reduceAdd,List.map]
      all_goals(simp[cM];done)
    dsimp only[aB,List.foldl,nth,u2,u1];refine ab.ret ⟨rx,_,rfl,rl bt hH (rfl)⟩
   ·rw[if_neg h2];refine qq<|qj fun K hK=>qg ?_;refine qm ?_;refine qe hK ?_;refine ab.cond (by rfl) (fun h3=>?_) (fun h3=>?_)<;>try simp only[beq_iff_eq,beq_eq_false_iff_ne,ne_eq] at h3
    ·rw[if_pos h3];refine qq<|qj fun K hK=>qp (o:=1) ?_;refine ql hH av ?_;refine qp (o:=0) ?_;refine ql hH bh ?_;refine qn ?_;simp only[List.length_map];refine qv (iQ _ _) ?_;refine qm ?_;refine qe hK<|ab.ret ⟨rx,_,rfl,rl bt hH (rfl)⟩
    ·rw[if_neg h3];refine qq<|qj fun K hK=>qg ?_;refine qm ?_;refine qe hK ?_;refine ab.cond (by rfl) (fun h4=>?_) (fun h4=>?_)<;>try simp only[beq_iff_eq,beq_eq_false_iff_ne,ne_eq] at h4
     ·rw[if_pos h4];refine qq<|ab.lV 4 (.bool (decide (((pc+1:Nat):Int)<p.code.length) &&jQ i.x 10)) [] ?_ (fun ff tmp=>?_)
      ·refine qm ?_;refine qm ?_;refine aa.two 79 rfl (fun cW=>?_) (fun cW=>?_)
       ·refine qp (o:=1) ?_ (hg:=wi cW);refine ql hH av ?_ (hg:=wi cW);refine qv (iQ _ _) ?_ (hg:=wi cW);refine qt cW ?_;refine qm ?_;refine aa.nil (bp ?_);dsimp only[aB,List.foldl,nth,u2,u1];dsimp only[Fr.aj,Fr.put,Fr.clean,Fr.ev,Fr.get,nth,V.look,u1,u2,v1,v2,v3,v4,v5,v6,v7,List.length,u3,u4,Nat.reduceSub,Nat.reduceAdd,List.map]
        all_goals(simp[cW];done)
       ·refine qs ?_ (hg:=wn cW);refine qs ?_ (hg:=wn cW);refine qs ?_ (hg:=wn cW);refine qu cW ?_;refine qm ?_;refine aa.nil (bp ?_);dsimp only[aB,List.foldl,nth,u2,u1];dsimp only[Fr.aj,Fr.put,Fr.clean,Fr.ev,Fr.get,nth,V.look,u1,u2,v1,v2,v3,v4,v5,v6,v7,List.length,u3,u4,Nat.reduceSub,Nat.reduceAdd,List.map]
        all_goals(simp[cW];done)
      dsimp only[aB,List.foldl,nth,u2,u1];refine ab.ret ⟨rx,_,rfl,rl bt hH (rfl)⟩
     ·rw[if_neg h4];refine qq<|qq<|qj fun K hK=>qg ?_;refine qm ?_;refine qe hK ?_
      by_cases h5:i.op=5
      ·rw[if_pos h5];refine qD rfl (by simp[h5]) ?_;refine ab.skip<|qD rfl (by simp[h5]) ?_;refine qq<|ab.lV 4 (.bool (decide (((pc+1:Nat):Int)<p.code.length) &&(i.x==0))) [] ?_ (fun ff tmp=>?_)
       ·refine qm ?_;refine qm ?_;refine aa.two 88 rfl (fun cW=>?_) (fun cW=>?_)
        ·refine qp (o:=1) ?_ (hg:=wi cW);refine ql hH av ?_ (hg:=wi cW);refine qg ?_ (hg:=wi cW);refine qt cW ?_;refine qm ?_;refine aa.nil (bp ?_);dsimp only[aB,List.foldl,nth,u2,u1];dsimp only[Fr.aj,Fr.put,Fr.clean,Fr.ev,Fr.get,nth,V.look,u1,u2,v1,v2,v3,v4,v5,v6,v7,List.length,u3,u4,Nat.reduceSub,Nat.reduceAdd,List.map]
         all_goals(simp[cW];done)
        ·refine qs ?_ (hg:=wn cW);refine qs ?_ (hg:=wn cW);refine qs ?_ (hg:=wn cW);refine qu cW ?_;refine qm ?_;refine aa.nil (bp ?_);dsimp only[aB,List.foldl,nth,u2,u1];dsimp only[Fr.aj,Fr.put,Fr.clean,Fr.ev,Fr.get,nth,V.look,u1,u2,v1,v2,v3,v4,v5,v6,v7,List.length,u3,u4,Nat.reduceSub,Nat.reduceAdd,List.map]
         all_goals(simp[cW];done)
       dsimp only[aB,List.foldl,nth,u2,u1];refine ab.ret ⟨rx,_,rfl,rl bt hH (rfl)⟩
      ·rw[if_neg h5];refine qE rfl (by simp[h5]) ?_;refine qj fun K hK=>qg ?_;refine qm ?_;refine qe hK ?_;refine ab.cond (by rfl) (fun h6=>?_) (fun h6=>?_)<;>try simp only[beq_iff_eq,beq_eq_false_iff_ne,ne_eq] at h6
       ·rw[if_pos h6];refine qq<|ab.lV 4 (.bool (decide (((pc+1:Nat):Int)<p.code.length) &&(i.x==0))) [] ?_ (fun ff tmp=>?_)
        ·refine qm ?_;refine qm ?_;refine aa.two 88 rfl (fun cW=>?_) (fun cW=>?_)
         ·refine qp (o:=1) ?_ (hg:=wi cW);refine ql hH av ?_ (hg:=wi cW);refine qg ?_ (hg:=wi cW);refine qt cW ?_;refine qm ?_;refine aa.nil (bp ?_);dsimp only[aB,List.foldl,nth,u2,u1];dsimp only[Fr.aj,Fr.put,Fr.clean,Fr.ev,Fr.get,nth,V.look,u1,u2,v1,v2,v3,v4,v5,v6,v7,List.length,u3,u4,Nat.reduceSub,Nat.reduceAdd,List.map]
          all_goals(simp[cW];done)
         ·refine qs ?_ (hg:=wn cW);refine qs ?_ (hg:=wn cW);refine qs ?_ (hg:=wn cW);refine qu cW ?_;refine qm ?_;refine aa.nil (bp ?_);dsimp only[aB,List.foldl,nth,u2,u1];dsimp only[Fr.aj,Fr.put,Fr.clean,Fr.ev,Fr.get,nth,V.look,u1,u2,v1,v2,v3,v4,v5,v6,v7,List.length,u3,u4,Nat.reduceSub,Nat.reduceAdd,List.map]
          all_goals(simp[cW];done)
        dsimp only[aB,List.foldl,nth,u2,u1];refine ab.ret ⟨rx,_,rfl,rl bt hH (rfl)⟩
       ·rw[if_neg h6];refine qq<|qj fun K hK=>qg ?_;refine qm ?_;refine qe hK ?_;refine ab.cond (by rfl) (fun h7=>?_) (fun h7=>?_)<;>try simp only[beq_iff_eq,beq_eq_false_iff_ne,ne_eq] at h7
        ·rw[if_pos h7];refine qq<|qj fun K hK=>qp (o:=1) ?_;refine ql hH av ?_;refine qp (o:=1) ?_;refine ql hH bh ?_;refine qn ?_;simp only[List.length_map];refine qv (iQ _ _) ?_;refine qm ?_;refine qe hK<|ab.ret ⟨rx,_,rfl,rl bt hH (rfl)⟩
        ·rw[if_neg h7];refine ab.skip<|qq<|qj fun K hK=>qm ?_;refine qe hK<|ab.ret ⟨rx,_,rfl,rl bt hH (rfl)⟩
def cn (c:Nat):Int×Nat×Nat:=
 if c<128 then(0,0,0) else if c<194 then(-1,0,0) else if c<224 then(1,128,191) else if c=224 then(2,160,191) else if c=237 then(2,128,159)
 else if c<240 then(2,128,191) else if c=240 then(3,144,191) else if c<244 then(3,128,191) else if c=244 then(3,128,143) else(-1,0,0)
theorem L5 (c:Nat) (st:St):Ev pv 103 [.int .u8 c] st (.tup [.int .i64 (cn c).1,.int .u8 (cn c).2.1,.int .u8 (cn c).2.2]) st:=by
 refine Ev.h_ rfl Wp rfl rfl rfl ?_;dsimp only[u3,u4,List.length,Nat.reduceSub,Nat.reduceAdd,w1,w2];refine qy ?_;(repeat refine qq ?_);(generalize hK:bj _ _ _ _=K);refine ab.cH ?_;(repeat(refine xL ?_));refine aa.nil ?_;dsimp only[Fr.aj,Fr.put,Fr.clean,Fr.ev,Fr.get,nth,V.look,u1,u2,v1,v2,v3,v4,v5,v6,v7,List.length,u3,u4,Nat.reduceSub,Nat.reduceAdd,List.map];subst hK;refine qy ?_;refine ab.seq (ab.block ?_);refine qy ?_;(repeat refine qq ?_);(generalize hK:bj _ _ _ _=K);refine ab.cH ?_;(repeat(refine xT ?_));refine aa.nil ?_;dsimp only[Fr.aj,Fr.put,Fr.clean,Fr.ev,Fr.get,nth,V.look,u1,u2,v1,v2,v3,v4,v5,v6,v7,List.length,u3,u4,Nat.reduceSub,Nat.reduceAdd,List.map];subst hK;refine qy ?_;(repeat refine qq ?_);refine qc (fun h1=>?_) (fun h1=>?_)<;>try simp only[cs] at h1
 ·(refine qy ?_);(repeat refine qq ?_);(generalize hK:bj _ _ _ _=K);refine ab.cH ?_;(repeat(refine xL ?_));refine aa.nil ?_;dsimp only[Fr.aj,Fr.put,Fr.clean,Fr.ev,Fr.get,nth,V.look,u1,u2,v1,v2,v3,v4,v5,v6,v7,List.length,u3,u4,Nat.reduceSub,Nat.reduceAdd,List.map];subst hK;refine qy ?_;refine ab.ret ⟨rx,_,rfl,aP (by simp) (by simp[ah]) ?_⟩;rw[show cn c=(0,0,0) by unfold cn;rw[if_pos (by omega)]];rfl
 (refine qy ?_);(repeat refine qq ?_);(generalize hK:bj _ _ _ _=K);refine ab.cH ?_;(repeat(refine xT ?_));refine aa.nil ?_;dsimp only[Fr.aj,Fr.put,Fr.clean,Fr.ev,Fr.get,nth,V.look,u1,u2,v1,v2,v3,v4,v5,v6,v7,List.length,u3,u4,Nat.reduceSub,Nat.reduceAdd,List.map];subst hK;refine qy ?_;(repeat refine qq ?_);refine qc (fun h2=>?_) (fun h2=>?_)<;>try simp only[cs] at h2
 ·(refine qy ?_);(repeat refine qq ?_);(generalize hK:bj _ _ _ _=K);refine ab.cH ?_;(repeat(refine xL ?_));refine aa.nil ?_;dsimp only[Fr.aj,Fr.put,Fr.clean,Fr.ev,Fr.get,nth,V.look,u1,u2,v1,v2,v3,v4,v5,v6,v7,List.length,u3,u4,Nat.reduceSub,Nat.reduceAdd,List.map];subst hK;refine qy ?_;refine ab.ret ⟨rx,_,rfl,aP (by simp) (by simp[ah]) ?_⟩;rw[show cn c=(-1,0,0) by unfold cn;rw[if_neg (by omega),if_pos (by omega)]];rfl
 (refine qy ?_);(repeat refine qq ?_);(generalize hK:bj _ _ _ _=K);refine ab.cH ?_;(repeat(refine xT ?_));refine aa.nil ?_;dsimp only[Fr.aj,Fr.put,Fr.clean,Fr.ev,Fr.get,nth,V.look,u1,u2,v1,v2,v3,v4,v5,v6,v7,List.length,u3,u4,Nat.reduceSub,Nat.reduceAdd,List.map];subst hK;refine qy ?_;(repeat refine qq ?_);refine qc (fun h3=>?_) (fun h3=>?_)<;>try simp only[cs] at h3
 ·(refine qy ?_);(repeat refine qq ?_);(generalize hK:bj _ _ _ _=K);refine ab.cH ?_;(repeat(refine xL ?_));refine aa.nil ?_;dsimp only[Fr.aj,Fr.put,Fr.clean,Fr.ev,Fr.get,nth,V.look,u1,u2,v1,v2,v3,v4,v5,v6,v7,List.length,u3,u4,Nat.reduceSub,Nat.reduceAdd,List.map];subst hK;refine qy ?_;refine ab.ret ⟨rx,_,rfl,aP (by simp) (by simp[ah]) ?_⟩;rw[show cn c=(1,128,191) by unfold cn;rw[if_neg (by omega),if_neg (by omega),if_pos (by omega)]];rfl
 (refine qy ?_);(repeat refine qq ?_);(generalize hK:bj _ _ _ _=K);refine ab.cH ?_;(repeat(refine xT ?_));refine aa.nil ?_;dsimp only[Fr.aj,Fr.put,Fr.clean,Fr.ev,Fr.get,nth,V.look,u1,u2,v1,v2,v3,v4,v5,v6,v7,List.length,u3,u4,Nat.reduceSub,Nat.reduceAdd,List.map];subst hK;refine qy ?_;(repeat refine qq ?_);refine qc (fun h4=>?_) (fun h4=>?_)<;>try simp only[cs] at h4
 ·(refine qy ?_);(repeat refine qq ?_);(generalize hK:bj _ _ _ _=K);refine ab.cH ?_;(repeat(refine xL ?_));refine aa.nil ?_;dsimp only[Fr.aj,Fr.put,Fr.clean,Fr.ev,Fr.get,nth,V.look,u1,u2,v1,v2,v3,v4,v5,v6,v7,List.length,u3,u4,Nat.reduceSub,Nat.reduceAdd,List.map];subst hK;refine qy ?_;refine ab.ret ⟨rx,_,rfl,aP (by simp) (by simp[ah]) ?_⟩;rw[show cn c=(2,160,191) by unfold cn;rw[if_neg (by omega),if_neg (by omega),if_neg (by omega),if_pos (by omega)]];rfl
 (refine qy ?_);(repeat refine qq ?_);(generalize hK:bj _ _ _ _=K);refine ab.cH ?_;(repeat(refine xT ?_));refine aa.nil ?_;dsimp only[Fr.aj,Fr.put,Fr.clean,Fr.ev,Fr.get,nth,V.look,u1,u2,v1,v2,v3,v4,v5,v6,v7,List.length,u3,u4,Nat.reduceSub,Nat.reduceAdd,List.map];subst hK;refine qy ?_;(repeat refine qq ?_);refine qc (fun h5=>?_) (fun h5=>?_)<;>try simp only[cs] at h5
 ·(refine qy ?_);(repeat refine qq ?_);(generalize hK:bj _ _ _ _=K);refine ab.cH ?_;(repeat(refine xL ?_));refine aa.nil ?_;dsimp only[Fr.aj,Fr.put,Fr.clean,Fr.ev,Fr.get,nth,V.look,u1,u2,v1,v2,v3,v4,v5,v6,v7,List.length,u3,u4,Nat.reduceSub,Nat.reduceAdd,List.map];subst hK;refine qy ?_;refine ab.ret ⟨rx,_,rfl,aP (by simp) (by simp[ah]) ?_⟩;rw[show cn c=(2,128,159) by unfold cn;rw[if_neg (by omega),if_neg (by omega),if_neg (by omega),if_neg (by omega),if_pos (by omega)]];rfl
 (refine qy ?_);(repeat refine qq ?_);(generalize hK:bj _ _ _ _=K);refine ab.cH ?_;(repeat(refine xT ?_));refine aa.nil ?_;dsimp only[Fr.aj,Fr.put,Fr.clean,Fr.ev,Fr.get,nth,V.look,u1,u2,v1,v2,v3,v4,v5,v6,v7,List.length,u3,u4,Nat.reduceSub,Nat.reduceAdd,List.map];subst hK;refine qy ?_;(repeat refine qq ?_);refine qc (fun h6=>?_) (fun h6=>?_)<;>try simp only[cs] at h6
 ·(refine qy ?_);(repeat refine qq ?_);(generalize hK:bj _ _ _ _=K);refine ab.cH ?_;(repeat(refine xL ?_));refine aa.nil ?_;dsimp only[Fr.aj,Fr.put,Fr.clean,Fr.ev,Fr.get,nth,V.look,u1,u2,v1,v2,v3,v4,v5,v6,v7,List.length,u3,u4,Nat.reduceSub,Nat.reduceAdd,List.map];subst hK;refine qy ?_;refine ab.ret ⟨rx,_,rfl,aP (by simp) (by simp[ah]) ?_⟩;rw[show cn c=(2,128,191) by unfold cn;rw[if_neg (by omega),if_neg (by omega),if_neg (by omega),if_neg (by omega),if_neg (by omega),if_pos (by omega)]];rfl
 (refine qy ?_);(repeat refine qq ?_);(generalize hK:bj _ _ _ _=K);refine ab.cH ?_;(repeat(refine xT ?_));refine aa.nil ?_;dsimp only[Fr.aj,Fr.put,Fr.clean,Fr.ev,Fr.get,nth,V.look,u1,u2,v1,v2,v3,v4,v5,v6,v7,List.length,u3,u4,Nat.reduceSub,Nat.reduceAdd,List.map];subst hK;refine qy ?_;(repeat refine qq ?_);refine qc (fun h7=>?_) (fun h7=>?_)<;>try simp only[cs] at h7
 ·(refine qy ?_);(repeat refine qq ?_);(generalize hK:bj _ _ _ _=K);refine ab.cH ?_;(repeat(refine xL ?_));refine aa.nil ?_;dsimp only[Fr.aj,Fr.put,Fr.clean,Fr.ev,Fr.get,nth,V.look,u1,u2,v1,v2,v3,v4,v5,v6,v7,List.length,u3,u4,Nat.reduceSub,Nat.reduceAdd,List.map];subst hK;refine qy ?_;refine ab.ret ⟨rx,_,rfl,aP (by simp) (by simp[ah]) ?_⟩;rw[show cn c=(3,144,191) by unfold cn;rw[if_neg (by omega),if_neg (by omega),if_neg (by omega),if_neg (by omega),if_neg (by omega),if_neg (by omega),if_pos (by omega)]];rfl
 (refine qy ?_);(repeat refine qq ?_);(generalize hK:bj _ _ _ _=K);refine ab.cH ?_;(repeat(refine xT ?_));refine aa.nil ?_;dsimp only[Fr.aj,Fr.put,Fr.clean,Fr.ev,Fr.get,nth,V.look,u1,u2,v1,v2,v3,v4,v5,v6,v7,List.length,u3,u4,Nat.reduceSub,Nat.reduceAdd,List.map];subst hK;refine qy ?_;(repeat refine qq ?_);refine qc (fun h8=>?_) (fun h8=>?_)<;>try simp only[cs] at h8
 ·(refine qy ?_);(repeat refine qq ?_);(generalize hK:bj _ _ _ _=K);refine ab.cH ?_;(repeat(refine xL ?_));refine aa.nil ?_;dsimp only[Fr.aj,Fr.put,Fr.clean,Fr.ev,Fr.get,nth,V.look,u1,u2,v1,v2,v3,v4,v5,v6,v7,List.length,u3,u4,Nat.reduceSub,Nat.reduceAdd,List.map];subst hK;refine qy ?_;refine ab.ret ⟨rx,_,rfl,aP (by simp) (by simp[ah]) ?_⟩;rw[show cn c=(3,128,191) by unfold cn;rw[if_neg (by omega),if_neg (by omega),if_neg (by omega),if_neg (by omega),if_neg (by omega),if_neg (by omega),if_neg (by omega),if_pos (by omega)]];rfl
 (refine qy ?_);(repeat refine qq ?_);(generalize hK:bj _ _ _ _=K);refine ab.cH ?_;(repeat(refine xT ?_));refine aa.nil ?_;dsimp only[Fr.aj,Fr.put,Fr.clean,Fr.ev,Fr.get,nth,V.look,u1,u2,v1,v2,v3,v4,v5,v6,v7,List.length,u3,u4,Nat.reduceSub,Nat.reduceAdd,List.map];subst hK;refine qy ?_;(repeat refine qq ?_);refine qc (fun h9=>?_) (fun h9=>?_)<;>try simp only[cs] at h9
 ·(refine qy ?_);(repeat refine qq ?_);(generalize hK:bj _ _ _ _=K);refine ab.cH ?_;(repeat(refine xL ?_));refine aa.nil ?_;dsimp only[Fr.aj,Fr.put,Fr.clean,Fr.ev,Fr.get,nth,V.look,u1,u2,v1,v2,v3,v4,v5,v6,v7,List.length,u3,u4,Nat.reduceSub,Nat.reduceAdd,List.map];subst hK;refine qy ?_;refine ab.ret ⟨rx,_,rfl,aP (by simp) (by simp[ah]) ?_⟩;rw[show cn c=(3,128,143) by unfold cn;rw[if_neg (by omega),if_neg (by omega),if_neg (by omega),if_neg (by omega),if_neg (by omega),if_neg (by omega),if_neg (by omega),if_neg (by omega),if_pos (by omega)]];rfl
 refine ab.skip ?_;refine qy ?_;(repeat refine qq ?_);(generalize hK:bj _ _ _ _=K);refine ab.cH ?_;(repeat(refine xL ?_));refine aa.nil ?_;dsimp only[Fr.aj,Fr.put,Fr.clean,Fr.ev,Fr.get,nth,V.look,u1,u2,v1,v2,v3,v4,v5,v6,v7,List.length,u3,u4,Nat.reduceSub,Nat.reduceAdd,List.map];subst hK;refine qy ?_;refine ab.ret ⟨rx,_,rfl,aP (by simp) (by simp[ah]) ?_⟩;rw[show cn c=(-1,0,0) by unfold cn;rw[if_neg (by omega),if_neg (by omega),if_neg (by omega),if_neg (by omega),if_neg (by omega),if_neg (by omega),if_neg (by omega),if_neg (by omega),if_neg (by omega)]];rfl
def gN:(left n r lo hi:Nat)→List UInt8→Nat×Nat×Bool
 |0,n,r,_,_,_=>(r,n,false)
 |left+1,n,r,lo,hi,[]=>(0,0,true)
 |left+1,n,r,lo,hi,x::xs=>if x.toNat<lo∨hi<x.toNat then(0,0,false) else gN left n (r*64+x.toNat %64) 128 191 xs
def dN:List UInt8→Nat×Nat×Bool
 |[]=>(0,0,false)
 |c::xs=>if(cn c.toNat).1<0 then(0,0,false)
   else gN (cn c.toNat).1.toNat ((cn c.toNat).1.toNat+1) (if(cn c.toNat).1>0 then c.toNat %(64/2^(cn c.toNat).1.toNat) else c.toNat) (cn c.toNat).2.1 (cn c.toNat).2.2 xs
theorem xI (c:Nat):(cn c).1=-1∨(cn c).1=0∨(cn c).1=1∨(cn c).1=2∨(cn c).1=3:=by
 unfold cn
 repeat' split
 all_goals simp
theorem BM {w a j:Nat} (ha:a<2^w) (hj:2^j-1<2^w):(BitVec.ofInt w (a:Int) &&&BitVec.ofInt w ((2^j-1:Nat):Int)).toNat=a %2^j:=by
 rw[bv_and ha hj,Nat.and_two_pow_sub_one_eq_mod]
theorem bI (b:List UInt8):(byteCells b).length=b.length:=by simp[byteCells]
theorem jM {b:List UInt8} {i:Nat} {y:UInt8} (h:b[i]?=some y):(byteCells b)[i]?=some [.int .u8 (y.toNat:Nat)]:=by
 simp[byteCells,h]
theorem AL (y:UInt8):y.toNat<256:=y.toNat_lt
theorem Xi {r y:Nat} (hr:r<33554432) (hy:y<256):cy .i32 ((BitVec.ofInt 32 (cy .i32 ((r:Int)*2^(min (Int.toNat 6) 32)))|||BitVec.ofInt 32 (cy .i32 (cy .u8 ((BitVec.ofInt 8 (y:Int) &&&BitVec.ofInt 8 63).toNat:Nat)))).toNat:Nat)=((r*64+y %64:Nat):Int):=by
 have h1:(BitVec.ofInt 8 (y:Int) &&&BitVec.ofInt 8 63).toNat=y %64:=BM (w:=8) (j:=6) hy (by decide);rw[h1]
 have h2:((r:Int)*2^(min (Int.toNat 6) 32))=((r*64:Nat):Int):=by
  have:(2:Int)^(min (Int.toNat 6) 32)=64:=by decide
  rw[this];simp
 rw[h2,eW (k:=.i32) (m:=r*64) (by simp only[mz];omega),eW (k:=.u8) (m:=y %64) (by simp only[mz];omega),eW (k:=.i32) (m:=y %64) (by simp only[mz];omega)];rw[WA (by omega) (by omega)]
 have h3:(r*64)|||(y %64)=r*64+y %64:=by
  have:=Nat.two_pow_add_eq_or_of_lt (i:=6) (b:=y %64) (by omega) r;have e:(2:Nat)^6=64:=by decide
  rw[e] at this;rw[Nat.mul_comm r 64,this]
 rw[h3,eW (k:=.i32) (m:=r*64+y %64) (by simp only[mz];omega)]
theorem T8 {c j:Nat} (hc:c<256) (hj:j≤8) {m:Int} (hm:m=((2^j-1:Nat):Int)):cy .i32 ((BitVec.ofInt 32 (cy .i32 (c:Nat)) &&&BitVec.ofInt 32 m).toNat:Nat)=((c %2^j:Nat):Int):=by
 have h1:2^j≤2^8:=Nat.pow_le_pow_right (by omega) hj;rw[hm,eW (k:=.i32) (m:=c) (by simp only[mz];omega),BM (w:=32) (by omega) (by omega)];have:c %2^j≤c:=Nat.mod_le _ _;rw[eW (k:=.i32) (by simp only[mz];omega)]
theorem mask {c j:Nat} (hc:c<256) (hj:j≤8) {m:Int} (hm:m=((2^j-1:Nat):Int)):cy .i32 ((BitVec.ofInt IntKind.i32.bits (cy .i32 (c:Nat)) &&&BitVec.ofInt IntKind.i32.bits m).toNat:Nat)=((c %2^j:Nat):Int):=T8 hc hj hm
theorem six {r y:Nat} (hr:r<33554432) (hy:y<256):cy .i32 ((BitVec.ofInt IntKind.i32.bits (cy .i32 ((r:Int)*2^(min (Int.toNat 6) IntKind.i32.bits)))|||BitVec.ofInt IntKind.i32.bits (cy .i32 (cy .u8 ((BitVec.ofInt IntKind.u8.bits (y:Int) &&&BitVec.ofInt IntKind.u8.bits 63).toNat:Nat)))).toNat:Nat)=((r*64+y %64:Nat):Int):=Xi hr hy
theorem sQ {st:St} {x:D} {b:List UInt8} (hb:Bytes st x b):Ev pv 56 [x] st (.tup [.int .i32 ((dN b).1:Nat),.int .i64 ((dN b).2.1:Nat),.bool (dN b).2.2]) st:=by
 refine Ev.h_ rfl ZV rfl rfl rfl ?_;dsimp only[u3,u4,List.length,Nat.reduceSub,Nat.reduceAdd,w1,w2];have eF:=hb.enter .ro;refine qy ?_;(repeat refine qq ?_);(generalize hK:bj _ _ _ _=K);refine ab.cH ?_;(repeat(refine xL ?_));refine aa.nil ?_;dsimp only[Fr.aj,Fr.put,Fr.clean,Fr.ev,Fr.get,nth,V.look,u1,u2,v1,v2,v3,v4,v5,v6,v7,List.length,u3,u4,Nat.reduceSub,Nat.reduceAdd,List.map];subst hK;refine qy ?_;(repeat refine qq ?_);(generalize hK:bj _ _ _ _=K);refine ab.cH ?_
 (refine xT ?_)
 refine aa.len rfl rfl rfl eF rfl ?_;(repeat(refine xT ?_));refine aa.nil ?_;dsimp only[Fr.aj,Fr.put,Fr.clean,Fr.ev,Fr.get,nth,V.look,u1,u2,v1,v2,v3,v4,v5,v6,v7,List.length,u3,u4,Nat.reduceSub,Nat.reduceAdd,List.map];subst hK;refine qy ?_;(repeat refine qq ?_);refine qc (fun h1=>?_) (fun h1=>?_)<;>try simp only[cs] at h1
 ·(refine qy ?_);(repeat refine qq ?_);(generalize hK:bj _ _ _ _=K);refine ab.cH ?_;(repeat(refine xL ?_));refine aa.nil ?_;dsimp only[Fr.aj,Fr.put,Fr.clean,Fr.ev,Fr.get,nth,V.look,u1,u2,v1,v2,v3,v4,v5,v6,v7,List.length,u3,u4,Nat.reduceSub,Nat.reduceAdd,List.map];subst hK;refine qy ?_;refine ab.ret ⟨rx,_,rfl,aP (by simp) (by simp[ah]) ?_⟩
  obtain rfl:b=[]:=by cases b with|nil=>rfl|cons c b=>simp[byteCells] at h1;omega
  rfl
 refine ab.skip ?_
 obtain⟨c,xs,rfl⟩:∃c xs,b=c::xs:=by cases b with|nil=>simp[byteCells] at h1|cons c b=>exact⟨c,b,rfl⟩
 obtain⟨k,lo,hi,hm⟩:∃k lo hi,cn c.toNat=(k,lo,hi):=⟨_,_,_,rfl⟩
 have Yv:=L5 c.toNat (ah .ro st);rw[hm] at Yv;have hk:=xI c.toNat;rw[hm] at hk;have hc:=AL c;refine qy ?_;(repeat refine qq ?_);(generalize hK:bj _ _ _ _=K);refine ab.cH ?_
 (refine xT ?_)
 refine aa.dU rfl rfl rfl (fun _=>rfl) rfl rfl eF rfl rfl (by omega) rfl rfl (fun p=>?_);refine aa.oh rfl rfl rfl Yv ?_;(repeat(first|refine xT ?_|refine xL ?_));refine aa.nil ?_;dsimp only[Fr.aj,Fr.put,Fr.clean,Fr.ev,Fr.get,nth,V.look,u1,u2,v1,v2,v3,v4,v5,v6,v7,List.length,u3,u4,Nat.reduceSub,Nat.reduceAdd,List.map];subst hK;refine qy ?_;(repeat refine qq ?_);(generalize hK:bj _ _ _ _=K);refine ab.cH ?_;(repeat(refine xT ?_));refine aa.nil ?_;dsimp only[Fr.aj,Fr.put,Fr.clean,Fr.ev,Fr.get,nth,V.look,u1,u2,v1,v2,v3,v4,v5,v6,v7,List.length,u3,u4,Nat.reduceSub,Nat.reduceAdd,List.map];subst hK;refine qy ?_;(repeat refine qq ?_);refine qc (fun h2=>?_) (fun h2=>?_)<;>try simp only[cs] at h2
 ·(refine qy ?_);(repeat refine qq ?_);(generalize hK:bj _ _ _ _=K);refine ab.cH ?_;(repeat(refine xL ?_));refine aa.nil ?_;dsimp only[Fr.aj,Fr.put,Fr.clean,Fr.ev,Fr.get,nth,V.look,u1,u2,v1,v2,v3,v4,v5,v6,v7,List.length,u3,u4,Nat.reduceSub,Nat.reduceAdd,List.map];subst hK;refine qy ?_;refine ab.ret ⟨rx,_,rfl,aP (by simp) (by simp[ah]) ?_⟩;simp only[dN,hm];rw[if_pos h2];rfl
 refine ab.skip ?_;refine qy ?_;(repeat refine qq ?_);(generalize hK:bj _ _ _ _=K);refine ab.cH ?_
 (refine xT ?_)
 refine aa.dU rfl rfl rfl (fun _=>rfl) rfl rfl eF rfl rfl (by omega) rfl rfl (fun p=>?_);(repeat(first|refine xT ?_|refine xL ?_));refine aa.nil ?_;dsimp only[Fr.aj,Fr.put,Fr.clean,Fr.ev,Fr.get,nth,V.look,u1,u2,v1,v2,v3,v4,v5,v6,v7,List.length,u3,u4,Nat.reduceSub,Nat.reduceAdd,List.map];subst hK;refine qy ?_;(repeat refine qq ?_);(generalize hK:bj _ _ _ _=K);refine ab.cH ?_;(repeat(refine xT ?_));refine aa.nil ?_;dsimp only[Fr.aj,Fr.put,Fr.clean,Fr.ev,Fr.get,nth,V.look,u1,u2,v1,v2,v3,v4,v5,v6,v7,List.length,u3,u4,Nat.reduceSub,Nat.reduceAdd,List.map];subst hK;refine qy ?_;generalize hK:bj _ _ _ _=K
 have H:∀(r kn:Nat) (m:List (Nat×D)),k=(kn:Int)→r=(if k>0 then c.toNat %(64/2^k.toNat) else c.toNat)→(r+1)*64^kn≤2097152→K .next ⟨9,[x,.tup [],.int .i32 r,.int .i64 0,.bool false,.int .i64 k,.int .u8 lo,.int .u8 hi,.tup []],m⟩ (ah .ro st):=by
  intro r kn m hkn hr mV
  have hR:dN (c::xs)=gN kn (kn+1) r lo hi xs:=by
   simp only[dN,hm];rw[if_neg h2,hr,hkn];rfl
  subst hK;rw[hR];generalize hS:gN kn (kn+1) r lo hi xs=R at hR⊢;subst hkn;refine qy ?_;(repeat refine qq ?_);(generalize hK:bj _ _ _ _=K);refine ab.cH ?_;(repeat(refine xL ?_));refine aa.nil ?_;dsimp only[Fr.aj,Fr.put,Fr.clean,Fr.ev,Fr.get,nth,V.look,u1,u2,v1,v2,v3,v4,v5,v6,v7,List.length,u3,u4,Nat.reduceSub,Nat.reduceAdd,List.map];subst hK;refine qy ?_;refine ab.block<|ab.loop (fun j fr ai=>∃(i r lo hi:Nat),fr.clean=⟨9,[x,.tup [],.int .i32 r,.int .i64 0,.bool false,.int .i64 kn,.int .u8 lo,.int .u8 hi,.int .i64 (i:Nat)],[]⟩∧ai=ah .ro st∧1≤i∧i+j=kn+1∧gN j (kn+1) r lo hi (xs.drop (i-1))=R∧(r+1)*64^j≤2097152) kn ⟨1,r,lo,hi,rfl,rfl,by omega,by omega,hS,mV⟩ ?_;clear hr mV hS r hm Yv m;rintro j fr ai ⟨i,r,lo,hi,hfr,rfl,Th,hij,hS,mV⟩;rw[hfr];refine qy ?_;(repeat refine qq ?_);(generalize hK:bj _ _ _ _=K);refine ab.cH ?_;(repeat(refine xT ?_));refine aa.nil ?_;dsimp only[Fr.aj,Fr.put,Fr.clean,Fr.ev,Fr.get,nth,V.look,u1,u2,v1,v2,v3,v4,v5,v6,v7,List.length,u3,u4,Nat.reduceSub,Nat.reduceAdd,List.map];subst hK;refine qy ?_;(repeat refine qq ?_);refine qc (fun h4=>?_) (fun h4=>?_)<;>try simp only[cs] at h4
  ·refine ab.skip ?_
   obtain⟨j,rfl⟩:∃j',j=j'+1:=⟨j-1,by omega⟩
   refine ab.seq (ab.block ?_);refine qy ?_;(repeat refine qq ?_);(generalize hK:bj _ _ _ _=K);refine ab.cH ?_
   (refine xT ?_)
   (refine xT ?_)
   refine aa.len rfl rfl rfl eF rfl ?_;(repeat(refine xT ?_));refine aa.nil ?_;dsimp only[Fr.aj,Fr.put,Fr.clean,Fr.ev,Fr.get,nth,V.look,u1,u2,v1,v2,v3,v4,v5,v6,v7,List.length,u3,u4,Nat.reduceSub,Nat.reduceAdd,List.map];subst hK;refine qy ?_
   have xW:(xs.drop (i-1))=[]∨∃y ys,xs.drop (i-1)=y::ys:=by
    cases xs.drop (i-1) with
    |nil=>exact .inl rfl
    |cons y ys=>exact .inr ⟨y,ys,rfl⟩
   have WM:(xs.drop (i-1)).length=xs.length-(i-1):=List.length_drop ..;have hbl:(byteCells (c::xs)).length=xs.length+1:=by simp[byteCells]
   (refine qy ?_);(repeat refine qq ?_);refine qc (fun h5=>?_) (fun h5=>?_)<;>try simp only[cs] at h5
   ·(refine qy ?_);(repeat refine qq ?_);(generalize hK:bj _ _ _ _=K);refine ab.cH ?_;(repeat(refine xL ?_));refine aa.nil ?_;dsimp only[Fr.aj,Fr.put,Fr.clean,Fr.ev,Fr.get,nth,V.look,u1,u2,v1,v2,v3,v4,v5,v6,v7,List.length,u3,u4,Nat.reduceSub,Nat.reduceAdd,List.map];subst hK;refine qy ?_;refine ab.ret ⟨rx,_,rfl,aP (by simp) (by simp[ah]) ?_⟩
    rcases xW with xW|⟨y,ys,xW⟩
    ·rw[xW] at hS;simp only[gN] at hS;subst hS;rfl
    ·rw[xW] at WM;simp only[List.length_cons] at WM;omega
   refine ab.skip ?_
   rcases xW with xW|⟨y,ys,xW⟩
   ·rw[xW] at WM;simp only[List.length_nil] at WM;omega
   have hy:(c::xs)[i]?=some y:=by
    obtain⟨i,rfl⟩:∃i',i=i'+1:=⟨i-1,by omega⟩
    have:=congrArg (fun l=>l[0]?) xW
    simpa using this
   have kU:xs.drop (i+1-1)=ys:=by
    have:=congrArg (fun l=>l.drop 1) xW;simp only[List.drop_drop,List.drop_succ_cons,List.drop_zero] at this;rw[←this];congr 1;omega
   have S8:=jM hy;have hyb:=AL y;rw[xW] at hS;simp only[gN] at hS;refine qy ?_;(repeat refine qq ?_);(generalize hK:bj _ _ _ _=K);refine ab.cH ?_
   (refine xT ?_)
   (refine xT ?_)
   refine aa.dU rfl rfl rfl (fun _=>rfl) rfl rfl eF rfl rfl (by omega) S8 rfl (fun p=>?_)
   (refine xT ?_)
   (refine xT ?_)
   (refine xT ?_)
   by_cases wF:(y.toNat:Int)<(lo:Int)
   ·rw[decide_eq_true wF];(repeat(first|refine xT ?_|refine xo ?_));refine aa.nil ?_;dsimp only[Fr.aj,Fr.put,Fr.clean,Fr.ev,Fr.get,nth,V.look,u1,u2,v1,v2,v3,v4,v5,v6,v7,List.length,u3,u4,Nat.reduceSub,Nat.reduceAdd,List.map];subst hK;refine qy ?_;refine ab.cond (v:=true) rfl (fun _=>?_) (fun h=>by cases h);refine qy ?_;(repeat refine qq ?_);(generalize hK:bj _ _ _ _=K);refine ab.cH ?_;(repeat(refine xL ?_));refine aa.nil ?_;dsimp only[Fr.aj,Fr.put,Fr.clean,Fr.ev,Fr.get,nth,V.look,u1,u2,v1,v2,v3,v4,v5,v6,v7,List.length,u3,u4,Nat.reduceSub,Nat.reduceAdd,List.map];subst hK;refine qy ?_;refine ab.ret ⟨rx,_,rfl,aP (by simp) (by simp[ah]) ?_⟩;rw[if_pos (.inl (by omega))] at hS;subst hS;rfl
   rw[decide_eq_false wF]
   (refine xT ?_)
   (refine xT ?_)
   refine aa.dU rfl rfl rfl (fun _=>rfl) rfl rfl eF rfl rfl (by omega) S8 rfl (fun p=>?_);(repeat(refine xT ?_));refine aa.nil ?_;dsimp only[Fr.aj,Fr.put,Fr.clean,Fr.ev,Fr.get,nth,V.look,u1,u2,v1,v2,v3,v4,v5,v6,v7,List.length,u3,u4,Nat.reduceSub,Nat.reduceAdd,List.map];subst hK;refine qy ?_;(repeat refine qq ?_);refine qc (fun h6=>?_) (fun h6=>?_)<;>try simp only[cs] at h6
   ·(refine qy ?_);(repeat refine qq ?_);(generalize hK:bj _ _ _ _=K);refine ab.cH ?_;(repeat(refine xL ?_));refine aa.nil ?_;dsimp only[Fr.aj,Fr.put,Fr.clean,Fr.ev,Fr.get,nth,V.look,u1,u2,v1,v2,v3,v4,v5,v6,v7,List.length,u3,u4,Nat.reduceSub,Nat.reduceAdd,List.map];subst hK;refine qy ?_;refine ab.ret ⟨rx,_,rfl,aP (by simp) (by simp[ah]) ?_⟩;rw[if_pos (.inr (by omega))] at hS;subst hS;rfl
   refine ab.skip ?_;rw[if_neg (by omega)] at hS;refine qy ?_;(repeat refine qq ?_);(generalize hK:bj _ _ _ _=K);refine ab.cH ?_
   (refine xT ?_)
   (refine xT ?_)
   (refine xT ?_)
   (refine xT ?_)
   refine aa.dU rfl rfl rfl (fun _=>rfl) rfl rfl eF rfl rfl (by omega) S8 rfl (fun p=>?_);(repeat(first|refine xT ?_|refine xL ?_));refine aa.nil ?_;dsimp only[Fr.aj,Fr.put,Fr.clean,Fr.ev,Fr.get,nth,V.look,u1,u2,v1,v2,v3,v4,v5,v6,v7,List.length,u3,u4,Nat.reduceSub,Nat.reduceAdd,List.map];subst hK;refine qy ?_;have WQ:r+1≤(r+1)*64^(j+1):=Nat.le_mul_of_pos_right _ (Nat.pow_pos (by omega));rw[six (by omega) hyb];refine qy ?_;(repeat refine qq ?_);(generalize hK:bj _ _ _ _=K);refine ab.cH ?_;(repeat(refine xL ?_));refine aa.nil ?_;dsimp only[Fr.aj,Fr.put,Fr.clean,Fr.ev,Fr.get,nth,V.look,u1,u2,v1,v2,v3,v4,v5,v6,v7,List.length,u3,u4,Nat.reduceSub,Nat.reduceAdd,List.map];subst hK;refine qy ?_;(repeat refine qq ?_);(generalize hK:bj _ _ _ _=K);refine ab.cH ?_;(repeat(first|refine xT ?_|refine xL ?_));refine aa.nil ?_;dsimp only[Fr.aj,Fr.put,Fr.clean,Fr.ev,Fr.get,nth,V.look,u1,u2,v1,v2,v3,v4,v5,v6,v7,List.length,u3,u4,Nat.reduceSub,Nat.reduceAdd,List.map];subst hK;rw[wrap_i64 (by omega) (by omega)];refine⟨j,by omega,i+1,_,_,_,rfl,rfl,by omega,by omega,by rw[kU];exact hS,?_⟩;have e1:(r*64+y.toNat %64+1)≤(r+1)*64:=by omega
   have e2:=Nat.mul_le_mul_right (64^j) e1;have e3:64*64^j=64^(j+1):=by rw[Nat.pow_succ,Nat.mul_comm]
   rw[Nat.mul_assoc,e3] at e2;omega
  ·refine ab.exit ?_;have:j=0:=by omega
   subst this;simp only[gN] at hS;subst hS;refine qy ?_;(repeat refine qq ?_);(generalize hK:bj _ _ _ _=K);refine ab.cH ?_;(repeat(first|refine xT ?_|refine xL ?_));refine aa.nil ?_;dsimp only[Fr.aj,Fr.put,Fr.clean,Fr.ev,Fr.get,nth,V.look,u1,u2,v1,v2,v3,v4,v5,v6,v7,List.length,u3,u4,Nat.reduceSub,Nat.reduceAdd,List.map];subst hK;refine qy ?_;refine ab.ret ⟨rx,_,rfl,aP (by simp) (by simp[ah]) ?_⟩;rw[wrap_i64 (by omega) (by omega)];rfl
 rcases hk with hk|hk|hk|hk|hk
 ·omega
 ·subst hk;refine ab.cond (v:=false) rfl (fun h=>by cases h) fun _=>ab.skip ?_;rw[eW (by simp only[mz];omega)];exact H _ 0 _ rfl rfl (by omega)
 ·subst hk;refine ab.cond (v:=true) rfl (fun _=>?_) (fun h=>by cases h);refine ab.cH ?_
  (refine xT ?_)
  refine aa.dU rfl rfl rfl (fun _=>rfl) rfl rfl eF rfl rfl (by omega) rfl rfl (fun p=>?_);(repeat(first|refine xT ?_|refine xL ?_));refine aa.nil ?_;dsimp only[Fr.aj,Fr.put,Fr.clean,Fr.ev,Fr.get,nth,V.look,u1,u2,v1,v2,v3,v4,v5,v6,v7,List.length,u3,u4,Nat.reduceSub,Nat.reduceAdd,List.map];rw[mask (j:=5) hc (by omega)]
  ·exact H _ 1 _ rfl rfl (by omega)
  ·decide
 ·subst hk;refine ab.cond (v:=true) rfl (fun _=>?_) (fun h=>by cases h);refine ab.cH ?_
  (refine xT ?_)
  refine aa.dU rfl rfl rfl (fun _=>rfl) rfl rfl eF rfl rfl (by omega) rfl rfl (fun p=>?_);(repeat(first|refine xT ?_|refine xL ?_));refine aa.nil ?_;dsimp only[Fr.aj,Fr.put,Fr.clean,Fr.ev,Fr.get,nth,V.look,u1,u2,v1,v2,v3,v4,v5,v6,v7,List.length,u3,u4,Nat.reduceSub,Nat.reduceAdd,List.map];rw[mask (j:=4) hc (by omega)]
  ·exact H _ 2 _ rfl rfl (by omega)
  ·decide
 ·subst hk;refine ab.cond (v:=true) rfl (fun _=>?_) (fun h=>by cases h);refine ab.cH ?_
  (refine xT ?_)
  refine aa.dU rfl rfl rfl (fun _=>rfl) rfl rfl eF rfl rfl (by omega) rfl rfl (fun p=>?_);(repeat(first|refine xT ?_|refine xL ?_));refine aa.nil ?_;dsimp only[Fr.aj,Fr.put,Fr.clean,Fr.ev,Fr.get,nth,V.look,u1,u2,v1,v2,v3,v4,v5,v6,v7,List.length,u3,u4,Nat.reduceSub,Nat.reduceAdd,List.map];rw[mask (j:=3) hc (by omega)]
  ·exact H _ 3 _ rfl rfl (by omega)
  ·decide
def iK (b:List UInt8):Nat×Nat:=if(dN b).2.1=0 then(65533,1) else((dN b).1,(dN b).2.1)
def C8:Nat→List UInt8→List (Nat×Nat)
 |0,_=>[]
 |_+1,[]=>[]
 |n+1,b=>iK b::C8 n (b.drop (iK b).2)
def tk (b:List UInt8):List (Nat×Nat):=C8 b.length b
theorem nE (b:List UInt8):1≤(iK b).2:=by
 unfold iK;split
 ·simp
 ·simp only;omega
theorem pt : ∀ (n : Nat) (b : List UInt8), b.length ≤ n → C8 n b = tk b
 | 0, [], _ => rfl
 | 0, _ :: _, h => by simp at h
 | n + 1, [], _ => rfl
 | n + 1, c :: b, h => by
  have hp := nE (c :: b);have h1 : ((c :: b).drop (iK (c :: b)).2).length ≤ b.length := by rw [List.length_drop]; simp only [List.length_cons]; omega
  simp only [List.length_cons] at h;show iK (c :: b) :: C8 n ((c :: b).drop _) = iK (c :: b) :: C8 b.length ((c :: b).drop _);rw [pt n _ (by omega)]
  rcases Nat.lt_or_ge n b.length with h2 | h2
  ·omega
  ·rw [pt b.length _ h1]
termination_by n b => b.length
decreasing_by all_goals (simp_wf; omega)
theorem tj:tk []=[]:=rfl
theorem vb {b:List UInt8} (h:b≠[]):tk b=iK b::tk (b.drop (iK b).2):=by
 match b,h with
 |c::b,_=>
  show iK (c::b)::C8 b.length ((c::b).drop _)=_;rw[pt];have hp:=nE (c::b);rw[List.length_drop];simp only[List.length_cons];omega
def bo (g:Nat×Nat):List D:=[.int .i32 (g.1:Nat),.int .i64 (g.2:Nat)]
def fP (l:List (Nat×Nat)):D:=.sl ((l.map bo).map (jR 2))
theorem Ff {l:List (Nat×Nat)}:∀e∈l.map bo,e.length=2:=by
 intro e he;obtain⟨g,_,rfl⟩:=List.mem_map.1 he;rfl
theorem mY {l:List (Nat×Nat)}:∀e∈l.map bo,∀d∈e,cv d=true:=by
 intro e he d hd;obtain⟨g,_,rfl⟩:=List.mem_map.1 he;simp only[bo,List.mem_cons,List.not_mem_nil,or_false] at hd
 rcases hd with rfl|rfl<;>rfl
theorem eH (st:St) (l:List (Nat×Nat)):V.Rows st 2 (fP l) (l.map bo):=Rows.nF Ff mY
theorem w7:∀(left n r lo hi:Nat) (b:List UInt8),(gN left n r lo hi b).2.1≠0→(gN left n r lo hi b).2.1=n∧left≤b.length
 |0,n,r,lo,hi,b,h=>by simp[gN]
 |left+1,n,r,lo,hi,[],h=>by simp[gN] at h
 |left+1,n,r,lo,hi,x::xs,h=>by
  simp only[gN] at h⊢
  split at h
  ·simp at h
  ·rename_i hc;rw[if_neg hc];have:=w7 left n _ _ _ xs h;exact⟨this.1,by simp;omega⟩
theorem A_ {b:List UInt8} (h:b≠[]):(iK b).2≤b.length:=by
 match b,h with
 |c::xs,_=>
  unfold iK
  split
  ·simp
  ·rename_i hz;simp only[dN] at hz⊢
   split at hz
   ·simp at hz
   ·rename_i hk;rw[if_neg hk];have:=w7 _ _ _ _ _ _ hz;rw[this.1];simp;omega
theorem SP {st:St} {x:D} {b:List UInt8} (hb:Bytes st x b) (hlen:b.length≤1048576):Ev pv 13 [x] st (fP (tk b)) st:=by
 refine Ev.h_ rfl aai rfl rfl rfl ?_;dsimp only[u3,u4,List.length,Nat.reduceSub,Nat.reduceAdd,w1,w2];have hx:=hb.ref;refine qy ?_;(repeat refine qq ?_);(generalize hK:bj _ _ _ _=K);refine ab.cH ?_;(repeat(refine xL ?_));refine aa.nil ?_;dsimp only[Fr.aj,Fr.put,Fr.clean,Fr.ev,Fr.get,nth,V.look,u1,u2,v1,v2,v3,v4,v5,v6,v7,List.length,u3,u4,Nat.reduceSub,Nat.reduceAdd,List.map];subst hK;refine qy ?_;(repeat refine qq ?_);(generalize hK:bj _ _ _ _=K);refine ab.cH ?_;(repeat(refine xL ?_));refine aa.nil ?_;dsimp only[Fr.aj,Fr.put,Fr.clean,Fr.ev,Fr.get,nth,V.look,u1,u2,v1,v2,v3,v4,v5,v6,v7,List.length,u3,u4,Nat.reduceSub,Nat.reduceAdd,List.map];subst hK;refine qy ?_;refine ab.seq (ab.block ?_)
 refine ab.loop (fun j fr ai=>∃(y out r n:D) (b':List UInt8) (done:List (Nat×Nat)),fr.clean=⟨6,[y,.tup [],.nul,out,r,n],[]⟩∧Ex st.bs.length (ah .ro st) ai∧Bytes ai y b'∧y.ref≤st.bs.length∧
  Acc st.bs.length ai 2 out (done.map bo)∧j=b'.length∧done++tk b'=tk b∧done.length+b'.length≤b.length) b.length
  ⟨x,.nul,_,_,b,[],rfl,Ex.refl _ _,hb.enter .ro,hx,.nul,rfl,rfl,by simp⟩ ?_
 rintro j fr ai ⟨y,out,r,n,b',done,hfr,hex,hy,hyr,tJ,rfl,nU,hl⟩;rw[hfr];refine qy ?_;(repeat refine qq ?_);(generalize hK:bj _ _ _ _=K);refine ab.cH ?_
 (refine xT ?_)
 refine aa.len rfl rfl rfl hy rfl ?_;(repeat(refine xT ?_));refine aa.nil ?_;dsimp only[Fr.aj,Fr.put,Fr.clean,Fr.ev,Fr.get,nth,V.look,u1,u2,v1,v2,v3,v4,v5,v6,v7,List.length,u3,u4,Nat.reduceSub,Nat.reduceAdd,List.map];subst hK;refine qy ?_;rw[bI];refine qy ?_;(repeat refine qq ?_);refine qc (fun h1=>?_) (fun h1=>?_)<;>try simp only[cs] at h1
 ·refine ab.skip ?_;have qz:b'≠[]:=by rintro rfl;simp at h1
  (refine qy ?_);(repeat refine qq ?_);refine ab.block ?_;refine qy ?_;(repeat refine qq ?_);(generalize hK:bj _ _ _ _=K);refine ab.cH ?_
  (refine xT ?_)
  refine aa.oh rfl rfl rfl (sQ hy) ?_;(repeat(first|refine xT ?_|refine xL ?_));refine aa.nil ?_;dsimp only[Fr.aj,Fr.put,Fr.clean,Fr.ev,Fr.get,nth,V.look,u1,u2,v1,v2,v3,v4,v5,v6,v7,List.length,u3,u4,Nat.reduceSub,Nat.reduceAdd,List.map];subst hK;refine qy ?_;generalize hf:dN b'=F at*;obtain⟨r0,n0,bg⟩:=F;refine qy ?_;(repeat refine qq ?_);(generalize hK:bj _ _ _ _=K);refine ab.cH ?_;(repeat(refine xT ?_));refine aa.nil ?_;dsimp only[Fr.aj,Fr.put,Fr.clean,Fr.ev,Fr.get,nth,V.look,u1,u2,v1,v2,v3,v4,v5,v6,v7,List.length,u3,u4,Nat.reduceSub,Nat.reduceAdd,List.map];subst hK;refine qy ?_;generalize hK:bj _ _ _ _=K
  have H:∀m,K .next ⟨6,[y,.tup [],.nul,out,.int .i32 ((iK b').1:Nat),.int .i64 ((iK b').2:Nat)],m⟩ ai:=by
   intro m;subst hK;generalize hg:iK b'=g;have hp:=nE b';have hle:=A_ qz;rw[hg] at hp hle;refine qy ?_;(repeat refine qq ?_);(generalize hK:bj _ _ _ _=K);refine ab.cH ?_
   (refine xT ?_)
   (refine xT ?_)
   (refine xT ?_)
   refine aa.T rfl rfl rfl (d:=.agg (bo g)) (st1:=ai) rfl<|aa.T rfl rfl rfl (d:=.win ai.bs.length 0 0 1 2) (st1:=ai.push (.mem 0 true (bo g))) rfl ?_;have hN:st.bs.length≤ai.bs.length:=hex.len;have MR:=hex.trans (Ex.push hN (.mem 0 true (bo g)));refine aa.append rfl rfl rfl rfl (tJ.push _) (Rows.one rfl) rfl rfl rfl rfl rfl rfl rfl (by decide) MR.len (by rw[MR.flr];exact Nat.le_refl _) (by rw[MR.ro];exact Nat.le_refl _) (by simp only[List.length_map,List.length_cons,List.length_nil];show(done.length+1)*16≤_;omega) fun Ra st2 Fb mB _ _ _=>?_;(repeat(refine xL ?_));refine aa.nil ?_;dsimp only[Fr.aj,Fr.put,Fr.clean,Fr.ev,Fr.get,nth,V.look,u1,u2,v1,v2,v3,v4,v5,v6,v7,List.length,u3,u4,Nat.reduceSub,Nat.reduceAdd,List.map];subst hK;refine qy ?_;have YV:=MR.trans mB;have Ct:Bytes st2 y b':=Rows.ex ((Ex.push hN _).trans mB) hy hyr;refine qy ?_;(repeat refine qq ?_);(generalize hK:bj _ _ _ _=K);refine ab.cH ?_
   (refine xT ?_)
   (refine xT ?_)
   refine aa.slice rfl rfl rfl Ct rfl rfl (l:=g.2) (r:=b'.length) ?_ ⟨by omega,by rw[bI];omega⟩ fun y2 Mi XN=>?_
   ·show dw (byteCells b').length (some (.int .i64 (g.2:Nat))) none=_;rw[bI];simp only[dw,jY,lX,Option.bind_some];rw[if_pos ⟨by omega,by omega⟩];rfl
   (repeat(refine xL ?_));refine aa.nil ?_;dsimp only[Fr.aj,Fr.put,Fr.clean,Fr.ev,Fr.get,nth,V.look,u1,u2,v1,v2,v3,v4,v5,v6,v7,List.length,u3,u4,Nat.reduceSub,Nat.reduceAdd,List.map];subst hK;refine⟨(b'.drop g.2).length,by rw[List.length_drop];omega,y2,Ra,_,_,b'.drop g.2,done++[g],rfl,YV,?_,Nat.le_trans XN hyr,?_,rfl,?_,?_⟩
   ·have:((byteCells b').take b'.length).drop g.2=byteCells (b'.drop g.2):=by
     rw[←bI,List.take_length];simp[byteCells]
    unfold Bytes;rw[←this];exact Mi
   ·rw[List.map_append];exact Fb
   ·rw[List.append_assoc,List.singleton_append,←nU,vb qz,hg]
   ·rw[List.length_append,List.length_drop];simp only[List.length_cons,List.length_nil];omega
  (refine qy ?_);(repeat refine qq ?_);refine qc (fun h2=>?_) (fun h2=>?_)<;>try simp only[cs] at h2
  ·refine ab.cH ?_;(repeat(refine xL ?_));refine aa.nil ?_;dsimp only[Fr.aj,Fr.put,Fr.clean,Fr.ev,Fr.get,nth,V.look,u1,u2,v1,v2,v3,v4,v5,v6,v7,List.length,u3,u4,Nat.reduceSub,Nat.reduceAdd,List.map];have:iK b'=(65533,1):=by unfold iK;rw[hf,if_pos (by simpa using h2)]
   rw[this] at H;exact H _
  ·refine ab.skip ?_;have:iK b'=(r0,n0):=by unfold iK;rw[hf,if_neg (by simpa using h2)]
   rw[this] at H;exact H _
 ·refine ab.exit ?_
  have qz:b'=[]:=by cases b' with|nil=>rfl|cons _ _=>simp at h1<;>omega
  subst qz;rw[tj,List.append_nil] at nU;refine qy ?_;(repeat refine qq ?_);(generalize hK:bj _ _ _ _=K);refine ab.cH ?_;(repeat(first|refine xT ?_|refine xL ?_));refine aa.nil ?_;dsimp only[Fr.aj,Fr.put,Fr.clean,Fr.ev,Fr.get,nth,V.look,u1,u2,v1,v2,v3,v4,v5,v6,v7,List.length,u3,u4,Nat.reduceSub,Nat.reduceAdd,List.map];subst hK;refine qy ?_;refine ab.ret ⟨rx,_,rfl,aP (by simp) (hex.take rfl) ?_⟩;rw[←nU];exact tJ.freeze mY (n:=15) (by decide)
structure fU where
 i:Nat
 o:Nat
 g:Nat
 e:Int
 w:Int
def bm (gs:List (Nat×Nat)) (bZ:D) (s:fU):List D:=[fP gs,bZ,.int .i64 (s.i:Nat),.int .i64 (s.o:Nat),.int .i64 (s.g:Nat),.int .i64 s.e,.int .i64 s.w]
def lP (gs:List (Nat×Nat)) (i:Nat) (r:Int):Bool:=match gs[i]? with
 |some g=>((g.1:Nat):Int)==r
 |none=>false
theorem sm {gs:List (Nat×Nat)} {i:Nat} {r:Int} (h:lP gs i r=true):i<gs.length:=by
 unfold lP at h
 split at h
 ·exact bC (by assumption)
 ·cases h
def dA (gs:List (Nat×Nat)) (s:fU) (r:Int):fU:=if lP gs s.i r=true then{s with i:=s.i+1} else s
def SN (gs:List (Nat×Nat)) (i:Nat):Bool:=match gs[i]? with
 |some g=>((g.1:Nat):Int)==65533 &&((g.2:Nat):Int)==1
 |none=>false
def jC (cw:List Int) (s:fU) (i:Nat) (e:Int):fU:=if s.e=0 then{s with e:=e,w:=cw.getD i 0} else s
theorem pM {N k:Nat} {S s0:St} {H:List bJ} {gs:List (Nat×Nat)} {bZ:D} {s:fU} (uH:gs.length≤1048576) (r:Int) (hH:Has N S s0 (.box k (.mem 0 false (bm gs bZ s))::H)):
  ∃d ai,Ev pv 143 [.ptr k 0 0,.int .i32 r] s0 d ai∧d=.bool (lP gs s.i r)∧Has N S ai (.box k (.mem 0 false (bm gs bZ s))::H):=by
 refine Ev.iD rfl V0 rfl rfl rfl ?_;dsimp only[u3,u4,List.length,Nat.reduceSub,Nat.reduceAdd,w1,w2];have cX:=hH;have hH:=hH.c8;have cL:(ah .rw s0).bs=s0.bs:=rfl;generalize ah .rw s0=S2 at*;have MO:Arg N S2 2 (fP gs) (gs.map bo):=Arg.pure (fun st=>eH st gs);refine qq<|qj fun K hK=>qm ?_;refine qe hK ?_
 by_cases ha:s.i<gs.length
 ·obtain⟨g,hg⟩:∃g,gs[s.i]?=some g:=⟨gs[s.i]'ha,List.getElem?_eq_getElem _⟩
  have gB:(gs.map bo)[s.i]?=some (bo g):=by rw[List.getElem?_map,hg];rfl
  have aX:decide ((s.i:Int)<(gs.length:Nat))=true:=by rw[decide_eq_true];simp;omega
  have hv:lP gs s.i r=(((g.1:Nat):Int)==r):=by unfold lP;rw[hg]
  refine qq<|ab.lV 4 (.bool (((g.1:Nat):Int)==r)) [] ?_ (fun ff tmp=>?_)
  ·refine qm ?_;refine qg ?_;refine qp (o:=2) ?_;refine ql hH av ?_;refine qm ?_;refine qg ?_;refine qp (o:=0) ?_;refine ql hH av ?_;refine qn ?_;simp only[List.length_map];refine qg ?_;refine qm ?_;refine qm ?_ (hg:=wi aX);refine qg ?_ (hg:=wi aX);refine qp (o:=0) ?_ (hg:=wi aX);refine ql hH av ?_ (hg:=wi aX);refine qm ?_ (hg:=wi aX);refine qg ?_ (hg:=wi aX);refine qp (o:=2) ?_ (hg:=wi aX);refine ql hH av ?_ (hg:=wi aX);refine qr (fun Q9 zS=>?_) (hg:=wi aX);refine qf (fo:=0) (fun S3 CC=>?_) (hg:=wi aX);refine qR ?_ (hg:=wi aX);refine qm ?_ (hg:=wi aX);refine qg ?_ (hg:=wi aX);refine qt aX ?_;refine qm ?_;refine aa.nil (bp ?_);dsimp only[aB,List.foldl,nth,u2,u1];dsimp only[Fr.aj,Fr.put,Fr.clean,Fr.ev,Fr.get,nth,look,u1,u2,v1,v2,v4]
   all_goals(rfl)
  dsimp only[aB,List.foldl,nth,u2,u1];refine ab.ret ⟨rx,_,_,_,rfl,au (rfl),?_⟩;exact⟨by rw[hv];rfl,cX.aD cL hH⟩
 ·have aX:decide ((s.i:Int)<(gs.length:Nat))=false:=by rw[decide_eq_false];simp;omega
  have hv:lP gs s.i r=false:=by
   cases h:lP gs s.i r with
   |true=>exact absurd (sm h) ha
   |false=>rfl
  refine qq<|ab.lV 4 (.bool false) [] ?_ (fun ff tmp=>?_)
  ·refine qm ?_;refine qg ?_;refine qp (o:=2) ?_;refine ql hH av ?_;refine qm ?_;refine qg ?_;refine qp (o:=0) ?_;refine ql hH av ?_;refine qn ?_;simp only[List.length_map];refine qg ?_;refine qm ?_;refine qs ?_ (hg:=wn aX);refine qs ?_ (hg:=wn aX);refine qs ?_ (hg:=wn aX);refine qs ?_ (hg:=wn aX);refine qs ?_ (hg:=wn aX);refine qs ?_ (hg:=wn aX);refine qs ?_ (hg:=wn aX);refine qs ?_ (hg:=wn aX);refine qs ?_ (hg:=wn aX);refine qs ?_ (hg:=wn aX);refine qs ?_ (hg:=wn aX);refine qs ?_ (hg:=wn aX);refine qs ?_ (hg:=wn aX);refine qu aX ?_;refine qm ?_;refine aa.nil (bp ?_);dsimp only[aB,List.foldl,nth,u2,u1];dsimp only[Fr.aj,Fr.put,Fr.clean,Fr.ev,Fr.get,nth,look,u1,u2,v1,v2,v4]
   all_goals(first|rfl|(simp[aX];done)|(simp_all;done)|(simp[aX];omega)|(simp_all;omega))
  dsimp only[aB,List.foldl,nth,u2,u1];refine ab.ret ⟨rx,_,_,_,rfl,au (rfl),?_⟩;exact⟨by rw[hv];rfl,cX.aD cL hH⟩
theorem eO {N k:Nat} {S s0:St} {H:List bJ} {gs:List (Nat×Nat)} {bZ:D} {s:fU} (uH:gs.length≤1048576) (r:Int) (hH:Has N S s0 (.box k (.mem 0 false (bm gs bZ s))::H)):
  ∃d ai,Ev pv 130 [.ptr k 0 0,.int .i32 r] s0 d ai∧d=.bool (lP gs s.i r)∧Has N S ai (.box k (.mem 0 false (bm gs bZ (dA gs s r)))::H):=by
 refine Ev.iD rfl V9 rfl rfl rfl ?_;dsimp only[u3,u4,List.length,Nat.reduceSub,Nat.reduceAdd,w1,w2];have cX:=hH;have hH:=hH.c8;have cL:(ah .rw s0).bs=s0.bs:=rfl;generalize ah .rw s0=S2 at*;refine qq<|qj fun K hK=>qm ?_;refine qe hK<|qq<|qq<|qj fun K hK=>qm ?_;refine qm ?_;obtain⟨_,st,aL,rfl,hH⟩:=pM uH r hH;refine qv aL ?_;refine qe hK ?_;unfold dA
 cases hb:lP gs s.i r with
 |true=>
  have hlt:=sm hb;dsimp only[bm] at hH;rw[if_pos rfl];refine qB ?_;refine qq<|qj fun K hK=>qm ?_;refine qg ?_;refine qp (o:=2) ?_;refine ql hH av ?_;refine qA ?_;refine qg ?_;refine qp (o:=2) ?_;refine qT hH av fun st hH=>?_;dsimp only[u2,u1,u3,u4,setMany,u5,u6,D.cells,Nat.reduceAdd,bm,bo,aw] at hH;refine qe hK<|qq<|qj fun K hK=>qm ?_;refine qe hK<|ab.ret ⟨rx,_,_,_,rfl,au (rfl),?_⟩;exact⟨rfl,cX.aD cL hH⟩
 |false=>
  rw[if_neg (by simp)];refine qC ?_;refine ab.skip<|qq<|qj fun K hK=>qm ?_;refine qe hK<|ab.ret ⟨rx,_,_,_,rfl,au (rfl),?_⟩;exact⟨rfl,cX.aD cL hH⟩
theorem Ax {N k:Nat} {S s0:St} {H:List bJ} {gs:List (Nat×Nat)} {bZ:D} {s:fU} (i:Nat) (hi:i<gs.length) (hH:Has N S s0 (.box k (.mem 0 false (bm gs bZ s))::H)):
  ∃d ai,Ev pv 166 [.ptr k 0 0,.int .i64 (i:Nat)] s0 d ai∧d=.bool (SN gs i)∧Has N S ai (.box k (.mem 0 false (bm gs bZ s))::H):=by
 refine Ev.iD rfl VO rfl rfl rfl ?_;dsimp only[u3,u4,List.length,Nat.reduceSub,Nat.reduceAdd,w1,w2];have cX:=hH;have hH:=hH.c8;have cL:(ah .rw s0).bs=s0.bs:=rfl;generalize ah .rw s0=S2 at*;have MO:Arg N S2 2 (fP gs) (gs.map bo):=Arg.pure (fun st=>eH st gs);refine qq<|qj fun K hK=>qm ?_;refine qe hK ?_
 obtain⟨g,hg⟩:∃g,gs[i]?=some g:=⟨gs[i]'hi,List.getElem?_eq_getElem _⟩
 have gB:(gs.map bo)[i]?=some (bo g):=by rw[List.getElem?_map,hg];rfl
 have hv:SN gs i=(((g.1:Nat):Int)==65533 &&((g.2:Nat):Int)==1):=by unfold SN;rw[hg]
 refine qq<|ab.lV 4 (.bool (((g.1:Nat):Int)==65533 &&((g.2:Nat):Int)==1)) [] ?_ (fun ff tmp=>?_)
 ·refine qm ?_;refine qg ?_;refine qp (o:=0) ?_;refine ql hH av ?_;refine qm ?_;refine qr fun WK MA=>?_;refine qf (fo:=0) fun p11 UP=>?_;refine qR ?_;refine qg ?_;refine qm ?_;refine aa.two 14 rfl (fun bV=>?_) (fun bV=>?_)
  ·refine qm ?_ (hg:=wi bV);refine qg ?_ (hg:=wi bV);refine qp (o:=0) ?_ (hg:=wi bV);refine ql hH av ?_ (hg:=wi bV);refine qm ?_ (hg:=wi bV);refine qr (fun Q_ zT=>?_) (hg:=wi bV);refine qf (fo:=1) (fun T0 ES=>?_) (hg:=wi bV);refine qR ?_ (hg:=wi bV);refine qg ?_ (hg:=wi bV);refine qt bV ?_;refine qm ?_;refine aa.nil (bp ?_);dsimp only[aB,List.foldl,nth,u2,u1];dsimp only[Fr.aj,Fr.put,Fr.clean,Fr.ev,Fr.get,nth,V.look,u1,u2,v1,v2,v3,v4,v5,v6,v7,List.length,u3,u4,Nat.reduceSub,Nat.reduceAdd,List.map]
   all_goals(simp[bV];done)
  ·refine qs ?_ (hg:=wn bV);refine qs ?_ (hg:=wn bV);refine qs ?_ (hg:=wn bV);refine qs ?_ (hg:=wn bV);refine qs ?_ (hg:=wn bV);refine qs ?_ (hg:=wn bV);refine qs ?_ (hg:=wn bV);refine qs ?_ (hg:=wn bV);refine qs ?_ (hg:=wn bV);refine qu bV ?_;refine qm ?_;refine aa.nil (bp ?_);dsimp only[aB,List.foldl,nth,u2,u1];dsimp only[Fr.aj,Fr.put,Fr.clean,Fr.ev,Fr.get,nth,V.look,u1,u2,v1,v2,v3,v4,v5,v6,v7,List.length,u3,u4,Nat.reduceSub,Nat.reduceAdd,List.map]
   all_goals(simp[bV];done)
 dsimp only[aB,List.foldl,nth,u2,u1];refine ab.ret ⟨rx,_,_,_,rfl,au (rfl),?_⟩;exact⟨by rw[hv];rfl,cX.aD cL hH⟩
theorem dH {N k:Nat} {S s0:St} {H:List bJ} {gs:List (Nat×Nat)} {bZ:D} {cw:List Int} {s:fU} (i:Nat) (e:Int) (hi:i<cw.length) (hH:Has N S s0 (.box k (.mem 0 false (bm gs bZ s))::.aO bZ 1 (cw.map aw)::H)):
  ∃d ai,Ev pv 100 [.ptr k 0 0,.int .i64 (i:Nat),.int .i64 e] s0 d ai∧d=.sl []∧Has N S ai (.box k (.mem 0 false (bm gs bZ (jC cw s i e)))::.aO bZ 1 (cw.map aw)::H):=by
 refine Ev.iD rfl Ws rfl rfl rfl ?_;dsimp only[u3,u4,List.length,Nat.reduceSub,Nat.reduceAdd,w1,w2];have cX:=hH;have hH:=hH.c8;have cL:(ah .rw s0).bs=s0.bs:=rfl;generalize ah .rw s0=S2 at*;refine qq<|qj fun K hK=>qm ?_;refine qe hK ?_
 obtain⟨v,hv⟩:∃v,cw[i]?=some v:=⟨cw[i]'hi,List.getElem?_eq_getElem _⟩
 have gB:=eA hv;unfold jC;refine qq<|qq<|qj fun K hK=>qm ?_;refine qg ?_;refine qp (o:=5) ?_;refine ql hH av ?_;refine qg ?_;refine qe hK ?_;refine ab.cond (by rfl) (fun h0=>?_) (fun h0=>?_)<;>try simp only[beq_iff_eq,beq_eq_false_iff_ne,ne_eq] at h0
 ·rw[if_pos h0];have MP:cw.getD i 0=v:=by rw[List.getD_eq_getElem?_getD,hv];rfl
  refine qj fun K hK=>qm ?_;refine qm ?_;refine qm ?_;refine qm ?_;refine qg ?_;refine qp (o:=1) ?_;refine ql hH av ?_;refine qm ?_;refine qi hH bh fun Q_ zT=>?_;refine qo hH bh ?_;refine qg ?_;refine qp (o:=5) ?_;refine qT hH av fun st hH=>?_;dsimp only[u2,u1,u3,u4,setMany,u5,u6,D.cells,Nat.reduceAdd,bm,bo,aw] at hH;refine qg ?_;refine qp (o:=6) ?_;refine qT hH av fun st hH=>?_;dsimp only[u2,u1,u3,u4,setMany,u5,u6,D.cells,Nat.reduceAdd,bm,bo,aw] at hH;refine qe hK<|qq<|qj fun K hK=>qm ?_;refine qe hK<|ab.ret ⟨rx,_,_,_,rfl,au (rfl),?_⟩;exact⟨rfl,by rw[MP];exact cX.aD cL hH⟩
 ·rw[if_neg h0];refine ab.skip<|qq<|qj fun K hK=>qm ?_;refine qe hK<|ab.ret ⟨rx,_,_,_,rfl,au (rfl),?_⟩;exact⟨rfl,cX.aD cL hH⟩
def fy (fr:Go.V.Fr) (k:Nat):Go.V.D:=Go.V.nth .bD fr.loc k
noncomputable def lJ (l:List Rg):List Rg:=@dite _ (∃a,gg l a) (Classical.propDecidable _) (fun h=>Classical.choose h) (fun _=>[])
theorem Ey {l a:List Rg} (h:gg l a):lJ l=a:=by
 have hx:∃a,gg l a:=⟨a,h⟩
 unfold lJ;rw[dif_pos hx];exact(Classical.choose_spec hx).unique h
theorem nG {s0:St} {x:D} {l:List Rg} (hx:V.Rows s0 2 x (l.map ax)) (hl:l.length≤1048576):Ev pv 146 [x] s0 (bS (lJ l)) s0∧(lJ l).length≤2*l.length∧gg l (lJ l):=by
 obtain⟨_,aL,all,rfl,hperm,mF⟩:=Bf hx (by omega);have hM:gg l (all.foldl ec []).reverse:=rW (fun x=>hperm.mem_iff) mF;have hlen:=hperm.length_eq;have nT:=jz l;have jI:=sc all;rw[Ey hM];exact⟨aL,by rw[List.length_reverse];omega,hM⟩
theorem jX (l:List Rg):dr (bS l) 2 (l.map ax):=by
 rw[←gW];refine dr.frozen ?_ ?_
 ·intro e he;obtain⟨x,_,rfl⟩:=List.mem_map.1 he;rfl
 ·intro e he d hd;obtain⟨x,_,rfl⟩:=List.mem_map.1 he;simp only[ax,List.mem_cons,List.not_mem_nil,or_false] at hd
  rcases hd with rfl|rfl<;>rfl
theorem vI {r:Int} {l a:List Rg} (h0:0≤r) (h1:r<55296) (hr:dR l r) (h:gg l a):a≠[]:=by
 rintro rfl;have:=(h.2 r).2 ⟨by unfold iw;omega,hr⟩;obtain⟨x,hx,_⟩:=this;cases hx
theorem xM {r:Int} (h0:0≤r) (h1:r<55296) {a:List Rg} (h:gg [(r,r)] a):a≠[]:=by
 rintro rfl;have:=(h.2 r).2 ⟨?_,?_⟩
 ·obtain⟨x,hx,_⟩:=this;cases hx
 ·unfold iw;omega
 ·exact⟨(r,r),List.mem_cons_self ..,by simp⟩
theorem jV {s0:St} (r:Int):Ev pv 171 [.int .i32 r] s0 (bS (lJ [(r,r)])) s0:=by
 refine Ev.h_ rfl VH rfl rfl rfl ?_;dsimp only[u3,u4,List.length,Nat.reduceSub,Nat.reduceAdd,w1,w2];obtain⟨bt,hF,hH⟩:=ri s0;generalize ah .ro s0=S at*;refine qq<|qj fun K hK=>qm ?_;refine qe hK<|qq<|qj fun K hK=>qm ?_;refine qm ?_;refine aa.gK (qs:=[(0,_),(1,_)]) rfl rfl rfl rfl ⟨rfl,(ev rfl),(by rfl),rfl,(ev rfl),(by rfl),trivial⟩ (by intro q hq;simp only[List.mem_cons,List.not_mem_nil,or_false] at hq;rcases hq with rfl|rfl<;>exact⟨rfl,by exact Nat.le_of_ble_eq_true rfl⟩) (by show List.foldl _ [_,_] _=_;dsimp only[List.foldl_cons,List.foldl_nil,u2,u1]<;>rfl) (ae rfl _) ?_;refine qh (s:=2) (vs:=[_]) hH fun k6 st F9 hH=>?_;obtain⟨aL,hl,_⟩:=nG (l:=[(r,r)]) (hH.rows av) (by simp);refine qv aL ?_;refine qm ?_;refine qe hK<|ab.ret ⟨rx,_,rfl,rl bt hH (rfl)⟩
theorem Ei {s0:St} {x:D} {l:List Rg} (hx:V.Rows s0 2 x (l.map ax)) (hl:l.length≤131072):∃d,Ev pv 182 [x] s0 d s0∧∃a:List Rg,d=bS a∧a.length≤4*l.length+2:=by
 refine Ev.Db rfl VD rfl rfl rfl ?_;dsimp only[u3,u4,List.length,Nat.reduceSub,Nat.reduceAdd,w1,w2];obtain⟨bt,hF,hH⟩:=ri s0;generalize ah .ro s0=S at*;have hx:=Arg.of hx bt;refine qq<|qj fun K hK=>qm ?_;refine qe hK<|qq<|qj fun K hK=>qm ?_;refine qe hK<|qq<|qj fun K hK=>qm ?_;refine qe hK ?_;obtain⟨aL,zX,_⟩:=nG (hx.rows hH) (by omega);have hla:=(jX (lJ l)).arg s0.bs.length S;generalize lJ l=m at*;refine qq<|qq<|qj fun K hK=>qm ?_;refine qv (aL) ?_;refine qn ?_;simp only[List.length_map];refine qm ?_;refine qe hK ?_;have hH:=hH.ew 2;refine ab.block<|ab.loop (fun mm fr st=>∃(i:Nat) (n:Int) (o:D) (out:List Rg),fr.clean=⟨11,[fy fr 0,fy fr 1,fy fr 2,o,.int .i32 n,fy fr 5,fy fr 6,fy fr 7,bS m,.int .i64 (m.length:Nat),.int .i64 (i:Nat)],[]⟩∧Has s0.bs.length S st [.aO o 2 (out.map ax)]∧(i+mm=m.length)∧(out.length=i)) (m.length) ?_ ?_
 ·exact⟨0,0,.nul,[],rfl,hH,by omega,rfl⟩
 rintro mm fr st ⟨i,n,o,out,hfr,hH,hi,ho⟩;rw[hfr];clear hfr;generalize fy fr=ee;clear fr;refine qq<|qj fun K hK=>qg ?_;refine qe hK<|qq ?_;refine ab.cond (by rfl) (fun h1=>?_) (fun h1=>?_)<;>try simp only[decide_eq_true_eq,decide_eq_false_iff_not] at h1
 ·refine ab.skip ?_
  obtain⟨q,hq⟩:∃q,m[i]?=some q:=⟨m[i]'(by omega),List.getElem?_eq_getElem _⟩
  have hr:=dZ hq;refine qq<|ab.block<|qq<|qj fun K hK=>qr fun p12 UO=>?_;refine aa.cA rfl (ev rfl) (by assumption) rfl (ae rfl _) ?_;refine qa hH fun k6 st F9 hH=>?_;refine qS hH av fun st hH=>?_;dsimp only[u2,u1,u3,u4,setMany,u5,u6,D.cells,Nat.reduceAdd,ax] at hH;refine qe hK<|qq<|qj fun K hK=>qm ?_;refine qm ?_;refine qp (o:=0) ?_;refine ql hH av ?_;refine aa.ji (z:=cy .i32 (q.1-1)) rfl (ev rfl) (ev rfl) rfl (ae rfl _) ?_;refine aa.gK (qs:=[(0,_),(1,_)]) rfl rfl rfl rfl ⟨rfl,(ev rfl),(by rfl),rfl,(ev rfl),(by rfl),trivial⟩ (by intro q hq;simp only[List.mem_cons,List.not_mem_nil,or_false] at hq;rcases hq with rfl|rfl<;>exact⟨rfl,by exact Nat.le_of_ble_eq_true rfl⟩) (by show List.foldl _ [_,_] _=_;dsimp only[List.foldl_cons,List.foldl_nil,u2,u1]<;>rfl) (ae rfl _) ?_;refine qh (s:=2) (vs:=[_]) hH fun k20 st YK hH=>?_;refine aa.bL (s:=2) hH rfl (ev rfl) (ev rfl) (by exact dF) (by exact hH.rows (by exact av)) rfl rfl rfl rfl rfl rfl rfl ⟨(Nat.le_of_ble_eq_true rfl),(Nat.le_of_ble_eq_true rfl)⟩ (fun _=>(ae rfl _)) (by simp only[List.length_cons,List.length_nil,List.length_map]<;>omega) (by exact .inl hF) (fun x21 st hH=>?_);dsimp only[u2,u1,u3,u4,setMany,u5,u6,D.cells,Nat.reduceAdd,ax] at hH;refine qm ?_;refine qe hK<|qj fun K hK=>qp (o:=1) ?_;refine ql hH bh ?_;refine aa.lZ (z:=cy .i32 (q.2+1)) rfl (ev rfl) (ev rfl) rfl (ae rfl _) ?_;refine qm ?_;refine qe hK<|qj fun K hK=>qA ?_;refine qm ?_;refine qe hK ?_;exact⟨mm-1,by omega,⟨i+1,_,_,out++[(n,cy .i32 (q.1-1))],rfl,(by rw[List.map_append];exact hH.drop 2),by omega,by simp[ho]⟩⟩
 ·refine ab.exit<|qq<|qj fun K hK=>qm ?_;refine qm ?_;refine aa.gK (qs:=[(0,_),(1,_)]) rfl rfl rfl rfl ⟨rfl,(ev rfl),(by rfl),rfl,(ev rfl),(by rfl),trivial⟩ (by intro q hq;simp only[List.mem_cons,List.not_mem_nil,or_false] at hq;rcases hq with rfl|rfl<;>exact⟨rfl,by exact Nat.le_of_ble_eq_true rfl⟩) (by show List.foldl _ [_,_] _=_;dsimp only[List.foldl_cons,List.foldl_nil,u2,u1]<;>rfl) (ae rfl _) ?_;refine qh (s:=2) (vs:=[_]) hH fun k29 st YG hH=>?_;refine aa.bL (s:=2) hH rfl (ev rfl) (ev rfl) (by exact bh) (by exact hH.rows (by exact av)) rfl rfl rfl rfl rfl rfl rfl ⟨(Nat.le_of_ble_eq_true rfl),(Nat.le_of_ble_eq_true rfl)⟩ (fun _=>(ae rfl _)) (by simp only[List.length_cons,List.length_nil,List.length_map]<;>omega) (by exact .inl hF) (fun x30 st hH=>?_);dsimp only[u2,u1,u3,u4,setMany,u5,u6,D.cells,Nat.reduceAdd,ax] at hH;obtain⟨aL,o7,_⟩:=nG (l:=out++[(n,1114111)]) (by rw[List.map_append];exact hH.rows bh) (by simp;omega);refine qv aL ?_;refine qm ?_;refine qe hK<|ab.ret ⟨rx,_,_,rfl,rl bt hH (rfl),?_⟩;exact⟨_,rfl,by simp at o7;omega⟩
theorem SF {s0:St}:∃d,Ev pv 170 [] s0 d s0∧∃a:List Rg,d=bS a∧a.length≤6:=by
 refine Ev.Db rfl VI rfl rfl rfl ?_;dsimp only[u3,u4,List.length,Nat.reduceSub,Nat.reduceAdd,w1,w2];obtain⟨bt,hF,hH⟩:=ri s0;generalize ah .ro s0=S at*;refine qq<|qj fun K hK=>qm ?_;refine qe hK<|qq<|qj fun K hK=>?_;refine aa.gK (qs:=[(0,_),(1,_)]) rfl rfl rfl rfl ⟨rfl,(ev rfl),(by rfl),rfl,(ev rfl),(by rfl),trivial⟩ (by intro q hq;simp only[List.mem_cons,List.not_mem_nil,or_false] at hq;rcases hq with rfl|rfl<;>exact⟨rfl,by exact Nat.le_of_ble_eq_true rfl⟩) (by show List.foldl _ [_,_] _=_;dsimp only[List.foldl_cons,List.foldl_nil,u2,u1]<;>rfl) (ae rfl _) ?_;refine qh (s:=2) (vs:=[_]) hH fun k2 st hk2 hH=>?_;obtain⟨_,aL,a,rfl,hl⟩:=Ei (l:=[(10,10)]) (hH.rows av) (by simp);refine qv aL ?_;refine qm ?_;refine qe hK<|ab.ret ⟨rx,_,_,rfl,rl bt hH (rfl),?_⟩;exact⟨a,rfl,hl⟩
theorem L9 {s0:St} (r:Int):Ev pv 183 [.int .i32 r] s0 (.bool (decide (33≤r∧r≤47∨58≤r∧r≤64∨91≤r∧r≤96∨123≤r∧r≤126))) s0:=by
 refine Ev.h_ rfl VC rfl rfl rfl ?_;dsimp only[u3,u4,List.length,Nat.reduceSub,Nat.reduceAdd,w1,w2];obtain⟨bt,hF,hH⟩:=ri s0;generalize ah .ro s0=S at*;refine qq<|qj fun K hK=>qm ?_;refine qe hK<|qq<|ab.lV 2 (.bool (decide (33≤r∧r≤47∨58≤r∧r≤64∨91≤r∧r≤96∨123≤r∧r≤126))) [] ?_ (fun ff tmp=>?_)
 ·refine qm ?_;refine qg ?_;refine qm ?_;refine aa.two 5 rfl (fun aZ=>?_) (fun aZ=>?_)
  ·refine qm ?_ (hg:=wi aZ);refine qg ?_ (hg:=wi aZ);refine qt aZ ?_;refine qm ?_;refine aa.two 9 rfl (fun cM=>?_) (fun cM=>?_)
   ·refine qs ?_ (hg:=wn cM);refine qs ?_ (hg:=wn cM);refine qs ?_ (hg:=wn cM);refine qs ?_;refine qs ?_;refine qs ?_ (hg:=wn cM);refine qt cM ?_;refine qm ?_;refine qs ?_;refine qs ?_;refine qs ?_;refine qs ?_;refine qs ?_;refine qs ?_;refine qg ?_;refine qm ?_;refine qs ?_;refine qs ?_;refine qs ?_;refine qs ?_;refine qs ?_;refine qs ?_;refine qg ?_;refine qm ?_;refine aa.nil (bp ?_);dsimp only[aB,List.foldl,nth,u2,u1];dsimp only[Fr.aj,Fr.put,Fr.clean,Fr.ev,Fr.get,nth,V.look,u1,u2,v1,v2,v3,v4,v5,v6,v7,List.length,u3,u4,Nat.reduceSub,Nat.reduceAdd,List.map]
    all_goals(simp[aZ,cM];done)
   ·refine qm ?_ (hg:=wi cM);refine qg ?_ (hg:=wi cM);refine qm ?_ (hg:=wi cM);refine aa.two 12 rfl (fun bV=>?_) (fun bV=>?_)
    ·refine qm ?_ (hg:=wi bV);refine qg ?_ (hg:=wi bV);refine aa.dI (aq rfl rfl rfl cM) rfl bV (ae rfl _) ?_;refine qu cM ?_;refine qm ?_;refine aa.two 17 rfl (fun cZ=>?_) (fun cZ=>?_)
     ·refine qs ?_ (hg:=wn cZ);refine qs ?_ (hg:=wn cZ);refine qs ?_ (hg:=wn cZ);refine qs ?_;refine qs ?_;refine qs ?_ (hg:=wn cZ);refine qt cZ ?_;refine qm ?_;refine qs ?_;refine qs ?_;refine qs ?_;refine qs ?_;refine qs ?_;refine qs ?_;refine qg ?_;refine qm ?_;refine aa.nil (bp ?_);dsimp only[aB,List.foldl,nth,u2,u1];dsimp only[Fr.aj,Fr.put,Fr.clean,Fr.ev,Fr.get,nth,V.look,u1,u2,v1,v2,v3,v4,v5,v6,v7,List.length,u3,u4,Nat.reduceSub,Nat.reduceAdd,List.map]
      all_goals(simp[aZ,cM,bV,cZ];done)
     ·refine qm ?_ (hg:=wi cZ);refine qg ?_ (hg:=wi cZ);refine qm ?_ (hg:=wi cZ);refine aa.two 20 rfl (fun aW=>?_) (fun aW=>?_)
      ·refine qm ?_ (hg:=wi aW);refine qg ?_ (hg:=wi aW);refine aa.dI (aq rfl rfl rfl cZ) rfl aW (ae rfl _) ?_;refine qu cZ ?_;refine qm ?_;refine aa.two 25 rfl (fun bQ=>?_) (fun bQ=>?_)
       ·refine qs ?_ (hg:=wn bQ);refine qs ?_ (hg:=wn bQ);refine qs ?_ (hg:=wn bQ);refine qs ?_;refine qs ?_;refine qs ?_ (hg:=wn bQ);refine qt bQ ?_;refine qm ?_;refine aa.nil (bp ?_);dsimp only[aB,List.foldl,nth,u2,u1];dsimp only[Fr.aj,Fr.put,Fr.clean,Fr.ev,Fr.get,nth,V.look,u1,u2,v1,v2,v3,v4,v5,v6,v7,List.length,u3,u4,Nat.reduceSub,Nat.reduceAdd,List.map]
        all_goals(simp[aZ,cM,bV,cZ,aW,bQ];done)
       ·refine qm ?_ (hg:=wi bQ);refine qg ?_ (hg:=wi bQ);refine qm ?_ (hg:=wi bQ);refine aa.two 28 rfl (fun bK=>?_) (fun bK=>?_)
        ·refine qm ?_ (hg:=wi bK);refine qg ?_ (hg:=wi bK);refine aa.dI (aq rfl rfl rfl bQ) rfl bK (ae rfl _) ?_;refine qu bQ ?_;refine qm ?_;refine aa.nil (bp ?_);dsimp only[aB,List.foldl,nth,u2,u1];dsimp only[Fr.aj,Fr.put,Fr.clean,Fr.ev,Fr.get,nth,V.look,u1,u2,v1,v2,v3,v4,v5,v6,v7,List.length,u3,u4,Nat.reduceSub,Nat.reduceAdd,List.map]
         all_goals(simp[aZ,cM,bV,cZ,aW,bQ,bK];done)
        ·refine qs ?_ (hg:=wn bK);refine qs ?_ (hg:=wn bK);refine aa.de (aq rfl rfl rfl bQ) rfl bK (ae rfl _) ?_;refine qu bQ ?_;refine qm ?_;refine aa.nil (bp ?_);dsimp only[aB,List.foldl,nth,u2,u1];dsimp only[Fr.aj,Fr.put,Fr.clean,Fr.ev,Fr.get,nth,V.look,u1,u2,v1,v2,v3,v4,v5,v6,v7,List.length,u3,u4,Nat.reduceSub,Nat.reduceAdd,List.map]
         all_goals(simp[aZ,cM,bV,cZ,aW,bQ,bK];done)
      ·refine qs ?_ (hg:=wn aW);refine qs ?_ (hg:=wn aW);refine aa.de (aq rfl rfl rfl cZ) rfl aW (ae rfl _) ?_;refine qu cZ ?_;refine qm ?_;refine qm ?_;refine qg ?_;refine qm ?_;refine aa.two 28 rfl (fun bK=>?_) (fun bK=>?_)
       ·refine qm ?_ (hg:=wi bK);refine qg ?_ (hg:=wi bK);refine qt bK ?_;refine qg ?_;refine qm ?_;refine aa.nil (bp ?_);dsimp only[aB,List.foldl,nth,u2,u1];dsimp only[Fr.aj,Fr.put,Fr.clean,Fr.ev,Fr.get,nth,V.look,u1,u2,v1,v2,v3,v4,v5,v6,v7,List.length,u3,u4,Nat.reduceSub,Nat.reduceAdd,List.map]
        all_goals(simp[aZ,cM,bV,cZ,aW,bK];done)
       ·refine qs ?_ (hg:=wn bK);refine qs ?_ (hg:=wn bK);refine qu bK ?_;refine qg ?_;refine qm ?_;refine aa.nil (bp ?_);dsimp only[aB,List.foldl,nth,u2,u1];dsimp only[Fr.aj,Fr.put,Fr.clean,Fr.ev,Fr.get,nth,V.look,u1,u2,v1,v2,v3,v4,v5,v6,v7,List.length,u3,u4,Nat.reduceSub,Nat.reduceAdd,List.map]
        all_goals(simp[aZ,cM,bV,cZ,aW,bK];done)
    ·refine qs ?_ (hg:=wn bV);refine qs ?_ (hg:=wn bV);refine aa.de (aq rfl rfl rfl cM) rfl bV (ae rfl _) ?_;refine qu cM ?_;refine qm ?_;refine qm ?_;refine qg ?_;refine qm ?_;refine aa.two 20 rfl (fun aW=>?_) (fun aW=>?_)
     ·refine qm ?_ (hg:=wi aW);refine qg ?_ (hg:=wi aW);refine qt aW ?_;refine qg ?_;refine qm ?_;refine aa.two 25 rfl (fun bQ=>?_) (fun bQ=>?_)
      ·refine qs ?_ (hg:=wn bQ);refine qs ?_ (hg:=wn bQ);refine qs ?_ (hg:=wn bQ);refine qs ?_;refine qs ?_;refine qs ?_ (hg:=wn bQ);refine qt bQ ?_;refine qm ?_;refine aa.nil (bp ?_);dsimp only[aB,List.foldl,nth,u2,u1];dsimp only[Fr.aj,Fr.put,Fr.clean,Fr.ev,Fr.get,nth,V.look,u1,u2,v1,v2,v3,v4,v5,v6,v7,List.length,u3,u4,Nat.reduceSub,Nat.reduceAdd,List.map]
       all_goals(simp[aZ,cM,bV,aW,bQ];done)
      ·refine qm ?_ (hg:=wi bQ);refine qg ?_ (hg:=wi bQ);refine qm ?_ (hg:=wi bQ);refine aa.two 28 rfl (fun bK=>?_) (fun bK=>?_)
       ·refine qm ?_ (hg:=wi bK);refine qg ?_ (hg:=wi bK);refine aa.dI (aq rfl rfl rfl bQ) rfl bK (ae rfl _) ?_;refine qu bQ ?_;refine qm ?_;refine aa.nil (bp ?_);dsimp only[aB,List.foldl,nth,u2,u1];dsimp only[Fr.aj,Fr.put,Fr.clean,Fr.ev,Fr.get,nth,V.look,u1,u2,v1,v2,v3,v4,v5,v6,v7,List.length,u3,u4,Nat.reduceSub,Nat.reduceAdd,List.map]
        all_goals(simp[aZ,cM,bV,aW,bQ,bK];done)
       ·refine qs ?_ (hg:=wn bK);refine qs ?_ (hg:=wn bK);refine aa.de (aq rfl rfl rfl bQ) rfl bK (ae rfl _) ?_;refine qu bQ ?_;refine qm ?_;refine aa.nil (bp ?_);dsimp only[aB,List.foldl,nth,u2,u1];dsimp only[Fr.aj,Fr.put,Fr.clean,Fr.ev,Fr.get,nth,V.look,u1,u2,v1,v2,v3,v4,v5,v6,v7,List.length,u3,u4,Nat.reduceSub,Nat.reduceAdd,List.map]
        all_goals(simp[aZ,cM,bV,aW,bQ,bK];done)
     ·refine qs ?_ (hg:=wn aW);refine qs ?_ (hg:=wn aW);refine qu aW ?_;refine qg ?_;refine qm ?_;refine qm ?_;refine qg ?_;refine qm ?_;refine aa.two 28 rfl (fun bK=>?_) (fun bK=>?_)
      ·refine qm ?_ (hg:=wi bK);refine qg ?_ (hg:=wi bK);refine qt bK ?_;refine qg ?_;refine qm ?_;refine aa.nil (bp ?_);dsimp only[aB,List.foldl,nth,u2,u1];dsimp only[Fr.aj,Fr.put,Fr.clean,Fr.ev,Fr.get,nth,V.look,u1,u2,v1,v2,v3,v4,v5,v6,v7,List.length,u3,u4,Nat.reduceSub,Nat.reduceAdd,List.map]
       all_goals(simp[aZ,cM,bV,aW,bK];done)
      ·refine qs ?_ (hg:=wn bK);refine qs ?_ (hg:=wn bK);refine qu bK ?_;refine qg ?_;refine qm ?_;refine aa.nil (bp ?_);dsimp only[aB,List.foldl,nth,u2,u1];dsimp only[Fr.aj,Fr.put,Fr.clean,Fr.ev,Fr.get,nth,V.look,u1,u2,v1,v2,v3,v4,v5,v6,v7,List.length,u3,u4,Nat.reduceSub,Nat.reduceAdd,List.map]
       all_goals(simp[aZ,cM,bV,aW,bK];done)
  ·refine qs ?_ (hg:=wn aZ);refine qs ?_ (hg:=wn aZ);refine qu aZ ?_;refine qm ?_;refine qm ?_;refine qg ?_;refine qm ?_;refine aa.two 12 rfl (fun bV=>?_) (fun bV=>?_)
   ·refine qm ?_ (hg:=wi bV);refine qg ?_ (hg:=wi bV);refine qt bV ?_;refine qg ?_;refine qm ?_;refine aa.two 17 rfl (fun cZ=>?_) (fun cZ=>?_)
    ·refine qs ?_ (hg:=wn cZ);refine qs ?_ (hg:=wn cZ);refine qs ?_ (hg:=wn cZ);refine qs ?_;refine qs ?_;refine qs ?_ (hg:=wn cZ);refine qt cZ ?_;refine qm ?_;refine qs ?_;refine qs ?_;refine qs ?_;refine qs ?_;refine qs ?_;refine qs ?_;refine qg ?_;refine qm ?_;refine aa.nil (bp ?_);dsimp only[aB,List.foldl,nth,u2,u1];dsimp only[Fr.aj,Fr.put,Fr.clean,Fr.ev,Fr.get,nth,V.look,u1,u2,v1,v2,v3,v4,v5,v6,v7,List.length,u3,u4,Nat.reduceSub,Nat.reduceAdd,List.map]
     all_goals(simp[aZ,bV,cZ];done)
    ·refine qm ?_ (hg:=wi cZ);refine qg ?_ (hg:=wi cZ);refine qm ?_ (hg:=wi cZ);refine aa.two 20 rfl (fun aW=>?_) (fun aW=>?_)
     ·refine qm ?_ (hg:=wi aW);refine qg ?_ (hg:=wi aW);refine aa.dI (aq rfl rfl rfl cZ) rfl aW (ae rfl _) ?_;refine qu cZ ?_;refine qm ?_;refine aa.two 25 rfl (fun bQ=>?_) (fun bQ=>?_)
      ·refine qs ?_ (hg:=wn bQ);refine qs ?_ (hg:=wn bQ);refine qs ?_ (hg:=wn bQ);refine qs ?_;refine qs ?_;refine qs ?_ (hg:=wn bQ);refine qt bQ ?_;refine qm ?_;refine aa.nil (bp ?_);dsimp only[aB,List.foldl,nth,u2,u1];dsimp only[Fr.aj,Fr.put,Fr.clean,Fr.ev,Fr.get,nth,V.look,u1,u2,v1,v2,v3,v4,v5,v6,v7,List.length,u3,u4,Nat.reduceSub,Nat.reduceAdd,List.map]
       all_goals(simp[aZ,bV,cZ,aW,bQ];done)
      ·refine qm ?_ (hg:=wi bQ);refine qg ?_ (hg:=wi bQ);refine qm ?_ (hg:=wi bQ);refine aa.two 28 rfl (fun bK=>?_) (fun bK=>?_)
       ·refine qm ?_ (hg:=wi bK);refine qg ?_ (hg:=wi bK);refine aa.dI (aq rfl rfl rfl bQ) rfl bK (ae rfl _) ?_;refine qu bQ ?_;refine qm ?_;refine aa.nil (bp ?_);dsimp only[aB,List.foldl,nth,u2,u1];dsimp only[Fr.aj,Fr.put,Fr.clean,Fr.ev,Fr.get,nth,V.look,u1,u2,v1,v2,v3,v4,v5,v6,v7,List.length,u3,u4,Nat.reduceSub,Nat.reduceAdd,List.map]
        all_goals(simp[aZ,bV,cZ,aW,bQ,bK];done)
       ·refine qs ?_ (hg:=wn bK);refine qs ?_ (hg:=wn bK);refine aa.de (aq rfl rfl rfl bQ) rfl bK (ae rfl _) ?_;refine qu bQ ?_;refine qm ?_;refine aa.nil (bp ?_);dsimp only[aB,List.foldl,nth,u2,u1];dsimp only[Fr.aj,Fr.put,Fr.clean,Fr.ev,Fr.get,nth,V.look,u1,u2,v1,v2,v3,v4,v5,v6,v7,List.length,u3,u4,Nat.reduceSub,Nat.reduceAdd,List.map]
        all_goals(simp[aZ,bV,cZ,aW,bQ,bK];done)
     ·refine qs ?_ (hg:=wn aW);refine qs ?_ (hg:=wn aW);refine aa.de (aq rfl rfl rfl cZ) rfl aW (ae rfl _) ?_;refine qu cZ ?_;refine qm ?_;refine qm ?_;refine qg ?_;refine qm ?_;refine aa.two 28 rfl (fun bK=>?_) (fun bK=>?_)
      ·refine qm ?_ (hg:=wi bK);refine qg ?_ (hg:=wi bK);refine qt bK ?_;refine qg ?_;refine qm ?_;refine aa.nil (bp ?_);dsimp only[aB,List.foldl,nth,u2,u1];dsimp only[Fr.aj,Fr.put,Fr.clean,Fr.ev,Fr.get,nth,V.look,u1,u2,v1,v2,v3,v4,v5,v6,v7,List.length,u3,u4,Nat.reduceSub,Nat.reduceAdd,List.map]
       all_goals(simp[aZ,bV,cZ,aW,bK];done)
      ·refine qs ?_ (hg:=wn bK);refine qs ?_ (hg:=wn bK);refine qu bK ?_;refine qg ?_;refine qm ?_;refine aa.nil (bp ?_);dsimp only[aB,List.foldl,nth,u2,u1];dsimp only[Fr.aj,Fr.put,Fr.clean,Fr.ev,Fr.get,nth,V.look,u1,u2,v1,v2,v3,v4,v5,v6,v7,List.length,u3,u4,Nat.reduceSub,Nat.reduceAdd,List.map]
       all_goals(simp[aZ,bV,cZ,aW,bK];done)
   ·refine qs ?_ (hg:=wn bV);refine qs ?_ (hg:=wn bV);refine qu bV ?_;refine qg ?_;refine qm ?_;refine qm ?_;refine qg ?_;refine qm ?_;refine aa.two 20 rfl (fun aW=>?_) (fun aW=>?_)
    ·refine qm ?_ (hg:=wi aW);refine qg ?_ (hg:=wi aW);refine qt aW ?_;refine qg ?_;refine qm ?_;refine aa.two 25 rfl (fun bQ=>?_) (fun bQ=>?_)
     ·refine qs ?_ (hg:=wn bQ);refine qs ?_ (hg:=wn bQ);refine qs ?_ (hg:=wn bQ);refine qs ?_;refine qs ?_;refine qs ?_ (hg:=wn bQ);refine qt bQ ?_;refine qm ?_;refine aa.nil (bp ?_);dsimp only[aB,List.foldl,nth,u2,u1];dsimp only[Fr.aj,Fr.put,Fr.clean,Fr.ev,Fr.get,nth,V.look,u1,u2,v1,v2,v3,v4,v5,v6,v7,List.length,u3,u4,Nat.reduceSub,Nat.reduceAdd,List.map]
      all_goals(simp[aZ,bV,aW,bQ];done)
     ·refine qm ?_ (hg:=wi bQ);refine qg ?_ (hg:=wi bQ);refine qm ?_ (hg:=wi bQ);refine aa.two 28 rfl (fun bK=>?_) (fun bK=>?_)
      ·refine qm ?_ (hg:=wi bK);refine qg ?_ (hg:=wi bK);refine aa.dI (aq rfl rfl rfl bQ) rfl bK (ae rfl _) ?_;refine qu bQ ?_;refine qm ?_;refine aa.nil (bp ?_);dsimp only[aB,List.foldl,nth,u2,u1];dsimp only[Fr.aj,Fr.put,Fr.clean,Fr.ev,Fr.get,nth,V.look,u1,u2,v1,v2,v3,v4,v5,v6,v7,List.length,u3,u4,Nat.reduceSub,Nat.reduceAdd,List.map]
       all_goals(simp[aZ,bV,aW,bQ,bK];done)
      ·refine qs ?_ (hg:=wn bK);refine qs ?_ (hg:=wn bK);refine aa.de (aq rfl rfl rfl bQ) rfl bK (ae rfl _) ?_;refine qu bQ ?_;refine qm ?_;refine aa.nil (bp ?_);dsimp only[aB,List.foldl,nth,u2,u1];dsimp only[Fr.aj,Fr.put,Fr.clean,Fr.ev,Fr.get,nth,V.look,u1,u2,v1,v2,v3,v4,v5,v6,v7,List.length,u3,u4,Nat.reduceSub,Nat.reduceAdd,List.map]
       all_goals(simp[aZ,bV,aW,bQ,bK];done)
    ·refine qs ?_ (hg:=wn aW);refine qs ?_ (hg:=wn aW);refine qu aW ?_;refine qg ?_;refine qm ?_;refine qm ?_;refine qg ?_;refine qm ?_;refine aa.two 28 rfl (fun bK=>?_) (fun bK=>?_)
     ·refine qm ?_ (hg:=wi bK);refine qg ?_ (hg:=wi bK);refine qt bK ?_;refine qg ?_;refine qm ?_;refine aa.nil (bp ?_);dsimp only[aB,List.foldl,nth,u2,u1];dsimp only[Fr.aj,Fr.put,Fr.clean,Fr.ev,Fr.get,nth,V.look,u1,u2,v1,v2,v3,v4,v5,v6,v7,List.length,u3,u4,Nat.reduceSub,Nat.reduceAdd,List.map]
      all_goals(simp[aZ,bV,aW,bK];done)
     ·refine qs ?_ (hg:=wn bK);refine qs ?_ (hg:=wn bK);refine qu bK ?_;refine qg ?_;refine qm ?_;refine aa.nil (bp ?_);dsimp only[aB,List.foldl,nth,u2,u1];dsimp only[Fr.aj,Fr.put,Fr.clean,Fr.ev,Fr.get,nth,V.look,u1,u2,v1,v2,v3,v4,v5,v6,v7,List.length,u3,u4,Nat.reduceSub,Nat.reduceAdd,List.map]
      all_goals(simp[aZ,bV,aW,bK];done)
 dsimp only[aB,List.foldl,nth,u2,u1];refine ab.ret ⟨rx,_,rfl,rl bt hH (rfl)⟩
theorem Mb {s0:St} (a b:List UInt8):∃d,Ev pv 173 [.str a,.str b] s0 d s0∧∃v:Bool,d=.bool v:=by
 refine Ev.Db rfl VG rfl rfl rfl ?_;dsimp only[u3,u4,List.length,Nat.reduceSub,Nat.reduceAdd,w1,w2];obtain⟨bt,hF,hH⟩:=ri s0;generalize ah .ro s0=S at*;refine qq<|qj fun K hK=>qm ?_;refine qe hK<|qq<|ab.lV 4 (.bool (decide ((a.length:Int)<b.length)||(((a.length:Int)==b.length) &&Op.bytesLess a b))) [] ?_ (fun ff tmp=>?_)
 ·refine qm ?_;refine aa.y8 rfl rfl rfl (ae rfl _) ?_;refine qm ?_;refine aa.y8 rfl rfl rfl (ae rfl _) ?_;refine qg ?_;refine qm ?_;refine aa.two 10 rfl (fun bk=>?_) (fun bk=>?_)
  ·refine qs ?_ (hg:=wn bk);refine qs ?_ (hg:=wn bk);refine qs ?_ (hg:=wn bk);refine qs ?_ (hg:=wn bk);refine qs ?_ (hg:=wn bk);refine qs ?_ (hg:=wn bk);refine qs ?_;refine qs ?_;refine qs ?_;refine qs ?_ (hg:=wn bk);refine qt bk ?_;refine qm ?_;refine aa.nil (bp ?_);dsimp only[aB,List.foldl,nth,u2,u1];dsimp only[Fr.aj,Fr.put,Fr.clean,Fr.ev,Fr.get,nth,V.look,u1,u2,v1,v2,v3,v4,v5,v6,v7,List.length,u3,u4,Nat.reduceSub,Nat.reduceAdd,List.map]
   all_goals(simp_all;done)
  ·refine qm ?_ (hg:=wi bk);refine aa.y8 (aq rfl rfl rfl bk) rfl rfl (ae rfl _) ?_;refine qm ?_ (hg:=wi bk);refine aa.y8 (aq rfl rfl rfl bk) rfl rfl (ae rfl _) ?_;refine qg ?_ (hg:=wi bk);refine qm ?_ (hg:=wi bk);refine aa.two 16 rfl (fun aT=>?_) (fun aT=>?_)
   ·refine qm ?_ (hg:=wi aT);refine qm ?_ (hg:=wi aT);refine qg ?_ (hg:=wi aT);refine aa.dI (aq rfl rfl rfl bk) rfl aT (ae rfl _) ?_;refine qu bk ?_;refine qm ?_;refine aa.nil (bp ?_);dsimp only[aB,List.foldl,nth,u2,u1];dsimp only[Fr.aj,Fr.put,Fr.clean,Fr.ev,Fr.get,nth,V.look,u1,u2,v1,v2,v3,v4,v5,v6,v7,List.length,u3,u4,Nat.reduceSub,Nat.reduceAdd,List.map]
    all_goals(simp_all;done)
   ·refine qs ?_ (hg:=wn aT);refine qs ?_ (hg:=wn aT);refine qs ?_ (hg:=wn aT);refine aa.de (aq rfl rfl rfl bk) rfl aT (ae rfl _) ?_;refine qu bk ?_;refine qm ?_;refine aa.nil (bp ?_);dsimp only[aB,List.foldl,nth,u2,u1];dsimp only[Fr.aj,Fr.put,Fr.clean,Fr.ev,Fr.get,nth,V.look,u1,u2,v1,v2,v3,v4,v5,v6,v7,List.length,u3,u4,Nat.reduceSub,Nat.reduceAdd,List.map]
    all_goals(simp_all;done)
 dsimp only[aB,List.foldl,nth,u2,u1];refine ab.ret ⟨rx,_,_,rfl,rl bt hH (rfl),?_⟩;exact⟨_,rfl⟩
theorem nu {s0:St} (b:List UInt8) (hb:b.length≤1048576):∃d,Ev pv 174 [.str b] s0 d s0∧∃(n:Int) (v:Bool),d=.tup [.int .i64 n,.bool v]:=by
 refine Ev.Db rfl VF rfl rfl rfl ?_;dsimp only[u3,u4,List.length,Nat.reduceSub,Nat.reduceAdd,w1,w2];obtain⟨bt,hF,hH⟩:=ri s0;generalize ah .ro s0=S at*;refine qq<|qj fun K hK=>qm ?_;refine qm ?_;refine qe hK<|qq<|qq<|qj fun K hK=>qm ?_;refine aa.y8 rfl rfl rfl (by dsimp only[Fr.put,u1,u2]<;>rfl) ?_;refine qg ?_;refine qe hK ?_;refine ab.cond (by rfl) (fun h0=>?_) (fun h0=>?_)<;>try simp only[decide_eq_true_eq,decide_eq_false_iff_not] at h0
 ·refine qq<|qj fun K hK=>qm ?_;refine qm ?_;refine qe hK<|ab.ret ⟨rx,_,_,rfl,rl bt hH (rfl),?_⟩;exact⟨_,_,rfl⟩
 ·refine ab.skip<|qq<|qj fun K hK=>qm ?_;refine qe hK<|qq<|qq<|qj fun K hK=>qm ?_;refine aa.y8 rfl rfl rfl (by dsimp only[Fr.put,u1,u2]<;>rfl) ?_;refine qm ?_;refine qe hK<|ab.block<|ab.loop (fun mm fr st=>∃(i:Nat) (n:Int),fr.clean=⟨12,[.str b,fy fr 1,fy fr 2,fy fr 3,.int .i64 n,fy fr 5,fy fr 6,fy fr 7,fy fr 8,fy fr 9,.int .i64 (b.length:Nat),.int .i64 (i:Nat)],[]⟩∧Has s0.bs.length S st []∧(i+mm=b.length)) (b.length) ?_ ?_
  ·exact⟨0,0,rfl,hH,by omega⟩
  rintro mm fr st ⟨i,n,hfr,hH,hi⟩;rw[hfr];clear hfr;generalize fy fr=ee;clear fr;refine qq<|qj fun K hK=>qg ?_;refine qe hK<|qq ?_;refine ab.cond (by rfl) (fun h1=>?_) (fun h1=>?_)<;>try simp only[decide_eq_true_eq,decide_eq_false_iff_not] at h1
  ·refine ab.skip ?_
   obtain⟨c,hc⟩:∃c,b[i]?=some c:=⟨b[i]'(by omega),List.getElem?_eq_getElem _⟩
   refine qq<|ab.block<|qq<|qj fun K hK=>qm ?_;refine qm ?_;refine qe hK<|qj fun K hK=>qm ?_;refine aa.zz (z:=cy .i64 (10*n)) rfl (ev rfl) (ev rfl) rfl (ae rfl _) ?_;refine qm ?_;refine qm ?_;refine aa.Xj rfl (ev rfl) (ev rfl) rfl (by assumption) (ae rfl _) ?_;refine aa.go (d:=.int .u8 (cy .u8 ((c.toNat:Nat)-48))) (st1:=_) rfl rfl rfl (ae rfl _) ?_;refine qg ?_;refine aa.lZ (z:=cy .i64 (cy .i64 (10*n)+cy .i64 (cy .u8 ((c.toNat:Nat)-48)))) rfl (ev rfl) (ev rfl) rfl (ae rfl _) ?_;refine qm ?_;refine qe hK<|qj fun K hK=>qA ?_;refine qm ?_;refine qe hK ?_;exact⟨mm-1,by omega,⟨i+1,_,rfl,hH,by omega⟩⟩
  ·refine ab.exit<|qq<|qj fun K hK=>qm ?_;refine qm ?_;refine qg ?_;refine qm ?_;refine qm ?_;refine qe hK<|ab.ret ⟨rx,_,_,rfl,rl bt hH (rfl),?_⟩;exact⟨_,_,rfl⟩
end Go.Proofs.YtbdnabmmlbiomaaGreat
