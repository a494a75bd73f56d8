/-
 Programs as they are looked at: one instruction.
-/
import Derived.Test.YtbdilgkfnacahaaGreatXGCa
import Derived.Test.YtbdilgkfnacahaaGreatXGKa
set_option maxRecDepth 100000
set_option maxHeartbeats 4000000
set_option linter.unusedSimpArgs false
set_option linter.unusedVariables false
namespace Go.Proofs.YtbdilgkfnacahaaGreat
open Go.V Go
structure bo where
 op:Int
 x:Int
 y:Int
 rd:D
 rs:List Rg
def aq (i:bo):List D:=[.int .i64 i.op,.int .i64 i.x,.int .i64 i.y,i.rd]
def bo.ok (i:bo):Prop:=dV i.rd 2 (i.rs.map av)∧i.rs.length≤1048576
def aG (n:Int):List D:=[.int .i64 n]
structure Pg where
 cd:D
 code:List bo
 sd:D
 starts:List Int
structure Pg.ok (p:Pg):Prop where
 c:dV p.cd 4 (p.code.map aq)
 s:dV p.sd 1 (p.starts.map aG)
 i:∀x∈p.code,x.ok
 cl:p.code.length≤1048576
 sl:p.starts.length≤1048576
def Pg.cs (p:Pg):List D:=[p.cd,p.sd]
def Pg.d (p:Pg):D:=.agg p.cs
theorem dv {l:List bo} {i:Nat} {q:bo} (h:l[i]?=some q):(l.map aq)[i]?=some (aq q):=by rw[List.getElem?_map,h];rfl
theorem fJ {l:List Int} {i:Nat} {q:Int} (h:l[i]?=some q):(l.map aG)[i]?=some (aG q):=by rw[List.getElem?_map,h];rfl
def fU (v n:Int):Bool:=decide (v≥0) &&decide (v<n)
noncomputable def bL (n ns pc:Nat) (i:bo):Bool:=
 if i.op=1 then i.y==0 &&(decide (((pc+1:Nat):Int)<n) &&i.x==0 &&fu i.rs)
 else i.rs.isEmpty &&
  (if i.op=2 then fU i.x n &&fU i.y n
  else i.y==0 &&
   (if i.op=3 then fU i.x n
   else if i.op=4 then decide (((pc+1:Nat):Int)<n) &&fU i.x 10
   else if i.op=5∨i.op=6 then decide (((pc+1:Nat):Int)<n) &&i.x==0
   else if i.op=7 then fU i.x ns
   else false))
theorem eA {s0:St} (v n:Int):Ev pv 50 [.int .i64 v,.int .i64 n] s0 (.bool (fU v n)) s0:=by
 refine Ev.km rfl Kg rfl rfl rfl ?_;dsimp only[u3,u4,List.length,Nat.reduceSub,Nat.reduceAdd,w1,w2];obtain⟨bE,hF,hH⟩:=ri s0;generalize aw .ro s0=S at*;refine qq ?_;refine qj fun K hK=>?_;refine qm ?_;refine qe hK ?_;refine qq ?_;refine af.lH 4 (.bool (decide (v≥0) &&decide (v<n))) [] ?_ (fun ff tmp=>?_)
 ·refine qm ?_;refine qg ?_;refine qm ?_;refine ab.two 7 rfl (fun ba=>?_) (fun ba=>?_)
  ·refine qm ?_ (hg:=wi ba);refine qm ?_ (hg:=wi ba);refine qg ?_ (hg:=wi ba);refine qt ba ?_;refine qm ?_;refine ab.nil (b8 ?_);dsimp only[aD,List.foldl,nth,u2,u1];dsimp only[Fr.aH,Fr.put,Fr.clean,Fr.ev,Fr.get,nth,V.look,u1,u2,v1,v2,v3,v4,v5,v6,v7,List.length,u3,u4,Nat.reduceSub,Nat.reduceAdd,List.map]
   all_goals(simp[ba];done)
  ·refine qs ?_ (hg:=wn ba);refine qs ?_ (hg:=wn ba);refine qs ?_ (hg:=wn ba);refine qu ba ?_;refine qm ?_;refine ab.nil (b8 ?_);dsimp only[aD,List.foldl,nth,u2,u1];dsimp only[Fr.aH,Fr.put,Fr.clean,Fr.ev,Fr.get,nth,V.look,u1,u2,v1,v2,v3,v4,v5,v6,v7,List.length,u3,u4,Nat.reduceSub,Nat.reduceAdd,List.map]
   all_goals(simp[ba];done)
 dsimp only[aD,List.foldl,nth,u2,u1];refine af.ret ⟨rx,_,rfl,rl bE hH (rfl)⟩
theorem sI {s0:St} {p:Pg} {pc:Nat} {i:bo} (hp:p.ok) (hi:p.code[pc]?=some i):Ev pv 49 [p.d,.int .i64 (pc:Nat)] s0 (.bool (bL p.code.length p.starts.length pc i)) s0:=by
 refine Ev.km rfl Kh rfl rfl rfl ?_;dsimp only[u3,u4,List.length,Nat.reduceSub,Nat.reduceAdd,w1,w2];obtain⟨bE,hF,hH⟩:=ri s0;generalize aw .ro s0=S at*;have hc:=hp.c.arg s0.bs.length S;have hs:=hp.s.arg s0.bs.length S;have tB:=hp.i i (List.mem_of_getElem? hi);have G':=tB.1.arg s0.bs.length S;have hil:=tB.2;have hcl:=hp.cl;have j2:=hp.sl;have hr:=dv hi;have hlt:=bR hi;unfold Pg.d;refine qq ?_;refine qj fun K hK=>?_;refine qb hH fun k2 st hk2 hH=>?_;dsimp only[u2,u1,u3,u4,setMany,u5,u6,D.cells,Nat.reduceAdd,Pg.cs,aq,aG] at hH;refine qm ?_;refine qe hK ?_;refine qq ?_;refine qj fun K hK=>?_;refine qp (o:=0) ?_;refine ql hH aC ?_;refine qm ?_;refine qr fun MC I'=>?_;refine ab.cx rfl (ev rfl) (by assumption) rfl (by dsimp only[Fr.put,u1,u2]<;>rfl) ?_;refine qa hH fun k5 st vN hH=>?_;refine qS hH aC fun st hH=>?_;dsimp only[u2,u1,u3,u4,setMany,u5,u6,D.cells,Nat.reduceAdd,Pg.cs,aq,aG] at hH;refine qe hK ?_;refine qq ?_;refine qj fun K hK=>?_;refine qm ?_;refine qA ?_;refine qp (o:=0) ?_;refine ql hH a6 ?_;refine qn ?_;simp only[List.length_map];refine qg ?_;refine qm ?_;refine qe hK ?_;refine qq ?_;refine qq ?_;refine af.lH 36 (.bool (((i.op !=1) &&decide ((i.rs.length:Int)>0))||((i.op !=2) &&(i.y !=0)))) [18,19,20,21,22,23,24,25,26,27,28,29,30,31,32,33,34,35] ?_ (fun ff tmp=>?_)
 ·refine qp (o:=0) ?_;refine ql hH aC ?_;refine qg ?_;refine qm ?_;refine ab.two 21 rfl (fun a_=>?_) (fun a_=>?_)
  ·refine qp (o:=3) ?_ (hg:=wi a_);refine ql hH aC ?_ (hg:=wi a_);refine qn ?_ (hg:=wi a_);simp only[List.length_map];refine qg ?_ (hg:=wi a_);refine qt a_ ?_;refine qm ?_;refine ab.two 27 rfl (fun ja=>?_) (fun ja=>?_)
   ·refine qs ?_ (hg:=wn ja);refine qs ?_ (hg:=wn ja);refine qs ?_ (hg:=wn ja);refine qs ?_ (hg:=wn ja);refine qs ?_;refine qs ?_;refine qs ?_;refine qs ?_ (hg:=wn ja);refine qt ja ?_;refine ab.nil (b8 ?_);dsimp only[aD,List.foldl,nth,u2,u1];dsimp only[Fr.aH,Fr.put,Fr.clean,Fr.ev,Fr.get,nth,V.look,u1,u2,v1,v2,v3,v4,v5,v6,v7,List.length,u3,u4,Nat.reduceSub,Nat.reduceAdd,List.map]
    all_goals(simp_all;done)
   ·refine qp (o:=0) ?_ (hg:=wi ja);refine ql hH aC ?_ (hg:=wi ja);refine qg ?_ (hg:=wi ja);refine qm ?_ (hg:=wi ja);refine ab.two 31 rfl (fun bY=>?_) (fun bY=>?_)
    ·refine qp (o:=2) ?_ (hg:=wi bY);refine ql hH aC ?_ (hg:=wi bY);refine qg ?_ (hg:=wi bY);refine ab.oH (aM rfl rfl rfl ja) rfl bY (by dsimp only[Fr.put,u1,u2]<;>rfl) ?_;refine qu ja ?_;refine ab.nil (b8 ?_);dsimp only[aD,List.foldl,nth,u2,u1];dsimp only[Fr.aH,Fr.put,Fr.clean,Fr.ev,Fr.get,nth,V.look,u1,u2,v1,v2,v3,v4,v5,v6,v7,List.length,u3,u4,Nat.reduceSub,Nat.reduceAdd,List.map]
     all_goals(simp_all;done)
    ·refine qs ?_ (hg:=wn bY);refine qs ?_ (hg:=wn bY);refine qs ?_ (hg:=wn bY);refine ab.rO (aM rfl rfl rfl ja) rfl bY (by dsimp only[Fr.put,u1,u2]<;>rfl) ?_;refine qu ja ?_;refine ab.nil (b8 ?_);dsimp only[aD,List.foldl,nth,u2,u1];dsimp only[Fr.aH,Fr.put,Fr.clean,Fr.ev,Fr.get,nth,V.look,u1,u2,v1,v2,v3,v4,v5,v6,v7,List.length,u3,u4,Nat.reduceSub,Nat.reduceAdd,List.map]
     all_goals(simp_all;done)
  ·refine qs ?_ (hg:=wn a_);refine qs ?_ (hg:=wn a_);refine qs ?_ (hg:=wn a_);refine qs ?_ (hg:=wn a_);refine qu a_ ?_;refine qm ?_;refine qp (o:=0) ?_;refine ql hH aC ?_;refine qg ?_;refine qm ?_;refine ab.two 31 rfl (fun bY=>?_) (fun bY=>?_)
   ·refine qp (o:=2) ?_ (hg:=wi bY);refine ql hH aC ?_ (hg:=wi bY);refine qg ?_ (hg:=wi bY);refine qt bY ?_;refine qg ?_;refine ab.nil (b8 ?_);dsimp only[aD,List.foldl,nth,u2,u1];dsimp only[Fr.aH,Fr.put,Fr.clean,Fr.ev,Fr.get,nth,V.look,u1,u2,v1,v2,v3,v4,v5,v6,v7,List.length,u3,u4,Nat.reduceSub,Nat.reduceAdd,List.map]
    all_goals(simp[a_,bY];done)
   ·refine qs ?_ (hg:=wn bY);refine qs ?_ (hg:=wn bY);refine qs ?_ (hg:=wn bY);refine qu bY ?_;refine qg ?_;refine ab.nil (b8 ?_);dsimp only[aD,List.foldl,nth,u2,u1];dsimp only[Fr.aH,Fr.put,Fr.clean,Fr.ev,Fr.get,nth,V.look,u1,u2,v1,v2,v3,v4,v5,v6,v7,List.length,u3,u4,Nat.reduceSub,Nat.reduceAdd,List.map]
    all_goals(simp[a_,bY];done)
 dsimp only[aD,List.foldl,nth,u2,u1];generalize ff 18=QO;generalize ff 19=QN;generalize ff 20=QM;generalize ff 21=QL;generalize ff 22=QK;generalize ff 23=QJ;generalize ff 24=QI;generalize ff 25=QH;generalize ff 26=QG;generalize ff 27=QF;generalize ff 28=QE;generalize ff 29=QD;generalize ff 30=QC;generalize ff 31=QB;generalize ff 32=QA;generalize ff 33=Qz;generalize ff 34=Qy;generalize ff 35=Qx;have G4:(i.rs.isEmpty=!decide ((i.rs.length:Int)>0)):=by cases i.rs<;>simp<;>omega
 have hsh:bL p.code.length p.starts.length pc i=if((i.op !=1) &&decide ((i.rs.length:Int)>0))||((i.op !=2) &&(i.y !=0)) then false else
   (if i.op=1 then(decide (((pc+1:Nat):Int)<p.code.length) &&i.x==0) &&fu i.rs
   else if i.op=2 then fU i.x p.code.length &&fU i.y p.code.length
   else if i.op=3 then fU i.x p.code.length
   else if i.op=4 then decide (((pc+1:Nat):Int)<p.code.length) &&fU i.x 10
   else if i.op=5 then decide (((pc+1:Nat):Int)<p.code.length) &&i.x==0
   else if i.op=6 then decide (((pc+1:Nat):Int)<p.code.length) &&i.x==0
   else if i.op=7 then fU i.x p.starts.length
   else false):=by
  unfold bL;rw[G4];generalize decide ((i.rs.length:Int)>0)=b
  by_cases h1:i.op=1
  ·have h2:i.op≠2:=by omega
   simp only[h1];cases b<;>by_cases hy:i.y=0<;>simp[hy]
  ·by_cases h2:i.op=2
   ·simp only[h2];cases b<;>simp
   ·by_cases LW:i.op=5
    ·simp only[LW];cases b<;>by_cases hy:i.y=0<;>simp[hy]
    ·cases b<;>by_cases hy:i.y=0<;>simp[h1,h2,LW,hy]
 rw[hsh];refine qc (fun h0=>?_) (fun h0=>?_)<;>try simp only[cs] at h0
 ·refine qq ?_;refine qj fun K hK=>?_;refine qm ?_;refine qe hK ?_;rw[if_pos h0];refine af.ret ⟨rx,_,rfl,rl bE hH (rfl)⟩
 ·rw[if_neg (by rw[h0];simp)];refine af.skip ?_;refine qq ?_;refine qq ?_;refine qj fun K hK=>?_;refine qp (o:=0) ?_;refine ql hH aC ?_;refine qe hK ?_;refine af.block ?_;refine qq ?_;refine qj fun K hK=>?_;refine qg ?_;refine qm ?_;refine qe hK ?_;refine af.cond (by rfl) (fun h1=>?_) (fun h1=>?_)<;>try simp only[beq_iff_eq,beq_eq_false_iff_ne,ne_eq] at h1
  ·rw[if_pos h1];refine qq ?_;refine af.lH 4 (.bool ((decide (((pc+1:Nat):Int)<p.code.length) &&(i.x==0)) &&fu i.rs)) [] ?_ (fun ff tmp=>?_)
   ·refine qm ?_;refine qm ?_;refine ab.two 42 rfl (fun cm=>?_) (fun cm=>?_)
    ·refine qp (o:=1) ?_ (hg:=wi cm);refine ql hH aC ?_ (hg:=wi cm);refine qg ?_ (hg:=wi cm);refine qt cm ?_;refine qm ?_;refine ab.two 47 rfl (fun dQ=>?_) (fun dQ=>?_)
     ·refine qp (o:=3) ?_ (hg:=wi dQ);refine ql hH aC ?_ (hg:=wi dQ);refine qv (tV (G'.rows hH) hil) ?_ (hg:=wi dQ);refine qt dQ ?_;refine qm ?_;refine ab.nil (b8 ?_);dsimp only[aD,List.foldl,nth,u2,u1];dsimp only[Fr.aH,Fr.put,Fr.clean,Fr.ev,Fr.get,nth,V.look,u1,u2,v1,v2,v3,v4,v5,v6,v7,List.length,u3,u4,Nat.reduceSub,Nat.reduceAdd,List.map]
      all_goals(simp[cm,dQ];done)
     ·refine qs ?_ (hg:=wn dQ);refine qs ?_ (hg:=wn dQ);refine qs ?_ (hg:=wn dQ);refine qu dQ ?_;refine qm ?_;refine ab.nil (b8 ?_);dsimp only[aD,List.foldl,nth,u2,u1];dsimp only[Fr.aH,Fr.put,Fr.clean,Fr.ev,Fr.get,nth,V.look,u1,u2,v1,v2,v3,v4,v5,v6,v7,List.length,u3,u4,Nat.reduceSub,Nat.reduceAdd,List.map]
      all_goals(simp[cm,dQ];done)
    ·refine qs ?_ (hg:=wn cm);refine qs ?_ (hg:=wn cm);refine qs ?_ (hg:=wn cm);refine qu cm ?_;refine qm ?_;refine qs ?_;refine qs ?_;refine qs ?_;refine qg ?_;refine qm ?_;refine ab.nil (b8 ?_);dsimp only[aD,List.foldl,nth,u2,u1];dsimp only[Fr.aH,Fr.put,Fr.clean,Fr.ev,Fr.get,nth,V.look,u1,u2,v1,v2,v3,v4,v5,v6,v7,List.length,u3,u4,Nat.reduceSub,Nat.reduceAdd,List.map]
     all_goals(simp[cm];done)
   dsimp only[aD,List.foldl,nth,u2,u1];refine af.ret ⟨rx,_,rfl,rl bE hH (rfl)⟩
  ·rw[if_neg h1];refine qq ?_;refine qj fun K hK=>?_;refine qg ?_;refine qm ?_;refine qe hK ?_;refine af.cond (by rfl) (fun h2=>?_) (fun h2=>?_)<;>try simp only[beq_iff_eq,beq_eq_false_iff_ne,ne_eq] at h2
   ·rw[if_pos h2];refine qq ?_;refine af.lH 4 (.bool (fU i.x p.code.length &&fU i.y p.code.length)) [] ?_ (fun ff tmp=>?_)
    ·refine qp (o:=1) ?_;refine ql hH aC ?_;refine qp (o:=0) ?_;refine ql hH a6 ?_;refine qn ?_;simp only[List.length_map];refine qv (eA _ _) ?_;refine qm ?_;refine ab.two 60 rfl (fun dQ=>?_) (fun dQ=>?_)
     ·refine qp (o:=2) ?_ (hg:=wi dQ);refine ql hH aC ?_ (hg:=wi dQ);refine qp (o:=0) ?_ (hg:=wi dQ);refine ql hH a6 ?_ (hg:=wi dQ);refine qn ?_ (hg:=wi dQ);simp only[List.length_map];refine qv (eA _ _) ?_ (hg:=wi dQ);refine qt dQ ?_;refine qm ?_;refine ab.nil (b8 ?_);dsimp only[aD,List.foldl,nth,u2,u1];dsimp only[Fr.aH,Fr.put,Fr.clean,Fr.ev,Fr.get,nth,V.look,u1,u2,v1,v2,v3,v4,v5,v6,v7,List.length,u3,u4,Nat.reduceSub,Nat.reduceAdd,List.map]
      all_goals(simp[dQ];done)
     ·refine qs ?_ (hg:=wn dQ);refine qs ?_ (hg:=wn dQ);refine qs ?_ (hg:=wn dQ);refine qs ?_ (hg:=wn dQ);refine qs ?_ (hg:=wn dQ);refine qs ?_ (hg:=wn dQ);refine qu dQ ?_;refine qm ?_;refine ab.nil (b8 ?_);dsimp only[aD,List.foldl,nth,u2,u1];dsimp only[Fr.aH,Fr.put,Fr.clean,Fr.ev,Fr.get,nth,V.look,u1,u2,v1,v2,v3,v4,v5,v6,v7,List.length,u3,u4,Nat.reduceSub,Nat.reduceAdd,List.map]
      all_goals(simp[dQ];done)
    dsimp only[aD,List.foldl,nth,u2,u1];refine af.ret ⟨rx,_,rfl,rl bE hH (rfl)⟩
   ·rw[if_neg h2];refine qq ?_;refine qj fun K hK=>?_;refine qg ?_;refine qm ?_;refine qe hK ?_;refine af.cond (by rfl) (fun h3=>?_) (fun h3=>?_)<;>try simp only[beq_iff_eq,beq_eq_false_iff_ne,ne_eq] at h3
    ·rw[if_pos h3];refine qq ?_;refine qj fun K hK=>?_;refine qp (o:=1) ?_;refine ql hH aC ?_;refine qp (o:=0) ?_;refine ql hH a6 ?_;refine qn ?_;simp only[List.length_map];refine qv (eA _ _) ?_;refine qm ?_;refine qe hK ?_;refine af.ret ⟨rx,_,rfl,rl bE hH (rfl)⟩
    ·rw[if_neg h3];refine qq ?_;refine qj fun K hK=>?_;refine qg ?_;refine qm ?_;refine qe hK ?_;refine af.cond (by rfl) (fun h4=>?_) (fun h4=>?_)<;>try simp only[beq_iff_eq,beq_eq_false_iff_ne,ne_eq] at h4
     ·rw[if_pos h4];refine qq ?_;refine af.lH 4 (.bool (decide (((pc+1:Nat):Int)<p.code.length) &&fU i.x 10)) [] ?_ (fun ff tmp=>?_)
      ·refine qm ?_;refine qm ?_;refine ab.two 79 rfl (fun cm=>?_) (fun cm=>?_)
       ·refine qp (o:=1) ?_ (hg:=wi cm);refine ql hH aC ?_ (hg:=wi cm);refine qv (eA _ _) ?_ (hg:=wi cm);refine qt cm ?_;refine qm ?_;refine ab.nil (b8 ?_);dsimp only[aD,List.foldl,nth,u2,u1];dsimp only[Fr.aH,Fr.put,Fr.clean,Fr.ev,Fr.get,nth,V.look,u1,u2,v1,v2,v3,v4,v5,v6,v7,List.length,u3,u4,Nat.reduceSub,Nat.reduceAdd,List.map]
        all_goals(simp[cm];done)
       ·refine qs ?_ (hg:=wn cm);refine qs ?_ (hg:=wn cm);refine qs ?_ (hg:=wn cm);refine qu cm ?_;refine qm ?_;refine ab.nil (b8 ?_);dsimp only[aD,List.foldl,nth,u2,u1];dsimp only[Fr.aH,Fr.put,Fr.clean,Fr.ev,Fr.get,nth,V.look,u1,u2,v1,v2,v3,v4,v5,v6,v7,List.length,u3,u4,Nat.reduceSub,Nat.reduceAdd,List.map]
        all_goals(simp[cm];done)
      dsimp only[aD,List.foldl,nth,u2,u1];refine af.ret ⟨rx,_,rfl,rl bE hH (rfl)⟩
     ·rw[if_neg h4];refine qq ?_;refine qq ?_;refine qj fun K hK=>?_;refine qg ?_;refine qm ?_;refine qe hK ?_
      by_cases h5:i.op=5
      ·rw[if_pos h5];refine qD rfl (by simp[h5]) ?_;refine af.skip ?_;refine qD rfl (by simp[h5]) ?_;refine qq ?_;refine af.lH 4 (.bool (decide (((pc+1:Nat):Int)<p.code.length) &&(i.x==0))) [] ?_ (fun ff tmp=>?_)
       ·refine qm ?_;refine qm ?_;refine ab.two 88 rfl (fun cm=>?_) (fun cm=>?_)
        ·refine qp (o:=1) ?_ (hg:=wi cm);refine ql hH aC ?_ (hg:=wi cm);refine qg ?_ (hg:=wi cm);refine qt cm ?_;refine qm ?_;refine ab.nil (b8 ?_);dsimp only[aD,List.foldl,nth,u2,u1];dsimp only[Fr.aH,Fr.put,Fr.clean,Fr.ev,Fr.get,nth,V.look,u1,u2,v1,v2,v3,v4,v5,v6,v7,List.length,u3,u4,Nat.reduceSub,Nat.reduceAdd,List.map]
         all_goals(simp[cm];done)
        ·refine qs ?_ (hg:=wn cm);refine qs ?_ (hg:=wn cm);refine qs ?_ (hg:=wn cm);refine qu cm ?_;refine qm ?_;refine ab.nil (b8 ?_);dsimp only[aD,List.foldl,nth,u2,u1];dsimp only[Fr.aH,Fr.put,Fr.clean,Fr.ev,Fr.get,nth,V.look,u1,u2,v1,v2,v3,v4,v5,v6,v7,List.length,u3,u4,Nat.reduceSub,Nat.reduceAdd,List.map]
         all_goals(simp[cm];done)
       dsimp only[aD,List.foldl,nth,u2,u1];refine af.ret ⟨rx,_,rfl,rl bE hH (rfl)⟩
      ·rw[if_neg h5];refine qE rfl (by simp[h5]) ?_;refine qj fun K hK=>?_;refine qg ?_;refine qm ?_;refine qe hK ?_;refine af.cond (by rfl) (fun h6=>?_) (fun h6=>?_)<;>try simp only[beq_iff_eq,beq_eq_false_iff_ne,ne_eq] at h6
       ·rw[if_pos h6];refine qq ?_;refine af.lH 4 (.bool (decide (((pc+1:Nat):Int)<p.code.length) &&(i.x==0))) [] ?_ (fun ff tmp=>?_)
        ·refine qm ?_;refine qm ?_;refine ab.two 88 rfl (fun cm=>?_) (fun cm=>?_)
         ·refine qp (o:=1) ?_ (hg:=wi cm);refine ql hH aC ?_ (hg:=wi cm);refine qg ?_ (hg:=wi cm);refine qt cm ?_;refine qm ?_;refine ab.nil (b8 ?_);dsimp only[aD,List.foldl,nth,u2,u1];dsimp only[Fr.aH,Fr.put,Fr.clean,Fr.ev,Fr.get,nth,V.look,u1,u2,v1,v2,v3,v4,v5,v6,v7,List.length,u3,u4,Nat.reduceSub,Nat.reduceAdd,List.map]
          all_goals(simp[cm];done)
         ·refine qs ?_ (hg:=wn cm);refine qs ?_ (hg:=wn cm);refine qs ?_ (hg:=wn cm);refine qu cm ?_;refine qm ?_;refine ab.nil (b8 ?_);dsimp only[aD,List.foldl,nth,u2,u1];dsimp only[Fr.aH,Fr.put,Fr.clean,Fr.ev,Fr.get,nth,V.look,u1,u2,v1,v2,v3,v4,v5,v6,v7,List.length,u3,u4,Nat.reduceSub,Nat.reduceAdd,List.map]
          all_goals(simp[cm];done)
        dsimp only[aD,List.foldl,nth,u2,u1];refine af.ret ⟨rx,_,rfl,rl bE hH (rfl)⟩
       ·rw[if_neg h6];refine qq ?_;refine qj fun K hK=>?_;refine qg ?_;refine qm ?_;refine qe hK ?_;refine af.cond (by rfl) (fun h7=>?_) (fun h7=>?_)<;>try simp only[beq_iff_eq,beq_eq_false_iff_ne,ne_eq] at h7
        ·rw[if_pos h7];refine qq ?_;refine qj fun K hK=>?_;refine qp (o:=1) ?_;refine ql hH aC ?_;refine qp (o:=1) ?_;refine ql hH a6 ?_;refine qn ?_;simp only[List.length_map];refine qv (eA _ _) ?_;refine qm ?_;refine qe hK ?_;refine af.ret ⟨rx,_,rfl,rl bE hH (rfl)⟩
        ·rw[if_neg h7];refine af.skip ?_;refine qq ?_;refine qj fun K hK=>?_;refine qm ?_;refine qe hK ?_;refine af.ret ⟨rx,_,rfl,rl bE hH (rfl)⟩
def cV (fr:Go.V.Fr) (k:Nat):Go.V.D:=Go.V.nth .aZ fr.loc k
theorem Ep {s0:St} {p:Pg} {pc:Nat} {i:bo} (hp:p.ok) (hi:p.code[pc]?=some i):Ev pv 36 [p.d,.int .i64 (pc:Nat)] s0 (.bool (bL p.code.length p.starts.length pc i)) s0:=by
 refine Ev.km rfl Kp rfl rfl rfl ?_;dsimp only[u3,u4,List.length,Nat.reduceSub,Nat.reduceAdd,w1,w2];obtain⟨bE,hF,hH⟩:=ri s0;generalize aw .ro s0=S at*;have hc:=hp.c.arg s0.bs.length S;have hs:=hp.s.arg s0.bs.length S;have tB:=hp.i i (List.mem_of_getElem? hi);have qW:=tB.1;have G':=tB.1.arg s0.bs.length S;have hil:=tB.2;have hcl:=hp.cl;have j2:=hp.sl;have hr:=dv hi;have hlt:=bR hi;unfold Pg.d;refine qq ?_;refine qj fun K hK=>?_;refine qb hH fun k2 st hk2 hH=>?_;dsimp only[u2,u1,u3,u4,setMany,u5,u6,D.cells,Nat.reduceAdd,Pg.cs,aq,aG] at hH;refine qm ?_;refine qe hK ?_;refine qq ?_;refine qj fun K hK=>?_;refine qp (o:=0) ?_;refine ql hH aC ?_;refine qm ?_;refine qr fun Mz I_=>?_;refine ab.cx rfl (ev rfl) (by assumption) rfl (by dsimp only[Fr.put,u1,u2]<;>rfl) ?_;refine qa hH fun k5 st vN hH=>?_;refine qS hH aC fun st hH=>?_;dsimp only[u2,u1,u3,u4,setMany,u5,u6,D.cells,Nat.reduceAdd,Pg.cs,aq,aG] at hH;refine qe hK ?_;refine qq ?_;refine qj fun K hK=>?_;refine qp (o:=0) ?_;refine ql hH a6 ?_;refine qn ?_;simp only[List.length_map];refine qm ?_;refine qe hK ?_;refine qq ?_;refine qj fun K hK=>?_;refine qp (o:=0) ?_;refine ql hH aC ?_;refine ab.go (d:=.agg [.int .i64 i.op,.int .i64 0,.int .i64 0,.nul]) (st1:=_) rfl rfl rfl (by dsimp only[Fr.put,u1,u2]<;>rfl) ?_;refine qa hH fun k7 st FK hH=>?_;refine qS hH aC fun st hH=>?_;dsimp only[u2,u1,u3,u4,setMany,u5,u6,D.cells,Nat.reduceAdd,Pg.cs,aq,aG] at hH;refine qe hK ?_;refine qq ?_;refine qj fun K hK=>?_;refine qm ?_;refine qe hK ?_;refine qq ?_;refine qq ?_;refine qj fun K hK=>?_;refine qp (o:=0) ?_;refine ql hH a6 ?_;refine qe hK ?_;refine af.merge (fun fr st=>∃(bx bz:Int) (KJ:D) (fl:Bool) (H0:List Rg) (tmp:List (Nat×D)),fr=⟨22,[cV fr 0,.int .i64 (pc:Nat),.ptr k2 0 0,cV fr 3,.bool false,.ptr k5 0 0,.int .i64 (p.code.length:Nat),.ptr k7 0 0,.bool fl,cV fr 9,cV fr 10,cV fr 11,cV fr 12,cV fr 13,cV fr 14,cV fr 15,cV fr 16,cV fr 17,cV fr 18,cV fr 19,cV fr 20,cV fr 21],tmp⟩∧Has s0.bs.length S st [.box k7 (.mem 0 false [.int .i64 i.op,.int .i64 bx,.int .i64 bz,KJ]),.box k5 (.mem 0 false [.int .i64 i.op,.int .i64 i.x,.int .i64 i.y,i.rd]),.box k2 (.mem 0 false [p.cd,p.sd])]∧(dV KJ 2 (H0.map av))∧(bL p.code.length p.starts.length pc i=(((i.x==bx) &&(i.y==bz)) &&((i.rs.length:Int)==H0.length) &&(!fl||decide (((pc+1:Nat):Int)<p.code.length))))) ?_ ?_
 ·refine af.block ?_;refine qq ?_;refine qj fun K hK=>?_;refine qg ?_;refine qm ?_;refine qe hK ?_;refine af.cond (by rfl) (fun h1=>?_) (fun h1=>?_)<;>try simp only[beq_iff_eq,beq_eq_false_iff_ne,ne_eq] at h1
  ·have iy:bL p.code.length p.starts.length pc i=(i.y==0 &&(decide (((pc+1:Nat):Int)<p.code.length) &&i.x==0 &&fu i.rs)):=by unfold bL;rw[if_pos h1]
   refine qq ?_;refine qj fun K hK=>?_;refine qp (o:=3) ?_;refine ql hH a6 ?_;refine qp (o:=3) ?_;refine qT hH aC fun st hH=>?_;dsimp only[u2,u1,u3,u4,setMany,u5,u6,D.cells,Nat.reduceAdd,Pg.cs,aq,aG] at hH;refine qe hK ?_;refine qq ?_;refine af.dh 30 (.bool (!fu i.rs)) [] ?_ (fun ff tmp dg=>?_)
   ·refine qp (o:=3) ?_;refine ql hH a6 ?_;refine qv (oE (G'.rows hH) hil) ?_;refine qg ?_;refine ab.nil (aR ?_ ?_)
    ·dsimp only[aD,List.foldl,nth,u2,u1]
     all_goals(first|rfl|simp)
    ·dsimp only[Fr.aH,Fr.put,Fr.clean,Fr.ev,Fr.get,nth,V.look,u1,u2,v1,v2,v3,v4,v5,v6,v7,List.length,u3,u4,Nat.reduceSub,Nat.reduceAdd,List.map]
     all_goals(first|rfl|(simp[];done)|(simp_all;done)|(simp[];omega)|(simp_all;omega))
   dsimp only[aD,List.foldl,nth,u2,u1];refine af.cond (by assumption) (fun h2=>?_) (fun h2=>?_)<;>try simp only[Bool.not_eq_true',Bool.not_eq_false'] at h2
   ·refine qq ?_;refine qj fun K hK=>?_;refine qm ?_;refine qe hK ?_;rw[iy,h2];simp only[Bool.and_false];refine af.ret ⟨rx,_,rfl,rl bE hH (rfl)⟩
   ·refine af.skip ?_;refine⟨0,0,i.rd,true,i.rs,_,rfl,hH,qW,?_⟩;rw[iy,h2];cases hx:(i.x==0)<;>cases hy:(i.y==0)<;>simp
  ·have iy:bL p.code.length p.starts.length pc i=(i.rs.isEmpty &&(if i.op=2 then fU i.x p.code.length &&fU i.y p.code.length
  else i.y==0 &&
   (if i.op=3 then fU i.x p.code.length
   else if i.op=4 then decide (((pc+1:Nat):Int)<p.code.length) &&fU i.x 10
   else if i.op=5∨i.op=6 then decide (((pc+1:Nat):Int)<p.code.length) &&i.x==0
   else if i.op=7 then fU i.x p.starts.length
   else false))):=by unfold bL;rw[if_neg h1]
   have FM:i.rs.isEmpty=((i.rs.length:Int)==(([]:List Rg).length:Int)):=by cases i.rs<;>simp<;>omega
   have AZ:dV .nul 2 (([]:List Rg).map av):=.inl ⟨rfl,rfl⟩;refine qq ?_;refine qj fun K hK=>?_;refine qg ?_;refine qm ?_;refine qe hK ?_;refine af.cond (by rfl) (fun h2=>?_) (fun h2=>?_)<;>try simp only[beq_iff_eq,beq_eq_false_iff_ne,ne_eq] at h2
   ·rw[if_pos h2] at iy;refine qq ?_;refine qj fun K hK=>?_;refine qm ?_;refine qe hK ?_;have A':=hH;refine qq ?_;generalize hK:iZ _ _ _ _=K;refine af.lT rfl ?_;refine bh.cons ?_;refine qp (o:=1) ?_;refine ab.nil ⟨rfl,?_⟩;refine bh.cons ?_;refine ql hH a6 ?_;refine ab.nil ⟨rfl,?_⟩;refine bh.cons ?_;refine qp (o:=2) ?_;refine ab.nil ⟨rfl,?_⟩;refine bh.cons ?_;refine ql hH a6 ?_;refine ab.nil ⟨rfl,?_⟩;refine bh.cons ?_;refine qp (o:=1) ?_;refine ab.nil ⟨rfl,?_⟩;refine bh.cons ?_;refine qT hH aC fun st hH=>?_;dsimp only[u2,u1,u3,u4,setMany,u5,u6,D.cells,Nat.reduceAdd,Pg.cs,aq,aG] at hH;refine ab.nil ⟨by exact Bool.and_eq_true_iff.2 ⟨mQ rfl rfl rfl (A'.at a6) (hH.at a6) (A'.at a6) (by simp[refs,D.ref,qW.ref]),rfl⟩,?_⟩;refine bh.cons ?_;refine qp (o:=2) ?_;refine ab.nil ⟨rfl,?_⟩;refine bh.cons ?_;refine qT hH aC fun st hH=>?_;dsimp only[u2,u1,u3,u4,setMany,u5,u6,D.cells,Nat.reduceAdd,Pg.cs,aq,aG] at hH;refine ab.nil ⟨rfl,?_⟩;refine bh.nil ?_;subst hK;refine qq ?_;refine af.dh 58 (.bool (((decide (i.x<0)||decide (i.x≥p.code.length))||decide (i.y<0))||decide (i.y≥p.code.length))) [] ?_ (fun ff tmp dg=>?_)
    ·refine qp (o:=1) ?_;refine ql hH a6 ?_;refine qg ?_;refine qm ?_;refine ab.two 42 rfl (fun a_=>?_) (fun a_=>?_)
     ·refine qs ?_ (hg:=wn a_);refine qs ?_ (hg:=wn a_);refine qs ?_ (hg:=wn a_);refine qs ?_ (hg:=wn a_);refine qt a_ ?_;refine qm ?_;refine qs ?_;refine qs ?_;refine qs ?_;refine qg ?_;refine qm ?_;refine qs ?_;refine qs ?_;refine qs ?_;refine qs ?_;refine qg ?_;refine ab.nil (aR ?_ ?_)
      ·dsimp only[aD,List.foldl,nth,u2,u1]
       all_goals(first|rfl|simp)
      ·dsimp only[Fr.aH,Fr.put,Fr.clean,Fr.ev,Fr.get,nth,V.look,u1,u2,v1,v2,v3,v4,v5,v6,v7,List.length,u3,u4,Nat.reduceSub,Nat.reduceAdd,List.map]
       all_goals(simp[a_];done)
     ·refine qp (o:=1) ?_ (hg:=wi a_);refine ql hH a6 ?_ (hg:=wi a_);refine qm ?_ (hg:=wi a_);refine qg ?_ (hg:=wi a_);refine qu a_ ?_;refine qm ?_;refine ab.two 48 rfl (fun ja=>?_) (fun ja=>?_)
      ·refine qs ?_ (hg:=wn ja);refine qs ?_ (hg:=wn ja);refine qs ?_ (hg:=wn ja);refine qt ja ?_;refine qm ?_;refine qs ?_;refine qs ?_;refine qs ?_;refine qs ?_;refine qg ?_;refine ab.nil (aR ?_ ?_)
       ·dsimp only[aD,List.foldl,nth,u2,u1]
        all_goals(first|rfl|simp)
       ·dsimp only[Fr.aH,Fr.put,Fr.clean,Fr.ev,Fr.get,nth,V.look,u1,u2,v1,v2,v3,v4,v5,v6,v7,List.length,u3,u4,Nat.reduceSub,Nat.reduceAdd,List.map]
        all_goals(simp[a_,ja];done)
      ·refine qp (o:=2) ?_ (hg:=wi ja);refine ql hH a6 ?_ (hg:=wi ja);refine qg ?_ (hg:=wi ja);refine qu ja ?_;refine qm ?_;refine ab.two 53 rfl (fun jF=>?_) (fun jF=>?_)
       ·refine qs ?_ (hg:=wn jF);refine qs ?_ (hg:=wn jF);refine qs ?_ (hg:=wn jF);refine qs ?_ (hg:=wn jF);refine qt jF ?_;refine ab.nil (aR ?_ ?_)
        ·dsimp only[aD,List.foldl,nth,u2,u1]
         all_goals(first|rfl|simp)
        ·dsimp only[Fr.aH,Fr.put,Fr.clean,Fr.ev,Fr.get,nth,V.look,u1,u2,v1,v2,v3,v4,v5,v6,v7,List.length,u3,u4,Nat.reduceSub,Nat.reduceAdd,List.map]
         all_goals(simp[a_,ja,jF];done)
       ·refine qp (o:=2) ?_ (hg:=wi jF);refine ql hH a6 ?_ (hg:=wi jF);refine qm ?_ (hg:=wi jF);refine qg ?_ (hg:=wi jF);refine qu jF ?_;refine ab.nil (aR ?_ ?_)
        ·dsimp only[aD,List.foldl,nth,u2,u1]
         all_goals(first|rfl|simp)
        ·dsimp only[Fr.aH,Fr.put,Fr.clean,Fr.ev,Fr.get,nth,V.look,u1,u2,v1,v2,v3,v4,v5,v6,v7,List.length,u3,u4,Nat.reduceSub,Nat.reduceAdd,List.map]
         all_goals(simp[a_,ja,jF];done)
    dsimp only[aD,List.foldl,nth,u2,u1]
    have pQ:(fU i.x p.code.length &&fU i.y p.code.length)=!(((decide (i.x<0)||decide (i.x≥p.code.length))||decide (i.y<0))||decide (i.y≥p.code.length)):=by
     unfold fU;simp only[Bool.not_or,←decide_not,Int.not_lt,Int.not_le,ge_iff_le,Bool.and_assoc]
    refine qc (fun h3=>?_) (fun h3=>?_)<;>try simp only[cs] at h3
    ·refine qq ?_;refine qj fun K hK=>?_;refine qm ?_;refine qe hK ?_;rw[iy,pQ,h3];simp only[Bool.not_true,Bool.and_false];refine af.ret ⟨rx,_,rfl,rl bE hH (rfl)⟩
    ·refine af.skip ?_;exact⟨i.x,i.y,.nul,false,[],_,rfl,hH,AZ,by rw[iy,pQ,h3,FM];simp⟩
   ·rw[if_neg h2] at iy;refine qq ?_;refine qj fun K hK=>?_;refine qg ?_;refine qm ?_;refine qe hK ?_;refine af.cond (by rfl) (fun h3=>?_) (fun h3=>?_)<;>try simp only[beq_iff_eq,beq_eq_false_iff_ne,ne_eq] at h3
    ·rw[if_pos h3] at iy;refine qq ?_;refine qj fun K hK=>?_;refine qm ?_;refine qe hK ?_;refine qq ?_;refine qj fun K hK=>?_;refine qp (o:=1) ?_;refine ql hH a6 ?_;refine qp (o:=1) ?_;refine qT hH aC fun st hH=>?_;dsimp only[u2,u1,u3,u4,setMany,u5,u6,D.cells,Nat.reduceAdd,Pg.cs,aq,aG] at hH;refine qe hK ?_;refine qq ?_;refine af.dh 72 (.bool (decide (i.x<0)||decide (i.x≥p.code.length))) [] ?_ (fun ff tmp dg=>?_)
     ·refine qp (o:=1) ?_;refine ql hH a6 ?_;refine qg ?_;refine qm ?_;refine ab.two 67 rfl (fun a_=>?_) (fun a_=>?_)
      ·refine qs ?_ (hg:=wn a_);refine qs ?_ (hg:=wn a_);refine qs ?_ (hg:=wn a_);refine qs ?_ (hg:=wn a_);refine qt a_ ?_;refine ab.nil (aR ?_ ?_)
       ·dsimp only[aD,List.foldl,nth,u2,u1]
        all_goals(first|rfl|simp)
       ·dsimp only[Fr.aH,Fr.put,Fr.clean,Fr.ev,Fr.get,nth,V.look,u1,u2,v1,v2,v3,v4,v5,v6,v7,List.length,u3,u4,Nat.reduceSub,Nat.reduceAdd,List.map]
        all_goals(simp[a_];done)
      ·refine qp (o:=1) ?_ (hg:=wi a_);refine ql hH a6 ?_ (hg:=wi a_);refine qm ?_ (hg:=wi a_);refine qg ?_ (hg:=wi a_);refine qu a_ ?_;refine ab.nil (aR ?_ ?_)
       ·dsimp only[aD,List.foldl,nth,u2,u1]
        all_goals(first|rfl|simp)
       ·dsimp only[Fr.aH,Fr.put,Fr.clean,Fr.ev,Fr.get,nth,V.look,u1,u2,v1,v2,v3,v4,v5,v6,v7,List.length,u3,u4,Nat.reduceSub,Nat.reduceAdd,List.map]
        all_goals(simp[a_];done)
     dsimp only[aD,List.foldl,nth,u2,u1]
     have pQ:fU i.x p.code.length=!(decide (i.x<0)||decide (i.x≥p.code.length)):=by
      unfold fU;simp only[Bool.not_or,←decide_not,Int.not_lt,Int.not_le,ge_iff_le]
     refine qc (fun h4=>?_) (fun h4=>?_)<;>try simp only[cs] at h4
     ·refine qq ?_;refine qj fun K hK=>?_;refine qm ?_;refine qe hK ?_;rw[iy,pQ,h4];simp only[Bool.not_true,Bool.and_false];refine af.ret ⟨rx,_,rfl,rl bE hH (rfl)⟩
     ·refine af.skip ?_;exact⟨i.x,0,.nul,false,[],_,rfl,hH,AZ,by rw[iy,pQ,h4,FM];cases(i.y==0)<;>simp⟩
    ·rw[if_neg h3] at iy;refine qq ?_;refine qj fun K hK=>?_;refine qg ?_;refine qm ?_;refine qe hK ?_;refine af.cond (by rfl) (fun h4=>?_) (fun h4=>?_)<;>try simp only[beq_iff_eq,beq_eq_false_iff_ne,ne_eq] at h4
     ·rw[if_pos h4] at iy;refine qq ?_;refine qj fun K hK=>?_;refine qp (o:=1) ?_;refine ql hH a6 ?_;refine qp (o:=1) ?_;refine qT hH aC fun st hH=>?_;dsimp only[u2,u1,u3,u4,setMany,u5,u6,D.cells,Nat.reduceAdd,Pg.cs,aq,aG] at hH;refine qe hK ?_;refine qq ?_;refine af.dh 85 (.bool (decide (i.x<0)||decide (i.x≥10))) [] ?_ (fun ff tmp dg=>?_)
      ·refine qp (o:=1) ?_;refine ql hH a6 ?_;refine qg ?_;refine qm ?_;refine ab.two 81 rfl (fun a_=>?_) (fun a_=>?_)
       ·refine qs ?_ (hg:=wn a_);refine qs ?_ (hg:=wn a_);refine qs ?_ (hg:=wn a_);refine qt a_ ?_;refine ab.nil (aR ?_ ?_)
        ·dsimp only[aD,List.foldl,nth,u2,u1]
         all_goals(first|rfl|simp)
        ·dsimp only[Fr.aH,Fr.put,Fr.clean,Fr.ev,Fr.get,nth,V.look,u1,u2,v1,v2,v3,v4,v5,v6,v7,List.length,u3,u4,Nat.reduceSub,Nat.reduceAdd,List.map]
         all_goals(simp[a_];done)
       ·refine qp (o:=1) ?_ (hg:=wi a_);refine ql hH a6 ?_ (hg:=wi a_);refine qg ?_ (hg:=wi a_);refine qu a_ ?_;refine ab.nil (aR ?_ ?_)
        ·dsimp only[aD,List.foldl,nth,u2,u1]
         all_goals(first|rfl|simp)
        ·dsimp only[Fr.aH,Fr.put,Fr.clean,Fr.ev,Fr.get,nth,V.look,u1,u2,v1,v2,v3,v4,v5,v6,v7,List.length,u3,u4,Nat.reduceSub,Nat.reduceAdd,List.map]
         all_goals(simp[a_];done)
      dsimp only[aD,List.foldl,nth,u2,u1]
      have pQ:fU i.x 10=!(decide (i.x<0)||decide (i.x≥10)):=by
       unfold fU;simp only[Bool.not_or,←decide_not,Int.not_lt,Int.not_le,ge_iff_le]
      refine qc (fun h5=>?_) (fun h5=>?_)<;>try simp only[cs] at h5
      ·refine qq ?_;refine qj fun K hK=>?_;refine qm ?_;refine qe hK ?_;rw[iy,pQ,h5];simp only[Bool.not_true,Bool.and_false];refine af.ret ⟨rx,_,rfl,rl bE hH (rfl)⟩
      ·refine af.skip ?_;exact⟨i.x,0,.nul,true,[],_,rfl,hH,AZ,by rw[iy,pQ,h5,FM];cases(i.y==0)<;>simp⟩
     ·rw[if_neg h4] at iy;refine qq ?_;refine qq ?_;refine qj fun K hK=>?_;refine qg ?_;refine qm ?_;refine qe hK ?_
      by_cases h5:i.op=5
      ·rw[if_pos (.inl h5)] at iy;refine qD rfl (by simp[h5]) ?_;refine af.skip ?_;refine qD rfl (by simp[h5]) ?_;refine af.skip ?_;exact⟨0,0,.nul,true,[],_,rfl,hH,AZ,by rw[iy,FM];cases(i.y==0)<;>cases(i.x==0)<;>simp⟩
      ·refine qE rfl (by simp[h5]) ?_;refine qj fun K hK=>?_;refine qg ?_;refine qm ?_;refine qe hK ?_;refine af.cond (by rfl) (fun h6=>?_) (fun h6=>?_)<;>try simp only[beq_iff_eq,beq_eq_false_iff_ne,ne_eq] at h6
       ·rw[if_pos (.inr h6)] at iy;refine af.skip ?_;exact⟨0,0,.nul,true,[],_,rfl,hH,AZ,by rw[iy,FM];cases(i.y==0)<;>cases(i.x==0)<;>simp⟩
       ·rw[if_neg (by omega)] at iy;refine qq ?_;refine qj fun K hK=>?_;refine qg ?_;refine qm ?_;refine qe hK ?_;refine af.cond (by rfl) (fun h7=>?_) (fun h7=>?_)<;>try simp only[beq_iff_eq,beq_eq_false_iff_ne,ne_eq] at h7
        ·rw[if_pos h7] at iy;refine qq ?_;refine qj fun K hK=>?_;refine qm ?_;refine qe hK ?_;refine qq ?_;refine qj fun K hK=>?_;refine qp (o:=1) ?_;refine ql hH a6 ?_;refine qp (o:=1) ?_;refine qT hH aC fun st hH=>?_;dsimp only[u2,u1,u3,u4,setMany,u5,u6,D.cells,Nat.reduceAdd,Pg.cs,aq,aG] at hH;refine qe hK ?_;refine qq ?_;refine af.dh 104 (.bool (decide (i.x<0)||decide (i.x≥p.starts.length))) [] ?_ (fun ff tmp dg=>?_)
         ·refine qp (o:=1) ?_;refine ql hH a6 ?_;refine qg ?_;refine qm ?_;refine ab.two 97 rfl (fun a_=>?_) (fun a_=>?_)
          ·refine qs ?_ (hg:=wn a_);refine qs ?_ (hg:=wn a_);refine qs ?_ (hg:=wn a_);refine qs ?_ (hg:=wn a_);refine qs ?_ (hg:=wn a_);refine qs ?_ (hg:=wn a_);refine qt a_ ?_;refine ab.nil (aR ?_ ?_)
           ·dsimp only[aD,List.foldl,nth,u2,u1]
            all_goals(first|rfl|simp)
           ·dsimp only[Fr.aH,Fr.put,Fr.clean,Fr.ev,Fr.get,nth,V.look,u1,u2,v1,v2,v3,v4,v5,v6,v7,List.length,u3,u4,Nat.reduceSub,Nat.reduceAdd,List.map]
            all_goals(simp[a_];done)
          ·refine qp (o:=1) ?_ (hg:=wi a_);refine ql hH a6 ?_ (hg:=wi a_);refine qp (o:=1) ?_ (hg:=wi a_);refine ql hH dI ?_ (hg:=wi a_);refine qn ?_ (hg:=wi a_);simp only[List.length_map];refine qg ?_ (hg:=wi a_);refine qu a_ ?_;refine ab.nil (aR ?_ ?_)
           ·dsimp only[aD,List.foldl,nth,u2,u1]
            all_goals(first|rfl|simp)
           ·dsimp only[Fr.aH,Fr.put,Fr.clean,Fr.ev,Fr.get,nth,V.look,u1,u2,v1,v2,v3,v4,v5,v6,v7,List.length,u3,u4,Nat.reduceSub,Nat.reduceAdd,List.map]
            all_goals(simp[a_];done)
         dsimp only[aD,List.foldl,nth,u2,u1]
         have pQ:fU i.x p.starts.length=!(decide (i.x<0)||decide (i.x≥p.starts.length)):=by
          unfold fU;simp only[Bool.not_or,←decide_not,Int.not_lt,Int.not_le,ge_iff_le]
         refine qc (fun h8=>?_) (fun h8=>?_)<;>try simp only[cs] at h8
         ·refine qq ?_;refine qj fun K hK=>?_;refine qm ?_;refine qe hK ?_;rw[iy,pQ,h8];simp only[Bool.not_true,Bool.and_false];refine af.ret ⟨rx,_,rfl,rl bE hH (rfl)⟩
         ·refine af.skip ?_;exact⟨i.x,0,.nul,false,[],_,rfl,hH,AZ,by rw[iy,pQ,h8,FM];cases(i.y==0)<;>simp⟩
        ·rw[if_neg h7] at iy;refine qq ?_;refine qj fun K hK=>?_;refine qm ?_;refine qe hK ?_;rw[iy];simp only[Bool.and_false];refine af.ret ⟨rx,_,rfl,rl bE hH (rfl)⟩
 ·rintro fr st ⟨bx,bz,KJ,fl,H0,tmp,hfr,hH,LO,hsh⟩;rw[hfr];clear hfr;generalize cV fr=ee;clear fr;have OK:=LO.arg s0.bs.length S;refine qq ?_;refine af.lH 4 (.bool ((((i.x==bx) &&(i.y==bz)) &&((i.rs.length:Int)==H0.length)) &&(!fl||decide (((pc+1:Nat):Int)<p.code.length)))) [] ?_ (fun ff tmp=>?_)
  ·refine qp (o:=1) ?_;refine ql hH a6 ?_;refine qp (o:=1) ?_;refine ql hH aC ?_;refine qg ?_;refine qm ?_;refine ab.two 110 rfl (fun cT=>?_) (fun cT=>?_)
   ·refine qp (o:=2) ?_ (hg:=wi cT);refine ql hH a6 ?_ (hg:=wi cT);refine qp (o:=2) ?_ (hg:=wi cT);refine ql hH aC ?_ (hg:=wi cT);refine qg ?_ (hg:=wi cT);refine qt cT ?_;refine qm ?_;refine ab.two 117 rfl (fun bV=>?_) (fun bV=>?_)
    ·refine qp (o:=3) ?_ (hg:=wi bV);refine ql hH a6 ?_ (hg:=wi bV);refine qn ?_ (hg:=wi bV);simp only[List.length_map];refine qp (o:=3) ?_ (hg:=wi bV);refine ql hH aC ?_ (hg:=wi bV);refine qn ?_ (hg:=wi bV);simp only[List.length_map];refine qg ?_ (hg:=wi bV);refine qt bV ?_;refine qm ?_;refine ab.two 126 rfl (fun gS=>?_) (fun gS=>?_)
     ·refine qm ?_ (hg:=wi gS);refine qg ?_ (hg:=wi gS);refine qm ?_ (hg:=wi gS);refine ab.two 129 rfl (fun bU=>?_) (fun bU=>?_)
      ·refine qs ?_ (hg:=wn bU);refine qs ?_ (hg:=wn bU);refine qs ?_ (hg:=wn bU);refine qs ?_ (hg:=wn bU);refine ab.oH (aM rfl rfl rfl gS) rfl bU (ag rfl _) ?_;refine qt gS ?_;refine qm ?_;refine ab.nil (b8 ?_);dsimp only[aD,List.foldl,nth,u2,u1];dsimp only[Fr.aH,Fr.put,Fr.clean,Fr.ev,Fr.get,nth,V.look,u1,u2,v1,v2,v3,v4,v5,v6,v7,List.length,u3,u4,Nat.reduceSub,Nat.reduceAdd,List.map]
       all_goals(simp[cT,bV,gS,bU];done)
      ·refine qm ?_ (hg:=wi bU);refine qA ?_ (hg:=wi bU);refine qm ?_ (hg:=wi bU);refine qg ?_ (hg:=wi bU);refine ab.rO (aM rfl rfl rfl gS) rfl bU (ag rfl _) ?_;refine qt gS ?_;refine qm ?_;refine ab.nil (b8 ?_);dsimp only[aD,List.foldl,nth,u2,u1];dsimp only[Fr.aH,Fr.put,Fr.clean,Fr.ev,Fr.get,nth,V.look,u1,u2,v1,v2,v3,v4,v5,v6,v7,List.length,u3,u4,Nat.reduceSub,Nat.reduceAdd,List.map]
       all_goals(simp[cT,bV,gS,bU];done)
     ·refine qs ?_ (hg:=wn gS);refine qs ?_ (hg:=wn gS);refine qs ?_ (hg:=wn gS);refine qs ?_;refine qs ?_;refine qs ?_;refine qs ?_;refine qs ?_ (hg:=wn gS);refine qu gS ?_;refine qm ?_;refine ab.nil (b8 ?_);dsimp only[aD,List.foldl,nth,u2,u1];dsimp only[Fr.aH,Fr.put,Fr.clean,Fr.ev,Fr.get,nth,V.look,u1,u2,v1,v2,v3,v4,v5,v6,v7,List.length,u3,u4,Nat.reduceSub,Nat.reduceAdd,List.map]
      all_goals(simp[cT,bV,gS];done)
    ·refine qs ?_ (hg:=wn bV);refine qs ?_ (hg:=wn bV);refine qs ?_ (hg:=wn bV);refine qs ?_ (hg:=wn bV);refine qs ?_ (hg:=wn bV);refine qs ?_ (hg:=wn bV);refine qs ?_ (hg:=wn bV);refine qu bV ?_;refine qm ?_;refine qs ?_;refine qs ?_;refine qs ?_;refine qs ?_;refine qs ?_;refine qs ?_;refine qs ?_;refine qs ?_;refine qg ?_;refine qm ?_;refine ab.nil (b8 ?_);dsimp only[aD,List.foldl,nth,u2,u1];dsimp only[Fr.aH,Fr.put,Fr.clean,Fr.ev,Fr.get,nth,V.look,u1,u2,v1,v2,v3,v4,v5,v6,v7,List.length,u3,u4,Nat.reduceSub,Nat.reduceAdd,List.map]
     all_goals(simp[cT,bV];done)
   ·refine qs ?_ (hg:=wn cT);refine qs ?_ (hg:=wn cT);refine qs ?_ (hg:=wn cT);refine qs ?_ (hg:=wn cT);refine qs ?_ (hg:=wn cT);refine qu cT ?_;refine qm ?_;refine qs ?_;refine qs ?_;refine qs ?_;refine qs ?_;refine qs ?_;refine qs ?_;refine qs ?_;refine qg ?_;refine qm ?_;refine qs ?_;refine qs ?_;refine qs ?_;refine qs ?_;refine qs ?_;refine qs ?_;refine qs ?_;refine qs ?_;refine qg ?_;refine qm ?_;refine ab.nil (b8 ?_);dsimp only[aD,List.foldl,nth,u2,u1];dsimp only[Fr.aH,Fr.put,Fr.clean,Fr.ev,Fr.get,nth,V.look,u1,u2,v1,v2,v3,v4,v5,v6,v7,List.length,u3,u4,Nat.reduceSub,Nat.reduceAdd,List.map]
    all_goals(simp[cT];done)
  dsimp only[aD,List.foldl,nth,u2,u1];rw[hsh];refine af.ret ⟨rx,_,rfl,rl bE hH (rfl)⟩
def aB (fr:Go.V.Fr) (k:Nat):Go.V.D:=Go.V.nth .aZ fr.loc k
def aL (b:Bool):List D:=[.bool b]
theorem gy {l:List Bool} {i:Nat} {q:Bool} (h:l[i]?=some q):(l.map aL)[i]?=some (aL q):=by rw[List.getElem?_map,h];rfl
theorem fQ (l:List Bool):∀e∈l.map aL,∀d∈e,bQ d=true:=by
 intro e he d hd;obtain⟨x,_,rfl⟩:=List.mem_map.1 he;simp only[aL,List.mem_cons,List.not_mem_nil,or_false] at hd;subst hd;rfl
theorem vq (l:List Bool):∀e∈l.map aL,e.length=1:=by
 intro e he;obtain⟨x,_,rfl⟩:=List.mem_map.1 he;rfl
def lK (l:List Bool):D:=.sl ((l.map aL).map (ir 1))
theorem mS (l:List Bool):dV (lK l) 1 (l.map aL):=dV.frozen (vq l) (fQ l)
theorem fe (l:List Int):∀e∈l.map aG,∀d∈e,bQ d=true:=by
 intro e he d hd;obtain⟨x,_,rfl⟩:=List.mem_map.1 he;simp only[aG,List.mem_cons,List.not_mem_nil,or_false] at hd;subst hd;rfl
theorem z_ (l:List Int):∀e∈l.map aG,e.length=1:=by
 intro e he;obtain⟨x,_,rfl⟩:=List.mem_map.1 he;rfl
def uH (l:List Int):D:=.sl ((l.map aG).map (ir 1))
theorem o0 (l:List Int):dV (uH l) 1 (l.map aG):=dV.frozen (z_ l) (fe l)
def bH (pc:Nat) (i:bo):List Int:=
 if i.op=2 then[i.x,i.y] else if i.op=3 then[i.x] else if i.op=7 then[] else[((pc+1:Nat):Int)]
def kA (code:List bo):Prop:=∀pc i,code[pc]?=some i→∀v∈bH pc i,0≤v∧v<code.length
theorem om {n ns pc:Nat} {i:bo} (h:bL n ns pc i=true):∀v∈bH pc i,0≤v∧v<n:=by
 intro v hv
 have dw:∀a b:Int,fU a b=true→0≤a∧a<b:=fun a b h=>by
  unfold fU at h;simp only[Bool.and_eq_true,decide_eq_true_eq] at h;exact⟨h.1,h.2⟩
 unfold bL at h;unfold bH at hv
 split at h
 ·rename_i h1;rw[if_neg (by omega),if_neg (by omega),if_neg (by omega)] at hv;simp only[Bool.and_eq_true,decide_eq_true_eq] at h;simp only[List.mem_cons,List.not_mem_nil,or_false] at hv;subst hv;omega
 ·simp only[Bool.and_eq_true] at h;obtain⟨_,h⟩:=h
  split at h
  ·rename_i h2;rw[if_pos h2] at hv;simp only[Bool.and_eq_true] at h;simp only[List.mem_cons,List.not_mem_nil,or_false] at hv
   rcases hv with rfl|rfl
   ·exact dw _ _ h.1
   ·exact dw _ _ h.2
  ·rename_i h2;rw[if_neg h2] at hv;simp only[Bool.and_eq_true] at h;obtain⟨_,h⟩:=h
   split at h
   ·rename_i h3;rw[if_pos h3] at hv;simp only[List.mem_cons,List.not_mem_nil,or_false] at hv;subst hv;exact dw _ _ h
   ·rename_i h3;rw[if_neg h3] at hv
    split at h
    ·rename_i h4;rw[if_neg (by omega)] at hv;simp only[Bool.and_eq_true,decide_eq_true_eq] at h;simp only[List.mem_cons,List.not_mem_nil,or_false] at hv;subst hv;omega
    ·split at h
     ·rename_i h5;rw[if_neg (by omega)] at hv;simp only[Bool.and_eq_true,decide_eq_true_eq] at h;simp only[List.mem_cons,List.not_mem_nil,or_false] at hv;subst hv;omega
     ·split at h
      ·rename_i h7;rw[if_pos h7] at hv;cases hv
      ·cases h
def sk (code:List bo):Nat→List Bool→List Int→List Bool
 |0,seen,_=>seen
 |_+1,seen,[]=>seen
 |f+1,seen,v::eN=>match seen[v.toNat]? with
  |some false=>match code[v.toNat]? with
   |some i=>sk code f (seen.set v.toNat true) ((bH v.toNat i).reverse++eN)
   |none=>seen
  |_=>sk code f seen eN
def bP (code:List bo) (start:Int):List Bool:=sk code (3*code.length+1) (List.replicate code.length false) [start]
theorem nP (code:List bo):∀(f:Nat) (seen:List Bool) (eN:List Int),(sk code f seen eN).length=seen.length
 |0,_,_=>rfl
 |_+1,_,[]=>rfl
 |f+1,seen,v::eN=>by
  unfold sk
  split
  ·split
   ·rw[nP code f];simp
   ·rfl
  ·exact nP code f seen eN
theorem kO (code:List bo) (s:Int):(bP code s).length=code.length:=by
 unfold bP;rw[nP];simp
theorem count_set {seen:List Bool} {k:Nat} (h:seen[k]?=some false):(seen.set k true).count false+1=seen.count false:=by
 induction seen generalizing k with
 |nil=>simp at h
 |cons b l ih=>
  cases k with
  |zero=>simp at h;subst h;simp
  |succ k=>
   have:=ih (k:=k) (by simpa using h);simp only[List.set_cons_succ,List.count_cons];omega
theorem oR (pc:Nat) (i:bo):(bH pc i).length≤2:=by
 unfold bH;split
 ·simp
 ·split
  ·simp
  ·split<;>simp
theorem oe (v:Int) (r:List Int):((v::r).reverse.map aG)[r.length]?=some (aG v):=by
 rw[List.getElem?_map,List.reverse_cons,List.getElem?_append_right (by simp)];simp
theorem rI (v:Int) (r:List Int):(((v::r).reverse.map aG).take r.length).drop 0=r.reverse.map aG:=by
 rw[List.reverse_cons,List.map_append,List.drop_zero,List.take_left' (by simp)]
theorem Ar {s0:St} {cd:D} {code:List bo} {start:Int} (nY:dV cd 4 (code.map aq)) (hlen:code.length≤1048576) (hcl:kA code) (dN:0≤start∧start<code.length):Ev pv 51 [cd,.int .i64 start] s0 (lK (bP code start)) s0:=by
 refine Ev.km rfl Kf rfl rfl rfl ?_;dsimp only[u3,u4,List.length,Nat.reduceSub,Nat.reduceAdd,w1,w2];obtain⟨bE,hF,hH⟩:=ri s0;generalize aw .ro s0=S at*;have hc:=nY.arg s0.bs.length S;refine qq ?_;refine qj fun K hK=>?_;refine qm ?_;refine qe hK ?_;refine qq ?_;refine qj fun K hK=>?_;refine qm ?_;refine qn ?_;simp only[List.length_map];refine ab.rY (s:=1) hH rfl rfl rfl rfl rfl rfl rfl rfl (Nat.le_of_ble_eq_true rfl) (by omega) (fun _=>by dsimp only[Fr.put,u1,u2]<;>rfl) (fun z6 st E5 hH=>?_);refine qm ?_;refine qe hK ?_;refine qq ?_;refine qj fun K hK=>?_;refine qm ?_;refine qh (s:=1) (vs:=[_]) hH fun Lf st Jr hH=>?_;refine qm ?_;refine qe hK ?_;refine qq ?_;refine af.block ?_;refine af.loop (fun mm fr st=>∃(y z:D) (seen:List Bool) (eN:List Int),fr.clean=⟨41,[cd,aB fr 1,aB fr 2,aB fr 3,.nul,y,z,aB fr 7,aB fr 8,aB fr 9,aB fr 10,aB fr 11,aB fr 12,aB fr 13,aB fr 14,aB fr 15,aB fr 16,aB fr 17,aB fr 18,aB fr 19,aB fr 20,aB fr 21,aB fr 22,aB fr 23,aB fr 24,aB fr 25,aB fr 26,aB fr 27,aB fr 28,aB fr 29,aB fr 30,aB fr 31,aB fr 32,aB fr 33,aB fr 34,aB fr 35,aB fr 36,aB fr 37,aB fr 38,aB fr 39,aB fr 40],[]⟩∧Has s0.bs.length S st [.aO z 1 (eN.reverse.map aG),.aO y 1 (seen.map aL)]∧(sk code mm seen eN=bP code start)∧(3*seen.count false+eN.length≤mm)∧(seen.length=code.length)∧(∀v∈eN,0≤v∧v<(code.length:Int))∧(mm≤3*code.length+1)) (3*code.length+1) ?_ ?_
 ·exact⟨_,_,List.replicate code.length false,[start],rfl,(by rw[List.map_replicate];exact hH),rfl,by simp,by simp,by simpa using dN,by omega⟩
 rintro mm fr st ⟨y,z,seen,eN,hfr,hH,hd,hm,j2,hsk,Jg⟩;rw[hfr];clear hfr;generalize aB fr=ee;clear fr
 rcases eN with _|⟨v,eN⟩
 ·refine qq ?_;refine qq ?_;refine qj fun K hK=>?_;refine qm ?_;refine qn ?_ (hR:=hH.rows aC);simp only[List.length_map,List.length_nil,List.length_reverse];refine qg ?_;refine qe hK ?_;refine af.cond (v:=false) (by dsimp only[Fr.ev,Fr.get,nth,V.look];rfl) (fun h=>by cases h) (fun _=>?_);refine af.exit ?_;refine qq ?_;refine qj fun K hK=>?_;refine qm ?_;refine qm ?_;refine qe hK ?_;have jG:seen=bP code start:=by rw[←hd];cases mm<;>rfl
  rw[←jG];refine af.ret ⟨rx,_,rfl,rl bE hH ?_⟩;exact hH.freeze a6 (fQ _) (n:=15) (by decide)
 ·have hv:=hsk v (List.mem_cons_self ..);obtain⟨k,rfl⟩:=Int.eq_ofNat_of_zero_le hv.1;have hk:k<code.length:=by omega
  simp only[List.length_cons] at hm
  obtain⟨mm,rfl⟩:∃m',mm=m'+1:=⟨mm-1,by omega⟩
  obtain⟨b,hb⟩:∃b,seen[k]?=some b:=⟨seen[k]'(by omega),List.getElem?_eq_getElem _⟩
  obtain⟨i,hi⟩:∃i,code[k]?=some i:=⟨code[k]'(by omega),List.getElem?_eq_getElem _⟩
  have ie:=oe (k:Int) eN;have lp:=gy hb;have Na:=dv hi;refine qq ?_;refine qq ?_;refine qj fun K hK=>?_;refine qm ?_;refine qn ?_ (hR:=hH.rows aC);simp only[List.length_map,List.length_cons,List.length_reverse];refine qg ?_;refine qe hK ?_;refine qD rfl (by simp) ?_;refine af.skip ?_;refine af.block ?_;refine qq ?_;refine qj fun K hK=>?_;refine qm ?_;refine qm ?_;refine qn ?_ (hR:=hH.rows aC);simp only[List.length_map,List.length_cons,List.length_reverse];refine ab.j9 (z:=((eN.length:Nat):Int)) rfl (ev rfl) (ev rfl) (by(try simp only[List.length_reverse,List.length_cons,List.length_nil,List.length_append,List.length_map,List.length_set]);rw[wrap_i64 (by omega) (by omega)]<;>omega) (by dsimp only[Fr.put,u1,u2]<;>rfl) ?_;refine qi hH aC fun Ik EU=>?_;refine qo hH aC ?_;refine qm ?_;refine qe hK ?_;refine qq ?_;refine qj fun K hK=>?_;refine qm ?_;refine qm ?_;refine qn ?_ (hR:=hH.rows aC);simp only[List.length_map,List.length_cons,List.length_reverse];refine ab.j9 (z:=((eN.length:Nat):Int)) rfl (ev rfl) (ev rfl) (by(try simp only[List.length_reverse,List.length_cons,List.length_nil,List.length_append,List.length_map,List.length_set]);rw[wrap_i64 (by omega) (by omega)]<;>omega) (by dsimp only[Fr.put,u1,u2]<;>rfl) ?_;refine ab.qG hH rfl (ev rfl) (by exact aC) rfl rfl (jO (by simp only[List.length_map,List.length_reverse,List.length_cons,List.length_append,List.length_nil,List.length_take,List.length_drop,List.length_set,List.length_replicate];omega)) ⟨(by omega),(by simp only[List.length_map,List.length_reverse,List.length_cons,List.length_append,List.length_nil,List.length_take,List.length_drop,List.length_set,List.length_replicate];omega)⟩ (fun _=>by dsimp only[Fr.put,u1,u2]<;>rfl) (fun O7 hH=>?_);refine qm ?_;refine qe hK ?_;dsimp only[u2] at hH;rw[rI] at hH;have dN:∀w∈eN,0≤w∧w<(code.length:Int):=fun w hw=>hsk w (List.mem_cons_of_mem _ hw);refine qq ?_;refine qq ?_;refine qj fun K hK=>?_;refine qm ?_;refine qm ?_;refine qi hH a6 fun PM NH=>?_;refine qo hH a6 ?_;refine qe hK ?_
  cases b with
  |true=>
   refine qB ?_;refine af.exit ?_;simp only[sk,Int.toNat_natCast,hb] at hd;exact⟨mm,by omega,⟨_,_,seen,eN,rfl,hH,hd,by omega,j2,dN,by omega⟩⟩
  |false=>
   have pg:=count_set hb;have ic:(seen.set k true).map aL=(seen.map aL).set k [.bool true]:=by rw[List.map_set];rfl
   simp only[sk,Int.toNat_natCast,hb,hi] at hd;have Jd:=hcl k i hi;have AZ:=oR k i
   have EG:∀w∈(bH k i).reverse++eN,0≤w∧w<(code.length:Int):=fun w hw=>by
    rcases List.mem_append.1 hw with hw|hw
    ·exact Jd w (List.mem_reverse.1 hw)
    ·exact dN w hw
   have EM:(((bH k i).reverse++eN).reverse).map aG=eN.reverse.map aG++(bH k i).map aG:=by
    rw[List.reverse_append,List.reverse_reverse,List.map_append]
   refine qC ?_;refine af.skip ?_;refine qq ?_;refine qj fun K hK=>?_;refine qm ?_;refine qm ?_;refine qi hH a6 fun Mq I4=>?_;refine ab.fz hH rfl (ev rfl) (ev rfl) (by assumption) rfl rfl (by exact a6) (by assumption) (Nat.le_of_ble_eq_true rfl) (by exact .inl hF) (fun st hH=>?_);dsimp only[u2,u1,u3,u4,setMany,u5,u6,D.cells,Nat.reduceAdd,aq,aG,aL] at hH;refine qe hK ?_;refine qq ?_;refine qj fun K hK=>?_;refine qm ?_;refine qm ?_;refine qr fun Ih ER=>?_;refine ab.cx rfl (ev rfl) (by assumption) rfl (by dsimp only[Fr.put,u1,u2]<;>rfl) ?_;refine qa hH fun k8 st G7 hH=>?_;refine qS hH aC fun st hH=>?_;dsimp only[u2,u1,u3,u4,setMany,u5,u6,D.cells,Nat.reduceAdd,aq,aG,aL] at hH;refine qe hK ?_;refine qq ?_;refine qj fun K hK=>?_;refine qp (o:=0) ?_;refine ql hH aC ?_;refine qe hK ?_;refine af.merge (fun fr st=>∃(z:D) (tmp:List (Nat×D)),fr=⟨41,[cd,aB fr 1,aB fr 2,aB fr 3,.nul,y,z,aB fr 7,aB fr 8,aB fr 9,aB fr 10,aB fr 11,aB fr 12,aB fr 13,aB fr 14,aB fr 15,aB fr 16,aB fr 17,aB fr 18,aB fr 19,aB fr 20,aB fr 21,aB fr 22,aB fr 23,aB fr 24,aB fr 25,aB fr 26,aB fr 27,aB fr 28,aB fr 29,aB fr 30,aB fr 31,aB fr 32,aB fr 33,aB fr 34,aB fr 35,aB fr 36,aB fr 37,aB fr 38,aB fr 39,aB fr 40],tmp⟩∧Has s0.bs.length S st [.aO z 1 (eN.reverse.map aG++(bH k i).map aG),.aO y 1 ((seen.map aL).set k [.bool true])]) ?_ ?_
   ·refine af.block ?_;refine qq ?_;refine qj fun K hK=>?_;refine qg ?_;refine qm ?_;refine qe hK ?_;refine af.cond (by rfl) (fun h2=>?_) (fun h2=>?_)<;>try simp only[beq_iff_eq,beq_eq_false_iff_ne,ne_eq] at h2
    ·have:bH k i=[i.x,i.y]:=by unfold bH;rw[if_pos h2]
     rw[this];refine qj fun K hK=>?_;refine qm ?_;refine qp (o:=1) ?_;refine ql hH aC ?_;refine qp (o:=2) ?_;refine ql hH aC ?_;refine qh (s:=1) (vs:=[_,_]) hH fun P0 st N2 hH=>?_;refine ab.bk (s:=1) hH rfl (ev rfl) (ev rfl) (by exact dI) (by exact hH.rows (by exact aC)) rfl rfl rfl rfl rfl rfl rfl ⟨(Nat.le_of_ble_eq_true rfl),(Nat.le_of_ble_eq_true rfl)⟩ (fun _=>(ag rfl _)) (by simp only[List.length_cons,List.length_nil,List.length_map,List.length_reverse]<;>omega) (by exact .inl hF) (fun O_ st hH=>?_);dsimp only[u2,u1,u3,u4,setMany,u5,u6,D.cells,Nat.reduceAdd,aq,aG,aL] at hH;refine qm ?_;refine qe hK ?_;exact⟨_,_,rfl,(by have:=hH.drop 2;exact this)⟩
    ·refine qq ?_;refine qj fun K hK=>?_;refine qg ?_;refine qm ?_;refine qe hK ?_;refine af.cond (by rfl) (fun h3=>?_) (fun h3=>?_)<;>try simp only[beq_iff_eq,beq_eq_false_iff_ne,ne_eq] at h3
     ·have:bH k i=[i.x]:=by unfold bH;rw[if_neg h2,if_pos h3]
      rw[this];refine qj fun K hK=>?_;refine qm ?_;refine qp (o:=1) ?_;refine ql hH aC ?_;refine qh (s:=1) (vs:=[_]) hH fun PY st N0 hH=>?_;refine ab.bk (s:=1) hH rfl (ev rfl) (ev rfl) (by exact dI) (by exact hH.rows (by exact aC)) rfl rfl rfl rfl rfl rfl rfl ⟨(Nat.le_of_ble_eq_true rfl),(Nat.le_of_ble_eq_true rfl)⟩ (fun _=>(ag rfl _)) (by simp only[List.length_cons,List.length_nil,List.length_map,List.length_reverse]<;>omega) (by exact .inl hF) (fun O9 st hH=>?_);dsimp only[u2,u1,u3,u4,setMany,u5,u6,D.cells,Nat.reduceAdd,aq,aG,aL] at hH;refine qm ?_;refine qe hK ?_;exact⟨_,_,rfl,(by have:=hH.drop 2;exact this)⟩
     ·refine qq ?_;refine qj fun K hK=>?_;refine qg ?_;refine qm ?_;refine qe hK ?_;refine af.cond (by rfl) (fun h7=>?_) (fun h7=>?_)<;>try simp only[beq_iff_eq,beq_eq_false_iff_ne,ne_eq] at h7
      ·have:bH k i=[]:=by unfold bH;rw[if_neg h2,if_neg h3,if_pos h7]
       rw[this,List.map_nil,List.append_nil];refine af.skip ?_;exact⟨_,_,rfl,(by have:=hH.drop 1;exact this)⟩
      ·have:bH k i=[((k+1:Nat):Int)]:=by unfold bH;rw[if_neg h2,if_neg h3,if_neg h7]
       rw[this];refine qj fun K hK=>?_;refine qm ?_;refine qm ?_;refine qA ?_;refine qh (s:=1) (vs:=[_]) hH fun P3 st N4 hH=>?_;refine ab.bk (s:=1) hH rfl (ev rfl) (ev rfl) (by exact dI) (by exact hH.rows (by exact aC)) rfl rfl rfl rfl rfl rfl rfl ⟨(Nat.le_of_ble_eq_true rfl),(Nat.le_of_ble_eq_true rfl)⟩ (fun _=>(ag rfl _)) (by simp only[List.length_cons,List.length_nil,List.length_map,List.length_reverse]<;>omega) (by exact .inl hF) (fun Pa st hH=>?_);dsimp only[u2,u1,u3,u4,setMany,u5,u6,D.cells,Nat.reduceAdd,aq,aG,aL] at hH;refine qm ?_;refine qe hK ?_;exact⟨_,_,rfl,(by have:=hH.drop 2;exact this)⟩
   ·rintro fr st ⟨z,tmp,hfr,hH⟩;rw[hfr];clear hfr;generalize aB fr=ee;clear fr;exact⟨mm,by omega,⟨y,z,seen.set k true,(bH k i).reverse++eN,rfl,(by rw[EM,ic];exact hH),hd,by simp only[List.length_append,List.length_reverse];omega,by simp only[List.length_set];exact j2,EG,by omega⟩⟩
def lf (fr:Go.V.Fr) (k:Nat):Go.V.D:=Go.V.nth .aZ fr.loc k
theorem zU {s0:St} {p:Pg} {pc:Nat} {i:bo} (hp:p.ok) (hi:p.code[pc]?=some i):Ev pv 59 [p.d,.int .i64 (pc:Nat)] s0 (uH (bH pc i)) s0:=by
 refine Ev.km rfl Kb rfl rfl rfl ?_;dsimp only[u3,u4,List.length,Nat.reduceSub,Nat.reduceAdd,w1,w2];obtain⟨bE,hF,hH⟩:=ri s0;generalize aw .ro s0=S at*;have hc:=hp.c.arg s0.bs.length S;have qW:=(hp.i i (List.mem_of_getElem? hi)).1;have hcl:=hp.cl;have hr:=dv hi;have hlt:=bR hi;unfold Pg.d;refine qq ?_;refine qj fun K hK=>?_;refine qb hH fun k2 st hk2 hH=>?_;dsimp only[u2,u1,u3,u4,setMany,u5,u6,D.cells,Nat.reduceAdd,Pg.cs,aq,aG,aL] at hH;refine qm ?_;refine qe hK ?_;refine qq ?_;refine qj fun K hK=>?_;refine qp (o:=0) ?_;refine ql hH aC ?_;refine qm ?_;refine qr fun p9 Qf=>?_;refine ab.cx rfl (ev rfl) (by assumption) rfl (by dsimp only[Fr.put,u1,u2]<;>rfl) ?_;refine qa hH fun k5 st vN hH=>?_;refine qS hH aC fun st hH=>?_;dsimp only[u2,u1,u3,u4,setMany,u5,u6,D.cells,Nat.reduceAdd,Pg.cs,aq,aG,aL] at hH;refine qe hK ?_;refine qq ?_;refine qq ?_;refine qj fun K hK=>?_;refine qp (o:=0) ?_;refine ql hH aC ?_;refine qe hK ?_;refine af.block ?_;refine qq ?_;refine qj fun K hK=>?_;refine qg ?_;refine qm ?_;refine qe hK ?_;refine af.cond (by rfl) (fun h2=>?_) (fun h2=>?_)<;>try simp only[beq_iff_eq,beq_eq_false_iff_ne,ne_eq] at h2
 ·have:bH pc i=[i.x,i.y]:=by unfold bH;rw[if_pos h2]
  rw[this];refine qq ?_;refine qj fun K hK=>?_;refine qp (o:=1) ?_;refine ql hH aC ?_;refine qp (o:=2) ?_;refine ql hH aC ?_;refine qh (s:=1) (vs:=[_,_]) hH fun P9 st Ob hH=>?_;refine qm ?_;refine qe hK ?_;refine af.ret ⟨rx,_,rfl,rl bE hH ?_⟩;exact hH.freeze aC (fe [i.x,i.y]) (n:=15) (by decide)
 ·refine qq ?_;refine qj fun K hK=>?_;refine qg ?_;refine qm ?_;refine qe hK ?_;refine af.cond (by rfl) (fun h3=>?_) (fun h3=>?_)<;>try simp only[beq_iff_eq,beq_eq_false_iff_ne,ne_eq] at h3
  ·have:bH pc i=[i.x]:=by unfold bH;rw[if_neg h2,if_pos h3]
   rw[this];refine qq ?_;refine qj fun K hK=>?_;refine qp (o:=1) ?_;refine ql hH aC ?_;refine qh (s:=1) (vs:=[_]) hH fun Ld st G9 hH=>?_;refine qm ?_;refine qe hK ?_;refine af.ret ⟨rx,_,rfl,rl bE hH ?_⟩;exact hH.freeze aC (fe [i.x]) (n:=15) (by decide)
  ·refine qq ?_;refine qj fun K hK=>?_;refine qg ?_;refine qm ?_;refine qe hK ?_;refine af.cond (by rfl) (fun h7=>?_) (fun h7=>?_)<;>try simp only[beq_iff_eq,beq_eq_false_iff_ne,ne_eq] at h7
   ·have:bH pc i=[]:=by unfold bH;rw[if_neg h2,if_neg h3,if_pos h7]
    rw[this];refine qq ?_;refine qj fun K hK=>?_;refine qm ?_;refine qe hK ?_;refine af.ret ⟨rx,_,rfl,rl bE hH (rfl)⟩
   ·have:bH pc i=[((pc+1:Nat):Int)]:=by unfold bH;rw[if_neg h2,if_neg h3,if_neg h7]
    rw[this];refine af.skip ?_;refine qq ?_;refine qj fun K hK=>?_;refine qm ?_;refine qA ?_;refine qh (s:=1) (vs:=[_]) hH fun P7 st N9 hH=>?_;refine qm ?_;refine qe hK ?_;refine af.ret ⟨rx,_,rfl,rl bE hH ?_⟩;exact hH.freeze aC (fe [((pc+1:Nat):Int)]) (n:=15) (by decide)
def hO (p:Pg) (hD:Int):List Bool:=if fU hD p.starts.length then bP p.code (p.starts.getD hD.toNat 0) else List.replicate p.code.length false
theorem oF {s0:St} {p:Pg} {hD:Int} (hp:p.ok) (hcl:kA p.code) (dN:∀v∈p.starts,0≤v∧v<p.code.length):Ev pv 37 [p.d,.int .i64 hD] s0 (lK (hO p hD)) s0:=by
 refine Ev.km rfl Ko rfl rfl rfl ?_;dsimp only[u3,u4,List.length,Nat.reduceSub,Nat.reduceAdd,w1,w2];obtain⟨bE,hF,hH⟩:=ri s0;generalize aw .ro s0=S at*;have hc:=hp.c.arg s0.bs.length S;have hs:=hp.s.arg s0.bs.length S;have nY:=hp.c;have hlen:=hp.cl;have Ac:=hp.sl;unfold Pg.d;refine qq ?_;refine qj fun K hK=>?_;refine qb hH fun k2 st hk2 hH=>?_;dsimp only[u2,u1,u3,u4,setMany,u5,u6,D.cells,Nat.reduceAdd,Pg.cs,aq,aG,aL] at hH;refine qm ?_;refine qe hK ?_;refine qq ?_;refine qj fun K hK=>?_;refine qp (o:=0) ?_;refine ql hH aC ?_;refine qn ?_;simp only[List.length_map];refine ab.rY (s:=1) hH rfl rfl rfl rfl rfl rfl rfl rfl (Nat.le_of_ble_eq_true rfl) (by omega) (fun _=>(ag rfl _)) (fun z6 st E5 hH=>?_);refine qm ?_;refine qe hK ?_
 have GW:fU hD p.starts.length=!(decide (hD<0)||decide (hD≥p.starts.length)):=by
  unfold fU;simp only[Bool.not_or,←decide_not,Int.not_lt,Int.not_le,ge_iff_le]
 refine qq ?_;refine qq ?_;refine af.dh 20 (.bool (decide (hD<0)||decide (hD≥p.starts.length))) [] ?_ (fun ff tmp dg=>?_)
 ·refine qm ?_;refine qg ?_;refine qm ?_;refine ab.two 14 rfl (fun ba=>?_) (fun ba=>?_)
  ·refine qs ?_ (hg:=wn ba);refine qs ?_ (hg:=wn ba);refine qs ?_ (hg:=wn ba);refine qs ?_ (hg:=wn ba);refine qs ?_ (hg:=wn ba);refine qt ba ?_;refine ab.nil (aR ?_ ?_)
   ·dsimp only[aD,List.foldl,nth,u2,u1]
    all_goals(first|rfl|simp)
   ·dsimp only[Fr.aH,Fr.put,Fr.clean,Fr.ev,Fr.get,nth,V.look,u1,u2,v1,v2,v3,v4,v5,v6,v7,List.length,u3,u4,Nat.reduceSub,Nat.reduceAdd,List.map]
    all_goals(simp[ba];done)
  ·refine qm ?_ (hg:=wi ba);refine qp (o:=1) ?_ (hg:=wi ba);refine ql hH a6 ?_ (hg:=wi ba);refine qn ?_ (hg:=wi ba);simp only[List.length_map];refine qg ?_ (hg:=wi ba);refine qu ba ?_;refine ab.nil (aR ?_ ?_)
   ·dsimp only[aD,List.foldl,nth,u2,u1]
    all_goals(first|rfl|simp)
   ·dsimp only[Fr.aH,Fr.put,Fr.clean,Fr.ev,Fr.get,nth,V.look,u1,u2,v1,v2,v3,v4,v5,v6,v7,List.length,u3,u4,Nat.reduceSub,Nat.reduceAdd,List.map]
    all_goals(simp[ba];done)
 dsimp only[aD,List.foldl,nth,u2,u1];refine qc (fun h0=>?_) (fun h0=>?_)<;>try simp only[cs] at h0
 ·have hR:hO p hD=List.replicate p.code.length false:=by unfold hO;rw[GW,h0];rfl
  rw[hR];refine qq ?_;refine qj fun K hK=>?_;refine qm ?_;refine qm ?_;refine qe hK ?_;have hH:Has s0.bs.length S st [.aO (.win z6 0 0 p.code.length 1) 1 ((List.replicate p.code.length false).map aL),.box k2 (.mem 0 false [p.cd,p.sd])]:=by rw[List.map_replicate];exact hH
  refine af.ret ⟨rx,_,rfl,rl bE hH ?_⟩;exact hH.freeze aC (fQ _) (n:=15) (by decide)
 ·have pQ:fU hD p.starts.length=true:=by rw[GW,h0];rfl
  have hR:hO p hD=bP p.code (p.starts.getD hD.toNat 0):=by unfold hO;rw[if_pos pQ]
  rw[hR];unfold fU at pQ;simp only[Bool.and_eq_true,decide_eq_true_eq] at pQ;obtain⟨ru,rfl⟩:=Int.eq_ofNat_of_zero_le pQ.1
  obtain⟨start,lO⟩:∃v,p.starts[ru]?=some v:=⟨p.starts[ru]'(by omega),List.getElem?_eq_getElem _⟩
  have IK:=fJ lO;have dN:=dN start (List.mem_of_getElem? lO);rw[show p.starts.getD (ru:Int).toNat 0=start by rw[Int.toNat_natCast,List.getD_eq_getElem?_getD,lO];rfl];refine af.skip ?_;refine qq ?_;refine qj fun K hK=>?_;refine qp (o:=1) ?_;refine ql hH a6 ?_;refine qm ?_;refine qr fun Mr I5=>?_;refine qR ?_;refine qh (s:=1) (vs:=[_]) hH fun HJ st Jp hH=>?_;refine qm ?_;refine qe hK ?_;refine qq ?_;refine af.block ?_;refine af.loop (fun mm fr st=>∃(y z:D) (seen:List Bool) (eN:List Int),fr.clean=⟨8,[lf fr 0,lf fr 1,.ptr k2 0 0,lf fr 3,.nul,y,z,lf fr 7],[]⟩∧Has s0.bs.length S st [.aO z 1 (eN.reverse.map aG),.aO y 1 (seen.map aL),.box k2 (.mem 0 false [p.cd,p.sd])]∧(sk p.code mm seen eN=bP p.code start)∧(3*seen.count false+eN.length≤mm)∧(seen.length=p.code.length)∧(∀v∈eN,0≤v∧v<(p.code.length:Int))∧(mm≤3*p.code.length+1)) (3*p.code.length+1) ?_ ?_
  ·exact⟨_,_,List.replicate p.code.length false,[start],rfl,(by rw[List.map_replicate];exact hH),rfl,by simp,by simp,by simpa using dN,by omega⟩
  rintro mm fr st ⟨y,z,seen,eN,hfr,hH,hd,hm,j2,hsk,Jg⟩;rw[hfr];clear hfr;generalize lf fr=ee;clear fr
  rcases eN with _|⟨v,eN⟩
  ·refine qq ?_;refine qq ?_;refine qj fun K hK=>?_;refine qm ?_;refine qn ?_ (hR:=hH.rows aC);simp only[List.length_map,List.length_nil,List.length_reverse];refine qg ?_;refine qe hK ?_;refine af.cond (v:=false) (by dsimp only[Fr.ev,Fr.get,nth,V.look];rfl) (fun h=>by cases h) (fun _=>?_);refine af.exit ?_;refine qq ?_;refine qj fun K hK=>?_;refine qm ?_;refine qm ?_;refine qe hK ?_;have jG:seen=bP p.code start:=by rw[←hd];cases mm<;>rfl
   rw[←jG];refine af.ret ⟨rx,_,rfl,rl bE hH ?_⟩;exact hH.freeze a6 (fQ _) (n:=15) (by decide)
  ·have hv:=hsk v (List.mem_cons_self ..);obtain⟨k,rfl⟩:=Int.eq_ofNat_of_zero_le hv.1;have hk:k<p.code.length:=by omega
   simp only[List.length_cons] at hm
   obtain⟨mm,rfl⟩:∃m',mm=m'+1:=⟨mm-1,by omega⟩
   obtain⟨b,hb⟩:∃b,seen[k]?=some b:=⟨seen[k]'(by omega),List.getElem?_eq_getElem _⟩
   obtain⟨i,hi⟩:∃i,p.code[k]?=some i:=⟨p.code[k]'(by omega),List.getElem?_eq_getElem _⟩
   have ie:=oe (k:Int) eN;have lp:=gy hb;refine qq ?_;refine qq ?_;refine qj fun K hK=>?_;refine qm ?_;refine qn ?_ (hR:=hH.rows aC);simp only[List.length_map,List.length_cons,List.length_reverse];refine qg ?_;refine qe hK ?_;refine qD rfl (by simp) ?_;refine af.skip ?_;refine af.block ?_;refine qq ?_;refine qj fun K hK=>?_;refine qm ?_;refine qm ?_;refine qn ?_ (hR:=hH.rows aC);simp only[List.length_map,List.length_cons,List.length_reverse];refine ab.j9 (z:=((eN.length:Nat):Int)) rfl (ev rfl) (ev rfl) (by(try simp only[List.length_reverse,List.length_cons,List.length_nil,List.length_append,List.length_map,List.length_set]);rw[wrap_i64 (by omega) (by omega)]<;>omega) (ag rfl _) ?_;refine qi hH aC fun HG Ah=>?_;refine qo hH aC ?_;refine qm ?_;refine qe hK ?_;refine qq ?_;refine qj fun K hK=>?_;refine qm ?_;refine qm ?_;refine qn ?_ (hR:=hH.rows aC);simp only[List.length_map,List.length_cons,List.length_reverse];refine ab.j9 (z:=((eN.length:Nat):Int)) rfl (ev rfl) (ev rfl) (by(try simp only[List.length_reverse,List.length_cons,List.length_nil,List.length_append,List.length_map,List.length_set]);rw[wrap_i64 (by omega) (by omega)]<;>omega) (ag rfl _) ?_;refine ab.qG hH rfl (ev rfl) (by exact aC) rfl rfl (jO (by simp only[List.length_map,List.length_reverse,List.length_cons,List.length_append,List.length_nil,List.length_take,List.length_drop,List.length_set,List.length_replicate];omega)) ⟨(by omega),(by simp only[List.length_map,List.length_reverse,List.length_cons,List.length_append,List.length_nil,List.length_take,List.length_drop,List.length_set,List.length_replicate];omega)⟩ (fun _=>(ag rfl _)) (fun O6 hH=>?_);refine qm ?_;refine qe hK ?_;dsimp only[u2] at hH;rw[rI] at hH;have dN:∀w∈eN,0≤w∧w<(p.code.length:Int):=fun w hw=>hsk w (List.mem_cons_of_mem _ hw);refine qq ?_;refine qq ?_;refine qj fun K hK=>?_;refine qm ?_;refine qm ?_;refine qi hH a6 fun Ig EP=>?_;refine qo hH a6 ?_;refine qe hK ?_
   cases b with
   |true=>
    refine qB ?_;refine af.exit ?_;simp only[sk,Int.toNat_natCast,hb] at hd;exact⟨mm,by omega,⟨_,_,seen,eN,rfl,hH,hd,by omega,j2,dN,by omega⟩⟩
   |false=>
    have pg:=count_set hb;have ic:(seen.set k true).map aL=(seen.map aL).set k [.bool true]:=by rw[List.map_set];rfl
    simp only[sk,Int.toNat_natCast,hb,hi] at hd;have Jd:=hcl k i hi;have AZ:=oR k i
    have EG:∀w∈(bH k i).reverse++eN,0≤w∧w<(p.code.length:Int):=fun w hw=>by
     rcases List.mem_append.1 hw with hw|hw
     ·exact Jd w (List.mem_reverse.1 hw)
     ·exact dN w hw
    have EM:(((bH k i).reverse++eN).reverse).map aG=eN.reverse.map aG++(bH k i).map aG:=by
     rw[List.reverse_append,List.reverse_reverse,List.map_append]
    have A1:=(o0 (bH k i)).arg s0.bs.length S;refine qC ?_;refine af.skip ?_;refine qq ?_;refine qj fun K hK=>?_;refine qm ?_;refine qm ?_;refine qi hH a6 fun PF NA=>?_;refine ab.fz hH rfl (ev rfl) (ev rfl) (by assumption) rfl rfl (by exact a6) (by assumption) (Nat.le_of_ble_eq_true rfl) (by exact .inl hF) (fun st hH=>?_);dsimp only[u2,u1,u3,u4,setMany,u5,u6,D.cells,Nat.reduceAdd,Pg.cs,aq,aG,aL] at hH;refine qe hK ?_;refine qj fun K hK=>?_;refine qm ?_;refine ab.aE (m:=2) hH rfl (ev rfl) (by exact dI) (by dsimp only[List.drop_succ_cons,List.drop_zero,List.take_succ_cons,List.take_zero,Pg.cs,aq,aG,aL]<;>rfl) rfl rfl (ag rfl _) ?_;refine qm ?_;refine qv (zU hp hi) ?_;refine ab.bk (s:=1) hH rfl (ev rfl) (ev rfl) (by exact aC) (by exact Arg.rows (by assumption) hH) rfl rfl rfl rfl rfl rfl rfl ⟨(Nat.le_of_ble_eq_true rfl),(Nat.le_of_ble_eq_true rfl)⟩ (fun _=>(ag rfl _)) (by simp only[List.length_map,List.length_reverse]<;>omega) (by exact .inl hF) (fun O' st hH=>?_);dsimp only[u2,u1,u3,u4,setMany,u5,u6,D.cells,Nat.reduceAdd,Pg.cs,aq,aG,aL] at hH;refine qm ?_;refine qe hK ?_;exact⟨mm,by omega,⟨y,_,seen.set k true,(bH k i).reverse++eN,rfl,(by rw[EM,ic];exact hH),hd,by simp only[List.length_append,List.length_reverse];omega,by simp only[List.length_set];exact j2,EG,by omega⟩⟩
def ah (fr:Go.V.Fr) (k:Nat):Go.V.D:=Go.V.nth .aZ fr.loc k
noncomputable def dec (q:Prop):Bool:=@decide q (Classical.propDecidable q)
theorem kz {q:Prop} (h:q):dec q=true:=@decide_eq_true q (Classical.propDecidable q) h
theorem eY {q:Prop} (h:¬q):dec q=false:=@decide_eq_false q (Classical.propDecidable q) h
def gg (p:Pg) (r:Nat) (s:Int) (n:Nat):Prop:=∀pc i,pc<n→(bP p.code s)[pc]?=some true→p.code[pc]?=some i→i.op=7→i.x=(r:Int)
structure bf (p:Pg):Prop where
 cl:p.code.length≤400
 sl:p.starts.length≤8
 sh:∀pc i,p.code[pc]?=some i→bL p.code.length p.starts.length pc i=true
 st:∀v∈p.starts,0≤v∧v<(p.code.length:Int)
 fo:∀r s,p.starts[r]?=some s→gg p r s p.code.length
theorem jK {p:Pg} (h:∀pc i,p.code[pc]?=some i→bL p.code.length p.starts.length pc i=true):kA p.code:=
 fun pc i hi=>om (h pc i hi)
theorem bf.closed {p:Pg} (h:bf p):kA p.code:=jK h.sh
theorem dw {a b:Int}:fU a b=true↔0≤a∧a<b:=by
 unfold fU;simp only[Bool.and_eq_true,decide_eq_true_eq,ge_iff_le]
theorem gY {s0:St} {p:Pg} (hp:p.ok):Ev pv 27 [p.d] s0 (.bool (dec (bf p))) s0:=by
 refine Ev.km rfl Ks rfl rfl rfl ?_;dsimp only[u3,u4,List.length,Nat.reduceSub,Nat.reduceAdd,w1,w2];obtain⟨bE,hF,hH⟩:=ri s0;generalize aw .ro s0=S at*;have hc:=hp.c.arg s0.bs.length S;have hs:=hp.s.arg s0.bs.length S;have nY:=hp.c;have hlen:=hp.cl;have Ac:=hp.sl;unfold Pg.d;refine qq ?_;refine qj fun K hK=>?_;refine qb hH fun k1 st nG hH=>?_;dsimp only[u2,u1,u3,u4,setMany,u5,u6,D.cells,Nat.reduceAdd,Pg.cs,aq,aG,aL] at hH;refine qm ?_;refine qe hK ?_;refine qq ?_;refine qq ?_;refine af.lH 17 (.bool (decide ((p.code.length:Int)>400)||decide ((p.starts.length:Int)>8))) [8,9,10,11,12,13,14,15,16] ?_ (fun ff tmp=>?_)
 ·refine qp (o:=0) ?_;refine ql hH aC ?_;refine qn ?_;simp only[List.length_map];refine qg ?_;refine qm ?_;refine ab.two 12 rfl (fun bc=>?_) (fun bc=>?_)
  ·refine qs ?_ (hg:=wn bc);refine qs ?_ (hg:=wn bc);refine qs ?_ (hg:=wn bc);refine qs ?_ (hg:=wn bc);refine qt bc ?_;refine ab.nil (b8 ?_);dsimp only[aD,List.foldl,nth,u2,u1];dsimp only[Fr.aH,Fr.put,Fr.clean,Fr.ev,Fr.get,nth,V.look,u1,u2,v1,v2,v3,v4,v5,v6,v7,List.length,u3,u4,Nat.reduceSub,Nat.reduceAdd,List.map]
   all_goals(simp[bc];done)
  ·refine qp (o:=1) ?_ (hg:=wi bc);refine ql hH aC ?_ (hg:=wi bc);refine qn ?_ (hg:=wi bc);simp only[List.length_map];refine qg ?_ (hg:=wi bc);refine qu bc ?_;refine ab.nil (b8 ?_);dsimp only[aD,List.foldl,nth,u2,u1];dsimp only[Fr.aH,Fr.put,Fr.clean,Fr.ev,Fr.get,nth,V.look,u1,u2,v1,v2,v3,v4,v5,v6,v7,List.length,u3,u4,Nat.reduceSub,Nat.reduceAdd,List.map]
   all_goals(simp[bc];done)
 dsimp only[aD,List.foldl,nth,u2,u1];generalize ff 8=e8;generalize ff 9=e9;generalize ff 10=QV;generalize ff 11=QU;generalize ff 12=QT;generalize ff 13=QS;generalize ff 14=QR;generalize ff 15=QQ;generalize ff 16=QP;refine qc (fun h0=>?_) (fun h0=>?_)<;>try simp only[cs] at h0
 ·rw[eY (fun h=>by have:=h.cl;have:=h.sl;simp at h0;omega)];refine qq ?_;refine qj fun K hK=>?_;refine qm ?_;refine qe hK ?_;refine af.ret ⟨rx,_,rfl,rl bE hH (rfl)⟩
 ·have h0:p.code.length≤400∧p.starts.length≤8:=by simp at h0;omega
  refine af.skip ?_;refine qq ?_;refine qq ?_;refine qj fun K hK=>?_;refine qp (o:=0) ?_;refine ql hH aC ?_;refine qn ?_;simp only[List.length_map];refine qm ?_;refine qe hK ?_;refine af.block ?_;refine af.loop (fun mm fr st=>∃(i:Nat),fr.clean=⟨49,[ah fr 0,.ptr k1 0 0,.bool false,ah fr 3,ah fr 4,ah fr 5,ah fr 6,ah fr 7,ah fr 8,ah fr 9,ah fr 10,ah fr 11,ah fr 12,ah fr 13,ah fr 14,ah fr 15,ah fr 16,ah fr 17,ah fr 18,ah fr 19,.int .i64 (p.code.length:Nat),.int .i64 (i:Nat),ah fr 22,ah fr 23,ah fr 24,ah fr 25,ah fr 26,ah fr 27,ah fr 28,ah fr 29,ah fr 30,ah fr 31,ah fr 32,ah fr 33,ah fr 34,ah fr 35,ah fr 36,ah fr 37,ah fr 38,ah fr 39,ah fr 40,ah fr 41,ah fr 42,ah fr 43,ah fr 44,ah fr 45,ah fr 46,ah fr 47,ah fr 48],[]⟩∧Has s0.bs.length S st [.box k1 (.mem 0 false [p.cd,p.sd])]∧(i+mm=p.code.length)∧(∀pc q,pc<i→p.code[pc]?=some q→bL p.code.length p.starts.length pc q=true)) (p.code.length) ?_ ?_
  ·exact⟨0,rfl,hH,by omega,by intro pc q h;omega⟩
  rintro mm fr st ⟨i,hfr,hH,hi,hsh⟩;rw[hfr];clear hfr;generalize ah fr=ee;clear fr;refine qq ?_;refine qj fun K hK=>?_;refine qg ?_;refine qe hK ?_;refine qq ?_;refine af.cond (by rfl) (fun h1=>?_) (fun h1=>?_)<;>try simp only[decide_eq_true_eq,decide_eq_false_iff_not] at h1
  ·refine af.skip ?_
   obtain⟨q,hq⟩:∃q,p.code[i]?=some q:=⟨p.code[i]'(by omega),List.getElem?_eq_getElem _⟩
   refine qq ?_;refine af.block ?_;refine qq ?_;refine qj fun K hK=>?_;refine qm ?_;refine qm ?_;refine qe hK ?_;refine qq ?_;refine qj fun K hK=>?_;refine ab.aE (m:=2) hH rfl (ev rfl) (by exact aC) (by dsimp only[List.drop_succ_cons,List.drop_zero,List.take_succ_cons,List.take_zero,Pg.cs,aq,aG,aL]<;>rfl) rfl rfl (by dsimp only[Fr.put,u1,u2]<;>rfl) ?_;refine qm ?_;refine qv (sI (p:=p) hp hq) ?_;refine qg ?_;refine qe hK ?_;refine af.cond (by rfl) (fun h2=>?_) (fun h2=>?_)<;>try simp only[Bool.not_eq_true',Bool.not_eq_false'] at h2
   ·rw[eY (fun h=>by have:=h.sh i q hq;rw[this] at h2;cases h2)];refine qq ?_;refine qj fun K hK=>?_;refine qm ?_;refine qe hK ?_;refine af.ret ⟨rx,_,rfl,rl bE hH (rfl)⟩
   ·refine af.skip ?_;refine qj fun K hK=>?_;refine qA ?_;refine qm ?_;refine qe hK ?_;refine⟨mm-1,by omega,⟨i+1,rfl,hH,by omega,?_⟩⟩;intro pc q' tb iM
    by_cases he:pc=i
    ·subst he;rw[hq] at iM;cases iM;simpa using h2
    ·exact hsh pc q' (by omega) iM
  ·refine af.exit ?_;have hsh:∀pc q,p.code[pc]?=some q→bL p.code.length p.starts.length pc q=true:=fun pc q hq=>hsh pc q (by have:=bR hq;omega) hq;have hcl:=jK hsh;refine qq ?_;refine qq ?_;refine qj fun K hK=>?_;refine qp (o:=1) ?_;refine ql hH aC ?_;refine qn ?_;simp only[List.length_map];refine qm ?_;refine qe hK ?_;refine af.block ?_;refine af.loop (fun mm fr st=>∃(r:Nat),fr.clean=⟨49,[ah fr 0,.ptr k1 0 0,.bool false,ah fr 3,ah fr 4,ah fr 5,ah fr 6,ah fr 7,ah fr 8,ah fr 9,ah fr 10,ah fr 11,ah fr 12,ah fr 13,ah fr 14,ah fr 15,ah fr 16,ah fr 17,ah fr 18,ah fr 19,ah fr 20,ah fr 21,ah fr 22,ah fr 23,ah fr 24,ah fr 25,ah fr 26,ah fr 27,ah fr 28,ah fr 29,p.sd,.int .i64 (p.starts.length:Nat),.int .i64 (r:Nat),ah fr 33,ah fr 34,ah fr 35,ah fr 36,ah fr 37,ah fr 38,ah fr 39,ah fr 40,ah fr 41,ah fr 42,ah fr 43,ah fr 44,ah fr 45,ah fr 46,ah fr 47,ah fr 48],[]⟩∧Has s0.bs.length S st [.box k1 (.mem 0 false [p.cd,p.sd])]∧(r+mm=p.starts.length)∧(∀r' s,r'<r→p.starts[r']?=some s→(0≤s∧s<(p.code.length:Int))∧gg p r' s p.code.length)) (p.starts.length) ?_ ?_
   ·exact⟨0,rfl,hH,by omega,by intro pc q h;omega⟩
   rintro mm fr st ⟨r,hfr,hH,hi,bC⟩;rw[hfr];clear hfr;generalize ah fr=ee;clear fr;refine qq ?_;refine qj fun K hK=>?_;refine qg ?_;refine qe hK ?_;refine qq ?_;refine af.cond (by rfl) (fun h3=>?_) (fun h3=>?_)<;>try simp only[decide_eq_true_eq,decide_eq_false_iff_not] at h3
   ·refine af.skip ?_
    obtain⟨s,lO⟩:∃s,p.starts[r]?=some s:=⟨p.starts[r]'(by omega),List.getElem?_eq_getElem _⟩
    have IK:=fJ lO;refine qq ?_;refine af.block ?_;refine qq ?_;refine qj fun K hK=>?_;refine qm ?_;refine qr fun HG Ah=>?_;refine qR ?_;refine qm ?_;refine qm ?_;refine qe hK ?_;refine qq ?_;refine qq ?_;refine qj fun K hK=>?_;refine qm ?_;refine qp (o:=0) ?_;refine ql hH aC ?_;refine qn ?_;simp only[List.length_map];refine qv (eA _ _) ?_;refine qg ?_;refine qe hK ?_;refine af.cond (by rfl) (fun h4=>?_) (fun h4=>?_)<;>try simp only[Bool.not_eq_true',Bool.not_eq_false'] at h4
    ·rw[eY (fun h=>by have:=dw.2 (h.st s (List.mem_of_getElem? lO));rw[this] at h4;cases h4)];refine qq ?_;refine qj fun K hK=>?_;refine qm ?_;refine qe hK ?_;refine af.ret ⟨rx,_,rfl,rl bE hH (rfl)⟩
    ·have Ad:=dw.1 (show fU s p.code.length=true by simpa using h4);refine af.skip ?_;have pN:=kO p.code s;have Lm:=(mS (bP p.code s)).arg s0.bs.length S;refine qq ?_;refine qj fun K hK=>?_;refine qp (o:=0) ?_;refine ql hH aC ?_;refine qm ?_;refine qv (Ar nY hlen hcl Ad) ?_;refine qn ?_;simp only[List.length_map];refine qm ?_;refine qe hK ?_;refine af.block ?_;refine af.loop (fun mm fr st=>∃(i:Nat),fr.clean=⟨49,[ah fr 0,.ptr k1 0 0,.bool false,ah fr 3,.int .i64 (r:Nat),ah fr 5,ah fr 6,ah fr 7,ah fr 8,ah fr 9,ah fr 10,ah fr 11,ah fr 12,ah fr 13,ah fr 14,ah fr 15,ah fr 16,ah fr 17,ah fr 18,ah fr 19,ah fr 20,ah fr 21,ah fr 22,ah fr 23,ah fr 24,ah fr 25,ah fr 26,ah fr 27,ah fr 28,ah fr 29,p.sd,.int .i64 (p.starts.length:Nat),.int .i64 (r:Nat),ah fr 33,ah fr 34,ah fr 35,ah fr 36,ah fr 37,ah fr 38,ah fr 39,ah fr 40,ah fr 41,ah fr 42,ah fr 43,ah fr 44,ah fr 45,lK (bP p.code s),.int .i64 ((bP p.code s).length:Nat),.int .i64 (i:Nat)],[]⟩∧Has s0.bs.length S st [.box k1 (.mem 0 false [p.cd,p.sd])]∧(i+mm=p.code.length)∧(gg p r s i)) (p.code.length) ?_ ?_
     ·exact⟨0,rfl,hH,by omega,by intro pc q h;omega⟩
     rintro mm fr st ⟨i,hfr,hH,hj,hom⟩;rw[hfr];clear hfr;generalize ah fr=ee;clear fr;refine qq ?_;refine qj fun K hK=>?_;refine qg ?_;refine qe hK ?_;refine qq ?_;refine af.cond (by rfl) (fun h5=>?_) (fun h5=>?_)<;>try simp only[decide_eq_true_eq,decide_eq_false_iff_not] at h5
     ·refine af.skip ?_
      obtain⟨b,hb⟩:∃b,(bP p.code s)[i]?=some b:=⟨(bP p.code s)[i]'(by omega),List.getElem?_eq_getElem _⟩
      obtain⟨q,hq⟩:∃q,p.code[i]?=some q:=⟨p.code[i]'(by omega),List.getElem?_eq_getElem _⟩
      have ie:=gy hb;have lp:=dv hq;refine qq ?_;refine af.block ?_;refine qq ?_;refine qj fun K hK=>?_;refine qm ?_;refine qr fun Mn I1=>?_;refine qR ?_;refine qm ?_;refine qm ?_;refine qe hK ?_;refine qq ?_;refine af.dh 72 (.bool ((b &&(q.op==7)) &&(q.x !=(r:Int)))) [] ?_ (fun ff tmp dg=>?_)
      ·refine qm ?_;refine qm ?_;refine ab.two 54 rfl (fun cm=>?_) (fun cm=>?_)
       ·refine qp (o:=0) ?_ (hg:=wi cm);refine ql hH aC ?_ (hg:=wi cm);refine qm ?_ (hg:=wi cm);refine qr (fun PC Nw=>?_) (hg:=wi cm);refine qf (fo:=0) (fun PB Nv=>?_) (hg:=wi cm);refine qR ?_ (hg:=wi cm);refine qg ?_ (hg:=wi cm);refine qt cm ?_;refine qm ?_;refine ab.two 63 rfl (fun bD=>?_) (fun bD=>?_)
        ·refine qp (o:=0) ?_ (hg:=wi bD);refine ql hH aC ?_ (hg:=wi bD);refine qm ?_ (hg:=wi bD);refine qr (fun Py Ns=>?_) (hg:=wi bD);refine qf (fo:=1) (fun Px Nr=>?_) (hg:=wi bD);refine qR ?_ (hg:=wi bD);refine qm ?_ (hg:=wi bD);refine qg ?_ (hg:=wi bD);refine qt bD ?_;refine ab.nil (aR ?_ ?_)
         ·dsimp only[aD,List.foldl,nth,u2,u1]
          all_goals(first|rfl|simp)
         ·dsimp only[Fr.aH,Fr.put,Fr.clean,Fr.ev,Fr.get,nth,V.look,u1,u2,v1,v2,v3,v4,v5,v6,v7,List.length,u3,u4,Nat.reduceSub,Nat.reduceAdd,List.map]
          all_goals(simp[cm,bD];done)
        ·refine qs ?_ (hg:=wn bD);refine qs ?_ (hg:=wn bD);refine qs ?_ (hg:=wn bD);refine qs ?_ (hg:=wn bD);refine qs ?_ (hg:=wn bD);refine qs ?_ (hg:=wn bD);refine qs ?_ (hg:=wn bD);refine qs ?_ (hg:=wn bD);refine qu bD ?_;refine ab.nil (aR ?_ ?_)
         ·dsimp only[aD,List.foldl,nth,u2,u1]
          all_goals(first|rfl|simp)
         ·dsimp only[Fr.aH,Fr.put,Fr.clean,Fr.ev,Fr.get,nth,V.look,u1,u2,v1,v2,v3,v4,v5,v6,v7,List.length,u3,u4,Nat.reduceSub,Nat.reduceAdd,List.map]
          all_goals(simp[cm,bD];done)
       ·refine qs ?_ (hg:=wn cm);refine qs ?_ (hg:=wn cm);refine qs ?_ (hg:=wn cm);refine qs ?_ (hg:=wn cm);refine qs ?_ (hg:=wn cm);refine qs ?_ (hg:=wn cm);refine qs ?_ (hg:=wn cm);refine qu cm ?_;refine qm ?_;refine qs ?_;refine qs ?_;refine qs ?_;refine qs ?_;refine qs ?_;refine qs ?_;refine qs ?_;refine qs ?_;refine qg ?_;refine ab.nil (aR ?_ ?_)
        ·dsimp only[aD,List.foldl,nth,u2,u1]
         all_goals(first|rfl|simp)
        ·dsimp only[Fr.aH,Fr.put,Fr.clean,Fr.ev,Fr.get,nth,V.look,u1,u2,v1,v2,v3,v4,v5,v6,v7,List.length,u3,u4,Nat.reduceSub,Nat.reduceAdd,List.map]
         all_goals(simp[cm];done)
      dsimp only[aD,List.foldl,nth,u2,u1];dsimp only[Fr.aH,Fr.put,Fr.clean,Fr.ev,Fr.get,nth,V.look,u1,u2,v1,v2,v3,v4,v5,v6,v7,List.length,u3,u4,Nat.reduceSub,Nat.reduceAdd,List.map];refine qc (fun h6=>?_) (fun h6=>?_)<;>try simp only[cs] at h6
      ·rw[eY (fun h=>by
        have h7:=h.fo r s lO i q (by omega);simp only[Bool.and_eq_true,beq_iff_eq,bne_iff_ne,ne_eq] at h6;obtain⟨⟨rfl,h8⟩,h9⟩:=h6
        exact h9 (h7 hb hq h8))]
       refine qq ?_;refine qj fun K hK=>?_;refine qm ?_;refine qe hK ?_;refine af.ret ⟨rx,_,rfl,rl bE hH (rfl)⟩
      ·refine af.skip ?_;refine qj fun K hK=>?_;refine qA ?_;refine qm ?_;refine qe hK ?_;refine⟨mm-1,by omega,⟨i+1,rfl,hH,by omega,?_⟩⟩;intro pc q' tb o8 iM dG
       by_cases he:pc=i
       ·subst he;rw[hq] at iM;cases iM;rw[hb] at o8;cases o8;simp[dG] at h6;exact h6
       ·exact hom pc q' (by omega) o8 iM dG
     ·refine af.exit ?_;refine qj fun K hK=>?_;refine qA ?_;refine qm ?_;refine qe hK ?_;refine⟨p.starts.length-(r+1),by omega,⟨r+1,rfl,hH,by omega,?_⟩⟩;intro r' s' rX jD
      by_cases he:r'=r
      ·subst he;rw[lO] at jD;cases jD;exact⟨Ad,fun pc q tb=>hom pc q (by omega)⟩
      ·exact bC r' s' (by omega) jD
   ·refine af.exit ?_
    rw[kz ⟨h0.1,h0.2,hsh,fun v hv=>by
     obtain⟨r',rX⟩:=List.getElem?_of_mem hv
     exact(bC r' v (by have:=bR rX;omega) rX).1,fun r' s' jD=>(bC r' s' (by have:=bR jD;omega) jD).2⟩]
    refine qq ?_;refine qj fun K hK=>?_;refine qm ?_;refine qe hK ?_;refine af.ret ⟨rx,_,rfl,rl bE hH (rfl)⟩
def dD (n:Nat):List D:=[.int .i64 (n:Nat)]
def jz (n:Nat):List D:=[.int .i64 (n:Nat),.bool true]
theorem oQ {l:List Nat} {i q:Nat} (h:l[i]?=some q):(l.map dD)[i]?=some (dD q):=by rw[List.getElem?_map,h];rfl
theorem z8 {l:List Nat} {i q:Nat} (h:l[i]?=some q):(l.map jz)[i]?=some (jz q):=by rw[List.getElem?_map,h];rfl
structure cC (P Q:List Nat) (seen:List Bool):Prop where
 len:P.length=seen.length
 mem:∀(i p:Nat),P[i]?=some p→seen[i]?=some (decide (Q[p]?=some i))
 cnt:Q.length=seen.count true
 small:seen.length≤4096
def vA (N:Nat) (S st:St) (ks:Nat) (seen:List Bool) (H:List bB):Prop:=
 ∃pd qd P Q,Has N S st (.box ks (.mem 0 false [pd,qd])::.aO pd 1 (P.map dD)::.aO qd 2 (Q.map jz)::H)∧cC P Q seen
theorem cC.get {P Q:List Nat} {seen:List Bool} (h:cC P Q seen) {i:Nat} {b:Bool} (hi:seen[i]?=some b):∃p,P[i]?=some p∧b=decide (Q[p]?=some i):=by
 have hl:=bR hi;have mC:=h.len;refine⟨P[i]'(by omega),List.getElem?_eq_getElem _,?_⟩;have:=h.mem i _ (List.getElem?_eq_getElem (by omega));rw[hi] at this;exact Option.some.inj this
theorem cC.add {P Q:List Nat} {seen:List Bool} (h:cC P Q seen) {i:Nat} (hi:seen[i]?=some false):cC (P.set i Q.length) (Q++[i]) (seen.set i true):=by
 have hl:=bR hi;have mC:=h.len;refine⟨by simp[mC],fun j p hj=>?_,?_,by rw[List.length_set];exact h.small⟩
 ·by_cases hij:j=i
  ·subst hij;rw[List.getElem?_set_self (by omega)] at hj⊢;cases hj;simp
  ·rw[List.getElem?_set_ne (fun e=>hij e.symm)] at hj⊢;rw[h.mem j p hj]
   congr 2
   rcases Nat.lt_trichotomy p Q.length with hp|hp|hp
   ·rw[List.getElem?_append_left hp]
   ·subst hp;have hne:¬i=j:=fun e=>hij e.symm;simp[hne]
   ·rw[List.getElem?_eq_none (by omega),List.getElem?_eq_none (by simp;omega)]
 ·have h1:=List.length_eq_countP_add_countP (fun b=>b==true) (l:=seen);have h2:=List.length_eq_countP_add_countP (fun b=>b==true) (l:=seen.set i true);have h3:=count_set hi
  have e1:∀l:List Bool,l.countP (fun a=>decide (¬(a==true)=true))=l.count false:=by
   intro l;unfold List.count;congr 1;funext b;cases b<;>rfl
  have e2:∀l:List Bool,l.countP (fun a=>a==true)=l.count true:=fun l=>rfl;rw[e1,e2] at h1 h2;rw[List.length_append,h.cnt];simp only[List.length_set,List.length_cons,List.length_nil] at h2⊢;omega
theorem cC.clear {P Q:List Nat} {seen:List Bool} (h:cC P Q seen):cC P [] (List.replicate seen.length false):=by
 refine⟨by rw[List.length_replicate];exact h.len,fun i p hi=>?_,?_,by rw[List.length_replicate];exact h.small⟩
 ·have:=bR hi;have:=h.len;rw[List.getElem?_replicate,if_pos (by omega)];simp
 ·rw[List.count_replicate];simp
theorem cC.uE {P Q:List Nat} {seen:List Bool} (h:cC P Q seen):Q.length≤4096:=by
 have:=h.cnt;have:=h.small;have:=List.count_le_length (a:=true) (l:=seen);omega
theorem sL {N ks:Nat} {S s0:St} {H:List bB} {seen:List Bool} {i:Nat} {b:Bool} (hi:seen[i]?=some b) {pd qd:D} {P Q:List Nat} (bC:cC P Q seen) (hH:Has N S s0 (.box ks (.mem 0 false [pd,qd])::.aO pd 1 (P.map dD)::.aO qd 2 (Q.map jz)::H)):
  ∃r ae,Ev pv 76 [.ptr ks 0 0,.int .i64 (i:Nat)] s0 r ae∧r=.bool b∧ae=s0:=by
 obtain⟨p,hp,rfl⟩:=bC.get hi;have hl:=bR hp;have mC:=bC.len;have M5:=bC.small;have ie:=oQ hp
 have jG:(⟨(aw .rw s0).bs.take s0.bs.length,s0.flr,s0.ro⟩:St)=s0:=by
  show(⟨s0.bs.take s0.bs.length,s0.flr,s0.ro⟩:St)=s0;rw[List.take_length]
 refine Ev.ni rfl J5 rfl rfl rfl ?_;dsimp only[u3,u4,List.length,Nat.reduceSub,Nat.reduceAdd,w1,w2];have A':=hH;have hH:=hH.Av;have Qt:(aw .rw s0).bs=s0.bs:=rfl;generalize aw .rw s0=S2 at*;refine qq ?_;refine qj fun K hK=>?_;refine qm ?_;refine qe hK ?_;have ba:decide (((i:Nat):Int)<0)=false:=by rw[decide_eq_false];omega
 refine qq ?_;refine qq ?_;refine af.dh 16 (.bool false) [] ?_ (fun ff tmp dg=>?_)
 ·refine qm ?_;refine qg ?_;refine qm ?_;refine qm ?_ (hg:=wi ba);refine qm ?_ (hg:=wi ba);refine qg ?_ (hg:=wi ba);refine qp (o:=0) ?_ (hg:=wi ba);refine ql hH aC ?_ (hg:=wi ba);refine qn ?_ (hR:=hH.rows a6) (hg:=wi ba);simp only[List.length_map];refine qg ?_ (hg:=wi ba);refine qu ba ?_;refine ab.nil (aR ?_ ?_)
  ·dsimp only[aD,List.foldl,nth,u2,u1]
   all_goals(first|rfl|simp)
  ·dsimp only[Fr.aH,Fr.put,Fr.clean,Fr.ev,Fr.get,nth,V.look,u1,u2,v1,v2,v3,v4,v5,v6,v7,List.length,u3,u4,Nat.reduceSub,Nat.reduceAdd,List.map]
   all_goals(simp_all;done)
 dsimp only[aD,List.foldl,nth,u2,u1];refine qC ?_;refine af.skip ?_;refine qq ?_;refine qj fun K hK=>?_;refine qm ?_;refine qg ?_;refine qp (o:=0) ?_;refine ql hH aC ?_;refine qm ?_;refine qi hH a6 fun Ij ET=>?_;refine qo hH a6 ?_;refine qm ?_;refine qe hK ?_
 by_cases hq:p<Q.length
 ·obtain⟨q,Lo⟩:∃q,Q[p]?=some q:=⟨Q[p]'hq,List.getElem?_eq_getElem _⟩
  have lp:=z8 Lo;have eX:decide (((p:Nat):Int)<((Q.length:Nat):Int))=true:=by rw[decide_eq_true_eq];omega
  refine qq ?_;refine qj fun K hK=>?_;refine qm ?_;refine qm ?_;refine qg ?_;refine qp (o:=1) ?_;refine ql hH aC ?_;refine qn ?_ (hR:=hH.rows dI);simp only[List.length_map];refine qg ?_;refine qm ?_;refine qm ?_ (hg:=wi eX);refine qg ?_ (hg:=wi eX);refine qp (o:=1) ?_ (hg:=wi eX);refine ql hH aC ?_ (hg:=wi eX);refine qm ?_ (hg:=wi eX);refine qi hH dI (fun Ih ER=>?_) (hg:=wi eX);refine ab.fF (fo:=0) (m:=0) (o2:=0) (aM rfl rfl rfl eX) (ev rfl) (by assumption) rfl rfl rfl (fun _=>(ag rfl _)) (fun K8 GN=>?_);refine qo hH dI ?_ (hg:=wi eX);refine qm ?_ (hg:=wi eX);refine qg ?_ (hg:=wi eX);refine qt eX ?_;refine qm ?_;refine qe hK ?_;refine af.ret ⟨rx,_,_,_,rfl,jw (rfl),?_⟩;refine⟨?_,jG⟩
  have hd:(((q:Nat):Int)==((i:Nat):Int))=decide (Q[p]?=some i):=by
   rw[Lo]
   by_cases h:q=i
   ·simp[h]
   ·simp[h];omega
  exact congrArg D.bool hd
 ·have eX:decide (((p:Nat):Int)<((Q.length:Nat):Int))=false:=by rw[decide_eq_false];omega
  refine qq ?_;refine qj fun K hK=>?_;refine qm ?_;refine qm ?_;refine qg ?_;refine qp (o:=1) ?_;refine ql hH aC ?_;refine qn ?_ (hR:=hH.rows dI);simp only[List.length_map];refine qg ?_;refine qm ?_;refine qs ?_ (hg:=wn eX);refine qs ?_ (hg:=wn eX);refine qs ?_ (hg:=wn eX);refine qs ?_ (hg:=wn eX);refine qs ?_ (hg:=wn eX);refine qs ?_ (hg:=wn eX);refine qs ?_ (hg:=wn eX);refine qs ?_ (hg:=wn eX);refine qs ?_ (hg:=wn eX);refine qs ?_ (hg:=wn eX);refine qu eX ?_;refine qm ?_;refine qe hK ?_;refine af.ret ⟨rx,_,_,_,rfl,jw (rfl),?_⟩;refine⟨?_,jG⟩;rw[List.getElem?_eq_none (by omega)];rfl
theorem sM {N ks:Nat} {S s0:St} {H:List bB} {seen:List Bool} {i:Nat} {b:Bool} (hF:S.flr≤N) (hi:seen[i]?=some b) (hH:vA N S s0 ks seen H):
  ∃r ae,Ev pv 64 [.ptr ks 0 0,.int .i64 (i:Nat),.bool true] s0 r ae∧r=.bool (!b)∧vA N S ae ks (seen.set i true) H:=by
 obtain⟨pd,qd,P,Q,hH,bC⟩:=hH;have hl:=bR hi;have mC:=bC.len;have M5:=bC.small;have Lp:=bC.uE;obtain⟨p0,NM,_⟩:=bC.get hi;have ie:=oQ NM;refine Ev.ni rfl J8 rfl rfl rfl ?_;dsimp only[u3,u4,List.length,Nat.reduceSub,Nat.reduceAdd,w1,w2];change af _ _ _ _ s0 _;refine qq ?_;refine qj fun K hK=>?_;refine qm ?_;refine qe hK ?_;have ba:decide (((i:Nat):Int)<0)=false:=by rw[decide_eq_false];omega
 have bn:decide (((i:Nat):Int)≥((P.length:Nat):Int))=false:=by rw[decide_eq_false];omega
 obtain⟨_,st,b4,rfl,rfl⟩:=sL hi bC hH;refine qq ?_;refine qq ?_;refine af.dh 22 (.bool b) [] ?_ (fun ff tmp dg=>?_)
 ·refine qm ?_;refine qg ?_;refine qm ?_;refine qm ?_ (hg:=wi ba);refine qm ?_ (hg:=wi ba);refine qg ?_ (hg:=wi ba);refine qp (o:=0) ?_ (hg:=wi ba);refine ql hH aC ?_ (hg:=wi ba);refine qn ?_ (hR:=hH.rows a6) (hg:=wi ba);simp only[List.length_map];refine qg ?_ (hg:=wi ba);refine qu ba ?_;refine qm ?_;refine qm ?_ (hg:=wi bn);refine qm ?_ (hg:=wi bn);refine qv b4 ?_ (hg:=wi bn);refine qu bn ?_;refine ab.nil (aR ?_ ?_)
  ·dsimp only[aD,List.foldl,nth,u2,u1]
   all_goals(first|rfl|simp)
  ·dsimp only[Fr.aH,Fr.put,Fr.clean,Fr.ev,Fr.get,nth,look,u1,u2,v1,v2,v4]
   all_goals(first|rfl|(simp[ba,bn];done)|(simp_all;done)|(simp[ba,bn];omega)|(simp_all;omega))
 dsimp only[aD,List.foldl,nth,u2,u1]
 cases b with
 |true=>
  refine qB ?_;refine qq ?_;refine qj fun K hK=>?_;refine qm ?_;refine qe hK ?_;refine af.ret ⟨rx,_,_,_,rfl,rfl,?_⟩;refine⟨rfl,pd,qd,P,Q,hH,?_⟩
  have:seen.set i true=seen:=by
   refine List.ext_getElem? fun j=>?_
   by_cases hj:j=i
   ·subst hj;rw[List.getElem?_set_self hl,hi]
   ·rw[List.getElem?_set_ne (fun e=>hj e.symm)]
  rw[this];exact bC
 |false=>
  refine qC ?_;refine af.skip ?_;refine qq ?_;refine qj fun K hK=>?_;refine qm ?_;refine qg ?_;refine qp (o:=0) ?_;refine ql hH aC ?_;refine qm ?_;refine qm ?_;refine qg ?_;refine qp (o:=1) ?_;refine ql hH aC ?_;refine qn ?_ (hR:=hH.rows dI);simp only[List.length_map];refine qi hH a6 fun PI ND=>?_;refine ab.fz hH rfl (ev rfl) (ev rfl) (by assumption) rfl rfl (by exact a6) (by assumption) (Nat.le_of_ble_eq_true rfl) (by exact .inl hF) (fun st hH=>?_);dsimp only[u2,u1,u3,u4,setMany,u5,u6,D.cells,Nat.reduceAdd,dD,jz] at hH;refine qe hK ?_;refine qq ?_;refine qj fun K hK=>?_;refine qm ?_;refine qm ?_;refine qg ?_;refine qp (o:=1) ?_;refine ql hH aC ?_;refine qm ?_;refine qm ?_;refine qg ?_;refine qh (s:=2) (vs:=[_]) hH fun P4 st N5 hH=>?_;dsimp only[u2,u1,u3,u4,setMany,u5,u6,D.cells,Nat.reduceAdd,dD,jz] at hH;refine ab.bk (s:=2) hH rfl (ev rfl) (ev rfl) (by exact ef) (by exact hH.rows (by exact aC)) rfl rfl rfl rfl rfl rfl rfl ⟨(Nat.le_of_ble_eq_true rfl),(Nat.le_of_ble_eq_true rfl)⟩ (fun _=>(ag rfl _)) (by simp only[List.length_cons,List.length_nil,List.length_map]<;>omega) (by exact .inl hF) (fun Ma st hH=>?_);dsimp only[u2,u1,u3,u4,setMany,u5,u6,D.cells,Nat.reduceAdd,dD,jz] at hH;refine qg ?_;refine qp (o:=1) ?_;refine qT hH a6 (fun st hH=>?_) (fM:=hH.dY ef);dsimp only[u2,u1,u3,u4,setMany,u5,u6,D.cells,Nat.reduceAdd,dD,jz] at hH;refine qe hK ?_;refine qq ?_;refine qj fun K hK=>?_;refine qm ?_;refine qe hK ?_;refine af.ret ⟨rx,_,_,_,rfl,rfl,?_⟩;refine⟨rfl,pd,Ma,P.set i Q.length,Q++[i],?_,bC.add hi⟩;rw[List.map_set,List.map_append];exact hH.drop 1
theorem oq {N ks:Nat} {S s0:St} {H:List bB} {seen:List Bool} (hF:S.flr≤N) (hH:vA N S s0 ks seen H):
  ∃r ae,Ev pv 60 [.ptr ks 0 0] s0 r ae∧r=.tup []∧vA N S ae ks (List.replicate seen.length false) H:=by
 obtain⟨pd,qd,P,Q,hH,bC⟩:=hH;have Lp:=bC.uE;refine Ev.ni rfl Ka rfl rfl rfl ?_;dsimp only[u3,u4,List.length,Nat.reduceSub,Nat.reduceAdd,w1,w2];change af _ _ _ _ s0 _;refine qq ?_;refine qj fun K hK=>?_;refine qm ?_;refine qg ?_;refine qp (o:=1) ?_;refine ql hH aC ?_;refine ab.El hH rfl (ev rfl) dI rfl rfl rfl rfl (fun st hH=>?_);dsimp only[u1,u2] at hH;refine qe hK ?_;refine qj fun K hK=>?_;refine qm ?_;refine qm ?_;refine qg ?_;refine qp (o:=1) ?_;refine ql hH aC ?_;refine ab.qG hH rfl (ev rfl) (by exact dI) rfl rfl (jO (by simp only[List.length_map,List.length_reverse,List.length_cons,List.length_append,List.length_nil,List.length_take,List.length_drop,List.length_set,List.length_replicate];omega)) ⟨(by omega),(by simp only[List.length_map,List.length_reverse,List.length_cons,List.length_append,List.length_nil,List.length_take,List.length_drop,List.length_set,List.length_replicate];omega)⟩ (fun _=>(ag rfl _)) (fun O8 hH=>?_);refine qg ?_;refine qp (o:=1) ?_;refine qT hH aC (fun st hH=>?_) (fM:=hH.dY dI);dsimp only[u2,u1,u3,u4,setMany,u5,u6,D.cells,Nat.reduceAdd,dD,jz] at hH;refine qe hK ?_;refine⟨fun i h=>(by cases h),_,_,_,rfl,rfl,?_⟩;exact⟨rfl,pd,_,P,[],hH,bC.clear⟩
theorem sK {N n:Nat} {S s0:St} {H:List bB} (hF:S.flr≤N) (hn:n≤4096) (hH:Has N S s0 H):
  ∃r ae,Ev pv 55 [.int .i64 (n:Nat)] s0 r ae∧∃ks,r=.tup [.ptr ks 0 0,.int .i64 0]∧vA N S ae ks (List.replicate n false) H:=by
 refine Ev.ni rfl Ke rfl rfl rfl ?_;dsimp only[u3,u4,List.length,Nat.reduceSub,Nat.reduceAdd,w1,w2];change af _ _ _ _ s0 _;refine qq ?_;refine qj fun K hK=>?_;refine qm ?_;refine qm ?_;refine qe hK ?_;have ba:decide (((n:Nat):Int)<0)=false:=by rw[decide_eq_false];omega
 refine qq ?_;refine qq ?_;refine af.dh 9 (.bool false) [] ?_ (fun ff tmp dg=>?_)
 ·refine qm ?_;refine qg ?_;refine qm ?_;refine qm ?_ (hg:=wi ba);refine qg ?_ (hg:=wi ba);refine qu ba ?_;refine ab.nil (aR ?_ ?_)
  ·dsimp only[aD,List.foldl,nth,u2,u1]
   all_goals(first|rfl|simp)
  ·dsimp only[Fr.aH,Fr.put,Fr.clean,Fr.ev,Fr.get,nth,V.look,u1,u2,v1,v2,v3,v4,v5,v6,v7,List.length,u3,u4,Nat.reduceSub,Nat.reduceAdd,List.map]
   all_goals(simp[ba];omega)
 dsimp only[aD,List.foldl,nth,u2,u1];refine qC ?_;refine af.skip ?_;refine qq ?_;refine qj fun K hK=>?_;refine qm ?_;refine ab.rY (s:=1) hH rfl rfl rfl rfl rfl rfl rfl rfl (Nat.le_of_ble_eq_true rfl) (by omega) (fun _=>(ag rfl _)) (fun z6 st E5 hH=>?_);refine ab.zK (qs:=[(0,_)]) rfl rfl rfl rfl ⟨rfl,(ev rfl),(by rfl),trivial⟩ (by intro q hq;simp only[List.mem_cons,List.not_mem_nil,or_false] at hq;rcases hq with rfl<;>exact⟨rfl,by exact Nat.le_of_ble_eq_true rfl⟩) (by show List.foldl _ [_,_] _=_;dsimp only[List.foldl_cons,List.foldl_nil,u2,u1]<;>rfl) (ag rfl _) ?_;refine qb hH fun Lf st Jr hH=>?_;refine qm ?_;refine qm ?_;refine qe hK ?_;refine af.ret ⟨rx,_,_,_,rfl,rfl,?_⟩;refine⟨Lf,rfl,.win z6 0 0 n 1,.nul,List.replicate n 0,[],?_,?_⟩
 ·rw[List.map_replicate];exact Has.jW [_] [_,_] (hH.hQ 2)
 ·refine⟨by simp,fun i p hi=>?_,by rw[List.count_replicate];simp,by simpa using hn⟩;have:=bR hi;rw[List.length_replicate] at this;rw[List.getElem?_replicate,if_pos this];simp
end Go.Proofs.YtbdilgkfnacahaaGreat
