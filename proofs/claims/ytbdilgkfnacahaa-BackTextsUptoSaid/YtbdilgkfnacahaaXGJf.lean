/-
 Programs as they are looked at: one instruction.
-/
import Derived.Test.YtbdilgkfnacahaaXGCa
import Derived.Test.YtbdilgkfnacahaaXM2
set_option maxRecDepth 100000
set_option maxHeartbeats 4000000
set_option linter.unusedSimpArgs false
set_option linter.unusedVariables false
namespace Go.Proofs.Ytbdilgkfnacahaa
open Go.V Go
structure bC where
 op:Int
 x:Int
 y:Int
 rd:D
 rs:List Rg
def aL (i:bC):List D:=[.int .i64 i.op,.int .i64 i.x,.int .i64 i.y,i.rd]
def bC.ok (i:bC):Prop:=gq i.rd 2 (i.rs.map aw)∧i.rs.length≤1048576
def aq (n:Int):List D:=[.int .i64 n]
structure Pg where
 cd:D
 code:List bC
 sd:D
 aF:List Int
structure Pg.ok (p:Pg):Prop where
 c:gq p.cd 4 (p.code.map aL)
 s:gq p.sd 1 (p.aF.map aq)
 i:∀x∈p.code,x.ok
 cl:p.code.length≤1048576
 sl:p.aF.length≤1048576
def Pg.cs (p:Pg):List D:=[p.cd,p.sd]
def Pg.d (p:Pg):D:=.agg p.cs
theorem fO {l:List bC} {i:Nat} {q:bC} (h:l[i]?=some q):(l.map aL)[i]?=some (aL q):=by rw[List.getElem?_map,h];rfl
theorem cW {l:List Int} {i:Nat} {q:Int} (h:l[i]?=some q):(l.map aq)[i]?=some (aq q):=by rw[List.getElem?_map,h];rfl
def i_ (v n:Int):Bool:=decide (v≥0) &&decide (v<n)
noncomputable def ct (n ns pc:Nat) (i:bC):Bool:=
 if i.op=1 then i.y==0 &&(decide (((pc+1:Nat):Int)<n) &&i.x==0 &&gy i.rs)
 else i.rs.isEmpty &&
  (if i.op=2 then i_ i.x n &&i_ i.y n
  else i.y==0 &&
   (if i.op=3 then i_ i.x n
   else if i.op=4 then decide (((pc+1:Nat):Int)<n) &&i_ i.x 10
   else if i.op=5∨i.op=6 then decide (((pc+1:Nat):Int)<n) &&i.x==0
   else if i.op=7 then i_ i.x ns
   else false))
theorem gu {s0:St} (v n:Int):Ev pv 50 [.int .i64 v,.int .i64 n] s0 (.bool (i_ v n)) s0:=by
 refine Ev.j8 rfl P7 rfl rfl rfl ?_;dsimp only[u3,u4,List.length,Nat.reduceSub,Nat.reduceAdd,w1,w2];obtain⟨bN,hF,hH⟩:=ri s0;generalize aj .ro s0=S at*;refine qq<|qj fun K hK=>qm ?_;refine qe hK<|qq<|af.jO 4 (.bool (decide (v≥0) &&decide (v<n))) [] ?_ (fun ff tmp=>?_)
 ·refine qm ?_;refine qg ?_;refine qm ?_;refine ae.two 7 rfl (fun bm=>?_) (fun bm=>?_)
  ·refine qm ?_ (hg:=wi bm);refine qm ?_ (hg:=wi bm);refine qg ?_ (hg:=wi bm);refine qt bm ?_;refine qm ?_;refine ae.nil (aX ?_);dsimp only[aD,List.foldl,nth,u2,u1];dsimp only[Fr.au,Fr.put,Fr.clean,Fr.ev,Fr.get,nth,V.look,u1,u2,v1,v2,v3,v4,v5,v6,v7,List.length,u3,u4,Nat.reduceSub,Nat.reduceAdd,List.map]
   all_goals(simp[bm];done)
  ·refine qs ?_ (hg:=wn bm);refine qs ?_ (hg:=wn bm);refine qs ?_ (hg:=wn bm);refine qu bm ?_;refine qm ?_;refine ae.nil (aX ?_);dsimp only[aD,List.foldl,nth,u2,u1];dsimp only[Fr.au,Fr.put,Fr.clean,Fr.ev,Fr.get,nth,V.look,u1,u2,v1,v2,v3,v4,v5,v6,v7,List.length,u3,u4,Nat.reduceSub,Nat.reduceAdd,List.map]
   all_goals(simp[bm];done)
 dsimp only[aD,List.foldl,nth,u2,u1];refine af.ret ⟨rx,_,rfl,rl bN hH (rfl)⟩
theorem xy {s0:St} {p:Pg} {pc:Nat} {i:bC} (hp:p.ok) (hi:p.code[pc]?=some i):Ev pv 49 [p.d,.int .i64 (pc:Nat)] s0 (.bool (ct p.code.length p.aF.length pc i)) s0:=by
 refine Ev.j8 rfl P8 rfl rfl rfl ?_;dsimp only[u3,u4,List.length,Nat.reduceSub,Nat.reduceAdd,w1,w2];obtain⟨bN,hF,hH⟩:=ri s0;generalize aj .ro s0=S at*;have hc:=hp.c.arg s0.bs.length S;have hs:=hp.s.arg s0.bs.length S;have Kk:=hp.i i (List.mem_of_getElem? hi);have L6:=Kk.1.arg s0.bs.length S;have hil:=Kk.2;have hcl:=hp.cl;have jb:=hp.sl;have hr:=fO hi;have hlt:=cn hi;unfold Pg.d;refine qq<|qj fun K hK=>qb hH fun k2 st hk2 hH=>?_;dsimp only[u2,u1,u3,u4,setMany,u5,u6,D.cells,Nat.reduceAdd,Pg.cs,aL,aq] at hH;refine qm ?_;refine qe hK<|qq<|qj fun K hK=>qp (o:=0) ?_;refine ql hH aB ?_;refine qm ?_;refine qr fun Te OC=>?_;refine ae.dt rfl (ev rfl) (by assumption) rfl (by dsimp only[Fr.put,u1,u2]<;>rfl) ?_;refine qa hH fun k5 st L2 hH=>?_;refine qS hH aB fun st hH=>?_;dsimp only[u2,u1,u3,u4,setMany,u5,u6,D.cells,Nat.reduceAdd,Pg.cs,aL,aq] at hH;refine qe hK<|qq<|qj fun K hK=>qm ?_;refine qA ?_;refine qp (o:=0) ?_;refine ql hH bu ?_;refine qn ?_;simp only[List.length_map];refine qg ?_;refine qm ?_;refine qe hK<|qq<|qq<|af.jO 36 (.bool (((i.op !=1) &&decide ((i.rs.length:Int)>0))||((i.op !=2) &&(i.y !=0)))) [18,19,20,21,22,23,24,25,26,27,28,29,30,31,32,33,34,35] ?_ (fun ff tmp=>?_)
 ·refine qp (o:=0) ?_;refine ql hH aB ?_;refine qg ?_;refine qm ?_;refine ae.two 21 rfl (fun aZ=>?_) (fun aZ=>?_)
  ·refine qp (o:=3) ?_ (hg:=wi aZ);refine ql hH aB ?_ (hg:=wi aZ);refine qn ?_ (hg:=wi aZ);simp only[List.length_map];refine qg ?_ (hg:=wi aZ);refine qt aZ ?_;refine qm ?_;refine ae.two 27 rfl (fun b8=>?_) (fun b8=>?_)
   ·refine qs ?_ (hg:=wn b8);refine qs ?_ (hg:=wn b8);refine qs ?_ (hg:=wn b8);refine qs ?_ (hg:=wn b8);refine qs ?_;refine qs ?_;refine qs ?_;refine qs ?_ (hg:=wn b8);refine qt b8 ?_;refine ae.nil (aX ?_);dsimp only[aD,List.foldl,nth,u2,u1];dsimp only[Fr.au,Fr.put,Fr.clean,Fr.ev,Fr.get,nth,V.look,u1,u2,v1,v2,v3,v4,v5,v6,v7,List.length,u3,u4,Nat.reduceSub,Nat.reduceAdd,List.map]
    all_goals(simp_all;done)
   ·refine qp (o:=0) ?_ (hg:=wi b8);refine ql hH aB ?_ (hg:=wi b8);refine qg ?_ (hg:=wi b8);refine qm ?_ (hg:=wi b8);refine ae.two 31 rfl (fun bP=>?_) (fun bP=>?_)
    ·refine qp (o:=2) ?_ (hg:=wi bP);refine ql hH aB ?_ (hg:=wi bP);refine qg ?_ (hg:=wi bP);refine ae.dA (aH rfl rfl rfl b8) rfl bP (by dsimp only[Fr.put,u1,u2]<;>rfl) ?_;refine qu b8 ?_;refine ae.nil (aX ?_);dsimp only[aD,List.foldl,nth,u2,u1];dsimp only[Fr.au,Fr.put,Fr.clean,Fr.ev,Fr.get,nth,V.look,u1,u2,v1,v2,v3,v4,v5,v6,v7,List.length,u3,u4,Nat.reduceSub,Nat.reduceAdd,List.map]
     all_goals(simp_all;done)
    ·refine qs ?_ (hg:=wn bP);refine qs ?_ (hg:=wn bP);refine qs ?_ (hg:=wn bP);refine ae.cV (aH rfl rfl rfl b8) rfl bP (by dsimp only[Fr.put,u1,u2]<;>rfl) ?_;refine qu b8 ?_;refine ae.nil (aX ?_);dsimp only[aD,List.foldl,nth,u2,u1];dsimp only[Fr.au,Fr.put,Fr.clean,Fr.ev,Fr.get,nth,V.look,u1,u2,v1,v2,v3,v4,v5,v6,v7,List.length,u3,u4,Nat.reduceSub,Nat.reduceAdd,List.map]
     all_goals(simp_all;done)
  ·refine qs ?_ (hg:=wn aZ);refine qs ?_ (hg:=wn aZ);refine qs ?_ (hg:=wn aZ);refine qs ?_ (hg:=wn aZ);refine qu aZ ?_;refine qm ?_;refine qp (o:=0) ?_;refine ql hH aB ?_;refine qg ?_;refine qm ?_;refine ae.two 31 rfl (fun bP=>?_) (fun bP=>?_)
   ·refine qp (o:=2) ?_ (hg:=wi bP);refine ql hH aB ?_ (hg:=wi bP);refine qg ?_ (hg:=wi bP);refine qt bP ?_;refine qg ?_;refine ae.nil (aX ?_);dsimp only[aD,List.foldl,nth,u2,u1];dsimp only[Fr.au,Fr.put,Fr.clean,Fr.ev,Fr.get,nth,V.look,u1,u2,v1,v2,v3,v4,v5,v6,v7,List.length,u3,u4,Nat.reduceSub,Nat.reduceAdd,List.map]
    all_goals(simp[aZ,bP];done)
   ·refine qs ?_ (hg:=wn bP);refine qs ?_ (hg:=wn bP);refine qs ?_ (hg:=wn bP);refine qu bP ?_;refine qg ?_;refine ae.nil (aX ?_);dsimp only[aD,List.foldl,nth,u2,u1];dsimp only[Fr.au,Fr.put,Fr.clean,Fr.ev,Fr.get,nth,V.look,u1,u2,v1,v2,v3,v4,v5,v6,v7,List.length,u3,u4,Nat.reduceSub,Nat.reduceAdd,List.map]
    all_goals(simp[aZ,bP];done)
 dsimp only[aD,List.foldl,nth,u2,u1];generalize ff 18=Sc;generalize ff 19=Sb;generalize ff 20=Sa;generalize ff 21=R_;generalize ff 22=R9;generalize ff 23=R8;generalize ff 24=R7;generalize ff 25=R6;generalize ff 26=R5;generalize ff 27=R4;generalize ff 28=VE;generalize ff 29=Xd;generalize ff 30=Xc;generalize ff 31=Xb;generalize ff 32=Xa;generalize ff 33=W_;generalize ff 34=W9;generalize ff 35=W8;have LV:(i.rs.isEmpty=!decide ((i.rs.length:Int)>0)):=by cases i.rs<;>simp<;>omega
 have hsh:ct p.code.length p.aF.length pc i=if((i.op !=1) &&decide ((i.rs.length:Int)>0))||((i.op !=2) &&(i.y !=0)) then false else
   (if i.op=1 then(decide (((pc+1:Nat):Int)<p.code.length) &&i.x==0) &&gy i.rs
   else if i.op=2 then i_ i.x p.code.length &&i_ i.y p.code.length
   else if i.op=3 then i_ i.x p.code.length
   else if i.op=4 then decide (((pc+1:Nat):Int)<p.code.length) &&i_ i.x 10
   else if i.op=5 then decide (((pc+1:Nat):Int)<p.code.length) &&i.x==0
   else if i.op=6 then decide (((pc+1:Nat):Int)<p.code.length) &&i.x==0
   else if i.op=7 then i_ i.x p.aF.length
   else false):=by
  unfold ct;rw[LV];generalize decide ((i.rs.length:Int)>0)=b
  by_cases h1:i.op=1
  ·have h2:i.op≠2:=by omega
   simp only[h1];cases b<;>by_cases hy:i.y=0<;>simp[hy]
  ·by_cases h2:i.op=2
   ·simp only[h2];cases b<;>simp
   ·by_cases R1:i.op=5
    ·simp only[R1];cases b<;>by_cases hy:i.y=0<;>simp[hy]
    ·cases b<;>by_cases hy:i.y=0<;>simp[h1,h2,R1,hy]
 rw[hsh];refine qc (fun h0=>?_) (fun h0=>?_)<;>try simp only[cs] at h0
 ·refine qq<|qj fun K hK=>qm ?_;refine qe hK ?_;rw[if_pos h0];refine af.ret ⟨rx,_,rfl,rl bN hH (rfl)⟩
 ·rw[if_neg (by rw[h0];simp)];refine af.skip<|qq<|qq<|qj fun K hK=>qp (o:=0) ?_;refine ql hH aB ?_;refine qe hK<|af.block<|qq<|qj fun K hK=>qg ?_;refine qm ?_;refine qe hK ?_;refine af.cond (by rfl) (fun h1=>?_) (fun h1=>?_)<;>try simp only[beq_iff_eq,beq_eq_false_iff_ne,ne_eq] at h1
  ·rw[if_pos h1];refine qq<|af.jO 4 (.bool ((decide (((pc+1:Nat):Int)<p.code.length) &&(i.x==0)) &&gy i.rs)) [] ?_ (fun ff tmp=>?_)
   ·refine qm ?_;refine qm ?_;refine ae.two 42 rfl (fun da=>?_) (fun da=>?_)
    ·refine qp (o:=1) ?_ (hg:=wi da);refine ql hH aB ?_ (hg:=wi da);refine qg ?_ (hg:=wi da);refine qt da ?_;refine qm ?_;refine ae.two 47 rfl (fun c_=>?_) (fun c_=>?_)
     ·refine qp (o:=3) ?_ (hg:=wi c_);refine ql hH aB ?_ (hg:=wi c_);refine qv (sX (L6.rows hH) hil) ?_ (hg:=wi c_);refine qt c_ ?_;refine qm ?_;refine ae.nil (aX ?_);dsimp only[aD,List.foldl,nth,u2,u1];dsimp only[Fr.au,Fr.put,Fr.clean,Fr.ev,Fr.get,nth,V.look,u1,u2,v1,v2,v3,v4,v5,v6,v7,List.length,u3,u4,Nat.reduceSub,Nat.reduceAdd,List.map]
      all_goals(simp[da,c_];done)
     ·refine qs ?_ (hg:=wn c_);refine qs ?_ (hg:=wn c_);refine qs ?_ (hg:=wn c_);refine qu c_ ?_;refine qm ?_;refine ae.nil (aX ?_);dsimp only[aD,List.foldl,nth,u2,u1];dsimp only[Fr.au,Fr.put,Fr.clean,Fr.ev,Fr.get,nth,V.look,u1,u2,v1,v2,v3,v4,v5,v6,v7,List.length,u3,u4,Nat.reduceSub,Nat.reduceAdd,List.map]
      all_goals(simp[da,c_];done)
    ·refine qs ?_ (hg:=wn da);refine qs ?_ (hg:=wn da);refine qs ?_ (hg:=wn da);refine qu da ?_;refine qm ?_;refine qs ?_;refine qs ?_;refine qs ?_;refine qg ?_;refine qm ?_;refine ae.nil (aX ?_);dsimp only[aD,List.foldl,nth,u2,u1];dsimp only[Fr.au,Fr.put,Fr.clean,Fr.ev,Fr.get,nth,V.look,u1,u2,v1,v2,v3,v4,v5,v6,v7,List.length,u3,u4,Nat.reduceSub,Nat.reduceAdd,List.map]
     all_goals(simp[da];done)
   dsimp only[aD,List.foldl,nth,u2,u1];refine af.ret ⟨rx,_,rfl,rl bN hH (rfl)⟩
  ·rw[if_neg h1];refine qq<|qj fun K hK=>qg ?_;refine qm ?_;refine qe hK ?_;refine af.cond (by rfl) (fun h2=>?_) (fun h2=>?_)<;>try simp only[beq_iff_eq,beq_eq_false_iff_ne,ne_eq] at h2
   ·rw[if_pos h2];refine qq<|af.jO 4 (.bool (i_ i.x p.code.length &&i_ i.y p.code.length)) [] ?_ (fun ff tmp=>?_)
    ·refine qp (o:=1) ?_;refine ql hH aB ?_;refine qp (o:=0) ?_;refine ql hH bu ?_;refine qn ?_;simp only[List.length_map];refine qv (gu _ _) ?_;refine qm ?_;refine ae.two 60 rfl (fun c_=>?_) (fun c_=>?_)
     ·refine qp (o:=2) ?_ (hg:=wi c_);refine ql hH aB ?_ (hg:=wi c_);refine qp (o:=0) ?_ (hg:=wi c_);refine ql hH bu ?_ (hg:=wi c_);refine qn ?_ (hg:=wi c_);simp only[List.length_map];refine qv (gu _ _) ?_ (hg:=wi c_);refine qt c_ ?_;refine qm ?_;refine ae.nil (aX ?_);dsimp only[aD,List.foldl,nth,u2,u1];dsimp only[Fr.au,Fr.put,Fr.clean,Fr.ev,Fr.get,nth,V.look,u1,u2,v1,v2,v3,v4,v5,v6,v7,List.length,u3,u4,Nat.reduceSub,Nat.reduceAdd,List.map]
      all_goals(simp[c_];done)
     ·refine qs ?_ (hg:=wn c_);refine qs ?_ (hg:=wn c_);refine qs ?_ (hg:=wn c_);refine qs ?_ (hg:=wn c_);refine qs ?_ (hg:=wn c_);refine qs ?_ (hg:=wn c_);refine qu c_ ?_;refine qm ?_;refine ae.nil (aX ?_);dsimp only[aD,List.foldl,nth,u2,u1];dsimp only[Fr.au,Fr.put,Fr.clean,Fr.ev,Fr.get,nth,V.look,u1,u2,v1,v2,v3,v4,v5,v6,v7,List.length,u3,u4,Nat.reduceSub,Nat.reduceAdd,List.map]
      all_goals(simp[c_];done)
    dsimp only[aD,List.foldl,nth,u2,u1];refine af.ret ⟨rx,_,rfl,rl bN hH (rfl)⟩
   ·rw[if_neg h2];refine qq<|qj fun K hK=>qg ?_;refine qm ?_;refine qe hK ?_;refine af.cond (by rfl) (fun h3=>?_) (fun h3=>?_)<;>try simp only[beq_iff_eq,beq_eq_false_iff_ne,ne_eq] at h3
    ·rw[if_pos h3];refine qq<|qj fun K hK=>qp (o:=1) ?_;refine ql hH aB ?_;refine qp (o:=0) ?_;refine ql hH bu ?_;refine qn ?_;simp only[List.length_map];refine qv (gu _ _) ?_;refine qm ?_;refine qe hK<|af.ret ⟨rx,_,rfl,rl bN hH (rfl)⟩
    ·rw[if_neg h3];refine qq<|qj fun K hK=>qg ?_;refine qm ?_;refine qe hK ?_;refine af.cond (by rfl) (fun h4=>?_) (fun h4=>?_)<;>try simp only[beq_iff_eq,beq_eq_false_iff_ne,ne_eq] at h4
     ·rw[if_pos h4];refine qq<|af.jO 4 (.bool (decide (((pc+1:Nat):Int)<p.code.length) &&i_ i.x 10)) [] ?_ (fun ff tmp=>?_)
      ·refine qm ?_;refine qm ?_;refine ae.two 79 rfl (fun da=>?_) (fun da=>?_)
       ·refine qp (o:=1) ?_ (hg:=wi da);refine ql hH aB ?_ (hg:=wi da);refine qv (gu _ _) ?_ (hg:=wi da);refine qt da ?_;refine qm ?_;refine ae.nil (aX ?_);dsimp only[aD,List.foldl,nth,u2,u1];dsimp only[Fr.au,Fr.put,Fr.clean,Fr.ev,Fr.get,nth,V.look,u1,u2,v1,v2,v3,v4,v5,v6,v7,List.length,u3,u4,Nat.reduceSub,Nat.reduceAdd,List.map]
        all_goals(simp[da];done)
       ·refine qs ?_ (hg:=wn da);refine qs ?_ (hg:=wn da);refine qs ?_ (hg:=wn da);refine qu da ?_;refine qm ?_;refine ae.nil (aX ?_);dsimp only[aD,List.foldl,nth,u2,u1];dsimp only[Fr.au,Fr.put,Fr.clean,Fr.ev,Fr.get,nth,V.look,u1,u2,v1,v2,v3,v4,v5,v6,v7,List.length,u3,u4,Nat.reduceSub,Nat.reduceAdd,List.map]
        all_goals(simp[da];done)
      dsimp only[aD,List.foldl,nth,u2,u1];refine af.ret ⟨rx,_,rfl,rl bN hH (rfl)⟩
     ·rw[if_neg h4];refine qq<|qq<|qj fun K hK=>qg ?_;refine qm ?_;refine qe hK ?_
      by_cases h5:i.op=5
      ·rw[if_pos h5];refine qD rfl (by simp[h5]) ?_;refine af.skip<|qD rfl (by simp[h5]) ?_;refine qq<|af.jO 4 (.bool (decide (((pc+1:Nat):Int)<p.code.length) &&(i.x==0))) [] ?_ (fun ff tmp=>?_)
       ·refine qm ?_;refine qm ?_;refine ae.two 88 rfl (fun da=>?_) (fun da=>?_)
        ·refine qp (o:=1) ?_ (hg:=wi da);refine ql hH aB ?_ (hg:=wi da);refine qg ?_ (hg:=wi da);refine qt da ?_;refine qm ?_;refine ae.nil (aX ?_);dsimp only[aD,List.foldl,nth,u2,u1];dsimp only[Fr.au,Fr.put,Fr.clean,Fr.ev,Fr.get,nth,V.look,u1,u2,v1,v2,v3,v4,v5,v6,v7,List.length,u3,u4,Nat.reduceSub,Nat.reduceAdd,List.map]
         all_goals(simp[da];done)
        ·refine qs ?_ (hg:=wn da);refine qs ?_ (hg:=wn da);refine qs ?_ (hg:=wn da);refine qu da ?_;refine qm ?_;refine ae.nil (aX ?_);dsimp only[aD,List.foldl,nth,u2,u1];dsimp only[Fr.au,Fr.put,Fr.clean,Fr.ev,Fr.get,nth,V.look,u1,u2,v1,v2,v3,v4,v5,v6,v7,List.length,u3,u4,Nat.reduceSub,Nat.reduceAdd,List.map]
         all_goals(simp[da];done)
       dsimp only[aD,List.foldl,nth,u2,u1];refine af.ret ⟨rx,_,rfl,rl bN hH (rfl)⟩
      ·rw[if_neg h5];refine qE rfl (by simp[h5]) ?_;refine qj fun K hK=>qg ?_;refine qm ?_;refine qe hK ?_;refine af.cond (by rfl) (fun h6=>?_) (fun h6=>?_)<;>try simp only[beq_iff_eq,beq_eq_false_iff_ne,ne_eq] at h6
       ·rw[if_pos h6];refine qq<|af.jO 4 (.bool (decide (((pc+1:Nat):Int)<p.code.length) &&(i.x==0))) [] ?_ (fun ff tmp=>?_)
        ·refine qm ?_;refine qm ?_;refine ae.two 88 rfl (fun da=>?_) (fun da=>?_)
         ·refine qp (o:=1) ?_ (hg:=wi da);refine ql hH aB ?_ (hg:=wi da);refine qg ?_ (hg:=wi da);refine qt da ?_;refine qm ?_;refine ae.nil (aX ?_);dsimp only[aD,List.foldl,nth,u2,u1];dsimp only[Fr.au,Fr.put,Fr.clean,Fr.ev,Fr.get,nth,V.look,u1,u2,v1,v2,v3,v4,v5,v6,v7,List.length,u3,u4,Nat.reduceSub,Nat.reduceAdd,List.map]
          all_goals(simp[da];done)
         ·refine qs ?_ (hg:=wn da);refine qs ?_ (hg:=wn da);refine qs ?_ (hg:=wn da);refine qu da ?_;refine qm ?_;refine ae.nil (aX ?_);dsimp only[aD,List.foldl,nth,u2,u1];dsimp only[Fr.au,Fr.put,Fr.clean,Fr.ev,Fr.get,nth,V.look,u1,u2,v1,v2,v3,v4,v5,v6,v7,List.length,u3,u4,Nat.reduceSub,Nat.reduceAdd,List.map]
          all_goals(simp[da];done)
        dsimp only[aD,List.foldl,nth,u2,u1];refine af.ret ⟨rx,_,rfl,rl bN hH (rfl)⟩
       ·rw[if_neg h6];refine qq<|qj fun K hK=>qg ?_;refine qm ?_;refine qe hK ?_;refine af.cond (by rfl) (fun h7=>?_) (fun h7=>?_)<;>try simp only[beq_iff_eq,beq_eq_false_iff_ne,ne_eq] at h7
        ·rw[if_pos h7];refine qq<|qj fun K hK=>qp (o:=1) ?_;refine ql hH aB ?_;refine qp (o:=1) ?_;refine ql hH bu ?_;refine qn ?_;simp only[List.length_map];refine qv (gu _ _) ?_;refine qm ?_;refine qe hK<|af.ret ⟨rx,_,rfl,rl bN hH (rfl)⟩
        ·rw[if_neg h7];refine af.skip<|qq<|qj fun K hK=>qm ?_;refine qe hK<|af.ret ⟨rx,_,rfl,rl bN hH (rfl)⟩
def eo (fr:Go.V.Fr) (k:Nat):Go.V.D:=Go.V.nth .bA fr.loc k
theorem IQ {s0:St} {p:Pg} {pc:Nat} {i:bC} (hp:p.ok) (hi:p.code[pc]?=some i):Ev pv 47 [p.d,.int .i64 (pc:Nat)] s0 (.bool (ct p.code.length p.aF.length pc i)) s0:=by
 refine Ev.j8 rfl P_ rfl rfl rfl ?_;dsimp only[u3,u4,List.length,Nat.reduceSub,Nat.reduceAdd,w1,w2];obtain⟨bN,hF,hH⟩:=ri s0;generalize aj .ro s0=S at*;have hc:=hp.c.arg s0.bs.length S;have hs:=hp.s.arg s0.bs.length S;have Kk:=hp.i i (List.mem_of_getElem? hi);have tO:=Kk.1;have L6:=Kk.1.arg s0.bs.length S;have hil:=Kk.2;have hcl:=hp.cl;have jb:=hp.sl;have hr:=fO hi;have hlt:=cn hi;unfold Pg.d;refine qq<|qj fun K hK=>qb hH fun k2 st hk2 hH=>?_;dsimp only[u2,u1,u3,u4,setMany,u5,u6,D.cells,Nat.reduceAdd,Pg.cs,aL,aq] at hH;refine qm ?_;refine qe hK<|qq<|qj fun K hK=>qp (o:=0) ?_;refine ql hH aB ?_;refine qm ?_;refine qr fun Q3 LI=>?_;refine ae.dt rfl (ev rfl) (by assumption) rfl (by dsimp only[Fr.put,u1,u2]<;>rfl) ?_;refine qa hH fun k5 st L2 hH=>?_;refine qS hH aB fun st hH=>?_;dsimp only[u2,u1,u3,u4,setMany,u5,u6,D.cells,Nat.reduceAdd,Pg.cs,aL,aq] at hH;refine qe hK<|qq<|qj fun K hK=>qp (o:=0) ?_;refine ql hH bu ?_;refine qn ?_;simp only[List.length_map];refine qm ?_;refine qe hK<|qq<|qj fun K hK=>qp (o:=0) ?_;refine ql hH aB ?_;refine ae.go (d:=.agg [.int .i64 i.op,.int .i64 0,.int .i64 0,.nul]) (st1:=_) rfl rfl rfl (by dsimp only[Fr.put,u1,u2]<;>rfl) ?_;refine qa hH fun k7 st M1 hH=>?_;refine qS hH aB fun st hH=>?_;dsimp only[u2,u1,u3,u4,setMany,u5,u6,D.cells,Nat.reduceAdd,Pg.cs,aL,aq] at hH;refine qe hK<|qq<|qj fun K hK=>qm ?_;refine qe hK<|qq<|qq<|qj fun K hK=>qp (o:=0) ?_;refine ql hH bu ?_;refine qe hK<|af.merge (fun fr st=>∃(bx bz:Int) (QC:D) (fl:Bool) (Na:List Rg) (tmp:List (Nat×D)),fr=⟨22,[eo fr 0,.int .i64 (pc:Nat),.ptr k2 0 0,eo fr 3,.bool false,.ptr k5 0 0,.int .i64 (p.code.length:Nat),.ptr k7 0 0,.bool fl,eo fr 9,eo fr 10,eo fr 11,eo fr 12,eo fr 13,eo fr 14,eo fr 15,eo fr 16,eo fr 17,eo fr 18,eo fr 19,eo fr 20,eo fr 21],tmp⟩∧Has s0.bs.length S st [.box k7 (.mem 0 false [.int .i64 i.op,.int .i64 bx,.int .i64 bz,QC]),.box k5 (.mem 0 false [.int .i64 i.op,.int .i64 i.x,.int .i64 i.y,i.rd]),.box k2 (.mem 0 false [p.cd,p.sd])]∧(gq QC 2 (Na.map aw))∧(ct p.code.length p.aF.length pc i=(((i.x==bx) &&(i.y==bz)) &&((i.rs.length:Int)==Na.length) &&(!fl||decide (((pc+1:Nat):Int)<p.code.length))))) ?_ ?_
 ·refine af.block<|qq<|qj fun K hK=>qg ?_;refine qm ?_;refine qe hK ?_;refine af.cond (by rfl) (fun h1=>?_) (fun h1=>?_)<;>try simp only[beq_iff_eq,beq_eq_false_iff_ne,ne_eq] at h1
  ·have kO:ct p.code.length p.aF.length pc i=(i.y==0 &&(decide (((pc+1:Nat):Int)<p.code.length) &&i.x==0 &&gy i.rs)):=by unfold ct;rw[if_pos h1]
   refine qq<|qj fun K hK=>qp (o:=3) ?_;refine ql hH bu ?_;refine qp (o:=3) ?_;refine qT hH aB fun st hH=>?_;dsimp only[u2,u1,u3,u4,setMany,u5,u6,D.cells,Nat.reduceAdd,Pg.cs,aL,aq] at hH;refine qe hK<|qq<|af.eY 30 (.bool (!gy i.rs)) [] ?_ (fun ff tmp d_=>?_)
   ·refine qp (o:=3) ?_;refine ql hH bu ?_;refine qv (s_ (L6.rows hH) hil) ?_;refine qg ?_;refine ae.nil (bq ?_ ?_)
    ·dsimp only[aD,List.foldl,nth,u2,u1]
     all_goals(first|rfl|simp)
    ·dsimp only[Fr.au,Fr.put,Fr.clean,Fr.ev,Fr.get,nth,V.look,u1,u2,v1,v2,v3,v4,v5,v6,v7,List.length,u3,u4,Nat.reduceSub,Nat.reduceAdd,List.map]
     all_goals(first|rfl|(simp[];done)|(simp_all;done)|(simp[];omega)|(simp_all;omega))
   dsimp only[aD,List.foldl,nth,u2,u1];refine af.cond (by assumption) (fun h2=>?_) (fun h2=>?_)<;>try simp only[Bool.not_eq_true',Bool.not_eq_false'] at h2
   ·refine qq<|qj fun K hK=>qm ?_;refine qe hK ?_;rw[kO,h2];simp only[Bool.and_false];refine af.ret ⟨rx,_,rfl,rl bN hH (rfl)⟩
   ·refine af.skip ?_;refine⟨0,0,i.rd,true,i.rs,_,rfl,hH,tO,?_⟩;rw[kO,h2];cases hx:(i.x==0)<;>cases hy:(i.y==0)<;>simp
  ·have kO:ct p.code.length p.aF.length pc i=(i.rs.isEmpty &&(if i.op=2 then i_ i.x p.code.length &&i_ i.y p.code.length
  else i.y==0 &&
   (if i.op=3 then i_ i.x p.code.length
   else if i.op=4 then decide (((pc+1:Nat):Int)<p.code.length) &&i_ i.x 10
   else if i.op=5∨i.op=6 then decide (((pc+1:Nat):Int)<p.code.length) &&i.x==0
   else if i.op=7 then i_ i.x p.aF.length
   else false))):=by unfold ct;rw[if_neg h1]
   have Ey:i.rs.isEmpty=((i.rs.length:Int)==(([]:List Rg).length:Int)):=by cases i.rs<;>simp<;>omega
   have zL:gq .nul 2 (([]:List Rg).map aw):=.inl ⟨rfl,rfl⟩;refine qq<|qj fun K hK=>qg ?_;refine qm ?_;refine qe hK ?_;refine af.cond (by rfl) (fun h2=>?_) (fun h2=>?_)<;>try simp only[beq_iff_eq,beq_eq_false_iff_ne,ne_eq] at h2
   ·rw[if_pos h2] at kO;refine qq<|qj fun K hK=>qm ?_;refine qe hK ?_;have cy:=hH;change af _ _ _ _ _ _;refine qq ?_;generalize hK:ba _ _ _ _=K;refine af.Np rfl ?_;refine uA.cons ?_;refine qp (o:=1) ?_;refine ae.nil ⟨rfl,?_⟩;refine uA.cons ?_;refine ql hH bu ?_;refine ae.nil ⟨rfl,?_⟩;refine uA.cons ?_;refine qp (o:=2) ?_;refine ae.nil ⟨rfl,?_⟩;refine uA.cons ?_;refine ql hH bu ?_;refine ae.nil ⟨rfl,?_⟩;refine uA.cons ?_;refine qp (o:=1) ?_;refine ae.nil ⟨rfl,?_⟩;refine uA.cons ?_;refine qT hH aB fun st hH=>?_;dsimp only[u2,u1,u3,u4,setMany,u5,u6,D.cells,Nat.reduceAdd,Pg.cs,aL,aq] at hH;refine ae.nil ⟨by exact Bool.and_eq_true_iff.2 ⟨ym rfl rfl rfl (cy.at bu) (hH.at bu) (cy.at bu) (by simp[refs,D.ref,tO.ref]),rfl⟩,?_⟩;refine uA.cons ?_;refine qp (o:=2) ?_;refine ae.nil ⟨rfl,?_⟩;refine uA.cons ?_;refine qT hH aB fun st hH=>?_;dsimp only[u2,u1,u3,u4,setMany,u5,u6,D.cells,Nat.reduceAdd,Pg.cs,aL,aq] at hH;refine ae.nil ⟨rfl,?_⟩;refine uA.nil ?_;subst hK;refine qq<|af.eY 58 (.bool (((decide (i.x<0)||decide (i.x≥p.code.length))||decide (i.y<0))||decide (i.y≥p.code.length))) [] ?_ (fun ff tmp d_=>?_)
    ·refine qp (o:=1) ?_;refine ql hH bu ?_;refine qg ?_;refine qm ?_;refine ae.two 42 rfl (fun aZ=>?_) (fun aZ=>?_)
     ·refine qs ?_ (hg:=wn aZ);refine qs ?_ (hg:=wn aZ);refine qs ?_ (hg:=wn aZ);refine qs ?_ (hg:=wn aZ);refine qt aZ ?_;refine qm ?_;refine qs ?_;refine qs ?_;refine qs ?_;refine qg ?_;refine qm ?_;refine qs ?_;refine qs ?_;refine qs ?_;refine qs ?_;refine qg ?_;refine ae.nil (bq ?_ ?_)
      ·dsimp only[aD,List.foldl,nth,u2,u1]
       all_goals(first|rfl|simp)
      ·dsimp only[Fr.au,Fr.put,Fr.clean,Fr.ev,Fr.get,nth,V.look,u1,u2,v1,v2,v3,v4,v5,v6,v7,List.length,u3,u4,Nat.reduceSub,Nat.reduceAdd,List.map]
       all_goals(simp[aZ];done)
     ·refine qp (o:=1) ?_ (hg:=wi aZ);refine ql hH bu ?_ (hg:=wi aZ);refine qm ?_ (hg:=wi aZ);refine qg ?_ (hg:=wi aZ);refine qu aZ ?_;refine qm ?_;refine ae.two 48 rfl (fun b8=>?_) (fun b8=>?_)
      ·refine qs ?_ (hg:=wn b8);refine qs ?_ (hg:=wn b8);refine qs ?_ (hg:=wn b8);refine qt b8 ?_;refine qm ?_;refine qs ?_;refine qs ?_;refine qs ?_;refine qs ?_;refine qg ?_;refine ae.nil (bq ?_ ?_)
       ·dsimp only[aD,List.foldl,nth,u2,u1]
        all_goals(first|rfl|simp)
       ·dsimp only[Fr.au,Fr.put,Fr.clean,Fr.ev,Fr.get,nth,V.look,u1,u2,v1,v2,v3,v4,v5,v6,v7,List.length,u3,u4,Nat.reduceSub,Nat.reduceAdd,List.map]
        all_goals(simp[aZ,b8];done)
      ·refine qp (o:=2) ?_ (hg:=wi b8);refine ql hH bu ?_ (hg:=wi b8);refine qg ?_ (hg:=wi b8);refine qu b8 ?_;refine qm ?_;refine ae.two 53 rfl (fun cp=>?_) (fun cp=>?_)
       ·refine qs ?_ (hg:=wn cp);refine qs ?_ (hg:=wn cp);refine qs ?_ (hg:=wn cp);refine qs ?_ (hg:=wn cp);refine qt cp ?_;refine ae.nil (bq ?_ ?_)
        ·dsimp only[aD,List.foldl,nth,u2,u1]
         all_goals(first|rfl|simp)
        ·dsimp only[Fr.au,Fr.put,Fr.clean,Fr.ev,Fr.get,nth,V.look,u1,u2,v1,v2,v3,v4,v5,v6,v7,List.length,u3,u4,Nat.reduceSub,Nat.reduceAdd,List.map]
         all_goals(simp[aZ,b8,cp];done)
       ·refine qp (o:=2) ?_ (hg:=wi cp);refine ql hH bu ?_ (hg:=wi cp);refine qm ?_ (hg:=wi cp);refine qg ?_ (hg:=wi cp);refine qu cp ?_;refine ae.nil (bq ?_ ?_)
        ·dsimp only[aD,List.foldl,nth,u2,u1]
         all_goals(first|rfl|simp)
        ·dsimp only[Fr.au,Fr.put,Fr.clean,Fr.ev,Fr.get,nth,V.look,u1,u2,v1,v2,v3,v4,v5,v6,v7,List.length,u3,u4,Nat.reduceSub,Nat.reduceAdd,List.map]
         all_goals(simp[aZ,b8,cp];done)
    dsimp only[aD,List.foldl,nth,u2,u1]
    have rH:(i_ i.x p.code.length &&i_ i.y p.code.length)=!(((decide (i.x<0)||decide (i.x≥p.code.length))||decide (i.y<0))||decide (i.y≥p.code.length)):=by
     unfold i_;simp only[Bool.not_or,←decide_not,Int.not_lt,Int.not_le,ge_iff_le,Bool.and_assoc]
    refine qc (fun h3=>?_) (fun h3=>?_)<;>try simp only[cs] at h3
    ·refine qq<|qj fun K hK=>qm ?_;refine qe hK ?_;rw[kO,rH,h3];simp only[Bool.not_true,Bool.and_false];refine af.ret ⟨rx,_,rfl,rl bN hH (rfl)⟩
    ·refine af.skip ?_;exact⟨i.x,i.y,.nul,false,[],_,rfl,hH,zL,by rw[kO,rH,h3,Ey];simp⟩
   ·rw[if_neg h2] at kO;refine qq<|qj fun K hK=>qg ?_;refine qm ?_;refine qe hK ?_;refine af.cond (by rfl) (fun h3=>?_) (fun h3=>?_)<;>try simp only[beq_iff_eq,beq_eq_false_iff_ne,ne_eq] at h3
    ·rw[if_pos h3] at kO;refine qq<|qj fun K hK=>qm ?_;refine qe hK<|qq<|qj fun K hK=>qp (o:=1) ?_;refine ql hH bu ?_;refine qp (o:=1) ?_;refine qT hH aB fun st hH=>?_;dsimp only[u2,u1,u3,u4,setMany,u5,u6,D.cells,Nat.reduceAdd,Pg.cs,aL,aq] at hH;refine qe hK<|qq<|af.eY 72 (.bool (decide (i.x<0)||decide (i.x≥p.code.length))) [] ?_ (fun ff tmp d_=>?_)
     ·refine qp (o:=1) ?_;refine ql hH bu ?_;refine qg ?_;refine qm ?_;refine ae.two 67 rfl (fun aZ=>?_) (fun aZ=>?_)
      ·refine qs ?_ (hg:=wn aZ);refine qs ?_ (hg:=wn aZ);refine qs ?_ (hg:=wn aZ);refine qs ?_ (hg:=wn aZ);refine qt aZ ?_;refine ae.nil (bq ?_ ?_)
       ·dsimp only[aD,List.foldl,nth,u2,u1]
        all_goals(first|rfl|simp)
       ·dsimp only[Fr.au,Fr.put,Fr.clean,Fr.ev,Fr.get,nth,V.look,u1,u2,v1,v2,v3,v4,v5,v6,v7,List.length,u3,u4,Nat.reduceSub,Nat.reduceAdd,List.map]
        all_goals(simp[aZ];done)
      ·refine qp (o:=1) ?_ (hg:=wi aZ);refine ql hH bu ?_ (hg:=wi aZ);refine qm ?_ (hg:=wi aZ);refine qg ?_ (hg:=wi aZ);refine qu aZ ?_;refine ae.nil (bq ?_ ?_)
       ·dsimp only[aD,List.foldl,nth,u2,u1]
        all_goals(first|rfl|simp)
       ·dsimp only[Fr.au,Fr.put,Fr.clean,Fr.ev,Fr.get,nth,V.look,u1,u2,v1,v2,v3,v4,v5,v6,v7,List.length,u3,u4,Nat.reduceSub,Nat.reduceAdd,List.map]
        all_goals(simp[aZ];done)
     dsimp only[aD,List.foldl,nth,u2,u1]
     have rH:i_ i.x p.code.length=!(decide (i.x<0)||decide (i.x≥p.code.length)):=by
      unfold i_;simp only[Bool.not_or,←decide_not,Int.not_lt,Int.not_le,ge_iff_le]
     refine qc (fun h4=>?_) (fun h4=>?_)<;>try simp only[cs] at h4
     ·refine qq<|qj fun K hK=>qm ?_;refine qe hK ?_;rw[kO,rH,h4];simp only[Bool.not_true,Bool.and_false];refine af.ret ⟨rx,_,rfl,rl bN hH (rfl)⟩
     ·refine af.skip ?_;exact⟨i.x,0,.nul,false,[],_,rfl,hH,zL,by rw[kO,rH,h4,Ey];cases(i.y==0)<;>simp⟩
    ·rw[if_neg h3] at kO;refine qq<|qj fun K hK=>qg ?_;refine qm ?_;refine qe hK ?_;refine af.cond (by rfl) (fun h4=>?_) (fun h4=>?_)<;>try simp only[beq_iff_eq,beq_eq_false_iff_ne,ne_eq] at h4
     ·rw[if_pos h4] at kO;refine qq<|qj fun K hK=>qp (o:=1) ?_;refine ql hH bu ?_;refine qp (o:=1) ?_;refine qT hH aB fun st hH=>?_;dsimp only[u2,u1,u3,u4,setMany,u5,u6,D.cells,Nat.reduceAdd,Pg.cs,aL,aq] at hH;refine qe hK<|qq<|af.eY 85 (.bool (decide (i.x<0)||decide (i.x≥10))) [] ?_ (fun ff tmp d_=>?_)
      ·refine qp (o:=1) ?_;refine ql hH bu ?_;refine qg ?_;refine qm ?_;refine ae.two 81 rfl (fun aZ=>?_) (fun aZ=>?_)
       ·refine qs ?_ (hg:=wn aZ);refine qs ?_ (hg:=wn aZ);refine qs ?_ (hg:=wn aZ);refine qt aZ ?_;refine ae.nil (bq ?_ ?_)
        ·dsimp only[aD,List.foldl,nth,u2,u1]
         all_goals(first|rfl|simp)
        ·dsimp only[Fr.au,Fr.put,Fr.clean,Fr.ev,Fr.get,nth,V.look,u1,u2,v1,v2,v3,v4,v5,v6,v7,List.length,u3,u4,Nat.reduceSub,Nat.reduceAdd,List.map]
         all_goals(simp[aZ];done)
       ·refine qp (o:=1) ?_ (hg:=wi aZ);refine ql hH bu ?_ (hg:=wi aZ);refine qg ?_ (hg:=wi aZ);refine qu aZ ?_;refine ae.nil (bq ?_ ?_)
        ·dsimp only[aD,List.foldl,nth,u2,u1]
         all_goals(first|rfl|simp)
        ·dsimp only[Fr.au,Fr.put,Fr.clean,Fr.ev,Fr.get,nth,V.look,u1,u2,v1,v2,v3,v4,v5,v6,v7,List.length,u3,u4,Nat.reduceSub,Nat.reduceAdd,List.map]
         all_goals(simp[aZ];done)
      dsimp only[aD,List.foldl,nth,u2,u1]
      have rH:i_ i.x 10=!(decide (i.x<0)||decide (i.x≥10)):=by
       unfold i_;simp only[Bool.not_or,←decide_not,Int.not_lt,Int.not_le,ge_iff_le]
      refine qc (fun h5=>?_) (fun h5=>?_)<;>try simp only[cs] at h5
      ·refine qq<|qj fun K hK=>qm ?_;refine qe hK ?_;rw[kO,rH,h5];simp only[Bool.not_true,Bool.and_false];refine af.ret ⟨rx,_,rfl,rl bN hH (rfl)⟩
      ·refine af.skip ?_;exact⟨i.x,0,.nul,true,[],_,rfl,hH,zL,by rw[kO,rH,h5,Ey];cases(i.y==0)<;>simp⟩
     ·rw[if_neg h4] at kO;refine qq<|qq<|qj fun K hK=>qg ?_;refine qm ?_;refine qe hK ?_
      by_cases h5:i.op=5
      ·rw[if_pos (.inl h5)] at kO;refine qD rfl (by simp[h5]) ?_;refine af.skip<|qD rfl (by simp[h5]) ?_;refine af.skip ?_;exact⟨0,0,.nul,true,[],_,rfl,hH,zL,by rw[kO,Ey];cases(i.y==0)<;>cases(i.x==0)<;>simp⟩
      ·refine qE rfl (by simp[h5]) ?_;refine qj fun K hK=>qg ?_;refine qm ?_;refine qe hK ?_;refine af.cond (by rfl) (fun h6=>?_) (fun h6=>?_)<;>try simp only[beq_iff_eq,beq_eq_false_iff_ne,ne_eq] at h6
       ·rw[if_pos (.inr h6)] at kO;refine af.skip ?_;exact⟨0,0,.nul,true,[],_,rfl,hH,zL,by rw[kO,Ey];cases(i.y==0)<;>cases(i.x==0)<;>simp⟩
       ·rw[if_neg (by omega)] at kO;refine qq<|qj fun K hK=>qg ?_;refine qm ?_;refine qe hK ?_;refine af.cond (by rfl) (fun h7=>?_) (fun h7=>?_)<;>try simp only[beq_iff_eq,beq_eq_false_iff_ne,ne_eq] at h7
        ·rw[if_pos h7] at kO;refine qq<|qj fun K hK=>qm ?_;refine qe hK<|qq<|qj fun K hK=>qp (o:=1) ?_;refine ql hH bu ?_;refine qp (o:=1) ?_;refine qT hH aB fun st hH=>?_;dsimp only[u2,u1,u3,u4,setMany,u5,u6,D.cells,Nat.reduceAdd,Pg.cs,aL,aq] at hH;refine qe hK<|qq<|af.eY 104 (.bool (decide (i.x<0)||decide (i.x≥p.aF.length))) [] ?_ (fun ff tmp d_=>?_)
         ·refine qp (o:=1) ?_;refine ql hH bu ?_;refine qg ?_;refine qm ?_;refine ae.two 97 rfl (fun aZ=>?_) (fun aZ=>?_)
          ·refine qs ?_ (hg:=wn aZ);refine qs ?_ (hg:=wn aZ);refine qs ?_ (hg:=wn aZ);refine qs ?_ (hg:=wn aZ);refine qs ?_ (hg:=wn aZ);refine qs ?_ (hg:=wn aZ);refine qt aZ ?_;refine ae.nil (bq ?_ ?_)
           ·dsimp only[aD,List.foldl,nth,u2,u1]
            all_goals(first|rfl|simp)
           ·dsimp only[Fr.au,Fr.put,Fr.clean,Fr.ev,Fr.get,nth,V.look,u1,u2,v1,v2,v3,v4,v5,v6,v7,List.length,u3,u4,Nat.reduceSub,Nat.reduceAdd,List.map]
            all_goals(simp[aZ];done)
          ·refine qp (o:=1) ?_ (hg:=wi aZ);refine ql hH bu ?_ (hg:=wi aZ);refine qp (o:=1) ?_ (hg:=wi aZ);refine ql hH ez ?_ (hg:=wi aZ);refine qn ?_ (hg:=wi aZ);simp only[List.length_map];refine qg ?_ (hg:=wi aZ);refine qu aZ ?_;refine ae.nil (bq ?_ ?_)
           ·dsimp only[aD,List.foldl,nth,u2,u1]
            all_goals(first|rfl|simp)
           ·dsimp only[Fr.au,Fr.put,Fr.clean,Fr.ev,Fr.get,nth,V.look,u1,u2,v1,v2,v3,v4,v5,v6,v7,List.length,u3,u4,Nat.reduceSub,Nat.reduceAdd,List.map]
            all_goals(simp[aZ];done)
         dsimp only[aD,List.foldl,nth,u2,u1]
         have rH:i_ i.x p.aF.length=!(decide (i.x<0)||decide (i.x≥p.aF.length)):=by
          unfold i_;simp only[Bool.not_or,←decide_not,Int.not_lt,Int.not_le,ge_iff_le]
         refine qc (fun h8=>?_) (fun h8=>?_)<;>try simp only[cs] at h8
         ·refine qq<|qj fun K hK=>qm ?_;refine qe hK ?_;rw[kO,rH,h8];simp only[Bool.not_true,Bool.and_false];refine af.ret ⟨rx,_,rfl,rl bN hH (rfl)⟩
         ·refine af.skip ?_;exact⟨i.x,0,.nul,false,[],_,rfl,hH,zL,by rw[kO,rH,h8,Ey];cases(i.y==0)<;>simp⟩
        ·rw[if_neg h7] at kO;refine qq<|qj fun K hK=>qm ?_;refine qe hK ?_;rw[kO];simp only[Bool.and_false];refine af.ret ⟨rx,_,rfl,rl bN hH (rfl)⟩
 ·rintro fr st ⟨bx,bz,QC,fl,Na,tmp,hfr,hH,RV,hsh⟩;rw[hfr];clear hfr;generalize eo fr=ee;clear fr;have Vj:=RV.arg s0.bs.length S;refine qq<|af.jO 4 (.bool ((((i.x==bx) &&(i.y==bz)) &&((i.rs.length:Int)==Na.length)) &&(!fl||decide (((pc+1:Nat):Int)<p.code.length)))) [] ?_ (fun ff tmp=>?_)
  ·refine qp (o:=1) ?_;refine ql hH bu ?_;refine qp (o:=1) ?_;refine ql hH aB ?_;refine qg ?_;refine qm ?_;refine ae.two 110 rfl (fun bc=>?_) (fun bc=>?_)
   ·refine qp (o:=2) ?_ (hg:=wi bc);refine ql hH bu ?_ (hg:=wi bc);refine qp (o:=2) ?_ (hg:=wi bc);refine ql hH aB ?_ (hg:=wi bc);refine qg ?_ (hg:=wi bc);refine qt bc ?_;refine qm ?_;refine ae.two 117 rfl (fun cY=>?_) (fun cY=>?_)
    ·refine qp (o:=3) ?_ (hg:=wi cY);refine ql hH bu ?_ (hg:=wi cY);refine qn ?_ (hg:=wi cY);simp only[List.length_map];refine qp (o:=3) ?_ (hg:=wi cY);refine ql hH aB ?_ (hg:=wi cY);refine qn ?_ (hg:=wi cY);simp only[List.length_map];refine qg ?_ (hg:=wi cY);refine qt cY ?_;refine qm ?_;refine ae.two 126 rfl (fun kl=>?_) (fun kl=>?_)
     ·refine qm ?_ (hg:=wi kl);refine qg ?_ (hg:=wi kl);refine qm ?_ (hg:=wi kl);refine ae.two 129 rfl (fun eN=>?_) (fun eN=>?_)
      ·refine qs ?_ (hg:=wn eN);refine qs ?_ (hg:=wn eN);refine qs ?_ (hg:=wn eN);refine qs ?_ (hg:=wn eN);refine ae.dA (aH rfl rfl rfl kl) rfl eN (ag rfl _) ?_;refine qt kl ?_;refine qm ?_;refine ae.nil (aX ?_);dsimp only[aD,List.foldl,nth,u2,u1];dsimp only[Fr.au,Fr.put,Fr.clean,Fr.ev,Fr.get,nth,V.look,u1,u2,v1,v2,v3,v4,v5,v6,v7,List.length,u3,u4,Nat.reduceSub,Nat.reduceAdd,List.map]
       all_goals(simp[bc,cY,kl,eN];done)
      ·refine qm ?_ (hg:=wi eN);refine qA ?_ (hg:=wi eN);refine qm ?_ (hg:=wi eN);refine qg ?_ (hg:=wi eN);refine ae.cV (aH rfl rfl rfl kl) rfl eN (ag rfl _) ?_;refine qt kl ?_;refine qm ?_;refine ae.nil (aX ?_);dsimp only[aD,List.foldl,nth,u2,u1];dsimp only[Fr.au,Fr.put,Fr.clean,Fr.ev,Fr.get,nth,V.look,u1,u2,v1,v2,v3,v4,v5,v6,v7,List.length,u3,u4,Nat.reduceSub,Nat.reduceAdd,List.map]
       all_goals(simp[bc,cY,kl,eN];done)
     ·refine qs ?_ (hg:=wn kl);refine qs ?_ (hg:=wn kl);refine qs ?_ (hg:=wn kl);refine qs ?_;refine qs ?_;refine qs ?_;refine qs ?_;refine qs ?_ (hg:=wn kl);refine qu kl ?_;refine qm ?_;refine ae.nil (aX ?_);dsimp only[aD,List.foldl,nth,u2,u1];dsimp only[Fr.au,Fr.put,Fr.clean,Fr.ev,Fr.get,nth,V.look,u1,u2,v1,v2,v3,v4,v5,v6,v7,List.length,u3,u4,Nat.reduceSub,Nat.reduceAdd,List.map]
      all_goals(simp[bc,cY,kl];done)
    ·refine qs ?_ (hg:=wn cY);refine qs ?_ (hg:=wn cY);refine qs ?_ (hg:=wn cY);refine qs ?_ (hg:=wn cY);refine qs ?_ (hg:=wn cY);refine qs ?_ (hg:=wn cY);refine qs ?_ (hg:=wn cY);refine qu cY ?_;refine qm ?_;refine qs ?_;refine qs ?_;refine qs ?_;refine qs ?_;refine qs ?_;refine qs ?_;refine qs ?_;refine qs ?_;refine qg ?_;refine qm ?_;refine ae.nil (aX ?_);dsimp only[aD,List.foldl,nth,u2,u1];dsimp only[Fr.au,Fr.put,Fr.clean,Fr.ev,Fr.get,nth,V.look,u1,u2,v1,v2,v3,v4,v5,v6,v7,List.length,u3,u4,Nat.reduceSub,Nat.reduceAdd,List.map]
     all_goals(simp[bc,cY];done)
   ·refine qs ?_ (hg:=wn bc);refine qs ?_ (hg:=wn bc);refine qs ?_ (hg:=wn bc);refine qs ?_ (hg:=wn bc);refine qs ?_ (hg:=wn bc);refine qu bc ?_;refine qm ?_;refine qs ?_;refine qs ?_;refine qs ?_;refine qs ?_;refine qs ?_;refine qs ?_;refine qs ?_;refine qg ?_;refine qm ?_;refine qs ?_;refine qs ?_;refine qs ?_;refine qs ?_;refine qs ?_;refine qs ?_;refine qs ?_;refine qs ?_;refine qg ?_;refine qm ?_;refine ae.nil (aX ?_);dsimp only[aD,List.foldl,nth,u2,u1];dsimp only[Fr.au,Fr.put,Fr.clean,Fr.ev,Fr.get,nth,V.look,u1,u2,v1,v2,v3,v4,v5,v6,v7,List.length,u3,u4,Nat.reduceSub,Nat.reduceAdd,List.map]
    all_goals(simp[bc];done)
  dsimp only[aD,List.foldl,nth,u2,u1];rw[hsh];refine af.ret ⟨rx,_,rfl,rl bN hH (rfl)⟩
def aO (fr:Go.V.Fr) (k:Nat):Go.V.D:=Go.V.nth .bA fr.loc k
def aM (b:Bool):List D:=[.bool b]
theorem iB {l:List Bool} {i:Nat} {q:Bool} (h:l[i]?=some q):(l.map aM)[i]?=some (aM q):=by rw[List.getElem?_map,h];rfl
theorem iY (l:List Bool):∀e∈l.map aM,∀d∈e,ch d=true:=by
 intro e he d hd;obtain⟨x,_,rfl⟩:=List.mem_map.1 he;simp only[aM,List.mem_cons,List.not_mem_nil,or_false] at hd;subst hd;rfl
theorem AE (l:List Bool):∀e∈l.map aM,e.length=1:=by
 intro e he;obtain⟨x,_,rfl⟩:=List.mem_map.1 he;rfl
def oQ (l:List Bool):D:=.sl ((l.map aM).map (ke 1))
theorem qx (l:List Bool):gq (oQ l) 1 (l.map aM):=gq.frozen (AE l) (iY l)
theorem iv (l:List Int):∀e∈l.map aq,∀d∈e,ch d=true:=by
 intro e he d hd;obtain⟨x,_,rfl⟩:=List.mem_map.1 he;simp only[aq,List.mem_cons,List.not_mem_nil,or_false] at hd;subst hd;rfl
theorem D' (l:List Int):∀e∈l.map aq,e.length=1:=by
 intro e he;obtain⟨x,_,rfl⟩:=List.mem_map.1 he;rfl
def zB (l:List Int):D:=.sl ((l.map aq).map (ke 1))
theorem tK (l:List Int):gq (zB l) 1 (l.map aq):=gq.frozen (D' l) (iv l)
def cB (pc:Nat) (i:bC):List Int:=
 if i.op=2 then[i.x,i.y] else if i.op=3 then[i.x] else if i.op=7 then[] else[((pc+1:Nat):Int)]
def nJ (code:List bC):Prop:=∀pc i,code[pc]?=some i→∀v∈cB pc i,0≤v∧v<code.length
theorem sJ {n ns pc:Nat} {i:bC} (h:ct n ns pc i=true):∀v∈cB pc i,0≤v∧v<n:=by
 intro v hv
 have e5:∀a b:Int,i_ a b=true→0≤a∧a<b:=fun a b h=>by
  unfold i_ at h;simp only[Bool.and_eq_true,decide_eq_true_eq] at h;exact⟨h.1,h.2⟩
 unfold ct at h;unfold cB at hv
 split at h
 ·rename_i h1;rw[if_neg (by omega),if_neg (by omega),if_neg (by omega)] at hv;simp only[Bool.and_eq_true,decide_eq_true_eq] at h;simp only[List.mem_cons,List.not_mem_nil,or_false] at hv;subst hv;omega
 ·simp only[Bool.and_eq_true] at h;obtain⟨_,h⟩:=h
  split at h
  ·rename_i h2;rw[if_pos h2] at hv;simp only[Bool.and_eq_true] at h;simp only[List.mem_cons,List.not_mem_nil,or_false] at hv
   rcases hv with rfl|rfl
   ·exact e5 _ _ h.1
   ·exact e5 _ _ h.2
  ·rename_i h2;rw[if_neg h2] at hv;simp only[Bool.and_eq_true] at h;obtain⟨_,h⟩:=h
   split at h
   ·rename_i h3;rw[if_pos h3] at hv;simp only[List.mem_cons,List.not_mem_nil,or_false] at hv;subst hv;exact e5 _ _ h
   ·rename_i h3;rw[if_neg h3] at hv
    split at h
    ·rename_i h4;rw[if_neg (by omega)] at hv;simp only[Bool.and_eq_true,decide_eq_true_eq] at h;simp only[List.mem_cons,List.not_mem_nil,or_false] at hv;subst hv;omega
    ·split at h
     ·rename_i h5;rw[if_neg (by omega)] at hv;simp only[Bool.and_eq_true,decide_eq_true_eq] at h;simp only[List.mem_cons,List.not_mem_nil,or_false] at hv;subst hv;omega
     ·split at h
      ·rename_i h7;rw[if_pos h7] at hv;cases hv
      ·cases h
def An (code:List bC):Nat→List Bool→List Int→List Bool
 |0,seen,_=>seen
 |_+1,seen,[]=>seen
 |f+1,seen,v::bE=>match seen[v.toNat]? with
  |some false=>match code[v.toNat]? with
   |some i=>An code f (seen.set v.toNat true) ((cB v.toNat i).reverse++bE)
   |none=>seen
  |_=>An code f seen bE
def de (code:List bC) (start:Int):List Bool:=An code (3*code.length+1) (List.replicate code.length false) [start]
theorem rS (code:List bC):∀(f:Nat) (seen:List Bool) (bE:List Int),(An code f seen bE).length=seen.length
 |0,_,_=>rfl
 |_+1,_,[]=>rfl
 |f+1,seen,v::bE=>by
  unfold An
  split
  ·split
   ·rw[rS code f];simp
   ·rfl
  ·exact rS code f seen bE
theorem nX (code:List bC) (s:Int):(de code s).length=code.length:=by
 unfold de;rw[rS];simp
theorem count_set {seen:List Bool} {k:Nat} (h:seen[k]?=some false):(seen.set k true).count false+1=seen.count false:=by
 induction seen generalizing k with
 |nil=>simp at h
 |cons b l ih=>
  cases k with
  |zero=>simp at h;subst h;simp
  |succ k=>
   have:=ih (k:=k) (by simpa using h);simp only[List.set_cons_succ,List.count_cons];omega
theorem tw (pc:Nat) (i:bC):(cB pc i).length≤2:=by
 unfold cB;split
 ·simp
 ·split
  ·simp
  ·split<;>simp
theorem sD (v:Int) (r:List Int):((v::r).reverse.map aq)[r.length]?=some (aq v):=by
 rw[List.getElem?_map,List.reverse_cons,List.getElem?_append_right (by simp)];simp
theorem wu (v:Int) (r:List Int):(((v::r).reverse.map aq).take r.length).drop 0=r.reverse.map aq:=by
 rw[List.reverse_cons,List.map_append,List.drop_zero,List.take_left' (by simp)]
theorem EC {s0:St} {cd:D} {code:List bC} {start:Int} (o7:gq cd 4 (code.map aL)) (hlen:code.length≤1048576) (hcl:nJ code) (eA:0≤start∧start<code.length):Ev pv 51 [cd,.int .i64 start] s0 (oQ (de code start)) s0:=by
 refine Ev.j8 rfl P6 rfl rfl rfl ?_;dsimp only[u3,u4,List.length,Nat.reduceSub,Nat.reduceAdd,w1,w2];obtain⟨bN,hF,hH⟩:=ri s0;generalize aj .ro s0=S at*;have hc:=o7.arg s0.bs.length S;refine qq<|qj fun K hK=>qm ?_;refine qe hK<|qq<|qj fun K hK=>qm ?_;refine qn ?_;simp only[List.length_map];refine ae.oy (s:=1) hH rfl rfl rfl rfl rfl rfl rfl rfl (Nat.le_of_ble_eq_true rfl) (by omega) (fun _=>by dsimp only[Fr.put,u1,u2]<;>rfl) (fun Le st Eu hH=>?_);refine qm ?_;refine qe hK<|qq<|qj fun K hK=>qm ?_;refine qh (s:=1) (vs:=[_]) hH fun MV st Jq hH=>?_;refine qm ?_;refine qe hK<|qq<|af.block<|af.loop (fun mm fr st=>∃(y z:D) (seen:List Bool) (bE:List Int),fr.clean=⟨41,[cd,aO fr 1,aO fr 2,aO fr 3,.nul,y,z,aO fr 7,aO fr 8,aO fr 9,aO fr 10,aO fr 11,aO fr 12,aO fr 13,aO fr 14,aO fr 15,aO fr 16,aO fr 17,aO fr 18,aO fr 19,aO fr 20,aO fr 21,aO fr 22,aO fr 23,aO fr 24,aO fr 25,aO fr 26,aO fr 27,aO fr 28,aO fr 29,aO fr 30,aO fr 31,aO fr 32,aO fr 33,aO fr 34,aO fr 35,aO fr 36,aO fr 37,aO fr 38,aO fr 39,aO fr 40],[]⟩∧Has s0.bs.length S st [.aT z 1 (bE.reverse.map aq),.aT y 1 (seen.map aM)]∧(An code mm seen bE=de code start)∧(3*seen.count false+bE.length≤mm)∧(seen.length=code.length)∧(∀v∈bE,0≤v∧v<(code.length:Int))∧(mm≤3*code.length+1)) (3*code.length+1) ?_ ?_
 ·exact⟨_,_,List.replicate code.length false,[start],rfl,(by rw[List.map_replicate];exact hH),rfl,by simp,by simp,by simpa using eA,by omega⟩
 rintro mm fr st ⟨y,z,seen,bE,hfr,hH,hd,hm,jb,hsk,sk⟩;rw[hfr];clear hfr;generalize aO fr=ee;clear fr
 rcases bE with _|⟨v,bE⟩
 ·refine qq<|qq<|qj fun K hK=>qm ?_;refine qn ?_ (hR:=hH.rows aB);simp only[List.length_map,List.length_nil,List.length_reverse];refine qg ?_;refine qe hK<|af.cond (v:=false) (by dsimp only[Fr.ev,Fr.get,nth,V.look];rfl) (fun h=>by cases h) (fun _=>?_);refine af.exit<|qq<|qj fun K hK=>qm ?_;refine qm ?_;refine qe hK ?_;have dD:seen=de code start:=by rw[←hd];cases mm<;>rfl
  rw[←dD];refine af.ret ⟨rx,_,rfl,rl bN hH ?_⟩;exact hH.freeze bu (iY _) (n:=15) (by decide)
 ·have hv:=hsk v (List.mem_cons_self ..);obtain⟨k,rfl⟩:=Int.eq_ofNat_of_zero_le hv.1;have hk:k<code.length:=by omega
  simp only[List.length_cons] at hm
  obtain⟨mm,rfl⟩:∃m',mm=m'+1:=⟨mm-1,by omega⟩
  obtain⟨b,hb⟩:∃b,seen[k]?=some b:=⟨seen[k]'(by omega),List.getElem?_eq_getElem _⟩
  obtain⟨i,hi⟩:∃i,code[k]?=some i:=⟨code[k]'(by omega),List.getElem?_eq_getElem _⟩
  have gI:=sD (k:Int) bE;have kP:=iB hb;have N8:=fO hi;refine qq<|qq<|qj fun K hK=>qm ?_;refine qn ?_ (hR:=hH.rows aB);simp only[List.length_map,List.length_cons,List.length_reverse];refine qg ?_;refine qe hK<|qD rfl (by simp) ?_;refine af.skip<|af.block<|qq<|qj fun K hK=>qm ?_;refine qm ?_;refine qn ?_ (hR:=hH.rows aB);simp only[List.length_map,List.length_cons,List.length_reverse];refine ae.gj (z:=((bE.length:Nat):Int)) rfl (ev rfl) (ev rfl) (by(try simp only[List.length_reverse,List.length_cons,List.length_nil,List.length_append,List.length_map,List.length_set]);rw[wrap_i64 (by omega) (by omega)]<;>omega) (by dsimp only[Fr.put,u1,u2]<;>rfl) ?_;refine qi hH aB fun K3 zK=>?_;refine qo hH aB ?_;refine qm ?_;refine qe hK<|qq<|qj fun K hK=>qm ?_;refine qm ?_;refine qn ?_ (hR:=hH.rows aB);simp only[List.length_map,List.length_cons,List.length_reverse];refine ae.gj (z:=((bE.length:Nat):Int)) rfl (ev rfl) (ev rfl) (by(try simp only[List.length_reverse,List.length_cons,List.length_nil,List.length_append,List.length_map,List.length_set]);rw[wrap_i64 (by omega) (by omega)]<;>omega) (by dsimp only[Fr.put,u1,u2]<;>rfl) ?_;refine ae.nY hH rfl (ev rfl) (by exact aB) rfl rfl (fL (by simp only[List.length_map,List.length_reverse,List.length_cons,List.length_append,List.length_nil,List.length_take,List.length_drop,List.length_set,List.length_replicate];omega)) ⟨(by omega),(by simp only[List.length_map,List.length_reverse,List.length_cons,List.length_append,List.length_nil,List.length_take,List.length_drop,List.length_set,List.length_replicate];omega)⟩ (fun _=>by dsimp only[Fr.put,u1,u2]<;>rfl) (fun VL hH=>?_);refine qm ?_;refine qe hK ?_;dsimp only[u2] at hH;rw[wu] at hH;have eA:∀w∈bE,0≤w∧w<(code.length:Int):=fun w hw=>hsk w (List.mem_cons_of_mem _ hw);refine qq<|qq<|qj fun K hK=>qm ?_;refine qm ?_;refine qi hH bu fun QZ LC=>?_;refine qo hH bu ?_;refine qe hK ?_
  cases b with
  |true=>
   refine qB ?_;refine af.exit ?_;simp only[An,Int.toNat_natCast,hb] at hd;exact⟨mm,by omega,⟨_,_,seen,bE,rfl,hH,hd,by omega,jb,eA,by omega⟩⟩
  |false=>
   have zY:=count_set hb;have c9:(seen.set k true).map aM=(seen.map aM).set k [.bool true]:=by rw[List.map_set];rfl
   simp only[An,Int.toNat_natCast,hb,hi] at hd;have LK:=hcl k i hi;have zL:=tw k i
   have ln:∀w∈(cB k i).reverse++bE,0≤w∧w<(code.length:Int):=fun w hw=>by
    rcases List.mem_append.1 hw with hw|hw
    ·exact LK w (List.mem_reverse.1 hw)
    ·exact eA w hw
   have I6:(((cB k i).reverse++bE).reverse).map aq=bE.reverse.map aq++(cB k i).map aq:=by
    rw[List.reverse_append,List.reverse_reverse,List.map_append]
   refine qC ?_;refine af.skip<|qq<|qj fun K hK=>qm ?_;refine qm ?_;refine qi hH bu fun SZ Oy=>?_;refine ae.gz hH rfl (ev rfl) (ev rfl) (by assumption) rfl rfl (by exact bu) (by assumption) (Nat.le_of_ble_eq_true rfl) (by exact .inl hF) (fun st hH=>?_);dsimp only[u2,u1,u3,u4,setMany,u5,u6,D.cells,Nat.reduceAdd,aL,aq,aM] at hH;refine qe hK<|qq<|qj fun K hK=>qm ?_;refine qm ?_;refine qr fun SX Ow=>?_;refine ae.dt rfl (ev rfl) (by assumption) rfl (by dsimp only[Fr.put,u1,u2]<;>rfl) ?_;refine qa hH fun k8 st OO hH=>?_;refine qS hH aB fun st hH=>?_;dsimp only[u2,u1,u3,u4,setMany,u5,u6,D.cells,Nat.reduceAdd,aL,aq,aM] at hH;refine qe hK<|qq<|qj fun K hK=>qp (o:=0) ?_;refine ql hH aB ?_;refine qe hK<|af.merge (fun fr st=>∃(z:D) (tmp:List (Nat×D)),fr=⟨41,[cd,aO fr 1,aO fr 2,aO fr 3,.nul,y,z,aO fr 7,aO fr 8,aO fr 9,aO fr 10,aO fr 11,aO fr 12,aO fr 13,aO fr 14,aO fr 15,aO fr 16,aO fr 17,aO fr 18,aO fr 19,aO fr 20,aO fr 21,aO fr 22,aO fr 23,aO fr 24,aO fr 25,aO fr 26,aO fr 27,aO fr 28,aO fr 29,aO fr 30,aO fr 31,aO fr 32,aO fr 33,aO fr 34,aO fr 35,aO fr 36,aO fr 37,aO fr 38,aO fr 39,aO fr 40],tmp⟩∧Has s0.bs.length S st [.aT z 1 (bE.reverse.map aq++(cB k i).map aq),.aT y 1 ((seen.map aM).set k [.bool true])]) ?_ ?_
   ·refine af.block<|qq<|qj fun K hK=>qg ?_;refine qm ?_;refine qe hK ?_;refine af.cond (by rfl) (fun h2=>?_) (fun h2=>?_)<;>try simp only[beq_iff_eq,beq_eq_false_iff_ne,ne_eq] at h2
    ·have:cB k i=[i.x,i.y]:=by unfold cB;rw[if_pos h2]
     rw[this];refine qj fun K hK=>qm ?_;refine qp (o:=1) ?_;refine ql hH aB ?_;refine qp (o:=2) ?_;refine ql hH aB ?_;refine qh (s:=1) (vs:=[_,_]) hH fun Wv st UO hH=>?_;refine ae.bG (s:=1) hH rfl (ev rfl) (ev rfl) (by exact ez) (by exact hH.rows (by exact aB)) rfl rfl rfl rfl rfl rfl rfl ⟨(Nat.le_of_ble_eq_true rfl),(Nat.le_of_ble_eq_true rfl)⟩ (fun _=>(ag rfl _)) (by simp only[List.length_cons,List.length_nil,List.length_map,List.length_reverse]<;>omega) (by exact .inl hF) (fun VO st hH=>?_);dsimp only[u2,u1,u3,u4,setMany,u5,u6,D.cells,Nat.reduceAdd,aL,aq,aM] at hH;refine qm ?_;refine qe hK ?_;exact⟨_,_,rfl,(by have:=hH.drop 2;exact this)⟩
    ·refine qq<|qj fun K hK=>qg ?_;refine qm ?_;refine qe hK ?_;refine af.cond (by rfl) (fun h3=>?_) (fun h3=>?_)<;>try simp only[beq_iff_eq,beq_eq_false_iff_ne,ne_eq] at h3
     ·have:cB k i=[i.x]:=by unfold cB;rw[if_neg h2,if_pos h3]
      rw[this];refine qj fun K hK=>qm ?_;refine qp (o:=1) ?_;refine ql hH aB ?_;refine qh (s:=1) (vs:=[_]) hH fun Wu st UN hH=>?_;refine ae.bG (s:=1) hH rfl (ev rfl) (ev rfl) (by exact ez) (by exact hH.rows (by exact aB)) rfl rfl rfl rfl rfl rfl rfl ⟨(Nat.le_of_ble_eq_true rfl),(Nat.le_of_ble_eq_true rfl)⟩ (fun _=>(ag rfl _)) (by simp only[List.length_cons,List.length_nil,List.length_map,List.length_reverse]<;>omega) (by exact .inl hF) (fun VN st hH=>?_);dsimp only[u2,u1,u3,u4,setMany,u5,u6,D.cells,Nat.reduceAdd,aL,aq,aM] at hH;refine qm ?_;refine qe hK ?_;exact⟨_,_,rfl,(by have:=hH.drop 2;exact this)⟩
     ·refine qq<|qj fun K hK=>qg ?_;refine qm ?_;refine qe hK ?_;refine af.cond (by rfl) (fun h7=>?_) (fun h7=>?_)<;>try simp only[beq_iff_eq,beq_eq_false_iff_ne,ne_eq] at h7
      ·have:cB k i=[]:=by unfold cB;rw[if_neg h2,if_neg h3,if_pos h7]
       rw[this,List.map_nil,List.append_nil];refine af.skip ?_;exact⟨_,_,rfl,(by have:=hH.drop 1;exact this)⟩
      ·have:cB k i=[((k+1:Nat):Int)]:=by unfold cB;rw[if_neg h2,if_neg h3,if_neg h7]
       rw[this];refine qj fun K hK=>qm ?_;refine qm ?_;refine qA ?_;refine qh (s:=1) (vs:=[_]) hH fun Wy st US hH=>?_;refine ae.bG (s:=1) hH rfl (ev rfl) (ev rfl) (by exact ez) (by exact hH.rows (by exact aB)) rfl rfl rfl rfl rfl rfl rfl ⟨(Nat.le_of_ble_eq_true rfl),(Nat.le_of_ble_eq_true rfl)⟩ (fun _=>(ag rfl _)) (by simp only[List.length_cons,List.length_nil,List.length_map,List.length_reverse]<;>omega) (by exact .inl hF) (fun VQ st hH=>?_);dsimp only[u2,u1,u3,u4,setMany,u5,u6,D.cells,Nat.reduceAdd,aL,aq,aM] at hH;refine qm ?_;refine qe hK ?_;exact⟨_,_,rfl,(by have:=hH.drop 2;exact this)⟩
   ·rintro fr st ⟨z,tmp,hfr,hH⟩;rw[hfr];clear hfr;generalize aO fr=ee;clear fr;exact⟨mm,by omega,⟨y,z,seen.set k true,(cB k i).reverse++bE,rfl,(by rw[I6,c9];exact hH),hd,by simp only[List.length_append,List.length_reverse];omega,by simp only[List.length_set];exact jb,ln,by omega⟩⟩
def om (fr:Go.V.Fr) (k:Nat):Go.V.D:=Go.V.nth .bA fr.loc k
theorem D1 {s0:St} {p:Pg} {pc:Nat} {i:bC} (hp:p.ok) (hi:p.code[pc]?=some i):Ev pv 48 [p.d,.int .i64 (pc:Nat)] s0 (zB (cB pc i)) s0:=by
 refine Ev.j8 rfl P9 rfl rfl rfl ?_;dsimp only[u3,u4,List.length,Nat.reduceSub,Nat.reduceAdd,w1,w2];obtain⟨bN,hF,hH⟩:=ri s0;generalize aj .ro s0=S at*;have hc:=hp.c.arg s0.bs.length S;have tO:=(hp.i i (List.mem_of_getElem? hi)).1;have hcl:=hp.cl;have hr:=fO hi;have hlt:=cn hi;unfold Pg.d;refine qq<|qj fun K hK=>qb hH fun k2 st hk2 hH=>?_;dsimp only[u2,u1,u3,u4,setMany,u5,u6,D.cells,Nat.reduceAdd,Pg.cs,aL,aq,aM] at hH;refine qm ?_;refine qe hK<|qq<|qj fun K hK=>qp (o:=0) ?_;refine ql hH aB ?_;refine qm ?_;refine qr fun p9 WQ=>?_;refine ae.dt rfl (ev rfl) (by assumption) rfl (by dsimp only[Fr.put,u1,u2]<;>rfl) ?_;refine qa hH fun k5 st L2 hH=>?_;refine qS hH aB fun st hH=>?_;dsimp only[u2,u1,u3,u4,setMany,u5,u6,D.cells,Nat.reduceAdd,Pg.cs,aL,aq,aM] at hH;refine qe hK<|qq<|qq<|qj fun K hK=>qp (o:=0) ?_;refine ql hH aB ?_;refine qe hK<|af.block<|qq<|qj fun K hK=>qg ?_;refine qm ?_;refine qe hK ?_;refine af.cond (by rfl) (fun h2=>?_) (fun h2=>?_)<;>try simp only[beq_iff_eq,beq_eq_false_iff_ne,ne_eq] at h2
 ·have:cB pc i=[i.x,i.y]:=by unfold cB;rw[if_pos h2]
  rw[this];refine qq<|qj fun K hK=>qp (o:=1) ?_;refine ql hH aB ?_;refine qp (o:=2) ?_;refine ql hH aB ?_;refine qh (s:=1) (vs:=[_,_]) hH fun Tz st OV hH=>?_;refine qm ?_;refine qe hK<|af.ret ⟨rx,_,rfl,rl bN hH ?_⟩;exact hH.freeze aB (iv [i.x,i.y]) (n:=15) (by decide)
 ·refine qq<|qj fun K hK=>qg ?_;refine qm ?_;refine qe hK ?_;refine af.cond (by rfl) (fun h3=>?_) (fun h3=>?_)<;>try simp only[beq_iff_eq,beq_eq_false_iff_ne,ne_eq] at h3
  ·have:cB pc i=[i.x]:=by unfold cB;rw[if_neg h2,if_pos h3]
   rw[this];refine qq<|qj fun K hK=>qp (o:=1) ?_;refine ql hH aB ?_;refine qh (s:=1) (vs:=[_]) hH fun WA st UY hH=>?_;refine qm ?_;refine qe hK<|af.ret ⟨rx,_,rfl,rl bN hH ?_⟩;exact hH.freeze aB (iv [i.x]) (n:=15) (by decide)
  ·refine qq<|qj fun K hK=>qg ?_;refine qm ?_;refine qe hK ?_;refine af.cond (by rfl) (fun h7=>?_) (fun h7=>?_)<;>try simp only[beq_iff_eq,beq_eq_false_iff_ne,ne_eq] at h7
   ·have:cB pc i=[]:=by unfold cB;rw[if_neg h2,if_neg h3,if_pos h7]
    rw[this];refine qq<|qj fun K hK=>qm ?_;refine qe hK<|af.ret ⟨rx,_,rfl,rl bN hH (rfl)⟩
   ·have:cB pc i=[((pc+1:Nat):Int)]:=by unfold cB;rw[if_neg h2,if_neg h3,if_neg h7]
    rw[this];refine af.skip<|qq<|qj fun K hK=>qm ?_;refine qA ?_;refine qh (s:=1) (vs:=[_]) hH fun Tu st OU hH=>?_;refine qm ?_;refine qe hK<|af.ret ⟨rx,_,rfl,rl bN hH ?_⟩;exact hH.freeze aB (iv [((pc+1:Nat):Int)]) (n:=15) (by decide)
def kC (p:Pg) (cu:Int):List Bool:=if i_ cu p.aF.length then de p.code (p.aF.getD cu.toNat 0) else List.replicate p.code.length false
theorem ta {s0:St} {p:Pg} {cu:Int} (hp:p.ok) (hcl:nJ p.code) (eA:∀v∈p.aF,0≤v∧v<p.code.length):Ev pv 26 [p.d,.int .i64 cu] s0 (oQ (kC p cu)) s0:=by
 refine Ev.j8 rfl Qj rfl rfl rfl ?_;dsimp only[u3,u4,List.length,Nat.reduceSub,Nat.reduceAdd,w1,w2];obtain⟨bN,hF,hH⟩:=ri s0;generalize aj .ro s0=S at*;have hc:=hp.c.arg s0.bs.length S;have hs:=hp.s.arg s0.bs.length S;have o7:=hp.c;have hlen:=hp.cl;have Lp:=hp.sl;unfold Pg.d;refine qq<|qj fun K hK=>qb hH fun k2 st hk2 hH=>?_;dsimp only[u2,u1,u3,u4,setMany,u5,u6,D.cells,Nat.reduceAdd,Pg.cs,aL,aq,aM] at hH;refine qm ?_;refine qe hK<|qq<|qj fun K hK=>qp (o:=0) ?_;refine ql hH aB ?_;refine qn ?_;simp only[List.length_map];refine ae.oy (s:=1) hH rfl rfl rfl rfl rfl rfl rfl rfl (Nat.le_of_ble_eq_true rfl) (by omega) (fun _=>(ag rfl _)) (fun Le st Eu hH=>?_);refine qm ?_;refine qe hK ?_
 have hnot:i_ cu p.aF.length=!(decide (cu<0)||decide (cu≥p.aF.length)):=by
  unfold i_;simp only[Bool.not_or,←decide_not,Int.not_lt,Int.not_le,ge_iff_le]
 refine qq<|qq<|af.eY 20 (.bool (decide (cu<0)||decide (cu≥p.aF.length))) [] ?_ (fun ff tmp d_=>?_)
 ·refine qm ?_;refine qg ?_;refine qm ?_;refine ae.two 14 rfl (fun bm=>?_) (fun bm=>?_)
  ·refine qs ?_ (hg:=wn bm);refine qs ?_ (hg:=wn bm);refine qs ?_ (hg:=wn bm);refine qs ?_ (hg:=wn bm);refine qs ?_ (hg:=wn bm);refine qt bm ?_;refine ae.nil (bq ?_ ?_)
   ·dsimp only[aD,List.foldl,nth,u2,u1]
    all_goals(first|rfl|simp)
   ·dsimp only[Fr.au,Fr.put,Fr.clean,Fr.ev,Fr.get,nth,V.look,u1,u2,v1,v2,v3,v4,v5,v6,v7,List.length,u3,u4,Nat.reduceSub,Nat.reduceAdd,List.map]
    all_goals(simp[bm];done)
  ·refine qm ?_ (hg:=wi bm);refine qp (o:=1) ?_ (hg:=wi bm);refine ql hH bu ?_ (hg:=wi bm);refine qn ?_ (hg:=wi bm);simp only[List.length_map];refine qg ?_ (hg:=wi bm);refine qu bm ?_;refine ae.nil (bq ?_ ?_)
   ·dsimp only[aD,List.foldl,nth,u2,u1]
    all_goals(first|rfl|simp)
   ·dsimp only[Fr.au,Fr.put,Fr.clean,Fr.ev,Fr.get,nth,V.look,u1,u2,v1,v2,v3,v4,v5,v6,v7,List.length,u3,u4,Nat.reduceSub,Nat.reduceAdd,List.map]
    all_goals(simp[bm];done)
 dsimp only[aD,List.foldl,nth,u2,u1];refine qc (fun h0=>?_) (fun h0=>?_)<;>try simp only[cs] at h0
 ·have hR:kC p cu=List.replicate p.code.length false:=by unfold kC;rw[hnot,h0];rfl
  rw[hR];refine qq<|qj fun K hK=>qm ?_;refine qm ?_;refine qe hK ?_;have hH:Has s0.bs.length S st [.aT (.win Le 0 0 p.code.length 1) 1 ((List.replicate p.code.length false).map aM),.box k2 (.mem 0 false [p.cd,p.sd])]:=by rw[List.map_replicate];exact hH
  refine af.ret ⟨rx,_,rfl,rl bN hH ?_⟩;exact hH.freeze aB (iY _) (n:=15) (by decide)
 ·have rH:i_ cu p.aF.length=true:=by rw[hnot,h0];rfl
  have hR:kC p cu=de p.code (p.aF.getD cu.toNat 0):=by unfold kC;rw[if_pos rH]
  rw[hR];unfold i_ at rH;simp only[Bool.and_eq_true,decide_eq_true_eq] at rH;obtain⟨ru,rfl⟩:=Int.eq_ofNat_of_zero_le rH.1
  obtain⟨start,jf⟩:∃v,p.aF[ru]?=some v:=⟨p.aF[ru]'(by omega),List.getElem?_eq_getElem _⟩
  have I_:=cW jf;have eA:=eA start (List.mem_of_getElem? jf);rw[show p.aF.getD (ru:Int).toNat 0=start by rw[Int.toNat_natCast,List.getD_eq_getElem?_getD,jf];rfl];refine af.skip<|qq<|qj fun K hK=>qp (o:=1) ?_;refine ql hH bu ?_;refine qm ?_;refine qr fun MR El=>?_;refine qR ?_;refine qh (s:=1) (vs:=[_]) hH fun Wz st UX hH=>?_;refine qm ?_;refine qe hK<|qq<|af.block<|af.loop (fun mm fr st=>∃(y z:D) (seen:List Bool) (bE:List Int),fr.clean=⟨8,[om fr 0,om fr 1,.ptr k2 0 0,om fr 3,.nul,y,z,om fr 7],[]⟩∧Has s0.bs.length S st [.aT z 1 (bE.reverse.map aq),.aT y 1 (seen.map aM),.box k2 (.mem 0 false [p.cd,p.sd])]∧(An p.code mm seen bE=de p.code start)∧(3*seen.count false+bE.length≤mm)∧(seen.length=p.code.length)∧(∀v∈bE,0≤v∧v<(p.code.length:Int))∧(mm≤3*p.code.length+1)) (3*p.code.length+1) ?_ ?_
  ·exact⟨_,_,List.replicate p.code.length false,[start],rfl,(by rw[List.map_replicate];exact hH),rfl,by simp,by simp,by simpa using eA,by omega⟩
  rintro mm fr st ⟨y,z,seen,bE,hfr,hH,hd,hm,jb,hsk,sk⟩;rw[hfr];clear hfr;generalize om fr=ee;clear fr
  rcases bE with _|⟨v,bE⟩
  ·refine qq<|qq<|qj fun K hK=>qm ?_;refine qn ?_ (hR:=hH.rows aB);simp only[List.length_map,List.length_nil,List.length_reverse];refine qg ?_;refine qe hK<|af.cond (v:=false) (by dsimp only[Fr.ev,Fr.get,nth,V.look];rfl) (fun h=>by cases h) (fun _=>?_);refine af.exit<|qq<|qj fun K hK=>qm ?_;refine qm ?_;refine qe hK ?_;have dD:seen=de p.code start:=by rw[←hd];cases mm<;>rfl
   rw[←dD];refine af.ret ⟨rx,_,rfl,rl bN hH ?_⟩;exact hH.freeze bu (iY _) (n:=15) (by decide)
  ·have hv:=hsk v (List.mem_cons_self ..);obtain⟨k,rfl⟩:=Int.eq_ofNat_of_zero_le hv.1;have hk:k<p.code.length:=by omega
   simp only[List.length_cons] at hm
   obtain⟨mm,rfl⟩:∃m',mm=m'+1:=⟨mm-1,by omega⟩
   obtain⟨b,hb⟩:∃b,seen[k]?=some b:=⟨seen[k]'(by omega),List.getElem?_eq_getElem _⟩
   obtain⟨i,hi⟩:∃i,p.code[k]?=some i:=⟨p.code[k]'(by omega),List.getElem?_eq_getElem _⟩
   have gI:=sD (k:Int) bE;have kP:=iB hb;refine qq<|qq<|qj fun K hK=>qm ?_;refine qn ?_ (hR:=hH.rows aB);simp only[List.length_map,List.length_cons,List.length_reverse];refine qg ?_;refine qe hK<|qD rfl (by simp) ?_;refine af.skip<|af.block<|qq<|qj fun K hK=>qm ?_;refine qm ?_;refine qn ?_ (hR:=hH.rows aB);simp only[List.length_map,List.length_cons,List.length_reverse];refine ae.gj (z:=((bE.length:Nat):Int)) rfl (ev rfl) (ev rfl) (by(try simp only[List.length_reverse,List.length_cons,List.length_nil,List.length_append,List.length_map,List.length_set]);rw[wrap_i64 (by omega) (by omega)]<;>omega) (ag rfl _) ?_;refine qi hH aB fun SY Ox=>?_;refine qo hH aB ?_;refine qm ?_;refine qe hK<|qq<|qj fun K hK=>qm ?_;refine qm ?_;refine qn ?_ (hR:=hH.rows aB);simp only[List.length_map,List.length_cons,List.length_reverse];refine ae.gj (z:=((bE.length:Nat):Int)) rfl (ev rfl) (ev rfl) (by(try simp only[List.length_reverse,List.length_cons,List.length_nil,List.length_append,List.length_map,List.length_set]);rw[wrap_i64 (by omega) (by omega)]<;>omega) (ag rfl _) ?_;refine ae.nY hH rfl (ev rfl) (by exact aB) rfl rfl (fL (by simp only[List.length_map,List.length_reverse,List.length_cons,List.length_append,List.length_nil,List.length_take,List.length_drop,List.length_set,List.length_replicate];omega)) ⟨(by omega),(by simp only[List.length_map,List.length_reverse,List.length_cons,List.length_append,List.length_nil,List.length_take,List.length_drop,List.length_set,List.length_replicate];omega)⟩ (fun _=>(ag rfl _)) (fun VK hH=>?_);refine qm ?_;refine qe hK ?_;dsimp only[u2] at hH;rw[wu] at hH;have eA:∀w∈bE,0≤w∧w<(p.code.length:Int):=fun w hw=>hsk w (List.mem_cons_of_mem _ hw);refine qq<|qq<|qj fun K hK=>qm ?_;refine qm ?_;refine qi hH bu fun SS Ot=>?_;refine qo hH bu ?_;refine qe hK ?_
   cases b with
   |true=>
    refine qB ?_;refine af.exit ?_;simp only[An,Int.toNat_natCast,hb] at hd;exact⟨mm,by omega,⟨_,_,seen,bE,rfl,hH,hd,by omega,jb,eA,by omega⟩⟩
   |false=>
    have zY:=count_set hb;have c9:(seen.set k true).map aM=(seen.map aM).set k [.bool true]:=by rw[List.map_set];rfl
    simp only[An,Int.toNat_natCast,hb,hi] at hd;have LK:=hcl k i hi;have zL:=tw k i
    have ln:∀w∈(cB k i).reverse++bE,0≤w∧w<(p.code.length:Int):=fun w hw=>by
     rcases List.mem_append.1 hw with hw|hw
     ·exact LK w (List.mem_reverse.1 hw)
     ·exact eA w hw
    have I6:(((cB k i).reverse++bE).reverse).map aq=bE.reverse.map aq++(cB k i).map aq:=by
     rw[List.reverse_append,List.reverse_reverse,List.map_append]
    have E_:=(tK (cB k i)).arg s0.bs.length S;refine qC ?_;refine af.skip<|qq<|qj fun K hK=>qm ?_;refine qm ?_;refine qi hH bu fun Wi Up=>?_;refine ae.gz hH rfl (ev rfl) (ev rfl) (by assumption) rfl rfl (by exact bu) (by assumption) (Nat.le_of_ble_eq_true rfl) (by exact .inl hF) (fun st hH=>?_);dsimp only[u2,u1,u3,u4,setMany,u5,u6,D.cells,Nat.reduceAdd,Pg.cs,aL,aq,aM] at hH;refine qe hK<|qj fun K hK=>qm ?_;refine ae.bF (m:=2) hH rfl (ev rfl) (by exact ez) (by dsimp only[List.drop_succ_cons,List.drop_zero,List.take_succ_cons,List.take_zero,Pg.cs,aL,aq,aM]<;>rfl) rfl rfl (ag rfl _) ?_;refine qm ?_;refine qv (D1 hp hi) ?_;refine ae.bG (s:=1) hH rfl (ev rfl) (ev rfl) (by exact aB) (by exact Arg.rows (by assumption) hH) rfl rfl rfl rfl rfl rfl rfl ⟨(Nat.le_of_ble_eq_true rfl),(Nat.le_of_ble_eq_true rfl)⟩ (fun _=>(ag rfl _)) (by simp only[List.length_map,List.length_reverse]<;>omega) (by exact .inl hF) (fun VP st hH=>?_);dsimp only[u2,u1,u3,u4,setMany,u5,u6,D.cells,Nat.reduceAdd,Pg.cs,aL,aq,aM] at hH;refine qm ?_;refine qe hK ?_;exact⟨mm,by omega,⟨y,_,seen.set k true,(cB k i).reverse++bE,rfl,(by rw[I6,c9];exact hH),hd,by simp only[List.length_append,List.length_reverse];omega,by simp only[List.length_set];exact jb,ln,by omega⟩⟩
def ay (fr:Go.V.Fr) (k:Nat):Go.V.D:=Go.V.nth .bA fr.loc k
noncomputable def dec (q:Prop):Bool:=@decide q (Classical.propDecidable q)
theorem nH {q:Prop} (h:q):dec q=true:=@decide_eq_true q (Classical.propDecidable q) h
theorem iV {q:Prop} (h:¬q):dec q=false:=@decide_eq_false q (Classical.propDecidable q) h
def jx (p:Pg) (r:Nat) (s:Int) (n:Nat):Prop:=∀pc i,pc<n→(de p.code s)[pc]?=some true→p.code[pc]?=some i→i.op=7→i.x=(r:Int)
structure eQ (p:Pg):Prop where
 cl:p.code.length≤400
 sl:p.aF.length≤8
 sh:∀pc i,p.code[pc]?=some i→ct p.code.length p.aF.length pc i=true
 st:∀v∈p.aF,0≤v∧v<(p.code.length:Int)
 fo:∀r s,p.aF[r]?=some s→jx p r s p.code.length
theorem mA {p:Pg} (h:∀pc i,p.code[pc]?=some i→ct p.code.length p.aF.length pc i=true):nJ p.code:=
 fun pc i hi=>sJ (h pc i hi)
theorem eQ.closed {p:Pg} (h:eQ p):nJ p.code:=mA h.sh
theorem e5 {a b:Int}:i_ a b=true↔0≤a∧a<b:=by
 unfold i_;simp only[Bool.and_eq_true,decide_eq_true_eq,ge_iff_le]
theorem o_ {s0:St} {p:Pg} (hp:p.ok):Ev pv 27 [p.d] s0 (.bool (dec (eQ p))) s0:=by
 refine Ev.j8 rfl Qi rfl rfl rfl ?_;dsimp only[u3,u4,List.length,Nat.reduceSub,Nat.reduceAdd,w1,w2];obtain⟨bN,hF,hH⟩:=ri s0;generalize aj .ro s0=S at*;have hc:=hp.c.arg s0.bs.length S;have hs:=hp.s.arg s0.bs.length S;have o7:=hp.c;have hlen:=hp.cl;have Lp:=hp.sl;unfold Pg.d;refine qq<|qj fun K hK=>qb hH fun k1 st o6 hH=>?_;dsimp only[u2,u1,u3,u4,setMany,u5,u6,D.cells,Nat.reduceAdd,Pg.cs,aL,aq,aM] at hH;refine qm ?_;refine qe hK<|qq<|qq<|af.jO 17 (.bool (decide ((p.code.length:Int)>400)||decide ((p.aF.length:Int)>8))) [8,9,10,11,12,13,14,15,16] ?_ (fun ff tmp=>?_)
 ·refine qp (o:=0) ?_;refine ql hH aB ?_;refine qn ?_;simp only[List.length_map];refine qg ?_;refine qm ?_;refine ae.two 12 rfl (fun eV=>?_) (fun eV=>?_)
  ·refine qs ?_ (hg:=wn eV);refine qs ?_ (hg:=wn eV);refine qs ?_ (hg:=wn eV);refine qs ?_ (hg:=wn eV);refine qt eV ?_;refine ae.nil (aX ?_);dsimp only[aD,List.foldl,nth,u2,u1];dsimp only[Fr.au,Fr.put,Fr.clean,Fr.ev,Fr.get,nth,V.look,u1,u2,v1,v2,v3,v4,v5,v6,v7,List.length,u3,u4,Nat.reduceSub,Nat.reduceAdd,List.map]
   all_goals(simp[eV];done)
  ·refine qp (o:=1) ?_ (hg:=wi eV);refine ql hH aB ?_ (hg:=wi eV);refine qn ?_ (hg:=wi eV);simp only[List.length_map];refine qg ?_ (hg:=wi eV);refine qu eV ?_;refine ae.nil (aX ?_);dsimp only[aD,List.foldl,nth,u2,u1];dsimp only[Fr.au,Fr.put,Fr.clean,Fr.ev,Fr.get,nth,V.look,u1,u2,v1,v2,v3,v4,v5,v6,v7,List.length,u3,u4,Nat.reduceSub,Nat.reduceAdd,List.map]
   all_goals(simp[eV];done)
 dsimp only[aD,List.foldl,nth,u2,u1];generalize ff 8=e8;generalize ff 9=e9;generalize ff 10=Xi;generalize ff 11=Xh;generalize ff 12=Xg;generalize ff 13=Xf;generalize ff 14=Xe;generalize ff 15=VG;generalize ff 16=Sd;refine qc (fun h0=>?_) (fun h0=>?_)<;>try simp only[cs] at h0
 ·rw[iV (fun h=>by have:=h.cl;have:=h.sl;simp at h0;omega)];refine qq<|qj fun K hK=>qm ?_;refine qe hK<|af.ret ⟨rx,_,rfl,rl bN hH (rfl)⟩
 ·have h0:p.code.length≤400∧p.aF.length≤8:=by simp at h0;omega
  refine af.skip<|qq<|qq<|qj fun K hK=>qp (o:=0) ?_;refine ql hH aB ?_;refine qn ?_;simp only[List.length_map];refine qm ?_;refine qe hK<|af.block<|af.loop (fun mm fr st=>∃(i:Nat),fr.clean=⟨49,[ay fr 0,.ptr k1 0 0,.bool false,ay fr 3,ay fr 4,ay fr 5,ay fr 6,ay fr 7,ay fr 8,ay fr 9,ay fr 10,ay fr 11,ay fr 12,ay fr 13,ay fr 14,ay fr 15,ay fr 16,ay fr 17,ay fr 18,ay fr 19,.int .i64 (p.code.length:Nat),.int .i64 (i:Nat),ay fr 22,ay fr 23,ay fr 24,ay fr 25,ay fr 26,ay fr 27,ay fr 28,ay fr 29,ay fr 30,ay fr 31,ay fr 32,ay fr 33,ay fr 34,ay fr 35,ay fr 36,ay fr 37,ay fr 38,ay fr 39,ay fr 40,ay fr 41,ay fr 42,ay fr 43,ay fr 44,ay fr 45,ay fr 46,ay fr 47,ay fr 48],[]⟩∧Has s0.bs.length S st [.box k1 (.mem 0 false [p.cd,p.sd])]∧(i+mm=p.code.length)∧(∀pc q,pc<i→p.code[pc]?=some q→ct p.code.length p.aF.length pc q=true)) (p.code.length) ?_ ?_
  ·exact⟨0,rfl,hH,by omega,by intro pc q h;omega⟩
  rintro mm fr st ⟨i,hfr,hH,hi,hsh⟩;rw[hfr];clear hfr;generalize ay fr=ee;clear fr;refine qq<|qj fun K hK=>qg ?_;refine qe hK<|qq ?_;refine af.cond (by rfl) (fun h1=>?_) (fun h1=>?_)<;>try simp only[decide_eq_true_eq,decide_eq_false_iff_not] at h1
  ·refine af.skip ?_
   obtain⟨q,hq⟩:∃q,p.code[i]?=some q:=⟨p.code[i]'(by omega),List.getElem?_eq_getElem _⟩
   refine qq<|af.block<|qq<|qj fun K hK=>qm ?_;refine qm ?_;refine qe hK<|qq<|qj fun K hK=>?_;refine ae.bF (m:=2) hH rfl (ev rfl) (by exact aB) (by dsimp only[List.drop_succ_cons,List.drop_zero,List.take_succ_cons,List.take_zero,Pg.cs,aL,aq,aM]<;>rfl) rfl rfl (by dsimp only[Fr.put,u1,u2]<;>rfl) ?_;refine qm ?_;refine qv (xy (p:=p) hp hq) ?_;refine qg ?_;refine qe hK ?_;refine af.cond (by rfl) (fun h2=>?_) (fun h2=>?_)<;>try simp only[Bool.not_eq_true',Bool.not_eq_false'] at h2
   ·rw[iV (fun h=>by have:=h.sh i q hq;rw[this] at h2;cases h2)];refine qq<|qj fun K hK=>qm ?_;refine qe hK<|af.ret ⟨rx,_,rfl,rl bN hH (rfl)⟩
   ·refine af.skip<|qj fun K hK=>qA ?_;refine qm ?_;refine qe hK ?_;refine⟨mm-1,by omega,⟨i+1,rfl,hH,by omega,?_⟩⟩;intro pc q' Lv lu
    by_cases he:pc=i
    ·subst he;rw[hq] at lu;cases lu;simpa using h2
    ·exact hsh pc q' (by omega) lu
  ·refine af.exit ?_;have hsh:∀pc q,p.code[pc]?=some q→ct p.code.length p.aF.length pc q=true:=fun pc q hq=>hsh pc q (by have:=cn hq;omega) hq;have hcl:=mA hsh;refine qq<|qq<|qj fun K hK=>qp (o:=1) ?_;refine ql hH aB ?_;refine qn ?_;simp only[List.length_map];refine qm ?_;refine qe hK<|af.block<|af.loop (fun mm fr st=>∃(r:Nat),fr.clean=⟨49,[ay fr 0,.ptr k1 0 0,.bool false,ay fr 3,ay fr 4,ay fr 5,ay fr 6,ay fr 7,ay fr 8,ay fr 9,ay fr 10,ay fr 11,ay fr 12,ay fr 13,ay fr 14,ay fr 15,ay fr 16,ay fr 17,ay fr 18,ay fr 19,ay fr 20,ay fr 21,ay fr 22,ay fr 23,ay fr 24,ay fr 25,ay fr 26,ay fr 27,ay fr 28,ay fr 29,p.sd,.int .i64 (p.aF.length:Nat),.int .i64 (r:Nat),ay fr 33,ay fr 34,ay fr 35,ay fr 36,ay fr 37,ay fr 38,ay fr 39,ay fr 40,ay fr 41,ay fr 42,ay fr 43,ay fr 44,ay fr 45,ay fr 46,ay fr 47,ay fr 48],[]⟩∧Has s0.bs.length S st [.box k1 (.mem 0 false [p.cd,p.sd])]∧(r+mm=p.aF.length)∧(∀r' s,r'<r→p.aF[r']?=some s→(0≤s∧s<(p.code.length:Int))∧jx p r' s p.code.length)) (p.aF.length) ?_ ?_
   ·exact⟨0,rfl,hH,by omega,by intro pc q h;omega⟩
   rintro mm fr st ⟨r,hfr,hH,hi,dz⟩;rw[hfr];clear hfr;generalize ay fr=ee;clear fr;refine qq<|qj fun K hK=>qg ?_;refine qe hK<|qq ?_;refine af.cond (by rfl) (fun h3=>?_) (fun h3=>?_)<;>try simp only[decide_eq_true_eq,decide_eq_false_iff_not] at h3
   ·refine af.skip ?_
    obtain⟨s,jf⟩:∃s,p.aF[r]?=some s:=⟨p.aF[r]'(by omega),List.getElem?_eq_getElem _⟩
    have I_:=cW jf;refine qq<|af.block<|qq<|qj fun K hK=>qm ?_;refine qr fun SY Ox=>?_;refine qR ?_;refine qm ?_;refine qm ?_;refine qe hK<|qq<|qq<|qj fun K hK=>qm ?_;refine qp (o:=0) ?_;refine ql hH aB ?_;refine qn ?_;simp only[List.length_map];refine qv (gu _ _) ?_;refine qg ?_;refine qe hK ?_;refine af.cond (by rfl) (fun h4=>?_) (fun h4=>?_)<;>try simp only[Bool.not_eq_true',Bool.not_eq_false'] at h4
    ·rw[iV (fun h=>by have:=e5.2 (h.st s (List.mem_of_getElem? jf));rw[this] at h4;cases h4)];refine qq<|qj fun K hK=>qm ?_;refine qe hK<|af.ret ⟨rx,_,rfl,rl bN hH (rfl)⟩
    ·have Ef:=e5.1 (show i_ s p.code.length=true by simpa using h4);refine af.skip ?_;have zI:=nX p.code s;have I9:=(qx (de p.code s)).arg s0.bs.length S;refine qq<|qj fun K hK=>qp (o:=0) ?_;refine ql hH aB ?_;refine qm ?_;refine qv (EC o7 hlen hcl Ef) ?_;refine qn ?_;simp only[List.length_map];refine qm ?_;refine qe hK<|af.block<|af.loop (fun mm fr st=>∃(i:Nat),fr.clean=⟨49,[ay fr 0,.ptr k1 0 0,.bool false,ay fr 3,.int .i64 (r:Nat),ay fr 5,ay fr 6,ay fr 7,ay fr 8,ay fr 9,ay fr 10,ay fr 11,ay fr 12,ay fr 13,ay fr 14,ay fr 15,ay fr 16,ay fr 17,ay fr 18,ay fr 19,ay fr 20,ay fr 21,ay fr 22,ay fr 23,ay fr 24,ay fr 25,ay fr 26,ay fr 27,ay fr 28,ay fr 29,p.sd,.int .i64 (p.aF.length:Nat),.int .i64 (r:Nat),ay fr 33,ay fr 34,ay fr 35,ay fr 36,ay fr 37,ay fr 38,ay fr 39,ay fr 40,ay fr 41,ay fr 42,ay fr 43,ay fr 44,ay fr 45,oQ (de p.code s),.int .i64 ((de p.code s).length:Nat),.int .i64 (i:Nat)],[]⟩∧Has s0.bs.length S st [.box k1 (.mem 0 false [p.cd,p.sd])]∧(i+mm=p.code.length)∧(jx p r s i)) (p.code.length) ?_ ?_
     ·exact⟨0,rfl,hH,by omega,by intro pc q h;omega⟩
     rintro mm fr st ⟨i,hfr,hH,hj,hom⟩;rw[hfr];clear hfr;generalize ay fr=ee;clear fr;refine qq<|qj fun K hK=>qg ?_;refine qe hK<|qq ?_;refine af.cond (by rfl) (fun h5=>?_) (fun h5=>?_)<;>try simp only[decide_eq_true_eq,decide_eq_false_iff_not] at h5
     ·refine af.skip ?_
      obtain⟨b,hb⟩:∃b,(de p.code s)[i]?=some b:=⟨(de p.code s)[i]'(by omega),List.getElem?_eq_getElem _⟩
      obtain⟨q,hq⟩:∃q,p.code[i]?=some q:=⟨p.code[i]'(by omega),List.getElem?_eq_getElem _⟩
      have gI:=iB hb;have kP:=fO hq;refine qq<|af.block<|qq<|qj fun K hK=>qm ?_;refine qr fun QU Lx=>?_;refine qR ?_;refine qm ?_;refine qm ?_;refine qe hK<|qq<|af.eY 72 (.bool ((b &&(q.op==7)) &&(q.x !=(r:Int)))) [] ?_ (fun ff tmp d_=>?_)
      ·refine qm ?_;refine qm ?_;refine ae.two 54 rfl (fun da=>?_) (fun da=>?_)
       ·refine qp (o:=0) ?_ (hg:=wi da);refine ql hH aB ?_ (hg:=wi da);refine qm ?_ (hg:=wi da);refine qr (fun We Ul=>?_) (hg:=wi da);refine qf (fo:=0) (fun Wd Uk=>?_) (hg:=wi da);refine qR ?_ (hg:=wi da);refine qg ?_ (hg:=wi da);refine qt da ?_;refine qm ?_;refine ae.two 63 rfl (fun aV=>?_) (fun aV=>?_)
        ·refine qp (o:=0) ?_ (hg:=wi aV);refine ql hH aB ?_ (hg:=wi aV);refine qm ?_ (hg:=wi aV);refine qr (fun V9 Ue=>?_) (hg:=wi aV);refine qf (fo:=1) (fun V8 Ud=>?_) (hg:=wi aV);refine qR ?_ (hg:=wi aV);refine qm ?_ (hg:=wi aV);refine qg ?_ (hg:=wi aV);refine qt aV ?_;refine ae.nil (bq ?_ ?_)
         ·dsimp only[aD,List.foldl,nth,u2,u1]
          all_goals(first|rfl|simp)
         ·dsimp only[Fr.au,Fr.put,Fr.clean,Fr.ev,Fr.get,nth,V.look,u1,u2,v1,v2,v3,v4,v5,v6,v7,List.length,u3,u4,Nat.reduceSub,Nat.reduceAdd,List.map]
          all_goals(simp[da,aV];done)
        ·refine qs ?_ (hg:=wn aV);refine qs ?_ (hg:=wn aV);refine qs ?_ (hg:=wn aV);refine qs ?_ (hg:=wn aV);refine qs ?_ (hg:=wn aV);refine qs ?_ (hg:=wn aV);refine qs ?_ (hg:=wn aV);refine qs ?_ (hg:=wn aV);refine qu aV ?_;refine ae.nil (bq ?_ ?_)
         ·dsimp only[aD,List.foldl,nth,u2,u1]
          all_goals(first|rfl|simp)
         ·dsimp only[Fr.au,Fr.put,Fr.clean,Fr.ev,Fr.get,nth,V.look,u1,u2,v1,v2,v3,v4,v5,v6,v7,List.length,u3,u4,Nat.reduceSub,Nat.reduceAdd,List.map]
          all_goals(simp[da,aV];done)
       ·refine qs ?_ (hg:=wn da);refine qs ?_ (hg:=wn da);refine qs ?_ (hg:=wn da);refine qs ?_ (hg:=wn da);refine qs ?_ (hg:=wn da);refine qs ?_ (hg:=wn da);refine qs ?_ (hg:=wn da);refine qu da ?_;refine qm ?_;refine qs ?_;refine qs ?_;refine qs ?_;refine qs ?_;refine qs ?_;refine qs ?_;refine qs ?_;refine qs ?_;refine qg ?_;refine ae.nil (bq ?_ ?_)
        ·dsimp only[aD,List.foldl,nth,u2,u1]
         all_goals(first|rfl|simp)
        ·dsimp only[Fr.au,Fr.put,Fr.clean,Fr.ev,Fr.get,nth,V.look,u1,u2,v1,v2,v3,v4,v5,v6,v7,List.length,u3,u4,Nat.reduceSub,Nat.reduceAdd,List.map]
         all_goals(simp[da];done)
      dsimp only[aD,List.foldl,nth,u2,u1];dsimp only[Fr.au,Fr.put,Fr.clean,Fr.ev,Fr.get,nth,V.look,u1,u2,v1,v2,v3,v4,v5,v6,v7,List.length,u3,u4,Nat.reduceSub,Nat.reduceAdd,List.map];refine qc (fun h6=>?_) (fun h6=>?_)<;>try simp only[cs] at h6
      ·rw[iV (fun h=>by
        have h7:=h.fo r s jf i q (by omega);simp only[Bool.and_eq_true,beq_iff_eq,bne_iff_ne,ne_eq] at h6;obtain⟨⟨rfl,h8⟩,h9⟩:=h6
        exact h9 (h7 hb hq h8))]
       refine qq<|qj fun K hK=>qm ?_;refine qe hK<|af.ret ⟨rx,_,rfl,rl bN hH (rfl)⟩
      ·refine af.skip<|qj fun K hK=>qA ?_;refine qm ?_;refine qe hK ?_;refine⟨mm-1,by omega,⟨i+1,rfl,hH,by omega,?_⟩⟩;intro pc q' Lv I8 lu fm
       by_cases he:pc=i
       ·subst he;rw[hq] at lu;cases lu;rw[hb] at I8;cases I8;simp[fm] at h6;exact h6
       ·exact hom pc q' (by omega) I8 lu fm
     ·refine af.exit<|qj fun K hK=>qA ?_;refine qm ?_;refine qe hK ?_;refine⟨p.aF.length-(r+1),by omega,⟨r+1,rfl,hH,by omega,?_⟩⟩;intro r' s' wU ox
      by_cases he:r'=r
      ·subst he;rw[jf] at ox;cases ox;exact⟨Ef,fun pc q Lv=>hom pc q (by omega)⟩
      ·exact dz r' s' (by omega) ox
   ·refine af.exit ?_
    rw[nH ⟨h0.1,h0.2,hsh,fun v hv=>by
     obtain⟨r',wU⟩:=List.getElem?_of_mem hv
     exact(dz r' v (by have:=cn wU;omega) wU).1,fun r' s' ox=>(dz r' s' (by have:=cn ox;omega) ox).2⟩]
    refine qq<|qj fun K hK=>qm ?_;refine qe hK<|af.ret ⟨rx,_,rfl,rl bN hH (rfl)⟩
def cS (fr:Go.V.Fr) (k:Nat):Go.V.D:=Go.V.nth .bA fr.loc k
theorem qW {s0:St} {p:Pg} (hp:p.ok):Ev pv 25 [p.d] s0 (.bool (dec (eQ p))) s0:=by
 refine Ev.j8 rfl Qk rfl rfl rfl ?_;dsimp only[u3,u4,List.length,Nat.reduceSub,Nat.reduceAdd,w1,w2];obtain⟨bN,hF,hH⟩:=ri s0;generalize aj .ro s0=S at*;have hc:=hp.c.arg s0.bs.length S;have hs:=hp.s.arg s0.bs.length S;have o7:=hp.c;have hlen:=hp.cl;have Lp:=hp.sl;unfold Pg.d;refine qq<|qj fun K hK=>qb hH fun k1 st o6 hH=>?_;dsimp only[u2,u1,u3,u4,setMany,u5,u6,D.cells,Nat.reduceAdd,Pg.cs,aL,aq,aM] at hH;refine qm ?_;refine qe hK<|qq<|qq<|af.eY 17 (.bool (decide ((p.code.length:Int)>400)||decide ((p.aF.length:Int)>8))) [] ?_ (fun ff tmp d_=>?_)
 ·refine qp (o:=0) ?_;refine ql hH aB ?_;refine qn ?_;simp only[List.length_map];refine qg ?_;refine qm ?_;refine ae.two 12 rfl (fun eV=>?_) (fun eV=>?_)
  ·refine qs ?_ (hg:=wn eV);refine qs ?_ (hg:=wn eV);refine qs ?_ (hg:=wn eV);refine qs ?_ (hg:=wn eV);refine qt eV ?_;refine ae.nil (bq ?_ ?_)
   ·dsimp only[aD,List.foldl,nth,u2,u1]
    all_goals(first|rfl|simp)
   ·dsimp only[Fr.au,Fr.put,Fr.clean,Fr.ev,Fr.get,nth,V.look,u1,u2,v1,v2,v3,v4,v5,v6,v7,List.length,u3,u4,Nat.reduceSub,Nat.reduceAdd,List.map]
    all_goals(simp[eV];done)
  ·refine qp (o:=1) ?_ (hg:=wi eV);refine ql hH aB ?_ (hg:=wi eV);refine qn ?_ (hg:=wi eV);simp only[List.length_map];refine qg ?_ (hg:=wi eV);refine qu eV ?_;refine ae.nil (bq ?_ ?_)
   ·dsimp only[aD,List.foldl,nth,u2,u1]
    all_goals(first|rfl|simp)
   ·dsimp only[Fr.au,Fr.put,Fr.clean,Fr.ev,Fr.get,nth,V.look,u1,u2,v1,v2,v3,v4,v5,v6,v7,List.length,u3,u4,Nat.reduceSub,Nat.reduceAdd,List.map]
    all_goals(simp[eV];done)
 dsimp only[aD,List.foldl,nth,u2,u1];refine qc (fun h0=>?_) (fun h0=>?_)<;>try simp only[cs] at h0
 ·rw[iV (fun h=>by have:=h.cl;have:=h.sl;simp at h0;omega)];refine qq<|qj fun K hK=>qm ?_;refine qe hK<|af.ret ⟨rx,_,rfl,rl bN hH (rfl)⟩
 ·have h0:p.code.length≤400∧p.aF.length≤8:=by simp at h0;omega
  refine af.skip<|qq<|qq<|qj fun K hK=>qm ?_;refine qe hK<|af.block<|af.loop (fun mm fr st=>∃(i:Nat),fr.clean=⟨8,[cS fr 0,.ptr k1 0 0,.bool false,.int .i64 (i:Nat),cS fr 4,cS fr 5,cS fr 6,cS fr 7],[]⟩∧Has s0.bs.length S st [.box k1 (.mem 0 false [p.cd,p.sd])]∧(i+mm=p.code.length)∧(∀pc q,pc<i→p.code[pc]?=some q→ct p.code.length p.aF.length pc q=true)) (p.code.length) ?_ ?_
  ·exact⟨0,rfl,hH,by omega,by intro pc q h;omega⟩
  rintro mm fr st ⟨i,hfr,hH,hi,hsh⟩;rw[hfr];clear hfr;generalize cS fr=ee;clear fr;refine qq<|qq<|qj fun K hK=>qm ?_;refine qp (o:=0) ?_;refine ql hH aB ?_;refine qn ?_;simp only[List.length_map];refine qg ?_;refine qe hK ?_;refine af.cond (by rfl) (fun h1=>?_) (fun h1=>?_)<;>try simp only[decide_eq_true_eq,decide_eq_false_iff_not] at h1
  ·refine af.skip ?_
   obtain⟨q,hq⟩:∃q,p.code[i]?=some q:=⟨p.code[i]'(by omega),List.getElem?_eq_getElem _⟩
   refine qq<|af.block<|qq<|qj fun K hK=>?_;refine ae.bF (m:=2) hH rfl (ev rfl) (by exact aB) (by dsimp only[List.drop_succ_cons,List.drop_zero,List.take_succ_cons,List.take_zero,Pg.cs,aL,aq,aM]<;>rfl) rfl rfl (ag rfl _) ?_;refine qm ?_;refine qv (IQ (p:=p) hp hq) ?_;refine qg ?_;refine qe hK ?_;refine af.cond (by rfl) (fun h2=>?_) (fun h2=>?_)<;>try simp only[Bool.not_eq_true',Bool.not_eq_false'] at h2
   ·rw[iV (fun h=>by have:=h.sh i q hq;rw[this] at h2;cases h2)];refine qq<|qj fun K hK=>qm ?_;refine qe hK<|af.ret ⟨rx,_,rfl,rl bN hH (rfl)⟩
   ·refine af.skip<|qj fun K hK=>qm ?_;refine qA ?_;refine qm ?_;refine qe hK ?_;refine⟨mm-1,by omega,⟨i+1,rfl,hH,by omega,?_⟩⟩;intro pc q' Lv lu
    by_cases he:pc=i
    ·subst he;rw[hq] at lu;cases lu;simpa using h2
    ·exact hsh pc q' (by omega) lu
  ·refine af.exit ?_;have hsh:∀pc q,p.code[pc]?=some q→ct p.code.length p.aF.length pc q=true:=fun pc q hq=>hsh pc q (by have:=cn hq;omega) hq;have hcl:=mA hsh;refine qq<|qq<|qj fun K hK=>qm ?_;refine qe hK<|af.block<|af.loop (fun mm fr st=>∃(r:Nat),fr.clean=⟨8,[cS fr 0,.ptr k1 0 0,.bool false,cS fr 3,.int .i64 (r:Nat),cS fr 5,cS fr 6,cS fr 7],[]⟩∧Has s0.bs.length S st [.box k1 (.mem 0 false [p.cd,p.sd])]∧(r+mm=p.aF.length)∧(∀r' s,r'<r→p.aF[r']?=some s→0≤s∧s<(p.code.length:Int))) (p.aF.length) ?_ ?_
   ·exact⟨0,rfl,hH,by omega,by intro pc q h;omega⟩
   rintro mm fr st ⟨r,hfr,hH,hi,dz⟩;rw[hfr];clear hfr;generalize cS fr=ee;clear fr;refine qq<|qq<|qj fun K hK=>qm ?_;refine qp (o:=1) ?_;refine ql hH aB ?_;refine qn ?_;simp only[List.length_map];refine qg ?_;refine qe hK ?_;refine af.cond (by rfl) (fun h3=>?_) (fun h3=>?_)<;>try simp only[decide_eq_true_eq,decide_eq_false_iff_not] at h3
   ·refine af.skip ?_
    obtain⟨s,jf⟩:∃s,p.aF[r]?=some s:=⟨p.aF[r]'(by omega),List.getElem?_eq_getElem _⟩
    have I_:=cW jf;refine qq<|af.block<|qq<|af.eY 52 (.bool (decide (s<0)||decide (s≥p.code.length))) [] ?_ (fun ff tmp d_=>?_)
    ·refine qp (o:=1) ?_;refine ql hH aB ?_;refine qm ?_;refine qr fun QY LB=>?_;refine qR ?_;refine qg ?_;refine qm ?_;refine ae.two 42 rfl (fun c_=>?_) (fun c_=>?_)
     ·refine qs ?_ (hg:=wn c_);refine qs ?_ (hg:=wn c_);refine qs ?_ (hg:=wn c_);refine qs ?_ (hg:=wn c_);refine qs ?_ (hg:=wn c_);refine qs ?_ (hg:=wn c_);refine qs ?_ (hg:=wn c_);refine qs ?_ (hg:=wn c_);refine qs ?_ (hg:=wn c_);refine qt c_ ?_;refine ae.nil (bq ?_ ?_)
      ·dsimp only[aD,List.foldl,nth,u2,u1]
       all_goals(first|rfl|simp)
      ·dsimp only[Fr.au,Fr.put,Fr.clean,Fr.ev,Fr.get,nth,V.look,u1,u2,v1,v2,v3,v4,v5,v6,v7,List.length,u3,u4,Nat.reduceSub,Nat.reduceAdd,List.map]
       all_goals(simp[c_];done)
     ·refine qp (o:=1) ?_ (hg:=wi c_);refine ql hH aB ?_ (hg:=wi c_);refine qm ?_ (hg:=wi c_);refine qr (fun Wj Uq=>?_) (hg:=wi c_);refine qR ?_ (hg:=wi c_);refine qp (o:=0) ?_ (hg:=wi c_);refine ql hH aB ?_ (hg:=wi c_);refine qn ?_ (hg:=wi c_);simp only[List.length_map];refine qg ?_ (hg:=wi c_);refine qu c_ ?_;refine ae.nil (bq ?_ ?_)
      ·dsimp only[aD,List.foldl,nth,u2,u1]
       all_goals(first|rfl|simp)
      ·dsimp only[Fr.au,Fr.put,Fr.clean,Fr.ev,Fr.get,nth,V.look,u1,u2,v1,v2,v3,v4,v5,v6,v7,List.length,u3,u4,Nat.reduceSub,Nat.reduceAdd,List.map]
       all_goals(simp[c_];done)
    dsimp only[aD,List.foldl,nth,u2,u1];dsimp only[Fr.au,Fr.put,Fr.clean,Fr.ev,Fr.get,nth,V.look,u1,u2,v1,v2,v3,v4,v5,v6,v7,List.length,u3,u4,Nat.reduceSub,Nat.reduceAdd,List.map];refine qc (fun h4=>?_) (fun h4=>?_)<;>try simp only[cs] at h4
    ·rw[iV (fun h=>by have:=h.st s (List.mem_of_getElem? jf);simp at h4;omega)];refine qq<|qj fun K hK=>qm ?_;refine qe hK<|af.ret ⟨rx,_,rfl,rl bN hH (rfl)⟩
    ·have Ef:0≤s∧s<(p.code.length:Int):=by simp at h4;omega
     refine af.skip<|qj fun K hK=>qm ?_;refine qA ?_;refine qm ?_;refine qe hK ?_;refine⟨mm-1,by omega,⟨r+1,rfl,hH,by omega,?_⟩⟩;intro r' s' wU ox
     by_cases he:r'=r
     ·subst he;rw[jf] at ox;cases ox;exact Ef
     ·exact dz r' s' (by omega) ox
   ·refine af.exit ?_
    have dz:∀v∈p.aF,0≤v∧v<(p.code.length:Int):=fun v hv=>by
     obtain⟨r',wU⟩:=List.getElem?_of_mem hv;exact dz r' v (by have:=cn wU;omega) wU
    refine qq<|qq<|qj fun K hK=>qm ?_;refine qe hK<|af.block<|af.loop (fun mm fr st=>∃(r:Nat),fr.clean=⟨8,[cS fr 0,.ptr k1 0 0,.bool false,cS fr 3,cS fr 4,.int .i64 (r:Nat),cS fr 6,cS fr 7],[]⟩∧Has s0.bs.length S st [.box k1 (.mem 0 false [p.cd,p.sd])]∧(r+mm=p.aF.length)∧(∀r' s,r'<r→p.aF[r']?=some s→jx p r' s p.code.length)) (p.aF.length) ?_ ?_
    ·exact⟨0,rfl,hH,by omega,by intro pc q h;omega⟩
    rintro mm fr st ⟨r,hfr,hH,hi,hfo⟩;rw[hfr];clear hfr;generalize cS fr=ee;clear fr;refine qq<|qq<|qj fun K hK=>qm ?_;refine qp (o:=1) ?_;refine ql hH aB ?_;refine qn ?_;simp only[List.length_map];refine qg ?_;refine qe hK ?_;refine af.cond (by rfl) (fun h5=>?_) (fun h5=>?_)<;>try simp only[decide_eq_true_eq,decide_eq_false_iff_not] at h5
    ·refine af.skip ?_
     obtain⟨s,jf⟩:∃s,p.aF[r]?=some s:=⟨p.aF[r]'(by omega),List.getElem?_eq_getElem _⟩
     have hR:kC p (r:Nat)=de p.code s:=by
      unfold kC;rw[if_pos (e5.2 ⟨by omega,by omega⟩),Int.toNat_natCast,List.getD_eq_getElem?_getD,jf];rfl
     have zI:=nX p.code s;have I9:=(qx (de p.code s)).arg s0.bs.length S;refine qq<|af.block<|qq<|qj fun K hK=>?_;refine ae.bF (m:=2) hH rfl (ev rfl) (by exact aB) (by dsimp only[List.drop_succ_cons,List.drop_zero,List.take_succ_cons,List.take_zero,Pg.cs,aL,aq,aM]<;>rfl) rfl rfl (ag rfl _) ?_;refine qm ?_;refine qv ((hR▸ta (p:=p) (cu:=(r:Nat)) hp hcl dz)) ?_;refine qm ?_;refine qe hK<|qq<|qj fun K hK=>qm ?_;refine qe hK<|af.block<|af.loop (fun mm fr st=>∃(i:Nat),fr.clean=⟨8,[cS fr 0,.ptr k1 0 0,.bool false,cS fr 3,cS fr 4,.int .i64 (r:Nat),oQ (de p.code s),.int .i64 (i:Nat)],[]⟩∧Has s0.bs.length S st [.box k1 (.mem 0 false [p.cd,p.sd])]∧(i+mm=p.code.length)∧(jx p r s i)) (p.code.length) ?_ ?_
     ·exact⟨0,rfl,hH,by omega,by intro pc q h;omega⟩
     rintro mm fr st ⟨i,hfr,hH,hj,hom⟩;rw[hfr];clear hfr;generalize cS fr=ee;clear fr;refine qq<|qq<|qj fun K hK=>qm ?_;refine qp (o:=0) ?_;refine ql hH aB ?_;refine qn ?_;simp only[List.length_map];refine qg ?_;refine qe hK ?_;refine af.cond (by rfl) (fun h7=>?_) (fun h7=>?_)<;>try simp only[decide_eq_true_eq,decide_eq_false_iff_not] at h7
     ·refine af.skip ?_
      obtain⟨b,hb⟩:∃b,(de p.code s)[i]?=some b:=⟨(de p.code s)[i]'(by omega),List.getElem?_eq_getElem _⟩
      obtain⟨q,hq⟩:∃q,p.code[i]?=some q:=⟨p.code[i]'(by omega),List.getElem?_eq_getElem _⟩
      have gI:=iB hb;have kP:=fO hq;refine qq<|af.block<|qq<|af.eY 92 (.bool ((b &&(q.op==7)) &&(q.x !=(r:Int)))) [] ?_ (fun ff tmp d_=>?_)
      ·refine qm ?_;refine qm ?_;refine qr fun SN Ol=>?_;refine qR ?_;refine qm ?_;refine ae.two 74 rfl (fun eV=>?_) (fun eV=>?_)
       ·refine qp (o:=0) ?_ (hg:=wi eV);refine ql hH aB ?_ (hg:=wi eV);refine qm ?_ (hg:=wi eV);refine qr (fun V6 Ub=>?_) (hg:=wi eV);refine qf (fo:=0) (fun Nt I'=>?_) (hg:=wi eV);refine qR ?_ (hg:=wi eV);refine qg ?_ (hg:=wi eV);refine qt eV ?_;refine qm ?_;refine ae.two 83 rfl (fun bP=>?_) (fun bP=>?_)
        ·refine qp (o:=0) ?_ (hg:=wi bP);refine ql hH aB ?_ (hg:=wi bP);refine qm ?_ (hg:=wi bP);refine qr (fun V3 T9=>?_) (hg:=wi bP);refine qf (fo:=1) (fun SI Of=>?_) (hg:=wi bP);refine qR ?_ (hg:=wi bP);refine qm ?_ (hg:=wi bP);refine qg ?_ (hg:=wi bP);refine qt bP ?_;refine ae.nil (bq ?_ ?_)
         ·dsimp only[aD,List.foldl,nth,u2,u1]
          all_goals(first|rfl|simp)
         ·dsimp only[Fr.au,Fr.put,Fr.clean,Fr.ev,Fr.get,nth,V.look,u1,u2,v1,v2,v3,v4,v5,v6,v7,List.length,u3,u4,Nat.reduceSub,Nat.reduceAdd,List.map]
          all_goals(simp[eV,bP];done)
        ·refine qs ?_ (hg:=wn bP);refine qs ?_ (hg:=wn bP);refine qs ?_ (hg:=wn bP);refine qs ?_ (hg:=wn bP);refine qs ?_ (hg:=wn bP);refine qs ?_ (hg:=wn bP);refine qs ?_ (hg:=wn bP);refine qs ?_ (hg:=wn bP);refine qu bP ?_;refine ae.nil (bq ?_ ?_)
         ·dsimp only[aD,List.foldl,nth,u2,u1]
          all_goals(first|rfl|simp)
         ·dsimp only[Fr.au,Fr.put,Fr.clean,Fr.ev,Fr.get,nth,V.look,u1,u2,v1,v2,v3,v4,v5,v6,v7,List.length,u3,u4,Nat.reduceSub,Nat.reduceAdd,List.map]
          all_goals(simp[eV,bP];done)
       ·refine qs ?_ (hg:=wn eV);refine qs ?_ (hg:=wn eV);refine qs ?_ (hg:=wn eV);refine qs ?_ (hg:=wn eV);refine qs ?_ (hg:=wn eV);refine qs ?_ (hg:=wn eV);refine qs ?_ (hg:=wn eV);refine qu eV ?_;refine qm ?_;refine qs ?_;refine qs ?_;refine qs ?_;refine qs ?_;refine qs ?_;refine qs ?_;refine qs ?_;refine qs ?_;refine qg ?_;refine ae.nil (bq ?_ ?_)
        ·dsimp only[aD,List.foldl,nth,u2,u1]
         all_goals(first|rfl|simp)
        ·dsimp only[Fr.au,Fr.put,Fr.clean,Fr.ev,Fr.get,nth,V.look,u1,u2,v1,v2,v3,v4,v5,v6,v7,List.length,u3,u4,Nat.reduceSub,Nat.reduceAdd,List.map]
         all_goals(simp[eV];done)
      dsimp only[aD,List.foldl,nth,u2,u1];dsimp only[Fr.au,Fr.put,Fr.clean,Fr.ev,Fr.get,nth,V.look,u1,u2,v1,v2,v3,v4,v5,v6,v7,List.length,u3,u4,Nat.reduceSub,Nat.reduceAdd,List.map];refine qc (fun h6=>?_) (fun h6=>?_)<;>try simp only[cs] at h6
      ·rw[iV (fun h=>by
        have h7:=h.fo r s jf i q (by omega);simp only[Bool.and_eq_true,beq_iff_eq,bne_iff_ne,ne_eq] at h6;obtain⟨⟨rfl,h8⟩,h9⟩:=h6
        exact h9 (h7 hb hq h8))]
       refine qq<|qj fun K hK=>qm ?_;refine qe hK<|af.ret ⟨rx,_,rfl,rl bN hH (rfl)⟩
      ·refine af.skip<|qj fun K hK=>qm ?_;refine qA ?_;refine qm ?_;refine qe hK ?_;refine⟨mm-1,by omega,⟨i+1,rfl,hH,by omega,?_⟩⟩;intro pc q' Lv I8 lu fm
       by_cases he:pc=i
       ·subst he;rw[hq] at lu;cases lu;rw[hb] at I8;cases I8;simp[fm] at h6;exact h6
       ·exact hom pc q' (by omega) I8 lu fm
     ·refine af.exit<|qj fun K hK=>qm ?_;refine qA ?_;refine qm ?_;refine qe hK ?_;refine⟨p.aF.length-(r+1),by omega,⟨r+1,rfl,hH,by omega,?_⟩⟩;intro r' s' wU ox
      by_cases he:r'=r
      ·subst he;rw[jf] at ox;cases ox;exact fun pc q Lv=>hom pc q (by omega)
      ·exact hfo r' s' (by omega) ox
    ·refine af.exit ?_;rw[nH ⟨h0.1,h0.2,hsh,dz,fun r' s' ox=>hfo r' s' (by have:=cn ox;omega) ox⟩];refine qq<|qj fun K hK=>qm ?_;refine qe hK<|af.ret ⟨rx,_,rfl,rl bN hH (rfl)⟩
end Go.Proofs.Ytbdilgkfnacahaa
