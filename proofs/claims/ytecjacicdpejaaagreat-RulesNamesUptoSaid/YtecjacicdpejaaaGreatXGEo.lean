/-
 rules: may a rule have that name? New tables.
-/
import Derived.Test.YtecjacicdpejaaaGreatXGEg
import Derived.Test.YtecjacicdpejaaaGreatXGEm
import Derived.Test.YtecjacicdpejaaaGreatXGTf
import Derived.Test.YtecjacicdpejaaaGreatXGQh
import Derived.Test.YtecjacicdpejaaaGreatXGPb
import Derived.Test.YtecjacicdpejaaaGreatXGCa
import Derived.Test.YtecjacicdpejaaaGreatXM2
set_option maxRecDepth 100000
set_option maxHeartbeats 4000000
set_option linter.unusedSimpArgs false
set_option linter.unusedVariables false
set_option linter.unusedSectionVars false
namespace Go.Proofs.YtecjacicdpejaaaGreat
open Go.V Go
def cq (fr:Go.V.Fr) (k:Nat):Go.V.D:=Go.V.nth .bp fr.loc k
def Bh (c:Int):Bool:=decide (c≥97) &&decide (c≤122)||decide (c≥65) &&decide (c≤90)||decide (c≥48) &&decide (c≤57)||c==45||c==95||c==46
def qk (s:List UInt8):Bool:=!(s==[]) &&decide (s.length≤32) &&s.all fun c=>Bh (c.toNat:Nat)
theorem FR {t:TypeId} (ht:pv.cw t=some .string) {s:List UInt8} {i:Nat} {c:UInt8} (h:s[i]?=some c):nS pv t (.str s) (.int .i64 (i:Nat))=some (.int .u8 (c.toNat:Nat)):=by
 unfold nS;simp only[ht];rw[if_pos (by omega),Int.toNat_natCast,h];rfl
theorem Dg {s0:St} {s:List UInt8} (hl:s.length≤1048576):Ev pv 170 [.str s] s0 (.bool (qk s)) s0:=by
 refine Ev.jq rfl Mh rfl rfl rfl ?_;dsimp only[u3,u4,List.length,Nat.reduceSub,Nat.reduceAdd,w1,w2];obtain⟨bf,hF,hH⟩:=ri s0;generalize ai .ro s0=S at*;refine qq<|qj fun K hK=>qm ?_;refine qe hK<|qq<|qq<|ag.sm 12 (.bool ((s==[])||decide (((s.length:Nat):Int)>32))) [6,7,8,9,10,11] ?_ (fun ff tmp=>?_)
 ·refine qm ?_;refine qg ?_;refine qm ?_;refine ae.two 8 rfl (fun aN=>?_) (fun aN=>?_)
  ·refine qs ?_ (hg:=wn aN);refine qs ?_ (hg:=wn aN);refine qs ?_ (hg:=wn aN);refine qt aN ?_;refine ae.nil (aM ?_);dsimp only[aD,List.foldl,nth,u2,u1];dsimp only[Fr.ay,Fr.put,Fr.clean,Fr.ev,Fr.get,nth,V.look,u1,u2,v1,v2,v3,v4,v5,v6,v7,List.length,u3,u4,Nat.reduceSub,Nat.reduceAdd,List.map]
   all_goals(simp[aN];done)
  ·refine qm ?_ (hg:=wi aN);refine ae.lF (aj rfl rfl rfl aN) rfl rfl (by dsimp only[Fr.put,u1,u2]<;>rfl) ?_;refine qg ?_ (hg:=wi aN);refine qu aN ?_;refine ae.nil (aM ?_);dsimp only[aD,List.foldl,nth,u2,u1];dsimp only[Fr.ay,Fr.put,Fr.clean,Fr.ev,Fr.get,nth,V.look,u1,u2,v1,v2,v3,v4,v5,v6,v7,List.length,u3,u4,Nat.reduceSub,Nat.reduceAdd,List.map]
   all_goals(simp[aN];done)
 dsimp only[aD,List.foldl,nth,u2,u1];generalize ff 6=e6;generalize ff 7=e7;generalize ff 8=e8;generalize ff 9=e9;generalize ff 10=U4;generalize ff 11=U3
 by_cases h1:s≠[]∧s.length≤32
 ·have hc:((s==[])||decide (((s.length:Nat):Int)>32))=false:=by
   rw[Bool.or_eq_false_iff];exact⟨by simpa using h1.1,by rw[decide_eq_false_iff_not];omega⟩
  have hn:qk s=s.all fun c=>Bh (c.toNat:Nat):=by
   unfold qk;rw[decide_eq_true h1.2];simp[h1.1]
  rw[hn];refine qE rfl (by rw[hc]) ?_;refine ag.skip<|qq<|qq<|qj fun K hK=>qm ?_;refine ae.lF rfl rfl rfl (by dsimp only[Fr.put,u1,u2]<;>rfl) ?_;refine qm ?_;refine qe hK<|ag.block<|ag.loop (fun mm fr st=>∃(i:Nat),fr.clean=⟨16,[.str s,cq fr 1,cq fr 2,cq fr 3,cq fr 4,cq fr 5,cq fr 6,cq fr 7,cq fr 8,cq fr 9,cq fr 10,cq fr 11,cq fr 12,cq fr 13,.int .i64 (s.length:Nat),.int .i64 (i:Nat)],[]⟩∧Has s0.bs.length S st []∧(i+mm=s.length)∧((s.take i).all (fun c=>Bh (c.toNat:Nat))=true)) (s.length) ?_ ?_
  ·exact⟨0,rfl,hH,by omega,rfl⟩
  rintro mm fr st ⟨i,hfr,hH,hi,ht⟩;rw[hfr];clear hfr;generalize cq fr=ee;clear fr;refine qq<|qj fun K hK=>qg ?_;refine qe hK<|qq ?_;refine ag.cond (by rfl) (fun h2=>?_) (fun h2=>?_)<;>try simp only[decide_eq_true_eq,decide_eq_false_iff_not] at h2
  ·refine ag.skip ?_
   obtain⟨c,hc⟩:∃c,s[i]?=some c:=⟨s[i]'(by omega),List.getElem?_eq_getElem _⟩
   refine qq<|ag.block<|qq<|qj fun K hK=>qm ?_;refine qm ?_;refine qe hK<|qq<|qj fun K hK=>qm ?_;refine qm ?_;refine ae.go (d:=.int .u8 (c.toNat:Nat)) (st1:=_) rfl rfl (by exact congrArg (Option.map fun d=>(d,_)) (FR rfl hc)) (aa rfl _) ?_;refine qm ?_;refine qe hK<|qq<|ag.sm 5 (.bool (decide (((c.toNat:Nat):Int)≥97) &&decide (((c.toNat:Nat):Int)≤122)||decide (((c.toNat:Nat):Int)≥65) &&decide (((c.toNat:Nat):Int)≤90)||decide (((c.toNat:Nat):Int)≥48) &&decide (((c.toNat:Nat):Int)≤57)||((c.toNat:Nat):Int)==45||((c.toNat:Nat):Int)==95||((c.toNat:Nat):Int)==46)) [] ?_ (fun ff tmp=>?_)
   ·refine qm ?_;refine qg ?_;refine qm ?_;refine ae.two 23 rfl (fun aN=>?_) (fun aN=>?_)
    ·refine qm ?_ (hg:=wi aN);refine qg ?_ (hg:=wi aN);refine qt aN ?_;refine qm ?_;refine ae.two 27 rfl (fun fk=>?_) (fun fk=>?_)
     ·refine qs ?_ (hg:=wn fk);refine qs ?_ (hg:=wn fk);refine qs ?_ (hg:=wn fk);refine qs ?_;refine qs ?_;refine qs ?_ (hg:=wn fk);refine qt fk ?_;refine qm ?_;refine qs ?_;refine qs ?_;refine qs ?_;refine qs ?_;refine qs ?_;refine qs ?_;refine qg ?_;refine qm ?_;refine qs ?_;refine qs ?_;refine qg ?_;refine qm ?_;refine qs ?_;refine qs ?_;refine qg ?_;refine qm ?_;refine qs ?_;refine qs ?_;refine qg ?_;refine qm ?_;refine ae.nil (aM ?_);dsimp only[aD,List.foldl,nth,u2,u1];dsimp only[Fr.ay,Fr.put,Fr.clean,Fr.ev,Fr.get,nth,V.look,u1,u2,v1,v2,v3,v4,v5,v6,v7,List.length,u3,u4,Nat.reduceSub,Nat.reduceAdd,List.map]
      all_goals(simp[aN,fk];done)
     ·refine qm ?_ (hg:=wi fk);refine qg ?_ (hg:=wi fk);refine qm ?_ (hg:=wi fk);refine ae.two 30 rfl (fun bX=>?_) (fun bX=>?_)
      ·refine qm ?_ (hg:=wi bX);refine qg ?_ (hg:=wi bX);refine ae.cP (aj rfl rfl rfl fk) rfl bX (aa rfl _) ?_;refine qu fk ?_;refine qm ?_;refine ae.two 35 rfl (fun bn=>?_) (fun bn=>?_)
       ·refine qs ?_ (hg:=wn bn);refine qs ?_ (hg:=wn bn);refine qs ?_ (hg:=wn bn);refine qs ?_;refine qs ?_;refine qs ?_ (hg:=wn bn);refine qt bn ?_;refine qm ?_;refine qs ?_;refine qs ?_;refine qg ?_;refine qm ?_;refine qs ?_;refine qs ?_;refine qg ?_;refine qm ?_;refine qs ?_;refine qs ?_;refine qg ?_;refine qm ?_;refine ae.nil (aM ?_);dsimp only[aD,List.foldl,nth,u2,u1];dsimp only[Fr.ay,Fr.put,Fr.clean,Fr.ev,Fr.get,nth,V.look,u1,u2,v1,v2,v3,v4,v5,v6,v7,List.length,u3,u4,Nat.reduceSub,Nat.reduceAdd,List.map]
        all_goals(simp[aN,fk,bX,bn];done)
       ·refine qm ?_ (hg:=wi bn);refine qg ?_ (hg:=wi bn);refine qm ?_ (hg:=wi bn);refine ae.two 38 rfl (fun aF=>?_) (fun aF=>?_)
        ·refine qm ?_ (hg:=wi aF);refine qg ?_ (hg:=wi aF);refine ae.cP (aj rfl rfl rfl bn) rfl aF (aa rfl _) ?_;refine qu bn ?_;refine qm ?_;refine ae.two 43 rfl (fun aJ=>?_) (fun aJ=>?_)
         ·refine qs ?_ (hg:=wn aJ);refine qs ?_ (hg:=wn aJ);refine qt aJ ?_;refine qm ?_;refine qs ?_;refine qs ?_;refine qg ?_;refine qm ?_;refine qs ?_;refine qs ?_;refine qg ?_;refine qm ?_;refine ae.nil (aM ?_);dsimp only[aD,List.foldl,nth,u2,u1];dsimp only[Fr.ay,Fr.put,Fr.clean,Fr.ev,Fr.get,nth,V.look,u1,u2,v1,v2,v3,v4,v5,v6,v7,List.length,u3,u4,Nat.reduceSub,Nat.reduceAdd,List.map]
          all_goals(simp[aN,fk,bX,bn,aF,aJ];done)
         ·refine qm ?_ (hg:=wi aJ);refine qg ?_ (hg:=wi aJ);refine qu aJ ?_;refine qm ?_;refine ae.two 47 rfl (fun aW=>?_) (fun aW=>?_)
          ·refine qs ?_ (hg:=wn aW);refine qs ?_ (hg:=wn aW);refine qt aW ?_;refine qm ?_;refine qs ?_;refine qs ?_;refine qg ?_;refine qm ?_;refine ae.nil (aM ?_);dsimp only[aD,List.foldl,nth,u2,u1];dsimp only[Fr.ay,Fr.put,Fr.clean,Fr.ev,Fr.get,nth,V.look,u1,u2,v1,v2,v3,v4,v5,v6,v7,List.length,u3,u4,Nat.reduceSub,Nat.reduceAdd,List.map]
           all_goals(simp[aN,fk,bX,bn,aF,aJ,aW];done)
          ·refine qm ?_ (hg:=wi aW);refine qg ?_ (hg:=wi aW);refine qu aW ?_;refine qm ?_;refine ae.two 51 rfl (fun bq=>?_) (fun bq=>?_)
           ·refine qs ?_ (hg:=wn bq);refine qs ?_ (hg:=wn bq);refine qt bq ?_;refine qm ?_;refine ae.nil (aM ?_);dsimp only[aD,List.foldl,nth,u2,u1];dsimp only[Fr.ay,Fr.put,Fr.clean,Fr.ev,Fr.get,nth,V.look,u1,u2,v1,v2,v3,v4,v5,v6,v7,List.length,u3,u4,Nat.reduceSub,Nat.reduceAdd,List.map]
            all_goals(simp[aN,fk,bX,bn,aF,aJ,aW,bq];done)
           ·refine qm ?_ (hg:=wi bq);refine qg ?_ (hg:=wi bq);refine qu bq ?_;refine qm ?_;refine ae.nil (aM ?_);dsimp only[aD,List.foldl,nth,u2,u1];dsimp only[Fr.ay,Fr.put,Fr.clean,Fr.ev,Fr.get,nth,V.look,u1,u2,v1,v2,v3,v4,v5,v6,v7,List.length,u3,u4,Nat.reduceSub,Nat.reduceAdd,List.map]
            all_goals(simp[aN,fk,bX,bn,aF,aJ,aW,bq];done)
        ·refine qs ?_ (hg:=wn aF);refine qs ?_ (hg:=wn aF);refine ae.cH (aj rfl rfl rfl bn) rfl aF (aa rfl _) ?_;refine qu bn ?_;refine qm ?_;refine qm ?_;refine qg ?_;refine qg ?_;refine qm ?_;refine ae.two 47 rfl (fun aW=>?_) (fun aW=>?_)
         ·refine qs ?_ (hg:=wn aW);refine qs ?_ (hg:=wn aW);refine qt aW ?_;refine qm ?_;refine qs ?_;refine qs ?_;refine qg ?_;refine qm ?_;refine ae.nil (aM ?_);dsimp only[aD,List.foldl,nth,u2,u1];dsimp only[Fr.ay,Fr.put,Fr.clean,Fr.ev,Fr.get,nth,V.look,u1,u2,v1,v2,v3,v4,v5,v6,v7,List.length,u3,u4,Nat.reduceSub,Nat.reduceAdd,List.map]
          all_goals(simp[aN,fk,bX,bn,aF,aW];done)
         ·refine qm ?_ (hg:=wi aW);refine qg ?_ (hg:=wi aW);refine qu aW ?_;refine qm ?_;refine ae.two 51 rfl (fun bq=>?_) (fun bq=>?_)
          ·refine qs ?_ (hg:=wn bq);refine qs ?_ (hg:=wn bq);refine qt bq ?_;refine qm ?_;refine ae.nil (aM ?_);dsimp only[aD,List.foldl,nth,u2,u1];dsimp only[Fr.ay,Fr.put,Fr.clean,Fr.ev,Fr.get,nth,V.look,u1,u2,v1,v2,v3,v4,v5,v6,v7,List.length,u3,u4,Nat.reduceSub,Nat.reduceAdd,List.map]
           all_goals(simp[aN,fk,bX,bn,aF,aW,bq];done)
          ·refine qm ?_ (hg:=wi bq);refine qg ?_ (hg:=wi bq);refine qu bq ?_;refine qm ?_;refine ae.nil (aM ?_);dsimp only[aD,List.foldl,nth,u2,u1];dsimp only[Fr.ay,Fr.put,Fr.clean,Fr.ev,Fr.get,nth,V.look,u1,u2,v1,v2,v3,v4,v5,v6,v7,List.length,u3,u4,Nat.reduceSub,Nat.reduceAdd,List.map]
           all_goals(simp[aN,fk,bX,bn,aF,aW,bq];done)
      ·refine qs ?_ (hg:=wn bX);refine qs ?_ (hg:=wn bX);refine ae.cH (aj rfl rfl rfl fk) rfl bX (aa rfl _) ?_;refine qu fk ?_;refine qm ?_;refine qm ?_;refine qg ?_;refine qm ?_;refine ae.two 38 rfl (fun aF=>?_) (fun aF=>?_)
       ·refine qm ?_ (hg:=wi aF);refine qg ?_ (hg:=wi aF);refine qt aF ?_;refine qg ?_;refine qm ?_;refine ae.two 43 rfl (fun aJ=>?_) (fun aJ=>?_)
        ·refine qs ?_ (hg:=wn aJ);refine qs ?_ (hg:=wn aJ);refine qt aJ ?_;refine qm ?_;refine qs ?_;refine qs ?_;refine qg ?_;refine qm ?_;refine qs ?_;refine qs ?_;refine qg ?_;refine qm ?_;refine ae.nil (aM ?_);dsimp only[aD,List.foldl,nth,u2,u1];dsimp only[Fr.ay,Fr.put,Fr.clean,Fr.ev,Fr.get,nth,V.look,u1,u2,v1,v2,v3,v4,v5,v6,v7,List.length,u3,u4,Nat.reduceSub,Nat.reduceAdd,List.map]
         all_goals(simp[aN,fk,bX,aF,aJ];done)
        ·refine qm ?_ (hg:=wi aJ);refine qg ?_ (hg:=wi aJ);refine qu aJ ?_;refine qm ?_;refine ae.two 47 rfl (fun aW=>?_) (fun aW=>?_)
         ·refine qs ?_ (hg:=wn aW);refine qs ?_ (hg:=wn aW);refine qt aW ?_;refine qm ?_;refine qs ?_;refine qs ?_;refine qg ?_;refine qm ?_;refine ae.nil (aM ?_);dsimp only[aD,List.foldl,nth,u2,u1];dsimp only[Fr.ay,Fr.put,Fr.clean,Fr.ev,Fr.get,nth,V.look,u1,u2,v1,v2,v3,v4,v5,v6,v7,List.length,u3,u4,Nat.reduceSub,Nat.reduceAdd,List.map]
          all_goals(simp[aN,fk,bX,aF,aJ,aW];done)
         ·refine qm ?_ (hg:=wi aW);refine qg ?_ (hg:=wi aW);refine qu aW ?_;refine qm ?_;refine ae.two 51 rfl (fun bq=>?_) (fun bq=>?_)
          ·refine qs ?_ (hg:=wn bq);refine qs ?_ (hg:=wn bq);refine qt bq ?_;refine qm ?_;refine ae.nil (aM ?_);dsimp only[aD,List.foldl,nth,u2,u1];dsimp only[Fr.ay,Fr.put,Fr.clean,Fr.ev,Fr.get,nth,V.look,u1,u2,v1,v2,v3,v4,v5,v6,v7,List.length,u3,u4,Nat.reduceSub,Nat.reduceAdd,List.map]
           all_goals(simp[aN,fk,bX,aF,aJ,aW,bq];done)
          ·refine qm ?_ (hg:=wi bq);refine qg ?_ (hg:=wi bq);refine qu bq ?_;refine qm ?_;refine ae.nil (aM ?_);dsimp only[aD,List.foldl,nth,u2,u1];dsimp only[Fr.ay,Fr.put,Fr.clean,Fr.ev,Fr.get,nth,V.look,u1,u2,v1,v2,v3,v4,v5,v6,v7,List.length,u3,u4,Nat.reduceSub,Nat.reduceAdd,List.map]
           all_goals(simp[aN,fk,bX,aF,aJ,aW,bq];done)
       ·refine qs ?_ (hg:=wn aF);refine qs ?_ (hg:=wn aF);refine qu aF ?_;refine qg ?_;refine qm ?_;refine qm ?_;refine qg ?_;refine qg ?_;refine qm ?_;refine ae.two 47 rfl (fun aW=>?_) (fun aW=>?_)
        ·refine qs ?_ (hg:=wn aW);refine qs ?_ (hg:=wn aW);refine qt aW ?_;refine qm ?_;refine qs ?_;refine qs ?_;refine qg ?_;refine qm ?_;refine ae.nil (aM ?_);dsimp only[aD,List.foldl,nth,u2,u1];dsimp only[Fr.ay,Fr.put,Fr.clean,Fr.ev,Fr.get,nth,V.look,u1,u2,v1,v2,v3,v4,v5,v6,v7,List.length,u3,u4,Nat.reduceSub,Nat.reduceAdd,List.map]
         all_goals(simp[aN,fk,bX,aF,aW];done)
        ·refine qm ?_ (hg:=wi aW);refine qg ?_ (hg:=wi aW);refine qu aW ?_;refine qm ?_;refine ae.two 51 rfl (fun bq=>?_) (fun bq=>?_)
         ·refine qs ?_ (hg:=wn bq);refine qs ?_ (hg:=wn bq);refine qt bq ?_;refine qm ?_;refine ae.nil (aM ?_);dsimp only[aD,List.foldl,nth,u2,u1];dsimp only[Fr.ay,Fr.put,Fr.clean,Fr.ev,Fr.get,nth,V.look,u1,u2,v1,v2,v3,v4,v5,v6,v7,List.length,u3,u4,Nat.reduceSub,Nat.reduceAdd,List.map]
          all_goals(simp[aN,fk,bX,aF,aW,bq];done)
         ·refine qm ?_ (hg:=wi bq);refine qg ?_ (hg:=wi bq);refine qu bq ?_;refine qm ?_;refine ae.nil (aM ?_);dsimp only[aD,List.foldl,nth,u2,u1];dsimp only[Fr.ay,Fr.put,Fr.clean,Fr.ev,Fr.get,nth,V.look,u1,u2,v1,v2,v3,v4,v5,v6,v7,List.length,u3,u4,Nat.reduceSub,Nat.reduceAdd,List.map]
          all_goals(simp[aN,fk,bX,aF,aW,bq];done)
    ·refine qs ?_ (hg:=wn aN);refine qs ?_ (hg:=wn aN);refine qu aN ?_;refine qm ?_;refine qm ?_;refine qg ?_;refine qm ?_;refine ae.two 30 rfl (fun bX=>?_) (fun bX=>?_)
     ·refine qm ?_ (hg:=wi bX);refine qg ?_ (hg:=wi bX);refine qt bX ?_;refine qg ?_;refine qm ?_;refine ae.two 35 rfl (fun bn=>?_) (fun bn=>?_)
      ·refine qs ?_ (hg:=wn bn);refine qs ?_ (hg:=wn bn);refine qs ?_ (hg:=wn bn);refine qs ?_;refine qs ?_;refine qs ?_ (hg:=wn bn);refine qt bn ?_;refine qm ?_;refine qs ?_;refine qs ?_;refine qg ?_;refine qm ?_;refine qs ?_;refine qs ?_;refine qg ?_;refine qm ?_;refine qs ?_;refine qs ?_;refine qg ?_;refine qm ?_;refine ae.nil (aM ?_);dsimp only[aD,List.foldl,nth,u2,u1];dsimp only[Fr.ay,Fr.put,Fr.clean,Fr.ev,Fr.get,nth,V.look,u1,u2,v1,v2,v3,v4,v5,v6,v7,List.length,u3,u4,Nat.reduceSub,Nat.reduceAdd,List.map]
       all_goals(simp[aN,bX,bn];done)
      ·refine qm ?_ (hg:=wi bn);refine qg ?_ (hg:=wi bn);refine qm ?_ (hg:=wi bn);refine ae.two 38 rfl (fun aF=>?_) (fun aF=>?_)
       ·refine qm ?_ (hg:=wi aF);refine qg ?_ (hg:=wi aF);refine ae.cP (aj rfl rfl rfl bn) rfl aF (aa rfl _) ?_;refine qu bn ?_;refine qm ?_;refine ae.two 43 rfl (fun aJ=>?_) (fun aJ=>?_)
        ·refine qs ?_ (hg:=wn aJ);refine qs ?_ (hg:=wn aJ);refine qt aJ ?_;refine qm ?_;refine qs ?_;refine qs ?_;refine qg ?_;refine qm ?_;refine qs ?_;refine qs ?_;refine qg ?_;refine qm ?_;refine ae.nil (aM ?_);dsimp only[aD,List.foldl,nth,u2,u1];dsimp only[Fr.ay,Fr.put,Fr.clean,Fr.ev,Fr.get,nth,V.look,u1,u2,v1,v2,v3,v4,v5,v6,v7,List.length,u3,u4,Nat.reduceSub,Nat.reduceAdd,List.map]
         all_goals(simp[aN,bX,bn,aF,aJ];done)
        ·refine qm ?_ (hg:=wi aJ);refine qg ?_ (hg:=wi aJ);refine qu aJ ?_;refine qm ?_;refine ae.two 47 rfl (fun aW=>?_) (fun aW=>?_)
         ·refine qs ?_ (hg:=wn aW);refine qs ?_ (hg:=wn aW);refine qt aW ?_;refine qm ?_;refine qs ?_;refine qs ?_;refine qg ?_;refine qm ?_;refine ae.nil (aM ?_);dsimp only[aD,List.foldl,nth,u2,u1];dsimp only[Fr.ay,Fr.put,Fr.clean,Fr.ev,Fr.get,nth,V.look,u1,u2,v1,v2,v3,v4,v5,v6,v7,List.length,u3,u4,Nat.reduceSub,Nat.reduceAdd,List.map]
          all_goals(simp[aN,bX,bn,aF,aJ,aW];done)
         ·refine qm ?_ (hg:=wi aW);refine qg ?_ (hg:=wi aW);refine qu aW ?_;refine qm ?_;refine ae.two 51 rfl (fun bq=>?_) (fun bq=>?_)
          ·refine qs ?_ (hg:=wn bq);refine qs ?_ (hg:=wn bq);refine qt bq ?_;refine qm ?_;refine ae.nil (aM ?_);dsimp only[aD,List.foldl,nth,u2,u1];dsimp only[Fr.ay,Fr.put,Fr.clean,Fr.ev,Fr.get,nth,V.look,u1,u2,v1,v2,v3,v4,v5,v6,v7,List.length,u3,u4,Nat.reduceSub,Nat.reduceAdd,List.map]
           all_goals(simp[aN,bX,bn,aF,aJ,aW,bq];done)
          ·refine qm ?_ (hg:=wi bq);refine qg ?_ (hg:=wi bq);refine qu bq ?_;refine qm ?_;refine ae.nil (aM ?_);dsimp only[aD,List.foldl,nth,u2,u1];dsimp only[Fr.ay,Fr.put,Fr.clean,Fr.ev,Fr.get,nth,V.look,u1,u2,v1,v2,v3,v4,v5,v6,v7,List.length,u3,u4,Nat.reduceSub,Nat.reduceAdd,List.map]
           all_goals(simp[aN,bX,bn,aF,aJ,aW,bq];done)
       ·refine qs ?_ (hg:=wn aF);refine qs ?_ (hg:=wn aF);refine ae.cH (aj rfl rfl rfl bn) rfl aF (aa rfl _) ?_;refine qu bn ?_;refine qm ?_;refine qm ?_;refine qg ?_;refine qg ?_;refine qm ?_;refine ae.two 47 rfl (fun aW=>?_) (fun aW=>?_)
        ·refine qs ?_ (hg:=wn aW);refine qs ?_ (hg:=wn aW);refine qt aW ?_;refine qm ?_;refine qs ?_;refine qs ?_;refine qg ?_;refine qm ?_;refine ae.nil (aM ?_);dsimp only[aD,List.foldl,nth,u2,u1];dsimp only[Fr.ay,Fr.put,Fr.clean,Fr.ev,Fr.get,nth,V.look,u1,u2,v1,v2,v3,v4,v5,v6,v7,List.length,u3,u4,Nat.reduceSub,Nat.reduceAdd,List.map]
         all_goals(simp[aN,bX,bn,aF,aW];done)
        ·refine qm ?_ (hg:=wi aW);refine qg ?_ (hg:=wi aW);refine qu aW ?_;refine qm ?_;refine ae.two 51 rfl (fun bq=>?_) (fun bq=>?_)
         ·refine qs ?_ (hg:=wn bq);refine qs ?_ (hg:=wn bq);refine qt bq ?_;refine qm ?_;refine ae.nil (aM ?_);dsimp only[aD,List.foldl,nth,u2,u1];dsimp only[Fr.ay,Fr.put,Fr.clean,Fr.ev,Fr.get,nth,V.look,u1,u2,v1,v2,v3,v4,v5,v6,v7,List.length,u3,u4,Nat.reduceSub,Nat.reduceAdd,List.map]
          all_goals(simp[aN,bX,bn,aF,aW,bq];done)
         ·refine qm ?_ (hg:=wi bq);refine qg ?_ (hg:=wi bq);refine qu bq ?_;refine qm ?_;refine ae.nil (aM ?_);dsimp only[aD,List.foldl,nth,u2,u1];dsimp only[Fr.ay,Fr.put,Fr.clean,Fr.ev,Fr.get,nth,V.look,u1,u2,v1,v2,v3,v4,v5,v6,v7,List.length,u3,u4,Nat.reduceSub,Nat.reduceAdd,List.map]
          all_goals(simp[aN,bX,bn,aF,aW,bq];done)
     ·refine qs ?_ (hg:=wn bX);refine qs ?_ (hg:=wn bX);refine qu bX ?_;refine qg ?_;refine qm ?_;refine qm ?_;refine qg ?_;refine qm ?_;refine ae.two 38 rfl (fun aF=>?_) (fun aF=>?_)
      ·refine qm ?_ (hg:=wi aF);refine qg ?_ (hg:=wi aF);refine qt aF ?_;refine qg ?_;refine qm ?_;refine ae.two 43 rfl (fun aJ=>?_) (fun aJ=>?_)
       ·refine qs ?_ (hg:=wn aJ);refine qs ?_ (hg:=wn aJ);refine qt aJ ?_;refine qm ?_;refine qs ?_;refine qs ?_;refine qg ?_;refine qm ?_;refine qs ?_;refine qs ?_;refine qg ?_;refine qm ?_;refine ae.nil (aM ?_);dsimp only[aD,List.foldl,nth,u2,u1];dsimp only[Fr.ay,Fr.put,Fr.clean,Fr.ev,Fr.get,nth,V.look,u1,u2,v1,v2,v3,v4,v5,v6,v7,List.length,u3,u4,Nat.reduceSub,Nat.reduceAdd,List.map]
        all_goals(simp[aN,bX,aF,aJ];done)
       ·refine qm ?_ (hg:=wi aJ);refine qg ?_ (hg:=wi aJ);refine qu aJ ?_;refine qm ?_;refine ae.two 47 rfl (fun aW=>?_) (fun aW=>?_)
        ·refine qs ?_ (hg:=wn aW);refine qs ?_ (hg:=wn aW);refine qt aW ?_;refine qm ?_;refine qs ?_;refine qs ?_;refine qg ?_;refine qm ?_;refine ae.nil (aM ?_);dsimp only[aD,List.foldl,nth,u2,u1];dsimp only[Fr.ay,Fr.put,Fr.clean,Fr.ev,Fr.get,nth,V.look,u1,u2,v1,v2,v3,v4,v5,v6,v7,List.length,u3,u4,Nat.reduceSub,Nat.reduceAdd,List.map]
         all_goals(simp[aN,bX,aF,aJ,aW];done)
        ·refine qm ?_ (hg:=wi aW);refine qg ?_ (hg:=wi aW);refine qu aW ?_;refine qm ?_;refine ae.two 51 rfl (fun bq=>?_) (fun bq=>?_)
         ·refine qs ?_ (hg:=wn bq);refine qs ?_ (hg:=wn bq);refine qt bq ?_;refine qm ?_;refine ae.nil (aM ?_);dsimp only[aD,List.foldl,nth,u2,u1];dsimp only[Fr.ay,Fr.put,Fr.clean,Fr.ev,Fr.get,nth,V.look,u1,u2,v1,v2,v3,v4,v5,v6,v7,List.length,u3,u4,Nat.reduceSub,Nat.reduceAdd,List.map]
          all_goals(simp[aN,bX,aF,aJ,aW,bq];done)
         ·refine qm ?_ (hg:=wi bq);refine qg ?_ (hg:=wi bq);refine qu bq ?_;refine qm ?_;refine ae.nil (aM ?_);dsimp only[aD,List.foldl,nth,u2,u1];dsimp only[Fr.ay,Fr.put,Fr.clean,Fr.ev,Fr.get,nth,V.look,u1,u2,v1,v2,v3,v4,v5,v6,v7,List.length,u3,u4,Nat.reduceSub,Nat.reduceAdd,List.map]
          all_goals(simp[aN,bX,aF,aJ,aW,bq];done)
      ·refine qs ?_ (hg:=wn aF);refine qs ?_ (hg:=wn aF);refine qu aF ?_;refine qg ?_;refine qm ?_;refine qm ?_;refine qg ?_;refine qg ?_;refine qm ?_;refine ae.two 47 rfl (fun aW=>?_) (fun aW=>?_)
       ·refine qs ?_ (hg:=wn aW);refine qs ?_ (hg:=wn aW);refine qt aW ?_;refine qm ?_;refine qs ?_;refine qs ?_;refine qg ?_;refine qm ?_;refine ae.nil (aM ?_);dsimp only[aD,List.foldl,nth,u2,u1];dsimp only[Fr.ay,Fr.put,Fr.clean,Fr.ev,Fr.get,nth,V.look,u1,u2,v1,v2,v3,v4,v5,v6,v7,List.length,u3,u4,Nat.reduceSub,Nat.reduceAdd,List.map]
        all_goals(simp[aN,bX,aF,aW];done)
       ·refine qm ?_ (hg:=wi aW);refine qg ?_ (hg:=wi aW);refine qu aW ?_;refine qm ?_;refine ae.two 51 rfl (fun bq=>?_) (fun bq=>?_)
        ·refine qs ?_ (hg:=wn bq);refine qs ?_ (hg:=wn bq);refine qt bq ?_;refine qm ?_;refine ae.nil (aM ?_);dsimp only[aD,List.foldl,nth,u2,u1];dsimp only[Fr.ay,Fr.put,Fr.clean,Fr.ev,Fr.get,nth,V.look,u1,u2,v1,v2,v3,v4,v5,v6,v7,List.length,u3,u4,Nat.reduceSub,Nat.reduceAdd,List.map]
         all_goals(simp[aN,bX,aF,aW,bq];done)
        ·refine qm ?_ (hg:=wi bq);refine qg ?_ (hg:=wi bq);refine qu bq ?_;refine qm ?_;refine ae.nil (aM ?_);dsimp only[aD,List.foldl,nth,u2,u1];dsimp only[Fr.ay,Fr.put,Fr.clean,Fr.ev,Fr.get,nth,V.look,u1,u2,v1,v2,v3,v4,v5,v6,v7,List.length,u3,u4,Nat.reduceSub,Nat.reduceAdd,List.map]
         all_goals(simp[aN,bX,aF,aW,bq];done)
   dsimp only[aD,List.foldl,nth,u2,u1];dsimp only[Fr.ay,Fr.put,Fr.clean,Fr.ev,Fr.get,nth,V.look,u1,u2,v1,v2,v3,v4,v5,v6,v7,List.length,u3,u4,Nat.reduceSub,Nat.reduceAdd,List.map];have M8:(decide (((c.toNat:Nat):Int)≥97) &&decide (((c.toNat:Nat):Int)≤122)||decide (((c.toNat:Nat):Int)≥65) &&decide (((c.toNat:Nat):Int)≤90)||decide (((c.toNat:Nat):Int)≥48) &&decide (((c.toNat:Nat):Int)≤57)||((c.toNat:Nat):Int)==45||((c.toNat:Nat):Int)==95||((c.toNat:Nat):Int)==46)=Bh (c.toNat:Nat):=rfl;refine qq<|qj fun K hK=>qm ?_;refine qg ?_;refine qe hK ?_
   cases hb:Bh (c.toNat:Nat) with
   |true=>
    refine ag.cond (v:=false) (by dsimp only[Fr.ev,Fr.get,nth,V.look];(rw[M8,hb];rfl)) (fun h=>by cases h) (fun _=>?_);refine ag.skip<|qj fun K hK=>qA ?_;refine qm ?_;refine qe hK ?_;exact⟨mm-1,by omega,⟨i+1,rfl,hH,by omega,(by rw[List.take_add_one,hc,List.all_append,ht];simp[hb])⟩⟩
   |false=>
    refine ag.cond (v:=true) (by dsimp only[Fr.ev,Fr.get,nth,V.look];(rw[M8,hb];rfl)) (fun _=>?_) (fun h=>by cases h);refine qq<|qj fun K hK=>qm ?_;refine qe hK ?_;have hf:(s.all fun c=>Bh (c.toNat:Nat))=false:=by rw[List.all_eq_false];exact⟨c,List.mem_of_getElem? hc,by rw[hb];simp⟩
    rw[hf];refine ag.ret ⟨rx,_,rfl,rl bf hH (rfl)⟩
  ·refine ag.exit<|qq<|qj fun K hK=>qm ?_;refine qe hK ?_;rw[List.take_of_length_le (by omega)] at ht;rw[ht];refine ag.ret ⟨rx,_,rfl,rl bf hH (rfl)⟩
 ·have hc:((s==[])||decide (((s.length:Nat):Int)>32))=true:=by
   rw[Bool.or_eq_true,decide_eq_true_eq]
   by_cases h2:s=[]
   ·exact .inl (by simpa using h2)
   ·exact .inr (by have:¬s.length≤32:=fun h3=>h1 ⟨h2,h3⟩;omega)
  have hn:qk s=false:=by
   unfold qk
   by_cases h2:s=[]
   ·simp[h2]
   ·have:¬s.length≤32:=fun h3=>h1 ⟨h2,h3⟩;rw[decide_eq_false this];simp
  rw[hn];refine qD rfl (by rw[hc]) ?_;refine qq<|qj fun K hK=>qm ?_;refine qe hK<|ag.ret ⟨rx,_,rfl,rl bf hH (rfl)⟩
theorem E8 {N:Nat} {S s0:St} {H:List bj} (hF:S.flr≤N) (hH:Has N S s0 H):
  ∃d ah,Ev pv 169 [] s0 d ah∧∃k,d=.ptr k 0 0∧Has N S ah (.box k (.mem 0 false [.nul])::.aE .nul 2 (([]:List eC).map cN)::H):=by
 refine Ev.nj rfl Mi rfl rfl rfl ?_;dsimp only[u3,u4,List.length,Nat.reduceSub,Nat.reduceAdd,w1,w2];change ag _ _ _ _ s0 _;refine qq<|qj fun K hK=>qm ?_;refine qe hK<|qq<|qj fun K hK=>qg ?_;refine qb hH fun k2 st hk2 hH=>?_;refine qm ?_;refine qe hK<|ag.ret ⟨rx,_,_,_,rfl,rfl,?_⟩;exact⟨_,rfl,Has.ES [_] [_] (hH.eP 2)⟩
noncomputable def ck:List lh→Nat→List eC→List (List bB)→Except (Int×Nat) (List eC×List (List bB))
 |[],_,T,out=>.ok (T,out)
 |p::ps,i,T,out=>
  if qk p.nm=false then .error (14,i)
  else if bw T p.nm=true then .error (8,i)
  else if(bP p.tx).2.1≠0 then .error ((bP p.tx).2.1,i)
  else ck ps (i+1) (fy T p.nm i) (out++[dw (bP p.tx).1])
theorem kL {l:List lh} {i:Nat} {q:lh} (h:l[i]?=some q):(l.map c8)[i]?=some (c8 q):=by rw[List.getElem?_map,h];rfl
def Fu (N:Nat) (S st:St) (H:List bj) (d:D):Except (Int×Nat) (List eC×List (List bB))→Prop
 | .error r=>d=.tup [.nul,.pnil,.int .i64 r.1,.int .i64 (r.2:Nat)]∧Has N S st H
 | .ok r=>∃y k xt,d=.tup [y,.ptr k 0 0,.int .i64 0,.int .i64 0]∧Has N S st (.box k (.mem 0 false [xt])::.aE xt 2 (r.1.map cN)::.aE y 1 (r.2.map dS)::H)
theorem pG (T:List eC) (key:List UInt8) (v:Int):(fy T key v).length≤T.length+1:=by
 unfold fy
 split
 ·rw[List.length_set];omega
 ·unfold nR;simp;omega
theorem A6 {N:Nat} {S s0:St} {H:List bj} {x:D} {l:List lh} {cont:List UInt8} (hF:S.flr≤N) (hx:Arg N S 2 x (l.map c8)) (hl:l.length≤100) (jH:∀p∈l,p.fit) (hH:Has N S s0 H):
  ∃d ah,Ev pv 113 [.agg [x,.str cont]] s0 d ah∧Fu N S ah H d (ck l 0 [] []):=by
 have G8:=gD hx.1;refine Ev.nj rfl Mv rfl rfl rfl ?_;dsimp only[u3,u4,List.length,Nat.reduceSub,Nat.reduceAdd,w1,w2];change ag _ _ _ _ s0 _;refine qq<|qj fun K hK=>qb hH fun k1 st lR hH=>?_;refine qm ?_;refine qm ?_;refine qm ?_;refine qm ?_;refine qe hK ?_;obtain⟨_,st1,aI,kt,rfl,Gi⟩:=E8 hF hH;refine qq<|qj fun K hK=>qv aI ?_;refine qm ?_;refine qe hK ?_;have hH:=Gi;refine qq<|qj fun K hK=>qm ?_;refine qe hK<|qq<|qq<|qj fun K hK=>qp (o:=0) ?_;refine ql hH bV ?_;refine qn ?_;simp only[List.length_map];refine qm ?_;refine qe hK ?_
 have hH:Has N S st1 (.box kt (.mem 0 false [.nul])::.aE .nul 2 (([]:List eC).map cN)::.aE .nul 1 (([]:List (List bB)).map dS)::H):=by
  have h1:=Has.ES [_] [_,_] (hH.eP 1);exact h1.erase 3
 refine ag.block<|ag.loop (fun mm fr st=>∃(i:Nat) (xt y:D) (T:List eC) (out:List (List bB)),fr.clean=⟨18,[cq fr 0,cq fr 1,cq fr 2,cq fr 3,cq fr 4,cq fr 5,.ptr kt 0 0,y,cq fr 8,cq fr 9,cq fr 10,cq fr 11,cq fr 12,cq fr 13,cq fr 14,x,.int .i64 (l.length:Nat),.int .i64 (i:Nat)],[]⟩∧Has N S st (.box kt (.mem 0 false [xt])::.aE xt 2 (T.map cN)::.aE y 1 (out.map dS)::H)∧(i+mm=l.length)∧(T.length≤i)∧(out.length=i)∧(ck (l.drop i) i T out=ck l 0 [] [])∧(∀k,y.ref=k+1→S.bs.length≤k)) (l.length) ?_ ?_
 ·exact⟨0,.nul,.nul,[],[],rfl,hH,by omega,by simp,rfl,rfl,(fun k hk=>by simp only[D.ref] at hk;omega)⟩
 rintro mm fr st ⟨i,xt,y,T,out,hfr,hH,hi,hT,EZ,Bz,gO⟩;rw[hfr];clear hfr;generalize cq fr=ee;clear fr;refine qq<|qj fun K hK=>qg ?_;refine qe hK<|qq ?_;refine ag.cond (by rfl) (fun h1=>?_) (fun h1=>?_)<;>try simp only[decide_eq_true_eq,decide_eq_false_iff_not] at h1
 ·refine ag.skip ?_
  obtain⟨p,hp⟩:∃p,l[i]?=some p:=⟨l[i]'(by omega),List.getElem?_eq_getElem _⟩
  have uK:=List.mem_of_getElem? hp;obtain⟨Af,wX⟩:=jH p uK;have gN:=kL hp;obtain⟨hil,Pb⟩:=List.getElem?_eq_some_iff.1 hp;rw[List.drop_eq_getElem_cons hil,Pb] at Bz;have F9:=fun st=>Dg (s0:=st) (s:=p.nm) Af;have vg:=fun st=>nC (s0:=st) (b:=p.tx) wX;refine qq<|ag.block<|qq<|qj fun K hK=>qm ?_;refine qr fun J0 DN=>?_;refine ae.dj rfl (ev rfl) (by assumption) rfl (aa rfl _) ?_;refine qa hH fun k9 st QN hH=>?_;refine qm ?_;refine qS hH ax fun st hH=>?_;dsimp only[u2,u1,u3,u4,setMany,u5,u6,D.cells,Nat.reduceAdd,c8] at hH;refine qe hK ?_;have hH:Has N S st (.box kt (.mem 0 false [xt])::.aE xt 2 (T.map cN)::.box k9 (.mem 0 false (c8 p))::.aE y 1 (out.map dS)::H):=Has.ES [_] [_,_] hH;refine qq<|qq<|qj fun K hK=>qp (o:=0) ?_;refine ql hH bV ?_;refine qv (F9 _) ?_;refine qg ?_;refine qe hK ?_
  cases hb:qk p.nm with
  |false=>
   have qW:ck (p::l.drop (i+1)) i T out=.error (14,i):=by unfold ck;rw[if_pos hb]
   refine ag.cond (v:=true) (by dsimp only[Fr.ev,Fr.get,nth,V.look];rfl) (fun _=>?_) (fun h=>by cases h);refine qq<|qj fun K hK=>qm ?_;refine qm ?_;refine qm ?_;refine qm ?_;refine qm ?_;refine qe hK<|ag.ret ⟨rx,_,_,_,rfl,rfl,?_⟩;rw[←Bz,qW];exact⟨rfl,hH.drop 4⟩
  |true=>
   refine ag.cond (v:=false) (by dsimp only[Fr.ev,Fr.get,nth,V.look];rfl) (fun h=>by cases h) (fun _=>?_);refine ag.skip ?_;obtain⟨Rp,Rc,R5,xI⟩:=Co (key:=p.nm) (v:=(i:Nat)) hH hF (by omega);refine qq<|qq<|qj fun K hK=>qm ?_;refine qp (o:=0) ?_;refine ql hH bV ?_;refine qm ?_;refine qv (Ev.jN rfl R5) ?_;refine qg ?_;refine qe hK ?_;have hH:=xI
   cases Oa:bw T p.nm with
   |true=>
    have qW:ck (p::l.drop (i+1)) i T out=.error (8,i):=by unfold ck;rw[if_neg (by rw[hb];simp),if_pos Oa]
    refine ag.cond (v:=true) (by dsimp only[Fr.ev,Fr.get,nth,V.look];rfl) (fun _=>?_) (fun h=>by cases h);refine qq<|qj fun K hK=>qm ?_;refine qm ?_;refine qm ?_;refine qm ?_;refine qm ?_;refine qe hK<|ag.ret ⟨rx,_,_,_,rfl,rfl,?_⟩;rw[←Bz,qW];exact⟨rfl,hH.drop 4⟩
   |false=>
    refine ag.cond (v:=false) (by dsimp only[Fr.ev,Fr.get,nth,V.look];rfl) (fun h=>by cases h) (fun _=>?_);refine ag.skip ?_;obtain⟨On,H4,lY⟩:=vg Rp;refine qq<|qj fun K hK=>qp (o:=1) ?_;refine ql hH bV ?_;refine ae.dF rfl rfl On (aa rfl _) ?_;refine qm ?_;refine qg ?_;refine qg ?_;refine qg ?_;refine qm ?_;refine qm ?_;refine qm ?_;refine qe hK<|qq<|qq<|qj fun K hK=>qm ?_;refine qg ?_;refine qe hK ?_
    by_cases he:(bP p.tx).2.1=0
    ·have hc:((bP p.tx).2.1 !=0)=false:=by rw[he];rfl
     have qW:ck (p::l.drop (i+1)) i T out=ck (l.drop (i+1)) (i+1) (fy T p.nm i) (out++[dw (bP p.tx).1]):=by
      conv=>lhs;unfold ck
      rw[if_neg (by rw[hb];simp),if_neg (by rw[Oa];simp),if_neg (fun h=>h he)]
     rw[qW] at Bz;have Ce:=fun st=>wz (s0:=st) (mA H4) H4 lY;have mH:=pG T p.nm (i:Nat);refine qE rfl (by rw[hc]) ?_;refine ag.skip<|qj fun K hK=>qm ?_;refine qm ?_;refine qv (Ce _) ?_;refine qh (s:=1) (vs:=[_]) hH fun k48 st Td hH=>?_;dsimp only[u2,u1,u3,u4,setMany,u5,u6,D.cells,Nat.reduceAdd,c8] at hH;refine ae.cB (s:=1) hH rfl (ev rfl) (ev rfl) cM (hH.rows ax) rfl rfl rfl rfl rfl rfl rfl ⟨(Nat.le_of_ble_eq_true rfl),(Nat.le_of_ble_eq_true rfl)⟩ (fun _=>(aa rfl _)) (by simp only[List.length_map,List.length_cons,List.length_nil];omega) (.inl hF) gO (fun Ri st gO hH=>?_);dsimp only[u1,u2] at hH;refine qm ?_;refine qe hK ?_;have hH:=(hH.drop 1).erase 2;refine qj fun K hK=>qA ?_;refine qm ?_;refine qe hK ?_;exact⟨mm-1,by omega,⟨i+1,Rc,Ri,fy T p.nm (i:Nat),out++[dw (bP p.tx).1],rfl,(by rw[List.map_append];exact hH),by omega,by omega,(by rw[List.length_append];simp only[List.length_cons,List.length_nil];omega),Bz,gO⟩⟩
    ·have hc:((bP p.tx).2.1 !=0)=true:=by simpa using he
     have qW:ck (p::l.drop (i+1)) i T out=.error ((bP p.tx).2.1,i):=by
      conv=>lhs;unfold ck
      rw[if_neg (by rw[hb];simp),if_neg (by rw[Oa];simp),if_pos he]
     refine qD rfl (by rw[hc]) ?_;refine qq<|qj fun K hK=>qm ?_;refine qm ?_;refine qm ?_;refine qm ?_;refine qm ?_;refine qm ?_;refine qe hK<|ag.ret ⟨rx,_,_,_,rfl,rfl,?_⟩;rw[←Bz,qW];exact⟨rfl,hH.drop 4⟩
 ·refine ag.exit ?_;have Jt:i=l.length:=by omega
  rw[Jt,List.drop_length] at Bz;refine qq<|qj fun K hK=>qm ?_;refine qm ?_;refine qm ?_;refine qm ?_;refine qm ?_;refine qm ?_;refine qe hK<|ag.ret ⟨rx,_,_,_,rfl,rfl,?_⟩;rw[←Bz];exact⟨y,kt,xt,rfl,hH⟩
end Go.Proofs.YtecjacicdpejaaaGreat
namespace Go.Proofs.YtecjacicdpejaaaGreat
open Go.V Go
def FB (n:Nat):List D:=[.int .i64 (n:Nat)]
def MW (n:Nat):List D:=[.int .i64 (n:Nat),.bool true]
structure gM (P Q:List Nat) (seen:List Bool):Prop where
 len:P.length=seen.length
 mem:∀(i p:Nat),P[i]?=some p→seen[i]?=some (decide (Q[p]?=some i))
 eM:Q.length=seen.count true
 small:seen.length≤4096
theorem gM.get {P Q:List Nat} {seen:List Bool} (h:gM P Q seen) {i:Nat} {b:Bool} (hi:seen[i]?=some b):∃p,P[i]?=some p∧b=decide (Q[p]?=some i):=by
 have hl:=cA hi;have te:=h.len;refine⟨P[i]'(by omega),List.getElem?_eq_getElem _,?_⟩;have:=h.mem i _ (List.getElem?_eq_getElem (by omega));rw[hi] at this;exact Option.some.inj this
theorem gM.add {P Q:List Nat} {seen:List Bool} (h:gM P Q seen) {i:Nat} (hi:seen[i]?=some false):gM (P.set i Q.length) (Q++[i]) (seen.set i true):=by
 have hl:=cA hi;have te:=h.len;refine⟨by simp[te],fun j p hj=>?_,?_,by rw[List.length_set];exact h.small⟩
 ·by_cases hij:j=i
  ·subst hij;rw[List.getElem?_set_self (by omega)] at hj⊢;cases hj;simp
  ·rw[List.getElem?_set_ne (fun e=>hij e.symm)] at hj⊢;rw[h.mem j p hj]
   congr 2
   rcases Nat.lt_trichotomy p Q.length with hp|hp|hp
   ·rw[List.getElem?_append_left hp]
   ·subst hp;have hne:¬i=j:=fun e=>hij e.symm;simp[hne]
   ·rw[List.getElem?_eq_none (by omega),List.getElem?_eq_none (by simp;omega)]
 ·have h1:=List.length_eq_countP_add_countP (fun b=>b==true) (l:=seen);have h2:=List.length_eq_countP_add_countP (fun b=>b==true) (l:=seen.set i true);have h3:=count_set hi
  have e1:∀l:List Bool,l.countP (fun a=>decide (¬(a==true)=true))=l.count false:=by
   intro l;unfold List.count;congr 1;funext b;cases b<;>rfl
  have e2:∀l:List Bool,l.countP (fun a=>a==true)=l.count true:=fun l=>rfl;rw[e1,e2] at h1 h2;rw[List.length_append,h.eM];simp only[List.length_set,List.length_cons,List.length_nil] at h2⊢;omega
theorem gM.clear {P Q:List Nat} {seen:List Bool} (h:gM P Q seen):gM P [] (List.replicate seen.length false):=by
 refine⟨by rw[List.length_replicate];exact h.len,fun i p hi=>?_,?_,by rw[List.length_replicate];exact h.small⟩
 ·have:=cA hi;have:=h.len;rw[List.getElem?_replicate,if_pos (by omega)];simp
 ·rw[List.count_replicate];simp
theorem gM.nL {P Q:List Nat} {seen:List Bool} (h:gM P Q seen):Q.length≤4096:=by
 have:=h.eM;have:=h.small;have:=List.count_le_length (a:=true) (l:=seen);omega
theorem xh {code:List aZ} {pc:Nat} {i:aZ} (h:(code.map lE)[pc]?=some i):∃q,code[pc]?=some q∧i=lE q:=by
 rw[List.getElem?_map] at h;obtain⟨q,hq,rfl⟩:=Option.map_eq_some_iff.1 h;exact⟨q,hq,rfl⟩
theorem get_copy {code:List aZ} {pc:Nat} {i:aZ} (h:code[pc]?=some i):(code.map lE)[pc]?=some (lE i):=by
 rw[List.getElem?_map,h];rfl
theorem xg (code:List aZ):∀(f:Nat) (seen:List Bool) (Jc:List Int),Jy (code.map lE) f seen Jc=Jy code f seen Jc
 |0,_,_=>rfl
 |_+1,_,[]=>rfl
 |f+1,seen,v::Jc=>by
  have ih:=xg code f;unfold Jy;rw[List.getElem?_map]
  cases h1:seen[v.toNat]? with
  |none=>exact ih _ _
  |some b=>
   cases b with
   |true=>exact ih _ _
   |false=>
    cases h2:code[v.toNat]? with
    |none=>rfl
    |some i=>exact ih _ _
theorem pO (code:List aZ) (s:Int):pP (code.map lE) s=pP code s:=by
 unfold pP;rw[List.length_map,xg]
theorem x7 {p q:Pg} (h1:q.code=p.code.map lE) (h2:q.bD=p.bD):ky q↔ky p:=by
 have hl:q.code.length=p.code.length:=by rw[h1];simp
 constructor
 ·intro h;refine⟨by rw[←hl];exact h.cl,by rw[←h2];exact h.sl,fun pc i hi=>?_,fun v hv=>?_,fun r s hs pc i Jn Kp hi hop=>?_⟩
  ·have:=h.sh pc (lE i) (by rw[h1];exact get_copy hi);rw[hl,h2] at this;exact this
  ·have:=h.st v (by rw[h2];exact hv);rw[hl] at this;exact this
  ·exact h.fo r s (by rw[h2];exact hs) pc (lE i) (by rw[hl];exact Jn) (by rw[h1,pO];exact Kp) (by rw[h1];exact get_copy hi) hop
 ·intro h;refine⟨by rw[hl];exact h.cl,by rw[h2];exact h.sl,fun pc i hi=>?_,fun v hv=>?_,fun r s hs pc i Jn Kp hi hop=>?_⟩
  ·rw[h1] at hi;obtain⟨j,hj,rfl⟩:=xh hi;rw[hl,h2];exact h.sh pc j hj
  ·rw[hl];exact h.st v (by rw[←h2];exact hv)
  ·rw[h1] at hi Kp;rw[pO] at Kp;obtain⟨j,hj,rfl⟩:=xh hi;exact h.fo r s (by rw[←h2];exact hs) pc j (by rw[←hl];exact Jn) Kp hj hop
abbrev B7:=Nat→Int
structure Jz where
 pc:Nat
 c:B7
def xS (t:Jz):List D:=[.int .i64 (t.pc:Nat),.int .i64 (t.c 0),.int .i64 (t.c 1),.int .i64 (t.c 2),.int .i64 (t.c 3),.int .i64 (t.c 4),.int .i64 (t.c 5),.int .i64 (t.c 6),.int .i64 (t.c 7),.int .i64 (t.c 8),.int .i64 (t.c 9)]
def Dn (dn:Bool) (f:B7) (d:D):List D:=[.bool dn,.int .i64 (f 0),.int .i64 (f 1),.int .i64 (f 2),.int .i64 (f 3),.int .i64 (f 4),.int .i64 (f 5),.int .i64 (f 6),.int .i64 (f 7),.int .i64 (f 8),.int .i64 (f 9),d]
structure Wk where
 seen:List Bool
 dn:Bool
 best:B7
 rdy:List Jz
def Good (code:List aZ) (w w':Wk):Prop:=
 w'.seen.length=w.seen.length∧w'.seen.count false≤w.seen.count false∧w'.rdy.length+w'.seen.count false≤w.rdy.length+w.seen.count false∧∀t∈w'.rdy,t∈w.rdy∨∃i,code[t.pc]?=some i∧i.op=1
theorem Good.refl {code:List aZ} {w:Wk}:Good code w w:=⟨rfl,Nat.le_refl _,Nat.le_refl _,fun t h=>.inl h⟩
theorem Good.trans {code:List aZ} {a b c:Wk} (h:Good code a b) (k:Good code b c):Good code a c:=
 ⟨k.1.trans h.1,Nat.le_trans k.2.1 h.2.1,Nat.le_trans k.2.2.1 h.2.2.1,fun t ht=>by
  rcases k.2.2.2 t ht with q|q
  ·exact h.2.2.2 t q
  ·exact .inr q⟩
theorem Good.step {code:List aZ} {w w':Wk} {j:Nat} (hj:w.seen[j]?=some false) (k:Good code ⟨w.seen.set j true,w.dn,w.best,w.rdy⟩ w'):Good code w w':=by
 have hc:=count_set hj;refine Good.trans (b:=⟨w.seen.set j true,w.dn,w.best,w.rdy⟩) ⟨?_,?_,?_,fun t h=>.inl h⟩ k
 ·simp
 ·show(w.seen.set j true).count false≤_;omega
 ·show w.rdy.length+(w.seen.set j true).count false≤_;omega
structure VL where
 dn:Bool
 best:B7
 td:D
 iZ:List Jz
def JJ (l:VL):List D:=Dn l.dn l.best l.td
def JI (l:VL):bj:=.aE l.td 11 (l.iZ.map xS)
theorem JH (A:List bj) {n:Nat} (hn:A.length=n) {L:List VL} {i:Nat} {l:VL} (h:L[i]?=some l) {H:List bj}:(A++(L.map JI++H))[n+i]?=some (JI l):=by
 have hi:=cA h;rw[List.getElem?_append_right (by omega),List.getElem?_append_left (by simp;omega),hn,Nat.add_sub_cancel_left,List.getElem?_map,h];rfl
theorem Dm {N:Nat} {S st:St} {H:List bj} {j:Nat} {x:D} {s:Nat} {es:List (List D)} (h:Has N S st H) (hj:H[j]?=some (.aE x s es)):x.ref≤st.bs.length:=by
 rcases Nat.eq_zero_or_pos x.ref with h0|h0
 ·omega
 ·have:=h.GZ hj (k:=x.ref-1) (by show x.ref=x.ref-1+1;omega);omega
def MH (A:List bj) (N:Nat) (S st:St) (ks kv:Nat) (p:Pg) (pl:Nat) (ld:D) (L:List VL) (H:List bj):Prop:=
 ∃pd qd P Q sn,Has N S st (A++(.box kv (.mem 0 false [p.cd,p.sd,.int .i64 (pl:Nat),ld,.ptr ks 0 0])::.box ks (.mem 0 false [pd,qd])::.aE pd 1 (P.map FB)::.aE qd 2 (Q.map MW)::.aE ld 12 (L.map JJ)::(L.map JI++H)))∧gM P Q sn∧sn.length=p.code.length
theorem MH.push (A B:List bj) {N:Nat} {S st:St} {ks kv:Nat} {p:Pg} {pl:Nat} {ld:D} {L:List VL} {H:List bj} (h:MH (A++B) N S st ks kv p pl ld L H):MH B N S st ks kv p pl ld L (A++H):=by
 obtain⟨pd,qd,P,Q,sn,hH,eo,kU⟩:=h;refine⟨pd,qd,P,Q,sn,?_,eo,kU⟩;have:=Has.ES (H:=H) A (B++(.box kv (.mem 0 false [p.cd,p.sd,.int .i64 (pl:Nat),ld,.ptr ks 0 0])::.box ks (.mem 0 false [pd,qd])::.aE pd 1 (P.map FB)::.aE qd 2 (Q.map MW)::.aE ld 12 (L.map JJ)::L.map JI)) (by simpa only[List.append_assoc,List.cons_append] using hH)
 simpa only[List.append_assoc,List.cons_append] using this
structure PL where
 dn:Bool
 best:B7
 iZ:List Jz
def PL.ok (n:Nat) (l:PL):Prop:=(∀t∈l.iZ,t.pc<n)∧l.iZ.length≤1000
def VL.pl (l:VL):PL:=⟨l.dn,l.best,l.iZ⟩
theorem MH.mono {A:List bj} {N:Nat} {S st:St} {ks kv:Nat} {p:Pg} {pl:Nat} {ld:D} {L:List VL} {H:List bj} (n:Nat) (h:MH A N S st ks kv p pl ld L H):MH (A.drop n) N S st ks kv p pl ld L H:=by
 obtain⟨pd,qd,P,Q,sn,hH,eo,kU⟩:=h;refine⟨pd,qd,P,Q,sn,?_,eo,kU⟩
 rcases Nat.le_total n A.length with hn|hn
 ·have:=hH.drop n
  rwa [List.drop_append_of_le_length hn] at this
 ·have:=hH.drop A.length;rw[List.drop_append_of_le_length (Nat.le_refl _),List.drop_length] at this;rw[List.drop_eq_nil_of_le hn];exact this
structure MI (p q:Pg):Prop where
 ok:q.ok
 code:q.code=p.code.map lE
 bD:q.bD=p.bD
theorem MI.right {p q:Pg} (h:MI p q) (hR:ky p):ky q:=(x7 h.code h.bD).2 hR
def Ro (l:List Jz):D:=.sl ((l.map xS).map (jr 11))
structure AM (N:Nat) (S:St) (kv ks:Nat) (p:Pg) (pl:Nat) (ld:D) (L:List VL):Prop where
 lt:kv<N
 le:N≤S.bs.length
 at_:S.bs[kv]?=some (.mem 0 false [p.cd,p.sd,.int .i64 (pl:Nat),ld,.ptr ks 0 0])
 ld:Arg N S 12 ld (L.map JJ)
 td:∀l∈L,Arg N S 11 l.td (l.iZ.map xS)
 ksl:ks<N
theorem AM.box {N:Nat} {S st:St} {H:List bj} {kv ks:Nat} {p:Pg} {pl:Nat} {ld:D} {L:List VL} (h:AM N S kv ks p pl ld L) (hH:Has N S st H):st.bs[kv]?=some (.mem 0 false [p.cd,p.sd,.int .i64 (pl:Nat),ld,.ptr ks 0 0]):=by
 rw[hH.ex.low kv h.lt];exact h.at_
theorem AM.refs {N:Nat} {S st:St} {H:List bj} {kv ks:Nat} {p:Pg} {pl:Nat} {ld:D} {L:List VL} (h:AM N S kv ks p pl ld L) (hp:p.ok) (hH:Has N S st H):V.refs [p.cd,p.sd,.int .i64 (pl:Nat),ld,.ptr ks 0 0]≤st.bs.length:=by
 have h1:=hp.c.ref;have h2:=hp.s.ref;have h3:=h.ld.2;have h4:=h.ksl;have h5:=h.le;have h6:=hH.ex.len;simp only[V.refs,D.ref,h1,h2];omega
theorem AM.to {N:Nat} {S st:St} {H:List bj} {kv ks:Nat} {p:Pg} {pl:Nat} {ld:D} {L:List VL} (h:AM N S kv ks p pl ld L) (hH:Has N S st H) (o:Nat):hD st (.ptr kv 0 o) ([p.cd,p.sd,.int .i64 (pl:Nat),ld,.ptr ks 0 0].drop o):=
 .inl ⟨kv,0,o,false,_,rfl,St.mem_of (by rw[hH.ex.low kv h.lt];exact h.at_),List.take_length ..⟩
theorem MH.am {N ks kv:Nat} {S s0:St} {H:List bj} {p:Pg} {pl:Nat} {ld:D} {L:List VL} (hM:MH [] N S s0 ks kv p pl ld L H):AM s0.bs.length s0 kv ks p pl ld L:=by
 obtain⟨pd,qd,P,Q,sn,hH,F5,kU⟩:=hM;dsimp only[u4] at hH
 exact⟨(hH.ge ax).2,Nat.le_refl _,hH.at ax,⟨hH.rows cM,Dm hH cM⟩,fun l hl=>(by
  obtain⟨i,hi⟩:=List.getElem?_of_mem hl;have h:=JH (H:=H) [.box kv (.mem 0 false [p.cd,p.sd,.int .i64 (pl:Nat),ld,.ptr ks 0 0]),.box ks (.mem 0 false [pd,qd]),.aE pd 1 (P.map FB),.aE qd 2 (Q.map MW),.aE ld 12 (L.map JJ)] rfl hi
  exact⟨hH.rows h,Dm hH h⟩),hH.GZ aX rfl⟩
theorem MH.ro {N ks kv:Nat} {S s0:St} {H:List bj} {p:Pg} {pl:Nat} {ld:D} {L:List VL} (hM:MH [] N S s0 ks kv p pl ld L H):s0.ro≤s0.bs.length:=by
 obtain⟨pd,qd,P,Q,sn,hH,F5,kU⟩:=hM;rw[hH.ex.ro];exact Nat.le_trans hH.eQ (Nat.le_trans hH.hN hH.ex.len)
def uh (f:B7) (to:Int):Prop:=∀i,i<10→-1≤f i∧f i≤to
end Go.Proofs.YtecjacicdpejaaaGreat
namespace Go.V
variable{P:Pv}
variable{N:Nat} {S st:St} {H:List bj} {fr aA:Fr} {ops:Array Oper} {rest:List Oper} {Q:Fr→St→Prop} {dst ty:Nat} {pp:String} {a:Array Edge} {g:Option (Nat×Bool)}
end Go.V
namespace Go.Proofs.YtecjacicdpejaaaGreat
open Go.V Go
structure GT where
 pc:Int
 c:B7
def Gj (t:GT):List D:=[.int .i64 t.pc,.int .i64 (t.c 0),.int .i64 (t.c 1),.int .i64 (t.c 2),.int .i64 (t.c 3),.int .i64 (t.c 4),.int .i64 (t.c 5),.int .i64 (t.c 6),.int .i64 (t.c 7),.int .i64 (t.c 8),.int .i64 (t.c 9)]
def G_ (p:Pg) (s:Int) (m:Nat) (n:Int):Prop:=n=s∨∃i q,i<m∧n=((i+1:Nat):Int)∧(pP p.code s)[i]?=some true∧p.code[i]?=some q∧q.op=1
def Lo (p:Pg) (s:Int) (iZ:List GT) (m:Nat) (n:Int):Prop:=G_ p s p.code.length n∧∀j t,j<m→iZ[j]?=some t→t.pc≠n
def Ck (p:Pg) (s:Int) (iZ:List GT) (place:Int) (m:Nat):Prop:=∀j t,j<m→iZ[j]?=some t→Lo p s iZ j t.pc∧uh t.c place
end Go.Proofs.YtecjacicdpejaaaGreat
namespace Go.Proofs.YtecjacicdpejaaaGreat
open Go.V Go
structure GV where
 dn:Bool
 best:B7
 td:D
 iZ:List GT
def Jv (l:GV):List D:=Dn l.dn l.best l.td
def GU (f:B7):Prop:=∀i,i<10→f i=-1
def AF (p:Pg) (place:Int) (L:List GV) (m:Nat):Prop:=∀r l s,r<m→L[r]?=some l→p.bD[r]?=some s→(l.dn=true∨GU l.best)∧uh l.best place∧Ck p s l.iZ place l.iZ.length
structure tM (p:Pg) (place:Int) (L:List GV):Prop where
 right:ky p
 ge:0≤place
 le:place≤1099511627776
 len:L.length=p.bD.length
 each:AF p place L L.length
theorem AF.succ {p:Pg} {place:Int} {L:List GV} {m:Nat} {l:GV} {s:Int} (h:AF p place L m) (hl:L[m]?=some l) (hs:p.bD[m]?=some s) (h1:(l.dn=true∨GU l.best)∧uh l.best place∧Ck p s l.iZ place l.iZ.length):AF p place L (m+1):=by
 intro r l' s' hr iH F2
 by_cases he:r=m
 ·subst he;rw[hl] at iH;cases iH;rw[hs] at F2;cases F2;exact h1
 ·exact h r l' s' (by omega) iH F2
def Qb (st:St) (x:D) (L:List GV):Prop:=V.Rows st 12 x (L.map Jv)∧L.length≤1048576∧∀l∈L,V.Rows st 11 l.td (l.iZ.map Gj)∧l.iZ.length≤1048576
end Go.Proofs.YtecjacicdpejaaaGreat
namespace Go.Proofs.YtecjacicdpejaaaGreat
open Go.V Go
def B7.fit (f:B7):Prop:=∀i,i<10→f i≤9223372036854775807
def GT.fit (t:GT):Prop:=t.pc<9223372036854775808∧B7.fit t.c
def GV.fit (l:GV):Prop:=B7.fit l.best∧∀t∈l.iZ,t.fit
end Go.Proofs.YtecjacicdpejaaaGreat
namespace Go.Proofs.YtecjacicdpejaaaGreat
open Go.V Go
structure Pg.fit (p:Pg):Prop where
 c:∀i∈p.code,i.fit
 s:∀v∈p.bD,v<9223372036854775808
 cl:p.code.length≤1000
end Go.Proofs.YtecjacicdpejaaaGreat
namespace Go.Proofs.YtecjacicdpejaaaGreat
open Go.V Go
end Go.Proofs.YtecjacicdpejaaaGreat
namespace Go.Proofs.YtecjacicdpejaaaGreat
open Go.V Go
end Go.Proofs.YtecjacicdpejaaaGreat
namespace Go.Proofs.YtecjacicdpejaaaGreat
open Go.V Go
end Go.Proofs.YtecjacicdpejaaaGreat
namespace Go.Proofs.YtecjacicdpejaaaGreat
open Go.V Go
end Go.Proofs.YtecjacicdpejaaaGreat
namespace Go.Proofs.YtecjacicdpejaaaGreat
open Go.V Go
end Go.Proofs.YtecjacicdpejaaaGreat
namespace Go.Proofs.YtecjacicdpejaaaGreat
open Go.V Go
def He (es:List (List D)) (L:List PL):Prop:=es.length=L.length∧∀(i:Nat) l,L[i]?=some l→∃d,gv d 11 (l.iZ.map xS)∧es[i]?=some (Dn l.dn l.best d)
def ve (st:St) (es:List (List D)) (L:List PL):Prop:=es.length=L.length∧∀(i:Nat) l,L[i]?=some l→∃d,V.Rows st 11 d (l.iZ.map xS)∧es[i]?=some (Dn l.dn l.best d)
theorem He.any {es:List (List D)} {L:List PL} (h:He es L) (st:St):ve st es L:=⟨h.1,fun i l hl=>by
 obtain⟨d,h1,h2⟩:=h.2 i l hl
 exact⟨d,h1.rows st,h2⟩⟩
theorem ve.ex {s0 S st:St} {H:List bj} {es:List (List D)} {L:List PL} (h:ve s0 es L) (hS:S.bs=s0.bs) (hH:Has s0.bs.length S st H):ve st es L:=⟨h.1,fun i l hl=>by
 obtain⟨d,h1,h2⟩:=h.2 i l hl
 exact⟨d,(Arg.of h1 hS).rows hH,h2⟩⟩
end Go.Proofs.YtecjacicdpejaaaGreat
namespace Go.Proofs.YtecjacicdpejaaaGreat
open Go.V Go
def PL.v (l:PL):VL:=⟨l.dn,l.best,Ro l.iZ,l.iZ⟩
end Go.Proofs.YtecjacicdpejaaaGreat
namespace Go.Proofs.YtecjacicdpejaaaGreat
open Go.V Go
end Go.Proofs.YtecjacicdpejaaaGreat
namespace Go.Proofs.YtecjacicdpejaaaGreat
open Go.V Go Go.RowKit
end Go.Proofs.YtecjacicdpejaaaGreat
namespace Go.Proofs.YtecjacicdpejaaaGreat
open Go.V Go
def fW (ks kv:Nat) (p:Pg) (pl:Nat) (ld pd qd:D) (P Q:List Nat) (L:List VL):List bj:=
 .box kv (.mem 0 false [p.cd,p.sd,.int .i64 (pl:Nat),ld,.ptr ks 0 0])::.box ks (.mem 0 false [pd,qd])::.aE pd 1 (P.map FB)::.aE qd 2 (Q.map MW)::.aE ld 12 (L.map JJ)::L.map JI
theorem GX {A:List bj} {N:Nat} {S st:St} {ks kv:Nat} {p:Pg} {pl:Nat} {ld:D} {L:List VL} {H:List bj} (h:MH A N S st ks kv p pl ld L H):∃pd qd P Q sn,Has N S st (A++(fW ks kv p pl ld pd qd P Q L++H))∧gM P Q sn∧sn.length=p.code.length:=by
 obtain⟨pd,qd,P,Q,sn,hH,h1,h2⟩:=h;exact⟨pd,qd,P,Q,sn,by simpa only[fW,List.cons_append] using hH,h1,h2⟩
theorem GY {A:List bj} {N:Nat} {S st:St} {ks kv:Nat} {p:Pg} {pl:Nat} {ld:D} {L:List VL} {H:List bj} {pd qd:D} {P Q:List Nat} {sn:List Bool} (hH:Has N S st (A++(fW ks kv p pl ld pd qd P Q L++H))) (h1:gM P Q sn) (h2:sn.length=p.code.length):MH A N S st ks kv p pl ld L H:=
 ⟨pd,qd,P,Q,sn,by simpa only[fW,List.cons_append] using hH,h1,h2⟩
def MM (A:List bj) (N:Nat) (S st:St) (ks kv:Nat) (p:Pg) (pl:Nat) (ld:D) (L:List VL) (zV zU:Nat) (p2:Pg) (zE:Nat) (zT:D) (L2:List VL):Prop:=
 ∃pd qd P Q sn EW EU P2 Q2 Hn,Has N S st (A++(fW ks kv p pl ld pd qd P Q L++fW zV zU p2 zE zT EW EU P2 Q2 L2))∧gM P Q sn∧sn.length=p.code.length∧gM P2 Q2 Hn∧Hn.length=p2.code.length
section
variable{A:List bj} {N:Nat} {S st:St} {ks kv zV zU:Nat} {p p2:Pg} {pl zE:Nat} {ld zT:D} {L L2:List VL}
theorem MM.one (h:MM A N S st ks kv p pl ld L zV zU p2 zE zT L2):∃H,MH [] N S st ks kv p pl ld L H∧∀(B:List bj) (ah:St) (JZ:Nat) (Kd:D) (L':List VL),MH B N S ah ks kv p JZ Kd L' H→MM (B++A) N S ah ks kv p JZ Kd L' zV zU p2 zE zT L2:=by
 obtain⟨pd,qd,P,Q,sn,EW,EU,P2,Q2,Hn,hH,h1,h2,h3,h4⟩:=h
 refine⟨fW zV zU p2 zE zT EW EU P2 Q2 L2++A,GY (by
  have a:=Has.ES A (fW ks kv p pl ld pd qd P Q L++fW zV zU p2 zE zT EW EU P2 Q2 L2) (H:=[]) (by rw[List.append_nil];exact hH);rw[List.append_nil,List.append_assoc] at a
  exact a) h1 h2,fun B ah JZ Kd L' hM=>?_⟩
 obtain⟨Jg,Je,P',Q',Nz,T6,E2,Lm⟩:=GX hM;refine⟨Jg,Je,P',Q',Nz,EW,EU,P2,Q2,Hn,?_,E2,Lm,h3,h4⟩
 have a:=Has.ES (B++(fW ks kv p JZ Kd Jg Je P' Q' L'++fW zV zU p2 zE zT EW EU P2 Q2 L2)) A (H:=[]) (by rw[List.append_nil];simpa only[List.append_assoc] using T6);have b:Has N S ah (A++(B++((fW ks kv p JZ Kd Jg Je P' Q' L'++fW zV zU p2 zE zT EW EU P2 Q2 L2)++[]))):=by simpa only[List.append_assoc] using a
 have c:=Has.ES _ _ b;rw[List.append_nil] at c
 simpa only[List.append_assoc] using c
theorem MM.drop (n:Nat) (h:MM A N S st ks kv p pl ld L zV zU p2 zE zT L2) (hn:n≤A.length):MM (A.drop n) N S st ks kv p pl ld L zV zU p2 zE zT L2:=by
 obtain⟨pd,qd,P,Q,sn,EW,EU,P2,Q2,Hn,hH,h1,h2,h3,h4⟩:=h;refine⟨pd,qd,P,Q,sn,EW,EU,P2,Q2,Hn,?_,h1,h2,h3,h4⟩;have:=hH.drop n
 rwa [List.drop_append_of_le_length hn] at this
theorem MM.has (h:MM A N S st ks kv p pl ld L zV zU p2 zE zT L2):Has N S st A:=by
 obtain⟨pd,qd,P,Q,sn,EW,EU,P2,Q2,Hn,hH,_⟩:=h;have:=hH.take A.length
 rwa [List.take_left] at this
theorem MM.made {pd qd:D} {P Q:List Nat} {sn:List Bool} (h:MH [] N S st ks kv p pl ld L (fW zV zU p2 zE zT pd qd P Q L2++A)) (h1:gM P Q sn) (h2:sn.length=p2.code.length):MM A N S st ks kv p pl ld L zV zU p2 zE zT L2:=by
 obtain⟨Jg,Je,P',Q',Nz,hH,h3,h4⟩:=GX h;refine⟨Jg,Je,P',Q',Nz,pd,qd,P,Q,sn,?_,h3,h4,h1,h2⟩;have a:=Has.ES (fW ks kv p pl ld Jg Je P' Q' L++fW zV zU p2 zE zT pd qd P Q L2) A (H:=[]) (by rw[List.append_nil];simpa only[List.nil_append,List.append_assoc] using hH)
 rwa [List.append_nil] at a
end
end Go.Proofs.YtecjacicdpejaaaGreat
namespace Go.Proofs.YtecjacicdpejaaaGreat
open Go.V Go
theorem Has.over {N:Nat} {S st ah:St} {H H2:List bj} (h:Has N S st H) (h2:Has st.bs.length st ah H2):Has N S ah (H2++H):=by
 have hN:=h.hN;have hl:=h.ex.len;have te:=h2.ex.len;refine⟨⟨fun k hk=>?_,by omega,h2.ex.flr.trans h.ex.flr,h2.ex.ro.trans h.ex.ro⟩,hN,h.eQ,fun i e hi=>?_,fun i j a b hij ha hb k kV gx=>?_⟩
 ·rw[h2.ex.low k (by omega)];exact h.ex.low k hk
 ·by_cases hlt:i<H2.length
  ·rw[List.getElem?_append_left hlt] at hi;obtain⟨h3,h4⟩:=h2.ok i e hi;exact⟨h3,fun k hk=>⟨by have:=(h4 k hk).1;omega,(h4 k hk).2⟩⟩
  ·rw[List.getElem?_append_right (by omega)] at hi;obtain⟨h3,h4⟩:=h.ok _ e hi;exact⟨e.loc (fun k hk=>h2.ex.low k (h4 k hk).2) h3,fun k hk=>⟨(h4 k hk).1,by have:=(h4 k hk).2;omega⟩⟩
 ·by_cases h1:i<H2.length<;>by_cases h3:j<H2.length
  ·rw[List.getElem?_append_left h1] at ha;rw[List.getElem?_append_left h3] at hb;exact h2.dis i j a b hij ha hb k kV gx
  ·rw[List.getElem?_append_left h1] at ha;rw[List.getElem?_append_right (by omega)] at hb;have:=((h2.ok _ a ha).2 k kV).1;have:=((h.ok _ b hb).2 k gx).2;omega
  ·rw[List.getElem?_append_right (by omega)] at ha;rw[List.getElem?_append_left h3] at hb;have:=((h2.ok _ b hb).2 k gx).1;have:=((h.ok _ a ha).2 k kV).2;omega
  ·rw[List.getElem?_append_right (by omega)] at ha hb;exact h.dis _ _ a b (by omega) ha hb k kV gx
end Go.Proofs.YtecjacicdpejaaaGreat
namespace Go.Proofs.YtecjacicdpejaaaGreat
open Go.V Go
def MC (h j:List UInt8):List D:=(h++j).map Rn++[.int .i64 (h.length:Nat)]
end Go.Proofs.YtecjacicdpejaaaGreat
namespace Go.Proofs.YtecjacicdpejaaaGreat
open Go.V Go
end Go.Proofs.YtecjacicdpejaaaGreat
namespace Go.Proofs.YtecjacicdpejaaaGreat
open Go.V Go
/- the plain law: byte by byte is all at once -/
end Go.Proofs.YtecjacicdpejaaaGreat
namespace Go.Proofs.YtecjacicdpejaaaGreat
open Go.V Go
def SH (A:List bj) (N:Nat) (S st:St) (kS kd kv ks:Nat) (p:Pg) (pl:Nat) (ld:D) (L:List VL) (h:List UInt8) (H:List bj):Prop:=
 ∃pd qd P Q sn js,Has N S st (A++(.box kS (.mem 0 false [.ptr kd 0 0,.ptr kv 0 0])::.box kd (.mem 0 false (MC h js))::(fW ks kv p pl ld pd qd P Q L++H)))∧gM P Q sn∧sn.length=p.code.length∧(h++js).length=4
end Go.Proofs.YtecjacicdpejaaaGreat
namespace Go.Proofs.YtecjacicdpejaaaGreat
open Go.V Go
structure AS (st:St) (kS kd kv ks:Nat) (p:Pg) (pl:Nat) (ld:D) (L:List VL) (h js:List UInt8):Prop where
 s:st.bs[kS]?=some (.mem 0 false [.ptr kd 0 0,.ptr kv 0 0])
 sl:kS<st.bs.length
 d:st.bs[kd]?=some (.mem 0 false (MC h js))
 dl:kd<st.bs.length
 hl:(h++js).length=4
 m:AM st.bs.length st kv ks p pl ld L
 ro:st.ro≤st.bs.length
theorem SH.as {N kS kd kv ks:Nat} {S s0:St} {H:List bj} {p:Pg} {pl:Nat} {ld:D} {L:List VL} {h:List UInt8} (hM:SH [] N S s0 kS kd kv ks p pl ld L h H):∃js,AS s0 kS kd kv ks p pl ld L h js:=by
 obtain⟨pd,qd,P,Q,sn,js,hH,eo,kU,hl⟩:=hM;dsimp only[u4] at hH;have hM:MH [] N S s0 ks kv p pl ld L ([_,_]++H):=MH.push [_,_] [] (H:=H) (GY hH eo kU);exact⟨js,hH.at ax,(hH.ge ax).2,hH.at aX,(hH.ge aX).2,hl,hM.am,hM.ro⟩
theorem AM.bs {N:Nat} {S S2:St} {kv ks:Nat} {p:Pg} {pl:Nat} {ld:D} {L:List VL} (h:AM N S kv ks p pl ld L) (hS:S2.bs=S.bs):AM N S2 kv ks p pl ld L:=
 ⟨h.lt,by rw[hS];exact h.le,by rw[hS];exact h.at_,⟨h.ld.1.bs hS,h.ld.2⟩,fun l hl=>⟨(h.td l hl).1.bs hS,(h.td l hl).2⟩,h.ksl⟩
end Go.Proofs.YtecjacicdpejaaaGreat
namespace Go.Proofs.YtecjacicdpejaaaGreat
open Go.V Go
section
variable{A:List bj} {N kS kd kv ks:Nat} {S s0:St} {p:Pg} {pl:Nat} {ld:D} {L:List VL} {h:List UInt8} {H:List bj}
theorem SH.push (hM:SH A N S s0 kS kd kv ks p pl ld L h H):SH [] N S s0 kS kd kv ks p pl ld L h (A++H):=by
 obtain⟨pd,qd,P,Q,sn,js,hH,h1,h2,h3⟩:=hM;refine⟨pd,qd,P,Q,sn,js,?_,h1,h2,h3⟩;have:=Has.ES A (_::_::fW ks kv p pl ld pd qd P Q L) (H:=H) (by simpa only[List.cons_append,List.append_assoc] using hH)
 simpa only[List.nil_append,List.cons_append,List.append_assoc] using this
theorem SH.has (hM:SH A N S s0 kS kd kv ks p pl ld L h H):Has N S s0 A:=by
 obtain⟨pd,qd,P,Q,sn,js,hH,h1,h2,h3⟩:=hM;have:=hH.take A.length
 rwa [List.take_left] at this
end
end Go.Proofs.YtecjacicdpejaaaGreat
namespace Go.Proofs.YtecjacicdpejaaaGreat
open Go.V Go
theorem Eb {p:Pg} (hR:ky p) {s:Int} (hs:0≤s∧s<(p.code.length:Int)) {m:Nat} {n:Int} (h:G_ p s m n):0≤n∧n<(p.code.length:Int):=by
 rcases h with rfl|⟨i,q,h1,rfl,h3,h4,h5⟩
 ·exact hs
 ·have h6:=hR.sh i q h4;unfold mi at h6;rw[if_pos h5] at h6;simp only[Bool.and_eq_true,decide_eq_true_eq] at h6;exact⟨by omega,h6.2.1.1⟩
def xB (iZ:List GT) (j:Nat) (seen:List Bool):Prop:=∀(k:Nat) b,seen[k]?=some b→(b=true↔∃j' t,j'<j∧iZ[j']?=some t∧t.pc=(k:Int))
theorem xB.nil (iZ:List GT) (n:Nat):xB iZ 0 (List.replicate n false):=by
 intro k b h;rw[List.getElem?_replicate] at h
 split at h
 ·cases h;simp
 ·cases h
theorem xB.set {iZ:List GT} {j k:Nat} {seen:List Bool} {t:GT} (h:xB iZ j seen) (ht:iZ[j]?=some t) (hk:t.pc=(k:Int)):xB iZ (j+1) (seen.set k true):=by
 intro k' b hb;rw[List.getElem?_set] at hb
 by_cases he:k=k'
 ·subst he;rw[if_pos rfl] at hb
  split at hb
  ·cases hb;exact⟨fun _=>⟨j,t,by omega,ht,hk⟩,fun _=>rfl⟩
  ·cases hb
 ·rw[if_neg he] at hb;rw[h k' b hb];constructor
  ·rintro⟨j',t',h1,h2,h3⟩;exact⟨j',t',by omega,h2,h3⟩
  ·rintro⟨j',t',h1,h2,h3⟩
   by_cases hj:j'=j
   ·subst hj;rw[ht] at h2;cases h2;omega
   ·exact⟨j',t',by omega,h2,h3⟩
end Go.Proofs.YtecjacicdpejaaaGreat
namespace Go.Proofs.YtecjacicdpejaaaGreat
open Go.V Go
def GT.Hj (t:GT):Jz:=⟨t.pc.toNat,t.c⟩
def GV.v (l:GV):VL:=⟨l.dn,l.best,l.td,l.iZ.map GT.Hj⟩
theorem AO {l:List GT} (h:∀t∈l,0≤t.pc):(l.map GT.Hj).map xS=l.map Gj:=by
 rw[List.map_map];refine List.map_congr_left fun t ht=>?_;obtain⟨k,hk⟩:=Int.eq_ofNat_of_zero_le (h t ht);obtain⟨pc,c⟩:=t;simp only at hk;subst hk
 rfl
theorem tM.Hj {p:Pg} {place:Int} {L:List GV} (h:tM p place L) {l:GV} (hl:l∈L) {t:GT} (ht:t∈l.iZ):0≤t.pc∧t.pc<(p.code.length:Int):=by
 obtain⟨r,hr⟩:=List.getElem?_of_mem hl;obtain⟨j,hj⟩:=List.getElem?_of_mem ht;have Bw:=cA hr;have hlen:=h.len
 obtain⟨s,hs⟩:∃s,p.bD[r]?=some s:=⟨p.bD[r]'(by omega),List.getElem?_eq_getElem _⟩
 exact Eb h.right (h.right.st s (List.mem_of_getElem? hs)) ((h.each r l s Bw hr hs).2.2 j t (cA hj) hj).1.1
theorem tM.cells {p:Pg} {place:Int} {L:List GV} (h:tM p place L) {l:GV} (hl:l∈L):l.v.iZ.map xS=l.iZ.map Gj:=AO fun t ht=>(h.Hj hl ht).1
theorem tM.ok {p:Pg} {place:Int} {L:List GV} (h:tM p place L) (ht:∀l∈L,l.iZ.length≤1000):∀l∈(L.map GV.v).map VL.pl,l.ok p.code.length:=by
 intro q hq;obtain⟨v,hv,rfl⟩:=List.mem_map.1 hq;obtain⟨l,hl,rfl⟩:=List.mem_map.1 hv;refine⟨fun t h'=>?_,by show(l.iZ.map GT.Hj).length≤1000;rw[List.length_map];exact ht l hl⟩;obtain⟨u,hu,rfl⟩:=List.mem_map.1 (show t∈l.iZ.map GT.Hj from h');have:=h.Hj hl hu;show u.pc.toNat<_;omega
structure ML (x:D) (L:List GV):Prop where
 sl:gv x 12 (L.map Jv)
 ln:L.length≤12
 th:∀l∈L,gv l.td 11 (l.iZ.map Gj)∧l.iZ.length≤500
theorem ML.arg {x:D} {L:List GV} (h:ML x L) (st:St):Qb st x L:=⟨h.sl.rows st,by have:=h.ln;omega,fun l hl=>⟨(h.th l hl).1.rows st,by have:=(h.th l hl).2;omega⟩⟩
end Go.Proofs.YtecjacicdpejaaaGreat
namespace Go.Proofs.YtecjacicdpejaaaGreat
open Go.V Go
end Go.Proofs.YtecjacicdpejaaaGreat
namespace Go.Proofs.YtecjacicdpejaaaGreat
open Go.V Go
theorem D_ (l:List GT):∀e∈l.map Gj,∀d∈e,cj d=true:=by
 intro e he d hd;obtain⟨q,_,rfl⟩:=List.mem_map.1 he;simp only[Gj,List.mem_cons,List.not_mem_nil,or_false] at hd
 rcases hd with rfl|rfl|rfl|rfl|rfl|rfl|rfl|rfl|rfl|rfl|rfl<;>rfl
theorem IJ (l:List GT):∀e∈l.map Gj,e.length=11:=by
 intro e he;obtain⟨q,_,rfl⟩:=List.mem_map.1 he;rfl
def PK (l:List GT):D:=.sl ((l.map Gj).map (jr 11))
theorem Ln (l:List GT):gv (PK l) 11 (l.map Gj):=gv.frozen (IJ l) (D_ l)
def GV.told (l:GV):GV:=⟨l.dn,l.best,PK l.iZ,l.iZ⟩
def HK (L:List GV):D:=.sl (((L.map GV.told).map Jv).map (jr 12))
theorem II (L:List GV):∀e∈L.map Jv,e.length=12:=by
 intro e he;obtain⟨q,_,rfl⟩:=List.mem_map.1 he;rfl
theorem told_plain (L:List GV):∀e∈(L.map GV.told).map Jv,∀d∈e,cj d=true:=by
 intro e he d hd;obtain⟨q,hq,rfl⟩:=List.mem_map.1 he;obtain⟨g,_,rfl⟩:=List.mem_map.1 hq;simp only[Jv,Dn,GV.told,PK,List.mem_cons,List.not_mem_nil,or_false] at hd
 rcases hd with rfl|rfl|rfl|rfl|rfl|rfl|rfl|rfl|rfl|rfl|rfl|rfl<;>rfl
theorem ML.told {x:D} {L:List GV} (h:ML x L):ML (HK L) (L.map GV.told):=by
 refine⟨gv.frozen (II _) (told_plain L),by rw[List.length_map];exact h.ln,fun l hl=>?_⟩;obtain⟨g,hg,rfl⟩:=List.mem_map.1 hl;exact⟨Ln _,(h.th g hg).2⟩
end Go.Proofs.YtecjacicdpejaaaGreat
namespace Go.Proofs.YtecjacicdpejaaaGreat
open Go.V Go
end Go.Proofs.YtecjacicdpejaaaGreat
namespace Go.Proofs.YtecjacicdpejaaaGreat
open Go.V Go
end Go.Proofs.YtecjacicdpejaaaGreat
namespace Go.Proofs.YtecjacicdpejaaaGreat
open Go.V Go
end Go.Proofs.YtecjacicdpejaaaGreat
namespace Go.Proofs.YtecjacicdpejaaaGreat
open Go.V Go
end Go.Proofs.YtecjacicdpejaaaGreat
namespace Go.Proofs.YtecjacicdpejaaaGreat
open Go.V Go
def j8 (l:List lh):D:=.sl ((l.map c8).map (jr 2))
theorem CX (l:List lh):(∀e∈l.map c8,∀d∈e,lq d=true)∧(l.map c8).map (·.map lT)=l.map c8:=by
 constructor
 ·intro e he d hd;obtain⟨q,hq,rfl⟩:=List.mem_map.1 he;simp only[c8,List.mem_cons,List.not_mem_nil,or_false] at hd
  rcases hd with rfl|rfl<;>rfl
 ·rw[List.map_map];rfl
end Go.Proofs.YtecjacicdpejaaaGreat
namespace Go.Proofs.YtecjacicdpejaaaGreat
open Go.V Go
def lP (fr:Go.V.Fr) (k:Nat):Go.V.D:=Go.V.nth .bp fr.loc k
theorem yZ {s0:St} {x:D} {l:List lh} {cont:List UInt8} (hx:V.Rows s0 2 x (l.map c8)) (hl:l.length≤1048576):Ev pv 114 [.agg [x,.str cont]] s0 (.agg [j8 l,.str cont]) s0:=by
 have G8:=gD hx;refine Ev.jq rfl Mu rfl rfl rfl ?_;dsimp only[u3,u4,List.length,Nat.reduceSub,Nat.reduceAdd,w1,w2];obtain⟨bf,hF,hH⟩:=ri s0;generalize ai .ro s0=S at*;have FV:=Arg.of hx bf;refine qq<|qj fun K hK=>qb hH fun k1 st lR hH=>?_;refine qa hH fun k2 st hk2 hH=>?_;refine qe hK ?_;have hH:Has s0.bs.length S st (.aE .nul 2 (([]:List lh).map c8)::.box k2 (.mem 0 false [.nul,.str []])::.box k1 (.mem 0 false [x,.str cont])::[]):=hH.eP 2;refine qq<|qj fun K hK=>qp (o:=0) ?_;refine ql hH bV ?_;refine ae.cB (s:=2) hH rfl (ev rfl) (ev rfl) ax (Arg.rows FV hH) rfl rfl rfl rfl rfl rfl rfl ⟨(Nat.le_of_ble_eq_true rfl),(Nat.le_of_ble_eq_true rfl)⟩ (fun _=>(aa rfl _)) (by simp only[List.length_map,List.length_nil];omega) (.inl hF) (fun k hk=>by simp only[D.ref] at hk;omega) (fun x5 st gO hH=>?_);dsimp only[u1,u2,u6,u4] at hH;refine qp (o:=0) ?_;refine qT hH bV (fun st hH=>?_) (hcs:=hH.iR ax);dsimp only[u2,u1,u3,u4,setMany,u5,u6,D.cells,Nat.reduceAdd,c8] at hH;refine qe hK ?_;have hH:Has s0.bs.length S st (.aE x5 2 (l.map c8)::.box k2 (.mem 0 false [.nul,.str []])::.box k1 (.mem 0 false [x5,.str cont])::[]):=hH;refine qq<|qj fun K hK=>?_;refine ae.aV (m:=2) hH rfl (ev rfl) (by exact bV) (by dsimp only[List.drop_succ_cons,List.drop_zero,List.take_succ_cons,List.take_zero,c8]<;>rfl) rfl rfl (aa rfl _) ?_;refine qS hH aX fun st hH=>?_;dsimp only[u2,u1,u3,u4,setMany,u5,u6,D.cells,Nat.reduceAdd,c8] at hH;refine qe hK ?_;have htl:=CX l;have hfz:=hH.pk (L:=s0.bs.length) (n:=15) ax (fun k hk=>by rw[←bf];exact gO k hk) htl.1 (by decide);rw[htl.2] at hfz;refine ag.ret ⟨rx,_,hH.cX rfl aX rfl,rl bf hH ?_⟩;show(dH (aH st s0.bs.length false 15) [x5,.str cont]).map D.agg=_;simp only[dH,hfz]
 rfl
theorem FF {parts:List (List bB)} (h:∀l∈parts,(∀n∈l,l_ n)∧l.length≤500):∀r∈parts.map (fun l=>(⟨p_ l,l⟩:Nl)),r.ok:=by
 intro r hr;obtain⟨l,hl,rfl⟩:=List.mem_map.1 hr;exact J3 (h l hl).1 (by have:=(h l hl).2;omega)
theorem xj {s0:St} {y:D} {parts:List (List bB)} (h:∀l∈parts,(∀n∈l,l_ n)∧l.length≤500) (hl:parts.length≤1048576) (hy:V.Rows s0 1 y (parts.map dS)):Ev pv 69 [y] s0 (mR (cJ parts)) s0:=by
 have hr:(parts.map (fun l=>(⟨p_ l,l⟩:Nl))).map B8=parts.map dS:=by rw[List.map_map];rfl
 have h1:=y3 (s0:=s0) (x:=y) (rules:=parts.map (fun l=>(⟨p_ l,l⟩:Nl))) (by rw[hr];exact hy) (FF h) (by rw[List.length_map];exact hl);have h2:(parts.map (fun l=>(⟨p_ l,l⟩:Nl))).map (·.l)=parts:=by rw[List.map_map];exact List.map_id _
 rwa [h2] at h1
noncomputable def wC (l:List lh) (cont:List UInt8):Except (Int×Int) (List eC×kC×kC):=
 if 8<l.length then .error (13,8)
 else match ck l 0 [] [] with
 | .error r=>.error (r.1,(r.2:Nat))
 | .ok r=>
  if cont≠[]∧(bP cont).2.1≠0 then .error ((bP cont).2.1,(l.length:Nat))
  else if(cJ r.2).e≠0 then .error ((cJ r.2).e,(cJ r.2).w)
  else if cont≠[]∧(cJ [dw (bP cont).1]).e≠0 then .error ((cJ [dw (bP cont).1]).e,(l.length:Nat))
  else .ok (r.1,cJ r.2,if cont=[] then⟨[],[],0,0⟩ else cJ [dw (bP cont).1])
theorem oA:∀(l:List lh) (i:Nat) (T:List eC) (out:List (List bB)) (r:Int×Nat),ck l i T out=.error r→r.1≠0
 |[],i,T,out,r,h=>by cases h
 |p::l,i,T,out,r,h=>by
  unfold ck at h
  split at h
  ·cases h;show(14:Int)≠0;decide
  split at h
  ·cases h;show(8:Int)≠0;decide
  split at h
  ·rename_i he;cases h;exact he
  ·exact oA l _ _ _ r h
theorem pQ (s0:St):∀(l:List lh) (i:Nat) (T:List eC) (out:List (List bB)) (r:List eC×List (List bB)),(∀p∈l,p.fit)→(∀l∈out,(∀n∈l,l_ n)∧l.length≤500)→ck l i T out=.ok r→(∀l∈r.2,(∀n∈l,l_ n)∧l.length≤500)∧r.2.length=out.length+l.length
 |[],i,T,out,r,hf,ho,h=>by cases h;exact⟨ho,rfl⟩
 |p::l,i,T,out,r,hf,ho,h=>by
  unfold ck at h
  split at h
  ·cases h
  split at h
  ·cases h
  split at h
  ·cases h
  ·have vg:=(nC (s0:=s0) (b:=p.tx) (hf p (List.mem_cons_self ..)).2).2;have hs:=sI vg.1 vg.2
   obtain⟨h1,h2⟩:=pQ s0 l _ _ _ r (fun q hq=>hf q (List.mem_cons_of_mem _ hq)) (fun k hk=>by
    rcases List.mem_append.1 hk with hk|hk
    ·exact ho k hk
    ·rw[List.mem_singleton.1 hk];exact hs) h
   refine⟨h1,?_⟩;rw[h2,List.length_append,List.length_cons];simp only[List.length_cons,List.length_nil];omega
def CH (l:List lh) (cont:List UInt8) (R C:kC) (kt:Nat):List D:=[j8 l,.str cont]++(Ft R.code R.bD).cs++(if cont=[] then[.nul,.nul] else(Ft C.code C.bD).cs)++[.ptr kt 0 0]
def Ka (N:Nat) (S st:St) (H:List bj) (l:List lh) (cont:List UInt8) (d:D):Except (Int×Int) (List eC×kC×kC)→Prop
 | .error r=>d=.tup [.pnil,.int .i64 r.1,.int .i64 r.2]∧r.1≠0∧Has N S st H
 | .ok r=>∃k kt xt,d=.tup [.ptr k 0 0,.int .i64 0,.int .i64 0]∧Has N S st (.box k (.mem 0 false (CH l cont r.2.1 r.2.2 kt))::.box kt (.mem 0 false [xt])::.aE xt 2 (r.1.map cN)::H)
theorem FM {N:Nat} {S s0:St} {H:List bj} {x:D} {l:List lh} {cont:List UInt8} (hF:S.flr≤N) (hx:Arg N S 2 x (l.map c8)) (hl:l.length≤100) (jH:∀p∈l,p.fit) (hcl:cont.length≤1048576) (hH:Has N S s0 H):
  ∃d ah,Ev pv 50 [.agg [x,.str cont]] s0 d ah∧Ka N S ah H l cont d (wC l cont):=by
 have G8:=gD hx.1;refine Ev.nj rfl PT rfl rfl rfl ?_;dsimp only[u3,u4,List.length,Nat.reduceSub,Nat.reduceAdd,w1,w2];change ag _ _ _ _ s0 _;refine qq<|qj fun K hK=>qb hH fun k1 st lR hH=>?_;refine qm ?_;refine qm ?_;refine qm ?_;refine qe hK<|qq<|qq<|qj fun K hK=>qp (o:=0) ?_;refine ql hH ax ?_;refine qn ?_;simp only[List.length_map];refine qg ?_;refine qe hK ?_;unfold wC
 by_cases h8:8<l.length
 ·have hc:decide (((l.length:Nat):Int)>8)=true:=by rw[decide_eq_true_eq];omega
  rw[if_pos h8];refine qD rfl (by rw[hc]) ?_;refine qq<|qj fun K hK=>qm ?_;refine qm ?_;refine qm ?_;refine qe hK<|ag.ret ⟨rx,_,_,_,rfl,rfl,?_⟩;exact⟨rfl,by decide,hH.drop 1⟩
 have hc:decide (((l.length:Nat):Int)>8)=false:=by rw[decide_eq_false_iff_not];omega
 rw[if_neg h8];refine qE rfl (by rw[hc]) ?_;refine ag.skip ?_;obtain⟨d,st1,aI,hP⟩:=A6 (cont:=cont) hF hx hl jH hH
 cases Bz:ck l 0 [] [] with
 |error r=>
  rw[Bz] at hP;obtain⟨rfl,xI⟩:=hP;have hr:=oA _ _ _ _ _ Bz;have oK:(r.1 !=0)=true:=by simpa using hr
  refine qq<|qj fun K hK=>?_;refine ae.aV (m:=2) hH rfl (ev rfl) (by exact ax) (by dsimp only[List.drop_succ_cons,List.drop_zero,List.take_succ_cons,List.take_zero,c8,mR,Ft,Pg.d,Pg.cs]<;>rfl) rfl rfl (aa rfl _) ?_;refine qv aI ?_;have hH:=xI;refine qm ?_;refine qg ?_;refine qg ?_;refine qg ?_;refine qg ?_;refine qm ?_;refine qm ?_;refine qm ?_;refine qm ?_;refine qe hK<|qq<|qq<|qj fun K hK=>qm ?_;refine qg ?_;refine qe hK<|qD rfl (by rw[oK]) ?_;refine qq<|qj fun K hK=>qm ?_;refine qm ?_;refine qm ?_;refine qm ?_;refine qm ?_;refine qe hK<|ag.ret ⟨rx,_,_,_,rfl,rfl,?_⟩;exact⟨rfl,hr,hH.drop 1⟩
 |ok r=>
  rw[Bz] at hP;obtain⟨y,kt,xt,rfl,xI⟩:=hP;obtain⟨T,out⟩:=r;obtain⟨KA,F5⟩:=pQ s0 _ _ _ _ _ jH (by intro k hk;cases hk) Bz;dsimp only at KA F5 xI⊢;have EZ:out.length=l.length:=by rw[F5];simp
  refine qq<|qj fun K hK=>?_;refine ae.aV (m:=2) hH rfl (ev rfl) (by exact ax) (by dsimp only[List.drop_succ_cons,List.drop_zero,List.take_succ_cons,List.take_zero,c8,mR,Ft,Pg.d,Pg.cs]<;>rfl) rfl rfl (aa rfl _) ?_;refine qv aI ?_;have hH:=xI;refine qm ?_;refine qg ?_;refine qg ?_;refine qg ?_;refine qg ?_;refine qm ?_;refine qm ?_;refine qm ?_;refine qm ?_;refine qe hK<|qq<|qq<|qj fun K hK=>qm ?_;refine qg ?_;refine qe hK<|ag.cond (v:=false) (by dsimp only[Fr.ev,Fr.get,nth,V.look];rfl) (fun h=>by cases h) (fun _=>?_);refine ag.skip ?_;have TN:=fun st (h:V.Rows st 2 x (l.map c8))=>yZ (s0:=st) (cont:=cont) h (by omega);refine qq<|qj fun K hK=>?_;refine ae.aV (m:=2) hH rfl (ev rfl) (by exact da) (by dsimp only[List.drop_succ_cons,List.drop_zero,List.take_succ_cons,List.take_zero,c8,mR,Ft,Pg.d,Pg.cs]<;>rfl) rfl rfl (aa rfl _) ?_;refine qv (TN _ (hx.rows hH)) ?_;refine qm ?_;refine ae.go (d:=.agg [j8 l,.str cont,.nul,.nul,.nul,.nul,.ptr kt 0 0]) (st1:=_) rfl rfl rfl (aa rfl _) ?_;refine qb hH fun k30 st Ti hH=>?_;refine qm ?_;refine qe hK<|qq<|qj fun K hK=>qm ?_;refine qe hK<|qq<|qq<|qj fun K hK=>qp (o:=1) ?_;refine ql hH cM ?_;refine qg ?_;refine qe hK ?_;have vg:=fun st=>nC (s0:=st) (b:=cont) hcl;have DK:=(vg s0).2;refine ag.merge (fun fr st=>∃(cd:D) (tmp:List (Nat×D)),fr=⟨11,[lP fr 0,.ptr k1 0 0,lP fr 2,lP fr 3,lP fr 4,y,.ptr kt 0 0,lP fr 7,lP fr 8,.ptr k30 0 0,cd],tmp⟩∧Has N S st (.box k30 (.mem 0 false [j8 l,.str cont,.nul,.nul,.nul,.nul,.ptr kt 0 0])::.box kt (.mem 0 false [xt])::.aE xt 2 (T.map cN)::.aE y 1 (out.map dS)::.box k1 (.mem 0 false [x,.str cont])::H)∧(cont≠[]→(bP cont).2.1=0∧cd=p_ (bP cont).1)) ?_ ?_
  ·by_cases Ai:cont=[]
   ·have gy:(!(cont==[]))=false:=by rw[Ai];rfl
    refine ag.cond (v:=false) (by dsimp only[Fr.ev,Fr.get,nth,V.look];exact congrArg D.bool gy) (fun h=>by cases h) (fun _=>?_);refine ag.skip ?_;exact⟨.nul,_,rfl,hH,(fun h=>absurd Ai h)⟩
   ·have gy:(!(cont==[]))=true:=by simpa using Ai
    refine ag.cond (v:=true) (by dsimp only[Fr.ev,Fr.get,nth,V.look];exact congrArg D.bool gy) (fun _=>?_) (fun h=>by cases h);refine qq<|qj fun K hK=>qp (o:=1) ?_;refine ql hH cM ?_;refine ae.dF rfl rfl (vg _).1 (aa rfl _) ?_;refine qm ?_;refine qg ?_;refine qg ?_;refine qg ?_;refine qm ?_;refine qm ?_;refine qe hK<|qq<|qj fun K hK=>qm ?_;refine qg ?_;refine qe hK ?_
    by_cases he:(bP cont).2.1=0
    ·have BF:((bP cont).2.1 !=0)=false:=by rw[he];rfl
     refine qE rfl (by rw[BF]) ?_;refine ag.skip ?_;exact⟨p_ (bP cont).1,_,rfl,hH,(fun _=>⟨he,rfl⟩)⟩
    ·have BF:((bP cont).2.1 !=0)=true:=by simpa using he
     rw[if_pos ⟨Ai,he⟩];refine qD rfl (by rw[BF]) ?_;refine qq<|qj fun K hK=>qm ?_;refine qp (o:=0) ?_;refine ql hH cM ?_;refine qn ?_;simp only[List.length_map];refine qm ?_;refine qm ?_;refine qm ?_;refine qe hK<|ag.ret ⟨rx,_,_,_,rfl,rfl,?_⟩;exact⟨rfl,he,hH.drop 5⟩
  rintro fr st ⟨cd,tmp,hfr,hH,w5⟩;rw[hfr];clear hfr;generalize lP fr=ee;clear fr;rw[if_neg (fun h=>h.2 (w5 h.1).1)];have TQ:=fun st (h:V.Rows st 1 y (out.map dS))=>xj KA (by omega) h;refine qq<|qq<|qj fun K hK=>qm ?_;refine qm ?_;refine qv (TQ _ (hH.rows da)) ?_;refine qm ?_;refine qg ?_;refine qg ?_;refine qg ?_;refine qg ?_;refine qp (o:=2) ?_;refine qT hH ax fun st hH=>?_;dsimp only[u2,u1,u3,u4,setMany,u5,u6,D.cells,Nat.reduceAdd,c8,mR,Ft,Pg.d,Pg.cs] at hH;refine qm ?_;refine qm ?_;refine qe hK<|qq<|qj fun K hK=>qm ?_;refine qg ?_;refine qe hK ?_
  by_cases BF:(cJ out).e=0
  ·have hcb:((cJ out).e !=0)=false:=by rw[BF];rfl
   rw[if_neg (fun h=>h BF)];refine qE rfl (by rw[hcb]) ?_;refine ag.skip<|qq<|qq<|qj fun K hK=>qp (o:=1) ?_;refine ql hH cM ?_;refine qg ?_;refine qe hK ?_
   by_cases Ai:cont=[]
   ·have gy:(!(cont==[]))=false:=by rw[Ai];rfl
    rw[if_neg (fun h=>h.1 Ai),if_pos Ai];refine ag.cond (v:=false) (by dsimp only[Fr.ev,Fr.get,nth,V.look];exact congrArg D.bool gy) (fun h=>by cases h) (fun _=>?_);refine ag.skip<|qq<|qj fun K hK=>qm ?_;refine qm ?_;refine qm ?_;refine qm ?_;refine qe hK<|ag.ret ⟨rx,_,_,_,rfl,rfl,?_⟩;refine⟨k30,kt,xt,rfl,?_⟩;unfold CH;rw[if_pos Ai];exact(hH.erase 3).erase 3
   ·have gy:(!(cont==[]))=true:=by simpa using Ai
    obtain⟨he,rfl⟩:=w5 Ai;have Ce:=fun st=>wz (s0:=st) (mA DK.1) DK.1 DK.2;have Se:=sI DK.1 DK.2;have Pt:=fun st (z:D) (h:V.Rows st 1 z ([dw (bP cont).1].map dS))=>xj (parts:=[dw (bP cont).1]) (fun k hk=>by rw[List.mem_singleton.1 hk];exact Se) (by simp) h;refine ag.cond (v:=true) (by dsimp only[Fr.ev,Fr.get,nth,V.look];exact congrArg D.bool gy) (fun _=>?_) (fun h=>by cases h);refine qq<|qj fun K hK=>qm ?_;refine qm ?_;refine qv (Ce _) ?_;refine qh (s:=1) (vs:=[_]) hH fun k67 st Tc hH=>?_;refine qv (Pt _ _ (hH.rows ax)) ?_;refine qm ?_;refine qg ?_;refine qg ?_;refine qg ?_;refine qg ?_;refine qp (o:=4) ?_;refine qT hH aX fun st hH=>?_;dsimp only[u2,u1,u3,u4,setMany,u5,u6,D.cells,Nat.reduceAdd,c8,mR,Ft,Pg.d,Pg.cs] at hH;refine qm ?_;refine qe hK<|qq<|qj fun K hK=>qm ?_;refine qg ?_;refine qe hK ?_
    by_cases oK:(cJ [dw (bP cont).1]).e=0
    ·have Iy:((cJ [dw (bP cont).1]).e !=0)=false:=by rw[oK];rfl
     rw[if_neg (fun h=>h.2 oK),if_neg Ai];refine qE rfl (by rw[Iy]) ?_;refine ag.skip<|qq<|qj fun K hK=>qm ?_;refine qm ?_;refine qm ?_;refine qm ?_;refine qe hK<|ag.ret ⟨rx,_,_,_,rfl,rfl,?_⟩;refine⟨k30,kt,xt,rfl,?_⟩;unfold CH;rw[if_neg Ai];exact((hH.drop 1).erase 3).erase 3
    ·have Iy:((cJ [dw (bP cont).1]).e !=0)=true:=by simpa using oK
     rw[if_pos ⟨Ai,oK⟩];refine qD rfl (by rw[Iy]) ?_;refine qq<|qj fun K hK=>qm ?_;refine qp (o:=0) ?_;refine ql hH ej ?_;refine qn ?_;simp only[List.length_map];refine qm ?_;refine qm ?_;refine qm ?_;refine qe hK<|ag.ret ⟨rx,_,_,_,rfl,rfl,?_⟩;exact⟨rfl,oK,hH.drop 6⟩
  ·have hcb:((cJ out).e !=0)=true:=by simpa using BF
   rw[if_pos BF];refine qD rfl (by rw[hcb]) ?_;refine qq<|qj fun K hK=>qm ?_;refine qm ?_;refine qm ?_;refine qm ?_;refine qm ?_;refine qe hK<|ag.ret ⟨rx,_,_,_,rfl,rfl,?_⟩;exact⟨rfl,BF,hH.drop 5⟩
end Go.Proofs.YtecjacicdpejaaaGreat
