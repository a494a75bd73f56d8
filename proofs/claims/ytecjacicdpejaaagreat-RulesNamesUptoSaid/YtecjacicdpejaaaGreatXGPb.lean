/-
 The parser of patterns: classes by single runes; numbers.
-/
import Derived.Test.YtecjacicdpejaaaGreatXGCa
import Derived.Test.YtecjacicdpejaaaGreatXDgp
import Derived.Test.YtecjacicdpejaaaGreatXM2
import Derived.Test.YtecjacicdpejaaaGreatXKa
set_option maxRecDepth 100000
set_option maxHeartbeats 4000000
set_option linter.unusedSimpArgs false
set_option linter.unusedVariables false
set_option linter.unusedSectionVars false
namespace Go.Proofs.YtecjacicdpejaaaGreat
open Go.V Go
noncomputable def cm (l:List Rg):List Rg:=@dite _ (∃a,ft l a) (Classical.propDecidable _) (fun h=>Classical.choose h) (fun _=>[])
theorem wA {l a:List Rg} (h:ft l a):cm l=a:=by
 have hx:∃a,ft l a:=⟨a,h⟩
 unfold cm;rw[dif_pos hx];exact(Classical.choose_spec hx).unique h
theorem mB {s0:St} {x:D} {l:List Rg} (hx:V.Rows s0 2 x (l.map au)) (hl:l.length≤1048576):Ev pv 226 [x] s0 (aQ (cm l)) s0∧(cm l).length≤2*l.length∧ft l (cm l):=by
 obtain⟨_,aI,all,rfl,hperm,lC⟩:=uC hx (by omega);have hM:ft l (all.foldl dv []).reverse:=lM (fun x=>hperm.mem_iff) lC;have hlen:=hperm.length_eq;have jU:=iM l;have hjl:=qL all;rw[wA hM];exact⟨aI,by rw[List.length_reverse];omega,hM⟩
theorem gi (l:List Rg):gv (aQ l) 2 (l.map au):=by
 rw[←gj];refine gv.frozen ?_ ?_
 ·intro e he;obtain⟨x,_,rfl⟩:=List.mem_map.1 he;rfl
 ·intro e he d hd;obtain⟨x,_,rfl⟩:=List.mem_map.1 he;simp only[au,List.mem_cons,List.not_mem_nil,or_false] at hd
  rcases hd with rfl|rfl<;>rfl
theorem uB {r:Int} {l a:List Rg} (h0:0≤r) (h1:r<55296) (hr:fH l r) (h:ft l a):a≠[]:=by
 rintro rfl;have:=(h.2 r).2 ⟨by unfold lQ;omega,hr⟩;obtain⟨x,hx,_⟩:=this;cases hx
theorem wy {r:Int} (h0:0≤r) (h1:r<55296) {a:List Rg} (h:ft [(r,r)] a):a≠[]:=by
 rintro rfl;have:=(h.2 r).2 ⟨?_,?_⟩
 ·obtain⟨x,hx,_⟩:=this;cases hx
 ·unfold lQ;omega
 ·exact⟨(r,r),List.mem_cons_self ..,by simp⟩
theorem jc {s0:St} (r:Int):Ev pv 270 [.int .i32 r] s0 (aQ (cm [(r,r)])) s0:=by
 refine Ev.jq rfl Ly rfl rfl rfl ?_;dsimp only[u3,u4,List.length,Nat.reduceSub,Nat.reduceAdd,w1,w2];obtain⟨bf,hF,hH⟩:=ri s0;generalize ai .ro s0=S at*;refine qq<|qj fun K hK=>qm ?_;refine qe hK<|qq<|qj fun K hK=>qm ?_;refine qm ?_;refine ae.ie (qs:=[(0,_),(1,_)]) rfl rfl rfl rfl ⟨rfl,(ev rfl),(by rfl),rfl,(ev rfl),(by rfl),trivial⟩ (by intro q hq;simp only[List.mem_cons,List.not_mem_nil,or_false] at hq;rcases hq with rfl|rfl<;>exact⟨rfl,by exact Nat.le_of_ble_eq_true rfl⟩) (by show List.foldl _ [_,_] _=_;dsimp only[List.foldl_cons,List.foldl_nil,u2,u1]<;>rfl) (aa rfl _) ?_;refine qh (s:=2) (vs:=[_]) hH fun k6 st Jr hH=>?_;obtain⟨aI,hl,_⟩:=mB (l:=[(r,r)]) (hH.rows ax) (by simp);refine qv aI ?_;refine qm ?_;refine qe hK<|ag.ret ⟨rx,_,rfl,rl bf hH (rfl)⟩
theorem FL {s0:St} (r:Int):Ev pv 288 [.int .i32 r] s0 (.bool (decide (33≤r∧r≤47∨58≤r∧r≤64∨91≤r∧r≤96∨123≤r∧r≤126))) s0:=by
 refine Ev.jq rfl Ls rfl rfl rfl ?_;dsimp only[u3,u4,List.length,Nat.reduceSub,Nat.reduceAdd,w1,w2];obtain⟨bf,hF,hH⟩:=ri s0;generalize ai .ro s0=S at*;refine qq<|qj fun K hK=>qm ?_;refine qe hK<|qq<|ag.sm 2 (.bool (decide (33≤r∧r≤47∨58≤r∧r≤64∨91≤r∧r≤96∨123≤r∧r≤126))) [] ?_ (fun ff tmp=>?_)
 ·refine qm ?_;refine qg ?_;refine qm ?_;refine ae.two 5 rfl (fun aN=>?_) (fun aN=>?_)
  ·refine qm ?_ (hg:=wi aN);refine qg ?_ (hg:=wi aN);refine qt aN ?_;refine qm ?_;refine ae.two 9 rfl (fun fk=>?_) (fun fk=>?_)
   ·refine qs ?_ (hg:=wn fk);refine qs ?_ (hg:=wn fk);refine qs ?_ (hg:=wn fk);refine qs ?_;refine qs ?_;refine qs ?_ (hg:=wn fk);refine qt fk ?_;refine qm ?_;refine qs ?_;refine qs ?_;refine qs ?_;refine qs ?_;refine qs ?_;refine qs ?_;refine qg ?_;refine qm ?_;refine qs ?_;refine qs ?_;refine qs ?_;refine qs ?_;refine qs ?_;refine qs ?_;refine qg ?_;refine qm ?_;refine ae.nil (aM ?_);dsimp only[aD,List.foldl,nth,u2,u1];dsimp only[Fr.ay,Fr.put,Fr.clean,Fr.ev,Fr.get,nth,V.look,u1,u2,v1,v2,v3,v4,v5,v6,v7,List.length,u3,u4,Nat.reduceSub,Nat.reduceAdd,List.map]
    all_goals(simp[aN,fk];done)
   ·refine qm ?_ (hg:=wi fk);refine qg ?_ (hg:=wi fk);refine qm ?_ (hg:=wi fk);refine ae.two 12 rfl (fun bX=>?_) (fun bX=>?_)
    ·refine qm ?_ (hg:=wi bX);refine qg ?_ (hg:=wi bX);refine ae.cP (aj rfl rfl rfl fk) rfl bX (aa rfl _) ?_;refine qu fk ?_;refine qm ?_;refine ae.two 17 rfl (fun bn=>?_) (fun bn=>?_)
     ·refine qs ?_ (hg:=wn bn);refine qs ?_ (hg:=wn bn);refine qs ?_ (hg:=wn bn);refine qs ?_;refine qs ?_;refine qs ?_ (hg:=wn bn);refine qt bn ?_;refine qm ?_;refine qs ?_;refine qs ?_;refine qs ?_;refine qs ?_;refine qs ?_;refine qs ?_;refine qg ?_;refine qm ?_;refine ae.nil (aM ?_);dsimp only[aD,List.foldl,nth,u2,u1];dsimp only[Fr.ay,Fr.put,Fr.clean,Fr.ev,Fr.get,nth,V.look,u1,u2,v1,v2,v3,v4,v5,v6,v7,List.length,u3,u4,Nat.reduceSub,Nat.reduceAdd,List.map]
      all_goals(simp[aN,fk,bX,bn];done)
     ·refine qm ?_ (hg:=wi bn);refine qg ?_ (hg:=wi bn);refine qm ?_ (hg:=wi bn);refine ae.two 20 rfl (fun aF=>?_) (fun aF=>?_)
      ·refine qm ?_ (hg:=wi aF);refine qg ?_ (hg:=wi aF);refine ae.cP (aj rfl rfl rfl bn) rfl aF (aa rfl _) ?_;refine qu bn ?_;refine qm ?_;refine ae.two 25 rfl (fun aJ=>?_) (fun aJ=>?_)
       ·refine qs ?_ (hg:=wn aJ);refine qs ?_ (hg:=wn aJ);refine qs ?_ (hg:=wn aJ);refine qs ?_;refine qs ?_;refine qs ?_ (hg:=wn aJ);refine qt aJ ?_;refine qm ?_;refine ae.nil (aM ?_);dsimp only[aD,List.foldl,nth,u2,u1];dsimp only[Fr.ay,Fr.put,Fr.clean,Fr.ev,Fr.get,nth,V.look,u1,u2,v1,v2,v3,v4,v5,v6,v7,List.length,u3,u4,Nat.reduceSub,Nat.reduceAdd,List.map]
        all_goals(simp[aN,fk,bX,bn,aF,aJ];done)
       ·refine qm ?_ (hg:=wi aJ);refine qg ?_ (hg:=wi aJ);refine qm ?_ (hg:=wi aJ);refine ae.two 28 rfl (fun a_=>?_) (fun a_=>?_)
        ·refine qm ?_ (hg:=wi a_);refine qg ?_ (hg:=wi a_);refine ae.cP (aj rfl rfl rfl aJ) rfl a_ (aa rfl _) ?_;refine qu aJ ?_;refine qm ?_;refine ae.nil (aM ?_);dsimp only[aD,List.foldl,nth,u2,u1];dsimp only[Fr.ay,Fr.put,Fr.clean,Fr.ev,Fr.get,nth,V.look,u1,u2,v1,v2,v3,v4,v5,v6,v7,List.length,u3,u4,Nat.reduceSub,Nat.reduceAdd,List.map]
         all_goals(simp[aN,fk,bX,bn,aF,aJ,a_];done)
        ·refine qs ?_ (hg:=wn a_);refine qs ?_ (hg:=wn a_);refine ae.cH (aj rfl rfl rfl aJ) rfl a_ (aa rfl _) ?_;refine qu aJ ?_;refine qm ?_;refine ae.nil (aM ?_);dsimp only[aD,List.foldl,nth,u2,u1];dsimp only[Fr.ay,Fr.put,Fr.clean,Fr.ev,Fr.get,nth,V.look,u1,u2,v1,v2,v3,v4,v5,v6,v7,List.length,u3,u4,Nat.reduceSub,Nat.reduceAdd,List.map]
         all_goals(simp[aN,fk,bX,bn,aF,aJ,a_];done)
      ·refine qs ?_ (hg:=wn aF);refine qs ?_ (hg:=wn aF);refine ae.cH (aj rfl rfl rfl bn) rfl aF (aa rfl _) ?_;refine qu bn ?_;refine qm ?_;refine qm ?_;refine qg ?_;refine qm ?_;refine ae.two 28 rfl (fun a_=>?_) (fun a_=>?_)
       ·refine qm ?_ (hg:=wi a_);refine qg ?_ (hg:=wi a_);refine qt a_ ?_;refine qg ?_;refine qm ?_;refine ae.nil (aM ?_);dsimp only[aD,List.foldl,nth,u2,u1];dsimp only[Fr.ay,Fr.put,Fr.clean,Fr.ev,Fr.get,nth,V.look,u1,u2,v1,v2,v3,v4,v5,v6,v7,List.length,u3,u4,Nat.reduceSub,Nat.reduceAdd,List.map]
        all_goals(simp[aN,fk,bX,bn,aF,a_];done)
       ·refine qs ?_ (hg:=wn a_);refine qs ?_ (hg:=wn a_);refine qu a_ ?_;refine qg ?_;refine qm ?_;refine ae.nil (aM ?_);dsimp only[aD,List.foldl,nth,u2,u1];dsimp only[Fr.ay,Fr.put,Fr.clean,Fr.ev,Fr.get,nth,V.look,u1,u2,v1,v2,v3,v4,v5,v6,v7,List.length,u3,u4,Nat.reduceSub,Nat.reduceAdd,List.map]
        all_goals(simp[aN,fk,bX,bn,aF,a_];done)
    ·refine qs ?_ (hg:=wn bX);refine qs ?_ (hg:=wn bX);refine ae.cH (aj rfl rfl rfl fk) rfl bX (aa rfl _) ?_;refine qu fk ?_;refine qm ?_;refine qm ?_;refine qg ?_;refine qm ?_;refine ae.two 20 rfl (fun aF=>?_) (fun aF=>?_)
     ·refine qm ?_ (hg:=wi aF);refine qg ?_ (hg:=wi aF);refine qt aF ?_;refine qg ?_;refine qm ?_;refine ae.two 25 rfl (fun aJ=>?_) (fun aJ=>?_)
      ·refine qs ?_ (hg:=wn aJ);refine qs ?_ (hg:=wn aJ);refine qs ?_ (hg:=wn aJ);refine qs ?_;refine qs ?_;refine qs ?_ (hg:=wn aJ);refine qt aJ ?_;refine qm ?_;refine ae.nil (aM ?_);dsimp only[aD,List.foldl,nth,u2,u1];dsimp only[Fr.ay,Fr.put,Fr.clean,Fr.ev,Fr.get,nth,V.look,u1,u2,v1,v2,v3,v4,v5,v6,v7,List.length,u3,u4,Nat.reduceSub,Nat.reduceAdd,List.map]
       all_goals(simp[aN,fk,bX,aF,aJ];done)
      ·refine qm ?_ (hg:=wi aJ);refine qg ?_ (hg:=wi aJ);refine qm ?_ (hg:=wi aJ);refine ae.two 28 rfl (fun a_=>?_) (fun a_=>?_)
       ·refine qm ?_ (hg:=wi a_);refine qg ?_ (hg:=wi a_);refine ae.cP (aj rfl rfl rfl aJ) rfl a_ (aa rfl _) ?_;refine qu aJ ?_;refine qm ?_;refine ae.nil (aM ?_);dsimp only[aD,List.foldl,nth,u2,u1];dsimp only[Fr.ay,Fr.put,Fr.clean,Fr.ev,Fr.get,nth,V.look,u1,u2,v1,v2,v3,v4,v5,v6,v7,List.length,u3,u4,Nat.reduceSub,Nat.reduceAdd,List.map]
        all_goals(simp[aN,fk,bX,aF,aJ,a_];done)
       ·refine qs ?_ (hg:=wn a_);refine qs ?_ (hg:=wn a_);refine ae.cH (aj rfl rfl rfl aJ) rfl a_ (aa rfl _) ?_;refine qu aJ ?_;refine qm ?_;refine ae.nil (aM ?_);dsimp only[aD,List.foldl,nth,u2,u1];dsimp only[Fr.ay,Fr.put,Fr.clean,Fr.ev,Fr.get,nth,V.look,u1,u2,v1,v2,v3,v4,v5,v6,v7,List.length,u3,u4,Nat.reduceSub,Nat.reduceAdd,List.map]
        all_goals(simp[aN,fk,bX,aF,aJ,a_];done)
     ·refine qs ?_ (hg:=wn aF);refine qs ?_ (hg:=wn aF);refine qu aF ?_;refine qg ?_;refine qm ?_;refine qm ?_;refine qg ?_;refine qm ?_;refine ae.two 28 rfl (fun a_=>?_) (fun a_=>?_)
      ·refine qm ?_ (hg:=wi a_);refine qg ?_ (hg:=wi a_);refine qt a_ ?_;refine qg ?_;refine qm ?_;refine ae.nil (aM ?_);dsimp only[aD,List.foldl,nth,u2,u1];dsimp only[Fr.ay,Fr.put,Fr.clean,Fr.ev,Fr.get,nth,V.look,u1,u2,v1,v2,v3,v4,v5,v6,v7,List.length,u3,u4,Nat.reduceSub,Nat.reduceAdd,List.map]
       all_goals(simp[aN,fk,bX,aF,a_];done)
      ·refine qs ?_ (hg:=wn a_);refine qs ?_ (hg:=wn a_);refine qu a_ ?_;refine qg ?_;refine qm ?_;refine ae.nil (aM ?_);dsimp only[aD,List.foldl,nth,u2,u1];dsimp only[Fr.ay,Fr.put,Fr.clean,Fr.ev,Fr.get,nth,V.look,u1,u2,v1,v2,v3,v4,v5,v6,v7,List.length,u3,u4,Nat.reduceSub,Nat.reduceAdd,List.map]
       all_goals(simp[aN,fk,bX,aF,a_];done)
  ·refine qs ?_ (hg:=wn aN);refine qs ?_ (hg:=wn aN);refine qu aN ?_;refine qm ?_;refine qm ?_;refine qg ?_;refine qm ?_;refine ae.two 12 rfl (fun bX=>?_) (fun bX=>?_)
   ·refine qm ?_ (hg:=wi bX);refine qg ?_ (hg:=wi bX);refine qt bX ?_;refine qg ?_;refine qm ?_;refine ae.two 17 rfl (fun bn=>?_) (fun bn=>?_)
    ·refine qs ?_ (hg:=wn bn);refine qs ?_ (hg:=wn bn);refine qs ?_ (hg:=wn bn);refine qs ?_;refine qs ?_;refine qs ?_ (hg:=wn bn);refine qt bn ?_;refine qm ?_;refine qs ?_;refine qs ?_;refine qs ?_;refine qs ?_;refine qs ?_;refine qs ?_;refine qg ?_;refine qm ?_;refine ae.nil (aM ?_);dsimp only[aD,List.foldl,nth,u2,u1];dsimp only[Fr.ay,Fr.put,Fr.clean,Fr.ev,Fr.get,nth,V.look,u1,u2,v1,v2,v3,v4,v5,v6,v7,List.length,u3,u4,Nat.reduceSub,Nat.reduceAdd,List.map]
     all_goals(simp[aN,bX,bn];done)
    ·refine qm ?_ (hg:=wi bn);refine qg ?_ (hg:=wi bn);refine qm ?_ (hg:=wi bn);refine ae.two 20 rfl (fun aF=>?_) (fun aF=>?_)
     ·refine qm ?_ (hg:=wi aF);refine qg ?_ (hg:=wi aF);refine ae.cP (aj rfl rfl rfl bn) rfl aF (aa rfl _) ?_;refine qu bn ?_;refine qm ?_;refine ae.two 25 rfl (fun aJ=>?_) (fun aJ=>?_)
      ·refine qs ?_ (hg:=wn aJ);refine qs ?_ (hg:=wn aJ);refine qs ?_ (hg:=wn aJ);refine qs ?_;refine qs ?_;refine qs ?_ (hg:=wn aJ);refine qt aJ ?_;refine qm ?_;refine ae.nil (aM ?_);dsimp only[aD,List.foldl,nth,u2,u1];dsimp only[Fr.ay,Fr.put,Fr.clean,Fr.ev,Fr.get,nth,V.look,u1,u2,v1,v2,v3,v4,v5,v6,v7,List.length,u3,u4,Nat.reduceSub,Nat.reduceAdd,List.map]
       all_goals(simp[aN,bX,bn,aF,aJ];done)
      ·refine qm ?_ (hg:=wi aJ);refine qg ?_ (hg:=wi aJ);refine qm ?_ (hg:=wi aJ);refine ae.two 28 rfl (fun a_=>?_) (fun a_=>?_)
       ·refine qm ?_ (hg:=wi a_);refine qg ?_ (hg:=wi a_);refine ae.cP (aj rfl rfl rfl aJ) rfl a_ (aa rfl _) ?_;refine qu aJ ?_;refine qm ?_;refine ae.nil (aM ?_);dsimp only[aD,List.foldl,nth,u2,u1];dsimp only[Fr.ay,Fr.put,Fr.clean,Fr.ev,Fr.get,nth,V.look,u1,u2,v1,v2,v3,v4,v5,v6,v7,List.length,u3,u4,Nat.reduceSub,Nat.reduceAdd,List.map]
        all_goals(simp[aN,bX,bn,aF,aJ,a_];done)
       ·refine qs ?_ (hg:=wn a_);refine qs ?_ (hg:=wn a_);refine ae.cH (aj rfl rfl rfl aJ) rfl a_ (aa rfl _) ?_;refine qu aJ ?_;refine qm ?_;refine ae.nil (aM ?_);dsimp only[aD,List.foldl,nth,u2,u1];dsimp only[Fr.ay,Fr.put,Fr.clean,Fr.ev,Fr.get,nth,V.look,u1,u2,v1,v2,v3,v4,v5,v6,v7,List.length,u3,u4,Nat.reduceSub,Nat.reduceAdd,List.map]
        all_goals(simp[aN,bX,bn,aF,aJ,a_];done)
     ·refine qs ?_ (hg:=wn aF);refine qs ?_ (hg:=wn aF);refine ae.cH (aj rfl rfl rfl bn) rfl aF (aa rfl _) ?_;refine qu bn ?_;refine qm ?_;refine qm ?_;refine qg ?_;refine qm ?_;refine ae.two 28 rfl (fun a_=>?_) (fun a_=>?_)
      ·refine qm ?_ (hg:=wi a_);refine qg ?_ (hg:=wi a_);refine qt a_ ?_;refine qg ?_;refine qm ?_;refine ae.nil (aM ?_);dsimp only[aD,List.foldl,nth,u2,u1];dsimp only[Fr.ay,Fr.put,Fr.clean,Fr.ev,Fr.get,nth,V.look,u1,u2,v1,v2,v3,v4,v5,v6,v7,List.length,u3,u4,Nat.reduceSub,Nat.reduceAdd,List.map]
       all_goals(simp[aN,bX,bn,aF,a_];done)
      ·refine qs ?_ (hg:=wn a_);refine qs ?_ (hg:=wn a_);refine qu a_ ?_;refine qg ?_;refine qm ?_;refine ae.nil (aM ?_);dsimp only[aD,List.foldl,nth,u2,u1];dsimp only[Fr.ay,Fr.put,Fr.clean,Fr.ev,Fr.get,nth,V.look,u1,u2,v1,v2,v3,v4,v5,v6,v7,List.length,u3,u4,Nat.reduceSub,Nat.reduceAdd,List.map]
       all_goals(simp[aN,bX,bn,aF,a_];done)
   ·refine qs ?_ (hg:=wn bX);refine qs ?_ (hg:=wn bX);refine qu bX ?_;refine qg ?_;refine qm ?_;refine qm ?_;refine qg ?_;refine qm ?_;refine ae.two 20 rfl (fun aF=>?_) (fun aF=>?_)
    ·refine qm ?_ (hg:=wi aF);refine qg ?_ (hg:=wi aF);refine qt aF ?_;refine qg ?_;refine qm ?_;refine ae.two 25 rfl (fun aJ=>?_) (fun aJ=>?_)
     ·refine qs ?_ (hg:=wn aJ);refine qs ?_ (hg:=wn aJ);refine qs ?_ (hg:=wn aJ);refine qs ?_;refine qs ?_;refine qs ?_ (hg:=wn aJ);refine qt aJ ?_;refine qm ?_;refine ae.nil (aM ?_);dsimp only[aD,List.foldl,nth,u2,u1];dsimp only[Fr.ay,Fr.put,Fr.clean,Fr.ev,Fr.get,nth,V.look,u1,u2,v1,v2,v3,v4,v5,v6,v7,List.length,u3,u4,Nat.reduceSub,Nat.reduceAdd,List.map]
      all_goals(simp[aN,bX,aF,aJ];done)
     ·refine qm ?_ (hg:=wi aJ);refine qg ?_ (hg:=wi aJ);refine qm ?_ (hg:=wi aJ);refine ae.two 28 rfl (fun a_=>?_) (fun a_=>?_)
      ·refine qm ?_ (hg:=wi a_);refine qg ?_ (hg:=wi a_);refine ae.cP (aj rfl rfl rfl aJ) rfl a_ (aa rfl _) ?_;refine qu aJ ?_;refine qm ?_;refine ae.nil (aM ?_);dsimp only[aD,List.foldl,nth,u2,u1];dsimp only[Fr.ay,Fr.put,Fr.clean,Fr.ev,Fr.get,nth,V.look,u1,u2,v1,v2,v3,v4,v5,v6,v7,List.length,u3,u4,Nat.reduceSub,Nat.reduceAdd,List.map]
       all_goals(simp[aN,bX,aF,aJ,a_];done)
      ·refine qs ?_ (hg:=wn a_);refine qs ?_ (hg:=wn a_);refine ae.cH (aj rfl rfl rfl aJ) rfl a_ (aa rfl _) ?_;refine qu aJ ?_;refine qm ?_;refine ae.nil (aM ?_);dsimp only[aD,List.foldl,nth,u2,u1];dsimp only[Fr.ay,Fr.put,Fr.clean,Fr.ev,Fr.get,nth,V.look,u1,u2,v1,v2,v3,v4,v5,v6,v7,List.length,u3,u4,Nat.reduceSub,Nat.reduceAdd,List.map]
       all_goals(simp[aN,bX,aF,aJ,a_];done)
    ·refine qs ?_ (hg:=wn aF);refine qs ?_ (hg:=wn aF);refine qu aF ?_;refine qg ?_;refine qm ?_;refine qm ?_;refine qg ?_;refine qm ?_;refine ae.two 28 rfl (fun a_=>?_) (fun a_=>?_)
     ·refine qm ?_ (hg:=wi a_);refine qg ?_ (hg:=wi a_);refine qt a_ ?_;refine qg ?_;refine qm ?_;refine ae.nil (aM ?_);dsimp only[aD,List.foldl,nth,u2,u1];dsimp only[Fr.ay,Fr.put,Fr.clean,Fr.ev,Fr.get,nth,V.look,u1,u2,v1,v2,v3,v4,v5,v6,v7,List.length,u3,u4,Nat.reduceSub,Nat.reduceAdd,List.map]
      all_goals(simp[aN,bX,aF,a_];done)
     ·refine qs ?_ (hg:=wn a_);refine qs ?_ (hg:=wn a_);refine qu a_ ?_;refine qg ?_;refine qm ?_;refine ae.nil (aM ?_);dsimp only[aD,List.foldl,nth,u2,u1];dsimp only[Fr.ay,Fr.put,Fr.clean,Fr.ev,Fr.get,nth,V.look,u1,u2,v1,v2,v3,v4,v5,v6,v7,List.length,u3,u4,Nat.reduceSub,Nat.reduceAdd,List.map]
      all_goals(simp[aN,bX,aF,a_];done)
 dsimp only[aD,List.foldl,nth,u2,u1];refine ag.ret ⟨rx,_,rfl,rl bf hH (rfl)⟩
theorem oq:∀gs:List (Nat×Nat),jv ((gs.map br).map (jr 2))=some (gs.map fun g=>((g.1:Nat):Int))
 |[]=>rfl
 |g::gs=>by
  have ih:=oq gs;simp only[List.map_cons];show(match jv ((gs.map br).map (jr 2)) with|some rs=>some (((g.1:Nat):Int)::rs)|none=>none)=_;rw[ih]
theorem xf:∀(rs:List Int) (acc:List UInt8),(digS rs acc).2≤rs.length∧(digS rs acc).1.length≤acc.length+(digS rs acc).2
 |[],acc=>by simp[digS]
 |r::rs,acc=>by
  unfold digS
  split
  ·have h:=xf rs (if 48<r∨acc≠[] then acc++[UInt8.ofNat r.toNat] else acc);simp only[List.length_cons]
   have hl:(if 48<r∨acc≠[] then acc++[UInt8.ofNat r.toNat] else acc).length≤acc.length+1:=by
    split<;>simp
   omega
  ·simp
structure kz (gs:List (Nat×Nat)) (aY:List Int):Prop where
 gl:gs.length≤120
 pl:aY.length=gs.length
theorem Bp (l:List Int):∀e∈l.map aB,∀d∈e,cj d=true:=by
 intro e he d hd;obtain⟨x,_,rfl⟩:=List.mem_map.1 he;simp only[aB,List.mem_cons,List.not_mem_nil,or_false] at hd;subst hd;rfl
def Kh (l:List Int):D:=.sl ((l.map aB).map (jr 1))
def jK (pc:Nat) (i:aZ):List Int:=
 if i.op=2 then[i.x,i.y] else if i.op=3 then[i.x] else if i.op=7 then[] else[((pc+1:Nat):Int)]
def As (code:List aZ):Prop:=∀pc i,code[pc]?=some i→∀v∈jK pc i,0≤v∧v<code.length
theorem vD {n ns pc:Nat} {i:aZ} (h:mi n ns pc i=true):∀v∈jK pc i,0≤v∧v<n:=by
 intro v hv
 have pf:∀a b:Int,FQ a b=true→0≤a∧a<b:=fun a b h=>by
  unfold FQ at h;simp only[Bool.and_eq_true,decide_eq_true_eq] at h;exact⟨h.1,h.2⟩
 unfold mi at h;unfold jK at hv
 split at h
 ·rename_i h1;rw[if_neg (by omega),if_neg (by omega),if_neg (by omega)] at hv;simp only[Bool.and_eq_true,decide_eq_true_eq] at h;simp only[List.mem_cons,List.not_mem_nil,or_false] at hv;subst hv;omega
 ·simp only[Bool.and_eq_true] at h;obtain⟨_,h⟩:=h
  split at h
  ·rename_i h2;rw[if_pos h2] at hv;simp only[Bool.and_eq_true] at h;simp only[List.mem_cons,List.not_mem_nil,or_false] at hv
   rcases hv with rfl|rfl
   ·exact pf _ _ h.1
   ·exact pf _ _ h.2
  ·rename_i h2;rw[if_neg h2] at hv;simp only[Bool.and_eq_true] at h;obtain⟨_,h⟩:=h
   split at h
   ·rename_i h3;rw[if_pos h3] at hv;simp only[List.mem_cons,List.not_mem_nil,or_false] at hv;subst hv;exact pf _ _ h
   ·rename_i h3;rw[if_neg h3] at hv
    split at h
    ·rename_i h4;rw[if_neg (by omega)] at hv;simp only[Bool.and_eq_true,decide_eq_true_eq] at h;simp only[List.mem_cons,List.not_mem_nil,or_false] at hv;subst hv;omega
    ·split at h
     ·rename_i h5;rw[if_neg (by omega)] at hv;simp only[Bool.and_eq_true,decide_eq_true_eq] at h;simp only[List.mem_cons,List.not_mem_nil,or_false] at hv;subst hv;omega
     ·split at h
      ·rename_i h7;rw[if_pos h7] at hv;cases hv
      ·cases h
def Jy (code:List aZ):Nat→List Bool→List Int→List Bool
 |0,seen,_=>seen
 |_+1,seen,[]=>seen
 |f+1,seen,v::Jc=>match seen[v.toNat]? with
  |some false=>match code[v.toNat]? with
   |some i=>Jy code f (seen.set v.toNat true) ((jK v.toNat i).reverse++Jc)
   |none=>seen
  |_=>Jy code f seen Jc
def pP (code:List aZ) (start:Int):List Bool:=Jy code (3*code.length+1) (List.replicate code.length false) [start]
theorem count_set {seen:List Bool} {k:Nat} (h:seen[k]?=some false):(seen.set k true).count false+1=seen.count false:=by
 induction seen generalizing k with
 |nil=>simp at h
 |cons b l ih=>
  cases k with
  |zero=>simp at h;subst h;simp
  |succ k=>
   have:=ih (k:=k) (by simpa using h);simp only[List.set_cons_succ,List.count_cons];omega
def C4 (p:Pg) (r:Nat) (s:Int) (n:Nat):Prop:=∀pc i,pc<n→(pP p.code s)[pc]?=some true→p.code[pc]?=some i→i.op=7→i.x=(r:Int)
structure ky (p:Pg):Prop where
 cl:p.code.length≤400
 sl:p.bD.length≤8
 sh:∀pc i,p.code[pc]?=some i→mi p.code.length p.bD.length pc i=true
 st:∀v∈p.bD,0≤v∧v<(p.code.length:Int)
 fo:∀r s,p.bD[r]?=some s→C4 p r s p.code.length
theorem BV {p:Pg} (h:∀pc i,p.code[pc]?=some i→mi p.code.length p.bD.length pc i=true):As p.code:=
 fun pc i hi=>vD (h pc i hi)
theorem ky.closed {p:Pg} (h:ky p):As p.code:=BV h.sh
theorem pf {a b:Int}:FQ a b=true↔0≤a∧a<b:=by
 unfold FQ;simp only[Bool.and_eq_true,decide_eq_true_eq,ge_iff_le]
def lE (i:aZ):aZ:=⟨i.op,i.x,i.y,.sl ((i.rs.map au).map (jr 2)),i.rs⟩
structure bB where
 op:Int
 rd:D
 rs:List Rg
 mn:Int
 mx:Int
 lz:Bool
 cap:Int
 kids:Int
def aG (n:bB):List D:=[.int .i64 n.op,n.rd,.int .i64 n.mn,.int .i64 n.mx,.bool n.lz,.int .i64 n.cap,.int .i64 n.kids]
def bB.ok (n:bB):Prop:=gv n.rd 2 (n.rs.map au)∧n.rs.length≤1048576∧n.kids≤9223372036854775807
structure Nl where
 d:D
 l:List bB
structure Nl.ok (x:Nl):Prop where
 c:gv x.d 7 (x.l.map aG)
 i:∀n∈x.l,n.ok
 nl:x.l.length≤1048576
theorem kP {l:List bB} {i:Nat} {q:bB} (h:l[i]?=some q):(l.map aG)[i]?=some (aG q):=by rw[List.getElem?_map,h];rfl
mutual
inductive Tr where
 |mk (n:bB) (ks:aO)
inductive aO where
 |nil
 |cons (t:Tr) (ts:aO)
end
def aO.len:aO→Nat
 | .nil=>0
 | .cons _ ts=>ts.len+1
mutual
def Tr.flat:Tr→List bB
 | .mk n ks=>n::ks.flat
def aO.flat:aO→List bB
 | .nil=>[]
 | .cons t ts=>t.flat++ts.flat
end
def sS (n:bB) (nk:Nat):Prop:=
 n.kids=(nk:Int)∧(((n.op=1∨n.op=7∨n.op=8)∧nk=0)∨(n.op=2∧nk=0)∨((n.op=3∨n.op=4)∧2≤nk)∨
  (n.op=5∧nk=1∧0≤n.mn∧n.mn≤30∧(n.mx=-1∨(n.mn≤n.mx∧n.mx≤30)))∨(n.op=6∧nk=1∧1≤n.cap∧n.cap≤4))
mutual
def Tr.ok:Tr→Prop
 | .mk n ks=>sS n ks.len∧ks.ok
def aO.ok:aO→Prop
 | .nil=>True
 | .cons t ts=>t.ok∧ts.ok
end
def bQ (n:bB) (s k:Nat):Nat:=
 if n.op=2∨n.op=7∨n.op=8 then 1
 else if n.op=4 then s+2*(k-1)
 else if n.op=6 then s+2
 else if n.op=5 then(if n.mx=-1 then n.mn.toNat*s+s+2 else n.mn.toNat*s+(n.mx.toNat-n.mn.toNat)*(s+1))
 else s
mutual
def Tr.sz:Tr→Nat
 | .mk n ks=>bQ n ks.sz ks.len
def aO.sz:aO→Nat
 | .nil=>0
 | .cons t ts=>t.sz+ts.sz
end
def dG (op x y:Int) (rs:List Rg):aZ:=⟨op,x,y,.sl ((rs.map au).map (jr 2)),rs⟩
def om (s o:Nat) (lz:Bool):aZ:=if lz=true then dG 2 (o:Nat) ((s+1:Nat):Int) [] else dG 2 ((s+1:Nat):Int) (o:Nat) []
def lA (e:Nat):aZ:=dG 3 (e:Nat) 0 []
def ia (c:Nat→List aZ) (z:Nat):Nat→Nat→List aZ
 |0,_=>[]
 |k+1,b=>c b++ia c z k (b+z)
def gZ (sp:Nat→aZ) (c:Nat→List aZ) (z:Nat):Nat→Nat→List aZ
 |0,_=>[]
 |k+1,b=>sp b::(c (b+1)++gZ sp c z k (b+1+z))
def wa (z:Nat):Nat→Nat→List Nat
 |0,_=>[]
 |k+1,b=>b::wa z k (b+1+z)
def t_ (n:bB) (c:Nat→List aZ) (z b:Nat):List aZ:=
 if n.mx=-1 then ia c z n.mn.toNat b++(om (b+n.mn.toNat*z) (b+n.mn.toNat*z+z+2) n.lz::(c (b+n.mn.toNat*z+1)++[lA (b+n.mn.toNat*z)]))
 else ia c z n.mn.toNat b++gZ (fun s=>om s (b+n.mn.toNat*z+(n.mx.toNat-n.mn.toNat)*(z+1)) n.lz) c z (n.mx.toNat-n.mn.toNat) (b+n.mn.toNat*z)
mutual
def aS:Tr→Nat→List aZ
 | .mk n ks,b=>
  if n.op=2 then[dG 1 0 0 n.rs]
  else if n.op=7 then[dG 5 0 0 []]
  else if n.op=8 then[dG 6 0 0 []]
  else if n.op=3 then jn ks b
  else if n.op=4 then fP (lA (b+bQ n ks.sz ks.len)) ks b
  else if n.op=5 then t_ n (jn ks) ks.sz b
  else if n.op=6 then dG 4 (2*n.cap) 0 []::(jn ks (b+1)++[dG 4 (2*n.cap+1) 0 []])
  else[]
def jn:aO→Nat→List aZ
 | .nil,_=>[]
 | .cons t ts,b=>aS t b++jn ts (b+t.sz)
def fP (jp:aZ):aO→Nat→List aZ
 | .nil,_=>[]
 | .cons t ts,b=>if ts.len=0 then aS t b else om b (b+1+t.sz+1) false::(aS t (b+1)++jp::fP jp ts (b+t.sz+2))
end
def rD:aO→Nat→List Nat
 | .nil,_=>[]
 | .cons t ts,b=>if ts.len=0 then[] else(b+1+t.sz)::rD ts (b+t.sz+2)
theorem j5 {c:Nat→List aZ} {z:Nat} (hc:∀b,(c b).length=z):∀k b,(ia c z k b).length=k*z
 |0,b=>by simp[ia]
 |k+1,b=>by rw[ia,List.length_append,hc,j5 hc k,Nat.add_mul];omega
theorem mq {sp:Nat→aZ} {c:Nat→List aZ} {z:Nat} (hc:∀b,(c b).length=z):∀k b,(gZ sp c z k b).length=k*(z+1)
 |0,b=>by simp[gZ]
 |k+1,b=>by rw[gZ,List.length_cons,List.length_append,hc,mq hc k,Nat.add_mul];omega
theorem CI {n:bB} {c:Nat→List aZ} {z b:Nat} (hc:∀b,(c b).length=z) (h:n.op=5):(t_ n c z b).length=bQ n z 1:=by
 unfold t_ bQ;rw[if_neg (show¬(n.op=2∨n.op=7∨n.op=8) by omega),if_neg (show¬n.op=4 by omega),if_neg (show¬n.op=6 by omega),if_pos h]
 split
 ·rw[List.length_append,j5 hc,List.length_cons,List.length_append,hc];simp only[List.length_cons,List.length_nil];omega
 ·rw[List.length_append,j5 hc,mq hc]
theorem aO.zS {ks:aO} (h:ks.len=1):∃t,ks=.cons t .nil:=by
 cases ks with
 |nil=>simp[aO.len] at h
 |cons t ts=>cases ts with
  |nil=>exact⟨t,rfl⟩
  |cons u us=>simp[aO.len] at h
theorem aO.len_nil {ks:aO} (h:ks.len=0):ks=.nil:=by
 cases ks with
 |nil=>rfl
 |cons t ts=>simp[aO.len] at h
mutual
theorem cp:∀(t:Tr) (b:Nat),t.ok→(aS t b).length=t.sz
 | .mk n ks,b,h=>by
  simp only[Tr.ok] at h;obtain⟨h1,h2⟩:=h;have hc:=fun b=>mV ks b h2;have ha:=fun jp b=>nb jp ks b h2;simp only[aS,Tr.sz];obtain⟨_,⟨h3,h4⟩|⟨h3,h4⟩|⟨h3,h4⟩|⟨h3,h4,h5⟩|⟨h3,h4,h5⟩⟩:=h1
  ·have hk:=aO.len_nil h4;subst hk
   by_cases q7:n.op=7
   ·simp[q7,bQ]
   ·by_cases q8:n.op=8
    ·simp[q8,bQ]
    ·have q1:n.op=1:=by omega
     simp[q1,bQ,aO.sz]
  ·simp[h3,bQ]
  ·rcases h3 with h3|h3
   ·simp[h3,bQ,hc]
   ·simp[h3,bQ,ha]
  ·have:=CI (n:=n) (b:=b) hc h3;simp only[h3] at this⊢;simp only[show¬((5:Int)=2) by decide,show¬((5:Int)=7) by decide,show¬((5:Int)=8) by decide,show¬((5:Int)=3) by decide,show¬((5:Int)=4) by decide,if_false,if_true];rw[this,h4]
  ·simp[h3,bQ,hc]
theorem mV:∀(ts:aO) (b:Nat),ts.ok→(jn ts b).length=ts.sz
 | .nil,b,_=>by simp[jn,aO.sz]
 | .cons t ts,b,h=>by
  simp only[aO.ok] at h;simp only[jn,aO.sz,List.length_append];rw[cp t b h.1,mV ts _ h.2]
theorem nb (jp:aZ):∀(ts:aO) (b:Nat),ts.ok→(fP jp ts b).length=ts.sz+2*(ts.len-1)
 | .nil,b,_=>by simp[fP,aO.sz,aO.len]
 | .cons t ts,b,h=>by
  simp only[aO.ok] at h;have h1:=nb jp ts (b+t.sz+2) h.2;simp only[fP,aO.sz,aO.len]
  by_cases q:ts.len=0
  ·rw[if_pos q,cp t b h.1,q];have:=aO.len_nil q;subst this;simp[aO.sz]
  ·rw[if_neg q,List.length_cons,List.length_append,List.length_cons,cp t _ h.1,h1];omega
end
def h_ (f:Nat→aZ) (c:List aZ) (l:List Nat):List aZ:=l.foldl (fun c j=>c.set j (f j)) c
theorem o9 {α:Type} (pre post:List α) (x y:α):(pre++x::post).set pre.length y=pre++y::post:=by
 rw[List.set_append_right _ _ (Nat.le_refl _),Nat.sub_self];rfl
theorem pj {α:Type} (pre post:List α) (x:α):(pre++x::post)[pre.length]?=some x:=by
 rw[List.getElem?_append_right (Nat.le_refl _),Nat.sub_self];rfl
theorem nD {sp:Nat→aZ} {c:Nat→List aZ} {z:Nat} (hc:∀b,(c b).length=z) {i0:aZ}:∀(k b:Nat) (pre post:List aZ),pre.length=b→h_ sp (pre++gZ (fun _=>i0) c z k b++post) (wa z k b)=pre++gZ sp c z k b++post∧∀j∈wa z k b,(pre++gZ (fun _=>i0) c z k b++post)[j]?=some i0
 |0,b,pre,post,_=>⟨rfl,fun j hj=>by cases hj⟩
 |k+1,b,pre,post,h=>by
  have ih:=nD (sp:=sp) hc (i0:=i0) k (b+1+z) (pre++i0::c (b+1)) post (by rw[List.length_append,List.length_cons,hc];omega);have B_:=nD (sp:=sp) hc (i0:=i0) k (b+1+z) (pre++sp b::c (b+1)) post (by rw[List.length_append,List.length_cons,hc];omega);simp only[gZ,wa];have e:pre++i0::(c (b+1)++gZ (fun _=>i0) c z k (b+1+z))++post=pre++i0::(c (b+1)++gZ (fun _=>i0) c z k (b+1+z)++post):=by simp
  have e2:pre++i0::c (b+1)++gZ (fun _=>i0) c z k (b+1+z)++post=pre++i0::(c (b+1)++gZ (fun _=>i0) c z k (b+1+z)++post):=by simp
  refine⟨?_,fun j hj=>?_⟩
  ·unfold h_ at B_⊢;rw[List.foldl_cons,e]
   have hs:(pre++i0::(c (b+1)++gZ (fun _=>i0) c z k (b+1+z)++post)).set b (sp b)=pre++sp b::c (b+1)++gZ (fun _=>i0) c z k (b+1+z)++post:=by
    rw[←h,o9];simp
   rw[hs,B_.1];simp
  ·rw[e]
   rcases List.mem_cons.1 hj with rfl|hj
   ·rw[←h];exact pj _ _ _
   ·rw[←e2];exact ih.2 j hj
theorem oc {jp i0:aZ}:∀(ts:aO) (b:Nat) (pre post:List aZ),ts.ok→pre.length=b→h_ (fun _=>jp) (pre++fP i0 ts b++post) (rD ts b)=pre++fP jp ts b++post∧∀j∈rD ts b,(pre++fP i0 ts b++post)[j]?=some i0
 | .nil,b,pre,post,_,_=>⟨by simp[fP,rD,h_],fun j hj=>by simp[rD] at hj⟩
 | .cons t ts,b,pre,post,eo,h=>by
  simp only[aO.ok] at eo
  by_cases q:ts.len=0
  ·simp only[fP,rD,if_pos q];exact⟨rfl,fun j hj=>by cases hj⟩
  ·simp only[fP,rD,if_neg q];generalize om b (b+1+t.sz+1) false=sp;have hcl:=cp t (b+1) eo.1;have ih:=oc (jp:=jp) (i0:=i0) ts (b+t.sz+2) (pre++sp::(aS t (b+1)++[i0])) post eo.2 (by simp only[List.length_append,List.length_cons,List.length_nil,hcl];omega);have B_:=oc (jp:=jp) (i0:=i0) ts (b+t.sz+2) (pre++sp::(aS t (b+1)++[jp])) post eo.2 (by simp only[List.length_append,List.length_cons,List.length_nil,hcl];omega);generalize fP i0 ts (b+t.sz+2)=A at*;have e:pre++sp::(aS t (b+1)++i0::A)++post=(pre++sp::aS t (b+1))++i0::(A++post):=by simp
   have hl:(pre++sp::aS t (b+1)).length=b+1+t.sz:=by simp only[List.length_append,List.length_cons,hcl];omega
   refine⟨?_,fun j hj=>?_⟩
   ·unfold h_ at B_⊢;rw[List.foldl_cons,e,←hl,o9];have:=B_.1;simp only[List.append_assoc,List.cons_append,List.nil_append] at this⊢;exact this
   ·rw[e]
    rcases List.mem_cons.1 hj with rfl|hj
    ·rw[←hl];exact pj _ _ _
    ·have:=ih.2 j hj;simp only[List.append_assoc,List.cons_append,List.nil_append] at this⊢;exact this
def fY {α:Type} (L:List α) (at_:Nat) (M:List α):Prop:=∃post,L.drop at_=M++post
theorem fY.head {α:Type} {L M:List α} {a:α} {at_:Nat} (h:fY L at_ (a::M)):L[at_]?=some a:=by
 obtain⟨post,h⟩:=h;have:=congrArg (·[0]?) h
 simpa using this
theorem fY.tail {α:Type} {L M:List α} {a:α} {at_:Nat} (h:fY L at_ (a::M)):fY L (at_+1) M:=by
 obtain⟨post,h⟩:=h;refine⟨post,?_⟩;rw[←List.drop_drop,h];rfl
theorem fY.left {α:Type} {L M M':List α} {at_:Nat} (h:fY L at_ (M++M')):fY L at_ M:=by
 obtain⟨post,h⟩:=h;exact⟨M'++post,by rw[h,List.append_assoc]⟩
theorem fY.right {α:Type} {L M M':List α} {at_:Nat} (h:fY L at_ (M++M')):fY L (at_+M.length) M':=by
 obtain⟨post,h⟩:=h;refine⟨post,?_⟩;rw[←List.drop_drop,h,List.append_assoc,List.drop_left]
theorem fY.le {α:Type} {L M:List α} {at_:Nat} (h:fY L at_ M) (hM:M≠[]):at_+M.length≤L.length:=by
 obtain⟨post,h⟩:=h;have:=congrArg List.length h;simp only[List.length_drop,List.length_append] at this
 have:0<M.length:=by cases M with|nil=>exact absurd rfl hM|cons _ _=>simp
 omega
theorem fY.all {α:Type} (L:List α):fY L 0 L:=⟨[],by simp⟩
mutual
def Tr.zs:Tr→List Int
 | .mk n ks=>((min (bQ n ks.sz ks.len) 401:Nat):Int)::ks.zs
def aO.zs:aO→List Int
 | .nil=>[]
 | .cons t ts=>t.zs++ts.zs
end
mutual
def Tr.es:Tr→Nat→List Int
 | .mk n ks,at_=>((at_+1+ks.flat.length:Nat):Int)::ks.es (at_+1)
def aO.es:aO→Nat→List Int
 | .nil,_=>[]
 | .cons t ts,at_=>t.es at_++ts.es (at_+t.flat.length)
end
mutual
theorem Tr.iO:∀t:Tr,t.zs.length=t.flat.length
 | .mk n ks=>by simp[Tr.zs,Tr.flat,aO.iO ks]
theorem aO.iO:∀ts:aO,ts.zs.length=ts.flat.length
 | .nil=>rfl
 | .cons t ts=>by simp[aO.zs,aO.flat,Tr.iO t,aO.iO ts]
end
mutual
theorem Tr.iV:∀(t:Tr) (a:Nat),(t.es a).length=t.flat.length
 | .mk n ks,a=>by simp[Tr.es,Tr.flat,aO.iV ks]
theorem aO.iV:∀(ts:aO) (a:Nat),(ts.es a).length=ts.flat.length
 | .nil,_=>rfl
 | .cons t ts,a=>by simp[aO.es,aO.flat,Tr.iV t,aO.iV ts]
end
theorem Tr.jk (t:Tr):0<t.flat.length:=by cases t;simp[Tr.flat]
theorem aO.nL:∀ts:aO,ts.len≤ts.flat.length
 | .nil=>Nat.le_refl _
 | .cons t ts=>by
  have h1:=aO.nL ts;have h2:=t.jk;simp only[aO.len,aO.flat,List.length_append];omega
end Go.Proofs.YtecjacicdpejaaaGreat
namespace Go.V
variable{N:Nat} {S st:St} {H:List bj}
theorem cF.at_ {α β:Type} {R:α→β→Prop}:∀{l:List α} {m:List β} {i:Nat} {b:β},cF R l m→m[i]?=some b→∃a,l[i]?=some a∧R a b
 |_,_,_,_,.nil,h=>by simp at h
 |_,_,0,_,.cons a t,h=>by simp only[List.getElem?_cons_zero,Option.some.injEq] at h;subst h;exact⟨_,rfl,a⟩
 |_,_,i+1,_,.cons a t,h=>by simp only[List.getElem?_cons_succ] at h⊢;exact t.at_ h
theorem cF.set {α β:Type} {R:α→β→Prop} {a:α} {b:β} (r:R a b):∀{l:List α} {m:List β} (i:Nat),cF R l m→cF R (l.set i a) (m.set i b)
 |_,_,_,.nil=>.nil
 |_,_,0,.cons _ t=>.cons r t
 |_,_,i+1,.cons h t=>.cons h (t.set r i)
theorem cF.setMany {R:D→D→Prop}:∀{xs ys:List D} {c d:List D} (o:Nat),cF R xs ys→cF R c d→cF R (setMany c o xs) (setMany d o ys)
 |_,_,_,_,_,.nil,h=>h
 |_,_,_,_,o,.cons r t,h=>by simp only[Go.V.setMany];exact t.setMany (o+1) (h.set r o)
theorem cF.same {R:D→D→Prop}:∀{l:List D},(∀d∈l,R d d)→cF R l l
 |[],_=>.nil
 |d::l,h=>.cons (h d (List.mem_cons_self ..)) (cF.same fun x hx=>h x (List.mem_cons_of_mem _ hx))
theorem Has.MB {j:Nat} {x:D} {s:Nat} {ks:Nat→Prop} {vs:List (List D)} (hH:Has N S st H) (hj:H[j]?=some (.deep ks x s vs)):∃es,Rows st s x es∧es.length=vs.length:=by
 obtain⟨⟨es,h1,h2⟩,_⟩:=(hH.ok j _ hj).1;exact⟨es,h1.rows,h2.len⟩
theorem Has.PX {j k aq off len s:Nat} {ks:Nat→Prop} {vs:List (List D)} {i o:Nat} {v cs:List D} (h:Has N S st H) (hj:H[j]?=some (.deep ks (.win k aq off len s) s vs)) (hi:vs[i]?=some v) (hl:o+cs.length≤s) (hp:∀d∈cs,cj d=true) (hw:S.flr≤N∨refs cs=0):
  ∃ah,st.wr k aq (off+i*s+o) cs=some ah∧Has N S ah (H.set j (.deep ks (.win k aq off len s) s (vs.set i (setMany v o cs)))):=by
 obtain⟨⟨es,he1,Ag⟩,he3⟩:=(h.ok j _ hj).1;have hK:=(h.ok j _ hj).2;obtain⟨e,TJ,aI⟩:=Ag.at_ hi
 have Gi:Has N S st [.aE (.win k aq off len s) s es]:=by
  refine⟨h.ex,h.hN,h.eQ,fun i e hi=>?_,fun i i' a b hii ha hb k kV gx=>?_⟩
  ·cases i with
   |zero=>simp only[List.getElem?_cons_zero,Option.some.injEq] at hi;subst hi;exact⟨he1,fun k hk=>hK k (.inl hk)⟩
   |succ i=>simp at hi
  ·cases i with
   |zero=>cases i' with
    |zero=>exact hii rfl
    |succ i'=>simp at hb
   |succ i=>simp at ha
 obtain⟨ah,q1,q2⟩:=Gi.tW (j:=0) ax TJ hl hw;refine⟨ah,q1,?_⟩;have hown:=q2.own (j:=0) ax
 have Pu:(∀n,n≠k→ah.bs[n]?=st.bs[n]?)∧st.bs.length=ah.bs.length∧ah.flr=st.flr∧ah.ro=st.ro:=by
  unfold St.wr at q1
  split at q1
  ·split at q1
   ·cases q1;exact⟨fun n hn=>by simp only;rw[List.getElem?_set_ne (fun e=>hn e.symm)],by simp,rfl,rfl⟩
   ·cases q1
  ·cases q1
 obtain⟨c1,c2,c3,c4⟩:=Pu;have hkk:=hK k (.inl (by simp only[D.ref]));have hne:∀n,ks n→n≠k:=fun n hn e=>he3 k (by simp only[D.ref]) (e▸hn);have wS:∀n,ks n→ah.bs[n]?=st.bs[n]?:=fun n hn=>c1 n (hne n hn);refine h.zm hj (fun n hn hnot=>c1 n fun e=>hnot (.inl (by simp only[D.ref];omega))) (Nat.le_of_eq c2) c3 c4 ⟨⟨_,hown,?_⟩,he3⟩ (fun n hn=>.inl hn) fun n hn=>?_
 ·refine cF.set ?_ i (Ag.mono fun a b=>cF.mono fun c d=>fu.move wS);exact(cF.same fun d hd=>.plain d (hp d hd)).setMany o (aI.mono fun c d=>fu.move wS)
 ·rw[←c2];exact(hK n hn).2
variable{P:Pv} {ops:Array Oper} {rest:List Oper} {fr aA:Fr} {Q:Fr→St→Prop} {ty:TypeId} {pp:String} {a:Array Edge} {g:Option (Nat×Bool)} {dst:Nat}
theorem ae.BP {t e:TypeId} {xo:Operand} {x:D} {s j:Nat} {ks:Nat→Prop} {vs:List (List D)} (hH:Has N S st H) (hg:az ops fr ⟨some dst,.call ⟨.builtin .len,#[xo],#[t]⟩,ty,pp,a,g⟩=some true) (hx:fr.ev xo=x) (hj:H[j]?=some (.deep ks x s vs)) (ht:P.cw t=some (.slice e)) (hp:fr.put dst (.int .i64 (vs.length:Nat))=aA)
  (h:ae P ops rest aA st Q):ae P ops (⟨some dst,.call ⟨.builtin .len,#[xo],#[t]⟩,ty,pp,a,g⟩::rest) fr st Q:=by
 obtain⟨es,h1,h2⟩:=hH.MB hj;exact ae.j4 hg hx h1 ht (by rw[h2];exact hp) h
theorem ae.Ek {t e:TypeId} {xo io:Operand} {x:D} {s i j:Nat} {kk:IntKind} {ks:Nat→Prop} {vs:List (List D)} {aA:D→Fr} (hH:Has N S st H) (hg:az ops fr ⟨some dst,.indexAddr t xo io,ty,pp,a,g⟩=some true) (hx:fr.ev xo=x) (hi:fr.ev io=.int kk (i:Nat)) (hj:H[j]?=some (.deep ks x s vs)) (ht:P.cw t=some (.slice e)) (hs:bR P e=some s) (hr:i<vs.length) (hp:∀p,fr.put dst p=aA p)
  (h:∀p,o3 x s i 0 p→ae P ops rest (aA p) st Q):ae P ops (⟨some dst,.indexAddr t xo io,ty,pp,a,g⟩::rest) fr st Q:=by
 obtain⟨⟨es,he1,Ag⟩,he3⟩:=(hH.ok j _ hj).1;have hlen:=Ag.len
 cases he1 with
 |nul=>simp at hlen;omega
 |win k aq off es c hm hl hc he=>
  refine ae.go hg rfl (d:=.ptr k aq (off+i*s)) (st1:=st) ?_ (hp _) (h _ ⟨k,aq,off,_,rfl,rfl⟩);simp only[dK,hx,hi,bJ,ht,hs,Option.bind_some,St.mem_of hm,Option.isSome_some];rw[if_pos ⟨trivial,by omega,by omega,trivial⟩];rfl
theorem ae.rq {t:TypeId} {ao vo:Operand} {x y v:D} {s i o j:Nat} {ks:Nat→Prop} {vs:List (List D)} {r cs:List D} (hH:Has N S st H) (hg:az ops fr ⟨none,.store t ao vo,ty,pp,a,g⟩=some true) (ha:fr.ev ao=y) (hv:fr.ev vo=v) (hR:o3 x s i o y) (hcs:v.cells?=some cs) (hs:bR P t=some cs.length) (hj:H[j]?=some (.deep ks x s vs)) (hr:vs[i]?=some r) (hl:o+cs.length≤s) (hq:∀d∈cs,cj d=true) (hw:S.flr≤N∨refs cs=0)
  (h:∀ah,Has N S ah (H.set j (.deep ks x s (vs.set i (setMany r o cs))))→ae P ops rest fr ah Q):ae P ops (⟨none,.store t ao vo,ty,pp,a,g⟩::rest) fr st Q:=by
 obtain⟨k,aq,off,len,rfl,rfl⟩:=hR;obtain⟨ah,h1,h2⟩:=hH.PX hj hr hl hq hw;refine ae.N hg rfl (d:=.tup []) (st1:=ah) ?_ (h _ h2);simp only[dK,ha,hv,jX,hcs,hs,if_pos trivial,h1];rfl
theorem ag.IW {dy:Dy} {i:Nat} {l:List Oper} {d n loc tmp st} {Q:Out→Fr→St→Prop} (ws:List Nat) (F:(Nat→D)→Prop)
  (h1:ae P l.toArray l ⟨n,loc,[]⟩ st fun aA ah=>∃f tmp,aA=⟨n,aD loc ws f,tmp⟩∧ah=st∧F f) (h2:∀f tmp,F f→Q .next ⟨n,aD loc ws f,tmp⟩ st) (h0:gk i dy=[]:=by rfl):ag P dy (.region i l.toArray d) ⟨n,loc,tmp⟩ st Q:=by
 refine ag.dt ?_ h0;unfold ae at h1⊢;obtain⟨aA,ah,h3,f,Hi,rfl,rfl,h4⟩:=h1;exact⟨_,_,h3,h2 _ _ h4⟩
theorem kf {n:Nat} {L loc:List D} {tS:List (Nat×D)} {ws:List Nat} {F:(Nat→D)→Prop} {st:St} (h:L=aD loc ws (fun k=>nth .bp L k)) (h2:F (fun k=>nth .bp L k)):∃(f:Nat→D) (tmp:List (Nat×D)),(⟨n,L,tS⟩:Fr)=⟨n,aD loc ws f,tmp⟩∧st=st∧F f:=⟨_,tS,by rw[←h],rfl,h2⟩
theorem ae.J7 {t1 t2:TypeId} {xo yo:Operand} {x y z:Int} (hg:az ops fr ⟨some dst,.call ⟨.builtin .min,#[xo,yo],#[t1,t2]⟩,ty,pp,a,g⟩=some true) (hx:fr.ev xo=.int .i64 x) (hy:fr.ev yo=.int .i64 y) (hz:min x y=z) (hp:fr.put dst (.int .i64 z)=aA) (h:ae P ops rest aA st Q):ae P ops (⟨some dst,.call ⟨.builtin .min,#[xo,yo],#[t1,t2]⟩,ty,pp,a,g⟩::rest) fr st Q:=
 ae.HI (t1:=t1) (t2:=t2) hg hx hy (by rw[hz];exact hp) h
theorem Has.qH {N:Nat} {S s0 S2 st2:St} {H:List bj} {x:D} {s:Nat} {es xJ:List (List D)} (h:Has N S s0 (.aE x s es::H)) (hS:S2.bs=s0.bs) (h2:Has N S2 st2 (.aE x s xJ::H)):Has N S ⟨st2.bs.take s0.bs.length,s0.flr,s0.ro⟩ (.aE x s xJ::H):=by
 refine h.mE hS h2 fun i e hi=>?_
 cases i with
 |zero=>simp only[List.getElem?_cons_zero,Option.some.injEq] at hi;subst hi;exact⟨_,rfl,fun k hk=>hk⟩
 |succ i=>exact⟨e,hi,fun k hk=>hk⟩
theorem Has.wG {N:Nat} {S s0 S2 st2:St} {H:List bj} {k:Nat} {b b':iz} {ks:Nat→Prop} {x:D} {s:Nat} {vs JG:List (List D)} (h:Has N S s0 (.box k b::.deep ks x s vs::H)) (hS:S2.bs=s0.bs) (h2:Has N S2 st2 (.box k b'::.deep ks x s JG::H)):Has N S ⟨st2.bs.take s0.bs.length,s0.flr,s0.ro⟩ (.box k b'::.deep ks x s JG::H):=by
 refine h.mE hS h2 fun i e hi=>?_
 match i with
 |0=>simp only[List.getElem?_cons_zero,Option.some.injEq] at hi;subst hi;exact⟨_,rfl,fun k hk=>hk⟩
 |1=>simp only[List.getElem?_cons_succ,List.getElem?_cons_zero,Option.some.injEq] at hi;subst hi;exact⟨_,rfl,fun k hk=>hk⟩
 |i+2=>exact⟨e,hi,fun k hk=>hk⟩
theorem Has.Fk {N:Nat} {S st:St} {H:List bj} {a b c d e:bj} (h:Has N S st (a::b::c::d::e::H)):Has N S st (b::c::d::e::a::H):=by
 refine h.sub (fun i=>if i=4 then 0 else if i<4 then i+1 else i) (fun i j hij=>?_) (fun i x hi=>?_)
 ·(try simp only at hij)
  split at hij<;>split at hij<;>(try split at hij)<;>(try split at hij)<;>omega
 ·match i,hi with
  |0,hi=>exact hi
  |1,hi=>exact hi
  |2,hi=>exact hi
  |3,hi=>exact hi
  |4,hi=>exact hi
  |i+5,hi=>
   have h1:¬(i+5=4):=by omega
   have h2:¬(i+5<4):=by omega
   simp only[if_neg h1,if_neg h2];exact hi
theorem Has.kI {fr:Fr} {a k aq off j u u2:Nat} {t:TypeId} {ar:Bool} {c:List D} {d e e2:D} (hH:Has N S st H) (ha:fr.get a=.ptr k aq off) (hj:H[j]?=some (.box k (.mem aq ar c))) (hd:dI P t (c.drop off)=some d) (he:fr.get u=e) (Ag:fr.get u2=e2):jx P fr st [.cell a t,.tmp u,.tmp u2]=some [d,e,e2]:=by
 simp only[jx,fX,ha,St.mem_of (hH.at hj),Option.bind_some,hd,Option.map_some,he,Ag]
theorem ag.qw {dy:Dy} {c1 c2:Code} {fr:Fr} {st:St} {Q:Out→Fr→St→Prop} (M:Fr→St→Prop) (h1:ag P dy c1 fr st (bk P dy c2 (EO M Q))) (h2:∀aA ah,M aA ah→Q .next aA ah):ag P dy c1 fr st (bk P dy c2 Q):=
 h1.mono fun o aA ah h=>by
  cases o with
  |next=>exact ag.merge M h h2
  |exit i=>exact h
  |ret=>exact h
end Go.V
namespace Go.Proofs.YtecjacicdpejaaaGreat
open Go.V Go
theorem BK {st:St} {L n:Nat} {kn:Bool} {k aq off len s:Nat}:aH st L kn n (.win k aq off len s)=aH st L false n (.win k aq off len s):=by
 cases n<;>rfl
theorem BI (l:List Rg):(l.map au).map (·.map lT)=l.map au:=by
 rw[List.map_map];rfl
theorem xU (l:List Rg):∀e∈l.map au,∀d∈e,lq d=true:=by
 intro e he d hd;obtain⟨x,_,rfl⟩:=List.mem_map.1 he;simp only[au,List.mem_cons,List.not_mem_nil,or_false] at hd
 rcases hd with rfl|rfl<;>rfl
theorem oL {N L j:Nat} {S st:St} {H:List bj} {x:D} {l:List Rg} (hH:Has N S st H) (hj:H[j]?=some (.aE x 2 (l.map au))) (hx:∀k,x.ref=k+1→L≤k) {n:Nat} (hn:3≤n):aH st L false n x=some (aQ l):=by
 rw[hH.pk hj hx (xU l) hn,BI,gj]
theorem gQ {gs:List (Nat×Nat)} {s:ec} {r:Int}:(bW gs s r).o=s.o∧(bW gs s r).g=s.g∧(bW gs s r).e=s.e∧s.i≤(bW gs s r).i∧(s.i≤gs.length→(bW gs s r).i≤gs.length):=by
 unfold bW
 split
 ·rename_i h;have:=qN h;exact⟨rfl,rfl,rfl,by show s.i≤s.i+1;omega,fun _=>by show s.i+1≤_;omega⟩
 ·exact⟨rfl,rfl,rfl,Nat.le_refl _,fun h=>h⟩
end Go.Proofs.YtecjacicdpejaaaGreat
namespace Go.Proofs.YtecjacicdpejaaaGreat
open Go.V Go
def l_ (n:bB):Prop:=n.rd=aQ n.rs∧n.rs.length≤1048576∧n.kids≤1048576
def iS (op mn mx:Int) (lz:Bool) (cap kids:Int) (a:List Rg):bB:=⟨op,aQ a,a,mn,mx,lz,cap,kids⟩
def p_ (l:List bB):D:=.sl ((l.map aG).map (jr 7))
theorem FE (l:List bB):∀e∈l.map aG,e.length=7:=by
 intro e he;obtain⟨x,_,rfl⟩:=List.mem_map.1 he;rfl
theorem kO {l:List bB} (h:∀n∈l,l_ n):∀e∈l.map aG,∀d∈e,cj d=true:=by
 intro e he d hd;obtain⟨n,hn,rfl⟩:=List.mem_map.1 he;have hr:=(h n hn).1;simp only[aG,hr,List.mem_cons,List.not_mem_nil,or_false] at hd
 rcases hd with rfl|rfl|rfl|rfl|rfl|rfl|rfl<;>rfl
theorem mA {l:List bB} (h:∀n∈l,l_ n):gv (p_ l) 7 (l.map aG):=gv.frozen (FE l) (kO h)
theorem J3 {l:List bB} (h:∀n∈l,l_ n) (hl:l.length≤1048576):(⟨p_ l,l⟩:Nl).ok:=by
 refine⟨mA h,fun n hn=>?_,hl⟩;obtain⟨h1,h2,h3⟩:=h n hn;exact⟨by rw[h1];exact gi _,h2,by omega⟩
theorem ur {l:List bB} (h:∀n∈l,l_ n):(l.map aG).map (·.map lT)=l.map aG:=by
 rw[List.map_map];refine List.map_congr_left fun n hn=>?_;have hr:=(h n hn).1;show(aG n).map lT=aG n;unfold aG;rw[hr];rfl
theorem pZ {l:List bB} (h:∀n∈l,l_ n):∀e∈l.map aG,∀d∈e,lq d=true:=by
 intro e he d hd;have:=kO h e he d hd
 cases d<;>first|rfl|exact this
theorem iJ {N L j:Nat} {S st:St} {H:List bj} {x:D} {es:List (List D)} {l:List bB} (hH:Has N S st H) (hj:H[j]?=some (.aE x 7 es)) (he:es.map (·.map lT)=l.map aG) (ht:∀e∈es,∀d∈e,lq d=true) (hx:∀k,x.ref=k+1→L≤k) {n:Nat} (hn:3≤n):aH st L false n x=some (p_ l):=by
 rw[hH.pk hj hx ht hn,he];rfl
theorem iK {N L j:Nat} {S st:St} {H:List bj} {x w:D} {op mn mx cap kids:Int} {lz:Bool} {a:List Rg} (hH:Has N S st H) (hj:H[j]?=some (.aE x 7 [[.int .i64 op,w,.int .i64 mn,.int .i64 mx,.bool lz,.int .i64 cap,.int .i64 kids]])) (hw:w=aQ a∨w=.nul∧a=[]) (hx:∀k,x.ref=k+1→L≤k):aH st L false 16 x=some (p_ [iS op mn mx lz cap kids a]):=by
 refine iJ hH hj ?_ (fun e he d hd=>?_) hx (by decide)
 ·rcases hw with rfl|⟨rfl,rfl⟩<;>rfl
 ·simp only[List.mem_cons,List.not_mem_nil,or_false] at he;subst he;simp only[List.mem_cons,List.not_mem_nil,or_false] at hd
  rcases hw with rfl|⟨rfl,rfl⟩<;>rcases hd with rfl|rfl|rfl|rfl|rfl|rfl|rfl<;>rfl
theorem Dh {op mn mx cap kids:Int} {lz:Bool} {a:List Rg} (h:a.length≤1048576) (hk:kids≤1048576):∀n∈[iS op mn mx lz cap kids a],l_ n:=by
 intro n hn;simp only[List.mem_cons,List.not_mem_nil,or_false] at hn;subst hn;exact⟨rfl,h,hk⟩
end Go.Proofs.YtecjacicdpejaaaGreat
namespace Go.Proofs.YtecjacicdpejaaaGreat
open Go.V Go
def tN (gs:List (Nat×Nat)) (s s':ec):Prop:=s'.o=s.o∧s'.g=s.g∧s.i<s'.i∧s'.i≤gs.length
end Go.Proofs.YtecjacicdpejaaaGreat
namespace Go.Proofs.YtecjacicdpejaaaGreat
open Go.V Go
theorem pN:∀{l:List D},(∀d∈l,cj d=true)→refs l=0
 |[],_=>rfl
 |d::l,h=>by
  have h1:=pN (l:=l) fun d hd=>h d (List.mem_cons_of_mem _ hd);have h2:=h d (List.mem_cons_self ..)
  have h3:d.ref=0:=by cases d<;>first|rfl|(simp[cj] at h2)
  simp only[refs,h1,h3,Nat.max_self]
theorem sR {l:List bB} (h:∀n∈l,l_ n):refs (l.map aG).flatten=0:=
 pN fun d hd=>by
  obtain⟨e,he,xH⟩:=List.mem_flatten.1 hd;exact kO h e he d xH
def dS (l:List bB):List D:=[p_ l]
theorem vY {l:List (List bB)} {i:Nat} {q:List bB} (h:l[i]?=some q):(l.map dS)[i]?=some (dS q):=by rw[List.getElem?_map,h];rfl
def eZ:List (List bB)→Nat
 |[]=>0
 |l::ls=>l.length+eZ ls
theorem dJ:∀a b:List (List bB),eZ (a++b)=eZ a+eZ b
 |[],b=>by simp[eZ]
 |l::a,b=>by rw[List.cons_append,eZ,eZ,dJ a b];omega
end Go.Proofs.YtecjacicdpejaaaGreat
namespace Go.Proofs.YtecjacicdpejaaaGreat
open Go.V Go
theorem nf {N:Nat} {S st:St} {H:List bj} {a b c:bj} (h:Has N S st (a::b::c::H)):Has N S st (b::c::a::H):=by
 have h1:=h.front aX;have h2:=h1.front bV;exact h2.front aX
end Go.Proofs.YtecjacicdpejaaaGreat
namespace Go.Proofs.YtecjacicdpejaaaGreat
open Go.V Go
theorem o8 {gs:List (Nat×Nat)} {s:ec} {r:Int} (h:ek gs s.i r=false):bW gs s r=s:=by
 unfold bW;rw[if_neg (by rw[h];simp)]
theorem mh {gs:List (Nat×Nat)} {s:ec} {r:Int} (h:ek gs s.i r=true):(bW gs s r).i=s.i+1:=by
 unfold bW;rw[if_pos h]
end Go.Proofs.YtecjacicdpejaaaGreat
namespace Go.Proofs.YtecjacicdpejaaaGreat
open Go.V Go
end Go.Proofs.YtecjacicdpejaaaGreat
namespace Go.Proofs.YtecjacicdpejaaaGreat
open Go.V Go
theorem EM:∀(n:Nat) (b:List UInt8),b.length≤n→(oe b).length≤b.length∧∀g∈oe b,g.2≤b.length:=by
 intro n
 induction n with
 |zero=>
  intro b hb;have:b=[]:=List.length_eq_zero_iff.1 (by omega);subst this;rw[rE];exact⟨Nat.le_refl _,fun g hg=>by cases hg⟩
 |succ n ih=>
  intro b hb
  by_cases h:b=[]
  ·subst h;rw[rE];exact⟨Nat.le_refl _,fun g hg=>by cases hg⟩
  ·have hp:=mr b;have hl:=zG h;obtain⟨h1,h2⟩:=ih (b.drop (jg b).2) (by rw[List.length_drop];omega);rw[List.length_drop] at h1 h2;rw[tL h];refine⟨by rw[List.length_cons];omega,fun g hg=>?_⟩
   rcases List.mem_cons.1 hg with rfl|hg
   ·exact hl
   ·have:=h2 g hg;omega
end Go.Proofs.YtecjacicdpejaaaGreat
namespace Go.Proofs.YtecjacicdpejaaaGreat
open Go.V Go
end Go.Proofs.YtecjacicdpejaaaGreat
namespace Go.Proofs.YtecjacicdpejaaaGreat
open Go.V Go
structure lj (X:Nat→Prop) (c:List aZ) (b:Nat) (A:Nat→Prop) (g:Nat→Nat→Prop):Prop where
 hd:g b=A
 tl:g (b+c.length)=A
 xs:∀n,X n→b≤n→n≤b+c.length→g n=A
 st:∀j i,c[j]?=some i→(∀v∈jK (b+j) i,∃n:Nat,v=(n:Int)∧((b≤n∧n≤b+c.length∧∀s,g n s→g (b+j) s∨(i.op=4∧i.x=(s:Int)))∨(X n∧∀s,A s→g (b+j) s∨(i.op=4∧i.x=(s:Int)))))∧
  i.op≠7∧(i.op=4→∃k:Nat,1≤k∧(i.x=((2*k:Nat):Int)∨(i.x=((2*k+1:Nat):Int)∧g (b+j) (2*k))))
theorem lj.nil (X:Nat→Prop) (b:Nat) (A:Nat→Prop):lj X [] b A fun _=>A:=⟨rfl,rfl,fun _ _ _ _=>rfl,fun j i h=>by simp at h⟩
theorem lj.one {X:Nat→Prop} {b:Nat} {A:Nat→Prop} {i:aZ} (h4:i.op≠4) (h7:i.op≠7) (h:∀v∈jK b i,∃n:Nat,v=(n:Int)∧(n=b+1∨X n)):lj X [i] b A fun _=>A:=by
 refine⟨rfl,rfl,fun _ _ _ _=>rfl,fun j i' hj=>?_⟩
 cases j with
 |succ j=>simp at hj
 |zero=>
  simp only[List.getElem?_cons_zero,Option.some.injEq] at hj;subst hj;refine⟨fun v hv=>?_,h7,fun h=>absurd h h4⟩;obtain⟨n,h1,h2⟩:=h v hv;refine⟨n,h1,?_⟩
  rcases h2 with rfl|h2
  ·exact .inl ⟨by omega,by simp,fun s hs=>.inl hs⟩
  ·exact .inr ⟨h2,fun s hs=>.inl hs⟩
theorem lj.pt {X Y:Nat→Prop} {c:List aZ} {b:Nat} {A:Nat→Prop} {g:Nat→Nat→Prop} (h:lj X c b A g) (h1:∀n,X n→Y n) (h2:∀n,Y n→X n∨n≤b∨b+c.length≤n):lj Y c b A g:=by
 refine⟨h.hd,h.tl,fun n hn h3 h4=>?_,fun j i hj=>⟨fun v hv=>?_,(h.st j i hj).2⟩⟩
 ·rcases h2 n hn with h5|h5|h5
  ·exact h.xs n h5 h3 h4
  ·rw[show n=b by omega];exact h.hd
  ·rw[show n=b+c.length by omega];exact h.tl
 ·obtain⟨n,e,h5⟩:=(h.st j i hj).1 v hv;refine⟨n,e,?_⟩
  rcases h5 with h5|⟨h5,h6⟩
  ·exact .inl h5
  ·exact .inr ⟨h1 n h5,h6⟩
theorem lj.close {X Y:Nat→Prop} {c:List aZ} {b:Nat} {A:Nat→Prop} {g:Nat→Nat→Prop} (h:lj X c b A g) (h1:∀n,Y n→X n) (h2:∀n,X n→Y n∨(b≤n∧n≤b+c.length)):lj Y c b A g:=by
 refine⟨h.hd,h.tl,fun n hn=>h.xs n (h1 n hn),fun j i hj=>⟨fun v hv=>?_,(h.st j i hj).2⟩⟩;obtain⟨n,e,h5⟩:=(h.st j i hj).1 v hv;refine⟨n,e,?_⟩
 rcases h5 with h5|⟨h5,h6⟩
 ·exact .inl h5
 ·rcases h2 n h5 with h7|⟨h7,h8⟩
  ·exact .inr ⟨h7,h6⟩
  ·exact .inl ⟨h7,h8,fun s hs=>h6 s (by rw[h.xs n h5 h7 h8] at hs;exact hs)⟩
theorem lj.append {X:Nat→Prop} {c d:List aZ} {b e:Nat} {A:Nat→Prop} {g f:Nat→Nat→Prop} (h:lj X c b A g) (he:e=b+c.length) (k:lj X d e A f):lj X (c++d) b A fun n=>if n<e then g n else f n:=by
 subst he;have hm:∀n,b+c.length=n→g n=f n:=fun n hn=>by subst hn;rw[h.tl,k.hd]
 refine⟨?_,?_,fun n hn h1 h2=>?_,fun j i hj=>?_⟩
 ·show(if b<b+c.length then g b else f b)=A
  split
  ·exact h.hd
  ·rw[show b=b+c.length by omega];exact k.hd
 ·show(if b+(c++d).length<b+c.length then g _ else f _)=A;rw[if_neg (by rw[List.length_append];omega),List.length_append,←Nat.add_assoc];exact k.tl
 ·show(if n<b+c.length then g n else f n)=A;rw[List.length_append] at h2
  split
  ·exact h.xs n hn h1 (by omega)
  ·exact k.xs n hn (by omega) (by omega)
 ·by_cases hjl:j<c.length
  ·rw[List.getElem?_append_left hjl] at hj;obtain⟨h1,h2⟩:=h.st j i hj;have hg:(if b+j<b+c.length then g (b+j) else f (b+j))=g (b+j):=if_pos (by omega);simp only[hg];refine⟨fun v hv=>?_,h2⟩;obtain⟨n,e1,h3⟩:=h1 v hv;refine⟨n,e1,?_⟩
   rcases h3 with⟨h3,h4,h5⟩|h3
   ·refine .inl ⟨h3,by rw[List.length_append];omega,fun s hs=>h5 s ?_⟩
    split at hs
    ·exact hs
    ·rw[hm n (by omega)];exact hs
   ·exact .inr h3
  ·rw[List.getElem?_append_right (by omega)] at hj;obtain⟨h1,h2⟩:=k.st (j-c.length) i hj;have Js:b+c.length+(j-c.length)=b+j:=by omega
   rw[Js] at h1 h2;have hg:(if b+j<b+c.length then g (b+j) else f (b+j))=f (b+j):=if_neg (by omega);simp only[hg];refine⟨fun v hv=>?_,h2⟩;obtain⟨n,e1,h3⟩:=h1 v hv;refine⟨n,e1,?_⟩
   rcases h3 with⟨h3,h4,h5⟩|h3
   ·refine .inl ⟨by omega,by rw[List.length_append];omega,fun s hs=>h5 s ?_⟩;rw[if_neg (by omega)] at hs;exact hs
   ·exact .inr h3
theorem lj.group {c:List aZ} {b:Nat} {A:Nat→Prop} {g:Nat→Nat→Prop} {k:Nat} {q w:aZ} (hk:1≤k) (hq:q.op=4∧q.x=((2*k:Nat):Int)) (hw:w.op=4∧w.x=((2*k+1:Nat):Int)) (h:lj (fun _=>False) c (b+1) (fun s=>A s∨s=2*k) g):
  lj (fun _=>False) (q::(c++[w])) b A fun n=>if n≤b∨b+1+c.length<n then A else g n:=by
 have mK:∀(i:aZ) (m:Nat),i.op=4→jK m i=[((m+1:Nat):Int)]:=fun i m hi=>by unfold jK;rw[if_neg (by omega),if_neg (by omega),if_neg (by omega)]
 refine⟨if_pos (.inl (by omega)),if_pos (.inr (by simp;omega)),fun n hn=>hn.elim,fun j i hj=>?_⟩
 cases j with
 |zero=>
  simp only[List.getElem?_cons_zero,Option.some.injEq] at hj;subst hj;refine⟨fun v hv=>?_,by rw[hq.1];decide,fun _=>⟨k,hk,.inl hq.2⟩⟩;rw[mK q _ hq.1] at hv;simp only[List.mem_cons,List.not_mem_nil,or_false] at hv;subst hv;refine⟨b+0+1,rfl,.inl ⟨by omega,by simp,fun s hs=>?_⟩⟩;rw[if_neg (by omega)] at hs;rw[show b+0+1=b+1 by omega,h.hd] at hs
  rcases hs with hs|rfl
  ·exact .inl (by rw[if_pos (.inl (by omega))];exact hs)
  ·exact .inr ⟨hq.1,hq.2⟩
 |succ j=>
  rw[List.getElem?_cons_succ] at hj
  by_cases hjl:j<c.length
  ·rw[List.getElem?_append_left hjl] at hj;obtain⟨h1,h2⟩:=h.st j i hj;have Js:b+1+j=b+(j+1):=by omega
   rw[Js] at h1 h2;have hg:(if b+(j+1)≤b∨b+1+c.length<b+(j+1) then A else g (b+(j+1)))=g (b+(j+1)):=if_neg (by omega);simp only[hg];refine⟨fun v hv=>?_,h2⟩;obtain⟨n,e1,h3⟩:=h1 v hv;refine⟨n,e1,?_⟩
   rcases h3 with⟨h3,h4,h5⟩|⟨h3,_⟩
   ·refine .inl ⟨by omega,by simp;omega,fun s hs=>h5 s ?_⟩;rw[if_neg (by omega)] at hs;exact hs
   ·exact h3.elim
  ·rw[List.getElem?_append_right (by omega)] at hj
   have Tt:j=c.length:=by
    rcases Nat.eq_or_lt_of_le (show c.length≤j by omega) with h'|h'
    ·exact h'.symm
    ·rw[List.getElem?_eq_none (by simp;omega)] at hj;cases hj
   subst Tt;simp only[Nat.sub_self,List.getElem?_cons_zero,Option.some.injEq] at hj;subst hj;have hg:(if b+(c.length+1)≤b∨b+1+c.length<b+(c.length+1) then A else g (b+(c.length+1)))=g (b+(c.length+1)):=if_neg (by omega);have ht:g (b+(c.length+1))=fun s=>A s∨s=2*k:=by rw[←h.tl];congr 1;omega
   refine⟨fun v hv=>?_,by rw[hw.1];decide,fun _=>⟨k,hk,.inr ⟨hw.2,by rw[hg,ht];exact .inr rfl⟩⟩⟩;rw[mK w _ hw.1] at hv;simp only[List.mem_cons,List.not_mem_nil,or_false] at hv;subst hv;refine⟨b+(c.length+1)+1,rfl,.inl ⟨by omega,by simp;omega,fun s hs=>?_⟩⟩;rw[if_pos (.inr (by omega))] at hs;rw[hg,ht];exact .inl (.inl hs)
theorem lj.jp {b e:Nat} {X:Nat→Prop} (A:Nat→Prop) (he:X e):lj X [lA e] b A fun _=>A:=by
 refine lj.one (by simp[lA,dG]) (by simp[lA,dG]) fun v hv=>?_;simp only[jK,lA,dG,if_true,List.mem_cons,List.not_mem_nil,or_false] at hv;rw[if_neg (by decide)] at hv;simp only[List.mem_cons,List.not_mem_nil,or_false] at hv;exact⟨e,hv,.inr he⟩
theorem lj.sp {b o:Nat} {lz:Bool} {X:Nat→Prop} (A:Nat→Prop) (he:X o):lj X [om b o lz] b A fun _=>A:=by
 have h2:(om b o lz).op=2:=by unfold om;split<;>rfl
 refine lj.one (by omega) (by omega) fun v hv=>?_;unfold jK at hv;rw[if_pos h2] at hv;unfold om at hv
 split at hv
 ·simp only[dG,List.mem_cons,List.not_mem_nil,or_false] at hv
  rcases hv with rfl|rfl
  ·exact⟨o,rfl,.inr he⟩
  ·exact⟨b+1,rfl,.inl rfl⟩
 ·simp only[dG,List.mem_cons,List.not_mem_nil,or_false] at hv
  rcases hv with rfl|rfl
  ·exact⟨b+1,rfl,.inl rfl⟩
  ·exact⟨o,rfl,.inr he⟩
def eL (X:Nat→Prop) (c:List aZ) (b:Nat) (A:Nat→Prop):Prop:=∃g,lj X c b A g
theorem eL.append {X:Nat→Prop} {c d:List aZ} {b e:Nat} {A:Nat→Prop} (h:eL X c b A) (he:e=b+c.length) (k:eL X d e A):eL X (c++d) b A:=by
 obtain⟨g,h⟩:=h;obtain⟨f,k⟩:=k;exact⟨_,h.append he k⟩
theorem vQ {A:Nat→Prop} {c:Nat→List aZ} {z:Nat} (hl:∀b,(c b).length=z) (hc:∀b,eL (fun _=>False) (c b) b A):∀k b,eL (fun _=>False) (ia c z k b) b A
 |0,b=>⟨_,.nil _ b A⟩
 |k+1,b=>(hc b).append (by rw[hl]) (vQ hl hc k (b+z))
theorem wb {A:Nat→Prop} {c:Nat→List aZ} {z e:Nat} {lz:Bool} (hl:∀b,(c b).length=z) (hc:∀b,eL (fun _=>False) (c b) b A):∀k b,b+k*(z+1)≤e→eL (fun n=>n=e) (gZ (fun s=>om s e lz) c z k b) b A
 |0,b,_=>⟨_,.nil _ b A⟩
 |k+1,b,he=>by
  rw[Nat.add_mul] at he;obtain⟨g,hg⟩:=hc (b+1)
  have h1:eL (fun n=>n=e) (c (b+1)) (b+1) A:=⟨g,hg.pt (fun n h=>h.elim) fun n h=>.inr (.inr (by rw[hl];omega))⟩
  have h2:=h1.append (e:=b+1+z) (by rw[hl]) (wb (lz:=lz) hl hc k (b+1+z) (by omega));exact eL.append (c:=[_]) ⟨_,lj.sp A rfl⟩ (e:=b+1) rfl h2
theorem eL.pt {X Y:Nat→Prop} {c:List aZ} {b:Nat} {A:Nat→Prop} (h:eL X c b A) (h1:∀n,X n→Y n) (h2:∀n,Y n→X n∨n≤b∨b+c.length≤n):eL Y c b A:=by
 obtain⟨g,h⟩:=h;exact⟨g,h.pt h1 h2⟩
theorem eL.close {X Y:Nat→Prop} {c:List aZ} {b:Nat} {A:Nat→Prop} (h:eL X c b A) (h1:∀n,Y n→X n) (h2:∀n,X n→Y n∨(b≤n∧n≤b+c.length)):eL Y c b A:=by
 obtain⟨g,h⟩:=h;exact⟨g,h.close h1 h2⟩
theorem CJ {A:Nat→Prop} {n:bB} {c:Nat→List aZ} {z:Nat} (hl:∀b,(c b).length=z) (hc:∀b,eL (fun _=>False) (c b) b A) (b:Nat):eL (fun _=>False) (t_ n c z b) b A:=by
 have hr:=vQ hl hc n.mn.toNat b;have Bw:(ia c z n.mn.toNat b).length=n.mn.toNat*z:=j5 hl _ _;unfold t_
 split
 ·refine hr.append (e:=b+n.mn.toNat*z) (by rw[Bw]) ?_;generalize b+n.mn.toNat*z=s;have h1:eL (fun n=>n=s∨n=s+z+2) (c (s+1)) (s+1) A:=(hc (s+1)).pt (fun n h=>h.elim) fun n h=>by rw[hl];omega
  have h2:eL (fun n=>n=s∨n=s+z+2) [lA s] (s+1+z) A:=⟨_,lj.jp A (.inl rfl)⟩
  have h3:=eL.append (c:=[om s (s+z+2) n.lz]) (b:=s) ⟨_,lj.sp A (.inr rfl)⟩ (e:=s+1) rfl (h1.append (by rw[hl]) h2);refine eL.close h3 (fun n h=>h.elim) fun n h=>.inr ?_;simp only[List.length_append,List.length_cons,List.length_nil,hl];omega
 ·refine hr.append (e:=b+n.mn.toNat*z) (by rw[Bw]) ?_;generalize b+n.mn.toNat*z=s;have h1:=wb (lz:=n.lz) (e:=s+(n.mx.toNat-n.mn.toNat)*(z+1)) hl hc (n.mx.toNat-n.mn.toNat) s (Nat.le_refl _);refine eL.close h1 (fun n h=>h.elim) fun n h=>.inr ?_;rw[mq hl];omega
mutual
theorem n5:∀(t:Tr) (b:Nat) (A:Nat→Prop),t.ok→eL (fun _=>False) (aS t b) b A
 | .mk n ks,b,A,h=>by
  have hlen:=cp (.mk n ks) b h;simp only[Tr.ok] at h;obtain⟨h1,h2⟩:=h;have hcl:=fun b=>mV ks b h2
  have mK:∀(op x y:Int) (rs:List Rg) (m:Nat),op≠2→op≠3→op≠7→∀v∈jK m (dG op x y rs),∃n:Nat,v=(n:Int)∧(n=m+1∨False):=by
   intro op x y rs m a1 a2 a3 v hv;unfold jK at hv;rw[if_neg (show¬(dG op x y rs).op=2 from a1),if_neg (show¬(dG op x y rs).op=3 from a2),if_neg (show¬(dG op x y rs).op=7 from a3)] at hv;simp only[List.mem_cons,List.not_mem_nil,or_false] at hv;exact⟨m+1,hv,.inl rfl⟩
  simp only[aS]
  split
  ·exact⟨_,lj.one (by simp[dG]) (by simp[dG]) (mK 1 0 0 _ b (by decide) (by decide) (by decide))⟩
  ·split
   ·exact⟨_,lj.one (by simp[dG]) (by simp[dG]) (mK 5 0 0 _ b (by decide) (by decide) (by decide))⟩
   ·split
    ·exact⟨_,lj.one (by simp[dG]) (by simp[dG]) (mK 6 0 0 _ b (by decide) (by decide) (by decide))⟩
    ·split
     ·exact mW ks b A h2
     ·split
      ·rename_i h4;have hz:bQ n ks.sz ks.len=ks.sz+2*(ks.len-1):=by unfold bQ;rw[if_neg (by omega),if_pos h4]
       have ha:=nb (lA (b+bQ n ks.sz ks.len)) ks b h2;refine eL.close (X:=fun m=>m=b+bQ n ks.sz ks.len) ?_ (fun n h=>h.elim) fun m hm=>.inr ?_
       ·exact xx _ ks b A h2 (by rw[ha,hz];omega)
       ·rw[ha];rw[hz] at hm;omega
      ·split
       ·exact CJ hcl (fun b=>mW ks b A h2) b
       ·split
        ·rename_i h6;obtain⟨g,hg⟩:=mW ks (b+1) (fun s=>A s∨s=2*n.cap.toNat) h2
         have kh:1≤n.cap:=by
          rcases h1.2 with h|h|h|h|h<;>omega
         exact⟨_,lj.group (k:=n.cap.toNat) (by omega) ⟨rfl,by show 2*n.cap=_;omega⟩ ⟨rfl,by show 2*n.cap+1=_;omega⟩ hg⟩
        ·exact⟨_,.nil _ b A⟩
theorem mW:∀(ts:aO) (b:Nat) (A:Nat→Prop),ts.ok→eL (fun _=>False) (jn ts b) b A
 | .nil,b,A,_=>by simp only[jn];exact⟨_,.nil _ b A⟩
 | .cons t ts,b,A,h=>by
  simp only[aO.ok] at h;simp only[jn];exact(n5 t b A h.1).append (by rw[cp t b h.1]) (mW ts (b+t.sz) A h.2)
theorem xx (e:Nat):∀(ts:aO) (b:Nat) (A:Nat→Prop),ts.ok→b+(fP (lA e) ts b).length≤e→eL (fun n=>n=e) (fP (lA e) ts b) b A
 | .nil,b,A,_,_=>by simp only[fP];exact⟨_,.nil _ b A⟩
 | .cons t ts,b,A,h,he=>by
  simp only[aO.ok] at h;simp only[fP] at he⊢
  split
  ·rename_i h0;rw[if_pos h0] at he;exact(n5 t b A h.1).pt (fun n h=>h.elim) fun n hn=>.inr (.inr (by omega))
  ·rename_i h0;rw[if_neg h0] at he;simp only[List.length_cons,List.length_append,cp t (b+1) h.1] at he;have h1:eL (fun n=>n=e∨n=b+1+t.sz+1) (aS t (b+1)) (b+1) A:=(n5 t (b+1) A h.1).pt (fun n h=>h.elim) fun n hn=>.inr (.inr (by rw[cp t (b+1) h.1];omega));have h2:eL (fun n=>n=e∨n=b+1+t.sz+1) (fP (lA e) ts (b+t.sz+2)) (b+t.sz+2) A:=(xx e ts (b+t.sz+2) A h.2 (by omega)).pt (fun n h=>.inl h) fun n hn=>by omega
   have h3:eL (fun n=>n=e∨n=b+1+t.sz+1) (lA e::fP (lA e) ts (b+t.sz+2)) (b+1+t.sz) A:=eL.append (c:=[lA e]) ⟨_,lj.jp A (.inl rfl)⟩ (e:=b+t.sz+2) (by simp only[List.length_cons,List.length_nil];omega) h2;have h4:=eL.append (c:=[om b (b+1+t.sz+1) false]) (b:=b) ⟨_,lj.sp A (.inr rfl)⟩ (e:=b+1) rfl (h1.append (by rw[cp t (b+1) h.1]) h3);refine eL.close h4 (fun n h=>.inl h) fun n hn=>?_
   rcases hn with hn|hn
   ·exact .inl hn
   ·refine .inr ?_;simp only[List.length_append,List.length_cons,List.length_nil,cp t (b+1) h.1];omega
end
end Go.Proofs.YtecjacicdpejaaaGreat
namespace Go.Proofs.YtecjacicdpejaaaGreat
open Go.V Go
def ug (n:bB):Bool:=((n.op==2)||((n.rs.length:Nat):Int)==0) &&((n.op==5)||((n.mn==0) &&(n.mx==0) &&!n.lz)) &&((n.op==6)||(n.cap==0))
noncomputable def gf (n:bB) (g:Int):Int×Bool:=
 if ug n=false then(0,false)
 else if n.op=1∨n.op=7∨n.op=8 then(0,n.kids==0)
 else if n.op=2 then(0,(n.kids==0) &&nB n.rs)
 else if n.op=3∨n.op=4 then(n.kids,decide (n.kids≥2))
 else if n.op=5 then(1,(n.kids==1) &&decide (n.mn≥0) &&decide (n.mn≤30) &&((n.mx==-1)||(decide (n.mx≥n.mn) &&decide (n.mx≤30))))
 else if n.op=6 then(1,(n.kids==1) &&(n.cap==g+1) &&decide (n.cap≤4))
 else(0,false)
def ly (h:Nat→Nat→Option (Nat×Nat)):Nat→Nat→Nat→Option (Nat×Nat)
 |0,at_,g=>some (at_,g)
 |k+1,at_,g=>match h at_ g with
  |some r=>ly h k r.1 r.2
  |none=>none
noncomputable def jf (l:List bB):Nat→Nat→Nat→Option (Nat×Nat)
 |0,_,_=>none
 |f+1,at_,g=>match l[at_]? with
  |none=>none
  |some n=>if(gf n (g:Nat)).2=true then ly (jf l f) (gf n (g:Nat)).1.toNat (at_+1) (if n.op=6 then g+1 else g) else none
theorem vE {n:bB} {g:Nat} (h:(gf n (g:Nat)).2=true):sS n (gf n (g:Nat)).1.toNat∧0≤(gf n (g:Nat)).1∧(n.op=6→n.cap=g+1∧n.cap≤4):=by
 unfold gf at h⊢;unfold sS
 by_cases h0:ug n=false
 ·rw[if_pos h0] at h;cases h
 rw[if_neg h0] at h⊢
 by_cases h1:n.op=1∨n.op=7∨n.op=8
 ·rw[if_pos h1] at h⊢;simp only[beq_iff_eq] at h;exact⟨⟨h,.inl ⟨h1,rfl⟩⟩,Int.le_refl _,fun h6=>by omega⟩
 rw[if_neg h1] at h⊢
 by_cases h2:n.op=2
 ·rw[if_pos h2] at h⊢;simp only[Bool.and_eq_true,beq_iff_eq] at h;exact⟨⟨h.1,.inr (.inl ⟨h2,rfl⟩)⟩,Int.le_refl _,fun h6=>by omega⟩
 rw[if_neg h2] at h⊢
 by_cases h3:n.op=3∨n.op=4
 ·rw[if_pos h3] at h⊢;simp only[decide_eq_true_eq] at h;exact⟨⟨by simp only;omega,.inr (.inr (.inl ⟨h3,by simp only;omega⟩))⟩,by simp only;omega,fun h6=>by omega⟩
 rw[if_neg h3] at h⊢
 by_cases h5:n.op=5
 ·rw[if_pos h5] at h⊢;simp only[Bool.and_eq_true,Bool.or_eq_true,beq_iff_eq,decide_eq_true_eq] at h;exact⟨⟨by simp only;omega,.inr (.inr (.inr (.inl ⟨h5,by simp only;rfl,by omega,by omega,by omega⟩)))⟩,by simp only;omega,fun h6=>by omega⟩
 rw[if_neg h5] at h⊢
 by_cases h6:n.op=6
 ·rw[if_pos h6] at h⊢;simp only[Bool.and_eq_true,beq_iff_eq,decide_eq_true_eq] at h;exact⟨⟨by simp only;omega,.inr (.inr (.inr (.inr ⟨h6,by simp only;rfl,by omega,by omega⟩)))⟩,by simp only;omega,fun _=>⟨h.1.2,h.2⟩⟩
 rw[if_neg h6] at h;cases h
theorem fY.cons {α:Type} {L M:List α} {a:α} {at_:Nat} (h:L[at_]?=some a) (h2:fY L (at_+1) M):fY L at_ (a::M):=by
 obtain⟨post,h2⟩:=h2;refine⟨post,?_⟩;have h3:L[at_]'(cA h)=a:=Option.some.inj ((List.getElem?_eq_getElem _).symm.trans h);rw[List.drop_eq_getElem_cons (cA h),h2,h3];rfl
theorem fY.append {α:Type} {L M M':List α} {at_:Nat} (h:fY L at_ M) (h2:fY L (at_+M.length) M'):fY L at_ (M++M'):=by
 obtain⟨post,h⟩:=h;obtain⟨JY,h2⟩:=h2;refine⟨JY,?_⟩;rw[←List.drop_drop,h,List.drop_left] at h2;rw[h,h2,List.append_assoc]
theorem fY.none {α:Type} (L:List α) (at_:Nat):fY L at_ []:=⟨_,rfl⟩
theorem s_ {l:List bB} {h:Nat→Nat→Option (Nat×Nat)} (ih:∀at_ g r,h at_ g=some r→∃t:Tr,t.ok∧fY l at_ t.flat∧r.1=at_+t.flat.length):∀k at_ g r,ly h k at_ g=some r→∃ts:aO,ts.len=k∧ts.ok∧fY l at_ ts.flat∧r.1=at_+ts.flat.length
 |0,at_,g,r,e=>by
  simp only[ly,Option.some.injEq] at e;subst e;exact⟨.nil,rfl,trivial,fY.none _ _,by simp[aO.flat]⟩
 |k+1,at_,g,r,e=>by
  unfold ly at e
  cases hq:h at_ g with
  |none=>rw[hq] at e;cases e
  |some q=>
   rw[hq] at e;obtain⟨t,t1,t2,t3⟩:=ih _ _ _ hq;obtain⟨ts,u1,u2,u3,u4⟩:=s_ ih k _ _ _ e;rw[t3] at u3 u4;exact⟨.cons t ts,by simp[aO.len,u1],by simp only[aO.ok];exact⟨t1,u2⟩,by simp only[aO.flat];exact t2.append u3,by rw[u4];simp only[aO.flat,List.length_append];omega⟩
theorem we {l:List bB}:∀f at_ g r,jf l f at_ g=some r→∃t:Tr,t.ok∧fY l at_ t.flat∧r.1=at_+t.flat.length
 |0,_,_,_,e=>by simp[jf] at e
 |f+1,at_,g,r,e=>by
  unfold jf at e
  cases hn:l[at_]? with
  |none=>rw[hn] at e;cases e
  |some n=>
   rw[hn] at e;simp only at e
   split at e
   ·rename_i hs;obtain⟨ts,u1,u2,u3,u4⟩:=s_ (we f) _ _ _ _ e;have:=(vE hs).1;rw[←u1] at this;exact⟨.mk n ts,by simp only[Tr.ok];exact⟨this,u2⟩,by simp only[Tr.flat];exact fY.cons hn u3,by rw[u4];simp only[Tr.flat,List.length_cons];omega⟩
   ·cases e
noncomputable def gR (l:List bB):Bool:=(decide (1≤l.length) &&decide (l.length≤480)) &&(match jf l 241 0 0 with|some r=>decide (r.1=l.length)|none=>false)
theorem pL {l:List bB} (h:gR l=true):∃t:Tr,t.ok∧t.flat=l:=by
 unfold gR at h;simp only[Bool.and_eq_true] at h;obtain⟨_,h⟩:=h
 split at h
 ·rename_i r hr;obtain⟨t,h1,⟨post,h2⟩,h3⟩:=we _ _ _ _ hr;rw[decide_eq_true_eq] at h;refine⟨t,h1,?_⟩;rw[List.drop_zero] at h2;have h4:=congrArg List.length h2;rw[List.length_append] at h4;have h5:post=[]:=List.length_eq_zero_iff.1 (by omega);rw[h2,h5,List.append_nil]
 ·cases h
noncomputable def dq (l:List bB):Tr:=@dite _ (∃t:Tr,t.ok∧t.flat=l) (Classical.propDecidable _) (fun h=>Classical.choose h) (fun _=>.mk ⟨0,.nul,[],0,0,false,0,0⟩ .nil)
theorem tR {l:List bB} (h:gR l=true):(dq l).ok∧(dq l).flat=l:=by
 unfold dq;rw[dif_pos (pL h)];exact Classical.choose_spec (pL h)
end Go.Proofs.YtecjacicdpejaaaGreat
namespace Go.Proofs.YtecjacicdpejaaaGreat
open Go.V Go
theorem GF {n:bB} {k s:Nat}:min (bQ n (min s 401) k) 401=min (bQ n s k) 401:=by
 by_cases hs:s≤401
 ·rw[Nat.min_eq_left hs]
 ·have hx:min s 401=401:=by omega
  rw[hx];unfold bQ
  split
  ·rfl
  ·split
   ·omega
   ·split
    ·omega
    ·split
     ·split
      ·omega
      ·by_cases h0:n.mn.toNat=0
       ·rw[h0]
        by_cases hd:n.mx.toNat-0=0
        ·rw[hd];simp
        ·have h1:=Nat.le_mul_of_pos_left (401+1) (show 0<n.mx.toNat-0 by omega);have h2:=Nat.le_mul_of_pos_left (s+1) (show 0<n.mx.toNat-0 by omega);omega
       ·have h1:=Nat.le_mul_of_pos_left 401 (show 0<n.mn.toNat by omega);have h2:=Nat.le_mul_of_pos_left s (show 0<n.mn.toNat by omega);omega
     ·omega
def sK (t:Tr) (b r:Nat):List aZ:=dG 4 0 0 []::(aS t (b+1)++[dG 4 1 0 [],dG 7 (r:Nat) 0 []])
theorem AY {t:Tr} {b r:Nat} (h:t.ok):(sK t b r).length=t.sz+3:=by
 unfold sK;rw[List.length_cons,List.length_append,cp t _ h];rfl
structure kC where
 code:List aZ
 bD:List Int
 e:Int
 w:Int
noncomputable def rz:List (List bB)→Nat→List aZ→List Int→kC
 |[],_,c,s=>⟨c,s,0,0⟩
 |l::ls,r,c,s=>if gR l=false then⟨[],[],1,(r:Nat)⟩ else if 400<c.length+min (dq l).sz 401+3 then⟨[],[],12,(r:Nat)⟩ else rz ls (r+1) (c++sK (dq l) c.length r) (s++[((c.length:Nat):Int)])
noncomputable def cJ (rules:List (List bB)):kC:=if 8<rules.length then⟨[],[],13,8⟩ else rz rules 0 [] []
def Ft (code:List aZ) (bD:List Int):Pg:=⟨.sl ((code.map c_).map (jr 4)),code,Kh bD,bD⟩
def nc (i:aZ):Prop:=i.rd=.sl ((i.rs.map au).map (jr 2))∧i.rs.length≤1048576
theorem sV (op x y:Int):nc (dG op x y []):=⟨rfl,by simp[dG]⟩
theorem J6 (op x y:Int) {rs:List Rg} (h:rs.length≤1048576):nc (dG op x y rs):=⟨rfl,h⟩
theorem CA (s o:Nat) (lz:Bool):nc (om s o lz):=by unfold om;split<;>exact sV _ _ _
theorem G0 (e:Nat):nc (lA e):=sV _ _ _
theorem yc {c:Nat→List aZ} {z:Nat} (hc:∀b,∀i∈c b,nc i):∀k b,∀i∈ia c z k b,nc i
 |0,b,i,hi=>by cases hi
 |k+1,b,i,hi=>by
  simp only[ia] at hi
  rcases List.mem_append.1 hi with hi|hi
  ·exact hc b i hi
  ·exact yc hc k _ i hi
theorem C5 {sp:Nat→aZ} {c:Nat→List aZ} {z:Nat} (hs:∀s,nc (sp s)) (hc:∀b,∀i∈c b,nc i):∀k b,∀i∈gZ sp c z k b,nc i
 |0,b,i,hi=>by cases hi
 |k+1,b,i,hi=>by
  simp only[gZ] at hi
  rcases List.mem_cons.1 hi with rfl|hi
  ·exact hs _
  ·rcases List.mem_append.1 hi with hi|hi
   ·exact hc _ i hi
   ·exact C5 hs hc k _ i hi
mutual
theorem va:∀(t:Tr) (b:Nat),(∀n∈t.flat,n.rs.length≤1048576)→∀i∈aS t b,nc i
 | .mk n ks,b,h,i,hi=>by
  simp only[Tr.flat] at h;have hn:=h n (List.mem_cons_self ..);have hk:∀n∈ks.flat,n.rs.length≤1048576:=fun m hm=>h m (List.mem_cons_of_mem _ hm);have hc:=fun b=>Et ks b hk;have ha:=fun jp (hj:nc jp) b=>EJ jp hj ks b hk;simp only[aS] at hi
  split at hi
  ·simp only[List.mem_cons,List.not_mem_nil,or_false] at hi;subst hi;exact J6 _ _ _ hn
  split at hi
  ·simp only[List.mem_cons,List.not_mem_nil,or_false] at hi;subst hi;exact sV _ _ _
  split at hi
  ·simp only[List.mem_cons,List.not_mem_nil,or_false] at hi;subst hi;exact sV _ _ _
  split at hi
  ·exact hc b i hi
  split at hi
  ·exact ha _ (G0 _) b i hi
  split at hi
  ·unfold t_ at hi
   split at hi
   ·rcases List.mem_append.1 hi with hi|hi
    ·exact yc hc _ _ i hi
    ·rcases List.mem_cons.1 hi with rfl|hi
     ·exact CA _ _ _
     ·rcases List.mem_append.1 hi with hi|hi
      ·exact hc _ i hi
      ·simp only[List.mem_cons,List.not_mem_nil,or_false] at hi;subst hi;exact G0 _
   ·rcases List.mem_append.1 hi with hi|hi
    ·exact yc hc _ _ i hi
    ·exact C5 (fun s=>CA _ _ _) hc _ _ i hi
  split at hi
  ·rcases List.mem_cons.1 hi with rfl|hi
   ·exact sV _ _ _
   ·rcases List.mem_append.1 hi with hi|hi
    ·exact hc _ i hi
    ·simp only[List.mem_cons,List.not_mem_nil,or_false] at hi;subst hi;exact sV _ _ _
  ·cases hi
theorem Et:∀(ts:aO) (b:Nat),(∀n∈ts.flat,n.rs.length≤1048576)→∀i∈jn ts b,nc i
 | .nil,b,_,i,hi=>by simp[jn] at hi
 | .cons t ts,b,h,i,hi=>by
  simp only[aO.flat] at h;simp only[jn] at hi
  rcases List.mem_append.1 hi with hi|hi
  ·exact va t b (fun n hn=>h n (List.mem_append_left _ hn)) i hi
  ·exact Et ts _ (fun n hn=>h n (List.mem_append_right _ hn)) i hi
theorem EJ (jp:aZ) (hj:nc jp):∀(ts:aO) (b:Nat),(∀n∈ts.flat,n.rs.length≤1048576)→∀i∈fP jp ts b,nc i
 | .nil,b,_,i,hi=>by simp[fP] at hi
 | .cons t ts,b,h,i,hi=>by
  simp only[aO.flat] at h;have h1:∀n∈t.flat,n.rs.length≤1048576:=fun n hn=>h n (List.mem_append_left _ hn);have h2:∀n∈ts.flat,n.rs.length≤1048576:=fun n hn=>h n (List.mem_append_right _ hn);simp only[fP] at hi
  split at hi
  ·exact va t b h1 i hi
  ·rcases List.mem_cons.1 hi with rfl|hi
   ·exact CA _ _ _
   ·rcases List.mem_append.1 hi with hi|hi
    ·exact va t _ h1 i hi
    ·rcases List.mem_cons.1 hi with rfl|hi
     ·exact hj
     ·exact EJ jp hj ts _ h2 i hi
end
end Go.Proofs.YtecjacicdpejaaaGreat
