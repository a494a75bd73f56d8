/-
 The parser of patterns: digits; what a backslash says; a part of a class's item.
-/
import Derived.Test.YtbdilgkfnacahaaXGUe
import Derived.Test.YtbdilgkfnacahaaXDgp
import Derived.Test.YtbdilgkfnacahaaXGJf
import Derived.Test.YtbdilgkfnacahaaXGM3
set_option maxRecDepth 100000
set_option maxHeartbeats 4000000
set_option linter.unusedSimpArgs false
set_option linter.unusedVariables false
set_option linter.unusedSectionVars false
namespace Go.Proofs.Ytbdilgkfnacahaa
open Go.V Go
theorem mM:∀gs:List (Nat×Nat),iH ((gs.map aU).map (ke 2))=some (gs.map fun g=>((g.1:Nat):Int))
 |[]=>rfl
 |g::gs=>by
  have ih:=mM gs;simp only[List.map_cons];show(match iH ((gs.map aU).map (ke 2)) with|some rs=>some (((g.1:Nat):Int)::rs)|none=>none)=_;rw[ih]
theorem ub:∀(rs:List Int) (acc:List UInt8),(digS rs acc).2≤rs.length∧(digS rs acc).1.length≤acc.length+(digS rs acc).2
 |[],acc=>by simp[digS]
 |r::rs,acc=>by
  unfold digS
  split
  ·have h:=ub rs (if 48<r∨acc≠[] then acc++[UInt8.ofNat r.toNat] else acc);simp only[List.length_cons]
   have hl:(if 48<r∨acc≠[] then acc++[UInt8.ofNat r.toNat] else acc).length≤acc.length+1:=by
    split<;>simp
   omega
  ·simp
structure jV (gs:List (Nat×Nat)) (bd:List Int):Prop where
 gl:gs.length≤120
 pl:bd.length=gs.length
theorem pW {N k:Nat} {S s0:St} {H:List cz} {gs:List (Nat×Nat)} {bD:D} {s:eG} (nF:gs.length≤120) (hi:s.i≤gs.length) (hne:gs≠[]) (hH:Has N S s0 (.box k (.mem 0 false (aW gs bD s))::H)):
  ∃d ai,Ev pv 106 [.ptr k 0 0] s0 d ai∧∃(t:List UInt8) (v:Bool) (m:Nat),d=.tup [.str t,.bool v]∧t.length≤120∧s.i+m≤gs.length∧Has N S ai (.box k (.mem 0 false (aW gs bD {s with i:=s.i+m}))::H):=by
 have hb:=hH.at aB;have hw:=jR (cs:=[.int .i64 0]) hH (hH.ge aB).1 (.inr rfl);have hl:=ub ((gs.map fun g=>((g.1:Nat):Int)).drop s.i) [];obtain⟨h1,h2⟩:=hl;simp only[List.length_drop,List.length_map,List.length_nil] at h1 h2;refine⟨_,_,Ev.iL rfl ?_,(digS ((gs.map fun g=>((g.1:Nat):Int)).drop s.i) []).1,decide (0<(digS ((gs.map fun g=>((g.1:Nat):Int)).drop s.i) []).2),(digS ((gs.map fun g=>((g.1:Nat):Int)).drop s.i) []).2,rfl,by omega,by omega,hH.yO (aC:=0) aB⟩
 have hd:decide ((gs.map fun g=>((g.1:Nat):Int))≠[]∧(0:Int)≤(s.i:Nat)∧((s.i:Nat):Int).toNat≤(gs.map fun g=>((g.1:Nat):Int)).length∧(gs.map fun g=>((g.1:Nat):Int)).length<1099511627776)=true:=by
  rw[decide_eq_true];refine⟨by simpa using hne,by omega,by simp;omega,by simp;omega⟩
 show vM [.ptr k 0 0] s0=_;simp only[vM,St.mem_of hb];show(match iH ((gs.map aU).map (ke 2)) with|some rs=>EJ s0 k 0 0 rs (s.i:Nat)|none=>none)=_;rw[mM];simp only[EJ,hd];have hwr:=lV (cs:=[.int .i64 ((s.i+(digS ((gs.map fun g=>((g.1:Nat):Int)).drop s.i) []).2:Nat))]) (off:=2) hb (by show 2+1≤7;omega) hw;simp only[Int.toNat_natCast,Nat.zero_add];rw[hwr]
 rfl
def AL (gs:List (Nat×Nat)) (s s':eG) (d1:D) (b:Bool):Prop:=
 s'.o=s.o∧s'.g=s.g∧s.i≤s'.i∧s'.i≤gs.length∧(d1=.nul∨∃a,d1=bt a∧a.length≤8)∧(s'.e≠0∨s'.e=0∧s.i<s'.i∧∃a,d1=bt a∧a.length≤8∧a≠[])
theorem db {bd:List Int} {s:eG} {i:Nat} {e:Int} (he:s.e=0) (h:e≠0):(gW bd s i e).e≠0∧(gW bd s i e).i=s.i∧(gW bd s i e).o=s.o∧(gW bd s i e).g=s.g:=by
 unfold gW;rw[if_pos he];exact⟨h,rfl,rfl,rfl⟩
theorem wC {N k:Nat} {S s0:St} {H:List cz} {gs:List (Nat×Nat)} {bD:D} {bd:List Int} {s:eG} (dz:jV gs bd) (he:s.e=0) (hi:s.i<gs.length) (hH:Has N S s0 (.box k (.mem 0 false (aW gs bD s))::.aT bD 1 (bd.map aq)::H)):
  ∃d ai,Ev pv 103 [.ptr k 0 0] s0 d ai∧∃(d1:D) (b:Bool) (s':eG),d=.tup [d1,.bool b]∧AL gs s s' d1 b∧Has N S ai (.box k (.mem 0 false (aW gs bD s'))::.aT bD 1 (bd.map aq)::H):=by
 have nF:=dz.gl;have ji:=dz.pl;refine Ev.mP rfl ME rfl rfl rfl ?_;dsimp only[u3,u4,List.length,Nat.reduceSub,Nat.reduceAdd,w1,w2];have cy:=hH;have hH:=hH.cH;have cq:(aj .rw s0).bs=s0.bs:=rfl;generalize aj .rw s0=S2 at*;have zS:Arg N S2 2 (bZ gs) (gs.map aU):=Arg.pure (fun st=>cT st gs);refine qq<|qj fun K hK=>qm ?_;refine qm ?_;refine qe hK<|qq<|qj fun K hK=>qm ?_;refine qg ?_;refine qp (o:=2) ?_;refine ql hH aB ?_;refine qm ?_;refine qe hK<|qq<|qj fun K hK=>qm ?_;refine qg ?_;refine qp (o:=2) ?_;refine ql hH aB ?_;refine qA ?_;refine qg ?_;refine qp (o:=2) ?_;refine qT hH aB fun st hH=>?_;dsimp only[u2,u1,u3,u4,setMany,u5,u6,D.cells,Nat.reduceAdd,aW,aU,aq,aw] at hH;refine qe hK<|qq<|qq<|qj fun K hK=>qm ?_;refine qg ?_;refine qp (o:=2) ?_;refine ql hH aB ?_;refine qm ?_;refine qg ?_;refine qp (o:=0) ?_;refine ql hH aB ?_;refine qn ?_;simp only[List.length_map];refine qg ?_;refine qe hK ?_;refine af.cond (by rfl) (fun h0=>?_) (fun h0=>?_)<;>try simp only[decide_eq_true_eq,decide_eq_false_iff_not] at h0
 ·refine qq<|qj fun K hK=>qm ?_;refine qm ?_;obtain⟨_,st,aS,rfl,hH⟩:=cU (s:={s with i:=s.i+1}) s.i 4 (by omega) hH;refine qv aS ?_;refine qe hK<|qq<|qj fun K hK=>qm ?_;refine qm ?_;refine qe hK ?_;obtain⟨h1,h2,h3,h4⟩:=db (bd:=bd) (s:={s with i:=s.i+1}) (i:=s.i) (e:=4) he (by decide);refine af.ret ⟨rx,_,_,_,rfl,av (rfl),?_⟩;exact⟨_,_,_,rfl,⟨h3,h4,by rw[h2];simp,by rw[h2];exact hi,.inl rfl,.inl h1⟩,cy.aA cq hH⟩
 ·obtain⟨g,hg⟩:∃g,gs[s.i+1]?=some g:=⟨gs[s.i+1]'(by omega),List.getElem?_eq_getElem _⟩
  have gI:(gs.map aU)[s.i+1]?=some (aU g):=by rw[List.getElem?_map,hg];rfl
  have hlt:=cn hg;refine af.skip<|qq<|qq<|qj fun K hK=>qm ?_;refine qm ?_;refine qg ?_;refine qp (o:=2) ?_;refine ql hH aB ?_;obtain⟨_,st,aS,rfl,hH⟩:=vX (s:={s with i:=s.i+1}) (s.i+1) hlt hH;refine qv aS ?_;refine qe hK ?_;dsimp only[aW] at hH;refine qc (fun hb=>?_) (fun hb=>?_)<;>try simp only[cs] at hb
  ·refine qq<|qj fun K hK=>qm ?_;refine qm ?_;refine qg ?_;refine qp (o:=2) ?_;refine ql hH aB ?_;obtain⟨_,st,aS,rfl,hH⟩:=cU (s:={s with i:=s.i+1}) (s.i+1) 4 (by omega) hH;refine qv aS ?_;refine qe hK<|qq<|qj fun K hK=>qm ?_;refine qm ?_;refine qe hK ?_;obtain⟨h1,h2,h3,h4⟩:=db (bd:=bd) (s:={s with i:=s.i+1}) (i:=s.i+1) (e:=4) he (by decide);refine af.ret ⟨rx,_,_,_,rfl,av (rfl),?_⟩;exact⟨_,_,_,rfl,⟨h3,h4,by rw[h2];simp,by rw[h2];exact hi,.inl rfl,.inl h1⟩,cy.aA cq hH⟩
  ·refine af.skip<|qq<|qj fun K hK=>qm ?_;refine qg ?_;refine qp (o:=0) ?_;refine ql hH aB ?_;refine qm ?_;refine qg ?_;refine qp (o:=2) ?_;refine ql hH aB ?_;refine qr fun QV Ly=>?_;refine qf (fo:=0) fun QU Lx=>?_;refine qR ?_;refine qm ?_;refine qe hK<|qq<|qj fun K hK=>qm ?_;refine qg ?_;refine qp (o:=2) ?_;refine ql hH aB ?_;refine qA ?_;refine qg ?_;refine qp (o:=2) ?_;refine qT hH aB fun st hH=>?_;dsimp only[u2,u1,u3,u4,setMany,u5,u6,D.cells,Nat.reduceAdd,aW,aU,aq,aw] at hH;refine qe hK<|qq<|qq<|qj fun K hK=>qm ?_;refine qe hK ?_
   have dD:∀(a:List Rg) (b:Bool),a.length≤8→a≠[]→AL gs s {s with i:=s.i+1+1} (bt a) b:=fun a b h1 h2=>⟨rfl,rfl,by show s.i≤s.i+1+1;omega,by show s.i+1+1≤_;omega,.inr ⟨a,rfl,h1⟩,.inr ⟨he,by show s.i<s.i+1+1;omega,a,rfl,h1,h2⟩⟩
   have iS:∀(r:Int),0≤r→r<55296→(jE [(r,r)]).length≤8∧jE [(r,r)]≠[]:=by
    intro r h1 h2;obtain⟨_,h3,h4⟩:=k_ (s0:=s0) (x:=bt [(r,r)]) (l:=[(r,r)]) (dZ _ _) (by simp);exact⟨by simp at h3;omega,tD h1 h2 h4⟩
   refine af.block<|qq<|qj fun K hK=>qg ?_;refine qm ?_;refine qe hK ?_;refine af.cond (by rfl) (fun q1=>?_) (fun q1=>?_)<;>try simp only[beq_iff_eq,beq_eq_false_iff_ne,ne_eq] at q1
   ·refine qq<|qj fun K hK=>qv (ic 10) ?_;refine qm ?_;refine qm ?_;refine qe hK<|af.ret ⟨rx,_,_,_,rfl,av (rfl),?_⟩;exact⟨_,_,_,rfl,dD _ _ (iS 10 (by decide) (by decide)).1 (iS 10 (by decide) (by decide)).2,cy.aA cq hH⟩
   ·refine qq<|qj fun K hK=>qg ?_;refine qm ?_;refine qe hK ?_;refine af.cond (by rfl) (fun q2=>?_) (fun q2=>?_)<;>try simp only[beq_iff_eq,beq_eq_false_iff_ne,ne_eq] at q2
    ·refine qq<|qj fun K hK=>qv (ic 9) ?_;refine qm ?_;refine qm ?_;refine qe hK<|af.ret ⟨rx,_,_,_,rfl,av (rfl),?_⟩;exact⟨_,_,_,rfl,dD _ _ (iS 9 (by decide) (by decide)).1 (iS 9 (by decide) (by decide)).2,cy.aA cq hH⟩
    ·refine qq<|qj fun K hK=>qg ?_;refine qm ?_;refine qe hK ?_;refine af.cond (by rfl) (fun q3=>?_) (fun q3=>?_)<;>try simp only[beq_iff_eq,beq_eq_false_iff_ne,ne_eq] at q3
     ·refine qq<|qj fun K hK=>qv (ic 13) ?_;refine qm ?_;refine qm ?_;refine qe hK<|af.ret ⟨rx,_,_,_,rfl,av (rfl),?_⟩;exact⟨_,_,_,rfl,dD _ _ (iS 13 (by decide) (by decide)).1 (iS 13 (by decide) (by decide)).2,cy.aA cq hH⟩
     ·refine qq<|qj fun K hK=>qg ?_;refine qm ?_;refine qe hK ?_;refine af.cond (by rfl) (fun q4=>?_) (fun q4=>?_)<;>try simp only[beq_iff_eq,beq_eq_false_iff_ne,ne_eq] at q4
      ·refine qq<|qj fun K hK=>?_;refine ae.gB (qs:=[(0,_),(1,_)]) rfl rfl rfl rfl ⟨rfl,(ev rfl),(by rfl),rfl,(ev rfl),(by rfl),trivial⟩ (by intro q hq;simp only[List.mem_cons,List.not_mem_nil,or_false] at hq;rcases hq with rfl|rfl<;>exact⟨rfl,by exact Nat.le_of_ble_eq_true rfl⟩) (by show List.foldl _ [_,_] _=_;dsimp only[List.foldl_cons,List.foldl_nil,u2,u1]<;>rfl) (ag rfl _) ?_;refine qh (s:=2) (vs:=[_]) hH fun Ws st UK hH=>?_;obtain⟨aS,hl,Kg⟩:=k_ (l:=[(48,57)]) (hH.rows aB) (by simp);refine qv aS ?_;refine qm ?_;refine qm ?_;refine qe hK<|af.ret ⟨rx,_,_,_,rfl,av (rfl),?_⟩;exact⟨_,_,_,rfl,dD _ _ (by simp at hl;omega) (rp (r:=48) (by decide) (by decide) ⟨_,List.mem_cons_self ..,by decide,by decide⟩ Kg),cy.aA cq (hH.drop 1)⟩
      ·refine qq<|qj fun K hK=>qg ?_;refine qm ?_;refine qe hK ?_;refine af.cond (by rfl) (fun q5=>?_) (fun q5=>?_)<;>try simp only[beq_iff_eq,beq_eq_false_iff_ne,ne_eq] at q5
       ·refine qq<|qj fun K hK=>?_;refine ae.gB (qs:=[(0,_),(1,_)]) rfl rfl rfl rfl ⟨rfl,(ev rfl),(by rfl),rfl,(ev rfl),(by rfl),trivial⟩ (by intro q hq;simp only[List.mem_cons,List.not_mem_nil,or_false] at hq;rcases hq with rfl|rfl<;>exact⟨rfl,by exact Nat.le_of_ble_eq_true rfl⟩) (by show List.foldl _ [_,_] _=_;dsimp only[List.foldl_cons,List.foldl_nil,u2,u1]<;>rfl) (ag rfl _) ?_;refine ae.gB (qs:=[(0,_),(1,_)]) rfl rfl rfl rfl ⟨rfl,(ev rfl),(by rfl),rfl,(ev rfl),(by rfl),trivial⟩ (by intro q hq;simp only[List.mem_cons,List.not_mem_nil,or_false] at hq;rcases hq with rfl|rfl<;>exact⟨rfl,by exact Nat.le_of_ble_eq_true rfl⟩) (by show List.foldl _ [_,_] _=_;dsimp only[List.foldl_cons,List.foldl_nil,u2,u1]<;>rfl) (ag rfl _) ?_;refine ae.gB (qs:=[(0,_),(1,_)]) rfl rfl rfl rfl ⟨rfl,(ev rfl),(by rfl),rfl,(ev rfl),(by rfl),trivial⟩ (by intro q hq;simp only[List.mem_cons,List.not_mem_nil,or_false] at hq;rcases hq with rfl|rfl<;>exact⟨rfl,by exact Nat.le_of_ble_eq_true rfl⟩) (by show List.foldl _ [_,_] _=_;dsimp only[List.foldl_cons,List.foldl_nil,u2,u1]<;>rfl) (ag rfl _) ?_;refine qh (s:=2) (vs:=[_,_,_]) hH fun MU st L0 hH=>?_;obtain⟨aS,hl,Kg⟩:=k_ (l:=[(9,10),(13,13),(32,32)]) (hH.rows aB) (by simp);refine qv aS ?_;refine qm ?_;refine qm ?_;refine qe hK<|af.ret ⟨rx,_,_,_,rfl,av (rfl),?_⟩;exact⟨_,_,_,rfl,dD _ _ (by simp at hl;omega) (rp (r:=9) (by decide) (by decide) ⟨_,List.mem_cons_self ..,by decide,by decide⟩ Kg),cy.aA cq (hH.drop 1)⟩
       ·refine qq<|qj fun K hK=>qg ?_;refine qm ?_;refine qe hK ?_;refine af.cond (by rfl) (fun q6=>?_) (fun q6=>?_)<;>try simp only[beq_iff_eq,beq_eq_false_iff_ne,ne_eq] at q6
        ·refine qq<|qj fun K hK=>?_;refine ae.gB (qs:=[(0,_),(1,_)]) rfl rfl rfl rfl ⟨rfl,(ev rfl),(by rfl),rfl,(ev rfl),(by rfl),trivial⟩ (by intro q hq;simp only[List.mem_cons,List.not_mem_nil,or_false] at hq;rcases hq with rfl|rfl<;>exact⟨rfl,by exact Nat.le_of_ble_eq_true rfl⟩) (by show List.foldl _ [_,_] _=_;dsimp only[List.foldl_cons,List.foldl_nil,u2,u1]<;>rfl) (ag rfl _) ?_;refine ae.gB (qs:=[(0,_),(1,_)]) rfl rfl rfl rfl ⟨rfl,(ev rfl),(by rfl),rfl,(ev rfl),(by rfl),trivial⟩ (by intro q hq;simp only[List.mem_cons,List.not_mem_nil,or_false] at hq;rcases hq with rfl|rfl<;>exact⟨rfl,by exact Nat.le_of_ble_eq_true rfl⟩) (by show List.foldl _ [_,_] _=_;dsimp only[List.foldl_cons,List.foldl_nil,u2,u1]<;>rfl) (ag rfl _) ?_;refine ae.gB (qs:=[(0,_),(1,_)]) rfl rfl rfl rfl ⟨rfl,(ev rfl),(by rfl),rfl,(ev rfl),(by rfl),trivial⟩ (by intro q hq;simp only[List.mem_cons,List.not_mem_nil,or_false] at hq;rcases hq with rfl|rfl<;>exact⟨rfl,by exact Nat.le_of_ble_eq_true rfl⟩) (by show List.foldl _ [_,_] _=_;dsimp only[List.foldl_cons,List.foldl_nil,u2,u1]<;>rfl) (ag rfl _) ?_;refine ae.gB (qs:=[(0,_),(1,_)]) rfl rfl rfl rfl ⟨rfl,(ev rfl),(by rfl),rfl,(ev rfl),(by rfl),trivial⟩ (by intro q hq;simp only[List.mem_cons,List.not_mem_nil,or_false] at hq;rcases hq with rfl|rfl<;>exact⟨rfl,by exact Nat.le_of_ble_eq_true rfl⟩) (by show List.foldl _ [_,_] _=_;dsimp only[List.foldl_cons,List.foldl_nil,u2,u1]<;>rfl) (ag rfl _) ?_;refine qh (s:=2) (vs:=[_,_,_,_]) hH fun Q6 st LZ hH=>?_;obtain⟨aS,hl,Kg⟩:=k_ (l:=[(48,57),(65,90),(95,95),(97,122)]) (hH.rows aB) (by simp);refine qv aS ?_;refine qm ?_;refine qm ?_;refine qe hK<|af.ret ⟨rx,_,_,_,rfl,av (rfl),?_⟩;exact⟨_,_,_,rfl,dD _ _ (by simp at hl;omega) (rp (r:=48) (by decide) (by decide) ⟨_,List.mem_cons_self ..,by decide,by decide⟩ Kg),cy.aA cq (hH.drop 1)⟩
        ·refine af.skip<|qq<|qq<|qj fun K hK=>qm ?_;refine qv (D4 _) ?_;refine qg ?_;refine qe hK ?_;refine af.cond (by rfl) (fun q7=>?_) (fun q7=>?_)<;>try simp only[decide_eq_true_eq,decide_eq_false_iff_not,Bool.not_eq_true',Bool.not_eq_false'] at q7
         ·refine qq<|qj fun K hK=>qm ?_;refine qm ?_;obtain⟨_,st,aS,rfl,hH⟩:=cU (s:={s with i:=s.i+1+1}) s.i 4 (by omega) hH;refine qv aS ?_;refine qe hK<|qq<|qj fun K hK=>qm ?_;refine qm ?_;refine qe hK ?_;obtain⟨h1,h2,h3,h4⟩:=db (bd:=bd) (s:={s with i:=s.i+1+1}) (i:=s.i) (e:=4) he (by decide);refine af.ret ⟨rx,_,_,_,rfl,av (rfl),?_⟩;exact⟨_,_,_,rfl,⟨h3,h4,by rw[h2];show s.i≤s.i+1+1;omega,by rw[h2];show s.i+1+1≤_;omega,.inl rfl,.inl h1⟩,cy.aA cq hH⟩
         ·refine af.skip<|qq<|qj fun K hK=>qm ?_;refine qv (ic _) ?_;refine qm ?_;refine qm ?_;refine qe hK ?_;have hm:=iS ((g.1:Nat):Int) (by omega) (by omega);refine af.ret ⟨rx,_,_,_,rfl,av (rfl),?_⟩;exact⟨_,_,_,rfl,dD _ _ hm.1 hm.2,cy.aA cq hH⟩
structure ec where
 op:Int
 rd:D
 rs:List Rg
 mn:Int
 mx:Int
 lz:Bool
 cap:Int
 kids:Int
def bj (n:ec):List D:=[.int .i64 n.op,n.rd,.int .i64 n.mn,.int .i64 n.mx,.bool n.lz,.int .i64 n.cap,.int .i64 n.kids]
def ec.ok (n:ec):Prop:=gq n.rd 2 (n.rs.map aw)∧n.rs.length≤1048576∧n.kids≤9223372036854775807
structure Nl where
 d:D
 l:List ec
structure Nl.ok (x:Nl):Prop where
 c:gq x.d 7 (x.l.map bj)
 i:∀n∈x.l,n.ok
 nl:x.l.length≤1048576
theorem j7 {l:List ec} {i:Nat} {q:ec} (h:l[i]?=some q):(l.map bj)[i]?=some (bj q):=by rw[List.getElem?_map,h];rfl
mutual
inductive Tr where
 |mk (n:ec) (ks:bU)
inductive bU where
 |nil
 |cons (t:Tr) (ts:bU)
end
def bU.len:bU→Nat
 | .nil=>0
 | .cons _ ts=>ts.len+1
mutual
def Tr.flat:Tr→List ec
 | .mk n ks=>n::ks.flat
def bU.flat:bU→List ec
 | .nil=>[]
 | .cons t ts=>t.flat++ts.flat
end
def tv (n:ec) (nk:Nat):Prop:=
 n.kids=(nk:Int)∧(((n.op=1∨n.op=7∨n.op=8)∧nk=0)∨(n.op=2∧nk=0)∨((n.op=3∨n.op=4)∧2≤nk)∨
  (n.op=5∧nk=1∧0≤n.mn∧n.mn≤30∧(n.mx=-1∨(n.mn≤n.mx∧n.mx≤30)))∨(n.op=6∧nk=1∧1≤n.cap∧n.cap≤4))
mutual
def Tr.ok:Tr→Prop
 | .mk n ks=>tv n ks.len∧ks.ok
def bU.ok:bU→Prop
 | .nil=>True
 | .cons t ts=>t.ok∧ts.ok
end
def bW (n:ec) (s k:Nat):Nat:=
 if n.op=2∨n.op=7∨n.op=8 then 1
 else if n.op=4 then s+2*(k-1)
 else if n.op=6 then s+2
 else if n.op=5 then(if n.mx=-1 then n.mn.toNat*s+s+2 else n.mn.toNat*s+(n.mx.toNat-n.mn.toNat)*(s+1))
 else s
mutual
def Tr.sz:Tr→Nat
 | .mk n ks=>bW n ks.sz ks.len
def bU.sz:bU→Nat
 | .nil=>0
 | .cons t ts=>t.sz+ts.sz
end
def ej (op x y:Int) (rs:List Rg):bC:=⟨op,x,y,.sl ((rs.map aw).map (ke 2)),rs⟩
def qL (s o:Nat) (lz:Bool):bC:=if lz=true then ej 2 (o:Nat) ((s+1:Nat):Int) [] else ej 2 ((s+1:Nat):Int) (o:Nat) []
def pK (e:Nat):bC:=ej 3 (e:Nat) 0 []
def g_ (c:Nat→List bC) (z:Nat):Nat→Nat→List bC
 |0,_=>[]
 |k+1,b=>c b++g_ c z k (b+z)
def gA (sp:Nat→bC) (c:Nat→List bC) (z:Nat):Nat→Nat→List bC
 |0,_=>[]
 |k+1,b=>sp b::(c (b+1)++gA sp c z k (b+1+z))
def tm (z:Nat):Nat→Nat→List Nat
 |0,_=>[]
 |k+1,b=>b::tm z k (b+1+z)
def uP (n:ec) (c:Nat→List bC) (z b:Nat):List bC:=
 if n.mx=-1 then g_ c z n.mn.toNat b++(qL (b+n.mn.toNat*z) (b+n.mn.toNat*z+z+2) n.lz::(c (b+n.mn.toNat*z+1)++[pK (b+n.mn.toNat*z)]))
 else g_ c z n.mn.toNat b++gA (fun s=>qL s (b+n.mn.toNat*z+(n.mx.toNat-n.mn.toNat)*(z+1)) n.lz) c z (n.mx.toNat-n.mn.toNat) (b+n.mn.toNat*z)
mutual
def a8:Tr→Nat→List bC
 | .mk n ks,b=>
  if n.op=2 then[ej 1 0 0 n.rs]
  else if n.op=7 then[ej 5 0 0 []]
  else if n.op=8 then[ej 6 0 0 []]
  else if n.op=3 then jQ ks b
  else if n.op=4 then gF (pK (b+bW n ks.sz ks.len)) ks b
  else if n.op=5 then uP n (jQ ks) ks.sz b
  else if n.op=6 then ej 4 (2*n.cap) 0 []::(jQ ks (b+1)++[ej 4 (2*n.cap+1) 0 []])
  else[]
def jQ:bU→Nat→List bC
 | .nil,_=>[]
 | .cons t ts,b=>a8 t b++jQ ts (b+t.sz)
def gF (jp:bC):bU→Nat→List bC
 | .nil,_=>[]
 | .cons t ts,b=>if ts.len=0 then a8 t b else qL b (b+1+t.sz+1) false::(a8 t (b+1)++jp::gF jp ts (b+t.sz+2))
end
def oT:bU→Nat→List Nat
 | .nil,_=>[]
 | .cons t ts,b=>if ts.len=0 then[] else(b+1+t.sz)::oT ts (b+t.sz+2)
theorem kZ {c:Nat→List bC} {z:Nat} (hc:∀b,(c b).length=z):∀k b,(g_ c z k b).length=k*z
 |0,b=>by simp[g_]
 |k+1,b=>by rw[g_,List.length_append,hc,kZ hc k,Nat.add_mul];omega
theorem nZ {sp:Nat→bC} {c:Nat→List bC} {z:Nat} (hc:∀b,(c b).length=z):∀k b,(gA sp c z k b).length=k*(z+1)
 |0,b=>by simp[gA]
 |k+1,b=>by rw[gA,List.length_cons,List.length_append,hc,nZ hc k,Nat.add_mul];omega
theorem yS {n:ec} {c:Nat→List bC} {z b:Nat} (hc:∀b,(c b).length=z) (h:n.op=5):(uP n c z b).length=bW n z 1:=by
 unfold uP bW;rw[if_neg (show¬(n.op=2∨n.op=7∨n.op=8) by omega),if_neg (show¬n.op=4 by omega),if_neg (show¬n.op=6 by omega),if_pos h]
 split
 ·rw[List.length_append,kZ hc,List.length_cons,List.length_append,hc];simp only[List.length_cons,List.length_nil];omega
 ·rw[List.length_append,kZ hc,nZ hc]
theorem bU.wR {ks:bU} (h:ks.len=1):∃t,ks=.cons t .nil:=by
 cases ks with
 |nil=>simp[bU.len] at h
 |cons t ts=>cases ts with
  |nil=>exact⟨t,rfl⟩
  |cons u us=>simp[bU.len] at h
theorem bU.len_nil {ks:bU} (h:ks.len=0):ks=.nil:=by
 cases ks with
 |nil=>rfl
 |cons t ts=>simp[bU.len] at h
mutual
theorem dF:∀(t:Tr) (b:Nat),t.ok→(a8 t b).length=t.sz
 | .mk n ks,b,h=>by
  simp only[Tr.ok] at h;obtain⟨h1,h2⟩:=h;have hc:=fun b=>oP ks b h2;have ha:=fun jp b=>oS jp ks b h2;simp only[a8,Tr.sz];obtain⟨_,⟨h3,h4⟩|⟨h3,h4⟩|⟨h3,h4⟩|⟨h3,h4,h5⟩|⟨h3,h4,h5⟩⟩:=h1
  ·have hk:=bU.len_nil h4;subst hk
   by_cases q7:n.op=7
   ·simp[q7,bW]
   ·by_cases q8:n.op=8
    ·simp[q8,bW]
    ·have q1:n.op=1:=by omega
     simp[q1,bW,bU.sz]
  ·simp[h3,bW]
  ·rcases h3 with h3|h3
   ·simp[h3,bW,hc]
   ·simp[h3,bW,ha]
  ·have:=yS (n:=n) (b:=b) hc h3;simp only[h3] at this⊢;simp only[show¬((5:Int)=2) by decide,show¬((5:Int)=7) by decide,show¬((5:Int)=8) by decide,show¬((5:Int)=3) by decide,show¬((5:Int)=4) by decide,if_false,if_true];rw[this,h4]
  ·simp[h3,bW,hc]
theorem oP:∀(ts:bU) (b:Nat),ts.ok→(jQ ts b).length=ts.sz
 | .nil,b,_=>by simp[jQ,bU.sz]
 | .cons t ts,b,h=>by
  simp only[bU.ok] at h;simp only[jQ,bU.sz,List.length_append];rw[dF t b h.1,oP ts _ h.2]
theorem oS (jp:bC):∀(ts:bU) (b:Nat),ts.ok→(gF jp ts b).length=ts.sz+2*(ts.len-1)
 | .nil,b,_=>by simp[gF,bU.sz,bU.len]
 | .cons t ts,b,h=>by
  simp only[bU.ok] at h;have h1:=oS jp ts (b+t.sz+2) h.2;simp only[gF,bU.sz,bU.len]
  by_cases q:ts.len=0
  ·rw[if_pos q,dF t b h.1,q];have:=bU.len_nil q;subst this;simp[bU.sz]
  ·rw[if_neg q,List.length_cons,List.length_append,List.length_cons,dF t _ h.1,h1];omega
end
def gw (f:Nat→bC) (c:List bC) (l:List Nat):List bC:=l.foldl (fun c j=>c.set j (f j)) c
theorem nz {α:Type} (pre post:List α) (x y:α):(pre++x::post).set pre.length y=pre++y::post:=by
 rw[List.set_append_right _ _ (Nat.le_refl _),Nat.sub_self];rfl
theorem nG {α:Type} (pre post:List α) (x:α):(pre++x::post)[pre.length]?=some x:=by
 rw[List.getElem?_append_right (Nat.le_refl _),Nat.sub_self];rfl
theorem l9 {sp:Nat→bC} {c:Nat→List bC} {z:Nat} (hc:∀b,(c b).length=z) {i0:bC}:∀(k b:Nat) (pre post:List bC),pre.length=b→gw sp (pre++gA (fun _=>i0) c z k b++post) (tm z k b)=pre++gA sp c z k b++post∧∀j∈tm z k b,(pre++gA (fun _=>i0) c z k b++post)[j]?=some i0
 |0,b,pre,post,_=>⟨rfl,fun j hj=>by cases hj⟩
 |k+1,b,pre,post,h=>by
  have ih:=l9 (sp:=sp) hc (i0:=i0) k (b+1+z) (pre++i0::c (b+1)) post (by rw[List.length_append,List.length_cons,hc];omega);have yw:=l9 (sp:=sp) hc (i0:=i0) k (b+1+z) (pre++sp b::c (b+1)) post (by rw[List.length_append,List.length_cons,hc];omega);simp only[gA,tm];have e:pre++i0::(c (b+1)++gA (fun _=>i0) c z k (b+1+z))++post=pre++i0::(c (b+1)++gA (fun _=>i0) c z k (b+1+z)++post):=by simp
  have e2:pre++i0::c (b+1)++gA (fun _=>i0) c z k (b+1+z)++post=pre++i0::(c (b+1)++gA (fun _=>i0) c z k (b+1+z)++post):=by simp
  refine⟨?_,fun j hj=>?_⟩
  ·unfold gw at yw⊢;rw[List.foldl_cons,e]
   have hs:(pre++i0::(c (b+1)++gA (fun _=>i0) c z k (b+1+z)++post)).set b (sp b)=pre++sp b::c (b+1)++gA (fun _=>i0) c z k (b+1+z)++post:=by
    rw[←h,nz];simp
   rw[hs,yw.1];simp
  ·rw[e]
   rcases List.mem_cons.1 hj with rfl|hj
   ·rw[←h];exact nG _ _ _
   ·rw[←e2];exact ih.2 j hj
theorem mE {jp i0:bC}:∀(ts:bU) (b:Nat) (pre post:List bC),ts.ok→pre.length=b→gw (fun _=>jp) (pre++gF i0 ts b++post) (oT ts b)=pre++gF jp ts b++post∧∀j∈oT ts b,(pre++gF i0 ts b++post)[j]?=some i0
 | .nil,b,pre,post,_,_=>⟨by simp[gF,oT,gw],fun j hj=>by simp[oT] at hj⟩
 | .cons t ts,b,pre,post,dz,h=>by
  simp only[bU.ok] at dz
  by_cases q:ts.len=0
  ·simp only[gF,oT,if_pos q];exact⟨rfl,fun j hj=>by cases hj⟩
  ·simp only[gF,oT,if_neg q];generalize qL b (b+1+t.sz+1) false=sp;have hcl:=dF t (b+1) dz.1;have ih:=mE (jp:=jp) (i0:=i0) ts (b+t.sz+2) (pre++sp::(a8 t (b+1)++[i0])) post dz.2 (by simp only[List.length_append,List.length_cons,List.length_nil,hcl];omega);have yw:=mE (jp:=jp) (i0:=i0) ts (b+t.sz+2) (pre++sp::(a8 t (b+1)++[jp])) post dz.2 (by simp only[List.length_append,List.length_cons,List.length_nil,hcl];omega);generalize gF i0 ts (b+t.sz+2)=A at*;have e:pre++sp::(a8 t (b+1)++i0::A)++post=(pre++sp::a8 t (b+1))++i0::(A++post):=by simp
   have hl:(pre++sp::a8 t (b+1)).length=b+1+t.sz:=by simp only[List.length_append,List.length_cons,hcl];omega
   refine⟨?_,fun j hj=>?_⟩
   ·unfold gw at yw⊢;rw[List.foldl_cons,e,←hl,nz];have:=yw.1;simp only[List.append_assoc,List.cons_append,List.nil_append] at this⊢;exact this
   ·rw[e]
    rcases List.mem_cons.1 hj with rfl|hj
    ·rw[←hl];exact nG _ _ _
    ·have:=ih.2 j hj;simp only[List.append_assoc,List.cons_append,List.nil_append] at this⊢;exact this
def fp {α:Type} (L:List α) (at_:Nat) (M:List α):Prop:=∃post,L.drop at_=M++post
theorem fp.head {α:Type} {L M:List α} {a:α} {at_:Nat} (h:fp L at_ (a::M)):L[at_]?=some a:=by
 obtain⟨post,h⟩:=h;have:=congrArg (·[0]?) h
 simpa using this
theorem fp.tail {α:Type} {L M:List α} {a:α} {at_:Nat} (h:fp L at_ (a::M)):fp L (at_+1) M:=by
 obtain⟨post,h⟩:=h;refine⟨post,?_⟩;rw[←List.drop_drop,h];rfl
theorem fp.left {α:Type} {L M M':List α} {at_:Nat} (h:fp L at_ (M++M')):fp L at_ M:=by
 obtain⟨post,h⟩:=h;exact⟨M'++post,by rw[h,List.append_assoc]⟩
theorem fp.right {α:Type} {L M M':List α} {at_:Nat} (h:fp L at_ (M++M')):fp L (at_+M.length) M':=by
 obtain⟨post,h⟩:=h;refine⟨post,?_⟩;rw[←List.drop_drop,h,List.append_assoc,List.drop_left]
theorem fp.le {α:Type} {L M:List α} {at_:Nat} (h:fp L at_ M) (hM:M≠[]):at_+M.length≤L.length:=by
 obtain⟨post,h⟩:=h;have:=congrArg List.length h;simp only[List.length_drop,List.length_append] at this
 have:0<M.length:=by cases M with|nil=>exact absurd rfl hM|cons _ _=>simp
 omega
theorem fp.all {α:Type} (L:List α):fp L 0 L:=⟨[],by simp⟩
mutual
def Tr.zs:Tr→List Int
 | .mk n ks=>((min (bW n ks.sz ks.len) 401:Nat):Int)::ks.zs
def bU.zs:bU→List Int
 | .nil=>[]
 | .cons t ts=>t.zs++ts.zs
end
mutual
def Tr.es:Tr→Nat→List Int
 | .mk n ks,at_=>((at_+1+ks.flat.length:Nat):Int)::ks.es (at_+1)
def bU.es:bU→Nat→List Int
 | .nil,_=>[]
 | .cons t ts,at_=>t.es at_++ts.es (at_+t.flat.length)
end
mutual
theorem Tr.gV:∀t:Tr,t.zs.length=t.flat.length
 | .mk n ks=>by simp[Tr.zs,Tr.flat,bU.gV ks]
theorem bU.gV:∀ts:bU,ts.zs.length=ts.flat.length
 | .nil=>rfl
 | .cons t ts=>by simp[bU.zs,bU.flat,Tr.gV t,bU.gV ts]
end
mutual
theorem Tr.h_:∀(t:Tr) (a:Nat),(t.es a).length=t.flat.length
 | .mk n ks,a=>by simp[Tr.es,Tr.flat,bU.h_ ks]
theorem bU.h_:∀(ts:bU) (a:Nat),(ts.es a).length=ts.flat.length
 | .nil,_=>rfl
 | .cons t ts,a=>by simp[bU.es,bU.flat,Tr.h_ t,bU.h_ ts]
end
theorem Tr.iz (t:Tr):0<t.flat.length:=by cases t;simp[Tr.flat]
theorem bU.og:∀ts:bU,ts.len≤ts.flat.length
 | .nil=>Nat.le_refl _
 | .cons t ts=>by
  have h1:=bU.og ts;have h2:=t.iz;simp only[bU.len,bU.flat,List.length_append];omega
end Go.Proofs.Ytbdilgkfnacahaa
namespace Go.V
variable{N:Nat} {S st:St} {H:List cz}
theorem cw.at_ {α β:Type} {R:α→β→Prop}:∀{l:List α} {m:List β} {i:Nat} {b:β},cw R l m→m[i]?=some b→∃a,l[i]?=some a∧R a b
 |_,_,_,_,.nil,h=>by simp at h
 |_,_,0,_,.cons a t,h=>by simp only[List.getElem?_cons_zero,Option.some.injEq] at h;subst h;exact⟨_,rfl,a⟩
 |_,_,i+1,_,.cons a t,h=>by simp only[List.getElem?_cons_succ] at h⊢;exact t.at_ h
theorem cw.set {α β:Type} {R:α→β→Prop} {a:α} {b:β} (r:R a b):∀{l:List α} {m:List β} (i:Nat),cw R l m→cw R (l.set i a) (m.set i b)
 |_,_,_,.nil=>.nil
 |_,_,0,.cons _ t=>.cons r t
 |_,_,i+1,.cons h t=>.cons h (t.set r i)
theorem cw.setMany {R:D→D→Prop}:∀{xs ys:List D} {c d:List D} (o:Nat),cw R xs ys→cw R c d→cw R (setMany c o xs) (setMany d o ys)
 |_,_,_,_,_,.nil,h=>h
 |_,_,_,_,o,.cons r t,h=>by simp only[Go.V.setMany];exact t.setMany (o+1) (h.set r o)
theorem cw.same {R:D→D→Prop}:∀{l:List D},(∀d∈l,R d d)→cw R l l
 |[],_=>.nil
 |d::l,h=>.cons (h d (List.mem_cons_self ..)) (cw.same fun x hx=>h x (List.mem_cons_of_mem _ hx))
theorem Has.MJ {j:Nat} {x:D} {s:Nat} {ks:Nat→Prop} {vs:List (List D)} (hH:Has N S st H) (hj:H[j]?=some (.deep ks x s vs)):∃es,Rows st s x es∧es.length=vs.length:=by
 obtain⟨⟨es,h1,h2⟩,_⟩:=(hH.ok j _ hj).1;exact⟨es,h1.rows,h2.len⟩
theorem Has.Qr {j k aC off len s:Nat} {ks:Nat→Prop} {vs:List (List D)} {i o:Nat} {v cs:List D} (h:Has N S st H) (hj:H[j]?=some (.deep ks (.win k aC off len s) s vs)) (hi:vs[i]?=some v) (hl:o+cs.length≤s) (hp:∀d∈cs,ch d=true) (hw:S.flr≤N∨refs cs=0):
  ∃ai,st.wr k aC (off+i*s+o) cs=some ai∧Has N S ai (H.set j (.deep ks (.win k aC off len s) s (vs.set i (setMany v o cs)))):=by
 obtain⟨⟨es,jj,su⟩,he3⟩:=(h.ok j _ hj).1;have hK:=(h.ok j _ hj).2;obtain⟨e,Vd,aS⟩:=su.at_ hi
 have Pq:Has N S st [.aT (.win k aC off len s) s es]:=by
  refine⟨h.ex,h.hN,h.fg,fun i e hi=>?_,fun i i' a b hii ha hb k tS iD=>?_⟩
  ·cases i with
   |zero=>simp only[List.getElem?_cons_zero,Option.some.injEq] at hi;subst hi;exact⟨jj,fun k hk=>hK k (.inl hk)⟩
   |succ i=>simp at hi
  ·cases i with
   |zero=>cases i' with
    |zero=>exact hii rfl
    |succ i'=>simp at hb
   |succ i=>simp at ha
 obtain⟨ai,q1,q2⟩:=Pq.wD (j:=0) aB Vd hl hw;refine⟨ai,q1,?_⟩;have hown:=q2.own (j:=0) aB
 have Pf:(∀n,n≠k→ai.bs[n]?=st.bs[n]?)∧st.bs.length=ai.bs.length∧ai.flr=st.flr∧ai.ro=st.ro:=by
  unfold St.wr at q1
  split at q1
  ·split at q1
   ·cases q1;exact⟨fun n hn=>by simp only;rw[List.getElem?_set_ne (fun e=>hn e.symm)],by simp,rfl,rfl⟩
   ·cases q1
  ·cases q1
 obtain⟨c1,c2,c3,c4⟩:=Pf;have hkk:=hK k (.inl (by simp only[D.ref]));have hne:∀n,ks n→n≠k:=fun n hn e=>he3 k (by simp only[D.ref]) (e▸hn);have tQ:∀n,ks n→ai.bs[n]?=st.bs[n]?:=fun n hn=>c1 n (hne n hn);refine h.xr hj (fun n hn hnot=>c1 n fun e=>hnot (.inl (by simp only[D.ref];omega))) (Nat.le_of_eq c2) c3 c4 ⟨⟨_,hown,?_⟩,he3⟩ (fun n hn=>.inl hn) fun n hn=>?_
 ·refine cw.set ?_ i (su.mono fun a b=>cw.mono fun c d=>eW.move tQ);exact(cw.same fun d hd=>.plain d (hp d hd)).setMany o (aS.mono fun c d=>eW.move tQ)
 ·rw[←c2];exact(hK n hn).2
variable{P:Pv} {ops:Array Oper} {rest:List Oper} {fr aI:Fr} {Q:Fr→St→Prop} {ty:TypeId} {pp:String} {a:Array Edge} {g:Option (Nat×Bool)} {dst:Nat}
theorem ae.yj {t e:TypeId} {xo:Operand} {x:D} {s j:Nat} {ks:Nat→Prop} {vs:List (List D)} (hH:Has N S st H) (hg:aG ops fr ⟨some dst,.call ⟨.builtin .len,#[xo],#[t]⟩,ty,pp,a,g⟩=some true) (hx:fr.ev xo=x) (hj:H[j]?=some (.deep ks x s vs)) (ht:P.cx t=some (.slice e)) (hp:fr.put dst (.int .i64 (vs.length:Nat))=aI)
  (h:ae P ops rest aI st Q):ae P ops (⟨some dst,.call ⟨.builtin .len,#[xo],#[t]⟩,ty,pp,a,g⟩::rest) fr st Q:=by
 obtain⟨es,h1,h2⟩:=hH.MJ hj;exact ae.KZ hg hx h1 ht (by rw[h2];exact hp) h
theorem ae.Am {t e:TypeId} {xo io:Operand} {x:D} {s i j:Nat} {kk:IntKind} {ks:Nat→Prop} {vs:List (List D)} {aI:D→Fr} (hH:Has N S st H) (hg:aG ops fr ⟨some dst,.indexAddr t xo io,ty,pp,a,g⟩=some true) (hx:fr.ev xo=x) (hi:fr.ev io=.int kk (i:Nat)) (hj:H[j]?=some (.deep ks x s vs)) (ht:P.cx t=some (.slice e)) (hs:bT P e=some s) (hr:i<vs.length) (hp:∀p,fr.put dst p=aI p)
  (h:∀p,nr x s i 0 p→ae P ops rest (aI p) st Q):ae P ops (⟨some dst,.indexAddr t xo io,ty,pp,a,g⟩::rest) fr st Q:=by
 obtain⟨⟨es,jj,su⟩,he3⟩:=(hH.ok j _ hj).1;have hlen:=su.len
 cases jj with
 |nul=>simp at hlen;omega
 |win k aC off es c hm hl hc he=>
  refine ae.go hg rfl (d:=.ptr k aC (off+i*s)) (st1:=st) ?_ (hp _) (h _ ⟨k,aC,off,_,rfl,rfl⟩);simp only[di,hx,hi,bR,ht,hs,Option.bind_some,St.mem_of hm,Option.isSome_some];rw[if_pos ⟨trivial,by omega,by omega,trivial⟩];rfl
theorem ae.oK {t:TypeId} {ao vo:Operand} {x y v:D} {s i o j:Nat} {ks:Nat→Prop} {vs:List (List D)} {r cs:List D} (hH:Has N S st H) (hg:aG ops fr ⟨none,.store t ao vo,ty,pp,a,g⟩=some true) (ha:fr.ev ao=y) (hv:fr.ev vo=v) (hR:nr x s i o y) (jc:v.cells?=some cs) (hs:bT P t=some cs.length) (hj:H[j]?=some (.deep ks x s vs)) (hr:vs[i]?=some r) (hl:o+cs.length≤s) (hq:∀d∈cs,ch d=true) (hw:S.flr≤N∨refs cs=0)
  (h:∀ai,Has N S ai (H.set j (.deep ks x s (vs.set i (setMany r o cs))))→ae P ops rest fr ai Q):ae P ops (⟨none,.store t ao vo,ty,pp,a,g⟩::rest) fr st Q:=by
 obtain⟨k,aC,off,len,rfl,rfl⟩:=hR;obtain⟨ai,h1,h2⟩:=hH.Qr hj hr hl hq hw;refine ae.N hg rfl (d:=.tup []) (st1:=ai) ?_ (h _ h2);simp only[di,ha,hv,jr,jc,hs,if_pos trivial,h1];rfl
theorem af.JU {dy:Dy} {i:Nat} {l:List Oper} {d n loc tmp st} {Q:Out→Fr→St→Prop} (ws:List Nat) (F:(Nat→D)→Prop)
  (h1:ae P l.toArray l ⟨n,loc,[]⟩ st fun aI ai=>∃f tmp,aI=⟨n,aD loc ws f,tmp⟩∧ai=st∧F f) (h2:∀f tmp,F f→Q .next ⟨n,aD loc ws f,tmp⟩ st) (h0:fF i dy=[]:=by rfl):af P dy (.region i l.toArray d) ⟨n,loc,tmp⟩ st Q:=by
 refine af.b_ ?_ h0;unfold ae at h1⊢;obtain⟨aI,ai,h3,f,Fp,rfl,rfl,h4⟩:=h1;exact⟨_,_,h3,h2 _ _ h4⟩
theorem jG {n:Nat} {L loc:List D} {qI:List (Nat×D)} {ws:List Nat} {F:(Nat→D)→Prop} {st:St} (h:L=aD loc ws (fun k=>nth .bA L k)) (h2:F (fun k=>nth .bA L k)):∃(f:Nat→D) (tmp:List (Nat×D)),(⟨n,L,qI⟩:Fr)=⟨n,aD loc ws f,tmp⟩∧st=st∧F f:=⟨_,qI,by rw[←h],rfl,h2⟩
theorem ae.K8 {t1 t2:TypeId} {xo yo:Operand} {x y z:Int} (hg:aG ops fr ⟨some dst,.call ⟨.builtin .min,#[xo,yo],#[t1,t2]⟩,ty,pp,a,g⟩=some true) (hx:fr.ev xo=.int .i64 x) (hy:fr.ev yo=.int .i64 y) (hz:min x y=z) (hp:fr.put dst (.int .i64 z)=aI) (h:ae P ops rest aI st Q):ae P ops (⟨some dst,.call ⟨.builtin .min,#[xo,yo],#[t1,t2]⟩,ty,pp,a,g⟩::rest) fr st Q:=
 ae.IK (t1:=t1) (t2:=t2) hg hx hy (by rw[hz];exact hp) h
theorem Has.tG {N:Nat} {S s0 S2 st2:St} {H:List cz} {x:D} {s:Nat} {es Qo:List (List D)} (h:Has N S s0 (.aT x s es::H)) (hS:S2.bs=s0.bs) (h2:Has N S2 st2 (.aT x s Qo::H)):Has N S ⟨st2.bs.take s0.bs.length,s0.flr,s0.ro⟩ (.aT x s Qo::H):=by
 refine h.rv hS h2 fun i e hi=>?_
 cases i with
 |zero=>simp only[List.getElem?_cons_zero,Option.some.injEq] at hi;subst hi;exact⟨_,rfl,fun k hk=>hk⟩
 |succ i=>exact⟨e,hi,fun k hk=>hk⟩
theorem Has.tH {N:Nat} {S s0 S2 st2:St} {H:List cz} {k:Nat} {b b':gL} {ks:Nat→Prop} {x:D} {s:Nat} {vs Ku:List (List D)} (h:Has N S s0 (.box k b::.deep ks x s vs::H)) (hS:S2.bs=s0.bs) (h2:Has N S2 st2 (.box k b'::.deep ks x s Ku::H)):Has N S ⟨st2.bs.take s0.bs.length,s0.flr,s0.ro⟩ (.box k b'::.deep ks x s Ku::H):=by
 refine h.rv hS h2 fun i e hi=>?_
 match i with
 |0=>simp only[List.getElem?_cons_zero,Option.some.injEq] at hi;subst hi;exact⟨_,rfl,fun k hk=>hk⟩
 |1=>simp only[List.getElem?_cons_succ,List.getElem?_cons_zero,Option.some.injEq] at hi;subst hi;exact⟨_,rfl,fun k hk=>hk⟩
 |i+2=>exact⟨e,hi,fun k hk=>hk⟩
theorem Has.DM {N:Nat} {S st:St} {H:List cz} {a b c d e:cz} (h:Has N S st (a::b::c::d::e::H)):Has N S st (b::c::d::e::a::H):=by
 refine h.sub (fun i=>if i=4 then 0 else if i<4 then i+1 else i) (fun i j hij=>?_) (fun i x hi=>?_)
 ·(try simp only at hij)
  split at hij<;>split at hij<;>(try split at hij)<;>(try split at hij)<;>omega
 ·match i,hi with
  |0,hi=>exact hi
  |1,hi=>exact hi
  |2,hi=>exact hi
  |3,hi=>exact hi
  |4,hi=>exact hi
  |i+5,hi=>
   have h1:¬(i+5=4):=by omega
   have h2:¬(i+5<4):=by omega
   simp only[if_neg h1,if_neg h2];exact hi
theorem Has.jZ {fr:Fr} {a k aC off j u u2:Nat} {t:TypeId} {ar:Bool} {c:List D} {d e e2:D} (hH:Has N S st H) (ha:fr.get a=.ptr k aC off) (hj:H[j]?=some (.box k (.mem aC ar c))) (hd:dn P t (c.drop off)=some d) (he:fr.get u=e) (su:fr.get u2=e2):iJ P fr st [.cell a t,.tmp u,.tmp u2]=some [d,e,e2]:=by
 simp only[iJ,eU,ha,St.mem_of (hH.at hj),Option.bind_some,hd,Option.map_some,he,su]
theorem af.mb {dy:Dy} {c1 c2:Code} {fr:Fr} {st:St} {Q:Out→Fr→St→Prop} (M:Fr→St→Prop) (h1:af P dy c1 fr st (ba P dy c2 (AM M Q))) (h2:∀aI ai,M aI ai→Q .next aI ai):af P dy c1 fr st (ba P dy c2 Q):=
 h1.mono fun o aI ai h=>by
  cases o with
  |next=>exact af.merge M h h2
  |exit i=>exact h
  |ret=>exact h
end Go.V
namespace Go.Proofs.Ytbdilgkfnacahaa
open Go.V Go
def vj (fr:Go.V.Fr) (k:Nat):Go.V.D:=Go.V.nth .bA fr.loc k
theorem ye {st:St} {L n:Nat} {kn:Bool} {k aC off len s:Nat}:bI st L kn n (.win k aC off len s)=bI st L false n (.win k aC off len s):=by
 cases n<;>rfl
theorem yc (l:List Rg):(l.map aw).map (·.map ni)=l.map aw:=by
 rw[List.map_map];rfl
theorem uI (l:List Rg):∀e∈l.map aw,∀d∈e,mJ d=true:=by
 intro e he d hd;obtain⟨x,_,rfl⟩:=List.mem_map.1 he;simp only[aw,List.mem_cons,List.not_mem_nil,or_false] at hd
 rcases hd with rfl|rfl<;>rfl
theorem mV {N L j:Nat} {S st:St} {H:List cz} {x:D} {l:List Rg} (hH:Has N S st H) (hj:H[j]?=some (.aT x 2 (l.map aw))) (hx:∀k,x.ref=k+1→L≤k) {n:Nat} (hn:3≤n):bI st L false n x=some (bt l):=by
 rw[hH.xc hj hx (uI l) hn,yc,fw]
def MN (gs:List (Nat×Nat)) (s s':eG) (d1:D) (b:Bool):Prop:=
 AL gs s s' d1 b∨(s'=s∧d1=.nul∧b=false)
theorem wH {N k:Nat} {S s0:St} {H:List cz} {gs:List (Nat×Nat)} {bD:D} {bd:List Int} {s:eG} (dz:jV gs bd) (he:s.e=0) (hi:s.i<gs.length) (hH:Has N S s0 (.box k (.mem 0 false (aW gs bD s))::.aT bD 1 (bd.map aq)::H)):
  ∃d ai,Ev pv 130 [.ptr k 0 0] s0 d ai∧∃(d1:D) (b:Bool) (s':eG),d=.tup [d1,.bool b]∧MN gs s s' d1 b∧Has N S ai (.box k (.mem 0 false (aW gs bD s'))::.aT bD 1 (bd.map aq)::H):=by
 have nF:=dz.gl;have ji:=dz.pl;refine Ev.mP rfl Mw rfl rfl rfl ?_;dsimp only[u3,u4,List.length,Nat.reduceSub,Nat.reduceAdd,w1,w2];have cy:=hH;have hH:=hH.cH;have cq:(aj .rw s0).bs=s0.bs:=rfl;generalize aj .rw s0=S2 at*;have zS:Arg N S2 2 (bZ gs) (gs.map aU):=Arg.pure (fun st=>cT st gs)
 obtain⟨g,hg⟩:∃g,gs[s.i]?=some g:=⟨gs[s.i]'hi,List.getElem?_eq_getElem _⟩
 have gI:(gs.map aU)[s.i]?=some (aU g):=by rw[List.getElem?_map,hg];rfl
 refine qq<|qj fun K hK=>qm ?_;refine qm ?_;refine qe hK<|qq<|qq<|qj fun K hK=>qm ?_;refine qm ?_;refine qg ?_;refine qp (o:=2) ?_;refine ql hH aB ?_;obtain⟨_,st,aS,rfl,hH⟩:=vX (s:=s) s.i hi hH;refine qv aS ?_;refine qe hK ?_;refine qc (fun hb=>?_) (fun hb=>?_)<;>try simp only[cs] at hb
 ·refine qq<|qj fun K hK=>qm ?_;refine qm ?_;refine qg ?_;refine qp (o:=2) ?_;refine ql hH aB ?_;obtain⟨_,st,aS,rfl,hH⟩:=cU (s:=s) s.i 4 (by omega) hH;refine qv aS ?_;refine qe hK<|qq<|qj fun K hK=>qm ?_;refine qm ?_;refine qe hK ?_;obtain⟨h1,h2,h3,h4⟩:=db (bd:=bd) (s:=s) (i:=s.i) (e:=4) he (by decide);refine af.ret ⟨rx,_,_,_,rfl,av (rfl),?_⟩;exact⟨_,_,_,rfl,.inl ⟨h3,h4,by rw[h2];exact Nat.le_refl _,by rw[h2];omega,.inl rfl,.inl h1⟩,cy.aA cq hH⟩
 ·refine af.skip<|qq<|qj fun K hK=>qm ?_;refine qg ?_;refine qp (o:=0) ?_;refine ql hH aB ?_;refine qm ?_;refine qg ?_;refine qp (o:=2) ?_;refine ql hH aB ?_;refine qr fun MR El=>?_;refine qf (fo:=0) fun Wn Uu=>?_;refine qR ?_;refine qm ?_;refine qe hK<|qq<|qj fun K hK=>qm ?_;refine qe hK<|af.block<|qq<|qj fun K hK=>qg ?_;refine qm ?_;refine qe hK ?_;refine af.cond (by rfl) (fun q1=>?_) (fun q1=>?_)<;>try simp only[beq_iff_eq,beq_eq_false_iff_ne,ne_eq] at q1
  ·refine qq<|qj fun K hK=>qm ?_;obtain⟨_,st,aS,d1,b,s',rfl,hP,hH⟩:=wC (s:=s) dz he hi hH;refine qv aS ?_;refine qg ?_;refine qg ?_;refine qm ?_;refine qm ?_;refine qe hK ?_
   rcases hP.2.2.2.2.1 with rfl|⟨a,rfl,_⟩
   ·refine af.ret ⟨rx,_,_,_,rfl,av (rfl),?_⟩;exact⟨_,_,_,rfl,.inl hP,cy.aA cq hH⟩
   ·refine af.ret ⟨rx,_,_,_,rfl,av (rfl),?_⟩;exact⟨_,_,_,rfl,.inl hP,cy.aA cq hH⟩
  ·refine qq<|qq<|qj fun K hK=>qg ?_;refine qm ?_;refine qe hK ?_
   by_cases J7:((g.1:Nat):Int)=91
   ·refine qD rfl (by simp[J7]) ?_;refine af.skip<|qD rfl (by simp[J7]) ?_;refine qq<|qj fun K hK=>qm ?_;refine qm ?_;refine qe hK<|af.ret ⟨rx,_,_,_,rfl,av (rfl),?_⟩;exact⟨_,_,_,rfl,.inr ⟨rfl,rfl,rfl⟩,cy.aA cq hH⟩
   refine qE rfl (by simp[J7]) ?_;refine qq<|qj fun K hK=>qg ?_;refine qm ?_;refine qe hK ?_
   by_cases Nq:((g.1:Nat):Int)=93
   ·refine qD rfl (by simp[Nq]) ?_;refine af.skip<|qD rfl (by simp[Nq]) ?_;refine qq<|qj fun K hK=>qm ?_;refine qm ?_;refine qe hK<|af.ret ⟨rx,_,_,_,rfl,av (rfl),?_⟩;exact⟨_,_,_,rfl,.inr ⟨rfl,rfl,rfl⟩,cy.aA cq hH⟩
   refine qE rfl (by simp[Nq]) ?_;refine qj fun K hK=>qg ?_;refine qm ?_;refine qe hK ?_
   by_cases QQ:((g.1:Nat):Int)=45
   ·refine qD rfl (by simp[QQ]) ?_;refine qq<|qj fun K hK=>qm ?_;refine qm ?_;refine qe hK<|af.ret ⟨rx,_,_,_,rfl,av (rfl),?_⟩;exact⟨_,_,_,rfl,.inr ⟨rfl,rfl,rfl⟩,cy.aA cq hH⟩
   refine qE rfl (by simp[QQ]) ?_;refine qq<|qj fun K hK=>qm ?_;refine qg ?_;refine qp (o:=2) ?_;refine ql hH aB ?_;refine qA ?_;refine qg ?_;refine qp (o:=2) ?_;refine qT hH aB fun st hH=>?_;dsimp only[u2,u1,u3,u4,setMany,u5,u6,D.cells,Nat.reduceAdd,aW,aU,aq,aw] at hH;refine qe hK<|qq<|qj fun K hK=>qm ?_;refine qm ?_;refine ae.gB (qs:=[(0,_),(1,_)]) rfl rfl rfl rfl ⟨rfl,(ev rfl),(by rfl),rfl,(ev rfl),(by rfl),trivial⟩ (by intro q hq;simp only[List.mem_cons,List.not_mem_nil,or_false] at hq;rcases hq with rfl|rfl<;>exact⟨rfl,by exact Nat.le_of_ble_eq_true rfl⟩) (by show List.foldl _ [_,_] _=_;dsimp only[List.foldl_cons,List.foldl_nil,u2,u1]<;>rfl) (ag rfl _) ?_;refine qh (s:=2) (vs:=[_]) hH fun NL st UT hH=>?_;refine qm ?_;refine qm ?_;refine qe hK ?_;have hH:Has N S2 st (.aT (.win NL 0 0 1 2) 2 (([((g.1:Nat),(g.1:Nat))]:List Rg).map aw)::.box k (.mem 0 false (aW gs bD {s with i:=s.i+1}))::.aT bD 1 (bd.map aq)::H):=hH;have hfz:=mV hH aB (L:=s0.bs.length) (n:=15) (fun k hk=>by simp only[D.ref] at hk;rw[←cq];omega) (by decide)
   have O3:bI st s0.bs.length true 16 (nM [.win NL 0 0 1 2,.bool true])=some (.tup [bt [(((g.1:Nat):Int),((g.1:Nat):Int))],.bool true]):=by
    show(ir (bI st s0.bs.length true 15) [.win NL 0 0 1 2,.bool true]).map D.tup=_;simp only[ir,ye,hfz];rfl
   refine af.ret ⟨rx,_,_,_,rfl,av O3,⟨_,_,{s with i:=s.i+1},rfl,.inl ⟨rfl,rfl,?_,?_,.inr ⟨_,rfl,by simp⟩,.inr ⟨he,?_,_,rfl,?_,?_⟩⟩,cy.aA cq (hH.drop 1)⟩⟩
   ·show s.i≤s.i+1;omega
   ·show s.i+1≤_;omega
   ·show s.i<s.i+1;omega
   ·simp
   ·simp
def MP (gs:List (Nat×Nat)) (s s':eG) (d:D):Prop:=
 s'.o=s.o∧s'.g=s.g∧s.i≤s'.i∧s'.i≤gs.length∧∃a:List Rg,d=bt a∧a.length≤8∧(s'.e≠0∨s'.e=0∧s.i<s'.i)
theorem fY {gs:List (Nat×Nat)} {s:eG} {r:Int}:(cQ gs s r).o=s.o∧(cQ gs s r).g=s.g∧(cQ gs s r).e=s.e∧s.i≤(cQ gs s r).i∧(s.i≤gs.length→(cQ gs s r).i≤gs.length):=by
 unfold cQ
 split
 ·rename_i h;have:=oo h;exact⟨rfl,rfl,rfl,by show s.i≤s.i+1;omega,fun _=>by show s.i+1≤_;omega⟩
 ·exact⟨rfl,rfl,rfl,Nat.le_refl _,fun h=>h⟩
theorem D_ {N k:Nat} {S s0:St} {H:List cz} {gs:List (Nat×Nat)} {bD:D} {bd:List Int} {s:eG} (dz:jV gs bd) (he:s.e=0) (hi:s.i<gs.length) (hH:Has N S s0 (.box k (.mem 0 false (aW gs bD s))::.aT bD 1 (bd.map aq)::H)):
  ∃d ai,Ev pv 119 [.ptr k 0 0] s0 d ai∧∃(s':eG),MP gs s s' d∧Has N S ai (.box k (.mem 0 false (aW gs bD s'))::.aT bD 1 (bd.map aq)::H):=by
 have nF:=dz.gl;have ji:=dz.pl;refine Ev.mP rfl Mz rfl rfl rfl ?_;dsimp only[u3,u4,List.length,Nat.reduceSub,Nat.reduceAdd,w1,w2];have cy:=hH;have hH:=hH.cH;have cq:(aj .rw s0).bs=s0.bs:=rfl;generalize aj .rw s0=S2 at*;have zS:Arg N S2 2 (bZ gs) (gs.map aU):=Arg.pure (fun st=>cT st gs);refine qq<|qj fun K hK=>qm ?_;refine qe hK<|qq<|qj fun K hK=>qm ?_;refine qg ?_;refine qp (o:=2) ?_;refine ql hH aB ?_;refine qm ?_;refine qe hK<|qq<|qj fun K hK=>qm ?_;obtain⟨_,st,aS,d1,b,s1,rfl,hP,hH⟩:=wH (s:=s) dz he hi hH;refine qv aS ?_;refine qm ?_;refine qg ?_;refine qg ?_;refine qm ?_;refine qm ?_;refine qe hK<|qq<|qq<|qj fun K hK=>qm ?_;refine qg ?_;refine qp (o:=5) ?_;refine ql hH aB ?_;refine qg ?_;refine qe hK ?_
 rcases hP with hP|⟨e1,rfl,rfl⟩
 ·obtain⟨p1,p2,p3,p4,p5,p6⟩:=hP
  rcases p6 with p6|⟨p6,p7,a,rfl,p8,p9⟩
  ·refine qD rfl (by simp[p6]) ?_;refine qq<|qj fun K hK=>qm ?_;refine qe hK<|af.ret ⟨rx,_,_,_,rfl,av (rfl),?_⟩;exact⟨s1,⟨p1,p2,p3,p4,[],rfl,by simp,.inl p6⟩,cy.aA cq hH⟩
  ·obtain⟨q,a',rfl⟩:∃q a',a=q::a':=List.exists_cons_of_ne_nil p9;refine qE rfl (by simp[p6]) ?_;refine af.skip<|qq<|qq<|qj fun K hK=>qm ?_;refine ae.go (d:=.bool false) (st1:=_) rfl rfl rfl (ag rfl _) ?_;refine qe hK<|qC ?_;refine af.skip ?_;obtain⟨k1,k2,k3,k4,k5⟩:=fY (gs:=gs) (s:=s1) (r:=45);have k5:=k5 p4;refine qq<|qq<|qj fun K hK=>qm ?_;obtain⟨_,st,aS,rfl,hH⟩:=dJ (s:=s1) (by omega) 45 hH;refine qv aS ?_;refine qg ?_;refine qe hK ?_;generalize cQ gs s1 45=s2 at*
   cases hb:ki gs s1.i 45 with
   |false=>
    refine qB ?_;refine qq<|qj fun K hK=>qm ?_;refine qm ?_;refine qe hK<|af.ret ⟨rx,_,_,_,rfl,av (rfl),?_⟩;exact⟨s2,⟨k1.trans p1,k2.trans p2,by omega,k5,q::a',rfl,p8,.inr ⟨k3.trans p6,by omega⟩⟩,cy.aA cq hH⟩
   |true=>
    refine qC ?_;refine af.skip<|qq<|qj fun K hK=>qm ?_;refine qe hK<|qq<|qj fun K hK=>qm ?_;refine qe hK<|qq<|qq<|qj fun K hK=>qm ?_;refine qg ?_;refine qp (o:=2) ?_;refine ql hH aB ?_;refine qm ?_;refine qg ?_;refine qp (o:=0) ?_;refine ql hH aB ?_;refine qn ?_;simp only[List.length_map];refine qg ?_;refine qe hK<|af.merge (fun fr st=>∃(d2:D) (two:Bool) (s3:eG) (tmp:List (Nat×D)),fr=⟨8,[.ptr k 0 0,vj fr 1,vj fr 2,.int .i64 (s.i:Nat),bt (q::a'),.bool b,d2,.bool two],tmp⟩∧Has N S2 st (.box k (.mem 0 false (aW gs bD s3))::.aT bD 1 (bd.map aq)::H)∧(s3.o=s.o)∧(s3.g=s.g)∧(s2.i≤s3.i)∧(s3.i≤gs.length)∧(s3.e≠0∨s3.e=0∧(two=false∨∃a2:List Rg,d2=bt a2∧a2≠[]))) ?_ ?_
    ·refine af.cond (by rfl) (fun hlt=>?_) (fun hlt=>?_)<;>try simp only[decide_eq_true_eq,decide_eq_false_iff_not] at hlt
     ·refine qj fun K hK=>qm ?_;obtain⟨_,st,aS,d2,two,s3,rfl,Vs,hH⟩:=wH (s:=s2) dz (k3.trans p6) (by omega) hH;refine qv aS ?_;refine qm ?_;refine qg ?_;refine qg ?_;refine qm ?_;refine qm ?_;refine qe hK ?_
      rcases Vs with⟨r1,r2,r3,r4,r5,r6⟩|⟨e1,rfl,rfl⟩
      ·refine⟨d2,two,s3,_,rfl,hH,r1.trans (k1.trans p1),r2.trans (k2.trans p2),r3,r4,?_⟩
       rcases r6 with r6|⟨r6,r7,a2,rfl,r8,r9⟩
       ·exact .inl r6
       ·refine .inr ⟨r6,?_⟩
        cases two with
        |false=>exact .inl rfl
        |true=>exact .inr ⟨a2,rfl,r9⟩
      ·exact⟨.nul,false,s3,_,rfl,hH,by rw[e1];exact k1.trans p1,by rw[e1];exact k2.trans p2,by rw[e1];exact Nat.le_refl _,by rw[e1];exact k5,.inr ⟨by rw[e1];exact k3.trans p6,.inl rfl⟩⟩
     ·refine af.skip ?_;exact⟨.nul,false,s2,_,rfl,hH,k1.trans p1,k2.trans p2,Nat.le_refl _,k5,.inr ⟨k3.trans p6,.inl rfl⟩⟩
    ·rintro fr st ⟨d2,two,s3,tmp,hfr,hH,h1,h2,h3,h4,h5⟩;rw[hfr];clear hfr;generalize vj fr=ee;clear fr
     rcases h5 with h5|⟨h5,h6⟩
     ·have bc:(s3.e==0)=false:=by simpa using h5
      refine qq<|qq<|qj fun K hK=>qm ?_;refine qg ?_;refine qp (o:=5) ?_;refine ql hH aB ?_;refine qg ?_;refine qm ?_;refine qs ?_ (hg:=wn bc);refine qs ?_ (hg:=wn bc);refine qs ?_ (hg:=wn bc);refine qs ?_;refine qs ?_;refine qs ?_ (hg:=wn bc);refine qs ?_ (hg:=wn bc);refine qs ?_;refine qs ?_;refine qs ?_;refine qs ?_;refine qs ?_;refine qs ?_;refine qs ?_;refine qs ?_;refine qs ?_;refine qs ?_ (hg:=wn bc);refine qu bc ?_;refine qe hK<|qC ?_;refine af.skip<|qq<|qq<|qj fun K hK=>qm ?_;refine qg ?_;refine qp (o:=5) ?_;refine ql hH aB ?_;refine qg ?_;refine qe hK<|qD rfl (by simp[h5]) ?_;refine qq<|qj fun K hK=>qm ?_;refine qe hK<|af.ret ⟨rx,_,_,_,rfl,av (rfl),?_⟩;exact⟨s3,⟨h1,h2,by omega,h4,[],rfl,by simp,.inl h5⟩,cy.aA cq hH⟩
     ·have bc:(s3.e==0)=true:=by simpa using h5
      cases b with
      |false=>
       have er:(!false)=true:=rfl;refine qq<|qq<|qj fun K hK=>qm ?_;refine qg ?_;refine qp (o:=5) ?_;refine ql hH aB ?_;refine qg ?_;refine qm ?_;refine qm ?_ (hg:=wi bc);refine qg ?_ (hg:=wi bc);refine qm ?_ (hg:=wi bc);refine qs ?_ (hg:=wn er);refine qs ?_ (hg:=wn er);refine ae.dA (aH rfl rfl rfl bc) rfl er (ag rfl _) ?_;refine qm ?_ (hg:=wi bc);refine qs ?_;refine qs ?_;refine qs ?_;refine qs ?_;refine qs ?_;refine qs ?_;refine qs ?_;refine qs ?_;refine qs ?_;refine qg ?_ (hg:=wi bc);refine qt bc ?_;refine qe hK<|qB ?_;refine qj fun K hK=>qm ?_;refine qm ?_;obtain⟨_,st,aS,rfl,hH⟩:=cU (s:=s3) s.i 4 (by omega) hH;refine qv aS ?_;refine qe hK ?_;obtain⟨w1,w2,w3,w4⟩:=db (bd:=bd) (s:=s3) (i:=s.i) (e:=4) h5 (by decide);generalize gW bd s3 s.i 4=s4 at*;refine qq<|qq<|qj fun K hK=>qm ?_;refine qg ?_;refine qp (o:=5) ?_;refine ql hH aB ?_;refine qg ?_;refine qe hK<|qD rfl (by simp[w1]) ?_;refine qq<|qj fun K hK=>qm ?_;refine qe hK<|af.ret ⟨rx,_,_,_,rfl,av (rfl),?_⟩;exact⟨s4,⟨w3.trans h1,w4.trans h2,by omega,by omega,[],rfl,by simp,.inl w1⟩,cy.aA cq hH⟩
      |true=>
       have er:(!true)=false:=rfl
       cases two with
       |false=>
        have cY:(!false)=true:=rfl;refine qq<|qq<|qj fun K hK=>qm ?_;refine qg ?_;refine qp (o:=5) ?_;refine ql hH aB ?_;refine qg ?_;refine qm ?_;refine qm ?_ (hg:=wi bc);refine qg ?_ (hg:=wi bc);refine qm ?_ (hg:=wi bc);refine qm ?_ (hg:=wi er);refine qg ?_ (hg:=wi er);refine ae.cV (aH rfl rfl rfl bc) rfl er (ag rfl _) ?_;refine qm ?_ (hg:=wi bc);refine qs ?_ (hg:=wn cY);refine qs ?_ (hg:=wn cY);refine qs ?_ (hg:=wn cY);refine qs ?_ (hg:=wn cY);refine qs ?_ (hg:=wn cY);refine qs ?_ (hg:=wn cY);refine qs ?_ (hg:=wn cY);refine qs ?_ (hg:=wn cY);refine qs ?_ (hg:=wn cY);refine ae.dA (aH rfl rfl rfl bc) rfl cY (ag rfl _) ?_;refine qt bc ?_;refine qe hK<|qB ?_;refine qj fun K hK=>qm ?_;refine qm ?_;obtain⟨_,st,aS,rfl,hH⟩:=cU (s:=s3) s.i 4 (by omega) hH;refine qv aS ?_;refine qe hK ?_;obtain⟨w1,w2,w3,w4⟩:=db (bd:=bd) (s:=s3) (i:=s.i) (e:=4) h5 (by decide);generalize gW bd s3 s.i 4=s4 at*;refine qq<|qq<|qj fun K hK=>qm ?_;refine qg ?_;refine qp (o:=5) ?_;refine ql hH aB ?_;refine qg ?_;refine qe hK<|qD rfl (by simp[w1]) ?_;refine qq<|qj fun K hK=>qm ?_;refine qe hK<|af.ret ⟨rx,_,_,_,rfl,av (rfl),?_⟩;exact⟨s4,⟨w3.trans h1,w4.trans h2,by omega,by omega,[],rfl,by simp,.inl w1⟩,cy.aA cq hH⟩
       |true=>
        have cY:(!true)=false:=rfl
        obtain⟨a2,rfl,h7⟩:∃a2:List Rg,d2=bt a2∧a2≠[]:=by
         rcases h6 with h6|h6
         ·cases h6
         ·exact h6
        obtain⟨q2,Sf,rfl⟩:∃q a',a2=q::a':=List.exists_cons_of_ne_nil h7;have I9:=(ie (q::a')).arg N S2;have T3:=(ie (q2::Sf)).arg N S2;have I_:((q::a').map aw)[0]?=some (aw q):=rfl;have gI:((q2::Sf).map aw)[0]?=some (aw q2):=rfl;refine qq<|qq<|qj fun K hK=>qm ?_;refine qg ?_;refine qp (o:=5) ?_;refine ql hH aB ?_;refine qg ?_;refine qm ?_;refine qm ?_ (hg:=wi bc);refine qg ?_ (hg:=wi bc);refine qm ?_ (hg:=wi bc);refine qm ?_ (hg:=wi er);refine qg ?_ (hg:=wi er);refine ae.cV (aH rfl rfl rfl bc) rfl er (ag rfl _) ?_;refine qm ?_ (hg:=wi bc);refine qm ?_ (hg:=wi cY);refine qr (fun Wc Uj=>?_) (hg:=wi cY);refine qf (fo:=0) (fun Wb Ui=>?_) (hg:=wi cY);refine qR ?_ (hg:=wi cY);refine qm ?_ (hg:=wi cY);refine qr (fun QT Lw=>?_) (hg:=wi cY);refine qf (fo:=0) (fun V_ Uf=>?_) (hg:=wi cY);refine qR ?_ (hg:=wi cY);refine qg ?_ (hg:=wi cY);refine ae.cV (aH rfl rfl rfl bc) rfl cY (ag rfl _) ?_;refine qt bc ?_;refine qe hK ?_;refine af.cond (by rfl) (fun Kl=>?_) (fun Kl=>?_)<;>try simp only[decide_eq_true_eq,decide_eq_false_iff_not] at Kl
        ·refine qj fun K hK=>qm ?_;refine qm ?_;obtain⟨_,st,aS,rfl,hH⟩:=cU (s:=s3) s.i 4 (by omega) hH;refine qv aS ?_;refine qe hK ?_;obtain⟨w1,w2,w3,w4⟩:=db (bd:=bd) (s:=s3) (i:=s.i) (e:=4) h5 (by decide);generalize gW bd s3 s.i 4=s4 at*;refine qq<|qq<|qj fun K hK=>qm ?_;refine qg ?_;refine qp (o:=5) ?_;refine ql hH aB ?_;refine qg ?_;refine qe hK<|qD rfl (by simp[w1]) ?_;refine qq<|qj fun K hK=>qm ?_;refine qe hK<|af.ret ⟨rx,_,_,_,rfl,av (rfl),?_⟩;exact⟨s4,⟨w3.trans h1,w4.trans h2,by omega,by omega,[],rfl,by simp,.inl w1⟩,cy.aA cq hH⟩
        ·refine af.skip<|qq<|qq<|qj fun K hK=>qm ?_;refine qg ?_;refine qp (o:=5) ?_;refine ql hH aB ?_;refine qg ?_;refine qe hK<|qE rfl (by simp[h5]) ?_;refine af.skip<|qq<|qj fun K hK=>qm ?_;refine qr fun Nt I'=>?_;refine qf (fo:=0) fun SL Oi=>?_;refine qR ?_;refine qm ?_;refine qr fun V5 Ua=>?_;refine qf (fo:=0) fun V4 T_=>?_;refine qR ?_;refine ae.gB (qs:=[(0,_),(1,_)]) rfl rfl rfl rfl ⟨rfl,(ev rfl),(by rfl),rfl,(ev rfl),(by rfl),trivial⟩ (by intro q hq;simp only[List.mem_cons,List.not_mem_nil,or_false] at hq;rcases hq with rfl|rfl<;>exact⟨rfl,by exact Nat.le_of_ble_eq_true rfl⟩) (by show List.foldl _ [_,_] _=_;dsimp only[List.foldl_cons,List.foldl_nil,u2,u1]<;>rfl) (ag rfl _) ?_;refine qh (s:=2) (vs:=[_]) hH fun Tm st UH hH=>?_;dsimp only[u2,u1,u3,u4,setMany,u5,u6,D.cells,Nat.reduceAdd,aW,aU,aq,aw] at hH;refine qm ?_;refine qe hK ?_;have hH:Has N S2 st (.aT (.win Tm 0 0 1 2) 2 (([(q.1,q2.1)]:List Rg).map aw)::.box k (.mem 0 false (aW gs bD s3))::.aT bD 1 (bd.map aq)::H):=hH;have hfz:=mV hH aB (L:=s0.bs.length) (n:=16) (fun k hk=>by simp only[D.ref] at hk;rw[←cq];omega) (by decide);refine af.ret ⟨rx,_,_,_,rfl,av hfz,⟨s3,⟨h1,h2,by omega,h4,[(q.1,q2.1)],rfl,by simp,.inr ⟨h5,by omega⟩⟩,cy.aA cq (hH.drop 1)⟩⟩
 ·have e2:s1.e=0:=by rw[e1];exact he
  have e3:s1.i=s.i∧s1.o=s.o∧s1.g=s.g:=by rw[e1];exact⟨rfl,rfl,rfl⟩
  clear e1;refine qE rfl (by simp[e2]) ?_;refine af.skip<|qq<|qq<|qj fun K hK=>qm ?_;refine ae.go (d:=.bool true) (st1:=_) rfl rfl rfl (ag rfl _) ?_;refine qe hK<|qB ?_;refine qq<|qj fun K hK=>qm ?_;refine qm ?_;obtain⟨_,st,aS,rfl,hH⟩:=cU (s:=s1) s.i 4 (by omega) hH;refine qv aS ?_;refine qe hK ?_;obtain⟨w1,w2,w3,w4⟩:=db (bd:=bd) (s:=s1) (i:=s.i) (e:=4) e2 (by decide);refine qq<|qj fun K hK=>qm ?_;refine qe hK<|af.ret ⟨rx,_,_,_,rfl,av (rfl),?_⟩;exact⟨_,⟨by omega,by omega,by omega,by omega,[],rfl,by simp,.inl w1⟩,cy.aA cq hH⟩
end Go.Proofs.Ytbdilgkfnacahaa
namespace Go.Proofs.Ytbdilgkfnacahaa
open Go.V Go
def vi (fr:Go.V.Fr) (k:Nat):Go.V.D:=Go.V.nth .bA fr.loc k
def sy (n:ec):Prop:=n.rd=bt n.rs∧n.rs.length≤1048576∧n.kids≤1048576
def rj (op mn mx:Int) (lz:Bool) (cap kids:Int) (a:List Rg):ec:=⟨op,bt a,a,mn,mx,lz,cap,kids⟩
def sf (l:List ec):D:=.sl ((l.map bj).map (ke 7))
theorem DY (l:List ec):∀e∈l.map bj,e.length=7:=by
 intro e he;obtain⟨x,_,rfl⟩:=List.mem_map.1 he;rfl
theorem ma {l:List ec} (h:∀n∈l,sy n):∀e∈l.map bj,∀d∈e,ch d=true:=by
 intro e he d hd;obtain⟨n,hn,rfl⟩:=List.mem_map.1 he;have hr:=(h n hn).1;simp only[bj,hr,List.mem_cons,List.not_mem_nil,or_false] at hd
 rcases hd with rfl|rfl|rfl|rfl|rfl|rfl|rfl<;>rfl
theorem pz {l:List ec} (h:∀n∈l,sy n):gq (sf l) 7 (l.map bj):=gq.frozen (DY l) (ma h)
theorem K5 {l:List ec} (h:∀n∈l,sy n) (hl:l.length≤1048576):(⟨sf l,l⟩:Nl).ok:=by
 refine⟨pz h,fun n hn=>?_,hl⟩;obtain⟨h1,h2,h3⟩:=h n hn;exact⟨by rw[h1];exact ie _,h2,by omega⟩
theorem rf {l:List ec} (h:∀n∈l,sy n):(l.map bj).map (·.map ni)=l.map bj:=by
 rw[List.map_map];refine List.map_congr_left fun n hn=>?_;have hr:=(h n hn).1;show(bj n).map ni=bj n;unfold bj;rw[hr];rfl
theorem oa {l:List ec} (h:∀n∈l,sy n):∀e∈l.map bj,∀d∈e,mJ d=true:=by
 intro e he d hd;have:=ma h e he d hd
 cases d<;>first|rfl|exact this
theorem gQ {N L j:Nat} {S st:St} {H:List cz} {x:D} {es:List (List D)} {l:List ec} (hH:Has N S st H) (hj:H[j]?=some (.aT x 7 es)) (he:es.map (·.map ni)=l.map bj) (ht:∀e∈es,∀d∈e,mJ d=true) (hx:∀k,x.ref=k+1→L≤k) {n:Nat} (hn:3≤n):bI st L false n x=some (sf l):=by
 rw[hH.xc hj hx ht hn,he];rfl
theorem gR {N L j:Nat} {S st:St} {H:List cz} {x w:D} {op mn mx cap kids:Int} {lz:Bool} {a:List Rg} (hH:Has N S st H) (hj:H[j]?=some (.aT x 7 [[.int .i64 op,w,.int .i64 mn,.int .i64 mx,.bool lz,.int .i64 cap,.int .i64 kids]])) (hw:w=bt a∨w=.nul∧a=[]) (hx:∀k,x.ref=k+1→L≤k):bI st L false 16 x=some (sf [rj op mn mx lz cap kids a]):=by
 refine gQ hH hj ?_ (fun e he d hd=>?_) hx (by decide)
 ·rcases hw with rfl|⟨rfl,rfl⟩<;>rfl
 ·simp only[List.mem_cons,List.not_mem_nil,or_false] at he;subst he;simp only[List.mem_cons,List.not_mem_nil,or_false] at hd
  rcases hw with rfl|⟨rfl,rfl⟩<;>rcases hd with rfl|rfl|rfl|rfl|rfl|rfl|rfl<;>rfl
theorem zo {op mn mx cap kids:Int} {lz:Bool} {a:List Rg} (h:a.length≤1048576) (hk:kids≤1048576):∀n∈[rj op mn mx lz cap kids a],sy n:=by
 intro n hn;simp only[List.mem_cons,List.not_mem_nil,or_false] at hn;subst hn;exact⟨rfl,h,hk⟩
def sa (gs:List (Nat×Nat)) (s s':eG) (d:D):Prop:=
 s'.o=s.o∧s'.g≤4∧s.i≤s'.i∧s'.i≤gs.length∧∃l:List ec,d=sf l∧(∀n∈l,sy n)∧l.length≤4*(s'.i-s.i)+1
def ia (gs:List (Nat×Nat)) (s s':eG) (d:D) (c:Nat):Prop:=
 s'.o=s.o∧s'.g≤4∧s.i≤s'.i∧s'.i≤gs.length∧∃l:List ec,d=sf l∧(∀n∈l,sy n)∧l.length≤4*(s'.i-s.i)+1∧(s'.e≠0∨s'.e=0∧l.length+c≤4*(s'.i-s.i))
theorem fy {gs:List (Nat×Nat)} {s s':eG} {c:Nat} (h1:s'.o=s.o) (h2:s'.g≤4) (h3:s.i≤s'.i) (h4:s'.i≤gs.length) (h5:s'.e≠0):ia gs s s' (.sl []) c:=
 ⟨h1,h2,h3,h4,[],rfl,fun n hn=>(by cases hn),by simp,.inl h5⟩
theorem Ar {N k:Nat} {S s0:St} {H:List cz} {gs:List (Nat×Nat)} {bD:D} {bd:List Int} {s:eG} (dz:jV gs bd) (he:s.e=0) (hi:s.i<gs.length) (hg:s.g≤4) (hH:Has N S s0 (.box k (.mem 0 false (aW gs bD s))::.aT bD 1 (bd.map aq)::H)):
  ∃d ai,Ev pv 102 [.ptr k 0 0] s0 d ai∧∃(s':eG),ia gs s s' d 2∧Has N S ai (.box k (.mem 0 false (aW gs bD s'))::.aT bD 1 (bd.map aq)::H):=by
 have nF:=dz.gl;have ji:=dz.pl;refine Ev.mP rfl MF rfl rfl rfl ?_;dsimp only[u3,u4,List.length,Nat.reduceSub,Nat.reduceAdd,w1,w2];have cy:=hH;have hH:=hH.cH;have cq:(aj .rw s0).bs=s0.bs:=rfl;generalize aj .rw s0=S2 at*;have zS:Arg N S2 2 (bZ gs) (gs.map aU):=Arg.pure (fun st=>cT st gs);refine qq<|qj fun K hK=>qm ?_;refine qe hK<|qq<|qj fun K hK=>qm ?_;refine qg ?_;refine qp (o:=2) ?_;refine ql hH aB ?_;refine qm ?_;refine qe hK<|qq<|qj fun K hK=>qm ?_;refine qg ?_;refine qp (o:=2) ?_;refine ql hH aB ?_;refine qA ?_;refine qg ?_;refine qp (o:=2) ?_;refine qT hH aB fun st hH=>?_;dsimp only[u2,u1,u3,u4,setMany,u5,u6,D.cells,Nat.reduceAdd,aW,aU,aq,aw] at hH;refine qe hK ?_;have hH:Has N S2 st (.box k (.mem 0 false (aW gs bD {s with i:=s.i+1}))::.aT bD 1 (bd.map aq)::H):=hH;obtain⟨k1,k2,k3,k4,k5⟩:=fY (gs:=gs) (s:={s with i:=s.i+1}) (r:=94);have k5:=k5 (by show s.i+1≤_;omega);simp only at k1 k2 k3 k4;refine qq<|qj fun K hK=>qm ?_;obtain⟨_,st,aS,rfl,hH⟩:=dJ (s:={s with i:=s.i+1}) (by omega) 94 hH;refine qv aS ?_;refine qm ?_;refine qe hK ?_;generalize cQ gs {s with i:=s.i+1} 94=s1 at*;generalize ki gs ({s with i:=s.i+1}:eG).i 94=nt at*;refine qq<|qj fun K hK=>qm ?_;refine qe hK<|qq<|qj fun K hK=>qm ?_;refine qe hK ?_
 have hH:Has N S2 st (.box k (.mem 0 false (aW gs bD s1))::.aT bD 1 (bd.map aq)::.aT .nul 2 (([]:List Rg).map aw)::H):=((hH.fx 2).front bu|>.front ez|>fun h=>(h.front bu))
 refine qq<|af.block<|af.loop (fun mm fr st=>∃(s1:eG) (ld:D) (lr:List Rg) (nn:Bool),fr.clean=⟨7,[.ptr k 0 0,vi fr 1,vi fr 2,.int .i64 (s.i:Nat),.bool nt,ld,.bool nn],[]⟩∧Has N S2 st (.box k (.mem 0 false (aW gs bD s1))::.aT bD 1 (bd.map aq)::.aT ld 2 (lr.map aw)::H)∧(s1.o=s.o)∧(s1.g=s.g)∧(s.i<s1.i)∧(s1.i≤gs.length)∧(lr.length≤8*s1.i+8)∧(s1.e=0→lr.length≤8*s1.i)∧(gs.length-s1.i+(if s1.e=0 then 1 else 0)≤mm)) (gs.length+1) ?_ ?_
 ·exact⟨s1,.nul,[],true,rfl,hH,k1,k2,by omega,k5,by simp,fun _=>by simp,by split<;>omega⟩
 rintro mm fr st ⟨s1,ld,lr,nn,hfr,hH,h1,h2,h3,h4,h5,h6,sk⟩;rw[hfr];clear hfr;generalize vi fr=ee;clear fr
 by_cases jj:s1.e=0
 ·rw[if_pos jj] at sk;have h6:=h6 jj;have bc:(s1.e==0)=true:=by simpa using jj
  refine qq<|qq<|qj fun K hK=>qm ?_;refine qg ?_;refine qp (o:=5) ?_;refine ql hH aB ?_;refine qg ?_;refine qm ?_;refine qm ?_ (hg:=wi bc);obtain⟨_,st,aS,rfl,hH⟩:=mS (s:=s1) (by omega) 93 hH;refine qv aS ?_ (hg:=wi bc);refine qg ?_ (hg:=wi bc);refine qt bc ?_;refine qe hK ?_
  cases hb:ki gs s1.i 93 with
  |true=>
   have hlt:=oo hb;refine qC ?_;refine af.exit<|qq<|qq<|qj fun K hK=>qm ?_;refine qg ?_;refine qp (o:=5) ?_;refine ql hH aB ?_;refine qg ?_;refine qe hK<|qE rfl (by simp[jj]) ?_;refine af.skip<|qq<|qq<|qj fun K hK=>qm ?_;refine qe hK ?_
   cases nn with
   |true=>
    refine qB ?_;refine qq<|qj fun K hK=>qm ?_;refine qm ?_;obtain⟨_,st,aS,rfl,hH⟩:=cU (s:=s1) s.i 4 (by omega) hH;refine qv aS ?_;refine qm ?_;refine qe hK ?_;obtain⟨w1,w2,w3,w4⟩:=db (bd:=bd) (s:=s1) (i:=s.i) (e:=4) jj (by decide);refine af.ret ⟨rx,_,_,_,rfl,av (rfl),?_⟩;exact⟨_,fy (by omega) (by omega) (by omega) (by omega) w1,cy.aA cq (hH.erase 2)⟩
   |false=>
    refine qC ?_;refine af.skip<|qq<|qj fun K hK=>qm ?_;refine qg ?_;refine qp (o:=2) ?_;refine ql hH aB ?_;refine qA ?_;refine qg ?_;refine qp (o:=2) ?_;refine qT hH aB fun st hH=>?_;dsimp only[u2,u1,u3,u4,setMany,u5,u6,D.cells,Nat.reduceAdd,aW,aU,aq,aw] at hH;refine qe hK<|qq<|qj fun K hK=>qm ?_;obtain⟨aS,x6,_⟩:=k_ (l:=lr) (hH.rows ez) (by omega);refine qv aS ?_;refine qm ?_;refine qe hK ?_;generalize jE lr=m at*;refine qq<|qq<|qj fun K hK=>qm ?_;refine qe hK ?_
    have dD:∀(st:St) (a:List Rg) (E1:Nat),a.length≤1048576→S2.bs.length≤E1→Has N S2 st (.aT (.win E1 0 0 1 7) 7 [[.int .i64 2,bt a,.int .i64 0,.int .i64 0,.bool false,.int .i64 0,.int .i64 0]]::.box k (.mem 0 false (aW gs bD {s1 with i:=s1.i+1}))::.aT bD 1 (bd.map aq)::.aT ld 2 (lr.map aw)::H)→
      ∃d ai,cE .rw false s0 st (.win E1 0 0 1 7)=some (d,ai)∧∃(s':eG),ia gs s s' d 2∧Has N S ai (.box k (.mem 0 false (aW gs bD s'))::.aT bD 1 (bd.map aq)::H):=by
     intro st a E1 ha hk hH;have hfz:=gR hH aB (L:=s0.bs.length) (.inl rfl) (fun k hk=>by simp only[D.ref] at hk;rw[←cq];omega);exact⟨_,_,av hfz,{s1 with i:=s1.i+1},⟨h1,by show s1.g≤4;omega,by show s.i≤s1.i+1;omega,by show s1.i+1≤_;omega,_,rfl,zo ha (by omega),by simp,.inr ⟨jj,by show 1+2≤4*(s1.i+1-s.i);omega⟩⟩,cy.aA cq ((hH.drop 1).erase 2)⟩
    cases nt with
    |true=>
     refine qB ?_;refine qj fun K hK=>qm ?_;obtain⟨_,aS,a,rfl,hla⟩:=zk (l:=m) (dZ _ _) (by omega);refine qv aS ?_;refine qm ?_;refine qe hK<|qq<|qj fun K hK=>qm ?_;refine ae.gB (qs:=[(0,_),(1,_)]) rfl rfl rfl rfl ⟨rfl,(ev rfl),(by rfl),rfl,(ev rfl),(by rfl),trivial⟩ (by intro q hq;simp only[List.mem_cons,List.not_mem_nil,or_false] at hq;rcases hq with rfl|rfl<;>exact⟨rfl,by exact Nat.le_of_ble_eq_true rfl⟩) (by show List.foldl _ [_,_,_,_,_,_,_] _=_;dsimp only[List.foldl_cons,List.foldl_nil,u2,u1]<;>rfl) (ag rfl _) ?_;refine qh (s:=7) (vs:=[_]) hH fun E1 st Jn hH=>?_;refine qm ?_;refine qe hK ?_;obtain⟨d',ai,tR,gb⟩:=dD _ a E1 (by omega) Jn hH;refine af.ret ⟨rx,_,d',ai,rfl,tR,gb⟩
    |false=>
     refine qC ?_;refine af.skip<|qq<|qj fun K hK=>qm ?_;refine ae.gB (qs:=[(0,_),(1,_)]) rfl rfl rfl rfl ⟨rfl,(ev rfl),(by rfl),rfl,(ev rfl),(by rfl),trivial⟩ (by intro q hq;simp only[List.mem_cons,List.not_mem_nil,or_false] at hq;rcases hq with rfl|rfl<;>exact⟨rfl,by exact Nat.le_of_ble_eq_true rfl⟩) (by show List.foldl _ [_,_,_,_,_,_,_] _=_;dsimp only[List.foldl_cons,List.foldl_nil,u2,u1]<;>rfl) (ag rfl _) ?_;refine qh (s:=7) (vs:=[_]) hH fun E1 st Jn hH=>?_;refine qm ?_;refine qe hK ?_;obtain⟨d',ai,tR,gb⟩:=dD _ m E1 (by omega) Jn hH;refine af.ret ⟨rx,_,d',ai,rfl,tR,gb⟩
  |false=>
   refine qB ?_;refine af.skip<|af.block<|qq<|qq<|qj fun K hK=>qm ?_;refine qg ?_;refine qp (o:=2) ?_;refine ql hH aB ?_;refine qm ?_;refine qg ?_;refine qp (o:=0) ?_;refine ql hH aB ?_;refine qn ?_;simp only[List.length_map];refine qg ?_;refine qe hK ?_;refine af.cond (by rfl) (fun hge=>?_) (fun hge=>?_)<;>try simp only[decide_eq_true_eq,decide_eq_false_iff_not] at hge
   ·refine qq<|qj fun K hK=>qm ?_;refine qm ?_;obtain⟨_,st,aS,rfl,hH⟩:=cU (s:=s1) s.i 4 (by omega) hH;refine qv aS ?_;refine qm ?_;refine qe hK ?_;obtain⟨w1,w2,w3,w4⟩:=db (bd:=bd) (s:=s1) (i:=s.i) (e:=4) jj (by decide);refine af.ret ⟨rx,_,_,_,rfl,av (rfl),?_⟩;exact⟨_,fy (by omega) (by omega) (by omega) (by omega) w1,cy.aA cq (hH.erase 2)⟩
   ·refine af.skip<|qq<|qj fun K hK=>qm ?_;refine qm ?_;obtain⟨_,st,aS,s2,⟨i1,i2,i3,i4,a,rfl,i5,i6⟩,hH⟩:=D_ (s:=s1) dz jj (by omega) hH;have I9:=(ie a).arg N S2;have Rj:=uV a;refine qv aS ?_;refine ae.bG (s:=2) hH rfl (ev rfl) (ev rfl) (by exact ez) (by exact Arg.rows (by assumption) hH) rfl rfl rfl rfl rfl rfl rfl ⟨(Nat.le_of_ble_eq_true rfl),(Nat.le_of_ble_eq_true rfl)⟩ (fun _=>(ag rfl _)) (by simp only[List.length_map]<;>omega) (by exact .inr (by assumption)) (fun Sq st hH=>?_);dsimp only[u2,u1,u3,u4,setMany,u5,u6,D.cells,Nat.reduceAdd,aW,aU,aq,aw] at hH;refine qm ?_;refine qe hK<|qj fun K hK=>qm ?_;refine qe hK ?_;exact⟨mm-1,by omega,⟨s2,Sq,lr++a,false,rfl,(by rw[List.map_append];exact hH),i1.trans h1,i2.trans h2,by omega,i4,by rw[List.length_append];omega,fun e=>by rw[List.length_append];omega,by split<;>omega⟩⟩
 ·have bc:(s1.e==0)=false:=by simpa using jj
  refine qq<|qq<|qj fun K hK=>qm ?_;refine qg ?_;refine qp (o:=5) ?_;refine ql hH aB ?_;refine qg ?_;refine qm ?_;refine qs ?_ (hg:=wn bc);refine qs ?_ (hg:=wn bc);refine qs ?_ (hg:=wn bc);refine qu bc ?_;refine qe hK<|qC ?_;refine af.exit<|qq<|qq<|qj fun K hK=>qm ?_;refine qg ?_;refine qp (o:=5) ?_;refine ql hH aB ?_;refine qg ?_;refine qe hK<|qD rfl (by simp[jj]) ?_;refine qq<|qj fun K hK=>qm ?_;refine qe hK<|af.ret ⟨rx,_,_,_,rfl,av (rfl),?_⟩;exact⟨_,fy h1 (by omega) (by omega) h4 jj,cy.aA cq (hH.erase 2)⟩
end Go.Proofs.Ytbdilgkfnacahaa
namespace Go.Proofs.Ytbdilgkfnacahaa
open Go.V Go
def iQ (fr:Go.V.Fr) (k:Nat):Go.V.D:=Go.V.nth .bA fr.loc k
def oV (gs:List (Nat×Nat)) (s s':eG):Prop:=s'.o=s.o∧s'.g=s.g∧s.i<s'.i∧s'.i≤gs.length
theorem zg {N k:Nat} {S s0:St} {H:List cz} {gs:List (Nat×Nat)} {bD:D} {bd:List Int} {s:eG} (dz:jV gs bd) (he:s.e=0) (hi:s.i<gs.length) (hH:Has N S s0 (.box k (.mem 0 false (aW gs bD s))::.aT bD 1 (bd.map aq)::H)):
  ∃d ai,Ev pv 95 [.ptr k 0 0] s0 d ai∧∃(n1 n2:Int) (s':eG),d=.tup [.int .i64 n1,.int .i64 n2]∧oV gs s s'∧Has N S ai (.box k (.mem 0 false (aW gs bD s'))::.aT bD 1 (bd.map aq)::H):=by
 have nF:=dz.gl;have ji:=dz.pl;have hne:gs≠[]:=by rintro rfl;simp at hi
 refine Ev.mP rfl Pz rfl rfl rfl ?_;dsimp only[u3,u4,List.length,Nat.reduceSub,Nat.reduceAdd,w1,w2];have cy:=hH;have hH:=hH.cH;have cq:(aj .rw s0).bs=s0.bs:=rfl;generalize aj .rw s0=S2 at*;refine qq<|qj fun K hK=>qm ?_;refine qm ?_;refine qe hK<|qq<|qj fun K hK=>qm ?_;refine qg ?_;refine qp (o:=2) ?_;refine ql hH aB ?_;refine qm ?_;refine qe hK<|qq<|qj fun K hK=>qm ?_;refine qg ?_;refine qp (o:=2) ?_;refine ql hH aB ?_;refine qA ?_;refine qg ?_;refine qp (o:=2) ?_;refine qT hH aB fun st hH=>?_;dsimp only[u2,u1,u3,u4,setMany,u5,u6,D.cells,Nat.reduceAdd,aW,aU,aq,aw] at hH;refine qe hK ?_;have hH:Has N S2 st (.box k (.mem 0 false (aW gs bD {s with i:=s.i+1}))::.aT bD 1 (bd.map aq)::H):=hH
 have zW:∀(st:St) (s3:eG) (e:Int),e≠0→s3.e=0→oV gs s s3→Has N S2 st (.box k (.mem 0 false (aW gs bD s3))::.aT bD 1 (bd.map aq)::H)→∃d ai,Ev pv 55 [.ptr k 0 0,.int .i64 (s.i:Nat),.int .i64 e] st d ai∧d=.sl []∧∃s4,oV gs s s4∧Has N S2 ai (.box k (.mem 0 false (aW gs bD s4))::.aT bD 1 (bd.map aq)::H):=by
  intro st s3 e h0 h1 h2 hH;obtain⟨d,ai,aS,h4,hH⟩:=cU (s:=s3) s.i e (by omega) hH;obtain⟨w1,w2,w3,w4⟩:=db (bd:=bd) (s:=s3) (i:=s.i) (e:=e) h1 h0;exact⟨d,ai,aS,h4,_,⟨w3.trans h2.1,w4.trans h2.2.1,by rw[w2];exact h2.2.2.1,by rw[w2];exact h2.2.2.2⟩,hH⟩
 refine qq<|qj fun K hK=>qm ?_;obtain⟨_,st,aS,m,ok,mm,rfl,x6,Uy,hH⟩:=pW (s:={s with i:=s.i+1}) nF (by show s.i+1≤_;omega) hne hH;refine qv aS ?_;refine qm ?_;refine qg ?_;refine qg ?_;refine qm ?_;refine qm ?_;refine qe hK ?_
 obtain⟨s1,jf⟩:∃s1:eG,({s with i:=s.i+1+mm}:eG)=s1:=⟨_,rfl⟩
 have I3:s1.e=0:=by rw[←jf];exact he
 have zH:oV gs s s1:=by rw[←jf];exact⟨rfl,rfl,by show s.i<s.i+1+mm;omega,Uy⟩
 have hH:Has N S2 st (.box k (.mem 0 false (aW gs bD s1))::.aT bD 1 (bd.map aq)::H):=by rw[←jf];exact hH
 clear jf;refine qq<|qj fun K hK=>qm ?_;refine qm ?_;refine qm ?_;refine qe hK<|qq<|qq<|af.mb (fun fr st=>∃(n:List UInt8) (en:Bool) (s3:eG) (tmp:List (Nat×D)),fr=⟨14,[.ptr k 0 0,iQ fr 1,iQ fr 2,iQ fr 3,.int .i64 (s.i:Nat),.str m,.bool ok,.str n,.bool en,iQ fr 9,iQ fr 10,iQ fr 11,iQ fr 12,iQ fr 13],tmp⟩∧Has N S2 st (.box k (.mem 0 false (aW gs bD s3))::.aT bD 1 (bd.map aq)::H)∧(s3.e=0)∧(oV gs s s3)∧(n.length≤120)) ?_ ?_
 ·cases ok with
  |false=>
   have da:false=false:=rfl;refine qj fun K hK=>qm ?_;refine qm ?_;refine qs ?_ (hg:=wn da);refine qs ?_ (hg:=wn da);refine qu da ?_;refine qe hK<|qC ?_;refine af.skip ?_;exact⟨m,false,s1,_,rfl,hH,I3,zH,x6⟩
  |true=>
   have da:true=true:=rfl;obtain⟨k1,k2,k3,k4,k5⟩:=fY (gs:=gs) (s:=s1) (r:=44);have k5:=k5 zH.2.2.2;refine qj fun K hK=>qm ?_;refine qm ?_;refine qm ?_ (hg:=wi da);obtain⟨_,st,aS,rfl,hH⟩:=dJ (s:=s1) (by omega) 44 hH;refine qv aS ?_ (hg:=wi da);refine qt da ?_;refine qe hK ?_;generalize cQ gs s1 44=s2 at*
   have Eh:oV gs s s2:=⟨k1.trans zH.1,k2.trans zH.2.1,by have:=zH.2.2.1;omega,k5⟩
   cases hb:ki gs s1.i 44 with
   |false=>
    refine qC ?_;refine af.skip ?_;exact⟨m,false,s2,_,rfl,hH,k3.trans I3,Eh,x6⟩
   |true=>
    refine qB ?_;refine qq<|qj fun K hK=>qm ?_;refine qe hK<|qq<|qj fun K hK=>qm ?_;obtain⟨_,st,aS,n,there,uB,rfl,zL,hni,hH⟩:=pW (s:=s2) nF k5 hne hH;refine qv aS ?_;refine qm ?_;refine qg ?_;refine qg ?_;refine qm ?_;refine qm ?_;refine qe hK<|qj fun K hK=>qm ?_;refine qg ?_;refine qm ?_;refine qe hK ?_;exact⟨n,!there,{s2 with i:=s2.i+uB},_,rfl,hH,k3.trans I3,⟨Eh.1,Eh.2.1,by have:=Eh.2.2.1;show s.i<s2.i+uB;omega,hni⟩,zL⟩
 ·rintro fr st ⟨n,en,s3,tmp,hfr,hH,h1,h2,h3⟩;rw[hfr];clear hfr;generalize iQ fr=ee;clear fr;obtain⟨k1,k2,k3,k4,k5⟩:=fY (gs:=gs) (s:=s3) (r:=125);have k5:=k5 h2.2.2.2
  have x4:oV gs s (cQ gs s3 125):=⟨k1.trans h2.1,k2.trans h2.2.1,by have:=h2.2.2.1;omega,k5⟩
  have Eg:(cQ gs s3 125).e=0:=k3.trans h1
  cases ok with
  |false=>
   have bm:(!false)=true:=rfl;refine qq<|qq<|qj fun K hK=>qm ?_;refine qg ?_;refine qm ?_;refine qs ?_ (hg:=wn bm);refine qs ?_ (hg:=wn bm);refine qs ?_ (hg:=wn bm);refine qt bm ?_;refine qm ?_;refine qs ?_;refine qs ?_;refine qs ?_;refine qs ?_;refine qs ?_;refine qs ?_;refine qs ?_;refine qg ?_;refine qe hK<|qB ?_;refine qq<|qj fun K hK=>qm ?_;refine qm ?_;obtain⟨_,st,aS,rfl,s4,UA,hH⟩:=zW _ s3 4 (by decide) h1 h2 hH;refine qv aS ?_;refine qe hK<|qq<|qj fun K hK=>qm ?_;refine qm ?_;refine qe hK<|af.ret ⟨rx,_,_,_,rfl,av (rfl),?_⟩;exact⟨_,_,s4,rfl,UA,cy.aA cq hH⟩
  |true=>
   have bm:(!true)=false:=rfl
   cases et:(!ki gs s3.i 125) with
   |true=>
    refine qq<|qq<|qj fun K hK=>qm ?_;refine qg ?_;refine qm ?_;refine qm ?_ (hg:=wi bm);obtain⟨_,st,aS,rfl,hH⟩:=dJ (s:=s3) (by omega) 125 hH;refine qv aS ?_ (hg:=wi bm);refine qg ?_ (hg:=wi bm);refine qu bm ?_;refine qm ?_;refine qs ?_ (hg:=wn et);refine qs ?_ (hg:=wn et);refine qs ?_ (hg:=wn et);refine qs ?_;refine qs ?_;refine qs ?_;refine qs ?_ (hg:=wn et);refine qt et ?_;refine qe hK ?_;generalize cQ gs s3 125=s4 at*;refine qB ?_;refine qq<|qj fun K hK=>qm ?_;refine qm ?_;obtain⟨_,st,aS,rfl,s5,Ji,hH⟩:=zW _ s4 4 (by decide) Eg x4 hH;refine qv aS ?_;refine qe hK<|qq<|qj fun K hK=>qm ?_;refine qm ?_;refine qe hK<|af.ret ⟨rx,_,_,_,rfl,av (rfl),?_⟩;exact⟨_,_,s5,rfl,Ji,cy.aA cq hH⟩
   |false=>
    have gb:True:=trivial
    cases en with
    |true=>
     have aV:(!true)=false:=rfl;refine qq<|qq<|qj fun K hK=>qm ?_;refine qg ?_;refine qm ?_;refine qm ?_ (hg:=wi bm);obtain⟨_,st,aS,rfl,hH⟩:=dJ (s:=s3) (by omega) 125 hH;refine qv aS ?_ (hg:=wi bm);refine qg ?_ (hg:=wi bm);refine qu bm ?_;refine qm ?_;refine qm ?_ (hg:=wi et);refine qg ?_ (hg:=wi et);refine qm ?_ (hg:=wi et);refine qs ?_ (hg:=wn aV);refine qs ?_ (hg:=wn aV);refine qs ?_ (hg:=wn aV);refine ae.cV (aH rfl rfl rfl et) rfl aV (ag rfl _) ?_;refine qu et ?_;refine qe hK ?_;generalize cQ gs s3 125=s4 at*;refine qC ?_;refine af.skip ?_;obtain⟨_,vp,a1,f1,rfl⟩:=kS (s0:=st) m (by omega);refine qq<|qj fun K hK=>qm ?_;refine qv (vp) ?_;refine qm ?_;refine qg ?_;refine qg ?_;refine qm ?_;refine qm ?_;refine qe hK<|qq<|qq<|qj fun K hK=>qm ?_;refine qe hK<|qB ?_;refine qj fun K hK=>qm ?_;refine qe hK ?_;obtain⟨_,uD,a2,f2,rfl⟩:=kS (s0:=st) [] (by simp);refine qq<|qj fun K hK=>qm ?_;refine qv (uD) ?_;refine qm ?_;refine qg ?_;refine qg ?_;refine qm ?_;refine qm ?_;refine qe hK<|qq<|qq<|af.eY 78 (.bool (!f1||!f2)) [] ?_ (fun ff tmp d_=>?_)
     ·refine qm ?_;refine qg ?_;refine qm ?_;refine ae.two 75 rfl (fun bm=>?_) (fun bm=>?_)
      ·refine qs ?_ (hg:=wn bm);refine qs ?_ (hg:=wn bm);refine qt bm ?_;refine ae.nil (bq ?_ ?_)
       ·dsimp only[aD,List.foldl,nth,u2,u1]
        all_goals(first|rfl|simp)
       ·dsimp only[Fr.au,Fr.put,Fr.clean,Fr.ev,Fr.get,nth,V.look,u1,u2,v1,v2,v3,v4,v5,v6,v7,List.length,u3,u4,Nat.reduceSub,Nat.reduceAdd,List.map]
        all_goals(simp[bm];done)
      ·refine qm ?_ (hg:=wi bm);refine qg ?_ (hg:=wi bm);refine qu bm ?_;refine ae.nil (bq ?_ ?_)
       ·dsimp only[aD,List.foldl,nth,u2,u1]
        all_goals(first|rfl|simp)
       ·dsimp only[Fr.au,Fr.put,Fr.clean,Fr.ev,Fr.get,nth,V.look,u1,u2,v1,v2,v3,v4,v5,v6,v7,List.length,u3,u4,Nat.reduceSub,Nat.reduceAdd,List.map]
        all_goals(simp[bm];done)
     dsimp only[aD,List.foldl,nth,u2,u1];refine qc (fun x7=>?_) (fun x7=>?_)<;>try simp only[cs] at x7
     ·refine qq<|qj fun K hK=>qm ?_;refine qm ?_;obtain⟨_,st,aS,rfl,s5,Ji,hH⟩:=zW _ s4 2 (by decide) Eg x4 hH;refine qv aS ?_;refine qe hK<|qq<|qj fun K hK=>qm ?_;refine qm ?_;refine qe hK<|af.ret ⟨rx,_,_,_,rfl,av (rfl),?_⟩;exact⟨_,_,s5,rfl,Ji,cy.aA cq hH⟩
     ·refine af.skip<|qq<|qq<|qj fun K hK=>qm ?_;refine qe hK<|qB ?_;refine qj fun K hK=>qm ?_;refine qe hK<|qq<|qj fun K hK=>qm ?_;refine qm ?_;refine qm ?_;refine qm ?_;refine qe hK<|af.ret ⟨rx,_,_,_,rfl,av (rfl),?_⟩;exact⟨_,_,s4,rfl,x4,cy.aA cq hH⟩
    |false=>
     have aV:(!false)=true:=rfl;refine qq<|qq<|qj fun K hK=>qm ?_;refine qg ?_;refine qm ?_;refine qm ?_ (hg:=wi bm);obtain⟨_,st,aS,rfl,hH⟩:=dJ (s:=s3) (by omega) 125 hH;refine qv aS ?_ (hg:=wi bm);refine qg ?_ (hg:=wi bm);refine qu bm ?_;refine qm ?_;refine qm ?_ (hg:=wi et);refine qg ?_ (hg:=wi et);refine qm ?_ (hg:=wi et);refine qm ?_ (hg:=wi aV);refine qm ?_ (hg:=wi aV);obtain⟨_,hle,v,rfl⟩:=D6 (s0:=st) n m;refine ae.w7 (aH rfl rfl rfl aV) rfl hle (ag rfl _) ?_;refine ae.dA (aH rfl rfl rfl et) rfl aV (ag rfl _) ?_;refine qu et ?_;refine qe hK ?_;generalize cQ gs s3 125=s4 at*
     cases v with
     |true=>
      refine qB ?_;refine qq<|qj fun K hK=>qm ?_;refine qm ?_;obtain⟨_,st,aS,rfl,s5,Ji,hH⟩:=zW _ s4 4 (by decide) Eg x4 hH;refine qv aS ?_;refine qe hK<|qq<|qj fun K hK=>qm ?_;refine qm ?_;refine qe hK<|af.ret ⟨rx,_,_,_,rfl,av (rfl),?_⟩;exact⟨_,_,s5,rfl,Ji,cy.aA cq hH⟩
     |false=>
      refine qC ?_;refine af.skip ?_;obtain⟨_,vp,a1,f1,rfl⟩:=kS (s0:=st) m (by omega);refine qq<|qj fun K hK=>qm ?_;refine qv (vp) ?_;refine qm ?_;refine qg ?_;refine qg ?_;refine qm ?_;refine qm ?_;refine qe hK<|qq<|qq<|qj fun K hK=>qm ?_;refine qe hK<|qC ?_;refine af.skip ?_;obtain⟨_,uD,a2,f2,rfl⟩:=kS (s0:=st) n (by omega);refine qq<|qj fun K hK=>qm ?_;refine qv (uD) ?_;refine qm ?_;refine qg ?_;refine qg ?_;refine qm ?_;refine qm ?_;refine qe hK<|qq<|qq<|af.eY 78 (.bool (!f1||!f2)) [] ?_ (fun ff tmp d_=>?_)
      ·refine qm ?_;refine qg ?_;refine qm ?_;refine ae.two 75 rfl (fun bm=>?_) (fun bm=>?_)
       ·refine qs ?_ (hg:=wn bm);refine qs ?_ (hg:=wn bm);refine qt bm ?_;refine ae.nil (bq ?_ ?_)
        ·dsimp only[aD,List.foldl,nth,u2,u1]
         all_goals(first|rfl|simp)
        ·dsimp only[Fr.au,Fr.put,Fr.clean,Fr.ev,Fr.get,nth,V.look,u1,u2,v1,v2,v3,v4,v5,v6,v7,List.length,u3,u4,Nat.reduceSub,Nat.reduceAdd,List.map]
         all_goals(simp[bm];done)
       ·refine qm ?_ (hg:=wi bm);refine qg ?_ (hg:=wi bm);refine qu bm ?_;refine ae.nil (bq ?_ ?_)
        ·dsimp only[aD,List.foldl,nth,u2,u1]
         all_goals(first|rfl|simp)
        ·dsimp only[Fr.au,Fr.put,Fr.clean,Fr.ev,Fr.get,nth,V.look,u1,u2,v1,v2,v3,v4,v5,v6,v7,List.length,u3,u4,Nat.reduceSub,Nat.reduceAdd,List.map]
         all_goals(simp[bm];done)
      dsimp only[aD,List.foldl,nth,u2,u1];refine qc (fun x7=>?_) (fun x7=>?_)<;>try simp only[cs] at x7
      ·refine qq<|qj fun K hK=>qm ?_;refine qm ?_;obtain⟨_,st,aS,rfl,s5,Ji,hH⟩:=zW _ s4 2 (by decide) Eg x4 hH;refine qv aS ?_;refine qe hK<|qq<|qj fun K hK=>qm ?_;refine qm ?_;refine qe hK<|af.ret ⟨rx,_,_,_,rfl,av (rfl),?_⟩;exact⟨_,_,s5,rfl,Ji,cy.aA cq hH⟩
      ·refine af.skip<|qq<|qq<|qj fun K hK=>qm ?_;refine qe hK<|qC ?_;refine af.skip<|qq<|qj fun K hK=>qm ?_;refine qm ?_;refine qm ?_;refine qm ?_;refine qe hK<|af.ret ⟨rx,_,_,_,rfl,av (rfl),?_⟩;exact⟨_,_,s4,rfl,x4,cy.aA cq hH⟩
end Go.Proofs.Ytbdilgkfnacahaa
namespace Go.Proofs.Ytbdilgkfnacahaa
open Go.V Go
def cF (fr:Go.V.Fr) (k:Nat):Go.V.D:=Go.V.nth .bA fr.loc k
theorem nW:∀{l:List D},(∀d∈l,ch d=true)→refs l=0
 |[],_=>rfl
 |d::l,h=>by
  have h1:=nW (l:=l) fun d hd=>h d (List.mem_cons_of_mem _ hd);have h2:=h d (List.mem_cons_self ..)
  have h3:d.ref=0:=by cases d<;>first|rfl|(simp[ch] at h2)
  simp only[refs,h1,h3,Nat.max_self]
theorem py {l:List ec} (h:∀n∈l,sy n):refs (l.map bj).flatten=0:=
 nW fun d hd=>by
  obtain⟨e,he,w6⟩:=List.mem_flatten.1 hd;exact ma h e he d w6
def dB (l:List ec):List D:=[sf l]
theorem tk {l:List (List ec)} {i:Nat} {q:List ec} (h:l[i]?=some q):(l.map dB)[i]?=some (dB q):=by rw[List.getElem?_map,h];rfl
def eX:List (List ec)→Nat
 |[]=>0
 |l::ls=>l.length+eX ls
theorem dp:∀a b:List (List ec),eX (a++b)=eX a+eX b
 |[],b=>by simp[eX]
 |l::a,b=>by rw[List.cons_append,eX,eX,dp a b];omega
theorem pL {s0:St} {x:D} {parts:List (List ec)} (op:Int) (hx:V.Rows s0 1 x (parts.map dB)) (hv:∀l∈parts,∀n∈l,sy n) (hp:parts.length≤100000) (hs:eX parts≤100000):∃d,Ev pv 72 [.int .i64 op,x] s0 d s0∧∃l,d=sf l∧(∀n∈l,sy n)∧(parts.length=1→l.length≤eX parts)∧l.length≤eX parts+1:=by
 refine Ev.AS rfl PR rfl rfl rfl ?_;dsimp only[u3,u4,List.length,Nat.reduceSub,Nat.reduceAdd,w1,w2];obtain⟨bN,hF,hH⟩:=ri s0;generalize aj .ro s0=S at*;have hx:=Arg.of hx bN;refine qq<|qj fun K hK=>qm ?_;refine qe hK<|qq<|qq<|qj fun K hK=>qm ?_;refine qn ?_;simp only[List.length_map];refine qe hK<|af.block<|qq<|qj fun K hK=>qg ?_;refine qm ?_;refine qe hK ?_
 by_cases h0:parts.length=0
 ·refine qD rfl (by simp[h0]) ?_;refine qq<|qj fun K hK=>?_;refine ae.go (d:=.agg [.int .i64 1,.nul,.int .i64 0,.int .i64 0,.bool false,.int .i64 0,.int .i64 0]) (st1:=_) rfl rfl rfl (by dsimp only[Fr.put,u1,u2]<;>rfl) ?_;refine qh (s:=7) (vs:=[_]) hH fun MV st Jq hH=>?_;refine qm ?_;refine qe hK ?_;have hfz:=gR (L:=s0.bs.length) (a:=[]) hH aB (.inr ⟨rfl,rfl⟩) (fun k hk=>by have iU:MV+1=k+1:=hk;rw[←bN];omega);refine af.ret ⟨rx,_,_,rfl,rl bN hH (hfz),?_⟩;exact⟨_,rfl,zo (by simp) (by omega),by omega,by simp⟩
 have Ph:(((parts.length:Nat):Int)==0)=false:=by rw[beq_eq_false_iff_ne];omega
 refine qE rfl (by rw[Ph]) ?_;refine qq<|qj fun K hK=>qg ?_;refine qm ?_;refine qe hK ?_
 by_cases h1:parts.length=1
 ·obtain⟨q,hq⟩:∃q,parts[0]?=some q:=⟨parts[0]'(by omega),List.getElem?_eq_getElem _⟩
  have gI:=tk hq
  have Ej:parts=[q]:=by
   match parts,h1,hq with
   |[a],_,hq=>simp at hq;rw[hq]
  refine qD rfl (by simp[h1]) ?_;refine qq<|qj fun K hK=>qm ?_;refine qr fun Nw Jd=>?_;refine qR ?_;refine qm ?_;refine qe hK<|af.ret ⟨rx,_,_,rfl,rl bN hH (rfl),?_⟩;refine⟨q,rfl,hv q (List.mem_of_getElem? hq),fun _=>?_,?_⟩<;>rw[Ej]<;>simp[eX]
 have RT:(((parts.length:Nat):Int)==1)=false:=by rw[beq_eq_false_iff_ne];omega
 refine qE rfl (by rw[RT]) ?_;refine af.skip<|qq<|qj fun K hK=>qm ?_;refine qm ?_;refine qn ?_;simp only[List.length_map];refine ae.go (d:=.agg [.int .i64 op,.nul,.int .i64 0,.int .i64 0,.bool false,.int .i64 0,.int .i64 (parts.length:Nat)]) (st1:=_) rfl rfl rfl (by dsimp only[Fr.put,u1,u2]<;>rfl) ?_;refine qh (s:=7) (vs:=[_]) hH fun Rb st UZ hH=>?_;refine qm ?_;refine qe hK<|qq<|qq<|qj fun K hK=>qm ?_;refine qn ?_;simp only[List.length_map];refine qm ?_;refine qe hK ?_;have hH:Has s0.bs.length S st (.aT (.win Rb 0 0 1 7) 7 [[.int .i64 op,.nul,.int .i64 0,.int .i64 0,.bool false,.int .i64 0,.int .i64 (parts.length:Nat)]]::[]):=hH;refine af.block<|af.loop (fun mm fr st=>∃(i:Nat) (od:D) (es:List (List D)) (lo:List ec),fr.clean=⟨27,[cF fr 0,cF fr 1,cF fr 2,cF fr 3,cF fr 4,od,cF fr 6,cF fr 7,cF fr 8,cF fr 9,cF fr 10,cF fr 11,cF fr 12,cF fr 13,cF fr 14,cF fr 15,cF fr 16,cF fr 17,cF fr 18,cF fr 19,cF fr 20,cF fr 21,cF fr 22,cF fr 23,x,.int .i64 (parts.length:Nat),.int .i64 (i:Nat)],[]⟩∧Has s0.bs.length S st [.aT od 7 es]∧(i+mm=parts.length)∧(es.map (·.map ni)=lo.map bj)∧(∀e∈es,∀d∈e,mJ d=true)∧(∀n∈lo,sy n)∧(lo.length=1+eX (parts.take i))∧(∀k,od.ref=k+1→S.bs.length≤k)) (parts.length) ?_ ?_
 ·refine⟨0,.win Rb 0 0 1 7,[[.int .i64 op,.nul,.int .i64 0,.int .i64 0,.bool false,.int .i64 0,.int .i64 (parts.length:Nat)]],[rj op 0 0 false 0 (parts.length:Nat) []],rfl,hH,by omega,rfl,?_,zo (by simp) (by omega),by simp[eX],fun k hk=>by simp only[D.ref] at hk;omega⟩;intro e he d hd;simp only[List.mem_cons,List.not_mem_nil,or_false] at he;subst he;simp only[List.mem_cons,List.not_mem_nil,or_false] at hd
  rcases hd with rfl|rfl|rfl|rfl|rfl|rfl|rfl<;>rfl
 rintro mm fr st ⟨i,od,es,lo,hfr,hH,hi,vB,ht,Fa,hlen,E9⟩;rw[hfr];clear hfr;generalize cF fr=ee;clear fr;refine qq<|qj fun K hK=>qg ?_;refine qe hK ?_
 by_cases hlt:i<parts.length
 ·obtain⟨q,hq⟩:∃q,parts[i]?=some q:=⟨parts[i]'hlt,List.getElem?_eq_getElem _⟩
  have gI:=tk hq;have MZ:=hv q (List.mem_of_getElem? hq);have sr:es.length=lo.length:=by have:=congrArg List.length vB;simpa using this
  have TR:parts.take (i+1)=parts.take i++[q]:=by rw[List.take_add_one,hq];rfl
  have N1:eX (parts.take (i+1))=eX (parts.take i)+q.length:=by rw[TR,dp];simp[eX]
  have TY:eX (parts.take (i+1))≤eX parts:=by
   have:=dp (parts.take (i+1)) (parts.drop (i+1));rw[List.take_append_drop] at this;omega
  refine qq<|qD rfl (by simp;omega) ?_;refine af.skip<|qq<|af.block<|qq<|qj fun K hK=>qr fun Nu Ja=>?_;refine qR ?_;refine qm ?_;refine qe hK<|qj fun K hK=>qm ?_;refine qm ?_;refine ae.oE (s:=7) hH rfl (ev rfl) (ev rfl) aB ((pz MZ).rows st) rfl rfl rfl rfl rfl rfl rfl ⟨(Nat.le_of_ble_eq_true rfl),(Nat.le_of_ble_eq_true rfl)⟩ (fun _=>(ag rfl _)) (by rw[List.length_map];omega) (.inl hF) E9 (fun Sv st E9 hH=>?_);dsimp only[u2] at hH;refine qm ?_;refine qe hK<|qj fun K hK=>qA ?_;refine qm ?_;refine qe hK ?_;refine⟨mm-1,by omega,⟨i+1,Sv,es++q.map bj,lo++q,rfl,hH,by omega,by rw[List.map_append,List.map_append,vB,rf MZ],?_,?_,by rw[List.length_append,hlen,N1];omega,E9⟩⟩
  ·intro e he
   rcases List.mem_append.1 he with he|he
   ·exact ht e he
   ·exact oa MZ e he
  ·intro n hn
   rcases List.mem_append.1 hn with hn|hn
   ·exact Fa n hn
   ·exact MZ n hn
 ·refine qq<|qE rfl (by simp;omega) ?_;refine af.exit<|qq<|qj fun K hK=>qm ?_;refine qm ?_;refine qe hK ?_;have hik:i=parts.length:=by omega
  rw[hik,List.take_length] at hlen;refine af.ret ⟨rx,_,_,rfl,rl bN hH (gQ hH aB vB ht (fun k hk=>by have:=E9 k hk;rw[←bN];exact this) (by decide)),?_⟩;exact⟨_,rfl,Fa,by omega,by omega⟩
end Go.Proofs.Ytbdilgkfnacahaa
