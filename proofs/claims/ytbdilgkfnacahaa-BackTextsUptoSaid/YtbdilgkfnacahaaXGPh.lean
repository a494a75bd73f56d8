/-
 The parser of patterns: groups, one thing, how often, one behind the other, one or the other.
-/
import Derived.Test.YtbdilgkfnacahaaXGPc
import Derived.Test.YtbdilgkfnacahaaXGUe
set_option maxRecDepth 100000
set_option maxHeartbeats 4000000
set_option linter.unusedSimpArgs false
set_option linter.unusedVariables false
namespace Go.Proofs.Ytbdilgkfnacahaa
open Go.V Go
def fG (fr:Go.V.Fr) (k:Nat):Go.V.D:=Go.V.nth .bA fr.loc k
theorem lP {N:Nat} {S st:St} {H:List cz} {a b c:cz} (h:Has N S st (a::b::c::H)):Has N S st (b::c::a::H):=by
 have h1:=h.front bu;have h2:=h1.front ez;exact h2.front bu
def kf (m:Nat):Prop:=∀{N k:Nat} {S s0:St} {H:List cz} {gs:List (Nat×Nat)} {bD:D} {bd:List Int} {s:eG},jV gs bd→s.e=0→s.i≤gs.length→s.g≤4→s.o+m=20→Has N S s0 (.box k (.mem 0 false (aW gs bD s))::.aT bD 1 (bd.map aq)::H)→
 ∃d ai,Ev pv 54 [.ptr k 0 0] s0 d ai∧∃(s':eG),sa gs s s' d∧Has N S ai (.box k (.mem 0 false (aW gs bD s'))::.aT bD 1 (bd.map aq)::H)
theorem Aa {m:Nat} (hA:∀m',m'+1=m→kf m') {N k:Nat} {S s0:St} {H:List cz} {gs:List (Nat×Nat)} {bD:D} {bd:List Int} {s:eG} (dz:jV gs bd) (he:s.e=0) (hi:s.i<gs.length) (hg:s.g≤4) (ho:s.o+m=20) (hH:Has N S s0 (.box k (.mem 0 false (aW gs bD s))::.aT bD 1 (bd.map aq)::H)):
  ∃d ai,Ev pv 101 [.ptr k 0 0] s0 d ai∧∃(s':eG),ia gs s s' d 2∧Has N S ai (.box k (.mem 0 false (aW gs bD s'))::.aT bD 1 (bd.map aq)::H):=by
 have nF:=dz.gl;have ji:=dz.pl;refine Ev.mP rfl MG rfl rfl rfl ?_;dsimp only[u3,u4,List.length,Nat.reduceSub,Nat.reduceAdd,w1,w2];have cy:=hH;have hH:=hH.cH;have cq:(aj .rw s0).bs=s0.bs:=rfl;generalize aj .rw s0=S2 at*
 have hwr:∀(st:St) (s3:eG) (e:Int) (H2:List cz),e≠0→s3.e=0→s3.o=s.o→s3.g≤4→s.i≤s3.i→s3.i≤gs.length→Has N S2 st (.box k (.mem 0 false (aW gs bD s3))::.aT bD 1 (bd.map aq)::H2)→∃d ai,Ev pv 55 [.ptr k 0 0,.int .i64 (s.i:Nat),.int .i64 e] st d ai∧d=.sl []∧∃s4,ia gs s s4 (.sl []) 2∧Has N S2 ai (.box k (.mem 0 false (aW gs bD s4))::.aT bD 1 (bd.map aq)::H2):=by
  intro st s3 e H2 h0 h1 h2 h3 h4 h5 hH;obtain⟨d,ai,aS,h6,hH⟩:=cU (s:=s3) s.i e (by omega) hH;obtain⟨w1,w2,w3,w4⟩:=db (bd:=bd) (s:=s3) (i:=s.i) (e:=e) h1 h0;exact⟨d,ai,aS,h6,_,fy (w3.trans h2) (by omega) (by omega) (by omega) w1,hH⟩
 refine qq<|qj fun K hK=>qm ?_;refine qe hK<|qq<|qj fun K hK=>qm ?_;refine qg ?_;refine qp (o:=2) ?_;refine ql hH aB ?_;refine qm ?_;refine qe hK<|qq<|qj fun K hK=>qm ?_;refine qg ?_;refine qp (o:=2) ?_;refine ql hH aB ?_;refine qA ?_;refine qg ?_;refine qp (o:=2) ?_;refine qT hH aB fun st hH=>?_;dsimp only[u2,u1,u3,u4,setMany,u5,u6,D.cells,Nat.reduceAdd,aW,aU,aq,aw,bj] at hH;refine qe hK ?_;have hH:Has N S2 st (.box k (.mem 0 false (aW gs bD {s with i:=s.i+1}))::.aT bD 1 (bd.map aq)::H):=hH
 obtain⟨s1,jf⟩:∃s1:eG,({s with i:=s.i+1}:eG)=s1:=⟨_,rfl⟩
 have N5:s1.e=0∧s1.o=s.o∧s1.g=s.g∧s1.i=s.i+1:=by rw[←jf];exact⟨he,rfl,rfl,rfl⟩
 rw[jf] at hH;clear jf;obtain⟨f1,f2,f3,f4⟩:=N5;refine qq<|qj fun K hK=>qm ?_;refine qe hK<|qq<|qq<|af.mb (fun fr st=>∃(free:Bool) (s2:eG) (tmp:List (Nat×D)),fr=⟨7,[.ptr k 0 0,fG fr 1,fG fr 2,.int .i64 (s.i:Nat),.bool free,fG fr 5,fG fr 6],tmp⟩∧Has N S2 st (.box k (.mem 0 false (aW gs bD s2))::.aT bD 1 (bd.map aq)::H)∧(s2.e=0)∧(s2.o=s.o)∧(s2.g=s.g)∧(s.i+1≤s2.i)∧(s2.i≤gs.length)) ?_ ?_
 ·obtain⟨k1,k2,k3,k4,k5⟩:=fY (gs:=gs) (s:=s1) (r:=63);have k5:=k5 (by omega);refine qj fun K hK=>qm ?_;obtain⟨_,st,aS,rfl,hH⟩:=dJ (s:=s1) (by omega) 63 hH;refine qv aS ?_;refine qe hK ?_;generalize cQ gs s1 63=s2 at*
  cases hb:ki gs s1.i 63 with
  |false=>
   refine qC ?_;refine af.skip ?_;exact⟨false,s2,_,rfl,hH,by omega,by omega,by omega,by omega,by omega⟩
  |true=>
   refine qB ?_;refine qq<|qj fun K hK=>qm ?_;refine qe hK ?_;obtain⟨r1,r2,r3,r4,r5⟩:=fY (gs:=gs) (s:=s2) (r:=58);have r5:=r5 k5;refine qq<|qj fun K hK=>qm ?_;obtain⟨_,st,aS,rfl,hH⟩:=dJ (s:=s2) (by omega) 58 hH;refine qv aS ?_;refine qg ?_;refine qe hK ?_;generalize cQ gs s2 58=s3 at*
   cases hb2:ki gs s2.i 58 with
   |false=>
    refine qB ?_;refine qq<|qj fun K hK=>qm ?_;refine qm ?_;obtain⟨_,st,aS,rfl,s4,hN,hH⟩:=hwr _ s3 4 _ (by decide) (by omega) (by omega) (by omega) (by omega) (by omega) hH;refine qv aS ?_;refine qm ?_;refine qe hK<|af.ret ⟨rx,_,_,_,rfl,av (rfl),?_⟩;exact⟨s4,hN,cy.aA cq hH⟩
   |true=>
    refine qC ?_;refine af.skip ?_;exact⟨true,s3,_,rfl,hH,by omega,by omega,by omega,by omega,by omega⟩
 ·rintro fr st ⟨free,s2,tmp,hfr,hH,h1,h2,h3,h4,h5⟩;rw[hfr];clear hfr;generalize fG fr=ee;clear fr;refine qq<|qq<|qj fun K hK=>qm ?_;refine qg ?_;refine qp (o:=3) ?_;refine ql hH aB ?_;refine qg ?_;refine qe hK ?_
  by_cases RS:20≤s2.o
  ·have gK:decide (((s2.o:Nat):Int)≥20)=true:=by rw[decide_eq_true_eq];omega
   refine qD rfl (by rw[gK]) ?_;refine qq<|qj fun K hK=>qm ?_;refine qm ?_;obtain⟨_,st,aS,rfl,s4,hN,hH⟩:=hwr _ s2 10 _ (by decide) h1 h2 (by omega) (by omega) h5 hH;refine qv aS ?_;refine qm ?_;refine qe hK<|af.ret ⟨rx,_,_,_,rfl,av (rfl),?_⟩;exact⟨s4,hN,cy.aA cq hH⟩
  have gK:decide (((s2.o:Nat):Int)≥20)=false:=by rw[decide_eq_false_iff_not];omega
  refine qE rfl (by rw[gK]) ?_;refine af.skip<|qq<|qj fun K hK=>ae.go (d:=.agg [.int .i64 6,.nul,.int .i64 0,.int .i64 0,.bool false,.int .i64 0,.int .i64 1]) (st1:=_) rfl rfl rfl (ag rfl _) ?_;refine qa hH fun k5 st L2 hH=>?_;dsimp only[u2,u1,u3,u4,setMany,u5,u6,D.cells,Nat.reduceAdd,aW,aU,aq,aw,bj] at hH;refine qS hH aB fun st hH=>?_;dsimp only[u2,u1,u3,u4,setMany,u5,u6,D.cells,Nat.reduceAdd,aW,aU,aq,aw,bj] at hH;refine qe hK ?_;have hH:Has N S2 st (.box k (.mem 0 false (aW gs bD s2))::.aT bD 1 (bd.map aq)::.box k5 (.mem 0 false [.int .i64 6,.nul,.int .i64 0,.int .i64 0,.bool false,.int .i64 0,.int .i64 1])::H):=lP hH;refine qq<|qq<|af.mb (fun fr st=>∃(cap:Int) (s3:eG) (tmp:List (Nat×D)),fr=⟨7,[.ptr k 0 0,fG fr 1,fG fr 2,.int .i64 (s.i:Nat),.bool free,.ptr k5 0 0,fG fr 6],tmp⟩∧Has N S2 st (.box k (.mem 0 false (aW gs bD s3))::.aT bD 1 (bd.map aq)::.box k5 (.mem 0 false [.int .i64 6,.nul,.int .i64 0,.int .i64 0,.bool false,.int .i64 cap,.int .i64 1])::H)∧(s3.e=0)∧(s3.o=s.o)∧(s3.g≤4)∧(s3.i=s2.i)) ?_ ?_
  ·refine qj fun K hK=>qm ?_;refine qg ?_;refine qe hK ?_
   cases free with
   |true=>
    refine qC ?_;refine af.skip ?_;exact⟨0,s2,_,rfl,hH,h1,h2,by omega,rfl⟩
   |false=>
    refine qB ?_;refine qq<|qq<|qj fun K hK=>qm ?_;refine qg ?_;refine qp (o:=4) ?_;refine ql hH aB ?_;refine qg ?_;refine qe hK ?_
    by_cases RC:4≤s2.g
    ·have gK:decide (((s2.g:Nat):Int)≥4)=true:=by rw[decide_eq_true_eq];omega
     refine qD rfl (by rw[gK]) ?_;refine qq<|qj fun K hK=>qm ?_;refine qm ?_;obtain⟨_,st,aS,rfl,s4,hN,hH⟩:=hwr _ s2 13 _ (by decide) h1 h2 (by omega) (by omega) h5 hH;refine qv aS ?_;refine qm ?_;refine qe hK<|af.ret ⟨rx,_,_,_,rfl,av (rfl),?_⟩;exact⟨s4,hN,cy.aA cq (hH.erase 2)⟩
    ·have gK:decide (((s2.g:Nat):Int)≥4)=false:=by rw[decide_eq_false_iff_not];omega
     refine qE rfl (by rw[gK]) ?_;refine af.skip<|qq<|qj fun K hK=>qm ?_;refine qg ?_;refine qp (o:=4) ?_;refine ql hH aB ?_;refine qA ?_;refine qg ?_;refine qp (o:=4) ?_;refine qT hH aB fun st hH=>?_;dsimp only[u2,u1,u3,u4,setMany,u5,u6,D.cells,Nat.reduceAdd,aW,aU,aq,aw,bj] at hH;refine qe hK<|qj fun K hK=>qm ?_;refine qg ?_;refine qp (o:=4) ?_;refine ql hH aB ?_;refine qp (o:=5) ?_;refine qT hH ez fun st hH=>?_;dsimp only[u2,u1,u3,u4,setMany,u5,u6,D.cells,Nat.reduceAdd,aW,aU,aq,aw,bj] at hH;refine qe hK ?_;exact⟨((s2.g+1:Nat):Int),{s2 with g:=s2.g+1},_,rfl,hH,h1,h2,by show s2.g+1≤4;omega,rfl⟩
  ·rintro fr st ⟨cap,s3,tmp,hfr,hH,e1,e2,e3,e4⟩;rw[hfr];clear hfr;generalize fG fr=ee;clear fr;refine qq<|qj fun K hK=>qm ?_;refine qg ?_;refine qp (o:=3) ?_;refine ql hH aB ?_;refine qA ?_;refine qg ?_;refine qp (o:=3) ?_;refine qT hH aB fun st hH=>?_;dsimp only[u2,u1,u3,u4,setMany,u5,u6,D.cells,Nat.reduceAdd,aW,aU,aq,aw,bj] at hH;refine qe hK ?_;have hH:Has N S2 st (.box k (.mem 0 false (aW gs bD {s3 with o:=s3.o+1}))::.aT bD 1 (bd.map aq)::.box k5 (.mem 0 false [.int .i64 6,.nul,.int .i64 0,.int .i64 0,.bool false,.int .i64 cap,.int .i64 1])::H):=hH;refine qq<|qj fun K hK=>qm ?_;obtain⟨_,st,aS,s4,⟨a1,a2,a3,a4,l,rfl,a5,a6⟩,hH⟩:=hA (m-1) (by omega) (s:={s3 with o:=s3.o+1}) dz e1 (by show s3.i≤_;omega) e3 (by show s3.o+1+(m-1)=20;omega) hH;refine qv aS ?_;refine qm ?_;refine qe hK ?_;have a1:s4.o=s3.o+1:=a1;have a3:s3.i≤s4.i:=a3;have a6:l.length≤4*(s4.i-s3.i)+1:=a6;have hla:=(pz a5).arg N S2;refine qq<|qj fun K hK=>qm ?_;refine qg ?_;refine qp (o:=3) ?_;refine ql hH aB ?_;refine ae.gj (z:=((s.o:Nat):Int)) rfl (ev rfl) (ev rfl) (by(try simp only[List.length_reverse,List.length_cons,List.length_nil,List.length_append,List.length_map,List.length_set]);rw[wrap_i64 (by omega) (by omega)]<;>omega) (ag rfl _) ?_;refine qg ?_;refine qp (o:=3) ?_;refine qT hH aB fun st hH=>?_;dsimp only[u2,u1,u3,u4,setMany,u5,u6,D.cells,Nat.reduceAdd,aW,aU,aq,aw,bj] at hH;refine qe hK ?_
   obtain⟨s5,N4⟩:∃s5:eG,({s4 with o:=s.o}:eG)=s5:=⟨_,rfl⟩
   have hH:Has N S2 st (.box k (.mem 0 false (aW gs bD s5))::.aT bD 1 (bd.map aq)::.box k5 (.mem 0 false [.int .i64 6,.nul,.int .i64 0,.int .i64 0,.bool false,.int .i64 cap,.int .i64 1])::H):=by rw[←N4];exact hH
   have N3:s5.o=s.o∧s5.g=s4.g∧s5.i=s4.i:=by rw[←N4];exact⟨rfl,rfl,rfl⟩
   clear N4;obtain⟨b1,b2,b3⟩:=N3;refine qq<|qq<|af.mb (fun fr st=>∃(s6:eG) (tmp:List (Nat×D)),fr=⟨7,[.ptr k 0 0,fG fr 1,fG fr 2,fG fr 3,.bool free,.ptr k5 0 0,sf l],tmp⟩∧Has N S2 st (.box k (.mem 0 false (aW gs bD s6))::.aT bD 1 (bd.map aq)::.box k5 (.mem 0 false [.int .i64 6,.nul,.int .i64 0,.int .i64 0,.bool false,.int .i64 cap,.int .i64 1])::H)∧(s6.o=s.o)∧(s6.g≤4)∧(s4.i≤s6.i)∧(s6.i≤gs.length)∧(s6.e≠0∨s6.e=0∧s4.i<s6.i)) ?_ ?_
   ·by_cases O9:s5.e=0
    ·have bc:(s5.e==0)=true:=by simpa using O9
     obtain⟨k1,k2,k3,k4,Q9⟩:=fY (gs:=gs) (s:=s5) (r:=41);have Q9:=Q9 (by omega);have hsk:ki gs s5.i 41=true→(cQ gs s5 41).i=s5.i+1:=fun h=>by unfold cQ;rw[if_pos h]
     refine qj fun K hK=>qm ?_;refine qg ?_;refine qp (o:=5) ?_;refine ql hH aB ?_;refine qg ?_;refine qm ?_;refine qm ?_ (hg:=wi bc);obtain⟨_,st,aS,rfl,hH⟩:=dJ (s:=s5) (by omega) 41 hH;refine qv aS ?_ (hg:=wi bc);refine qg ?_ (hg:=wi bc);refine qt bc ?_;refine qe hK ?_;generalize cQ gs s5 41=s6 at*
     cases hb:ki gs s5.i 41 with
     |false=>
      refine qB ?_;refine qq<|qj fun K hK=>qm ?_;refine qm ?_;obtain⟨_,st,aS,rfl,s7,hN,hH⟩:=hwr _ s6 4 _ (by decide) (by omega) (by omega) (by omega) (by omega) (by omega) hH;refine qv aS ?_;refine qm ?_;refine qe hK<|af.ret ⟨rx,_,_,_,rfl,av (rfl),?_⟩;exact⟨s7,hN,cy.aA cq (hH.erase 2)⟩
     |true=>
      have hsk:=hsk hb;refine qC ?_;refine af.skip ?_;exact⟨s6,_,rfl,hH,by omega,by omega,by omega,by omega,.inr ⟨by omega,by omega⟩⟩
    ·have bc:(s5.e==0)=false:=by simpa using O9
     refine qj fun K hK=>qm ?_;refine qg ?_;refine qp (o:=5) ?_;refine ql hH aB ?_;refine qg ?_;refine qm ?_;refine qs ?_ (hg:=wn bc);refine qs ?_ (hg:=wn bc);refine qs ?_ (hg:=wn bc);refine qu bc ?_;refine qe hK<|qC ?_;refine af.skip ?_;exact⟨s5,_,rfl,hH,b1,by omega,by omega,by omega,.inl O9⟩
   ·rintro fr st ⟨s6,tmp,hfr,hH,c1,c2,c3,c4,c5⟩;rw[hfr];clear hfr;generalize fG fr=ee;clear fr;refine qq<|qq<|qj fun K hK=>qm ?_;refine qe hK ?_
    cases free with
    |true=>
     refine qB ?_;refine qq<|qj fun K hK=>qm ?_;refine qm ?_;refine qe hK<|af.ret ⟨rx,_,_,_,rfl,av (rfl),?_⟩;refine⟨s6,⟨c1,c2,by omega,c4,l,rfl,a5,by omega,?_⟩,cy.aA cq (hH.erase 2)⟩
     rcases c5 with c5|⟨c5,c6⟩
     ·exact .inl c5
     ·exact .inr ⟨c5,by omega⟩
    |false=>
     refine qC ?_;refine af.skip<|qq<|qj fun K hK=>?_;refine ae.bF (m:=7) hH rfl (ev rfl) (by exact ez) (by dsimp only[List.drop_succ_cons,List.drop_zero,List.take_succ_cons,List.take_zero,aW,aU,aq,aw,bj]<;>rfl) rfl rfl (ag rfl _) ?_;refine qh (s:=7) (vs:=[_]) hH fun Tk st UG hH=>?_;dsimp only[u2,u1,u3,u4,setMany,u5,u6,D.cells,Nat.reduceAdd,aW,aU,aq,aw,bj] at hH;refine qm ?_;refine ae.oE (s:=7) hH rfl (ev rfl) (ev rfl) aB ((pz a5).rows st) rfl rfl rfl rfl rfl rfl rfl ⟨(Nat.le_of_ble_eq_true rfl),(Nat.le_of_ble_eq_true rfl)⟩ (fun _=>(ag rfl _)) (by simp only[List.length_map,List.length_cons,List.length_nil];omega) (.inr (py a5)) (fun k hk=>by have iU:Tk+1=k+1:=hk;omega) (fun Si st E9 hH=>?_);dsimp only[u2] at hH;refine qm ?_;refine qe hK ?_;have hH:Has N S2 st (.aT Si 7 ([.int .i64 6,.nul,.int .i64 0,.int .i64 0,.bool false,.int .i64 cap,.int .i64 1]::l.map bj)::.box k (.mem 0 false (aW gs bD s6))::.aT bD 1 (bd.map aq)::.box k5 (.mem 0 false [.int .i64 6,.nul,.int .i64 0,.int .i64 0,.bool false,.int .i64 cap,.int .i64 1])::H):=hH
     have hfz:=gQ (L:=s0.bs.length) (l:=rj 6 0 0 false cap 1 []::l) hH aB (by rw[List.map_cons,rf a5];rfl) (fun e he d hd=>by
      rcases List.mem_cons.1 he with rfl|he
      ·simp only[List.mem_cons,List.not_mem_nil,or_false] at hd
       rcases hd with rfl|rfl|rfl|rfl|rfl|rfl|rfl<;>rfl
      ·exact oa a5 e he d hd) (fun k hk=>by rw[←cq];exact E9 k hk) (n:=16) (by decide)
     refine af.ret ⟨rx,_,_,_,rfl,av hfz,⟨s6,⟨c1,c2,by omega,c4,_,rfl,?_,by simp only[List.length_cons];omega,?_⟩,cy.aA cq ((hH.drop 1).erase 2)⟩⟩
     ·intro n hn
      rcases List.mem_cons.1 hn with rfl|hn
      ·exact⟨rfl,by simp[rj],by simp[rj]⟩
      ·exact a5 n hn
     ·rcases c5 with c5|⟨c5,c6⟩
      ·exact .inl c5
      ·exact .inr ⟨c5,by simp only[List.length_cons];omega⟩
def vh (fr:Go.V.Fr) (k:Nat):Go.V.D:=Go.V.nth .bA fr.loc k
theorem ny {gs:List (Nat×Nat)} {s:eG} {r:Int} (h:ki gs s.i r=false):cQ gs s r=s:=by
 unfold cQ;rw[if_neg (by rw[h];simp)]
theorem kW {gs:List (Nat×Nat)} {s:eG} {r:Int} (h:ki gs s.i r=true):(cQ gs s r).i=s.i+1:=by
 unfold cQ;rw[if_pos h]
theorem ER {m:Nat} (hA:∀m',m'+1=m→kf m') {N k:Nat} {S s0:St} {H:List cz} {gs:List (Nat×Nat)} {bD:D} {bd:List Int} {s:eG} (dz:jV gs bd) (he:s.e=0) (hi:s.i<gs.length) (hg:s.g≤4) (ho:s.o+m=20) (hH:Has N S s0 (.box k (.mem 0 false (aW gs bD s))::.aT bD 1 (bd.map aq)::H)):
  ∃d ai,Ev pv 94 [.ptr k 0 0] s0 d ai∧∃(s':eG),ia gs s s' d 2∧Has N S ai (.box k (.mem 0 false (aW gs bD s'))::.aT bD 1 (bd.map aq)::H):=by
 have nF:=dz.gl;have ji:=dz.pl;refine Ev.mP rfl PA rfl rfl rfl ?_;dsimp only[u3,u4,List.length,Nat.reduceSub,Nat.reduceAdd,w1,w2];have cy:=hH;have hH:=hH.cH;have cq:(aj .rw s0).bs=s0.bs:=rfl;generalize aj .rw s0=S2 at*;have zS:Arg N S2 2 (bZ gs) (gs.map aU):=Arg.pure (fun st=>cT st gs)
 obtain⟨g,U9⟩:∃g,gs[s.i]?=some g:=⟨gs[s.i]'hi,List.getElem?_eq_getElem _⟩
 have gI:(gs.map aU)[s.i]?=some (aU g):=by rw[List.getElem?_map,U9];rfl
 have hwr:∀(st:St),Has N S2 st (.box k (.mem 0 false (aW gs bD s))::.aT bD 1 (bd.map aq)::H)→∃d ai,Ev pv 55 [.ptr k 0 0,.int .i64 (s.i:Nat),.int .i64 4] st d ai∧d=.sl []∧∃s4,ia gs s s4 (.sl []) 2∧Has N S2 ai (.box k (.mem 0 false (aW gs bD s4))::.aT bD 1 (bd.map aq)::H):=by
  intro st hH;obtain⟨d,ai,aS,h6,hH⟩:=cU (s:=s) s.i 4 (by omega) hH;obtain⟨w1,w2,w3,w4⟩:=db (bd:=bd) (s:=s) (i:=s.i) (e:=4) he (by decide);exact⟨d,ai,aS,h6,_,fy w3 (by omega) (by omega) (by omega) w1,hH⟩
 have iS:∀(st:St) (s1:eG) (op:Int) (w:D) (a:List Rg) (kk:Nat),(w=bt a∨w=.nul∧a=[])→a.length≤1048576→s1.o=s.o→s1.g≤4→s.i<s1.i→s1.i≤gs.length→S2.bs.length≤kk→Has N S2 st (.aT (.win kk 0 0 1 7) 7 [[.int .i64 op,w,.int .i64 0,.int .i64 0,.bool false,.int .i64 0,.int .i64 0]]::.box k (.mem 0 false (aW gs bD s1))::.aT bD 1 (bd.map aq)::H)→
   ∃d ai,cE .rw false s0 st (.win kk 0 0 1 7)=some (d,ai)∧∃(s':eG),ia gs s s' d 2∧Has N S ai (.box k (.mem 0 false (aW gs bD s'))::.aT bD 1 (bd.map aq)::H):=by
  intro st s1 op w a kk hw ha h1 h2 h3 h4 hk hH;have hfz:=gR hH aB (L:=s0.bs.length) hw (fun k hk=>by simp only[D.ref] at hk;rw[←cq];omega);refine⟨_,_,av hfz,s1,⟨h1,h2,by omega,h4,_,rfl,zo ha (by omega),by simp,?_⟩,cy.aA cq (hH.drop 1)⟩
  by_cases he:s1.e=0
  ·exact .inr ⟨he,by simp only[List.length_cons,List.length_nil];omega⟩
  ·exact .inl he
 refine qq<|qj fun K hK=>qm ?_;refine qe hK<|qq<|qj fun K hK=>qm ?_;refine qg ?_;refine qp (o:=2) ?_;refine ql hH aB ?_;refine qm ?_;refine qe hK<|qq<|qq<|qj fun K hK=>qm ?_;refine qm ?_;obtain⟨_,st,aS,rfl,hH⟩:=vX (s:=s) s.i hi hH;refine qv aS ?_;refine qe hK ?_;refine qc (fun hb=>?_) (fun hb=>?_)<;>try simp only[cs] at hb
 ·refine qq<|qj fun K hK=>qm ?_;refine qm ?_;obtain⟨_,st,aS,rfl,s4,hN,hH⟩:=hwr _ hH;refine qv aS ?_;refine qm ?_;refine qe hK<|af.ret ⟨rx,_,_,_,rfl,av (rfl),?_⟩;exact⟨s4,hN,cy.aA cq hH⟩
 refine af.skip<|qq<|qj fun K hK=>qm ?_;refine qg ?_;refine qp (o:=0) ?_;refine ql hH aB ?_;refine qm ?_;refine qr fun MT En=>?_;refine qf (fo:=0) fun Q1 LF=>?_;refine qR ?_;refine qm ?_;refine qe hK<|qq<|qj fun K hK=>qm ?_;refine qe hK<|af.block<|qq<|qj fun K hK=>qg ?_;refine qm ?_;refine qe hK ?_;refine af.cond (by rfl) (fun QR=>?_) (fun QR=>?_)<;>try simp only[beq_iff_eq,beq_eq_false_iff_ne,ne_eq] at QR
 ·refine qq<|qj fun K hK=>qm ?_;obtain⟨_,st,aS,s4,⟨p1,p2,p3,p4,l,rfl,p5,p6,p7⟩,hH⟩:=Aa hA dz he hi hg ho hH;refine qv aS ?_;refine qm ?_;refine qe hK<|af.ret ⟨rx,_,_,_,rfl,av (rfl),?_⟩;exact⟨s4,⟨p1,p2,p3,p4,l,rfl,p5,p6,p7⟩,cy.aA cq hH⟩
 refine qq<|qj fun K hK=>qg ?_;refine qm ?_;refine qe hK ?_;refine af.cond (by rfl) (fun J7=>?_) (fun J7=>?_)<;>try simp only[beq_iff_eq,beq_eq_false_iff_ne,ne_eq] at J7
 ·refine qq<|qj fun K hK=>qm ?_;obtain⟨_,st,aS,s4,⟨p1,p2,p3,p4,l,rfl,p5,p6,p7⟩,hH⟩:=Ar dz he hi hg hH;refine qv aS ?_;refine qm ?_;refine qe hK<|af.ret ⟨rx,_,_,_,rfl,av (rfl),?_⟩;exact⟨s4,⟨p1,p2,p3,p4,l,rfl,p5,p6,p7⟩,cy.aA cq hH⟩
 refine qq<|qj fun K hK=>qg ?_;refine qm ?_;refine qe hK ?_;refine af.cond (by rfl) (fun QO=>?_) (fun QO=>?_)<;>try simp only[beq_iff_eq,beq_eq_false_iff_ne,ne_eq] at QO
 ·refine qq<|qj fun K hK=>qm ?_;obtain⟨_,st,aS,d1,b,s4,rfl,⟨p1,p2,p3,p4,p5,p6⟩,hH⟩:=wC (s:=s) dz he hi hH;refine qv aS ?_;refine qm ?_;refine qg ?_;refine qg ?_;refine qm ?_;refine qm ?_;refine qe hK ?_
  have Mb:∀(st:St) (w:D) (a:List Rg) (kk:Nat),(w=bt a∨w=.nul∧a=[])→a.length≤8→S2.bs.length≤kk→Has N S2 st (.aT (.win kk 0 0 1 7) 7 [[.int .i64 2,w,.int .i64 0,.int .i64 0,.bool false,.int .i64 0,.int .i64 0]]::.box k (.mem 0 false (aW gs bD s4))::.aT bD 1 (bd.map aq)::H)→∃d ai,cE .rw false s0 st (.win kk 0 0 1 7)=some (d,ai)∧∃(s':eG),ia gs s s' d 2∧Has N S ai (.box k (.mem 0 false (aW gs bD s'))::.aT bD 1 (bd.map aq)::H):=by
   intro st w a kk hw ha hk hH;have hfz:=gR hH aB (L:=s0.bs.length) hw (fun k hk=>by simp only[D.ref] at hk;rw[←cq];omega);refine⟨_,_,av hfz,s4,⟨p1,by omega,by omega,p4,_,rfl,zo (by omega) (by omega),by simp,?_⟩,cy.aA cq (hH.drop 1)⟩
   rcases p6 with p6|⟨p6,p7,_⟩
   ·exact .inl p6
   ·exact .inr ⟨p6,by simp only[List.length_cons,List.length_nil];omega⟩
  rcases p5 with rfl|⟨a,rfl,ha⟩
  ·refine qq<|qj fun K hK=>qm ?_;refine ae.gB (qs:=[(0,_),(1,_)]) rfl rfl rfl rfl ⟨rfl,(ev rfl),(by rfl),rfl,(ev rfl),(by rfl),trivial⟩ (by intro q hq;simp only[List.mem_cons,List.not_mem_nil,or_false] at hq;rcases hq with rfl|rfl<;>exact⟨rfl,by exact Nat.le_of_ble_eq_true rfl⟩) (by show List.foldl _ [_,_,_,_,_,_,_] _=_;dsimp only[List.foldl_cons,List.foldl_nil,u2,u1]<;>rfl) (ag rfl _) ?_;refine qh (s:=7) (vs:=[_]) hH fun NJ st Jo hH=>?_;dsimp only[u2,u1,u3,u4,setMany,u5,u6,D.cells,Nat.reduceAdd,aW,aU,aq,aw,bj] at hH;refine qm ?_;refine qe hK ?_;obtain⟨d',ai,tR,gb⟩:=Mb _ .nul [] NJ (.inr ⟨rfl,rfl⟩) (by simp) Jo hH;refine af.ret ⟨rx,_,d',ai,rfl,tR,gb⟩
  ·refine qq<|qj fun K hK=>qm ?_;refine ae.gB (qs:=[(0,_),(1,_)]) rfl rfl rfl rfl ⟨rfl,(ev rfl),(by rfl),rfl,(ev rfl),(by rfl),trivial⟩ (by intro q hq;simp only[List.mem_cons,List.not_mem_nil,or_false] at hq;rcases hq with rfl|rfl<;>exact⟨rfl,by exact Nat.le_of_ble_eq_true rfl⟩) (by show List.foldl _ [_,_,_,_,_,_,_] _=_;dsimp only[List.foldl_cons,List.foldl_nil,u2,u1]<;>rfl) (ag rfl _) ?_;refine qh (s:=7) (vs:=[_]) hH fun NJ st Jo hH=>?_;dsimp only[u2,u1,u3,u4,setMany,u5,u6,D.cells,Nat.reduceAdd,aW,aU,aq,aw,bj] at hH;refine qm ?_;refine qe hK ?_;obtain⟨d',ai,tR,gb⟩:=Mb _ (bt a) a NJ (.inl rfl) ha Jo hH;refine af.ret ⟨rx,_,d',ai,rfl,tR,gb⟩
 refine qq<|qj fun K hK=>qg ?_;refine qm ?_;refine qe hK ?_;refine af.cond (by rfl) (fun QP=>?_) (fun QP=>?_)<;>try simp only[beq_iff_eq,beq_eq_false_iff_ne,ne_eq] at QP
 ·refine qq<|qj fun K hK=>qm ?_;refine qg ?_;refine qp (o:=2) ?_;refine ql hH aB ?_;refine qA ?_;refine qg ?_;refine qp (o:=2) ?_;refine qT hH aB fun st hH=>?_;dsimp only[u2,u1,u3,u4,setMany,u5,u6,D.cells,Nat.reduceAdd,aW,aU,aq,aw,bj] at hH;refine qe hK ?_;obtain⟨_,O',a,rfl,hla⟩:=JT (s0:=st);refine qq<|qj fun K hK=>qv (O') ?_;refine ae.gB (qs:=[(0,_),(1,_)]) rfl rfl rfl rfl ⟨rfl,(ev rfl),(by rfl),rfl,(ev rfl),(by rfl),trivial⟩ (by intro q hq;simp only[List.mem_cons,List.not_mem_nil,or_false] at hq;rcases hq with rfl|rfl<;>exact⟨rfl,by exact Nat.le_of_ble_eq_true rfl⟩) (by show List.foldl _ [_,_,_,_,_,_,_] _=_;dsimp only[List.foldl_cons,List.foldl_nil,u2,u1]<;>rfl) (ag rfl _) ?_;refine qh (s:=7) (vs:=[_]) hH fun Q8 st L1 hH=>?_;refine qm ?_;refine qe hK ?_;obtain⟨d',ai,tR,gb⟩:=iS _ {s with i:=s.i+1} 2 (bt a) a Q8 (.inl rfl) (by omega) rfl hg (by show s.i<s.i+1;omega) (by show s.i+1≤_;omega) L1 hH;refine af.ret ⟨rx,_,d',ai,rfl,tR,gb⟩
 refine qq<|qj fun K hK=>qg ?_;refine qm ?_;refine qe hK ?_;refine af.cond (by rfl) (fun QN=>?_) (fun QN=>?_)<;>try simp only[beq_iff_eq,beq_eq_false_iff_ne,ne_eq] at QN
 ·refine qq<|qj fun K hK=>qm ?_;refine qg ?_;refine qp (o:=2) ?_;refine ql hH aB ?_;refine qA ?_;refine qg ?_;refine qp (o:=2) ?_;refine qT hH aB fun st hH=>?_;dsimp only[u2,u1,u3,u4,setMany,u5,u6,D.cells,Nat.reduceAdd,aW,aU,aq,aw,bj] at hH;refine qe hK<|qq<|qj fun K hK=>ae.go (d:=.agg [.int .i64 7,.nul,.int .i64 0,.int .i64 0,.bool false,.int .i64 0,.int .i64 0]) (st1:=_) rfl rfl rfl (ag rfl _) ?_;refine qh (s:=7) (vs:=[_]) hH fun Tn st OP hH=>?_;refine qm ?_;refine qe hK ?_;obtain⟨d',ai,tR,gb⟩:=iS _ {s with i:=s.i+1} 7 .nul [] Tn (.inr ⟨rfl,rfl⟩) (by simp) rfl hg (by show s.i<s.i+1;omega) (by show s.i+1≤_;omega) OP hH;refine af.ret ⟨rx,_,d',ai,rfl,tR,gb⟩
 refine qq<|qj fun K hK=>qg ?_;refine qm ?_;refine qe hK ?_;refine af.cond (by rfl) (fun QS=>?_) (fun QS=>?_)<;>try simp only[beq_iff_eq,beq_eq_false_iff_ne,ne_eq] at QS
 ·refine qq<|qj fun K hK=>qm ?_;refine qg ?_;refine qp (o:=2) ?_;refine ql hH aB ?_;refine qA ?_;refine qg ?_;refine qp (o:=2) ?_;refine qT hH aB fun st hH=>?_;dsimp only[u2,u1,u3,u4,setMany,u5,u6,D.cells,Nat.reduceAdd,aW,aU,aq,aw,bj] at hH;refine qe hK<|qq<|qj fun K hK=>ae.go (d:=.agg [.int .i64 8,.nul,.int .i64 0,.int .i64 0,.bool false,.int .i64 0,.int .i64 0]) (st1:=_) rfl rfl rfl (ag rfl _) ?_;refine qh (s:=7) (vs:=[_]) hH fun Q6 st LZ hH=>?_;refine qm ?_;refine qe hK ?_;obtain⟨d',ai,tR,gb⟩:=iS _ {s with i:=s.i+1} 8 .nul [] Q6 (.inr ⟨rfl,rfl⟩) (by simp) rfl hg (by show s.i<s.i+1;omega) (by show s.i+1≤_;omega) LZ hH;refine af.ret ⟨rx,_,d',ai,rfl,tR,gb⟩
 refine qq<|qq<|qj fun K hK=>qg ?_;refine qm ?_;refine qe hK ?_
 by_cases QA:((g.1:Nat):Int)=42
 ·refine qD rfl (by simp[QA]) ?_;refine af.skip<|qD rfl (by simp[QA]) ?_;refine qq<|qj fun K hK=>qm ?_;refine qm ?_;obtain⟨_,st,aS,rfl,s4,hN,hH⟩:=hwr _ hH;refine qv aS ?_;refine qm ?_;refine qe hK<|af.ret ⟨rx,_,_,_,rfl,av (rfl),?_⟩;exact⟨s4,hN,cy.aA cq hH⟩
 refine qE rfl (by simp[QA]) ?_;refine qq<|qj fun K hK=>qg ?_;refine qm ?_;refine qe hK ?_
 by_cases Qz:((g.1:Nat):Int)=43
 ·refine qD rfl (by simp[Qz]) ?_;refine af.skip<|qD rfl (by simp[Qz]) ?_;refine qq<|qj fun K hK=>qm ?_;refine qm ?_;obtain⟨_,st,aS,rfl,s4,hN,hH⟩:=hwr _ hH;refine qv aS ?_;refine qm ?_;refine qe hK<|af.ret ⟨rx,_,_,_,rfl,av (rfl),?_⟩;exact⟨s4,hN,cy.aA cq hH⟩
 refine qE rfl (by simp[Qz]) ?_;refine qq<|qj fun K hK=>qg ?_;refine qm ?_;refine qe hK ?_
 by_cases Qy:((g.1:Nat):Int)=63
 ·refine qD rfl (by simp[Qy]) ?_;refine af.skip<|qD rfl (by simp[Qy]) ?_;refine qq<|qj fun K hK=>qm ?_;refine qm ?_;obtain⟨_,st,aS,rfl,s4,hN,hH⟩:=hwr _ hH;refine qv aS ?_;refine qm ?_;refine qe hK<|af.ret ⟨rx,_,_,_,rfl,av (rfl),?_⟩;exact⟨s4,hN,cy.aA cq hH⟩
 refine qE rfl (by simp[Qy]) ?_;refine qq<|qj fun K hK=>qg ?_;refine qm ?_;refine qe hK ?_
 by_cases QB:((g.1:Nat):Int)=41
 ·refine qD rfl (by simp[QB]) ?_;refine af.skip<|qD rfl (by simp[QB]) ?_;refine qq<|qj fun K hK=>qm ?_;refine qm ?_;obtain⟨_,st,aS,rfl,s4,hN,hH⟩:=hwr _ hH;refine qv aS ?_;refine qm ?_;refine qe hK<|af.ret ⟨rx,_,_,_,rfl,av (rfl),?_⟩;exact⟨s4,hN,cy.aA cq hH⟩
 refine qE rfl (by simp[QB]) ?_;refine qq<|qj fun K hK=>qg ?_;refine qm ?_;refine qe hK ?_
 by_cases Qx:((g.1:Nat):Int)=93
 ·refine qD rfl (by simp[Qx]) ?_;refine af.skip<|qD rfl (by simp[Qx]) ?_;refine qq<|qj fun K hK=>qm ?_;refine qm ?_;obtain⟨_,st,aS,rfl,s4,hN,hH⟩:=hwr _ hH;refine qv aS ?_;refine qm ?_;refine qe hK<|af.ret ⟨rx,_,_,_,rfl,av (rfl),?_⟩;exact⟨s4,hN,cy.aA cq hH⟩
 refine qE rfl (by simp[Qx]) ?_;refine qq<|qj fun K hK=>qg ?_;refine qm ?_;refine qe hK ?_
 by_cases JY:((g.1:Nat):Int)=123
 ·refine qD rfl (by simp[JY]) ?_;refine af.skip<|qD rfl (by simp[JY]) ?_;refine qq<|qj fun K hK=>qm ?_;refine qm ?_;obtain⟨_,st,aS,rfl,s4,hN,hH⟩:=hwr _ hH;refine qv aS ?_;refine qm ?_;refine qe hK<|af.ret ⟨rx,_,_,_,rfl,av (rfl),?_⟩;exact⟨s4,hN,cy.aA cq hH⟩
 refine qE rfl (by simp[JY]) ?_;refine qq<|qj fun K hK=>qg ?_;refine qm ?_;refine qe hK ?_
 by_cases JX:((g.1:Nat):Int)=125
 ·refine qD rfl (by simp[JX]) ?_;refine af.skip<|qD rfl (by simp[JX]) ?_;refine qq<|qj fun K hK=>qm ?_;refine qm ?_;obtain⟨_,st,aS,rfl,s4,hN,hH⟩:=hwr _ hH;refine qv aS ?_;refine qm ?_;refine qe hK<|af.ret ⟨rx,_,_,_,rfl,av (rfl),?_⟩;exact⟨s4,hN,cy.aA cq hH⟩
 refine qE rfl (by simp[JX]) ?_;refine qj fun K hK=>qg ?_;refine qm ?_;refine qe hK ?_
 by_cases ML:((g.1:Nat):Int)=124
 ·refine qD rfl (by simp[ML]) ?_;refine qq<|qj fun K hK=>qm ?_;refine qm ?_;obtain⟨_,st,aS,rfl,s4,hN,hH⟩:=hwr _ hH;refine qv aS ?_;refine qm ?_;refine qe hK<|af.ret ⟨rx,_,_,_,rfl,av (rfl),?_⟩;exact⟨s4,hN,cy.aA cq hH⟩
 refine qE rfl (by simp[ML]) ?_;refine qq<|qj fun K hK=>qm ?_;refine qg ?_;refine qp (o:=2) ?_;refine ql hH aB ?_;refine qA ?_;refine qg ?_;refine qp (o:=2) ?_;refine qT hH aB fun st hH=>?_;dsimp only[u2,u1,u3,u4,setMany,u5,u6,D.cells,Nat.reduceAdd,aW,aU,aq,aw,bj] at hH;refine qe hK ?_;obtain⟨_,x6,_⟩:=k_ (s0:=s0) (x:=bt [(((g.1:Nat):Int),((g.1:Nat):Int))]) (l:=[(((g.1:Nat):Int),((g.1:Nat):Int))]) (dZ _ _) (by simp);simp only[List.length_cons,List.length_nil] at x6;refine qq<|qj fun K hK=>qm ?_;refine qv (ic _) ?_;refine ae.gB (qs:=[(0,_),(1,_)]) rfl rfl rfl rfl ⟨rfl,(ev rfl),(by rfl),rfl,(ev rfl),(by rfl),trivial⟩ (by intro q hq;simp only[List.mem_cons,List.not_mem_nil,or_false] at hq;rcases hq with rfl|rfl<;>exact⟨rfl,by exact Nat.le_of_ble_eq_true rfl⟩) (by show List.foldl _ [_,_,_,_,_,_,_] _=_;dsimp only[List.foldl_cons,List.foldl_nil,u2,u1]<;>rfl) (ag rfl _) ?_;refine qh (s:=7) (vs:=[_]) hH fun IM st L4 hH=>?_;refine qm ?_;refine qe hK ?_;obtain⟨d',ai,tR,gb⟩:=iS _ {s with i:=s.i+1} 2 _ _ IM (.inl rfl) (by omega) rfl hg (by show s.i<s.i+1;omega) (by show s.i+1≤_;omega) L4 hH;refine af.ret ⟨rx,_,d',ai,rfl,tR,gb⟩
theorem yT {m:Nat} (hA:∀m',m'+1=m→kf m') {N k:Nat} {S s0:St} {H:List cz} {gs:List (Nat×Nat)} {bD:D} {bd:List Int} {s:eG} (dz:jV gs bd) (he:s.e=0) (hi:s.i<gs.length) (hg:s.g≤4) (ho:s.o+m=20) (hH:Has N S s0 (.box k (.mem 0 false (aW gs bD s))::.aT bD 1 (bd.map aq)::H)):
  ∃d ai,Ev pv 86 [.ptr k 0 0] s0 d ai∧∃(s':eG),ia gs s s' d 1∧Has N S ai (.box k (.mem 0 false (aW gs bD s'))::.aT bD 1 (bd.map aq)::H):=by
 have nF:=dz.gl;have ji:=dz.pl;refine Ev.mP rfl PG rfl rfl rfl ?_;dsimp only[u3,u4,List.length,Nat.reduceSub,Nat.reduceAdd,w1,w2];have cy:=hH;have hH:=hH.cH;have cq:(aj .rw s0).bs=s0.bs:=rfl;generalize aj .rw s0=S2 at*;refine qq<|qj fun K hK=>qm ?_;refine qe hK<|qq<|qj fun K hK=>qm ?_;obtain⟨_,st,aS,s1,⟨p1,p2,p3,p4,l,rfl,p5,p6,p7⟩,hH⟩:=ER hA dz he hi hg ho hH;refine qv aS ?_;refine qm ?_;refine qe hK<|qq<|qq<|qj fun K hK=>qm ?_;refine qg ?_;refine qp (o:=5) ?_;refine ql hH aB ?_;refine qg ?_;refine qe hK ?_
 rcases p7 with p7|⟨p7,p8⟩
 ·refine qD rfl (by simp[p7]) ?_;refine qq<|qj fun K hK=>qm ?_;refine qe hK<|af.ret ⟨rx,_,_,_,rfl,av (rfl),?_⟩;exact⟨s1,fy p1 p2 p3 p4 p7,cy.aA cq hH⟩
 refine qE rfl (by simp[p7]) ?_;refine af.skip<|qq<|qj fun K hK=>ae.go (d:=.agg [.int .i64 5,.nul,.int .i64 0,.int .i64 0,.bool false,.int .i64 0,.int .i64 1]) (st1:=_) rfl rfl rfl (ag rfl _) ?_;refine qa hH fun k4 st M3 hH=>?_;dsimp only[u2,u1,u3,u4,setMany,u5,u6,D.cells,Nat.reduceAdd,aW,aU,aq,aw,bj] at hH;refine qS hH aB fun st hH=>?_;dsimp only[u2,u1,u3,u4,setMany,u5,u6,D.cells,Nat.reduceAdd,aW,aU,aq,aw,bj] at hH;refine qe hK ?_;have hH:Has N S2 st (.box k (.mem 0 false (aW gs bD s1))::.aT bD 1 (bd.map aq)::.box k4 (.mem 0 false [.int .i64 5,.nul,.int .i64 0,.int .i64 0,.bool false,.int .i64 0,.int .i64 1])::H):=lP hH;refine qq<|af.merge (fun fr st=>∃(mn mx:Int) (s2:eG) (tmp:List (Nat×D)),fr=⟨5,[.ptr k 0 0,vh fr 1,vh fr 2,sf l,.ptr k4 0 0],tmp⟩∧Has N S2 st (.box k (.mem 0 false (aW gs bD s2))::.aT bD 1 (bd.map aq)::.box k4 (.mem 0 false [.int .i64 5,.nul,.int .i64 mn,.int .i64 mx,.bool false,.int .i64 0,.int .i64 1])::H)∧(s2.o=s.o)∧(s2.g≤4)∧(s1.i<s2.i)∧(s2.i≤gs.length)) ?_ ?_
 ·refine af.block<|qq<|qj fun K hK=>qm ?_;obtain⟨_,st,aS,rfl,hH⟩:=dJ (s:=s1) (by omega) 42 hH;refine qv aS ?_;refine qm ?_;refine qe hK ?_
  cases hb1:ki gs s1.i 42 with
  |true=>
   obtain⟨k1,k2,k3,NK,k5⟩:=fY (gs:=gs) (s:=s1) (r:=42);have k6:=kW hb1;have k7:=k5 p4;generalize cQ gs s1 42=s2 at*;refine qB ?_;refine qj fun K hK=>qp (o:=3) ?_;refine qT hH ez fun st hH=>?_;dsimp only[u2,u1,u3,u4,setMany,u5,u6,D.cells,Nat.reduceAdd,aW,aU,aq,aw,bj] at hH;refine qe hK ?_;exact⟨0,-1,s2,_,rfl,hH,by omega,by omega,by omega,k7⟩
  |false=>
   rw[ny hb1] at hH;refine qC ?_;refine qq<|qj fun K hK=>qm ?_;obtain⟨_,st,aS,rfl,hH⟩:=dJ (s:=s1) (by omega) 43 hH;refine qv aS ?_;refine qm ?_;refine qe hK ?_
   cases hb2:ki gs s1.i 43 with
   |true=>
    obtain⟨k1,k2,k3,NK,k5⟩:=fY (gs:=gs) (s:=s1) (r:=43);have k6:=kW hb2;have k7:=k5 p4;generalize cQ gs s1 43=s2 at*;refine qB ?_;refine qj fun K hK=>qp (o:=2) ?_;refine qT hH ez fun st hH=>?_;dsimp only[u2,u1,u3,u4,setMany,u5,u6,D.cells,Nat.reduceAdd,aW,aU,aq,aw,bj] at hH;refine qp (o:=3) ?_;refine qT hH ez fun st hH=>?_;dsimp only[u2,u1,u3,u4,setMany,u5,u6,D.cells,Nat.reduceAdd,aW,aU,aq,aw,bj] at hH;refine qe hK ?_;exact⟨1,-1,s2,_,rfl,hH,by omega,by omega,by omega,k7⟩
   |false=>
    rw[ny hb2] at hH;refine qC ?_;refine qq<|qj fun K hK=>qm ?_;obtain⟨_,st,aS,rfl,hH⟩:=dJ (s:=s1) (by omega) 63 hH;refine qv aS ?_;refine qm ?_;refine qe hK ?_
    cases Mj:ki gs s1.i 63 with
    |true=>
     obtain⟨k1,k2,k3,NK,k5⟩:=fY (gs:=gs) (s:=s1) (r:=63);have k6:=kW Mj;have k7:=k5 p4;generalize cQ gs s1 63=s2 at*;refine qB ?_;refine qj fun K hK=>qp (o:=3) ?_;refine qT hH ez fun st hH=>?_;dsimp only[u2,u1,u3,u4,setMany,u5,u6,D.cells,Nat.reduceAdd,aW,aU,aq,aw,bj] at hH;refine qe hK ?_;exact⟨0,1,s2,_,rfl,hH,by omega,by omega,by omega,k7⟩
    |false=>
     rw[ny Mj] at hH;refine qC ?_;refine qq<|qj fun K hK=>qm ?_;obtain⟨_,st,aS,rfl,hH⟩:=mS (s:=s1) (by omega) 123 hH;refine qv aS ?_;refine qm ?_;refine qe hK ?_
     cases Vl:ki gs s1.i 123 with
     |true=>
      have hlt:=oo Vl;refine qB ?_;refine qj fun K hK=>qm ?_;obtain⟨_,st,aS,n1,n2,s2,rfl,⟨m1,m2,m3,m4⟩,hH⟩:=zg dz p7 hlt hH;refine qv aS ?_;refine qm ?_;refine qg ?_;refine qg ?_;refine qp (o:=2) ?_;refine qT hH ez fun st hH=>?_;dsimp only[u2,u1,u3,u4,setMany,u5,u6,D.cells,Nat.reduceAdd,aW,aU,aq,aw,bj] at hH;refine qp (o:=3) ?_;refine qT hH ez fun st hH=>?_;dsimp only[u2,u1,u3,u4,setMany,u5,u6,D.cells,Nat.reduceAdd,aW,aU,aq,aw,bj] at hH;refine qe hK ?_;exact⟨n1,n2,s2,_,rfl,hH,by omega,by omega,m3,m4⟩
     |false=>
      refine qC ?_;refine qq<|qj fun K hK=>qm ?_;refine qm ?_;refine qe hK<|af.ret ⟨rx,_,_,_,rfl,av (rfl),?_⟩;exact⟨s1,⟨p1,p2,p3,p4,l,rfl,p5,p6,.inr ⟨p7,by omega⟩⟩,cy.aA cq (hH.erase 2)⟩
 ·rintro fr st ⟨mn,mx,s2,tmp,hfr,hH,h1,h2,h3,h4⟩;rw[hfr];clear hfr;generalize vh fr=ee;clear fr;refine qq<|qq<|qj fun K hK=>qm ?_;refine qg ?_;refine qp (o:=5) ?_;refine ql hH aB ?_;refine qg ?_;refine qe hK ?_
  by_cases su:s2.e=0
  ·refine qE rfl (by simp[su]) ?_;refine af.skip ?_;obtain⟨k1,k2,k3,NK,k5⟩:=fY (gs:=gs) (s:=s2) (r:=63);have k7:=k5 h4;refine qq<|qj fun K hK=>qm ?_;obtain⟨_,st,aS,rfl,hH⟩:=dJ (s:=s2) (by omega) 63 hH;refine qv aS ?_;refine qp (o:=4) ?_;refine qT hH ez fun st hH=>?_;dsimp only[u2,u1,u3,u4,setMany,u5,u6,D.cells,Nat.reduceAdd,aW,aU,aq,aw,bj] at hH;refine qe hK ?_;generalize cQ gs s2 63=s3 at*;generalize ki gs s2.i 63=lz at*;have hla:=(pz p5).arg N S2;refine qq<|qj fun K hK=>?_;refine ae.bF (m:=7) hH rfl (ev rfl) (by exact ez) (by dsimp only[List.drop_succ_cons,List.drop_zero,List.take_succ_cons,List.take_zero,aW,aU,aq,aw,bj]<;>rfl) rfl rfl (ag rfl _) ?_;refine qh (s:=7) (vs:=[_]) hH fun Tq st UR hH=>?_;refine qm ?_;refine ae.oE (s:=7) hH rfl (ev rfl) (ev rfl) aB ((pz p5).rows st) rfl rfl rfl rfl rfl rfl rfl ⟨(Nat.le_of_ble_eq_true rfl),(Nat.le_of_ble_eq_true rfl)⟩ (fun _=>(ag rfl _)) (by simp only[List.length_map,List.length_cons,List.length_nil];omega) (.inr (py p5)) (fun k hk=>by have iU:Tq+1=k+1:=hk;omega) (fun Kq st E9 hH=>?_);dsimp only[u2] at hH;refine qm ?_;refine qe hK ?_;have hH:Has N S2 st (.aT Kq 7 ([.int .i64 5,.nul,.int .i64 mn,.int .i64 mx,.bool lz,.int .i64 0,.int .i64 1]::l.map bj)::.box k (.mem 0 false (aW gs bD s3))::.aT bD 1 (bd.map aq)::.box k4 (.mem 0 false [.int .i64 5,.nul,.int .i64 mn,.int .i64 mx,.bool lz,.int .i64 0,.int .i64 1])::H):=hH
   have hfz:=gQ (L:=s0.bs.length) (l:=rj 5 mn mx lz 0 1 []::l) hH aB (by rw[List.map_cons,rf p5];rfl) (fun e he d hd=>by
    rcases List.mem_cons.1 he with rfl|he
    ·simp only[List.mem_cons,List.not_mem_nil,or_false] at hd
     rcases hd with rfl|rfl|rfl|rfl|rfl|rfl|rfl<;>rfl
    ·exact oa p5 e he d hd) (fun k hk=>by rw[←cq];exact E9 k hk) (n:=16) (by decide)
   refine af.ret ⟨rx,_,_,_,rfl,av hfz,⟨s3,⟨by omega,by omega,by omega,k7,_,rfl,?_,by simp only[List.length_cons];omega,.inr ⟨by omega,by simp only[List.length_cons];omega⟩⟩,cy.aA cq ((hH.drop 1).erase 2)⟩⟩;intro n hn
   rcases List.mem_cons.1 hn with rfl|hn
   ·exact⟨rfl,by simp[rj],by simp[rj]⟩
   ·exact p5 n hn
  ·refine qD rfl (by simp[su]) ?_;refine qq<|qj fun K hK=>qm ?_;refine qe hK<|af.ret ⟨rx,_,_,_,rfl,av (rfl),?_⟩;exact⟨s2,fy h1 h2 (by omega) h4 su,cy.aA cq (hH.erase 2)⟩
def mh (fr:Go.V.Fr) (k:Nat):Go.V.D:=Go.V.nth .bA fr.loc k
theorem Aw {m:Nat} (hA:∀m',m'+1=m→kf m') {N k:Nat} {S s0:St} {H:List cz} {gs:List (Nat×Nat)} {bD:D} {bd:List Int} {s:eG} (dz:jV gs bd) (he:s.e=0) (hi:s.i≤gs.length) (hg:s.g≤4) (ho:s.o+m=20) (hH:Has N S s0 (.box k (.mem 0 false (aW gs bD s))::.aT bD 1 (bd.map aq)::H)):
  ∃d ai,Ev pv 70 [.ptr k 0 0] s0 d ai∧∃(s':eG),sa gs s s' d∧Has N S ai (.box k (.mem 0 false (aW gs bD s'))::.aT bD 1 (bd.map aq)::H):=by
 have nF:=dz.gl;have ji:=dz.pl;refine Ev.mP rfl PT rfl rfl rfl ?_;dsimp only[u3,u4,List.length,Nat.reduceSub,Nat.reduceAdd,w1,w2];have cy:=hH;have hH:=hH.cH;have cq:(aj .rw s0).bs=s0.bs:=rfl;generalize aj .rw s0=S2 at*;have zS:Arg N S2 2 (bZ gs) (gs.map aU):=Arg.pure (fun st=>cT st gs);refine qq ?_;refine qj fun K hK=>?_;refine qm ?_;refine qe hK ?_;refine qq ?_;refine qj fun K hK=>?_;refine qm ?_;refine qe hK ?_;have hH:Has N S2 S2 (.box k (.mem 0 false (aW gs bD s))::.aT bD 1 (bd.map aq)::.aT .nul 1 (([]:List (List ec)).map dB)::H):=lP (hH.fx 1);refine qq ?_;refine af.block ?_;refine af.loop (fun mm fr st=>∃(s1:eG) (pd:D) (parts:List (List ec)),fr.clean=⟨4,[.ptr k 0 0,mh fr 1,mh fr 2,pd],[]⟩∧Has N S2 st (.box k (.mem 0 false (aW gs bD s1))::.aT bD 1 (bd.map aq)::.aT pd 1 (parts.map dB)::H)∧(s1.o=s.o)∧(s1.g≤4)∧(s.i≤s1.i)∧(s1.i≤gs.length)∧(∀l∈parts,∀n∈l,sy n)∧(eX parts+parts.length≤4*(s1.i-s.i)+2)∧(s1.e=0→eX parts+parts.length≤4*(s1.i-s.i))∧(gs.length-s1.i+(if s1.e=0 then 1 else 0)≤mm)) (gs.length+1) ?_ ?_
 ·exact⟨s,.nul,[],rfl,hH,rfl,hg,Nat.le_refl _,hi,fun l hl=>(by cases hl),by simp[eX],fun _=>by simp[eX],by split<;>omega⟩
 rintro mm fr st ⟨s1,pd,parts,hfr,hH,h1,h2,h3,h4,h5,h6,h7,sk⟩;rw[hfr];clear hfr;generalize mh fr=ee;clear fr
 have oz:∀st:St,Has N S2 st (.box k (.mem 0 false (aW gs bD s1))::.aT bD 1 (bd.map aq)::.aT pd 1 (parts.map dB)::H)→∃d,Ev pv 72 [.int .i64 3,pd] st d st∧sa gs s s1 d∧∃l,d=sf l:=by
  intro st hH;obtain⟨_,aS,l,rfl,j1,j2,j3⟩:=pL 3 (hH.rows ez) h5 (by omega) (by omega);refine⟨_,aS,⟨h1,h2,h3,h4,l,rfl,j1,?_⟩,l,rfl⟩
  by_cases q1:parts.length=1
  ·have:=j2 q1;omega
  ·by_cases q0:parts.length=0
   ·have:parts=[]:=List.length_eq_zero_iff.1 q0;rw[this] at j3 h6;simp[eX] at j3 h6;omega
   ·omega
 by_cases jj:s1.e=0
 ·rw[if_pos jj] at sk;have h7:=h7 jj;have bc:(s1.e==0)=true:=by simpa using jj
  by_cases hlt:s1.i<gs.length
  ·have bh:decide (((s1.i:Nat):Int)<((gs.length:Nat):Int))=true:=by rw[decide_eq_true_eq];omega
   cases br:(!ki gs s1.i 124) with
   |false=>
    refine qq ?_;refine qq ?_;refine qj fun K hK=>?_;refine qm ?_;refine qg ?_;refine qp (o:=5) ?_;refine ql hH aB ?_;refine qg ?_;refine qm ?_;refine qm ?_ (hg:=wi bc);refine qg ?_ (hg:=wi bc);refine qp (o:=2) ?_ (hg:=wi bc);refine ql hH aB ?_ (hg:=wi bc);refine qm ?_ (hg:=wi bc);refine qg ?_ (hg:=wi bc);refine qp (o:=0) ?_ (hg:=wi bc);refine ql hH aB ?_ (hg:=wi bc);refine qn ?_ (hg:=wi bc);simp only[List.length_map];refine qg ?_ (hg:=wi bc);refine qt bc ?_;refine qm ?_;refine qm ?_ (hg:=wi bh);obtain⟨_,st,aS,rfl,hH⟩:=mS (s:=s1) (by omega) 124 hH;refine qv aS ?_ (hg:=wi bh);refine qg ?_ (hg:=wi bh);refine qt bh ?_;refine qm ?_;refine qs ?_ (hg:=wn br);refine qs ?_ (hg:=wn br);refine qs ?_ (hg:=wn br);refine qs ?_;refine qs ?_;refine qs ?_;refine qs ?_;refine qs ?_;refine qs ?_ (hg:=wn br);refine qs ?_ (hg:=wn br);refine qu br ?_;refine qe hK ?_;refine qC ?_;refine af.exit ?_;obtain⟨_,zP,hQ,l,rfl⟩:=oz _ hH;refine qq ?_;refine qj fun K hK=>?_;refine qm ?_;refine qv (zP) ?_;refine qm ?_;refine qe hK ?_;refine af.ret ⟨rx,_,_,_,rfl,av (rfl),?_⟩;exact⟨s1,hQ,cy.aA cq (hH.erase 2)⟩
   |true=>
    cases bk:ki gs s1.i 41 with
    |false=>
     refine qq ?_;refine qq ?_;refine qj fun K hK=>?_;refine qm ?_;refine qg ?_;refine qp (o:=5) ?_;refine ql hH aB ?_;refine qg ?_;refine qm ?_;refine qm ?_ (hg:=wi bc);refine qg ?_ (hg:=wi bc);refine qp (o:=2) ?_ (hg:=wi bc);refine ql hH aB ?_ (hg:=wi bc);refine qm ?_ (hg:=wi bc);refine qg ?_ (hg:=wi bc);refine qp (o:=0) ?_ (hg:=wi bc);refine ql hH aB ?_ (hg:=wi bc);refine qn ?_ (hg:=wi bc);simp only[List.length_map];refine qg ?_ (hg:=wi bc);refine qt bc ?_;refine qm ?_;refine qm ?_ (hg:=wi bh);obtain⟨_,st,aS,rfl,hH⟩:=mS (s:=s1) (by omega) 124 hH;refine qv aS ?_ (hg:=wi bh);refine qg ?_ (hg:=wi bh);refine qt bh ?_;refine qm ?_;refine qm ?_ (hg:=wi br);obtain⟨_,st,aS,rfl,hH⟩:=mS (s:=s1) (by omega) 41 hH;refine qv aS ?_ (hg:=wi br);refine qm ?_ (hg:=wi br);refine qs ?_ (hg:=wn bk);refine qs ?_ (hg:=wn bk);refine qs ?_ (hg:=wn bk);refine qs ?_ (hg:=wn bk);refine qs ?_ (hg:=wn bk);refine ae.cV (aH rfl rfl rfl br) rfl bk (ag rfl _) ?_;refine qg ?_ (hg:=wi br);refine qt br ?_;refine qe hK ?_;refine qB ?_;refine af.skip ?_;refine af.block ?_;refine qj fun K hK=>?_;refine qm ?_;refine qm ?_;obtain⟨_,st,aS,s2,⟨r1,r2,r3,r4,l,rfl,r5,r6,r7⟩,hH⟩:=yT hA dz (s:=s1) jj hlt h2 (by omega) hH;refine qv aS ?_;refine qh (s:=1) (vs:=[_]) hH fun Q_ st L3 hH=>?_;dsimp only[u2,u1,u3,u4,setMany,u5,u6,D.cells,Nat.reduceAdd,aW,aU,aq,aw,dB] at hH;refine ae.bG (s:=1) hH rfl (ev rfl) (ev rfl) (by exact gm) (by exact hH.rows (by exact aB)) rfl rfl rfl rfl rfl rfl rfl ⟨(Nat.le_of_ble_eq_true rfl),(Nat.le_of_ble_eq_true rfl)⟩ (fun _=>(ag rfl _)) (by simp only[List.length_cons,List.length_nil,List.length_map]<;>omega) (by exact .inr rfl) (fun Kr st hH=>?_);dsimp only[u2,u1,u3,u4,setMany,u5,u6,D.cells,Nat.reduceAdd,aW,aU,aq,aw,dB] at hH;refine qm ?_;refine qe hK ?_;have hH:=hH.drop 1;refine⟨mm-1,by omega,⟨s2,Kr,parts++[l],rfl,(by rw[List.map_append];exact hH),by omega,r2,by omega,r4,?_,by rw[dp,List.length_append];simp only[eX,List.length_cons,List.length_nil];omega,(fun e=>by rw[dp,List.length_append];simp only[eX,List.length_cons,List.length_nil];omega),by split<;>omega⟩⟩;intro l' gP
     rcases List.mem_append.1 gP with gP|gP
     ·exact h5 l' gP
     ·simp only[List.mem_cons,List.not_mem_nil,or_false] at gP;subst gP;exact r5
    |true=>
     refine qq ?_;refine qq ?_;refine qj fun K hK=>?_;refine qm ?_;refine qg ?_;refine qp (o:=5) ?_;refine ql hH aB ?_;refine qg ?_;refine qm ?_;refine qm ?_ (hg:=wi bc);refine qg ?_ (hg:=wi bc);refine qp (o:=2) ?_ (hg:=wi bc);refine ql hH aB ?_ (hg:=wi bc);refine qm ?_ (hg:=wi bc);refine qg ?_ (hg:=wi bc);refine qp (o:=0) ?_ (hg:=wi bc);refine ql hH aB ?_ (hg:=wi bc);refine qn ?_ (hg:=wi bc);simp only[List.length_map];refine qg ?_ (hg:=wi bc);refine qt bc ?_;refine qm ?_;refine qm ?_ (hg:=wi bh);obtain⟨_,st,aS,rfl,hH⟩:=mS (s:=s1) (by omega) 124 hH;refine qv aS ?_ (hg:=wi bh);refine qg ?_ (hg:=wi bh);refine qt bh ?_;refine qm ?_;refine qm ?_ (hg:=wi br);obtain⟨_,st,aS,rfl,hH⟩:=mS (s:=s1) (by omega) 41 hH;refine qv aS ?_ (hg:=wi br);refine qm ?_ (hg:=wi br);refine qm ?_ (hg:=wi bk);refine qg ?_ (hg:=wi bk);refine qp (o:=3) ?_ (hg:=wi bk);refine ql hH aB ?_ (hg:=wi bk);refine qg ?_ (hg:=wi bk);refine ae.dA (aH rfl rfl rfl br) rfl bk (ag rfl _) ?_;refine qg ?_ (hg:=wi br);refine qt br ?_;refine qe hK ?_
     by_cases fm:0<s1.o
     ·have gK:(!decide (((s1.o:Nat):Int)>0))=false:=by rw[decide_eq_true (by omega)];rfl
      refine qE rfl (by rw[gK]) ?_;refine af.exit ?_;obtain⟨_,zP,hQ,l,rfl⟩:=oz _ hH;refine qq ?_;refine qj fun K hK=>?_;refine qm ?_;refine qv (zP) ?_;refine qm ?_;refine qe hK ?_;refine af.ret ⟨rx,_,_,_,rfl,av (rfl),?_⟩;exact⟨s1,hQ,cy.aA cq (hH.erase 2)⟩
     ·have gK:(!decide (((s1.o:Nat):Int)>0))=true:=by rw[decide_eq_false (by omega)];rfl
      refine qD rfl (by rw[gK]) ?_;refine af.skip ?_;refine af.block ?_;refine qj fun K hK=>?_;refine qm ?_;refine qm ?_;obtain⟨_,st,aS,s2,⟨r1,r2,r3,r4,l,rfl,r5,r6,r7⟩,hH⟩:=yT hA dz (s:=s1) jj hlt h2 (by omega) hH;refine qv aS ?_;refine qh (s:=1) (vs:=[_]) hH fun Q_ st L3 hH=>?_;dsimp only[u2,u1,u3,u4,setMany,u5,u6,D.cells,Nat.reduceAdd,aW,aU,aq,aw,dB] at hH;refine ae.bG (s:=1) hH rfl (ev rfl) (ev rfl) (by exact gm) (by exact hH.rows (by exact aB)) rfl rfl rfl rfl rfl rfl rfl ⟨(Nat.le_of_ble_eq_true rfl),(Nat.le_of_ble_eq_true rfl)⟩ (fun _=>(ag rfl _)) (by simp only[List.length_cons,List.length_nil,List.length_map]<;>omega) (by exact .inr rfl) (fun Kr st hH=>?_);dsimp only[u2,u1,u3,u4,setMany,u5,u6,D.cells,Nat.reduceAdd,aW,aU,aq,aw,dB] at hH;refine qm ?_;refine qe hK ?_;have hH:=hH.drop 1;refine⟨mm-1,by omega,⟨s2,Kr,parts++[l],rfl,(by rw[List.map_append];exact hH),by omega,r2,by omega,r4,?_,by rw[dp,List.length_append];simp only[eX,List.length_cons,List.length_nil];omega,(fun e=>by rw[dp,List.length_append];simp only[eX,List.length_cons,List.length_nil];omega),by split<;>omega⟩⟩;intro l' gP
      rcases List.mem_append.1 gP with gP|gP
      ·exact h5 l' gP
      ·simp only[List.mem_cons,List.not_mem_nil,or_false] at gP;subst gP;exact r5
  ·have bh:decide (((s1.i:Nat):Int)<((gs.length:Nat):Int))=false:=by rw[decide_eq_false_iff_not];omega
   refine qq ?_;refine qq ?_;refine qj fun K hK=>?_;refine qm ?_;refine qg ?_;refine qp (o:=5) ?_;refine ql hH aB ?_;refine qg ?_;refine qm ?_;refine qm ?_ (hg:=wi bc);refine qg ?_ (hg:=wi bc);refine qp (o:=2) ?_ (hg:=wi bc);refine ql hH aB ?_ (hg:=wi bc);refine qm ?_ (hg:=wi bc);refine qg ?_ (hg:=wi bc);refine qp (o:=0) ?_ (hg:=wi bc);refine ql hH aB ?_ (hg:=wi bc);refine qn ?_ (hg:=wi bc);simp only[List.length_map];refine qg ?_ (hg:=wi bc);refine qt bc ?_;refine qm ?_;refine qs ?_ (hg:=wn bh);refine qs ?_ (hg:=wn bh);refine qs ?_ (hg:=wn bh);refine qu bh ?_;refine qm ?_;refine qs ?_;refine qs ?_;refine qs ?_;refine qs ?_;refine qs ?_;refine qs ?_;refine qs ?_;refine qs ?_;refine qs ?_;refine qs ?_;refine qg ?_;refine qe hK ?_;refine qC ?_;refine af.exit ?_;obtain⟨_,zP,hQ,l,rfl⟩:=oz _ hH;refine qq ?_;refine qj fun K hK=>?_;refine qm ?_;refine qv (zP) ?_;refine qm ?_;refine qe hK ?_;refine af.ret ⟨rx,_,_,_,rfl,av (rfl),?_⟩;exact⟨s1,hQ,cy.aA cq (hH.erase 2)⟩
 ·have bc:(s1.e==0)=false:=by simpa using jj
  refine qq ?_;refine qq ?_;refine qj fun K hK=>?_;refine qm ?_;refine qg ?_;refine qp (o:=5) ?_;refine ql hH aB ?_;refine qg ?_;refine qm ?_;refine qs ?_ (hg:=wn bc);refine qs ?_ (hg:=wn bc);refine qs ?_ (hg:=wn bc);refine qs ?_ (hg:=wn bc);refine qs ?_ (hg:=wn bc);refine qs ?_ (hg:=wn bc);refine qs ?_ (hg:=wn bc);refine qs ?_ (hg:=wn bc);refine qs ?_ (hg:=wn bc);refine qs ?_ (hg:=wn bc);refine qu bc ?_;refine qm ?_;refine qs ?_;refine qs ?_;refine qs ?_;refine qg ?_;refine qm ?_;refine qs ?_;refine qs ?_;refine qs ?_;refine qs ?_;refine qs ?_;refine qs ?_;refine qs ?_;refine qs ?_;refine qs ?_;refine qs ?_;refine qg ?_;refine qe hK ?_;refine qC ?_;refine af.exit ?_;obtain⟨_,zP,hQ,l,rfl⟩:=oz _ hH;refine qq ?_;refine qj fun K hK=>?_;refine qm ?_;refine qv (zP) ?_;refine qm ?_;refine qe hK ?_;refine af.ret ⟨rx,_,_,_,rfl,av (rfl),?_⟩;exact⟨s1,hQ,cy.aA cq (hH.erase 2)⟩
theorem EV:∀m:Nat,kf m:=by
 intro m
 induction m using Nat.strongRecOn with
 |ind m ih0=>
 have hA:∀m',m'+1=m→kf m':=fun m' h=>ih0 m' (by omega);intro N k S s0 H gs bD bd s dz he hi hg ho hH;have nF:=dz.gl;have ji:=dz.pl;refine Ev.mP rfl P4 rfl rfl rfl ?_;dsimp only[u3,u4,List.length,Nat.reduceSub,Nat.reduceAdd,w1,w2];have cy:=hH;have hH:=hH.cH;have cq:(aj .rw s0).bs=s0.bs:=rfl;generalize aj .rw s0=S2 at*;refine qq ?_;refine qj fun K hK=>?_;refine qm ?_;refine qe hK ?_;refine qq ?_;refine qj fun K hK=>?_;refine qm ?_;obtain⟨_,st,aS,s1,⟨p1,p2,p3,p4,l,rfl,p5,p6⟩,hH⟩:=Aw hA dz he hi hg ho hH;refine qv aS ?_;refine qh (s:=1) (vs:=[_]) hH fun k6 st Et hH=>?_;dsimp only[u2,u1,u3,u4,setMany,u5,u6,D.cells,Nat.reduceAdd,aW,aU,aq,aw,dB] at hH;refine qm ?_;refine qe hK ?_;have hH:Has N S2 st (.box k (.mem 0 false (aW gs bD s1))::.aT bD 1 (bd.map aq)::.aT (.win k6 0 0 1 1) 1 ([l].map dB)::H):=lP hH;refine qq ?_;refine af.block ?_;refine af.loop (fun mm fr st=>∃(s1:eG) (pd:D) (parts:List (List ec)),fr.clean=⟨4,[.ptr k 0 0,mh fr 1,mh fr 2,pd],[]⟩∧Has N S2 st (.box k (.mem 0 false (aW gs bD s1))::.aT bD 1 (bd.map aq)::.aT pd 1 (parts.map dB)::H)∧(s1.o=s.o)∧(s1.g≤4)∧(s.i≤s1.i)∧(s1.i≤gs.length)∧(∀l∈parts,∀n∈l,sy n)∧(eX parts+3*parts.length≤4*(s1.i-s.i)+4)∧(1≤parts.length)∧(gs.length-s1.i≤mm)) (gs.length) ?_ ?_
 ·exact⟨s1,.win k6 0 0 1 1,[l],rfl,hH,p1,p2,p3,p4,(fun l' gP=>by simp only[List.mem_cons,List.not_mem_nil,or_false] at gP;subst gP;exact p5),by simp only[eX,List.length_cons,List.length_nil];omega,by simp,by omega⟩
 rintro mm fr st ⟨s1,pd,parts,hfr,hH,h1,h2,h3,h4,h5,h6,h8,sk⟩;rw[hfr];clear hfr;generalize mh fr=ee;clear fr
 have oz:∀st:St,Has N S2 st (.box k (.mem 0 false (aW gs bD s1))::.aT bD 1 (bd.map aq)::.aT pd 1 (parts.map dB)::H)→∃d,Ev pv 72 [.int .i64 4,pd] st d st∧sa gs s s1 d∧∃l,d=sf l:=by
  intro st hH;obtain⟨_,aS,l,rfl,j1,j2,j3⟩:=pL 4 (hH.rows ez) h5 (by omega) (by omega);refine⟨_,aS,⟨h1,h2,h3,h4,l,rfl,j1,?_⟩,l,rfl⟩
  by_cases q1:parts.length=1
  ·have:=j2 q1;omega
  ·omega
 by_cases jj:s1.e=0
 ·have bc:(s1.e==0)=true:=by simpa using jj
  obtain⟨k1,k2,k3,k4,k5⟩:=fY (gs:=gs) (s:=s1) (r:=124);have k5:=k5 h4;refine qq ?_;refine qq ?_;refine qj fun K hK=>?_;refine qm ?_;refine qg ?_;refine qp (o:=5) ?_;refine ql hH aB ?_;refine qg ?_;refine qm ?_;refine qm ?_ (hg:=wi bc);obtain⟨_,st,aS,rfl,hH⟩:=dJ (s:=s1) (by omega) 124 hH;refine qv aS ?_ (hg:=wi bc);refine qt bc ?_;refine qe hK ?_
  cases hb:ki gs s1.i 124 with
  |false=>
   rw[ny hb] at hH;refine qC ?_;refine af.exit ?_;obtain⟨_,zP,hQ,l,rfl⟩:=oz _ hH;refine qq ?_;refine qj fun K hK=>?_;refine qm ?_;refine qv (zP) ?_;refine qm ?_;refine qe hK ?_;refine af.ret ⟨rx,_,_,_,rfl,av (rfl),?_⟩;exact⟨s1,hQ,cy.aA cq (hH.erase 2)⟩
  |true=>
   have k6:=kW hb;generalize cQ gs s1 124=s2 at*;refine qB ?_;refine af.skip ?_;refine af.block ?_;refine qj fun K hK=>?_;refine qm ?_;refine qm ?_;obtain⟨_,st,aS,s3,⟨r1,r2,r3,r4,l,rfl,r5,r6⟩,hH⟩:=Aw hA dz (s:=s2) (by omega) k5 (by omega) (by omega) hH;refine qv aS ?_;refine qh (s:=1) (vs:=[_]) hH fun Tz st OV hH=>?_;dsimp only[u2,u1,u3,u4,setMany,u5,u6,D.cells,Nat.reduceAdd,aW,aU,aq,aw,dB] at hH;refine ae.bG (s:=1) hH rfl (ev rfl) (ev rfl) (by exact gm) (by exact hH.rows (by exact aB)) rfl rfl rfl rfl rfl rfl rfl ⟨(Nat.le_of_ble_eq_true rfl),(Nat.le_of_ble_eq_true rfl)⟩ (fun _=>(ag rfl _)) (by simp only[List.length_cons,List.length_nil,List.length_map]<;>omega) (by exact .inr rfl) (fun QI st hH=>?_);dsimp only[u2,u1,u3,u4,setMany,u5,u6,D.cells,Nat.reduceAdd,aW,aU,aq,aw,dB] at hH;refine qm ?_;refine qe hK ?_;have hH:=hH.drop 1;refine⟨mm-1,by omega,⟨s3,QI,parts++[l],rfl,(by rw[List.map_append];exact hH),by omega,r2,by omega,r4,?_,by rw[dp,List.length_append];simp only[eX,List.length_cons,List.length_nil];omega,by rw[List.length_append];omega,by omega⟩⟩;intro l' gP
   rcases List.mem_append.1 gP with gP|gP
   ·exact h5 l' gP
   ·simp only[List.mem_cons,List.not_mem_nil,or_false] at gP;subst gP;exact r5
 ·have bc:(s1.e==0)=false:=by simpa using jj
  refine qq ?_;refine qq ?_;refine qj fun K hK=>?_;refine qm ?_;refine qg ?_;refine qp (o:=5) ?_;refine ql hH aB ?_;refine qg ?_;refine qm ?_;refine qs ?_ (hg:=wn bc);refine qs ?_ (hg:=wn bc);refine qu bc ?_;refine qe hK ?_;refine qC ?_;refine af.exit ?_;obtain⟨_,zP,hQ,l,rfl⟩:=oz _ hH;refine qq ?_;refine qj fun K hK=>?_;refine qm ?_;refine qv (zP) ?_;refine qm ?_;refine qe hK ?_;refine af.ret ⟨rx,_,_,_,rfl,av (rfl),?_⟩;exact⟨s1,hQ,cy.aA cq (hH.erase 2)⟩
theorem lO:∀(n:Nat) (b:List UInt8),b.length≤n→(dX b).length≤b.length∧∀g∈dX b,g.2≤b.length:=by
 intro n
 induction n with
 |zero=>
  intro b hb;have:b=[]:=List.length_eq_zero_iff.1 (by omega);subst this;rw[lN];exact⟨Nat.le_refl _,fun g hg=>by cases hg⟩
 |succ n ih=>
  intro b hb
  by_cases h:b=[]
  ·subst h;rw[lN];exact⟨Nat.le_refl _,fun g hg=>by cases hg⟩
  ·have hp:=jy b;have hl:=q_ h;obtain⟨h1,h2⟩:=ih (b.drop (fc b).2) (by rw[List.length_drop];omega);rw[List.length_drop] at h1 h2;rw[mF h];refine⟨by rw[List.length_cons];omega,fun g hg=>?_⟩
   rcases List.mem_cons.1 hg with rfl|hg
   ·exact hl
   ·have:=h2 g hg;omega
def bp (fr:Go.V.Fr) (k:Nat):Go.V.D:=Go.V.nth .bA fr.loc k
def J5 (d:D):Prop:=∃(l:List ec) (e w:Int),d=.tup [sf l,.int .i64 e,.int .i64 w]∧(∀n∈l,sy n)∧l.length≤500
theorem y9 {s0:St} {b:List UInt8} (hbl:b.length≤1048576):∃d,Ev pv 30 [.str b] s0 d s0∧J5 d:=by
 obtain⟨nF,Km⟩:=lO _ b (Nat.le_refl _);have aS:∀(st:St) (x:D),Bytes st x b→Ev pv 53 [x] st (bZ (dX b)) st:=fun st x h=>AJ h hbl;generalize dX b=gs at*;refine Ev.AS rfl Qh rfl rfl rfl ?_;dsimp only[u3,u4,List.length,Nat.reduceSub,Nat.reduceAdd,w1,w2];obtain⟨bN,hF,hH⟩:=ri s0;generalize aj .ro s0=S at*;have zS:Arg s0.bs.length S 2 (bZ gs) (gs.map aU):=Arg.pure (fun st=>cT st gs);refine qq<|qj fun K hK=>qm ?_;refine qm ?_;refine qm ?_;refine qe hK<|qq<|qq<|qj fun K hK=>qm ?_;refine ae.sH rfl rfl rfl (by dsimp only[Fr.put,u1,u2]<;>rfl) ?_;refine qg ?_;refine qe hK ?_
 by_cases RE:120<b.length
 ·have gK:decide (((b.length:Nat):Int)>120)=true:=by rw[decide_eq_true_eq];omega
  refine qD rfl (by rw[gK]) ?_;refine qq<|qj fun K hK=>qm ?_;refine qm ?_;refine qm ?_;refine qe hK<|af.ret ⟨rx,_,_,rfl,rl bN hH (rfl),?_⟩;exact⟨[],2,0,rfl,fun n hn=>(by cases hn),by simp⟩
 have gK:decide (((b.length:Nat):Int)>120)=false:=by rw[decide_eq_false_iff_not];omega
 refine qE rfl (by rw[gK]) ?_;refine af.skip<|qq<|qj fun K hK=>qm ?_;refine ae.vG hH rfl rfl rfl rfl rfl (by omega) (fun _=>by dsimp only[Fr.put,u1,u2]<;>rfl) (fun AU st Jp hH=>?_);refine qv ((aS _ _ (hH.rows aB))) ?_;refine ae.go (d:=.agg [bZ gs,.nul,.int .i64 0,.int .i64 0,.int .i64 0,.int .i64 0,.int .i64 0]) (st1:=_) rfl rfl rfl (by dsimp only[Fr.put,u1,u2]<;>rfl) ?_;refine qb hH fun D8 st OW hH=>?_;refine qm ?_;refine qe hK<|qq<|qj fun K hK=>qm ?_;refine qe hK<|qq<|qq<|qj fun K hK=>qm ?_;refine qg ?_;refine qp (o:=0) ?_;refine ql hH aB ?_;refine qn ?_;simp only[List.length_map];refine qm ?_;refine qe hK ?_;have hH:Has s0.bs.length S st (.box D8 (.mem 0 false [bZ gs,.nul,.int .i64 0,.int .i64 0,.int .i64 0,.int .i64 0,.int .i64 0])::.aT .nul 1 (([]:List Int).map aq)::[]):=((hH.erase 1).fx 1).front bu;refine af.block<|af.loop (fun mm fr st=>∃(i a:Nat) (pd:D) (bd:List Int),fr.clean=⟨24,[bp fr 0,bp fr 1,bp fr 2,bp fr 3,bp fr 4,.ptr D8 0 0,.int .i64 (a:Nat),bp fr 7,bp fr 8,bp fr 9,bp fr 10,bp fr 11,bp fr 12,bp fr 13,bp fr 14,bp fr 15,bp fr 16,bp fr 17,bp fr 18,bp fr 19,bp fr 20,bZ gs,.int .i64 (gs.length:Nat),.int .i64 (i:Nat)],[]⟩∧Has s0.bs.length S st [.box D8 (.mem 0 false [bZ gs,pd,.int .i64 0,.int .i64 0,.int .i64 0,.int .i64 0,.int .i64 0]),.aT pd 1 (bd.map aq)]∧(i+mm=gs.length)∧(bd.length=i)∧(a≤120*i)) (gs.length) ?_ ?_
 ·exact⟨0,0,.nul,[],rfl,hH,by omega,rfl,by omega⟩
 rintro mm fr st ⟨i,a,pd,bd,hfr,hH,hi,ji,ha⟩;rw[hfr];clear hfr;generalize bp fr=ee;clear fr;refine qq<|qj fun K hK=>qg ?_;refine qe hK ?_
 by_cases hlt:i<gs.length
 ·obtain⟨g,hg⟩:∃g,gs[i]?=some g:=⟨gs[i]'hlt,List.getElem?_eq_getElem _⟩
  have gI:(gs.map aU)[i]?=some (aU g):=by rw[List.getElem?_map,hg];rfl
  have bm:=Km g (List.mem_of_getElem? hg);have vE:decide (((i:Nat):Int)<((gs.length:Nat):Int))=true:=by rw[decide_eq_true_eq];omega
  refine qq<|qD rfl (by rw[vE]) ?_;refine af.skip<|qq<|af.block<|qq<|qj fun K hK=>qr fun MR El=>?_;refine ae.dt rfl (ev rfl) (by assumption) rfl (ag rfl _) ?_;refine qa hH fun k8 st OO hH=>?_;refine qS hH aB fun st hH=>?_;dsimp only[u2,u1,u3,u4,setMany,u5,u6,D.cells,Nat.reduceAdd,aW,aU,aq] at hH;refine qe hK<|qq<|qj fun K hK=>qm ?_;refine qm ?_;refine qg ?_;refine qp (o:=1) ?_;refine ql hH bu ?_;refine qm ?_;refine qh (s:=1) (vs:=[_]) hH fun Ka st OT hH=>?_;refine ae.bG (s:=1) hH rfl (ev rfl) (ev rfl) (by exact gm) (by exact hH.rows (by exact aB)) rfl rfl rfl rfl rfl rfl rfl ⟨(Nat.le_of_ble_eq_true rfl),(Nat.le_of_ble_eq_true rfl)⟩ (fun _=>(ag rfl _)) (by simp only[List.length_cons,List.length_nil,List.length_map]<;>omega) (by exact .inl hF) (fun Ss st hH=>?_);dsimp only[u2,u1,u3,u4,setMany,u5,u6,D.cells,Nat.reduceAdd,aW,aU,aq] at hH;refine qg ?_;refine qp (o:=1) ?_;refine qT hH ez (fun st hH=>?_) (jc:=hH.iN gm);dsimp only[u2,u1,u3,u4,setMany,u5,u6,D.cells,Nat.reduceAdd,aW,aU,aq] at hH;refine qe hK<|qj fun K hK=>qm ?_;refine qp (o:=1) ?_;refine ql hH bu ?_;refine ae.EW rfl (ev rfl) (ev rfl) (by omega) (ag rfl _) ?_;refine qm ?_;refine qe hK<|qj fun K hK=>qA ?_;refine qm ?_;refine qe hK ?_;exact⟨mm-1,by omega,⟨i+1,a+g.2,Ss,bd++[((a:Nat):Int)],rfl,(by rw[List.map_append];exact hH.drop 2),by omega,by rw[List.length_append,ji];rfl,by omega⟩⟩
 ·have vE:decide (((i:Nat):Int)<((gs.length:Nat):Int))=false:=by rw[decide_eq_false_iff_not];omega
  refine qq<|qE rfl (by rw[vE]) ?_;refine af.exit ?_
  have dz:jV gs bd:=⟨by omega,by omega⟩
  have hH:Has s0.bs.length S st (.box D8 (.mem 0 false (aW gs pd ⟨0,0,0,0,0⟩))::.aT pd 1 (bd.map aq)::[]):=hH;refine qq<|qj fun K hK=>qm ?_;obtain⟨_,st,aS,s1,⟨p1,p2,p3,p4,l,rfl,p5,p6⟩,hH⟩:=EV 20 (s:=⟨0,0,0,0,0⟩) dz rfl (by simp) (by simp) rfl hH;refine qv aS ?_;refine qm ?_;refine qe hK ?_;have p6:l.length≤4*(s1.i-0)+1:=p6;refine qq<|qq<|af.mb (fun fr st=>∃(s2:eG) (tmp:List (Nat×D)),fr=⟨24,[bp fr 0,bp fr 1,bp fr 2,bp fr 3,bp fr 4,.ptr D8 0 0,bp fr 6,bp fr 7,bp fr 8,sf l,bp fr 10,bp fr 11,bp fr 12,bp fr 13,bp fr 14,bp fr 15,bp fr 16,bp fr 17,bp fr 18,bp fr 19,bp fr 20,bp fr 21,bp fr 22,bp fr 23],tmp⟩∧Has s0.bs.length S st (.box D8 (.mem 0 false (aW gs pd s2))::.aT pd 1 (bd.map aq)::[])∧(True)) ?_ ?_
  ·by_cases jj:s1.e=0
   ·have bc:(s1.e==0)=true:=by simpa using jj
    refine qj fun K hK=>qm ?_;refine qg ?_;refine qp (o:=5) ?_;refine ql hH aB ?_;refine qg ?_;refine qm ?_;refine qm ?_ (hg:=wi bc);refine qg ?_ (hg:=wi bc);refine qp (o:=2) ?_ (hg:=wi bc);refine ql hH aB ?_ (hg:=wi bc);refine qm ?_ (hg:=wi bc);refine qg ?_ (hg:=wi bc);refine qp (o:=0) ?_ (hg:=wi bc);refine ql hH aB ?_ (hg:=wi bc);refine qn ?_ (hg:=wi bc);simp only[List.length_map];refine qg ?_ (hg:=wi bc);refine qt bc ?_;refine qe hK ?_;refine af.cond (by rfl) (fun rH=>?_) (fun rH=>?_)<;>try simp only[decide_eq_true_eq,decide_eq_false_iff_not] at rH
    ·refine qj fun K hK=>qm ?_;refine qm ?_;refine qg ?_;refine qp (o:=2) ?_;refine ql hH aB ?_;obtain⟨_,st,aS,rfl,hH⟩:=cU (s:=s1) s1.i 4 (by omega) hH;refine qv aS ?_;refine qe hK ?_;exact⟨_,_,rfl,hH,trivial⟩
    ·refine af.skip ?_;exact⟨s1,_,rfl,hH,trivial⟩
   ·have bc:(s1.e==0)=false:=by simpa using jj
    refine qj fun K hK=>qm ?_;refine qg ?_;refine qp (o:=5) ?_;refine ql hH aB ?_;refine qg ?_;refine qm ?_;refine qs ?_ (hg:=wn bc);refine qs ?_ (hg:=wn bc);refine qs ?_ (hg:=wn bc);refine qs ?_ (hg:=wn bc);refine qs ?_ (hg:=wn bc);refine qs ?_ (hg:=wn bc);refine qs ?_ (hg:=wn bc);refine qs ?_ (hg:=wn bc);refine qs ?_ (hg:=wn bc);refine qs ?_ (hg:=wn bc);refine qu bc ?_;refine qe hK<|qC ?_;refine af.skip ?_;exact⟨s1,_,rfl,hH,trivial⟩
  ·rintro fr st ⟨s2,tmp,hfr,hH,ht⟩;rw[hfr];clear hfr;generalize bp fr=ee;clear fr;refine qq<|qq<|qj fun K hK=>qm ?_;refine qg ?_;refine qp (o:=5) ?_;refine ql hH aB ?_;refine qg ?_;refine qe hK ?_;refine af.cond (by rfl) (fun hne=>?_) (fun hne=>?_)<;>try simp only[bne_iff_ne,bne_eq_false_iff_eq,ne_eq] at hne
   ·refine qq<|qj fun K hK=>qm ?_;refine qg ?_;refine qp (o:=5) ?_;refine ql hH aB ?_;refine qm ?_;refine qg ?_;refine qp (o:=6) ?_;refine ql hH aB ?_;refine qm ?_;refine qm ?_;refine qm ?_;refine qe hK<|af.ret ⟨rx,_,_,rfl,rl bN hH (rfl),?_⟩;exact⟨[],_,_,rfl,fun n hn=>(by cases hn),by simp⟩
   ·refine af.skip<|qq<|qj fun K hK=>qm ?_;refine qm ?_;refine qm ?_;refine qm ?_;refine qe hK<|af.ret ⟨rx,_,_,rfl,rl bN hH (rfl),?_⟩;exact⟨l,0,0,rfl,p5,by omega⟩
def qZ (n:ec):Bool:=((n.op==2)||((n.rs.length:Nat):Int)==0) &&((n.op==5)||((n.mn==0) &&(n.mx==0) &&!n.lz)) &&((n.op==6)||(n.cap==0))
noncomputable def fu (n:ec) (g:Int):Int×Bool:=
 if qZ n=false then(0,false)
 else if n.op=1∨n.op=7∨n.op=8 then(0,n.kids==0)
 else if n.op=2 then(0,(n.kids==0) &&gy n.rs)
 else if n.op=3∨n.op=4 then(n.kids,decide (n.kids≥2))
 else if n.op=5 then(1,(n.kids==1) &&decide (n.mn≥0) &&decide (n.mn≤30) &&((n.mx==-1)||(decide (n.mx≥n.mn) &&decide (n.mx≤30))))
 else if n.op=6 then(1,(n.kids==1) &&(n.cap==g+1) &&decide (n.cap≤4))
 else(0,false)
def kq (h:Nat→Nat→Option (Nat×Nat)):Nat→Nat→Nat→Option (Nat×Nat)
 |0,at_,g=>some (at_,g)
 |k+1,at_,g=>match h at_ g with
  |some r=>kq h k r.1 r.2
  |none=>none
noncomputable def il (l:List ec):Nat→Nat→Nat→Option (Nat×Nat)
 |0,_,_=>none
 |f+1,at_,g=>match l[at_]? with
  |none=>none
  |some n=>if(fu n (g:Nat)).2=true then kq (il l f) (fu n (g:Nat)).1.toNat (at_+1) (if n.op=6 then g+1 else g) else none
theorem sK {n:ec} {g:Nat} (h:(fu n (g:Nat)).2=true):tv n (fu n (g:Nat)).1.toNat∧0≤(fu n (g:Nat)).1∧(n.op=6→n.cap=g+1∧n.cap≤4):=by
 unfold fu at h⊢;unfold tv
 by_cases h0:qZ n=false
 ·rw[if_pos h0] at h;cases h
 rw[if_neg h0] at h⊢
 by_cases h1:n.op=1∨n.op=7∨n.op=8
 ·rw[if_pos h1] at h⊢;simp only[beq_iff_eq] at h;exact⟨⟨h,.inl ⟨h1,rfl⟩⟩,Int.le_refl _,fun h6=>by omega⟩
 rw[if_neg h1] at h⊢
 by_cases h2:n.op=2
 ·rw[if_pos h2] at h⊢;simp only[Bool.and_eq_true,beq_iff_eq] at h;exact⟨⟨h.1,.inr (.inl ⟨h2,rfl⟩)⟩,Int.le_refl _,fun h6=>by omega⟩
 rw[if_neg h2] at h⊢
 by_cases h3:n.op=3∨n.op=4
 ·rw[if_pos h3] at h⊢;simp only[decide_eq_true_eq] at h;exact⟨⟨by simp only;omega,.inr (.inr (.inl ⟨h3,by simp only;omega⟩))⟩,by simp only;omega,fun h6=>by omega⟩
 rw[if_neg h3] at h⊢
 by_cases h5:n.op=5
 ·rw[if_pos h5] at h⊢;simp only[Bool.and_eq_true,Bool.or_eq_true,beq_iff_eq,decide_eq_true_eq] at h;exact⟨⟨by simp only;omega,.inr (.inr (.inr (.inl ⟨h5,by simp only;rfl,by omega,by omega,by omega⟩)))⟩,by simp only;omega,fun h6=>by omega⟩
 rw[if_neg h5] at h⊢
 by_cases h6:n.op=6
 ·rw[if_pos h6] at h⊢;simp only[Bool.and_eq_true,beq_iff_eq,decide_eq_true_eq] at h;exact⟨⟨by simp only;omega,.inr (.inr (.inr (.inr ⟨h6,by simp only;rfl,by omega,by omega⟩)))⟩,by simp only;omega,fun _=>⟨h.1.2,h.2⟩⟩
 rw[if_neg h6] at h;cases h
theorem fp.cons {α:Type} {L M:List α} {a:α} {at_:Nat} (h:L[at_]?=some a) (h2:fp L (at_+1) M):fp L at_ (a::M):=by
 obtain⟨post,h2⟩:=h2;refine⟨post,?_⟩;have h3:L[at_]'(cn h)=a:=Option.some.inj ((List.getElem?_eq_getElem _).symm.trans h);rw[List.drop_eq_getElem_cons (cn h),h2,h3];rfl
theorem fp.append {α:Type} {L M M':List α} {at_:Nat} (h:fp L at_ M) (h2:fp L (at_+M.length) M'):fp L at_ (M++M'):=by
 obtain⟨post,h⟩:=h;obtain⟨K2,h2⟩:=h2;refine⟨K2,?_⟩;rw[←List.drop_drop,h,List.drop_left] at h2;rw[h,h2,List.append_assoc]
theorem fp.none {α:Type} (L:List α) (at_:Nat):fp L at_ []:=⟨_,rfl⟩
theorem pJ {l:List ec} {h:Nat→Nat→Option (Nat×Nat)} (ih:∀at_ g r,h at_ g=some r→∃t:Tr,t.ok∧fp l at_ t.flat∧r.1=at_+t.flat.length):∀k at_ g r,kq h k at_ g=some r→∃ts:bU,ts.len=k∧ts.ok∧fp l at_ ts.flat∧r.1=at_+ts.flat.length
 |0,at_,g,r,e=>by
  simp only[kq,Option.some.injEq] at e;subst e;exact⟨.nil,rfl,trivial,fp.none _ _,by simp[bU.flat]⟩
 |k+1,at_,g,r,e=>by
  unfold kq at e
  cases hq:h at_ g with
  |none=>rw[hq] at e;cases e
  |some q=>
   rw[hq] at e;obtain⟨t,t1,t2,t3⟩:=ih _ _ _ hq;obtain⟨ts,u1,u2,u3,u4⟩:=pJ ih k _ _ _ e;rw[t3] at u3 u4;exact⟨.cons t ts,by simp[bU.len,u1],by simp only[bU.ok];exact⟨t1,u2⟩,by simp only[bU.flat];exact t2.append u3,by rw[u4];simp only[bU.flat,List.length_append];omega⟩
theorem tp {l:List ec}:∀f at_ g r,il l f at_ g=some r→∃t:Tr,t.ok∧fp l at_ t.flat∧r.1=at_+t.flat.length
 |0,_,_,_,e=>by simp[il] at e
 |f+1,at_,g,r,e=>by
  unfold il at e
  cases hn:l[at_]? with
  |none=>rw[hn] at e;cases e
  |some n=>
   rw[hn] at e;simp only at e
   split at e
   ·rename_i hs;obtain⟨ts,u1,u2,u3,u4⟩:=pJ (tp f) _ _ _ _ e;have:=(sK hs).1;rw[←u1] at this;exact⟨.mk n ts,by simp only[Tr.ok];exact⟨this,u2⟩,by simp only[Tr.flat];exact fp.cons hn u3,by rw[u4];simp only[Tr.flat,List.length_cons];omega⟩
   ·cases e
noncomputable def gY (l:List ec):Bool:=(decide (1≤l.length) &&decide (l.length≤480)) &&(match il l 241 0 0 with|some r=>decide (r.1=l.length)|none=>false)
theorem nV {l:List ec} (h:gY l=true):∃t:Tr,t.ok∧t.flat=l:=by
 unfold gY at h;simp only[Bool.and_eq_true] at h;obtain⟨_,h⟩:=h
 split at h
 ·rename_i r hr;obtain⟨t,h1,⟨post,h2⟩,h3⟩:=tp _ _ _ _ hr;rw[decide_eq_true_eq] at h;refine⟨t,h1,?_⟩;rw[List.drop_zero] at h2;have h4:=congrArg List.length h2;rw[List.length_append] at h4;have h5:post=[]:=List.length_eq_zero_iff.1 (by omega);rw[h2,h5,List.append_nil]
 ·cases h
noncomputable def dI (l:List ec):Tr:=@dite _ (∃t:Tr,t.ok∧t.flat=l) (Classical.propDecidable _) (fun h=>Classical.choose h) (fun _=>.mk ⟨0,.nul,[],0,0,false,0,0⟩ .nil)
theorem wo {l:List ec} (h:gY l=true):(dI l).ok∧(dI l).flat=l:=by
 unfold dI;rw[dif_pos (nV h)];exact Classical.choose_spec (nV h)
theorem EO {n:ec} {k s:Nat}:min (bW n (min s 401) k) 401=min (bW n s k) 401:=by
 by_cases hs:s≤401
 ·rw[Nat.min_eq_left hs]
 ·have hx:min s 401=401:=by omega
  rw[hx];unfold bW
  split
  ·rfl
  ·split
   ·omega
   ·split
    ·omega
    ·split
     ·split
      ·omega
      ·by_cases h0:n.mn.toNat=0
       ·rw[h0]
        by_cases hd:n.mx.toNat-0=0
        ·rw[hd];simp
        ·have h1:=Nat.le_mul_of_pos_left (401+1) (show 0<n.mx.toNat-0 by omega);have h2:=Nat.le_mul_of_pos_left (s+1) (show 0<n.mx.toNat-0 by omega);omega
       ·have h1:=Nat.le_mul_of_pos_left 401 (show 0<n.mn.toNat by omega);have h2:=Nat.le_mul_of_pos_left s (show 0<n.mn.toNat by omega);omega
     ·omega
def kY (t:Tr) (b r:Nat):List bC:=ej 4 0 0 []::(a8 t (b+1)++[ej 4 1 0 [],ej 7 (r:Nat) 0 []])
theorem po {t:Tr} {b r:Nat} (h:t.ok):(kY t b r).length=t.sz+3:=by
 unfold kY;rw[List.length_cons,List.length_append,dF t _ h];rfl
structure qF where
 code:List bC
 aF:List Int
 e:Int
 w:Int
noncomputable def jP:List (List ec)→Nat→List bC→List Int→qF
 |[],_,c,s=>⟨c,s,0,0⟩
 |l::ls,r,c,s=>if gY l=false then⟨[],[],1,(r:Nat)⟩ else if 400<c.length+min (dI l).sz 401+3 then⟨[],[],12,(r:Nat)⟩ else jP ls (r+1) (c++kY (dI l) c.length r) (s++[((c.length:Nat):Int)])
noncomputable def dW (rules:List (List ec)):qF:=if 8<rules.length then⟨[],[],13,8⟩ else jP rules 0 [] []
def xH (code:List bC) (aF:List Int):Pg:=⟨.sl ((code.map aL).map (ke 4)),code,zB aF,aF⟩
def iC (i:bC):Prop:=i.rd=.sl ((i.rs.map aw).map (ke 2))∧i.rs.length≤1048576
theorem lb (op x y:Int):iC (ej op x y []):=⟨rfl,by simp[ej]⟩
theorem K7 (op x y:Int) {rs:List Rg} (h:rs.length≤1048576):iC (ej op x y rs):=⟨rfl,h⟩
theorem yK (s o:Nat) (lz:Bool):iC (qL s o lz):=by unfold qL;split<;>exact lb _ _ _
theorem E2 (e:Nat):iC (pK e):=lb _ _ _
theorem vl {code:List bC} (h:∀i∈code,iC i):∀e∈code.map aL,∀d∈e,ch d=true:=by
 intro e he d hd;obtain⟨q,hq,rfl⟩:=List.mem_map.1 he;have hr:=(h q hq).1;simp only[aL,hr,List.mem_cons,List.not_mem_nil,or_false] at hd
 rcases hd with rfl|rfl|rfl|rfl<;>rfl
theorem Ea (code:List bC):∀e∈code.map aL,e.length=4:=by
 intro e he;obtain⟨q,_,rfl⟩:=List.mem_map.1 he;rfl
theorem u_ {code:List bC} {aF:List Int} (h:∀i∈code,iC i) (h1:code.length≤1048576) (h2:aF.length≤1048576):(xH code aF).ok:=by
 refine⟨gq.frozen (Ea code) (vl h),tK _,fun i hi=>?_,h1,h2⟩;obtain⟨h3,h4⟩:=h i hi;refine⟨?_,h4⟩;rw[h3];exact gq.frozen (l5 _) (eT _)
theorem uT {c:Nat→List bC} {z:Nat} (hc:∀b,∀i∈c b,iC i):∀k b,∀i∈g_ c z k b,iC i
 |0,b,i,hi=>by cases hi
 |k+1,b,i,hi=>by
  simp only[g_] at hi
  rcases List.mem_append.1 hi with hi|hi
  ·exact hc b i hi
  ·exact uT hc k _ i hi
theorem za {sp:Nat→bC} {c:Nat→List bC} {z:Nat} (hs:∀s,iC (sp s)) (hc:∀b,∀i∈c b,iC i):∀k b,∀i∈gA sp c z k b,iC i
 |0,b,i,hi=>by cases hi
 |k+1,b,i,hi=>by
  simp only[gA] at hi
  rcases List.mem_cons.1 hi with rfl|hi
  ·exact hs _
  ·rcases List.mem_append.1 hi with hi|hi
   ·exact hc _ i hi
   ·exact za hs hc k _ i hi
mutual
theorem nI:∀(t:Tr) (b:Nat),(∀n∈t.flat,n.rs.length≤1048576)→∀i∈a8 t b,iC i
 | .mk n ks,b,h,i,hi=>by
  simp only[Tr.flat] at h;have hn:=h n (List.mem_cons_self ..);have hk:∀n∈ks.flat,n.rs.length≤1048576:=fun m hm=>h m (List.mem_cons_of_mem _ hm);have hc:=fun b=>Ax ks b hk;have ha:=fun jp (hj:iC jp) b=>AG jp hj ks b hk;simp only[a8] at hi
  split at hi
  ·simp only[List.mem_cons,List.not_mem_nil,or_false] at hi;subst hi;exact K7 _ _ _ hn
  split at hi
  ·simp only[List.mem_cons,List.not_mem_nil,or_false] at hi;subst hi;exact lb _ _ _
  split at hi
  ·simp only[List.mem_cons,List.not_mem_nil,or_false] at hi;subst hi;exact lb _ _ _
  split at hi
  ·exact hc b i hi
  split at hi
  ·exact ha _ (E2 _) b i hi
  split at hi
  ·unfold uP at hi
   split at hi
   ·rcases List.mem_append.1 hi with hi|hi
    ·exact uT hc _ _ i hi
    ·rcases List.mem_cons.1 hi with rfl|hi
     ·exact yK _ _ _
     ·rcases List.mem_append.1 hi with hi|hi
      ·exact hc _ i hi
      ·simp only[List.mem_cons,List.not_mem_nil,or_false] at hi;subst hi;exact E2 _
   ·rcases List.mem_append.1 hi with hi|hi
    ·exact uT hc _ _ i hi
    ·exact za (fun s=>yK _ _ _) hc _ _ i hi
  split at hi
  ·rcases List.mem_cons.1 hi with rfl|hi
   ·exact lb _ _ _
   ·rcases List.mem_append.1 hi with hi|hi
    ·exact hc _ i hi
    ·simp only[List.mem_cons,List.not_mem_nil,or_false] at hi;subst hi;exact lb _ _ _
  ·cases hi
theorem Ax:∀(ts:bU) (b:Nat),(∀n∈ts.flat,n.rs.length≤1048576)→∀i∈jQ ts b,iC i
 | .nil,b,_,i,hi=>by simp[jQ] at hi
 | .cons t ts,b,h,i,hi=>by
  simp only[bU.flat] at h;simp only[jQ] at hi
  rcases List.mem_append.1 hi with hi|hi
  ·exact nI t b (fun n hn=>h n (List.mem_append_left _ hn)) i hi
  ·exact Ax ts _ (fun n hn=>h n (List.mem_append_right _ hn)) i hi
theorem AG (jp:bC) (hj:iC jp):∀(ts:bU) (b:Nat),(∀n∈ts.flat,n.rs.length≤1048576)→∀i∈gF jp ts b,iC i
 | .nil,b,_,i,hi=>by simp[gF] at hi
 | .cons t ts,b,h,i,hi=>by
  simp only[bU.flat] at h;have h1:∀n∈t.flat,n.rs.length≤1048576:=fun n hn=>h n (List.mem_append_left _ hn);have h2:∀n∈ts.flat,n.rs.length≤1048576:=fun n hn=>h n (List.mem_append_right _ hn);simp only[gF] at hi
  split at hi
  ·exact nI t b h1 i hi
  ·rcases List.mem_cons.1 hi with rfl|hi
   ·exact yK _ _ _
   ·rcases List.mem_append.1 hi with hi|hi
    ·exact nI t _ h1 i hi
    ·rcases List.mem_cons.1 hi with rfl|hi
     ·exact hj
     ·exact AG jp hj ts _ h2 i hi
end
theorem Bc {t:Tr} {b r:Nat} (h:∀n∈t.flat,n.rs.length≤1048576):∀i∈kY t b r,iC i:=by
 intro i hi;unfold kY at hi
 rcases List.mem_cons.1 hi with rfl|hi
 ·exact lb _ _ _
 ·rcases List.mem_append.1 hi with hi|hi
  ·exact nI t _ h i hi
  ·simp only[List.mem_cons,List.not_mem_nil,or_false] at hi
   rcases hi with rfl|rfl
   ·exact lb _ _ _
   ·exact lb _ _ _
end Go.Proofs.Ytbdilgkfnacahaa
