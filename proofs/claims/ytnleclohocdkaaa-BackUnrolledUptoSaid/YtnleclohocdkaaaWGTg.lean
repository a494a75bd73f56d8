/-
 The parser of patterns, told exactly: groups.
-/
import Derived.Test.YtnleclohocdkaaaWGTb
import Derived.Test.YtnleclohocdkaaaWGPc
set_option maxRecDepth 100000
set_option maxHeartbeats 4000000
set_option linter.unusedSimpArgs false
set_option linter.unusedVariables false
namespace Go.Proofs.Ytnleclohocdkaaa
open Go.V Go
def gp (fr:Go.V.Fr) (k:Nat):Go.V.D:=Go.V.nth .bG fr.loc k
abbrev PF:=Nat→Nat→PR (List bF×Nat)
def eB (A:PF) (gs:List (Nat×Nat)) (m i g:Nat) (free:Bool) (j:Nat):PR (List bF×Nat):=
 if m=0 then .er 10 i
 else if free=false∧4≤g then .er 13 i
 else match A j (if free=true then g else g+1) with
  | .er e w=>.er e w
  | .ok (l,g2) j2=>
   if ct gs j2 41=true then .ok (if free=true then l else fy 6 0 0 false ((g+1:Nat):Int) 1 []::l,g2) (j2+1)
   else .er 4 i
def iC (A:PF) (gs:List (Nat×Nat)) (m i g:Nat):PR (List bF×Nat):=
 if ct gs (i+1) 63=true then
  (if ct gs (i+2) 58=true then eB A gs m i g true (i+3) else .er 4 i)
 else eB A gs m i g false (i+1)
theorem eH.to {α:Type} {R:PR α} {aS:List Int} {s s':dW} (h:eH R aS s) (he:s'.e=s.e) (hw:s'.w=s.w):eH R aS s':=by
 obtain⟨e,w,h0,h1,h2,h3⟩:=h;exact⟨e,w,h0,h1,he.trans h2,hw.trans h3⟩
def yM (A:PF) (gs:List (Nat×Nat)) (m:Nat):Prop:=∀{N k:Nat} {S s0:St} {H:List cx} {bz:D} {aS:List Int} {s:dW},kO gs aS→s.e=0→s.i≤gs.length→s.g≤4→s.o+m=20→Has N S s0 (.box k (.mem 0 false (aU gs bz s))::.aR bz 1 (aS.map au)::H)→
 ∃d ag,Ev pv 38 [.ptr k 0 0] s0 d ag∧∃(s':dW),oX gs aS (A s.i s.g) s s' d∧Has N S ag (.box k (.mem 0 false (aU gs bz s'))::.aR bz 1 (aS.map au)::H)
theorem A3 {m:Nat} {gs:List (Nat×Nat)} {A:PF} (hA:∀m',m'+1=m→yM A gs m') {N k:Nat} {S s0:St} {H:List cx} {bz:D} {aS:List Int} {s:dW} (cH:kO gs aS) (he:s.e=0) (hi:s.i<gs.length) (hg:s.g≤4) (ho:s.o+m=20) (hH:Has N S s0 (.box k (.mem 0 false (aU gs bz s))::.aR bz 1 (aS.map au)::H)):
  ∃d ag,Ev pv 121 [.ptr k 0 0] s0 d ag∧∃(s':dW),jj gs aS (iC A gs m s.i s.g) s s' d 2∧Has N S ag (.box k (.mem 0 false (aU gs bz s'))::.aR bz 1 (aS.map au)::H):=by
 have qk:=cH.gl;have jT:=cH.pl;refine Ev.ow rfl Jf rfl rfl rfl ?_;dsimp only[u3,u4,List.length,Nat.reduceSub,Nat.reduceAdd,w1,w2];have cU:=hH;have hH:=hH.cV;have cF:(aj .rw s0).bs=s0.bs:=rfl;generalize aj .rw s0=S2 at*
 obtain⟨R,hR⟩:∃R,iC A gs m s.i s.g=R:=⟨_,rfl⟩
 rw[hR];unfold iC at hR
 have hwr:∀(st:St) (s3:dW) (e:Int) (H2:List cx),e≠0→s3.e=0→s3.o=s.o→s3.g≤4→s.i≤s3.i→s3.i≤gs.length→R=.er e s.i→Has N S2 st (.box k (.mem 0 false (aU gs bz s3))::.aR bz 1 (aS.map au)::H2)→∃d ag,Ev pv 39 [.ptr k 0 0,.int .i64 (s.i:Nat),.int .i64 e] st d ag∧d=.sl []∧∃s4,jj gs aS R s s4 (.sl []) 2∧Has N S2 ag (.box k (.mem 0 false (aU gs bz s4))::.aR bz 1 (aS.map au)::H2):=by
  intro st s3 e H2 h0 h1 h2 h3 h4 h5 hv hH;obtain⟨d,ag,aM,h6,hH⟩:=ef (s:=s3) s.i e (by omega) hH;obtain⟨w1,w2,w3,w4⟩:=gC (aS:=aS) (s:=s3) (i:=s.i) (e:=e) h1 h0 hv;exact⟨d,ag,aM,h6,_,fp (w3.trans h2) (by omega) (by omega) (by omega) w1,hH⟩
 refine qq<|qj fun K hK=>qm ?_;refine qe hK<|qq<|qj fun K hK=>qm ?_;refine qg ?_;refine qp (o:=2) ?_;refine ql hH aC ?_;refine qm ?_;refine qe hK<|qq<|qj fun K hK=>qm ?_;refine qg ?_;refine qp (o:=2) ?_;refine ql hH aC ?_;refine qA ?_;refine qg ?_;refine qp (o:=2) ?_;refine qT hH aC fun st hH=>?_;dsimp only[u2,u1,u3,u4,setMany,u5,u6,D.cells,Nat.reduceAdd,aU,bq,au,aw,a_] at hH;refine qe hK ?_;have hH:Has N S2 st (.box k (.mem 0 false (aU gs bz {s with i:=s.i+1}))::.aR bz 1 (aS.map au)::H):=hH
 obtain⟨s1,sJ⟩:∃s1:dW,({s with i:=s.i+1}:dW)=s1:=⟨_,rfl⟩
 have KU:s1.e=0∧s1.o=s.o∧s1.g=s.g∧s1.i=s.i+1:=by rw[←sJ];exact⟨he,rfl,rfl,rfl⟩
 rw[sJ] at hH;clear sJ;obtain⟨f1,f2,f3,f4⟩:=KU;refine qq<|qj fun K hK=>qm ?_;refine qe hK<|qq<|qq<|af.pK (fun fr st=>∃(free:Bool) (s2:dW) (tmp:List (Nat×D)),fr=⟨7,[.ptr k 0 0,gp fr 1,gp fr 2,.int .i64 (s.i:Nat),.bool free,gp fr 5,gp fr 6],tmp⟩∧Has N S2 st (.box k (.mem 0 false (aU gs bz s2))::.aR bz 1 (aS.map au)::H)∧(s2.e=0)∧(s2.o=s.o)∧(s2.g=s.g)∧(s.i+1≤s2.i)∧(s2.i≤gs.length)∧(eB A gs m s.i s.g free s2.i=R)) ?_ ?_
 ·obtain⟨k1,k2,k3,k4,k5⟩:=gO (gs:=gs) (s:=s1) (r:=63);have k5:=k5 (by omega);have k6:=uQ (gs:=gs) (s:=s1) (r:=63);have k7:=kU (gs:=gs) (s:=s1) (r:=63);refine qj fun K hK=>qm ?_;obtain⟨_,st,aM,rfl,hH⟩:=dS (s:=s1) (by omega) 63 hH;refine qv aM ?_;refine qe hK ?_;generalize b9 gs s1 63=s2 at*
  cases hb:ct gs s1.i 63 with
  |false=>
   refine qC ?_;refine af.skip ?_;exact⟨false,s2,_,rfl,hH,by omega,by omega,by omega,by omega,by omega,(by rw[k6 hb,f4,←hR,if_neg (by rw[←f4,hb];simp)])⟩
  |true=>
   refine qB ?_;refine qq<|qj fun K hK=>qm ?_;refine qe hK ?_;obtain⟨r1,r2,r3,r4,r5⟩:=gO (gs:=gs) (s:=s2) (r:=58);have r5:=r5 k5;have k7:=k7 hb;have r7:=kU (gs:=gs) (s:=s2) (r:=58);refine qq<|qj fun K hK=>qm ?_;obtain⟨_,st,aM,rfl,hH⟩:=dS (s:=s2) (by omega) 58 hH;refine qv aM ?_;refine qg ?_;refine qe hK ?_;generalize b9 gs s2 58=s3 at*
   cases hb2:ct gs s2.i 58 with
   |false=>
    refine qB ?_;refine qq<|qj fun K hK=>qm ?_;refine qm ?_;obtain⟨_,st,aM,rfl,s4,hN,hH⟩:=hwr _ s3 4 _ (by decide) (by omega) (by omega) (by omega) (by omega) (by omega) (by rw[←hR,if_pos (by rw[←f4];exact hb),if_neg (by rw[show s.i+2=s2.i by omega,hb2];simp)]) hH;refine qv aM ?_;refine qm ?_;refine qe hK<|af.ret ⟨rx,_,_,_,rfl,ak (rfl),?_⟩;exact⟨s4,hN,cU.ax cF hH⟩
   |true=>
    refine qC ?_;refine af.skip ?_;exact⟨true,s3,_,rfl,hH,by omega,by omega,by omega,by omega,by omega,(by rw[←hR,if_pos (by rw[←f4];exact hb),if_pos (by rw[show s.i+2=s2.i by omega];exact hb2),show s3.i=s.i+3 by have:=r7 hb2;omega])⟩
 ·rintro fr st ⟨free,s2,tmp,hfr,hH,h1,h2,h3,h4,h5,hG⟩;rw[hfr];clear hfr;generalize gp fr=ee;clear fr;clear hR;refine qq<|qq<|qj fun K hK=>qm ?_;refine qg ?_;refine qp (o:=3) ?_;refine ql hH aC ?_;refine qg ?_;refine qe hK ?_
  by_cases NM:20≤s2.o
  ·have gW:decide (((s2.o:Nat):Int)≥20)=true:=by rw[decide_eq_true_eq];omega
   refine qD rfl (by rw[gW]) ?_;refine qq<|qj fun K hK=>qm ?_;refine qm ?_;obtain⟨_,st,aM,rfl,s4,hN,hH⟩:=hwr _ s2 10 _ (by decide) h1 h2 (by omega) (by omega) h5 (by rw[←hG];unfold eB;rw[if_pos (by omega)]) hH;refine qv aM ?_;refine qm ?_;refine qe hK<|af.ret ⟨rx,_,_,_,rfl,ak (rfl),?_⟩;exact⟨s4,hN,cU.ax cF hH⟩
  have gW:decide (((s2.o:Nat):Int)≥20)=false:=by rw[decide_eq_false_iff_not];omega
  refine qE rfl (by rw[gW]) ?_;refine af.skip<|qq<|qj fun K hK=>ab.go (d:=.agg [.int .i64 6,.nul,.int .i64 0,.int .i64 0,.bool false,.int .i64 0,.int .i64 1]) (st1:=_) rfl rfl rfl (aa rfl _) ?_;refine qa hH fun k5 st JV hH=>?_;dsimp only[u2,u1,u3,u4,setMany,u5,u6,D.cells,Nat.reduceAdd,aU,bq,au,aw,a_] at hH;refine qS hH aC fun st hH=>?_;dsimp only[u2,u1,u3,u4,setMany,u5,u6,D.cells,Nat.reduceAdd,aU,bq,au,aw,a_] at hH;refine qe hK ?_;have hH:Has N S2 st (.box k (.mem 0 false (aU gs bz s2))::.aR bz 1 (aS.map au)::.box k5 (.mem 0 false [.int .i64 6,.nul,.int .i64 0,.int .i64 0,.bool false,.int .i64 0,.int .i64 1])::H):=mW hH;refine qq<|qq<|af.pK (fun fr st=>∃(cap:Int) (s3:dW) (tmp:List (Nat×D)),fr=⟨7,[.ptr k 0 0,gp fr 1,gp fr 2,.int .i64 (s.i:Nat),.bool free,.ptr k5 0 0,gp fr 6],tmp⟩∧Has N S2 st (.box k (.mem 0 false (aU gs bz s3))::.aR bz 1 (aS.map au)::.box k5 (.mem 0 false [.int .i64 6,.nul,.int .i64 0,.int .i64 0,.bool false,.int .i64 cap,.int .i64 1])::H)∧(s3.e=0)∧(s3.o=s.o)∧(s3.g≤4)∧(s3.i=s2.i)∧(s3.g=(if free=true then s.g else s.g+1))∧(cap=(if free=true then 0 else((s.g+1:Nat):Int)))∧(¬(free=false∧4≤s.g))) ?_ ?_
  ·refine qj fun K hK=>qm ?_;refine qg ?_;refine qe hK ?_
   cases free with
   |true=>
    refine qC ?_;refine af.skip ?_;exact⟨0,s2,_,rfl,hH,h1,h2,by omega,rfl,(by rw[if_pos rfl];exact h3),(by rw[if_pos rfl]),(fun h=>absurd h.1 (by simp))⟩
   |false=>
    refine qB ?_;refine qq<|qq<|qj fun K hK=>qm ?_;refine qg ?_;refine qp (o:=4) ?_;refine ql hH aC ?_;refine qg ?_;refine qe hK ?_
    by_cases Ny:4≤s2.g
    ·have gW:decide (((s2.g:Nat):Int)≥4)=true:=by rw[decide_eq_true_eq];omega
     refine qD rfl (by rw[gW]) ?_;refine qq<|qj fun K hK=>qm ?_;refine qm ?_;obtain⟨_,st,aM,rfl,s4,hN,hH⟩:=hwr _ s2 13 _ (by decide) h1 h2 (by omega) (by omega) h5 (by rw[←hG];unfold eB;rw[if_neg (by omega),if_pos ⟨rfl,by omega⟩]) hH;refine qv aM ?_;refine qm ?_;refine qe hK<|af.ret ⟨rx,_,_,_,rfl,ak (rfl),?_⟩;exact⟨s4,hN,cU.ax cF (hH.erase 2)⟩
    ·have gW:decide (((s2.g:Nat):Int)≥4)=false:=by rw[decide_eq_false_iff_not];omega
     refine qE rfl (by rw[gW]) ?_;refine af.skip<|qq<|qj fun K hK=>qm ?_;refine qg ?_;refine qp (o:=4) ?_;refine ql hH aC ?_;refine qA ?_;refine qg ?_;refine qp (o:=4) ?_;refine qT hH aC fun st hH=>?_;dsimp only[u2,u1,u3,u4,setMany,u5,u6,D.cells,Nat.reduceAdd,aU,bq,au,aw,a_] at hH;refine qe hK<|qj fun K hK=>qm ?_;refine qg ?_;refine qp (o:=4) ?_;refine ql hH aC ?_;refine qp (o:=5) ?_;refine qT hH dx fun st hH=>?_;dsimp only[u2,u1,u3,u4,setMany,u5,u6,D.cells,Nat.reduceAdd,aU,bq,au,aw,a_] at hH;refine qe hK ?_;exact⟨((s2.g+1:Nat):Int),{s2 with g:=s2.g+1},_,rfl,hH,h1,h2,by show s2.g+1≤4;omega,rfl,(by rw[if_neg (by simp)];show s2.g+1=_;omega),(by rw[if_neg (by simp),h3]),(fun h=>by have:=h.2;omega)⟩
  ·rintro fr st ⟨cap,s3,tmp,hfr,hH,e1,e2,e3,e4,e5,e6,e7⟩;rw[hfr];clear hfr;generalize gp fr=ee;clear fr
   have hv:R=match A s3.i s3.g with
    | .er e w=>.er e w
    | .ok (l,g2) j2=>if ct gs j2 41=true then .ok (if free=true then l else fy 6 0 0 false ((s.g+1:Nat):Int) 1 []::l,g2) (j2+1) else .er 4 s.i:=by
    rw[←hG,e4,e5];unfold eB;rw[if_neg (by omega),if_neg e7]
   refine qq<|qj fun K hK=>qm ?_;refine qg ?_;refine qp (o:=3) ?_;refine ql hH aC ?_;refine qA ?_;refine qg ?_;refine qp (o:=3) ?_;refine qT hH aC fun st hH=>?_;dsimp only[u2,u1,u3,u4,setMany,u5,u6,D.cells,Nat.reduceAdd,aU,bq,au,aw,a_] at hH;refine qe hK ?_;have hH:Has N S2 st (.box k (.mem 0 false (aU gs bz {s3 with o:=s3.o+1}))::.aR bz 1 (aS.map au)::.box k5 (.mem 0 false [.int .i64 6,.nul,.int .i64 0,.int .i64 0,.bool false,.int .i64 cap,.int .i64 1])::H):=hH;refine qq<|qj fun K hK=>qm ?_;obtain⟨_,st,aM,s4,⟨a1,a2,a3,a4,l,rfl,a5,a6,a7⟩,hH⟩:=hA (m-1) (by omega) (s:={s3 with o:=s3.o+1}) cH e1 (by show s3.i≤_;omega) e3 (by show s3.o+1+(m-1)=20;omega) hH;refine qv aM ?_;refine qm ?_;refine qe hK ?_;have a7:eH (A s3.i s3.g) aS s4∨s4.e=0∧A s3.i s3.g=.ok (l,s4.g) s4.i:=a7;have a1:s4.o=s3.o+1:=a1;have a3:s3.i≤s4.i:=a3;have a6:l.length≤4*(s4.i-s3.i)+1:=a6;have hla:=(pI a5).arg N S2;refine qq<|qj fun K hK=>qm ?_;refine qg ?_;refine qp (o:=3) ?_;refine ql hH aC ?_;refine ab.mb (z:=((s.o:Nat):Int)) rfl (ev rfl) (ev rfl) (by(try simp only[List.length_reverse,List.length_cons,List.length_nil,List.length_append,List.length_map,List.length_set]);rw[wrap_i64 (by omega) (by omega)]<;>omega) (aa rfl _) ?_;refine qg ?_;refine qp (o:=3) ?_;refine qT hH aC fun st hH=>?_;dsimp only[u2,u1,u3,u4,setMany,u5,u6,D.cells,Nat.reduceAdd,aU,bq,au,aw,a_] at hH;refine qe hK ?_
   obtain⟨s5,KR⟩:∃s5:dW,({s4 with o:=s.o}:dW)=s5:=⟨_,rfl⟩
   have hH:Has N S2 st (.box k (.mem 0 false (aU gs bz s5))::.aR bz 1 (aS.map au)::.box k5 (.mem 0 false [.int .i64 6,.nul,.int .i64 0,.int .i64 0,.bool false,.int .i64 cap,.int .i64 1])::H):=by rw[←KR];exact hH
   have KQ:s5.o=s.o∧s5.g=s4.g∧s5.i=s4.i∧s5.e=s4.e∧s5.w=s4.w:=by rw[←KR];exact⟨rfl,rfl,rfl,rfl,rfl⟩
   clear KR;obtain⟨b1,b2,b3,b4,b5⟩:=KQ;refine qq<|qq<|af.pK (fun fr st=>∃(s6:dW) (tmp:List (Nat×D)),fr=⟨7,[.ptr k 0 0,gp fr 1,gp fr 2,gp fr 3,.bool free,.ptr k5 0 0,ry l],tmp⟩∧Has N S2 st (.box k (.mem 0 false (aU gs bz s6))::.aR bz 1 (aS.map au)::.box k5 (.mem 0 false [.int .i64 6,.nul,.int .i64 0,.int .i64 0,.bool false,.int .i64 cap,.int .i64 1])::H)∧(s6.o=s.o)∧(s6.g≤4)∧(s4.i≤s6.i)∧(s6.i≤gs.length)∧(eH R aS s6∨s6.e=0∧s4.i<s6.i∧R=.ok (if free=true then l else fy 6 0 0 false ((s.g+1:Nat):Int) 1 []::l,s6.g) s6.i)) ?_ ?_
   ·by_cases J0:s5.e=0
    ·have bC:(s5.e==0)=true:=by simpa using J0
     have a8:A s3.i s3.g=.ok (l,s4.g) s4.i:=by
      rcases a7 with a7|a7
      ·exact absurd (b4.symm.trans J0) a7.ne
      ·exact a7.2
     rw[a8] at hv;simp only at hv;rw[←b3] at hv;obtain⟨k1,k2,k3,k4,Ng⟩:=gO (gs:=gs) (s:=s5) (r:=41);have Ng:=Ng (by omega);have hsk:ct gs s5.i 41=true→(b9 gs s5 41).i=s5.i+1:=fun h=>by unfold b9;rw[if_pos h]
     refine qj fun K hK=>qm ?_;refine qg ?_;refine qp (o:=5) ?_;refine ql hH aC ?_;refine qg ?_;refine qm ?_;refine qm ?_ (hg:=wi bC);obtain⟨_,st,aM,rfl,hH⟩:=dS (s:=s5) (by omega) 41 hH;refine qv aM ?_ (hg:=wi bC);refine qg ?_ (hg:=wi bC);refine qt bC ?_;refine qe hK ?_;generalize b9 gs s5 41=s6 at*
     cases hb:ct gs s5.i 41 with
     |false=>
      refine qB ?_;refine qq<|qj fun K hK=>qm ?_;refine qm ?_;obtain⟨_,st,aM,rfl,s7,hN,hH⟩:=hwr _ s6 4 _ (by decide) (by omega) (by omega) (by omega) (by omega) (by omega) (by rw[hv,if_neg (by rw[hb];simp)]) hH;refine qv aM ?_;refine qm ?_;refine qe hK<|af.ret ⟨rx,_,_,_,rfl,ak (rfl),?_⟩;exact⟨s7,hN,cU.ax cF (hH.erase 2)⟩
     |true=>
      have hsk:=hsk hb;refine qC ?_;refine af.skip ?_;exact⟨s6,_,rfl,hH,by omega,by omega,by omega,by omega,.inr ⟨by omega,by omega,by rw[hv,if_pos hb,hsk,show s6.g=s4.g by omega]⟩⟩
    ·have bC:(s5.e==0)=false:=by simpa using J0
     have Qy:¬s5.e=0→eH R aS s4:=fun h=>by
      rcases a7 with a7|a7
      ·exact a7.map fun e w hw=>by rw[hv,hw]
      ·exact absurd (b4.trans a7.1) h
     refine qj fun K hK=>qm ?_;refine qg ?_;refine qp (o:=5) ?_;refine ql hH aC ?_;refine qg ?_;refine qm ?_;refine qs ?_ (hg:=wn bC);refine qs ?_ (hg:=wn bC);refine qs ?_ (hg:=wn bC);refine qu bC ?_;refine qe hK<|qC ?_;refine af.skip ?_;exact⟨s5,_,rfl,hH,b1,by omega,by omega,by omega,.inl ((Qy J0).to b4 b5)⟩
   ·rintro fr st ⟨s6,tmp,hfr,hH,c1,c2,c3,c4,c5⟩;rw[hfr];clear hfr;generalize gp fr=ee;clear fr;refine qq<|qq<|qj fun K hK=>qm ?_;refine qe hK ?_
    cases free with
    |true=>
     refine qB ?_;refine qq<|qj fun K hK=>qm ?_;refine qm ?_;refine qe hK<|af.ret ⟨rx,_,_,_,rfl,ak (rfl),?_⟩;refine⟨s6,⟨c1,c2,by omega,c4,l,rfl,a5,by omega,?_⟩,cU.ax cF (hH.erase 2)⟩
     rcases c5 with c5|⟨c5,c6,c7⟩
     ·exact .inl c5
     ·exact .inr ⟨c5,by rw[c7,if_pos rfl],by omega⟩
    |false=>
     refine qC ?_;refine af.skip<|qq<|qj fun K hK=>?_;refine ab.cI (m:=7) hH rfl (ev rfl) (by exact dx) (by dsimp only[List.drop_succ_cons,List.drop_zero,List.take_succ_cons,List.take_zero,aU,bq,au,aw,a_]<;>rfl) rfl rfl (aa rfl _) ?_;refine qh (s:=7) (vs:=[_]) hH fun k89 st PT hH=>?_;dsimp only[u2,u1,u3,u4,setMany,u5,u6,D.cells,Nat.reduceAdd,aU,bq,au,aw,a_] at hH;refine qm ?_;refine ab.qH (s:=7) hH rfl (ev rfl) (ev rfl) aC ((pI a5).rows st) rfl rfl rfl rfl rfl rfl rfl ⟨(Nat.le_of_ble_eq_true rfl),(Nat.le_of_ble_eq_true rfl)⟩ (fun _=>(aa rfl _)) (by simp only[List.length_map,List.length_cons,List.length_nil];omega) (.inr (sf a5)) (fun k hk=>by have jW:k89+1=k+1:=hk;omega) (fun N0 st Fg hH=>?_);dsimp only[u2] at hH;refine qm ?_;refine qe hK ?_;have hH:Has N S2 st (.aR N0 7 ([.int .i64 6,.nul,.int .i64 0,.int .i64 0,.bool false,.int .i64 cap,.int .i64 1]::l.map a_)::.box k (.mem 0 false (aU gs bz s6))::.aR bz 1 (aS.map au)::.box k5 (.mem 0 false [.int .i64 6,.nul,.int .i64 0,.int .i64 0,.bool false,.int .i64 cap,.int .i64 1])::H):=hH
     have hfz:=iS (L:=s0.bs.length) (l:=fy 6 0 0 false cap 1 []::l) hH aC (by rw[List.map_cons,tF a5];rfl) (fun e he d hd=>by
      rcases List.mem_cons.1 he with rfl|he
      ·simp only[List.mem_cons,List.not_mem_nil,or_false] at hd
       rcases hd with rfl|rfl|rfl|rfl|rfl|rfl|rfl<;>rfl
      ·exact pH a5 e he d hd) (fun k hk=>by rw[←cF];exact Fg k hk) (n:=16) (by decide)
     refine af.ret ⟨rx,_,_,_,rfl,ak hfz,⟨s6,⟨c1,c2,by omega,c4,_,rfl,?_,by simp only[List.length_cons];omega,?_⟩,cU.ax cF ((hH.drop 1).erase 2)⟩⟩
     ·intro n hn
      rcases List.mem_cons.1 hn with rfl|hn
      ·exact⟨rfl,by simp[fy],by simp[fy]⟩
      ·exact a5 n hn
     ·rcases c5 with c5|⟨c5,c6,c7⟩
      ·exact .inl c5
      ·exact .inr ⟨c5,by rw[c7,if_neg (by simp),e6,if_neg (by simp)],by simp only[List.length_cons];omega⟩
def xW (fr:Go.V.Fr) (k:Nat):Go.V.D:=Go.V.nth .bG fr.loc k
noncomputable def Kn (r:Int):List Rg:=da [(r,r)]
noncomputable def ot (A:PF) (gs:List (Nat×Nat)) (m i g:Nat) (r:Int):PR (List bF×Nat):=
 if r=40 then iC A gs m i g
 else if r=91 then lY gs i g
 else if r=92 then
  match fJ gs i with
  | .er e w=>.er e w
  | .ok (a,_) j=>.ok ([yw a],g) j
 else if r=46 then .ok ([yw A_],g) (i+1)
 else if r=94 then .ok ([fy 7 0 0 false 0 0 []],g) (i+1)
 else if r=36 then .ok ([fy 8 0 0 false 0 0 []],g) (i+1)
 else if r=42∨r=43∨r=63∨r=41∨r=93∨r=123∨r=125∨r=124 then .er 4 i
 else .ok ([yw (Kn r)],g) (i+1)
noncomputable def iX (A:PF) (gs:List (Nat×Nat)) (m i g:Nat):PR (List bF×Nat):=
 match gs[i]? with
 |none=>.er 4 i
 |some q=>if nQ gs i=true then .er 4 i else ot A gs m i g ((q.1:Nat):Int)
def j5 (gs:List (Nat×Nat)) (l:List bF) (g:Nat) (mn mx:Int) (j:Nat):PR (List bF×Nat):=
 .ok (fy 5 mn mx (ct gs j 63) 0 1 []::l,g) (if ct gs j 63=true then j+1 else j)
noncomputable def lx (gs:List (Nat×Nat)) (l:List bF) (g j:Nat):PR (List bF×Nat):=
 if ct gs j 42=true then j5 gs l g 0 (-1) (j+1)
 else if ct gs j 43=true then j5 gs l g 1 (-1) (j+1)
 else if ct gs j 63=true then j5 gs l g 0 1 (j+1)
 else if ct gs j 123=true then
  match dQ gs j with
  | .er e w=>.er e w
  | .ok (mn,mx) j2=>j5 gs l g mn mx j2
 else .ok (l,g) j
noncomputable def gP (A:PF) (gs:List (Nat×Nat)) (m i g:Nat):PR (List bF×Nat):=
 match iX A gs m i g with
 | .er e w=>.er e w
 | .ok (l,g1) j=>lx gs l g1 j
theorem Dp {m:Nat} {gs:List (Nat×Nat)} {A:PF} (hA:∀m',m'+1=m→yM A gs m') {N k:Nat} {S s0:St} {H:List cx} {bz:D} {aS:List Int} {s:dW} (cH:kO gs aS) (he:s.e=0) (hi:s.i<gs.length) (hg:s.g≤4) (ho:s.o+m=20) (hH:Has N S s0 (.box k (.mem 0 false (aU gs bz s))::.aR bz 1 (aS.map au)::H)):
  ∃d ag,Ev pv 111 [.ptr k 0 0] s0 d ag∧∃(s':dW),jj gs aS (iX A gs m s.i s.g) s s' d 2∧Has N S ag (.box k (.mem 0 false (aU gs bz s'))::.aR bz 1 (aS.map au)::H):=by
 have qk:=cH.gl;have jT:=cH.pl;refine Ev.ow rfl Jk rfl rfl rfl ?_;dsimp only[u3,u4,List.length,Nat.reduceSub,Nat.reduceAdd,w1,w2];have cU:=hH;have hH:=hH.cV;have cF:(aj .rw s0).bs=s0.bs:=rfl;generalize aj .rw s0=S2 at*;have Bv:Arg N S2 2 (cO gs) (gs.map bq):=Arg.pure (fun st=>dw st gs)
 obtain⟨g,NI⟩:∃g,gs[s.i]?=some g:=⟨gs[s.i]'hi,List.getElem?_eq_getElem _⟩
 have jx:(gs.map bq)[s.i]?=some (bq g):=by rw[List.getElem?_map,NI];rfl
 obtain⟨R,hR⟩:∃R,iX A gs m s.i s.g=R:=⟨_,rfl⟩
 rw[hR];unfold iX at hR;rw[NI] at hR;simp only at hR
 have hwr:∀(st:St),R=.er 4 s.i→Has N S2 st (.box k (.mem 0 false (aU gs bz s))::.aR bz 1 (aS.map au)::H)→∃d ag,Ev pv 39 [.ptr k 0 0,.int .i64 (s.i:Nat),.int .i64 4] st d ag∧d=.sl []∧∃s4,jj gs aS R s s4 (.sl []) 2∧Has N S2 ag (.box k (.mem 0 false (aU gs bz s4))::.aR bz 1 (aS.map au)::H):=by
  intro st hv hH;obtain⟨d,ag,aM,h6,hH⟩:=ef (s:=s) s.i 4 (by omega) hH;obtain⟨w1,w2,w3,w4⟩:=gC (aS:=aS) (s:=s) (i:=s.i) (e:=4) he (by decide) hv;exact⟨d,ag,aM,h6,_,fp w3 (by omega) (by omega) (by omega) w1,hH⟩
 have jU:∀(st:St) (s1:dW) (op:Int) (w:D) (a:List Rg) (kk:Nat),(w=bB a∨w=.nul∧a=[])→a.length≤1048576→s1.o=s.o→s1.g≤4→s.i<s1.i→s1.i≤gs.length→s1.e=0→R=.ok ([fy op 0 0 false 0 0 a],s1.g) s1.i→S2.bs.length≤kk→Has N S2 st (.aR (.win kk 0 0 1 7) 7 [[.int .i64 op,w,.int .i64 0,.int .i64 0,.bool false,.int .i64 0,.int .i64 0]]::.box k (.mem 0 false (aU gs bz s1))::.aR bz 1 (aS.map au)::H)→
   ∃d ag,cY .rw false s0 st (.win kk 0 0 1 7)=some (d,ag)∧∃(s':dW),jj gs aS R s s' d 2∧Has N S ag (.box k (.mem 0 false (aU gs bz s'))::.aR bz 1 (aS.map au)::H):=by
  intro st s1 op w a kk hw ha h1 h2 h3 h4 he1 hv hk hH;have hfz:=iT hH aC (L:=s0.bs.length) hw (fun k hk=>by simp only[D.ref] at hk;rw[←cF];omega);refine⟨_,_,ak hfz,s1,⟨h1,h2,by omega,h4,_,rfl,Ci ha (by omega),by simp,?_⟩,cU.ax cF (hH.drop 1)⟩;exact .inr ⟨he1,hv,by simp only[List.length_cons,List.length_nil];omega⟩
 refine qq<|qj fun K hK=>qm ?_;refine qe hK<|qq<|qj fun K hK=>qm ?_;refine qg ?_;refine qp (o:=2) ?_;refine ql hH aC ?_;refine qm ?_;refine qe hK<|qq<|qq<|qj fun K hK=>qm ?_;refine qm ?_;obtain⟨_,st,aM,rfl,hH⟩:=yC (s:=s) s.i hi hH;refine qv aM ?_;refine qe hK ?_;refine qc (fun hb=>?_) (fun hb=>?_)<;>try simp only[cs] at hb
 ·rw[if_pos hb] at hR;refine qq<|qj fun K hK=>qm ?_;refine qm ?_;obtain⟨_,st,aM,rfl,s4,hN,hH⟩:=hwr _ hR.symm hH;refine qv aM ?_;refine qm ?_;refine qe hK<|af.ret ⟨rx,_,_,_,rfl,ak (rfl),?_⟩;exact⟨s4,hN,cU.ax cF hH⟩
 rw[if_neg (by rw[hb];simp)] at hR;unfold ot at hR;refine af.skip<|qq<|qj fun K hK=>qm ?_;refine qg ?_;refine qp (o:=0) ?_;refine ql hH aC ?_;refine qm ?_;refine qr fun Nc Ig=>?_;refine qf (fo:=0) fun Ou Lf=>?_;refine qR ?_;refine qm ?_;refine qe hK<|qq<|qj fun K hK=>qm ?_;refine qe hK<|af.block<|qq<|qj fun K hK=>qg ?_;refine qm ?_;refine qe hK ?_;refine af.cond (by rfl) (fun JG=>?_) (fun JG=>?_)<;>try simp only[beq_iff_eq,beq_eq_false_iff_ne,ne_eq] at JG
 ·rw[if_pos JG] at hR;refine qq<|qj fun K hK=>qm ?_;obtain⟨_,st,aM,s4,⟨p1,p2,p3,p4,l,rfl,p5,p6,p7⟩,hH⟩:=A3 hA cH he hi hg ho hH;refine qv aM ?_;refine qm ?_;refine qe hK ?_;rw[hR] at p7;refine af.ret ⟨rx,_,_,_,rfl,ak (rfl),?_⟩;exact⟨s4,⟨p1,p2,p3,p4,l,rfl,p5,p6,p7⟩,cU.ax cF hH⟩
 rw[if_neg JG] at hR;refine qq<|qj fun K hK=>qg ?_;refine qm ?_;refine qe hK ?_;refine af.cond (by rfl) (fun DB=>?_) (fun DB=>?_)<;>try simp only[beq_iff_eq,beq_eq_false_iff_ne,ne_eq] at DB
 ·rw[if_pos DB] at hR;refine qq<|qj fun K hK=>qm ?_;obtain⟨_,st,aM,s4,⟨p1,p2,p3,p4,l,rfl,p5,p6,p7⟩,hH⟩:=Bh cH he hi hg hH;refine qv aM ?_;refine qm ?_;refine qe hK ?_;rw[hR] at p7;refine af.ret ⟨rx,_,_,_,rfl,ak (rfl),?_⟩;exact⟨s4,⟨p1,p2,p3,p4,l,rfl,p5,p6,p7⟩,cU.ax cF hH⟩
 rw[if_neg DB] at hR;refine qq<|qj fun K hK=>qg ?_;refine qm ?_;refine qe hK ?_;refine af.cond (by rfl) (fun JD=>?_) (fun JD=>?_)<;>try simp only[beq_iff_eq,beq_eq_false_iff_ne,ne_eq] at JD
 ·rw[if_pos JD] at hR;refine qq<|qj fun K hK=>qm ?_;obtain⟨_,st,aM,d1,b,s4,rfl,⟨p1,p2,p3,p4,p5⟩,hH⟩:=uT (s:=s) cH he hi hH;refine qv aM ?_;refine qm ?_;refine qg ?_;refine qg ?_;refine qm ?_;refine qm ?_;refine qe hK ?_
  have IK:∀(st:St) (w:D) (a:List Rg) (kk:Nat),(w=bB a∨w=.nul∧a=[])→a.length≤8→(eH R aS s4∨s4.e=0∧s.i<s4.i∧R=.ok ([yw a],s4.g) s4.i)→S2.bs.length≤kk→Has N S2 st (.aR (.win kk 0 0 1 7) 7 [[.int .i64 2,w,.int .i64 0,.int .i64 0,.bool false,.int .i64 0,.int .i64 0]]::.box k (.mem 0 false (aU gs bz s4))::.aR bz 1 (aS.map au)::H)→∃d ag,cY .rw false s0 st (.win kk 0 0 1 7)=some (d,ag)∧∃(s':dW),jj gs aS R s s' d 2∧Has N S ag (.box k (.mem 0 false (aU gs bz s'))::.aR bz 1 (aS.map au)::H):=by
   intro st w a kk hw ha p6 hk hH;have hfz:=iT hH aC (L:=s0.bs.length) hw (fun k hk=>by simp only[D.ref] at hk;rw[←cF];omega);refine⟨_,_,ak hfz,s4,⟨p1,by omega,by omega,p4,_,rfl,Ci (by omega) (by omega),by simp,?_⟩,cU.ax cF (hH.drop 1)⟩
   rcases p6 with p6|⟨p6,p7,p8⟩
   ·exact .inl p6
   ·exact .inr ⟨p6,p8,by simp only[List.length_cons,List.length_nil];omega⟩
  rcases p5 with⟨p5,rfl⟩|⟨p5,p6,a,p7,rfl,ha,_⟩
  ·refine qq<|qj fun K hK=>qm ?_;refine ab.ir (qs:=[(0,_),(1,_)]) rfl rfl rfl rfl ⟨rfl,(ev rfl),(by rfl),rfl,(ev rfl),(by rfl),trivial⟩ (by intro q hq;simp only[List.mem_cons,List.not_mem_nil,or_false] at hq;rcases hq with rfl|rfl<;>exact⟨rfl,by exact Nat.le_of_ble_eq_true rfl⟩) (by show List.foldl _ [_,_,_,_,_,_,_] _=_;dsimp only[List.foldl_cons,List.foldl_nil,u2,u1]<;>rfl) (aa rfl _) ?_;refine qh (s:=7) (vs:=[_]) hH fun k54 st Gk hH=>?_;dsimp only[u2,u1,u3,u4,setMany,u5,u6,D.cells,Nat.reduceAdd,aU,bq,au,aw,a_] at hH;refine qm ?_;refine qe hK ?_;obtain⟨d',ag,wo,iz⟩:=IK _ .nul [] k54 (.inr ⟨rfl,rfl⟩) (by simp) (.inl (p5.map fun e w h=>by rw[←hR,h])) Gk hH;refine af.ret ⟨rx,_,d',ag,rfl,wo,iz⟩
  ·refine qq<|qj fun K hK=>qm ?_;refine ab.ir (qs:=[(0,_),(1,_)]) rfl rfl rfl rfl ⟨rfl,(ev rfl),(by rfl),rfl,(ev rfl),(by rfl),trivial⟩ (by intro q hq;simp only[List.mem_cons,List.not_mem_nil,or_false] at hq;rcases hq with rfl|rfl<;>exact⟨rfl,by exact Nat.le_of_ble_eq_true rfl⟩) (by show List.foldl _ [_,_,_,_,_,_,_] _=_;dsimp only[List.foldl_cons,List.foldl_nil,u2,u1]<;>rfl) (aa rfl _) ?_;refine qh (s:=7) (vs:=[_]) hH fun k54 st Gk hH=>?_;dsimp only[u2,u1,u3,u4,setMany,u5,u6,D.cells,Nat.reduceAdd,aU,bq,au,aw,a_] at hH;refine qm ?_;refine qe hK ?_;obtain⟨d',ag,wo,iz⟩:=IK _ (bB a) a k54 (.inl rfl) ha (.inr ⟨p5,p6,by rw[←hR,p7,p2]⟩) Gk hH;refine af.ret ⟨rx,_,d',ag,rfl,wo,iz⟩
 rw[if_neg JD] at hR;refine qq<|qj fun K hK=>qg ?_;refine qm ?_;refine qe hK ?_;refine af.cond (by rfl) (fun JE=>?_) (fun JE=>?_)<;>try simp only[beq_iff_eq,beq_eq_false_iff_ne,ne_eq] at JE
 ·rw[if_pos JE] at hR;refine qq<|qj fun K hK=>qm ?_;refine qg ?_;refine qp (o:=2) ?_;refine ql hH aC ?_;refine qA ?_;refine qg ?_;refine qp (o:=2) ?_;refine qT hH aC fun st hH=>?_;dsimp only[u2,u1,u3,u4,setMany,u5,u6,D.cells,Nat.reduceAdd,aU,bq,au,aw,a_] at hH;refine qe hK ?_;obtain⟨LO,hla⟩:=EM (s0:=st);refine qq<|qj fun K hK=>qv (LO) ?_;refine ab.ir (qs:=[(0,_),(1,_)]) rfl rfl rfl rfl ⟨rfl,(ev rfl),(by rfl),rfl,(ev rfl),(by rfl),trivial⟩ (by intro q hq;simp only[List.mem_cons,List.not_mem_nil,or_false] at hq;rcases hq with rfl|rfl<;>exact⟨rfl,by exact Nat.le_of_ble_eq_true rfl⟩) (by show List.foldl _ [_,_,_,_,_,_,_] _=_;dsimp only[List.foldl_cons,List.foldl_nil,u2,u1]<;>rfl) (aa rfl _) ?_;refine qh (s:=7) (vs:=[_]) hH fun k66 st Iw hH=>?_;refine qm ?_;refine qe hK ?_;obtain⟨d',ag,wo,iz⟩:=jU _ {s with i:=s.i+1} 2 (bB A_) A_ k66 (.inl rfl) (by omega) rfl hg (by show s.i<s.i+1;omega) (by show s.i+1≤_;omega) he hR.symm Iw hH;refine af.ret ⟨rx,_,d',ag,rfl,wo,iz⟩
 rw[if_neg JE] at hR;refine qq<|qj fun K hK=>qg ?_;refine qm ?_;refine qe hK ?_;refine af.cond (by rfl) (fun JC=>?_) (fun JC=>?_)<;>try simp only[beq_iff_eq,beq_eq_false_iff_ne,ne_eq] at JC
 ·rw[if_pos JC] at hR;refine qq<|qj fun K hK=>qm ?_;refine qg ?_;refine qp (o:=2) ?_;refine ql hH aC ?_;refine qA ?_;refine qg ?_;refine qp (o:=2) ?_;refine qT hH aC fun st hH=>?_;dsimp only[u2,u1,u3,u4,setMany,u5,u6,D.cells,Nat.reduceAdd,aU,bq,au,aw,a_] at hH;refine qe hK<|qq<|qj fun K hK=>ab.go (d:=.agg [.int .i64 7,.nul,.int .i64 0,.int .i64 0,.bool false,.int .i64 0,.int .i64 0]) (st1:=_) rfl rfl rfl (aa rfl _) ?_;refine qh (s:=7) (vs:=[_]) hH fun k77 st Lt hH=>?_;refine qm ?_;refine qe hK ?_;obtain⟨d',ag,wo,iz⟩:=jU _ {s with i:=s.i+1} 7 .nul [] k77 (.inr ⟨rfl,rfl⟩) (by simp) rfl hg (by show s.i<s.i+1;omega) (by show s.i+1≤_;omega) he hR.symm Lt hH;refine af.ret ⟨rx,_,d',ag,rfl,wo,iz⟩
 rw[if_neg JC] at hR;refine qq<|qj fun K hK=>qg ?_;refine qm ?_;refine qe hK ?_;refine af.cond (by rfl) (fun JH=>?_) (fun JH=>?_)<;>try simp only[beq_iff_eq,beq_eq_false_iff_ne,ne_eq] at JH
 ·rw[if_pos JH] at hR;refine qq<|qj fun K hK=>qm ?_;refine qg ?_;refine qp (o:=2) ?_;refine ql hH aC ?_;refine qA ?_;refine qg ?_;refine qp (o:=2) ?_;refine qT hH aC fun st hH=>?_;dsimp only[u2,u1,u3,u4,setMany,u5,u6,D.cells,Nat.reduceAdd,aU,bq,au,aw,a_] at hH;refine qe hK<|qq<|qj fun K hK=>ab.go (d:=.agg [.int .i64 8,.nul,.int .i64 0,.int .i64 0,.bool false,.int .i64 0,.int .i64 0]) (st1:=_) rfl rfl rfl (aa rfl _) ?_;refine qh (s:=7) (vs:=[_]) hH fun k88 st Iv hH=>?_;refine qm ?_;refine qe hK ?_;obtain⟨d',ag,wo,iz⟩:=jU _ {s with i:=s.i+1} 8 .nul [] k88 (.inr ⟨rfl,rfl⟩) (by simp) rfl hg (by show s.i<s.i+1;omega) (by show s.i+1≤_;omega) he hR.symm Iv hH;refine af.ret ⟨rx,_,d',ag,rfl,wo,iz⟩
 rw[if_neg JH] at hR;have wA:((((g.1:Nat):Int))=42∨(((g.1:Nat):Int))=43∨(((g.1:Nat):Int))=63∨(((g.1:Nat):Int))=41∨(((g.1:Nat):Int))=93∨(((g.1:Nat):Int))=123∨(((g.1:Nat):Int))=125∨(((g.1:Nat):Int))=124)→R=.er 4 s.i:=fun h=>by rw[←hR,if_pos h]
 refine qq<|qq<|qj fun K hK=>qg ?_;refine qm ?_;refine qe hK ?_
 by_cases MQ:((g.1:Nat):Int)=42
 ·refine qD rfl (by simp[MQ]) ?_;refine af.skip<|qD rfl (by simp[MQ]) ?_;refine qq<|qj fun K hK=>qm ?_;refine qm ?_;obtain⟨_,st,aM,rfl,s4,hN,hH⟩:=hwr _ (wA (by omega)) hH;refine qv aM ?_;refine qm ?_;refine qe hK<|af.ret ⟨rx,_,_,_,rfl,ak (rfl),?_⟩;exact⟨s4,hN,cU.ax cF hH⟩
 refine qE rfl (by simp[MQ]) ?_;refine qq<|qj fun K hK=>qg ?_;refine qm ?_;refine qe hK ?_
 by_cases MP:((g.1:Nat):Int)=43
 ·refine qD rfl (by simp[MP]) ?_;refine af.skip<|qD rfl (by simp[MP]) ?_;refine qq<|qj fun K hK=>qm ?_;refine qm ?_;obtain⟨_,st,aM,rfl,s4,hN,hH⟩:=hwr _ (wA (by omega)) hH;refine qv aM ?_;refine qm ?_;refine qe hK<|af.ret ⟨rx,_,_,_,rfl,ak (rfl),?_⟩;exact⟨s4,hN,cU.ax cF hH⟩
 refine qE rfl (by simp[MP]) ?_;refine qq<|qj fun K hK=>qg ?_;refine qm ?_;refine qe hK ?_
 by_cases MO:((g.1:Nat):Int)=63
 ·refine qD rfl (by simp[MO]) ?_;refine af.skip<|qD rfl (by simp[MO]) ?_;refine qq<|qj fun K hK=>qm ?_;refine qm ?_;obtain⟨_,st,aM,rfl,s4,hN,hH⟩:=hwr _ (wA (by omega)) hH;refine qv aM ?_;refine qm ?_;refine qe hK<|af.ret ⟨rx,_,_,_,rfl,ak (rfl),?_⟩;exact⟨s4,hN,cU.ax cF hH⟩
 refine qE rfl (by simp[MO]) ?_;refine qq<|qj fun K hK=>qg ?_;refine qm ?_;refine qe hK ?_
 by_cases MR:((g.1:Nat):Int)=41
 ·refine qD rfl (by simp[MR]) ?_;refine af.skip<|qD rfl (by simp[MR]) ?_;refine qq<|qj fun K hK=>qm ?_;refine qm ?_;obtain⟨_,st,aM,rfl,s4,hN,hH⟩:=hwr _ (wA (by omega)) hH;refine qv aM ?_;refine qm ?_;refine qe hK<|af.ret ⟨rx,_,_,_,rfl,ak (rfl),?_⟩;exact⟨s4,hN,cU.ax cF hH⟩
 refine qE rfl (by simp[MR]) ?_;refine qq<|qj fun K hK=>qg ?_;refine qm ?_;refine qe hK ?_
 by_cases MN:((g.1:Nat):Int)=93
 ·refine qD rfl (by simp[MN]) ?_;refine af.skip<|qD rfl (by simp[MN]) ?_;refine qq<|qj fun K hK=>qm ?_;refine qm ?_;obtain⟨_,st,aM,rfl,s4,hN,hH⟩:=hwr _ (wA (by omega)) hH;refine qv aM ?_;refine qm ?_;refine qe hK<|af.ret ⟨rx,_,_,_,rfl,ak (rfl),?_⟩;exact⟨s4,hN,cU.ax cF hH⟩
 refine qE rfl (by simp[MN]) ?_;refine qq<|qj fun K hK=>qg ?_;refine qm ?_;refine qe hK ?_
 by_cases GY:((g.1:Nat):Int)=123
 ·refine qD rfl (by simp[GY]) ?_;refine af.skip<|qD rfl (by simp[GY]) ?_;refine qq<|qj fun K hK=>qm ?_;refine qm ?_;obtain⟨_,st,aM,rfl,s4,hN,hH⟩:=hwr _ (wA (by omega)) hH;refine qv aM ?_;refine qm ?_;refine qe hK<|af.ret ⟨rx,_,_,_,rfl,ak (rfl),?_⟩;exact⟨s4,hN,cU.ax cF hH⟩
 refine qE rfl (by simp[GY]) ?_;refine qq<|qj fun K hK=>qg ?_;refine qm ?_;refine qe hK ?_
 by_cases GX:((g.1:Nat):Int)=125
 ·refine qD rfl (by simp[GX]) ?_;refine af.skip<|qD rfl (by simp[GX]) ?_;refine qq<|qj fun K hK=>qm ?_;refine qm ?_;obtain⟨_,st,aM,rfl,s4,hN,hH⟩:=hwr _ (wA (by omega)) hH;refine qv aM ?_;refine qm ?_;refine qe hK<|af.ret ⟨rx,_,_,_,rfl,ak (rfl),?_⟩;exact⟨s4,hN,cU.ax cF hH⟩
 refine qE rfl (by simp[GX]) ?_;refine qj fun K hK=>qg ?_;refine qm ?_;refine qe hK ?_
 by_cases Jv:((g.1:Nat):Int)=124
 ·refine qD rfl (by simp[Jv]) ?_;refine qq<|qj fun K hK=>qm ?_;refine qm ?_;obtain⟨_,st,aM,rfl,s4,hN,hH⟩:=hwr _ (wA (by omega)) hH;refine qv aM ?_;refine qm ?_;refine qe hK<|af.ret ⟨rx,_,_,_,rfl,ak (rfl),?_⟩;exact⟨s4,hN,cU.ax cF hH⟩
 refine qE rfl (by simp[Jv]) ?_;rw[if_neg (by omega)] at hR;refine qq<|qj fun K hK=>qm ?_;refine qg ?_;refine qp (o:=2) ?_;refine ql hH aC ?_;refine qA ?_;refine qg ?_;refine qp (o:=2) ?_;refine qT hH aC fun st hH=>?_;dsimp only[u2,u1,u3,u4,setMany,u5,u6,D.cells,Nat.reduceAdd,aU,bq,au,aw,a_] at hH;refine qe hK ?_;obtain⟨_,Bu,_⟩:=mi (s0:=s0) (x:=bB [(((g.1:Nat):Int),((g.1:Nat):Int))]) (l:=[(((g.1:Nat):Int),((g.1:Nat):Int))]) (fL _ _) (by simp);simp only[List.length_cons,List.length_nil] at Bu;refine qq<|qj fun K hK=>qm ?_;refine qv (jm _) ?_;refine ab.ir (qs:=[(0,_),(1,_)]) rfl rfl rfl rfl ⟨rfl,(ev rfl),(by rfl),rfl,(ev rfl),(by rfl),trivial⟩ (by intro q hq;simp only[List.mem_cons,List.not_mem_nil,or_false] at hq;rcases hq with rfl|rfl<;>exact⟨rfl,by exact Nat.le_of_ble_eq_true rfl⟩) (by show List.foldl _ [_,_,_,_,_,_,_] _=_;dsimp only[List.foldl_cons,List.foldl_nil,u2,u1]<;>rfl) (aa rfl _) ?_;refine qh (s:=7) (vs:=[_]) hH fun k36 st Iy hH=>?_;refine qm ?_;refine qe hK ?_;obtain⟨d',ag,wo,iz⟩:=jU _ {s with i:=s.i+1} 2 _ (da [(((g.1:Nat):Int),((g.1:Nat):Int))]) k36 (.inl rfl) (by omega) rfl hg (by show s.i<s.i+1;omega) (by show s.i+1≤_;omega) he hR.symm Iy hH;refine af.ret ⟨rx,_,d',ag,rfl,wo,iz⟩
theorem y5 {m:Nat} {gs:List (Nat×Nat)} {A:PF} (hA:∀m',m'+1=m→yM A gs m') {N k:Nat} {S s0:St} {H:List cx} {bz:D} {aS:List Int} {s:dW} (cH:kO gs aS) (he:s.e=0) (hi:s.i<gs.length) (hg:s.g≤4) (ho:s.o+m=20) (hH:Has N S s0 (.box k (.mem 0 false (aU gs bz s))::.aR bz 1 (aS.map au)::H)):
  ∃d ag,Ev pv 99 [.ptr k 0 0] s0 d ag∧∃(s':dW),jj gs aS (gP A gs m s.i s.g) s s' d 1∧Has N S ag (.box k (.mem 0 false (aU gs bz s'))::.aR bz 1 (aS.map au)::H):=by
 have qk:=cH.gl;have jT:=cH.pl;refine Ev.ow rfl L9 rfl rfl rfl ?_;dsimp only[u3,u4,List.length,Nat.reduceSub,Nat.reduceAdd,w1,w2];have cU:=hH;have hH:=hH.cV;have cF:(aj .rw s0).bs=s0.bs:=rfl;generalize aj .rw s0=S2 at*
 obtain⟨R,hR⟩:∃R,gP A gs m s.i s.g=R:=⟨_,rfl⟩
 rw[hR];unfold gP at hR;refine qq<|qj fun K hK=>qm ?_;refine qe hK<|qq<|qj fun K hK=>qm ?_;obtain⟨_,st,aM,s1,⟨p1,p2,p3,p4,l,rfl,p5,p6,p7⟩,hH⟩:=Dp hA cH he hi hg ho hH;refine qv aM ?_;refine qm ?_;refine qe hK<|qq<|qq<|qj fun K hK=>qm ?_;refine qg ?_;refine qp (o:=5) ?_;refine ql hH aC ?_;refine qg ?_;refine qe hK ?_
 rcases p7 with p7|⟨p7,p9,p8⟩
 ·have hne:=p7.ne;refine qD rfl (by simp[hne]) ?_;refine qq<|qj fun K hK=>qm ?_;refine qe hK<|af.ret ⟨rx,_,_,_,rfl,ak (rfl),?_⟩;exact⟨s1,fp p1 p2 p3 p4 (p7.map fun e w h=>by rw[←hR,h]),cU.ax cF hH⟩
 rw[p9] at hR;simp only at hR;unfold lx at hR;refine qE rfl (by simp[p7]) ?_;refine af.skip<|qq<|qj fun K hK=>ab.go (d:=.agg [.int .i64 5,.nul,.int .i64 0,.int .i64 0,.bool false,.int .i64 0,.int .i64 1]) (st1:=_) rfl rfl rfl (aa rfl _) ?_;refine qa hH fun k4 st JW hH=>?_;dsimp only[u2,u1,u3,u4,setMany,u5,u6,D.cells,Nat.reduceAdd,aU,bq,au,aw,a_] at hH;refine qS hH aC fun st hH=>?_;dsimp only[u2,u1,u3,u4,setMany,u5,u6,D.cells,Nat.reduceAdd,aU,bq,au,aw,a_] at hH;refine qe hK ?_;have hH:Has N S2 st (.box k (.mem 0 false (aU gs bz s1))::.aR bz 1 (aS.map au)::.box k4 (.mem 0 false [.int .i64 5,.nul,.int .i64 0,.int .i64 0,.bool false,.int .i64 0,.int .i64 1])::H):=mW hH;refine qq<|af.merge (fun fr st=>∃(mn mx:Int) (s2:dW) (tmp:List (Nat×D)),fr=⟨5,[.ptr k 0 0,xW fr 1,xW fr 2,ry l,.ptr k4 0 0],tmp⟩∧Has N S2 st (.box k (.mem 0 false (aU gs bz s2))::.aR bz 1 (aS.map au)::.box k4 (.mem 0 false [.int .i64 5,.nul,.int .i64 mn,.int .i64 mx,.bool false,.int .i64 0,.int .i64 1])::H)∧(s2.o=s.o)∧(s2.g≤4)∧(s1.i<s2.i)∧(s2.i≤gs.length)∧(eH R aS s2∨s2.e=0∧R=j5 gs l s2.g mn mx s2.i)) ?_ ?_
 ·refine af.block<|qq<|qj fun K hK=>qm ?_;obtain⟨_,st,aM,rfl,hH⟩:=dS (s:=s1) (by omega) 42 hH;refine qv aM ?_;refine qm ?_;refine qe hK ?_
  cases hb1:ct gs s1.i 42 with
  |true=>
   obtain⟨k1,k2,k3,Kw,k5⟩:=gO (gs:=gs) (s:=s1) (r:=42);have k6:=mc hb1;have k7:=k5 p4;generalize b9 gs s1 42=s2 at*;refine qB ?_;refine qj fun K hK=>qp (o:=3) ?_;refine qT hH dx fun st hH=>?_;dsimp only[u2,u1,u3,u4,setMany,u5,u6,D.cells,Nat.reduceAdd,aU,bq,au,aw,a_] at hH;refine qe hK ?_;exact⟨0,-1,s2,_,rfl,hH,by omega,by omega,by omega,k7,.inr ⟨by omega,by rw[←hR,if_pos hb1,k6,show s2.g=s1.g by omega]⟩⟩
  |false=>
   rw[oN hb1] at hH;rw[if_neg (by rw[hb1];simp)] at hR;refine qC ?_;refine qq<|qj fun K hK=>qm ?_;obtain⟨_,st,aM,rfl,hH⟩:=dS (s:=s1) (by omega) 43 hH;refine qv aM ?_;refine qm ?_;refine qe hK ?_
   cases hb2:ct gs s1.i 43 with
   |true=>
    obtain⟨k1,k2,k3,Kw,k5⟩:=gO (gs:=gs) (s:=s1) (r:=43);have k6:=mc hb2;have k7:=k5 p4;generalize b9 gs s1 43=s2 at*;refine qB ?_;refine qj fun K hK=>qp (o:=2) ?_;refine qT hH dx fun st hH=>?_;dsimp only[u2,u1,u3,u4,setMany,u5,u6,D.cells,Nat.reduceAdd,aU,bq,au,aw,a_] at hH;refine qp (o:=3) ?_;refine qT hH dx fun st hH=>?_;dsimp only[u2,u1,u3,u4,setMany,u5,u6,D.cells,Nat.reduceAdd,aU,bq,au,aw,a_] at hH;refine qe hK ?_;exact⟨1,-1,s2,_,rfl,hH,by omega,by omega,by omega,k7,.inr ⟨by omega,by rw[←hR,if_pos hb2,k6,show s2.g=s1.g by omega]⟩⟩
   |false=>
    rw[oN hb2] at hH;rw[if_neg (by rw[hb2];simp)] at hR;refine qC ?_;refine qq<|qj fun K hK=>qm ?_;obtain⟨_,st,aM,rfl,hH⟩:=dS (s:=s1) (by omega) 63 hH;refine qv aM ?_;refine qm ?_;refine qe hK ?_
    cases ED:ct gs s1.i 63 with
    |true=>
     obtain⟨k1,k2,k3,Kw,k5⟩:=gO (gs:=gs) (s:=s1) (r:=63);have k6:=mc ED;have k7:=k5 p4;generalize b9 gs s1 63=s2 at*;refine qB ?_;refine qj fun K hK=>qp (o:=3) ?_;refine qT hH dx fun st hH=>?_;dsimp only[u2,u1,u3,u4,setMany,u5,u6,D.cells,Nat.reduceAdd,aU,bq,au,aw,a_] at hH;refine qe hK ?_;exact⟨0,1,s2,_,rfl,hH,by omega,by omega,by omega,k7,.inr ⟨by omega,by rw[←hR,if_pos ED,k6,show s2.g=s1.g by omega]⟩⟩
    |false=>
     rw[oN ED] at hH;rw[if_neg (by rw[ED];simp)] at hR;refine qC ?_;refine qq<|qj fun K hK=>qm ?_;obtain⟨_,st,aM,rfl,hH⟩:=oe (s:=s1) (by omega) 123 hH;refine qv aM ?_;refine qm ?_;refine qe hK ?_
     cases IX:ct gs s1.i 123 with
     |true=>
      have hlt:=dF IX;refine qB ?_;refine qj fun K hK=>qm ?_;obtain⟨_,st,aM,n1,n2,s2,rfl,⟨⟨m1,m2,m3,m4⟩,m5⟩,hH⟩:=AB cH p7 hlt hH;refine qv aM ?_;refine qm ?_;refine qg ?_;refine qg ?_;refine qp (o:=2) ?_;refine qT hH dx fun st hH=>?_;dsimp only[u2,u1,u3,u4,setMany,u5,u6,D.cells,Nat.reduceAdd,aU,bq,au,aw,a_] at hH;refine qp (o:=3) ?_;refine qT hH dx fun st hH=>?_;dsimp only[u2,u1,u3,u4,setMany,u5,u6,D.cells,Nat.reduceAdd,aU,bq,au,aw,a_] at hH;refine qe hK ?_;rw[if_pos IX] at hR
      have h5:eH R aS s2∨s2.e=0∧R=j5 gs l s2.g n1 n2 s2.i:=by
       rcases m5 with m5|⟨m5,m6⟩
       ·exact .inl (m5.map fun e w h=>by rw[←hR,h])
       ·exact .inr ⟨m5,by rw[←hR,m6,m2]⟩
      exact⟨n1,n2,s2,_,rfl,hH,by omega,by omega,m3,m4,h5⟩
     |false=>
      rw[if_neg (by rw[IX];simp)] at hR;refine qC ?_;refine qq<|qj fun K hK=>qm ?_;refine qm ?_;refine qe hK<|af.ret ⟨rx,_,_,_,rfl,ak (rfl),?_⟩;exact⟨s1,⟨p1,p2,p3,p4,l,rfl,p5,p6,.inr ⟨p7,hR.symm,by omega⟩⟩,cU.ax cF (hH.erase 2)⟩
 ·rintro fr st ⟨mn,mx,s2,tmp,hfr,hH,h1,h2,h3,h4,h5⟩;rw[hfr];clear hfr;generalize xW fr=ee;clear fr;refine qq<|qq<|qj fun K hK=>qm ?_;refine qg ?_;refine qp (o:=5) ?_;refine ql hH aC ?_;refine qg ?_;refine qe hK ?_
  by_cases ya:s2.e=0
  ·refine qE rfl (by simp[ya]) ?_;refine af.skip ?_;obtain⟨k1,k2,k3,Kw,k5⟩:=gO (gs:=gs) (s:=s2) (r:=63);have k7:=k5 h4
   have h6:R=j5 gs l s2.g mn mx s2.i:=by
    rcases h5 with h5|h5
    ·exact absurd ya h5.ne
    ·exact h5.2
   have Nq:(b9 gs s2 63).i=if ct gs s2.i 63=true then s2.i+1 else s2.i:=by unfold b9;split<;>rfl
   unfold j5 at h6;rw[←Nq] at h6;clear Nq;refine qq<|qj fun K hK=>qm ?_;obtain⟨_,st,aM,rfl,hH⟩:=dS (s:=s2) (by omega) 63 hH;refine qv aM ?_;refine qp (o:=4) ?_;refine qT hH dx fun st hH=>?_;dsimp only[u2,u1,u3,u4,setMany,u5,u6,D.cells,Nat.reduceAdd,aU,bq,au,aw,a_] at hH;refine qe hK ?_;generalize b9 gs s2 63=s3 at*;generalize ct gs s2.i 63=lz at*;have hla:=(pI p5).arg N S2;refine qq<|qj fun K hK=>?_;refine ab.cI (m:=7) hH rfl (ev rfl) (by exact dx) (by dsimp only[List.drop_succ_cons,List.drop_zero,List.take_succ_cons,List.take_zero,aU,bq,au,aw,a_]<;>rfl) rfl rfl (aa rfl _) ?_;refine qh (s:=7) (vs:=[_]) hH fun k46 st P3 hH=>?_;refine qm ?_;refine ab.qH (s:=7) hH rfl (ev rfl) (ev rfl) aC ((pI p5).rows st) rfl rfl rfl rfl rfl rfl rfl ⟨(Nat.le_of_ble_eq_true rfl),(Nat.le_of_ble_eq_true rfl)⟩ (fun _=>(aa rfl _)) (by simp only[List.length_map,List.length_cons,List.length_nil];omega) (.inr (sf p5)) (fun k hk=>by have jW:k46+1=k+1:=hk;omega) (fun Ka st Fg hH=>?_);dsimp only[u2] at hH;refine qm ?_;refine qe hK ?_;have hH:Has N S2 st (.aR Ka 7 ([.int .i64 5,.nul,.int .i64 mn,.int .i64 mx,.bool lz,.int .i64 0,.int .i64 1]::l.map a_)::.box k (.mem 0 false (aU gs bz s3))::.aR bz 1 (aS.map au)::.box k4 (.mem 0 false [.int .i64 5,.nul,.int .i64 mn,.int .i64 mx,.bool lz,.int .i64 0,.int .i64 1])::H):=hH
   have hfz:=iS (L:=s0.bs.length) (l:=fy 5 mn mx lz 0 1 []::l) hH aC (by rw[List.map_cons,tF p5];rfl) (fun e he d hd=>by
    rcases List.mem_cons.1 he with rfl|he
    ·simp only[List.mem_cons,List.not_mem_nil,or_false] at hd
     rcases hd with rfl|rfl|rfl|rfl|rfl|rfl|rfl<;>rfl
    ·exact pH p5 e he d hd) (fun k hk=>by rw[←cF];exact Fg k hk) (n:=16) (by decide)
   refine af.ret ⟨rx,_,_,_,rfl,ak hfz,⟨s3,⟨by omega,by omega,by omega,k7,_,rfl,?_,by simp only[List.length_cons];omega,.inr ⟨by omega,by rw[h6,show s3.g=s2.g by omega],by simp only[List.length_cons];omega⟩⟩,cU.ax cF ((hH.drop 1).erase 2)⟩⟩;intro n hn
   rcases List.mem_cons.1 hn with rfl|hn
   ·exact⟨rfl,by simp[fy],by simp[fy]⟩
   ·exact p5 n hn
  ·refine qD rfl (by simp[ya]) ?_;refine qq<|qj fun K hK=>qm ?_;refine qe hK<|af.ret ⟨rx,_,_,_,rfl,ak (rfl),?_⟩;exact⟨s2,fp h1 h2 (by omega) h4 (h5.resolve_right fun h=>ya h.1),cU.ax cF (hH.erase 2)⟩
def nC (fr:Go.V.Fr) (k:Nat):Go.V.D:=Go.V.nth .bG fr.loc k
noncomputable def gX (A:PF) (gs:List (Nat×Nat)) (m:Nat):Nat→Nat→Nat→List (List bF)→PR (List bF×Nat)
 |0,i,g,ps=>.ok (ew 3 ps,g) i
 |n+1,i,g,ps=>
  if i<gs.length∧ct gs i 124=false∧(ct gs i 41=false∨m=20) then
   match gP A gs m i g with
   | .er e w=>.er e w
   | .ok (l,g2) j=>gX A gs m n j g2 (ps++[l])
  else .ok (ew 3 ps,g) i
noncomputable def kJ (A:PF) (gs:List (Nat×Nat)) (m i g:Nat):PR (List bF×Nat):=gX A gs m (gs.length+1) i g []
noncomputable def kK (A:PF) (gs:List (Nat×Nat)) (m:Nat):Nat→Nat→Nat→List (List bF)→PR (List bF×Nat)
 |0,i,g,ps=>.ok (ew 4 ps,g) i
 |n+1,i,g,ps=>
  if ct gs i 124=true then
   match kJ A gs m (i+1) g with
   | .er e w=>.er e w
   | .ok (l,g2) j=>kK A gs m n j g2 (ps++[l])
  else .ok (ew 4 ps,g) i
noncomputable def g_ (A:PF) (gs:List (Nat×Nat)) (m:Nat):PF:=fun i g=>
 match kJ A gs m i g with
 | .er e w=>.er e w
 | .ok (l,g1) j=>kK A gs m (gs.length+1) j g1 [l]
noncomputable def jh (gs:List (Nat×Nat)):Nat→PF
 |0=>g_ (fun i _=>.er 10 i) gs 0
 |m+1=>g_ (jh gs m) gs (m+1)
theorem zJ {m:Nat} {gs:List (Nat×Nat)} {A:PF} (hA:∀m',m'+1=m→yM A gs m') {N k:Nat} {S s0:St} {H:List cx} {bz:D} {aS:List Int} {s:dW} (cH:kO gs aS) (he:s.e=0) (hi:s.i≤gs.length) (hg:s.g≤4) (ho:s.o+m=20) (hH:Has N S s0 (.box k (.mem 0 false (aU gs bz s))::.aR bz 1 (aS.map au)::H)):
  ∃d ag,Ev pv 71 [.ptr k 0 0] s0 d ag∧∃(s':dW),oX gs aS (kJ A gs m s.i s.g) s s' d∧Has N S ag (.box k (.mem 0 false (aU gs bz s'))::.aR bz 1 (aS.map au)::H):=by
 have qk:=cH.gl;have jT:=cH.pl;refine Ev.ow rfl Mh rfl rfl rfl ?_;dsimp only[u3,u4,List.length,Nat.reduceSub,Nat.reduceAdd,w1,w2];have cU:=hH;have hH:=hH.cV;have cF:(aj .rw s0).bs=s0.bs:=rfl;generalize aj .rw s0=S2 at*
 obtain⟨R,hR⟩:∃R,kJ A gs m s.i s.g=R:=⟨_,rfl⟩
 rw[hR];unfold kJ at hR;have Bv:Arg N S2 2 (cO gs) (gs.map bq):=Arg.pure (fun st=>dw st gs);refine qq<|qj fun K hK=>qm ?_;refine qe hK<|qq<|qj fun K hK=>qm ?_;refine qe hK ?_;have hH:Has N S2 S2 (.box k (.mem 0 false (aU gs bz s))::.aR bz 1 (aS.map au)::.aR .nul 1 (([]:List (List bF)).map dN)::H):=mW (hH.gH 1);refine qq<|af.block<|af.loop (fun mm fr st=>∃(s1:dW) (pd:D) (parts:List (List bF)),fr.clean=⟨4,[.ptr k 0 0,nC fr 1,nC fr 2,pd],[]⟩∧Has N S2 st (.box k (.mem 0 false (aU gs bz s1))::.aR bz 1 (aS.map au)::.aR pd 1 (parts.map dN)::H)∧(s1.o=s.o)∧(s1.g≤4)∧(s.i≤s1.i)∧(s1.i≤gs.length)∧(∀l∈parts,∀n∈l,rP n)∧(fh parts+parts.length≤4*(s1.i-s.i)+2)∧(s1.e=0→fh parts+parts.length≤4*(s1.i-s.i))∧(eH R aS s1∨s1.e=0∧∃n,gs.length-s1.i<n∧gX A gs m n s1.i s1.g parts=R)∧(gs.length-s1.i+(if s1.e=0 then 1 else 0)≤mm)) (gs.length+1) ?_ ?_
 ·exact⟨s,.nul,[],rfl,hH,rfl,hg,Nat.le_refl _,hi,fun l hl=>(by cases hl),by simp[fh],fun _=>by simp[fh],.inr ⟨he,gs.length+1,by omega,hR⟩,by split<;>omega⟩
 rintro mm fr st ⟨s1,pd,parts,hfr,hH,h1,h2,h3,h4,h5,h6,h7,h8,w9⟩;rw[hfr];clear hfr;generalize nC fr=ee;clear fr
 have qz:∀st:St,(eH R aS s1∨s1.e=0∧R=.ok (ew 3 parts,s1.g) s1.i)→Has N S2 st (.box k (.mem 0 false (aU gs bz s1))::.aR bz 1 (aS.map au)::.aR pd 1 (parts.map dN)::H)→∃d,Ev pv 73 [.int .i64 3,pd] st d st∧oX gs aS R s s1 d∧∃l,d=ry l:=by
  intro st hv hH;obtain⟨aM,j1,j2,j3⟩:=pR 3 (hH.rows dx) h5 (by omega) (by omega);refine⟨_,aM,⟨h1,h2,h3,h4,ew 3 parts,rfl,j1,?_,hv⟩,_,rfl⟩
  by_cases q1:parts.length=1
  ·have:=j2 q1;omega
  ·by_cases q0:parts.length=0
   ·have:parts=[]:=List.length_eq_zero_iff.1 q0;rw[this];show 1≤_;omega
   ·omega
 by_cases he1:s1.e=0
 ·obtain⟨n,x6,hY⟩:=(h8.resolve_left fun h=>absurd he1 h.ne).2
  obtain⟨n,rfl⟩:∃m,n=m+1:=⟨n-1,by omega⟩
  unfold gX at hY;rw[if_pos he1] at w9;have h7:=h7 he1;have bC:(s1.e==0)=true:=by simpa using he1
  by_cases hlt:s1.i<gs.length
  ·have ba:decide (((s1.i:Nat):Int)<((gs.length:Nat):Int))=true:=by rw[decide_eq_true_eq];omega
   cases bh:(!ct gs s1.i 124) with
   |false=>
    refine qq<|qq<|qj fun K hK=>qm ?_;refine qg ?_;refine qp (o:=5) ?_;refine ql hH aC ?_;refine qg ?_;refine qm ?_;refine qm ?_ (hg:=wi bC);refine qg ?_ (hg:=wi bC);refine qp (o:=2) ?_ (hg:=wi bC);refine ql hH aC ?_ (hg:=wi bC);refine qm ?_ (hg:=wi bC);refine qg ?_ (hg:=wi bC);refine qp (o:=0) ?_ (hg:=wi bC);refine ql hH aC ?_ (hg:=wi bC);refine qn ?_ (hg:=wi bC);simp only[List.length_map];refine qg ?_ (hg:=wi bC);refine qt bC ?_;refine qm ?_;refine qm ?_ (hg:=wi ba);obtain⟨_,st,aM,rfl,hH⟩:=oe (s:=s1) (by omega) 124 hH;refine qv aM ?_ (hg:=wi ba);refine qg ?_ (hg:=wi ba);refine qt ba ?_;refine qm ?_;refine qs ?_ (hg:=wn bh);refine qs ?_ (hg:=wn bh);refine qs ?_ (hg:=wn bh);refine qs ?_;refine qs ?_;refine qs ?_;refine qs ?_;refine qs ?_;refine qs ?_ (hg:=wn bh);refine qs ?_ (hg:=wn bh);refine qu bh ?_;refine qe hK<|qC ?_;refine af.exit ?_;obtain⟨_,CI,hQ,l,rfl⟩:=qz _ (.inr ⟨he1,by rw[←hY,if_neg (fun h=>by rw[h.2.1] at bh;simp at bh)]⟩) hH;refine qq<|qj fun K hK=>qm ?_;refine qv (CI) ?_;refine qm ?_;refine qe hK<|af.ret ⟨rx,_,_,_,rfl,ak (rfl),?_⟩;exact⟨s1,hQ,cU.ax cF (hH.erase 2)⟩
   |true=>
    cases bc:ct gs s1.i 41 with
    |false=>
     refine qq<|qq<|qj fun K hK=>qm ?_;refine qg ?_;refine qp (o:=5) ?_;refine ql hH aC ?_;refine qg ?_;refine qm ?_;refine qm ?_ (hg:=wi bC);refine qg ?_ (hg:=wi bC);refine qp (o:=2) ?_ (hg:=wi bC);refine ql hH aC ?_ (hg:=wi bC);refine qm ?_ (hg:=wi bC);refine qg ?_ (hg:=wi bC);refine qp (o:=0) ?_ (hg:=wi bC);refine ql hH aC ?_ (hg:=wi bC);refine qn ?_ (hg:=wi bC);simp only[List.length_map];refine qg ?_ (hg:=wi bC);refine qt bC ?_;refine qm ?_;refine qm ?_ (hg:=wi ba);obtain⟨_,st,aM,rfl,hH⟩:=oe (s:=s1) (by omega) 124 hH;refine qv aM ?_ (hg:=wi ba);refine qg ?_ (hg:=wi ba);refine qt ba ?_;refine qm ?_;refine qm ?_ (hg:=wi bh);obtain⟨_,st,aM,rfl,hH⟩:=oe (s:=s1) (by omega) 41 hH;refine qv aM ?_ (hg:=wi bh);refine qm ?_ (hg:=wi bh);refine qs ?_ (hg:=wn bc);refine qs ?_ (hg:=wn bc);refine qs ?_ (hg:=wn bc);refine qs ?_ (hg:=wn bc);refine qs ?_ (hg:=wn bc);refine ab.bM (ah rfl rfl rfl bh) rfl bc (aa rfl _) ?_;refine qg ?_ (hg:=wi bh);refine qt bh ?_;refine qe hK<|qB ?_;refine af.skip<|af.block ?_;rw[if_pos ⟨hlt,by simpa using bh,.inl bc⟩] at hY;refine qj fun K hK=>qm ?_;refine qm ?_;obtain⟨_,st,aM,s2,⟨r1,r2,r3,r4,l,rfl,r5,r6,r7⟩,hH⟩:=y5 hA cH (s:=s1) he1 hlt h2 (by omega) hH;refine qv aM ?_;refine qh (s:=1) (vs:=[_]) hH fun k41 st Ix hH=>?_;dsimp only[u2,u1,u3,u4,setMany,u5,u6,D.cells,Nat.reduceAdd,aU,bq,au,aw,dN] at hH;refine ab.cT (s:=1) hH rfl (ev rfl) (ev rfl) (by exact fc) (by exact hH.rows (by exact aC)) rfl rfl rfl rfl rfl rfl rfl ⟨(Nat.le_of_ble_eq_true rfl),(Nat.le_of_ble_eq_true rfl)⟩ (fun _=>(aa rfl _)) (by simp only[List.length_cons,List.length_nil,List.length_map]<;>omega) (by exact .inr rfl) (fun Hr st hH=>?_);dsimp only[u2,u1,u3,u4,setMany,u5,u6,D.cells,Nat.reduceAdd,aU,bq,au,aw,dN] at hH;refine qm ?_;refine qe hK ?_;have hH:=hH.drop 1
     have r8:s2.e=0→l.length+1≤4*(s2.i-s1.i):=fun e=>by
      rcases r7 with r7|r7
      ·exact absurd e r7.ne
      ·exact r7.2.2
     have r9:eH R aS s2∨s2.e=0∧∃n,gs.length-s2.i<n∧gX A gs m n s2.i s2.g (parts++[l])=R:=by
      rcases r7 with r7|⟨r7,HF,Ob⟩
      ·exact .inl (r7.map fun e w h=>by rw[←hY,h])
      ·rw[HF] at hY;exact .inr ⟨r7,n,by omega,hY⟩
     have Ki:gs.length-s2.i+(if s2.e=0 then 1 else 0)≤mm-1:=by
      by_cases e:s2.e=0
      ·have:=r8 e;rw[if_pos e];omega
      ·rw[if_neg e];omega
     refine⟨mm-1,by omega,⟨s2,Hr,parts++[l],rfl,(by rw[List.map_append];exact hH),by omega,r2,by omega,r4,?_,by rw[dA,List.length_append];simp only[fh,List.length_cons,List.length_nil];omega,(fun e=>by have:=r8 e;rw[dA,List.length_append];simp only[fh,List.length_cons,List.length_nil];omega),r9,Ki⟩⟩;intro l' iR
     rcases List.mem_append.1 iR with iR|iR
     ·exact h5 l' iR
     ·simp only[List.mem_cons,List.not_mem_nil,or_false] at iR;subst iR;exact r5
    |true=>
     refine qq<|qq<|qj fun K hK=>qm ?_;refine qg ?_;refine qp (o:=5) ?_;refine ql hH aC ?_;refine qg ?_;refine qm ?_;refine qm ?_ (hg:=wi bC);refine qg ?_ (hg:=wi bC);refine qp (o:=2) ?_ (hg:=wi bC);refine ql hH aC ?_ (hg:=wi bC);refine qm ?_ (hg:=wi bC);refine qg ?_ (hg:=wi bC);refine qp (o:=0) ?_ (hg:=wi bC);refine ql hH aC ?_ (hg:=wi bC);refine qn ?_ (hg:=wi bC);simp only[List.length_map];refine qg ?_ (hg:=wi bC);refine qt bC ?_;refine qm ?_;refine qm ?_ (hg:=wi ba);obtain⟨_,st,aM,rfl,hH⟩:=oe (s:=s1) (by omega) 124 hH;refine qv aM ?_ (hg:=wi ba);refine qg ?_ (hg:=wi ba);refine qt ba ?_;refine qm ?_;refine qm ?_ (hg:=wi bh);obtain⟨_,st,aM,rfl,hH⟩:=oe (s:=s1) (by omega) 41 hH;refine qv aM ?_ (hg:=wi bh);refine qm ?_ (hg:=wi bh);refine qm ?_ (hg:=wi bc);refine qg ?_ (hg:=wi bc);refine qp (o:=3) ?_ (hg:=wi bc);refine ql hH aC ?_ (hg:=wi bc);refine qg ?_ (hg:=wi bc);refine ab.b_ (ah rfl rfl rfl bh) rfl bc (aa rfl _) ?_;refine qg ?_ (hg:=wi bh);refine qt bh ?_;refine qe hK ?_
     by_cases gw:0<s1.o
     ·have gW:(!decide (((s1.o:Nat):Int)>0))=false:=by rw[decide_eq_true (by omega)];rfl
      refine qE rfl (by rw[gW]) ?_;refine af.exit ?_;obtain⟨_,CI,hQ,l,rfl⟩:=qz _ (.inr ⟨he1,by rw[←hY,if_neg (fun h=>by rcases h.2.2 with h|h;rw[bc] at h;exact absurd h (by simp);omega)]⟩) hH;refine qq<|qj fun K hK=>qm ?_;refine qv (CI) ?_;refine qm ?_;refine qe hK<|af.ret ⟨rx,_,_,_,rfl,ak (rfl),?_⟩;exact⟨s1,hQ,cU.ax cF (hH.erase 2)⟩
     ·have gW:(!decide (((s1.o:Nat):Int)>0))=true:=by rw[decide_eq_false (by omega)];rfl
      refine qD rfl (by rw[gW]) ?_;refine af.skip<|af.block ?_;rw[if_pos ⟨hlt,by simpa using bh,.inr (by omega)⟩] at hY;refine qj fun K hK=>qm ?_;refine qm ?_;obtain⟨_,st,aM,s2,⟨r1,r2,r3,r4,l,rfl,r5,r6,r7⟩,hH⟩:=y5 hA cH (s:=s1) he1 hlt h2 (by omega) hH;refine qv aM ?_;refine qh (s:=1) (vs:=[_]) hH fun k41 st Ix hH=>?_;dsimp only[u2,u1,u3,u4,setMany,u5,u6,D.cells,Nat.reduceAdd,aU,bq,au,aw,dN] at hH;refine ab.cT (s:=1) hH rfl (ev rfl) (ev rfl) (by exact fc) (by exact hH.rows (by exact aC)) rfl rfl rfl rfl rfl rfl rfl ⟨(Nat.le_of_ble_eq_true rfl),(Nat.le_of_ble_eq_true rfl)⟩ (fun _=>(aa rfl _)) (by simp only[List.length_cons,List.length_nil,List.length_map]<;>omega) (by exact .inr rfl) (fun Hr st hH=>?_);dsimp only[u2,u1,u3,u4,setMany,u5,u6,D.cells,Nat.reduceAdd,aU,bq,au,aw,dN] at hH;refine qm ?_;refine qe hK ?_;have hH:=hH.drop 1
      have r8:s2.e=0→l.length+1≤4*(s2.i-s1.i):=fun e=>by
       rcases r7 with r7|r7
       ·exact absurd e r7.ne
       ·exact r7.2.2
      have r9:eH R aS s2∨s2.e=0∧∃n,gs.length-s2.i<n∧gX A gs m n s2.i s2.g (parts++[l])=R:=by
       rcases r7 with r7|⟨r7,HF,Ob⟩
       ·exact .inl (r7.map fun e w h=>by rw[←hY,h])
       ·rw[HF] at hY;exact .inr ⟨r7,n,by omega,hY⟩
      have Ki:gs.length-s2.i+(if s2.e=0 then 1 else 0)≤mm-1:=by
       by_cases e:s2.e=0
       ·have:=r8 e;rw[if_pos e];omega
       ·rw[if_neg e];omega
      refine⟨mm-1,by omega,⟨s2,Hr,parts++[l],rfl,(by rw[List.map_append];exact hH),by omega,r2,by omega,r4,?_,by rw[dA,List.length_append];simp only[fh,List.length_cons,List.length_nil];omega,(fun e=>by have:=r8 e;rw[dA,List.length_append];simp only[fh,List.length_cons,List.length_nil];omega),r9,Ki⟩⟩;intro l' iR
      rcases List.mem_append.1 iR with iR|iR
      ·exact h5 l' iR
      ·simp only[List.mem_cons,List.not_mem_nil,or_false] at iR;subst iR;exact r5
  ·have ba:decide (((s1.i:Nat):Int)<((gs.length:Nat):Int))=false:=by rw[decide_eq_false_iff_not];omega
   refine qq<|qq<|qj fun K hK=>qm ?_;refine qg ?_;refine qp (o:=5) ?_;refine ql hH aC ?_;refine qg ?_;refine qm ?_;refine qm ?_ (hg:=wi bC);refine qg ?_ (hg:=wi bC);refine qp (o:=2) ?_ (hg:=wi bC);refine ql hH aC ?_ (hg:=wi bC);refine qm ?_ (hg:=wi bC);refine qg ?_ (hg:=wi bC);refine qp (o:=0) ?_ (hg:=wi bC);refine ql hH aC ?_ (hg:=wi bC);refine qn ?_ (hg:=wi bC);simp only[List.length_map];refine qg ?_ (hg:=wi bC);refine qt bC ?_;refine qm ?_;refine qs ?_ (hg:=wn ba);refine qs ?_ (hg:=wn ba);refine qs ?_ (hg:=wn ba);refine qu ba ?_;refine qm ?_;refine qs ?_;refine qs ?_;refine qs ?_;refine qs ?_;refine qs ?_;refine qs ?_;refine qs ?_;refine qs ?_;refine qs ?_;refine qs ?_;refine qg ?_;refine qe hK<|qC ?_;refine af.exit ?_;obtain⟨_,CI,hQ,l,rfl⟩:=qz _ (.inr ⟨he1,by rw[←hY,if_neg (fun h=>hlt h.1)]⟩) hH;refine qq<|qj fun K hK=>qm ?_;refine qv (CI) ?_;refine qm ?_;refine qe hK<|af.ret ⟨rx,_,_,_,rfl,ak (rfl),?_⟩;exact⟨s1,hQ,cU.ax cF (hH.erase 2)⟩
 ·have bC:(s1.e==0)=false:=by simpa using he1
  refine qq<|qq<|qj fun K hK=>qm ?_;refine qg ?_;refine qp (o:=5) ?_;refine ql hH aC ?_;refine qg ?_;refine qm ?_;refine qs ?_ (hg:=wn bC);refine qs ?_ (hg:=wn bC);refine qs ?_ (hg:=wn bC);refine qs ?_ (hg:=wn bC);refine qs ?_ (hg:=wn bC);refine qs ?_ (hg:=wn bC);refine qs ?_ (hg:=wn bC);refine qs ?_ (hg:=wn bC);refine qs ?_ (hg:=wn bC);refine qs ?_ (hg:=wn bC);refine qu bC ?_;refine qm ?_;refine qs ?_;refine qs ?_;refine qs ?_;refine qg ?_;refine qm ?_;refine qs ?_;refine qs ?_;refine qs ?_;refine qs ?_;refine qs ?_;refine qs ?_;refine qs ?_;refine qs ?_;refine qs ?_;refine qs ?_;refine qg ?_;refine qe hK<|qC ?_;refine af.exit ?_;obtain⟨_,CI,hQ,l,rfl⟩:=qz _ (.inl (h8.resolve_right fun h=>he1 h.1)) hH;refine qq<|qj fun K hK=>qm ?_;refine qv (CI) ?_;refine qm ?_;refine qe hK<|af.ret ⟨rx,_,_,_,rfl,ak (rfl),?_⟩;exact⟨s1,hQ,cU.ax cF (hH.erase 2)⟩
theorem z6 {m:Nat} {gs:List (Nat×Nat)} {A:PF} (hA:∀m',m'+1=m→yM A gs m'):yM (g_ A gs m) gs m:=by
 intro N k S s0 H bz aS s cH he hi hg ho hH;have qk:=cH.gl;have jT:=cH.pl;refine Ev.ow rfl Mt rfl rfl rfl ?_;dsimp only[u3,u4,List.length,Nat.reduceSub,Nat.reduceAdd,w1,w2];have cU:=hH;have hH:=hH.cV;have cF:(aj .rw s0).bs=s0.bs:=rfl;generalize aj .rw s0=S2 at*
 obtain⟨R,hR⟩:∃R,g_ A gs m s.i s.g=R:=⟨_,rfl⟩
 rw[hR];unfold g_ at hR;refine qq<|qj fun K hK=>qm ?_;refine qe hK<|qq<|qj fun K hK=>qm ?_;obtain⟨_,st,aM,s1,⟨p1,p2,p3,p4,l,rfl,p5,p6,p7⟩,hH⟩:=zJ hA cH he hi hg ho hH;refine qv aM ?_;refine qh (s:=1) (vs:=[_]) hH fun k6 st Fl hH=>?_;dsimp only[u2,u1,u3,u4,setMany,u5,u6,D.cells,Nat.reduceAdd,aU,bq,au,aw,dN] at hH;refine qm ?_;refine qe hK ?_
 have QL:eH R aS s1∨s1.e=0∧∃n,gs.length-s1.i<n∧kK A gs m n s1.i s1.g [l]=R:=by
  rcases p7 with p7|⟨p7,Og⟩
  ·exact .inl (p7.map fun e w h=>by rw[←hR,h])
  ·rw[Og] at hR;exact .inr ⟨p7,_,by omega,hR⟩
 have hH:Has N S2 st (.box k (.mem 0 false (aU gs bz s1))::.aR bz 1 (aS.map au)::.aR (.win k6 0 0 1 1) 1 ([l].map dN)::H):=mW hH;refine qq<|af.block<|af.loop (fun mm fr st=>∃(s1:dW) (pd:D) (parts:List (List bF)),fr.clean=⟨4,[.ptr k 0 0,nC fr 1,nC fr 2,pd],[]⟩∧Has N S2 st (.box k (.mem 0 false (aU gs bz s1))::.aR bz 1 (aS.map au)::.aR pd 1 (parts.map dN)::H)∧(s1.o=s.o)∧(s1.g≤4)∧(s.i≤s1.i)∧(s1.i≤gs.length)∧(∀l∈parts,∀n∈l,rP n)∧(fh parts+3*parts.length≤4*(s1.i-s.i)+4)∧(1≤parts.length)∧(eH R aS s1∨s1.e=0∧∃n,gs.length-s1.i<n∧kK A gs m n s1.i s1.g parts=R)∧(gs.length-s1.i≤mm)) (gs.length) ?_ ?_
 ·exact⟨s1,.win k6 0 0 1 1,[l],rfl,hH,p1,p2,p3,p4,(fun l' iR=>by simp only[List.mem_cons,List.not_mem_nil,or_false] at iR;subst iR;exact p5),by simp only[fh,List.length_cons,List.length_nil];omega,by simp,QL,by omega⟩
 rintro mm fr st ⟨s1,pd,parts,hfr,hH,h1,h2,h3,h4,h5,h6,h8,h9,w9⟩;rw[hfr];clear hfr;generalize nC fr=ee;clear fr
 have qz:∀st:St,(eH R aS s1∨s1.e=0∧R=.ok (ew 4 parts,s1.g) s1.i)→Has N S2 st (.box k (.mem 0 false (aU gs bz s1))::.aR bz 1 (aS.map au)::.aR pd 1 (parts.map dN)::H)→∃d,Ev pv 73 [.int .i64 4,pd] st d st∧oX gs aS R s s1 d∧∃l,d=ry l:=by
  intro st hv hH;obtain⟨aM,j1,j2,j3⟩:=pR 4 (hH.rows dx) h5 (by omega) (by omega);refine⟨_,aM,⟨h1,h2,h3,h4,ew 4 parts,rfl,j1,?_,hv⟩,_,rfl⟩
  by_cases q1:parts.length=1
  ·have:=j2 q1;omega
  ·omega
 by_cases he1:s1.e=0
 ·obtain⟨n,x6,hY⟩:=(h9.resolve_left fun h=>absurd he1 h.ne).2
  obtain⟨n,rfl⟩:∃m,n=m+1:=⟨n-1,by omega⟩
  unfold kK at hY;have bC:(s1.e==0)=true:=by simpa using he1
  obtain⟨k1,k2,k3,k4,k5⟩:=gO (gs:=gs) (s:=s1) (r:=124);have k5:=k5 h4;refine qq<|qq<|qj fun K hK=>qm ?_;refine qg ?_;refine qp (o:=5) ?_;refine ql hH aC ?_;refine qg ?_;refine qm ?_;refine qm ?_ (hg:=wi bC);obtain⟨_,st,aM,rfl,hH⟩:=dS (s:=s1) (by omega) 124 hH;refine qv aM ?_ (hg:=wi bC);refine qt bC ?_;refine qe hK ?_
  cases hb:ct gs s1.i 124 with
  |false=>
   rw[oN hb] at hH;refine qC ?_;refine af.exit ?_;obtain⟨_,CI,hQ,l,rfl⟩:=qz _ (.inr ⟨he1,by rw[←hY,if_neg (by rw[hb];simp)]⟩) hH;refine qq<|qj fun K hK=>qm ?_;refine qv (CI) ?_;refine qm ?_;refine qe hK<|af.ret ⟨rx,_,_,_,rfl,ak (rfl),?_⟩;exact⟨s1,hQ,cU.ax cF (hH.erase 2)⟩
  |true=>
   have k6:=mc hb;rw[if_pos hb] at hY;generalize b9 gs s1 124=s2 at*;refine qB ?_;refine af.skip<|af.block<|qj fun K hK=>qm ?_;refine qm ?_;obtain⟨_,st,aM,s3,⟨r1,r2,r3,r4,l,rfl,r5,r6,r7⟩,hH⟩:=zJ hA cH (s:=s2) (by omega) k5 (by omega) (by omega) hH;refine qv aM ?_;refine qh (s:=1) (vs:=[_]) hH fun k19 st P' hH=>?_;dsimp only[u2,u1,u3,u4,setMany,u5,u6,D.cells,Nat.reduceAdd,aU,bq,au,aw,dN] at hH;refine ab.cT (s:=1) hH rfl (ev rfl) (ev rfl) (by exact fc) (by exact hH.rows (by exact aC)) rfl rfl rfl rfl rfl rfl rfl ⟨(Nat.le_of_ble_eq_true rfl),(Nat.le_of_ble_eq_true rfl)⟩ (fun _=>(aa rfl _)) (by simp only[List.length_cons,List.length_nil,List.length_map]<;>omega) (by exact .inr rfl) (fun MY st hH=>?_);dsimp only[u2,u1,u3,u4,setMany,u5,u6,D.cells,Nat.reduceAdd,aU,bq,au,aw,dN] at hH;refine qm ?_;refine qe hK ?_;have hH:=hH.drop 1;rw[k6,show s2.g=s1.g by omega] at r7
   have r9:eH R aS s3∨s3.e=0∧∃n,gs.length-s3.i<n∧kK A gs m n s3.i s3.g (parts++[l])=R:=by
    rcases r7 with r7|⟨r7,HF⟩
    ·exact .inl (r7.map fun e w h=>by rw[←hY,h])
    ·rw[HF] at hY;exact .inr ⟨r7,n,by omega,hY⟩
   refine⟨mm-1,by omega,⟨s3,MY,parts++[l],rfl,(by rw[List.map_append];exact hH),by omega,r2,by omega,r4,?_,by rw[dA,List.length_append];simp only[fh,List.length_cons,List.length_nil];omega,by rw[List.length_append];omega,r9,by omega⟩⟩;intro l' iR
   rcases List.mem_append.1 iR with iR|iR
   ·exact h5 l' iR
   ·simp only[List.mem_cons,List.not_mem_nil,or_false] at iR;subst iR;exact r5
 ·have bC:(s1.e==0)=false:=by simpa using he1
  refine qq<|qq<|qj fun K hK=>qm ?_;refine qg ?_;refine qp (o:=5) ?_;refine ql hH aC ?_;refine qg ?_;refine qm ?_;refine qs ?_ (hg:=wn bC);refine qs ?_ (hg:=wn bC);refine qu bC ?_;refine qe hK<|qC ?_;refine af.exit ?_;obtain⟨_,CI,hQ,l,rfl⟩:=qz _ (.inl (h9.resolve_right fun h=>he1 h.1)) hH;refine qq<|qj fun K hK=>qm ?_;refine qv (CI) ?_;refine qm ?_;refine qe hK<|af.ret ⟨rx,_,_,_,rfl,ak (rfl),?_⟩;exact⟨s1,hQ,cU.ax cF (hH.erase 2)⟩
theorem E0 (gs:List (Nat×Nat)) (m:Nat):yM (jh gs m) gs m:=by
 induction m with
 |zero=>exact z6 (fun m' h=>by omega)
 |succ m ih=>exact z6 (fun m' h=>by cases h;exact@ih)
def bm (fr:Go.V.Fr) (k:Nat):Go.V.D:=Go.V.nth .bG fr.loc k
def tx:List (Nat×Nat)→Nat→List Int
 |[],_=>[]
 |q::l,a=>((a:Nat):Int)::tx l (a+q.2)
noncomputable def tz (gs:List (Nat×Nat)) (R:PR (List bF×Nat)):List bF×Int×Int:=
 match R with
 | .er e w=>([],e,(tx gs 0).getD w 0)
 | .ok (l,_) j=>if j<gs.length then([],4,(tx gs 0).getD j 0) else(l,0,0)
noncomputable def aO (b:List UInt8):List bF×Int×Int:=
 if 120<b.length then([],2,0) else tz (aV b) (jh (aV b) 20 0 0)
def jN (q:List bF×Int×Int):D:=.tup [ry q.1,.int .i64 q.2.1,.int .i64 q.2.2]
theorem rZ {s0:St} {b:List UInt8} (hbl:b.length≤1048576):Ev pv 11 [.str b] s0 (jN (aO b)) s0∧(∀n∈(aO b).1,rP n)∧(aO b).1.length≤500:=by
 suffices hg:∃d,Ev pv 11 [.str b] s0 d s0∧d=jN (aO b)∧(∀n∈(aO b).1,rP n)∧(aO b).1.length≤500 by
  obtain⟨d,h1,rfl,h2⟩:=hg;exact⟨h1,h2⟩
 obtain⟨X,hX⟩:∃X,aO b=X:=⟨_,rfl⟩
 rw[hX];unfold aO at hX;obtain⟨qk,LG⟩:=rq _ b (Nat.le_refl _);have aM:∀(st:St) (x:D),Bytes st x b→Ev pv 28 [x] st (cO (aV b)) st:=fun st x h=>Dt h hbl;generalize aV b=gs at*;refine Ev.Ec rfl MC rfl rfl rfl ?_;dsimp only[u3,u4,List.length,Nat.reduceSub,Nat.reduceAdd,w1,w2];obtain⟨cE,hF,hH⟩:=ri s0;generalize aj .ro s0=S at*;have Bv:Arg s0.bs.length S 2 (cO gs) (gs.map bq):=Arg.pure (fun st=>dw st gs);refine qq<|qj fun K hK=>qm ?_;refine qm ?_;refine qm ?_;refine qe hK<|qq<|qq<|qj fun K hK=>qm ?_;refine ab.tj rfl rfl rfl (by dsimp only[Fr.put,u1,u2]<;>rfl) ?_;refine qg ?_;refine qe hK ?_
 by_cases Fj:120<b.length
 ·have gW:decide (((b.length:Nat):Int)>120)=true:=by rw[decide_eq_true_eq];omega
  refine qD rfl (by rw[gW]) ?_;refine qq<|qj fun K hK=>qm ?_;refine qm ?_;refine qm ?_;refine qe hK<|af.ret ⟨rx,_,_,rfl,rl cE hH (rfl),?_⟩;rw[if_pos Fj] at hX;rw[←hX];exact⟨rfl,fun n hn=>(by cases hn),by simp⟩
 rw[if_neg Fj] at hX;have gW:decide (((b.length:Nat):Int)>120)=false:=by rw[decide_eq_false_iff_not];omega
 refine qE rfl (by rw[gW]) ?_;refine af.skip<|qq<|qj fun K hK=>qm ?_;refine ab.CQ hH rfl rfl rfl rfl rfl (by omega) (fun _=>by dsimp only[Fr.put,u1,u2]<;>rfl) (fun k14 st Iz hH=>?_);refine qv ((aM _ _ (hH.rows aC))) ?_;refine ab.go (d:=.agg [cO gs,.nul,.int .i64 0,.int .i64 0,.int .i64 0,.int .i64 0,.int .i64 0]) (st1:=_) rfl rfl rfl (by dsimp only[Fr.put,u1,u2]<;>rfl) ?_;refine qb hH fun k17 st Lx hH=>?_;refine qm ?_;refine qe hK<|qq<|qj fun K hK=>qm ?_;refine qe hK<|qq<|qq<|qj fun K hK=>qm ?_;refine qg ?_;refine qp (o:=0) ?_;refine ql hH aC ?_;refine qn ?_;simp only[List.length_map];refine qm ?_;refine qe hK ?_;have hH:Has s0.bs.length S st (.box k17 (.mem 0 false [cO gs,.nul,.int .i64 0,.int .i64 0,.int .i64 0,.int .i64 0,.int .i64 0])::.aR .nul 1 (([]:List Int).map au)::[]):=((hH.erase 1).gH 1).front cp;refine af.block<|af.loop (fun mm fr st=>∃(i a:Nat) (pd:D) (aS:List Int),fr.clean=⟨24,[bm fr 0,bm fr 1,bm fr 2,bm fr 3,bm fr 4,.ptr k17 0 0,.int .i64 (a:Nat),bm fr 7,bm fr 8,bm fr 9,bm fr 10,bm fr 11,bm fr 12,bm fr 13,bm fr 14,bm fr 15,bm fr 16,bm fr 17,bm fr 18,bm fr 19,bm fr 20,cO gs,.int .i64 (gs.length:Nat),.int .i64 (i:Nat)],[]⟩∧Has s0.bs.length S st [.box k17 (.mem 0 false [cO gs,pd,.int .i64 0,.int .i64 0,.int .i64 0,.int .i64 0,.int .i64 0]),.aR pd 1 (aS.map au)]∧(i+mm=gs.length)∧(aS.length=i)∧(aS++tx (gs.drop i) a=tx gs 0)∧(a≤120*i)) (gs.length) ?_ ?_
 ·exact⟨0,0,.nul,[],rfl,hH,by omega,rfl,rfl,by omega⟩
 rintro mm fr st ⟨i,a,pd,aS,hfr,hH,hi,jT,Bq,ha⟩;rw[hfr];clear hfr;generalize bm fr=ee;clear fr;refine qq<|qj fun K hK=>qg ?_;refine qe hK ?_
 by_cases hlt:i<gs.length
 ·obtain⟨g,hg⟩:∃g,gs[i]?=some g:=⟨gs[i]'hlt,List.getElem?_eq_getElem _⟩
  have jx:(gs.map bq)[i]?=some (bq g):=by rw[List.getElem?_map,hg];rfl
  have bd:=LG g (List.mem_of_getElem? hg)
  have wy:gs.drop i=g::gs.drop (i+1):=by
   have:=List.drop_eq_getElem_cons (l:=gs) (i:=i) hlt;rw[this];congr 1;rw[List.getElem?_eq_getElem hlt] at hg;exact Option.some.inj hg
  rw[wy] at Bq
  have Bq:(aS++[((a:Nat):Int)])++tx (gs.drop (i+1)) (a+g.2)=tx gs 0:=by
   rw[List.append_assoc];exact Bq
  have xc:decide (((i:Nat):Int)<((gs.length:Nat):Int))=true:=by rw[decide_eq_true_eq];omega
  refine qq<|qD rfl (by rw[xc]) ?_;refine af.skip<|qq<|af.block<|qq<|qj fun K hK=>qr fun Kk F'=>?_;refine ab.fk rfl (ev rfl) (by assumption) rfl (aa rfl _) ?_;refine qa hH fun k8 st Ls hH=>?_;refine qS hH aC fun st hH=>?_;dsimp only[u2,u1,u3,u4,setMany,u5,u6,D.cells,Nat.reduceAdd,aU,bq,au] at hH;refine qe hK<|qq<|qj fun K hK=>qm ?_;refine qm ?_;refine qg ?_;refine qp (o:=1) ?_;refine ql hH cp ?_;refine qm ?_;refine qh (s:=1) (vs:=[_]) hH fun k33 st Lv hH=>?_;refine ab.cT (s:=1) hH rfl (ev rfl) (ev rfl) (by exact fc) (by exact hH.rows (by exact aC)) rfl rfl rfl rfl rfl rfl rfl ⟨(Nat.le_of_ble_eq_true rfl),(Nat.le_of_ble_eq_true rfl)⟩ (fun _=>(aa rfl _)) (by simp only[List.length_cons,List.length_nil,List.length_map]<;>omega) (by exact .inl hF) (fun N5 st hH=>?_);dsimp only[u2,u1,u3,u4,setMany,u5,u6,D.cells,Nat.reduceAdd,aU,bq,au] at hH;refine qg ?_;refine qp (o:=1) ?_;refine qT hH dx (fun st hH=>?_) (jF:=hH.gk fc);dsimp only[u2,u1,u3,u4,setMany,u5,u6,D.cells,Nat.reduceAdd,aU,bq,au] at hH;refine qe hK<|qj fun K hK=>qm ?_;refine qp (o:=1) ?_;refine ql hH cp ?_;refine ab.E2 rfl (ev rfl) (ev rfl) (by omega) (aa rfl _) ?_;refine qm ?_;refine qe hK<|qj fun K hK=>qA ?_;refine qm ?_;refine qe hK ?_;exact⟨mm-1,by omega,⟨i+1,a+g.2,N5,aS++[((a:Nat):Int)],rfl,(by rw[List.map_append];exact hH.drop 2),by omega,by rw[List.length_append,jT];rfl,Bq,by omega⟩⟩
 ·have xc:decide (((i:Nat):Int)<((gs.length:Nat):Int))=false:=by rw[decide_eq_false_iff_not];omega
  refine qq<|qE rfl (by rw[xc]) ?_;refine af.exit ?_
  have cH:kO gs aS:=⟨by omega,by omega⟩
  have Bq:aS=tx gs 0:=by
   rw[List.drop_eq_nil_of_le (by omega)] at Bq;rw[←Bq];simp[tx]
  have hH:Has s0.bs.length S st (.box k17 (.mem 0 false (aU gs pd ⟨0,0,0,0,0⟩))::.aR pd 1 (aS.map au)::[]):=hH;refine qq<|qj fun K hK=>qm ?_;obtain⟨_,st,aM,s1,⟨p1,p2,p3,p4,l,rfl,p5,p6,p7⟩,hH⟩:=E0 gs 20 (s:=⟨0,0,0,0,0⟩) cH rfl (by simp) (by simp) rfl hH;refine qv aM ?_;refine qm ?_;refine qe hK ?_;have p6:l.length≤4*(s1.i-0)+1:=p6;have p7:eH (jh gs 20 0 0) aS s1∨s1.e=0∧jh gs 20 0 0=.ok (l,s1.g) s1.i:=p7;generalize jh gs 20 0 0=R at*;unfold tz at hX;rw[←Bq] at hX;refine qq<|qq<|af.pK (fun fr st=>∃(s2:dW) (tmp:List (Nat×D)),fr=⟨24,[bm fr 0,bm fr 1,bm fr 2,bm fr 3,bm fr 4,.ptr k17 0 0,bm fr 6,bm fr 7,bm fr 8,ry l,bm fr 10,bm fr 11,bm fr 12,bm fr 13,bm fr 14,bm fr 15,bm fr 16,bm fr 17,bm fr 18,bm fr 19,bm fr 20,bm fr 21,bm fr 22,bm fr 23],tmp⟩∧Has s0.bs.length S st (.box k17 (.mem 0 false (aU gs pd s2))::.aR pd 1 (aS.map au)::[])∧(s2.e≠0∧X=([],s2.e,s2.w)∨s2.e=0∧X=(l,0,0))) ?_ ?_
  ·by_cases he1:s1.e=0
   ·have bC:(s1.e==0)=true:=by simpa using he1
    have hR:R=.ok (l,s1.g) s1.i:=by
     rcases p7 with p7|p7
     ·exact absurd he1 p7.ne
     ·exact p7.2
    rw[hR] at hX;simp only at hX;refine qj fun K hK=>qm ?_;refine qg ?_;refine qp (o:=5) ?_;refine ql hH aC ?_;refine qg ?_;refine qm ?_;refine qm ?_ (hg:=wi bC);refine qg ?_ (hg:=wi bC);refine qp (o:=2) ?_ (hg:=wi bC);refine ql hH aC ?_ (hg:=wi bC);refine qm ?_ (hg:=wi bC);refine qg ?_ (hg:=wi bC);refine qp (o:=0) ?_ (hg:=wi bC);refine ql hH aC ?_ (hg:=wi bC);refine qn ?_ (hg:=wi bC);simp only[List.length_map];refine qg ?_ (hg:=wi bC);refine qt bC ?_;refine qe hK ?_;refine af.cond (by rfl) (fun x9=>?_) (fun x9=>?_)<;>try simp only[decide_eq_true_eq,decide_eq_false_iff_not] at x9
    ·refine qj fun K hK=>qm ?_;refine qm ?_;refine qg ?_;refine qp (o:=2) ?_;refine ql hH aC ?_;obtain⟨_,st,aM,rfl,hH⟩:=ef (s:=s1) s1.i 4 (by omega) hH;refine qv aM ?_;refine qe hK ?_;rw[if_pos (by omega)] at hX;have hw:(iZ aS s1 s1.i 4).e=4∧(iZ aS s1 s1.i 4).w=aS.getD s1.i 0:=by unfold iZ;rw[if_pos he1];exact⟨rfl,rfl⟩
     exact⟨_,_,rfl,hH,.inl ⟨by rw[hw.1];decide,by rw[hw.1,hw.2];exact hX.symm⟩⟩
    ·rw[if_neg (by omega)] at hX;refine af.skip ?_;exact⟨s1,_,rfl,hH,.inr ⟨he1,hX.symm⟩⟩
   ·have bC:(s1.e==0)=false:=by simpa using he1
    refine qj fun K hK=>qm ?_;refine qg ?_;refine qp (o:=5) ?_;refine ql hH aC ?_;refine qg ?_;refine qm ?_;refine qs ?_ (hg:=wn bC);refine qs ?_ (hg:=wn bC);refine qs ?_ (hg:=wn bC);refine qs ?_ (hg:=wn bC);refine qs ?_ (hg:=wn bC);refine qs ?_ (hg:=wn bC);refine qs ?_ (hg:=wn bC);refine qs ?_ (hg:=wn bC);refine qs ?_ (hg:=wn bC);refine qs ?_ (hg:=wn bC);refine qu bC ?_;refine qe hK ?_
    have hE:X=([],s1.e,s1.w):=by
     obtain⟨e,w,h0,h1,h2,h3⟩:=p7.resolve_right fun h=>he1 h.1;rw[h0] at hX;rw[←hX,h2,h3]
    refine qC ?_;refine af.skip ?_;exact⟨s1,_,rfl,hH,.inl ⟨he1,hE⟩⟩
  ·rintro fr st ⟨s2,tmp,hfr,hH,ht⟩;rw[hfr];clear hfr;generalize bm fr=ee;clear fr;refine qq<|qq<|qj fun K hK=>qm ?_;refine qg ?_;refine qp (o:=5) ?_;refine ql hH aC ?_;refine qg ?_;refine qe hK ?_;refine af.cond (by rfl) (fun hne=>?_) (fun hne=>?_)<;>try simp only[bne_iff_ne,bne_eq_false_iff_eq,ne_eq] at hne
   ·refine qq<|qj fun K hK=>qm ?_;refine qg ?_;refine qp (o:=5) ?_;refine ql hH aC ?_;refine qm ?_;refine qg ?_;refine qp (o:=6) ?_;refine ql hH aC ?_;refine qm ?_;refine qm ?_;refine qm ?_;refine qe hK<|af.ret ⟨rx,_,_,rfl,rl cE hH (rfl),?_⟩
    rcases ht with⟨h1,h2⟩|⟨h1,h2⟩
    ·rw[h2];exact⟨rfl,fun n hn=>(by cases hn),by simp⟩
    ·exact absurd h1 hne
   ·refine af.skip<|qq<|qj fun K hK=>qm ?_;refine qm ?_;refine qm ?_;refine qm ?_;refine qe hK<|af.ret ⟨rx,_,_,rfl,rl cE hH (rfl),?_⟩
    rcases ht with⟨h1,h2⟩|⟨h1,h2⟩
    ·exact absurd h1 (by omega)
    ·rw[h2];exact⟨rfl,p5,by show l.length≤500;omega⟩
end Go.Proofs.Ytnleclohocdkaaa
