/-
 The parser of patterns: groups, one thing, how often, one behind the other, one or the other.
-/
import Derived.Test.YtnleclohocdkaaaGreatVGHr
import Derived.Test.YtnleclohocdkaaaGreatVGJi
import Derived.Test.YtnleclohocdkaaaGreatVGUa
set_option maxRecDepth 100000
set_option maxHeartbeats 4000000
set_option linter.unusedSimpArgs false
set_option linter.unusedVariables false
namespace Go.Proofs.YtnleclohocdkaaaGreat
open Go.V Go
def fJ (fr:Go.V.Fr) (k:Nat):Go.V.D:=Go.V.nth .junk fr.loc k
theorem mw {N:Nat} {S st:St} {H:List aP} {a b c:aP} (h:Has N S st (a::b::c::H)):Has N S st (b::c::a::H):=by
 have h1:=h.front at1;have h2:=h1.front at2;exact h2.front at1
def kN (m:Nat):Prop:=∀{N k:Nat} {S s0:St} {H:List aP} {gs:List (Nat×Nat)} {bk:D} {bB:List Int} {s:eC},kf gs bB→s.e=0→s.i≤gs.length→s.g≤4→s.o+m=20→Has N S s0 (.box k (.mem 0 false (aJ gs bk s))::.lst bk 1 (bB.map ae)::H)→
 ∃d ab,Ev pv 94 [.ptr k 0 0] s0 d ab∧∃(s':eC),uP gs s s' d∧Has N S ab (.box k (.mem 0 false (aJ gs bk s'))::.lst bk 1 (bB.map ae)::H)
theorem Ds {m:Nat} (hA:∀m',m'+1=m→kN m') {N k:Nat} {S s0:St} {H:List aP} {gs:List (Nat×Nat)} {bk:D} {bB:List Int} {s:eC} (hok:kf gs bB) (he:s.e=0) (hi:s.i<gs.length) (hg:s.g≤4) (ho:s.o+m=20) (hH:Has N S s0 (.box k (.mem 0 false (aJ gs bk s))::.lst bk 1 (bB.map ae)::H)):
  ∃d ab,Ev pv 155 [.ptr k 0 0] s0 d ab∧∃(s':eC),ir gs s s' d 2∧Has N S ab (.box k (.mem 0 false (aJ gs bk s'))::.lst bk 1 (bB.map ae)::H):=by
 have uy:=hok.gl;have hpl:=hok.pl;refine Ev.iI rfl K4 rfl rfl rfl ?_;refine zE ?_;have bY:=hH;have hH:=hH.cg;have bZ:(enterSt .rw s0).bs=s0.bs:=rfl;generalize enterSt .rw s0=S2 at*
 have hwr:∀(st:St) (s3:eC) (e:Int) (H2:List aP),e≠0→s3.e=0→s3.o=s.o→s3.g≤4→s.i≤s3.i→s3.i≤gs.length→Has N S2 st (.box k (.mem 0 false (aJ gs bk s3))::.lst bk 1 (bB.map ae)::H2)→∃d ab,Ev pv 95 [.ptr k 0 0,.int .i64 (s.i:Nat),.int .i64 e] st d ab∧d=.sl []∧∃s4,ir gs s s4 (.sl []) 2∧Has N S2 ab (.box k (.mem 0 false (aJ gs bk s4))::.lst bk 1 (bB.map ae)::H2):=by
  intro st s3 e H2 h0 h1 h2 h3 h4 h5 hH;obtain⟨d,ab,hev,h6,hH⟩:=cF (s:=s3) s.i e (by omega) hH;obtain⟨w1,w2,w3,w4⟩:=cT (bB:=bB) (s:=s3) (i:=s.i) (e:=e) h1 h0;exact⟨d,ab,hev,h6,_,fG (w3.trans h2) (by omega) (by omega) (by omega) w1,hH⟩
 refine zQ 21 ?_;refine qT hH at0 fun st hH=>?_;dsimp only[u2,u1,u3,u4,setMany,u5,u6,D.cells,Nat.reduceAdd,aJ,aN,ae,ah,aS] at hH;refine zQ 1 ?_;have hH:Has N S2 st (.box k (.mem 0 false (aJ gs bk {s with i:=s.i+1}))::.lst bk 1 (bB.map ae)::H):=hH
 obtain⟨s1,iP⟩:∃s1:eC,({s with i:=s.i+1}:eC)=s1:=⟨_,rfl⟩
 have M7:s1.e=0∧s1.o=s.o∧s1.g=s.g∧s1.i=s.i+1:=by rw[←iP];exact⟨he,rfl,rfl,rfl⟩
 rw[iP] at hH;clear iP;obtain⟨f1,f2,f3,f4⟩:=M7;refine zQ 6 ?_;refine EvC.jh (fun fr st=>∃(free:Bool) (s2:eC) (tmp:List (Nat×D)),fr=⟨7,[.ptr k 0 0,fJ fr 1,fJ fr 2,.int .i64 (s.i:Nat),.bool free,fJ fr 5,fJ fr 6],tmp⟩∧Has N S2 st (.box k (.mem 0 false (aJ gs bk s2))::.lst bk 1 (bB.map ae)::H)∧(s2.e=0)∧(s2.o=s.o)∧(s2.g=s.g)∧(s.i+1≤s2.i)∧(s2.i≤gs.length)) ?_ ?_
 ·obtain⟨k1,k2,k3,k4,k5⟩:=fZ (gs:=gs) (s:=s1) (r:=63);have k5:=k5 (by omega);refine zQ 2 ?_;obtain⟨_,st,hev,rfl,hH⟩:=dw (s:=s1) (by omega) 63 hH;refine qv hev ?_;refine zQ 1 ?_;generalize cA gs s1 63=s2 at*
  cases hb:iv gs s1.i 63 with
  |false=>
   refine zQ 2 ?_;exact⟨false,s2,_,rfl,hH,by omega,by omega,by omega,by omega,by omega⟩
  |true=>
   refine zQ 5 ?_;obtain⟨r1,r2,r3,r4,r5⟩:=fZ (gs:=gs) (s:=s2) (r:=58);have r5:=r5 k5;refine zQ 3 ?_;obtain⟨_,st,hev,rfl,hH⟩:=dw (s:=s2) (by omega) 58 hH;refine qv hev ?_;refine zQ 2 ?_;generalize cA gs s2 58=s3 at*
   cases hb2:iv gs s2.i 58 with
   |false=>
    refine zQ 5 ?_;obtain⟨_,st,hev,rfl,s4,hN,hH⟩:=hwr _ s3 4 _ (by decide) (by omega) (by omega) (by omega) (by omega) (by omega) hH;refine qv hev ?_;refine zQ 2 ?_;refine EvC.ret ⟨rx,_,_,_,rfl,ag (rfl),?_⟩;exact⟨s4,hN,bY.au bZ hH⟩
   |true=>
    refine zQ 2 ?_;exact⟨true,s3,_,rfl,hH,by omega,by omega,by omega,by omega,by omega⟩
 ·rintro fr st ⟨free,s2,tmp,hfr,hH,h1,h2,h3,h4,h5⟩;rw[hfr];clear hfr;generalize fJ fr=ee;clear fr;refine zQ 9 ?_
  by_cases QF:20≤s2.o
  ·have hcc:decide (((s2.o:Nat):Int)≥20)=true:=by rw[decide_eq_true_eq];omega
   refine qD rfl (by rw[hcc]) ?_;refine zQ 4 ?_;obtain⟨_,st,hev,rfl,s4,hN,hH⟩:=hwr _ s2 10 _ (by decide) h1 h2 (by omega) (by omega) h5 hH;refine qv hev ?_;refine zQ 2 ?_;refine EvC.ret ⟨rx,_,_,_,rfl,ag (rfl),?_⟩;exact⟨s4,hN,bY.au bZ hH⟩
  have hcc:decide (((s2.o:Nat):Int)≥20)=false:=by rw[decide_eq_false_iff_not];omega
  refine qE rfl (by rw[hcc]) ?_;refine zQ 3 ?_;refine EvO.go (d:=.agg [.int .i64 6,.nul,.int .i64 0,.int .i64 0,.bool false,.int .i64 0,.int .i64 1]) (st1:=_) rfl rfl rfl (put_T rfl _) ?_;refine qa hH fun k5 st zO hH=>?_;dsimp only[u2,u1,u3,u4,setMany,u5,u6,D.cells,Nat.reduceAdd,aJ,aN,ae,ah,aS] at hH;refine qS hH at0 fun st hH=>?_;dsimp only[u2,u1,u3,u4,setMany,u5,u6,D.cells,Nat.reduceAdd,aJ,aN,ae,ah,aS] at hH;refine zQ 1 ?_;have hH:Has N S2 st (.box k (.mem 0 false (aJ gs bk s2))::.lst bk 1 (bB.map ae)::.box k5 (.mem 0 false [.int .i64 6,.nul,.int .i64 0,.int .i64 0,.bool false,.int .i64 0,.int .i64 1])::H):=mw hH;refine zQ 2 ?_;refine EvC.jh (fun fr st=>∃(cap:Int) (s3:eC) (tmp:List (Nat×D)),fr=⟨7,[.ptr k 0 0,fJ fr 1,fJ fr 2,.int .i64 (s.i:Nat),.bool free,.ptr k5 0 0,fJ fr 6],tmp⟩∧Has N S2 st (.box k (.mem 0 false (aJ gs bk s3))::.lst bk 1 (bB.map ae)::.box k5 (.mem 0 false [.int .i64 6,.nul,.int .i64 0,.int .i64 0,.bool false,.int .i64 cap,.int .i64 1])::H)∧(s3.e=0)∧(s3.o=s.o)∧(s3.g≤4)∧(s3.i=s2.i)) ?_ ?_
  ·refine zQ 4 ?_
   cases free with
   |true=>
    refine zQ 2 ?_;exact⟨0,s2,_,rfl,hH,h1,h2,by omega,rfl⟩
   |false=>
    refine zQ 10 ?_
    by_cases Qs:4≤s2.g
    ·have hcc:decide (((s2.g:Nat):Int)≥4)=true:=by rw[decide_eq_true_eq];omega
     refine qD rfl (by rw[hcc]) ?_;refine zQ 4 ?_;obtain⟨_,st,hev,rfl,s4,hN,hH⟩:=hwr _ s2 13 _ (by decide) h1 h2 (by omega) (by omega) h5 hH;refine qv hev ?_;refine zQ 2 ?_;refine EvC.ret ⟨rx,_,_,_,rfl,ag (rfl),?_⟩;exact⟨s4,hN,bY.au bZ (hH.erase 2)⟩
    ·have hcc:decide (((s2.g:Nat):Int)≥4)=false:=by rw[decide_eq_false_iff_not];omega
     refine qE rfl (by rw[hcc]) ?_;refine zQ 10 ?_;refine qT hH at0 fun st hH=>?_;dsimp only[u2,u1,u3,u4,setMany,u5,u6,D.cells,Nat.reduceAdd,aJ,aN,ae,ah,aS] at hH;refine zQ 7 ?_;refine qT hH at2 fun st hH=>?_;dsimp only[u2,u1,u3,u4,setMany,u5,u6,D.cells,Nat.reduceAdd,aJ,aN,ae,ah,aS] at hH;refine zQ 1 ?_;exact⟨((s2.g+1:Nat):Int),{s2 with g:=s2.g+1},_,rfl,hH,h1,h2,by show s2.g+1≤4;omega,rfl⟩
  ·rintro fr st ⟨cap,s3,tmp,hfr,hH,e1,e2,e3,e4⟩;rw[hfr];clear hfr;generalize fJ fr=ee;clear fr;refine zQ 9 ?_;refine qT hH at0 fun st hH=>?_;dsimp only[u2,u1,u3,u4,setMany,u5,u6,D.cells,Nat.reduceAdd,aJ,aN,ae,ah,aS] at hH;refine zQ 1 ?_;have hH:Has N S2 st (.box k (.mem 0 false (aJ gs bk {s3 with o:=s3.o+1}))::.lst bk 1 (bB.map ae)::.box k5 (.mem 0 false [.int .i64 6,.nul,.int .i64 0,.int .i64 0,.bool false,.int .i64 cap,.int .i64 1])::H):=hH;refine zQ 3 ?_;obtain⟨_,st,hev,s4,⟨a1,a2,a3,a4,l,rfl,a5,a6⟩,hH⟩:=hA (m-1) (by omega) (s:={s3 with o:=s3.o+1}) hok e1 (by show s3.i≤_;omega) e3 (by show s3.o+1+(m-1)=20;omega) hH;refine qv hev ?_;refine zQ 2 ?_;have a1:s4.o=s3.o+1:=a1;have a3:s3.i≤s4.i:=a3;have a6:l.length≤4*(s4.i-s3.i)+1:=a6;have hla:=(sA a5).arg N S2;refine zQ 6 ?_;refine EvO.gR (z:=((s.o:Nat):Int)) rfl (ev rfl) (ev rfl) (by(try simp only[List.length_reverse,List.length_cons,List.length_nil,List.length_append,List.length_map,List.length_set]);rw[wrap_i64 (by omega) (by omega)]<;>omega) (put_T rfl _) ?_;refine zQ 2 ?_;refine qT hH at0 fun st hH=>?_;dsimp only[u2,u1,u3,u4,setMany,u5,u6,D.cells,Nat.reduceAdd,aJ,aN,ae,ah,aS] at hH;refine zQ 1 ?_
   obtain⟨s5,M6⟩:∃s5:eC,({s4 with o:=s.o}:eC)=s5:=⟨_,rfl⟩
   have hH:Has N S2 st (.box k (.mem 0 false (aJ gs bk s5))::.lst bk 1 (bB.map ae)::.box k5 (.mem 0 false [.int .i64 6,.nul,.int .i64 0,.int .i64 0,.bool false,.int .i64 cap,.int .i64 1])::H):=by rw[←M6];exact hH
   have M5:s5.o=s.o∧s5.g=s4.g∧s5.i=s4.i:=by rw[←M6];exact⟨rfl,rfl,rfl⟩
   clear M6;obtain⟨b1,b2,b3⟩:=M5;refine zQ 2 ?_;refine EvC.jh (fun fr st=>∃(s6:eC) (tmp:List (Nat×D)),fr=⟨7,[.ptr k 0 0,fJ fr 1,fJ fr 2,fJ fr 3,.bool free,.ptr k5 0 0,uQ l],tmp⟩∧Has N S2 st (.box k (.mem 0 false (aJ gs bk s6))::.lst bk 1 (bB.map ae)::.box k5 (.mem 0 false [.int .i64 6,.nul,.int .i64 0,.int .i64 0,.bool false,.int .i64 cap,.int .i64 1])::H)∧(s6.o=s.o)∧(s6.g≤4)∧(s4.i≤s6.i)∧(s6.i≤gs.length)∧(s6.e≠0∨s6.e=0∧s4.i<s6.i)) ?_ ?_
   ·by_cases Oa:s5.e=0
    ·have cI:(s5.e==0)=true:=by simpa using Oa
     obtain⟨k1,k2,k3,k4,P8⟩:=fZ (gs:=gs) (s:=s5) (r:=41);have P8:=P8 (by omega);have hsk:iv gs s5.i 41=true→(cA gs s5 41).i=s5.i+1:=fun h=>by unfold cA;rw[if_pos h]
     refine zQ 8 ?_;obtain⟨_,st,hev,rfl,hH⟩:=dw (s:=s5) (by omega) 41 hH;refine qv hev ?_ (hg:=wi cI);refine zQ 3 ?_;generalize cA gs s5 41=s6 at*
     cases hb:iv gs s5.i 41 with
     |false=>
      refine zQ 5 ?_;obtain⟨_,st,hev,rfl,s7,hN,hH⟩:=hwr _ s6 4 _ (by decide) (by omega) (by omega) (by omega) (by omega) (by omega) hH;refine qv hev ?_;refine zQ 2 ?_;refine EvC.ret ⟨rx,_,_,_,rfl,ag (rfl),?_⟩;exact⟨s7,hN,bY.au bZ (hH.erase 2)⟩
     |true=>
      have hsk:=hsk hb;refine zQ 2 ?_;exact⟨s6,_,rfl,hH,by omega,by omega,by omega,by omega,.inr ⟨by omega,by omega⟩⟩
    ·have cI:(s5.e==0)=false:=by simpa using Oa
     refine zQ 14 ?_;exact⟨s5,_,rfl,hH,b1,by omega,by omega,by omega,.inl Oa⟩
   ·rintro fr st ⟨s6,tmp,hfr,hH,c1,c2,c3,c4,c5⟩;rw[hfr];clear hfr;generalize fJ fr=ee;clear fr;refine zQ 5 ?_
    cases free with
    |true=>
     refine zQ 6 ?_;refine EvC.ret ⟨rx,_,_,_,rfl,ag (rfl),?_⟩;refine⟨s6,⟨c1,c2,by omega,c4,l,rfl,a5,by omega,?_⟩,bY.au bZ (hH.erase 2)⟩
     rcases c5 with c5|⟨c5,c6⟩
     ·exact .inl c5
     ·exact .inr ⟨c5,by omega⟩
    |false=>
     refine zQ 4 ?_;refine EvO.hloadS (m:=7) hH rfl (ev rfl) (by exact at2) (by dsimp only[List.drop_succ_cons,List.drop_zero,List.take_succ_cons,List.take_zero,aJ,aN,ae,ah,aS]<;>rfl) rfl rfl (put_T rfl _) ?_;refine qh (s:=7) (vs:=[_]) hH fun k89 st S6 hH=>?_;dsimp only[u2,u1,u3,u4,setMany,u5,u6,D.cells,Nat.reduceAdd,aJ,aN,ae,ah,aS] at hH;refine qm ?_;refine EvO.qF (s:=7) hH rfl (ev rfl) (ev rfl) at0 ((sA a5).rows st) rfl rfl rfl rfl rfl rfl rfl ⟨(Nat.le_of_ble_eq_true rfl),(Nat.le_of_ble_eq_true rfl)⟩ (fun _=>(put_T rfl _)) (by simp only[List.length_map,List.length_cons,List.length_nil];omega) (.inr (sy a5)) (fun k hk=>by have jr:k89+1=k+1:=hk;omega) (fun Q4 st Gm hH=>?_);dsimp only[u2] at hH;refine zQ 2 ?_;have hH:Has N S2 st (.lst Q4 7 ([.int .i64 6,.nul,.int .i64 0,.int .i64 0,.bool false,.int .i64 cap,.int .i64 1]::l.map aS)::.box k (.mem 0 false (aJ gs bk s6))::.lst bk 1 (bB.map ae)::.box k5 (.mem 0 false [.int .i64 6,.nul,.int .i64 0,.int .i64 0,.bool false,.int .i64 cap,.int .i64 1])::H):=hH
     have hfz:=hO (L:=s0.bs.length) (l:=tU 6 0 0 false cap 1 []::l) hH at0 (by rw[List.map_cons,tS a5];rfl) (fun e he d hd=>by
      rcases List.mem_cons.1 he with rfl|he
      ·simp only[List.mem_cons,List.not_mem_nil,or_false] at hd
       rcases hd with rfl|rfl|rfl|rfl|rfl|rfl|rfl<;>rfl
      ·exact px a5 e he d hd) (fun k hk=>by rw[←bZ];exact Gm k hk) (n:=16) (by decide)
     refine EvC.ret ⟨rx,_,_,_,rfl,ag hfz,⟨s6,⟨c1,c2,by omega,c4,_,rfl,?_,by simp only[List.length_cons];omega,?_⟩,bY.au bZ ((hH.drop 1).erase 2)⟩⟩
     ·intro n hn
      rcases List.mem_cons.1 hn with rfl|hn
      ·exact⟨rfl,by simp[tU],by simp[tU]⟩
      ·exact a5 n hn
     ·rcases c5 with c5|⟨c5,c6⟩
      ·exact .inl c5
      ·exact .inr ⟨c5,by simp only[List.length_cons];omega⟩
def yc (fr:Go.V.Fr) (k:Nat):Go.V.D:=Go.V.nth .junk fr.loc k
theorem oD {gs:List (Nat×Nat)} {s:eC} {r:Int} (h:iv gs s.i r=false):cA gs s r=s:=by
 unfold cA;rw[if_neg (by rw[h];simp)]
theorem lR {gs:List (Nat×Nat)} {s:eC} {r:Int} (h:iv gs s.i r=true):(cA gs s r).i=s.i+1:=by
 unfold cA;rw[if_pos h]
theorem FZ {m:Nat} (hA:∀m',m'+1=m→kN m') {N k:Nat} {S s0:St} {H:List aP} {gs:List (Nat×Nat)} {bk:D} {bB:List Int} {s:eC} (hok:kf gs bB) (he:s.e=0) (hi:s.i<gs.length) (hg:s.g≤4) (ho:s.o+m=20) (hH:Has N S s0 (.box k (.mem 0 false (aJ gs bk s))::.lst bk 1 (bB.map ae)::H)):
  ∃d ab,Ev pv 143 [.ptr k 0 0] s0 d ab∧∃(s':eC),ir gs s s' d 2∧Has N S ab (.box k (.mem 0 false (aJ gs bk s'))::.lst bk 1 (bB.map ae)::H):=by
 have uy:=hok.gl;have hpl:=hok.pl;refine Ev.iI rfl K_ rfl rfl rfl ?_;refine zE ?_;have bY:=hH;have hH:=hH.cg;have bZ:(enterSt .rw s0).bs=s0.bs:=rfl;generalize enterSt .rw s0=S2 at*;have Gs:Arg N S2 2 (fR gs) (gs.map aN):=Arg.pure (fun st=>dP st gs)
 obtain⟨g,TC⟩:∃g,gs[s.i]?=some g:=⟨gs[s.i]'hi,List.getElem?_eq_getElem _⟩
 have hr1:(gs.map aN)[s.i]?=some (aN g):=by rw[List.getElem?_map,TC];rfl
 have hwr:∀(st:St),Has N S2 st (.box k (.mem 0 false (aJ gs bk s))::.lst bk 1 (bB.map ae)::H)→∃d ab,Ev pv 95 [.ptr k 0 0,.int .i64 (s.i:Nat),.int .i64 4] st d ab∧d=.sl []∧∃s4,ir gs s s4 (.sl []) 2∧Has N S2 ab (.box k (.mem 0 false (aJ gs bk s4))::.lst bk 1 (bB.map ae)::H):=by
  intro st hH;obtain⟨d,ab,hev,h6,hH⟩:=cF (s:=s) s.i 4 (by omega) hH;obtain⟨w1,w2,w3,w4⟩:=cT (bB:=bB) (s:=s) (i:=s.i) (e:=4) he (by decide);exact⟨d,ab,hev,h6,_,fG w3 (by omega) (by omega) (by omega) w1,hH⟩
 have jo:∀(st:St) (s1:eC) (op:Int) (w:D) (a:List Rg) (kk:Nat),(w=aY a∨w=.nul∧a=[])→a.length≤1048576→s1.o=s.o→s1.g≤4→s.i<s1.i→s1.i≤gs.length→S2.bs.length≤kk→Has N S2 st (.lst (.win kk 0 0 1 7) 7 [[.int .i64 op,w,.int .i64 0,.int .i64 0,.bool false,.int .i64 0,.int .i64 0]]::.box k (.mem 0 false (aJ gs bk s1))::.lst bk 1 (bB.map ae)::H)→
   ∃d ab,cx .rw false s0 st (.win kk 0 0 1 7)=some (d,ab)∧∃(s':eC),ir gs s s' d 2∧Has N S ab (.box k (.mem 0 false (aJ gs bk s'))::.lst bk 1 (bB.map ae)::H):=by
  intro st s1 op w a kk hw ha h1 h2 h3 h4 hk hH;have hfz:=hU hH at0 (L:=s0.bs.length) hw (fun k hk=>by simp only[D.ref] at hk;rw[←bZ];omega);refine⟨_,_,ag hfz,s1,⟨h1,h2,by omega,h4,_,rfl,CG ha (by omega),by simp,?_⟩,bY.au bZ (hH.drop 1)⟩
  by_cases he:s1.e=0
  ·exact .inr ⟨he,by simp only[List.length_cons,List.length_nil];omega⟩
  ·exact .inl he
 refine zQ 17 ?_;obtain⟨_,st,hev,rfl,hH⟩:=yQ (s:=s) s.i hi hH;refine qv hev ?_;refine zQ 1 ?_;refine qc (fun hb=>?_) (fun hb=>?_)<;>try simp only[cs] at hb
 ·refine zQ 4 ?_;obtain⟨_,st,hev,rfl,s4,hN,hH⟩:=hwr _ hH;refine qv hev ?_;refine zQ 2 ?_;refine EvC.ret ⟨rx,_,_,_,rfl,ag (rfl),?_⟩;exact⟨s4,hN,bY.au bZ hH⟩
 refine zQ 8 ?_;refine qr fun Jc C5=>?_;refine qf (fo:=0) fun LN Ft=>?_;refine zQ 13 ?_;refine zI (fun Ru=>?_) fun Ru=>?_
 ·refine zQ 3 ?_;obtain⟨_,st,hev,s4,⟨p1,p2,p3,p4,l,rfl,p5,p6,p7⟩,hH⟩:=Ds hA hok he hi hg ho hH;refine qv hev ?_;refine zQ 2 ?_;refine EvC.ret ⟨rx,_,_,_,rfl,ag (rfl),?_⟩;exact⟨s4,⟨p1,p2,p3,p4,l,rfl,p5,p6,p7⟩,bY.au bZ hH⟩
 refine zQ 5 ?_;refine zI (fun I_=>?_) fun I_=>?_
 ·refine zQ 3 ?_;obtain⟨_,st,hev,s4,⟨p1,p2,p3,p4,l,rfl,p5,p6,p7⟩,hH⟩:=DJ hok he hi hg hH;refine qv hev ?_;refine zQ 2 ?_;refine EvC.ret ⟨rx,_,_,_,rfl,ag (rfl),?_⟩;exact⟨s4,⟨p1,p2,p3,p4,l,rfl,p5,p6,p7⟩,bY.au bZ hH⟩
 refine zQ 5 ?_;refine zI (fun Rr=>?_) fun Rr=>?_
 ·refine zQ 3 ?_;obtain⟨_,st,hev,d1,b,s4,rfl,⟨p1,p2,p3,p4,p5,p6⟩,hH⟩:=zb (s:=s) hok he hi hH;refine qv hev ?_;refine zQ 6 ?_
  have FE:∀(st:St) (w:D) (a:List Rg) (kk:Nat),(w=aY a∨w=.nul∧a=[])→a.length≤8→S2.bs.length≤kk→Has N S2 st (.lst (.win kk 0 0 1 7) 7 [[.int .i64 2,w,.int .i64 0,.int .i64 0,.bool false,.int .i64 0,.int .i64 0]]::.box k (.mem 0 false (aJ gs bk s4))::.lst bk 1 (bB.map ae)::H)→∃d ab,cx .rw false s0 st (.win kk 0 0 1 7)=some (d,ab)∧∃(s':eC),ir gs s s' d 2∧Has N S ab (.box k (.mem 0 false (aJ gs bk s'))::.lst bk 1 (bB.map ae)::H):=by
   intro st w a kk hw ha hk hH;have hfz:=hU hH at0 (L:=s0.bs.length) hw (fun k hk=>by simp only[D.ref] at hk;rw[←bZ];omega);refine⟨_,_,ag hfz,s4,⟨p1,by omega,by omega,p4,_,rfl,CG (by omega) (by omega),by simp,?_⟩,bY.au bZ (hH.drop 1)⟩
   rcases p6 with p6|⟨p6,p7,_⟩
   ·exact .inl p6
   ·exact .inr ⟨p6,by simp only[List.length_cons,List.length_nil];omega⟩
  rcases p5 with rfl|⟨a,rfl,ha⟩
  ·refine zQ 3 ?_;refine EvO.eX (qs:=[(0,_),(1,_)]) rfl rfl rfl rfl ⟨rfl,(ev rfl),(by rfl),rfl,(ev rfl),(by rfl),trivial⟩ (by intro q hq;simp only[List.mem_cons,List.not_mem_nil,or_false] at hq;rcases hq with rfl|rfl<;>exact⟨rfl,by exact Nat.le_of_ble_eq_true rfl⟩) (by show List.foldl _ [_,_,_,_,_,_,_] _=_;dsimp only[List.foldl_cons,List.foldl_nil,u2,u1]<;>rfl) (put_T rfl _) ?_;refine qh (s:=7) (vs:=[_]) hH fun k54 st HK hH=>?_;dsimp only[u2,u1,u3,u4,setMany,u5,u6,D.cells,Nat.reduceAdd,aJ,aN,ae,ah,aS] at hH;refine zQ 2 ?_;obtain⟨d',ab,wD,gj⟩:=FE _ .nul [] k54 (.inr ⟨rfl,rfl⟩) (by simp) HK hH;refine EvC.ret ⟨rx,_,d',ab,rfl,wD,gj⟩
  ·refine zQ 3 ?_;refine EvO.eX (qs:=[(0,_),(1,_)]) rfl rfl rfl rfl ⟨rfl,(ev rfl),(by rfl),rfl,(ev rfl),(by rfl),trivial⟩ (by intro q hq;simp only[List.mem_cons,List.not_mem_nil,or_false] at hq;rcases hq with rfl|rfl<;>exact⟨rfl,by exact Nat.le_of_ble_eq_true rfl⟩) (by show List.foldl _ [_,_,_,_,_,_,_] _=_;dsimp only[List.foldl_cons,List.foldl_nil,u2,u1]<;>rfl) (put_T rfl _) ?_;refine qh (s:=7) (vs:=[_]) hH fun k54 st HK hH=>?_;dsimp only[u2,u1,u3,u4,setMany,u5,u6,D.cells,Nat.reduceAdd,aJ,aN,ae,ah,aS] at hH;refine zQ 2 ?_;obtain⟨d',ab,wD,gj⟩:=FE _ (aY a) a k54 (.inl rfl) ha HK hH;refine EvC.ret ⟨rx,_,d',ab,rfl,wD,gj⟩
 refine zQ 5 ?_;refine zI (fun Rt=>?_) fun Rt=>?_
 ·refine zQ 9 ?_;refine qT hH at0 fun st hH=>?_;dsimp only[u2,u1,u3,u4,setMany,u5,u6,D.cells,Nat.reduceAdd,aJ,aN,ae,ah,aS] at hH;refine zQ 1 ?_;obtain⟨_,Oc,a,rfl,hla⟩:=Ic (s0:=st);refine zQ 2 ?_;refine qv (Oc) ?_;refine EvO.eX (qs:=[(0,_),(1,_)]) rfl rfl rfl rfl ⟨rfl,(ev rfl),(by rfl),rfl,(ev rfl),(by rfl),trivial⟩ (by intro q hq;simp only[List.mem_cons,List.not_mem_nil,or_false] at hq;rcases hq with rfl|rfl<;>exact⟨rfl,by exact Nat.le_of_ble_eq_true rfl⟩) (by show List.foldl _ [_,_,_,_,_,_,_] _=_;dsimp only[List.foldl_cons,List.foldl_nil,u2,u1]<;>rfl) (put_T rfl _) ?_;refine qh (s:=7) (vs:=[_]) hH fun k66 st NL hH=>?_;refine zQ 2 ?_;obtain⟨d',ab,wD,gj⟩:=jo _ {s with i:=s.i+1} 2 (aY a) a k66 (.inl rfl) (by omega) rfl hg (by show s.i<s.i+1;omega) (by show s.i+1≤_;omega) NL hH;refine EvC.ret ⟨rx,_,d',ab,rfl,wD,gj⟩
 refine zQ 5 ?_;refine zI (fun Rq=>?_) fun Rq=>?_
 ·refine zQ 9 ?_;refine qT hH at0 fun st hH=>?_;dsimp only[u2,u1,u3,u4,setMany,u5,u6,D.cells,Nat.reduceAdd,aJ,aN,ae,ah,aS] at hH;refine zQ 3 ?_;refine EvO.go (d:=.agg [.int .i64 7,.nul,.int .i64 0,.int .i64 0,.bool false,.int .i64 0,.int .i64 0]) (st1:=_) rfl rfl rfl (put_T rfl _) ?_;refine qh (s:=7) (vs:=[_]) hH fun k77 st Ka hH=>?_;refine zQ 2 ?_;obtain⟨d',ab,wD,gj⟩:=jo _ {s with i:=s.i+1} 7 .nul [] k77 (.inr ⟨rfl,rfl⟩) (by simp) rfl hg (by show s.i<s.i+1;omega) (by show s.i+1≤_;omega) Ka hH;refine EvC.ret ⟨rx,_,d',ab,rfl,wD,gj⟩
 refine zQ 5 ?_;refine zI (fun Rv=>?_) fun Rv=>?_
 ·refine zQ 9 ?_;refine qT hH at0 fun st hH=>?_;dsimp only[u2,u1,u3,u4,setMany,u5,u6,D.cells,Nat.reduceAdd,aJ,aN,ae,ah,aS] at hH;refine zQ 3 ?_;refine EvO.go (d:=.agg [.int .i64 8,.nul,.int .i64 0,.int .i64 0,.bool false,.int .i64 0,.int .i64 0]) (st1:=_) rfl rfl rfl (put_T rfl _) ?_;refine qh (s:=7) (vs:=[_]) hH fun k88 st J' hH=>?_;refine zQ 2 ?_;obtain⟨d',ab,wD,gj⟩:=jo _ {s with i:=s.i+1} 8 .nul [] k88 (.inr ⟨rfl,rfl⟩) (by simp) rfl hg (by show s.i<s.i+1;omega) (by show s.i+1≤_;omega) J' hH;refine EvC.ret ⟨rx,_,d',ab,rfl,wD,gj⟩
 refine zQ 6 ?_
 by_cases Py:((g.1:Nat):Int)=42
 ·refine qD rfl (by simp[Py]) ?_;refine zQ 1 ?_;refine qD rfl (by simp[Py]) ?_;refine zQ 4 ?_;obtain⟨_,st,hev,rfl,s4,hN,hH⟩:=hwr _ hH;refine qv hev ?_;refine zQ 2 ?_;refine EvC.ret ⟨rx,_,_,_,rfl,ag (rfl),?_⟩;exact⟨s4,hN,bY.au bZ hH⟩
 refine qE rfl (by simp[Py]) ?_;refine zQ 5 ?_
 by_cases Px:((g.1:Nat):Int)=43
 ·refine qD rfl (by simp[Px]) ?_;refine zQ 1 ?_;refine qD rfl (by simp[Px]) ?_;refine zQ 4 ?_;obtain⟨_,st,hev,rfl,s4,hN,hH⟩:=hwr _ hH;refine qv hev ?_;refine zQ 2 ?_;refine EvC.ret ⟨rx,_,_,_,rfl,ag (rfl),?_⟩;exact⟨s4,hN,bY.au bZ hH⟩
 refine qE rfl (by simp[Px]) ?_;refine zQ 5 ?_
 by_cases Pw:((g.1:Nat):Int)=63
 ·refine qD rfl (by simp[Pw]) ?_;refine zQ 1 ?_;refine qD rfl (by simp[Pw]) ?_;refine zQ 4 ?_;obtain⟨_,st,hev,rfl,s4,hN,hH⟩:=hwr _ hH;refine qv hev ?_;refine zQ 2 ?_;refine EvC.ret ⟨rx,_,_,_,rfl,ag (rfl),?_⟩;exact⟨s4,hN,bY.au bZ hH⟩
 refine qE rfl (by simp[Pw]) ?_;refine zQ 5 ?_
 by_cases Pz:((g.1:Nat):Int)=41
 ·refine qD rfl (by simp[Pz]) ?_;refine zQ 1 ?_;refine qD rfl (by simp[Pz]) ?_;refine zQ 4 ?_;obtain⟨_,st,hev,rfl,s4,hN,hH⟩:=hwr _ hH;refine qv hev ?_;refine zQ 2 ?_;refine EvC.ret ⟨rx,_,_,_,rfl,ag (rfl),?_⟩;exact⟨s4,hN,bY.au bZ hH⟩
 refine qE rfl (by simp[Pz]) ?_;refine zQ 5 ?_
 by_cases Pu:((g.1:Nat):Int)=93
 ·refine qD rfl (by simp[Pu]) ?_;refine zQ 1 ?_;refine qD rfl (by simp[Pu]) ?_;refine zQ 4 ?_;obtain⟨_,st,hev,rfl,s4,hN,hH⟩:=hwr _ hH;refine qv hev ?_;refine zQ 2 ?_;refine EvC.ret ⟨rx,_,_,_,rfl,ag (rfl),?_⟩;exact⟨s4,hN,bY.au bZ hH⟩
 refine qE rfl (by simp[Pu]) ?_;refine zQ 5 ?_
 by_cases Ik:((g.1:Nat):Int)=123
 ·refine qD rfl (by simp[Ik]) ?_;refine zQ 1 ?_;refine qD rfl (by simp[Ik]) ?_;refine zQ 4 ?_;obtain⟨_,st,hev,rfl,s4,hN,hH⟩:=hwr _ hH;refine qv hev ?_;refine zQ 2 ?_;refine EvC.ret ⟨rx,_,_,_,rfl,ag (rfl),?_⟩;exact⟨s4,hN,bY.au bZ hH⟩
 refine qE rfl (by simp[Ik]) ?_;refine zQ 5 ?_
 by_cases Ij:((g.1:Nat):Int)=125
 ·refine qD rfl (by simp[Ij]) ?_;refine zQ 1 ?_;refine qD rfl (by simp[Ij]) ?_;refine zQ 4 ?_;obtain⟨_,st,hev,rfl,s4,hN,hH⟩:=hwr _ hH;refine qv hev ?_;refine zQ 2 ?_;refine EvC.ret ⟨rx,_,_,_,rfl,ag (rfl),?_⟩;exact⟨s4,hN,bY.au bZ hH⟩
 refine qE rfl (by simp[Ij]) ?_;refine zQ 4 ?_
 by_cases Lz:((g.1:Nat):Int)=124
 ·refine qD rfl (by simp[Lz]) ?_;refine zQ 4 ?_;obtain⟨_,st,hev,rfl,s4,hN,hH⟩:=hwr _ hH;refine qv hev ?_;refine zQ 2 ?_;refine EvC.ret ⟨rx,_,_,_,rfl,ag (rfl),?_⟩;exact⟨s4,hN,bY.au bZ hH⟩
 refine qE rfl (by simp[Lz]) ?_;refine zQ 9 ?_;refine qT hH at0 fun st hH=>?_;dsimp only[u2,u1,u3,u4,setMany,u5,u6,D.cells,Nat.reduceAdd,aJ,aN,ae,ah,aS] at hH;refine zQ 1 ?_;obtain⟨_,A',_⟩:=lV (s0:=s0) (x:=aY [(((g.1:Nat):Int),((g.1:Nat):Int))]) (l:=[(((g.1:Nat):Int),((g.1:Nat):Int))]) (dN _ _) (by simp);simp only[List.length_cons,List.length_nil] at A';refine zQ 3 ?_;refine qv (iB _) ?_;refine EvO.eX (qs:=[(0,_),(1,_)]) rfl rfl rfl rfl ⟨rfl,(ev rfl),(by rfl),rfl,(ev rfl),(by rfl),trivial⟩ (by intro q hq;simp only[List.mem_cons,List.not_mem_nil,or_false] at hq;rcases hq with rfl|rfl<;>exact⟨rfl,by exact Nat.le_of_ble_eq_true rfl⟩) (by show List.foldl _ [_,_,_,_,_,_,_] _=_;dsimp only[List.foldl_cons,List.foldl_nil,u2,u1]<;>rfl) (put_T rfl _) ?_;refine qh (s:=7) (vs:=[_]) hH fun k36 st Kc hH=>?_;refine zQ 2 ?_;obtain⟨d',ab,wD,gj⟩:=jo _ {s with i:=s.i+1} 2 _ _ k36 (.inl rfl) (by omega) rfl hg (by show s.i<s.i+1;omega) (by show s.i+1≤_;omega) Kc hH;refine EvC.ret ⟨rx,_,d',ab,rfl,wD,gj⟩
theorem B9 {m:Nat} (hA:∀m',m'+1=m→kN m') {N k:Nat} {S s0:St} {H:List aP} {gs:List (Nat×Nat)} {bk:D} {bB:List Int} {s:eC} (hok:kf gs bB) (he:s.e=0) (hi:s.i<gs.length) (hg:s.g≤4) (ho:s.o+m=20) (hH:Has N S s0 (.box k (.mem 0 false (aJ gs bk s))::.lst bk 1 (bB.map ae)::H)):
  ∃d ab,Ev pv 131 [.ptr k 0 0] s0 d ab∧∃(s':eC),ir gs s s' d 1∧Has N S ab (.box k (.mem 0 false (aJ gs bk s'))::.lst bk 1 (bB.map ae)::H):=by
 have uy:=hok.gl;have hpl:=hok.pl;refine Ev.iI rfl Lc rfl rfl rfl ?_;refine zE ?_;have bY:=hH;have hH:=hH.cg;have bZ:(enterSt .rw s0).bs=s0.bs:=rfl;generalize enterSt .rw s0=S2 at*;refine zQ 7 ?_;obtain⟨_,st,hev,s1,⟨p1,p2,p3,p4,l,rfl,p5,p6,p7⟩,hH⟩:=FZ hA hok he hi hg ho hH;refine qv hev ?_;refine zQ 11 ?_
 rcases p7 with p7|⟨p7,p8⟩
 ·refine qD rfl (by simp[p7]) ?_;refine zQ 4 ?_;refine EvC.ret ⟨rx,_,_,_,rfl,ag (rfl),?_⟩;exact⟨s1,fG p1 p2 p3 p4 p7,bY.au bZ hH⟩
 refine qE rfl (by simp[p7]) ?_;refine zQ 3 ?_;refine EvO.go (d:=.agg [.int .i64 5,.nul,.int .i64 0,.int .i64 0,.bool false,.int .i64 0,.int .i64 1]) (st1:=_) rfl rfl rfl (put_T rfl _) ?_;refine qa hH fun k4 st IM hH=>?_;dsimp only[u2,u1,u3,u4,setMany,u5,u6,D.cells,Nat.reduceAdd,aJ,aN,ae,ah,aS] at hH;refine qS hH at0 fun st hH=>?_;dsimp only[u2,u1,u3,u4,setMany,u5,u6,D.cells,Nat.reduceAdd,aJ,aN,ae,ah,aS] at hH;refine zQ 1 ?_;have hH:Has N S2 st (.box k (.mem 0 false (aJ gs bk s1))::.lst bk 1 (bB.map ae)::.box k4 (.mem 0 false [.int .i64 5,.nul,.int .i64 0,.int .i64 0,.bool false,.int .i64 0,.int .i64 1])::H):=mw hH;refine qq<|EvC.merge (fun fr st=>∃(mn mx:Int) (s2:eC) (tmp:List (Nat×D)),fr=⟨5,[.ptr k 0 0,yc fr 1,yc fr 2,uQ l,.ptr k4 0 0],tmp⟩∧Has N S2 st (.box k (.mem 0 false (aJ gs bk s2))::.lst bk 1 (bB.map ae)::.box k4 (.mem 0 false [.int .i64 5,.nul,.int .i64 mn,.int .i64 mx,.bool false,.int .i64 0,.int .i64 1])::H)∧(s2.o=s.o)∧(s2.g≤4)∧(s1.i<s2.i)∧(s2.i≤gs.length)) ?_ ?_
 ·refine zQ 4 ?_;obtain⟨_,st,hev,rfl,hH⟩:=dw (s:=s1) (by omega) 42 hH;refine qv hev ?_;refine zQ 2 ?_
  cases hb1:iv gs s1.i 42 with
  |true=>
   obtain⟨k1,k2,k3,MJ,k5⟩:=fZ (gs:=gs) (s:=s1) (r:=42);have k6:=lR hb1;have k7:=k5 p4;generalize cA gs s1 42=s2 at*;refine zQ 3 ?_;refine qT hH at2 fun st hH=>?_;dsimp only[u2,u1,u3,u4,setMany,u5,u6,D.cells,Nat.reduceAdd,aJ,aN,ae,ah,aS] at hH;refine zQ 1 ?_;exact⟨0,-1,s2,_,rfl,hH,by omega,by omega,by omega,k7⟩
  |false=>
   rw[oD hb1] at hH;refine zQ 4 ?_;obtain⟨_,st,hev,rfl,hH⟩:=dw (s:=s1) (by omega) 43 hH;refine qv hev ?_;refine zQ 2 ?_
   cases hb2:iv gs s1.i 43 with
   |true=>
    obtain⟨k1,k2,k3,MJ,k5⟩:=fZ (gs:=gs) (s:=s1) (r:=43);have k6:=lR hb2;have k7:=k5 p4;generalize cA gs s1 43=s2 at*;refine zQ 3 ?_;refine qT hH at2 fun st hH=>?_;dsimp only[u2,u1,u3,u4,setMany,u5,u6,D.cells,Nat.reduceAdd,aJ,aN,ae,ah,aS] at hH;refine zQ 1 ?_;refine qT hH at2 fun st hH=>?_;dsimp only[u2,u1,u3,u4,setMany,u5,u6,D.cells,Nat.reduceAdd,aJ,aN,ae,ah,aS] at hH;refine zQ 1 ?_;exact⟨1,-1,s2,_,rfl,hH,by omega,by omega,by omega,k7⟩
   |false=>
    rw[oD hb2] at hH;refine zQ 4 ?_;obtain⟨_,st,hev,rfl,hH⟩:=dw (s:=s1) (by omega) 63 hH;refine qv hev ?_;refine zQ 2 ?_
    cases HU:iv gs s1.i 63 with
    |true=>
     obtain⟨k1,k2,k3,MJ,k5⟩:=fZ (gs:=gs) (s:=s1) (r:=63);have k6:=lR HU;have k7:=k5 p4;generalize cA gs s1 63=s2 at*;refine zQ 3 ?_;refine qT hH at2 fun st hH=>?_;dsimp only[u2,u1,u3,u4,setMany,u5,u6,D.cells,Nat.reduceAdd,aJ,aN,ae,ah,aS] at hH;refine zQ 1 ?_;exact⟨0,1,s2,_,rfl,hH,by omega,by omega,by omega,k7⟩
    |false=>
     rw[oD HU] at hH;refine zQ 4 ?_;obtain⟨_,st,hev,rfl,hH⟩:=nY (s:=s1) (by omega) 123 hH;refine qv hev ?_;refine zQ 2 ?_
     cases TR:iv gs s1.i 123 with
     |true=>
      have hlt:=pN TR;refine zQ 3 ?_;obtain⟨_,st,hev,n1,n2,s2,rfl,⟨m1,m2,m3,m4⟩,hH⟩:=Cy hok p7 hlt hH;refine qv hev ?_;refine zQ 4 ?_;refine qT hH at2 fun st hH=>?_;dsimp only[u2,u1,u3,u4,setMany,u5,u6,D.cells,Nat.reduceAdd,aJ,aN,ae,ah,aS] at hH;refine zQ 1 ?_;refine qT hH at2 fun st hH=>?_;dsimp only[u2,u1,u3,u4,setMany,u5,u6,D.cells,Nat.reduceAdd,aJ,aN,ae,ah,aS] at hH;refine zQ 1 ?_;exact⟨n1,n2,s2,_,rfl,hH,by omega,by omega,m3,m4⟩
     |false=>
      refine zQ 6 ?_;refine EvC.ret ⟨rx,_,_,_,rfl,ag (rfl),?_⟩;exact⟨s1,⟨p1,p2,p3,p4,l,rfl,p5,p6,.inr ⟨p7,by omega⟩⟩,bY.au bZ (hH.erase 2)⟩
 ·rintro fr st ⟨mn,mx,s2,tmp,hfr,hH,h1,h2,h3,h4⟩;rw[hfr];clear hfr;generalize yc fr=ee;clear fr;refine zQ 9 ?_
  by_cases uR:s2.e=0
  ·refine qE rfl (by simp[uR]) ?_;refine zQ 1 ?_;obtain⟨k1,k2,k3,MJ,k5⟩:=fZ (gs:=gs) (s:=s2) (r:=63);have k7:=k5 h4;refine zQ 3 ?_;obtain⟨_,st,hev,rfl,hH⟩:=dw (s:=s2) (by omega) 63 hH;refine qv hev ?_;refine zQ 1 ?_;refine qT hH at2 fun st hH=>?_;dsimp only[u2,u1,u3,u4,setMany,u5,u6,D.cells,Nat.reduceAdd,aJ,aN,ae,ah,aS] at hH;refine zQ 1 ?_;generalize cA gs s2 63=s3 at*;generalize iv gs s2.i 63=lz at*;have hla:=(sA p5).arg N S2;refine zQ 2 ?_;refine EvO.hloadS (m:=7) hH rfl (ev rfl) (by exact at2) (by dsimp only[List.drop_succ_cons,List.drop_zero,List.take_succ_cons,List.take_zero,aJ,aN,ae,ah,aS]<;>rfl) rfl rfl (put_T rfl _) ?_;refine qh (s:=7) (vs:=[_]) hH fun k46 st Tf hH=>?_;refine qm ?_;refine EvO.qF (s:=7) hH rfl (ev rfl) (ev rfl) at0 ((sA p5).rows st) rfl rfl rfl rfl rfl rfl rfl ⟨(Nat.le_of_ble_eq_true rfl),(Nat.le_of_ble_eq_true rfl)⟩ (fun _=>(put_T rfl _)) (by simp only[List.length_map,List.length_cons,List.length_nil];omega) (.inr (sy p5)) (fun k hk=>by have jr:k46+1=k+1:=hk;omega) (fun IX st Gm hH=>?_);dsimp only[u2] at hH;refine zQ 2 ?_;have hH:Has N S2 st (.lst IX 7 ([.int .i64 5,.nul,.int .i64 mn,.int .i64 mx,.bool lz,.int .i64 0,.int .i64 1]::l.map aS)::.box k (.mem 0 false (aJ gs bk s3))::.lst bk 1 (bB.map ae)::.box k4 (.mem 0 false [.int .i64 5,.nul,.int .i64 mn,.int .i64 mx,.bool lz,.int .i64 0,.int .i64 1])::H):=hH
   have hfz:=hO (L:=s0.bs.length) (l:=tU 5 mn mx lz 0 1 []::l) hH at0 (by rw[List.map_cons,tS p5];rfl) (fun e he d hd=>by
    rcases List.mem_cons.1 he with rfl|he
    ·simp only[List.mem_cons,List.not_mem_nil,or_false] at hd
     rcases hd with rfl|rfl|rfl|rfl|rfl|rfl|rfl<;>rfl
    ·exact px p5 e he d hd) (fun k hk=>by rw[←bZ];exact Gm k hk) (n:=16) (by decide)
   refine EvC.ret ⟨rx,_,_,_,rfl,ag hfz,⟨s3,⟨by omega,by omega,by omega,k7,_,rfl,?_,by simp only[List.length_cons];omega,.inr ⟨by omega,by simp only[List.length_cons];omega⟩⟩,bY.au bZ ((hH.drop 1).erase 2)⟩⟩;intro n hn
   rcases List.mem_cons.1 hn with rfl|hn
   ·exact⟨rfl,by simp[tU],by simp[tU]⟩
   ·exact p5 n hn
  ·refine qD rfl (by simp[uR]) ?_;refine zQ 4 ?_;refine EvC.ret ⟨rx,_,_,_,rfl,ag (rfl),?_⟩;exact⟨s2,fG h1 h2 (by omega) h4 uR,bY.au bZ (hH.erase 2)⟩
def nh (fr:Go.V.Fr) (k:Nat):Go.V.D:=Go.V.nth .junk fr.loc k
theorem DN {m:Nat} (hA:∀m',m'+1=m→kN m') {N k:Nat} {S s0:St} {H:List aP} {gs:List (Nat×Nat)} {bk:D} {bB:List Int} {s:eC} (hok:kf gs bB) (he:s.e=0) (hi:s.i≤gs.length) (hg:s.g≤4) (ho:s.o+m=20) (hH:Has N S s0 (.box k (.mem 0 false (aJ gs bk s))::.lst bk 1 (bB.map ae)::H)):
  ∃d ab,Ev pv 118 [.ptr k 0 0] s0 d ab∧∃(s':eC),uP gs s s' d∧Has N S ab (.box k (.mem 0 false (aJ gs bk s'))::.lst bk 1 (bB.map ae)::H):=by
 have uy:=hok.gl;have hpl:=hok.pl;refine Ev.iI rfl Lk rfl rfl rfl ?_;refine zE ?_;have bY:=hH;have hH:=hH.cg;have bZ:(enterSt .rw s0).bs=s0.bs:=rfl;generalize enterSt .rw s0=S2 at*;have Gs:Arg N S2 2 (fR gs) (gs.map aN):=Arg.pure (fun st=>dP st gs);refine zQ 8 ?_;have hH:Has N S2 S2 (.box k (.mem 0 false (aJ gs bk s))::.lst bk 1 (bB.map ae)::.lst .nul 1 (([]:List (List Nod)).map partC)::H):=mw (hH.nulE 1);refine zQ 2 ?_;refine EvC.loop (fun mm fr st=>∃(s1:eC) (pd:D) (parts:List (List Nod)),fr.clean=⟨4,[.ptr k 0 0,nh fr 1,nh fr 2,pd],[]⟩∧Has N S2 st (.box k (.mem 0 false (aJ gs bk s1))::.lst bk 1 (bB.map ae)::.lst pd 1 (parts.map partC)::H)∧(s1.o=s.o)∧(s1.g≤4)∧(s.i≤s1.i)∧(s1.i≤gs.length)∧(∀l∈parts,∀n∈l,NdV n)∧(eR parts+parts.length≤4*(s1.i-s.i)+2)∧(s1.e=0→eR parts+parts.length≤4*(s1.i-s.i))∧(gs.length-s1.i+(if s1.e=0 then 1 else 0)≤mm)) (gs.length+1) ?_ ?_
 ·exact⟨s,.nul,[],rfl,hH,rfl,hg,Nat.le_refl _,hi,fun l hl=>(by cases hl),by simp[eR],fun _=>by simp[eR],by split<;>omega⟩
 rintro mm fr st ⟨s1,pd,parts,hfr,hH,h1,h2,h3,h4,h5,h6,h7,xk⟩;rw[hfr];clear hfr;generalize nh fr=ee;clear fr
 have p_:∀st:St,Has N S2 st (.box k (.mem 0 false (aJ gs bk s1))::.lst bk 1 (bB.map ae)::.lst pd 1 (parts.map partC)::H)→∃d,Ev pv 120 [.int .i64 3,pd] st d st∧uP gs s s1 d∧∃l,d=uQ l:=by
  intro st hH;obtain⟨_,hev,l,rfl,j1,j2,j3⟩:=sQ 3 (hH.rows at2) h5 (by omega) (by omega);refine⟨_,hev,⟨h1,h2,h3,h4,l,rfl,j1,?_⟩,l,rfl⟩
  by_cases q1:parts.length=1
  ·have:=j2 q1;omega
  ·by_cases q0:parts.length=0
   ·have:parts=[]:=List.length_eq_zero_iff.1 q0;rw[this] at j3 h6;simp[eR] at j3 h6;omega
   ·omega
 by_cases jB:s1.e=0
 ·rw[if_pos jB] at xk;have h7:=h7 jB;have cI:(s1.e==0)=true:=by simpa using jB
  by_cases hlt:s1.i<gs.length
  ·have bH:decide (((s1.i:Nat):Int)<((gs.length:Nat):Int))=true:=by rw[decide_eq_true_eq];omega
   cases ez:(!iv gs s1.i 124) with
   |false=>
    refine zQ 17 ?_;refine qn ?_ (hg:=wi cI);simp only[List.length_map];refine zQ 4 ?_;obtain⟨_,st,hev,rfl,hH⟩:=nY (s:=s1) (by omega) 124 hH;refine qv hev ?_ (hg:=wi bH);refine zQ 17 ?_;obtain⟨_,Dc,hQ,l,rfl⟩:=p_ _ hH;refine zQ 3 ?_;refine qv (Dc) ?_;refine zQ 2 ?_;refine EvC.ret ⟨rx,_,_,_,rfl,ag (rfl),?_⟩;exact⟨s1,hQ,bY.au bZ (hH.erase 2)⟩
   |true=>
    cases cQ:iv gs s1.i 41 with
    |false=>
     refine zQ 17 ?_;refine qn ?_ (hg:=wi cI);simp only[List.length_map];refine zQ 4 ?_;obtain⟨_,st,hev,rfl,hH⟩:=nY (s:=s1) (by omega) 124 hH;refine qv hev ?_ (hg:=wi bH);refine zQ 4 ?_;obtain⟨_,st,hev,rfl,hH⟩:=nY (s:=s1) (by omega) 41 hH;refine qv hev ?_ (hg:=wi ez);refine zQ 6 ?_;refine EvO.pickF (wantD_is rfl rfl rfl ez) rfl cQ (put_T rfl _) ?_;refine zQ 9 ?_;obtain⟨_,st,hev,s2,⟨r1,r2,r3,r4,l,rfl,r5,r6,r7⟩,hH⟩:=B9 hA hok (s:=s1) jB hlt h2 (by omega) hH;refine qv hev ?_;refine qh (s:=1) (vs:=[_]) hH fun k41 st Kb hH=>?_;dsimp only[u2,u1,u3,u4,setMany,u5,u6,D.cells,Nat.reduceAdd,aJ,aN,ae,ah,partC] at hH;refine EvO.happend (s:=1) hH rfl (ev rfl) (ev rfl) (by exact at3) (by exact hH.rows (by exact at0)) rfl rfl rfl rfl rfl rfl rfl ⟨(Nat.le_of_ble_eq_true rfl),(Nat.le_of_ble_eq_true rfl)⟩ (fun _=>(put_T rfl _)) (by simp only[List.length_cons,List.length_nil,List.length_map]<;>omega) (by exact .inr rfl) (fun IY st hH=>?_);dsimp only[u2,u1,u3,u4,setMany,u5,u6,D.cells,Nat.reduceAdd,aJ,aN,ae,ah,partC] at hH;refine zQ 2 ?_;have hH:=hH.drop 1;refine⟨mm-1,by omega,⟨s2,IY,parts++[l],rfl,(by rw[List.map_append];exact hH),by omega,r2,by omega,r4,?_,by rw[c7,List.length_append];simp only[eR,List.length_cons,List.length_nil];omega,(fun e=>by rw[c7,List.length_append];simp only[eR,List.length_cons,List.length_nil];omega),by split<;>omega⟩⟩;intro l' hl'
     rcases List.mem_append.1 hl' with hl'|hl'
     ·exact h5 l' hl'
     ·simp only[List.mem_cons,List.not_mem_nil,or_false] at hl';subst hl';exact r5
    |true=>
     refine zQ 17 ?_;refine qn ?_ (hg:=wi cI);simp only[List.length_map];refine zQ 4 ?_;obtain⟨_,st,hev,rfl,hH⟩:=nY (s:=s1) (by omega) 124 hH;refine qv hev ?_ (hg:=wi bH);refine zQ 4 ?_;obtain⟨_,st,hev,rfl,hH⟩:=nY (s:=s1) (by omega) 41 hH;refine qv hev ?_ (hg:=wi ez);refine zQ 6 ?_;refine EvO.pickT (wantD_is rfl rfl rfl ez) rfl cQ (put_T rfl _) ?_;refine zQ 3 ?_
     by_cases eU:0<s1.o
     ·have hcc:(!decide (((s1.o:Nat):Int)>0))=false:=by rw[decide_eq_true (by omega)];rfl
      refine qE rfl (by rw[hcc]) ?_;refine zQ 1 ?_;obtain⟨_,Dc,hQ,l,rfl⟩:=p_ _ hH;refine zQ 3 ?_;refine qv (Dc) ?_;refine zQ 2 ?_;refine EvC.ret ⟨rx,_,_,_,rfl,ag (rfl),?_⟩;exact⟨s1,hQ,bY.au bZ (hH.erase 2)⟩
     ·have hcc:(!decide (((s1.o:Nat):Int)>0))=true:=by rw[decide_eq_false (by omega)];rfl
      refine qD rfl (by rw[hcc]) ?_;refine zQ 5 ?_;obtain⟨_,st,hev,s2,⟨r1,r2,r3,r4,l,rfl,r5,r6,r7⟩,hH⟩:=B9 hA hok (s:=s1) jB hlt h2 (by omega) hH;refine qv hev ?_;refine qh (s:=1) (vs:=[_]) hH fun k41 st Kb hH=>?_;dsimp only[u2,u1,u3,u4,setMany,u5,u6,D.cells,Nat.reduceAdd,aJ,aN,ae,ah,partC] at hH;refine EvO.happend (s:=1) hH rfl (ev rfl) (ev rfl) (by exact at3) (by exact hH.rows (by exact at0)) rfl rfl rfl rfl rfl rfl rfl ⟨(Nat.le_of_ble_eq_true rfl),(Nat.le_of_ble_eq_true rfl)⟩ (fun _=>(put_T rfl _)) (by simp only[List.length_cons,List.length_nil,List.length_map]<;>omega) (by exact .inr rfl) (fun IY st hH=>?_);dsimp only[u2,u1,u3,u4,setMany,u5,u6,D.cells,Nat.reduceAdd,aJ,aN,ae,ah,partC] at hH;refine zQ 2 ?_;have hH:=hH.drop 1;refine⟨mm-1,by omega,⟨s2,IY,parts++[l],rfl,(by rw[List.map_append];exact hH),by omega,r2,by omega,r4,?_,by rw[c7,List.length_append];simp only[eR,List.length_cons,List.length_nil];omega,(fun e=>by rw[c7,List.length_append];simp only[eR,List.length_cons,List.length_nil];omega),by split<;>omega⟩⟩;intro l' hl'
      rcases List.mem_append.1 hl' with hl'|hl'
      ·exact h5 l' hl'
      ·simp only[List.mem_cons,List.not_mem_nil,or_false] at hl';subst hl';exact r5
  ·have bH:decide (((s1.i:Nat):Int)<((gs.length:Nat):Int))=false:=by rw[decide_eq_false_iff_not];omega
   refine zQ 17 ?_;refine qn ?_ (hg:=wi cI);simp only[List.length_map];refine zQ 22 ?_;obtain⟨_,Dc,hQ,l,rfl⟩:=p_ _ hH;refine zQ 3 ?_;refine qv (Dc) ?_;refine zQ 2 ?_;refine EvC.ret ⟨rx,_,_,_,rfl,ag (rfl),?_⟩;exact⟨s1,hQ,bY.au bZ (hH.erase 2)⟩
 ·have cI:(s1.e==0)=false:=by simpa using jB
  refine zQ 40 ?_;obtain⟨_,Dc,hQ,l,rfl⟩:=p_ _ hH;refine zQ 3 ?_;refine qv (Dc) ?_;refine zQ 2 ?_;refine EvC.ret ⟨rx,_,_,_,rfl,ag (rfl),?_⟩;exact⟨s1,hQ,bY.au bZ (hH.erase 2)⟩
theorem F2:∀m:Nat,kN m:=by
 intro m
 induction m using Nat.strongRecOn with
 |ind m ih0=>
 have hA:∀m',m'+1=m→kN m':=fun m' h=>ih0 m' (by omega);intro N k S s0 H gs bk bB s hok he hi hg ho hH;have uy:=hok.gl;have hpl:=hok.pl;refine Ev.iI rfl OL rfl rfl rfl ?_;refine zE ?_;have bY:=hH;have hH:=hH.cg;have bZ:(enterSt .rw s0).bs=s0.bs:=rfl;generalize enterSt .rw s0=S2 at*;refine zQ 7 ?_;obtain⟨_,st,hev,s1,⟨p1,p2,p3,p4,l,rfl,p5,p6⟩,hH⟩:=DN hA hok he hi hg ho hH;refine qv hev ?_;refine qh (s:=1) (vs:=[_]) hH fun k6 st Ef hH=>?_;dsimp only[u2,u1,u3,u4,setMany,u5,u6,D.cells,Nat.reduceAdd,aJ,aN,ae,ah,partC] at hH;refine zQ 2 ?_;have hH:Has N S2 st (.box k (.mem 0 false (aJ gs bk s1))::.lst bk 1 (bB.map ae)::.lst (.win k6 0 0 1 1) 1 ([l].map partC)::H):=mw hH;refine zQ 2 ?_;refine EvC.loop (fun mm fr st=>∃(s1:eC) (pd:D) (parts:List (List Nod)),fr.clean=⟨4,[.ptr k 0 0,nh fr 1,nh fr 2,pd],[]⟩∧Has N S2 st (.box k (.mem 0 false (aJ gs bk s1))::.lst bk 1 (bB.map ae)::.lst pd 1 (parts.map partC)::H)∧(s1.o=s.o)∧(s1.g≤4)∧(s.i≤s1.i)∧(s1.i≤gs.length)∧(∀l∈parts,∀n∈l,NdV n)∧(eR parts+3*parts.length≤4*(s1.i-s.i)+4)∧(1≤parts.length)∧(gs.length-s1.i≤mm)) (gs.length) ?_ ?_
 ·exact⟨s1,.win k6 0 0 1 1,[l],rfl,hH,p1,p2,p3,p4,(fun l' hl'=>by simp only[List.mem_cons,List.not_mem_nil,or_false] at hl';subst hl';exact p5),by simp only[eR,List.length_cons,List.length_nil];omega,by simp,by omega⟩
 rintro mm fr st ⟨s1,pd,parts,hfr,hH,h1,h2,h3,h4,h5,h6,h8,xk⟩;rw[hfr];clear hfr;generalize nh fr=ee;clear fr
 have p_:∀st:St,Has N S2 st (.box k (.mem 0 false (aJ gs bk s1))::.lst bk 1 (bB.map ae)::.lst pd 1 (parts.map partC)::H)→∃d,Ev pv 120 [.int .i64 4,pd] st d st∧uP gs s s1 d∧∃l,d=uQ l:=by
  intro st hH;obtain⟨_,hev,l,rfl,j1,j2,j3⟩:=sQ 4 (hH.rows at2) h5 (by omega) (by omega);refine⟨_,hev,⟨h1,h2,h3,h4,l,rfl,j1,?_⟩,l,rfl⟩
  by_cases q1:parts.length=1
  ·have:=j2 q1;omega
  ·omega
 by_cases jB:s1.e=0
 ·have cI:(s1.e==0)=true:=by simpa using jB
  obtain⟨k1,k2,k3,k4,k5⟩:=fZ (gs:=gs) (s:=s1) (r:=124);have k5:=k5 h4;refine zQ 10 ?_;obtain⟨_,st,hev,rfl,hH⟩:=dw (s:=s1) (by omega) 124 hH;refine qv hev ?_ (hg:=wi cI);refine zQ 2 ?_
  cases hb:iv gs s1.i 124 with
  |false=>
   rw[oD hb] at hH;refine zQ 2 ?_;obtain⟨_,Dc,hQ,l,rfl⟩:=p_ _ hH;refine zQ 3 ?_;refine qv (Dc) ?_;refine zQ 2 ?_;refine EvC.ret ⟨rx,_,_,_,rfl,ag (rfl),?_⟩;exact⟨s1,hQ,bY.au bZ (hH.erase 2)⟩
  |true=>
   have k6:=lR hb;generalize cA gs s1 124=s2 at*;refine zQ 6 ?_;obtain⟨_,st,hev,s3,⟨r1,r2,r3,r4,l,rfl,r5,r6⟩,hH⟩:=DN hA hok (s:=s2) (by omega) k5 (by omega) (by omega) hH;refine qv hev ?_;refine qh (s:=1) (vs:=[_]) hH fun k19 st NV hH=>?_;dsimp only[u2,u1,u3,u4,setMany,u5,u6,D.cells,Nat.reduceAdd,aJ,aN,ae,ah,partC] at hH;refine EvO.happend (s:=1) hH rfl (ev rfl) (ev rfl) (by exact at3) (by exact hH.rows (by exact at0)) rfl rfl rfl rfl rfl rfl rfl ⟨(Nat.le_of_ble_eq_true rfl),(Nat.le_of_ble_eq_true rfl)⟩ (fun _=>(put_T rfl _)) (by simp only[List.length_cons,List.length_nil,List.length_map]<;>omega) (by exact .inr rfl) (fun PE st hH=>?_);dsimp only[u2,u1,u3,u4,setMany,u5,u6,D.cells,Nat.reduceAdd,aJ,aN,ae,ah,partC] at hH;refine zQ 2 ?_;have hH:=hH.drop 1;refine⟨mm-1,by omega,⟨s3,PE,parts++[l],rfl,(by rw[List.map_append];exact hH),by omega,r2,by omega,r4,?_,by rw[c7,List.length_append];simp only[eR,List.length_cons,List.length_nil];omega,by rw[List.length_append];omega,by omega⟩⟩;intro l' hl'
   rcases List.mem_append.1 hl' with hl'|hl'
   ·exact h5 l' hl'
   ·simp only[List.mem_cons,List.not_mem_nil,or_false] at hl';subst hl';exact r5
 ·have cI:(s1.e==0)=false:=by simpa using jB
  refine zQ 15 ?_;obtain⟨_,Dc,hQ,l,rfl⟩:=p_ _ hH;refine zQ 3 ?_;refine qv (Dc) ?_;refine zQ 2 ?_;refine EvC.ret ⟨rx,_,_,_,rfl,ag (rfl),?_⟩;exact⟨s1,hQ,bY.au bZ (hH.erase 2)⟩
theorem DY:∀(n:Nat) (b:List UInt8),b.length≤n→(ry b).length≤b.length∧∀g∈ry b,g.2≤b.length:=by
 intro n
 induction n with
 |zero=>
  intro b hb;have:b=[]:=List.length_eq_zero_iff.1 (by omega);subst this;rw[rv];exact⟨Nat.le_refl _,fun g hg=>by cases hg⟩
 |succ n ih=>
  intro b hb
  by_cases h:b=[]
  ·subst h;rw[rv];exact⟨Nat.le_refl _,fun g hg=>by cases hg⟩
  ·have hp:=lU b;have hl:=zm h;obtain⟨h1,h2⟩:=ih (b.drop (iG b).2) (by rw[List.length_drop];omega);rw[List.length_drop] at h1 h2;rw[tu h];refine⟨by rw[List.length_cons];omega,fun g hg=>?_⟩
   rcases List.mem_cons.1 hg with rfl|hg
   ·exact hl
   ·have:=h2 g hg;omega
def aU (fr:Go.V.Fr) (k:Nat):Go.V.D:=Go.V.nth .junk fr.loc k
def Iv (d:D):Prop:=∃(l:List Nod) (e w:Int),d=.tup [uQ l,.int .i64 e,.int .i64 w]∧(∀n∈l,NdV n)∧l.length≤500
theorem Cp {s0:St} {b:List UInt8} (hbl:b.length≤1048576):∃d,Ev pv 55 [.str b] s0 d s0∧Iv d:=by
 obtain⟨uy,TB⟩:=DY _ b (Nat.le_refl _);have hev:∀(st:St) (x:D),Bytes st x b→Ev pv 15 [x] st (fR (ry b)) st:=fun st x h=>Ip h hbl;generalize ry b=gs at*;refine Ev.Bx rfl O2 rfl rfl rfl ?_;refine zE ?_;obtain⟨hSb,hF,hH⟩:=ri s0;generalize enterSt .ro s0=S at*;have Gs:Arg s0.bs.length S 2 (fR gs) (gs.map aN):=Arg.pure (fun st=>dP st gs);refine zQ 10 ?_;refine EvO.slen rfl rfl rfl (by dsimp only[Fr.put,u1,u2]<;>rfl) ?_;refine zQ 2 ?_
 by_cases Qv:120<b.length
 ·have hcc:decide (((b.length:Nat):Int)>120)=true:=by rw[decide_eq_true_eq];omega
  refine qD rfl (by rw[hcc]) ?_;refine zQ 6 ?_;refine EvC.ret ⟨rx,_,_,rfl,rl hSb hH (rfl),?_⟩;exact⟨[],2,0,rfl,fun n hn=>(by cases hn),by simp⟩
 have hcc:decide (((b.length:Nat):Int)>120)=false:=by rw[decide_eq_false_iff_not];omega
 refine qE rfl (by rw[hcc]) ?_;refine zQ 4 ?_;refine EvO.HR hH rfl rfl rfl rfl rfl (by omega) (fun _=>by dsimp only[Fr.put,u1,u2]<;>rfl) (fun k14 st HL hH=>?_);refine qv ((hev _ _ (hH.rows at0))) ?_;refine EvO.go (d:=.agg [fR gs,.nul,.int .i64 0,.int .i64 0,.int .i64 0,.int .i64 0,.int .i64 0]) (st1:=_) rfl rfl rfl (by dsimp only[Fr.put,u1,u2]<;>rfl) ?_;refine qb hH fun k17 st NY hH=>?_;refine zQ 13 ?_;refine qn ?_;simp only[List.length_map];refine zQ 2 ?_;have hH:Has s0.bs.length S st (.box k17 (.mem 0 false [fR gs,.nul,.int .i64 0,.int .i64 0,.int .i64 0,.int .i64 0,.int .i64 0])::.lst .nul 1 (([]:List Int).map ae)::[]):=((hH.erase 1).nulE 1).front at1;refine zQ 1 ?_;refine EvC.loop (fun mm fr st=>∃(i a:Nat) (pd:D) (bB:List Int),fr.clean=⟨24,[aU fr 0,aU fr 1,aU fr 2,aU fr 3,aU fr 4,.ptr k17 0 0,.int .i64 (a:Nat),aU fr 7,aU fr 8,aU fr 9,aU fr 10,aU fr 11,aU fr 12,aU fr 13,aU fr 14,aU fr 15,aU fr 16,aU fr 17,aU fr 18,aU fr 19,aU fr 20,fR gs,.int .i64 (gs.length:Nat),.int .i64 (i:Nat)],[]⟩∧Has s0.bs.length S st [.box k17 (.mem 0 false [fR gs,pd,.int .i64 0,.int .i64 0,.int .i64 0,.int .i64 0,.int .i64 0]),.lst pd 1 (bB.map ae)]∧(i+mm=gs.length)∧(bB.length=i)∧(a≤120*i)) (gs.length) ?_ ?_
 ·exact⟨0,0,.nul,[],rfl,hH,by omega,rfl,by omega⟩
 rintro mm fr st ⟨i,a,pd,bB,hfr,hH,hi,hpl,ha⟩;rw[hfr];clear hfr;generalize aU fr=ee;clear fr;refine zQ 4 ?_
 by_cases hlt:i<gs.length
 ·obtain⟨g,hg⟩:∃g,gs[i]?=some g:=⟨gs[i]'hlt,List.getElem?_eq_getElem _⟩
  have hr1:(gs.map aN)[i]?=some (aN g):=by rw[List.getElem?_map,hg];rfl
  have bL:=TB g (List.mem_of_getElem? hg);have zU:decide (((i:Nat):Int)<((gs.length:Nat):Int))=true:=by rw[decide_eq_true_eq];omega
  refine qq<|qD rfl (by rw[zU]) ?_;refine zQ 5 ?_;refine qr fun GP yj=>?_;refine EvO.bF rfl (ev rfl) (by assumption) rfl (put_T rfl _) ?_;refine qa hH fun k8 st hk8 hH=>?_;refine qS hH at0 fun st hH=>?_;dsimp only[u2,u1,u3,u4,setMany,u5,u6,D.cells,Nat.reduceAdd,aJ,aN,ae] at hH;refine zQ 9 ?_;refine qh (s:=1) (vs:=[_]) hH fun k33 st NP hH=>?_;refine EvO.happend (s:=1) hH rfl (ev rfl) (ev rfl) (by exact at3) (by exact hH.rows (by exact at0)) rfl rfl rfl rfl rfl rfl rfl ⟨(Nat.le_of_ble_eq_true rfl),(Nat.le_of_ble_eq_true rfl)⟩ (fun _=>(put_T rfl _)) (by simp only[List.length_cons,List.length_nil,List.length_map]<;>omega) (by exact .inl hF) (fun Re st hH=>?_);dsimp only[u2,u1,u3,u4,setMany,u5,u6,D.cells,Nat.reduceAdd,aJ,aN,ae] at hH;refine zQ 2 ?_;refine qT hH at2 (fun st hH=>?_) (gQ:=hH.ocells at3);dsimp only[u2,u1,u3,u4,setMany,u5,u6,D.cells,Nat.reduceAdd,aJ,aN,ae] at hH;refine zQ 5 ?_;refine EvO.addN rfl (ev rfl) (ev rfl) (by omega) (put_T rfl _) ?_;refine zQ 6 ?_;exact⟨mm-1,by omega,⟨i+1,a+g.2,Re,bB++[((a:Nat):Int)],rfl,(by rw[List.map_append];exact hH.drop 2),by omega,by rw[List.length_append,hpl];rfl,by omega⟩⟩
 ·have zU:decide (((i:Nat):Int)<((gs.length:Nat):Int))=false:=by rw[decide_eq_false_iff_not];omega
  refine qq<|qE rfl (by rw[zU]) ?_;refine zQ 1 ?_
  have hok:kf gs bB:=⟨by omega,by omega⟩
  have hH:Has s0.bs.length S st (.box k17 (.mem 0 false (aJ gs pd ⟨0,0,0,0,0⟩))::.lst pd 1 (bB.map ae)::[]):=hH;refine zQ 3 ?_;obtain⟨_,st,hev,s1,⟨p1,p2,p3,p4,l,rfl,p5,p6⟩,hH⟩:=F2 20 (s:=⟨0,0,0,0,0⟩) hok rfl (by simp) (by simp) rfl hH;refine qv hev ?_;refine zQ 2 ?_;have p6:l.length≤4*(s1.i-0)+1:=p6;refine zQ 2 ?_;refine EvC.jh (fun fr st=>∃(s2:eC) (tmp:List (Nat×D)),fr=⟨24,[aU fr 0,aU fr 1,aU fr 2,aU fr 3,aU fr 4,.ptr k17 0 0,aU fr 6,aU fr 7,aU fr 8,uQ l,aU fr 10,aU fr 11,aU fr 12,aU fr 13,aU fr 14,aU fr 15,aU fr 16,aU fr 17,aU fr 18,aU fr 19,aU fr 20,aU fr 21,aU fr 22,aU fr 23],tmp⟩∧Has s0.bs.length S st (.box k17 (.mem 0 false (aJ gs pd s2))::.lst pd 1 (bB.map ae)::[])∧(True)) ?_ ?_
  ·by_cases jB:s1.e=0
   ·have cI:(s1.e==0)=true:=by simpa using jB
    refine zQ 15 ?_;refine qn ?_ (hg:=wi cI);simp only[List.length_map];refine zQ 3 ?_;refine zP (fun oN=>?_) fun oN=>?_
    ·refine zQ 6 ?_;obtain⟨_,st,hev,rfl,hH⟩:=cF (s:=s1) s1.i 4 (by omega) hH;refine qv hev ?_;refine zQ 1 ?_;exact⟨_,_,rfl,hH,trivial⟩
    ·refine zQ 1 ?_;exact⟨s1,_,rfl,hH,trivial⟩
   ·have cI:(s1.e==0)=false:=by simpa using jB
    refine zQ 21 ?_;exact⟨s1,_,rfl,hH,trivial⟩
  ·rintro fr st ⟨s2,tmp,hfr,hH,ht⟩;rw[hfr];clear hfr;generalize aU fr=ee;clear fr;refine zQ 9 ?_;refine EvC.cond (by rfl) (fun hne=>?_) (fun hne=>?_)<;>try simp only[bne_iff_ne,bne_eq_false_iff_eq,ne_eq] at hne
   ·refine zQ 14 ?_;refine EvC.ret ⟨rx,_,_,rfl,rl hSb hH (rfl),?_⟩;exact⟨[],_,_,rfl,fun n hn=>(by cases hn),by simp⟩
   ·refine zQ 8 ?_;refine EvC.ret ⟨rx,_,_,rfl,rl hSb hH (rfl),?_⟩;exact⟨l,0,0,rfl,p5,by omega⟩
def tO (n:Nod):Bool:=((n.op==2)||((n.rs.length:Nat):Int)==0) &&((n.op==5)||((n.mn==0) &&(n.mx==0) &&!n.lz)) &&((n.op==6)||(n.cap==0))
noncomputable def eE (n:Nod) (g:Int):Int×Bool:=
 if tO n=false then(0,false)
 else if n.op=1∨n.op=7∨n.op=8 then(0,n.kids==0)
 else if n.op=2 then(0,(n.kids==0) &&dt n.rs)
 else if n.op=3∨n.op=4 then(n.kids,decide (n.kids≥2))
 else if n.op=5 then(1,(n.kids==1) &&decide (n.mn≥0) &&decide (n.mn≤30) &&((n.mx==-1)||(decide (n.mx≥n.mn) &&decide (n.mx≤30))))
 else if n.op=6 then(1,(n.kids==1) &&(n.cap==g+1) &&decide (n.cap≤4))
 else(0,false)
def iM (h:Nat→Nat→Option (Nat×Nat)):Nat→Nat→Nat→Option (Nat×Nat)
 |0,at_,g=>some (at_,g)
 |k+1,at_,g=>match h at_ g with
  |some r=>iM h k r.1 r.2
  |none=>none
noncomputable def gC (l:List Nod):Nat→Nat→Nat→Option (Nat×Nat)
 |0,_,_=>none
 |f+1,at_,g=>match l[at_]? with
  |none=>none
  |some n=>if(eE n (g:Nat)).2=true then iM (gC l f) (eE n (g:Nat)).1.toNat (at_+1) (if n.op=6 then g+1 else g) else none
theorem ve {n:Nod} {g:Nat} (h:(eE n (g:Nat)).2=true):vP n (eE n (g:Nat)).1.toNat∧0≤(eE n (g:Nat)).1∧(n.op=6→n.cap=g+1∧n.cap≤4):=by
 unfold eE at h⊢;unfold vP
 by_cases h0:tO n=false
 ·rw[if_pos h0] at h;cases h
 rw[if_neg h0] at h⊢
 by_cases h1:n.op=1∨n.op=7∨n.op=8
 ·rw[if_pos h1] at h⊢;simp only[beq_iff_eq] at h;exact⟨⟨h,.inl ⟨h1,rfl⟩⟩,Int.le_refl _,fun h6=>by omega⟩
 rw[if_neg h1] at h⊢
 by_cases h2:n.op=2
 ·rw[if_pos h2] at h⊢;simp only[Bool.and_eq_true,beq_iff_eq] at h;exact⟨⟨h.1,.inr (.inl ⟨h2,rfl⟩)⟩,Int.le_refl _,fun h6=>by omega⟩
 rw[if_neg h2] at h⊢
 by_cases h3:n.op=3∨n.op=4
 ·rw[if_pos h3] at h⊢;simp only[decide_eq_true_eq] at h;exact⟨⟨by simp only;omega,.inr (.inr (.inl ⟨h3,by simp only;omega⟩))⟩,by simp only;omega,fun h6=>by omega⟩
 rw[if_neg h3] at h⊢
 by_cases h5:n.op=5
 ·rw[if_pos h5] at h⊢;simp only[Bool.and_eq_true,Bool.or_eq_true,beq_iff_eq,decide_eq_true_eq] at h;exact⟨⟨by simp only;omega,.inr (.inr (.inr (.inl ⟨h5,by simp only;rfl,by omega,by omega,by omega⟩)))⟩,by simp only;omega,fun h6=>by omega⟩
 rw[if_neg h5] at h⊢
 by_cases h6:n.op=6
 ·rw[if_pos h6] at h⊢;simp only[Bool.and_eq_true,beq_iff_eq,decide_eq_true_eq] at h;exact⟨⟨by simp only;omega,.inr (.inr (.inr (.inr ⟨h6,by simp only;rfl,by omega,by omega⟩)))⟩,by simp only;omega,fun _=>⟨h.1.2,h.2⟩⟩
 rw[if_neg h6] at h;cases h
theorem eT.cons {α:Type} {L M:List α} {a:α} {at_:Nat} (h:L[at_]?=some a) (h2:eT L (at_+1) M):eT L at_ (a::M):=by
 obtain⟨post,h2⟩:=h2;refine⟨post,?_⟩;have h3:L[at_]'(lt_get h)=a:=Option.some.inj ((List.getElem?_eq_getElem _).symm.trans h);rw[List.drop_eq_getElem_cons (lt_get h),h2,h3];rfl
theorem eT.append {α:Type} {L M M':List α} {at_:Nat} (h:eT L at_ M) (h2:eT L (at_+M.length) M'):eT L at_ (M++M'):=by
 obtain⟨post,h⟩:=h;obtain⟨Ja,h2⟩:=h2;refine⟨Ja,?_⟩;rw[←List.drop_drop,h,List.drop_left] at h2;rw[h,h2,List.append_assoc]
theorem eT.none {α:Type} (L:List α) (at_:Nat):eT L at_ []:=⟨_,rfl⟩
theorem sP {l:List Nod} {h:Nat→Nat→Option (Nat×Nat)} (ih:∀at_ g r,h at_ g=some r→∃t:Tr,t.ok∧eT l at_ t.flat∧r.1=at_+t.flat.length):∀k at_ g r,iM h k at_ g=some r→∃ts:bc,ts.len=k∧ts.ok∧eT l at_ ts.flat∧r.1=at_+ts.flat.length
 |0,at_,g,r,e=>by
  simp only[iM,Option.some.injEq] at e;subst e;exact⟨.nil,rfl,trivial,eT.none _ _,by simp[bc.flat]⟩
 |k+1,at_,g,r,e=>by
  unfold iM at e
  cases hq:h at_ g with
  |none=>rw[hq] at e;cases e
  |some q=>
   rw[hq] at e;obtain⟨t,t1,t2,t3⟩:=ih _ _ _ hq;obtain⟨ts,u1,u2,u3,u4⟩:=sP ih k _ _ _ e;rw[t3] at u3 u4;exact⟨.cons t ts,by simp[bc.len,u1],by simp only[bc.ok];exact⟨t1,u2⟩,by simp only[bc.flat];exact t2.append u3,by rw[u4];simp only[bc.flat,List.length_append];omega⟩
theorem vK {l:List Nod}:∀f at_ g r,gC l f at_ g=some r→∃t:Tr,t.ok∧eT l at_ t.flat∧r.1=at_+t.flat.length
 |0,_,_,_,e=>by simp[gC] at e
 |f+1,at_,g,r,e=>by
  unfold gC at e
  cases hn:l[at_]? with
  |none=>rw[hn] at e;cases e
  |some n=>
   rw[hn] at e;simp only at e
   split at e
   ·rename_i hs;obtain⟨ts,u1,u2,u3,u4⟩:=sP (vK f) _ _ _ _ e;have:=(ve hs).1;rw[←u1] at this;exact⟨.mk n ts,by simp only[Tr.ok];exact⟨this,u2⟩,by simp only[Tr.flat];exact eT.cons hn u3,by rw[u4];simp only[Tr.flat,List.length_cons];omega⟩
   ·cases e
noncomputable def fy (l:List Nod):Bool:=(decide (1≤l.length) &&decide (l.length≤480)) &&(match gC l 241 0 0 with|some r=>decide (r.1=l.length)|none=>false)
theorem o_ {l:List Nod} (h:fy l=true):∃t:Tr,t.ok∧t.flat=l:=by
 unfold fy at h;simp only[Bool.and_eq_true] at h;obtain⟨_,h⟩:=h
 split at h
 ·rename_i r hr;obtain⟨t,h1,⟨post,h2⟩,h3⟩:=vK _ _ _ _ hr;rw[decide_eq_true_eq] at h;refine⟨t,h1,?_⟩;rw[List.drop_zero] at h2;have h4:=congrArg List.length h2;rw[List.length_append] at h4;have h5:post=[]:=List.length_eq_zero_iff.1 (by omega);rw[h2,h5,List.append_nil]
 ·cases h
noncomputable def cj (l:List Nod):Tr:=@dite _ (∃t:Tr,t.ok∧t.flat=l) (Classical.propDecidable _) (fun h=>Classical.choose h) (fun _=>.mk ⟨0,.nul,[],0,0,false,0,0⟩ .nil)
theorem tz {l:List Nod} (h:fy l=true):(cj l).ok∧(cj l).flat=l:=by
 unfold cj;rw[dif_pos (o_ h)];exact Classical.choose_spec (o_ h)
theorem FX {n:Nod} {k s:Nat}:min (bh n (min s 401) k) 401=min (bh n s k) 401:=by
 by_cases hs:s≤401
 ·rw[Nat.min_eq_left hs]
 ·have hx:min s 401=401:=by omega
  rw[hx];unfold bh
  split
  ·rfl
  ·split
   ·omega
   ·split
    ·omega
    ·split
     ·split
      ·omega
      ·by_cases h0:n.mn.toNat=0
       ·rw[h0]
        by_cases hd:n.mx.toNat-0=0
        ·rw[hd];simp
        ·have h1:=Nat.le_mul_of_pos_left (401+1) (show 0<n.mx.toNat-0 by omega);have h2:=Nat.le_mul_of_pos_left (s+1) (show 0<n.mx.toNat-0 by omega);omega
       ·have h1:=Nat.le_mul_of_pos_left 401 (show 0<n.mn.toNat by omega);have h2:=Nat.le_mul_of_pos_left s (show 0<n.mn.toNat by omega);omega
     ·omega
def dU (t:Tr) (b r:Nat):List aC:=cz 4 0 0 []::(aH t (b+1)++[cz 4 1 0 [],cz 7 (r:Nat) 0 []])
theorem ky {t:Tr} {b r:Nat} (h:t.ok):(dU t b r).length=t.sz+3:=by
 unfold dU;rw[List.length_cons,List.length_append,bW t _ h];rfl
structure rD where
 code:List aC
 af:List Int
 e:Int
 w:Int
noncomputable def dY:List (List Nod)→Nat→List aC→List Int→rD
 |[],_,c,s=>⟨c,s,0,0⟩
 |l::ls,r,c,s=>if fy l=false then⟨[],[],1,(r:Nat)⟩ else if 400<c.length+min (cj l).sz 401+3 then⟨[],[],12,(r:Nat)⟩ else dY ls (r+1) (c++dU (cj l) c.length r) (s++[((c.length:Nat):Int)])
noncomputable def compileS (rules:List (List Nod)):rD:=if 8<rules.length then⟨[],[],13,8⟩ else dY rules 0 [] []
def pgV (code:List aC) (af:List Int):Pg:=⟨.sl ((code.map aq).map (iR 4)),code,zB af,af⟩
def iU (i:aC):Prop:=i.rd=.sl ((i.rs.map ah).map (iR 2))∧i.rs.length≤1048576
theorem lW (op x y:Int):iU (cz op x y []):=⟨rfl,by simp[cz]⟩
theorem Jk (op x y:Int) {rs:List Rg} (h:rs.length≤1048576):iU (cz op x y rs):=⟨rfl,h⟩
theorem BV (s o:Nat) (lz:Bool):iU (mK s o lz):=by unfold mK;split<;>exact lW _ _ _
theorem Gb (e:Nat):iU (l3 e):=lW _ _ _
theorem yf {code:List aC} (h:∀i∈code,iU i):∀e∈code.map aq,∀d∈e,bC d=true:=by
 intro e he d hd;obtain⟨q,hq,rfl⟩:=List.mem_map.1 he;have hr:=(h q hq).1;simp only[aq,hr,List.mem_cons,List.not_mem_nil,or_false] at hd
 rcases hd with rfl|rfl|rfl|rfl<;>rfl
theorem E4 (code:List aC):∀e∈code.map aq,e.length=4:=by
 intro e he;obtain⟨q,_,rfl⟩:=List.mem_map.1 he;rfl
theorem Co {code:List aC} {af:List Int} (h:∀i∈code,iU i) (h1:code.length≤1048576) (h2:af.length≤1048576):(pgV code af).ok:=by
 refine⟨SlD.frozen (E4 code) (yf h),pQ _,fun i hi=>?_,h1,h2⟩;obtain⟨h3,h4⟩:=h i hi;refine⟨?_,h4⟩;rw[h3];exact SlD.frozen (kA _) (c8 _)
theorem xG {c:Nat→List aC} {z:Nat} (hc:∀b,∀i∈c b,iU i):∀k b,∀i∈eF c z k b,iU i
 |0,b,i,hi=>by cases hi
 |k+1,b,i,hi=>by
  simp only[eF] at hi
  rcases List.mem_append.1 hi with hi|hi
  ·exact hc b i hi
  ·exact xG hc k _ i hi
theorem Cs {sp:Nat→aC} {c:Nat→List aC} {z:Nat} (hs:∀s,iU (sp s)) (hc:∀b,∀i∈c b,iU i):∀k b,∀i∈eu sp c z k b,iU i
 |0,b,i,hi=>by cases hi
 |k+1,b,i,hi=>by
  simp only[eu] at hi
  rcases List.mem_cons.1 hi with rfl|hi
  ·exact hs _
  ·rcases List.mem_append.1 hi with hi|hi
   ·exact hc _ i hi
   ·exact Cs hs hc k _ i hi
mutual
theorem oR:∀(t:Tr) (b:Nat),(∀n∈t.flat,n.rs.length≤1048576)→∀i∈aH t b,iU i
 | .mk n ks,b,h,i,hi=>by
  simp only[Tr.flat] at h;have hn:=h n (List.mem_cons_self ..);have hk:∀n∈ks.flat,n.rs.length≤1048576:=fun m hm=>h m (List.mem_cons_of_mem _ hm);have hc:=fun b=>DO ks b hk;have ha:=fun jp (hj:iU jp) b=>DW jp hj ks b hk;simp only[aH] at hi
  split at hi
  ·simp only[List.mem_cons,List.not_mem_nil,or_false] at hi;subst hi;exact Jk _ _ _ hn
  split at hi
  ·simp only[List.mem_cons,List.not_mem_nil,or_false] at hi;subst hi;exact lW _ _ _
  split at hi
  ·simp only[List.mem_cons,List.not_mem_nil,or_false] at hi;subst hi;exact lW _ _ _
  split at hi
  ·exact hc b i hi
  split at hi
  ·exact ha _ (Gb _) b i hi
  split at hi
  ·unfold mP at hi
   split at hi
   ·rcases List.mem_append.1 hi with hi|hi
    ·exact xG hc _ _ i hi
    ·rcases List.mem_cons.1 hi with rfl|hi
     ·exact BV _ _ _
     ·rcases List.mem_append.1 hi with hi|hi
      ·exact hc _ i hi
      ·simp only[List.mem_cons,List.not_mem_nil,or_false] at hi;subst hi;exact Gb _
   ·rcases List.mem_append.1 hi with hi|hi
    ·exact xG hc _ _ i hi
    ·exact Cs (fun s=>BV _ _ _) hc _ _ i hi
  split at hi
  ·rcases List.mem_cons.1 hi with rfl|hi
   ·exact lW _ _ _
   ·rcases List.mem_append.1 hi with hi|hi
    ·exact hc _ i hi
    ·simp only[List.mem_cons,List.not_mem_nil,or_false] at hi;subst hi;exact lW _ _ _
  ·cases hi
theorem DO:∀(ts:bc) (b:Nat),(∀n∈ts.flat,n.rs.length≤1048576)→∀i∈fg ts b,iU i
 | .nil,b,_,i,hi=>by simp[fg] at hi
 | .cons t ts,b,h,i,hi=>by
  simp only[bc.flat] at h;simp only[fg] at hi
  rcases List.mem_append.1 hi with hi|hi
  ·exact oR t b (fun n hn=>h n (List.mem_append_left _ hn)) i hi
  ·exact DO ts _ (fun n hn=>h n (List.mem_append_right _ hn)) i hi
theorem DW (jp:aC) (hj:iU jp):∀(ts:bc) (b:Nat),(∀n∈ts.flat,n.rs.length≤1048576)→∀i∈dR jp ts b,iU i
 | .nil,b,_,i,hi=>by simp[dR] at hi
 | .cons t ts,b,h,i,hi=>by
  simp only[bc.flat] at h;have h1:∀n∈t.flat,n.rs.length≤1048576:=fun n hn=>h n (List.mem_append_left _ hn);have h2:∀n∈ts.flat,n.rs.length≤1048576:=fun n hn=>h n (List.mem_append_right _ hn);simp only[dR] at hi
  split at hi
  ·exact oR t b h1 i hi
  ·rcases List.mem_cons.1 hi with rfl|hi
   ·exact BV _ _ _
   ·rcases List.mem_append.1 hi with hi|hi
    ·exact oR t _ h1 i hi
    ·rcases List.mem_cons.1 hi with rfl|hi
     ·exact hj
     ·exact DW jp hj ts _ h2 i hi
end
theorem EA {t:Tr} {b r:Nat} (h:∀n∈t.flat,n.rs.length≤1048576):∀i∈dU t b r,iU i:=by
 intro i hi;unfold dU at hi
 rcases List.mem_cons.1 hi with rfl|hi
 ·exact lW _ _ _
 ·rcases List.mem_append.1 hi with hi|hi
  ·exact oR t _ h i hi
  ·simp only[List.mem_cons,List.not_mem_nil,or_false] at hi
   rcases hi with rfl|rfl
   ·exact lW _ _ _
   ·exact lW _ _ _
def ng (fr:Go.V.Fr) (k:Nat):Go.V.D:=Go.V.nth .junk fr.loc k
theorem Ci {s0:St} {n:Nod} (hn:n.ok):Ev pv 129 [.agg (aS n)] s0 (.bool (tO n)) s0:=by
 refine Ev.mk1 rfl Le rfl rfl rfl ?_;refine zE ?_;obtain⟨hSb,hF,hH⟩:=ri s0;generalize enterSt .ro s0=S at*;have uo:=hn.1.arg s0.bs.length S;have n_:=hn.2.1;refine zQ 2 ?_;refine qb hH fun k1 st pY hH=>?_;dsimp only[u2,u1,u3,u4,setMany,u5,u6,D.cells,Nat.reduceAdd,aS] at hH;refine zQ 10 ?_;refine EvC.j9 2 (.bool (((n.op==2)||((n.rs.length:Nat):Int)==0) &&((n.op==5)||((n.mn==0) &&(n.mx==0) &&!n.lz)) &&((n.op==6)||(n.cap==0)))) [] ?_ (fun ff tmp=>?_)
 ·refine zQ 4 ?_;refine EvO.two 10 rfl (fun hg3=>?_) (fun hg3=>?_)
  ·refine zQ 8 ?_;refine EvO.two 18 rfl (fun bt=>?_) (fun bt=>?_)
   ·refine zQ 20 ?_;refine EvO.two 38 rfl (fun jt=>?_) (fun jt=>?_)
    ·refine zQ 6 ?_;refine EvO.nil (aK ?_);refine zG ?_
     all_goals(simp[hg3,bt,jt];done)
    ·refine zQ 6 ?_;refine EvO.nil (aK ?_);refine zG ?_
     all_goals(simp[hg3,bt,jt];done)
   ·refine zQ 4 ?_;refine EvO.two 22 rfl (fun iQ=>?_) (fun iQ=>?_)
    ·refine zQ 3 ?_;refine EvO.pickT (wantD_is rfl rfl rfl bt) rfl iQ (put_T rfl _) ?_;refine zQ 1 ?_;refine EvO.two 27 rfl (fun lB=>?_) (fun lB=>?_)
     ·refine zQ 3 ?_;refine EvO.pickT (wantD_is rfl rfl rfl bt) rfl lB (put_T rfl _) ?_;refine zQ 3 ?_;refine EvO.two 34 rfl (fun nu=>?_) (fun nu=>?_)
      ·refine zQ 4 ?_;refine EvO.two 38 rfl (fun jt=>?_) (fun jt=>?_)
       ·refine zQ 3 ?_;refine EvO.pickT (wantD_is rfl rfl rfl nu) rfl jt (put_T rfl _) ?_;refine zQ 2 ?_;refine EvO.nil (aK ?_);refine zG ?_
        all_goals(simp[hg3,bt,iQ,lB,nu,jt];done)
       ·refine zQ 3 ?_;refine EvO.pickF (wantD_is rfl rfl rfl nu) rfl jt (put_T rfl _) ?_;refine zQ 2 ?_;refine EvO.nil (aK ?_);refine zG ?_
        all_goals(simp[hg3,bt,iQ,lB,nu,jt];done)
      ·refine zQ 10 ?_;refine EvO.nil (aK ?_);refine zG ?_
       all_goals(simp[hg3,bt,iQ,lB,nu];done)
     ·refine zQ 3 ?_;refine EvO.pickF (wantD_is rfl rfl rfl bt) rfl lB (put_T rfl _) ?_;refine zQ 13 ?_;refine EvO.nil (aK ?_);refine zG ?_
      all_goals(simp[hg3,bt,iQ,lB];done)
    ·refine zQ 3 ?_;refine EvO.pickF (wantD_is rfl rfl rfl bt) rfl iQ (put_T rfl _) ?_;refine zQ 18 ?_;refine EvO.nil (aK ?_);refine zG ?_
     all_goals(simp[hg3,bt,iQ];done)
  ·refine zQ 2 ?_;refine qn ?_ (hg:=wi hg3);simp only[List.length_map];refine zQ 3 ?_;refine EvO.two 16 rfl (fun dI=>?_) (fun dI=>?_)
   ·refine zQ 2 ?_;refine EvO.two 18 rfl (fun bt=>?_) (fun bt=>?_)
    ·refine zQ 13 ?_;refine EvO.pickT (wantD_is rfl rfl rfl dI) rfl bt (put_T rfl _) ?_;refine zQ 6 ?_;refine EvO.two 38 rfl (fun jt=>?_) (fun jt=>?_)
     ·refine zQ 6 ?_;refine EvO.nil (aK ?_);refine zG ?_
      all_goals(simp[hg3,dI,bt,jt];done)
     ·refine zQ 6 ?_;refine EvO.nil (aK ?_);refine zG ?_
      all_goals(simp[hg3,dI,bt,jt];done)
    ·refine zQ 4 ?_;refine EvO.two 22 rfl (fun iQ=>?_) (fun iQ=>?_)
     ·refine zQ 3 ?_;refine EvO.pickT (wantD_is rfl rfl rfl bt) rfl iQ (put_T rfl _) ?_;refine zQ 1 ?_;refine EvO.two 27 rfl (fun lB=>?_) (fun lB=>?_)
      ·refine zQ 3 ?_;refine EvO.pickT (wantD_is rfl rfl rfl bt) rfl lB (put_T rfl _) ?_;refine EvO.pickF (wantD_is rfl rfl rfl dI) rfl bt (put_T rfl _) ?_;refine zQ 2 ?_;refine EvO.two 34 rfl (fun nu=>?_) (fun nu=>?_)
       ·refine zQ 4 ?_;refine EvO.two 38 rfl (fun jt=>?_) (fun jt=>?_)
        ·refine zQ 3 ?_;refine EvO.pickT (wantD_is rfl rfl rfl nu) rfl jt (put_T rfl _) ?_;refine zQ 2 ?_;refine EvO.nil (aK ?_);refine zG ?_
         all_goals(simp[hg3,dI,bt,iQ,lB,nu,jt];done)
        ·refine zQ 3 ?_;refine EvO.pickF (wantD_is rfl rfl rfl nu) rfl jt (put_T rfl _) ?_;refine zQ 2 ?_;refine EvO.nil (aK ?_);refine zG ?_
         all_goals(simp[hg3,dI,bt,iQ,lB,nu,jt];done)
       ·refine zQ 10 ?_;refine EvO.nil (aK ?_);refine zG ?_
        all_goals(simp[hg3,dI,bt,iQ,lB,nu];done)
      ·refine zQ 3 ?_;refine EvO.pickF (wantD_is rfl rfl rfl bt) rfl lB (put_T rfl _) ?_;refine EvO.pickF (wantD_is rfl rfl rfl dI) rfl bt (put_T rfl _) ?_;refine zQ 12 ?_;refine EvO.nil (aK ?_);refine zG ?_
       all_goals(simp[hg3,dI,bt,iQ,lB];done)
     ·refine zQ 3 ?_;refine EvO.pickF (wantD_is rfl rfl rfl bt) rfl iQ (put_T rfl _) ?_;refine zQ 5 ?_;refine EvO.pickF (wantD_is rfl rfl rfl dI) rfl bt (put_T rfl _) ?_;refine zQ 12 ?_;refine EvO.nil (aK ?_);refine zG ?_
      all_goals(simp[hg3,dI,bt,iQ];done)
   ·refine zQ 28 ?_;refine EvO.nil (aK ?_);refine zG ?_
    all_goals(simp[hg3,dI];done)
 dsimp only[setW,List.foldl,nth,u2,u1];refine EvC.ret ⟨rx,_,rfl,rl hSb hH (rfl)⟩
theorem xx {s0:St} {n:Nod} (hn:n.ok) {g:Nat} (hg:g≤1048576):Ev pv 113 [.agg (aS n),.int .i64 (g:Nat)] s0 (.tup [.int .i64 (eE n (g:Nat)).1,.bool (eE n (g:Nat)).2]) s0:=by
 refine Ev.mk1 rfl Lm rfl rfl rfl ?_;refine zE ?_;obtain⟨hSb,hF,hH⟩:=ri s0;generalize enterSt .ro s0=S at*;have uo:=hn.1.arg s0.bs.length S;have n_:=hn.2.1;refine zQ 2 ?_;refine qb hH fun k2 st hk2 hH=>?_;dsimp only[u2,u1,u3,u4,setMany,u5,u6,D.cells,Nat.reduceAdd,aS] at hH;refine zQ 6 ?_;refine EvO.hloadS (m:=7) hH rfl (ev rfl) (by exact at0) (by dsimp only[List.drop_succ_cons,List.drop_zero,List.take_succ_cons,List.take_zero,aS]<;>rfl) rfl rfl (by dsimp only[Fr.put,u1,u2]<;>rfl) ?_;refine qv (Ci hn) ?_;refine zQ 2 ?_;unfold eE
 cases hp:tO n with
 |false=>
  rw[if_pos rfl];refine zQ 6 ?_;refine EvC.ret ⟨rx,_,rfl,rl hSb hH (rfl)⟩
 |true=>
  rw[if_neg (by simp)];refine zQ 15 ?_
  by_cases q1:n.op=1
  ·rw[if_pos (.inl q1)];refine qD rfl (by simp[q1]) ?_;refine zQ 1 ?_;refine qD rfl (by simp[q1]) ?_;refine zQ 8 ?_;refine EvC.ret ⟨rx,_,rfl,rl hSb hH (rfl)⟩
  refine qE rfl (by simp[q1]) ?_;refine zQ 5 ?_
  by_cases q7:n.op=7
  ·rw[if_pos (.inr (.inl q7))];refine qD rfl (by simp[q7]) ?_;refine zQ 1 ?_;refine qD rfl (by simp[q7]) ?_;refine zQ 8 ?_;refine EvC.ret ⟨rx,_,rfl,rl hSb hH (rfl)⟩
  refine qE rfl (by simp[q7]) ?_;refine zQ 4 ?_
  by_cases q8:n.op=8
  ·rw[if_pos (.inr (.inr q8))];refine qD rfl (by simp[q8]) ?_;refine zQ 8 ?_;refine EvC.ret ⟨rx,_,rfl,rl hSb hH (rfl)⟩
  refine qE rfl (by simp[q8]) ?_;rw[if_neg (by omega)];refine zQ 5 ?_;refine zI (fun q2=>?_) fun q2=>?_
  ·rw[if_pos q2];refine qq<|EvC.Ig [4,5] (fun ff=>ff 4=.int .i64 0∧ff 5=.bool ((n.kids==0) &&dt n.rs)) ?_ (fun ff tmp Bc=>?_)
   ·refine zQ 4 ?_;refine EvO.two 23 rfl (fun hg3=>?_) (fun hg3=>?_)
    ·refine zQ 2 ?_;refine qv (vt (uo.rows hH) n_) ?_ (hg:=wi hg3);refine zQ 3 ?_;refine EvO.nil (jZ ?_ ?_)
     ·dsimp only[setW,List.foldl,nth,u2,u1]
     ·dsimp only[nth];refine zF ?_;refine⟨?_,?_⟩<;>(first|rfl|(simp[hg3];done)|(simp_all;done)|(simp[hg3];omega)|(simp_all;omega))
    ·refine zQ 6 ?_;refine EvO.nil (jZ ?_ ?_)
     ·dsimp only[setW,List.foldl,nth,u2,u1]
     ·dsimp only[nth];refine zF ?_;refine⟨?_,?_⟩<;>(first|rfl|(simp[hg3];done)|(simp_all;done)|(simp[hg3];omega)|(simp_all;omega))
   dsimp only[setW,List.foldl,nth,u2,u1];obtain⟨Dg,Df⟩:=Bc;rw[Dg,Df];refine EvC.ret ⟨rx,_,rfl,rl hSb hH (rfl)⟩
  rw[if_neg q2];refine zQ 6 ?_
  by_cases q3:n.op=3
  ·rw[if_pos (.inl q3)];refine qD rfl (by simp[q3]) ?_;refine zQ 1 ?_;refine qD rfl (by simp[q3]) ?_;refine zQ 10 ?_;refine EvC.ret ⟨rx,_,rfl,rl hSb hH (rfl)⟩
  refine qE rfl (by simp[q3]) ?_;refine zQ 4 ?_
  by_cases q4:n.op=4
  ·rw[if_pos (.inr q4)];refine qD rfl (by simp[q4]) ?_;refine zQ 10 ?_;refine EvC.ret ⟨rx,_,rfl,rl hSb hH (rfl)⟩
  rw[if_neg (by omega)];refine qE rfl (by simp[q4]) ?_;refine zQ 5 ?_;refine zI (fun q5=>?_) fun q5=>?_
  ·rw[if_pos q5];refine qq<|EvC.Ig [4,5] (fun ff=>ff 4=.int .i64 1∧ff 5=.bool ((n.kids==1) &&decide (n.mn≥0) &&decide (n.mn≤30) &&((n.mx==-1)||(decide (n.mx≥n.mn) &&decide (n.mx≤30))))) ?_ (fun ff tmp Bc=>?_)
   ·refine zQ 4 ?_;refine EvO.two 41 rfl (fun hg3=>?_) (fun hg3=>?_)
    ·refine zQ 5 ?_;refine EvO.two 46 rfl (fun hg8=>?_) (fun hg8=>?_)
     ·refine zQ 5 ?_;refine EvO.two 51 rfl (fun hg13=>?_) (fun hg13=>?_)
      ·refine zQ 4 ?_;refine EvO.two 55 rfl (fun bH=>?_) (fun bH=>?_)
       ·refine zQ 10 ?_;refine EvO.pickT (wantD_is rfl rfl rfl hg13) rfl bH (put_T rfl _) ?_;refine zQ 3 ?_;refine EvO.nil (jZ ?_ ?_)
        ·dsimp only[setW,List.foldl,nth,u2,u1]
        ·dsimp only[nth];refine zF ?_;refine⟨?_,?_⟩<;>(first|rfl|(simp[hg3,hg8,hg13,bH];done)|(simp_all;done)|(simp[hg3,hg8,hg13,bH];omega)|(simp_all;omega))
       ·refine zQ 6 ?_;refine EvO.two 61 rfl (fun yp=>?_) (fun yp=>?_)
        ·refine zQ 3 ?_;refine EvO.pickT (wantD_is rfl rfl rfl bH) rfl yp (put_T rfl _) ?_;refine EvO.pickF (wantD_is rfl rfl rfl hg13) rfl bH (put_T rfl _) ?_;refine zQ 3 ?_;refine EvO.nil (jZ ?_ ?_)
         ·dsimp only[setW,List.foldl,nth,u2,u1]
         ·dsimp only[nth];refine zF ?_;refine⟨?_,?_⟩<;>(first|rfl|(simp[hg3,hg8,hg13,bH,yp];done)|(simp_all;done)|(simp[hg3,hg8,hg13,bH,yp];omega)|(simp_all;omega))
        ·refine zQ 3 ?_;refine EvO.pickF (wantD_is rfl rfl rfl bH) rfl yp (put_T rfl _) ?_;refine EvO.pickF (wantD_is rfl rfl rfl hg13) rfl bH (put_T rfl _) ?_;refine zQ 3 ?_;refine EvO.nil (jZ ?_ ?_)
         ·dsimp only[setW,List.foldl,nth,u2,u1]
         ·dsimp only[nth];refine zF ?_;refine⟨?_,?_⟩<;>(first|rfl|(simp[hg3,hg8,hg13,bH,yp];done)|(simp_all;done)|(simp[hg3,hg8,hg13,bH,yp];omega)|(simp_all;omega))
      ·refine zQ 18 ?_;refine EvO.nil (jZ ?_ ?_)
       ·dsimp only[setW,List.foldl,nth,u2,u1]
       ·dsimp only[nth];refine zF ?_;refine⟨?_,?_⟩<;>(first|rfl|(simp[hg3,hg8,hg13];done)|(simp_all;done)|(simp[hg3,hg8,hg13];omega)|(simp_all;omega))
     ·refine zQ 23 ?_;refine EvO.nil (jZ ?_ ?_)
      ·dsimp only[setW,List.foldl,nth,u2,u1]
      ·dsimp only[nth];refine zF ?_;refine⟨?_,?_⟩<;>(first|rfl|(simp[hg3,hg8];done)|(simp_all;done)|(simp[hg3,hg8];omega)|(simp_all;omega))
    ·refine zQ 28 ?_;refine EvO.nil (jZ ?_ ?_)
     ·dsimp only[setW,List.foldl,nth,u2,u1]
     ·dsimp only[nth];refine zF ?_;refine⟨?_,?_⟩<;>(first|rfl|(simp[hg3];done)|(simp_all;done)|(simp[hg3];omega)|(simp_all;omega))
   dsimp only[setW,List.foldl,nth,u2,u1];obtain⟨Dg,Df⟩:=Bc;rw[Dg,Df];refine EvC.ret ⟨rx,_,rfl,rl hSb hH (rfl)⟩
  rw[if_neg q5];refine zQ 5 ?_;refine zI (fun q6=>?_) fun q6=>?_
  ·rw[if_pos q6];refine qq<|EvC.Ig [4,5] (fun ff=>ff 4=.int .i64 1∧ff 5=.bool ((n.kids==1) &&(n.cap==((g+1:Nat):Int)) &&decide (n.cap≤4))) ?_ (fun ff tmp Bc=>?_)
   ·refine zQ 4 ?_;refine EvO.two 73 rfl (fun hg3=>?_) (fun hg3=>?_)
    ·refine zQ 7 ?_;refine EvO.two 80 rfl (fun cv=>?_) (fun cv=>?_)
     ·refine zQ 6 ?_;refine EvO.nil (jZ ?_ ?_)
      ·dsimp only[setW,List.foldl,nth,u2,u1]
      ·dsimp only[nth];refine zF ?_;refine⟨?_,?_⟩<;>(first|rfl|(simp[hg3,cv];done)|(simp_all;done)|(simp[hg3,cv];omega)|(simp_all;omega))
     ·refine zQ 6 ?_;refine EvO.nil (jZ ?_ ?_)
      ·dsimp only[setW,List.foldl,nth,u2,u1]
      ·dsimp only[nth];refine zF ?_;refine⟨?_,?_⟩<;>(first|rfl|(simp[hg3,cv];done)|(simp_all;done)|(simp[hg3,cv];omega)|(simp_all;omega))
    ·refine zQ 13 ?_;refine EvO.nil (jZ ?_ ?_)
     ·dsimp only[setW,List.foldl,nth,u2,u1]
     ·dsimp only[nth];refine zF ?_;refine⟨?_,?_⟩<;>(first|rfl|(simp[hg3];done)|(simp_all;done)|(simp[hg3];omega)|(simp_all;omega))
   dsimp only[setW,List.foldl,nth,u2,u1];obtain⟨Dg,Df⟩:=Bc;rw[Dg,Df];refine EvC.ret ⟨rx,_,rfl,rl hSb hH (rfl)⟩
  ·rw[if_neg q6];refine zQ 6 ?_;refine EvC.ret ⟨rx,_,rfl,rl hSb hH (rfl)⟩
theorem vO {n:Nod} (h:n.ok):refs (aS n)=0:=by
 have:=h.1.ref;simp only[aS,refs,D.ref,this,Nat.max_self]
def nK (d:D) (at_ g:Nat):List D:=[d,.int .i64 (at_:Nat),.int .i64 (g:Nat)]
theorem Cx {l:List Nod} {d:D} (hl:l.length≤1048576) (hi:∀n∈l,n.ok) (hd:SlD d 7 (l.map aS)):∀(f:Nat) {N k:Nat} {S s0:St} {H:List aP} {at_ g:Nat},f≤241→g≤4→Has N S s0 (.box k (.mem 0 false (nK d at_ g))::H)→
  ∃r ab,Ev pv 88 [.ptr k 0 0,.int .i64 ((241-f:Nat):Int)] s0 r ab∧r=.bool (gC l f at_ g).isSome∧∃a' g',Has N S ab (.box k (.mem 0 false (nK d a' g'))::H)∧g'≤4∧∀q,gC l f at_ g=some q→a'=q.1∧g'=q.2:=by
 intro f
 induction f with
 |zero=>
  intro N k S s0 H at_ g hf hg hH;refine Ev.iI rfl KO rfl rfl rfl ?_;refine zE ?_;have bY:=hH;have hH:=hH.cg;have bZ:(enterSt .rw s0).bs=s0.bs:=rfl;generalize enterSt .rw s0=S2 at*;have hc:=hd.arg N S2;refine zQ 6 ?_;refine EvC.cutT 21 (.bool (decide ((at_:Int)≥(l.length:Nat))||decide (((241-0:Nat):Int)>240))) [] ?_ (fun ff tmp htmp=>?_)
  ·refine zQ 8 ?_;refine qn ?_;simp only[List.length_map];refine zQ 2 ?_;refine EvO.two 18 rfl (fun cv=>?_) (fun cv=>?_)
   ·refine zQ 3 ?_;refine EvO.nil (leafT ?_ ?_)
    ·dsimp only[setW,List.foldl,nth,u2,u1]
     all_goals(first|rfl|simp)
    ·refine zF ?_
     all_goals(simp[cv];done)
   ·refine zQ 3 ?_;refine EvO.nil (leafT ?_ ?_)
    ·dsimp only[setW,List.foldl,nth,u2,u1]
     all_goals(first|rfl|simp)
    ·refine zF ?_
     all_goals(simp[cv];done)
  dsimp only[setW,List.foldl,nth,u2,u1];have hT:(decide ((at_:Int)≥(l.length:Nat))||decide (((241-0:Nat):Int)>240))=true:=by simp
  rw[hT] at htmp;refine zQ 5 ?_;refine EvC.ret ⟨rx,_,_,_,rfl,ag (rfl),?_⟩;exact⟨rfl,_,_,bY.au bZ hH,hg,fun q hq=>by simp[gC] at hq⟩
 |succ f ih=>
  intro N k S s0 H at_ g hf hg hH;refine Ev.iI rfl KO rfl rfl rfl ?_;refine zE ?_;have bY:=hH;have hH:=hH.cg;have bZ:(enterSt .rw s0).bs=s0.bs:=rfl;generalize enterSt .rw s0=S2 at*;have hc:=hd.arg N S2;refine zQ 6 ?_;refine EvC.cutT 21 (.bool (decide ((at_:Int)≥(l.length:Nat))||decide (((241-(f+1):Nat):Int)>240))) [] ?_ (fun ff tmp htmp=>?_)
  ·refine zQ 8 ?_;refine qn ?_;simp only[List.length_map];refine zQ 2 ?_;refine EvO.two 18 rfl (fun cv=>?_) (fun cv=>?_)
   ·refine zQ 3 ?_;refine EvO.nil (leafT ?_ ?_)
    ·dsimp only[setW,List.foldl,nth,u2,u1]
     all_goals(first|rfl|simp)
    ·refine zF ?_
     all_goals(simp_all;done)
   ·refine zQ 3 ?_;refine EvO.nil (leafT ?_ ?_)
    ·dsimp only[setW,List.foldl,nth,u2,u1]
     all_goals(first|rfl|simp)
    ·refine zF ?_
     all_goals(simp_all;omega)
  dsimp only[setW,List.foldl,nth,u2,u1]
  by_cases ha:l.length≤at_
  ·have hT:(decide ((at_:Int)≥(l.length:Nat))||decide (((241-(f+1):Nat):Int)>240))=true:=by
    rw[Bool.or_eq_true];exact .inl (by rw[decide_eq_true_eq];omega)
   rw[hT] at htmp;have hn:gC l (f+1) at_ g=none:=by unfold gC;rw[List.getElem?_eq_none ha]
   rw[hn];refine zQ 5 ?_;refine EvC.ret ⟨rx,_,_,_,rfl,ag (rfl),?_⟩;exact⟨rfl,_,_,bY.au bZ hH,hg,fun q hq=>by cases hq⟩
  ·have hT:(decide ((at_:Int)≥(l.length:Nat))||decide (((241-(f+1):Nat):Int)>240))=false:=by
    rw[Bool.or_eq_false_iff];exact⟨by rw[decide_eq_false_iff_not];omega,by rw[decide_eq_false_iff_not];omega⟩
   rw[hT] at htmp
   obtain⟨n,hn⟩:∃n,l[at_]?=some n:=⟨l[at_]'(by omega),List.getElem?_eq_getElem _⟩
   have jA:=hi n (List.mem_of_getElem? hn);have hr1:=kG hn;have Gh:=vO jA
   have jo:gC l (f+1) at_ g=if(eE n (g:Nat)).2=true then iM (gC l f) (eE n (g:Nat)).1.toNat (at_+1) (if n.op=6 then g+1 else g) else none:=by
    rw[gC,hn]
   rw[jo];clear jo;refine zQ 12 ?_;refine qr fun PW JQ=>?_;refine EvO.bF rfl (ev rfl) (by assumption) rfl (put_T rfl _) ?_;refine qa hH fun k5 st zO hH=>?_;dsimp only[u2,u1,u3,u4,setMany,u5,u6,D.cells,Nat.reduceAdd,nK,aS] at hH;refine EvO.hstoreA hH rfl (ev rfl) (ev rfl) (by rfl) (by exact rfl) (by exact at0) (by exact rfl) (by exact .inr (by assumption)) (fun st hH=>?_);dsimp only[u2,u1,u3,u4,setMany,u5,u6,D.cells,Nat.reduceAdd,nK,aS] at hH;refine zQ 3 ?_;refine EvO.hloadS (m:=7) hH rfl (ev rfl) (by exact at0) (by dsimp only[List.drop_succ_cons,List.drop_zero,List.take_succ_cons,List.take_zero,nK,aS]<;>rfl) rfl rfl (put_T rfl _) ?_;refine zQ 4 ?_;refine qv (xx jA (by omega)) ?_;refine zQ 12 ?_
   cases hsh:(eE n (g:Nat)).2 with
   |false=>
    rw[if_neg (by simp)];refine zQ 5 ?_;refine EvC.ret ⟨rx,_,_,_,rfl,ag (rfl),?_⟩;exact⟨rfl,_,_,bY.au bZ (hH.drop 1),hg,fun q hq=>by cases hq⟩
   |true=>
    rw[if_pos rfl];obtain⟨⟨pY,_⟩,hk2,BD⟩:=ve hsh;have IM:=jA.2.2;obtain⟨kd,IJ⟩:∃kd:Nat,(eE n (g:Nat)).1=(kd:Int):=Int.eq_ofNat_of_zero_le hk2;rw[IJ,Int.toNat_natCast];rw[IJ,Int.toNat_natCast] at pY;refine zQ 11 ?_;refine qT hH at1 fun st hH=>?_;dsimp only[u2,u1,u3,u4,setMany,u5,u6,D.cells,Nat.reduceAdd,nK,aS] at hH;refine zQ 8 ?_;refine EvC.merge (fun fr st=>∃(g2:Nat) (tmp:List (Nat×D)),fr=⟨8,[.ptr k 0 0,.int .i64 ((241-(f+1):Nat):Int),ng fr 2,ng fr 3,.bool false,.ptr k5 0 0,.int .i64 (kd:Nat),.bool true],tmp⟩∧Has N S2 st (.box k (.mem 0 false [d,.int .i64 ((at_+1:Nat):Int),.int .i64 (g2:Nat)])::.box k5 (.mem 0 false (aS n))::H)∧(g2=if n.op=6 then g+1 else g)∧(g2≤4)) ?_ ?_
    ·refine zI (fun q6=>?_) fun q6=>?_
     ·have:=BD q6;refine zQ 8 ?_;refine qT hH at1 fun st hH=>?_;dsimp only[u2,u1,u3,u4,setMany,u5,u6,D.cells,Nat.reduceAdd,nK,aS] at hH;refine zQ 1 ?_;exact⟨g+1,_,rfl,(by have:=hH.front at1;exact this),by rw[if_pos q6],by omega⟩
     ·refine zQ 1 ?_;exact⟨g,_,rfl,(by have:=hH.front at1;exact this),by rw[if_neg q6],hg⟩
    ·rintro fr st ⟨g2,tmp,hfr,hH,bL,hg3⟩;rw[hfr];clear hfr;generalize ng fr=ee;clear fr;rw[←bL];refine zQ 2 ?_;refine EvC.loop (fun mm fr st=>∃(kk a2 g4:Nat),fr.clean=⟨8,[.ptr k 0 0,.int .i64 ((241-(f+1):Nat):Int),ng fr 2,ng fr 3,.bool false,.ptr k5 0 0,.int .i64 (kk:Nat),.bool true],[]⟩∧Has N S2 st (.box k (.mem 0 false [d,.int .i64 (a2:Nat),.int .i64 (g4:Nat)])::.box k5 (.mem 0 false (aS n))::H)∧(iM (gC l f) kk a2 g4=iM (gC l f) kd (at_+1) g2)∧(g4≤4)∧(kk=mm)∧(kk≤9223372036854775807)) (kd) ?_ ?_
     ·exact⟨kd,at_+1,g2,rfl,hH,rfl,hg3,rfl,by omega⟩
     rintro mm fr st ⟨kk,a2,g4,hfr,hH,hX,cI,Ee,hkk⟩;rw[hfr];clear hfr;generalize ng fr=ee;clear fr;refine zQ 6 ?_
     cases kk with
     |zero=>
      refine EvC.cond (v:=false) (by dsimp only[Fr.ev,Fr.get,nth,V.look];rfl) (fun h=>by cases h) (fun _=>?_);refine zQ 5 ?_;refine EvC.ret ⟨rx,_,_,_,rfl,ag (rfl),?_⟩;exact⟨by rw[←hX];rfl,_,_,bY.au bZ (hH.erase 1),cI,fun q hq=>by rw[←hX] at hq;simp only[iM,Option.some.injEq] at hq;subst hq;exact⟨rfl,rfl⟩⟩
     |succ kk=>
      rw[iM] at hX;refine qD rfl (by simp) ?_;refine zQ 7 ?_;refine EvO.ke (z:=((241-f:Nat):Int)) rfl (ev rfl) (ev rfl) (by(try simp only[List.length_reverse,List.length_cons,List.length_nil,List.length_append,List.length_map,List.length_set]);rw[wrap_i64 (by omega) (by omega)]<;>omega) (put_T rfl _) ?_;obtain⟨_,st,hev,rfl,a',g',hH,ft,hq⟩:=ih (at_:=a2) (g:=g4) (by omega) cI hH;refine qv hev ?_;refine zQ 2 ?_
      cases ho:gC l f a2 g4 with
      |none=>
       rw[ho] at hX;refine zQ 5 ?_;refine EvC.ret ⟨rx,_,_,_,rfl,ag (rfl),?_⟩;exact⟨by rw[←hX];rfl,_,_,bY.au bZ (hH.erase 1),ft,fun q hq=>by rw[←hX] at hq;cases hq⟩
      |some q=>
       rw[ho] at hX;obtain⟨rfl,rfl⟩:=hq q ho;refine zQ 4 ?_;refine EvO.gR (z:=((kk:Nat):Int)) rfl (ev rfl) (ev rfl) (by(try simp only[List.length_reverse,List.length_cons,List.length_nil,List.length_append,List.length_map,List.length_set]);rw[wrap_i64 (by omega) (by omega)]<;>omega) (put_T rfl _) ?_;refine zQ 2 ?_;exact⟨mm-1,by omega,⟨kk,q.1,q.2,rfl,hH,hX,ft,by omega,by omega⟩⟩
theorem AE {s0:St} {x:Nl} (hx:x.ok):Ev pv 43 [x.d] s0 (.bool (fy x.l)) s0:=by
 refine Ev.mk1 rfl O7 rfl rfl rfl ?_;refine zE ?_;obtain⟨hSb,hF,hH⟩:=ri s0;generalize enterSt .ro s0=S at*;have hc:=hx.c.arg s0.bs.length S;have hl:=hx.nl;have sV:=hx.c;refine zQ 6 ?_;refine EvC.cutT 11 (.bool (decide (((x.l.length:Nat):Int)<1)||decide (((x.l.length:Nat):Int)>480))) [] ?_ (fun ff tmp htmp=>?_)
 ·refine qm ?_;refine qn ?_;simp only[List.length_map];refine zQ 2 ?_;refine EvO.two 7 rfl (fun hg3=>?_) (fun hg3=>?_)
  ·refine zQ 4 ?_;refine EvO.nil (leafT ?_ ?_)
   ·dsimp only[setW,List.foldl,nth,u2,u1]
    all_goals(first|rfl|simp)
   ·refine zF ?_
    all_goals(simp[hg3];done)
  ·refine zQ 1 ?_;refine qn ?_ (hg:=wi hg3);simp only[List.length_map];refine zQ 2 ?_;refine EvO.nil (leafT ?_ ?_)
   ·dsimp only[setW,List.foldl,nth,u2,u1]
    all_goals(first|rfl|simp)
   ·refine zF ?_
    all_goals(simp[hg3];done)
 dsimp only[setW,List.foldl,nth,u2,u1]
 by_cases hlen:1≤x.l.length∧x.l.length≤480
 ·have hT:(decide (((x.l.length:Nat):Int)<1)||decide (((x.l.length:Nat):Int)>480))=false:=by
   rw[Bool.or_eq_false_iff];exact⟨by rw[decide_eq_false_iff_not];omega,by rw[decide_eq_false_iff_not];omega⟩
  rw[hT] at htmp
  have hR:fy x.l=(match gC x.l 241 0 0 with|some r=>decide (r.1=x.l.length)|none=>false):=by
   unfold fy;rw[decide_eq_true hlen.1,decide_eq_true hlen.2];rfl
  rw[hR];clear hR;refine zQ 5 ?_;refine EvO.eX (qs:=[(0,_)]) rfl rfl rfl rfl ⟨rfl,(ev rfl),(by exact(SlD.cells (by assumption)).1),trivial⟩ (by intro q hq;simp only[List.mem_cons,List.not_mem_nil,or_false] at hq;rcases hq with rfl<;>exact⟨rfl,by exact Nat.le_of_ble_eq_true rfl⟩) (by show List.foldl _ [_,_,_] _=_;dsimp only[List.foldl_cons,List.foldl_nil,u2,u1]<;>rfl) (put_T rfl _) ?_;refine qb hH fun k14 st HL hH=>?_;refine zQ 2 ?_;have hH:Has s0.bs.length S st (.box k14 (.mem 0 false (nK x.d 0 0))::[]):=hH
  cases bL:(gC x.l 241 0 0).isSome with
  |true=>
   obtain⟨q,hq⟩:=Option.isSome_iff_exists.1 bL;refine zQ 3 ?_;obtain⟨_,st,hev,rfl,a',g',hH,ft,JL⟩:=Cx hl hx.i hx.c 241 (by omega) (by omega) hH;refine qv hev ?_;refine zQ 6 ?_;refine qn ?_ (hg:=wi bL);simp only[List.length_map];refine zQ 4 ?_;obtain⟨rfl,rfl⟩:=JL q hq;rw[hq]
   have he:decide (q.1=x.l.length)=(((q.1:Nat):Int)==((x.l.length:Nat):Int)):=by
    rw[Bool.eq_iff_iff];simp only[decide_eq_true_eq,beq_iff_eq];omega
   simp only[he];refine EvC.ret ⟨rx,_,rfl,rl hSb hH (rfl)⟩
  |false=>
   have hq:gC x.l 241 0 0=none:=by
    cases hq:gC x.l 241 0 0 with
    |none=>rfl
    |some q=>rw[hq] at bL;cases bL
   refine zQ 3 ?_;obtain⟨_,st,hev,rfl,a',g',hH,ft,JL⟩:=Cx hl hx.i hx.c 241 (by omega) (by omega) hH;refine qv hev ?_;refine zQ 11 ?_;rw[hq];refine EvC.ret ⟨rx,_,rfl,rl hSb hH (rfl)⟩
 ·have hT:(decide (((x.l.length:Nat):Int)<1)||decide (((x.l.length:Nat):Int)>480))=true:=by
   rw[Bool.or_eq_true,decide_eq_true_eq,decide_eq_true_eq];omega
  rw[hT] at htmp
  have hR:fy x.l=false:=by
   unfold fy
   by_cases h1:1≤x.l.length
   ·rw[decide_eq_true h1,decide_eq_false (fun h2=>hlen ⟨h1,h2⟩)];rfl
   ·rw[decide_eq_false h1];rfl
  rw[hR];refine zQ 5 ?_;refine EvC.ret ⟨rx,_,rfl,rl hSb hH (rfl)⟩
end Go.Proofs.YtnleclohocdkaaaGreat
