/-
 The parser of patterns: how often; lists of nodes joined.
-/
import Derived.Test.YtbdnabmmlbiomaaXGPb
import Derived.Test.YtbdnabmmlbiomaaXGM3
set_option maxRecDepth 100000
set_option maxHeartbeats 4000000
set_option linter.unusedSimpArgs false
set_option linter.unusedVariables false
namespace Go.Proofs.Ytbdnabmmlbiomaa
open Go.V Go
def hO (fr:Go.V.Fr) (k:Nat):Go.V.D:=Go.V.nth .bp fr.loc k
def nS (gs:List (Nat×Nat)) (s s':dQ):Prop:=s'.o=s.o∧s'.g=s.g∧s.i<s'.i∧s'.i≤gs.length
theorem x7 {N k:Nat} {S s0:St} {H:List bT} {gs:List (Nat×Nat)} {bk:D} {ba:List Int} {s:dQ} (cI:i_ gs ba) (he:s.e=0) (hi:s.i<gs.length) (hH:Has N S s0 (.box k (.mem 0 false (aQ gs bk s))::.aN bk 1 (ba.map av)::H)):
  ∃d ah,Ev pv 78 [.ptr k 0 0] s0 d ah∧∃(n1 n2:Int) (s':dQ),d=.tup [.int .i64 n1,.int .i64 n2]∧nS gs s s'∧Has N S ah (.box k (.mem 0 false (aQ gs bk s'))::.aN bk 1 (ba.map av)::H):=by
 have ni:=cI.gl;have gT:=cI.pl;have hne:gs≠[]:=by rintro rfl;simp at hi
 refine Ev.lX rfl Nh rfl rfl rfl ?_;dsimp only[u3,u4,List.length,Nat.reduceSub,Nat.reduceAdd,w1,w2];have cv:=hH;have hH:=hH.cw;have b4:(aq .rw s0).bs=s0.bs:=rfl;generalize aq .rw s0=S2 at*;refine qq<|qj fun K hK=>qm ?_;refine qm ?_;refine qe hK<|qq<|qj fun K hK=>qm ?_;refine qg ?_;refine qp (o:=2) ?_;refine ql hH aB ?_;refine qm ?_;refine qe hK<|qq<|qj fun K hK=>qm ?_;refine qg ?_;refine qp (o:=2) ?_;refine ql hH aB ?_;refine qA ?_;refine qg ?_;refine qp (o:=2) ?_;refine qT hH aB fun st hH=>?_;dsimp only[u2,u1,u3,u4,setMany,u5,u6,D.cells,Nat.reduceAdd,aQ,aY,av,ax] at hH;refine qe hK ?_;have hH:Has N S2 st (.box k (.mem 0 false (aQ gs bk {s with i:=s.i+1}))::.aN bk 1 (ba.map av)::H):=hH
 have yL:∀(st:St) (s3:dQ) (e:Int),e≠0→s3.e=0→nS gs s s3→Has N S2 st (.box k (.mem 0 false (aQ gs bk s3))::.aN bk 1 (ba.map av)::H)→∃d ah,Ev pv 36 [.ptr k 0 0,.int .i64 (s.i:Nat),.int .i64 e] st d ah∧d=.sl []∧∃s4,nS gs s s4∧Has N S2 ah (.box k (.mem 0 false (aQ gs bk s4))::.aN bk 1 (ba.map av)::H):=by
  intro st s3 e h0 h1 h2 hH;obtain⟨d,ah,aM,h4,hH⟩:=cD (s:=s3) s.i e (by omega) hH;obtain⟨w1,w2,w3,w4⟩:=cL (ba:=ba) (s:=s3) (i:=s.i) (e:=e) h1 h0;exact⟨d,ah,aM,h4,_,⟨w3.trans h2.1,w4.trans h2.2.1,by rw[w2];exact h2.2.2.1,by rw[w2];exact h2.2.2.2⟩,hH⟩
 refine qq<|qj fun K hK=>qm ?_;obtain⟨_,st,aM,m,ok,mm,rfl,yC,Q2,hH⟩:=oV (s:={s with i:=s.i+1}) ni (by show s.i+1≤_;omega) hne hH;refine qv aM ?_;refine qm ?_;refine qg ?_;refine qg ?_;refine qm ?_;refine qm ?_;refine qe hK ?_
 obtain⟨s1,nW⟩:∃s1:dQ,({s with i:=s.i+1+mm}:dQ)=s1:=⟨_,rfl⟩
 have Hh:s1.e=0:=by rw[←nW];exact he
 have yx:nS gs s s1:=by rw[←nW];exact⟨rfl,rfl,by show s.i<s.i+1+mm;omega,Q2⟩
 have hH:Has N S2 st (.box k (.mem 0 false (aQ gs bk s1))::.aN bk 1 (ba.map av)::H):=by rw[←nW];exact hH
 clear nW;refine qq<|qj fun K hK=>qm ?_;refine qm ?_;refine qm ?_;refine qe hK<|qq<|qq<|ag.mT (fun fr st=>∃(n:List UInt8) (en:Bool) (s3:dQ) (tmp:List (Nat×D)),fr=⟨14,[.ptr k 0 0,hO fr 1,hO fr 2,hO fr 3,.int .i64 (s.i:Nat),.str m,.bool ok,.str n,.bool en,hO fr 9,hO fr 10,hO fr 11,hO fr 12,hO fr 13],tmp⟩∧Has N S2 st (.box k (.mem 0 false (aQ gs bk s3))::.aN bk 1 (ba.map av)::H)∧(s3.e=0)∧(nS gs s s3)∧(n.length≤120)) ?_ ?_
 ·cases ok with
  |false=>
   have cY:false=false:=rfl;refine qj fun K hK=>qm ?_;refine qm ?_;refine qs ?_ (hg:=wn cY);refine qs ?_ (hg:=wn cY);refine qu cY ?_;refine qe hK<|qC ?_;refine ag.skip ?_;exact⟨m,false,s1,_,rfl,hH,Hh,yx,yC⟩
  |true=>
   have cY:true=true:=rfl;obtain⟨k1,k2,k3,k4,k5⟩:=fq (gs:=gs) (s:=s1) (r:=44);have k5:=k5 yx.2.2.2;refine qj fun K hK=>qm ?_;refine qm ?_;refine qm ?_ (hg:=wi cY);obtain⟨_,st,aM,rfl,hH⟩:=df (s:=s1) (by omega) 44 hH;refine qv aM ?_ (hg:=wi cY);refine qt cY ?_;refine qe hK ?_;generalize cB gs s1 44=s2 at*
   have CN:nS gs s s2:=⟨k1.trans yx.1,k2.trans yx.2.1,by have:=yx.2.2.1;omega,k5⟩
   cases hb:iR gs s1.i 44 with
   |false=>
    refine qC ?_;refine ag.skip ?_;exact⟨m,false,s2,_,rfl,hH,k3.trans Hh,CN,yC⟩
   |true=>
    refine qB ?_;refine qq<|qj fun K hK=>qm ?_;refine qe hK<|qq<|qj fun K hK=>qm ?_;obtain⟨_,st,aM,n,there,OC,rfl,OV,hni,hH⟩:=oV (s:=s2) ni k5 hne hH;refine qv aM ?_;refine qm ?_;refine qg ?_;refine qg ?_;refine qm ?_;refine qm ?_;refine qe hK<|qj fun K hK=>qm ?_;refine qg ?_;refine qm ?_;refine qe hK ?_;exact⟨n,!there,{s2 with i:=s2.i+OC},_,rfl,hH,k3.trans Hh,⟨CN.1,CN.2.1,by have:=CN.2.2.1;show s.i<s2.i+OC;omega,hni⟩,OV⟩
 ·rintro fr st ⟨n,en,s3,tmp,hfr,hH,h1,h2,h3⟩;rw[hfr];clear hfr;generalize hO fr=ee;clear fr;obtain⟨k1,k2,k3,k4,k5⟩:=fq (gs:=gs) (s:=s3) (r:=125);have k5:=k5 h2.2.2.2
  have wD:nS gs s (cB gs s3 125):=⟨k1.trans h2.1,k2.trans h2.2.1,by have:=h2.2.2.1;omega,k5⟩
  have CM:(cB gs s3 125).e=0:=k3.trans h1
  cases ok with
  |false=>
   have bH:(!false)=true:=rfl;refine qq<|qq<|qj fun K hK=>qm ?_;refine qg ?_;refine qm ?_;refine qs ?_ (hg:=wn bH);refine qs ?_ (hg:=wn bH);refine qs ?_ (hg:=wn bH);refine qt bH ?_;refine qm ?_;refine qs ?_;refine qs ?_;refine qs ?_;refine qs ?_;refine qs ?_;refine qs ?_;refine qs ?_;refine qg ?_;refine qe hK<|qB ?_;refine qq<|qj fun K hK=>qm ?_;refine qm ?_;obtain⟨_,st,aM,rfl,s4,Q4,hH⟩:=yL _ s3 4 (by decide) h1 h2 hH;refine qv aM ?_;refine qe hK<|qq<|qj fun K hK=>qm ?_;refine qm ?_;refine qe hK<|ag.ret ⟨rx,_,_,_,rfl,ak (rfl),?_⟩;exact⟨_,_,s4,rfl,Q4,cv.ay b4 hH⟩
  |true=>
   have bH:(!true)=false:=rfl
   cases jU:(!iR gs s3.i 125) with
   |true=>
    refine qq<|qq<|qj fun K hK=>qm ?_;refine qg ?_;refine qm ?_;refine qm ?_ (hg:=wi bH);obtain⟨_,st,aM,rfl,hH⟩:=df (s:=s3) (by omega) 125 hH;refine qv aM ?_ (hg:=wi bH);refine qg ?_ (hg:=wi bH);refine qu bH ?_;refine qm ?_;refine qs ?_ (hg:=wn jU);refine qs ?_ (hg:=wn jU);refine qs ?_ (hg:=wn jU);refine qs ?_;refine qs ?_;refine qs ?_;refine qs ?_ (hg:=wn jU);refine qt jU ?_;refine qe hK ?_;generalize cB gs s3 125=s4 at*;refine qB ?_;refine qq<|qj fun K hK=>qm ?_;refine qm ?_;obtain⟨_,st,aM,rfl,s5,Hr,hH⟩:=yL _ s4 4 (by decide) CM wD hH;refine qv aM ?_;refine qe hK<|qq<|qj fun K hK=>qm ?_;refine qm ?_;refine qe hK<|ag.ret ⟨rx,_,_,_,rfl,ak (rfl),?_⟩;exact⟨_,_,s5,rfl,Hr,cv.ay b4 hH⟩
   |false=>
    have fw:True:=trivial
    cases en with
    |true=>
     have aX:(!true)=false:=rfl;refine qq<|qq<|qj fun K hK=>qm ?_;refine qg ?_;refine qm ?_;refine qm ?_ (hg:=wi bH);obtain⟨_,st,aM,rfl,hH⟩:=df (s:=s3) (by omega) 125 hH;refine qv aM ?_ (hg:=wi bH);refine qg ?_ (hg:=wi bH);refine qu bH ?_;refine qm ?_;refine qm ?_ (hg:=wi jU);refine qg ?_ (hg:=wi jU);refine qm ?_ (hg:=wi jU);refine qs ?_ (hg:=wn aX);refine qs ?_ (hg:=wn aX);refine qs ?_ (hg:=wn aX);refine ab.cF (aj rfl rfl rfl jU) rfl aX (ae rfl _) ?_;refine qu jU ?_;refine qe hK ?_;generalize cB gs s3 125=s4 at*;refine qC ?_;refine ag.skip ?_;obtain⟨_,w8,a1,f1,rfl⟩:=j4 (s0:=st) m (by omega);refine qq<|qj fun K hK=>qm ?_;refine qv (w8) ?_;refine qm ?_;refine qg ?_;refine qg ?_;refine qm ?_;refine qm ?_;refine qe hK<|qq<|qq<|qj fun K hK=>qm ?_;refine qe hK<|qB ?_;refine qj fun K hK=>qm ?_;refine qe hK ?_;obtain⟨_,vl,a2,f2,rfl⟩:=j4 (s0:=st) [] (by simp);refine qq<|qj fun K hK=>qm ?_;refine qv (vl) ?_;refine qm ?_;refine qg ?_;refine qg ?_;refine qm ?_;refine qm ?_;refine qe hK<|qq<|qq<|ag.l7 78 (.bool (!f1||!f2)) [] ?_ (fun ff tmp il=>?_)
     ·refine qm ?_;refine qg ?_;refine qm ?_;refine ab.two 75 rfl (fun bH=>?_) (fun bH=>?_)
      ·refine qs ?_ (hg:=wn bH);refine qs ?_ (hg:=wn bH);refine qt bH ?_;refine ab.nil (dD ?_ ?_)
       ·dsimp only[aJ,List.foldl,nth,u2,u1]
        all_goals(first|rfl|simp)
       ·dsimp only[Fr.aC,Fr.put,Fr.clean,Fr.ev,Fr.get,nth,V.look,u1,u2,v1,v2,v3,v4,v5,v6,v7,List.length,u3,u4,Nat.reduceSub,Nat.reduceAdd,List.map]
        all_goals(simp[bH];done)
      ·refine qm ?_ (hg:=wi bH);refine qg ?_ (hg:=wi bH);refine qu bH ?_;refine ab.nil (dD ?_ ?_)
       ·dsimp only[aJ,List.foldl,nth,u2,u1]
        all_goals(first|rfl|simp)
       ·dsimp only[Fr.aC,Fr.put,Fr.clean,Fr.ev,Fr.get,nth,V.look,u1,u2,v1,v2,v3,v4,v5,v6,v7,List.length,u3,u4,Nat.reduceSub,Nat.reduceAdd,List.map]
        all_goals(simp[bH];done)
     dsimp only[aJ,List.foldl,nth,u2,u1];refine qc (fun wJ=>?_) (fun wJ=>?_)<;>try simp only[cs] at wJ
     ·refine qq<|qj fun K hK=>qm ?_;refine qm ?_;obtain⟨_,st,aM,rfl,s5,Hr,hH⟩:=yL _ s4 2 (by decide) CM wD hH;refine qv aM ?_;refine qe hK<|qq<|qj fun K hK=>qm ?_;refine qm ?_;refine qe hK<|ag.ret ⟨rx,_,_,_,rfl,ak (rfl),?_⟩;exact⟨_,_,s5,rfl,Hr,cv.ay b4 hH⟩
     ·refine ag.skip<|qq<|qq<|qj fun K hK=>qm ?_;refine qe hK<|qB ?_;refine qj fun K hK=>qm ?_;refine qe hK<|qq<|qj fun K hK=>qm ?_;refine qm ?_;refine qm ?_;refine qm ?_;refine qe hK<|ag.ret ⟨rx,_,_,_,rfl,ak (rfl),?_⟩;exact⟨_,_,s4,rfl,wD,cv.ay b4 hH⟩
    |false=>
     have aX:(!false)=true:=rfl;refine qq<|qq<|qj fun K hK=>qm ?_;refine qg ?_;refine qm ?_;refine qm ?_ (hg:=wi bH);obtain⟨_,st,aM,rfl,hH⟩:=df (s:=s3) (by omega) 125 hH;refine qv aM ?_ (hg:=wi bH);refine qg ?_ (hg:=wi bH);refine qu bH ?_;refine qm ?_;refine qm ?_ (hg:=wi jU);refine qg ?_ (hg:=wi jU);refine qm ?_ (hg:=wi jU);refine qm ?_ (hg:=wi aX);refine qm ?_ (hg:=wi aX);obtain⟨_,hle,v,rfl⟩:=CC (s0:=st) n m;refine ab.vy (aj rfl rfl rfl aX) rfl hle (ae rfl _) ?_;refine ab.dh (aj rfl rfl rfl jU) rfl aX (ae rfl _) ?_;refine qu jU ?_;refine qe hK ?_;generalize cB gs s3 125=s4 at*
     cases v with
     |true=>
      refine qB ?_;refine qq<|qj fun K hK=>qm ?_;refine qm ?_;obtain⟨_,st,aM,rfl,s5,Hr,hH⟩:=yL _ s4 4 (by decide) CM wD hH;refine qv aM ?_;refine qe hK<|qq<|qj fun K hK=>qm ?_;refine qm ?_;refine qe hK<|ag.ret ⟨rx,_,_,_,rfl,ak (rfl),?_⟩;exact⟨_,_,s5,rfl,Hr,cv.ay b4 hH⟩
     |false=>
      refine qC ?_;refine ag.skip ?_;obtain⟨_,w8,a1,f1,rfl⟩:=j4 (s0:=st) m (by omega);refine qq<|qj fun K hK=>qm ?_;refine qv (w8) ?_;refine qm ?_;refine qg ?_;refine qg ?_;refine qm ?_;refine qm ?_;refine qe hK<|qq<|qq<|qj fun K hK=>qm ?_;refine qe hK<|qC ?_;refine ag.skip ?_;obtain⟨_,vl,a2,f2,rfl⟩:=j4 (s0:=st) n (by omega);refine qq<|qj fun K hK=>qm ?_;refine qv (vl) ?_;refine qm ?_;refine qg ?_;refine qg ?_;refine qm ?_;refine qm ?_;refine qe hK<|qq<|qq<|ag.l7 78 (.bool (!f1||!f2)) [] ?_ (fun ff tmp il=>?_)
      ·refine qm ?_;refine qg ?_;refine qm ?_;refine ab.two 75 rfl (fun bH=>?_) (fun bH=>?_)
       ·refine qs ?_ (hg:=wn bH);refine qs ?_ (hg:=wn bH);refine qt bH ?_;refine ab.nil (dD ?_ ?_)
        ·dsimp only[aJ,List.foldl,nth,u2,u1]
         all_goals(first|rfl|simp)
        ·dsimp only[Fr.aC,Fr.put,Fr.clean,Fr.ev,Fr.get,nth,V.look,u1,u2,v1,v2,v3,v4,v5,v6,v7,List.length,u3,u4,Nat.reduceSub,Nat.reduceAdd,List.map]
         all_goals(simp[bH];done)
       ·refine qm ?_ (hg:=wi bH);refine qg ?_ (hg:=wi bH);refine qu bH ?_;refine ab.nil (dD ?_ ?_)
        ·dsimp only[aJ,List.foldl,nth,u2,u1]
         all_goals(first|rfl|simp)
        ·dsimp only[Fr.aC,Fr.put,Fr.clean,Fr.ev,Fr.get,nth,V.look,u1,u2,v1,v2,v3,v4,v5,v6,v7,List.length,u3,u4,Nat.reduceSub,Nat.reduceAdd,List.map]
         all_goals(simp[bH];done)
      dsimp only[aJ,List.foldl,nth,u2,u1];refine qc (fun wJ=>?_) (fun wJ=>?_)<;>try simp only[cs] at wJ
      ·refine qq<|qj fun K hK=>qm ?_;refine qm ?_;obtain⟨_,st,aM,rfl,s5,Hr,hH⟩:=yL _ s4 2 (by decide) CM wD hH;refine qv aM ?_;refine qe hK<|qq<|qj fun K hK=>qm ?_;refine qm ?_;refine qe hK<|ag.ret ⟨rx,_,_,_,rfl,ak (rfl),?_⟩;exact⟨_,_,s5,rfl,Hr,cv.ay b4 hH⟩
      ·refine ag.skip<|qq<|qq<|qj fun K hK=>qm ?_;refine qe hK<|qC ?_;refine ag.skip<|qq<|qj fun K hK=>qm ?_;refine qm ?_;refine qm ?_;refine qm ?_;refine qe hK<|ag.ret ⟨rx,_,_,_,rfl,ak (rfl),?_⟩;exact⟨_,_,s4,rfl,wD,cv.ay b4 hH⟩
def ct (fr:Go.V.Fr) (k:Nat):Go.V.D:=Go.V.nth .bp fr.loc k
theorem mK:∀{l:List D},(∀d∈l,bY d=true)→refs l=0
 |[],_=>rfl
 |d::l,h=>by
  have h1:=mK (l:=l) fun d hd=>h d (List.mem_cons_of_mem _ hd);have h2:=h d (List.mem_cons_self ..)
  have h3:d.ref=0:=by cases d<;>first|rfl|(simp[bY] at h2)
  simp only[refs,h1,h3,Nat.max_self]
theorem oz {l:List dj} (h:∀n∈l,qV n):refs (l.map a8).flatten=0:=
 mK fun d hd=>by
  obtain⟨e,he,vx⟩:=List.mem_flatten.1 hd;exact kY h e he d vx
def c9 (l:List dj):List D:=[qX l]
theorem rI {l:List (List dj)} {i:Nat} {q:List dj} (h:l[i]?=some q):(l.map c9)[i]?=some (c9 q):=by rw[List.getElem?_map,h];rfl
def dY:List (List dj)→Nat
 |[]=>0
 |l::ls=>l.length+dY ls
theorem cT:∀a b:List (List dj),dY (a++b)=dY a+dY b
 |[],b=>by simp[dY]
 |l::a,b=>by rw[List.cons_append,dY,dY,cT a b];omega
theorem oK {s0:St} {x:D} {parts:List (List dj)} (op:Int) (hx:V.Rows s0 1 x (parts.map c9)) (hv:∀l∈parts,∀n∈l,qV n) (hp:parts.length≤100000) (hs:dY parts≤100000):∃d,Ev pv 59 [.int .i64 op,x] s0 d s0∧∃l,d=qX l∧(∀n∈l,qV n)∧(parts.length=1→l.length≤dY parts)∧l.length≤dY parts+1:=by
 refine Ev.Dt rfl Nv rfl rfl rfl ?_;dsimp only[u3,u4,List.length,Nat.reduceSub,Nat.reduceAdd,w1,w2];obtain⟨cn,hF,hH⟩:=ri s0;generalize aq .ro s0=S at*;have hx:=Arg.of hx cn;refine qq<|qj fun K hK=>qm ?_;refine qe hK<|qq<|qq<|qj fun K hK=>qm ?_;refine qn ?_;simp only[List.length_map];refine qe hK<|ag.block<|qq<|qj fun K hK=>qg ?_;refine qm ?_;refine qe hK ?_
 by_cases h0:parts.length=0
 ·refine qD rfl (by simp[h0]) ?_;refine qq<|qj fun K hK=>?_;refine ab.go (d:=.agg [.int .i64 1,.nul,.int .i64 0,.int .i64 0,.bool false,.int .i64 0,.int .i64 0]) (st1:=_) rfl rfl rfl (by dsimp only[Fr.put,u1,u2]<;>rfl) ?_;refine qh (s:=7) (vs:=[_]) hH fun k13 st Hy hH=>?_;refine qm ?_;refine qe hK ?_;have hfz:=gh (L:=s0.bs.length) (a:=[]) hH aB (.inr ⟨rfl,rfl⟩) (fun k hk=>by have h_:k13+1=k+1:=hk;rw[←cn];omega);refine ag.ret ⟨rx,_,_,rfl,rl cn hH (hfz),?_⟩;exact⟨_,rfl,yf (by simp) (by omega),by omega,by simp⟩
 have Kc:(((parts.length:Nat):Int)==0)=false:=by rw[beq_eq_false_iff_ne];omega
 refine qE rfl (by rw[Kc]) ?_;refine qq<|qj fun K hK=>qg ?_;refine qm ?_;refine qe hK ?_
 by_cases h1:parts.length=1
 ·obtain⟨q,hq⟩:∃q,parts[0]?=some q:=⟨parts[0]'(by omega),List.getElem?_eq_getElem _⟩
  have gM:=rI hq
  have CP:parts=[q]:=by
   match parts,h1,hq with
   |[a],_,hq=>simp at hq;rw[hq]
  refine qD rfl (by simp[h1]) ?_;refine qq<|qj fun K hK=>qm ?_;refine qr fun PS L9=>?_;refine qR ?_;refine qm ?_;refine qe hK<|ag.ret ⟨rx,_,_,rfl,rl cn hH (rfl),?_⟩;refine⟨q,rfl,hv q (List.mem_of_getElem? hq),fun _=>?_,?_⟩<;>rw[CP]<;>simp[dY]
 have zE:(((parts.length:Nat):Int)==1)=false:=by rw[beq_eq_false_iff_ne];omega
 refine qE rfl (by rw[zE]) ?_;refine ag.skip<|qq<|qj fun K hK=>qm ?_;refine qm ?_;refine qn ?_;simp only[List.length_map];refine ab.go (d:=.agg [.int .i64 op,.nul,.int .i64 0,.int .i64 0,.bool false,.int .i64 0,.int .i64 (parts.length:Nat)]) (st1:=_) rfl rfl rfl (by dsimp only[Fr.put,u1,u2]<;>rfl) ?_;refine qh (s:=7) (vs:=[_]) hH fun k23 st Rt hH=>?_;refine qm ?_;refine qe hK<|qq<|qq<|qj fun K hK=>qm ?_;refine qn ?_;simp only[List.length_map];refine qm ?_;refine qe hK ?_;have hH:Has s0.bs.length S st (.aN (.win k23 0 0 1 7) 7 [[.int .i64 op,.nul,.int .i64 0,.int .i64 0,.bool false,.int .i64 0,.int .i64 (parts.length:Nat)]]::[]):=hH;refine ag.block<|ag.loop (fun mm fr st=>∃(i:Nat) (od:D) (es:List (List D)) (lo:List dj),fr.clean=⟨27,[ct fr 0,ct fr 1,ct fr 2,ct fr 3,ct fr 4,od,ct fr 6,ct fr 7,ct fr 8,ct fr 9,ct fr 10,ct fr 11,ct fr 12,ct fr 13,ct fr 14,ct fr 15,ct fr 16,ct fr 17,ct fr 18,ct fr 19,ct fr 20,ct fr 21,ct fr 22,ct fr 23,x,.int .i64 (parts.length:Nat),.int .i64 (i:Nat)],[]⟩∧Has s0.bs.length S st [.aN od 7 es]∧(i+mm=parts.length)∧(es.map (·.map l5)=lo.map a8)∧(∀e∈es,∀d∈e,lF d=true)∧(∀n∈lo,qV n)∧(lo.length=1+dY (parts.take i))∧(∀k,od.ref=k+1→S.bs.length≤k)) (parts.length) ?_ ?_
 ·refine⟨0,.win k23 0 0 1 7,[[.int .i64 op,.nul,.int .i64 0,.int .i64 0,.bool false,.int .i64 0,.int .i64 (parts.length:Nat)]],[pH op 0 0 false 0 (parts.length:Nat) []],rfl,hH,by omega,rfl,?_,yf (by simp) (by omega),by simp[dY],fun k hk=>by simp only[D.ref] at hk;omega⟩;intro e he d hd;simp only[List.mem_cons,List.not_mem_nil,or_false] at he;subst he;simp only[List.mem_cons,List.not_mem_nil,or_false] at hd
  rcases hd with rfl|rfl|rfl|rfl|rfl|rfl|rfl<;>rfl
 rintro mm fr st ⟨i,od,es,lo,hfr,hH,hi,ua,ht,DE,hlen,DC⟩;rw[hfr];clear hfr;generalize ct fr=ee;clear fr;refine qq<|qj fun K hK=>qg ?_;refine qe hK ?_
 by_cases hlt:i<parts.length
 ·obtain⟨q,hq⟩:∃q,parts[i]?=some q:=⟨parts[i]'hlt,List.getElem?_eq_getElem _⟩
  have gM:=rI hq;have KJ:=hv q (List.mem_of_getElem? hq);have q9:es.length=lo.length:=by have:=congrArg List.length ua;simpa using this
  have Qe:parts.take (i+1)=parts.take i++[q]:=by rw[List.take_add_one,hq];rfl
  have LB:dY (parts.take (i+1))=dY (parts.take i)+q.length:=by rw[Qe,cT];simp[dY]
  have Qj:dY (parts.take (i+1))≤dY parts:=by
   have:=cT (parts.take (i+1)) (parts.drop (i+1));rw[List.take_append_drop] at this;omega
  refine qq<|qD rfl (by simp;omega) ?_;refine ag.skip<|qq<|ag.block<|qq<|qj fun K hK=>qr fun S4 QT=>?_;refine qR ?_;refine qm ?_;refine qe hK<|qj fun K hK=>qm ?_;refine qm ?_;refine ab.nx (s:=7) hH rfl (ev rfl) (ev rfl) aB ((oA KJ).rows st) rfl rfl rfl rfl rfl rfl rfl ⟨(Nat.le_of_ble_eq_true rfl),(Nat.le_of_ble_eq_true rfl)⟩ (fun _=>(ae rfl _)) (by rw[List.length_map];omega) (.inl hF) DC (fun Pu st DC hH=>?_);dsimp only[u2] at hH;refine qm ?_;refine qe hK<|qj fun K hK=>qA ?_;refine qm ?_;refine qe hK ?_;refine⟨mm-1,by omega,⟨i+1,Pu,es++q.map a8,lo++q,rfl,hH,by omega,by rw[List.map_append,List.map_append,ua,pE KJ],?_,?_,by rw[List.length_append,hlen,LB];omega,DC⟩⟩
  ·intro e he
   rcases List.mem_append.1 he with he|he
   ·exact ht e he
   ·exact mS KJ e he
  ·intro n hn
   rcases List.mem_append.1 hn with hn|hn
   ·exact DE n hn
   ·exact KJ n hn
 ·refine qq<|qE rfl (by simp;omega) ?_;refine ag.exit<|qq<|qj fun K hK=>qm ?_;refine qm ?_;refine qe hK ?_;have hik:i=parts.length:=by omega
  rw[hik,List.take_length] at hlen;refine ag.ret ⟨rx,_,_,rfl,rl cn hH (gg hH aB ua ht (fun k hk=>by have:=DC k hk;rw[←cn];exact this) (by decide)),?_⟩;exact⟨_,rfl,DE,by omega,by omega⟩
def eQ (fr:Go.V.Fr) (k:Nat):Go.V.D:=Go.V.nth .bp fr.loc k
theorem kM {N:Nat} {S st:St} {H:List bT} {a b c:bT} (h:Has N S st (a::b::c::H)):Has N S st (b::c::a::H):=by
 have h1:=h.front bN;have h2:=h1.front ei;exact h2.front bN
def jw (m:Nat):Prop:=∀{N k:Nat} {S s0:St} {H:List bT} {gs:List (Nat×Nat)} {bk:D} {ba:List Int} {s:dQ},i_ gs ba→s.e=0→s.i≤gs.length→s.g≤4→s.o+m=20→Has N S s0 (.box k (.mem 0 false (aQ gs bk s))::.aN bk 1 (ba.map av)::H)→
 ∃d ah,Ev pv 35 [.ptr k 0 0] s0 d ah∧∃(s':dQ),qU gs s s' d∧Has N S ah (.box k (.mem 0 false (aQ gs bk s'))::.aN bk 1 (ba.map av)::H)
theorem yV {m:Nat} (hA:∀m',m'+1=m→jw m') {N k:Nat} {S s0:St} {H:List bT} {gs:List (Nat×Nat)} {bk:D} {ba:List Int} {s:dQ} (cI:i_ gs ba) (he:s.e=0) (hi:s.i<gs.length) (hg:s.g≤4) (ho:s.o+m=20) (hH:Has N S s0 (.box k (.mem 0 false (aQ gs bk s))::.aN bk 1 (ba.map av)::H)):
  ∃d ah,Ev pv 84 [.ptr k 0 0] s0 d ah∧∃(s':dQ),gz gs s s' d 2∧Has N S ah (.box k (.mem 0 false (aQ gs bk s'))::.aN bk 1 (ba.map av)::H):=by
 have ni:=cI.gl;have gT:=cI.pl;refine Ev.lX rfl Nc rfl rfl rfl ?_;dsimp only[u3,u4,List.length,Nat.reduceSub,Nat.reduceAdd,w1,w2];have cv:=hH;have hH:=hH.cw;have b4:(aq .rw s0).bs=s0.bs:=rfl;generalize aq .rw s0=S2 at*
 have hwr:∀(st:St) (s3:dQ) (e:Int) (H2:List bT),e≠0→s3.e=0→s3.o=s.o→s3.g≤4→s.i≤s3.i→s3.i≤gs.length→Has N S2 st (.box k (.mem 0 false (aQ gs bk s3))::.aN bk 1 (ba.map av)::H2)→∃d ah,Ev pv 36 [.ptr k 0 0,.int .i64 (s.i:Nat),.int .i64 e] st d ah∧d=.sl []∧∃s4,gz gs s s4 (.sl []) 2∧Has N S2 ah (.box k (.mem 0 false (aQ gs bk s4))::.aN bk 1 (ba.map av)::H2):=by
  intro st s3 e H2 h0 h1 h2 h3 h4 h5 hH;obtain⟨d,ah,aM,h6,hH⟩:=cD (s:=s3) s.i e (by omega) hH;obtain⟨w1,w2,w3,w4⟩:=cL (ba:=ba) (s:=s3) (i:=s.i) (e:=e) h1 h0;exact⟨d,ah,aM,h6,_,eO (w3.trans h2) (by omega) (by omega) (by omega) w1,hH⟩
 refine qq<|qj fun K hK=>qm ?_;refine qe hK<|qq<|qj fun K hK=>qm ?_;refine qg ?_;refine qp (o:=2) ?_;refine ql hH aB ?_;refine qm ?_;refine qe hK<|qq<|qj fun K hK=>qm ?_;refine qg ?_;refine qp (o:=2) ?_;refine ql hH aB ?_;refine qA ?_;refine qg ?_;refine qp (o:=2) ?_;refine qT hH aB fun st hH=>?_;dsimp only[u2,u1,u3,u4,setMany,u5,u6,D.cells,Nat.reduceAdd,aQ,aY,av,ax,a8] at hH;refine qe hK ?_;have hH:Has N S2 st (.box k (.mem 0 false (aQ gs bk {s with i:=s.i+1}))::.aN bk 1 (ba.map av)::H):=hH
 obtain⟨s1,nW⟩:∃s1:dQ,({s with i:=s.i+1}:dQ)=s1:=⟨_,rfl⟩
 have LJ:s1.e=0∧s1.o=s.o∧s1.g=s.g∧s1.i=s.i+1:=by rw[←nW];exact⟨he,rfl,rfl,rfl⟩
 rw[nW] at hH;clear nW;obtain⟨f1,f2,f3,f4⟩:=LJ;refine qq<|qj fun K hK=>qm ?_;refine qe hK<|qq<|qq<|ag.mT (fun fr st=>∃(free:Bool) (s2:dQ) (tmp:List (Nat×D)),fr=⟨7,[.ptr k 0 0,eQ fr 1,eQ fr 2,.int .i64 (s.i:Nat),.bool free,eQ fr 5,eQ fr 6],tmp⟩∧Has N S2 st (.box k (.mem 0 false (aQ gs bk s2))::.aN bk 1 (ba.map av)::H)∧(s2.e=0)∧(s2.o=s.o)∧(s2.g=s.g)∧(s.i+1≤s2.i)∧(s2.i≤gs.length)) ?_ ?_
 ·obtain⟨k1,k2,k3,k4,k5⟩:=fq (gs:=gs) (s:=s1) (r:=63);have k5:=k5 (by omega);refine qj fun K hK=>qm ?_;obtain⟨_,st,aM,rfl,hH⟩:=df (s:=s1) (by omega) 63 hH;refine qv aM ?_;refine qe hK ?_;generalize cB gs s1 63=s2 at*
  cases hb:iR gs s1.i 63 with
  |false=>
   refine qC ?_;refine ag.skip ?_;exact⟨false,s2,_,rfl,hH,by omega,by omega,by omega,by omega,by omega⟩
  |true=>
   refine qB ?_;refine qq<|qj fun K hK=>qm ?_;refine qe hK ?_;obtain⟨r1,r2,r3,r4,r5⟩:=fq (gs:=gs) (s:=s2) (r:=58);have r5:=r5 k5;refine qq<|qj fun K hK=>qm ?_;obtain⟨_,st,aM,rfl,hH⟩:=df (s:=s2) (by omega) 58 hH;refine qv aM ?_;refine qg ?_;refine qe hK ?_;generalize cB gs s2 58=s3 at*
   cases hb2:iR gs s2.i 58 with
   |false=>
    refine qB ?_;refine qq<|qj fun K hK=>qm ?_;refine qm ?_;obtain⟨_,st,aM,rfl,s4,hN,hH⟩:=hwr _ s3 4 _ (by decide) (by omega) (by omega) (by omega) (by omega) (by omega) hH;refine qv aM ?_;refine qm ?_;refine qe hK<|ag.ret ⟨rx,_,_,_,rfl,ak (rfl),?_⟩;exact⟨s4,hN,cv.ay b4 hH⟩
   |true=>
    refine qC ?_;refine ag.skip ?_;exact⟨true,s3,_,rfl,hH,by omega,by omega,by omega,by omega,by omega⟩
 ·rintro fr st ⟨free,s2,tmp,hfr,hH,h1,h2,h3,h4,h5⟩;rw[hfr];clear hfr;generalize eQ fr=ee;clear fr;refine qq<|qq<|qj fun K hK=>qm ?_;refine qg ?_;refine qp (o:=3) ?_;refine ql hH aB ?_;refine qg ?_;refine qe hK ?_
  by_cases O7:20≤s2.o
  ·have fG:decide (((s2.o:Nat):Int)≥20)=true:=by rw[decide_eq_true_eq];omega
   refine qD rfl (by rw[fG]) ?_;refine qq<|qj fun K hK=>qm ?_;refine qm ?_;obtain⟨_,st,aM,rfl,s4,hN,hH⟩:=hwr _ s2 10 _ (by decide) h1 h2 (by omega) (by omega) h5 hH;refine qv aM ?_;refine qm ?_;refine qe hK<|ag.ret ⟨rx,_,_,_,rfl,ak (rfl),?_⟩;exact⟨s4,hN,cv.ay b4 hH⟩
  have fG:decide (((s2.o:Nat):Int)≥20)=false:=by rw[decide_eq_false_iff_not];omega
  refine qE rfl (by rw[fG]) ?_;refine ag.skip<|qq<|qj fun K hK=>ab.go (d:=.agg [.int .i64 6,.nul,.int .i64 0,.int .i64 0,.bool false,.int .i64 0,.int .i64 1]) (st1:=_) rfl rfl rfl (ae rfl _) ?_;refine qa hH fun k5 st JV hH=>?_;dsimp only[u2,u1,u3,u4,setMany,u5,u6,D.cells,Nat.reduceAdd,aQ,aY,av,ax,a8] at hH;refine qS hH aB fun st hH=>?_;dsimp only[u2,u1,u3,u4,setMany,u5,u6,D.cells,Nat.reduceAdd,aQ,aY,av,ax,a8] at hH;refine qe hK ?_;have hH:Has N S2 st (.box k (.mem 0 false (aQ gs bk s2))::.aN bk 1 (ba.map av)::.box k5 (.mem 0 false [.int .i64 6,.nul,.int .i64 0,.int .i64 0,.bool false,.int .i64 0,.int .i64 1])::H):=kM hH;refine qq<|qq<|ag.mT (fun fr st=>∃(cap:Int) (s3:dQ) (tmp:List (Nat×D)),fr=⟨7,[.ptr k 0 0,eQ fr 1,eQ fr 2,.int .i64 (s.i:Nat),.bool free,.ptr k5 0 0,eQ fr 6],tmp⟩∧Has N S2 st (.box k (.mem 0 false (aQ gs bk s3))::.aN bk 1 (ba.map av)::.box k5 (.mem 0 false [.int .i64 6,.nul,.int .i64 0,.int .i64 0,.bool false,.int .i64 cap,.int .i64 1])::H)∧(s3.e=0)∧(s3.o=s.o)∧(s3.g≤4)∧(s3.i=s2.i)) ?_ ?_
  ·refine qj fun K hK=>qm ?_;refine qg ?_;refine qe hK ?_
   cases free with
   |true=>
    refine qC ?_;refine ag.skip ?_;exact⟨0,s2,_,rfl,hH,h1,h2,by omega,rfl⟩
   |false=>
    refine qB ?_;refine qq<|qq<|qj fun K hK=>qm ?_;refine qg ?_;refine qp (o:=4) ?_;refine ql hH aB ?_;refine qg ?_;refine qe hK ?_
    by_cases OX:4≤s2.g
    ·have fG:decide (((s2.g:Nat):Int)≥4)=true:=by rw[decide_eq_true_eq];omega
     refine qD rfl (by rw[fG]) ?_;refine qq<|qj fun K hK=>qm ?_;refine qm ?_;obtain⟨_,st,aM,rfl,s4,hN,hH⟩:=hwr _ s2 13 _ (by decide) h1 h2 (by omega) (by omega) h5 hH;refine qv aM ?_;refine qm ?_;refine qe hK<|ag.ret ⟨rx,_,_,_,rfl,ak (rfl),?_⟩;exact⟨s4,hN,cv.ay b4 (hH.erase 2)⟩
    ·have fG:decide (((s2.g:Nat):Int)≥4)=false:=by rw[decide_eq_false_iff_not];omega
     refine qE rfl (by rw[fG]) ?_;refine ag.skip<|qq<|qj fun K hK=>qm ?_;refine qg ?_;refine qp (o:=4) ?_;refine ql hH aB ?_;refine qA ?_;refine qg ?_;refine qp (o:=4) ?_;refine qT hH aB fun st hH=>?_;dsimp only[u2,u1,u3,u4,setMany,u5,u6,D.cells,Nat.reduceAdd,aQ,aY,av,ax,a8] at hH;refine qe hK<|qj fun K hK=>qm ?_;refine qg ?_;refine qp (o:=4) ?_;refine ql hH aB ?_;refine qp (o:=5) ?_;refine qT hH ei fun st hH=>?_;dsimp only[u2,u1,u3,u4,setMany,u5,u6,D.cells,Nat.reduceAdd,aQ,aY,av,ax,a8] at hH;refine qe hK ?_;exact⟨((s2.g+1:Nat):Int),{s2 with g:=s2.g+1},_,rfl,hH,h1,h2,by show s2.g+1≤4;omega,rfl⟩
  ·rintro fr st ⟨cap,s3,tmp,hfr,hH,e1,e2,e3,e4⟩;rw[hfr];clear hfr;generalize eQ fr=ee;clear fr;refine qq<|qj fun K hK=>qm ?_;refine qg ?_;refine qp (o:=3) ?_;refine ql hH aB ?_;refine qA ?_;refine qg ?_;refine qp (o:=3) ?_;refine qT hH aB fun st hH=>?_;dsimp only[u2,u1,u3,u4,setMany,u5,u6,D.cells,Nat.reduceAdd,aQ,aY,av,ax,a8] at hH;refine qe hK ?_;have hH:Has N S2 st (.box k (.mem 0 false (aQ gs bk {s3 with o:=s3.o+1}))::.aN bk 1 (ba.map av)::.box k5 (.mem 0 false [.int .i64 6,.nul,.int .i64 0,.int .i64 0,.bool false,.int .i64 cap,.int .i64 1])::H):=hH;refine qq<|qj fun K hK=>qm ?_;obtain⟨_,st,aM,s4,⟨a1,a2,a3,a4,l,rfl,a5,a6⟩,hH⟩:=hA (m-1) (by omega) (s:={s3 with o:=s3.o+1}) cI e1 (by show s3.i≤_;omega) e3 (by show s3.o+1+(m-1)=20;omega) hH;refine qv aM ?_;refine qm ?_;refine qe hK ?_;have a1:s4.o=s3.o+1:=a1;have a3:s3.i≤s4.i:=a3;have a6:l.length≤4*(s4.i-s3.i)+1:=a6;have hla:=(oA a5).arg N S2;refine qq<|qj fun K hK=>qm ?_;refine qg ?_;refine qp (o:=3) ?_;refine ql hH aB ?_;refine ab.j7 (z:=((s.o:Nat):Int)) rfl (ev rfl) (ev rfl) (by(try simp only[List.length_reverse,List.length_cons,List.length_nil,List.length_append,List.length_map,List.length_set]);rw[wrap_i64 (by omega) (by omega)]<;>omega) (ae rfl _) ?_;refine qg ?_;refine qp (o:=3) ?_;refine qT hH aB fun st hH=>?_;dsimp only[u2,u1,u3,u4,setMany,u5,u6,D.cells,Nat.reduceAdd,aQ,aY,av,ax,a8] at hH;refine qe hK ?_
   obtain⟨s5,LH⟩:∃s5:dQ,({s4 with o:=s.o}:dQ)=s5:=⟨_,rfl⟩
   have hH:Has N S2 st (.box k (.mem 0 false (aQ gs bk s5))::.aN bk 1 (ba.map av)::.box k5 (.mem 0 false [.int .i64 6,.nul,.int .i64 0,.int .i64 0,.bool false,.int .i64 cap,.int .i64 1])::H):=by rw[←LH];exact hH
   have LG:s5.o=s.o∧s5.g=s4.g∧s5.i=s4.i:=by rw[←LH];exact⟨rfl,rfl,rfl⟩
   clear LH;obtain⟨b1,b2,b3⟩:=LG;refine qq<|qq<|ag.mT (fun fr st=>∃(s6:dQ) (tmp:List (Nat×D)),fr=⟨7,[.ptr k 0 0,eQ fr 1,eQ fr 2,eQ fr 3,.bool free,.ptr k5 0 0,qX l],tmp⟩∧Has N S2 st (.box k (.mem 0 false (aQ gs bk s6))::.aN bk 1 (ba.map av)::.box k5 (.mem 0 false [.int .i64 6,.nul,.int .i64 0,.int .i64 0,.bool false,.int .i64 cap,.int .i64 1])::H)∧(s6.o=s.o)∧(s6.g≤4)∧(s4.i≤s6.i)∧(s6.i≤gs.length)∧(s6.e≠0∨s6.e=0∧s4.i<s6.i)) ?_ ?_
   ·by_cases MG:s5.e=0
    ·have bn:(s5.e==0)=true:=by simpa using MG
     obtain⟨k1,k2,k3,k4,OD⟩:=fq (gs:=gs) (s:=s5) (r:=41);have OD:=OD (by omega);have hsk:iR gs s5.i 41=true→(cB gs s5 41).i=s5.i+1:=fun h=>by unfold cB;rw[if_pos h]
     refine qj fun K hK=>qm ?_;refine qg ?_;refine qp (o:=5) ?_;refine ql hH aB ?_;refine qg ?_;refine qm ?_;refine qm ?_ (hg:=wi bn);obtain⟨_,st,aM,rfl,hH⟩:=df (s:=s5) (by omega) 41 hH;refine qv aM ?_ (hg:=wi bn);refine qg ?_ (hg:=wi bn);refine qt bn ?_;refine qe hK ?_;generalize cB gs s5 41=s6 at*
     cases hb:iR gs s5.i 41 with
     |false=>
      refine qB ?_;refine qq<|qj fun K hK=>qm ?_;refine qm ?_;obtain⟨_,st,aM,rfl,s7,hN,hH⟩:=hwr _ s6 4 _ (by decide) (by omega) (by omega) (by omega) (by omega) (by omega) hH;refine qv aM ?_;refine qm ?_;refine qe hK<|ag.ret ⟨rx,_,_,_,rfl,ak (rfl),?_⟩;exact⟨s7,hN,cv.ay b4 (hH.erase 2)⟩
     |true=>
      have hsk:=hsk hb;refine qC ?_;refine ag.skip ?_;exact⟨s6,_,rfl,hH,by omega,by omega,by omega,by omega,.inr ⟨by omega,by omega⟩⟩
    ·have bn:(s5.e==0)=false:=by simpa using MG
     refine qj fun K hK=>qm ?_;refine qg ?_;refine qp (o:=5) ?_;refine ql hH aB ?_;refine qg ?_;refine qm ?_;refine qs ?_ (hg:=wn bn);refine qs ?_ (hg:=wn bn);refine qs ?_ (hg:=wn bn);refine qu bn ?_;refine qe hK<|qC ?_;refine ag.skip ?_;exact⟨s5,_,rfl,hH,b1,by omega,by omega,by omega,.inl MG⟩
   ·rintro fr st ⟨s6,tmp,hfr,hH,c1,c2,c3,c4,c5⟩;rw[hfr];clear hfr;generalize eQ fr=ee;clear fr;refine qq<|qq<|qj fun K hK=>qm ?_;refine qe hK ?_
    cases free with
    |true=>
     refine qB ?_;refine qq<|qj fun K hK=>qm ?_;refine qm ?_;refine qe hK<|ag.ret ⟨rx,_,_,_,rfl,ak (rfl),?_⟩;refine⟨s6,⟨c1,c2,by omega,c4,l,rfl,a5,by omega,?_⟩,cv.ay b4 (hH.erase 2)⟩
     rcases c5 with c5|⟨c5,c6⟩
     ·exact .inl c5
     ·exact .inr ⟨c5,by omega⟩
    |false=>
     refine qC ?_;refine ag.skip<|qq<|qj fun K hK=>?_;refine ab.b9 (m:=7) hH rfl (ev rfl) (by exact ei) (by dsimp only[List.drop_succ_cons,List.drop_zero,List.take_succ_cons,List.take_zero,aQ,aY,av,ax,a8]<;>rfl) rfl rfl (ae rfl _) ?_;refine qh (s:=7) (vs:=[_]) hH fun k89 st Q_ hH=>?_;dsimp only[u2,u1,u3,u4,setMany,u5,u6,D.cells,Nat.reduceAdd,aQ,aY,av,ax,a8] at hH;refine qm ?_;refine ab.nx (s:=7) hH rfl (ev rfl) (ev rfl) aB ((oA a5).rows st) rfl rfl rfl rfl rfl rfl rfl ⟨(Nat.le_of_ble_eq_true rfl),(Nat.le_of_ble_eq_true rfl)⟩ (fun _=>(ae rfl _)) (by simp only[List.length_map,List.length_cons,List.length_nil];omega) (.inr (oz a5)) (fun k hk=>by have h_:k89+1=k+1:=hk;omega) (fun Pm st DC hH=>?_);dsimp only[u2] at hH;refine qm ?_;refine qe hK ?_;have hH:Has N S2 st (.aN Pm 7 ([.int .i64 6,.nul,.int .i64 0,.int .i64 0,.bool false,.int .i64 cap,.int .i64 1]::l.map a8)::.box k (.mem 0 false (aQ gs bk s6))::.aN bk 1 (ba.map av)::.box k5 (.mem 0 false [.int .i64 6,.nul,.int .i64 0,.int .i64 0,.bool false,.int .i64 cap,.int .i64 1])::H):=hH
     have hfz:=gg (L:=s0.bs.length) (l:=pH 6 0 0 false cap 1 []::l) hH aB (by rw[List.map_cons,pE a5];rfl) (fun e he d hd=>by
      rcases List.mem_cons.1 he with rfl|he
      ·simp only[List.mem_cons,List.not_mem_nil,or_false] at hd
       rcases hd with rfl|rfl|rfl|rfl|rfl|rfl|rfl<;>rfl
      ·exact mS a5 e he d hd) (fun k hk=>by rw[←b4];exact DC k hk) (n:=16) (by decide)
     refine ag.ret ⟨rx,_,_,_,rfl,ak hfz,⟨s6,⟨c1,c2,by omega,c4,_,rfl,?_,by simp only[List.length_cons];omega,?_⟩,cv.ay b4 ((hH.drop 1).erase 2)⟩⟩
     ·intro n hn
      rcases List.mem_cons.1 hn with rfl|hn
      ·exact⟨rfl,by simp[pH],by simp[pH]⟩
      ·exact a5 n hn
     ·rcases c5 with c5|⟨c5,c6⟩
      ·exact .inl c5
      ·exact .inr ⟨c5,by simp only[List.length_cons];omega⟩
def tP (fr:Go.V.Fr) (k:Nat):Go.V.D:=Go.V.nth .bp fr.loc k
theorem me {gs:List (Nat×Nat)} {s:dQ} {r:Int} (h:iR gs s.i r=false):cB gs s r=s:=by
 unfold cB;rw[if_neg (by rw[h];simp)]
theorem j_ {gs:List (Nat×Nat)} {s:dQ} {r:Int} (h:iR gs s.i r=true):(cB gs s r).i=s.i+1:=by
 unfold cB;rw[if_pos h]
theorem Di {m:Nat} (hA:∀m',m'+1=m→jw m') {N k:Nat} {S s0:St} {H:List bT} {gs:List (Nat×Nat)} {bk:D} {ba:List Int} {s:dQ} (cI:i_ gs ba) (he:s.e=0) (hi:s.i<gs.length) (hg:s.g≤4) (ho:s.o+m=20) (hH:Has N S s0 (.box k (.mem 0 false (aQ gs bk s))::.aN bk 1 (ba.map av)::H)):
  ∃d ah,Ev pv 77 [.ptr k 0 0] s0 d ah∧∃(s':dQ),gz gs s s' d 2∧Has N S ah (.box k (.mem 0 false (aQ gs bk s'))::.aN bk 1 (ba.map av)::H):=by
 have ni:=cI.gl;have gT:=cI.pl;refine Ev.lX rfl Ni rfl rfl rfl ?_;dsimp only[u3,u4,List.length,Nat.reduceSub,Nat.reduceAdd,w1,w2];have cv:=hH;have hH:=hH.cw;have b4:(aq .rw s0).bs=s0.bs:=rfl;generalize aq .rw s0=S2 at*;have yI:Arg N S2 2 (bX gs) (gs.map aY):=Arg.pure (fun st=>cC st gs)
 obtain⟨g,KQ⟩:∃g,gs[s.i]?=some g:=⟨gs[s.i]'hi,List.getElem?_eq_getElem _⟩
 have gM:(gs.map aY)[s.i]?=some (aY g):=by rw[List.getElem?_map,KQ];rfl
 have hwr:∀(st:St),Has N S2 st (.box k (.mem 0 false (aQ gs bk s))::.aN bk 1 (ba.map av)::H)→∃d ah,Ev pv 36 [.ptr k 0 0,.int .i64 (s.i:Nat),.int .i64 4] st d ah∧d=.sl []∧∃s4,gz gs s s4 (.sl []) 2∧Has N S2 ah (.box k (.mem 0 false (aQ gs bk s4))::.aN bk 1 (ba.map av)::H):=by
  intro st hH;obtain⟨d,ah,aM,h6,hH⟩:=cD (s:=s) s.i 4 (by omega) hH;obtain⟨w1,w2,w3,w4⟩:=cL (ba:=ba) (s:=s) (i:=s.i) (e:=4) he (by decide);exact⟨d,ah,aM,h6,_,eO w3 (by omega) (by omega) (by omega) w1,hH⟩
 have hU:∀(st:St) (s1:dQ) (op:Int) (w:D) (a:List Rg) (kk:Nat),(w=bq a∨w=.nul∧a=[])→a.length≤1048576→s1.o=s.o→s1.g≤4→s.i<s1.i→s1.i≤gs.length→S2.bs.length≤kk→Has N S2 st (.aN (.win kk 0 0 1 7) 7 [[.int .i64 op,w,.int .i64 0,.int .i64 0,.bool false,.int .i64 0,.int .i64 0]]::.box k (.mem 0 false (aQ gs bk s1))::.aN bk 1 (ba.map av)::H)→
   ∃d ah,cy .rw false s0 st (.win kk 0 0 1 7)=some (d,ah)∧∃(s':dQ),gz gs s s' d 2∧Has N S ah (.box k (.mem 0 false (aQ gs bk s'))::.aN bk 1 (ba.map av)::H):=by
  intro st s1 op w a kk hw ha h1 h2 h3 h4 hk hH;have hfz:=gh hH aB (L:=s0.bs.length) hw (fun k hk=>by simp only[D.ref] at hk;rw[←b4];omega);refine⟨_,_,ak hfz,s1,⟨h1,h2,by omega,h4,_,rfl,yf ha (by omega),by simp,?_⟩,cv.ay b4 (hH.drop 1)⟩
  by_cases he:s1.e=0
  ·exact .inr ⟨he,by simp only[List.length_cons,List.length_nil];omega⟩
  ·exact .inl he
 refine qq<|qj fun K hK=>qm ?_;refine qe hK<|qq<|qj fun K hK=>qm ?_;refine qg ?_;refine qp (o:=2) ?_;refine ql hH aB ?_;refine qm ?_;refine qe hK<|qq<|qq<|qj fun K hK=>qm ?_;refine qm ?_;obtain⟨_,st,aM,rfl,hH⟩:=uC (s:=s) s.i hi hH;refine qv aM ?_;refine qe hK ?_;refine qc (fun hb=>?_) (fun hb=>?_)<;>try simp only[cs] at hb
 ·refine qq<|qj fun K hK=>qm ?_;refine qm ?_;obtain⟨_,st,aM,rfl,s4,hN,hH⟩:=hwr _ hH;refine qv aM ?_;refine qm ?_;refine qe hK<|ag.ret ⟨rx,_,_,_,rfl,ak (rfl),?_⟩;exact⟨s4,hN,cv.ay b4 hH⟩
 refine ag.skip<|qq<|qj fun K hK=>qm ?_;refine qg ?_;refine qp (o:=0) ?_;refine ql hH aB ?_;refine qm ?_;refine qr fun Oz JF=>?_;refine qf (fo:=0) fun PQ L7=>?_;refine qR ?_;refine qm ?_;refine qe hK<|qq<|qj fun K hK=>qm ?_;refine qe hK<|ag.block<|qq<|qj fun K hK=>qg ?_;refine qm ?_;refine qe hK ?_;refine ag.cond (by rfl) (fun Ou=>?_) (fun Ou=>?_)<;>try simp only[beq_iff_eq,beq_eq_false_iff_ne,ne_eq] at Ou
 ·refine qq<|qj fun K hK=>qm ?_;obtain⟨_,st,aM,s4,⟨p1,p2,p3,p4,l,rfl,p5,p6,p7⟩,hH⟩:=yV hA cI he hi hg ho hH;refine qv aM ?_;refine qm ?_;refine qe hK<|ag.ret ⟨rx,_,_,_,rfl,ak (rfl),?_⟩;exact⟨s4,⟨p1,p2,p3,p4,l,rfl,p5,p6,p7⟩,cv.ay b4 hH⟩
 refine qq<|qj fun K hK=>qg ?_;refine qm ?_;refine qe hK ?_;refine ag.cond (by rfl) (fun Ik=>?_) (fun Ik=>?_)<;>try simp only[beq_iff_eq,beq_eq_false_iff_ne,ne_eq] at Ik
 ·refine qq<|qj fun K hK=>qm ?_;obtain⟨_,st,aM,s4,⟨p1,p2,p3,p4,l,rfl,p5,p6,p7⟩,hH⟩:=ze cI he hi hg hH;refine qv aM ?_;refine qm ?_;refine qe hK<|ag.ret ⟨rx,_,_,_,rfl,ak (rfl),?_⟩;exact⟨s4,⟨p1,p2,p3,p4,l,rfl,p5,p6,p7⟩,cv.ay b4 hH⟩
 refine qq<|qj fun K hK=>qg ?_;refine qm ?_;refine qe hK ?_;refine ag.cond (by rfl) (fun Oo=>?_) (fun Oo=>?_)<;>try simp only[beq_iff_eq,beq_eq_false_iff_ne,ne_eq] at Oo
 ·refine qq<|qj fun K hK=>qm ?_;obtain⟨_,st,aM,d1,b,s4,rfl,⟨p1,p2,p3,p4,p5,p6⟩,hH⟩:=uU (s:=s) cI he hi hH;refine qv aM ?_;refine qm ?_;refine qg ?_;refine qg ?_;refine qm ?_;refine qm ?_;refine qe hK ?_
  have J9:∀(st:St) (w:D) (a:List Rg) (kk:Nat),(w=bq a∨w=.nul∧a=[])→a.length≤8→S2.bs.length≤kk→Has N S2 st (.aN (.win kk 0 0 1 7) 7 [[.int .i64 2,w,.int .i64 0,.int .i64 0,.bool false,.int .i64 0,.int .i64 0]]::.box k (.mem 0 false (aQ gs bk s4))::.aN bk 1 (ba.map av)::H)→∃d ah,cy .rw false s0 st (.win kk 0 0 1 7)=some (d,ah)∧∃(s':dQ),gz gs s s' d 2∧Has N S ah (.box k (.mem 0 false (aQ gs bk s'))::.aN bk 1 (ba.map av)::H):=by
   intro st w a kk hw ha hk hH;have hfz:=gh hH aB (L:=s0.bs.length) hw (fun k hk=>by simp only[D.ref] at hk;rw[←b4];omega);refine⟨_,_,ak hfz,s4,⟨p1,by omega,by omega,p4,_,rfl,yf (by omega) (by omega),by simp,?_⟩,cv.ay b4 (hH.drop 1)⟩
   rcases p6 with p6|⟨p6,p7,_⟩
   ·exact .inl p6
   ·exact .inr ⟨p6,by simp only[List.length_cons,List.length_nil];omega⟩
  rcases p5 with rfl|⟨a,rfl,ha⟩
  ·refine qq<|qj fun K hK=>qm ?_;refine ab.fP (qs:=[(0,_),(1,_)]) rfl rfl rfl rfl ⟨rfl,(ev rfl),(by rfl),rfl,(ev rfl),(by rfl),trivial⟩ (by intro q hq;simp only[List.mem_cons,List.not_mem_nil,or_false] at hq;rcases hq with rfl|rfl<;>exact⟨rfl,by exact Nat.le_of_ble_eq_true rfl⟩) (by show List.foldl _ [_,_,_,_,_,_,_] _=_;dsimp only[List.foldl_cons,List.foldl_nil,u2,u1]<;>rfl) (ae rfl _) ?_;refine qh (s:=7) (vs:=[_]) hH fun k54 st Hx hH=>?_;dsimp only[u2,u1,u3,u4,setMany,u5,u6,D.cells,Nat.reduceAdd,aQ,aY,av,ax,a8] at hH;refine qm ?_;refine qe hK ?_;obtain⟨d',ah,sr,fw⟩:=J9 _ .nul [] k54 (.inr ⟨rfl,rfl⟩) (by simp) Hx hH;refine ag.ret ⟨rx,_,d',ah,rfl,sr,fw⟩
  ·refine qq<|qj fun K hK=>qm ?_;refine ab.fP (qs:=[(0,_),(1,_)]) rfl rfl rfl rfl ⟨rfl,(ev rfl),(by rfl),rfl,(ev rfl),(by rfl),trivial⟩ (by intro q hq;simp only[List.mem_cons,List.not_mem_nil,or_false] at hq;rcases hq with rfl|rfl<;>exact⟨rfl,by exact Nat.le_of_ble_eq_true rfl⟩) (by show List.foldl _ [_,_,_,_,_,_,_] _=_;dsimp only[List.foldl_cons,List.foldl_nil,u2,u1]<;>rfl) (ae rfl _) ?_;refine qh (s:=7) (vs:=[_]) hH fun k54 st Hx hH=>?_;dsimp only[u2,u1,u3,u4,setMany,u5,u6,D.cells,Nat.reduceAdd,aQ,aY,av,ax,a8] at hH;refine qm ?_;refine qe hK ?_;obtain⟨d',ah,sr,fw⟩:=J9 _ (bq a) a k54 (.inl rfl) ha Hx hH;refine ag.ret ⟨rx,_,d',ah,rfl,sr,fw⟩
 refine qq<|qj fun K hK=>qg ?_;refine qm ?_;refine qe hK ?_;refine ag.cond (by rfl) (fun Oq=>?_) (fun Oq=>?_)<;>try simp only[beq_iff_eq,beq_eq_false_iff_ne,ne_eq] at Oq
 ·refine qq<|qj fun K hK=>qm ?_;refine qg ?_;refine qp (o:=2) ?_;refine ql hH aB ?_;refine qA ?_;refine qg ?_;refine qp (o:=2) ?_;refine qT hH aB fun st hH=>?_;dsimp only[u2,u1,u3,u4,setMany,u5,u6,D.cells,Nat.reduceAdd,aQ,aY,av,ax,a8] at hH;refine qe hK ?_;obtain⟨_,MI,a,rfl,hla⟩:=H4 (s0:=st);refine qq<|qj fun K hK=>qv (MI) ?_;refine ab.fP (qs:=[(0,_),(1,_)]) rfl rfl rfl rfl ⟨rfl,(ev rfl),(by rfl),rfl,(ev rfl),(by rfl),trivial⟩ (by intro q hq;simp only[List.mem_cons,List.not_mem_nil,or_false] at hq;rcases hq with rfl|rfl<;>exact⟨rfl,by exact Nat.le_of_ble_eq_true rfl⟩) (by show List.foldl _ [_,_,_,_,_,_,_] _=_;dsimp only[List.foldl_cons,List.foldl_nil,u2,u1]<;>rfl) (ae rfl _) ?_;refine qh (s:=7) (vs:=[_]) hH fun k66 st JU hH=>?_;refine qm ?_;refine qe hK ?_;obtain⟨d',ah,sr,fw⟩:=hU _ {s with i:=s.i+1} 2 (bq a) a k66 (.inl rfl) (by omega) rfl hg (by show s.i<s.i+1;omega) (by show s.i+1≤_;omega) JU hH;refine ag.ret ⟨rx,_,d',ah,rfl,sr,fw⟩
 refine qq<|qj fun K hK=>qg ?_;refine qm ?_;refine qe hK ?_;refine ag.cond (by rfl) (fun On=>?_) (fun On=>?_)<;>try simp only[beq_iff_eq,beq_eq_false_iff_ne,ne_eq] at On
 ·refine qq<|qj fun K hK=>qm ?_;refine qg ?_;refine qp (o:=2) ?_;refine ql hH aB ?_;refine qA ?_;refine qg ?_;refine qp (o:=2) ?_;refine qT hH aB fun st hH=>?_;dsimp only[u2,u1,u3,u4,setMany,u5,u6,D.cells,Nat.reduceAdd,aQ,aY,av,ax,a8] at hH;refine qe hK<|qq<|qj fun K hK=>ab.go (d:=.agg [.int .i64 7,.nul,.int .i64 0,.int .i64 0,.bool false,.int .i64 0,.int .i64 0]) (st1:=_) rfl rfl rfl (ae rfl _) ?_;refine qh (s:=7) (vs:=[_]) hH fun k77 st Mk hH=>?_;refine qm ?_;refine qe hK ?_;obtain⟨d',ah,sr,fw⟩:=hU _ {s with i:=s.i+1} 7 .nul [] k77 (.inr ⟨rfl,rfl⟩) (by simp) rfl hg (by show s.i<s.i+1;omega) (by show s.i+1≤_;omega) Mk hH;refine ag.ret ⟨rx,_,d',ah,rfl,sr,fw⟩
 refine qq<|qj fun K hK=>qg ?_;refine qm ?_;refine qe hK ?_;refine ag.cond (by rfl) (fun Ov=>?_) (fun Ov=>?_)<;>try simp only[beq_iff_eq,beq_eq_false_iff_ne,ne_eq] at Ov
 ·refine qq<|qj fun K hK=>qm ?_;refine qg ?_;refine qp (o:=2) ?_;refine ql hH aB ?_;refine qA ?_;refine qg ?_;refine qp (o:=2) ?_;refine qT hH aB fun st hH=>?_;dsimp only[u2,u1,u3,u4,setMany,u5,u6,D.cells,Nat.reduceAdd,aQ,aY,av,ax,a8] at hH;refine qe hK<|qq<|qj fun K hK=>ab.go (d:=.agg [.int .i64 8,.nul,.int .i64 0,.int .i64 0,.bool false,.int .i64 0,.int .i64 0]) (st1:=_) rfl rfl rfl (ae rfl _) ?_;refine qh (s:=7) (vs:=[_]) hH fun k88 st JT hH=>?_;refine qm ?_;refine qe hK ?_;obtain⟨d',ah,sr,fw⟩:=hU _ {s with i:=s.i+1} 8 .nul [] k88 (.inr ⟨rfl,rfl⟩) (by simp) rfl hg (by show s.i<s.i+1;omega) (by show s.i+1≤_;omega) JT hH;refine ag.ret ⟨rx,_,d',ah,rfl,sr,fw⟩
 refine qq<|qq<|qj fun K hK=>qg ?_;refine qm ?_;refine qe hK ?_
 by_cases N8:((g.1:Nat):Int)=42
 ·refine qD rfl (by simp[N8]) ?_;refine ag.skip<|qD rfl (by simp[N8]) ?_;refine qq<|qj fun K hK=>qm ?_;refine qm ?_;obtain⟨_,st,aM,rfl,s4,hN,hH⟩:=hwr _ hH;refine qv aM ?_;refine qm ?_;refine qe hK<|ag.ret ⟨rx,_,_,_,rfl,ak (rfl),?_⟩;exact⟨s4,hN,cv.ay b4 hH⟩
 refine qE rfl (by simp[N8]) ?_;refine qq<|qj fun K hK=>qg ?_;refine qm ?_;refine qe hK ?_
 by_cases N7:((g.1:Nat):Int)=43
 ·refine qD rfl (by simp[N7]) ?_;refine ag.skip<|qD rfl (by simp[N7]) ?_;refine qq<|qj fun K hK=>qm ?_;refine qm ?_;obtain⟨_,st,aM,rfl,s4,hN,hH⟩:=hwr _ hH;refine qv aM ?_;refine qm ?_;refine qe hK<|ag.ret ⟨rx,_,_,_,rfl,ak (rfl),?_⟩;exact⟨s4,hN,cv.ay b4 hH⟩
 refine qE rfl (by simp[N7]) ?_;refine qq<|qj fun K hK=>qg ?_;refine qm ?_;refine qe hK ?_
 by_cases N6:((g.1:Nat):Int)=63
 ·refine qD rfl (by simp[N6]) ?_;refine ag.skip<|qD rfl (by simp[N6]) ?_;refine qq<|qj fun K hK=>qm ?_;refine qm ?_;obtain⟨_,st,aM,rfl,s4,hN,hH⟩:=hwr _ hH;refine qv aM ?_;refine qm ?_;refine qe hK<|ag.ret ⟨rx,_,_,_,rfl,ak (rfl),?_⟩;exact⟨s4,hN,cv.ay b4 hH⟩
 refine qE rfl (by simp[N6]) ?_;refine qq<|qj fun K hK=>qg ?_;refine qm ?_;refine qe hK ?_
 by_cases N9:((g.1:Nat):Int)=41
 ·refine qD rfl (by simp[N9]) ?_;refine ag.skip<|qD rfl (by simp[N9]) ?_;refine qq<|qj fun K hK=>qm ?_;refine qm ?_;obtain⟨_,st,aM,rfl,s4,hN,hH⟩:=hwr _ hH;refine qv aM ?_;refine qm ?_;refine qe hK<|ag.ret ⟨rx,_,_,_,rfl,ak (rfl),?_⟩;exact⟨s4,hN,cv.ay b4 hH⟩
 refine qE rfl (by simp[N9]) ?_;refine qq<|qj fun K hK=>qg ?_;refine qm ?_;refine qe hK ?_
 by_cases N5:((g.1:Nat):Int)=93
 ·refine qD rfl (by simp[N5]) ?_;refine ag.skip<|qD rfl (by simp[N5]) ?_;refine qq<|qj fun K hK=>qm ?_;refine qm ?_;obtain⟨_,st,aM,rfl,s4,hN,hH⟩:=hwr _ hH;refine qv aM ?_;refine qm ?_;refine qe hK<|ag.ret ⟨rx,_,_,_,rfl,ak (rfl),?_⟩;exact⟨s4,hN,cv.ay b4 hH⟩
 refine qE rfl (by simp[N5]) ?_;refine qq<|qj fun K hK=>qg ?_;refine qm ?_;refine qe hK ?_
 by_cases H9:((g.1:Nat):Int)=123
 ·refine qD rfl (by simp[H9]) ?_;refine ag.skip<|qD rfl (by simp[H9]) ?_;refine qq<|qj fun K hK=>qm ?_;refine qm ?_;obtain⟨_,st,aM,rfl,s4,hN,hH⟩:=hwr _ hH;refine qv aM ?_;refine qm ?_;refine qe hK<|ag.ret ⟨rx,_,_,_,rfl,ak (rfl),?_⟩;exact⟨s4,hN,cv.ay b4 hH⟩
 refine qE rfl (by simp[H9]) ?_;refine qq<|qj fun K hK=>qg ?_;refine qm ?_;refine qe hK ?_
 by_cases H8:((g.1:Nat):Int)=125
 ·refine qD rfl (by simp[H8]) ?_;refine ag.skip<|qD rfl (by simp[H8]) ?_;refine qq<|qj fun K hK=>qm ?_;refine qm ?_;obtain⟨_,st,aM,rfl,s4,hN,hH⟩:=hwr _ hH;refine qv aM ?_;refine qm ?_;refine qe hK<|ag.ret ⟨rx,_,_,_,rfl,ak (rfl),?_⟩;exact⟨s4,hN,cv.ay b4 hH⟩
 refine qE rfl (by simp[H8]) ?_;refine qj fun K hK=>qg ?_;refine qm ?_;refine qe hK ?_
 by_cases Ks:((g.1:Nat):Int)=124
 ·refine qD rfl (by simp[Ks]) ?_;refine qq<|qj fun K hK=>qm ?_;refine qm ?_;obtain⟨_,st,aM,rfl,s4,hN,hH⟩:=hwr _ hH;refine qv aM ?_;refine qm ?_;refine qe hK<|ag.ret ⟨rx,_,_,_,rfl,ak (rfl),?_⟩;exact⟨s4,hN,cv.ay b4 hH⟩
 refine qE rfl (by simp[Ks]) ?_;refine qq<|qj fun K hK=>qm ?_;refine qg ?_;refine qp (o:=2) ?_;refine ql hH aB ?_;refine qA ?_;refine qg ?_;refine qp (o:=2) ?_;refine qT hH aB fun st hH=>?_;dsimp only[u2,u1,u3,u4,setMany,u5,u6,D.cells,Nat.reduceAdd,aQ,aY,av,ax,a8] at hH;refine qe hK ?_;obtain⟨_,yC,_⟩:=ke (s0:=s0) (x:=bq [(((g.1:Nat):Int),((g.1:Nat):Int))]) (l:=[(((g.1:Nat):Int),((g.1:Nat):Int))]) (eu _ _) (by simp);simp only[List.length_cons,List.length_nil] at yC;refine qq<|qj fun K hK=>qm ?_;refine qv (gC _) ?_;refine ab.fP (qs:=[(0,_),(1,_)]) rfl rfl rfl rfl ⟨rfl,(ev rfl),(by rfl),rfl,(ev rfl),(by rfl),trivial⟩ (by intro q hq;simp only[List.mem_cons,List.not_mem_nil,or_false] at hq;rcases hq with rfl|rfl<;>exact⟨rfl,by exact Nat.le_of_ble_eq_true rfl⟩) (by show List.foldl _ [_,_,_,_,_,_,_] _=_;dsimp only[List.foldl_cons,List.foldl_nil,u2,u1]<;>rfl) (ae rfl _) ?_;refine qh (s:=7) (vs:=[_]) hH fun k36 st JX hH=>?_;refine qm ?_;refine qe hK ?_;obtain⟨d',ah,sr,fw⟩:=hU _ {s with i:=s.i+1} 2 _ _ k36 (.inl rfl) (by omega) rfl hg (by show s.i<s.i+1;omega) (by show s.i+1≤_;omega) JX hH;refine ag.ret ⟨rx,_,d',ah,rfl,sr,fw⟩
theorem xK {m:Nat} (hA:∀m',m'+1=m→jw m') {N k:Nat} {S s0:St} {H:List bT} {gs:List (Nat×Nat)} {bk:D} {ba:List Int} {s:dQ} (cI:i_ gs ba) (he:s.e=0) (hi:s.i<gs.length) (hg:s.g≤4) (ho:s.o+m=20) (hH:Has N S s0 (.box k (.mem 0 false (aQ gs bk s))::.aN bk 1 (ba.map av)::H)):
  ∃d ah,Ev pv 70 [.ptr k 0 0] s0 d ah∧∃(s':dQ),gz gs s s' d 1∧Has N S ah (.box k (.mem 0 false (aQ gs bk s'))::.aN bk 1 (ba.map av)::H):=by
 have ni:=cI.gl;have gT:=cI.pl;refine Ev.lX rfl Nq rfl rfl rfl ?_;dsimp only[u3,u4,List.length,Nat.reduceSub,Nat.reduceAdd,w1,w2];have cv:=hH;have hH:=hH.cw;have b4:(aq .rw s0).bs=s0.bs:=rfl;generalize aq .rw s0=S2 at*;refine qq<|qj fun K hK=>qm ?_;refine qe hK<|qq<|qj fun K hK=>qm ?_;obtain⟨_,st,aM,s1,⟨p1,p2,p3,p4,l,rfl,p5,p6,p7⟩,hH⟩:=Di hA cI he hi hg ho hH;refine qv aM ?_;refine qm ?_;refine qe hK<|qq<|qq<|qj fun K hK=>qm ?_;refine qg ?_;refine qp (o:=5) ?_;refine ql hH aB ?_;refine qg ?_;refine qe hK ?_
 rcases p7 with p7|⟨p7,p8⟩
 ·refine qD rfl (by simp[p7]) ?_;refine qq<|qj fun K hK=>qm ?_;refine qe hK<|ag.ret ⟨rx,_,_,_,rfl,ak (rfl),?_⟩;exact⟨s1,eO p1 p2 p3 p4 p7,cv.ay b4 hH⟩
 refine qE rfl (by simp[p7]) ?_;refine ag.skip<|qq<|qj fun K hK=>ab.go (d:=.agg [.int .i64 5,.nul,.int .i64 0,.int .i64 0,.bool false,.int .i64 0,.int .i64 1]) (st1:=_) rfl rfl rfl (ae rfl _) ?_;refine qa hH fun k4 st KM hH=>?_;dsimp only[u2,u1,u3,u4,setMany,u5,u6,D.cells,Nat.reduceAdd,aQ,aY,av,ax,a8] at hH;refine qS hH aB fun st hH=>?_;dsimp only[u2,u1,u3,u4,setMany,u5,u6,D.cells,Nat.reduceAdd,aQ,aY,av,ax,a8] at hH;refine qe hK ?_;have hH:Has N S2 st (.box k (.mem 0 false (aQ gs bk s1))::.aN bk 1 (ba.map av)::.box k4 (.mem 0 false [.int .i64 5,.nul,.int .i64 0,.int .i64 0,.bool false,.int .i64 0,.int .i64 1])::H):=kM hH;refine qq<|ag.merge (fun fr st=>∃(mn mx:Int) (s2:dQ) (tmp:List (Nat×D)),fr=⟨5,[.ptr k 0 0,tP fr 1,tP fr 2,qX l,.ptr k4 0 0],tmp⟩∧Has N S2 st (.box k (.mem 0 false (aQ gs bk s2))::.aN bk 1 (ba.map av)::.box k4 (.mem 0 false [.int .i64 5,.nul,.int .i64 mn,.int .i64 mx,.bool false,.int .i64 0,.int .i64 1])::H)∧(s2.o=s.o)∧(s2.g≤4)∧(s1.i<s2.i)∧(s2.i≤gs.length)) ?_ ?_
 ·refine ag.block<|qq<|qj fun K hK=>qm ?_;obtain⟨_,st,aM,rfl,hH⟩:=df (s:=s1) (by omega) 42 hH;refine qv aM ?_;refine qm ?_;refine qe hK ?_
  cases hb1:iR gs s1.i 42 with
  |true=>
   obtain⟨k1,k2,k3,Lm,k5⟩:=fq (gs:=gs) (s:=s1) (r:=42);have k6:=j_ hb1;have k7:=k5 p4;generalize cB gs s1 42=s2 at*;refine qB ?_;refine qj fun K hK=>qp (o:=3) ?_;refine qT hH ei fun st hH=>?_;dsimp only[u2,u1,u3,u4,setMany,u5,u6,D.cells,Nat.reduceAdd,aQ,aY,av,ax,a8] at hH;refine qe hK ?_;exact⟨0,-1,s2,_,rfl,hH,by omega,by omega,by omega,k7⟩
  |false=>
   rw[me hb1] at hH;refine qC ?_;refine qq<|qj fun K hK=>qm ?_;obtain⟨_,st,aM,rfl,hH⟩:=df (s:=s1) (by omega) 43 hH;refine qv aM ?_;refine qm ?_;refine qe hK ?_
   cases hb2:iR gs s1.i 43 with
   |true=>
    obtain⟨k1,k2,k3,Lm,k5⟩:=fq (gs:=gs) (s:=s1) (r:=43);have k6:=j_ hb2;have k7:=k5 p4;generalize cB gs s1 43=s2 at*;refine qB ?_;refine qj fun K hK=>qp (o:=2) ?_;refine qT hH ei fun st hH=>?_;dsimp only[u2,u1,u3,u4,setMany,u5,u6,D.cells,Nat.reduceAdd,aQ,aY,av,ax,a8] at hH;refine qp (o:=3) ?_;refine qT hH ei fun st hH=>?_;dsimp only[u2,u1,u3,u4,setMany,u5,u6,D.cells,Nat.reduceAdd,aQ,aY,av,ax,a8] at hH;refine qe hK ?_;exact⟨1,-1,s2,_,rfl,hH,by omega,by omega,by omega,k7⟩
   |false=>
    rw[me hb2] at hH;refine qC ?_;refine qq<|qj fun K hK=>qm ?_;obtain⟨_,st,aM,rfl,hH⟩:=df (s:=s1) (by omega) 63 hH;refine qv aM ?_;refine qm ?_;refine qe hK ?_
    cases Iz:iR gs s1.i 63 with
    |true=>
     obtain⟨k1,k2,k3,Lm,k5⟩:=fq (gs:=gs) (s:=s1) (r:=63);have k6:=j_ Iz;have k7:=k5 p4;generalize cB gs s1 63=s2 at*;refine qB ?_;refine qj fun K hK=>qp (o:=3) ?_;refine qT hH ei fun st hH=>?_;dsimp only[u2,u1,u3,u4,setMany,u5,u6,D.cells,Nat.reduceAdd,aQ,aY,av,ax,a8] at hH;refine qe hK ?_;exact⟨0,1,s2,_,rfl,hH,by omega,by omega,by omega,k7⟩
    |false=>
     rw[me Iz] at hH;refine qC ?_;refine qq<|qj fun K hK=>qm ?_;obtain⟨_,st,aM,rfl,hH⟩:=lO (s:=s1) (by omega) 123 hH;refine qv aM ?_;refine qm ?_;refine qe hK ?_
     cases MO:iR gs s1.i 123 with
     |true=>
      have hlt:=na MO;refine qB ?_;refine qj fun K hK=>qm ?_;obtain⟨_,st,aM,n1,n2,s2,rfl,⟨m1,m2,m3,m4⟩,hH⟩:=x7 cI p7 hlt hH;refine qv aM ?_;refine qm ?_;refine qg ?_;refine qg ?_;refine qp (o:=2) ?_;refine qT hH ei fun st hH=>?_;dsimp only[u2,u1,u3,u4,setMany,u5,u6,D.cells,Nat.reduceAdd,aQ,aY,av,ax,a8] at hH;refine qp (o:=3) ?_;refine qT hH ei fun st hH=>?_;dsimp only[u2,u1,u3,u4,setMany,u5,u6,D.cells,Nat.reduceAdd,aQ,aY,av,ax,a8] at hH;refine qe hK ?_;exact⟨n1,n2,s2,_,rfl,hH,by omega,by omega,m3,m4⟩
     |false=>
      refine qC ?_;refine qq<|qj fun K hK=>qm ?_;refine qm ?_;refine qe hK<|ag.ret ⟨rx,_,_,_,rfl,ak (rfl),?_⟩;exact⟨s1,⟨p1,p2,p3,p4,l,rfl,p5,p6,.inr ⟨p7,by omega⟩⟩,cv.ay b4 (hH.erase 2)⟩
 ·rintro fr st ⟨mn,mx,s2,tmp,hfr,hH,h1,h2,h3,h4⟩;rw[hfr];clear hfr;generalize tP fr=ee;clear fr;refine qq<|qq<|qj fun K hK=>qm ?_;refine qg ?_;refine qp (o:=5) ?_;refine ql hH aB ?_;refine qg ?_;refine qe hK ?_
  by_cases vw:s2.e=0
  ·refine qE rfl (by simp[vw]) ?_;refine ag.skip ?_;obtain⟨k1,k2,k3,Lm,k5⟩:=fq (gs:=gs) (s:=s2) (r:=63);have k7:=k5 h4;refine qq<|qj fun K hK=>qm ?_;obtain⟨_,st,aM,rfl,hH⟩:=df (s:=s2) (by omega) 63 hH;refine qv aM ?_;refine qp (o:=4) ?_;refine qT hH ei fun st hH=>?_;dsimp only[u2,u1,u3,u4,setMany,u5,u6,D.cells,Nat.reduceAdd,aQ,aY,av,ax,a8] at hH;refine qe hK ?_;generalize cB gs s2 63=s3 at*;generalize iR gs s2.i 63=lz at*;have hla:=(oA p5).arg N S2;refine qq<|qj fun K hK=>?_;refine ab.b9 (m:=7) hH rfl (ev rfl) (by exact ei) (by dsimp only[List.drop_succ_cons,List.drop_zero,List.take_succ_cons,List.take_zero,aQ,aY,av,ax,a8]<;>rfl) rfl rfl (ae rfl _) ?_;refine qh (s:=7) (vs:=[_]) hH fun k46 st Rl hH=>?_;refine qm ?_;refine ab.nx (s:=7) hH rfl (ev rfl) (ev rfl) aB ((oA p5).rows st) rfl rfl rfl rfl rfl rfl rfl ⟨(Nat.le_of_ble_eq_true rfl),(Nat.le_of_ble_eq_true rfl)⟩ (fun _=>(ae rfl _)) (by simp only[List.length_map,List.length_cons,List.length_nil];omega) (.inr (oz p5)) (fun k hk=>by have h_:k46+1=k+1:=hk;omega) (fun K2 st DC hH=>?_);dsimp only[u2] at hH;refine qm ?_;refine qe hK ?_;have hH:Has N S2 st (.aN K2 7 ([.int .i64 5,.nul,.int .i64 mn,.int .i64 mx,.bool lz,.int .i64 0,.int .i64 1]::l.map a8)::.box k (.mem 0 false (aQ gs bk s3))::.aN bk 1 (ba.map av)::.box k4 (.mem 0 false [.int .i64 5,.nul,.int .i64 mn,.int .i64 mx,.bool lz,.int .i64 0,.int .i64 1])::H):=hH
   have hfz:=gg (L:=s0.bs.length) (l:=pH 5 mn mx lz 0 1 []::l) hH aB (by rw[List.map_cons,pE p5];rfl) (fun e he d hd=>by
    rcases List.mem_cons.1 he with rfl|he
    ·simp only[List.mem_cons,List.not_mem_nil,or_false] at hd
     rcases hd with rfl|rfl|rfl|rfl|rfl|rfl|rfl<;>rfl
    ·exact mS p5 e he d hd) (fun k hk=>by rw[←b4];exact DC k hk) (n:=16) (by decide)
   refine ag.ret ⟨rx,_,_,_,rfl,ak hfz,⟨s3,⟨by omega,by omega,by omega,k7,_,rfl,?_,by simp only[List.length_cons];omega,.inr ⟨by omega,by simp only[List.length_cons];omega⟩⟩,cv.ay b4 ((hH.drop 1).erase 2)⟩⟩;intro n hn
   rcases List.mem_cons.1 hn with rfl|hn
   ·exact⟨rfl,by simp[pH],by simp[pH]⟩
   ·exact p5 n hn
  ·refine qD rfl (by simp[vw]) ?_;refine qq<|qj fun K hK=>qm ?_;refine qe hK<|ag.ret ⟨rx,_,_,_,rfl,ak (rfl),?_⟩;exact⟨s2,eO h1 h2 (by omega) h4 vw,cv.ay b4 (hH.erase 2)⟩
def lg (fr:Go.V.Fr) (k:Nat):Go.V.D:=Go.V.nth .bp fr.loc k
theorem zi {m:Nat} (hA:∀m',m'+1=m→jw m') {N k:Nat} {S s0:St} {H:List bT} {gs:List (Nat×Nat)} {bk:D} {ba:List Int} {s:dQ} (cI:i_ gs ba) (he:s.e=0) (hi:s.i≤gs.length) (hg:s.g≤4) (ho:s.o+m=20) (hH:Has N S s0 (.box k (.mem 0 false (aQ gs bk s))::.aN bk 1 (ba.map av)::H)):
  ∃d ah,Ev pv 57 [.ptr k 0 0] s0 d ah∧∃(s':dQ),qU gs s s' d∧Has N S ah (.box k (.mem 0 false (aQ gs bk s'))::.aN bk 1 (ba.map av)::H):=by
 have ni:=cI.gl;have gT:=cI.pl;refine Ev.lX rfl Ny rfl rfl rfl ?_;dsimp only[u3,u4,List.length,Nat.reduceSub,Nat.reduceAdd,w1,w2];have cv:=hH;have hH:=hH.cw;have b4:(aq .rw s0).bs=s0.bs:=rfl;generalize aq .rw s0=S2 at*;have yI:Arg N S2 2 (bX gs) (gs.map aY):=Arg.pure (fun st=>cC st gs);refine qq ?_;refine qj fun K hK=>?_;refine qm ?_;refine qe hK ?_;refine qq ?_;refine qj fun K hK=>?_;refine qm ?_;refine qe hK ?_;have hH:Has N S2 S2 (.box k (.mem 0 false (aQ gs bk s))::.aN bk 1 (ba.map av)::.aN .nul 1 (([]:List (List dj)).map c9)::H):=kM (hH.fc 1);refine qq ?_;refine ag.block ?_;refine ag.loop (fun mm fr st=>∃(s1:dQ) (pd:D) (parts:List (List dj)),fr.clean=⟨4,[.ptr k 0 0,lg fr 1,lg fr 2,pd],[]⟩∧Has N S2 st (.box k (.mem 0 false (aQ gs bk s1))::.aN bk 1 (ba.map av)::.aN pd 1 (parts.map c9)::H)∧(s1.o=s.o)∧(s1.g≤4)∧(s.i≤s1.i)∧(s1.i≤gs.length)∧(∀l∈parts,∀n∈l,qV n)∧(dY parts+parts.length≤4*(s1.i-s.i)+2)∧(s1.e=0→dY parts+parts.length≤4*(s1.i-s.i))∧(gs.length-s1.i+(if s1.e=0 then 1 else 0)≤mm)) (gs.length+1) ?_ ?_
 ·exact⟨s,.nul,[],rfl,hH,rfl,hg,Nat.le_refl _,hi,fun l hl=>(by cases hl),by simp[dY],fun _=>by simp[dY],by split<;>omega⟩
 rintro mm fr st ⟨s1,pd,parts,hfr,hH,h1,h2,h3,h4,h5,h6,h7,te⟩;rw[hfr];clear hfr;generalize lg fr=ee;clear fr
 have np:∀st:St,Has N S2 st (.box k (.mem 0 false (aQ gs bk s1))::.aN bk 1 (ba.map av)::.aN pd 1 (parts.map c9)::H)→∃d,Ev pv 59 [.int .i64 3,pd] st d st∧qU gs s s1 d∧∃l,d=qX l:=by
  intro st hH;obtain⟨_,aM,l,rfl,j1,j2,j3⟩:=oK 3 (hH.rows ei) h5 (by omega) (by omega);refine⟨_,aM,⟨h1,h2,h3,h4,l,rfl,j1,?_⟩,l,rfl⟩
  by_cases q1:parts.length=1
  ·have:=j2 q1;omega
  ·by_cases q0:parts.length=0
   ·have:parts=[]:=List.length_eq_zero_iff.1 q0;rw[this] at j3 h6;simp[dY] at j3 h6;omega
   ·omega
 by_cases jV:s1.e=0
 ·rw[if_pos jV] at te;have h7:=h7 jV;have bn:(s1.e==0)=true:=by simpa using jV
  by_cases hlt:s1.i<gs.length
  ·have a7:decide (((s1.i:Nat):Int)<((gs.length:Nat):Int))=true:=by rw[decide_eq_true_eq];omega
   cases bd:(!iR gs s1.i 124) with
   |false=>
    refine qq ?_;refine qq ?_;refine qj fun K hK=>?_;refine qm ?_;refine qg ?_;refine qp (o:=5) ?_;refine ql hH aB ?_;refine qg ?_;refine qm ?_;refine qm ?_ (hg:=wi bn);refine qg ?_ (hg:=wi bn);refine qp (o:=2) ?_ (hg:=wi bn);refine ql hH aB ?_ (hg:=wi bn);refine qm ?_ (hg:=wi bn);refine qg ?_ (hg:=wi bn);refine qp (o:=0) ?_ (hg:=wi bn);refine ql hH aB ?_ (hg:=wi bn);refine qn ?_ (hg:=wi bn);simp only[List.length_map];refine qg ?_ (hg:=wi bn);refine qt bn ?_;refine qm ?_;refine qm ?_ (hg:=wi a7);obtain⟨_,st,aM,rfl,hH⟩:=lO (s:=s1) (by omega) 124 hH;refine qv aM ?_ (hg:=wi a7);refine qg ?_ (hg:=wi a7);refine qt a7 ?_;refine qm ?_;refine qs ?_ (hg:=wn bd);refine qs ?_ (hg:=wn bd);refine qs ?_ (hg:=wn bd);refine qs ?_;refine qs ?_;refine qs ?_;refine qs ?_;refine qs ?_;refine qs ?_ (hg:=wn bd);refine qs ?_ (hg:=wn bd);refine qu bd ?_;refine qe hK ?_;refine qC ?_;refine ag.exit ?_;obtain⟨_,yG,hQ,l,rfl⟩:=np _ hH;refine qq ?_;refine qj fun K hK=>?_;refine qm ?_;refine qv (yG) ?_;refine qm ?_;refine qe hK ?_;refine ag.ret ⟨rx,_,_,_,rfl,ak (rfl),?_⟩;exact⟨s1,hQ,cv.ay b4 (hH.erase 2)⟩
   |true=>
    cases a_:iR gs s1.i 41 with
    |false=>
     refine qq ?_;refine qq ?_;refine qj fun K hK=>?_;refine qm ?_;refine qg ?_;refine qp (o:=5) ?_;refine ql hH aB ?_;refine qg ?_;refine qm ?_;refine qm ?_ (hg:=wi bn);refine qg ?_ (hg:=wi bn);refine qp (o:=2) ?_ (hg:=wi bn);refine ql hH aB ?_ (hg:=wi bn);refine qm ?_ (hg:=wi bn);refine qg ?_ (hg:=wi bn);refine qp (o:=0) ?_ (hg:=wi bn);refine ql hH aB ?_ (hg:=wi bn);refine qn ?_ (hg:=wi bn);simp only[List.length_map];refine qg ?_ (hg:=wi bn);refine qt bn ?_;refine qm ?_;refine qm ?_ (hg:=wi a7);obtain⟨_,st,aM,rfl,hH⟩:=lO (s:=s1) (by omega) 124 hH;refine qv aM ?_ (hg:=wi a7);refine qg ?_ (hg:=wi a7);refine qt a7 ?_;refine qm ?_;refine qm ?_ (hg:=wi bd);obtain⟨_,st,aM,rfl,hH⟩:=lO (s:=s1) (by omega) 41 hH;refine qv aM ?_ (hg:=wi bd);refine qm ?_ (hg:=wi bd);refine qs ?_ (hg:=wn a_);refine qs ?_ (hg:=wn a_);refine qs ?_ (hg:=wn a_);refine qs ?_ (hg:=wn a_);refine qs ?_ (hg:=wn a_);refine ab.cF (aj rfl rfl rfl bd) rfl a_ (ae rfl _) ?_;refine qg ?_ (hg:=wi bd);refine qt bd ?_;refine qe hK ?_;refine qB ?_;refine ag.skip ?_;refine ag.block ?_;refine qj fun K hK=>?_;refine qm ?_;refine qm ?_;obtain⟨_,st,aM,s2,⟨r1,r2,r3,r4,l,rfl,r5,r6,r7⟩,hH⟩:=xK hA cI (s:=s1) jV hlt h2 (by omega) hH;refine qv aM ?_;refine qh (s:=1) (vs:=[_]) hH fun k41 st JW hH=>?_;dsimp only[u2,u1,u3,u4,setMany,u5,u6,D.cells,Nat.reduceAdd,aQ,aY,av,ax,c9] at hH;refine ab.cu (s:=1) hH rfl (ev rfl) (ev rfl) (by exact gA) (by exact hH.rows (by exact aB)) rfl rfl rfl rfl rfl rfl rfl ⟨(Nat.le_of_ble_eq_true rfl),(Nat.le_of_ble_eq_true rfl)⟩ (fun _=>(ae rfl _)) (by simp only[List.length_cons,List.length_nil,List.length_map]<;>omega) (by exact .inr rfl) (fun IE st hH=>?_);dsimp only[u2,u1,u3,u4,setMany,u5,u6,D.cells,Nat.reduceAdd,aQ,aY,av,ax,c9] at hH;refine qm ?_;refine qe hK ?_;have hH:=hH.drop 1;refine⟨mm-1,by omega,⟨s2,IE,parts++[l],rfl,(by rw[List.map_append];exact hH),by omega,r2,by omega,r4,?_,by rw[cT,List.length_append];simp only[dY,List.length_cons,List.length_nil];omega,(fun e=>by rw[cT,List.length_append];simp only[dY,List.length_cons,List.length_nil];omega),by split<;>omega⟩⟩;intro l' gf
     rcases List.mem_append.1 gf with gf|gf
     ·exact h5 l' gf
     ·simp only[List.mem_cons,List.not_mem_nil,or_false] at gf;subst gf;exact r5
    |true=>
     refine qq ?_;refine qq ?_;refine qj fun K hK=>?_;refine qm ?_;refine qg ?_;refine qp (o:=5) ?_;refine ql hH aB ?_;refine qg ?_;refine qm ?_;refine qm ?_ (hg:=wi bn);refine qg ?_ (hg:=wi bn);refine qp (o:=2) ?_ (hg:=wi bn);refine ql hH aB ?_ (hg:=wi bn);refine qm ?_ (hg:=wi bn);refine qg ?_ (hg:=wi bn);refine qp (o:=0) ?_ (hg:=wi bn);refine ql hH aB ?_ (hg:=wi bn);refine qn ?_ (hg:=wi bn);simp only[List.length_map];refine qg ?_ (hg:=wi bn);refine qt bn ?_;refine qm ?_;refine qm ?_ (hg:=wi a7);obtain⟨_,st,aM,rfl,hH⟩:=lO (s:=s1) (by omega) 124 hH;refine qv aM ?_ (hg:=wi a7);refine qg ?_ (hg:=wi a7);refine qt a7 ?_;refine qm ?_;refine qm ?_ (hg:=wi bd);obtain⟨_,st,aM,rfl,hH⟩:=lO (s:=s1) (by omega) 41 hH;refine qv aM ?_ (hg:=wi bd);refine qm ?_ (hg:=wi bd);refine qm ?_ (hg:=wi a_);refine qg ?_ (hg:=wi a_);refine qp (o:=3) ?_ (hg:=wi a_);refine ql hH aB ?_ (hg:=wi a_);refine qg ?_ (hg:=wi a_);refine ab.dh (aj rfl rfl rfl bd) rfl a_ (ae rfl _) ?_;refine qg ?_ (hg:=wi bd);refine qt bd ?_;refine qe hK ?_
     by_cases ez:0<s1.o
     ·have fG:(!decide (((s1.o:Nat):Int)>0))=false:=by rw[decide_eq_true (by omega)];rfl
      refine qE rfl (by rw[fG]) ?_;refine ag.exit ?_;obtain⟨_,yG,hQ,l,rfl⟩:=np _ hH;refine qq ?_;refine qj fun K hK=>?_;refine qm ?_;refine qv (yG) ?_;refine qm ?_;refine qe hK ?_;refine ag.ret ⟨rx,_,_,_,rfl,ak (rfl),?_⟩;exact⟨s1,hQ,cv.ay b4 (hH.erase 2)⟩
     ·have fG:(!decide (((s1.o:Nat):Int)>0))=true:=by rw[decide_eq_false (by omega)];rfl
      refine qD rfl (by rw[fG]) ?_;refine ag.skip ?_;refine ag.block ?_;refine qj fun K hK=>?_;refine qm ?_;refine qm ?_;obtain⟨_,st,aM,s2,⟨r1,r2,r3,r4,l,rfl,r5,r6,r7⟩,hH⟩:=xK hA cI (s:=s1) jV hlt h2 (by omega) hH;refine qv aM ?_;refine qh (s:=1) (vs:=[_]) hH fun k41 st JW hH=>?_;dsimp only[u2,u1,u3,u4,setMany,u5,u6,D.cells,Nat.reduceAdd,aQ,aY,av,ax,c9] at hH;refine ab.cu (s:=1) hH rfl (ev rfl) (ev rfl) (by exact gA) (by exact hH.rows (by exact aB)) rfl rfl rfl rfl rfl rfl rfl ⟨(Nat.le_of_ble_eq_true rfl),(Nat.le_of_ble_eq_true rfl)⟩ (fun _=>(ae rfl _)) (by simp only[List.length_cons,List.length_nil,List.length_map]<;>omega) (by exact .inr rfl) (fun IE st hH=>?_);dsimp only[u2,u1,u3,u4,setMany,u5,u6,D.cells,Nat.reduceAdd,aQ,aY,av,ax,c9] at hH;refine qm ?_;refine qe hK ?_;have hH:=hH.drop 1;refine⟨mm-1,by omega,⟨s2,IE,parts++[l],rfl,(by rw[List.map_append];exact hH),by omega,r2,by omega,r4,?_,by rw[cT,List.length_append];simp only[dY,List.length_cons,List.length_nil];omega,(fun e=>by rw[cT,List.length_append];simp only[dY,List.length_cons,List.length_nil];omega),by split<;>omega⟩⟩;intro l' gf
      rcases List.mem_append.1 gf with gf|gf
      ·exact h5 l' gf
      ·simp only[List.mem_cons,List.not_mem_nil,or_false] at gf;subst gf;exact r5
  ·have a7:decide (((s1.i:Nat):Int)<((gs.length:Nat):Int))=false:=by rw[decide_eq_false_iff_not];omega
   refine qq ?_;refine qq ?_;refine qj fun K hK=>?_;refine qm ?_;refine qg ?_;refine qp (o:=5) ?_;refine ql hH aB ?_;refine qg ?_;refine qm ?_;refine qm ?_ (hg:=wi bn);refine qg ?_ (hg:=wi bn);refine qp (o:=2) ?_ (hg:=wi bn);refine ql hH aB ?_ (hg:=wi bn);refine qm ?_ (hg:=wi bn);refine qg ?_ (hg:=wi bn);refine qp (o:=0) ?_ (hg:=wi bn);refine ql hH aB ?_ (hg:=wi bn);refine qn ?_ (hg:=wi bn);simp only[List.length_map];refine qg ?_ (hg:=wi bn);refine qt bn ?_;refine qm ?_;refine qs ?_ (hg:=wn a7);refine qs ?_ (hg:=wn a7);refine qs ?_ (hg:=wn a7);refine qu a7 ?_;refine qm ?_;refine qs ?_;refine qs ?_;refine qs ?_;refine qs ?_;refine qs ?_;refine qs ?_;refine qs ?_;refine qs ?_;refine qs ?_;refine qs ?_;refine qg ?_;refine qe hK ?_;refine qC ?_;refine ag.exit ?_;obtain⟨_,yG,hQ,l,rfl⟩:=np _ hH;refine qq ?_;refine qj fun K hK=>?_;refine qm ?_;refine qv (yG) ?_;refine qm ?_;refine qe hK ?_;refine ag.ret ⟨rx,_,_,_,rfl,ak (rfl),?_⟩;exact⟨s1,hQ,cv.ay b4 (hH.erase 2)⟩
 ·have bn:(s1.e==0)=false:=by simpa using jV
  refine qq ?_;refine qq ?_;refine qj fun K hK=>?_;refine qm ?_;refine qg ?_;refine qp (o:=5) ?_;refine ql hH aB ?_;refine qg ?_;refine qm ?_;refine qs ?_ (hg:=wn bn);refine qs ?_ (hg:=wn bn);refine qs ?_ (hg:=wn bn);refine qs ?_ (hg:=wn bn);refine qs ?_ (hg:=wn bn);refine qs ?_ (hg:=wn bn);refine qs ?_ (hg:=wn bn);refine qs ?_ (hg:=wn bn);refine qs ?_ (hg:=wn bn);refine qs ?_ (hg:=wn bn);refine qu bn ?_;refine qm ?_;refine qs ?_;refine qs ?_;refine qs ?_;refine qg ?_;refine qm ?_;refine qs ?_;refine qs ?_;refine qs ?_;refine qs ?_;refine qs ?_;refine qs ?_;refine qs ?_;refine qs ?_;refine qs ?_;refine qs ?_;refine qg ?_;refine qe hK ?_;refine qC ?_;refine ag.exit ?_;obtain⟨_,yG,hQ,l,rfl⟩:=np _ hH;refine qq ?_;refine qj fun K hK=>?_;refine qm ?_;refine qv (yG) ?_;refine qm ?_;refine qe hK ?_;refine ag.ret ⟨rx,_,_,_,rfl,ak (rfl),?_⟩;exact⟨s1,hQ,cv.ay b4 (hH.erase 2)⟩
theorem Dl:∀m:Nat,jw m:=by
 intro m
 induction m using Nat.strongRecOn with
 |ind m ih0=>
 have hA:∀m',m'+1=m→jw m':=fun m' h=>ih0 m' (by omega);intro N k S s0 H gs bk ba s cI he hi hg ho hH;have ni:=cI.gl;have gT:=cI.pl;refine Ev.lX rfl NM rfl rfl rfl ?_;dsimp only[u3,u4,List.length,Nat.reduceSub,Nat.reduceAdd,w1,w2];have cv:=hH;have hH:=hH.cw;have b4:(aq .rw s0).bs=s0.bs:=rfl;generalize aq .rw s0=S2 at*;refine qq ?_;refine qj fun K hK=>?_;refine qm ?_;refine qe hK ?_;refine qq ?_;refine qj fun K hK=>?_;refine qm ?_;obtain⟨_,st,aM,s1,⟨p1,p2,p3,p4,l,rfl,p5,p6⟩,hH⟩:=zi hA cI he hi hg ho hH;refine qv aM ?_;refine qh (s:=1) (vs:=[_]) hH fun k6 st DF hH=>?_;dsimp only[u2,u1,u3,u4,setMany,u5,u6,D.cells,Nat.reduceAdd,aQ,aY,av,ax,c9] at hH;refine qm ?_;refine qe hK ?_;have hH:Has N S2 st (.box k (.mem 0 false (aQ gs bk s1))::.aN bk 1 (ba.map av)::.aN (.win k6 0 0 1 1) 1 ([l].map c9)::H):=kM hH;refine qq ?_;refine ag.block ?_;refine ag.loop (fun mm fr st=>∃(s1:dQ) (pd:D) (parts:List (List dj)),fr.clean=⟨4,[.ptr k 0 0,lg fr 1,lg fr 2,pd],[]⟩∧Has N S2 st (.box k (.mem 0 false (aQ gs bk s1))::.aN bk 1 (ba.map av)::.aN pd 1 (parts.map c9)::H)∧(s1.o=s.o)∧(s1.g≤4)∧(s.i≤s1.i)∧(s1.i≤gs.length)∧(∀l∈parts,∀n∈l,qV n)∧(dY parts+3*parts.length≤4*(s1.i-s.i)+4)∧(1≤parts.length)∧(gs.length-s1.i≤mm)) (gs.length) ?_ ?_
 ·exact⟨s1,.win k6 0 0 1 1,[l],rfl,hH,p1,p2,p3,p4,(fun l' gf=>by simp only[List.mem_cons,List.not_mem_nil,or_false] at gf;subst gf;exact p5),by simp only[dY,List.length_cons,List.length_nil];omega,by simp,by omega⟩
 rintro mm fr st ⟨s1,pd,parts,hfr,hH,h1,h2,h3,h4,h5,h6,h8,te⟩;rw[hfr];clear hfr;generalize lg fr=ee;clear fr
 have np:∀st:St,Has N S2 st (.box k (.mem 0 false (aQ gs bk s1))::.aN bk 1 (ba.map av)::.aN pd 1 (parts.map c9)::H)→∃d,Ev pv 59 [.int .i64 4,pd] st d st∧qU gs s s1 d∧∃l,d=qX l:=by
  intro st hH;obtain⟨_,aM,l,rfl,j1,j2,j3⟩:=oK 4 (hH.rows ei) h5 (by omega) (by omega);refine⟨_,aM,⟨h1,h2,h3,h4,l,rfl,j1,?_⟩,l,rfl⟩
  by_cases q1:parts.length=1
  ·have:=j2 q1;omega
  ·omega
 by_cases jV:s1.e=0
 ·have bn:(s1.e==0)=true:=by simpa using jV
  obtain⟨k1,k2,k3,k4,k5⟩:=fq (gs:=gs) (s:=s1) (r:=124);have k5:=k5 h4;refine qq ?_;refine qq ?_;refine qj fun K hK=>?_;refine qm ?_;refine qg ?_;refine qp (o:=5) ?_;refine ql hH aB ?_;refine qg ?_;refine qm ?_;refine qm ?_ (hg:=wi bn);obtain⟨_,st,aM,rfl,hH⟩:=df (s:=s1) (by omega) 124 hH;refine qv aM ?_ (hg:=wi bn);refine qt bn ?_;refine qe hK ?_
  cases hb:iR gs s1.i 124 with
  |false=>
   rw[me hb] at hH;refine qC ?_;refine ag.exit ?_;obtain⟨_,yG,hQ,l,rfl⟩:=np _ hH;refine qq ?_;refine qj fun K hK=>?_;refine qm ?_;refine qv (yG) ?_;refine qm ?_;refine qe hK ?_;refine ag.ret ⟨rx,_,_,_,rfl,ak (rfl),?_⟩;exact⟨s1,hQ,cv.ay b4 (hH.erase 2)⟩
  |true=>
   have k6:=j_ hb;generalize cB gs s1 124=s2 at*;refine qB ?_;refine ag.skip ?_;refine ag.block ?_;refine qj fun K hK=>?_;refine qm ?_;refine qm ?_;obtain⟨_,st,aM,s3,⟨r1,r2,r3,r4,l,rfl,r5,r6⟩,hH⟩:=zi hA cI (s:=s2) (by omega) k5 (by omega) (by omega) hH;refine qv aM ?_;refine qh (s:=1) (vs:=[_]) hH fun k19 st Rw hH=>?_;dsimp only[u2,u1,u3,u4,setMany,u5,u6,D.cells,Nat.reduceAdd,aQ,aY,av,ax,c9] at hH;refine ab.cu (s:=1) hH rfl (ev rfl) (ev rfl) (by exact gA) (by exact hH.rows (by exact aB)) rfl rfl rfl rfl rfl rfl rfl ⟨(Nat.le_of_ble_eq_true rfl),(Nat.le_of_ble_eq_true rfl)⟩ (fun _=>(ae rfl _)) (by simp only[List.length_cons,List.length_nil,List.length_map]<;>omega) (by exact .inr rfl) (fun Od st hH=>?_);dsimp only[u2,u1,u3,u4,setMany,u5,u6,D.cells,Nat.reduceAdd,aQ,aY,av,ax,c9] at hH;refine qm ?_;refine qe hK ?_;have hH:=hH.drop 1;refine⟨mm-1,by omega,⟨s3,Od,parts++[l],rfl,(by rw[List.map_append];exact hH),by omega,r2,by omega,r4,?_,by rw[cT,List.length_append];simp only[dY,List.length_cons,List.length_nil];omega,by rw[List.length_append];omega,by omega⟩⟩;intro l' gf
   rcases List.mem_append.1 gf with gf|gf
   ·exact h5 l' gf
   ·simp only[List.mem_cons,List.not_mem_nil,or_false] at gf;subst gf;exact r5
 ·have bn:(s1.e==0)=false:=by simpa using jV
  refine qq ?_;refine qq ?_;refine qj fun K hK=>?_;refine qm ?_;refine qg ?_;refine qp (o:=5) ?_;refine ql hH aB ?_;refine qg ?_;refine qm ?_;refine qs ?_ (hg:=wn bn);refine qs ?_ (hg:=wn bn);refine qu bn ?_;refine qe hK ?_;refine qC ?_;refine ag.exit ?_;obtain⟨_,yG,hQ,l,rfl⟩:=np _ hH;refine qq ?_;refine qj fun K hK=>?_;refine qm ?_;refine qv (yG) ?_;refine qm ?_;refine qe hK ?_;refine ag.ret ⟨rx,_,_,_,rfl,ak (rfl),?_⟩;exact⟨s1,hQ,cv.ay b4 (hH.erase 2)⟩
theorem nQ:∀(n:Nat) (b:List UInt8),b.length≤n→(cQ b).length≤b.length∧∀g∈cQ b,g.2≤b.length:=by
 intro n
 induction n with
 |zero=>
  intro b hb;have:b=[]:=List.length_eq_zero_iff.1 (by omega);subst this;rw[nP];exact⟨Nat.le_refl _,fun g hg=>by cases hg⟩
 |succ n ih=>
  intro b hb
  by_cases h:b=[]
  ·subst h;rw[nP];exact⟨Nat.le_refl _,fun g hg=>by cases hg⟩
  ·have hp:=iK b;have hl:=pB h;obtain⟨h1,h2⟩:=ih (b.drop (gu b).2) (by rw[List.length_drop];omega);rw[List.length_drop] at h1 h2;rw[o6 h];refine⟨by rw[List.length_cons];omega,fun g hg=>?_⟩
   rcases List.mem_cons.1 hg with rfl|hg
   ·exact hl
   ·have:=h2 g hg;omega
def bc (fr:Go.V.Fr) (k:Nat):Go.V.D:=Go.V.nth .bp fr.loc k
def Ii (d:D):Prop:=∃(l:List dj) (e w:Int),d=.tup [qX l,.int .i64 e,.int .i64 w]∧(∀n∈l,qV n)∧l.length≤500
theorem xX {s0:St} {b:List UInt8} (hbl:b.length≤1048576):∃d,Ev pv 18 [.str b] s0 d s0∧Ii d:=by
 obtain⟨ni,My⟩:=nQ _ b (Nat.le_refl _);have aM:∀(st:St) (x:D),Bytes st x b→Ev pv 11 [x] st (bX (cQ b)) st:=fun st x h=>uG h hbl;generalize cQ b=gs at*;refine Ev.Dt rfl NT rfl rfl rfl ?_;dsimp only[u3,u4,List.length,Nat.reduceSub,Nat.reduceAdd,w1,w2];obtain⟨cn,hF,hH⟩:=ri s0;generalize aq .ro s0=S at*;have yI:Arg s0.bs.length S 2 (bX gs) (gs.map aY):=Arg.pure (fun st=>cC st gs);refine qq<|qj fun K hK=>qm ?_;refine qm ?_;refine qm ?_;refine qe hK<|qq<|qq<|qj fun K hK=>qm ?_;refine ab.lU rfl rfl rfl (by dsimp only[Fr.put,u1,u2]<;>rfl) ?_;refine qg ?_;refine qe hK ?_
 by_cases OY:120<b.length
 ·have fG:decide (((b.length:Nat):Int)>120)=true:=by rw[decide_eq_true_eq];omega
  refine qD rfl (by rw[fG]) ?_;refine qq<|qj fun K hK=>qm ?_;refine qm ?_;refine qm ?_;refine qe hK<|ag.ret ⟨rx,_,_,rfl,rl cn hH (rfl),?_⟩;exact⟨[],2,0,rfl,fun n hn=>(by cases hn),by simp⟩
 have fG:decide (((b.length:Nat):Int)>120)=false:=by rw[decide_eq_false_iff_not];omega
 refine qE rfl (by rw[fG]) ?_;refine ag.skip<|qq<|qj fun K hK=>qm ?_;refine ab.ue hH rfl rfl rfl rfl rfl (by omega) (fun _=>by dsimp only[Fr.put,u1,u2]<;>rfl) (fun k14 st JY hH=>?_);refine qv ((aM _ _ (hH.rows aB))) ?_;refine ab.go (d:=.agg [bX gs,.nul,.int .i64 0,.int .i64 0,.int .i64 0,.int .i64 0,.int .i64 0]) (st1:=_) rfl rfl rfl (by dsimp only[Fr.put,u1,u2]<;>rfl) ?_;refine qb hH fun k17 st Mp hH=>?_;refine qm ?_;refine qe hK<|qq<|qj fun K hK=>qm ?_;refine qe hK<|qq<|qq<|qj fun K hK=>qm ?_;refine qg ?_;refine qp (o:=0) ?_;refine ql hH aB ?_;refine qn ?_;simp only[List.length_map];refine qm ?_;refine qe hK ?_;have hH:Has s0.bs.length S st (.box k17 (.mem 0 false [bX gs,.nul,.int .i64 0,.int .i64 0,.int .i64 0,.int .i64 0,.int .i64 0])::.aN .nul 1 (([]:List Int).map av)::[]):=((hH.erase 1).fc 1).front bN;refine ag.block<|ag.loop (fun mm fr st=>∃(i a:Nat) (pd:D) (ba:List Int),fr.clean=⟨24,[bc fr 0,bc fr 1,bc fr 2,bc fr 3,bc fr 4,.ptr k17 0 0,.int .i64 (a:Nat),bc fr 7,bc fr 8,bc fr 9,bc fr 10,bc fr 11,bc fr 12,bc fr 13,bc fr 14,bc fr 15,bc fr 16,bc fr 17,bc fr 18,bc fr 19,bc fr 20,bX gs,.int .i64 (gs.length:Nat),.int .i64 (i:Nat)],[]⟩∧Has s0.bs.length S st [.box k17 (.mem 0 false [bX gs,pd,.int .i64 0,.int .i64 0,.int .i64 0,.int .i64 0,.int .i64 0]),.aN pd 1 (ba.map av)]∧(i+mm=gs.length)∧(ba.length=i)∧(a≤120*i)) (gs.length) ?_ ?_
 ·exact⟨0,0,.nul,[],rfl,hH,by omega,rfl,by omega⟩
 rintro mm fr st ⟨i,a,pd,ba,hfr,hH,hi,gT,ha⟩;rw[hfr];clear hfr;generalize bc fr=ee;clear fr;refine qq<|qj fun K hK=>qg ?_;refine qe hK ?_
 by_cases hlt:i<gs.length
 ·obtain⟨g,hg⟩:∃g,gs[i]?=some g:=⟨gs[i]'hlt,List.getElem?_eq_getElem _⟩
  have gM:(gs.map aY)[i]?=some (aY g):=by rw[List.getElem?_map,hg];rfl
  have bH:=My g (List.mem_of_getElem? hg);have tg:decide (((i:Nat):Int)<((gs.length:Nat):Int))=true:=by rw[decide_eq_true_eq];omega
  refine qq<|qD rfl (by rw[tg]) ?_;refine ag.skip<|qq<|ag.block<|qq<|qj fun K hK=>qr fun Lb Hl=>?_;refine ab.eo rfl (ev rfl) (by assumption) rfl (ae rfl _) ?_;refine qa hH fun k8 st Mj hH=>?_;refine qS hH aB fun st hH=>?_;dsimp only[u2,u1,u3,u4,setMany,u5,u6,D.cells,Nat.reduceAdd,aQ,aY,av] at hH;refine qe hK<|qq<|qj fun K hK=>qm ?_;refine qm ?_;refine qg ?_;refine qp (o:=1) ?_;refine ql hH bN ?_;refine qm ?_;refine qh (s:=1) (vs:=[_]) hH fun k33 st Mn hH=>?_;refine ab.cu (s:=1) hH rfl (ev rfl) (ev rfl) (by exact gA) (by exact hH.rows (by exact aB)) rfl rfl rfl rfl rfl rfl rfl ⟨(Nat.le_of_ble_eq_true rfl),(Nat.le_of_ble_eq_true rfl)⟩ (fun _=>(ae rfl _)) (by simp only[List.length_cons,List.length_nil,List.length_map]<;>omega) (by exact .inl hF) (fun Ps st hH=>?_);dsimp only[u2,u1,u3,u4,setMany,u5,u6,D.cells,Nat.reduceAdd,aQ,aY,av] at hH;refine qg ?_;refine qp (o:=1) ?_;refine qT hH ei (fun st hH=>?_) (ij:=hH.g_ gA);dsimp only[u2,u1,u3,u4,setMany,u5,u6,D.cells,Nat.reduceAdd,aQ,aY,av] at hH;refine qe hK<|qj fun K hK=>qm ?_;refine qp (o:=1) ?_;refine ql hH bN ?_;refine ab.Ku rfl (ev rfl) (ev rfl) (by omega) (ae rfl _) ?_;refine qm ?_;refine qe hK<|qj fun K hK=>qA ?_;refine qm ?_;refine qe hK ?_;exact⟨mm-1,by omega,⟨i+1,a+g.2,Ps,ba++[((a:Nat):Int)],rfl,(by rw[List.map_append];exact hH.drop 2),by omega,by rw[List.length_append,gT];rfl,by omega⟩⟩
 ·have tg:decide (((i:Nat):Int)<((gs.length:Nat):Int))=false:=by rw[decide_eq_false_iff_not];omega
  refine qq<|qE rfl (by rw[tg]) ?_;refine ag.exit ?_
  have cI:i_ gs ba:=⟨by omega,by omega⟩
  have hH:Has s0.bs.length S st (.box k17 (.mem 0 false (aQ gs pd ⟨0,0,0,0,0⟩))::.aN pd 1 (ba.map av)::[]):=hH;refine qq<|qj fun K hK=>qm ?_;obtain⟨_,st,aM,s1,⟨p1,p2,p3,p4,l,rfl,p5,p6⟩,hH⟩:=Dl 20 (s:=⟨0,0,0,0,0⟩) cI rfl (by simp) (by simp) rfl hH;refine qv aM ?_;refine qm ?_;refine qe hK ?_;have p6:l.length≤4*(s1.i-0)+1:=p6;refine qq<|qq<|ag.mT (fun fr st=>∃(s2:dQ) (tmp:List (Nat×D)),fr=⟨24,[bc fr 0,bc fr 1,bc fr 2,bc fr 3,bc fr 4,.ptr k17 0 0,bc fr 6,bc fr 7,bc fr 8,qX l,bc fr 10,bc fr 11,bc fr 12,bc fr 13,bc fr 14,bc fr 15,bc fr 16,bc fr 17,bc fr 18,bc fr 19,bc fr 20,bc fr 21,bc fr 22,bc fr 23],tmp⟩∧Has s0.bs.length S st (.box k17 (.mem 0 false (aQ gs pd s2))::.aN pd 1 (ba.map av)::[])∧(True)) ?_ ?_
  ·by_cases jV:s1.e=0
   ·have bn:(s1.e==0)=true:=by simpa using jV
    refine qj fun K hK=>qm ?_;refine qg ?_;refine qp (o:=5) ?_;refine ql hH aB ?_;refine qg ?_;refine qm ?_;refine qm ?_ (hg:=wi bn);refine qg ?_ (hg:=wi bn);refine qp (o:=2) ?_ (hg:=wi bn);refine ql hH aB ?_ (hg:=wi bn);refine qm ?_ (hg:=wi bn);refine qg ?_ (hg:=wi bn);refine qp (o:=0) ?_ (hg:=wi bn);refine ql hH aB ?_ (hg:=wi bn);refine qn ?_ (hg:=wi bn);simp only[List.length_map];refine qg ?_ (hg:=wi bn);refine qt bn ?_;refine qe hK ?_;refine ag.cond (by rfl) (fun O3=>?_) (fun O3=>?_)<;>try simp only[decide_eq_true_eq,decide_eq_false_iff_not] at O3
    ·refine qj fun K hK=>qm ?_;refine qm ?_;refine qg ?_;refine qp (o:=2) ?_;refine ql hH aB ?_;obtain⟨_,st,aM,rfl,hH⟩:=cD (s:=s1) s1.i 4 (by omega) hH;refine qv aM ?_;refine qe hK ?_;exact⟨_,_,rfl,hH,trivial⟩
    ·refine ag.skip ?_;exact⟨s1,_,rfl,hH,trivial⟩
   ·have bn:(s1.e==0)=false:=by simpa using jV
    refine qj fun K hK=>qm ?_;refine qg ?_;refine qp (o:=5) ?_;refine ql hH aB ?_;refine qg ?_;refine qm ?_;refine qs ?_ (hg:=wn bn);refine qs ?_ (hg:=wn bn);refine qs ?_ (hg:=wn bn);refine qs ?_ (hg:=wn bn);refine qs ?_ (hg:=wn bn);refine qs ?_ (hg:=wn bn);refine qs ?_ (hg:=wn bn);refine qs ?_ (hg:=wn bn);refine qs ?_ (hg:=wn bn);refine qs ?_ (hg:=wn bn);refine qu bn ?_;refine qe hK<|qC ?_;refine ag.skip ?_;exact⟨s1,_,rfl,hH,trivial⟩
  ·rintro fr st ⟨s2,tmp,hfr,hH,ht⟩;rw[hfr];clear hfr;generalize bc fr=ee;clear fr;refine qq<|qq<|qj fun K hK=>qm ?_;refine qg ?_;refine qp (o:=5) ?_;refine ql hH aB ?_;refine qg ?_;refine qe hK ?_;refine ag.cond (by rfl) (fun hne=>?_) (fun hne=>?_)<;>try simp only[bne_iff_ne,bne_eq_false_iff_eq,ne_eq] at hne
   ·refine qq<|qj fun K hK=>qm ?_;refine qg ?_;refine qp (o:=5) ?_;refine ql hH aB ?_;refine qm ?_;refine qg ?_;refine qp (o:=6) ?_;refine ql hH aB ?_;refine qm ?_;refine qm ?_;refine qm ?_;refine qe hK<|ag.ret ⟨rx,_,_,rfl,rl cn hH (rfl),?_⟩;exact⟨[],_,_,rfl,fun n hn=>(by cases hn),by simp⟩
   ·refine ag.skip<|qq<|qj fun K hK=>qm ?_;refine qm ?_;refine qm ?_;refine qm ?_;refine qe hK<|ag.ret ⟨rx,_,_,rfl,rl cn hH (rfl),?_⟩;exact⟨l,0,0,rfl,p5,by omega⟩
def pz (n:dj):Bool:=((n.op==2)||((n.rs.length:Nat):Int)==0) &&((n.op==5)||((n.mn==0) &&(n.mx==0) &&!n.lz)) &&((n.op==6)||(n.cap==0))
noncomputable def eK (n:dj) (g:Int):Int×Bool:=
 if pz n=false then(0,false)
 else if n.op=1∨n.op=7∨n.op=8 then(0,n.kids==0)
 else if n.op=2 then(0,(n.kids==0) &&iD n.rs)
 else if n.op=3∨n.op=4 then(n.kids,decide (n.kids≥2))
 else if n.op=5 then(1,(n.kids==1) &&decide (n.mn≥0) &&decide (n.mn≤30) &&((n.mx==-1)||(decide (n.mx≥n.mn) &&decide (n.mx≤30))))
 else if n.op=6 then(1,(n.kids==1) &&(n.cap==g+1) &&decide (n.cap≤4))
 else(0,false)
def jF (h:Nat→Nat→Option (Nat×Nat)):Nat→Nat→Nat→Option (Nat×Nat)
 |0,at_,g=>some (at_,g)
 |k+1,at_,g=>match h at_ g with
  |some r=>jF h k r.1 r.2
  |none=>none
noncomputable def gG (l:List dj):Nat→Nat→Nat→Option (Nat×Nat)
 |0,_,_=>none
 |f+1,at_,g=>match l[at_]? with
  |none=>none
  |some n=>if(eK n (g:Nat)).2=true then jF (gG l f) (eK n (g:Nat)).1.toNat (at_+1) (if n.op=6 then g+1 else g) else none
theorem rm {n:dj} {g:Nat} (h:(eK n (g:Nat)).2=true):rR n (eK n (g:Nat)).1.toNat∧0≤(eK n (g:Nat)).1∧(n.op=6→n.cap=g+1∧n.cap≤4):=by
 unfold eK at h⊢;unfold rR
 by_cases h0:pz n=false
 ·rw[if_pos h0] at h;cases h
 rw[if_neg h0] at h⊢
 by_cases h1:n.op=1∨n.op=7∨n.op=8
 ·rw[if_pos h1] at h⊢;simp only[beq_iff_eq] at h;exact⟨⟨h,.inl ⟨h1,rfl⟩⟩,Int.le_refl _,fun h6=>by omega⟩
 rw[if_neg h1] at h⊢
 by_cases h2:n.op=2
 ·rw[if_pos h2] at h⊢;simp only[Bool.and_eq_true,beq_iff_eq] at h;exact⟨⟨h.1,.inr (.inl ⟨h2,rfl⟩)⟩,Int.le_refl _,fun h6=>by omega⟩
 rw[if_neg h2] at h⊢
 by_cases h3:n.op=3∨n.op=4
 ·rw[if_pos h3] at h⊢;simp only[decide_eq_true_eq] at h;exact⟨⟨by simp only;omega,.inr (.inr (.inl ⟨h3,by simp only;omega⟩))⟩,by simp only;omega,fun h6=>by omega⟩
 rw[if_neg h3] at h⊢
 by_cases h5:n.op=5
 ·rw[if_pos h5] at h⊢;simp only[Bool.and_eq_true,Bool.or_eq_true,beq_iff_eq,decide_eq_true_eq] at h;exact⟨⟨by simp only;omega,.inr (.inr (.inr (.inl ⟨h5,by simp only;rfl,by omega,by omega,by omega⟩)))⟩,by simp only;omega,fun h6=>by omega⟩
 rw[if_neg h5] at h⊢
 by_cases h6:n.op=6
 ·rw[if_pos h6] at h⊢;simp only[Bool.and_eq_true,beq_iff_eq,decide_eq_true_eq] at h;exact⟨⟨by simp only;omega,.inr (.inr (.inr (.inr ⟨h6,by simp only;rfl,by omega,by omega⟩)))⟩,by simp only;omega,fun _=>⟨h.1.2,h.2⟩⟩
 rw[if_neg h6] at h;cases h
theorem eH.cons {α:Type} {L M:List α} {a:α} {at_:Nat} (h:L[at_]?=some a) (h2:eH L (at_+1) M):eH L at_ (a::M):=by
 obtain⟨post,h2⟩:=h2;refine⟨post,?_⟩;have h3:L[at_]'(cq h)=a:=Option.some.inj ((List.getElem?_eq_getElem _).symm.trans h);rw[List.drop_eq_getElem_cons (cq h),h2,h3];rfl
theorem eH.append {α:Type} {L M M':List α} {at_:Nat} (h:eH L at_ M) (h2:eH L (at_+M.length) M'):eH L at_ (M++M'):=by
 obtain⟨post,h⟩:=h;obtain⟨Jc,h2⟩:=h2;refine⟨Jc,?_⟩;rw[←List.drop_drop,h,List.drop_left] at h2;rw[h,h2,List.append_assoc]
theorem eH.none {α:Type} (L:List α) (at_:Nat):eH L at_ []:=⟨_,rfl⟩
theorem oJ {l:List dj} {h:Nat→Nat→Option (Nat×Nat)} (ih:∀at_ g r,h at_ g=some r→∃t:Tr,t.ok∧eH l at_ t.flat∧r.1=at_+t.flat.length):∀k at_ g r,jF h k at_ g=some r→∃ts:bF,ts.len=k∧ts.ok∧eH l at_ ts.flat∧r.1=at_+ts.flat.length
 |0,at_,g,r,e=>by
  simp only[jF,Option.some.injEq] at e;subst e;exact⟨.nil,rfl,trivial,eH.none _ _,by simp[bF.flat]⟩
 |k+1,at_,g,r,e=>by
  unfold jF at e
  cases hq:h at_ g with
  |none=>rw[hq] at e;cases e
  |some q=>
   rw[hq] at e;obtain⟨t,t1,t2,t3⟩:=ih _ _ _ hq;obtain⟨ts,u1,u2,u3,u4⟩:=oJ ih k _ _ _ e;rw[t3] at u3 u4;exact⟨.cons t ts,by simp[bF.len,u1],by simp only[bF.ok];exact⟨t1,u2⟩,by simp only[bF.flat];exact t2.append u3,by rw[u4];simp only[bF.flat,List.length_append];omega⟩
theorem rN {l:List dj}:∀f at_ g r,gG l f at_ g=some r→∃t:Tr,t.ok∧eH l at_ t.flat∧r.1=at_+t.flat.length
 |0,_,_,_,e=>by simp[gG] at e
 |f+1,at_,g,r,e=>by
  unfold gG at e
  cases hn:l[at_]? with
  |none=>rw[hn] at e;cases e
  |some n=>
   rw[hn] at e;simp only at e
   split at e
   ·rename_i hs;obtain⟨ts,u1,u2,u3,u4⟩:=oJ (rN f) _ _ _ _ e;have:=(rm hs).1;rw[←u1] at this;exact⟨.mk n ts,by simp only[Tr.ok];exact⟨this,u2⟩,by simp only[Tr.flat];exact eH.cons hn u3,by rw[u4];simp only[Tr.flat,List.length_cons];omega⟩
   ·cases e
noncomputable def eM (l:List dj):Bool:=(decide (1≤l.length) &&decide (l.length≤480)) &&(match gG l 241 0 0 with|some r=>decide (r.1=l.length)|none=>false)
theorem mJ {l:List dj} (h:eM l=true):∃t:Tr,t.ok∧t.flat=l:=by
 unfold eM at h;simp only[Bool.and_eq_true] at h;obtain⟨_,h⟩:=h
 split at h
 ·rename_i r hr;obtain⟨t,h1,⟨post,h2⟩,h3⟩:=rN _ _ _ _ hr;rw[decide_eq_true_eq] at h;refine⟨t,h1,?_⟩;rw[List.drop_zero] at h2;have h4:=congrArg List.length h2;rw[List.length_append] at h4;have h5:post=[]:=List.length_eq_zero_iff.1 (by omega);rw[h2,h5,List.append_nil]
 ·cases h
noncomputable def cM (l:List dj):Tr:=@dite _ (∃t:Tr,t.ok∧t.flat=l) (Classical.propDecidable _) (fun h=>Classical.choose h) (fun _=>.mk ⟨0,.nul,[],0,0,false,0,0⟩ .nil)
theorem o9 {l:List dj} (h:eM l=true):(cM l).ok∧(cM l).flat=l:=by
 unfold cM;rw[dif_pos (mJ h)];exact Classical.choose_spec (mJ h)
theorem Dh {n:dj} {k s:Nat}:min (bz n (min s 401) k) 401=min (bz n s k) 401:=by
 by_cases hs:s≤401
 ·rw[Nat.min_eq_left hs]
 ·have hx:min s 401=401:=by omega
  rw[hx];unfold bz
  split
  ·rfl
  ·split
   ·omega
   ·split
    ·omega
    ·split
     ·split
      ·omega
      ·by_cases h0:n.mn.toNat=0
       ·rw[h0]
        by_cases hd:n.mx.toNat-0=0
        ·rw[hd];simp
        ·have h1:=Nat.le_mul_of_pos_left (401+1) (show 0<n.mx.toNat-0 by omega);have h2:=Nat.le_mul_of_pos_left (s+1) (show 0<n.mx.toNat-0 by omega);omega
       ·have h1:=Nat.le_mul_of_pos_left 401 (show 0<n.mn.toNat by omega);have h2:=Nat.le_mul_of_pos_left s (show 0<n.mn.toNat by omega);omega
     ·omega
def dA (t:Tr) (b r:Nat):List aP:=b7 4 0 0 []::(aG t (b+1)++[b7 4 1 0 [],b7 7 (r:Nat) 0 []])
theorem ou {t:Tr} {b r:Nat} (h:t.ok):(dA t b r).length=t.sz+3:=by
 unfold dA;rw[List.length_cons,List.length_append,bS t _ h];rfl
structure o7 where
 code:List aP
 aO:List Int
 e:Int
 w:Int
noncomputable def gk:List (List dj)→Nat→List aP→List Int→o7
 |[],_,c,s=>⟨c,s,0,0⟩
 |l::ls,r,c,s=>if eM l=false then⟨[],[],1,(r:Nat)⟩ else if 400<c.length+min (cM l).sz 401+3 then⟨[],[],12,(r:Nat)⟩ else gk ls (r+1) (c++dA (cM l) c.length r) (s++[((c.length:Nat):Int)])
noncomputable def bQ (rules:List (List dj)):o7:=if 8<rules.length then⟨[],[],13,8⟩ else gk rules 0 [] []
def tG (code:List aP) (aO:List Int):Pg:=⟨.sl ((code.map aU).map (jD 4)),code,Dv aO,aO⟩
def gS (i:aP):Prop:=i.rd=.sl ((i.rs.map ax).map (jD 2))∧i.rs.length≤1048576
theorem kf (op x y:Int):gS (b7 op x y []):=⟨rfl,by simp[b7]⟩
theorem Ji (op x y:Int) {rs:List Rg} (h:rs.length≤1048576):gS (b7 op x y rs):=⟨rfl,h⟩
theorem xz (s o:Nat) (lz:Bool):gS (j8 s o lz):=by unfold j8;split<;>exact kf _ _ _
theorem Du (e:Nat):gS (ig e):=kf _ _ _
theorem tS {code:List aP} (h:∀i∈code,gS i):∀e∈code.map aU,∀d∈e,bY d=true:=by
 intro e he d hd;obtain⟨q,hq,rfl⟩:=List.mem_map.1 he;have hr:=(h q hq).1;simp only[aU,hr,List.mem_cons,List.not_mem_nil,or_false] at hd
 rcases hd with rfl|rfl|rfl|rfl<;>rfl
theorem CH (code:List aP):∀e∈code.map aU,e.length=4:=by
 intro e he;obtain⟨q,_,rfl⟩:=List.mem_map.1 he;rfl
theorem tF {code:List aP} {aO:List Int} (h:∀i∈code,gS i) (h1:code.length≤1048576) (h2:aO.length≤1048576):(tG code aO).ok:=by
 refine⟨gR.frozen (CH code) (tS h),yt _,fun i hi=>?_,h1,h2⟩;obtain⟨h3,h4⟩:=h i hi;refine⟨?_,h4⟩;rw[h3];exact gR.frozen (kV _) (e_ _)
theorem tw {c:Nat→List aP} {z:Nat} (hc:∀b,∀i∈c b,gS i):∀k b,∀i∈er c z k b,gS i
 |0,b,i,hi=>by cases hi
 |k+1,b,i,hi=>by
  simp only[er] at hi
  rcases List.mem_append.1 hi with hi|hi
  ·exact hc b i hi
  ·exact tw hc k _ i hi
theorem xZ {sp:Nat→aP} {c:Nat→List aP} {z:Nat} (hs:∀s,gS (sp s)) (hc:∀b,∀i∈c b,gS i):∀k b,∀i∈dZ sp c z k b,gS i
 |0,b,i,hi=>by cases hi
 |k+1,b,i,hi=>by
  simp only[dZ] at hi
  rcases List.mem_cons.1 hi with rfl|hi
  ·exact hs _
  ·rcases List.mem_append.1 hi with hi|hi
   ·exact hc _ i hi
   ·exact xZ hs hc k _ i hi
mutual
theorem mr:∀(t:Tr) (b:Nat),(∀n∈t.flat,n.rs.length≤1048576)→∀i∈aG t b,gS i
 | .mk n ks,b,h,i,hi=>by
  simp only[Tr.flat] at h;have hn:=h n (List.mem_cons_self ..);have hk:∀n∈ks.flat,n.rs.length≤1048576:=fun m hm=>h m (List.mem_cons_of_mem _ hm);have hc:=fun b=>zj ks b hk;have ha:=fun jp (hj:gS jp) b=>zo jp hj ks b hk;simp only[aG] at hi
  split at hi
  ·simp only[List.mem_cons,List.not_mem_nil,or_false] at hi;subst hi;exact Ji _ _ _ hn
  split at hi
  ·simp only[List.mem_cons,List.not_mem_nil,or_false] at hi;subst hi;exact kf _ _ _
  split at hi
  ·simp only[List.mem_cons,List.not_mem_nil,or_false] at hi;subst hi;exact kf _ _ _
  split at hi
  ·exact hc b i hi
  split at hi
  ·exact ha _ (Du _) b i hi
  split at hi
  ·unfold kU at hi
   split at hi
   ·rcases List.mem_append.1 hi with hi|hi
    ·exact tw hc _ _ i hi
    ·rcases List.mem_cons.1 hi with rfl|hi
     ·exact xz _ _ _
     ·rcases List.mem_append.1 hi with hi|hi
      ·exact hc _ i hi
      ·simp only[List.mem_cons,List.not_mem_nil,or_false] at hi;subst hi;exact Du _
   ·rcases List.mem_append.1 hi with hi|hi
    ·exact tw hc _ _ i hi
    ·exact xZ (fun s=>xz _ _ _) hc _ _ i hi
  split at hi
  ·rcases List.mem_cons.1 hi with rfl|hi
   ·exact kf _ _ _
   ·rcases List.mem_append.1 hi with hi|hi
    ·exact hc _ i hi
    ·simp only[List.mem_cons,List.not_mem_nil,or_false] at hi;subst hi;exact kf _ _ _
  ·cases hi
theorem zj:∀(ts:bF) (b:Nat),(∀n∈ts.flat,n.rs.length≤1048576)→∀i∈eV ts b,gS i
 | .nil,b,_,i,hi=>by simp[eV] at hi
 | .cons t ts,b,h,i,hi=>by
  simp only[bF.flat] at h;simp only[eV] at hi
  rcases List.mem_append.1 hi with hi|hi
  ·exact mr t b (fun n hn=>h n (List.mem_append_left _ hn)) i hi
  ·exact zj ts _ (fun n hn=>h n (List.mem_append_right _ hn)) i hi
theorem zo (jp:aP) (hj:gS jp):∀(ts:bF) (b:Nat),(∀n∈ts.flat,n.rs.length≤1048576)→∀i∈dt jp ts b,gS i
 | .nil,b,_,i,hi=>by simp[dt] at hi
 | .cons t ts,b,h,i,hi=>by
  simp only[bF.flat] at h;have h1:∀n∈t.flat,n.rs.length≤1048576:=fun n hn=>h n (List.mem_append_left _ hn);have h2:∀n∈ts.flat,n.rs.length≤1048576:=fun n hn=>h n (List.mem_append_right _ hn);simp only[dt] at hi
  split at hi
  ·exact mr t b h1 i hi
  ·rcases List.mem_cons.1 hi with rfl|hi
   ·exact xz _ _ _
   ·rcases List.mem_append.1 hi with hi|hi
    ·exact mr t _ h1 i hi
    ·rcases List.mem_cons.1 hi with rfl|hi
     ·exact hj
     ·exact zo jp hj ts _ h2 i hi
end
theorem zS {t:Tr} {b r:Nat} (h:∀n∈t.flat,n.rs.length≤1048576):∀i∈dA t b r,gS i:=by
 intro i hi;unfold dA at hi
 rcases List.mem_cons.1 hi with rfl|hi
 ·exact kf _ _ _
 ·rcases List.mem_append.1 hi with hi|hi
  ·exact mr t _ h i hi
  ·simp only[List.mem_cons,List.not_mem_nil,or_false] at hi
   rcases hi with rfl|rfl
   ·exact kf _ _ _
   ·exact kf _ _ _
end Go.Proofs.Ytbdnabmmlbiomaa
