/-
 The parser of patterns, told exactly: how often.
-/
import Derived.Test.YtecjacicdpejaaaGreatXGEm
import Derived.Test.YtecjacicdpejaaaGreatXGPb
set_option maxRecDepth 100000
set_option maxHeartbeats 4000000
set_option linter.unusedSimpArgs false
set_option linter.unusedVariables false
namespace Go.Proofs.YtecjacicdpejaaaGreat
open Go.V Go
def jD (fr:Go.V.Fr) (k:Nat):Go.V.D:=Go.V.nth .bp fr.loc k
def Hd (gs:List (Nat×Nat)) (aY:List Int) (R:PR (Int×Int)) (s s':ec) (n1 n2:Int):Prop:=
 tN gs s s'∧(eB R aY s'∨s'.e=0∧R=.ok (n1,n2) s'.i)
theorem vA {gs:List (Nat×Nat)} {s:ec} {r:Int} (h:ek gs s.i r=false):bW gs s r=s:=by
 unfold bW;rw[if_neg (by rw[h];simp)]
theorem kH {gs:List (Nat×Nat)} {s:ec} {r:Int} (h:ek gs s.i r=true):(bW gs s r).i=s.i+1:=by
 unfold bW;rw[if_pos h]
theorem Bc {N k:Nat} {S s0:St} {H:List bj} {gs:List (Nat×Nat)} {bA:D} {aY:List Int} {s:ec} (eo:kz gs aY) (he:s.e=0) (hi:s.i<gs.length) (hH:Has N S s0 (.box k (.mem 0 false (aP gs bA s))::.aE bA 1 (aY.map aB)::H)):
  ∃d ah,Ev pv 248 [.ptr k 0 0] s0 d ah∧∃(n1 n2:Int) (s':ec),d=.tup [.int .i64 n1,.int .i64 n2]∧Hd gs aY (pW gs s.i) s s' n1 n2∧Has N S ah (.box k (.mem 0 false (aP gs bA s'))::.aE bA 1 (aY.map aB)::H):=by
 have r_:=eo.gl;have lY:=eo.pl;have hne:gs≠[]:=by rintro rfl;simp at hi
 refine Ev.nj rfl LL rfl rfl rfl ?_;dsimp only[u3,u4,List.length,Nat.reduceSub,Nat.reduceAdd,w1,w2];have cD:=hH;have hH:=hH.cE;have cy:(ai .rw s0).bs=s0.bs:=rfl;generalize ai .rw s0=S2 at*;refine qq<|qj fun K hK=>qm ?_;refine qm ?_;refine qe hK<|qq<|qj fun K hK=>qm ?_;refine qg ?_;refine qp (o:=2) ?_;refine ql hH ax ?_;refine qm ?_;refine qe hK<|qq<|qj fun K hK=>qm ?_;refine qg ?_;refine qp (o:=2) ?_;refine ql hH ax ?_;refine qA ?_;refine qg ?_;refine qp (o:=2) ?_;refine qT hH ax fun st hH=>?_;dsimp only[u2,u1,u3,u4,setMany,u5,u6,D.cells,Nat.reduceAdd,aP,br,aB,au] at hH;refine qe hK ?_;have hH:Has N S2 st (.box k (.mem 0 false (aP gs bA {s with i:=s.i+1}))::.aE bA 1 (aY.map aB)::H):=hH;have hall:=Bb gs s.i
 obtain⟨R,hR⟩:∃R,pW gs s.i=R:=⟨_,rfl⟩
 rw[hR] at hall⊢;clear hR
 have D0:∀(st:St) (s3:ec) (e:Int),e≠0→s3.e=0→tN gs s s3→R=.er e s.i→Has N S2 st (.box k (.mem 0 false (aP gs bA s3))::.aE bA 1 (aY.map aB)::H)→∃d ah,Ev pv 134 [.ptr k 0 0,.int .i64 (s.i:Nat),.int .i64 e] st d ah∧d=.sl []∧∃s4,(∀n1 n2,Hd gs aY R s s4 n1 n2)∧Has N S2 ah (.box k (.mem 0 false (aP gs bA s4))::.aE bA 1 (aY.map aB)::H):=by
  intro st s3 e h0 h1 h2 hv hH;obtain⟨d,ah,aI,h4,hH⟩:=et (s:=s3) s.i e (by omega) hH;obtain⟨w1,w2,w3,w4⟩:=gw (aY:=aY) (s:=s3) (i:=s.i) (e:=e) h1 h0 hv;exact⟨d,ah,aI,h4,_,fun _ _=>⟨⟨w3.trans h2.1,w4.trans h2.2.1,by rw[w2];exact h2.2.2.1,by rw[w2];exact h2.2.2.2⟩,.inl w1⟩,hH⟩
 obtain⟨A,hA⟩:∃A,digS (fV gs (s.i+1)) []=A:=⟨_,rfl⟩
 refine qq<|qj fun K hK=>qm ?_;obtain⟨_,st,aI,rfl,np,M_,hH⟩:=rr (s:={s with i:=s.i+1}) r_ (by show s.i+1≤_;omega) hne hH;dsimp only at aI np M_ hH;rw[hA] at aI np M_ hH;refine qv aI ?_;refine qm ?_;refine qg ?_;refine qg ?_;refine qm ?_;refine qm ?_;refine qe hK ?_;rw[hA] at hall;obtain⟨m,a2⟩:=A;clear hA;dsimp only at hall np M_ hH
 obtain⟨s1,DF⟩:∃s1:ec,({s with i:=s.i+1+a2}:ec)=s1:=⟨_,rfl⟩
 have HY:s1.e=0:=by rw[←DF];exact he
 have Of:s1.i=s.i+1+a2:=by rw[←DF]
 have Bv:tN gs s s1:=by rw[←DF];exact⟨rfl,rfl,by show s.i<s.i+1+a2;omega,M_⟩
 have hH:Has N S2 st (.box k (.mem 0 false (aP gs bA s1))::.aE bA 1 (aY.map aB)::H):=by rw[←DF];exact hH
 clear DF;rw[←Of] at hall
 obtain⟨ok,F4⟩:∃ok,decide (0<a2)=ok:=⟨_,rfl⟩
 rw[F4] at hall⊢;refine qq<|qj fun K hK=>qm ?_;refine qm ?_;refine qm ?_;refine qe hK<|qq<|qq<|ag.qw (fun fr st=>∃(n:List UInt8) (en:Bool) (s3:ec) (tmp:List (Nat×D)),fr=⟨14,[.ptr k 0 0,jD fr 1,jD fr 2,jD fr 3,.int .i64 (s.i:Nat),.str m,.bool ok,.str n,.bool en,jD fr 9,jD fr 10,jD fr 11,jD fr 12,jD fr 13],tmp⟩∧Has N S2 st (.box k (.mem 0 false (aP gs bA s3))::.aE bA 1 (aY.map aB)::H)∧(s3.e=0)∧(tN gs s s3)∧(n.length≤120)∧(R=pV gs s.i m n ok en s3.i)) ?_ ?_
 ·cases ok with
  |false=>
   have QX:a2=0:=by have:=of_decide_eq_false F4;omega
   have sa:false=false:=rfl;refine qj fun K hK=>qm ?_;refine qm ?_;refine qs ?_ (hg:=wn sa);refine qs ?_ (hg:=wn sa);refine qu sa ?_;refine qe hK<|qC ?_;refine ag.skip ?_;exact⟨m,false,s1,_,rfl,hH,HY,Bv,np,by rw[hall,if_neg (fun h=>h.1 QX)]⟩
  |true=>
   have QX:0<a2:=of_decide_eq_true F4;have sa:true=true:=rfl;obtain⟨k1,k2,k3,k4,k5⟩:=gQ (gs:=gs) (s:=s1) (r:=44);have k5:=k5 Bv.2.2.2;have k6:=vA (gs:=gs) (s:=s1) (r:=44);have k7:=kH (gs:=gs) (s:=s1) (r:=44);refine qj fun K hK=>qm ?_;refine qm ?_;refine qm ?_ (hg:=wi sa);obtain⟨_,st,aI,rfl,hH⟩:=dX (s:=s1) (by omega) 44 hH;refine qv aI ?_ (hg:=wi sa);refine qt sa ?_;refine qe hK ?_;generalize bW gs s1 44=s2 at*
   have HX:tN gs s s2:=⟨k1.trans Bv.1,k2.trans Bv.2.1,by have:=Bv.2.2.1;omega,k5⟩
   cases hb:ek gs s1.i 44 with
   |false=>
    have k6:=k6 hb;rw[k6] at hH;refine qC ?_;refine ag.skip ?_;exact⟨m,false,s1,_,rfl,hH,HY,Bv,np,by rw[hall,if_neg (fun h=>by rw[hb] at h;exact absurd h.2 (by simp))]⟩
   |true=>
    have k7:=k7 hb;refine qB ?_;refine qq<|qj fun K hK=>qm ?_;refine qe hK ?_;rw[←k7] at hall
    obtain⟨B,hB⟩:∃B,digS (fV gs s2.i) []=B:=⟨_,rfl⟩
    rw[hB] at hall;refine qq<|qj fun K hK=>qm ?_;obtain⟨_,st,aI,rfl,Jo,hni,hH⟩:=rr (s:=s2) r_ k5 hne hH;rw[hB] at aI Jo hni hH;refine qv aI ?_;refine qm ?_;refine qg ?_;refine qg ?_;refine qm ?_;refine qm ?_;refine qe hK ?_;clear hB;obtain⟨n,b2⟩:=B;dsimp only at hall Jo hni hH;refine qj fun K hK=>qm ?_;refine qg ?_;refine qm ?_;refine qe hK ?_;exact⟨n,!decide (0<b2),{s2 with i:=s2.i+b2},_,rfl,hH,k3.trans HY,⟨HX.1,HX.2.1,by have:=HX.2.2.1;show s.i<s2.i+b2;omega,hni⟩,Jo,by rw[hall,if_pos ⟨by omega,hb⟩]⟩
 ·rintro fr st ⟨n,en,s3,tmp,hfr,hH,h1,h2,h3,hG⟩;rw[hfr];clear hfr;generalize jD fr=ee;clear fr;clear hall F4;obtain⟨k1,k2,k3,k4,k5⟩:=gQ (gs:=gs) (s:=s3) (r:=125);have k5:=k5 h2.2.2.2
  have Bt:tN gs s (bW gs s3 125):=⟨k1.trans h2.1,k2.trans h2.2.1,by have:=h2.2.2.1;omega,k5⟩
  have Bu:(bW gs s3 125).e=0:=k3.trans h1;have k7:=kH (gs:=gs) (s:=s3) (r:=125);unfold pV at hG
  cases ok with
  |false=>
   rw[if_pos rfl] at hG;have aN:(!false)=true:=rfl;refine qq<|qq<|qj fun K hK=>qm ?_;refine qg ?_;refine qm ?_;refine qs ?_ (hg:=wn aN);refine qs ?_ (hg:=wn aN);refine qs ?_ (hg:=wn aN);refine qt aN ?_;refine qm ?_;refine qs ?_;refine qs ?_;refine qs ?_;refine qs ?_;refine qs ?_;refine qs ?_;refine qs ?_;refine qg ?_;refine qe hK<|qB ?_;refine qq<|qj fun K hK=>qm ?_;refine qm ?_;obtain⟨_,st,aI,rfl,s4,SV,hH⟩:=D0 _ s3 4 (by decide) h1 h2 hG hH;refine qv aI ?_;refine qe hK<|qq<|qj fun K hK=>qm ?_;refine qm ?_;refine qe hK<|ag.ret ⟨rx,_,_,_,rfl,ak (rfl),?_⟩;exact⟨_,_,s4,rfl,SV _ _,cD.aw cy hH⟩
  |true=>
   rw[if_neg (by simp)] at hG;have aN:(!true)=false:=rfl
   cases wW:(!ek gs s3.i 125) with
   |true=>
    rw[if_pos (by simpa using wW)] at hG;refine qq<|qq<|qj fun K hK=>qm ?_;refine qg ?_;refine qm ?_;refine qm ?_ (hg:=wi aN);obtain⟨_,st,aI,rfl,hH⟩:=dX (s:=s3) (by omega) 125 hH;refine qv aI ?_ (hg:=wi aN);refine qg ?_ (hg:=wi aN);refine qu aN ?_;refine qm ?_;refine qs ?_ (hg:=wn wW);refine qs ?_ (hg:=wn wW);refine qs ?_ (hg:=wn wW);refine qs ?_;refine qs ?_;refine qs ?_;refine qs ?_ (hg:=wn wW);refine qt wW ?_;refine qe hK ?_;generalize bW gs s3 125=s4 at*;refine qB ?_;refine qq<|qj fun K hK=>qm ?_;refine qm ?_;obtain⟨_,st,aI,rfl,s5,Ik,hH⟩:=D0 _ s4 4 (by decide) Bu Bt hG hH;refine qv aI ?_;refine qe hK<|qq<|qj fun K hK=>qm ?_;refine qm ?_;refine qe hK<|ag.ret ⟨rx,_,_,_,rfl,ak (rfl),?_⟩;exact⟨_,_,s5,rfl,Ik _ _,cD.aw cy hH⟩
   |false=>
    have QR:ek gs s3.i 125=true:=by simpa using wW
    have k7:=k7 QR;rw[if_neg (by rw[QR];simp)] at hG;rw[←k7] at hG
    cases en with
    |true=>
     rw[if_neg (fun h=>absurd h.1 (by simp))] at hG;have bd:(!true)=false:=rfl;have rH:=fun st=>kD (s0:=st) m (by omega);have Bq:=fun st=>kD (s0:=st) [] (by simp);simp only[if_true] at hG;generalize hY m=V1 at*;generalize hY []=V2 at*;obtain⟨a1,f1⟩:=V1;obtain⟨b1,f2⟩:=V2;dsimp only at hG rH Bq;refine qq<|qq<|qj fun K hK=>qm ?_;refine qg ?_;refine qm ?_;refine qm ?_ (hg:=wi aN);obtain⟨_,st,aI,rfl,hH⟩:=dX (s:=s3) (by omega) 125 hH;refine qv aI ?_ (hg:=wi aN);refine qg ?_ (hg:=wi aN);refine qu aN ?_;refine qm ?_;refine qm ?_ (hg:=wi wW);refine qg ?_ (hg:=wi wW);refine qm ?_ (hg:=wi wW);refine qs ?_ (hg:=wn bd);refine qs ?_ (hg:=wn bd);refine qs ?_ (hg:=wn bd);refine ae.cH (aj rfl rfl rfl wW) rfl bd (aa rfl _) ?_;refine qu wW ?_;refine qe hK ?_;generalize bW gs s3 125=s4 at*;refine qC ?_;refine ag.skip<|qq<|qj fun K hK=>qm ?_;refine qv ((rH _)) ?_;refine qm ?_;refine qg ?_;refine qg ?_;refine qm ?_;refine qm ?_;refine qe hK<|qq<|qq<|qj fun K hK=>qm ?_;refine qe hK<|qB ?_;refine qj fun K hK=>qm ?_;refine qe hK<|qq<|qj fun K hK=>qm ?_;refine qv ((Bq _)) ?_;refine qm ?_;refine qg ?_;refine qg ?_;refine qm ?_;refine qm ?_;refine qe hK<|qq<|qq<|ag.mP 78 (.bool (!f1||!f2)) [] ?_ (fun ff tmp fv=>?_)
     ·refine qm ?_;refine qg ?_;refine qm ?_;refine ae.two 75 rfl (fun aN=>?_) (fun aN=>?_)
      ·refine qs ?_ (hg:=wn aN);refine qs ?_ (hg:=wn aN);refine qt aN ?_;refine ae.nil (dB ?_ ?_)
       ·dsimp only[aD,List.foldl,nth,u2,u1]
        all_goals(first|rfl|simp)
       ·dsimp only[Fr.ay,Fr.put,Fr.clean,Fr.ev,Fr.get,nth,V.look,u1,u2,v1,v2,v3,v4,v5,v6,v7,List.length,u3,u4,Nat.reduceSub,Nat.reduceAdd,List.map]
        all_goals(simp[aN];done)
      ·refine qm ?_ (hg:=wi aN);refine qg ?_ (hg:=wi aN);refine qu aN ?_;refine ae.nil (dB ?_ ?_)
       ·dsimp only[aD,List.foldl,nth,u2,u1]
        all_goals(first|rfl|simp)
       ·dsimp only[Fr.ay,Fr.put,Fr.clean,Fr.ev,Fr.get,nth,V.look,u1,u2,v1,v2,v3,v4,v5,v6,v7,List.length,u3,u4,Nat.reduceSub,Nat.reduceAdd,List.map]
        all_goals(simp[aN];done)
     dsimp only[aD,List.foldl,nth,u2,u1];refine qc (fun lZ=>?_) (fun lZ=>?_)<;>try simp only[cs] at lZ
     ·rw[if_neg (fun h=>by rw[h.1,h.2] at lZ;simp at lZ)] at hG;refine qq<|qj fun K hK=>qm ?_;refine qm ?_;obtain⟨_,st,aI,rfl,s5,Ik,hH⟩:=D0 _ s4 2 (by decide) Bu Bt hG hH;refine qv aI ?_;refine qe hK<|qq<|qj fun K hK=>qm ?_;refine qm ?_;refine qe hK<|ag.ret ⟨rx,_,_,_,rfl,ak (rfl),?_⟩;exact⟨_,_,s5,rfl,Ik _ _,cD.aw cy hH⟩
     ·rw[if_pos (by cases f1<;>cases f2<;>simp at lZ⊢)] at hG;refine ag.skip<|qq<|qq<|qj fun K hK=>qm ?_;refine qe hK<|qB ?_;refine qj fun K hK=>qm ?_;refine qe hK<|qq<|qj fun K hK=>qm ?_;refine qm ?_;refine qm ?_;refine qm ?_;refine qe hK<|ag.ret ⟨rx,_,_,_,rfl,ak (rfl),?_⟩;exact⟨_,_,s4,rfl,⟨Bt,.inr ⟨Bu,hG⟩⟩,cD.aw cy hH⟩
    |false=>
     have bd:(!false)=true:=rfl;have rH:=fun st=>kD (s0:=st) m (by omega);have Bq:=fun st=>kD (s0:=st) n (by omega);have hle:=fun st=>Dq (s0:=st) n m;have Ty:∀(a b:Int),(if false=true then a else b)=b:=fun a b=>if_neg (by simp);have hil:∀(a b:List UInt8),(if false=true then a else b)=b:=fun a b=>if_neg (by simp);rw[Ty,hil] at hG;generalize hY m=V1 at*;generalize hY n=V2 at*;obtain⟨a1,f1⟩:=V1;obtain⟨b1,f2⟩:=V2;dsimp only at hG rH Bq;generalize oF n m=v at*;refine qq<|qq<|qj fun K hK=>qm ?_;refine qg ?_;refine qm ?_;refine qm ?_ (hg:=wi aN);obtain⟨_,st,aI,rfl,hH⟩:=dX (s:=s3) (by omega) 125 hH;refine qv aI ?_ (hg:=wi aN);refine qg ?_ (hg:=wi aN);refine qu aN ?_;refine qm ?_;refine qm ?_ (hg:=wi wW);refine qg ?_ (hg:=wi wW);refine qm ?_ (hg:=wi wW);refine qm ?_ (hg:=wi bd);refine qm ?_ (hg:=wi bd);refine qv ((hle _)) ?_ (hg:=wi bd);refine ae.cP (aj rfl rfl rfl wW) rfl bd (aa rfl _) ?_;refine qu wW ?_;refine qe hK ?_;generalize bW gs s3 125=s4 at*
     cases v with
     |true=>
      rw[if_pos ⟨rfl,rfl⟩] at hG;refine qB ?_;refine qq<|qj fun K hK=>qm ?_;refine qm ?_;obtain⟨_,st,aI,rfl,s5,Ik,hH⟩:=D0 _ s4 4 (by decide) Bu Bt hG hH;refine qv aI ?_;refine qe hK<|qq<|qj fun K hK=>qm ?_;refine qm ?_;refine qe hK<|ag.ret ⟨rx,_,_,_,rfl,ak (rfl),?_⟩;exact⟨_,_,s5,rfl,Ik _ _,cD.aw cy hH⟩
     |false=>
      rw[if_neg (fun h=>absurd h.2 (by simp))] at hG;refine qC ?_;refine ag.skip<|qq<|qj fun K hK=>qm ?_;refine qv ((rH _)) ?_;refine qm ?_;refine qg ?_;refine qg ?_;refine qm ?_;refine qm ?_;refine qe hK<|qq<|qq<|qj fun K hK=>qm ?_;refine qe hK<|qC ?_;refine ag.skip<|qq<|qj fun K hK=>qm ?_;refine qv ((Bq _)) ?_;refine qm ?_;refine qg ?_;refine qg ?_;refine qm ?_;refine qm ?_;refine qe hK<|qq<|qq<|ag.mP 78 (.bool (!f1||!f2)) [] ?_ (fun ff tmp fv=>?_)
      ·refine qm ?_;refine qg ?_;refine qm ?_;refine ae.two 75 rfl (fun aN=>?_) (fun aN=>?_)
       ·refine qs ?_ (hg:=wn aN);refine qs ?_ (hg:=wn aN);refine qt aN ?_;refine ae.nil (dB ?_ ?_)
        ·dsimp only[aD,List.foldl,nth,u2,u1]
         all_goals(first|rfl|simp)
        ·dsimp only[Fr.ay,Fr.put,Fr.clean,Fr.ev,Fr.get,nth,V.look,u1,u2,v1,v2,v3,v4,v5,v6,v7,List.length,u3,u4,Nat.reduceSub,Nat.reduceAdd,List.map]
         all_goals(simp[aN];done)
       ·refine qm ?_ (hg:=wi aN);refine qg ?_ (hg:=wi aN);refine qu aN ?_;refine ae.nil (dB ?_ ?_)
        ·dsimp only[aD,List.foldl,nth,u2,u1]
         all_goals(first|rfl|simp)
        ·dsimp only[Fr.ay,Fr.put,Fr.clean,Fr.ev,Fr.get,nth,V.look,u1,u2,v1,v2,v3,v4,v5,v6,v7,List.length,u3,u4,Nat.reduceSub,Nat.reduceAdd,List.map]
         all_goals(simp[aN];done)
      dsimp only[aD,List.foldl,nth,u2,u1];refine qc (fun lZ=>?_) (fun lZ=>?_)<;>try simp only[cs] at lZ
      ·rw[if_neg (fun h=>by rw[h.1,h.2] at lZ;simp at lZ)] at hG;refine qq<|qj fun K hK=>qm ?_;refine qm ?_;obtain⟨_,st,aI,rfl,s5,Ik,hH⟩:=D0 _ s4 2 (by decide) Bu Bt hG hH;refine qv aI ?_;refine qe hK<|qq<|qj fun K hK=>qm ?_;refine qm ?_;refine qe hK<|ag.ret ⟨rx,_,_,_,rfl,ak (rfl),?_⟩;exact⟨_,_,s5,rfl,Ik _ _,cD.aw cy hH⟩
      ·rw[if_pos (by cases f1<;>cases f2<;>simp at lZ⊢)] at hG;refine ag.skip<|qq<|qq<|qj fun K hK=>qm ?_;refine qe hK<|qC ?_;refine ag.skip<|qq<|qj fun K hK=>qm ?_;refine qm ?_;refine qm ?_;refine qm ?_;refine qe hK<|ag.ret ⟨rx,_,_,_,rfl,ak (rfl),?_⟩;exact⟨_,_,s4,rfl,⟨Bt,.inr ⟨Bu,hG⟩⟩,cD.aw cy hH⟩
def gm (fr:Go.V.Fr) (k:Nat):Go.V.D:=Go.V.nth .bp fr.loc k
abbrev PF:=Nat→Nat→PR (List bB×Nat)
def nX (A:PF) (gs:List (Nat×Nat)) (m i g:Nat) (free:Bool) (j:Nat):PR (List bB×Nat):=
 if m=0 then .er 10 i
 else if free=false∧4≤g then .er 13 i
 else match A j (if free=true then g else g+1) with
  | .er e w=>.er e w
  | .ok (l,g2) j2=>
   if ek gs j2 41=true then .ok (if free=true then l else iS 6 0 0 false ((g+1:Nat):Int) 1 []::l,g2) (j2+1)
   else .er 4 i
def uU (A:PF) (gs:List (Nat×Nat)) (m i g:Nat):PR (List bB×Nat):=
 if ek gs (i+1) 63=true then
  (if ek gs (i+2) 58=true then nX A gs m i g true (i+3) else .er 4 i)
 else nX A gs m i g false (i+1)
theorem eB.to {α:Type} {R:PR α} {aY:List Int} {s s':ec} (h:eB R aY s) (he:s'.e=s.e) (hw:s'.w=s.w):eB R aY s':=by
 obtain⟨e,w,h0,h1,h2,h3⟩:=h;exact⟨e,w,h0,h1,he.trans h2,hw.trans h3⟩
def zh (A:PF) (gs:List (Nat×Nat)) (m:Nat):Prop:=∀{N k:Nat} {S s0:St} {H:List bj} {bA:D} {aY:List Int} {s:ec},kz gs aY→s.e=0→s.i≤gs.length→s.g≤4→s.o+m=20→Has N S s0 (.box k (.mem 0 false (aP gs bA s))::.aE bA 1 (aY.map aB)::H)→
 ∃d ah,Ev pv 133 [.ptr k 0 0] s0 d ah∧∃(s':ec),pq gs aY (A s.i s.g) s s' d∧Has N S ah (.box k (.mem 0 false (aP gs bA s'))::.aE bA 1 (aY.map aB)::H)
theorem BH {m:Nat} {gs:List (Nat×Nat)} {A:PF} (hA:∀m',m'+1=m→zh A gs m') {N k:Nat} {S s0:St} {H:List bj} {bA:D} {aY:List Int} {s:ec} (eo:kz gs aY) (he:s.e=0) (hi:s.i<gs.length) (hg:s.g≤4) (ho:s.o+m=20) (hH:Has N S s0 (.box k (.mem 0 false (aP gs bA s))::.aE bA 1 (aY.map aB)::H)):
  ∃d ah,Ev pv 266 [.ptr k 0 0] s0 d ah∧∃(s':ec),iY gs aY (uU A gs m s.i s.g) s s' d 2∧Has N S ah (.box k (.mem 0 false (aP gs bA s'))::.aE bA 1 (aY.map aB)::H):=by
 have r_:=eo.gl;have lY:=eo.pl;refine Ev.nj rfl LC rfl rfl rfl ?_;dsimp only[u3,u4,List.length,Nat.reduceSub,Nat.reduceAdd,w1,w2];have cD:=hH;have hH:=hH.cE;have cy:(ai .rw s0).bs=s0.bs:=rfl;generalize ai .rw s0=S2 at*
 obtain⟨R,hR⟩:∃R,uU A gs m s.i s.g=R:=⟨_,rfl⟩
 rw[hR];unfold uU at hR
 have hwr:∀(st:St) (s3:ec) (e:Int) (H2:List bj),e≠0→s3.e=0→s3.o=s.o→s3.g≤4→s.i≤s3.i→s3.i≤gs.length→R=.er e s.i→Has N S2 st (.box k (.mem 0 false (aP gs bA s3))::.aE bA 1 (aY.map aB)::H2)→∃d ah,Ev pv 134 [.ptr k 0 0,.int .i64 (s.i:Nat),.int .i64 e] st d ah∧d=.sl []∧∃s4,iY gs aY R s s4 (.sl []) 2∧Has N S2 ah (.box k (.mem 0 false (aP gs bA s4))::.aE bA 1 (aY.map aB)::H2):=by
  intro st s3 e H2 h0 h1 h2 h3 h4 h5 hv hH;obtain⟨d,ah,aI,h6,hH⟩:=et (s:=s3) s.i e (by omega) hH;obtain⟨w1,w2,w3,w4⟩:=gw (aY:=aY) (s:=s3) (i:=s.i) (e:=e) h1 h0 hv;exact⟨d,ah,aI,h6,_,fc (w3.trans h2) (by omega) (by omega) (by omega) w1,hH⟩
 refine qq<|qj fun K hK=>qm ?_;refine qe hK<|qq<|qj fun K hK=>qm ?_;refine qg ?_;refine qp (o:=2) ?_;refine ql hH ax ?_;refine qm ?_;refine qe hK<|qq<|qj fun K hK=>qm ?_;refine qg ?_;refine qp (o:=2) ?_;refine ql hH ax ?_;refine qA ?_;refine qg ?_;refine qp (o:=2) ?_;refine qT hH ax fun st hH=>?_;dsimp only[u2,u1,u3,u4,setMany,u5,u6,D.cells,Nat.reduceAdd,aP,br,aB,au,aG] at hH;refine qe hK ?_;have hH:Has N S2 st (.box k (.mem 0 false (aP gs bA {s with i:=s.i+1}))::.aE bA 1 (aY.map aB)::H):=hH
 obtain⟨s1,DF⟩:∃s1:ec,({s with i:=s.i+1}:ec)=s1:=⟨_,rfl⟩
 have Og:s1.e=0∧s1.o=s.o∧s1.g=s.g∧s1.i=s.i+1:=by rw[←DF];exact⟨he,rfl,rfl,rfl⟩
 rw[DF] at hH;clear DF;obtain⟨f1,f2,f3,f4⟩:=Og;refine qq<|qj fun K hK=>qm ?_;refine qe hK<|qq<|qq<|ag.qw (fun fr st=>∃(free:Bool) (s2:ec) (tmp:List (Nat×D)),fr=⟨7,[.ptr k 0 0,gm fr 1,gm fr 2,.int .i64 (s.i:Nat),.bool free,gm fr 5,gm fr 6],tmp⟩∧Has N S2 st (.box k (.mem 0 false (aP gs bA s2))::.aE bA 1 (aY.map aB)::H)∧(s2.e=0)∧(s2.o=s.o)∧(s2.g=s.g)∧(s.i+1≤s2.i)∧(s2.i≤gs.length)∧(nX A gs m s.i s.g free s2.i=R)) ?_ ?_
 ·obtain⟨k1,k2,k3,k4,k5⟩:=gQ (gs:=gs) (s:=s1) (r:=63);have k5:=k5 (by omega);have k6:=vA (gs:=gs) (s:=s1) (r:=63);have k7:=kH (gs:=gs) (s:=s1) (r:=63);refine qj fun K hK=>qm ?_;obtain⟨_,st,aI,rfl,hH⟩:=dX (s:=s1) (by omega) 63 hH;refine qv aI ?_;refine qe hK ?_;generalize bW gs s1 63=s2 at*
  cases hb:ek gs s1.i 63 with
  |false=>
   refine qC ?_;refine ag.skip ?_;exact⟨false,s2,_,rfl,hH,by omega,by omega,by omega,by omega,by omega,(by rw[k6 hb,f4,←hR,if_neg (by rw[←f4,hb];simp)])⟩
  |true=>
   refine qB ?_;refine qq<|qj fun K hK=>qm ?_;refine qe hK ?_;obtain⟨r1,r2,r3,r4,r5⟩:=gQ (gs:=gs) (s:=s2) (r:=58);have r5:=r5 k5;have k7:=k7 hb;have r7:=kH (gs:=gs) (s:=s2) (r:=58);refine qq<|qj fun K hK=>qm ?_;obtain⟨_,st,aI,rfl,hH⟩:=dX (s:=s2) (by omega) 58 hH;refine qv aI ?_;refine qg ?_;refine qe hK ?_;generalize bW gs s2 58=s3 at*
   cases hb2:ek gs s2.i 58 with
   |false=>
    refine qB ?_;refine qq<|qj fun K hK=>qm ?_;refine qm ?_;obtain⟨_,st,aI,rfl,s4,hN,hH⟩:=hwr _ s3 4 _ (by decide) (by omega) (by omega) (by omega) (by omega) (by omega) (by rw[←hR,if_pos (by rw[←f4];exact hb),if_neg (by rw[show s.i+2=s2.i by omega,hb2];simp)]) hH;refine qv aI ?_;refine qm ?_;refine qe hK<|ag.ret ⟨rx,_,_,_,rfl,ak (rfl),?_⟩;exact⟨s4,hN,cD.aw cy hH⟩
   |true=>
    refine qC ?_;refine ag.skip ?_;exact⟨true,s3,_,rfl,hH,by omega,by omega,by omega,by omega,by omega,(by rw[←hR,if_pos (by rw[←f4];exact hb),if_pos (by rw[show s.i+2=s2.i by omega];exact hb2),show s3.i=s.i+3 by have:=r7 hb2;omega])⟩
 ·rintro fr st ⟨free,s2,tmp,hfr,hH,h1,h2,h3,h4,h5,hG⟩;rw[hfr];clear hfr;generalize gm fr=ee;clear fr;clear hR;refine qq<|qq<|qj fun K hK=>qm ?_;refine qg ?_;refine qp (o:=3) ?_;refine ql hH ax ?_;refine qg ?_;refine qe hK ?_
  by_cases QW:20≤s2.o
  ·have gy:decide (((s2.o:Nat):Int)≥20)=true:=by rw[decide_eq_true_eq];omega
   refine qD rfl (by rw[gy]) ?_;refine qq<|qj fun K hK=>qm ?_;refine qm ?_;obtain⟨_,st,aI,rfl,s4,hN,hH⟩:=hwr _ s2 10 _ (by decide) h1 h2 (by omega) (by omega) h5 (by rw[←hG];unfold nX;rw[if_pos (by omega)]) hH;refine qv aI ?_;refine qm ?_;refine qe hK<|ag.ret ⟨rx,_,_,_,rfl,ak (rfl),?_⟩;exact⟨s4,hN,cD.aw cy hH⟩
  have gy:decide (((s2.o:Nat):Int)≥20)=false:=by rw[decide_eq_false_iff_not];omega
  refine qE rfl (by rw[gy]) ?_;refine ag.skip<|qq<|qj fun K hK=>ae.go (d:=.agg [.int .i64 6,.nul,.int .i64 0,.int .i64 0,.bool false,.int .i64 0,.int .i64 1]) (st1:=_) rfl rfl rfl (aa rfl _) ?_;refine qa hH fun k5 st Gb hH=>?_;dsimp only[u2,u1,u3,u4,setMany,u5,u6,D.cells,Nat.reduceAdd,aP,br,aB,au,aG] at hH;refine qS hH ax fun st hH=>?_;dsimp only[u2,u1,u3,u4,setMany,u5,u6,D.cells,Nat.reduceAdd,aP,br,aB,au,aG] at hH;refine qe hK ?_;have hH:Has N S2 st (.box k (.mem 0 false (aP gs bA s2))::.aE bA 1 (aY.map aB)::.box k5 (.mem 0 false [.int .i64 6,.nul,.int .i64 0,.int .i64 0,.bool false,.int .i64 0,.int .i64 1])::H):=nf hH;refine qq<|qq<|ag.qw (fun fr st=>∃(cap:Int) (s3:ec) (tmp:List (Nat×D)),fr=⟨7,[.ptr k 0 0,gm fr 1,gm fr 2,.int .i64 (s.i:Nat),.bool free,.ptr k5 0 0,gm fr 6],tmp⟩∧Has N S2 st (.box k (.mem 0 false (aP gs bA s3))::.aE bA 1 (aY.map aB)::.box k5 (.mem 0 false [.int .i64 6,.nul,.int .i64 0,.int .i64 0,.bool false,.int .i64 cap,.int .i64 1])::H)∧(s3.e=0)∧(s3.o=s.o)∧(s3.g≤4)∧(s3.i=s2.i)∧(s3.g=(if free=true then s.g else s.g+1))∧(cap=(if free=true then 0 else((s.g+1:Nat):Int)))∧(¬(free=false∧4≤s.g))) ?_ ?_
  ·refine qj fun K hK=>qm ?_;refine qg ?_;refine qe hK ?_
   cases free with
   |true=>
    refine qC ?_;refine ag.skip ?_;exact⟨0,s2,_,rfl,hH,h1,h2,by omega,rfl,(by rw[if_pos rfl];exact h3),(by rw[if_pos rfl]),(fun h=>absurd h.1 (by simp))⟩
   |false=>
    refine qB ?_;refine qq<|qq<|qj fun K hK=>qm ?_;refine qg ?_;refine qp (o:=4) ?_;refine ql hH ax ?_;refine qg ?_;refine qe hK ?_
    by_cases QM:4≤s2.g
    ·have gy:decide (((s2.g:Nat):Int)≥4)=true:=by rw[decide_eq_true_eq];omega
     refine qD rfl (by rw[gy]) ?_;refine qq<|qj fun K hK=>qm ?_;refine qm ?_;obtain⟨_,st,aI,rfl,s4,hN,hH⟩:=hwr _ s2 13 _ (by decide) h1 h2 (by omega) (by omega) h5 (by rw[←hG];unfold nX;rw[if_neg (by omega),if_pos ⟨rfl,by omega⟩]) hH;refine qv aI ?_;refine qm ?_;refine qe hK<|ag.ret ⟨rx,_,_,_,rfl,ak (rfl),?_⟩;exact⟨s4,hN,cD.aw cy (hH.erase 2)⟩
    ·have gy:decide (((s2.g:Nat):Int)≥4)=false:=by rw[decide_eq_false_iff_not];omega
     refine qE rfl (by rw[gy]) ?_;refine ag.skip<|qq<|qj fun K hK=>qm ?_;refine qg ?_;refine qp (o:=4) ?_;refine ql hH ax ?_;refine qA ?_;refine qg ?_;refine qp (o:=4) ?_;refine qT hH ax fun st hH=>?_;dsimp only[u2,u1,u3,u4,setMany,u5,u6,D.cells,Nat.reduceAdd,aP,br,aB,au,aG] at hH;refine qe hK<|qj fun K hK=>qm ?_;refine qg ?_;refine qp (o:=4) ?_;refine ql hH ax ?_;refine qp (o:=5) ?_;refine qT hH bV fun st hH=>?_;dsimp only[u2,u1,u3,u4,setMany,u5,u6,D.cells,Nat.reduceAdd,aP,br,aB,au,aG] at hH;refine qe hK ?_;exact⟨((s2.g+1:Nat):Int),{s2 with g:=s2.g+1},_,rfl,hH,h1,h2,by show s2.g+1≤4;omega,rfl,(by rw[if_neg (by simp)];show s2.g+1=_;omega),(by rw[if_neg (by simp),h3]),(fun h=>by have:=h.2;omega)⟩
  ·rintro fr st ⟨cap,s3,tmp,hfr,hH,e1,e2,e3,e4,e5,e6,e7⟩;rw[hfr];clear hfr;generalize gm fr=ee;clear fr
   have hv:R=match A s3.i s3.g with
    | .er e w=>.er e w
    | .ok (l,g2) j2=>if ek gs j2 41=true then .ok (if free=true then l else iS 6 0 0 false ((s.g+1:Nat):Int) 1 []::l,g2) (j2+1) else .er 4 s.i:=by
    rw[←hG,e4,e5];unfold nX;rw[if_neg (by omega),if_neg e7]
   refine qq<|qj fun K hK=>qm ?_;refine qg ?_;refine qp (o:=3) ?_;refine ql hH ax ?_;refine qA ?_;refine qg ?_;refine qp (o:=3) ?_;refine qT hH ax fun st hH=>?_;dsimp only[u2,u1,u3,u4,setMany,u5,u6,D.cells,Nat.reduceAdd,aP,br,aB,au,aG] at hH;refine qe hK ?_;have hH:Has N S2 st (.box k (.mem 0 false (aP gs bA {s3 with o:=s3.o+1}))::.aE bA 1 (aY.map aB)::.box k5 (.mem 0 false [.int .i64 6,.nul,.int .i64 0,.int .i64 0,.bool false,.int .i64 cap,.int .i64 1])::H):=hH;refine qq<|qj fun K hK=>qm ?_;obtain⟨_,st,aI,s4,⟨a1,a2,a3,a4,l,rfl,a5,a6,a7⟩,hH⟩:=hA (m-1) (by omega) (s:={s3 with o:=s3.o+1}) eo e1 (by show s3.i≤_;omega) e3 (by show s3.o+1+(m-1)=20;omega) hH;refine qv aI ?_;refine qm ?_;refine qe hK ?_;have a7:eB (A s3.i s3.g) aY s4∨s4.e=0∧A s3.i s3.g=.ok (l,s4.g) s4.i:=a7;have a1:s4.o=s3.o+1:=a1;have a3:s3.i≤s4.i:=a3;have a6:l.length≤4*(s4.i-s3.i)+1:=a6;have hla:=(mA a5).arg N S2;refine qq<|qj fun K hK=>qm ?_;refine qg ?_;refine qp (o:=3) ?_;refine ql hH ax ?_;refine ae.oS (z:=((s.o:Nat):Int)) rfl (ev rfl) (ev rfl) (by(try simp only[List.length_reverse,List.length_cons,List.length_nil,List.length_append,List.length_map,List.length_set]);rw[wrap_i64 (by omega) (by omega)]<;>omega) (aa rfl _) ?_;refine qg ?_;refine qp (o:=3) ?_;refine qT hH ax fun st hH=>?_;dsimp only[u2,u1,u3,u4,setMany,u5,u6,D.cells,Nat.reduceAdd,aP,br,aB,au,aG] at hH;refine qe hK ?_
   obtain⟨s5,Oe⟩:∃s5:ec,({s4 with o:=s.o}:ec)=s5:=⟨_,rfl⟩
   have hH:Has N S2 st (.box k (.mem 0 false (aP gs bA s5))::.aE bA 1 (aY.map aB)::.box k5 (.mem 0 false [.int .i64 6,.nul,.int .i64 0,.int .i64 0,.bool false,.int .i64 cap,.int .i64 1])::H):=by rw[←Oe];exact hH
   have Od:s5.o=s.o∧s5.g=s4.g∧s5.i=s4.i∧s5.e=s4.e∧s5.w=s4.w:=by rw[←Oe];exact⟨rfl,rfl,rfl,rfl,rfl⟩
   clear Oe;obtain⟨b1,b2,b3,b4,b5⟩:=Od;refine qq<|qq<|ag.qw (fun fr st=>∃(s6:ec) (tmp:List (Nat×D)),fr=⟨7,[.ptr k 0 0,gm fr 1,gm fr 2,gm fr 3,.bool free,.ptr k5 0 0,p_ l],tmp⟩∧Has N S2 st (.box k (.mem 0 false (aP gs bA s6))::.aE bA 1 (aY.map aB)::.box k5 (.mem 0 false [.int .i64 6,.nul,.int .i64 0,.int .i64 0,.bool false,.int .i64 cap,.int .i64 1])::H)∧(s6.o=s.o)∧(s6.g≤4)∧(s4.i≤s6.i)∧(s6.i≤gs.length)∧(eB R aY s6∨s6.e=0∧s4.i<s6.i∧R=.ok (if free=true then l else iS 6 0 0 false ((s.g+1:Nat):Int) 1 []::l,s6.g) s6.i)) ?_ ?_
   ·by_cases Ng:s5.e=0
    ·have ba:(s5.e==0)=true:=by simpa using Ng
     have a8:A s3.i s3.g=.ok (l,s4.g) s4.i:=by
      rcases a7 with a7|a7
      ·exact absurd (b4.symm.trans Ng) a7.ne
      ·exact a7.2
     rw[a8] at hv;simp only at hv;rw[←b3] at hv;obtain⟨k1,k2,k3,k4,Qw⟩:=gQ (gs:=gs) (s:=s5) (r:=41);have Qw:=Qw (by omega);have HV:ek gs s5.i 41=true→(bW gs s5 41).i=s5.i+1:=fun h=>by unfold bW;rw[if_pos h]
     refine qj fun K hK=>qm ?_;refine qg ?_;refine qp (o:=5) ?_;refine ql hH ax ?_;refine qg ?_;refine qm ?_;refine qm ?_ (hg:=wi ba);obtain⟨_,st,aI,rfl,hH⟩:=dX (s:=s5) (by omega) 41 hH;refine qv aI ?_ (hg:=wi ba);refine qg ?_ (hg:=wi ba);refine qt ba ?_;refine qe hK ?_;generalize bW gs s5 41=s6 at*
     cases hb:ek gs s5.i 41 with
     |false=>
      refine qB ?_;refine qq<|qj fun K hK=>qm ?_;refine qm ?_;obtain⟨_,st,aI,rfl,s7,hN,hH⟩:=hwr _ s6 4 _ (by decide) (by omega) (by omega) (by omega) (by omega) (by omega) (by rw[hv,if_neg (by rw[hb];simp)]) hH;refine qv aI ?_;refine qm ?_;refine qe hK<|ag.ret ⟨rx,_,_,_,rfl,ak (rfl),?_⟩;exact⟨s7,hN,cD.aw cy (hH.erase 2)⟩
     |true=>
      have HV:=HV hb;refine qC ?_;refine ag.skip ?_;exact⟨s6,_,rfl,hH,by omega,by omega,by omega,by omega,.inr ⟨by omega,by omega,by rw[hv,if_pos hb,HV,show s6.g=s4.g by omega]⟩⟩
    ·have ba:(s5.e==0)=false:=by simpa using Ng
     have TW:¬s5.e=0→eB R aY s4:=fun h=>by
      rcases a7 with a7|a7
      ·exact a7.map fun e w hw=>by rw[hv,hw]
      ·exact absurd (b4.trans a7.1) h
     refine qj fun K hK=>qm ?_;refine qg ?_;refine qp (o:=5) ?_;refine ql hH ax ?_;refine qg ?_;refine qm ?_;refine qs ?_ (hg:=wn ba);refine qs ?_ (hg:=wn ba);refine qs ?_ (hg:=wn ba);refine qu ba ?_;refine qe hK<|qC ?_;refine ag.skip ?_;exact⟨s5,_,rfl,hH,b1,by omega,by omega,by omega,.inl ((TW Ng).to b4 b5)⟩
   ·rintro fr st ⟨s6,tmp,hfr,hH,c1,c2,c3,c4,c5⟩;rw[hfr];clear hfr;generalize gm fr=ee;clear fr;refine qq<|qq<|qj fun K hK=>qm ?_;refine qe hK ?_
    cases free with
    |true=>
     refine qB ?_;refine qq<|qj fun K hK=>qm ?_;refine qm ?_;refine qe hK<|ag.ret ⟨rx,_,_,_,rfl,ak (rfl),?_⟩;refine⟨s6,⟨c1,c2,by omega,c4,l,rfl,a5,by omega,?_⟩,cD.aw cy (hH.erase 2)⟩
     rcases c5 with c5|⟨c5,c6,c7⟩
     ·exact .inl c5
     ·exact .inr ⟨c5,by rw[c7,if_pos rfl],by omega⟩
    |false=>
     refine qC ?_;refine ag.skip<|qq<|qj fun K hK=>?_;refine ae.aV (m:=7) hH rfl (ev rfl) (by exact bV) (by dsimp only[List.drop_succ_cons,List.drop_zero,List.take_succ_cons,List.take_zero,aP,br,aB,au,aG]<;>rfl) rfl rfl (aa rfl _) ?_;refine qh (s:=7) (vs:=[_]) hH fun k89 st S8 hH=>?_;dsimp only[u2,u1,u3,u4,setMany,u5,u6,D.cells,Nat.reduceAdd,aP,br,aB,au,aG] at hH;refine qm ?_;refine ae.cB (s:=7) hH rfl (ev rfl) (ev rfl) ax ((mA a5).rows st) rfl rfl rfl rfl rfl rfl rfl ⟨(Nat.le_of_ble_eq_true rfl),(Nat.le_of_ble_eq_true rfl)⟩ (fun _=>(aa rfl _)) (by simp only[List.length_map,List.length_cons,List.length_nil];omega) (.inr (sR a5)) (fun k hk=>by have iI:k89+1=k+1:=hk;omega) (fun Re st gO hH=>?_);dsimp only[u2] at hH;refine qm ?_;refine qe hK ?_;have hH:Has N S2 st (.aE Re 7 ([.int .i64 6,.nul,.int .i64 0,.int .i64 0,.bool false,.int .i64 cap,.int .i64 1]::l.map aG)::.box k (.mem 0 false (aP gs bA s6))::.aE bA 1 (aY.map aB)::.box k5 (.mem 0 false [.int .i64 6,.nul,.int .i64 0,.int .i64 0,.bool false,.int .i64 cap,.int .i64 1])::H):=hH
     have hfz:=iJ (L:=s0.bs.length) (l:=iS 6 0 0 false cap 1 []::l) hH ax (by rw[List.map_cons,ur a5];rfl) (fun e he d hd=>by
      rcases List.mem_cons.1 he with rfl|he
      ·simp only[List.mem_cons,List.not_mem_nil,or_false] at hd
       rcases hd with rfl|rfl|rfl|rfl|rfl|rfl|rfl<;>rfl
      ·exact pZ a5 e he d hd) (fun k hk=>by rw[←cy];exact gO k hk) (n:=16) (by decide)
     refine ag.ret ⟨rx,_,_,_,rfl,ak hfz,⟨s6,⟨c1,c2,by omega,c4,_,rfl,?_,by simp only[List.length_cons];omega,?_⟩,cD.aw cy ((hH.drop 1).erase 2)⟩⟩
     ·intro n hn
      rcases List.mem_cons.1 hn with rfl|hn
      ·exact⟨rfl,by simp[iS],by simp[iS]⟩
      ·exact a5 n hn
     ·rcases c5 with c5|⟨c5,c6,c7⟩
      ·exact .inl c5
      ·exact .inr ⟨c5,by rw[c7,if_neg (by simp),e6,if_neg (by simp)],by simp only[List.length_cons];omega⟩
def yG (fr:Go.V.Fr) (k:Nat):Go.V.D:=Go.V.nth .bp fr.loc k
noncomputable def NP (r:Int):List Rg:=cm [(r,r)]
noncomputable def Hb (A:PF) (gs:List (Nat×Nat)) (m i g:Nat) (r:Int):PR (List bB×Nat):=
 if r=40 then uU A gs m i g
 else if r=91 then y5 gs i g
 else if r=92 then
  match lv gs i with
  | .er e w=>.er e w
  | .ok (a,_) j=>.ok ([y6 a],g) j
 else if r=46 then .ok ([y6 BO],g) (i+1)
 else if r=94 then .ok ([iS 7 0 0 false 0 0 []],g) (i+1)
 else if r=36 then .ok ([iS 8 0 0 false 0 0 []],g) (i+1)
 else if r=42∨r=43∨r=63∨r=41∨r=93∨r=123∨r=125∨r=124 then .er 4 i
 else .ok ([y6 (NP r)],g) (i+1)
noncomputable def AA (A:PF) (gs:List (Nat×Nat)) (m i g:Nat):PR (List bB×Nat):=
 match gs[i]? with
 |none=>.er 4 i
 |some q=>if B3 gs i=true then .er 4 i else Hb A gs m i g ((q.1:Nat):Int)
def vR (gs:List (Nat×Nat)) (l:List bB) (g:Nat) (mn mx:Int) (j:Nat):PR (List bB×Nat):=
 .ok (iS 5 mn mx (ek gs j 63) 0 1 []::l,g) (if ek gs j 63=true then j+1 else j)
noncomputable def JT (gs:List (Nat×Nat)) (l:List bB) (g j:Nat):PR (List bB×Nat):=
 if ek gs j 42=true then vR gs l g 0 (-1) (j+1)
 else if ek gs j 43=true then vR gs l g 1 (-1) (j+1)
 else if ek gs j 63=true then vR gs l g 0 1 (j+1)
 else if ek gs j 123=true then
  match pW gs j with
  | .er e w=>.er e w
  | .ok (mn,mx) j2=>vR gs l g mn mx j2
 else .ok (l,g) j
noncomputable def Fm (A:PF) (gs:List (Nat×Nat)) (m i g:Nat):PR (List bB×Nat):=
 match AA A gs m i g with
 | .er e w=>.er e w
 | .ok (l,g1) j=>JT gs l g1 j
theorem EI {m:Nat} {gs:List (Nat×Nat)} {A:PF} (hA:∀m',m'+1=m→zh A gs m') {N k:Nat} {S s0:St} {H:List bj} {bA:D} {aY:List Int} {s:ec} (eo:kz gs aY) (he:s.e=0) (hi:s.i<gs.length) (hg:s.g≤4) (ho:s.o+m=20) (hH:Has N S s0 (.box k (.mem 0 false (aP gs bA s))::.aE bA 1 (aY.map aB)::H)):
  ∃d ah,Ev pv 247 [.ptr k 0 0] s0 d ah∧∃(s':ec),iY gs aY (AA A gs m s.i s.g) s s' d 2∧Has N S ah (.box k (.mem 0 false (aP gs bA s'))::.aE bA 1 (aY.map aB)::H):=by
 have r_:=eo.gl;have lY:=eo.pl;refine Ev.nj rfl LM rfl rfl rfl ?_;dsimp only[u3,u4,List.length,Nat.reduceSub,Nat.reduceAdd,w1,w2];have cD:=hH;have hH:=hH.cE;have cy:(ai .rw s0).bs=s0.bs:=rfl;generalize ai .rw s0=S2 at*;have xG:Arg N S2 2 (gK gs) (gs.map br):=Arg.pure (fun st=>eE st gs)
 obtain⟨g,QS⟩:∃g,gs[s.i]?=some g:=⟨gs[s.i]'hi,List.getElem?_eq_getElem _⟩
 have gN:(gs.map br)[s.i]?=some (br g):=by rw[List.getElem?_map,QS];rfl
 obtain⟨R,hR⟩:∃R,AA A gs m s.i s.g=R:=⟨_,rfl⟩
 rw[hR];unfold AA at hR;rw[QS] at hR;simp only at hR
 have hwr:∀(st:St),R=.er 4 s.i→Has N S2 st (.box k (.mem 0 false (aP gs bA s))::.aE bA 1 (aY.map aB)::H)→∃d ah,Ev pv 134 [.ptr k 0 0,.int .i64 (s.i:Nat),.int .i64 4] st d ah∧d=.sl []∧∃s4,iY gs aY R s s4 (.sl []) 2∧Has N S2 ah (.box k (.mem 0 false (aP gs bA s4))::.aE bA 1 (aY.map aB)::H):=by
  intro st hv hH;obtain⟨d,ah,aI,h6,hH⟩:=et (s:=s) s.i 4 (by omega) hH;obtain⟨w1,w2,w3,w4⟩:=gw (aY:=aY) (s:=s) (i:=s.i) (e:=4) he (by decide) hv;exact⟨d,ah,aI,h6,_,fc w3 (by omega) (by omega) (by omega) w1,hH⟩
 have jE:∀(st:St) (s1:ec) (op:Int) (w:D) (a:List Rg) (kk:Nat),(w=aQ a∨w=.nul∧a=[])→a.length≤1048576→s1.o=s.o→s1.g≤4→s.i<s1.i→s1.i≤gs.length→s1.e=0→R=.ok ([iS op 0 0 false 0 0 a],s1.g) s1.i→S2.bs.length≤kk→Has N S2 st (.aE (.win kk 0 0 1 7) 7 [[.int .i64 op,w,.int .i64 0,.int .i64 0,.bool false,.int .i64 0,.int .i64 0]]::.box k (.mem 0 false (aP gs bA s1))::.aE bA 1 (aY.map aB)::H)→
   ∃d ah,cT .rw false s0 st (.win kk 0 0 1 7)=some (d,ah)∧∃(s':ec),iY gs aY R s s' d 2∧Has N S ah (.box k (.mem 0 false (aP gs bA s'))::.aE bA 1 (aY.map aB)::H):=by
  intro st s1 op w a kk hw ha h1 h2 h3 h4 he1 hv hk hH;have hfz:=iK hH ax (L:=s0.bs.length) hw (fun k hk=>by simp only[D.ref] at hk;rw[←cy];omega);refine⟨_,_,ak hfz,s1,⟨h1,h2,by omega,h4,_,rfl,Dh ha (by omega),by simp,?_⟩,cD.aw cy (hH.drop 1)⟩;exact .inr ⟨he1,hv,by simp only[List.length_cons,List.length_nil];omega⟩
 refine qq<|qj fun K hK=>qm ?_;refine qe hK<|qq<|qj fun K hK=>qm ?_;refine qg ?_;refine qp (o:=2) ?_;refine ql hH ax ?_;refine qm ?_;refine qe hK<|qq<|qq<|qj fun K hK=>qm ?_;refine qm ?_;obtain⟨_,st,aI,rfl,hH⟩:=za (s:=s) s.i hi hH;refine qv aI ?_;refine qe hK ?_;refine qc (fun hb=>?_) (fun hb=>?_)<;>try simp only[cs] at hb
 ·rw[if_pos hb] at hR;refine qq<|qj fun K hK=>qm ?_;refine qm ?_;obtain⟨_,st,aI,rfl,s4,hN,hH⟩:=hwr _ hR.symm hH;refine qv aI ?_;refine qm ?_;refine qe hK<|ag.ret ⟨rx,_,_,_,rfl,ak (rfl),?_⟩;exact⟨s4,hN,cD.aw cy hH⟩
 rw[if_neg (by rw[hb];simp)] at hR;unfold Hb at hR;refine ag.skip<|qq<|qj fun K hK=>qm ?_;refine qg ?_;refine qp (o:=0) ?_;refine ql hH ax ?_;refine qm ?_;refine qr fun Qq Kw=>?_;refine qf (fo:=0) fun NN H9=>?_;refine qR ?_;refine qm ?_;refine qe hK<|qq<|qj fun K hK=>qm ?_;refine qe hK<|ag.block<|qq<|qj fun K hK=>qg ?_;refine qm ?_;refine qe hK ?_;refine ag.cond (by rfl) (fun MR=>?_) (fun MR=>?_)<;>try simp only[beq_iff_eq,beq_eq_false_iff_ne,ne_eq] at MR
 ·rw[if_pos MR] at hR;refine qq<|qj fun K hK=>qm ?_;obtain⟨_,st,aI,s4,⟨p1,p2,p3,p4,l,rfl,p5,p6,p7⟩,hH⟩:=BH hA eo he hi hg ho hH;refine qv aI ?_;refine qm ?_;refine qe hK ?_;rw[hR] at p7;refine ag.ret ⟨rx,_,_,_,rfl,ak (rfl),?_⟩;exact⟨s4,⟨p1,p2,p3,p4,l,rfl,p5,p6,p7⟩,cD.aw cy hH⟩
 rw[if_neg MR] at hR;refine qq<|qj fun K hK=>qg ?_;refine qm ?_;refine qe hK ?_;refine ag.cond (by rfl) (fun EV=>?_) (fun EV=>?_)<;>try simp only[beq_iff_eq,beq_eq_false_iff_ne,ne_eq] at EV
 ·rw[if_pos EV] at hR;refine qq<|qj fun K hK=>qm ?_;obtain⟨_,st,aI,s4,⟨p1,p2,p3,p4,l,rfl,p5,p6,p7⟩,hH⟩:=BX eo he hi hg hH;refine qv aI ?_;refine qm ?_;refine qe hK ?_;rw[hR] at p7;refine ag.ret ⟨rx,_,_,_,rfl,ak (rfl),?_⟩;exact⟨s4,⟨p1,p2,p3,p4,l,rfl,p5,p6,p7⟩,cD.aw cy hH⟩
 rw[if_neg EV] at hR;refine qq<|qj fun K hK=>qg ?_;refine qm ?_;refine qe hK ?_;refine ag.cond (by rfl) (fun MO=>?_) (fun MO=>?_)<;>try simp only[beq_iff_eq,beq_eq_false_iff_ne,ne_eq] at MO
 ·rw[if_pos MO] at hR;refine qq<|qj fun K hK=>qm ?_;obtain⟨_,st,aI,d1,b,s4,rfl,⟨p1,p2,p3,p4,p5⟩,hH⟩:=vB (s:=s) eo he hi hH;refine qv aI ?_;refine qm ?_;refine qg ?_;refine qg ?_;refine qm ?_;refine qm ?_;refine qe hK ?_
  have K6:∀(st:St) (w:D) (a:List Rg) (kk:Nat),(w=aQ a∨w=.nul∧a=[])→a.length≤8→(eB R aY s4∨s4.e=0∧s.i<s4.i∧R=.ok ([y6 a],s4.g) s4.i)→S2.bs.length≤kk→Has N S2 st (.aE (.win kk 0 0 1 7) 7 [[.int .i64 2,w,.int .i64 0,.int .i64 0,.bool false,.int .i64 0,.int .i64 0]]::.box k (.mem 0 false (aP gs bA s4))::.aE bA 1 (aY.map aB)::H)→∃d ah,cT .rw false s0 st (.win kk 0 0 1 7)=some (d,ah)∧∃(s':ec),iY gs aY R s s' d 2∧Has N S ah (.box k (.mem 0 false (aP gs bA s'))::.aE bA 1 (aY.map aB)::H):=by
   intro st w a kk hw ha p6 hk hH;have hfz:=iK hH ax (L:=s0.bs.length) hw (fun k hk=>by simp only[D.ref] at hk;rw[←cy];omega);refine⟨_,_,ak hfz,s4,⟨p1,by omega,by omega,p4,_,rfl,Dh (by omega) (by omega),by simp,?_⟩,cD.aw cy (hH.drop 1)⟩
   rcases p6 with p6|⟨p6,p7,p8⟩
   ·exact .inl p6
   ·exact .inr ⟨p6,p8,by simp only[List.length_cons,List.length_nil];omega⟩
  rcases p5 with⟨p5,rfl⟩|⟨p5,p6,a,p7,rfl,ha,_⟩
  ·refine qq<|qj fun K hK=>qm ?_;refine ae.ie (qs:=[(0,_),(1,_)]) rfl rfl rfl rfl ⟨rfl,(ev rfl),(by rfl),rfl,(ev rfl),(by rfl),trivial⟩ (by intro q hq;simp only[List.mem_cons,List.not_mem_nil,or_false] at hq;rcases hq with rfl|rfl<;>exact⟨rfl,by exact Nat.le_of_ble_eq_true rfl⟩) (by show List.foldl _ [_,_,_,_,_,_,_] _=_;dsimp only[List.foldl_cons,List.foldl_nil,u2,u1]<;>rfl) (aa rfl _) ?_;refine qh (s:=7) (vs:=[_]) hH fun k54 st BB hH=>?_;dsimp only[u2,u1,u3,u4,setMany,u5,u6,D.cells,Nat.reduceAdd,aP,br,aB,au,aG] at hH;refine qm ?_;refine qe hK ?_;obtain⟨d',ah,rX,il⟩:=K6 _ .nul [] k54 (.inr ⟨rfl,rfl⟩) (by simp) (.inl (p5.map fun e w h=>by rw[←hR,h])) BB hH;refine ag.ret ⟨rx,_,d',ah,rfl,rX,il⟩
  ·refine qq<|qj fun K hK=>qm ?_;refine ae.ie (qs:=[(0,_),(1,_)]) rfl rfl rfl rfl ⟨rfl,(ev rfl),(by rfl),rfl,(ev rfl),(by rfl),trivial⟩ (by intro q hq;simp only[List.mem_cons,List.not_mem_nil,or_false] at hq;rcases hq with rfl|rfl<;>exact⟨rfl,by exact Nat.le_of_ble_eq_true rfl⟩) (by show List.foldl _ [_,_,_,_,_,_,_] _=_;dsimp only[List.foldl_cons,List.foldl_nil,u2,u1]<;>rfl) (aa rfl _) ?_;refine qh (s:=7) (vs:=[_]) hH fun k54 st BB hH=>?_;dsimp only[u2,u1,u3,u4,setMany,u5,u6,D.cells,Nat.reduceAdd,aP,br,aB,au,aG] at hH;refine qm ?_;refine qe hK ?_;obtain⟨d',ah,rX,il⟩:=K6 _ (aQ a) a k54 (.inl rfl) ha (.inr ⟨p5,p6,by rw[←hR,p7,p2]⟩) BB hH;refine ag.ret ⟨rx,_,d',ah,rfl,rX,il⟩
 rw[if_neg MO] at hR;refine qq<|qj fun K hK=>qg ?_;refine qm ?_;refine qe hK ?_;refine ag.cond (by rfl) (fun MP=>?_) (fun MP=>?_)<;>try simp only[beq_iff_eq,beq_eq_false_iff_ne,ne_eq] at MP
 ·rw[if_pos MP] at hR;refine qq<|qj fun K hK=>qm ?_;refine qg ?_;refine qp (o:=2) ?_;refine ql hH ax ?_;refine qA ?_;refine qg ?_;refine qp (o:=2) ?_;refine qT hH ax fun st hH=>?_;dsimp only[u2,u1,u3,u4,setMany,u5,u6,D.cells,Nat.reduceAdd,aP,br,aB,au,aG] at hH;refine qe hK ?_;obtain⟨Pp,hla⟩:=Gt (s0:=st);refine qq<|qj fun K hK=>qv (Pp) ?_;refine ae.ie (qs:=[(0,_),(1,_)]) rfl rfl rfl rfl ⟨rfl,(ev rfl),(by rfl),rfl,(ev rfl),(by rfl),trivial⟩ (by intro q hq;simp only[List.mem_cons,List.not_mem_nil,or_false] at hq;rcases hq with rfl|rfl<;>exact⟨rfl,by exact Nat.le_of_ble_eq_true rfl⟩) (by show List.foldl _ [_,_,_,_,_,_,_] _=_;dsimp only[List.foldl_cons,List.foldl_nil,u2,u1]<;>rfl) (aa rfl _) ?_;refine qh (s:=7) (vs:=[_]) hH fun k66 st O2 hH=>?_;refine qm ?_;refine qe hK ?_;obtain⟨d',ah,rX,il⟩:=jE _ {s with i:=s.i+1} 2 (aQ BO) BO k66 (.inl rfl) (by omega) rfl hg (by show s.i<s.i+1;omega) (by show s.i+1≤_;omega) he hR.symm O2 hH;refine ag.ret ⟨rx,_,d',ah,rfl,rX,il⟩
 rw[if_neg MP] at hR;refine qq<|qj fun K hK=>qg ?_;refine qm ?_;refine qe hK ?_;refine ag.cond (by rfl) (fun MN=>?_) (fun MN=>?_)<;>try simp only[beq_iff_eq,beq_eq_false_iff_ne,ne_eq] at MN
 ·rw[if_pos MN] at hR;refine qq<|qj fun K hK=>qm ?_;refine qg ?_;refine qp (o:=2) ?_;refine ql hH ax ?_;refine qA ?_;refine qg ?_;refine qp (o:=2) ?_;refine qT hH ax fun st hH=>?_;dsimp only[u2,u1,u3,u4,setMany,u5,u6,D.cells,Nat.reduceAdd,aP,br,aB,au,aG] at hH;refine qe hK<|qq<|qj fun K hK=>ae.go (d:=.agg [.int .i64 7,.nul,.int .i64 0,.int .i64 0,.bool false,.int .i64 0,.int .i64 0]) (st1:=_) rfl rfl rfl (aa rfl _) ?_;refine qh (s:=7) (vs:=[_]) hH fun k77 st O1 hH=>?_;refine qm ?_;refine qe hK ?_;obtain⟨d',ah,rX,il⟩:=jE _ {s with i:=s.i+1} 7 .nul [] k77 (.inr ⟨rfl,rfl⟩) (by simp) rfl hg (by show s.i<s.i+1;omega) (by show s.i+1≤_;omega) he hR.symm O1 hH;refine ag.ret ⟨rx,_,d',ah,rfl,rX,il⟩
 rw[if_neg MN] at hR;refine qq<|qj fun K hK=>qg ?_;refine qm ?_;refine qe hK ?_;refine ag.cond (by rfl) (fun MS=>?_) (fun MS=>?_)<;>try simp only[beq_iff_eq,beq_eq_false_iff_ne,ne_eq] at MS
 ·rw[if_pos MS] at hR;refine qq<|qj fun K hK=>qm ?_;refine qg ?_;refine qp (o:=2) ?_;refine ql hH ax ?_;refine qA ?_;refine qg ?_;refine qp (o:=2) ?_;refine qT hH ax fun st hH=>?_;dsimp only[u2,u1,u3,u4,setMany,u5,u6,D.cells,Nat.reduceAdd,aP,br,aB,au,aG] at hH;refine qe hK<|qq<|qj fun K hK=>ae.go (d:=.agg [.int .i64 8,.nul,.int .i64 0,.int .i64 0,.bool false,.int .i64 0,.int .i64 0]) (st1:=_) rfl rfl rfl (aa rfl _) ?_;refine qh (s:=7) (vs:=[_]) hH fun k88 st KS hH=>?_;refine qm ?_;refine qe hK ?_;obtain⟨d',ah,rX,il⟩:=jE _ {s with i:=s.i+1} 8 .nul [] k88 (.inr ⟨rfl,rfl⟩) (by simp) rfl hg (by show s.i<s.i+1;omega) (by show s.i+1≤_;omega) he hR.symm KS hH;refine ag.ret ⟨rx,_,d',ah,rfl,rX,il⟩
 rw[if_neg MS] at hR;have w7:((((g.1:Nat):Int))=42∨(((g.1:Nat):Int))=43∨(((g.1:Nat):Int))=63∨(((g.1:Nat):Int))=41∨(((g.1:Nat):Int))=93∨(((g.1:Nat):Int))=123∨(((g.1:Nat):Int))=125∨(((g.1:Nat):Int))=124)→R=.er 4 s.i:=fun h=>by rw[←hR,if_pos h]
 refine qq<|qq<|qj fun K hK=>qg ?_;refine qm ?_;refine qe hK ?_
 by_cases P7:((g.1:Nat):Int)=42
 ·refine qD rfl (by simp[P7]) ?_;refine ag.skip<|qD rfl (by simp[P7]) ?_;refine qq<|qj fun K hK=>qm ?_;refine qm ?_;obtain⟨_,st,aI,rfl,s4,hN,hH⟩:=hwr _ (w7 (by omega)) hH;refine qv aI ?_;refine qm ?_;refine qe hK<|ag.ret ⟨rx,_,_,_,rfl,ak (rfl),?_⟩;exact⟨s4,hN,cD.aw cy hH⟩
 refine qE rfl (by simp[P7]) ?_;refine qq<|qj fun K hK=>qg ?_;refine qm ?_;refine qe hK ?_
 by_cases P6:((g.1:Nat):Int)=43
 ·refine qD rfl (by simp[P6]) ?_;refine ag.skip<|qD rfl (by simp[P6]) ?_;refine qq<|qj fun K hK=>qm ?_;refine qm ?_;obtain⟨_,st,aI,rfl,s4,hN,hH⟩:=hwr _ (w7 (by omega)) hH;refine qv aI ?_;refine qm ?_;refine qe hK<|ag.ret ⟨rx,_,_,_,rfl,ak (rfl),?_⟩;exact⟨s4,hN,cD.aw cy hH⟩
 refine qE rfl (by simp[P6]) ?_;refine qq<|qj fun K hK=>qg ?_;refine qm ?_;refine qe hK ?_
 by_cases P5:((g.1:Nat):Int)=63
 ·refine qD rfl (by simp[P5]) ?_;refine ag.skip<|qD rfl (by simp[P5]) ?_;refine qq<|qj fun K hK=>qm ?_;refine qm ?_;obtain⟨_,st,aI,rfl,s4,hN,hH⟩:=hwr _ (w7 (by omega)) hH;refine qv aI ?_;refine qm ?_;refine qe hK<|ag.ret ⟨rx,_,_,_,rfl,ak (rfl),?_⟩;exact⟨s4,hN,cD.aw cy hH⟩
 refine qE rfl (by simp[P5]) ?_;refine qq<|qj fun K hK=>qg ?_;refine qm ?_;refine qe hK ?_
 by_cases P8:((g.1:Nat):Int)=41
 ·refine qD rfl (by simp[P8]) ?_;refine ag.skip<|qD rfl (by simp[P8]) ?_;refine qq<|qj fun K hK=>qm ?_;refine qm ?_;obtain⟨_,st,aI,rfl,s4,hN,hH⟩:=hwr _ (w7 (by omega)) hH;refine qv aI ?_;refine qm ?_;refine qe hK<|ag.ret ⟨rx,_,_,_,rfl,ak (rfl),?_⟩;exact⟨s4,hN,cD.aw cy hH⟩
 refine qE rfl (by simp[P8]) ?_;refine qq<|qj fun K hK=>qg ?_;refine qm ?_;refine qe hK ?_
 by_cases P4:((g.1:Nat):Int)=93
 ·refine qD rfl (by simp[P4]) ?_;refine ag.skip<|qD rfl (by simp[P4]) ?_;refine qq<|qj fun K hK=>qm ?_;refine qm ?_;obtain⟨_,st,aI,rfl,s4,hN,hH⟩:=hwr _ (w7 (by omega)) hH;refine qv aI ?_;refine qm ?_;refine qe hK<|ag.ret ⟨rx,_,_,_,rfl,ak (rfl),?_⟩;exact⟨s4,hN,cD.aw cy hH⟩
 refine qE rfl (by simp[P4]) ?_;refine qq<|qj fun K hK=>qg ?_;refine qm ?_;refine qe hK ?_
 by_cases I3:((g.1:Nat):Int)=123
 ·refine qD rfl (by simp[I3]) ?_;refine ag.skip<|qD rfl (by simp[I3]) ?_;refine qq<|qj fun K hK=>qm ?_;refine qm ?_;obtain⟨_,st,aI,rfl,s4,hN,hH⟩:=hwr _ (w7 (by omega)) hH;refine qv aI ?_;refine qm ?_;refine qe hK<|ag.ret ⟨rx,_,_,_,rfl,ak (rfl),?_⟩;exact⟨s4,hN,cD.aw cy hH⟩
 refine qE rfl (by simp[I3]) ?_;refine qq<|qj fun K hK=>qg ?_;refine qm ?_;refine qe hK ?_
 by_cases I2:((g.1:Nat):Int)=125
 ·refine qD rfl (by simp[I2]) ?_;refine ag.skip<|qD rfl (by simp[I2]) ?_;refine qq<|qj fun K hK=>qm ?_;refine qm ?_;obtain⟨_,st,aI,rfl,s4,hN,hH⟩:=hwr _ (w7 (by omega)) hH;refine qv aI ?_;refine qm ?_;refine qe hK<|ag.ret ⟨rx,_,_,_,rfl,ak (rfl),?_⟩;exact⟨s4,hN,cD.aw cy hH⟩
 refine qE rfl (by simp[I2]) ?_;refine qj fun K hK=>qg ?_;refine qm ?_;refine qe hK ?_
 by_cases ME:((g.1:Nat):Int)=124
 ·refine qD rfl (by simp[ME]) ?_;refine qq<|qj fun K hK=>qm ?_;refine qm ?_;obtain⟨_,st,aI,rfl,s4,hN,hH⟩:=hwr _ (w7 (by omega)) hH;refine qv aI ?_;refine qm ?_;refine qe hK<|ag.ret ⟨rx,_,_,_,rfl,ak (rfl),?_⟩;exact⟨s4,hN,cD.aw cy hH⟩
 refine qE rfl (by simp[ME]) ?_;rw[if_neg (by omega)] at hR;refine qq<|qj fun K hK=>qm ?_;refine qg ?_;refine qp (o:=2) ?_;refine ql hH ax ?_;refine qA ?_;refine qg ?_;refine qp (o:=2) ?_;refine qT hH ax fun st hH=>?_;dsimp only[u2,u1,u3,u4,setMany,u5,u6,D.cells,Nat.reduceAdd,aP,br,aB,au,aG] at hH;refine qe hK ?_;obtain⟨_,np,_⟩:=mB (s0:=s0) (x:=aQ [(((g.1:Nat):Int),((g.1:Nat):Int))]) (l:=[(((g.1:Nat):Int),((g.1:Nat):Int))]) (cz _ _) (by simp);simp only[List.length_cons,List.length_nil] at np;refine qq<|qj fun K hK=>qm ?_;refine qv (jc _) ?_;refine ae.ie (qs:=[(0,_),(1,_)]) rfl rfl rfl rfl ⟨rfl,(ev rfl),(by rfl),rfl,(ev rfl),(by rfl),trivial⟩ (by intro q hq;simp only[List.mem_cons,List.not_mem_nil,or_false] at hq;rcases hq with rfl|rfl<;>exact⟨rfl,by exact Nat.le_of_ble_eq_true rfl⟩) (by show List.foldl _ [_,_,_,_,_,_,_] _=_;dsimp only[List.foldl_cons,List.foldl_nil,u2,u1]<;>rfl) (aa rfl _) ?_;refine qh (s:=7) (vs:=[_]) hH fun k36 st KW hH=>?_;refine qm ?_;refine qe hK ?_;obtain⟨d',ah,rX,il⟩:=jE _ {s with i:=s.i+1} 2 _ (cm [(((g.1:Nat):Int),((g.1:Nat):Int))]) k36 (.inl rfl) (by omega) rfl hg (by show s.i<s.i+1;omega) (by show s.i+1≤_;omega) he hR.symm KW hH;refine ag.ret ⟨rx,_,d',ah,rfl,rX,il⟩
theorem zC {m:Nat} {gs:List (Nat×Nat)} {A:PF} (hA:∀m',m'+1=m→zh A gs m') {N k:Nat} {S s0:St} {H:List bj} {bA:D} {aY:List Int} {s:ec} (eo:kz gs aY) (he:s.e=0) (hi:s.i<gs.length) (hg:s.g≤4) (ho:s.o+m=20) (hH:Has N S s0 (.box k (.mem 0 false (aP gs bA s))::.aE bA 1 (aY.map aB)::H)):
  ∃d ah,Ev pv 220 [.ptr k 0 0] s0 d ah∧∃(s':ec),iY gs aY (Fm A gs m s.i s.g) s s' d 1∧Has N S ah (.box k (.mem 0 false (aP gs bA s'))::.aE bA 1 (aY.map aB)::H):=by
 have r_:=eo.gl;have lY:=eo.pl;refine Ev.nj rfl L1 rfl rfl rfl ?_;dsimp only[u3,u4,List.length,Nat.reduceSub,Nat.reduceAdd,w1,w2];have cD:=hH;have hH:=hH.cE;have cy:(ai .rw s0).bs=s0.bs:=rfl;generalize ai .rw s0=S2 at*
 obtain⟨R,hR⟩:∃R,Fm A gs m s.i s.g=R:=⟨_,rfl⟩
 rw[hR];unfold Fm at hR;refine qq<|qj fun K hK=>qm ?_;refine qe hK<|qq<|qj fun K hK=>qm ?_;obtain⟨_,st,aI,s1,⟨p1,p2,p3,p4,l,rfl,p5,p6,p7⟩,hH⟩:=EI hA eo he hi hg ho hH;refine qv aI ?_;refine qm ?_;refine qe hK<|qq<|qq<|qj fun K hK=>qm ?_;refine qg ?_;refine qp (o:=5) ?_;refine ql hH ax ?_;refine qg ?_;refine qe hK ?_
 rcases p7 with p7|⟨p7,p9,p8⟩
 ·have hne:=p7.ne;refine qD rfl (by simp[hne]) ?_;refine qq<|qj fun K hK=>qm ?_;refine qe hK<|ag.ret ⟨rx,_,_,_,rfl,ak (rfl),?_⟩;exact⟨s1,fc p1 p2 p3 p4 (p7.map fun e w h=>by rw[←hR,h]),cD.aw cy hH⟩
 rw[p9] at hR;simp only at hR;unfold JT at hR;refine qE rfl (by simp[p7]) ?_;refine ag.skip<|qq<|qj fun K hK=>ae.go (d:=.agg [.int .i64 5,.nul,.int .i64 0,.int .i64 0,.bool false,.int .i64 0,.int .i64 1]) (st1:=_) rfl rfl rfl (aa rfl _) ?_;refine qa hH fun k4 st KV hH=>?_;dsimp only[u2,u1,u3,u4,setMany,u5,u6,D.cells,Nat.reduceAdd,aP,br,aB,au,aG] at hH;refine qS hH ax fun st hH=>?_;dsimp only[u2,u1,u3,u4,setMany,u5,u6,D.cells,Nat.reduceAdd,aP,br,aB,au,aG] at hH;refine qe hK ?_;have hH:Has N S2 st (.box k (.mem 0 false (aP gs bA s1))::.aE bA 1 (aY.map aB)::.box k4 (.mem 0 false [.int .i64 5,.nul,.int .i64 0,.int .i64 0,.bool false,.int .i64 0,.int .i64 1])::H):=nf hH;refine qq<|ag.merge (fun fr st=>∃(mn mx:Int) (s2:ec) (tmp:List (Nat×D)),fr=⟨5,[.ptr k 0 0,yG fr 1,yG fr 2,p_ l,.ptr k4 0 0],tmp⟩∧Has N S2 st (.box k (.mem 0 false (aP gs bA s2))::.aE bA 1 (aY.map aB)::.box k4 (.mem 0 false [.int .i64 5,.nul,.int .i64 mn,.int .i64 mx,.bool false,.int .i64 0,.int .i64 1])::H)∧(s2.o=s.o)∧(s2.g≤4)∧(s1.i<s2.i)∧(s2.i≤gs.length)∧(eB R aY s2∨s2.e=0∧R=vR gs l s2.g mn mx s2.i)) ?_ ?_
 ·refine ag.block<|qq<|qj fun K hK=>qm ?_;obtain⟨_,st,aI,rfl,hH⟩:=dX (s:=s1) (by omega) 42 hH;refine qv aI ?_;refine qm ?_;refine qe hK ?_
  cases hb1:ek gs s1.i 42 with
  |true=>
   obtain⟨k1,k2,k3,NV,k5⟩:=gQ (gs:=gs) (s:=s1) (r:=42);have k6:=mh hb1;have k7:=k5 p4;generalize bW gs s1 42=s2 at*;refine qB ?_;refine qj fun K hK=>qp (o:=3) ?_;refine qT hH bV fun st hH=>?_;dsimp only[u2,u1,u3,u4,setMany,u5,u6,D.cells,Nat.reduceAdd,aP,br,aB,au,aG] at hH;refine qe hK ?_;exact⟨0,-1,s2,_,rfl,hH,by omega,by omega,by omega,k7,.inr ⟨by omega,by rw[←hR,if_pos hb1,k6,show s2.g=s1.g by omega]⟩⟩
  |false=>
   rw[o8 hb1] at hH;rw[if_neg (by rw[hb1];simp)] at hR;refine qC ?_;refine qq<|qj fun K hK=>qm ?_;obtain⟨_,st,aI,rfl,hH⟩:=dX (s:=s1) (by omega) 43 hH;refine qv aI ?_;refine qm ?_;refine qe hK ?_
   cases hb2:ek gs s1.i 43 with
   |true=>
    obtain⟨k1,k2,k3,NV,k5⟩:=gQ (gs:=gs) (s:=s1) (r:=43);have k6:=mh hb2;have k7:=k5 p4;generalize bW gs s1 43=s2 at*;refine qB ?_;refine qj fun K hK=>qp (o:=2) ?_;refine qT hH bV fun st hH=>?_;dsimp only[u2,u1,u3,u4,setMany,u5,u6,D.cells,Nat.reduceAdd,aP,br,aB,au,aG] at hH;refine qp (o:=3) ?_;refine qT hH bV fun st hH=>?_;dsimp only[u2,u1,u3,u4,setMany,u5,u6,D.cells,Nat.reduceAdd,aP,br,aB,au,aG] at hH;refine qe hK ?_;exact⟨1,-1,s2,_,rfl,hH,by omega,by omega,by omega,k7,.inr ⟨by omega,by rw[←hR,if_pos hb2,k6,show s2.g=s1.g by omega]⟩⟩
   |false=>
    rw[o8 hb2] at hH;rw[if_neg (by rw[hb2];simp)] at hR;refine qC ?_;refine qq<|qj fun K hK=>qm ?_;obtain⟨_,st,aI,rfl,hH⟩:=dX (s:=s1) (by omega) 63 hH;refine qv aI ?_;refine qm ?_;refine qe hK ?_
    cases hb3:ek gs s1.i 63 with
    |true=>
     obtain⟨k1,k2,k3,NV,k5⟩:=gQ (gs:=gs) (s:=s1) (r:=63);have k6:=mh hb3;have k7:=k5 p4;generalize bW gs s1 63=s2 at*;refine qB ?_;refine qj fun K hK=>qp (o:=3) ?_;refine qT hH bV fun st hH=>?_;dsimp only[u2,u1,u3,u4,setMany,u5,u6,D.cells,Nat.reduceAdd,aP,br,aB,au,aG] at hH;refine qe hK ?_;exact⟨0,1,s2,_,rfl,hH,by omega,by omega,by omega,k7,.inr ⟨by omega,by rw[←hR,if_pos hb3,k6,show s2.g=s1.g by omega]⟩⟩
    |false=>
     rw[o8 hb3] at hH;rw[if_neg (by rw[hb3];simp)] at hR;refine qC ?_;refine qq<|qj fun K hK=>qm ?_;obtain⟨_,st,aI,rfl,hH⟩:=oH (s:=s1) (by omega) 123 hH;refine qv aI ?_;refine qm ?_;refine qe hK ?_
     cases hb4:ek gs s1.i 123 with
     |true=>
      have hlt:=qN hb4;refine qB ?_;refine qj fun K hK=>qm ?_;obtain⟨_,st,aI,n1,n2,s2,rfl,⟨⟨m1,m2,m3,m4⟩,m5⟩,hH⟩:=Bc eo p7 hlt hH;refine qv aI ?_;refine qm ?_;refine qg ?_;refine qg ?_;refine qp (o:=2) ?_;refine qT hH bV fun st hH=>?_;dsimp only[u2,u1,u3,u4,setMany,u5,u6,D.cells,Nat.reduceAdd,aP,br,aB,au,aG] at hH;refine qp (o:=3) ?_;refine qT hH bV fun st hH=>?_;dsimp only[u2,u1,u3,u4,setMany,u5,u6,D.cells,Nat.reduceAdd,aP,br,aB,au,aG] at hH;refine qe hK ?_;rw[if_pos hb4] at hR
      have h5:eB R aY s2∨s2.e=0∧R=vR gs l s2.g n1 n2 s2.i:=by
       rcases m5 with m5|⟨m5,m6⟩
       ·exact .inl (m5.map fun e w h=>by rw[←hR,h])
       ·exact .inr ⟨m5,by rw[←hR,m6,m2]⟩
      exact⟨n1,n2,s2,_,rfl,hH,by omega,by omega,m3,m4,h5⟩
     |false=>
      rw[if_neg (by rw[hb4];simp)] at hR;refine qC ?_;refine qq<|qj fun K hK=>qm ?_;refine qm ?_;refine qe hK<|ag.ret ⟨rx,_,_,_,rfl,ak (rfl),?_⟩;exact⟨s1,⟨p1,p2,p3,p4,l,rfl,p5,p6,.inr ⟨p7,hR.symm,by omega⟩⟩,cD.aw cy (hH.erase 2)⟩
 ·rintro fr st ⟨mn,mx,s2,tmp,hfr,hH,h1,h2,h3,h4,h5⟩;rw[hfr];clear hfr;generalize yG fr=ee;clear fr;refine qq<|qq<|qj fun K hK=>qm ?_;refine qg ?_;refine qp (o:=5) ?_;refine ql hH ax ?_;refine qg ?_;refine qe hK ?_
  by_cases Ag:s2.e=0
  ·refine qE rfl (by simp[Ag]) ?_;refine ag.skip ?_;obtain⟨k1,k2,k3,NV,k5⟩:=gQ (gs:=gs) (s:=s2) (r:=63);have k7:=k5 h4
   have h6:R=vR gs l s2.g mn mx s2.i:=by
    rcases h5 with h5|h5
    ·exact absurd Ag h5.ne
    ·exact h5.2
   have QE:(bW gs s2 63).i=if ek gs s2.i 63=true then s2.i+1 else s2.i:=by unfold bW;split<;>rfl
   unfold vR at h6;rw[←QE] at h6;clear QE;refine qq<|qj fun K hK=>qm ?_;obtain⟨_,st,aI,rfl,hH⟩:=dX (s:=s2) (by omega) 63 hH;refine qv aI ?_;refine qp (o:=4) ?_;refine qT hH bV fun st hH=>?_;dsimp only[u2,u1,u3,u4,setMany,u5,u6,D.cells,Nat.reduceAdd,aP,br,aB,au,aG] at hH;refine qe hK ?_;generalize bW gs s2 63=s3 at*;generalize ek gs s2.i 63=lz at*;have hla:=(mA p5).arg N S2;refine qq<|qj fun K hK=>?_;refine ae.aV (m:=7) hH rfl (ev rfl) (by exact bV) (by dsimp only[List.drop_succ_cons,List.drop_zero,List.take_succ_cons,List.take_zero,aP,br,aB,au,aG]<;>rfl) rfl rfl (aa rfl _) ?_;refine qh (s:=7) (vs:=[_]) hH fun k46 st Tf hH=>?_;refine qm ?_;refine ae.cB (s:=7) hH rfl (ev rfl) (ev rfl) ax ((mA p5).rows st) rfl rfl rfl rfl rfl rfl rfl ⟨(Nat.le_of_ble_eq_true rfl),(Nat.le_of_ble_eq_true rfl)⟩ (fun _=>(aa rfl _)) (by simp only[List.length_map,List.length_cons,List.length_nil];omega) (.inr (sR p5)) (fun k hk=>by have iI:k46+1=k+1:=hk;omega) (fun Nu st gO hH=>?_);dsimp only[u2] at hH;refine qm ?_;refine qe hK ?_;have hH:Has N S2 st (.aE Nu 7 ([.int .i64 5,.nul,.int .i64 mn,.int .i64 mx,.bool lz,.int .i64 0,.int .i64 1]::l.map aG)::.box k (.mem 0 false (aP gs bA s3))::.aE bA 1 (aY.map aB)::.box k4 (.mem 0 false [.int .i64 5,.nul,.int .i64 mn,.int .i64 mx,.bool lz,.int .i64 0,.int .i64 1])::H):=hH
   have hfz:=iJ (L:=s0.bs.length) (l:=iS 5 mn mx lz 0 1 []::l) hH ax (by rw[List.map_cons,ur p5];rfl) (fun e he d hd=>by
    rcases List.mem_cons.1 he with rfl|he
    ·simp only[List.mem_cons,List.not_mem_nil,or_false] at hd
     rcases hd with rfl|rfl|rfl|rfl|rfl|rfl|rfl<;>rfl
    ·exact pZ p5 e he d hd) (fun k hk=>by rw[←cy];exact gO k hk) (n:=16) (by decide)
   refine ag.ret ⟨rx,_,_,_,rfl,ak hfz,⟨s3,⟨by omega,by omega,by omega,k7,_,rfl,?_,by simp only[List.length_cons];omega,.inr ⟨by omega,by rw[h6,show s3.g=s2.g by omega],by simp only[List.length_cons];omega⟩⟩,cD.aw cy ((hH.drop 1).erase 2)⟩⟩;intro n hn
   rcases List.mem_cons.1 hn with rfl|hn
   ·exact⟨rfl,by simp[iS],by simp[iS]⟩
   ·exact p5 n hn
  ·refine qD rfl (by simp[Ag]) ?_;refine qq<|qj fun K hK=>qm ?_;refine qe hK<|ag.ret ⟨rx,_,_,_,rfl,ak (rfl),?_⟩;exact⟨s2,fc h1 h2 (by omega) h4 (h5.resolve_right fun h=>Ag h.1),cD.aw cy (hH.erase 2)⟩
def nM (fr:Go.V.Fr) (k:Nat):Go.V.D:=Go.V.nth .bp fr.loc k
noncomputable def B0 (A:PF) (gs:List (Nat×Nat)) (m:Nat):Nat→Nat→Nat→List (List bB)→PR (List bB×Nat)
 |0,i,g,ps=>.ok (fI 3 ps,g) i
 |n+1,i,g,ps=>
  if i<gs.length∧ek gs i 124=false∧(ek gs i 41=false∨m=20) then
   match Fm A gs m i g with
   | .er e w=>.er e w
   | .ok (l,g2) j=>B0 A gs m n j g2 (ps++[l])
  else .ok (fI 3 ps,g) i
noncomputable def Eu (A:PF) (gs:List (Nat×Nat)) (m i g:Nat):PR (List bB×Nat):=B0 A gs m (gs.length+1) i g []
noncomputable def B4 (A:PF) (gs:List (Nat×Nat)) (m:Nat):Nat→Nat→Nat→List (List bB)→PR (List bB×Nat)
 |0,i,g,ps=>.ok (fI 4 ps,g) i
 |n+1,i,g,ps=>
  if ek gs i 124=true then
   match Eu A gs m (i+1) g with
   | .er e w=>.er e w
   | .ok (l,g2) j=>B4 A gs m n j g2 (ps++[l])
  else .ok (fI 4 ps,g) i
noncomputable def EK (A:PF) (gs:List (Nat×Nat)) (m:Nat):PF:=fun i g=>
 match Eu A gs m i g with
 | .er e w=>.er e w
 | .ok (l,g1) j=>B4 A gs m (gs.length+1) j g1 [l]
noncomputable def B5 (gs:List (Nat×Nat)):Nat→PF
 |0=>EK (fun i _=>.er 10 i) gs 0
 |m+1=>EK (B5 gs m) gs (m+1)
theorem Au {m:Nat} {gs:List (Nat×Nat)} {A:PF} (hA:∀m',m'+1=m→zh A gs m') {N k:Nat} {S s0:St} {H:List bj} {bA:D} {aY:List Int} {s:ec} (eo:kz gs aY) (he:s.e=0) (hi:s.i≤gs.length) (hg:s.g≤4) (ho:s.o+m=20) (hH:Has N S s0 (.box k (.mem 0 false (aP gs bA s))::.aE bA 1 (aY.map aB)::H)):
  ∃d ah,Ev pv 186 [.ptr k 0 0] s0 d ah∧∃(s':ec),pq gs aY (Eu A gs m s.i s.g) s s' d∧Has N S ah (.box k (.mem 0 false (aP gs bA s'))::.aE bA 1 (aY.map aB)::H):=by
 have r_:=eo.gl;have lY:=eo.pl;refine Ev.nj rfl Mc rfl rfl rfl ?_;dsimp only[u3,u4,List.length,Nat.reduceSub,Nat.reduceAdd,w1,w2];have cD:=hH;have hH:=hH.cE;have cy:(ai .rw s0).bs=s0.bs:=rfl;generalize ai .rw s0=S2 at*
 obtain⟨R,hR⟩:∃R,Eu A gs m s.i s.g=R:=⟨_,rfl⟩
 rw[hR];unfold Eu at hR;have xG:Arg N S2 2 (gK gs) (gs.map br):=Arg.pure (fun st=>eE st gs);refine qq<|qj fun K hK=>qm ?_;refine qe hK<|qq<|qj fun K hK=>qm ?_;refine qe hK ?_;have hH:Has N S2 S2 (.box k (.mem 0 false (aP gs bA s))::.aE bA 1 (aY.map aB)::.aE .nul 1 (([]:List (List bB)).map dS)::H):=nf (hH.eP 1);refine qq<|ag.block<|ag.loop (fun mm fr st=>∃(s1:ec) (pd:D) (parts:List (List bB)),fr.clean=⟨4,[.ptr k 0 0,nM fr 1,nM fr 2,pd],[]⟩∧Has N S2 st (.box k (.mem 0 false (aP gs bA s1))::.aE bA 1 (aY.map aB)::.aE pd 1 (parts.map dS)::H)∧(s1.o=s.o)∧(s1.g≤4)∧(s.i≤s1.i)∧(s1.i≤gs.length)∧(∀l∈parts,∀n∈l,l_ n)∧(eZ parts+parts.length≤4*(s1.i-s.i)+2)∧(s1.e=0→eZ parts+parts.length≤4*(s1.i-s.i))∧(eB R aY s1∨s1.e=0∧∃n,gs.length-s1.i<n∧B0 A gs m n s1.i s1.g parts=R)∧(gs.length-s1.i+(if s1.e=0 then 1 else 0)≤mm)) (gs.length+1) ?_ ?_
 ·exact⟨s,.nul,[],rfl,hH,rfl,hg,Nat.le_refl _,hi,fun l hl=>(by cases hl),by simp[eZ],fun _=>by simp[eZ],.inr ⟨he,gs.length+1,by omega,hR⟩,by split<;>omega⟩
 rintro mm fr st ⟨s1,pd,parts,hfr,hH,h1,h2,h3,h4,h5,h6,h7,h8,xF⟩;rw[hfr];clear hfr;generalize nM fr=ee;clear fr
 have qY:∀st:St,(eB R aY s1∨s1.e=0∧R=.ok (fI 3 parts,s1.g) s1.i)→Has N S2 st (.box k (.mem 0 false (aP gs bA s1))::.aE bA 1 (aY.map aB)::.aE pd 1 (parts.map dS)::H)→∃d,Ev pv 188 [.int .i64 3,pd] st d st∧pq gs aY R s s1 d∧∃l,d=p_ l:=by
  intro st hv hH;obtain⟨aI,j1,j2,j3⟩:=qK 3 (hH.rows bV) h5 (by omega) (by omega);refine⟨_,aI,⟨h1,h2,h3,h4,fI 3 parts,rfl,j1,?_,hv⟩,_,rfl⟩
  by_cases q1:parts.length=1
  ·have:=j2 q1;omega
  ·by_cases q0:parts.length=0
   ·have:parts=[]:=List.length_eq_zero_iff.1 q0;rw[this];show 1≤_;omega
   ·omega
 by_cases he1:s1.e=0
 ·obtain⟨n,rW,gV⟩:=(h8.resolve_left fun h=>absurd he1 h.ne).2
  obtain⟨n,rfl⟩:∃m,n=m+1:=⟨n-1,by omega⟩
  unfold B0 at gV;rw[if_pos he1] at xF;have h7:=h7 he1;have ba:(s1.e==0)=true:=by simpa using he1
  by_cases hlt:s1.i<gs.length
  ·have aF:decide (((s1.i:Nat):Int)<((gs.length:Nat):Int))=true:=by rw[decide_eq_true_eq];omega
   cases aJ:(!ek gs s1.i 124) with
   |false=>
    refine qq<|qq<|qj fun K hK=>qm ?_;refine qg ?_;refine qp (o:=5) ?_;refine ql hH ax ?_;refine qg ?_;refine qm ?_;refine qm ?_ (hg:=wi ba);refine qg ?_ (hg:=wi ba);refine qp (o:=2) ?_ (hg:=wi ba);refine ql hH ax ?_ (hg:=wi ba);refine qm ?_ (hg:=wi ba);refine qg ?_ (hg:=wi ba);refine qp (o:=0) ?_ (hg:=wi ba);refine ql hH ax ?_ (hg:=wi ba);refine qn ?_ (hg:=wi ba);simp only[List.length_map];refine qg ?_ (hg:=wi ba);refine qt ba ?_;refine qm ?_;refine qm ?_ (hg:=wi aF);obtain⟨_,st,aI,rfl,hH⟩:=oH (s:=s1) (by omega) 124 hH;refine qv aI ?_ (hg:=wi aF);refine qg ?_ (hg:=wi aF);refine qt aF ?_;refine qm ?_;refine qs ?_ (hg:=wn aJ);refine qs ?_ (hg:=wn aJ);refine qs ?_ (hg:=wn aJ);refine qs ?_;refine qs ?_;refine qs ?_;refine qs ?_;refine qs ?_;refine qs ?_ (hg:=wn aJ);refine qs ?_ (hg:=wn aJ);refine qu aJ ?_;refine qe hK<|qC ?_;refine ag.exit ?_;obtain⟨_,DW,hQ,l,rfl⟩:=qY _ (.inr ⟨he1,by rw[←gV,if_neg (fun h=>by rw[h.2.1] at aJ;simp at aJ)]⟩) hH;refine qq<|qj fun K hK=>qm ?_;refine qv (DW) ?_;refine qm ?_;refine qe hK<|ag.ret ⟨rx,_,_,_,rfl,ak (rfl),?_⟩;exact⟨s1,hQ,cD.aw cy (hH.erase 2)⟩
   |true=>
    cases a_:ek gs s1.i 41 with
    |false=>
     refine qq<|qq<|qj fun K hK=>qm ?_;refine qg ?_;refine qp (o:=5) ?_;refine ql hH ax ?_;refine qg ?_;refine qm ?_;refine qm ?_ (hg:=wi ba);refine qg ?_ (hg:=wi ba);refine qp (o:=2) ?_ (hg:=wi ba);refine ql hH ax ?_ (hg:=wi ba);refine qm ?_ (hg:=wi ba);refine qg ?_ (hg:=wi ba);refine qp (o:=0) ?_ (hg:=wi ba);refine ql hH ax ?_ (hg:=wi ba);refine qn ?_ (hg:=wi ba);simp only[List.length_map];refine qg ?_ (hg:=wi ba);refine qt ba ?_;refine qm ?_;refine qm ?_ (hg:=wi aF);obtain⟨_,st,aI,rfl,hH⟩:=oH (s:=s1) (by omega) 124 hH;refine qv aI ?_ (hg:=wi aF);refine qg ?_ (hg:=wi aF);refine qt aF ?_;refine qm ?_;refine qm ?_ (hg:=wi aJ);obtain⟨_,st,aI,rfl,hH⟩:=oH (s:=s1) (by omega) 41 hH;refine qv aI ?_ (hg:=wi aJ);refine qm ?_ (hg:=wi aJ);refine qs ?_ (hg:=wn a_);refine qs ?_ (hg:=wn a_);refine qs ?_ (hg:=wn a_);refine qs ?_ (hg:=wn a_);refine qs ?_ (hg:=wn a_);refine ae.cH (aj rfl rfl rfl aJ) rfl a_ (aa rfl _) ?_;refine qg ?_ (hg:=wi aJ);refine qt aJ ?_;refine qe hK<|qB ?_;refine ag.skip<|ag.block ?_;rw[if_pos ⟨hlt,by simpa using aJ,.inl a_⟩] at gV;refine qj fun K hK=>qm ?_;refine qm ?_;obtain⟨_,st,aI,s2,⟨r1,r2,r3,r4,l,rfl,r5,r6,r7⟩,hH⟩:=zC hA eo (s:=s1) he1 hlt h2 (by omega) hH;refine qv aI ?_;refine qh (s:=1) (vs:=[_]) hH fun k41 st KU hH=>?_;dsimp only[u2,u1,u3,u4,setMany,u5,u6,D.cells,Nat.reduceAdd,aP,br,aB,au,dS] at hH;refine ae.eY (s:=1) hH rfl (ev rfl) (ev rfl) (by exact da) (by exact hH.rows (by exact ax)) rfl rfl rfl rfl rfl rfl rfl ⟨(Nat.le_of_ble_eq_true rfl),(Nat.le_of_ble_eq_true rfl)⟩ (fun _=>(aa rfl _)) (by simp only[List.length_cons,List.length_nil,List.length_map]<;>omega) (by exact .inr rfl) (fun JC st hH=>?_);dsimp only[u2,u1,u3,u4,setMany,u5,u6,D.cells,Nat.reduceAdd,aP,br,aB,au,dS] at hH;refine qm ?_;refine qe hK ?_;have hH:=hH.drop 1
     have r8:s2.e=0→l.length+1≤4*(s2.i-s1.i):=fun e=>by
      rcases r7 with r7|r7
      ·exact absurd e r7.ne
      ·exact r7.2.2
     have r9:eB R aY s2∨s2.e=0∧∃n,gs.length-s2.i<n∧B0 A gs m n s2.i s2.g (parts++[l])=R:=by
      rcases r7 with r7|⟨r7,JV,Ru⟩
      ·exact .inl (r7.map fun e w h=>by rw[←gV,h])
      ·rw[JV] at gV;exact .inr ⟨r7,n,by omega,gV⟩
     have NF:gs.length-s2.i+(if s2.e=0 then 1 else 0)≤mm-1:=by
      by_cases e:s2.e=0
      ·have:=r8 e;rw[if_pos e];omega
      ·rw[if_neg e];omega
     refine⟨mm-1,by omega,⟨s2,JC,parts++[l],rfl,(by rw[List.map_append];exact hH),by omega,r2,by omega,r4,?_,by rw[dJ,List.length_append];simp only[eZ,List.length_cons,List.length_nil];omega,(fun e=>by have:=r8 e;rw[dJ,List.length_append];simp only[eZ,List.length_cons,List.length_nil];omega),r9,NF⟩⟩;intro l' iH
     rcases List.mem_append.1 iH with iH|iH
     ·exact h5 l' iH
     ·simp only[List.mem_cons,List.not_mem_nil,or_false] at iH;subst iH;exact r5
    |true=>
     refine qq<|qq<|qj fun K hK=>qm ?_;refine qg ?_;refine qp (o:=5) ?_;refine ql hH ax ?_;refine qg ?_;refine qm ?_;refine qm ?_ (hg:=wi ba);refine qg ?_ (hg:=wi ba);refine qp (o:=2) ?_ (hg:=wi ba);refine ql hH ax ?_ (hg:=wi ba);refine qm ?_ (hg:=wi ba);refine qg ?_ (hg:=wi ba);refine qp (o:=0) ?_ (hg:=wi ba);refine ql hH ax ?_ (hg:=wi ba);refine qn ?_ (hg:=wi ba);simp only[List.length_map];refine qg ?_ (hg:=wi ba);refine qt ba ?_;refine qm ?_;refine qm ?_ (hg:=wi aF);obtain⟨_,st,aI,rfl,hH⟩:=oH (s:=s1) (by omega) 124 hH;refine qv aI ?_ (hg:=wi aF);refine qg ?_ (hg:=wi aF);refine qt aF ?_;refine qm ?_;refine qm ?_ (hg:=wi aJ);obtain⟨_,st,aI,rfl,hH⟩:=oH (s:=s1) (by omega) 41 hH;refine qv aI ?_ (hg:=wi aJ);refine qm ?_ (hg:=wi aJ);refine qm ?_ (hg:=wi a_);refine qg ?_ (hg:=wi a_);refine qp (o:=3) ?_ (hg:=wi a_);refine ql hH ax ?_ (hg:=wi a_);refine qg ?_ (hg:=wi a_);refine ae.cP (aj rfl rfl rfl aJ) rfl a_ (aa rfl _) ?_;refine qg ?_ (hg:=wi aJ);refine qt aJ ?_;refine qe hK ?_
     by_cases hop:0<s1.o
     ·have gy:(!decide (((s1.o:Nat):Int)>0))=false:=by rw[decide_eq_true (by omega)];rfl
      refine qE rfl (by rw[gy]) ?_;refine ag.exit ?_;obtain⟨_,DW,hQ,l,rfl⟩:=qY _ (.inr ⟨he1,by rw[←gV,if_neg (fun h=>by rcases h.2.2 with h|h;rw[a_] at h;exact absurd h (by simp);omega)]⟩) hH;refine qq<|qj fun K hK=>qm ?_;refine qv (DW) ?_;refine qm ?_;refine qe hK<|ag.ret ⟨rx,_,_,_,rfl,ak (rfl),?_⟩;exact⟨s1,hQ,cD.aw cy (hH.erase 2)⟩
     ·have gy:(!decide (((s1.o:Nat):Int)>0))=true:=by rw[decide_eq_false (by omega)];rfl
      refine qD rfl (by rw[gy]) ?_;refine ag.skip<|ag.block ?_;rw[if_pos ⟨hlt,by simpa using aJ,.inr (by omega)⟩] at gV;refine qj fun K hK=>qm ?_;refine qm ?_;obtain⟨_,st,aI,s2,⟨r1,r2,r3,r4,l,rfl,r5,r6,r7⟩,hH⟩:=zC hA eo (s:=s1) he1 hlt h2 (by omega) hH;refine qv aI ?_;refine qh (s:=1) (vs:=[_]) hH fun k41 st KU hH=>?_;dsimp only[u2,u1,u3,u4,setMany,u5,u6,D.cells,Nat.reduceAdd,aP,br,aB,au,dS] at hH;refine ae.eY (s:=1) hH rfl (ev rfl) (ev rfl) (by exact da) (by exact hH.rows (by exact ax)) rfl rfl rfl rfl rfl rfl rfl ⟨(Nat.le_of_ble_eq_true rfl),(Nat.le_of_ble_eq_true rfl)⟩ (fun _=>(aa rfl _)) (by simp only[List.length_cons,List.length_nil,List.length_map]<;>omega) (by exact .inr rfl) (fun JC st hH=>?_);dsimp only[u2,u1,u3,u4,setMany,u5,u6,D.cells,Nat.reduceAdd,aP,br,aB,au,dS] at hH;refine qm ?_;refine qe hK ?_;have hH:=hH.drop 1
      have r8:s2.e=0→l.length+1≤4*(s2.i-s1.i):=fun e=>by
       rcases r7 with r7|r7
       ·exact absurd e r7.ne
       ·exact r7.2.2
      have r9:eB R aY s2∨s2.e=0∧∃n,gs.length-s2.i<n∧B0 A gs m n s2.i s2.g (parts++[l])=R:=by
       rcases r7 with r7|⟨r7,JV,Ru⟩
       ·exact .inl (r7.map fun e w h=>by rw[←gV,h])
       ·rw[JV] at gV;exact .inr ⟨r7,n,by omega,gV⟩
      have NF:gs.length-s2.i+(if s2.e=0 then 1 else 0)≤mm-1:=by
       by_cases e:s2.e=0
       ·have:=r8 e;rw[if_pos e];omega
       ·rw[if_neg e];omega
      refine⟨mm-1,by omega,⟨s2,JC,parts++[l],rfl,(by rw[List.map_append];exact hH),by omega,r2,by omega,r4,?_,by rw[dJ,List.length_append];simp only[eZ,List.length_cons,List.length_nil];omega,(fun e=>by have:=r8 e;rw[dJ,List.length_append];simp only[eZ,List.length_cons,List.length_nil];omega),r9,NF⟩⟩;intro l' iH
      rcases List.mem_append.1 iH with iH|iH
      ·exact h5 l' iH
      ·simp only[List.mem_cons,List.not_mem_nil,or_false] at iH;subst iH;exact r5
  ·have aF:decide (((s1.i:Nat):Int)<((gs.length:Nat):Int))=false:=by rw[decide_eq_false_iff_not];omega
   refine qq<|qq<|qj fun K hK=>qm ?_;refine qg ?_;refine qp (o:=5) ?_;refine ql hH ax ?_;refine qg ?_;refine qm ?_;refine qm ?_ (hg:=wi ba);refine qg ?_ (hg:=wi ba);refine qp (o:=2) ?_ (hg:=wi ba);refine ql hH ax ?_ (hg:=wi ba);refine qm ?_ (hg:=wi ba);refine qg ?_ (hg:=wi ba);refine qp (o:=0) ?_ (hg:=wi ba);refine ql hH ax ?_ (hg:=wi ba);refine qn ?_ (hg:=wi ba);simp only[List.length_map];refine qg ?_ (hg:=wi ba);refine qt ba ?_;refine qm ?_;refine qs ?_ (hg:=wn aF);refine qs ?_ (hg:=wn aF);refine qs ?_ (hg:=wn aF);refine qu aF ?_;refine qm ?_;refine qs ?_;refine qs ?_;refine qs ?_;refine qs ?_;refine qs ?_;refine qs ?_;refine qs ?_;refine qs ?_;refine qs ?_;refine qs ?_;refine qg ?_;refine qe hK<|qC ?_;refine ag.exit ?_;obtain⟨_,DW,hQ,l,rfl⟩:=qY _ (.inr ⟨he1,by rw[←gV,if_neg (fun h=>hlt h.1)]⟩) hH;refine qq<|qj fun K hK=>qm ?_;refine qv (DW) ?_;refine qm ?_;refine qe hK<|ag.ret ⟨rx,_,_,_,rfl,ak (rfl),?_⟩;exact⟨s1,hQ,cD.aw cy (hH.erase 2)⟩
 ·have ba:(s1.e==0)=false:=by simpa using he1
  refine qq<|qq<|qj fun K hK=>qm ?_;refine qg ?_;refine qp (o:=5) ?_;refine ql hH ax ?_;refine qg ?_;refine qm ?_;refine qs ?_ (hg:=wn ba);refine qs ?_ (hg:=wn ba);refine qs ?_ (hg:=wn ba);refine qs ?_ (hg:=wn ba);refine qs ?_ (hg:=wn ba);refine qs ?_ (hg:=wn ba);refine qs ?_ (hg:=wn ba);refine qs ?_ (hg:=wn ba);refine qs ?_ (hg:=wn ba);refine qs ?_ (hg:=wn ba);refine qu ba ?_;refine qm ?_;refine qs ?_;refine qs ?_;refine qs ?_;refine qg ?_;refine qm ?_;refine qs ?_;refine qs ?_;refine qs ?_;refine qs ?_;refine qs ?_;refine qs ?_;refine qs ?_;refine qs ?_;refine qs ?_;refine qs ?_;refine qg ?_;refine qe hK<|qC ?_;refine ag.exit ?_;obtain⟨_,DW,hQ,l,rfl⟩:=qY _ (.inl (h8.resolve_right fun h=>he1 h.1)) hH;refine qq<|qj fun K hK=>qm ?_;refine qv (DW) ?_;refine qm ?_;refine qe hK<|ag.ret ⟨rx,_,_,_,rfl,ak (rfl),?_⟩;exact⟨s1,hQ,cD.aw cy (hH.erase 2)⟩
theorem AD {m:Nat} {gs:List (Nat×Nat)} {A:PF} (hA:∀m',m'+1=m→zh A gs m'):zh (EK A gs m) gs m:=by
 intro N k S s0 H bA aY s eo he hi hg ho hH;have r_:=eo.gl;have lY:=eo.pl;refine Ev.nj rfl Mq rfl rfl rfl ?_;dsimp only[u3,u4,List.length,Nat.reduceSub,Nat.reduceAdd,w1,w2];have cD:=hH;have hH:=hH.cE;have cy:(ai .rw s0).bs=s0.bs:=rfl;generalize ai .rw s0=S2 at*
 obtain⟨R,hR⟩:∃R,EK A gs m s.i s.g=R:=⟨_,rfl⟩
 rw[hR];unfold EK at hR;refine qq<|qj fun K hK=>qm ?_;refine qe hK<|qq<|qj fun K hK=>qm ?_;obtain⟨_,st,aI,s1,⟨p1,p2,p3,p4,l,rfl,p5,p6,p7⟩,hH⟩:=Au hA eo he hi hg ho hH;refine qv aI ?_;refine qh (s:=1) (vs:=[_]) hH fun k6 st Jr hH=>?_;dsimp only[u2,u1,u3,u4,setMany,u5,u6,D.cells,Nat.reduceAdd,aP,br,aB,au,dS] at hH;refine qm ?_;refine qe hK ?_
 have T_:eB R aY s1∨s1.e=0∧∃n,gs.length-s1.i<n∧B4 A gs m n s1.i s1.g [l]=R:=by
  rcases p7 with p7|⟨p7,Rz⟩
  ·exact .inl (p7.map fun e w h=>by rw[←hR,h])
  ·rw[Rz] at hR;exact .inr ⟨p7,_,by omega,hR⟩
 have hH:Has N S2 st (.box k (.mem 0 false (aP gs bA s1))::.aE bA 1 (aY.map aB)::.aE (.win k6 0 0 1 1) 1 ([l].map dS)::H):=nf hH;refine qq<|ag.block<|ag.loop (fun mm fr st=>∃(s1:ec) (pd:D) (parts:List (List bB)),fr.clean=⟨4,[.ptr k 0 0,nM fr 1,nM fr 2,pd],[]⟩∧Has N S2 st (.box k (.mem 0 false (aP gs bA s1))::.aE bA 1 (aY.map aB)::.aE pd 1 (parts.map dS)::H)∧(s1.o=s.o)∧(s1.g≤4)∧(s.i≤s1.i)∧(s1.i≤gs.length)∧(∀l∈parts,∀n∈l,l_ n)∧(eZ parts+3*parts.length≤4*(s1.i-s.i)+4)∧(1≤parts.length)∧(eB R aY s1∨s1.e=0∧∃n,gs.length-s1.i<n∧B4 A gs m n s1.i s1.g parts=R)∧(gs.length-s1.i≤mm)) (gs.length) ?_ ?_
 ·exact⟨s1,.win k6 0 0 1 1,[l],rfl,hH,p1,p2,p3,p4,(fun l' iH=>by simp only[List.mem_cons,List.not_mem_nil,or_false] at iH;subst iH;exact p5),by simp only[eZ,List.length_cons,List.length_nil];omega,by simp,T_,by omega⟩
 rintro mm fr st ⟨s1,pd,parts,hfr,hH,h1,h2,h3,h4,h5,h6,h8,h9,xF⟩;rw[hfr];clear hfr;generalize nM fr=ee;clear fr
 have qY:∀st:St,(eB R aY s1∨s1.e=0∧R=.ok (fI 4 parts,s1.g) s1.i)→Has N S2 st (.box k (.mem 0 false (aP gs bA s1))::.aE bA 1 (aY.map aB)::.aE pd 1 (parts.map dS)::H)→∃d,Ev pv 188 [.int .i64 4,pd] st d st∧pq gs aY R s s1 d∧∃l,d=p_ l:=by
  intro st hv hH;obtain⟨aI,j1,j2,j3⟩:=qK 4 (hH.rows bV) h5 (by omega) (by omega);refine⟨_,aI,⟨h1,h2,h3,h4,fI 4 parts,rfl,j1,?_,hv⟩,_,rfl⟩
  by_cases q1:parts.length=1
  ·have:=j2 q1;omega
  ·omega
 by_cases he1:s1.e=0
 ·obtain⟨n,rW,gV⟩:=(h9.resolve_left fun h=>absurd he1 h.ne).2
  obtain⟨n,rfl⟩:∃m,n=m+1:=⟨n-1,by omega⟩
  unfold B4 at gV;have ba:(s1.e==0)=true:=by simpa using he1
  obtain⟨k1,k2,k3,k4,k5⟩:=gQ (gs:=gs) (s:=s1) (r:=124);have k5:=k5 h4;refine qq<|qq<|qj fun K hK=>qm ?_;refine qg ?_;refine qp (o:=5) ?_;refine ql hH ax ?_;refine qg ?_;refine qm ?_;refine qm ?_ (hg:=wi ba);obtain⟨_,st,aI,rfl,hH⟩:=dX (s:=s1) (by omega) 124 hH;refine qv aI ?_ (hg:=wi ba);refine qt ba ?_;refine qe hK ?_
  cases hb:ek gs s1.i 124 with
  |false=>
   rw[o8 hb] at hH;refine qC ?_;refine ag.exit ?_;obtain⟨_,DW,hQ,l,rfl⟩:=qY _ (.inr ⟨he1,by rw[←gV,if_neg (by rw[hb];simp)]⟩) hH;refine qq<|qj fun K hK=>qm ?_;refine qv (DW) ?_;refine qm ?_;refine qe hK<|ag.ret ⟨rx,_,_,_,rfl,ak (rfl),?_⟩;exact⟨s1,hQ,cD.aw cy (hH.erase 2)⟩
  |true=>
   have k6:=mh hb;rw[if_pos hb] at gV;generalize bW gs s1 124=s2 at*;refine qB ?_;refine ag.skip<|ag.block<|qj fun K hK=>qm ?_;refine qm ?_;obtain⟨_,st,aI,s3,⟨r1,r2,r3,r4,l,rfl,r5,r6,r7⟩,hH⟩:=Au hA eo (s:=s2) (by omega) k5 (by omega) (by omega) hH;refine qv aI ?_;refine qh (s:=1) (vs:=[_]) hH fun k19 st Tm hH=>?_;dsimp only[u2,u1,u3,u4,setMany,u5,u6,D.cells,Nat.reduceAdd,aP,br,aB,au,dS] at hH;refine ae.eY (s:=1) hH rfl (ev rfl) (ev rfl) (by exact da) (by exact hH.rows (by exact ax)) rfl rfl rfl rfl rfl rfl rfl ⟨(Nat.le_of_ble_eq_true rfl),(Nat.le_of_ble_eq_true rfl)⟩ (fun _=>(aa rfl _)) (by simp only[List.length_cons,List.length_nil,List.length_map]<;>omega) (by exact .inr rfl) (fun Qg st hH=>?_);dsimp only[u2,u1,u3,u4,setMany,u5,u6,D.cells,Nat.reduceAdd,aP,br,aB,au,dS] at hH;refine qm ?_;refine qe hK ?_;have hH:=hH.drop 1;rw[k6,show s2.g=s1.g by omega] at r7
   have r9:eB R aY s3∨s3.e=0∧∃n,gs.length-s3.i<n∧B4 A gs m n s3.i s3.g (parts++[l])=R:=by
    rcases r7 with r7|⟨r7,JV⟩
    ·exact .inl (r7.map fun e w h=>by rw[←gV,h])
    ·rw[JV] at gV;exact .inr ⟨r7,n,by omega,gV⟩
   refine⟨mm-1,by omega,⟨s3,Qg,parts++[l],rfl,(by rw[List.map_append];exact hH),by omega,r2,by omega,r4,?_,by rw[dJ,List.length_append];simp only[eZ,List.length_cons,List.length_nil];omega,by rw[List.length_append];omega,r9,by omega⟩⟩;intro l' iH
   rcases List.mem_append.1 iH with iH|iH
   ·exact h5 l' iH
   ·simp only[List.mem_cons,List.not_mem_nil,or_false] at iH;subst iH;exact r5
 ·have ba:(s1.e==0)=false:=by simpa using he1
  refine qq<|qq<|qj fun K hK=>qm ?_;refine qg ?_;refine qp (o:=5) ?_;refine ql hH ax ?_;refine qg ?_;refine qm ?_;refine qs ?_ (hg:=wn ba);refine qs ?_ (hg:=wn ba);refine qu ba ?_;refine qe hK<|qC ?_;refine ag.exit ?_;obtain⟨_,DW,hQ,l,rfl⟩:=qY _ (.inl (h9.resolve_right fun h=>he1 h.1)) hH;refine qq<|qj fun K hK=>qm ?_;refine qv (DW) ?_;refine qm ?_;refine qe hK<|ag.ret ⟨rx,_,_,_,rfl,ak (rfl),?_⟩;exact⟨s1,hQ,cD.aw cy (hH.erase 2)⟩
theorem GM (gs:List (Nat×Nat)) (m:Nat):zh (B5 gs m) gs m:=by
 induction m with
 |zero=>exact AD (fun m' h=>by omega)
 |succ m ih=>exact AD (fun m' h=>by cases h;exact@ih)
def bh (fr:Go.V.Fr) (k:Nat):Go.V.D:=Go.V.nth .bp fr.loc k
def uf:List (Nat×Nat)→Nat→List Int
 |[],_=>[]
 |q::l,a=>((a:Nat):Int)::uf l (a+q.2)
noncomputable def CY (gs:List (Nat×Nat)) (R:PR (List bB×Nat)):List bB×Int×Int:=
 match R with
 | .er e w=>([],e,(uf gs 0).getD w 0)
 | .ok (l,_) j=>if j<gs.length then([],4,(uf gs 0).getD j 0) else(l,0,0)
noncomputable def bP (b:List UInt8):List bB×Int×Int:=
 if 120<b.length then([],2,0) else CY (oe b) (B5 (oe b) 20 0 0)
def CZ (q:List bB×Int×Int):D:=.tup [p_ q.1,.int .i64 q.2.1,.int .i64 q.2.2]
theorem nC {s0:St} {b:List UInt8} (hbl:b.length≤1048576):Ev pv 68 [.str b] s0 (CZ (bP b)) s0∧(∀n∈(bP b).1,l_ n)∧(bP b).1.length≤500:=by
 suffices hg:∃d,Ev pv 68 [.str b] s0 d s0∧d=CZ (bP b)∧(∀n∈(bP b).1,l_ n)∧(bP b).1.length≤500 by
  obtain⟨d,h1,rfl,h2⟩:=hg;exact⟨h1,h2⟩
 obtain⟨X,hX⟩:∃X,bP b=X:=⟨_,rfl⟩
 rw[hX];unfold bP at hX;obtain⟨r_,TE⟩:=EM _ b (Nat.le_refl _);have aI:∀(st:St) (x:D),Bytes st x b→Ev pv 132 [x] st (gK (oe b)) st:=fun st x h=>I7 h hbl;generalize oe b=gs at*;refine Ev.GW rfl PO rfl rfl rfl ?_;dsimp only[u3,u4,List.length,Nat.reduceSub,Nat.reduceAdd,w1,w2];obtain⟨bf,hF,hH⟩:=ri s0;generalize ai .ro s0=S at*;have xG:Arg s0.bs.length S 2 (gK gs) (gs.map br):=Arg.pure (fun st=>eE st gs);refine qq<|qj fun K hK=>qm ?_;refine qm ?_;refine qm ?_;refine qe hK<|qq<|qq<|qj fun K hK=>qm ?_;refine ae.lF rfl rfl rfl (by dsimp only[Fr.put,u1,u2]<;>rfl) ?_;refine qg ?_;refine qe hK ?_
 by_cases G7:120<b.length
 ·have gy:decide (((b.length:Nat):Int)>120)=true:=by rw[decide_eq_true_eq];omega
  refine qD rfl (by rw[gy]) ?_;refine qq<|qj fun K hK=>qm ?_;refine qm ?_;refine qm ?_;refine qe hK<|ag.ret ⟨rx,_,_,rfl,rl bf hH (rfl),?_⟩;rw[if_pos G7] at hX;rw[←hX];exact⟨rfl,fun n hn=>(by cases hn),by simp⟩
 rw[if_neg G7] at hX;have gy:decide (((b.length:Nat):Int)>120)=false:=by rw[decide_eq_false_iff_not];omega
 refine qE rfl (by rw[gy]) ?_;refine ag.skip<|qq<|qj fun K hK=>qm ?_;refine ae.Iz hH rfl rfl rfl rfl rfl (by omega) (fun _=>by dsimp only[Fr.put,u1,u2]<;>rfl) (fun k14 st KY hH=>?_);refine qv ((aI _ _ (hH.rows ax))) ?_;refine ae.go (d:=.agg [gK gs,.nul,.int .i64 0,.int .i64 0,.int .i64 0,.int .i64 0,.int .i64 0]) (st1:=_) rfl rfl rfl (by dsimp only[Fr.put,u1,u2]<;>rfl) ?_;refine qb hH fun k17 st O8 hH=>?_;refine qm ?_;refine qe hK<|qq<|qj fun K hK=>qm ?_;refine qe hK<|qq<|qq<|qj fun K hK=>qm ?_;refine qg ?_;refine qp (o:=0) ?_;refine ql hH ax ?_;refine qn ?_;simp only[List.length_map];refine qm ?_;refine qe hK ?_;have hH:Has s0.bs.length S st (.box k17 (.mem 0 false [gK gs,.nul,.int .i64 0,.int .i64 0,.int .i64 0,.int .i64 0,.int .i64 0])::.aE .nul 1 (([]:List Int).map aB)::[]):=((hH.erase 1).eP 1).front aX;refine ag.block<|ag.loop (fun mm fr st=>∃(i a:Nat) (pd:D) (aY:List Int),fr.clean=⟨24,[bh fr 0,bh fr 1,bh fr 2,bh fr 3,bh fr 4,.ptr k17 0 0,.int .i64 (a:Nat),bh fr 7,bh fr 8,bh fr 9,bh fr 10,bh fr 11,bh fr 12,bh fr 13,bh fr 14,bh fr 15,bh fr 16,bh fr 17,bh fr 18,bh fr 19,bh fr 20,gK gs,.int .i64 (gs.length:Nat),.int .i64 (i:Nat)],[]⟩∧Has s0.bs.length S st [.box k17 (.mem 0 false [gK gs,pd,.int .i64 0,.int .i64 0,.int .i64 0,.int .i64 0,.int .i64 0]),.aE pd 1 (aY.map aB)]∧(i+mm=gs.length)∧(aY.length=i)∧(aY++uf (gs.drop i) a=uf gs 0)∧(a≤120*i)) (gs.length) ?_ ?_
 ·exact⟨0,0,.nul,[],rfl,hH,by omega,rfl,rfl,by omega⟩
 rintro mm fr st ⟨i,a,pd,aY,hfr,hH,hi,lY,Cc,ha⟩;rw[hfr];clear hfr;generalize bh fr=ee;clear fr;refine qq<|qj fun K hK=>qg ?_;refine qe hK ?_
 by_cases hlt:i<gs.length
 ·obtain⟨g,hg⟩:∃g,gs[i]?=some g:=⟨gs[i]'hlt,List.getElem?_eq_getElem _⟩
  have gN:(gs.map br)[i]?=some (br g):=by rw[List.getElem?_map,hg];rfl
  have aN:=TE g (List.mem_of_getElem? hg)
  have BD:gs.drop i=g::gs.drop (i+1):=by
   have:=List.drop_eq_getElem_cons (l:=gs) (i:=i) hlt;rw[this];congr 1;rw[List.getElem?_eq_getElem hlt] at hg;exact Option.some.inj hg
  rw[BD] at Cc
  have Cc:(aY++[((a:Nat):Int)])++uf (gs.drop (i+1)) (a+g.2)=uf gs 0:=by
   rw[List.append_assoc];exact Cc
  have oK:decide (((i:Nat):Int)<((gs.length:Nat):Int))=true:=by rw[decide_eq_true_eq];omega
  refine qq<|qD rfl (by rw[oK]) ?_;refine ag.skip<|qq<|ag.block<|qq<|qj fun K hK=>qr fun NM H8=>?_;refine ae.dj rfl (ev rfl) (by assumption) rfl (aa rfl _) ?_;refine qa hH fun k8 st QO hH=>?_;refine qS hH ax fun st hH=>?_;dsimp only[u2,u1,u3,u4,setMany,u5,u6,D.cells,Nat.reduceAdd,aP,br,aB] at hH;refine qe hK<|qq<|qj fun K hK=>qm ?_;refine qm ?_;refine qg ?_;refine qp (o:=1) ?_;refine ql hH aX ?_;refine qm ?_;refine qh (s:=1) (vs:=[_]) hH fun k33 st O4 hH=>?_;refine ae.eY (s:=1) hH rfl (ev rfl) (ev rfl) (by exact da) (by exact hH.rows (by exact ax)) rfl rfl rfl rfl rfl rfl rfl ⟨(Nat.le_of_ble_eq_true rfl),(Nat.le_of_ble_eq_true rfl)⟩ (fun _=>(aa rfl _)) (by simp only[List.length_cons,List.length_nil,List.length_map]<;>omega) (by exact .inl hF) (fun Rj st hH=>?_);dsimp only[u2,u1,u3,u4,setMany,u5,u6,D.cells,Nat.reduceAdd,aP,br,aB] at hH;refine qg ?_;refine qp (o:=1) ?_;refine qT hH bV (fun st hH=>?_) (hcs:=hH.iR da);dsimp only[u2,u1,u3,u4,setMany,u5,u6,D.cells,Nat.reduceAdd,aP,br,aB] at hH;refine qe hK<|qj fun K hK=>qm ?_;refine qp (o:=1) ?_;refine ql hH aX ?_;refine ae.P9 rfl (ev rfl) (ev rfl) (by omega) (aa rfl _) ?_;refine qm ?_;refine qe hK<|qj fun K hK=>qA ?_;refine qm ?_;refine qe hK ?_;exact⟨mm-1,by omega,⟨i+1,a+g.2,Rj,aY++[((a:Nat):Int)],rfl,(by rw[List.map_append];exact hH.drop 2),by omega,by rw[List.length_append,lY];rfl,Cc,by omega⟩⟩
 ·have oK:decide (((i:Nat):Int)<((gs.length:Nat):Int))=false:=by rw[decide_eq_false_iff_not];omega
  refine qq<|qE rfl (by rw[oK]) ?_;refine ag.exit ?_
  have eo:kz gs aY:=⟨by omega,by omega⟩
  have Cc:aY=uf gs 0:=by
   rw[List.drop_eq_nil_of_le (by omega)] at Cc;rw[←Cc];simp[uf]
  have hH:Has s0.bs.length S st (.box k17 (.mem 0 false (aP gs pd ⟨0,0,0,0,0⟩))::.aE pd 1 (aY.map aB)::[]):=hH;refine qq<|qj fun K hK=>qm ?_;obtain⟨_,st,aI,s1,⟨p1,p2,p3,p4,l,rfl,p5,p6,p7⟩,hH⟩:=GM gs 20 (s:=⟨0,0,0,0,0⟩) eo rfl (by simp) (by simp) rfl hH;refine qv aI ?_;refine qm ?_;refine qe hK ?_;have p6:l.length≤4*(s1.i-0)+1:=p6;have p7:eB (B5 gs 20 0 0) aY s1∨s1.e=0∧B5 gs 20 0 0=.ok (l,s1.g) s1.i:=p7;generalize B5 gs 20 0 0=R at*;unfold CY at hX;rw[←Cc] at hX;refine qq<|qq<|ag.qw (fun fr st=>∃(s2:ec) (tmp:List (Nat×D)),fr=⟨24,[bh fr 0,bh fr 1,bh fr 2,bh fr 3,bh fr 4,.ptr k17 0 0,bh fr 6,bh fr 7,bh fr 8,p_ l,bh fr 10,bh fr 11,bh fr 12,bh fr 13,bh fr 14,bh fr 15,bh fr 16,bh fr 17,bh fr 18,bh fr 19,bh fr 20,bh fr 21,bh fr 22,bh fr 23],tmp⟩∧Has s0.bs.length S st (.box k17 (.mem 0 false (aP gs pd s2))::.aE pd 1 (aY.map aB)::[])∧(s2.e≠0∧X=([],s2.e,s2.w)∨s2.e=0∧X=(l,0,0))) ?_ ?_
  ·by_cases he1:s1.e=0
   ·have ba:(s1.e==0)=true:=by simpa using he1
    have hR:R=.ok (l,s1.g) s1.i:=by
     rcases p7 with p7|p7
     ·exact absurd he1 p7.ne
     ·exact p7.2
    rw[hR] at hX;simp only at hX;refine qj fun K hK=>qm ?_;refine qg ?_;refine qp (o:=5) ?_;refine ql hH ax ?_;refine qg ?_;refine qm ?_;refine qm ?_ (hg:=wi ba);refine qg ?_ (hg:=wi ba);refine qp (o:=2) ?_ (hg:=wi ba);refine ql hH ax ?_ (hg:=wi ba);refine qm ?_ (hg:=wi ba);refine qg ?_ (hg:=wi ba);refine qp (o:=0) ?_ (hg:=wi ba);refine ql hH ax ?_ (hg:=wi ba);refine qn ?_ (hg:=wi ba);simp only[List.length_map];refine qg ?_ (hg:=wi ba);refine qt ba ?_;refine qe hK ?_;refine ag.cond (by rfl) (fun hin=>?_) (fun hin=>?_)<;>try simp only[decide_eq_true_eq,decide_eq_false_iff_not] at hin
    ·refine qj fun K hK=>qm ?_;refine qm ?_;refine qg ?_;refine qp (o:=2) ?_;refine ql hH ax ?_;obtain⟨_,st,aI,rfl,hH⟩:=et (s:=s1) s1.i 4 (by omega) hH;refine qv aI ?_;refine qe hK ?_;rw[if_pos (by omega)] at hX;have hw:(iP aY s1 s1.i 4).e=4∧(iP aY s1 s1.i 4).w=aY.getD s1.i 0:=by unfold iP;rw[if_pos he1];exact⟨rfl,rfl⟩
     exact⟨_,_,rfl,hH,.inl ⟨by rw[hw.1];decide,by rw[hw.1,hw.2];exact hX.symm⟩⟩
    ·rw[if_neg (by omega)] at hX;refine ag.skip ?_;exact⟨s1,_,rfl,hH,.inr ⟨he1,hX.symm⟩⟩
   ·have ba:(s1.e==0)=false:=by simpa using he1
    refine qj fun K hK=>qm ?_;refine qg ?_;refine qp (o:=5) ?_;refine ql hH ax ?_;refine qg ?_;refine qm ?_;refine qs ?_ (hg:=wn ba);refine qs ?_ (hg:=wn ba);refine qs ?_ (hg:=wn ba);refine qs ?_ (hg:=wn ba);refine qs ?_ (hg:=wn ba);refine qs ?_ (hg:=wn ba);refine qs ?_ (hg:=wn ba);refine qs ?_ (hg:=wn ba);refine qs ?_ (hg:=wn ba);refine qs ?_ (hg:=wn ba);refine qu ba ?_;refine qe hK ?_
    have hE:X=([],s1.e,s1.w):=by
     obtain⟨e,w,h0,h1,h2,h3⟩:=p7.resolve_right fun h=>he1 h.1;rw[h0] at hX;rw[←hX,h2,h3]
    refine qC ?_;refine ag.skip ?_;exact⟨s1,_,rfl,hH,.inl ⟨he1,hE⟩⟩
  ·rintro fr st ⟨s2,tmp,hfr,hH,ht⟩;rw[hfr];clear hfr;generalize bh fr=ee;clear fr;refine qq<|qq<|qj fun K hK=>qm ?_;refine qg ?_;refine qp (o:=5) ?_;refine ql hH ax ?_;refine qg ?_;refine qe hK ?_;refine ag.cond (by rfl) (fun hne=>?_) (fun hne=>?_)<;>try simp only[bne_iff_ne,bne_eq_false_iff_eq,ne_eq] at hne
   ·refine qq<|qj fun K hK=>qm ?_;refine qg ?_;refine qp (o:=5) ?_;refine ql hH ax ?_;refine qm ?_;refine qg ?_;refine qp (o:=6) ?_;refine ql hH ax ?_;refine qm ?_;refine qm ?_;refine qm ?_;refine qe hK<|ag.ret ⟨rx,_,_,rfl,rl bf hH (rfl),?_⟩
    rcases ht with⟨h1,h2⟩|⟨h1,h2⟩
    ·rw[h2];exact⟨rfl,fun n hn=>(by cases hn),by simp⟩
    ·exact absurd h1 hne
   ·refine ag.skip<|qq<|qj fun K hK=>qm ?_;refine qm ?_;refine qm ?_;refine qm ?_;refine qe hK<|ag.ret ⟨rx,_,_,rfl,rl bf hH (rfl),?_⟩
    rcases ht with⟨h1,h2⟩|⟨h1,h2⟩
    ·exact absurd h1 (by omega)
    ·rw[h2];exact⟨rfl,p5,by show l.length≤500;omega⟩
end Go.Proofs.YtecjacicdpejaaaGreat
