/-
 The document's parser of patterns: how often; groups.
-/
import Derived.Test.YtajblankjjmonaaGreatWGHr
import Derived.Test.YtajblankjjmonaaGreatWGFa
import Derived.Test.YtajblankjjmonaaGreatWGTe
import Derived.Test.YtajblankjjmonaaGreatWGM3
import Derived.Test.YtajblankjjmonaaGreatWM2
set_option maxRecDepth 100000
set_option maxHeartbeats 4000000
set_option linter.unusedSimpArgs false
set_option linter.unusedVariables false
namespace Go.Proofs.YtajblankjjmonaaGreat
open Go.V Go
def cN (fr:Go.V.Fr) (k:Nat):Go.V.D:=Go.V.nth .junk fr.loc k
def Df (gs:List (Nat×Nat)) (R:PR (Int×Int)) (s s':et) (n1 n2:Int):Prop:=
 s'.g=s.g∧s.i<s'.i∧s'.i≤gs.length+1∧(dN R s'.e∨s'.e=0∧s'.i≤gs.length∧R=.ok (n1,n2) s'.i)
theorem sQ {N k:Nat} {S s0:St} {H:List bG} {gs:List (Nat×Nat)} {bB:List Int} {rD aD:D} {s:et} (hok:ow gs bB) (he:s.e=0) (hi:s.i<gs.length) (hH:Has N S s0 (.box k (.mem 0 false (aC rD aD s))::.lst rD 1 ((gs.map bm).map ai)::.lst aD 1 (bB.map ah)::H)):
  ∃d ae,Ev pv 49 [.ptr k 0 0] s0 d ae∧∃(n1 n2:Int) (s':et),d=.tup [.int .i64 n1,.int .i64 n2]∧Df gs (lx gs s.i) s s' n1 n2∧Has N S ae (.box k (.mem 0 false (aC rD aD s'))::.lst rD 1 ((gs.map bm).map ai)::.lst aD 1 (bB.map ah)::H):=by
 have kW:=hok.gl;have hal:=hok.al;refine Ev.gT rfl M1 rfl rfl rfl ?_;refine zE ?_;have a_:=hH;have hH:=hH.aY;have aU:(enterSt .rw s0).bs=s0.bs:=rfl;generalize enterSt .rw s0=S2 at*;refine zQ 8 ?_;obtain⟨_,st,hev,⟨v,rfl⟩,hH⟩:=gu (s:=s) (by omega) hH;refine qv hev ?_;refine zQ 11 ?_;refine qT hH at0 fun st hH=>?_;dsimp only[u2,u1,u3,u4,setMany,u5,u6,D.cells,Nat.reduceAdd,aC,ai,ah] at hH;refine zQ 1 ?_;have hH:Has N S2 st (.box k (.mem 0 false (aC rD aD {s with i:=s.i+1}))::.lst rD 1 ((gs.map bm).map ai)::.lst aD 1 (bB.map ah)::H):=hH;have bV:=rG gs s.i
 obtain⟨R,hR⟩:∃R,lx gs s.i=R:=⟨_,rfl⟩
 rw[hR] at bV⊢;clear hR
 obtain⟨A,hA⟩:∃A,digS (dD gs (s.i+1)) []=A:=⟨_,rfl⟩
 refine zQ 3 ?_;obtain⟨_,st,hev,rfl,pN,ES,hH⟩:=lY (s:={s with i:=s.i+1}) hok (by show s.i+1≤_;omega) hH;dsimp only at hev pN ES hH;rw[hA] at hev pN ES hH;refine qv hev ?_;refine zQ 6 ?_;rw[hA] at bV;obtain⟨m,a2⟩:=A;clear hA;dsimp only at bV pN ES hH
 obtain⟨s1,qI⟩:∃s1:et,({s with i:=s.i+1+a2}:et)=s1:=⟨_,rfl⟩
 have FT:s1.e=0∧s1.g=s.g∧s1.i=s.i+1+a2:=by rw[←qI];exact⟨he,rfl,rfl⟩
 have hH:Has N S2 st (.box k (.mem 0 false (aC rD aD s1))::.lst rD 1 ((gs.map bm).map ai)::.lst aD 1 (bB.map ah)::H):=by rw[←qI];exact hH
 clear qI;obtain⟨f1,f2,f3⟩:=FT;rw[←f3] at bV
 obtain⟨ok,tu⟩:∃ok,decide (0<a2)=ok:=⟨_,rfl⟩
 rw[tu] at bV⊢;refine zQ 8 ?_;refine EvC.fF (fun fr st=>∃(n:List UInt8) (en:Bool) (s3:et) (tmp:List (Nat×D)),fr=⟨15,[.ptr k 0 0,cN fr 1,cN fr 2,cN fr 3,.int .i64 v,.str m,.bool ok,.str n,.bool en,cN fr 9,cN fr 10,cN fr 11,cN fr 12,cN fr 13,cN fr 14],tmp⟩∧Has N S2 st (.box k (.mem 0 false (aC rD aD s3))::.lst rD 1 ((gs.map bm).map ai)::.lst aD 1 (bB.map ah)::H)∧(s3.e=0)∧(s3.g=s.g)∧(s.i<s3.i)∧(s3.i≤gs.length)∧(n.length≤120)∧(R=lv gs s.i m n ok en s3.i)) ?_ ?_
 ·cases ok with
  |false=>
   have Je:a2=0:=by have:=of_decide_eq_false tu;omega
   have fu:false=false:=rfl;refine zQ 9 ?_;exact⟨m,false,s1,_,rfl,hH,f1,f2,by omega,by omega,pN,by rw[bV,if_neg (fun h=>h.1 Je)]⟩
  |true=>
   have Je:0<a2:=of_decide_eq_true tu;have fu:true=true:=rfl;refine zQ 4 ?_;obtain⟨_,st,hev,rfl,hH⟩:=bz (s:=s1) (by omega) (by omega) 44 (by decide) (by decide) hH;refine qv hev ?_ (hg:=wi fu);refine zQ 2 ?_
   cases hb:bJ gs s1.i 44 with
   |false=>
    refine zQ 2 ?_;exact⟨m,false,s1,_,rfl,hH,f1,f2,by omega,by omega,pN,by rw[bV,if_neg (fun h=>by rw[hb] at h;exact absurd h.2 (by simp))]⟩
   |true=>
    have hlt:=cE hb;refine zQ 10 ?_;refine qT hH at0 fun st hH=>?_;dsimp only[u2,u1,u3,u4,setMany,u5,u6,D.cells,Nat.reduceAdd,aC,ai,ah] at hH;refine zQ 1 ?_;have hH:Has N S2 st (.box k (.mem 0 false (aC rD aD {s1 with i:=s1.i+1}))::.lst rD 1 ((gs.map bm).map ai)::.lst aD 1 (bB.map ah)::H):=hH
    obtain⟨B,hB⟩:∃B,digS (dD gs (s1.i+1)) []=B:=⟨_,rfl⟩
    rw[hB] at bV;refine zQ 3 ?_;obtain⟨_,st,hev,rfl,Ao,hni,hH⟩:=lY (s:={s1 with i:=s1.i+1}) hok (by show s1.i+1≤_;omega) hH;dsimp only at hev Ao hni hH;rw[hB] at hev Ao hni hH;refine qv hev ?_;refine zQ 6 ?_;clear hB;obtain⟨n,b2⟩:=B;dsimp only at bV Ao hni hH;refine zQ 7 ?_;exact⟨n,!decide (0<b2),{s1 with i:=s1.i+1+b2},_,rfl,hH,f1,f2,by show s.i<s1.i+1+b2;omega,hni,Ao,by rw[bV,if_pos ⟨by omega,hb⟩]⟩
 ·rintro fr st ⟨n,en,s3,tmp,hfr,hH,h1,h2,h3,h4,h5,hG⟩;rw[hfr];clear hfr;generalize cN fr=ee;clear fr;clear bV tu;unfold lv at hG;have h7:=gj s3 4 v;refine zQ 2 ?_;refine EvC.fF (fun fr st=>∃(s4:et) (tmp:List (Nat×D)),fr=⟨15,[.ptr k 0 0,cN fr 1,cN fr 2,cN fr 3,.int .i64 v,.str m,cN fr 6,.str n,.bool en,cN fr 9,cN fr 10,cN fr 11,cN fr 12,cN fr 13,cN fr 14],tmp⟩∧Has N S2 st (.box k (.mem 0 false (aC rD aD s4))::.lst rD 1 ((gs.map bm).map ai)::.lst aD 1 (bB.map ah)::H)∧(s4.g=s.g)∧(s4.i=s3.i)∧(dN R s4.e∨s4.e=0∧s3.i<gs.length∧R=(if(du m).2=true∧(du (if en=true then[] else n)).2=true then .ok ((du m).1,if en=true then-1 else(du n).1) (s3.i+1) else .er 2 s.i))) ?_ ?_
  ·have gL:R=.er 4 s.i→dN R (fh s3 4 v).e:=fun h=>⟨by rw[cS h1];decide,s.i,by rw[cS h1];exact h⟩
   cases ok with
   |false=>
    rw[if_pos rfl] at hG;have bZ:(!false)=true:=rfl;have oO:true=true:=rfl;refine zQ 22 ?_;obtain⟨_,st,hev,rfl,hH⟩:=bc (s:=s3) 4 v hH;refine qv hev ?_;refine zQ 1 ?_;exact⟨_,_,rfl,hH,by omega,h7.1,.inl (gL hG)⟩
   |true=>
    rw[if_neg (by simp)] at hG;have bZ:(!true)=false:=rfl
    cases oO:(!bJ gs s3.i 125) with
    |true=>
     rw[if_pos (by simpa using oO)] at hG;refine zQ 5 ?_;obtain⟨_,st,hev,rfl,hH⟩:=bz (s:=s3) (by omega) (by omega) 125 (by decide) (by decide) hH;refine qv hev ?_ (hg:=wi bZ);refine zQ 16 ?_;obtain⟨_,st,hev,rfl,hH⟩:=bc (s:=s3) 4 v hH;refine qv hev ?_;refine zQ 1 ?_;exact⟨_,_,rfl,hH,by omega,h7.1,.inl (gL hG)⟩
    |false=>
     have IV:bJ gs s3.i 125=true:=by simpa using oO
     have hlt:=cE IV;rw[if_neg (by rw[IV];simp)] at hG
     cases en with
     |true=>
      rw[if_neg (fun h=>absurd h.1 (by simp))] at hG;have bC:(!true)=false:=rfl;refine zQ 5 ?_;obtain⟨_,st,hev,rfl,hH⟩:=bz (s:=s3) (by omega) (by omega) 125 (by decide) (by decide) hH;refine qv hev ?_ (hg:=wi bZ);refine zQ 9 ?_;refine EvO.pickF (wantD_is rfl rfl rfl oO) rfl bC (put_T rfl _) ?_;refine zQ 4 ?_;exact⟨s3,_,rfl,hH,h2,rfl,.inr ⟨h1,hlt,hG⟩⟩
     |false=>
      have bC:(!false)=true:=rfl;have hle:=fun st=>uL (s0:=st) n m;generalize jT n m=vb at*;refine zQ 5 ?_;obtain⟨_,st,hev,rfl,hH⟩:=bz (s:=s3) (by omega) (by omega) 125 (by decide) (by decide) hH;refine qv hev ?_ (hg:=wi bZ);refine zQ 8 ?_;refine qv ((hle _)) ?_ (hg:=wi bC);refine EvO.pickT (wantD_is rfl rfl rfl oO) rfl bC (put_T rfl _) ?_;refine zQ 2 ?_
      cases vb with
      |true=>
       rw[if_pos ⟨rfl,rfl⟩] at hG;refine zQ 4 ?_;obtain⟨_,st,hev,rfl,hH⟩:=bc (s:=s3) 4 v hH;refine qv hev ?_;refine zQ 1 ?_;exact⟨_,_,rfl,hH,by omega,h7.1,.inl (gL hG)⟩
      |false=>
       rw[if_neg (fun h=>absurd h.2 (by simp))] at hG;refine zQ 2 ?_;exact⟨s3,_,rfl,hH,h2,rfl,.inr ⟨h1,hlt,hG⟩⟩
  ·rintro fr st ⟨s4,tmp,hfr,hH,y1,y2,yR⟩;rw[hfr];clear hfr;generalize cN fr=ee;clear fr;clear hG;refine zQ 9 ?_;refine qT hH at0 fun st hH=>?_;dsimp only[u2,u1,u3,u4,setMany,u5,u6,D.cells,Nat.reduceAdd,aC,ai,ah] at hH;refine zQ 1 ?_;have hH:Has N S2 st (.box k (.mem 0 false (aC rD aD {s4 with i:=s4.i+1}))::.lst rD 1 ((gs.map bm).map ai)::.lst aD 1 (bB.map ah)::H):=hH
   obtain⟨s5,FQ⟩:∃s5:et,({s4 with i:=s4.i+1}:et)=s5:=⟨_,rfl⟩
   have FP:s5.g=s4.g∧s5.e=s4.e∧s5.i=s4.i+1:=by rw[←FQ];exact⟨rfl,rfl,rfl⟩
   rw[FQ] at hH;clear FQ;obtain⟨z1,z2,z3⟩:=FP;have oJ:=fun st=>nQ (s0:=st) m (by omega);have xw:=fun st=>nQ (s0:=st) n (by omega);have oK:(du []).2=true:=rfl;have SQ:=gj s5 2 v
   have E0:∀(n1 n2:Int),R=.er 2 s.i∨dN R s5.e→Df gs R s (fh s5 2 v) n1 n2:=by
    intro n1 n2 h;refine⟨by omega,by omega,by omega,.inl ?_⟩
    by_cases h0:s5.e=0
    ·rw[cS h0]
     rcases h with h|h
     ·exact⟨by decide,_,h⟩
     ·exact absurd h0 h.1
    ·rw[CM h0]
     rcases yR with yR|yR
     ·rw[z2];exact yR
     ·omega
   have cC:∀(n1 n2:Int),(R=.ok (n1,n2) (s3.i+1)∧s3.i<gs.length∨dN R s5.e)→Df gs R s s5 n1 n2:=by
    intro n1 n2 h;refine⟨by omega,by omega,by omega,?_⟩
    rcases yR with yR|⟨y3,y4,y5⟩
    ·exact .inl (by rw[z2];exact yR)
    ·rcases h with⟨h,_⟩|h
     ·exact .inr ⟨by omega,by omega,by rw[h,z3,y2]⟩
     ·exact .inl h
   rw[←z2] at yR;refine zQ 3 ?_;refine qv ((oJ _)) ?_;refine zQ 9 ?_;refine qv ((xw _)) ?_;refine zQ 11 ?_
   cases en with
   |true=>
    simp only[if_true,oK] at yR;generalize du m=V1 at*;generalize du n=V2 at*;obtain⟨a1,w1⟩:=V1;obtain⟨b1,w2⟩:=V2;dsimp only at yR;refine zQ 7 ?_;refine EvC.cutT 92 (.bool (!w1||!true)) [] ?_ (fun ff tmp htmp=>?_)
    ·refine zQ 3 ?_;refine EvO.two 89 rfl (fun bZ=>?_) (fun bZ=>?_)
     ·refine zQ 3 ?_;refine EvO.nil (leafT ?_ ?_)
      ·dsimp only[setW,List.foldl,nth,u2,u1]
       all_goals(first|rfl|simp)
      ·refine zF ?_
       all_goals(simp[bZ];done)
     ·refine zQ 3 ?_;refine EvO.nil (leafT ?_ ?_)
      ·dsimp only[setW,List.foldl,nth,u2,u1]
       all_goals(first|rfl|simp)
      ·refine zF ?_
       all_goals(simp[bZ];done)
    dsimp only[setW,List.foldl,nth,u2,u1];refine qc (fun lE=>?_) (fun lE=>?_)<;>try simp only[cs] at lE
    ·refine zQ 3 ?_;obtain⟨_,st,hev,rfl,hH⟩:=bc (s:=s5) 2 v hH;refine qv hev ?_;refine zQ 8 ?_;refine EvC.ret ⟨rx,_,_,_,rfl,ab (rfl),?_⟩;refine⟨_,_,_,rfl,E0 _ _ ?_,a_.af aU hH⟩
     rcases yR with yR|⟨_,_,yR⟩
     ·exact .inr yR
     ·exact .inl (by rw[yR,if_neg (fun h=>by rw[h.1] at lE;simp at lE)])
    ·refine zQ 8 ?_;refine EvC.ret ⟨rx,_,_,_,rfl,ab (rfl),?_⟩;refine⟨_,_,s5,rfl,cC _ _ ?_,a_.af aU hH⟩
     rcases yR with yR|⟨_,y4,yR⟩
     ·exact .inr yR
     ·exact .inl ⟨by rw[yR,if_pos ⟨by simpa using lE,trivial⟩],y4⟩
   |false=>
    have LG:∀(a b:Int),(if false=true then a else b)=b:=fun a b=>if_neg (by simp);have hil:∀(a b:List UInt8),(if false=true then a else b)=b:=fun a b=>if_neg (by simp);rw[LG,hil] at yR;generalize du m=V1 at*;generalize du n=V2 at*;obtain⟨a1,w1⟩:=V1;obtain⟨b1,w2⟩:=V2;dsimp only at yR;refine zQ 4 ?_;refine EvC.cutT 92 (.bool (!w1||!w2)) [] ?_ (fun ff tmp htmp=>?_)
    ·refine zQ 3 ?_;refine EvO.two 89 rfl (fun bZ=>?_) (fun bZ=>?_)
     ·refine zQ 3 ?_;refine EvO.nil (leafT ?_ ?_)
      ·dsimp only[setW,List.foldl,nth,u2,u1]
       all_goals(first|rfl|simp)
      ·refine zF ?_
       all_goals(simp[bZ];done)
     ·refine zQ 3 ?_;refine EvO.nil (leafT ?_ ?_)
      ·dsimp only[setW,List.foldl,nth,u2,u1]
       all_goals(first|rfl|simp)
      ·refine zF ?_
       all_goals(simp[bZ];done)
    dsimp only[setW,List.foldl,nth,u2,u1];refine qc (fun lE=>?_) (fun lE=>?_)<;>try simp only[cs] at lE
    ·refine zQ 3 ?_;obtain⟨_,st,hev,rfl,hH⟩:=bc (s:=s5) 2 v hH;refine qv hev ?_;refine zQ 8 ?_;refine EvC.ret ⟨rx,_,_,_,rfl,ab (rfl),?_⟩;refine⟨_,_,_,rfl,E0 _ _ ?_,a_.af aU hH⟩
     rcases yR with yR|⟨_,_,yR⟩
     ·exact .inr yR
     ·exact .inl (by rw[yR,if_neg (fun h=>by rw[h.1,h.2] at lE;simp at lE)])
    ·refine zQ 8 ?_;refine EvC.ret ⟨rx,_,_,_,rfl,ab (rfl),?_⟩;refine⟨_,_,s5,rfl,cC _ _ ?_,a_.af aU hH⟩
     rcases yR with yR|⟨_,y4,yR⟩
     ·exact .inr yR
     ·exact .inl ⟨by rw[yR,if_pos (by cases w1<;>cases w2<;>simp at lE⊢)],y4⟩
def fk (gs:List (Nat×Nat)) (s:et) (v:Int):et:=if s.e=0∧bJ gs s.i 41=false then⟨s.i+1,s.g,4,v⟩ else⟨s.i+1,s.g,s.e,s.w⟩
theorem l0 {N k:Nat} {S s0:St} {H:List bG} {gs:List (Nat×Nat)} {bB:List Int} {rD aD:D} {s:et} (kW:gs.length≤1048576) (JT:s.i≤1048576) (v:Int) (hH:Has N S s0 (.box k (.mem 0 false (aC rD aD s))::.lst rD 1 ((gs.map bm).map ai)::.lst aD 1 (bB.map ah)::H)):
  ∃d ae,Ev pv 71 [.ptr k 0 0,.int .i64 v] s0 d ae∧d=.tup []∧Has N S ae (.box k (.mem 0 false (aC rD aD (fk gs s v)))::.lst rD 1 ((gs.map bm).map ai)::.lst aD 1 (bB.map ah)::H):=by
 refine Ev.gT rfl MF rfl rfl rfl ?_;refine zE ?_;have a_:=hH;have hH:=hH.aY;have aU:(enterSt .rw s0).bs=s0.bs:=rfl;generalize enterSt .rw s0=S2 at*;unfold fk
 by_cases he:s.e=0
 ·have cQ:(s.e==0)=true:=by simpa using he
  refine zQ 10 ?_;obtain⟨_,st,hev,rfl,hH⟩:=bz (s:=s) kW JT 41 (by decide) (by decide) hH;refine qv hev ?_ (hg:=wi cQ);refine zQ 3 ?_
  cases hb:bJ gs s.i 41 with
  |true=>
   rw[if_neg (fun h=>by simp at h)];refine zQ 7 ?_;refine EvO.fM (z:=((s.i+1:Nat):Int)) rfl (ev rfl) (ev rfl) (by rw[wrap_i64 (by omega) (by omega)]<;>omega) (put_T rfl _) ?_;refine zQ 2 ?_;refine qT hH at0 fun st hH=>?_;dsimp only[u2,u1,u3,u4,setMany,u5,u6,D.cells,Nat.reduceAdd,aC,ai,ah] at hH;refine zQ 1 ?_;refine⟨fun i h=>(by cases h),_,_,_,rfl,ab rfl,?_⟩;exact⟨rfl,a_.af aU hH⟩
  |false=>
   rw[if_pos ⟨he,rfl⟩];refine zQ 4 ?_;obtain⟨_,st,hev,rfl,hH⟩:=bc (s:=s) 4 v hH;refine qv hev ?_;refine zQ 1 ?_;unfold fh at hH;rw[if_pos he] at hH;refine zQ 5 ?_;refine EvO.fM (z:=((s.i+1:Nat):Int)) rfl (ev rfl) (ev rfl) (by(simp only[List.length_reverse]);rw[wrap_i64 (by omega) (by omega)]<;>omega) (put_T rfl _) ?_;refine zQ 2 ?_;refine qT hH at0 fun st hH=>?_;dsimp only[u2,u1,u3,u4,setMany,u5,u6,D.cells,Nat.reduceAdd,aC,ai,ah] at hH;refine zQ 1 ?_;refine⟨fun i h=>(by cases h),_,_,_,rfl,ab rfl,?_⟩;exact⟨rfl,a_.af aU hH⟩
 ·have cQ:(s.e==0)=false:=by simpa using he
  rw[if_neg (fun h=>he h.1)];refine zQ 21 ?_;refine EvO.fM (z:=((s.i+1:Nat):Int)) rfl (ev rfl) (ev rfl) (by rw[wrap_i64 (by omega) (by omega)]<;>omega) (put_T rfl _) ?_;refine zQ 2 ?_;refine qT hH at0 fun st hH=>?_;dsimp only[u2,u1,u3,u4,setMany,u5,u6,D.cells,Nat.reduceAdd,aC,ai,ah] at hH;refine zQ 1 ?_;refine⟨fun i h=>(by cases h),_,_,_,rfl,ab rfl,?_⟩;exact⟨rfl,a_.af aU hH⟩
def jW (fr:Go.V.Fr) (k:Nat):Go.V.D:=Go.V.nth .junk fr.loc k
def lM (gs:List (Nat×Nat)) (m:Nat) (R:PR (List Nod×Nat)) (s s':et) (d:D) (c:Nat):Prop:=
 s'.g≤4∧s.i≤s'.i∧∃l:List Nod,d=kT l∧(∀n∈l,NdV n)∧l.length≤4*(s'.i-s.i)+1∧((dN R s'.e∧s'.i≤gs.length+1+m)∨s'.e=0∧s'.i≤gs.length∧R=.ok (l,s'.g) s'.i∧l.length+c≤4*(s'.i-s.i))
def oU (gs:List (Nat×Nat)) (m:Nat) (R:PR (List Nod×Nat)) (s s':et) (d:D):Prop:=
 s'.g≤4∧s.i≤s'.i∧∃l:List Nod,d=kT l∧(∀n∈l,NdV n)∧l.length≤4*(s'.i-s.i)+1∧((dN R s'.e∧s'.i≤gs.length+1+m)∨(s'.e=0∧s'.i≤gs.length∧R=.ok (l,s'.g) s'.i)∨(m=20∧s'.e=0∧bJ gs s'.i 41=true∧∃w,R=.er 4 w))
theorem px {gs:List (Nat×Nat)} {m:Nat} {R:PR (List Nod×Nat)} {s s':et} {c:Nat} (h2:s'.g≤4) (h3:s.i≤s'.i) (h5:dN R s'.e) (h6:s'.i≤gs.length+1+m):lM gs m R s s' (.sl []) c:=
 ⟨h2,h3,[],rfl,fun n hn=>(by cases hn),by simp,.inl ⟨h5,h6⟩⟩
def yc (A:PF) (gs:List (Nat×Nat)) (m:Nat):Prop:=∀{N k:Nat} {S s0:St} {H:List bG} {bB:List Int} {rD aD:D} {s:et} (deep:Nat),ow gs bB→s.e=0→s.i≤gs.length→s.g≤4→deep+m=20→Has N S s0 (.box k (.mem 0 false (aC rD aD s))::.lst rD 1 ((gs.map bm).map ai)::.lst aD 1 (bB.map ah)::H)→
 ∃d ae,Ev pv 10 [.ptr k 0 0,.int .i64 (deep:Nat)] s0 d ae∧∃(s':et),oU gs m (A s.i s.g) s s' d∧Has N S ae (.box k (.mem 0 false (aC rD aD s'))::.lst rD 1 ((gs.map bm).map ai)::.lst aD 1 (bB.map ah)::H)
theorem zi {gs:List (Nat×Nat)} {m j g' f g:Nat} {A:PF} {R:PR (List Nod×Nat)} {s4:et} {l:List Nod} {free:Bool} {v:Int} (hm:m≠0)
  (hR:R=match A j g' with
    | .er e w=>.er e w
    | .ok (l,g2) j2=>if bJ gs j2 41=true then .ok (if free=true then l else dw 6 0 0 false ((g+1:Nat):Int) 1 []::l,g2) (j2+1) else .er 4 f)
  (h:(dN (A j g') s4.e∧s4.i≤gs.length+1+(m-1))∨(s4.e=0∧s4.i≤gs.length∧A j g'=.ok (l,s4.g) s4.i)∨(m-1=20∧s4.e=0∧bJ gs s4.i 41=true∧∃w,A j g'=.er 4 w)) (Iz:m≤20):
  (fk gs s4 v).i=s4.i+1∧(fk gs s4 v).g=s4.g∧((dN R (fk gs s4 v).e∧s4.i+1≤gs.length+1+m)∨((fk gs s4 v).e=0∧s4.i+1≤gs.length∧R=.ok (if free=true then l else dw 6 0 0 false ((g+1:Nat):Int) 1 []::l,s4.g) (s4.i+1))):=by
 have h1:(fk gs s4 v).i=s4.i+1∧(fk gs s4 v).g=s4.g:=by unfold fk;split<;>exact⟨rfl,rfl⟩
 refine⟨h1.1,h1.2,?_⟩
 rcases h with⟨h,h2⟩|⟨h,h2,h3⟩|⟨h,_⟩
 ·refine .inl ⟨?_,by omega⟩;unfold fk;rw[if_neg (fun h0=>h.1 h0.1)];exact h.map fun e w hw=>by rw[hR,hw]
 ·rw[h3] at hR;simp only at hR
  cases hb:bJ gs s4.i 41 with
  |true=>
   have:=cE hb;rw[hb,if_pos rfl] at hR;refine .inr ⟨?_,by omega,hR⟩;unfold fk;rw[if_neg (fun h0=>by rw[hb] at h0;simp at h0)];exact h
  |false=>
   rw[hb,if_neg (by simp)] at hR;refine .inl ⟨?_,by omega⟩;unfold fk;rw[if_pos ⟨h,hb⟩];exact⟨by show(4:Int)≠0;decide,f,hR⟩
 ·omega
theorem uJ {m:Nat} {gs:List (Nat×Nat)} {A:PF} (hA:∀m',m'+1=m→yc A gs m') {N k:Nat} {S s0:St} {H:List bG} {bB:List Int} {rD aD:D} {s:et} (deep:Nat) (hok:ow gs bB) (he:s.e=0) {f:Nat} (hf:s.i=f+1) (hi:s.i≤gs.length) (hg:s.g≤4) (wE:deep+m=20) (v:Int) (hH:Has N S s0 (.box k (.mem 0 false (aC rD aD s))::.lst rD 1 ((gs.map bm).map ai)::.lst aD 1 (bB.map ah)::H)):
  ∃d ae,Ev pv 57 [.ptr k 0 0,.int .i64 (deep:Nat),.int .i64 v] s0 d ae∧∃(s':et),lM gs m (lH A gs m f s.g) s s' d 0∧Has N S ae (.box k (.mem 0 false (aC rD aD s'))::.lst rD 1 ((gs.map bm).map ai)::.lst aD 1 (bB.map ah)::H):=by
 have kW:=hok.gl;have hal:=hok.al;refine Ev.gT rfl MT rfl rfl rfl ?_;refine zE ?_;have a_:=hH;have hH:=hH.aY;have aU:(enterSt .rw s0).bs=s0.bs:=rfl;generalize enterSt .rw s0=S2 at*
 obtain⟨R,hR⟩:∃R,lH A gs m f s.g=R:=⟨_,rfl⟩
 rw[hR];unfold lH at hR;rw[←hf,show f+2=s.i+1 by omega,show f+3=s.i+2 by omega] at hR
 have hwr:∀(st:St) (e:Int),e≠0→R=.er e f→Has N S2 st (.box k (.mem 0 false (aC rD aD s))::.lst rD 1 ((gs.map bm).map ai)::.lst aD 1 (bB.map ah)::H)→∃d ae,Ev pv 11 [.ptr k 0 0,.int .i64 e,.int .i64 v] st d ae∧d=.tup []∧∃s4,lM gs m R s s4 (.sl []) 0∧Has N S2 ae (.box k (.mem 0 false (aC rD aD s4))::.lst rD 1 ((gs.map bm).map ai)::.lst aD 1 (bB.map ah)::H):=by
  intro st e h0 hv hH;obtain⟨d,ae,hev,h6,hH⟩:=bc (s:=s) e v hH;have h7:=gj s e v;exact⟨d,ae,hev,h6,_,px (by omega) (by omega) ⟨by rw[cS he];exact h0,f,by rw[cS he];exact hv⟩ (by omega),hH⟩
 refine qq<|qj fun K hK=>qm ?_;refine qe hK<|qq<|qj fun K hK=>qm ?_;obtain⟨_,st,hev,rfl,hH⟩:=bz (s:=s) (by omega) (by omega) 63 (by decide) (by decide) hH;refine qv hev ?_;refine qm ?_;refine qe hK ?_
 obtain⟨qt,On⟩:∃qt,bJ gs s.i 63=qt:=⟨_,rfl⟩
 rw[On] at hR⊢;refine qq<|qq<|EvC.fF (fun fr st=>∃(tmp:List (Nat×D)),fr=⟨11,[.ptr k 0 0,.int .i64 (deep:Nat),.int .i64 v,jW fr 3,jW fr 4,jW fr 5,jW fr 6,.bool qt,jW fr 8,jW fr 9,jW fr 10],tmp⟩∧Has N S2 st (.box k (.mem 0 false (aC rD aD s))::.lst rD 1 ((gs.map bm).map ai)::.lst aD 1 (bB.map ah)::H)∧(jZ A gs m f s.g qt (if qt=true then s.i+2 else s.i)=R)∧(qt=true→s.i+2≤gs.length)) ?_ ?_
 ·cases qt with
  |false=>
   rw[if_neg (by simp)] at hR;have fu:false=false:=rfl;refine qj fun K hK=>qm ?_;refine qm ?_;refine qs ?_ (hg:=wn fu);refine qs ?_ (hg:=wn fu);refine qs ?_ (hg:=wn fu);refine qs ?_ (hg:=wn fu);refine qs ?_ (hg:=wn fu);refine qs ?_ (hg:=wn fu);refine qs ?_ (hg:=wn fu);refine qs ?_ (hg:=wn fu);refine qs ?_ (hg:=wn fu);refine qs ?_ (hg:=wn fu);refine qs ?_ (hg:=wn fu);refine qs ?_ (hg:=wn fu);refine qs ?_;refine qs ?_;refine qs ?_;refine qs ?_;refine qs ?_;refine qs ?_;refine qs ?_;refine qs ?_;refine qs ?_;refine qs ?_;refine qs ?_;refine qs ?_;refine qs ?_ (hg:=wn fu);refine qu fu ?_;refine qe hK<|qC ?_;refine EvC.skip ?_;exact⟨_,rfl,hH,by rw[if_neg (by simp)];exact hR,fun h=>(by cases h)⟩
  |true=>
   rw[if_pos rfl] at hR;have fu:true=true:=rfl;have hlt:=cE On
   by_cases oN:s.i+1<gs.length
   ·obtain⟨g,vG⟩:∃g,gs[s.i+1]?=some g:=⟨gs[s.i+1]'oN,List.getElem?_eq_getElem _⟩
    have hr1:=ln vG;have hg13:decide (((s.i+1:Nat):Int)≥((gs.length:Nat):Int))=false:=by rw[decide_eq_false_iff_not];omega
    refine qj fun K hK=>qm ?_;refine qm ?_;refine qm ?_ (hg:=wi fu);refine qg ?_ (hg:=wi fu);refine qp (o:=2) ?_ (hg:=wi fu);refine ql hH at0 ?_ (hg:=wi fu);refine qA ?_ (hg:=wi fu);refine qm ?_ (hg:=wi fu);refine qg ?_ (hg:=wi fu);refine qp (o:=0) ?_ (hg:=wi fu);refine ql hH at0 ?_ (hg:=wi fu);refine qn ?_ (hR:=hH.rows at1) (hg:=wi fu);simp only[List.length_map];refine qg ?_ (hg:=wi fu);refine qm ?_ (hg:=wi fu);refine qm ?_ (hg:=wi hg13);refine qg ?_ (hg:=wi hg13);refine qp (o:=0) ?_ (hg:=wi hg13);refine ql hH at0 ?_ (hg:=wi hg13);refine qm ?_ (hg:=wi hg13);refine qg ?_ (hg:=wi hg13);refine qp (o:=2) ?_ (hg:=wi hg13);refine ql hH at0 ?_ (hg:=wi hg13);refine qA ?_ (hg:=wi hg13);refine qi hH at1 (fun Pu Lb=>?_) (hg:=wi hg13);refine qo hH at1 ?_ (hg:=wi hg13);refine qg ?_ (hg:=wi hg13);refine EvO.pickF (wantD_is rfl rfl rfl fu) rfl hg13 (put_T rfl _) ?_;refine qt fu ?_;refine qe hK ?_
    by_cases Hf:bm g=58
    ·rw[if_pos (by rw[nU vG (by decide) (by decide),Hf];rfl)] at hR;refine qE rfl (by simp[Hf]) ?_;refine EvC.skip ?_;exact⟨_,rfl,hH,by rw[if_pos rfl];exact hR,fun _=>by omega⟩
    ·rw[if_neg (by rw[nU vG (by decide) (by decide)];simpa using Hf)] at hR;refine qD rfl (by simp[Hf]) ?_;refine qq<|qj fun K hK=>qm ?_;refine qm ?_;obtain⟨_,st,hev,rfl,s4,hN,hH⟩:=hwr _ 4 (by decide) hR.symm hH;refine qv hev ?_;refine qe hK<|qq<|qj fun K hK=>qm ?_;refine qe hK<|EvC.ret ⟨rx,_,_,_,rfl,ab (rfl),?_⟩;exact⟨s4,hN,a_.af aU hH⟩
   ·have hg13:decide (((s.i+1:Nat):Int)≥((gs.length:Nat):Int))=true:=by rw[decide_eq_true_eq];omega
    have Hf:bJ gs (s.i+1) 58=false:=by
     cases h:bJ gs (s.i+1) 58 with
     |true=>exact absurd (cE h) oN
     |false=>rfl
    rw[if_neg (by rw[Hf];simp)] at hR;refine qj fun K hK=>qm ?_;refine qm ?_;refine qm ?_ (hg:=wi fu);refine qg ?_ (hg:=wi fu);refine qp (o:=2) ?_ (hg:=wi fu);refine ql hH at0 ?_ (hg:=wi fu);refine qA ?_ (hg:=wi fu);refine qm ?_ (hg:=wi fu);refine qg ?_ (hg:=wi fu);refine qp (o:=0) ?_ (hg:=wi fu);refine ql hH at0 ?_ (hg:=wi fu);refine qn ?_ (hR:=hH.rows at1) (hg:=wi fu);simp only[List.length_map];refine qg ?_ (hg:=wi fu);refine qm ?_ (hg:=wi fu);refine qs ?_ (hg:=wn hg13);refine qs ?_ (hg:=wn hg13);refine qs ?_ (hg:=wn hg13);refine qs ?_ (hg:=wn hg13);refine qs ?_ (hg:=wn hg13);refine qs ?_ (hg:=wn hg13);refine qs ?_ (hg:=wn hg13);refine qs ?_ (hg:=wn hg13);refine qs ?_ (hg:=wn hg13);refine qs ?_ (hg:=wn hg13);refine qs ?_ (hg:=wn hg13);refine qs ?_ (hg:=wn hg13);refine EvO.pickT (wantD_is rfl rfl rfl fu) rfl hg13 (put_T rfl _) ?_;refine qt fu ?_;refine qe hK<|qB ?_;refine qq<|qj fun K hK=>qm ?_;refine qm ?_;obtain⟨_,st,hev,rfl,s4,hN,hH⟩:=hwr _ 4 (by decide) hR.symm hH;refine qv hev ?_;refine qe hK<|qq<|qj fun K hK=>qm ?_;refine qe hK<|EvC.ret ⟨rx,_,_,_,rfl,ab (rfl),?_⟩;exact⟨s4,hN,a_.af aU hH⟩
 ·rintro fr st ⟨tmp,hfr,hH,hG,tp⟩;rw[hfr];clear hfr;generalize jW fr=ee;clear fr;clear hR;unfold jZ at hG;refine qq<|qq<|qj fun K hK=>qm ?_;refine qg ?_;refine qe hK ?_
  by_cases I1:20≤deep
  ·have hcc:decide (((deep:Nat):Int)≥20)=true:=by rw[decide_eq_true_eq];omega
   rw[if_pos (by omega)] at hG;refine qD rfl (by rw[hcc]) ?_;refine qq<|qj fun K hK=>qm ?_;refine qm ?_;obtain⟨_,st,hev,rfl,s4,hN,hH⟩:=hwr _ 10 (by decide) hG.symm hH;refine qv hev ?_;refine qe hK<|qq<|qj fun K hK=>qm ?_;refine qe hK<|EvC.ret ⟨rx,_,_,_,rfl,ab (rfl),?_⟩;exact⟨s4,hN,a_.af aU hH⟩
  have hcc:decide (((deep:Nat):Int)≥20)=false:=by rw[decide_eq_false_iff_not];omega
  rw[if_neg (by omega)] at hG;refine qE rfl (by rw[hcc]) ?_;refine EvC.skip<|qq<|qq<|qj fun K hK=>qm ?_;refine qe hK ?_
  cases qt with
  |true=>
   have tp:=tp rfl;rw[if_neg (by simp),if_pos rfl,if_pos rfl] at hG;refine qB ?_;refine qq<|qj fun K hK=>qm ?_;refine qm ?_;refine qg ?_;refine qp (o:=2) ?_;refine ql hH at0 ?_;refine qA ?_;refine qg ?_;refine qp (o:=2) ?_;refine qT hH at0 fun st hH=>?_;dsimp only[u2,u1,u3,u4,setMany,u5,u6,D.cells,Nat.reduceAdd,aC,ai,ah,ay] at hH;refine qe hK ?_;have hH:Has N S2 st (.box k (.mem 0 false (aC rD aD {s with i:=s.i+2}))::.lst rD 1 ((gs.map bm).map ai)::.lst aD 1 (bB.map ah)::H):=hH;refine qq<|qj fun K hK=>qm ?_;refine qm ?_;refine qA ?_;obtain⟨_,st,hev,s4,⟨a2,a3,l,rfl,a5,a6,a7⟩,hH⟩:=hA (m-1) (by omega) (s:={s with i:=s.i+2}) (deep+1) hok he tp hg (by omega) hH;refine qv hev ?_;refine qm ?_;refine qe hK ?_;simp only at a3 a6 a7;obtain⟨c1,c2,c3⟩:=zi (v:=v) (f:=f) (free:=true) (by omega) hG.symm a7 (by omega);refine qq<|qj fun K hK=>qm ?_;refine qm ?_;obtain⟨_,st,hev,rfl,hH⟩:=l0 (s:=s4) (by omega) (by omega) v hH;refine qv hev ?_;refine qe hK ?_;generalize fk gs s4 v=s5 at*;refine qq<|qj fun K hK=>qm ?_;refine qm ?_;refine qe hK<|EvC.ret ⟨rx,_,_,_,rfl,ab (rfl),?_⟩;refine⟨s5,⟨by omega,by omega,l,rfl,a5,by omega,?_⟩,a_.af aU hH⟩
   rcases c3 with⟨c3,c4⟩|⟨c3,c4,c5⟩
   ·exact .inl ⟨c3,by omega⟩
   ·exact .inr ⟨c3,by omega,by rw[c5,if_pos rfl,c1,c2],by omega⟩
  |false=>
   rw[if_neg (by simp:¬(false=true))] at hG;rw[if_neg (by simp:¬(false=true))] at hG;refine qC ?_;refine EvC.skip<|qq<|qq<|qj fun K hK=>qm ?_;refine qg ?_;refine qp (o:=3) ?_;refine ql hH at0 ?_;refine qg ?_;refine qe hK ?_
   by_cases hmany:4≤s.g
   ·have hcc:decide (((s.g:Nat):Int)≥4)=true:=by rw[decide_eq_true_eq];omega
    rw[if_pos ⟨rfl,hmany⟩] at hG;refine qD rfl (by rw[hcc]) ?_;refine qq<|qj fun K hK=>qm ?_;refine qm ?_;obtain⟨_,st,hev,rfl,s4,hN,hH⟩:=hwr _ 13 (by decide) hG.symm hH;refine qv hev ?_;refine qe hK<|qq<|qj fun K hK=>qm ?_;refine qe hK<|EvC.ret ⟨rx,_,_,_,rfl,ab (rfl),?_⟩;exact⟨s4,hN,a_.af aU hH⟩
   have hcc:decide (((s.g:Nat):Int)≥4)=false:=by rw[decide_eq_false_iff_not];omega
   rw[if_neg (fun h=>hmany h.2)] at hG;refine qE rfl (by rw[hcc]) ?_;refine EvC.skip<|qq<|qj fun K hK=>qm ?_;refine qg ?_;refine qp (o:=3) ?_;refine ql hH at0 ?_;refine qA ?_;refine qg ?_;refine qp (o:=3) ?_;refine qT hH at0 fun st hH=>?_;dsimp only[u2,u1,u3,u4,setMany,u5,u6,D.cells,Nat.reduceAdd,aC,ai,ah,ay] at hH;refine qe hK<|qq<|qj fun K hK=>qm ?_;refine qg ?_;refine qp (o:=3) ?_;refine ql hH at0 ?_;refine EvO.go (d:=.agg [.int .i64 6,.nul,.int .i64 0,.int .i64 0,.bool false,.int .i64 ((s.g+1:Nat):Int),.int .i64 1]) (st1:=_) rfl rfl rfl (put_T rfl _) ?_;refine qa hH fun k9 st QZ hH=>?_;refine qS hH at0 fun st hH=>?_;dsimp only[u2,u1,u3,u4,setMany,u5,u6,D.cells,Nat.reduceAdd,aC,ai,ah,ay] at hH;refine qe hK ?_
   have hH:Has N S2 st (.box k (.mem 0 false (aC rD aD {s with g:=s.g+1}))::.lst rD 1 ((gs.map bm).map ai)::.lst aD 1 (bB.map ah)::.box k9 (.mem 0 false [.int .i64 6,.nul,.int .i64 0,.int .i64 0,.bool false,.int .i64 ((s.g+1:Nat):Int),.int .i64 1])::H):=(hH.front at3|>.front at3|>.front at3)
   refine qq<|qj fun K hK=>qm ?_;refine qm ?_;refine qA ?_;obtain⟨_,st,hev,s4,⟨a2,a3,l,rfl,a5,a6,a7⟩,hH⟩:=hA (m-1) (by omega) (s:={s with g:=s.g+1}) (deep+1) hok he hi (by show s.g+1≤4;omega) (by omega) hH;refine qv hev ?_;refine qm ?_;refine qe hK ?_;simp only at a3 a6 a7;obtain⟨c1,c2,c3⟩:=zi (v:=v) (f:=f) (free:=false) (by omega) hG.symm a7 (by omega);have hla:=(jP a5).arg N S2;refine qq<|qj fun K hK=>qm ?_;refine qm ?_;obtain⟨_,st,hev,rfl,hH⟩:=l0 (s:=s4) (by omega) (by omega) v hH;refine qv hev ?_;refine qe hK ?_;generalize fk gs s4 v=s5 at*
   have S4:l.length≤4*(gs.length+30)+1:=by
    rcases c3 with⟨_,c4⟩|⟨_,c4,_⟩<;>omega
   refine qq<|qj fun K hK=>?_;refine EvO.hloadS (m:=7) hH rfl (ev rfl) (by exact at3) (by dsimp only[List.drop_succ_cons,List.drop_zero,List.take_succ_cons,List.take_zero,aC,ai,ah,ay]<;>rfl) rfl rfl (put_T rfl _) ?_;refine qh (s:=7) (vs:=[_]) hH fun k94 st QX hH=>?_;dsimp only[u2,u1,u3,u4,setMany,u5,u6,D.cells,Nat.reduceAdd,aC,ai,ah,ay] at hH;refine qm ?_;refine EvO.gD (s:=7) hH rfl (ev rfl) (ev rfl) at0 ((jP a5).rows st) rfl rfl rfl rfl rfl rfl rfl ⟨(Nat.le_of_ble_eq_true rfl),(Nat.le_of_ble_eq_true rfl)⟩ (fun _=>(put_T rfl _)) (by simp only[List.length_map,List.length_cons,List.length_nil];omega) (.inr (kC a5)) (fun k hk=>by have jv:k94+1=k+1:=hk;omega) (fun O6 st q_ hH=>?_);dsimp only[u2] at hH;refine qm ?_;refine qe hK ?_;have hH:Has N S2 st (.lst O6 7 ([.int .i64 6,.nul,.int .i64 0,.int .i64 0,.bool false,.int .i64 ((s.g+1:Nat):Int),.int .i64 1]::l.map ay)::.box k (.mem 0 false (aC rD aD s5))::.lst rD 1 ((gs.map bm).map ai)::.lst aD 1 (bB.map ah)::.box k9 (.mem 0 false [.int .i64 6,.nul,.int .i64 0,.int .i64 0,.bool false,.int .i64 ((s.g+1:Nat):Int),.int .i64 1])::H):=hH
   have hfz:=dW (L:=s0.bs.length) (l:=dw 6 0 0 false ((s.g+1:Nat):Int) 1 []::l) hH at0 (by rw[List.map_cons,kD a5];rfl) (fun e he d hd=>by
    rcases List.mem_cons.1 he with rfl|he
    ·simp only[List.mem_cons,List.not_mem_nil,or_false] at hd
     rcases hd with rfl|rfl|rfl|rfl|rfl|rfl|rfl<;>rfl
    ·exact iw a5 e he d hd) (fun k hk=>by rw[←aU];exact q_ k hk) (n:=16) (by decide)
   refine EvC.ret ⟨rx,_,_,_,rfl,ab hfz,⟨s5,⟨by omega,by omega,_,rfl,?_,by simp only[List.length_cons];omega,?_⟩,a_.af aU ((hH.drop 1).erase 3)⟩⟩
   ·intro n hn
    rcases List.mem_cons.1 hn with rfl|hn
    ·exact⟨rfl,by simp[dw],by simp[dw]⟩
    ·exact a5 n hn
   ·rcases c3 with⟨c3,c4⟩|⟨c3,c4,c5⟩
    ·exact .inl ⟨c3,by omega⟩
    ·exact .inr ⟨c3,by omega,by rw[c5,if_neg (by simp),c1,c2],by simp only[List.length_cons];omega⟩
def az (fr:Go.V.Fr) (k:Nat):Go.V.D:=Go.V.nth .junk fr.loc k
theorem wW {m:Nat} {gs:List (Nat×Nat)} {A:PF} (hA:∀m',m'+1=m→yc A gs m') {N k:Nat} {S s0:St} {H:List bG} {bB:List Int} {rD aD:D} {s:et} (deep:Nat) (hok:ow gs bB) (he:s.e=0) (hi:s.i<gs.length) (hg:s.g≤4) (wE:deep+m=20) (hH:Has N S s0 (.box k (.mem 0 false (aC rD aD s))::.lst rD 1 ((gs.map bm).map ai)::.lst aD 1 (bB.map ah)::H)):
  ∃d ae,Ev pv 48 [.ptr k 0 0,.int .i64 (deep:Nat)] s0 d ae∧∃(s':et),lM gs m (n9 A gs m s.i s.g) s s' d 2∧Has N S ae (.box k (.mem 0 false (aC rD aD s'))::.lst rD 1 ((gs.map bm).map ai)::.lst aD 1 (bB.map ah)::H):=by
 have kW:=hok.gl;have hal:=hok.al;refine Ev.gT rfl M3 rfl rfl rfl ?_;refine zE ?_;have a_:=hH;have hH:=hH.aY;have aU:(enterSt .rw s0).bs=s0.bs:=rfl;generalize enterSt .rw s0=S2 at*
 obtain⟨g,vG⟩:∃g,gs[s.i]?=some g:=⟨gs[s.i]'hi,List.getElem?_eq_getElem _⟩
 have hr1:=ln vG;have KM:=DH hok vG
 obtain⟨R,hR⟩:∃R,n9 A gs m s.i s.g=R:=⟨_,rfl⟩
 rw[hR];unfold n9 at hR;rw[vG] at hR;simp only at hR;rw[x6 vG] at hR;have I_:bm g=-1→R=.er 4 s.i:=fun h=>by rw[←hR,decide_eq_true h,if_pos rfl]
 have hgo:bm g≠-1→R=iH A gs m s.i s.g (bm g):=fun h=>by rw[←hR,decide_eq_false h,if_neg (by simp),gh h]
 clear hR
 have hbd:(bm g=42∨bm g=43∨bm g=63∨bm g=41∨bm g=93∨bm g=123∨bm g=125∨bm g=124)→R=.er 4 s.i:=fun h=>by
  have:=hgo (by omega);unfold iH at this;rw[if_neg (by omega),if_neg (by omega),if_neg (by omega),if_neg (by omega),if_neg (by omega),if_neg (by omega),if_pos h] at this;exact this
 have fY:∀(st:St) (s4:et) (op:Int) (w:D) (a:List Rg) (kk:Nat),(w=aA a∨w=.nul∧a=[])→a.length≤1048576→s4.g≤4→s.i≤s4.i→((dN R s4.e∧s4.i≤gs.length+1+m)∨s4.e=0∧s4.i≤gs.length∧R=.ok ([dw op 0 0 false 0 0 a],s4.g) s4.i∧1+2≤4*(s4.i-s.i))→S2.bs.length≤kk→Has N S2 st (.lst (.win kk 0 0 1 7) 7 [[.int .i64 op,w,.int .i64 0,.int .i64 0,.bool false,.int .i64 0,.int .i64 0]]::.box k (.mem 0 false (aC rD aD s4))::.lst rD 1 ((gs.map bm).map ai)::.lst aD 1 (bB.map ah)::H)→
   ∃d ae,b8 .rw false s0 st (.win kk 0 0 1 7)=some (d,ae)∧∃(s':et),lM gs m R s s' d 2∧Has N S ae (.box k (.mem 0 false (aC rD aD s'))::.lst rD 1 ((gs.map bm).map ai)::.lst aD 1 (bB.map ah)::H):=by
  intro st s4 op w a kk hw ha h1 h2 h3 hk hH;have hfz:=eX hH at0 (L:=s0.bs.length) hw (fun k hk=>by simp only[D.ref] at hk;rw[←aU];omega);exact⟨_,_,ab hfz,s4,⟨h1,h2,_,rfl,s8 ha (by omega),by simp,h3⟩,a_.af aU (hH.drop 1)⟩
 have oM:∀(op:Int) (a:List Rg),R=.ok ([dw op 0 0 false 0 0 a],s.g) (s.i+1)→(dN R ({s with i:=s.i+1}:et).e∧({s with i:=s.i+1}:et).i≤gs.length+1+m)∨({s with i:=s.i+1}:et).e=0∧({s with i:=s.i+1}:et).i≤gs.length∧R=.ok ([dw op 0 0 false 0 0 a],({s with i:=s.i+1}:et).g) ({s with i:=s.i+1}:et).i∧1+2≤4*(({s with i:=s.i+1}:et).i-s.i):=by
  intro op a h;exact .inr ⟨he,by show s.i+1≤_;omega,h,by show 1+2≤4*(s.i+1-s.i);omega⟩
 refine zQ 7 ?_;obtain⟨_,st,hev,⟨v,rfl⟩,hH⟩:=gu (s:=s) (by omega) hH;refine qv hev ?_;refine zQ 12 ?_;refine qi hH at1 fun HG Cm=>?_;refine zQ 12 ?_;refine qT hH at0 fun st hH=>?_;dsimp only[u2,u1,u3,u4,setMany,u5,u6,D.cells,Nat.reduceAdd,aC,ai,ah,ay] at hH;refine zQ 1 ?_;have hH:Has N S2 st (.box k (.mem 0 false (aC rD aD {s with i:=s.i+1}))::.lst rD 1 ((gs.map bm).map ai)::.lst aD 1 (bB.map ah)::H):=hH
 have hwr:∀(st:St),R=.er 4 s.i→Has N S2 st (.box k (.mem 0 false (aC rD aD {s with i:=s.i+1}))::.lst rD 1 ((gs.map bm).map ai)::.lst aD 1 (bB.map ah)::H)→∃d ae,Ev pv 11 [.ptr k 0 0,.int .i64 4,.int .i64 v] st d ae∧d=.tup []∧∃s4,lM gs m R s s4 (.sl []) 2∧Has N S2 ae (.box k (.mem 0 false (aC rD aD s4))::.lst rD 1 ((gs.map bm).map ai)::.lst aD 1 (bB.map ah)::H):=by
  intro st hv hH;obtain⟨d,ae,hev,h6,hH⟩:=bc (s:={s with i:=s.i+1}) 4 v hH;obtain⟨h7,h8⟩:=gj {s with i:=s.i+1} 4 v;have h9:(fh {s with i:=s.i+1} 4 v).e=4:=cS he;simp only at h7 h8;exact⟨d,ae,hev,h6,_,px (by omega) (by omega) ⟨by rw[h9];decide,s.i,by rw[h9];exact hv⟩ (by omega),hH⟩
 refine zQ 11 ?_;refine zI (fun GZ=>?_) fun GZ=>?_
 ·have hR:=hgo (by omega);unfold iH at hR;rw[if_pos GZ] at hR;refine zQ 5 ?_;obtain⟨_,st,hev,s4,⟨p2,p3,l,rfl,p5,p6,p7⟩,hH⟩:=uJ (s:={s with i:=s.i+1}) hA deep hok he (f:=s.i) rfl (by show s.i+1≤_;omega) hg wE v hH;refine qv hev ?_;refine zQ 2 ?_;simp only at p3 p6 p7;rw[←hR] at p7;refine EvC.ret ⟨rx,_,_,_,rfl,ab (rfl),?_⟩;refine⟨s4,⟨p2,by omega,l,rfl,p5,by omega,?_⟩,a_.af aU hH⟩
  rcases p7 with p7|⟨p7,p8,p9,Oc⟩
  ·exact .inl p7
  ·exact .inr ⟨p7,p8,p9,by omega⟩
 refine zQ 5 ?_;refine zI (fun wx=>?_) fun wx=>?_
 ·have hR:=hgo (by omega);unfold iH vW at hR;rw[if_neg (by omega),if_pos wx] at hR;refine zQ 4 ?_;obtain⟨_,st,hev,a,s4,rfl,⟨p1,p2,p3,p4,p5⟩,hH⟩:=uK (s:={s with i:=s.i+1}) hok he (f:=s.i) rfl (by show s.i+1≤_;omega) v hH;refine qv hev ?_;obtain⟨_,st,hev,kk,rfl,hkk,hH⟩:=kr (x:=aA a) rfl hH;refine qv hev ?_;refine zQ 2 ?_;simp only at p1 p2 p5
  obtain⟨d',ae,ju,dn⟩:=fY _ s4 2 (aA a) a kk (.inl rfl) (by omega) (by omega) (by omega) (by
   rcases p5 with p5|⟨p5,p6,p7,p8⟩
   ·exact .inl ⟨p5.map fun e w h=>by rw[hR,h],by omega⟩
   ·exact .inr ⟨p5,p7,by rw[hR,p8,p1];rfl,by omega⟩) hkk hH
  exact EvC.ret ⟨rx,_,d',ae,rfl,ju,dn⟩
 refine zQ 5 ?_;refine zI (fun GY=>?_) fun GY=>?_
 ·have hR:=hgo (by omega);unfold iH at hR;rw[if_neg (by omega),if_neg (by omega),if_neg (by omega),if_pos GY] at hR;have Eg:ot.length≤6:=(zf (s0:=s0)).2;refine zQ 2 ?_;refine EvO.c9 (qs:=[(0,_),(1,_)]) rfl rfl rfl rfl ⟨rfl,(ev rfl),(by rfl),rfl,(ev rfl),(by rfl),trivial⟩ (by intro q hq;simp only[List.mem_cons,List.not_mem_nil,or_false] at hq;rcases hq with rfl|rfl<;>exact⟨rfl,by exact Nat.le_of_ble_eq_true rfl⟩) (by show List.foldl _ [_,_] _=_;dsimp only[List.foldl_cons,List.foldl_nil,u2,u1]<;>rfl) (put_T rfl _) ?_;refine qh (s:=2) (vs:=[_]) hH fun k42 st Rb hH=>?_;dsimp only[u2,u1,u3,u4,setMany,u5,u6,D.cells,Nat.reduceAdd,aC,ai,ah,ay] at hH;have hev:∀st x,V.Rows st 2 x ([((10:Int),(10:Int))].map ag)→Ev pv 60 [x] st (aA ot) st:=fun st x h=>rB h (by simp);refine qv (hev _ _ (hH.rows at0)) ?_;have hH:=hH.drop 1;obtain⟨_,st,hev,kk,rfl,hkk,hH⟩:=kr (x:=aA ot) rfl hH;refine qv hev ?_;refine zQ 2 ?_;obtain⟨d',ae,ju,dn⟩:=fY _ {s with i:=s.i+1} 2 (aA ot) ot kk (.inl rfl) (by omega) hg (by show s.i≤s.i+1;omega) (oM 2 ot hR) hkk hH;exact EvC.ret ⟨rx,_,d',ae,rfl,ju,dn⟩
 refine zQ 5 ?_;refine zI (fun GW=>?_) fun GW=>?_
 ·have hR:=hgo (by omega);unfold iH at hR;rw[if_neg (by omega),if_neg (by omega),if_neg (by omega),if_neg (by omega),if_pos GW] at hR;refine zQ 2 ?_;refine EvO.go (d:=.agg [.int .i64 7,.nul,.int .i64 0,.int .i64 0,.bool false,.int .i64 0,.int .i64 0]) (st1:=_) rfl rfl rfl (put_T rfl _) ?_;refine qh (s:=7) (vs:=[_]) hH fun k48 st Lz hH=>?_;dsimp only[u2,u1,u3,u4,setMany,u5,u6,D.cells,Nat.reduceAdd,aC,ai,ah,ay] at hH;refine zQ 2 ?_;obtain⟨d',ae,ju,dn⟩:=fY _ {s with i:=s.i+1} 7 .nul [] k48 (.inr ⟨rfl,rfl⟩) (by simp) hg (by show s.i≤s.i+1;omega) (oM 7 [] hR) Lz hH;refine EvC.ret ⟨rx,_,d',ae,rfl,ju,dn⟩
 refine zQ 5 ?_;refine zI (fun G0=>?_) fun G0=>?_
 ·have hR:=hgo (by omega);unfold iH at hR;rw[if_neg (by omega),if_neg (by omega),if_neg (by omega),if_neg (by omega),if_neg (by omega),if_pos G0] at hR;refine zQ 2 ?_;refine EvO.go (d:=.agg [.int .i64 8,.nul,.int .i64 0,.int .i64 0,.bool false,.int .i64 0,.int .i64 0]) (st1:=_) rfl rfl rfl (put_T rfl _) ?_;refine qh (s:=7) (vs:=[_]) hH fun k52 st Lx hH=>?_;dsimp only[u2,u1,u3,u4,setMany,u5,u6,D.cells,Nat.reduceAdd,aC,ai,ah,ay] at hH;refine zQ 2 ?_;obtain⟨d',ae,ju,dn⟩:=fY _ {s with i:=s.i+1} 8 .nul [] k52 (.inr ⟨rfl,rfl⟩) (by simp) hg (by show s.i≤s.i+1;omega) (oM 8 [] hR) Lx hH;refine EvC.ret ⟨rx,_,d',ae,rfl,ju,dn⟩
 refine zQ 5 ?_;refine zI (fun GX=>?_) fun GX=>?_
 ·have hR:=hgo (by omega);unfold iH at hR;rw[if_neg (by omega),if_neg (by omega),if_pos GX] at hR;refine zQ 4 ?_;obtain⟨_,st,hev,a,s4,rfl,⟨p1,p2,p3,p4,p5⟩,hH⟩:=lZ (s:={s with i:=s.i+1}) hok he (f:=s.i) rfl (by show s.i+1≤_;omega) v hH;refine qv hev ?_;obtain⟨_,st,hev,kk,rfl,hkk,hH⟩:=kr (x:=aA a) rfl hH;refine qv hev ?_;refine zQ 2 ?_;simp only at p1 p2 p5
  obtain⟨d',ae,ju,dn⟩:=fY _ s4 2 (aA a) a kk (.inl rfl) (by omega) (by omega) (by omega) (by
   rcases p5 with p5|⟨p5,p6,p7,p8⟩
   ·exact .inl ⟨p5.map fun e w h=>by rw[hR,h],by omega⟩
   ·exact .inr ⟨p5,p3,by rw[hR,p8,p1];rfl,by omega⟩) hkk hH
  exact EvC.ret ⟨rx,_,d',ae,rfl,ju,dn⟩
 refine zQ 6 ?_
 by_cases GJ:bm g=42
 ·refine qD rfl (by simp[GJ]) ?_;refine zQ 1 ?_;refine qD rfl (by simp[GJ]) ?_;refine zQ 4 ?_;obtain⟨_,st,hev,rfl,s4,hN,hH⟩:=hwr _ (hbd (by omega)) hH;refine qv hev ?_;refine zQ 5 ?_;refine EvC.ret ⟨rx,_,_,_,rfl,ab (rfl),?_⟩;exact⟨s4,hN,a_.af aU hH⟩
 refine qE rfl (by simp[GJ]) ?_;refine zQ 5 ?_
 by_cases GI:bm g=43
 ·refine qD rfl (by simp[GI]) ?_;refine zQ 1 ?_;refine qD rfl (by simp[GI]) ?_;refine zQ 4 ?_;obtain⟨_,st,hev,rfl,s4,hN,hH⟩:=hwr _ (hbd (by omega)) hH;refine qv hev ?_;refine zQ 5 ?_;refine EvC.ret ⟨rx,_,_,_,rfl,ab (rfl),?_⟩;exact⟨s4,hN,a_.af aU hH⟩
 refine qE rfl (by simp[GI]) ?_;refine zQ 5 ?_
 by_cases GH:bm g=63
 ·refine qD rfl (by simp[GH]) ?_;refine zQ 1 ?_;refine qD rfl (by simp[GH]) ?_;refine zQ 4 ?_;obtain⟨_,st,hev,rfl,s4,hN,hH⟩:=hwr _ (hbd (by omega)) hH;refine qv hev ?_;refine zQ 5 ?_;refine EvC.ret ⟨rx,_,_,_,rfl,ab (rfl),?_⟩;exact⟨s4,hN,a_.af aU hH⟩
 refine qE rfl (by simp[GH]) ?_;refine zQ 5 ?_
 by_cases xY:bm g=123
 ·refine qD rfl (by simp[xY]) ?_;refine zQ 1 ?_;refine qD rfl (by simp[xY]) ?_;refine zQ 4 ?_;obtain⟨_,st,hev,rfl,s4,hN,hH⟩:=hwr _ (hbd (by omega)) hH;refine qv hev ?_;refine zQ 5 ?_;refine EvC.ret ⟨rx,_,_,_,rfl,ab (rfl),?_⟩;exact⟨s4,hN,a_.af aU hH⟩
 refine qE rfl (by simp[xY]) ?_;refine zQ 5 ?_
 by_cases xX:bm g=125
 ·refine qD rfl (by simp[xX]) ?_;refine zQ 1 ?_;refine qD rfl (by simp[xX]) ?_;refine zQ 4 ?_;obtain⟨_,st,hev,rfl,s4,hN,hH⟩:=hwr _ (hbd (by omega)) hH;refine qv hev ?_;refine zQ 5 ?_;refine EvC.ret ⟨rx,_,_,_,rfl,ab (rfl),?_⟩;exact⟨s4,hN,a_.af aU hH⟩
 refine qE rfl (by simp[xX]) ?_;refine zQ 5 ?_
 by_cases GG:bm g=93
 ·refine qD rfl (by simp[GG]) ?_;refine zQ 1 ?_;refine qD rfl (by simp[GG]) ?_;refine zQ 4 ?_;obtain⟨_,st,hev,rfl,s4,hN,hH⟩:=hwr _ (hbd (by omega)) hH;refine qv hev ?_;refine zQ 5 ?_;refine EvC.ret ⟨rx,_,_,_,rfl,ab (rfl),?_⟩;exact⟨s4,hN,a_.af aU hH⟩
 refine qE rfl (by simp[GG]) ?_;refine zQ 5 ?_
 by_cases GK:bm g=41
 ·refine qD rfl (by simp[GK]) ?_;refine zQ 1 ?_;refine qD rfl (by simp[GK]) ?_;refine zQ 4 ?_;obtain⟨_,st,hev,rfl,s4,hN,hH⟩:=hwr _ (hbd (by omega)) hH;refine qv hev ?_;refine zQ 5 ?_;refine EvC.ret ⟨rx,_,_,_,rfl,ab (rfl),?_⟩;exact⟨s4,hN,a_.af aU hH⟩
 refine qE rfl (by simp[GK]) ?_;refine zQ 5 ?_
 by_cases AO:bm g=124
 ·refine qD rfl (by simp[AO]) ?_;refine zQ 1 ?_;refine qD rfl (by simp[AO]) ?_;refine zQ 4 ?_;obtain⟨_,st,hev,rfl,s4,hN,hH⟩:=hwr _ (hbd (by omega)) hH;refine qv hev ?_;refine zQ 5 ?_;refine EvC.ret ⟨rx,_,_,_,rfl,ab (rfl),?_⟩;exact⟨s4,hN,a_.af aU hH⟩
 refine qE rfl (by simp[AO]) ?_;refine zQ 4 ?_
 by_cases cm:bm g=-1
 ·refine qD rfl (by simp[cm]) ?_;refine zQ 4 ?_;obtain⟨_,st,hev,rfl,s4,hN,hH⟩:=hwr _ (I_ cm) hH;refine qv hev ?_;refine zQ 5 ?_;refine EvC.ret ⟨rx,_,_,_,rfl,ab (rfl),?_⟩;exact⟨s4,hN,a_.af aU hH⟩
 refine qE rfl (by simp[cm]) ?_;refine zQ 1 ?_;have hR:=hgo cm;unfold iH at hR;rw[if_neg (by omega),if_neg (by omega),if_neg (by omega),if_neg (by omega),if_neg (by omega),if_neg (by omega),if_neg (by omega)] at hR;rw[gh cm] at hR;rw[show HI ((g.1:Nat):Int)=[(((g.1:Nat):Int),((g.1:Nat):Int))] from iy KM,←gh cm] at hR;refine zQ 4 ?_;refine EvO.c9 (qs:=[(0,_),(1,_)]) rfl rfl rfl rfl ⟨rfl,(ev rfl),(by rfl),rfl,(ev rfl),(by rfl),trivial⟩ (by intro q hq;simp only[List.mem_cons,List.not_mem_nil,or_false] at hq;rcases hq with rfl|rfl<;>exact⟨rfl,by exact Nat.le_of_ble_eq_true rfl⟩) (by show List.foldl _ [_,_] _=_;dsimp only[List.foldl_cons,List.foldl_nil,u2,u1]<;>rfl) (put_T rfl _) ?_;refine qh (s:=2) (vs:=[_]) hH fun k75 st Ls hH=>?_;dsimp only[u2,u1,u3,u4,setMany,u5,u6,D.cells,Nat.reduceAdd,aC,ai,ah,ay] at hH;obtain⟨_,st,hev,kk,rfl,hkk,hH⟩:=kr (x:=.win k75 0 0 1 2) rfl hH;refine qv hev ?_;refine zQ 2 ?_;have hH:Has N S2 st (.lst (.win kk 0 0 1 7) 7 [[.int .i64 2,.win k75 0 0 1 2,.int .i64 0,.int .i64 0,.bool false,.int .i64 0,.int .i64 0]]::.lst (.win k75 0 0 1 2) 2 (([(bm g,bm g)]:List Rg).map ag)::.box k (.mem 0 false (aC rD aD {s with i:=s.i+1}))::.lst rD 1 ((gs.map bm).map ai)::.lst aD 1 (bB.map ah)::H):=hH;have hfz:=q' (L:=s0.bs.length) hH at0 at1 (fun k hk=>by simp only[D.ref] at hk;rw[←aU];omega) (fun k hk=>by simp only[D.ref] at hk;rw[←aU];omega);exact EvC.ret ⟨rx,_,_,_,rfl,ab hfz,{s with i:=s.i+1},⟨hg,by show s.i≤s.i+1;omega,_,rfl,s8 (by simp) (by omega),by simp,oM 2 _ hR⟩,a_.af aU (hH.drop 2)⟩
theorem sP {m:Nat} {gs:List (Nat×Nat)} {A:PF} (hA:∀m',m'+1=m→yc A gs m') {N k:Nat} {S s0:St} {H:List bG} {bB:List Int} {rD aD:D} {s:et} (deep:Nat) (hok:ow gs bB) (he:s.e=0) (hi:s.i<gs.length) (hg:s.g≤4) (wE:deep+m=20) (hH:Has N S s0 (.box k (.mem 0 false (aC rD aD s))::.lst rD 1 ((gs.map bm).map ai)::.lst aD 1 (bB.map ah)::H)):
  ∃d ae,Ev pv 37 [.ptr k 0 0,.int .i64 (deep:Nat)] s0 d ae∧∃(s':et),lM gs m (sN A gs m s.i s.g) s s' d 1∧Has N S ae (.box k (.mem 0 false (aC rD aD s'))::.lst rD 1 ((gs.map bm).map ai)::.lst aD 1 (bB.map ah)::H):=by
 have kW:=hok.gl;have hal:=hok.al;refine Ev.gT rfl Nc rfl rfl rfl ?_;refine zE ?_;have a_:=hH;have hH:=hH.aY;have aU:(enterSt .rw s0).bs=s0.bs:=rfl;generalize enterSt .rw s0=S2 at*
 obtain⟨R,hR⟩:∃R,sN A gs m s.i s.g=R:=⟨_,rfl⟩
 rw[hR];unfold sN at hR;refine zQ 8 ?_;obtain⟨_,st,hev,s1,⟨p2,p3,l,rfl,p5,p6,p7⟩,hH⟩:=wW hA deep hok he hi hg wE hH;refine qv hev ?_;refine zQ 2 ?_
 rcases p7 with⟨p7,p8⟩|⟨p7,p8,p9,Oc⟩
 ·have cQ:(s1.e !=0)=true:=by simpa using p7.1
  refine zQ 27 ?_;refine EvC.ret ⟨rx,_,_,_,rfl,ab (rfl),?_⟩;exact⟨s1,⟨p2,p3,l,rfl,p5,p6,.inl ⟨p7.map fun e w h=>by rw[←hR,h],p8⟩⟩,a_.af aU hH⟩
 rw[p9] at hR;simp only at hR;unfold Fo at hR;have cQ:(s1.e !=0)=false:=by simpa using p7
 by_cases hlt:s1.i<gs.length
 ·obtain⟨g,vG⟩:∃g,gs[s1.i]?=some g:=⟨gs[s1.i]'hlt,List.getElem?_eq_getElem _⟩
  have hr1:=ln vG;have i_:decide (((s1.i:Nat):Int)≥((gs.length:Nat):Int))=false:=by rw[decide_eq_false_iff_not];omega
  rw[nU vG (by decide) (by decide),nU vG (by decide) (by decide),nU vG (by decide) (by decide),nU vG (by decide) (by decide)] at hR;simp only[beq_iff_eq] at hR;refine zQ 17 ?_;refine qn ?_ (hR:=hH.rows at1) (hg:=wi cQ);simp only[List.length_map];refine zQ 3 ?_;refine EvC.cond (v:=false) (by dsimp only[Fr.ev,Fr.get,nth,V.look];exact congrArg D.bool i_) (fun h=>by cases h) (fun _=>?_);refine zQ 3 ?_;refine EvO.go (d:=.agg [.int .i64 5,.nul,.int .i64 0,.int .i64 0,.bool false,.int .i64 0,.int .i64 1]) (st1:=_) rfl rfl rfl (by dsimp only[Fr.put,u1,u2]<;>rfl) ?_;refine qa hH fun k6 st EX hH=>?_;dsimp only[u2,u1,u3,u4,setMany,u5,u6,D.cells,Nat.reduceAdd,aC,ai,ah,ay] at hH;refine qS hH at0 fun st hH=>?_;dsimp only[u2,u1,u3,u4,setMany,u5,u6,D.cells,Nat.reduceAdd,aC,ai,ah,ay] at hH;refine zQ 1 ?_
  have hH:Has N S2 st (.box k (.mem 0 false (aC rD aD s1))::.lst rD 1 ((gs.map bm).map ai)::.lst aD 1 (bB.map ah)::.box k6 (.mem 0 false [.int .i64 5,.nul,.int .i64 0,.int .i64 0,.bool false,.int .i64 0,.int .i64 1])::H):=(hH.front at3|>.front at3|>.front at3)
  refine zQ 11 ?_;refine qi hH at1 fun Pt La=>?_;refine zQ 2 ?_;refine EvC.merge (fun fr st=>∃(mn mx:Int) (s2:et) (tmp:List (Nat×D)),fr=⟨39,[.ptr k 0 0,az fr 1,az fr 2,az fr 3,az fr 4,kT l,.ptr k6 0 0,az fr 7,az fr 8,az fr 9,az fr 10,az fr 11,az fr 12,az fr 13,az fr 14,az fr 15,az fr 16,az fr 17,az fr 18,az fr 19,az fr 20,az fr 21,az fr 22,az fr 23,az fr 24,az fr 25,az fr 26,az fr 27,az fr 28,az fr 29,az fr 30,az fr 31,az fr 32,az fr 33,az fr 34,az fr 35,az fr 36,az fr 37,az fr 38],tmp⟩∧Has N S2 st (.box k (.mem 0 false (aC rD aD s2))::.lst rD 1 ((gs.map bm).map ai)::.lst aD 1 (bB.map ah)::.box k6 (.mem 0 false [.int .i64 5,.nul,.int .i64 mn,.int .i64 mx,.bool false,.int .i64 0,.int .i64 1])::H)∧(s2.g≤4)∧(s1.i<s2.i)∧(s2.i≤gs.length+1)∧(dN R s2.e∨s2.e=0∧s2.i≤gs.length∧R=oa gs l s2.g mn mx s2.i)) ?_ ?_
  ·refine zQ 6 ?_;refine zI (fun NW=>?_) fun NW=>?_
   ·rw[if_pos NW] at hR;refine zQ 3 ?_;refine qT hH at3 fun st hH=>?_;dsimp only[u2,u1,u3,u4,setMany,u5,u6,D.cells,Nat.reduceAdd,aC,ai,ah,ay] at hH;refine zQ 9 ?_;refine qT hH at0 fun st hH=>?_;dsimp only[u2,u1,u3,u4,setMany,u5,u6,D.cells,Nat.reduceAdd,aC,ai,ah,ay] at hH;refine zQ 1 ?_;exact⟨0,-1,{s1 with i:=s1.i+1},_,rfl,hH,p2,by show s1.i<s1.i+1;omega,by show s1.i+1≤_;omega,.inr ⟨p7,by show s1.i+1≤_;omega,hR.symm⟩⟩
   rw[if_neg NW] at hR;refine zQ 5 ?_;refine zI (fun NV=>?_) fun NV=>?_
   ·rw[if_pos NV] at hR;refine zQ 3 ?_;refine qT hH at3 fun st hH=>?_;dsimp only[u2,u1,u3,u4,setMany,u5,u6,D.cells,Nat.reduceAdd,aC,ai,ah,ay] at hH;refine zQ 1 ?_;refine qT hH at3 fun st hH=>?_;dsimp only[u2,u1,u3,u4,setMany,u5,u6,D.cells,Nat.reduceAdd,aC,ai,ah,ay] at hH;refine zQ 9 ?_;refine qT hH at0 fun st hH=>?_;dsimp only[u2,u1,u3,u4,setMany,u5,u6,D.cells,Nat.reduceAdd,aC,ai,ah,ay] at hH;refine zQ 1 ?_;exact⟨1,-1,{s1 with i:=s1.i+1},_,rfl,hH,p2,by show s1.i<s1.i+1;omega,by show s1.i+1≤_;omega,.inr ⟨p7,by show s1.i+1≤_;omega,hR.symm⟩⟩
   rw[if_neg NV] at hR;refine zQ 5 ?_;refine zI (fun NU=>?_) fun NU=>?_
   ·rw[if_pos NU] at hR;refine zQ 3 ?_;refine qT hH at3 fun st hH=>?_;dsimp only[u2,u1,u3,u4,setMany,u5,u6,D.cells,Nat.reduceAdd,aC,ai,ah,ay] at hH;refine zQ 9 ?_;refine qT hH at0 fun st hH=>?_;dsimp only[u2,u1,u3,u4,setMany,u5,u6,D.cells,Nat.reduceAdd,aC,ai,ah,ay] at hH;refine zQ 1 ?_;exact⟨0,1,{s1 with i:=s1.i+1},_,rfl,hH,p2,by show s1.i<s1.i+1;omega,by show s1.i+1≤_;omega,.inr ⟨p7,by show s1.i+1≤_;omega,hR.symm⟩⟩
   rw[if_neg NU] at hR;refine zQ 5 ?_;refine zI (fun GM=>?_) fun GM=>?_
   ·rw[if_pos GM] at hR;refine zQ 2 ?_;obtain⟨_,st,hev,n1,n2,s2,rfl,⟨m1,m2,m3,m4⟩,hH⟩:=sQ (s:=s1) hok p7 hlt hH;refine qv hev ?_;refine zQ 4 ?_;refine qT hH at3 fun st hH=>?_;dsimp only[u2,u1,u3,u4,setMany,u5,u6,D.cells,Nat.reduceAdd,aC,ai,ah,ay] at hH;refine zQ 1 ?_;refine qT hH at3 fun st hH=>?_;dsimp only[u2,u1,u3,u4,setMany,u5,u6,D.cells,Nat.reduceAdd,aC,ai,ah,ay] at hH;refine zQ 1 ?_
    have h5:dN R s2.e∨s2.e=0∧s2.i≤gs.length∧R=oa gs l s2.g n1 n2 s2.i:=by
     rcases m4 with m4|⟨m4,m5,m6⟩
     ·exact .inl (m4.map fun e w h=>by rw[←hR,h])
     ·exact .inr ⟨m4,m5,by rw[←hR,m6,m1]⟩
    exact⟨n1,n2,s2,_,rfl,hH,by omega,m2,m3,h5⟩
   rw[if_neg GM] at hR;refine zQ 5 ?_;refine EvC.ret ⟨rx,_,_,_,rfl,ab (rfl),?_⟩;exact⟨s1,⟨p2,p3,l,rfl,p5,p6,.inr ⟨p7,p8,hR.symm,by omega⟩⟩,a_.af aU (hH.erase 3)⟩
  ·rintro fr st ⟨mn,mx,s2,tmp,hfr,hH,h2,h3,h4,h5⟩;rw[hfr];clear hfr;generalize az fr=ee;clear fr
   have Ji:s2.e=0→R=oa gs l s2.g mn mx s2.i:=fun e=>by
    rcases h5 with h5|h5
    ·exact absurd e h5.1
    ·exact h5.2.2
   unfold oa at Ji;refine zQ 2 ?_;refine EvC.fF (fun fr st=>∃(lz:Bool) (s3:et) (tmp:List (Nat×D)),fr=⟨39,[.ptr k 0 0,az fr 1,az fr 2,az fr 3,az fr 4,kT l,.ptr k6 0 0,az fr 7,az fr 8,az fr 9,az fr 10,az fr 11,az fr 12,az fr 13,az fr 14,az fr 15,az fr 16,az fr 17,az fr 18,az fr 19,az fr 20,az fr 21,az fr 22,az fr 23,az fr 24,az fr 25,az fr 26,az fr 27,az fr 28,az fr 29,az fr 30,az fr 31,az fr 32,az fr 33,az fr 34,az fr 35,az fr 36,az fr 37,az fr 38],tmp⟩∧Has N S2 st (.box k (.mem 0 false (aC rD aD s3))::.lst rD 1 ((gs.map bm).map ai)::.lst aD 1 (bB.map ah)::.box k6 (.mem 0 false [.int .i64 5,.nul,.int .i64 mn,.int .i64 mx,.bool lz,.int .i64 0,.int .i64 1])::H)∧(s3.g=s2.g)∧(s3.e=s2.e)∧(s2.i≤s3.i)∧(s3.i≤gs.length+1)∧(s2.e=0→s3.i≤gs.length∧R=.ok (dw 5 mn mx lz 0 1 []::l,s3.g) s3.i)) ?_ ?_
   ·refine zQ 2 ?_;obtain⟨_,st,hev,rfl,hH⟩:=bz (s:=s2) (by omega) (by omega) 63 (by decide) (by decide) hH;refine qv hev ?_;refine zQ 1 ?_
    cases hb:bJ gs s2.i 63 with
    |true=>
     have IB:=cE hb;rw[hb,if_pos rfl] at Ji;refine zQ 4 ?_;refine qT hH at3 fun st hH=>?_;dsimp only[u2,u1,u3,u4,setMany,u5,u6,D.cells,Nat.reduceAdd,aC,ai,ah,ay] at hH;refine zQ 9 ?_;refine qT hH at0 fun st hH=>?_;dsimp only[u2,u1,u3,u4,setMany,u5,u6,D.cells,Nat.reduceAdd,aC,ai,ah,ay] at hH;refine zQ 1 ?_;exact⟨true,{s2 with i:=s2.i+1},_,rfl,hH,rfl,rfl,by show s2.i≤s2.i+1;omega,by show s2.i+1≤_;omega,fun e=>⟨by show s2.i+1≤_;omega,Ji e⟩⟩
    |false=>
     rw[hb,if_neg (by simp)] at Ji;refine zQ 2 ?_
     have nZ:s2.e=0→s2.i≤gs.length:=fun e=>by
      rcases h5 with h5|h5
      ·exact absurd e h5.1
      ·exact h5.2.1
     exact⟨false,s2,_,rfl,hH,rfl,rfl,Nat.le_refl _,h4,fun e=>⟨nZ e,Ji e⟩⟩
   ·rintro fr st ⟨lz,s3,tmp,hfr,hH,y1,y2,y3,y4,y5⟩;rw[hfr];clear hfr;generalize az fr=ee;clear fr;have hla:=(jP p5).arg N S2;refine zQ 2 ?_;refine EvO.hloadS (m:=7) hH rfl (ev rfl) (by exact at3) (by dsimp only[List.drop_succ_cons,List.drop_zero,List.take_succ_cons,List.take_zero,aC,ai,ah,ay]<;>rfl) rfl rfl (put_T rfl _) ?_;refine qh (s:=7) (vs:=[_]) hH fun k91 st QY hH=>?_;dsimp only[u2,u1,u3,u4,setMany,u5,u6,D.cells,Nat.reduceAdd,aC,ai,ah,ay] at hH;refine qm ?_;refine EvO.gD (s:=7) hH rfl (ev rfl) (ev rfl) at0 ((jP p5).rows st) rfl rfl rfl rfl rfl rfl rfl ⟨(Nat.le_of_ble_eq_true rfl),(Nat.le_of_ble_eq_true rfl)⟩ (fun _=>(put_T rfl _)) (by simp only[List.length_map,List.length_cons,List.length_nil];omega) (.inr (kC p5)) (fun k hk=>by have jv:k91+1=k+1:=hk;omega) (fun O7 st q_ hH=>?_);dsimp only[u2] at hH;refine zQ 2 ?_;have hH:Has N S2 st (.lst O7 7 ([.int .i64 5,.nul,.int .i64 mn,.int .i64 mx,.bool lz,.int .i64 0,.int .i64 1]::l.map ay)::.box k (.mem 0 false (aC rD aD s3))::.lst rD 1 ((gs.map bm).map ai)::.lst aD 1 (bB.map ah)::.box k6 (.mem 0 false [.int .i64 5,.nul,.int .i64 mn,.int .i64 mx,.bool lz,.int .i64 0,.int .i64 1])::H):=hH
    have hfz:=dW (L:=s0.bs.length) (l:=dw 5 mn mx lz 0 1 []::l) hH at0 (by rw[List.map_cons,kD p5];rfl) (fun e he d hd=>by
     rcases List.mem_cons.1 he with rfl|he
     ·simp only[List.mem_cons,List.not_mem_nil,or_false] at hd
      rcases hd with rfl|rfl|rfl|rfl|rfl|rfl|rfl<;>rfl
     ·exact iw p5 e he d hd) (fun k hk=>by rw[←aU];exact q_ k hk) (n:=16) (by decide)
    refine EvC.ret ⟨rx,_,_,_,rfl,ab hfz,⟨s3,⟨by omega,by omega,_,rfl,?_,by simp only[List.length_cons];omega,?_⟩,a_.af aU ((hH.drop 1).erase 3)⟩⟩
    ·intro n hn
     rcases List.mem_cons.1 hn with rfl|hn
     ·exact⟨rfl,by simp[dw],by simp[dw]⟩
     ·exact p5 n hn
    ·by_cases e0:s2.e=0
     ·have:=y5 e0;exact .inr ⟨by omega,this.1,this.2,by simp only[List.length_cons];omega⟩
     ·refine .inl ⟨?_,by omega⟩;rw[y2]
      rcases h5 with h5|h5
      ·exact h5
      ·exact absurd h5.1 e0
 ·have JP:∀r:Int,bJ gs s1.i r=false:=fun r=>by
   cases h:bJ gs s1.i r with
   |true=>exact absurd (cE h) hlt
   |false=>rfl
  rw[JP,JP,JP,JP] at hR;simp only[Bool.false_eq_true,if_false] at hR;have i_:decide (((s1.i:Nat):Int)≥((gs.length:Nat):Int))=true:=by rw[decide_eq_true_eq];omega
  refine zQ 17 ?_;refine qn ?_ (hR:=hH.rows at1) (hg:=wi cQ);simp only[List.length_map];refine zQ 3 ?_;refine EvC.cond (v:=true) (by dsimp only[Fr.ev,Fr.get,nth,V.look];exact congrArg D.bool i_) (fun _=>?_) (fun h=>by cases h);refine zQ 5 ?_;refine EvC.ret ⟨rx,_,_,_,rfl,ab (rfl),?_⟩;exact⟨s1,⟨p2,p3,l,rfl,p5,p6,.inr ⟨p7,p8,hR.symm,by omega⟩⟩,a_.af aU hH⟩
def jV (fr:Go.V.Fr) (k:Nat):Go.V.D:=Go.V.nth .junk fr.loc k
theorem zL {A:PF} {gs:List (Nat×Nat)} {m i g:Nat} (h:bJ gs i 41=true):sN A gs m i g=.er 4 i:=by
 have hlt:=cE h;have hg:gs[i]?=some gs[i]:=List.getElem?_eq_getElem hlt;generalize gs[i]=q at hg;unfold bJ at h;rw[hg] at h;simp only[beq_iff_eq] at h;unfold sN n9;rw[hg];simp only
 split
 ·rename_i h1
  split at h1
  ·cases h1;rfl
  ·unfold iH at h1;rw[h] at h1;simp at h1;rw[←h1.1,←h1.2]
 ·rename_i h1
  split at h1
  ·cases h1
  ·unfold iH at h1;rw[h] at h1;simp at h1
theorem rC {m:Nat} {gs:List (Nat×Nat)} {A:PF} (hA:∀m',m'+1=m→yc A gs m') {N k:Nat} {S s0:St} {H:List bG} {bB:List Int} {rD aD:D} {s:et} (deep:Nat) (hok:ow gs bB) (he:s.e=0) (hi:s.i≤gs.length) (hg:s.g≤4) (wE:deep+m=20) (hH:Has N S s0 (.box k (.mem 0 false (aC rD aD s))::.lst rD 1 ((gs.map bm).map ai)::.lst aD 1 (bB.map ah)::H)):
  ∃d ae,Ev pv 26 [.ptr k 0 0,.int .i64 (deep:Nat)] s0 d ae∧∃(s':et),oU gs m (vZ A gs m s.i s.g) s s' d∧Has N S ae (.box k (.mem 0 false (aC rD aD s'))::.lst rD 1 ((gs.map bm).map ai)::.lst aD 1 (bB.map ah)::H):=by
 have kW:=hok.gl;have hal:=hok.al;refine Ev.gT rfl Nq rfl rfl rfl ?_;refine zE ?_;have a_:=hH;have hH:=hH.aY;have aU:(enterSt .rw s0).bs=s0.bs:=rfl;generalize enterSt .rw s0=S2 at*
 obtain⟨R,hR⟩:∃R,vZ A gs m s.i s.g=R:=⟨_,rfl⟩
 rw[hR];unfold vZ at hR;refine zQ 8 ?_
 have hH:Has N S2 S2 (.box k (.mem 0 false (aC rD aD s))::.lst rD 1 ((gs.map bm).map ai)::.lst aD 1 (bB.map ah)::.lst .nul 1 (([]:List (List Nod)).map partC)::H):=((hH.nulE 1).front at3|>.front at3|>.front at3)
 refine zQ 2 ?_;refine EvC.loop (fun mm fr st=>∃(s1:et) (pd:D) (parts:List (List Nod)),fr.clean=⟨6,[.ptr k 0 0,.int .i64 (deep:Nat),jV fr 2,jV fr 3,jV fr 4,pd],[]⟩∧Has N S2 st (.box k (.mem 0 false (aC rD aD s1))::.lst rD 1 ((gs.map bm).map ai)::.lst aD 1 (bB.map ah)::.lst pd 1 (parts.map partC)::H)∧(s1.g≤4)∧(s.i≤s1.i)∧(s1.i≤gs.length+1+m)∧(∀l∈parts,∀n∈l,NdV n)∧(b_ parts+parts.length≤4*(s1.i-s.i)+2)∧(s1.e=0→b_ parts+parts.length≤4*(s1.i-s.i)∧s1.i≤gs.length)∧(dN R s1.e∨s1.e=0∧∃n,gs.length-s1.i<n∧tN A gs m n s1.i s1.g parts=R)∧(gs.length-s1.i+(if s1.e=0 then 1 else 0)≤mm)) (gs.length+1) ?_ ?_
 ·exact⟨s,.nul,[],rfl,hH,hg,Nat.le_refl _,by omega,fun l hl=>(by cases hl),by simp[b_],fun _=>⟨by simp[b_],hi⟩,.inr ⟨he,gs.length+1,by omega,hR⟩,by split<;>omega⟩
 rintro mm fr st ⟨s1,pd,parts,hfr,hH,h2,h3,h4,h5,h6,h7,h8,nr⟩;rw[hfr];clear hfr;generalize jV fr=ee;clear fr
 have gC:∀st:St,((dN R s1.e∧s1.i≤gs.length+1+m)∨(s1.e=0∧s1.i≤gs.length∧R=.ok (b6 3 parts,s1.g) s1.i)∨(m=20∧s1.e=0∧bJ gs s1.i 41=true∧∃w,R=.er 4 w))→Has N S2 st (.box k (.mem 0 false (aC rD aD s1))::.lst rD 1 ((gs.map bm).map ai)::.lst aD 1 (bB.map ah)::.lst pd 1 (parts.map partC)::H)→∃d,Ev pv 28 [.int .i64 3,pd] st d st∧oU gs m R s s1 d∧∃l,d=kT l:=by
  intro st hv hH;obtain⟨hev,j1,j2,j3⟩:=pf 3 (hH.rows at3) h5 (by omega) (by omega);refine⟨_,hev,⟨h2,h3,b6 3 parts,rfl,j1,?_,hv⟩,_,rfl⟩
  by_cases q1:parts.length=1
  ·have:=j2 q1;omega
  ·by_cases q0:parts.length=0
   ·have:parts=[]:=List.length_eq_zero_iff.1 q0;rw[this];show 1≤_;omega
   ·omega
 by_cases he1:s1.e=0
 ·obtain⟨n,tV,dE⟩:=(h8.resolve_left fun h=>absurd he1 h.1).2
  obtain⟨n,rfl⟩:∃m,n=m+1:=⟨n-1,by omega⟩
  unfold tN at dE;rw[if_pos he1] at nr;obtain⟨h7,Mi⟩:=h7 he1;have cQ:(s1.e==0)=true:=by simpa using he1
  by_cases hlt:s1.i<gs.length
  ·have aW:decide (((s1.i:Nat):Int)<((gs.length:Nat):Int))=true:=by rw[decide_eq_true_eq];omega
   cases aZ:(!bJ gs s1.i 124) with
   |false=>
    refine zQ 17 ?_;refine qn ?_ (hR:=hH.rows at1) (hg:=wi cQ);simp only[List.length_map];refine zQ 4 ?_;obtain⟨_,st,hev,rfl,hH⟩:=bz (s:=s1) (by omega) (by omega) 124 (by decide) (by decide) hH;refine qv hev ?_ (hg:=wi aW);refine zQ 10 ?_;obtain⟨_,pO,hQ,l,rfl⟩:=gC _ (.inr (.inl ⟨he1,Mi,by rw[←dE,if_neg (fun h=>by rw[h.2.1] at aZ;simp at aZ)]⟩)) hH;refine zQ 3 ?_;refine qv (pO) ?_;refine zQ 2 ?_;refine EvC.ret ⟨rx,_,_,_,rfl,ab (rfl),?_⟩;exact⟨s1,hQ,a_.af aU (hH.erase 3)⟩
   |true=>
    refine zQ 17 ?_;refine qn ?_ (hR:=hH.rows at1) (hg:=wi cQ);simp only[List.length_map];refine zQ 4 ?_;obtain⟨_,st,hev,rfl,hH⟩:=bz (s:=s1) (by omega) (by omega) 124 (by decide) (by decide) hH;refine qv hev ?_ (hg:=wi aW);refine zQ 4 ?_;obtain⟨_,st,hev,rfl,hH⟩:=bz (s:=s1) (by omega) (by omega) 41 (by decide) (by decide) hH;refine qv hev ?_ (hg:=wi aZ);refine zQ 3 ?_
    cases Eh:bJ gs s1.i 41 with
    |true=>
     refine zQ 2 ?_
     have hv:(s1.e=0∧s1.i≤gs.length∧R=.ok (b6 3 parts,s1.g) s1.i)∨(m=20∧s1.e=0∧bJ gs s1.i 41=true∧∃w,R=.er 4 w):=by
      by_cases hm:m=20
      ·refine .inr ⟨hm,he1,Eh,s1.i,?_⟩;rw[←dE,if_pos ⟨hlt,by simpa using aZ,.inr hm⟩,zL Eh]
      ·refine .inl ⟨he1,Mi,?_⟩;rw[←dE,if_neg (fun h=>by rcases h.2.2 with h|h;rw[Eh] at h;exact absurd h (by simp);exact hm h)]
     obtain⟨_,pO,hQ,l,rfl⟩:=gC _ (.inr hv) hH;refine zQ 3 ?_;refine qv (pO) ?_;refine zQ 2 ?_;refine EvC.ret ⟨rx,_,_,_,rfl,ab (rfl),?_⟩;exact⟨s1,hQ,a_.af aU (hH.erase 3)⟩
    |false=>
     refine zQ 3 ?_;rw[if_pos ⟨hlt,by simpa using aZ,.inl Eh⟩] at dE;refine zQ 4 ?_;obtain⟨_,st,hev,s2,⟨r2,r3,l,rfl,r5,r6,r7⟩,hH⟩:=sP hA (s:=s1) deep hok he1 hlt h2 wE hH;refine qv hev ?_;refine qh (s:=1) (vs:=[_]) hH fun k37 st hk37 hH=>?_;dsimp only[u2,u1,u3,u4,setMany,u5,u6,D.cells,Nat.reduceAdd,aC,ai,ah,partC] at hH;refine EvO.happend (s:=1) hH rfl (ev rfl) (ev rfl) (by exact at4) (by exact hH.rows (by exact at0)) rfl rfl rfl rfl rfl rfl rfl ⟨(Nat.le_of_ble_eq_true rfl),(Nat.le_of_ble_eq_true rfl)⟩ (fun _=>(put_T rfl _)) (by simp only[List.length_cons,List.length_nil,List.length_map]<;>omega) (by exact .inr rfl) (fun x38 st hH=>?_);dsimp only[u2,u1,u3,u4,setMany,u5,u6,D.cells,Nat.reduceAdd,aC,ai,ah,partC] at hH;refine zQ 2 ?_;have hH:=hH.drop 1
     have r8:s2.e=0→l.length+1≤4*(s2.i-s1.i)∧s2.i≤gs.length:=fun e=>by
      rcases r7 with r7|r7
      ·exact absurd e r7.1.1
      ·exact⟨r7.2.2.2,r7.2.1⟩
     have r9:dN R s2.e∨s2.e=0∧∃n,gs.length-s2.i<n∧tN A gs m n s2.i s2.g (parts++[l])=R:=by
      rcases r7 with r7|⟨r7,ED,J9,Sq⟩
      ·exact .inl (r7.1.map fun e w h=>by rw[←dE,h])
      ·rw[J9] at dE;exact .inr ⟨r7,n,by omega,dE⟩
     have HA:gs.length-s2.i+(if s2.e=0 then 1 else 0)≤mm-1:=by
      by_cases e:s2.e=0
      ·have:=r8 e;rw[if_pos e];omega
      ·rw[if_neg e];omega
     have J_:s2.i≤gs.length+1+m:=by
      rcases r7 with r7|r7
      ·exact r7.2
      ·omega
     refine⟨mm-1,by omega,⟨s2,x38,parts++[l],rfl,(by rw[List.map_append];exact hH),r2,by omega,J_,?_,by rw[bK,List.length_append];simp only[b_,List.length_cons,List.length_nil];omega,(fun e=>by have:=r8 e;rw[bK,List.length_append];simp only[b_,List.length_cons,List.length_nil];omega),r9,HA⟩⟩;intro l' hl'
     rcases List.mem_append.1 hl' with hl'|hl'
     ·exact h5 l' hl'
     ·simp only[List.mem_cons,List.not_mem_nil,or_false] at hl';subst hl';exact r5
  ·have aW:decide (((s1.i:Nat):Int)<((gs.length:Nat):Int))=false:=by rw[decide_eq_false_iff_not];omega
   refine zQ 17 ?_;refine qn ?_ (hR:=hH.rows at1) (hg:=wi cQ);simp only[List.length_map];refine zQ 15 ?_;obtain⟨_,pO,hQ,l,rfl⟩:=gC _ (.inr (.inl ⟨he1,Mi,by rw[←dE,if_neg (fun h=>hlt h.1)]⟩)) hH;refine zQ 3 ?_;refine qv (pO) ?_;refine zQ 2 ?_;refine EvC.ret ⟨rx,_,_,_,rfl,ab (rfl),?_⟩;exact⟨s1,hQ,a_.af aU (hH.erase 3)⟩
 ·have cQ:(s1.e==0)=false:=by simpa using he1
  refine zQ 33 ?_;obtain⟨_,pO,hQ,l,rfl⟩:=gC _ (.inl ⟨h8.resolve_right fun h=>he1 h.1,h4⟩) hH;refine zQ 3 ?_;refine qv (pO) ?_;refine zQ 2 ?_;refine EvC.ret ⟨rx,_,_,_,rfl,ab (rfl),?_⟩;exact⟨s1,hQ,a_.af aU (hH.erase 3)⟩
theorem pj {m:Nat} {gs:List (Nat×Nat)} {A:PF} (hA:∀m',m'+1=m→yc A gs m'):yc (wk A gs m) gs m:=by
 intro N k S s0 H bB rD aD s deep hok he hi hg wE hH;have kW:=hok.gl;have hal:=hok.al;refine Ev.gT rfl NH rfl rfl rfl ?_;refine zE ?_;have a_:=hH;have hH:=hH.aY;have aU:(enterSt .rw s0).bs=s0.bs:=rfl;generalize enterSt .rw s0=S2 at*
 obtain⟨R,hR⟩:∃R,wk A gs m s.i s.g=R:=⟨_,rfl⟩
 rw[hR];unfold wk at hR;refine zQ 8 ?_;obtain⟨_,st,hev,s1,⟨p2,p3,l,rfl,p5,p6,p7⟩,hH⟩:=rC hA deep hok he hi hg wE hH;refine qv hev ?_;refine qh (s:=1) (vs:=[_]) hH fun k9 st QZ hH=>?_;dsimp only[u2,u1,u3,u4,setMany,u5,u6,D.cells,Nat.reduceAdd,aC,ai,ah,partC] at hH;refine zQ 2 ?_
 have p4:s1.i≤gs.length+1+m:=by
  rcases p7 with p7|p7|p7
  ·exact p7.2
  ·omega
  ·have:=cE p7.2.2.1;omega
 have Mh:dN R s1.e∨(s1.e=0∧s1.i≤gs.length∧∃n,gs.length-s1.i<n∧ov A gs m n s1.i s1.g [l]=R)∨(m=20∧s1.e=0∧bJ gs s1.i 41=true∧∃w,R=.er 4 w):=by
  rcases p7 with p7|⟨p7,G3,Kb⟩|⟨q1,q2,q3,w,q4⟩
  ·exact .inl (p7.1.map fun e w h=>by rw[←hR,h])
  ·rw[Kb] at hR;exact .inr (.inl ⟨p7,G3,_,by omega,hR⟩)
  ·exact .inr (.inr ⟨q1,q2,q3,w,by rw[←hR,q4]⟩)
 have hH:Has N S2 st (.box k (.mem 0 false (aC rD aD s1))::.lst rD 1 ((gs.map bm).map ai)::.lst aD 1 (bB.map ah)::.lst (.win k9 0 0 1 1) 1 ([l].map partC)::H):=(hH.front at3|>.front at3|>.front at3)
 refine zQ 2 ?_;refine EvC.loop (fun mm fr st=>∃(s1:et) (pd:D) (parts:List (List Nod)),fr.clean=⟨6,[.ptr k 0 0,.int .i64 (deep:Nat),jV fr 2,jV fr 3,jV fr 4,pd],[]⟩∧Has N S2 st (.box k (.mem 0 false (aC rD aD s1))::.lst rD 1 ((gs.map bm).map ai)::.lst aD 1 (bB.map ah)::.lst pd 1 (parts.map partC)::H)∧(s1.g≤4)∧(s.i≤s1.i)∧(s1.i≤gs.length+1+m)∧(∀l∈parts,∀n∈l,NdV n)∧(b_ parts+3*parts.length≤4*(s1.i-s.i)+4)∧(1≤parts.length)∧(dN R s1.e∨(s1.e=0∧s1.i≤gs.length∧∃n,gs.length-s1.i<n∧ov A gs m n s1.i s1.g parts=R)∨(m=20∧s1.e=0∧bJ gs s1.i 41=true∧∃w,R=.er 4 w))∧(gs.length-s1.i≤mm)) (gs.length) ?_ ?_
 ·exact⟨s1,.win k9 0 0 1 1,[l],rfl,hH,p2,p3,p4,(fun l' hl'=>by simp only[List.mem_cons,List.not_mem_nil,or_false] at hl';subst hl';exact p5),by simp only[b_,List.length_cons,List.length_nil];omega,by simp,Mh,by omega⟩
 rintro mm fr st ⟨s1,pd,parts,hfr,hH,h2,h3,h4,h5,h6,h8,h9,nr⟩;rw[hfr];clear hfr;generalize jV fr=ee;clear fr
 have gC:∀st:St,((dN R s1.e∧s1.i≤gs.length+1+m)∨(s1.e=0∧s1.i≤gs.length∧R=.ok (b6 4 parts,s1.g) s1.i)∨(m=20∧s1.e=0∧bJ gs s1.i 41=true∧∃w,R=.er 4 w))→Has N S2 st (.box k (.mem 0 false (aC rD aD s1))::.lst rD 1 ((gs.map bm).map ai)::.lst aD 1 (bB.map ah)::.lst pd 1 (parts.map partC)::H)→∃d,Ev pv 28 [.int .i64 4,pd] st d st∧oU gs m R s s1 d∧∃l,d=kT l:=by
  intro st hv hH;obtain⟨hev,j1,j2,j3⟩:=pf 4 (hH.rows at3) h5 (by omega) (by omega);refine⟨_,hev,⟨h2,h3,b6 4 parts,rfl,j1,?_,hv⟩,_,rfl⟩
  by_cases q1:parts.length=1
  ·have:=j2 q1;omega
  ·omega
 by_cases he1:s1.e=0
 ·have cQ:(s1.e==0)=true:=by simpa using he1
  have JT:s1.i≤1048576:=by omega
  refine zQ 10 ?_;obtain⟨_,st,hev,rfl,hH⟩:=bz (s:=s1) (by omega) JT 124 (by decide) (by decide) hH;refine qv hev ?_ (hg:=wi cQ);refine zQ 2 ?_
  cases hb:bJ gs s1.i 124 with
  |false=>
   refine zQ 2 ?_
   have hv:(s1.e=0∧s1.i≤gs.length∧R=.ok (b6 4 parts,s1.g) s1.i)∨(m=20∧s1.e=0∧bJ gs s1.i 41=true∧∃w,R=.er 4 w):=by
    rcases h9 with h9|⟨_,h9,n,tV,dE⟩|h9
    ·exact absurd he1 h9.1
    ·obtain⟨n,rfl⟩:∃m,n=m+1:=⟨n-1,by omega⟩
     unfold ov at dE;exact .inl ⟨he1,h9,by rw[←dE,if_neg (by rw[hb];simp)]⟩
    ·exact .inr h9
   obtain⟨_,pO,hQ,l,rfl⟩:=gC _ (.inr hv) hH;refine zQ 3 ?_;refine qv (pO) ?_;refine zQ 2 ?_;refine EvC.ret ⟨rx,_,_,_,rfl,ab (rfl),?_⟩;exact⟨s1,hQ,a_.af aU (hH.erase 3)⟩
  |true=>
   have hlt:=cE hb
   obtain⟨n,tV,dE⟩:∃n,gs.length-s1.i<n∧ov A gs m n s1.i s1.g parts=R:=by
    rcases h9 with h9|⟨_,h9,R0⟩|⟨_,_,h9,_⟩
    ·exact absurd he1 h9.1
    ·exact R0
    ·exfalso
     have hg:gs[s1.i]?=some gs[s1.i]:=List.getElem?_eq_getElem hlt;generalize gs[s1.i]=q at hg;unfold bJ at hb h9;rw[hg] at hb h9;simp only[beq_iff_eq] at hb h9;omega
   obtain⟨n,rfl⟩:∃m,n=m+1:=⟨n-1,by omega⟩
   unfold ov at dE;rw[if_pos hb] at dE;refine zQ 12 ?_;refine qT hH at0 fun st hH=>?_;dsimp only[u2,u1,u3,u4,setMany,u5,u6,D.cells,Nat.reduceAdd,aC,ai,ah,partC] at hH;refine zQ 1 ?_;have hH:Has N S2 st (.box k (.mem 0 false (aC rD aD {s1 with i:=s1.i+1}))::.lst rD 1 ((gs.map bm).map ai)::.lst aD 1 (bB.map ah)::.lst pd 1 (parts.map partC)::H):=hH;refine zQ 4 ?_;obtain⟨_,st,hev,s3,⟨r2,r3,l,rfl,r5,r6,r7⟩,hH⟩:=rC hA (s:={s1 with i:=s1.i+1}) deep hok he1 (by show s1.i+1≤_;omega) h2 wE hH;refine qv hev ?_;refine qh (s:=1) (vs:=[_]) hH fun k30 st Re hH=>?_;dsimp only[u2,u1,u3,u4,setMany,u5,u6,D.cells,Nat.reduceAdd,aC,ai,ah,partC] at hH;refine EvO.happend (s:=1) hH rfl (ev rfl) (ev rfl) (by exact at4) (by exact hH.rows (by exact at0)) rfl rfl rfl rfl rfl rfl rfl ⟨(Nat.le_of_ble_eq_true rfl),(Nat.le_of_ble_eq_true rfl)⟩ (fun _=>(put_T rfl _)) (by simp only[List.length_cons,List.length_nil,List.length_map]<;>omega) (by exact .inr rfl) (fun Pc st hH=>?_);dsimp only[u2,u1,u3,u4,setMany,u5,u6,D.cells,Nat.reduceAdd,aC,ai,ah,partC] at hH;refine zQ 2 ?_;have hH:=hH.drop 1;simp only at r3 r6 r7
   have r9:dN R s3.e∨(s3.e=0∧s3.i≤gs.length∧∃n,gs.length-s3.i<n∧ov A gs m n s3.i s3.g (parts++[l])=R)∨(m=20∧s3.e=0∧bJ gs s3.i 41=true∧∃w,R=.er 4 w):=by
    rcases r7 with r7|⟨r7,Pl,ED⟩|⟨q1,q2,q3,w,q4⟩
    ·exact .inl (r7.1.map fun e w h=>by rw[←dE,h])
    ·rw[ED] at dE;exact .inr (.inl ⟨r7,Pl,n,by omega,dE⟩)
    ·exact .inr (.inr ⟨q1,q2,q3,w,by rw[←dE,q4]⟩)
   have J_:s3.i≤gs.length+1+m:=by
    rcases r7 with r7|r7|r7
    ·exact r7.2
    ·omega
    ·have:=cE r7.2.2.1;omega
   refine⟨mm-1,by omega,⟨s3,Pc,parts++[l],rfl,(by rw[List.map_append];exact hH),r2,by omega,J_,?_,by rw[bK,List.length_append];simp only[b_,List.length_cons,List.length_nil];omega,by rw[List.length_append];omega,r9,by omega⟩⟩;intro l' hl'
   rcases List.mem_append.1 hl' with hl'|hl'
   ·exact h5 l' hl'
   ·simp only[List.mem_cons,List.not_mem_nil,or_false] at hl';subst hl';exact r5
 ·have cQ:(s1.e==0)=false:=by simpa using he1
  refine zQ 15 ?_
  have hE:dN R s1.e:=by
   rcases h9 with h9|h9|h9
   ·exact h9
   ·exact absurd h9.1 he1
   ·exact absurd h9.2.1 he1
  obtain⟨_,pO,hQ,l,rfl⟩:=gC _ (.inl ⟨hE,h4⟩) hH;refine zQ 3 ?_;refine qv (pO) ?_;refine zQ 2 ?_;refine EvC.ret ⟨rx,_,_,_,rfl,ab (rfl),?_⟩;exact⟨s1,hQ,a_.af aU (hH.erase 3)⟩
theorem wX (gs:List (Nat×Nat)) (m:Nat):yc (qz gs m) gs m:=by
 induction m with
 |zero=>exact pj (fun m' h=>by omega)
 |succ m ih=>exact pj (fun m' h=>by cases h;exact@ih)
def cy (c:Nat):Nat:=if c<128 then 1 else if c<194 then 0 else if c<224 then 2 else if c<240 then 3 else if c<245 then 4 else 0
theorem yB (c : Nat) (st : St) : Ev pv 46 [.int .u8 c] st (.int .i64 (cy c : Nat)) st := by
 refine Ev.mk1 rfl M5 rfl rfl rfl ?_;refine zE ?_;unfold cy
 repeat' split
 ·(repeat (first | refine xT ?_ | refine xL ?_ | refine xN ?_ | refine xo ?_ | refine xp ?_ | (refine EvO.nil ?_; try refine zF ?_) | refine qq ?_ | refine EvC.reg ?_ | refine EvC.cond (v := true) rfl (fun _ => ?_) (fun h => by cases h) | refine EvC.cond (v := false) rfl (fun h => by cases h) (fun _ => ?_) | refine EvC.skip ?_ | refine EvC.block ?_ | simp (disch := omega) only [decide_eq_true, decide_eq_false, cL, d_, cK, dZ]));refine EvC.ret ⟨rx, _, rfl, aB (by simp) (by simp [enterSt]) ?_⟩
  rfl
 ·(repeat (first | refine xT ?_ | refine xL ?_ | refine xN ?_ | refine xo ?_ | refine xp ?_ | (refine EvO.nil ?_; try refine zF ?_) | refine qq ?_ | refine EvC.reg ?_ | refine EvC.cond (v := true) rfl (fun _ => ?_) (fun h => by cases h) | refine EvC.cond (v := false) rfl (fun h => by cases h) (fun _ => ?_) | refine EvC.skip ?_ | refine EvC.block ?_ | simp (disch := omega) only [decide_eq_true, decide_eq_false, cL, d_, cK, dZ]));refine EvC.ret ⟨rx, _, rfl, aB (by simp) (by simp [enterSt]) ?_⟩
  rfl
 ·(repeat (first | refine xT ?_ | refine xL ?_ | refine xN ?_ | refine xo ?_ | refine xp ?_ | (refine EvO.nil ?_; try refine zF ?_) | refine qq ?_ | refine EvC.reg ?_ | refine EvC.cond (v := true) rfl (fun _ => ?_) (fun h => by cases h) | refine EvC.cond (v := false) rfl (fun h => by cases h) (fun _ => ?_) | refine EvC.skip ?_ | refine EvC.block ?_ | simp (disch := omega) only [decide_eq_true, decide_eq_false, cL, d_, cK, dZ]));refine EvC.ret ⟨rx, _, rfl, aB (by simp) (by simp [enterSt]) ?_⟩
  rfl
 ·(repeat (first | refine xT ?_ | refine xL ?_ | refine xN ?_ | refine xo ?_ | refine xp ?_ | (refine EvO.nil ?_; try refine zF ?_) | refine qq ?_ | refine EvC.reg ?_ | refine EvC.cond (v := true) rfl (fun _ => ?_) (fun h => by cases h) | refine EvC.cond (v := false) rfl (fun h => by cases h) (fun _ => ?_) | refine EvC.skip ?_ | refine EvC.block ?_ | simp (disch := omega) only [decide_eq_true, decide_eq_false, cL, d_, cK, dZ]));refine EvC.ret ⟨rx, _, rfl, aB (by simp) (by simp [enterSt]) ?_⟩
  rfl
 ·(repeat (first | refine xT ?_ | refine xL ?_ | refine xN ?_ | refine xo ?_ | refine xp ?_ | (refine EvO.nil ?_; try refine zF ?_) | refine qq ?_ | refine EvC.reg ?_ | refine EvC.cond (v := true) rfl (fun _ => ?_) (fun h => by cases h) | refine EvC.cond (v := false) rfl (fun h => by cases h) (fun _ => ?_) | refine EvC.skip ?_ | refine EvC.block ?_ | simp (disch := omega) only [decide_eq_true, decide_eq_false, cL, d_, cK, dZ]));refine EvC.ret ⟨rx, _, rfl, aB (by simp) (by simp [enterSt]) ?_⟩
  rfl
 ·(repeat (first | refine xT ?_ | refine xL ?_ | refine xN ?_ | refine xo ?_ | refine xp ?_ | (refine EvO.nil ?_; try refine zF ?_) | refine qq ?_ | refine EvC.reg ?_ | refine EvC.cond (v := true) rfl (fun _ => ?_) (fun h => by cases h) | refine EvC.cond (v := false) rfl (fun h => by cases h) (fun _ => ?_) | refine EvC.skip ?_ | refine EvC.block ?_ | simp (disch := omega) only [decide_eq_true, decide_eq_false, cL, d_, cK, dZ]));refine EvC.ret ⟨rx, _, rfl, aB (by simp) (by simp [enterSt]) ?_⟩
  rfl
def xi (c:Nat):Nat:=if c=224 then 160 else if c=237 then 128 else if c=240 then 144 else 128
def yW (c:Nat):Nat:=if c=224 then 191 else if c=237 then 159 else if c=240 then 191 else if c=244 then 143 else 191
theorem zA (c d : Nat) (st : St) : Ev pv 47 [.int .u8 c, .int .u8 d] st (.bool (decide (xi c ≤ d ∧ d ≤ yW c))) st := by
 refine Ev.mk1 rfl M4 rfl rfl rfl ?_;refine zE ?_
 have key : (c = 224 ∧ xi c = 160 ∧ yW c = 191) ∨ (c = 237 ∧ xi c = 128 ∧ yW c = 159) ∨ (c = 240 ∧ xi c = 144 ∧ yW c = 191) ∨ (c = 244 ∧ xi c = 128 ∧ yW c = 143) ∨ (c ≠ 224 ∧ c ≠ 237 ∧ c ≠ 240 ∧ c ≠ 244 ∧ xi c = 128 ∧ yW c = 191) := by
  unfold xi yW
  split
  ·omega
  split
  ·omega
  split
  ·omega
  split
  ·omega
  ·omega
 have Kr : d < xi c ∨ (xi c ≤ d ∧ yW c < d) ∨ (xi c ≤ d ∧ d ≤ yW c) := by omega
 generalize xi c = lo at *;generalize yW c = hi at *
 rcases key with ⟨h, rfl, rfl⟩ | ⟨h, rfl, rfl⟩ | ⟨h, rfl, rfl⟩ | ⟨h, rfl, rfl⟩ | ⟨h1, h2, h3, h4, rfl, rfl⟩ <;> rcases Kr with k | ⟨k1, k2⟩ | ⟨k1, k2⟩
 all_goals
  (repeat (first | refine xT ?_ | refine xL ?_ | refine xN ?_ | refine xo ?_ | refine xp ?_ | (refine EvO.nil ?_; try refine zF ?_) | refine qq ?_ | refine EvC.reg ?_ | refine EvC.cond (v := true) rfl (fun _ => ?_) (fun h => by cases h) | refine EvC.cond (v := false) rfl (fun h => by cases h) (fun _ => ?_) | refine EvC.skip ?_ | refine EvC.block ?_ | simp (disch := omega) only [decide_eq_true, decide_eq_false, cL, d_, cK, dZ]));refine EvC.ret ⟨rx, _, rfl, aB (by simp) (by simp [enterSt]) ?_⟩;simp (disch := omega) only [decide_eq_true, decide_eq_false]
  rfl
def jl (c i y:Nat):Bool:=if i=1 then decide (xi c≤y∧y≤yW c) else decide (128≤y∧y≤191)
def f_ (c:Nat):(left i:Nat)→List UInt8→Bool
 |0,_,_=>true
 |_+1,_,[]=>true
 |left+1,i,y::ys=>jl c i y.toNat &&f_ c left (i+1) ys
def ct:List UInt8→Nat×Nat
 |[]=>(0,0)
 |c::xs=>if cy c.toNat=0 then(0,0) else if f_ c.toNat (cy c.toNat-1) 1 xs=true then(if xs.length+1<cy c.toNat then(xs.length+1,cy c.toNat) else(cy c.toNat,cy c.toNat)) else(0,0)
theorem vc (c:Nat):cy c≤4:=by
 unfold cy
 repeat' split
 all_goals omega
theorem Ek {st:St} {x:D} {b:List UInt8} (hb:Bytes st x b) (hlen:b.length≤1048576):Ev pv 36 [x] st (.tup [.int .i64 ((ct b).1:Nat),.int .i64 ((ct b).2:Nat)]) st:=by
 refine Ev.mk1 rfl Nd rfl rfl rfl ?_;refine zE ?_;have hb:=hb.enter .ro;have hbl:=bO b;refine zR ?_;refine zU ?_
 refine zW ?_
 refine EvO.len rfl rfl rfl hb rfl ?_
 refine zW ?_
 refine zW ?_
 rw[hbl]
 cases b with
 |nil=>
  refine zY ?_;refine zN ?_;refine EvC.cond (v:=true) rfl (fun _=>?_) (fun h=>by cases h);refine zR ?_;refine EvC.ret ⟨rx,_,rfl,aB (by simp) (by simp[enterSt]) ?_⟩
  rfl
 |cons c xs=>
 simp only[List.length_cons] at hlen hbl;have hc:=jf c;simp only[List.length_cons];simp(disch:=omega) only[decide_eq_true,decide_eq_false,cL,d_,cK,dZ]
 refine zW ?_
 refine EvO.bQ rfl rfl rfl (fun _=>rfl) rfl rfl hb rfl rfl (by omega) (i:=0) (r:=[.int .u8 (c.toNat:Nat)]) rfl rfl (fun p=>?_);refine EvO.su rfl rfl rfl (yB _ _) ?_;refine zX ?_;refine zN ?_;(repeat refine qq ?_);refine qc (fun h1=>?_) (fun h1=>?_)<;>try simp only[cs] at h1
 ·refine zR ?_;refine EvC.ret ⟨rx,_,rfl,aB (by simp) (by simp[enterSt]) ?_⟩;rw[show ct (c::xs)=(0,0) by simp only[ct];rw[if_pos (by omega)]];rfl
 have Ao:=vc c.toNat;refine EvC.skip<|zU ?_
 refine zW ?_
 refine EvO.bQ rfl rfl rfl (fun _=>rfl) rfl rfl hb rfl rfl (by omega) (i:=0) (r:=[.int .u8 (c.toNat:Nat)]) rfl rfl (fun p=>?_);refine EvO.su rfl rfl rfl (yB _ _) ?_;refine zX ?_;refine zN ?_;refine zR ?_;(repeat refine qq ?_);refine EvC.block ?_;generalize hn:cy c.toNat=n at*;refine EvC.loop (fun j fr ae=>∃(i:Nat),fr.clean=⟨6,[x,.tup [],.int .i64 0,.int .i64 0,.int .i64 (n:Nat),.int .i64 (i:Nat)],[]⟩∧ae=enterSt .ro st∧1≤i∧i+j=n∧f_ c.toNat j i (xs.drop (i-1))=f_ c.toNat (n-1) 1 xs∧i≤xs.length+1) (n-1) ⟨1,rfl,rfl,by omega,by omega,rfl,by omega⟩ ?_;rintro j fr ae ⟨i,hfr,rfl,JU,hij,hS,ON⟩;rw[hfr]
 have fin:(n≤i∨xs.length+1≤i)→ct (c::xs)=if xs.length+1<n then(xs.length+1,n) else(n,n):=by
  intro h
  have ht:f_ c.toNat (n-1) 1 xs=true:=by
   rw[←hS]
   rcases h with h|h
   ·have:j=0:=by omega
    subst this;rfl
   ·have:xs.drop (i-1)=[]:=List.drop_eq_nil_of_le (by omega);rw[this];cases j<;>rfl
  simp only[ct,hn];rw[if_neg (by omega),if_pos ht]
 by_cases h4:i<n
 ·by_cases h5:i<xs.length+1
  ·refine zU ?_
   refine zW ?_
   refine zW ?_
   refine zW ?_
   simp(disch:=omega) only[decide_eq_true,decide_eq_false,cL,d_,cK,dZ]
   refine zW ?_
   refine zW ?_
   refine zW ?_
   refine EvO.len rfl rfl rfl hb rfl ?_;rw[hbl];refine zY ?_;refine zN ?_;refine EvC.cond (v:=true) rfl (fun _=>?_) (fun h=>by cases h);refine EvC.skip ?_;refine qy ?_;(repeat refine qq ?_);refine EvC.block ?_
   obtain⟨j,rfl⟩:∃l,j=l+1:=⟨j-1,by omega⟩
   obtain⟨y,ys,vw⟩:∃y ys,xs.drop (i-1)=y::ys:=by
    cases h:xs.drop (i-1) with
    |nil=>have:=congrArg List.length h;simp at this;omega
    |cons y ys=>exact⟨y,ys,rfl⟩
   have hy:(c::xs)[i]?=some y:=by
    obtain⟨i,rfl⟩:∃i',i=i'+1:=⟨i-1,by omega⟩
    have:=congrArg (fun l=>l[0]?) vw
    simpa using this
   have jh:xs.drop (i+1-1)=ys:=by
    have:=congrArg (fun l=>l.drop 1) vw;simp only[List.drop_drop,List.drop_succ_cons,List.drop_zero] at this;rw[←this];congr 1;omega
   have G7:=lb hy;have Og:=jf y;rw[vw] at hS;simp only[f_] at hS;generalize JY:SeqQ _ _ _ _=K0
   have step:jl c.toNat i y.toNat=true→∀m,K0 .next ⟨6,[x,.tup [],.int .i64 0,.int .i64 0,.int .i64 (n:Nat),.int .i64 (i:Nat)],m⟩ (enterSt .ro st):=by
    intro hg m;subst JY;refine zR ?_;rw[wrap_i64 (by omega) (by omega)];rw[hg,Bool.true_and] at hS;exact⟨j,by omega,i+1,rfl,rfl,by omega,by omega,by rw[jh];exact hS,by omega⟩
   by_cases nZ:i=1
   ·subst nZ;have hx0:xs=y::ys:=vw;subst hx0;refine zU ?_
    refine zW ?_
    refine zW ?_
    refine zW ?_
    refine zW ?_
    refine EvO.bQ rfl rfl rfl (fun _=>rfl) rfl rfl hb rfl rfl (by omega) (i:=0) (r:=[.int .u8 (c.toNat:Nat)]) rfl rfl (fun p=>?_)
    refine zW ?_
    refine EvO.bQ rfl rfl rfl (fun _=>rfl) rfl rfl hb rfl rfl (by omega) (i:=1) (r:=[.int .u8 (y.toNat:Nat)]) rfl rfl (fun p=>?_);refine EvO.su rfl rfl rfl (zA _ _ _) ?_
    by_cases hg:xi c.toNat≤y.toNat∧y.toNat≤yW c.toNat
    ·rw[decide_eq_true hg];refine zX ?_;refine zN ?_;refine EvC.cond (v:=false) rfl (fun h=>by cases h) fun _=>?_;refine EvC.skip ?_;exact step (by unfold jl;rw[if_pos rfl,decide_eq_true hg]) _
    ·rw[decide_eq_false hg];refine zX ?_;refine zN ?_;refine EvC.cond (v:=true) rfl (fun _=>?_) (fun h=>by cases h);refine zR ?_;subst JY;refine EvC.ret ⟨rx,_,rfl,aB (by simp) (by simp[enterSt]) ?_⟩;have:f_ c.toNat (n-1) 1 (y::ys)=false:=by rw[←hS];unfold jl;rw[if_pos rfl,decide_eq_false hg];rfl
     rw[show ct (c::y::ys)=(0,0) by simp only[ct,hn];rw[if_neg (by omega),this];rfl];rfl
   ·refine zU ?_
    refine zW ?_
    refine zW ?_
    simp(disch:=omega) only[decide_eq_true,decide_eq_false,cL,d_,cK,dZ]
    refine zW ?_
    refine zW ?_
    refine zW ?_
    refine zW ?_
    refine zW ?_
    refine zW ?_
    refine zW ?_
    refine zW ?_
    refine zW ?_
    refine zW ?_
    refine zW ?_
    refine zW ?_
    refine zW ?_
    simp(disch:=omega) only[decide_eq_true,decide_eq_false,cL,d_,cK,dZ]
    refine zW ?_
    refine zW ?_
    refine zW ?_
    refine EvO.bQ rfl rfl rfl (fun _=>rfl) rfl rfl hb rfl rfl (by omega) G7 rfl (fun p=>?_)
    by_cases wD:y.toNat<128
    ·refine zY ?_;refine zN ?_;refine EvC.cond (v:=true) rfl (fun _=>?_) (fun h=>by cases h);refine zR ?_;subst JY;refine EvC.ret ⟨rx,_,rfl,aB (by simp) (by simp[enterSt]) ?_⟩;have hf:jl c.toNat i y.toNat=false:=by unfold jl;rw[if_neg nZ,decide_eq_false (by omega)]
     have:f_ c.toNat (n-1) 1 xs=false:=by rw[←hS,hf];rfl
     rw[show ct (c::xs)=(0,0) by simp only[ct,hn];rw[if_neg (by omega),this];rfl];rfl
    ·refine zW ?_
     simp(disch:=omega) only[decide_eq_true,decide_eq_false,cL,d_,cK,dZ]
     refine zW ?_
     refine zW ?_
     refine zW ?_
     refine EvO.bQ rfl rfl rfl (fun _=>rfl) rfl rfl hb rfl rfl (by omega) G7 rfl (fun p=>?_)
     by_cases yX:191<y.toNat
     ·refine zY ?_;refine zN ?_;refine EvC.cond (v:=true) rfl (fun _=>?_) (fun h=>by cases h);refine zR ?_;subst JY;refine EvC.ret ⟨rx,_,rfl,aB (by simp) (by simp[enterSt]) ?_⟩;have hf:jl c.toNat i y.toNat=false:=by unfold jl;rw[if_neg nZ,decide_eq_false (by omega)]
      have:f_ c.toNat (n-1) 1 xs=false:=by rw[←hS,hf];rfl
      rw[show ct (c::xs)=(0,0) by simp only[ct,hn];rw[if_neg (by omega),this];rfl];rfl
     ·refine zY ?_;refine zN ?_;refine EvC.cond (v:=false) rfl (fun h=>by cases h) fun _=>?_;refine EvC.skip ?_;exact step (by unfold jl;rw[if_neg nZ,decide_eq_true (by omega)]) _
  ·refine zU ?_
   refine zW ?_
   refine zW ?_
   refine zW ?_
   simp(disch:=omega) only[decide_eq_true,decide_eq_false,cL,d_,cK,dZ]
   refine zW ?_
   refine zW ?_
   refine zW ?_
   refine EvO.len rfl rfl rfl hb rfl ?_;rw[hbl];refine zY ?_;refine zN ?_;refine EvC.cond (v:=false) rfl (fun h=>by cases h) fun _=>?_;refine EvC.exit ?_;rw[fin (by omega)];refine zU ?_
   refine zW ?_
   refine EvO.len rfl rfl rfl hb rfl ?_;rw[hbl];refine zX ?_;refine zN ?_;refine EvC.cond (v:=true) (by dsimp only[Fr.ev,Fr.get,V.look];rw[decide_eq_true (by omega)]) (fun _=>?_) (fun h=>by cases h);refine zU ?_
   refine zW ?_
   refine EvO.len rfl rfl rfl hb rfl ?_;rw[hbl];refine zX ?_;refine zN ?_;refine EvC.ret ⟨rx,_,rfl,aB (by simp) (by simp[enterSt]) ?_⟩;rw[if_pos (by omega)];rfl
 ·refine zU ?_
  refine zW ?_
  refine zW ?_
  refine zW ?_
  refine zY ?_;refine zN ?_;refine EvC.cond (v:=false) rfl (fun h=>by cases h) fun _=>?_;refine EvC.exit ?_;rw[fin (by omega)];refine zU ?_
  refine zW ?_
  refine EvO.len rfl rfl rfl hb rfl ?_;rw[hbl];refine zX ?_;refine zN ?_;(repeat refine qq ?_);refine qc (fun h9=>?_) (fun h9=>?_)<;>try simp only[cs] at h9
  ·refine zU ?_
   refine zW ?_
   refine EvO.len rfl rfl rfl hb rfl ?_;rw[hbl];refine zX ?_;refine zN ?_;refine EvC.ret ⟨rx,_,rfl,aB (by simp) (by simp[enterSt]) ?_⟩;rw[if_pos (by omega)];rfl
  ·refine EvC.skip<|zR ?_;refine EvC.ret ⟨rx,_,rfl,aB (by simp) (by simp[enterSt]) ?_⟩;rw[if_neg (by omega)];rfl
/- the plain law: the two ways to look at the first rune -/
theorem Ab (c:Nat):(cy c=0∧(aH c).1=-1)∨(cy c=1∧(aH c).1=0)∨(2≤cy c∧(aH c).1=(cy c:Int)-1∧(aH c).2.1=xi c∧(aH c).2.2=yW c):=by
 unfold cy aH xi yW
 by_cases h1:c<128
 ·simp[h1]
 by_cases h2:c<194
 ·simp[h1,h2]
 by_cases h0:245≤c
 ·left;rw[if_neg (by omega),if_neg (by omega),if_neg (by omega),if_neg (by omega),if_neg (by omega),if_neg (by omega),if_neg (by omega),if_neg (by omega),if_neg (by omega),if_neg (by omega),if_neg (by omega),if_neg (by omega),if_neg (by omega),if_neg (by omega)];simp
 right;right
 by_cases h3:c<224
 ·simp only[h1,h2,h3,if_true,if_false];rw[if_neg (by omega),if_neg (by omega),if_neg (by omega),if_neg (by omega),if_neg (by omega),if_neg (by omega),if_neg (by omega)];simp
 by_cases h4:c=224
 ·subst h4;simp
 by_cases h5:c=237
 ·subst h5;simp
 by_cases h6:c<240
 ·simp only[h1,h2,h3,h4,h5,h6,if_true,if_false];rw[if_neg (by omega),if_neg (by omega),if_neg (by omega)];simp
 by_cases h7:c=240
 ·subst h7;simp
 by_cases h8:c<244
 ·simp only[h1,h2,h3,h4,h5,h6,h7,h8,if_true,if_false];rw[if_pos (by omega),if_neg (by omega)];simp
 by_cases h9:c=244
 ·subst h9;simp
 omega
def j0 (r:Nat):Nat→List UInt8→Nat
 |0,_=>r
 |_+1,[]=>r
 |left+1,y::ys=>j0 (r*64+y.toNat %64) left ys
theorem ry (c n:Nat):∀(left i r lo hi:Nat) (xs:List UInt8),1≤i→(∀y,jl c i y=(decide (lo≤y∧y≤hi)))→
  c_ left n r lo hi xs=if f_ c left i xs=true then(if xs.length<left then(0,0,true) else(j0 r left xs,n,false)) else(0,0,false)
 |0,i,r,lo,hi,xs,_,_=>by simp[c_,f_,j0]
 |left+1,i,r,lo,hi,[],_,_=>by simp[c_,f_]
 |left+1,i,r,lo,hi,y::ys,JU,hg=>by
  simp only[c_,f_,hg,j0]
  by_cases hb:lo≤y.toNat∧y.toNat≤hi
  ·rw[if_neg (by omega),decide_eq_true hb,Bool.true_and];rw[ry c n left (i+1) _ 128 191 ys (by omega) (fun z=>by unfold jl;rw[if_neg (by omega)])];simp only[List.length_cons,Nat.add_lt_add_iff_right]
  ·rw[if_pos (by omega),decide_eq_false hb];simp
def iM (c n:Nat):Nat:=if n≤1 then c else c %(64/2^(n-1))
theorem AD (c:UInt8) (xs:List UInt8):dX (c::xs)=if cy c.toNat=0 then(0,0,false) else if f_ c.toNat (cy c.toNat-1) 1 xs=true then(if xs.length<cy c.toNat-1 then(0,0,true) else(j0 (iM c.toNat (cy c.toNat)) (cy c.toNat-1) xs,cy c.toNat,false)) else(0,0,false):=by
 simp only[dX]
 rcases Ab c.toNat with⟨h1,h2⟩|⟨h1,h2⟩|⟨h1,h2,h3,h4⟩
 ·rw[h1,h2];simp
 ·rw[h1,h2];simp[c_,f_,j0,iM]
 ·have hk:(aH c.toNat).1.toNat=cy c.toNat-1:=by omega
  rw[if_neg (show¬(aH c.toNat).1<0 by omega),if_neg (show¬cy c.toNat=0 by omega),if_pos (show(aH c.toNat).1>0 by omega),hk,h3,h4];rw[ry c.toNat _ _ 1 _ _ _ _ (by omega) (fun y=>by unfold jl;rw[if_pos rfl])];have:cy c.toNat-1+1=cy c.toNat:=by omega
  rw[this];have h5:iM c.toNat (cy c.toNat)=c.toNat %(64/2^(cy c.toNat-1)):=by unfold iM;rw[if_neg (by omega)]
  rw[h5]
def x5 (b:List UInt8):Bool:=(dX b).2.2
theorem xF (b:List UInt8):(x5 b=true↔(0<(ct b).1∧(ct b).1<(ct b).2∧(ct b).1=b.length))∧
  (((ct b).1=0∨(ct b).1<(ct b).2)→eY b=(65533,1))∧
  (¬((ct b).1=0∨(ct b).1<(ct b).2)→∃c xs,b=c::xs∧1≤(ct b).2∧(ct b).2≤4∧(ct b).2-1≤xs.length∧eY b=(j0 (iM c.toNat (ct b).2) ((ct b).2-1) xs,(ct b).2)):=by
 cases b with
 |nil=>simp[x5,dX,ct,eY]
 |cons c xs=>
  have hn:=vc c.toNat;simp only[x5,eY,AD,ct]
  by_cases h1:cy c.toNat=0
  ·simp[h1]
  rw[if_neg h1,if_neg h1]
  by_cases h2:f_ c.toNat (cy c.toNat-1) 1 xs=true
  ·rw[if_pos h2,if_pos h2]
   by_cases h3:xs.length+1<cy c.toNat
   ·rw[if_pos (by omega),if_pos h3];simp<;>omega
   ·rw[if_neg (by omega),if_neg h3];refine⟨by simp<;>omega,by simp<;>omega,fun _=>⟨c,xs,rfl,by simp only;omega,by simp only;omega,by simp only;omega,?_⟩⟩;simp only;rw[if_neg h1]
  ·rw[if_neg h2,if_neg h2];simp
end Go.Proofs.YtajblankjjmonaaGreat
