/-
 Of each node how many instructions its code has, and what stands behind it: both lists are filled in place.
-/
import Derived.Test.YtkbacjpologjbaaGreatWGHr
import Derived.Test.YtkbacjpologjbaaGreatWGPh
import Derived.Test.YtkbacjpologjbaaGreatWGJi
set_option maxRecDepth 100000
set_option maxHeartbeats 4000000
set_option linter.unusedSimpArgs false
set_option linter.unusedVariables false
open List renaming length_append→γ,length_map→δ,length_cons→ε,append_assoc→η,getElem?_eq_getElem→ι,mem_cons→κ,not_mem_nil→μ,map_append→ν,append_nil→ξ,length_nil→ο,map_cons→π,mem_append→ρ,mem_of_getElem?→τ,getElem?_set_self→υ,getElem?_map→φ,map_nil→ω,length_set→Γ,nil_append→Δ,cons_append→Ξ,drop_eq_getElem_cons→Ψ,length_take→wt,map_set→v8,set_set→IN,getElem?_set_ne→IS,drop_length→IT,foldl_cons→OF,drop_zero→AN,foldl_nil→AT,replicate→AI,map_map→Qa1,foldl→Qa6
open Nat renaming le_of_ble_eq_true→ζ,reduceAdd→θ,le_refl→χ,add_right_comm→Φ,succ_mul→GB,mul_le_mul→Qa0
open Go.V.D renaming cells→ς
open Go.V.Fr renaming put→ψ
open Int renaming eq_ofNat_of_zero_le→Θ
open Go.V.ab renaming go→Ω,dX→BY,A6→Pd,Gt→Pe,JL→Qa2,eK→Qa3,iq→Qa4,vP→Qa5,cM→Qa7
namespace Go.Proofs.YtkbacjpologjbaaGreat
open Go.V Go
theorem zjpa {A B:Prop} (h:A) (e:A→B:=by intro h;dsimp only[u2,u1,u3,u4,setMany,u5,u6,ς,θ,aK,bC,ax,GK] at h;exact h):B:=e h
theorem zjpb {A B:Prop} (h:A) (e:A→B:=by intro h;dsimp only[u2,u1,u3,u4,setMany,u5,u6,ς,θ,aK,bC,ax,mX] at h;exact h):B:=e h
def aS (fr:Go.V.Fr) (k:Nat):Go.V.D:=Go.V.nth .bo fr.loc k
def qX (es:List Int) (a:Nat) (M:List Int):List Int:=es.take a++M++es.drop (a+M.length)
variable{es M:List Int}{a:Nat}
theorem D' (h:a+M.length≤es.length):(qX es a M).length=es.length:=by
 unfold qX;simp only[γ,wt,List.length_drop];omega
theorem D_:qX es a []=es:=by
 unfold qX;simp
variable{x:Int}
theorem KN (h:a≤es.length):(qX es a (x::M))[a]?=some x:=by
 unfold qX;rw[η,List.getElem?_append_right (by simp only[wt];omega)];simp[Nat.min_eq_left h]
theorem D8 {M':List Int} (h:a+M.length+M'.length≤es.length):qX (qX es a M) (a+M.length) M'=qX es a (M++M'):=by
 unfold qX;have h1:(es.take a++M).length=a+M.length:=by simp only[γ,wt];omega
 rw[List.take_append_of_le_length z0,List.take_of_length_le z0];rw[←h1,List.drop_append,List.drop_eq_nil_of_le z0,Δ,h1,List.drop_drop];simp only[η,γ]
 congr 4
 omega
theorem D9 {v:Int} (h:a+1+M.length≤es.length):(qX es (a+1) M).set a v=qX es a (v::M):=by
 unfold qX;have h1:(es.take a).length=a:=by simp only[wt];omega
 rw[η,List.take_add_one,ι z0];simp only[Option.toList_some,η,Ξ,Δ,ε];rw[List.set_append_right _ _ z0,h1,Nat.sub_self,List.set_cons_zero]
 congr 4
 omega
variable{l:List eE}{d:D}
theorem Hl (hl:l.length≤1048576) (hi:∀n∈l,n.ok) (hd:fg d 7 (l.map bC)):∀(m:Nat) (t:Tr),t.flat.length≤m→t.ok→∀{N:Nat} {S s0:St} {H:List a8} {out:D} {es:List Int} {at_:Nat},h_ l at_ t.flat→es.length=l.length→Has N S s0 (.aC out 1 (es.map ax)::H)→
  ∃r ah,Ev pv 44 [d,out,.int .i64 (at_:Nat)] s0 r ah∧r=.int .i64 ((at_+t.flat.length:Nat):Int)∧Has N S ah (.aC out 1 ((qX es at_ t.zs).map ax)::H):=by
 intro m
 induction m with
 |zero=>intro t h;have:=t.j_;omega
 |succ m ih=>
  rintro⟨n,ks⟩ hm aT N S s0 H out es at_ mc tQ hH;simp only[Tr.ok] at aT;obtain⟨mK,kE⟩:=aT;simp only[Tr.flat,ε] at hm;have hle:=mc.le (by simp[Tr.flat]);simp only[Tr.flat] at mc hle;simp only[ε] at hle;have hn:=mc.head;have mc:=mc.tail;have Rq:=hi n (τ hn);have fU:=nV hn;have Iz:=A2 Rq;have OG:=mK.1;have mi:=bU.nb ks;refine Ev.eH rfl Xv rfl rfl rfl ?_;refine zE ?_;have bD:=hH;have hH:=hH.bf;have bA:(ae .rw s0).bs=s0.bs:=rfl;generalize ae .rw s0=S2 at*;have hc:=hd.arg N S2;refine zQ 8 ?_;refine qr fun p13 Vq=>?_;refine Qa7 rfl z3 z5 rfl (by dsimp only[ψ,u1,u2]<;>rfl) ?_;refine qa hH fun k7 st Rz hH=>?_;refine ab.cF hH rfl z3 z3 (by rfl) (by exact rfl) (by exact aJ) (by exact rfl) (by exact .inr z5) (fun st hH=>?_);dsimp only[u2,u1,u3,u4,setMany,u5,u6,ς,θ,bC,ax] at hH;refine zQ 19 ?_;refine ag.loop (fun mm fr st=>∃(i j ss:Nat) (rest:bU) (tz:List Int),fr.clean=⟨36,[d,out,.int .i64 (at_:Nat),aS fr 3,aS fr 4,aS fr 5,.int .i64 0,.ptr k7 0 0,.int .i64 (j:Nat),.int .i64 ((min ss 401:Nat):Int),aS fr 10,aS fr 11,aS fr 12,aS fr 13,aS fr 14,aS fr 15,aS fr 16,aS fr 17,.int .i64 n.kids,.int .i64 (i:Nat),aS fr 20,aS fr 21,aS fr 22,aS fr 23,aS fr 24,aS fr 25,aS fr 26,aS fr 27,aS fr 28,aS fr 29,aS fr 30,aS fr 31,aS fr 32,aS fr 33,aS fr 34,aS fr 35],[]⟩∧Has N S2 st (.aC out 1 (tz.map ax)::.box k7 (.mem 0 false (bC n))::H)∧(mm=rest.len)∧(i+rest.len=ks.len)∧(h_ l j rest.flat)∧(rest.ok)∧(ss+rest.sz=ks.sz)∧(tz.length=l.length)∧(qX tz j rest.zs=qX es (at_+1) ks.zs)∧(j+rest.flat.length=at_+1+ks.flat.length)∧(rest.flat.length≤m)) (ks.len) ?_ ?_
  ·exact⟨0,at_+1,0,ks,es,rfl,(by have:=hH.front bt;exact this),rfl,by omega,mc,kE,by omega,tQ,rfl,rfl,by omega⟩
  rintro mm fr st ⟨i,j,ss,rest,tz,hfr,hH,Ca,xE,tp,mF,hss,Dh,y5,hj,Oa⟩;rw[hfr];clear hfr;generalize aS fr=ee;clear fr;refine zQ 4 ?_
  cases rest with
  |nil=>
   simp only[bU.len] at xE;simp only[bU.sz] at hss;simp only[bU.flat,ο] at hj;simp only[bU.zs,D_] at y5;have jy:decide ((i:Int)<n.kids)=false:=by rw[decide_eq_false_iff_not];omega
   refine qq<|qE rfl (by rw[jy]) ?_;refine zQ 1 ?_;obtain rfl:ss=ks.sz:=by omega
   have mc:=tp;refine zQ 6 ?_;refine ag.merge (fun fr st=>∃(tmp:List (Nat×D)),fr=⟨36,[d,out,.int .i64 (at_:Nat),aS fr 3,aS fr 4,aS fr 5,.int .i64 0,.ptr k7 0 0,.int .i64 (j:Nat),.int .i64 ((cg n (min ks.sz 401) ks.len:Nat):Int),aS fr 10,aS fr 11,aS fr 12,aS fr 13,aS fr 14,aS fr 15,aS fr 16,aS fr 17,aS fr 18,aS fr 19,aS fr 20,aS fr 21,aS fr 22,aS fr 23,aS fr 24,aS fr 25,aS fr 26,aS fr 27,aS fr 28,aS fr 29,aS fr 30,aS fr 31,aS fr 32,aS fr 33,aS fr 34,aS fr 35],tmp⟩∧Has N S2 st (.aC out 1 (tz.map ax)::.box k7 (.mem 0 false (bC n))::H)) ?_ ?_
   ·refine zQ 7 ?_;generalize hw:min ks.sz 401=w;have NY:w≤401:=by omega
    have jx:ks.len≤9223372036854775→True:=fun _=>trivial
    by_cases q2:n.op=2
    ·have hz:cg n w ks.len=1:=by unfold cg;rw[if_pos (.inl q2)]
     rw[hz];refine qD rfl (by simp[q2]) ?_;refine zQ 1 ?_;refine qD rfl (by simp[q2]) ?_;refine zQ 3 ?_;exact⟨_,rfl,hH⟩
    refine qE rfl (by simp[q2]) ?_;refine zQ 5 ?_
    by_cases q7:n.op=7
    ·have hz:cg n w ks.len=1:=by unfold cg;rw[if_pos (.inr (.inl q7))]
     rw[hz];refine qD rfl (by simp[q7]) ?_;refine zQ 1 ?_;refine qD rfl (by simp[q7]) ?_;refine zQ 3 ?_;exact⟨_,rfl,hH⟩
    refine qE rfl (by simp[q7]) ?_;refine zQ 4 ?_
    by_cases q8:n.op=8
    ·have hz:cg n w ks.len=1:=by unfold cg;rw[if_pos (.inr (.inr q8))]
     rw[hz];refine qD rfl (by simp[q8]) ?_;refine zQ 3 ?_;exact⟨_,rfl,hH⟩
    refine qE rfl (by simp[q8]) ?_
    have hz0:cg n w ks.len=if n.op=4 then w+2*(ks.len-1) else if n.op=6 then w+2 else if n.op=5 then(if n.mx=-1 then n.mn.toNat*w+w+2 else n.mn.toNat*w+(n.mx.toNat-n.mn.toNat)*(w+1)) else w:=by
     unfold cg;rw[if_neg z0]
    rw[hz0];clear hz0;obtain⟨_,kh⟩:=mK;have hq:(n.op=1∧ks.len=0)∨((n.op=3∨n.op=4)∧2≤ks.len)∨(n.op=5∧ks.len=1∧0≤n.mn∧n.mn≤30∧(n.mx=-1∨(n.mn≤n.mx∧n.mx≤30)))∨(n.op=6∧ks.len=1∧1≤n.cap∧n.cap≤4):=by omega
    refine zQ 5 ?_
    by_cases q4:n.op=4
    ·rw[if_pos q4];have hk2:2≤ks.len:=by omega
     refine qD rfl (by simp[q4]) ?_;refine zQ 4 ?_;refine Qa3 (z:=((ks.len-1:Nat):Int)) rfl z3 z3 (by rw[wrap_i64 z0 z0]<;>omega) (aa rfl _) ?_;refine Pd (z:=((2*(ks.len-1):Nat):Int)) rfl z3 z3 (by rw[wrap_i64 z0 z0]<;>omega) (aa rfl _) ?_;refine BY (z:=((w+2*(ks.len-1):Nat):Int)) rfl z3 z3 (by rw[wrap_i64 z0 z0]<;>omega) (aa rfl _) ?_;refine zQ 2 ?_;exact⟨_,rfl,hH⟩
    rw[if_neg q4];refine qE rfl (by simp[q4]) ?_;refine zQ 5 ?_
    by_cases q6:n.op=6
    ·rw[if_pos q6];refine qD rfl (by simp[q6]) ?_;refine zQ 5 ?_;exact⟨_,rfl,hH⟩
    rw[if_neg q6];refine qE rfl (by simp[q6]) ?_;refine zQ 5 ?_
    by_cases q5:n.op=5
    ·rw[if_pos q5];refine qD rfl (by simp[q5]) ?_;refine zQ 6 ?_;have GP:0≤n.mn∧n.mn≤30∧(n.mx=-1∨(n.mn≤n.mx∧n.mx≤30)):=by omega
     obtain⟨a,ha⟩:∃a:Nat,n.mn=(a:Int):=Θ GP.1;have MY:n.mn.toNat=a:=by omega
     have h1:a*w≤30*401:=Qa0 z0 NY;have hmul:n.mn*(w:Int)=((a*w:Nat):Int):=by rw[ha];push_cast;rfl
     rw[MY]
     by_cases HH:n.mx=-1
     ·rw[if_pos HH];refine qD rfl (by simp[HH]) ?_;refine zQ 4 ?_;refine Pd (z:=((a*w:Nat):Int)) rfl z3 z3 (by rw[wrap_i64 z0 z0]<;>omega) (aa rfl _) ?_;refine qm ?_;refine BY (z:=((a*w+w:Nat):Int)) rfl z3 z3 (by rw[wrap_i64 z0 z0]<;>omega) (aa rfl _) ?_;refine BY (z:=((a*w+w+2:Nat):Int)) rfl z3 z3 (by rw[wrap_i64 z0 z0]<;>omega) (aa rfl _) ?_;refine zQ 2 ?_;exact⟨_,rfl,hH⟩
     ·rw[if_neg HH];obtain⟨b,hb⟩:∃b:Nat,n.mx=(b:Int):=Θ z0;have htb:n.mx.toNat=b:=by omega
      have h2:(b-a)*(w+1)≤30*402:=Qa0 z0 z0;rw[htb];refine qE rfl (by simp[HH]) ?_;refine zQ 4 ?_;refine Pd (z:=((a*w:Nat):Int)) rfl z3 z3 (by rw[wrap_i64 z0 z0]<;>omega) (aa rfl _) ?_;refine zQ 4 ?_;refine Qa3 (z:=((b-a:Nat):Int)) rfl z3 z3 (by rw[wrap_i64 z0 z0]<;>omega) (aa rfl _) ?_;refine qm ?_;refine BY (z:=((w+1:Nat):Int)) rfl z3 z3 (by rw[wrap_i64 z0 z0]<;>omega) (aa rfl _) ?_;refine Pd (z:=(((b-a)*(w+1):Nat):Int)) rfl z3 z3 (by rw[wrap_i64 z0 z0]<;>omega) (aa rfl _) ?_;refine BY (z:=((a*w+(b-a)*(w+1):Nat):Int)) rfl z3 z3 (by rw[wrap_i64 z0 z0]<;>omega) (aa rfl _) ?_;refine zQ 2 ?_;exact⟨_,rfl,hH⟩
    ·rw[if_neg q5];refine qE rfl (by simp[q5]) ?_;refine zQ 1 ?_;exact⟨_,rfl,hH⟩
   ·rintro fr st ⟨tmp,hfr,hH⟩;rw[hfr];clear hfr;generalize aS fr=ee;clear fr;have nr:=My (n:=n) (k:=ks.len) (s:=ks.sz);have kH:at_<tz.length:=by omega
    obtain⟨w,hw⟩:∃w,tz[at_]?=some w:=⟨tz[at_]'kH,ι _⟩
    have hr9:=ej hw;refine zQ 5 ?_;refine ab.Qs (z:=((min (cg n ks.sz ks.len) 401:Nat):Int)) (t1:=_) (t2:=_) rfl z3 z3 z0 (aa rfl _) ?_;refine qi hH aJ fun Yu Og=>?_;refine ab.il hH rfl z3 z3 z5 rfl rfl (by exact aJ) z5 (ζ rfl) (by exact .inr rfl) (fun st hH=>?_);dsimp only[u2,u1,u3,u4,setMany,u5,u6,ς,θ,bC,ax] at hH;refine zQ 6 ?_;refine ag.ret ⟨rx,_,_,_,rfl,ai (rfl),?_⟩;have ON:j=at_+(Tr.mk n ks).flat.length:=by simp only[Tr.flat,ε];omega
    refine⟨by rw[ON];rfl,?_⟩
    have gV:qX es at_ (Tr.zs (.mk n ks))=tz.set at_ ((min (cg n ks.sz ks.len) 401:Nat):Int):=by
     rw[y5,D9 (by rw[bU.kR];omega)];rfl
    rw[gV,v8];exact bD.Bf bA (hH.erase 1)
  |cons t ts=>
   simp only[bU.len] at xE Ca;simp only[bU.sz] at hss;simp only[bU.flat,γ] at hj tp Oa;simp only[bU.zs] at y5;simp only[bU.ok] at mF;have jy:decide ((i:Int)<n.kids)=true:=by rw[decide_eq_true_eq];omega
   have UN:=t.j_;have N1:=t.kR;have NU:=ts.kR;have OT:(qX tz j t.zs).length=l.length:=by rw[D' z0];exact Dh
   have hz8:(qX tz j t.zs)[j]?=some ((min t.sz 401:Nat):Int):=by
    obtain⟨n',MR⟩:=t;simp only[Tr.zs,Tr.sz];exact KN z0
   have hr8:=ej hz8;refine qq<|qD rfl (by rw[jy]) ?_;refine zQ 13 ?_;obtain⟨_,st,aA,rfl,hH⟩:=ih t z0 mF.1 tp.left Dh hH;refine qv aA ?_;refine zQ 6 ?_;refine qi hH aJ fun YH Rh=>?_;refine zQ 1 ?_;refine BY (z:=((min ss 401+min t.sz 401:Nat):Int)) rfl z3 z3 (by rw[wrap_i64 z0 z0]<;>omega) (by dsimp only[ψ,u1,u2]<;>rfl) ?_;refine ab.Qs (z:=((min (ss+t.sz) 401:Nat):Int)) (t1:=_) (t2:=_) rfl z3 z3 z0 (by dsimp only[ψ,u1,u2]<;>rfl) ?_;refine zQ 6 ?_;exact⟨mm-1,by omega,⟨i+1,j+t.flat.length,ss+t.sz,ts,qX tz j t.zs,rfl,hH,by omega,by omega,tp.right,mF.2,by omega,OT,by rw[←y5];have:=D8 (es:=tz) (a:=j) (M:=t.zs) (M':=ts.zs) z0;rw[N1] at this;exact this,by omega,by omega⟩⟩
theorem Ml (hl:l.length≤1048576) (hi:∀n∈l,n.ok) (hd:fg d 7 (l.map bC)):∀(m:Nat) (t:Tr),t.flat.length≤m→t.ok→∀{N:Nat} {S s0:St} {H:List a8} {out:D} {es:List Int} {at_:Nat},h_ l at_ t.flat→es.length=l.length→Has N S s0 (.aC out 1 (es.map ax)::H)→
  ∃r ah,Ev pv 45 [d,out,.int .i64 (at_:Nat)] s0 r ah∧r=.int .i64 ((at_+t.flat.length:Nat):Int)∧Has N S ah (.aC out 1 ((qX es at_ (t.es at_)).map ax)::H):=by
 intro m
 induction m with
 |zero=>intro t h;have:=t.j_;omega
 |succ m ih=>
  rintro⟨n,ks⟩ hm aT N S s0 H out es at_ mc tQ hH;simp only[Tr.ok] at aT;obtain⟨mK,kE⟩:=aT;simp only[Tr.flat,ε] at hm;have hle:=mc.le (by simp[Tr.flat]);simp only[Tr.flat] at mc hle;simp only[ε] at hle;have hn:=mc.head;have mc:=mc.tail;have Rq:=hi n (τ hn);have fU:=nV hn;have OG:=mK.1;have mi:=bU.nb ks;refine Ev.eH rfl Xu rfl rfl rfl ?_;refine zE ?_;have bD:=hH;have hH:=hH.bf;have bA:(ae .rw s0).bs=s0.bs:=rfl;generalize ae .rw s0=S2 at*;have hc:=hd.arg N S2;refine zQ 15 ?_;refine qr fun Uw Ov=>?_;refine qf (fo:=6) fun p13 Vq=>?_;refine zQ 4 ?_;refine ag.loop (fun mm fr st=>∃(i j:Nat) (rest:bU) (tz:List Int),fr.clean=⟨16,[d,out,.int .i64 (at_:Nat),aS fr 3,aS fr 4,aS fr 5,.int .i64 0,.int .i64 (j:Nat),aS fr 8,aS fr 9,aS fr 10,aS fr 11,aS fr 12,aS fr 13,.int .i64 n.kids,.int .i64 (i:Nat)],[]⟩∧Has N S2 st (.aC out 1 (tz.map ax)::H)∧(mm=rest.len)∧(i+rest.len=ks.len)∧(h_ l j rest.flat)∧(rest.ok)∧(tz.length=l.length)∧(qX tz j (rest.es j)=qX es (at_+1) (ks.es (at_+1)))∧(j+rest.flat.length=at_+1+ks.flat.length)∧(rest.flat.length≤m)) (ks.len) ?_ ?_
  ·exact⟨0,at_+1,ks,es,rfl,hH,rfl,by omega,mc,kE,tQ,rfl,rfl,by omega⟩
  rintro mm fr st ⟨i,j,rest,tz,hfr,hH,Ca,xE,tp,mF,Dh,y5,hj,Oa⟩;rw[hfr];clear hfr;generalize aS fr=ee;clear fr;refine zQ 4 ?_
  cases rest with
  |nil=>
   simp only[bU.len] at xE;simp only[bU.flat,ο] at hj;simp only[bU.es,D_] at y5;have jy:decide ((i:Int)<n.kids)=false:=by rw[decide_eq_false_iff_not];omega
   have kH:at_<tz.length:=by omega
   obtain⟨w,hw⟩:∃w,tz[at_]?=some w:=⟨tz[at_]'kH,ι _⟩
   have hr9:=ej hw;refine qq<|qE rfl (by rw[jy]) ?_;refine zQ 6 ?_;refine qi hH aJ fun PB Ga=>?_;refine ab.il hH rfl z3 z3 z5 rfl rfl (by exact aJ) z5 (ζ rfl) (by exact .inr rfl) (fun st hH=>?_);dsimp only[u2,u1,u3,u4,setMany,u5,u6,ς,θ,bC,ax] at hH;refine zQ 6 ?_;refine ag.ret ⟨rx,_,_,_,rfl,ai (rfl),?_⟩;have ON:j=at_+(Tr.mk n ks).flat.length:=by simp only[Tr.flat,ε];omega
   refine⟨by rw[ON];rfl,?_⟩
   have gV:qX es at_ (Tr.es (.mk n ks) at_)=tz.set at_ ((j:Nat):Int):=by
    rw[y5,D9 (by rw[bU.kZ];omega)];have:j=at_+1+ks.flat.length:=by omega
    rw[this];rfl
   rw[gV,v8];exact bD.Bf bA hH
  |cons t ts=>
   simp only[bU.len] at xE Ca;simp only[bU.flat,γ] at hj tp Oa;simp only[bU.es] at y5;simp only[bU.ok] at mF;have jy:decide ((i:Int)<n.kids)=true:=by rw[decide_eq_true_eq];omega
   have UN:=t.j_;have N1:=t.kZ j;have NU:=ts.kZ (j+t.flat.length);have OT:(qX tz j (t.es j)).length=l.length:=by rw[D' z0];exact Dh
   refine qq<|qD rfl (by rw[jy]) ?_;refine zQ 7 ?_;obtain⟨_,st,aA,rfl,hH⟩:=ih t z0 mF.1 tp.left Dh hH;refine qv aA ?_;refine zQ 6 ?_;exact⟨mm-1,by omega,⟨i+1,j+t.flat.length,ts,qX tz j (t.es j),rfl,hH,by omega,by omega,tp.right,mF.2,OT,by rw[←y5];have:=D8 (es:=tz) (a:=j) (M:=t.es j) (M':=ts.es (j+t.flat.length)) z0;rw[N1] at this;exact this,by omega,by omega⟩⟩
variable{bb:Bool}
variable{N k:Nat}{S s0:St}{H:List a8}{ks:Nat→Prop}{cd nd zd ed:D}{code:List aL}{y:Int}
theorem iZ {w:D} {op:Int} {rs:List Rg} (hF:S.flr≤N) (hl:code.length≤1048576) (hH:Has N S s0 (.aC w 2 (rs.map au)::.box k (.mem 0 false [cd,nd,zd,ed])::.cP bb ks cd 4 (code.map aK)::H)):
  ∃r ah,Ev pv 46 [.ptr k 0 0,.agg [.int .i64 op,.int .i64 x,.int .i64 y,w]] s0 r ah∧r=.int .i64 (code.length:Nat)∧∃ZC MR,Has N S ah (.box k (.mem 0 false [ZC,nd,zd,ed])::.cP bb MR ZC 4 ((code++[dJ op x y rs]).map aK)::H):=by
 refine Ev.eH rfl Xt rfl rfl rfl ?_;refine zE ?_;change ag _ _ _ _ s0 _;refine zQ 2 ?_;refine qb hH fun k3 st tt hH=>?_;refine zQ 9 ?_;refine ab.aH (m:=4) hH rfl z3 (by exact aJ) (by dsimp only[List.drop_succ_cons,AN,List.take_succ_cons,List.take_zero,aK]<;>rfl) rfl rfl (aa rfl _) ?_;refine qh (s:=4) (vs:=[_]) hH fun k11 st LU hH=>?_;obtain⟨hH,OV⟩:=hH.zC (i:=2) (j:=4) (by decide) cU ie (eG _);dsimp only[u1,u2] at hH;refine ab.p_ hH rfl z3 z3 ie (hH.rows aJ) (.cons (.cons (.plain _ rfl) (.cons (.plain _ rfl) (.cons (.plain _ rfl) (.cons OV .nil)))) .nil) rfl rfl rfl rfl rfl rfl rfl ⟨(ζ rfl),(ζ rfl)⟩ (fun _=>(aa rfl _)) (by simp only[δ,ε,ο];omega) (.inl hF) (fun x12 st hH=>?_);dsimp only[u1,u2] at hH;refine zQ 2 ?_;refine ab.fk hH rfl z3 z3 (by exact hH.nB (by exact ie)) (by exact rfl) (by exact di) (by exact ζ rfl) (by exact .inl hF) (fun st hH=>?_);dsimp only[u2,u1,u3,u4,setMany,u5,u6,ς,θ,aK] at hH;refine zQ 7 ?_;refine Pe hH rfl z3 (by exact ie) rfl (aa rfl _) ?_;simp only[δ,γ,ε,ο];refine Qa3 (z:=((code.length:Nat):Int)) rfl z3 z3 (by rw[wrap_i64 z0 z0]<;>omega) (aa rfl _) ?_;refine zQ 2 ?_;refine ag.ret ⟨rx,_,_,_,rfl,rfl,?_⟩;exact⟨rfl,_,_,by rw[ν];exact hH.drop 3⟩
theorem uh {at_ over:Nat} {lz:Bool} (kH:code[at_]?=some (dJ 2 x y [])) (hl:code.length≤1048576) (hH:Has N S s0 (.box k (.mem 0 false [cd,nd,zd,ed])::.cP bb ks cd 4 (code.map aK)::H)):
  ∃r ah,Ev pv 121 [.ptr k 0 0,.int .i64 (at_:Nat),.int .i64 (over:Nat),.bool lz] s0 r ah∧r=.tup []∧Has N S ah (.box k (.mem 0 false [cd,nd,zd,ed])::.cP bb ks cd 4 ((code.set at_ (rh at_ over lz)).map aK)::H):=by
 have hlt:=bc kH;have fU:(code.map aK)[at_]?=some [.int .i64 2,.int .i64 x,.int .i64 y,.sl []]:=fy kH;have gV:∀a b:List D,(code.map aK).set at_ a=(code.map aK).set at_ a:=fun _ _=>rfl;refine Ev.eH rfl SV rfl rfl rfl ?_;refine zE ?_;have bD:=hH;have hH:=hH.bf;have bA:(ae .rw s0).bs=s0.bs:=rfl;generalize ae .rw s0=S2 at*;refine zQ 13 ?_;refine BY (z:=((at_+1:Nat):Int)) rfl z3 z3 (by rw[wrap_i64 z0 z0]<;>omega) (aa rfl _) ?_;refine qm ?_;refine Qa2 (s:=4) hH rfl z3 z3 (by exact bt) rfl rfl (by exact bc z5) (fun _=>(aa rfl _)) (fun Qi IH=>?_);refine Qa4 (fo:=1) (m:=0) (o2:=1) rfl z3 z5 rfl rfl rfl (fun _=>(aa rfl _)) (fun Qh IG=>?_);refine Qa5 hH rfl z3 z3 z5 rfl rfl (by exact bt) z5 (ζ rfl) (by intro d hd;simp only[κ,μ,or_false] at hd;subst hd;rfl) (by exact .inr rfl) (fun st hH=>?_);dsimp only[u2,u1,u3,u4,setMany,u5,u6,ς,θ,aK] at hH;refine Qa2 (s:=4) hH rfl z3 z3 (by exact bt) rfl rfl (by simp only[δ,Γ]<;>omega) (fun _=>(aa rfl _)) (fun TG LH=>?_);refine Qa4 (fo:=2) (m:=0) (o2:=2) rfl z3 z5 rfl rfl rfl (fun _=>(aa rfl _)) (fun NA C9=>?_);refine Qa5 hH rfl z3 z3 z5 rfl rfl (by exact bt) (υ (by simp only[δ];omega)) (ζ rfl) (by intro d hd;simp only[κ,μ,or_false] at hd;subst hd;rfl) (by exact .inr rfl) (fun st hH=>?_);dsimp only[u1,u2,setMany] at hH;rw[IN] at hH;refine zQ 5 ?_
 cases lz with
 |false=>
  refine zQ 2 ?_;refine⟨fun i h=>(by cases h),_,_,_,rfl,ai rfl,?_⟩;exact⟨rfl,by rw[v8];exact bD.Bg bA hH⟩
 |true=>
  refine zQ 14 ?_;refine BY (z:=((at_+1:Nat):Int)) rfl z3 z3 (by rw[wrap_i64 z0 z0]<;>omega) (aa rfl _) ?_;refine Qa2 (s:=4) hH rfl z3 z3 (by exact bt) rfl rfl (by simp only[δ,Γ]<;>omega) (fun _=>(aa rfl _)) (fun YD Rc=>?_);refine Qa4 (fo:=1) (m:=0) (o2:=1) rfl z3 z5 rfl rfl rfl (fun _=>(aa rfl _)) (fun p40 Vn=>?_);refine Qa5 hH rfl z3 z3 z5 rfl rfl (by exact bt) (υ (by simp only[δ];omega)) (ζ rfl) (by intro d hd;simp only[κ,μ,or_false] at hd;subst hd;rfl) (by exact .inr rfl) (fun st hH=>?_);dsimp only[u1,u2,setMany] at hH;rw[IN] at hH;refine Qa2 (s:=4) hH rfl z3 z3 (by exact bt) rfl rfl (by simp only[δ,Γ]<;>omega) (fun _=>(aa rfl _)) (fun YC Rb=>?_);refine Qa4 (fo:=2) (m:=0) (o2:=2) rfl z3 z5 rfl rfl rfl (fun _=>(aa rfl _)) (fun YB Ra=>?_);refine Qa5 hH rfl z3 z3 z5 rfl rfl (by exact bt) (υ (by simp only[δ];omega)) (ζ rfl) (by intro d hd;simp only[κ,μ,or_false] at hd;subst hd;rfl) (by exact .inr rfl) (fun st hH=>?_);dsimp only[u1,u2,setMany] at hH;rw[IN] at hH;refine zQ 1 ?_;refine⟨fun i h=>(by cases h),_,_,_,rfl,ai rfl,?_⟩;exact⟨rfl,by rw[v8];exact bD.Bg bA hH⟩
end Go.Proofs.YtkbacjpologjbaaGreat
namespace Go.Proofs.YtkbacjpologjbaaGreat
open Go.V Go
def az (fr:Go.V.Fr) (k:Nat):Go.V.D:=Go.V.nth .bo fr.loc k
variable{bb:Bool}
def mX (n:Nat):List D:=[.int .i64 (n:Nat)]
theorem A5 {l:List Nat} {i q:Nat} (h:l[i]?=some q):(l.map mX)[i]?=some (mX q):=by rw[φ,h];rfl
def P0 (bb:Bool) (N:Nat) (S st:St) (k:Nat) (nd zd ed:D) (Z E:List Int) (H:List a8) (code:List aL):Prop:=
 ∃cd ks,Has N S st (.box k (.mem 0 false [cd,nd,zd,ed])::.cP bb ks cd 4 (code.map aK)::.aC zd 1 (Z.map ax)::.aC ed 1 (E.map ax)::H)
def wj (bb:Bool) (l:List eE) (t:Tr):Prop:=∀{N k:Nat} {S s0:St} {H:List a8} {nd zd ed:D} {code:List aL} {Z E:List Int} {at_:Nat},S.flr≤N→fg nd 7 (l.map bC)→h_ l at_ t.flat→h_ Z at_ t.zs→h_ E at_ (t.es at_)→t.ok→code.length+t.sz≤1000000→P0 bb N S s0 k nd zd ed Z E H code→
 ∃r ah,Ev pv 47 [.ptr k 0 0,.int .i64 (at_:Nat)] s0 r ah∧r=.tup []∧P0 bb N S ah k nd zd ed Z E H (code++aU t code.length)
variable{E:List Int}{t:Tr}{a:Nat}
theorem E9 (h:h_ E a (t.es a)):E[a]?=some ((a+t.flat.length:Nat):Int):=by
 obtain⟨n,ks⟩:=t;simp only[Tr.es] at h;rw[h.head];simp only[Tr.flat,ε]
 congr 2;omega
variable{Z:List Int}
theorem DZ (h:h_ Z a t.zs):Z[a]?=some ((min t.sz 401:Nat):Int):=by
 obtain⟨n,ks⟩:=t;simp only[Tr.zs] at h;rw[h.head];rfl
theorem Po {l:List eE} (rY:l.length≤1048576) {m:Nat} (ih:∀t:Tr,t.flat.length≤m→wj bb l t) {n:eE} {ks:bU} (ib:n.op=4) (VG:ks.flat.length≤m) (mK:A3 n ks.len) (kE:ks.ok) {N k:Nat} {S s0:St} {H:List a8} {nd zd ed:D} {code:List aL} {at_:Nat} (hF:S.flr≤N) (Da:fg nd 7 (l.map bC)) (jS:h_ l at_ (n::ks.flat)) (hsz:h_ Z (at_+1) ks.zs) (pH:h_ E (at_+1) (ks.es (at_+1))) (hb:code.length+cg n ks.sz ks.len≤1000000) (hM:P0 bb N S s0 k nd zd ed Z E H code):
  ∃r ah,Ev pv 84 [.ptr k 0 0,.int .i64 (at_:Nat)] s0 r ah∧r=.tup []∧P0 bb N S ah k nd zd ed Z E H (code++f_ (pF (code.length+cg n ks.sz ks.len)) ks code.length):=by
 obtain⟨cd,dk,hH⟩:=hM;have hle:=jS.le (by simp);simp only[ε] at hle;have hn:=jS.head;have jS:=jS.tail;have fU:=nV hn;have OG:=mK.1;have jx:=bU.nb ks
 have hk2:2≤ks.len:=by
  obtain⟨_,hq⟩:=mK;omega
 have LK:cg n ks.sz ks.len=ks.sz+2*(ks.len-1):=by unfold cg;rw[if_neg z0,if_pos ib]
 rw[LK] at hb⊢;clear LK;refine Ev.eH rfl WT rfl rfl rfl ?_;refine zE ?_;change ag _ _ _ _ s0 _;have hc:=Da.arg N S;refine zQ 18 ?_;refine qr fun Uu Ou=>?_;refine qf (fo:=6) fun Qj II=>?_;refine zQ 3 ?_;have hH:Has N S s0 (.box k (.mem 0 false [cd,nd,zd,ed])::.cP bb dk cd 4 (code.map aK)::.aC zd 1 (Z.map ax)::.aC ed 1 (E.map ax)::.aC .nul 1 (([]:List Nat).map mX)::H):=(hH.fG 1).KZ;refine zQ 1 ?_;refine ag.loop (fun mm fr st=>∃(i j:Nat) (rest:bU) (cd jd:D) (dk:Nat→Prop) (bh:List aL) (js:List Nat),fr.clean=⟨68,[.ptr k 0 0,.int .i64 (at_:Nat),az fr 2,az fr 3,jd,.int .i64 (j:Nat),az fr 6,az fr 7,az fr 8,az fr 9,az fr 10,az fr 11,az fr 12,az fr 13,az fr 14,az fr 15,az fr 16,az fr 17,az fr 18,.int .i64 n.kids,.int .i64 (i:Nat),az fr 21,az fr 22,az fr 23,az fr 24,az fr 25,az fr 26,az fr 27,az fr 28,az fr 29,az fr 30,az fr 31,az fr 32,az fr 33,az fr 34,az fr 35,az fr 36,az fr 37,az fr 38,az fr 39,az fr 40,az fr 41,az fr 42,az fr 43,az fr 44,az fr 45,az fr 46,az fr 47,az fr 48,az fr 49,az fr 50,az fr 51,az fr 52,az fr 53,az fr 54,az fr 55,az fr 56,az fr 57,az fr 58,az fr 59,az fr 60,az fr 61,az fr 62,az fr 63,az fr 64,az fr 65,az fr 66,az fr 67],[]⟩∧Has N S st (.box k (.mem 0 false [cd,nd,zd,ed])::.cP bb dk cd 4 (bh.map aK)::.aC zd 1 (Z.map ax)::.aC ed 1 (E.map ax)::.aC jd 1 (js.map mX)::H)∧(mm=rest.len)∧(i+rest.len=ks.len)∧(0<rest.len)∧(h_ l j rest.flat)∧(h_ Z j rest.zs)∧(h_ E j (rest.es j))∧(rest.ok)∧(bh++f_ (pF 0) rest bh.length=code++f_ (pF 0) ks code.length)∧(js++v_ rest bh.length=v_ ks code.length)∧(bh.length+(rest.sz+2*(rest.len-1))=code.length+(ks.sz+2*(ks.len-1)))∧(rest.flat.length≤m)∧(js.length≤i)) (ks.len) ?_ ?_
 ·exact⟨0,at_+1,ks,cd,.nul,dk,code,[],rfl,hH,rfl,by omega,by omega,jS,hsz,pH,kE,rfl,rfl,rfl,VG,by simp⟩
 rintro mm fr st ⟨i,j,rest,cd,jd,dk,bh,js,hfr,hH,Ca,xE,PK,tp,Bo,tm,mF,j9,hjs,hcl,Oa,nX⟩;rw[hfr];clear hfr;generalize az fr=ee;clear fr;refine zQ 4 ?_
 cases rest with
 |nil=>simp[bU.len] at PK
 |cons t ts=>
  simp only[bU.len] at xE Ca hcl;simp only[bU.sz] at hcl;simp only[bU.flat,γ] at tp Oa;simp only[bU.zs] at Bo;simp only[bU.es] at tm;simp only[bU.ok] at mF;have N1:=t.kR;have QP:=t.kZ j;have F_:=c8 t (bh.length+1) mF.1;have U8:=ej (E9 tm.left);have jy:decide ((i:Int)<n.kids)=true:=by rw[decide_eq_true_eq];omega
  refine qq<|qD rfl (by rw[jy]) ?_;refine zQ 17 ?_;refine qr fun YH Rh=>?_;refine qf (fo:=6) fun YG Rf=>?_;refine qR ?_;refine Qa3 (z:=((ks.len-1:Nat):Int)) rfl z3 z3 (by rw[wrap_i64 z0 z0]<;>omega) (by dsimp only[ψ,u1,u2]<;>rfl) ?_;refine zQ 2 ?_
  by_cases s9:ts.len=0
  ·simp only[f_,v_,if_pos s9,ξ] at j9 hjs;have TP:=bU.len_nil s9;subst TP;simp only[bU.sz,bU.len] at hcl xE;have OW:(((i:Nat):Int)==((ks.len-1:Nat):Int))=true:=by rw[beq_iff_eq];omega
   refine qD rfl (by rw[OW]) ?_;refine zQ 4 ?_;obtain⟨_,st,aA,rfl,cd,dk,hH⟩:=ih t z0 hF Da tp.left Bo.left tm.left mF.1 z0 ⟨cd,dk,hH⟩;refine qv aA ?_;refine zQ 5 ?_;refine qn ?_ (hR:=hH.rows ie);simp only[δ];refine zQ 2 ?_;rw[j9] at hH;have hal:=vZ (pF 0) ks code.length kE;obtain⟨ER,EP⟩:=sA (jp:=pF (code.length+(ks.sz+2*(ks.len-1)))) (i0:=pF 0) ks code.length code [] kE rfl;simp only[ξ] at ER EP;have WA:(code++f_ (pF 0) ks code.length).length=code.length+(ks.sz+2*(ks.len-1)):=by rw[γ,hal]
   rw[←hjs] at ER EP;rw[←ER];clear ER j9;generalize code++f_ (pF 0) ks code.length=C0 at*;generalize code.length+(ks.sz+2*(ks.len-1))=e at*;refine zQ 1 ?_;refine ag.loop (fun mm fr st=>∃(q:Nat) (C:List aL),fr.clean=⟨68,[.ptr k 0 0,az fr 1,az fr 2,az fr 3,az fr 4,az fr 5,az fr 6,az fr 7,az fr 8,az fr 9,az fr 10,az fr 11,az fr 12,az fr 13,az fr 14,az fr 15,az fr 16,az fr 17,az fr 18,az fr 19,az fr 20,az fr 21,az fr 22,az fr 23,az fr 24,az fr 25,az fr 26,az fr 27,az fr 28,az fr 29,az fr 30,az fr 31,az fr 32,az fr 33,az fr 34,az fr 35,az fr 36,az fr 37,az fr 38,az fr 39,az fr 40,az fr 41,az fr 42,az fr 43,az fr 44,az fr 45,az fr 46,az fr 47,az fr 48,az fr 49,az fr 50,az fr 51,az fr 52,az fr 53,az fr 54,az fr 55,az fr 56,az fr 57,az fr 58,az fr 59,az fr 60,az fr 61,az fr 62,az fr 63,az fr 64,jd,.int .i64 (js.length:Nat),.int .i64 (q:Nat)],[]⟩∧Has N S st (.box k (.mem 0 false [cd,nd,zd,ed])::.cP bb dk cd 4 (C.map aK)::.aC zd 1 (Z.map ax)::.aC ed 1 (E.map ax)::.aC jd 1 (js.map mX)::H)∧(q+mm=js.length)∧(jV (fun _=>pF e) C (js.drop q)=jV (fun _=>pF e) C0 js)∧(∀p∈js,∃v:Int,C[p]?=some (dJ 3 v 0 []))∧(C.length=e)) (js.length) ?_ ?_
   ·exact⟨0,C0,rfl,hH,by omega,rfl,fun p hp=>⟨_,EP p hp⟩,WA⟩
   rintro mm fr st ⟨q,C,hfr,hH,hq,gD,pQ,PX⟩;rw[hfr];clear hfr;generalize az fr=ee;clear fr;refine zQ 5 ?_;refine zP (fun hlt=>?_) fun hlt=>?_
   ·refine zQ 1 ?_;have GN:q<js.length:=by omega
    obtain⟨p,hp⟩:∃p,js[q]?=some p:=⟨js[q]'GN,ι _⟩
    obtain⟨v,hv⟩:=pQ p (τ hp);have fU:=A5 hp;have mB:=fy hv;have ia:=bc hv;refine zQ 4 ?_;refine qi hH ie fun p69 Vi=>?_;refine zQ 13 ?_;refine Pe hH rfl z3 (by exact bt) rfl (aa rfl _) ?_;simp only[δ];refine Qa2 (s:=4) hH rfl z3 z3 (by exact bt) rfl rfl (by exact bc z5) (fun _=>(aa rfl _)) (fun Yu Og=>?_);refine Qa4 (fo:=1) (m:=0) (o2:=1) rfl z3 z5 rfl rfl rfl (fun _=>(aa rfl _)) (fun p82 aaA=>?_);refine Qa5 hH rfl z3 z3 z5 rfl rfl (by exact bt) z5 (ζ rfl) (by intro d hd;simp only[κ,μ,or_false] at hd;subst hd;rfl) (by exact .inl hF) (fun st hH=>?_);have hH:=zjpb hH;refine zQ 5 ?_
    have tw:js.drop q=p::js.drop (q+1):=by
     rw[Ψ GN]
     congr 1
     exact Option.some.inj ((ι _).symm.trans hp)
    refine⟨mm-1,by omega,⟨q+1,C.set p (pF e),rfl,(by rw[v8,←PX];exact hH),by omega,by rw[tw] at gD;exact gD,?_,by rw[Γ];exact PX⟩⟩;intro p' y7
    by_cases hpp:p'=p
    ·subst hpp;exact⟨_,υ ia⟩
    ·rw[IS (fun e=>hpp e.symm)];exact pQ p' y7
   ·refine zQ 1 ?_;refine⟨fun i h=>(by cases h),_,_,_,rfl,rfl,?_⟩;have IA:q=js.length:=by omega
    rw[IA,IT] at gD;have gD:C=jV (fun _=>pF e) C0 js:=gD;rw[←gD];exact⟨rfl,cd,dk,hH.erase 4⟩
  ·simp only[f_,v_,if_neg s9] at j9 hjs;have OW:(((i:Nat):Int)==((ks.len-1:Nat):Int))=false:=by rw[beq_eq_false_iff_ne];omega
   refine qE rfl (by rw[OW]) ?_;refine zQ 4 ?_;refine Ω (d:=.agg [.int .i64 2,.int .i64 0,.int .i64 0,.nul]) (st1:=_) rfl rfl rfl (by dsimp only[ψ,u1,u2]<;>rfl) ?_;have hH:=hH.fG 2;obtain⟨_,st,aA,rfl,cd,dk,hH⟩:=iZ (rs:=[]) hF z0 hH;refine qv aA ?_;refine zQ 2 ?_;have ot:(bh++[dJ 2 0 0 []]).length=bh.length+1:=by simp
   refine zQ 4 ?_;obtain⟨_,st,aA,rfl,cd,dk,hH⟩:=ih t z0 hF Da tp.left Bo.left tm.left mF.1 z0 ⟨cd,dk,hH⟩;refine qv aA ?_;refine zQ 1 ?_;rw[ot] at hH;have np:(bh++[dJ 2 0 0 []]++aU t (bh.length+1)).length=bh.length+1+t.sz:=by rw[γ,ot,F_]
   refine zQ 4 ?_;refine Ω (d:=.agg [.int .i64 3,.int .i64 0,.int .i64 0,.nul]) (st1:=_) rfl rfl rfl (by dsimp only[ψ,u1,u2]<;>rfl) ?_;have hH:=hH.fG 2;obtain⟨_,st,aA,rfl,cd,dk,hH⟩:=iZ (rs:=[]) hF z0 hH;refine qv aA ?_;refine qh (s:=1) (vs:=[_]) hH fun k47 st VN hH=>?_;refine qP hH ke (hH.rows aJ) fun P3 st hH=>?_;have hH:=zjpb hH;refine zQ 2 ?_;have hH:=hH.drop 1
   have O1:(bh++[dJ 2 0 0 []]++aU t (bh.length+1)++[dJ 3 0 0 []])[bh.length]?=some (dJ 2 0 0 []):=by
    rw[η,η];exact tT _ _ _
   have Ja:(bh++[dJ 2 0 0 []]++aU t (bh.length+1)++[dJ 3 0 0 []]).length=bh.length+1+t.sz+1:=by rw[γ,np];rfl
   have Lt:(bh++[dJ 2 0 0 []]++aU t (bh.length+1)++[dJ 3 0 0 []]).set bh.length (rh bh.length (bh.length+1+t.sz+1) false)=bh++(rh bh.length (bh.length+1+t.sz+1) false::(aU t (bh.length+1)++[pF 0])):=by
    rw[η,η];exact tK _ _ _ _
   have I':(bh++(rh bh.length (bh.length+1+t.sz+1) false::(aU t (bh.length+1)++[pF 0]))).length=bh.length+t.sz+2:=by rw[←Lt,Γ,Ja];omega
   generalize bh++[dJ 2 0 0 []]++aU t (bh.length+1)++[dJ 3 0 0 []]=JU at*;refine zQ 8 ?_;refine Pe hH rfl z3 (by exact bt) rfl (by dsimp only[ψ,u1,u2]<;>rfl) ?_;simp only[δ,γ,ε,ο];obtain⟨_,st,aA,rfl,hH⟩:=uh (at_:=bh.length) (over:=JU.length) (lz:=false) O1 z0 hH;refine qv aA ?_;refine zQ 1 ?_;rw[Ja,Lt] at hH;refine zQ 6 ?_;refine qi hH di fun p62 Vk=>?_;refine zQ 7 ?_;exact⟨mm-1,by omega,⟨i+1,j+t.flat.length,ts,cd,P3,dk,bh++(rh bh.length (bh.length+1+t.sz+1) false::(aU t (bh.length+1)++[pF 0])),js++[bh.length+1+t.sz],rfl,(by rw[ν (f:=mX)];rw[np] at hH;exact hH),by omega,by omega,by omega,tp.right,by rw[←N1];exact Bo.right,by rw[←QP];rw[←QP] at tm;exact tm.right,mF.2,by rw[I',←j9];simp only[η,Ξ,Δ],by rw[I',←hjs];simp only[η,Ξ,Δ],by rw[I'];omega,by omega,by rw[γ];simp only[ε,ο];omega⟩⟩
end Go.Proofs.YtkbacjpologjbaaGreat
namespace Go.Proofs.YtkbacjpologjbaaGreat
open Go.V Go
def af (fr:Go.V.Fr) (k:Nat):Go.V.D:=Go.V.nth .bo fr.loc k
variable{bb:Bool}
theorem w6 {c:Nat→List aL} (hc:∀b,(c b).length=0) (z:Nat):∀k b,gO c z k b=[]
 |0,_=>rfl
 |k+1,b=>by rw[gO,w6 hc z k,List.length_eq_zero_iff.1 (hc b)];rfl
theorem Hj (s o:Nat) (lz:Bool):∃x y:Int,rh s o lz=dJ 2 x y []:=by
 cases lz
 ·exact⟨_,_,rfl⟩
 ·exact⟨_,_,rfl⟩
theorem FP {l:List eE} (rY:l.length≤1048576) {m:Nat} (ih:∀t:Tr,t.flat.length≤m→wj bb l t) {n:eE} {t:Tr} (ib:n.op=5) (VG:t.flat.length≤m) (mK:A3 n 1) (wG:t.ok) {N k:Nat} {S s0:St} {H:List a8} {nd zd ed:D} {code:List aL} {Z E:List Int} {at_:Nat} (hF:S.flr≤N) (Da:fg nd 7 (l.map bC)) (jS:h_ l at_ (n::t.flat)) (hsz:h_ Z (at_+1) t.zs) (pH:h_ E (at_+1) (t.es (at_+1))) (hb:code.length+cg n t.sz 1≤1000000) (hM:P0 bb N S s0 k nd zd ed Z E H code):
  ∃r ah,Ev pv 85 [.ptr k 0 0,.int .i64 (at_:Nat)] s0 r ah∧r=.tup []∧P0 bb N S ah k nd zd ed Z E H (code++rr n (aU t) t.sz code.length):=by
 obtain⟨cd,dk,hH⟩:=hM;have hle:=jS.le (by simp);simp only[ε] at hle;have hn:=jS.head;have jS:=jS.tail;have fU:=nV hn;have mB:=ej (DZ hsz)
 have GP:0≤n.mn∧n.mn≤30∧(n.mx=-1∨(n.mn≤n.mx∧n.mx≤30)):=by
  obtain⟨_,hq⟩:=mK;omega
 have LK:cg n t.sz 1=if n.mx=-1 then n.mn.toNat*t.sz+t.sz+2 else n.mn.toNat*t.sz+(n.mx.toNat-n.mn.toNat)*(t.sz+1):=by unfold cg;rw[if_neg z0,if_neg z0,if_neg z0,if_pos ib]
 rw[LK] at hb;clear LK;have F_:=fun b=>c8 t b wG;have hb1:code.length+n.mn.toNat*t.sz≤1000000:=by split at hb<;>omega
 refine Ev.eH rfl WS rfl rfl rfl ?_;refine zE ?_;change ag _ _ _ _ s0 _;have hc:=Da.arg N S;refine zQ 7 ?_;refine qr fun TH LI=>?_;refine Qa7 rfl z3 z5 rfl (by dsimp only[ψ,u1,u2]<;>rfl) ?_;refine zQ 2 ?_;refine qa hH fun k4 st OJ hH=>?_;refine qS hH aJ fun st hH=>?_;have hH:=zjpb hH;refine zQ 2 ?_;have hH:Has N S st (.box k (.mem 0 false [cd,nd,zd,ed])::.cP bb dk cd 4 (code.map aK)::.aC zd 1 (Z.map ax)::.aC ed 1 (E.map ax)::.box k4 (.mem 0 false (bC n))::H):=hH.KZ;refine zQ 8 ?_;refine qi hH cU fun NA C9=>?_;refine zQ 3 ?_;have Zu:=lB F_ n.mn.toNat code.length;refine ag.merge (fun fr st=>∃(cd:D) (dk:Nat→Prop) (tmp:List (Nat×D)),fr=⟨78,[.ptr k 0 0,.int .i64 (at_:Nat),af fr 2,af fr 3,.ptr k4 0 0,.int .i64 ((at_+1:Nat):Int),af fr 6,af fr 7,af fr 8,af fr 9,af fr 10,af fr 11,af fr 12,af fr 13,af fr 14,af fr 15,af fr 16,af fr 17,af fr 18,af fr 19,af fr 20,af fr 21,af fr 22,af fr 23,af fr 24,af fr 25,af fr 26,af fr 27,af fr 28,af fr 29,af fr 30,af fr 31,af fr 32,af fr 33,af fr 34,af fr 35,af fr 36,af fr 37,af fr 38,af fr 39,af fr 40,af fr 41,af fr 42,af fr 43,af fr 44,af fr 45,af fr 46,af fr 47,af fr 48,af fr 49,af fr 50,af fr 51,af fr 52,af fr 53,af fr 54,af fr 55,af fr 56,af fr 57,af fr 58,af fr 59,af fr 60,af fr 61,af fr 62,af fr 63,af fr 64,af fr 65,af fr 66,af fr 67,af fr 68,af fr 69,af fr 70,af fr 71,af fr 72,af fr 73,af fr 74,af fr 75,af fr 76,af fr 77],tmp⟩∧Has N S st (.box k (.mem 0 false [cd,nd,zd,ed])::.cP bb dk cd 4 ((code++gO (aU t) t.sz n.mn.toNat code.length).map aK)::.aC zd 1 (Z.map ax)::.aC ed 1 (E.map ax)::.box k4 (.mem 0 false (bC n))::H)) ?_ ?_
 ·refine zP (fun hz=>?_) fun hz=>?_
  ·refine zQ 7 ?_;refine ag.loop (fun mm fr st=>∃(i:Nat) (cd:D) (dk:Nat→Prop) (bh:List aL),fr.clean=⟨78,[.ptr k 0 0,.int .i64 (at_:Nat),af fr 2,af fr 3,.ptr k4 0 0,.int .i64 ((at_+1:Nat):Int),af fr 6,af fr 7,af fr 8,af fr 9,af fr 10,af fr 11,af fr 12,af fr 13,af fr 14,af fr 15,af fr 16,af fr 17,af fr 18,af fr 19,af fr 20,af fr 21,af fr 22,af fr 23,af fr 24,af fr 25,af fr 26,af fr 27,.int .i64 n.mn,.int .i64 (i:Nat),af fr 30,af fr 31,af fr 32,af fr 33,af fr 34,af fr 35,af fr 36,af fr 37,af fr 38,af fr 39,af fr 40,af fr 41,af fr 42,af fr 43,af fr 44,af fr 45,af fr 46,af fr 47,af fr 48,af fr 49,af fr 50,af fr 51,af fr 52,af fr 53,af fr 54,af fr 55,af fr 56,af fr 57,af fr 58,af fr 59,af fr 60,af fr 61,af fr 62,af fr 63,af fr 64,af fr 65,af fr 66,af fr 67,af fr 68,af fr 69,af fr 70,af fr 71,af fr 72,af fr 73,af fr 74,af fr 75,af fr 76,af fr 77],[]⟩∧Has N S st (.box k (.mem 0 false [cd,nd,zd,ed])::.cP bb dk cd 4 (bh.map aK)::.aC zd 1 (Z.map ax)::.aC ed 1 (E.map ax)::.box k4 (.mem 0 false (bC n))::H)∧(i+mm=n.mn.toNat)∧(bh++gO (aU t) t.sz mm bh.length=code++gO (aU t) t.sz n.mn.toNat code.length)∧(bh.length+mm*t.sz=code.length+n.mn.toNat*t.sz)) (n.mn.toNat) ?_ ?_
   ·exact⟨0,cd,dk,code,rfl,hH,by omega,rfl,rfl⟩
   rintro mm fr st ⟨i,cd,dk,bh,hfr,hH,hi,nu,hcl⟩;rw[hfr];clear hfr;generalize af fr=ee;clear fr;refine zQ 4 ?_
   cases mm with
   |zero=>
    have jy:decide ((i:Int)<n.mn)=false:=by rw[decide_eq_false_iff_not];omega
    refine qq<|qE rfl (by rw[jy]) ?_;simp only[gO,ξ] at nu;rw[nu] at hH;refine zQ 1 ?_;exact⟨cd,dk,_,rfl,hH⟩
   |succ mm=>
    have jy:decide ((i:Int)<n.mn)=true:=by rw[decide_eq_true_eq];omega
    rw[GB] at hcl;refine qq<|qD rfl (by rw[jy]) ?_;refine zQ 6 ?_;obtain⟨_,st,aA,rfl,cd,dk,hH⟩:=ih t z0 hF Da jS hsz pH wG z0 ⟨cd,dk,hH⟩;refine qv aA ?_;refine zQ 5 ?_;exact⟨mm,by omega,⟨i+1,cd,dk,bh++aU t bh.length,rfl,hH,by omega,by rw[γ,F_,η];exact nu,by rw[γ,F_];omega⟩⟩
  ·refine zQ 1 ?_;have hz0:t.sz=0:=by omega
   have hR0:gO (aU t) t.sz n.mn.toNat code.length=[]:=w6 (fun b=>by rw[F_,hz0]) _ _ _;exact⟨cd,dk,_,rfl,(by rw[hR0,ξ];exact hH)⟩
 ·rintro fr st ⟨cd,dk,tmp,hfr,hH⟩;rw[hfr];clear hfr;generalize af fr=ee;clear fr;have TZ:(code++gO (aU t) t.sz n.mn.toNat code.length).length=code.length+n.mn.toNat*t.sz:=by rw[γ,Zu]
  unfold rr;rw[←TZ];rw[←TZ] at hb1
  have hb2:if n.mx=-1 then(code++gO (aU t) t.sz n.mn.toNat code.length).length+t.sz+2≤1000000 else(code++gO (aU t) t.sz n.mn.toNat code.length).length+(n.mx.toNat-n.mn.toNat)*(t.sz+1)≤1000000:=by
   rw[TZ];split
   ·rename_i h;rw[if_pos h] at hb;omega
   ·rename_i h;rw[if_neg h] at hb;omega
  have L_:∀X:List aL,code++(gO (aU t) t.sz n.mn.toNat code.length++X)=code++gO (aU t) t.sz n.mn.toNat code.length++X:=fun X=>by rw[η]
  simp only[apply_ite (fun X:List aL=>code++X),L_];clear L_ TZ;generalize code++gO (aU t) t.sz n.mn.toNat code.length=cR at*;refine zQ 7 ?_
  by_cases HH:n.mx=-1
  ·rw[if_pos HH];rw[if_pos HH] at hb2;refine qD rfl (by simp[HH]) ?_;refine zQ 3 ?_;refine Ω (d:=.agg [.int .i64 2,.int .i64 0,.int .i64 0,.nul]) (st1:=_) rfl rfl rfl (by dsimp only[ψ,u1,u2]<;>rfl) ?_;have hH:=hH.fG 2;obtain⟨_,st,aA,rfl,cd,dk,hH⟩:=iZ (rs:=[]) hF z0 hH;refine qv aA ?_;refine zQ 2 ?_;have ot:(cR++[dJ 2 0 0 []]).length=cR.length+1:=by simp
   refine zQ 4 ?_;obtain⟨_,st,aA,rfl,cd,dk,hH⟩:=ih t z0 hF Da jS hsz pH wG z0 ⟨cd,dk,hH⟩;refine qv aA ?_;refine zQ 1 ?_;rw[ot] at hH;have np:(cR++[dJ 2 0 0 []]++aU t (cR.length+1)).length=cR.length+1+t.sz:=by rw[γ,ot,F_]
   refine zQ 4 ?_;refine Ω (d:=.agg [.int .i64 3,.int .i64 (cR.length:Nat),.int .i64 0,.nul]) (st1:=_) rfl rfl rfl (by dsimp only[ψ,u1,u2]<;>rfl) ?_;have hH:=hH.fG 2;obtain⟨_,st,aA,rfl,cd,dk,hH⟩:=iZ (rs:=[]) hF z0 hH;refine qv aA ?_;refine zQ 1 ?_
   have O1:(cR++[dJ 2 0 0 []]++aU t (cR.length+1)++[dJ 3 (cR.length:Nat) 0 []])[cR.length]?=some (dJ 2 0 0 []):=by
    rw[η,η];exact tT _ _ _
   have Ja:(cR++[dJ 2 0 0 []]++aU t (cR.length+1)++[dJ 3 (cR.length:Nat) 0 []]).length=cR.length+t.sz+2:=by rw[γ,np];simp only[ε,ο];omega
   have Lt:(cR++[dJ 2 0 0 []]++aU t (cR.length+1)++[dJ 3 (cR.length:Nat) 0 []]).set cR.length (rh cR.length (cR.length+t.sz+2) n.lz)=cR++(rh cR.length (cR.length+t.sz+2) n.lz::(aU t (cR.length+1)++[pF cR.length])):=by
    rw[η,η];exact tK _ _ _ _
   generalize cR++[dJ 2 0 0 []]++aU t (cR.length+1)++[dJ 3 (cR.length:Nat) 0 []]=JU at*;refine zQ 8 ?_;refine Pe hH rfl z3 (by exact bt) rfl (by dsimp only[ψ,u1,u2]<;>rfl) ?_;simp only[δ,γ,ε,ο];refine zQ 2 ?_;obtain⟨_,st,aA,rfl,hH⟩:=uh (at_:=cR.length) (over:=JU.length) (lz:=n.lz) O1 z0 hH;refine qv aA ?_;refine zQ 1 ?_;rw[Ja,Lt] at hH;refine ag.ret ⟨rx,_,_,_,rfl,rfl,?_⟩;exact⟨rfl,cd,dk,hH.erase 4⟩
  ·rw[if_neg HH];rw[if_neg HH] at hb2;refine qE rfl (by simp[HH]) ?_;refine zQ 1 ?_;obtain⟨a,ha⟩:∃a:Nat,n.mn=(a:Int):=Θ GP.1;obtain⟨b,O0⟩:∃b:Nat,n.mx=(b:Int):=Θ z0;have Wf:n.mx.toNat-n.mn.toNat=b-a:=by omega
   rw[Wf] at hb2⊢;refine zQ 11 ?_;refine Qa3 (z:=((b-a:Nat):Int)) rfl z3 z3 (by rw[wrap_i64 z0 z0]<;>omega) (by dsimp only[ψ,u1,u2]<;>rfl) ?_;refine zQ 2 ?_;have hH:Has N S st (.box k (.mem 0 false [cd,nd,zd,ed])::.cP bb dk cd 4 (cR.map aK)::.aC zd 1 (Z.map ax)::.aC ed 1 (E.map ax)::.aC .nul 1 (([]:List Nat).map mX)::.box k4 (.mem 0 false (bC n))::H):=(hH.fG 1).KZ;refine zQ 1 ?_;refine ag.loop (fun mm fr st=>∃(i:Nat) (cd jd:D) (dk:Nat→Prop) (bh:List aL) (js:List Nat),fr.clean=⟨78,[.ptr k 0 0,.int .i64 (at_:Nat),af fr 2,af fr 3,.ptr k4 0 0,.int .i64 ((at_+1:Nat):Int),af fr 6,jd,af fr 8,af fr 9,af fr 10,af fr 11,af fr 12,af fr 13,af fr 14,af fr 15,af fr 16,af fr 17,af fr 18,af fr 19,af fr 20,af fr 21,af fr 22,af fr 23,af fr 24,af fr 25,af fr 26,af fr 27,af fr 28,af fr 29,af fr 30,af fr 31,af fr 32,af fr 33,af fr 34,af fr 35,af fr 36,af fr 37,af fr 38,af fr 39,af fr 40,af fr 41,af fr 42,af fr 43,af fr 44,af fr 45,af fr 46,af fr 47,af fr 48,af fr 49,af fr 50,af fr 51,af fr 52,af fr 53,af fr 54,af fr 55,af fr 56,af fr 57,af fr 58,af fr 59,af fr 60,af fr 61,.int .i64 ((b-a:Nat):Int),.int .i64 (i:Nat),af fr 64,af fr 65,af fr 66,af fr 67,af fr 68,af fr 69,af fr 70,af fr 71,af fr 72,af fr 73,af fr 74,af fr 75,af fr 76,af fr 77],[]⟩∧Has N S st (.box k (.mem 0 false [cd,nd,zd,ed])::.cP bb dk cd 4 (bh.map aK)::.aC zd 1 (Z.map ax)::.aC ed 1 (E.map ax)::.aC jd 1 (js.map mX)::.box k4 (.mem 0 false (bC n))::H)∧(i+mm=b-a)∧(bh++gA (fun _=>dJ 2 0 0 []) (aU t) t.sz mm bh.length=cR++gA (fun _=>dJ 2 0 0 []) (aU t) t.sz (b-a) cR.length)∧(js++AU t.sz mm bh.length=AU t.sz (b-a) cR.length)∧(bh.length+mm*(t.sz+1)=cR.length+(b-a)*(t.sz+1))∧(js.length=i)) (b-a) ?_ ?_
   ·exact⟨0,cd,.nul,dk,cR,[],rfl,hH,by omega,rfl,rfl,rfl,rfl⟩
   rintro mm fr st ⟨i,cd,jd,dk,bh,js,hfr,hH,hi,j9,hjs,hcl,nX⟩;rw[hfr];clear hfr;generalize af fr=ee;clear fr;refine zQ 4 ?_
   cases mm with
   |zero=>
    have jy:decide ((i:Int)<((b-a:Nat):Int))=false:=by rw[decide_eq_false_iff_not];omega
    refine qq<|qE rfl (by rw[jy]) ?_;refine zQ 4 ?_;refine qn ?_ (hR:=hH.rows ie);simp only[δ];refine zQ 2 ?_;simp only[gA,AU,ξ] at j9 hjs;rw[j9] at hH;obtain⟨ER,EP⟩:=rF (sp:=fun s=>rh s (cR.length+(b-a)*(t.sz+1)) n.lz) F_ (i0:=dJ 2 0 0 []) (b-a) cR.length cR [] rfl;simp only[ξ] at ER EP;have WA:(cR++gA (fun _=>dJ 2 0 0 []) (aU t) t.sz (b-a) cR.length).length=cR.length+(b-a)*(t.sz+1):=by rw[γ,uK F_]
    rw[←hjs] at ER EP;rw[←ER];clear ER j9;generalize cR++gA (fun _=>dJ 2 0 0 []) (aU t) t.sz (b-a) cR.length=C0 at*;generalize cR.length+(b-a)*(t.sz+1)=e at*;refine zQ 1 ?_;refine ag.loop (fun mm fr st=>∃(q:Nat) (C:List aL),fr.clean=⟨78,[.ptr k 0 0,af fr 1,af fr 2,af fr 3,.ptr k4 0 0,af fr 5,af fr 6,af fr 7,af fr 8,af fr 9,af fr 10,af fr 11,af fr 12,af fr 13,af fr 14,af fr 15,af fr 16,af fr 17,af fr 18,af fr 19,af fr 20,af fr 21,af fr 22,af fr 23,af fr 24,af fr 25,af fr 26,af fr 27,af fr 28,af fr 29,af fr 30,af fr 31,af fr 32,af fr 33,af fr 34,af fr 35,af fr 36,af fr 37,af fr 38,af fr 39,af fr 40,af fr 41,af fr 42,af fr 43,af fr 44,af fr 45,af fr 46,af fr 47,af fr 48,af fr 49,af fr 50,af fr 51,af fr 52,af fr 53,af fr 54,af fr 55,af fr 56,af fr 57,af fr 58,af fr 59,af fr 60,af fr 61,af fr 62,af fr 63,af fr 64,af fr 65,af fr 66,af fr 67,af fr 68,af fr 69,af fr 70,af fr 71,af fr 72,af fr 73,af fr 74,jd,.int .i64 (js.length:Nat),.int .i64 (q:Nat)],[]⟩∧Has N S st (.box k (.mem 0 false [cd,nd,zd,ed])::.cP bb dk cd 4 (C.map aK)::.aC zd 1 (Z.map ax)::.aC ed 1 (E.map ax)::.aC jd 1 (js.map mX)::.box k4 (.mem 0 false (bC n))::H)∧(q+mm=js.length)∧(jV (fun s=>rh s e n.lz) C (js.drop q)=jV (fun s=>rh s e n.lz) C0 js)∧(∀p∈js,∃x y:Int,C[p]?=some (dJ 2 x y []))∧(C.length=e)) (js.length) ?_ ?_
    ·exact⟨0,C0,rfl,hH,by omega,rfl,fun p hp=>⟨_,_,EP p hp⟩,WA⟩
    rintro mm fr st ⟨q,C,hfr,hH,hq,gD,pQ,PX⟩;rw[hfr];clear hfr;generalize af fr=ee;clear fr;refine zQ 5 ?_;refine zP (fun hlt=>?_) fun hlt=>?_
    ·refine zQ 1 ?_;have GN:q<js.length:=by omega
     obtain⟨p,hp⟩:∃p,js[q]?=some p:=⟨js[q]'GN,ι _⟩
     obtain⟨x,y,hv⟩:=pQ p (τ hp);have fU:=A5 hp;have ia:=bc hv;refine zQ 4 ?_;refine qi hH ie fun TF LF=>?_;refine zQ 10 ?_;refine Pe hH rfl z3 (by exact bt) rfl (aa rfl _) ?_;simp only[δ];refine zQ 2 ?_;obtain⟨_,st,aA,rfl,hH⟩:=uh (at_:=p) (over:=C.length) (lz:=n.lz) hv z0 hH;refine qv aA ?_;refine zQ 5 ?_
     have tw:js.drop q=p::js.drop (q+1):=by
      rw[Ψ GN]
      congr 1
      exact Option.some.inj ((ι _).symm.trans hp)
     refine⟨mm-1,by omega,⟨q+1,C.set p (rh p e n.lz),rfl,(by rw[PX] at hH;exact hH),by omega,by rw[tw] at gD;exact gD,?_,by rw[Γ];exact PX⟩⟩;intro p' y7
     by_cases hpp:p'=p
     ·subst hpp;obtain⟨x',y',QE⟩:=Hj p' e n.lz;exact⟨x',y',by rw[υ ia,QE]⟩
     ·rw[IS (fun e=>hpp e.symm)];exact pQ p' y7
    ·refine zQ 1 ?_;refine⟨fun i h=>(by cases h),_,_,_,rfl,rfl,?_⟩;have IA:q=js.length:=by omega
     rw[IA,IT] at gD;have gD:C=jV (fun s=>rh s e n.lz) C0 js:=gD;rw[←gD];exact⟨rfl,cd,dk,(hH.erase 5).erase 4⟩
   |succ mm=>
    have jy:decide ((i:Int)<((b-a:Nat):Int))=true:=by rw[decide_eq_true_eq];omega
    rw[GB] at hcl;refine qq<|qD rfl (by rw[jy]) ?_;refine zQ 7 ?_;refine Ω (d:=.agg [.int .i64 2,.int .i64 0,.int .i64 0,.nul]) (st1:=_) rfl rfl rfl (by dsimp only[ψ,u1,u2]<;>rfl) ?_;have hH:=hH.fG 2;obtain⟨_,st,aA,rfl,cd,dk,hH⟩:=iZ (rs:=[]) hF z0 hH;refine qv aA ?_;refine qh (s:=1) (vs:=[_]) hH fun k69 st VH hH=>?_;have hH:=zjpb hH;refine qP hH ke (hH.rows aJ) fun Tz st hH=>?_;have hH:=zjpb hH;refine zQ 2 ?_;have hH:=hH.drop 1;have ot:(bh++[dJ 2 0 0 []]).length=bh.length+1:=by simp
    refine zQ 3 ?_;obtain⟨_,st,aA,rfl,cd,dk,hH⟩:=ih t z0 hF Da jS hsz pH wG z0 ⟨cd,dk,hH⟩;refine qv aA ?_;refine zQ 1 ?_;rw[ot] at hH;have np:(bh++[dJ 2 0 0 []]++aU t (bh.length+1)).length=bh.length+1+t.sz:=by rw[γ,ot,F_]
    refine zQ 4 ?_;exact⟨mm,by omega,⟨i+1,cd,Tz,dk,bh++[dJ 2 0 0 []]++aU t (bh.length+1),js++[bh.length],rfl,(by rw[ν (f:=mX)];exact hH),by omega,by rw[np,←j9];simp only[gA,η,Ξ,Δ],by rw[np,←hjs];simp only[AU,η,Ξ,Δ],by rw[np];omega,by rw[γ,nX];rfl⟩⟩
end Go.Proofs.YtkbacjpologjbaaGreat
namespace Go.Proofs.YtkbacjpologjbaaGreat
open Go.V Go
def cq (fr:Go.V.Fr) (k:Nat):Go.V.D:=Go.V.nth .bo fr.loc k
variable{bb:Bool}
theorem BV (t:Tr):iD (.cons t .nil)=aU t:=by
 funext b;simp only[iD,ξ]
theorem Ch (t:Tr):(bU.cons t .nil).sz=t.sz:=by simp only[bU.sz,Nat.add_zero]
theorem La {l:List eE} (rY:l.length≤1048576) (hi:∀n∈l,n.ok):∀(m:Nat) (t:Tr),t.flat.length≤m→wj bb l t:=by
 intro m
 induction m with
 |zero=>intro t h;have:=t.j_;omega
 |succ m ih=>
  rintro⟨n,ks⟩ hm N k S s0 H nd zd ed code Z E at_ hF Da jS hsz pH aT hb hM;have hM0:=hM;obtain⟨cd,dk,hH⟩:=hM;simp only[Tr.ok] at aT;obtain⟨mK,kE⟩:=aT;simp only[Tr.flat,ε] at hm;have hle:=jS.le (by simp[Tr.flat]);simp only[Tr.flat] at jS hle;simp only[ε] at hle;simp only[Tr.zs] at hsz;simp only[Tr.es] at pH;simp only[Tr.sz] at hb;have hn:=jS.head;have Rq:=hi n (τ hn);have C7:=Rq.1.arg N S;have wv:=Rq.2.1;have fU:=nV hn;have OG:=mK.1;have jx:=bU.nb ks;have hcat:=fun b=>qG ks b kE;refine Ev.eH rfl Xs rfl rfl rfl ?_;refine zE ?_;change ag _ _ _ _ s0 _;have hc:=Da.arg N S;refine zQ 7 ?_;refine qr fun YL Ro=>?_;refine Qa7 rfl z3 z5 rfl (by dsimp only[ψ,u1,u2]<;>rfl) ?_;refine qa hH fun k4 st OJ hH=>?_;refine qS hH aJ fun st hH=>?_;have hH:=zjpb hH;refine zQ 1 ?_;have hH:Has N S st (.box k (.mem 0 false [cd,nd,zd,ed])::.cP bb dk cd 4 (code.map aK)::.aC zd 1 (Z.map ax)::.aC ed 1 (E.map ax)::.box k4 (.mem 0 false (bC n))::H):=hH.KZ;refine zQ 11 ?_;refine zI (fun q2=>?_) fun q2=>?_
  ·have Dj:aU (.mk n ks) code.length=[dJ 1 0 0 n.rs]:=by simp only[aU,if_pos q2]
   rw[Dj];have hz:cg n ks.sz ks.len=1:=by unfold cg;rw[if_pos (.inl q2)]
   have hH:=hH.fG 2;refine zQ 4 ?_;refine qP hH aJ (Arg.rows z5 hH) fun Yk st hH=>?_;have hH:=zjpb hH;refine ab.hU (qs:=[(0,_),(3,_)]) rfl rfl rfl rfl ⟨rfl,z3,(by rfl),rfl,z3,(by exact hH.eO (by exact aJ)),trivial⟩ (by intro q hq;simp only[κ,μ,or_false] at hq;rcases hq with rfl|rfl<;>exact⟨rfl,by exact ζ rfl⟩) (by show Qa6 _ [_,_,_,_] _=_;dsimp only[OF,AT,u2,u1]<;>rfl) (by dsimp only[ψ,u1,u2]<;>rfl) ?_;obtain⟨_,st,aA,rfl,cd,dk,hH⟩:=iZ (rs:=n.rs) hF z0 hH;refine qv aA ?_;refine zQ 1 ?_;refine⟨fun i h=>(by cases h),_,_,_,rfl,rfl,?_⟩;exact⟨rfl,cd,dk,hH.erase 4⟩
  refine zQ 5 ?_;refine zI (fun q7=>?_) fun q7=>?_
  ·have Dj:aU (.mk n ks) code.length=[dJ 5 0 0 []]:=by simp only[aU,if_neg q2,if_pos q7]
   rw[Dj];refine zQ 2 ?_;refine Ω (d:=.agg [.int .i64 5,.int .i64 0,.int .i64 0,.nul]) (st1:=_) rfl rfl rfl (by dsimp only[ψ,u1,u2]<;>rfl) ?_;have hH:=hH.fG 2;obtain⟨_,st,aA,rfl,cd,dk,hH⟩:=iZ (rs:=[]) hF z0 hH;refine qv aA ?_;refine zQ 1 ?_;refine⟨fun i h=>(by cases h),_,_,_,rfl,rfl,?_⟩;exact⟨rfl,cd,dk,hH.erase 4⟩
  refine zQ 5 ?_;refine zI (fun q8=>?_) fun q8=>?_
  ·have Dj:aU (.mk n ks) code.length=[dJ 6 0 0 []]:=by simp only[aU,if_neg q2,if_neg q7,if_pos q8]
   rw[Dj];refine zQ 2 ?_;refine Ω (d:=.agg [.int .i64 6,.int .i64 0,.int .i64 0,.nul]) (st1:=_) rfl rfl rfl (by dsimp only[ψ,u1,u2]<;>rfl) ?_;have hH:=hH.fG 2;obtain⟨_,st,aA,rfl,cd,dk,hH⟩:=iZ (rs:=[]) hF z0 hH;refine qv aA ?_;refine zQ 1 ?_;refine⟨fun i h=>(by cases h),_,_,_,rfl,rfl,?_⟩;exact⟨rfl,cd,dk,hH.erase 4⟩
  refine zQ 5 ?_;refine zI (fun q3=>?_) fun q3=>?_
  ·have Dj:aU (.mk n ks) code.length=iD ks code.length:=by simp only[aU,if_neg q2,if_neg q7,if_neg q8,if_pos q3]
   rw[Dj];have hz:cg n ks.sz ks.len=ks.sz:=by unfold cg;rw[if_neg z0,if_neg z0,if_neg z0,if_neg z0]
   rw[hz] at hb;refine zQ 13 ?_;refine ag.loop (fun mm fr st=>∃(i j:Nat) (rest:bU) (cd:D) (dk:Nat→Prop) (bh:List aL),fr.clean=⟨40,[.ptr k 0 0,.int .i64 (at_:Nat),cq fr 2,cq fr 3,.ptr k4 0 0,.int .i64 (j:Nat),cq fr 6,cq fr 7,cq fr 8,cq fr 9,cq fr 10,cq fr 11,cq fr 12,cq fr 13,cq fr 14,cq fr 15,cq fr 16,cq fr 17,cq fr 18,cq fr 19,cq fr 20,cq fr 21,cq fr 22,cq fr 23,cq fr 24,cq fr 25,cq fr 26,cq fr 27,cq fr 28,cq fr 29,cq fr 30,cq fr 31,cq fr 32,cq fr 33,cq fr 34,cq fr 35,cq fr 36,cq fr 37,.int .i64 n.kids,.int .i64 (i:Nat)],[]⟩∧Has N S st (.box k (.mem 0 false [cd,nd,zd,ed])::.cP bb dk cd 4 (bh.map aK)::.aC zd 1 (Z.map ax)::.aC ed 1 (E.map ax)::.box k4 (.mem 0 false (bC n))::H)∧(mm=rest.len)∧(i+rest.len=ks.len)∧(h_ l j rest.flat)∧(h_ Z j rest.zs)∧(h_ E j (rest.es j))∧(rest.ok)∧(bh++iD rest bh.length=code++iD ks code.length)∧(bh.length+rest.sz=code.length+ks.sz)∧(rest.flat.length≤m)) (ks.len) ?_ ?_
   ·exact⟨0,at_+1,ks,cd,dk,code,rfl,hH,rfl,by omega,jS.tail,hsz.tail,pH.tail,kE,rfl,rfl,by omega⟩
   rintro mm fr st ⟨i,j,rest,cd,dk,bh,hfr,hH,Ca,xE,tp,Bo,tm,mF,j9,hcl,Oa⟩;rw[hfr];clear hfr;generalize cq fr=ee;clear fr;refine zQ 4 ?_
   cases rest with
   |nil=>
    simp only[bU.len] at xE;simp only[iD,ξ] at j9;have jy:decide ((i:Int)<n.kids)=false:=by rw[decide_eq_false_iff_not];omega
    refine qq<|qE rfl (by rw[jy]) ?_;refine zQ 1 ?_;refine⟨fun i h=>(by cases h),_,_,_,rfl,rfl,?_⟩;rw[←j9];exact⟨rfl,cd,dk,hH.erase 4⟩
   |cons t ts=>
    simp only[bU.len] at xE Ca;simp only[bU.sz] at hcl;simp only[bU.flat,γ] at tp Oa;simp only[bU.zs] at Bo;simp only[bU.es] at tm;simp only[bU.ok] at mF;simp only[iD] at j9;have N1:=t.kR;have QP:=t.kZ j;have F_:=c8 t bh.length mF.1;have U8:=ej (E9 tm.left);have jy:decide ((i:Int)<n.kids)=true:=by rw[decide_eq_true_eq];omega
    refine qq<|qD rfl (by rw[jy]) ?_;refine zQ 7 ?_;obtain⟨_,st,aA,rfl,cd,dk,hH⟩:=ih t z0 hF Da tp.left Bo.left tm.left mF.1 z0 ⟨cd,dk,hH⟩;refine qv aA ?_;refine zQ 7 ?_;refine qi hH di fun Yz Q9=>?_;refine zQ 7 ?_;exact⟨mm-1,by omega,⟨i+1,j+t.flat.length,ts,cd,dk,bh++aU t bh.length,rfl,hH,by omega,by omega,tp.right,by rw[←N1];exact Bo.right,by rw[←QP];rw[←QP] at tm;exact tm.right,mF.2,by rw[γ,F_,η];exact j9,by rw[γ,F_];omega,by omega⟩⟩
  refine zQ 5 ?_;refine zI (fun q4=>?_) fun q4=>?_
  ·have Dj:aU (.mk n ks) code.length=f_ (pF (code.length+cg n ks.sz ks.len)) ks code.length:=by simp only[aU,if_neg q2,if_neg q7,if_neg q8,if_neg q3,if_pos q4]
   rw[Dj];refine zQ 3 ?_;obtain⟨_,st,aA,rfl,cd,dk,hH⟩:=Po rY ih q4 z0 mK kE hF Da jS hsz.tail pH.tail hb ⟨cd,dk,hH⟩;refine qv aA ?_;refine zQ 1 ?_;refine⟨fun i h=>(by cases h),_,_,_,rfl,rfl,?_⟩;exact⟨rfl,cd,dk,hH.erase 4⟩
  refine zQ 5 ?_;refine zI (fun q5=>?_) fun q5=>?_
  ·have oO:ks.len=1:=by
    obtain⟨_,hq⟩:=mK;omega
   obtain⟨t,rfl⟩:=bU.EC oO;have Dj:aU (.mk n (.cons t .nil)) code.length=rr n (aU t) t.sz code.length:=by simp only[aU,if_neg q2,if_neg q7,if_neg q8,if_neg q3,if_neg q4,if_pos q5,BV,Ch]
   rw[Dj];rw[oO] at mK hb;rw[Ch] at hb;simp only[bU.flat,bU.zs,bU.es,bU.ok,ξ] at*;refine zQ 3 ?_;obtain⟨_,st,aA,rfl,cd,dk,hH⟩:=FP rY ih q5 z0 mK kE.1 hF Da jS hsz.tail pH.tail hb ⟨cd,dk,hH⟩;refine qv aA ?_;refine zQ 1 ?_;refine⟨fun i h=>(by cases h),_,_,_,rfl,rfl,?_⟩;exact⟨rfl,cd,dk,hH.erase 4⟩
  refine zQ 5 ?_;refine zI (fun q6=>?_) fun q6=>?_
  ·have oO:ks.len=1∧1≤n.cap∧n.cap≤4:=by
    obtain⟨_,hq⟩:=mK;omega
   obtain⟨t,rfl⟩:=bU.EC oO.1;have Dj:aU (.mk n (.cons t .nil)) code.length=dJ 4 (2*n.cap) 0 []::(aU t (code.length+1)++[dJ 4 (2*n.cap+1) 0 []]):=by simp only[aU,if_neg q2,if_neg q7,if_neg q8,if_neg q3,if_neg q4,if_neg q5,if_pos q6,BV]
   rw[Dj];have hz:cg n (bU.cons t .nil).sz (bU.cons t .nil).len=t.sz+2:=by unfold cg;rw[if_neg z0,if_neg z0,if_pos q6,Ch]
   rw[hz] at hb;simp only[bU.flat,bU.zs,bU.es,bU.ok,ξ] at jS hsz pH kE hm;refine zQ 5 ?_;refine Pd (z:=(2*n.cap)) rfl z3 z3 (by rw[wrap_i64 z0 z0]<;>omega) (aa rfl _) ?_;refine Ω (d:=.agg [.int .i64 4,.int .i64 (2*n.cap),.int .i64 0,.nul]) (st1:=_) rfl rfl rfl (aa rfl _) ?_;have hH:=hH.fG 2;obtain⟨_,st,aA,rfl,cd,dk,hH⟩:=iZ (rs:=[]) hF z0 hH;refine qv aA ?_;refine zQ 1 ?_;have ot:(code++[dJ 4 (2*n.cap) 0 []]).length=code.length+1:=by simp
   refine zQ 5 ?_;obtain⟨_,st,aA,rfl,cd,dk,hH⟩:=ih t z0 hF Da jS.tail hsz.tail pH.tail kE.1 z0 ⟨cd,dk,hH⟩;refine qv aA ?_;refine zQ 1 ?_;rw[ot] at hH;have np:(code++[dJ 4 (2*n.cap) 0 []]++aU t (code.length+1)).length=code.length+1+t.sz:=by rw[γ,ot,c8 t _ kE.1]
   refine zQ 4 ?_;refine Pd (z:=(2*n.cap)) rfl z3 z3 (by rw[wrap_i64 z0 z0]<;>omega) (aa rfl _) ?_;refine BY (z:=(2*n.cap+1)) rfl z3 z3 (by rw[wrap_i64 z0 z0]<;>omega) (aa rfl _) ?_;refine Ω (d:=.agg [.int .i64 4,.int .i64 (2*n.cap+1),.int .i64 0,.nul]) (st1:=_) rfl rfl rfl (aa rfl _) ?_;have hH:=hH.fG 2;obtain⟨_,st,aA,rfl,cd,dk,hH⟩:=iZ (rs:=[]) hF z0 hH;refine qv aA ?_;refine zQ 1 ?_;have gV:code++[dJ 4 (2*n.cap) 0 []]++aU t (code.length+1)++[dJ 4 (2*n.cap+1) 0 []]=code++dJ 4 (2*n.cap) 0 []::(aU t (code.length+1)++[dJ 4 (2*n.cap+1) 0 []]):=by simp
   rw[gV] at hH;refine⟨fun i h=>(by cases h),_,_,_,rfl,rfl,?_⟩;exact⟨rfl,cd,dk,hH.erase 4⟩
  ·refine zQ 1 ?_;have Dj:aU (.mk n ks) code.length=[]:=by simp only[aU,if_neg q2,if_neg q7,if_neg q8,if_neg q3,if_neg q4,if_neg q5,if_neg q6]
   rw[Dj,ξ];refine⟨fun i h=>(by cases h),_,_,_,rfl,rfl,?_⟩;exact⟨rfl,cd,dk,hH.erase 4⟩
end Go.Proofs.YtkbacjpologjbaaGreat
namespace Go.Proofs.YtkbacjpologjbaaGreat
open Go.V Go
def jZ (fr:Go.V.Fr) (k:Nat):Go.V.D:=Go.V.nth .bo fr.loc k
def GK (x:Nl):List D:=[x.d]
theorem NN {l:List Nl} {i:Nat} {q:Nl} (h:l[i]?=some q):(l.map GK)[i]?=some (GK q):=by rw[φ,h];rfl
def tg (R:wm):D:=.tup [(sQ R.code R.ak).d,.int .i64 R.e,.int .i64 R.w]
theorem Ea {es M:List Int} (h:M.length=es.length):qX es 0 M=M:=by
 unfold qX;simp[h]
theorem sk (r:Nat) (c:List aL) (s:List Int):gg [] r c s=⟨c,s,0,0⟩:=by simp only[gg]
variable{s0:St}
theorem DF {x:D} {rules:List Nl} (hx:V.Rows s0 1 x (rules.map GK)) (hr:∀r∈rules,r.ok) (hl:rules.length≤1048576):Ev pv 14 [x] s0 (tg (bE (rules.map (·.l)))) s0:=by
 refine Ev.iu rfl XW rfl rfl rfl ?_;refine zE ?_;obtain⟨aR,hF,hH⟩:=ri s0;generalize ae .ro s0=S at*;have hx:=Arg.of hx aR;have hfz:∀(st:St) (e w:Int),ba st s0.bs.length false 16 (wA [.agg [.nul,.nul],.int .i64 e,.int .i64 w])=some (tg ⟨[],[],e,w⟩):=fun st e w=>rfl;refine zQ 2 ?_;refine qa hH fun k2 st hk2 hH=>?_;refine zQ 7 ?_;refine qn ?_;simp only[δ];refine zQ 2 ?_;unfold bE
 by_cases h8:8<rules.length
 ·rw[if_pos (by rw[δ];exact h8)];refine qD rfl (by simp;omega) ?_;refine zQ 2 ?_;refine Ω (d:=.agg [.nul,.nul]) (st1:=_) rfl rfl rfl (by dsimp only[ψ,u1,u2]<;>rfl) ?_;refine qS hH aJ fun st hH=>?_;have hH:=zjpa hH;refine zQ 3 ?_;refine ag.ret ⟨rx,_,hH.nO rfl aJ rfl rfl rfl,rl aR hH (hfz _ 13 8)⟩
 ·rw[if_neg (by rw[δ];exact h8)];refine qE rfl (by simp;omega) ?_;refine zQ 3 ?_;refine Ω (d:=.agg [.nul,.nul,.nul,.nul]) (st1:=_) rfl rfl rfl (by dsimp only[ψ,u1,u2]<;>rfl) ?_;refine qb hH fun k14 st OL hH=>?_;refine zQ 10 ?_;refine qn ?_;simp only[δ];refine zQ 2 ?_;have hH:Has s0.bs.length S st (.aC .nul 1 (([]:List Int).map ax)::.deep (fun _=>False) .nul 4 (([]:List aL).map aK)::.box k14 (.mem 0 false [.nul,.nul,.nul,.nul])::[.box k2 (.mem 0 false [.nul,.nul])]):=(hH.K_ 4).fG 1;refine zQ 1 ?_;refine ag.loop (fun mm fr st=>∃(r:Nat) (cd nd zd ed sd:D) (dk:Nat→Prop) (code:List aL) (ak:List Int),fr.clean=⟨18,[jZ fr 0,jZ fr 1,.ptr k2 0 0,.int .i64 0,.int .i64 0,.ptr k14 0 0,sd,jZ fr 7,jZ fr 8,jZ fr 9,jZ fr 10,jZ fr 11,jZ fr 12,jZ fr 13,jZ fr 14,x,.int .i64 (rules.length:Nat),.int .i64 (r:Nat)],[]⟩∧Has s0.bs.length S st [.aC sd 1 (ak.map ax),.deep dk cd 4 (code.map aK),.box k14 (.mem 0 false [cd,nd,zd,ed]),.box k2 (.mem 0 false [.nul,.nul])]∧(r+mm=rules.length)∧(gg ((rules.drop r).map (·.l)) r code ak=gg (rules.map (·.l)) 0 [] [])∧(code.length≤400)∧(ak.length≤r)) (rules.length) ?_ ?_
  ·exact⟨0,.nul,.nul,.nul,.nul,.nul,(fun _=>False),[],[],rfl,hH,by omega,by rw[AN],by simp,by simp⟩
  rintro mm fr st ⟨r,cd,nd,zd,ed,sd,dk,code,ak,hfr,hH,hrr,hX,hcl,iA⟩;rw[hfr];clear hfr;generalize jZ fr=ee;clear fr;refine zQ 4 ?_
  by_cases hlt:r<rules.length
  ·obtain⟨q,hq⟩:∃q,rules[r]?=some q:=⟨rules[r]'hlt,ι _⟩
   have Bq:=hr q (τ hq);have fU:=NN hq
   have tw:rules.drop r=q::rules.drop (r+1):=by
    rw[Ψ hlt]
    congr 1
    exact Option.some.inj ((ι _).symm.trans hq)
   rw[tw,π,gg] at hX;refine qq<|qD rfl (by simp;omega) ?_;refine zQ 6 ?_;refine qr fun PC Gb=>?_;refine zQ 8 ?_;refine qv (FO Bq) ?_;refine zQ 2 ?_
   cases C6:iR q.l with
   |false=>
    rw[if_pos C6] at hX;refine zQ 3 ?_;refine Ω (d:=.agg [.nul,.nul]) (st1:=_) rfl rfl rfl (aa rfl _) ?_;refine qm ?_;refine qS hH di fun st hH=>?_;have hH:=zjpa hH;refine zQ 3 ?_;rw[←hX];refine ag.ret ⟨rx,_,hH.nO rfl di rfl rfl rfl,rl aR hH (hfz _ 1 r)⟩
   |true=>
    rw[if_neg (by rw[C6];simp)] at hX;obtain⟨wG,N2⟩:=yl C6;have hqd:=Bq.c.arg s0.bs.length S;have hqn:=Bq.nl;have nY:=Bq.c;refine zQ 9 ?_;refine qn ?_;simp only[δ];refine ab.xD (s:=1) hH rfl rfl rfl rfl rfl rfl rfl rfl (ζ rfl) z0 (fun _=>(aa rfl _)) (fun k33 st VQ hH=>?_);refine qm ?_;refine qn ?_;simp only[δ];refine ab.xD (s:=1) hH rfl rfl rfl rfl rfl rfl rfl rfl (ζ rfl) z0 (fun _=>(aa rfl _)) (fun k36 st RB hH=>?_);refine zQ 2 ?_;refine qT hH ie fun st hH=>?_;have hH:=zjpa hH;refine zQ 2 ?_;refine qT hH ie fun st hH=>?_;have hH:=zjpa hH;refine zQ 2 ?_;refine qT hH ie fun st hH=>?_;have hH:=zjpa hH;refine zQ 1 ?_
    have hH:Has s0.bs.length S st (.aC (.win k33 0 0 q.l.length 1) 1 ((AI q.l.length (0:Int)).map ax)::.aC (.win k36 0 0 q.l.length 1) 1 ((AI q.l.length (0:Int)).map ax)::.aC sd 1 (ak.map ax)::.deep dk cd 4 (code.map aK)::.box k14 (.mem 0 false [cd,q.d,.win k33 0 0 q.l.length 1,.win k36 0 0 q.l.length 1])::.box k2 (.mem 0 false [.nul,.nul])::[]):=by
     rw[List.map_replicate];exact hH.front bt
    refine zQ 7 ?_;obtain⟨_,st,aA,rfl,hH⟩:=Hl Bq.nl Bq.i Bq.c _ (dq q.l) (χ _) wG (at_:=0) (by rw[N2];exact h_.all _) (by simp) hH;refine qv aA ?_;refine zQ 1 ?_;rw[Ea (by rw[Tr.kR,N2];simp)] at hH;have hH:=hH.front bt;refine zQ 7 ?_;obtain⟨_,st,aA,rfl,hH⟩:=Ml Bq.nl Bq.i Bq.c _ (dq q.l) (χ _) wG (at_:=0) (by rw[N2];exact h_.all _) (by simp) hH;refine qv aA ?_;refine zQ 1 ?_;rw[Ea (by rw[Tr.kZ,N2];simp)] at hH;have aau:=ej (DZ (h_.all (dq q.l).zs));refine zQ 7 ?_;refine Pe hH rfl z3 (by exact di) rfl (aa rfl _) ?_;simp only[δ];refine zQ 4 ?_;refine qi hH bt fun Yw Q6=>?_;refine zQ 1 ?_;refine BY (z:=((code.length+min (dq q.l).sz 401:Nat):Int)) rfl z3 z3 (by rw[wrap_i64 z0 z0]<;>omega) (aa rfl _) ?_;refine BY (z:=((code.length+min (dq q.l).sz 401+3:Nat):Int)) rfl z3 z3 (by rw[wrap_i64 z0 z0]<;>omega) (aa rfl _) ?_;refine zQ 2 ?_
    by_cases vA:400<code.length+min (dq q.l).sz 401+3
    ·rw[if_pos vA] at hX;have jy:decide (((code.length+min (dq q.l).sz 401+3:Nat):Int)>400)=true:=by rw[decide_eq_true_eq];omega
     refine qD rfl (by rw[jy]) ?_;refine zQ 2 ?_;refine Ω (d:=.agg [.nul,.nul]) (st1:=_) rfl rfl rfl (aa rfl _) ?_;refine qm ?_;refine qS hH ke fun st hH=>?_;have hH:=zjpa hH;refine zQ 3 ?_;rw[←hX];refine ag.ret ⟨rx,_,hH.nO rfl ke rfl rfl rfl,rl aR hH (hfz _ 12 r)⟩
    ·rw[if_neg vA] at hX;have jy:decide (((code.length+min (dq q.l).sz 401+3:Nat):Int)>400)=false:=by rw[decide_eq_false_iff_not];omega
     refine qE rfl (by rw[jy]) ?_;refine zQ 1 ?_;have hH:=hH.front bt;have hH:=hH.front di;have hH:=hH.front ie;have hH:Has s0.bs.length S st (.box k14 (.mem 0 false [cd,q.d,.win k33 0 0 q.l.length 1,.win k36 0 0 q.l.length 1])::.deep dk cd 4 (code.map aK)::.aC (.win k33 0 0 q.l.length 1) 1 ((dq q.l).zs.map ax)::.aC (.win k36 0 0 q.l.length 1) 1 (((dq q.l).es 0).map ax)::.aC sd 1 (ak.map ax)::.box k2 (.mem 0 false [.nul,.nul])::[]):=hH;refine zQ 4 ?_;refine Ω (d:=.agg [.int .i64 4,.int .i64 0,.int .i64 0,.nul]) (st1:=_) rfl rfl rfl (aa rfl _) ?_;have hH:=hH.fG 2;obtain⟨_,st,aA,rfl,cd,dk,hH⟩:=iZ (rs:=[]) hF z0 hH;refine qv aA ?_;refine qh (s:=1) (vs:=[_]) hH fun k75 st aaW hH=>?_;refine ab.ck (s:=1) hH rfl z3 z3 (by exact ke) (by exact hH.rows (by exact aJ)) rfl rfl rfl rfl rfl rfl rfl ⟨(ζ rfl),(ζ rfl)⟩ (fun _=>(aa rfl _)) (by simp only[ε,ο,δ]<;>omega) (by exact .inl hF) (fun ZL st hH=>?_);have hH:=zjpa hH;refine zQ 2 ?_;have hH:=hH.drop 1;have ot:(code++[dJ 4 0 0 []]).length=code.length+1:=by simp
     refine zQ 3 ?_;obtain⟨_,st,aA,rfl,cd,dk,hH⟩:=La Bq.nl Bq.i _ (dq q.l) (χ _) hF Bq.c (at_:=0) (by rw[N2];exact h_.all _) (h_.all _) (h_.all _) wG z0 ⟨cd,dk,hH⟩;refine qv aA ?_;refine zQ 1 ?_;rw[ot] at hH;have np:(code++[dJ 4 0 0 []]++aU (dq q.l) (code.length+1)).length=code.length+1+(dq q.l).sz:=by rw[γ,ot,c8 _ _ wG]
     refine zQ 3 ?_;refine Ω (d:=.agg [.int .i64 4,.int .i64 1,.int .i64 0,.nul]) (st1:=_) rfl rfl rfl (aa rfl _) ?_;have hH:=hH.fG 2;obtain⟨_,st,aA,rfl,cd,dk,hH⟩:=iZ (rs:=[]) hF z0 hH;refine qv aA ?_;refine zQ 1 ?_;have Ja:(code++[dJ 4 0 0 []]++aU (dq q.l) (code.length+1)++[dJ 4 1 0 []]).length=code.length+1+(dq q.l).sz+1:=by rw[γ,np];rfl
     refine zQ 3 ?_;refine Ω (d:=.agg [.int .i64 7,.int .i64 (r:Nat),.int .i64 0,.nul]) (st1:=_) rfl rfl rfl (aa rfl _) ?_;have hH:=hH.fG 2;obtain⟨_,st,aA,rfl,cd,dk,hH⟩:=iZ (rs:=[]) hF z0 hH;refine qv aA ?_;refine zQ 1 ?_
     have U6:code++[dJ 4 0 0 []]++aU (dq q.l) (code.length+1)++[dJ 4 1 0 []]++[dJ 7 (r:Nat) 0 []]=code++gb (dq q.l) code.length r:=by
      unfold gb;simp
     rw[U6] at hH;have hH:=(hH.erase 2).erase 2;have hH:=hH.front bt;have hH:=hH.front cU;refine zQ 4 ?_;exact⟨mm-1,by omega,⟨r+1,cd,q.d,.win k33 0 0 q.l.length 1,.win k36 0 0 q.l.length 1,ZL,dk,code++gb (dq q.l) code.length r,ak++[((code.length:Nat):Int)],rfl,(by rw[ν (f:=ax)];exact hH),by omega,hX,by rw[γ,nN wG];omega,by rw[γ];simp only[ε,ο];omega⟩⟩
  ·refine qq<|qE rfl (by simp;omega) ?_;refine zQ 1 ?_;rw[List.drop_of_length_le z0,ω,sk] at hX;refine zQ 7 ?_;refine ab.hU (qs:=[(0,_),(1,_)]) rfl rfl rfl rfl ⟨rfl,z3,(by exact hH.nB (by exact bt)),rfl,z3,(by exact hH.eO (by exact aJ)),trivial⟩ (by intro q hq;simp only[κ,μ,or_false] at hq;rcases hq with rfl|rfl<;>exact⟨rfl,by exact ζ rfl⟩) (by show Qa6 _ [_,_] _=_;dsimp only[OF,AT,u2,u1]<;>rfl) (aa rfl _) ?_;refine qS hH di fun st hH=>?_;have hH:=zjpa hH;refine zQ 3 ?_;rw[←hX];have h1:=hH.vE bt (n:=13) (by decide);have h2:=hH.n_ aJ (jR _) (n:=14) (by decide)
   have h4:ba st s0.bs.length false 15 (.agg [cd,sd])=some (sQ code ak).d:=by
    show(iK (ba st s0.bs.length false 14) [cd,sd]).map D.agg=_;simp only[iK,h1,h2,Option.map_some];rfl
   have h3:ba st s0.bs.length false 16 (wA [.agg [cd,sd],.int .i64 0,.int .i64 0])=some (tg ⟨code,ak,0,0⟩):=by
    show(iK (ba st s0.bs.length false 15) [.agg [cd,sd],.int .i64 0,.int .i64 0]).map D.tup=_;simp only[iK,h4];rfl
   exact ag.ret ⟨rx,_,hH.nO rfl di rfl rfl rfl,rl aR hH h3⟩
theorem BR:∀(ls:List (List eE)) (r:Nat) (c:List aL) (s:List Int),(∀l∈ls,∀n∈l,n.rs.length≤1048576)→(∀i∈c,lP i)→c.length≤400→s.length≤r→(∀i∈(gg ls r c s).code,lP i)∧(gg ls r c s).code.length≤400∧(gg ls r c s).ak.length≤r+ls.length
 |[],r,c,s,_,h1,h2,h3=>by rw[sk];exact⟨h1,h2,by simpa using h3⟩
 |l::ls,r,c,s,h0,h1,h2,h3=>by
  have L4:∀e w:Int,(∀i∈(wm.mk [] [] e w).code,lP i)∧(wm.mk [] [] e w).code.length≤400∧(wm.mk [] [] e w).ak.length≤r+(l::ls).length:=fun e w=>⟨fun i hi=>(by cases hi),by simp,by simp⟩
  rw[gg]
  split
  ·exact L4 _ _
  ·rename_i hr;rw[Bool.not_eq_false] at hr
   split
   ·exact L4 _ _
   ·rename_i hb;obtain⟨t1,t2⟩:=yl hr
    obtain⟨h4,h5,h6⟩:=BR ls (r+1) (c++gb (dq l) c.length r) (s++[((c.length:Nat):Int)]) (fun l' ji=>h0 l' (List.mem_cons_of_mem _ ji)) (fun i hi=>by
     rcases ρ.1 hi with hi|hi
     ·exact h1 i hi
     ·exact KW (by rw[t2];exact h0 l (List.mem_cons_self ..)) i hi) (by rw[γ,nN t1];omega) (by rw[γ];simp only[ε,ο];omega)
    exact⟨h4,h5,by simp only[ε];omega⟩
theorem BQ {ls:List (List eE)} (h:∀l∈ls,∀n∈l,n.rs.length≤1048576):(sQ (bE ls).code (bE ls).ak).ok∧(bE ls).code.length≤400:=by
 unfold bE
 split
 ·exact⟨HO (fun i hi=>(by cases hi)) (by simp) (by simp),by simp⟩
 ·obtain⟨h1,h2,h3⟩:=BR ls 0 [] [] h (fun i hi=>by cases hi) (by simp) (by simp);exact⟨HO h1 z0 z0,h2⟩
def Ci (b:List UInt8):List D:=[.str b]
theorem KK {l:List (List UInt8)} {i:Nat} {q:List UInt8} (h:l[i]?=some q):(l.map Ci)[i]?=some (Ci q):=by rw[φ,h];rfl
variable{parts:List (List eE)}
theorem NM (h:∀l∈parts,(∀n∈l,zT n)∧l.length≤500):∀r∈parts.map (fun l=>(⟨zJ l,l⟩:Nl)),r.ok:=by
 intro r hr;obtain⟨l,hl,rfl⟩:=List.mem_map.1 hr;exact Qp (h l hl).1 (by have:=(h l hl).2;omega)
theorem H9:(parts.map (fun l=>(⟨zJ l,l⟩:Nl))).map GK=parts.map fw:=by
 rw[Qa1];rfl
theorem DG {y:D} (h:∀l∈parts,(∀n∈l,zT n)∧l.length≤500) (hl:parts.length≤1048576) (hy:V.Rows s0 1 y (parts.map fw)):Ev pv 14 [y] s0 (tg (bE parts)) s0∧(sQ (bE parts).code (bE parts).ak).ok∧(bE parts).code.length≤400:=by
 have h1:=DF (s0:=s0) (x:=y) (rules:=parts.map (fun l=>(⟨zJ l,l⟩:Nl))) (by rw[H9];exact hy) (NM h) (by rw[δ];exact hl);have h2:(parts.map (fun l=>(⟨zJ l,l⟩:Nl))).map (·.l)=parts:=by rw[Qa1];exact List.map_id _
 rw[h2] at h1;exact⟨h1,BQ fun l hl n hn=>((h l hl).1 n hn).2.1⟩
def Ed (n:Nat) (i:aL):aL:=if i.op=2 then⟨2,i.x+n,i.y+n,i.rd,i.rs⟩ else if i.op=3 then⟨3,i.x+n,i.y,i.rd,i.rs⟩ else i
variable{op:Int}
theorem uj (n:Nat) (x y:Int) (rs:List Rg) (h2:op≠2) (h3:op≠3):Ed n (dJ op x y rs)=dJ op x y rs:=by
 unfold Ed dJ;rw[if_neg h2,if_neg h3]
theorem Co (n s o:Nat) (lz:Bool):Ed n (rh s o lz)=rh (s+n) (o+n) lz:=by
 cases lz
 ·show(⟨2,((s+1:Nat):Int)+n,(o:Int)+n,_,_⟩:aL)=dJ 2 ((s+n+1:Nat):Int) ((o+n:Nat):Int) [];unfold dJ
  congr 1;omega
 ·show(⟨2,(o:Int)+n,((s+1:Nat):Int)+n,_,_⟩:aL)=dJ 2 ((o+n:Nat):Int) ((s+n+1:Nat):Int) [];unfold dJ
  congr 1;omega
theorem Hp (n e:Nat):Ed n (pF e)=pF (e+n):=by
 show(⟨3,(e:Int)+n,0,_,_⟩:aL)=dJ 3 ((e+n:Nat):Int) 0 [];unfold dJ
 congr 1
theorem yv {c:Nat→List aL} {z n:Nat} (hc:∀b,c (b+n)=(c b).map (Ed n)):∀k b,gO c z k (b+n)=(gO c z k b).map (Ed n)
 |0,b=>rfl
 |k+1,b=>by
  have h:=yv hc (z:=z) k (b+z);rw[Φ] at h;rw[gO,gO,ν,hc,h]
theorem Eo {sp Yp:Nat→aL} {c:Nat→List aL} {z n:Nat} (hs:∀s,Yp (s+n)=Ed n (sp s)) (hc:∀b,c (b+n)=(c b).map (Ed n)):∀k b,gA Yp c z k (b+n)=(gA sp c z k b).map (Ed n)
 |0,b=>rfl
 |k+1,b=>by
  have h:=Eo hs hc (z:=z) k (b+1+z);have e1:b+1+z+n=b+n+1+z:=by omega
  have e2:b+n+1=b+1+n:=by omega
  rw[e1] at h;rw[gA,gA,π,ν,hs,h,e2,hc]
theorem KY {nd:eE} {c:Nat→List aL} {z n b:Nat} (hc:∀b,c (b+n)=(c b).map (Ed n)):rr nd c z (b+n)=(rr nd c z b).map (Ed n):=by
 unfold rr
 split
 ·rw[ν,yv hc,π,ν,Co,π,ω,Hp];have e1:b+n+nd.mn.toNat*z=b+nd.mn.toNat*z+n:=by omega
  have e2:b+nd.mn.toNat*z+n+1=b+nd.mn.toNat*z+1+n:=by omega
  have e3:b+nd.mn.toNat*z+n+z+2=b+nd.mn.toNat*z+z+2+n:=by omega
  rw[e1,e2,e3,hc]
 ·rw[ν,yv hc];have e1:b+n+nd.mn.toNat*z=b+nd.mn.toNat*z+n:=by omega
  rw[e1]
  congr 1
  refine Eo (fun s=>?_) hc _ _;rw[Co]
  congr 1
  omega
mutual
theorem vU (n:Nat):∀(t:Tr) (b:Nat),aU t (b+n)=(aU t b).map (Ed n)
 | .mk nd ks,b=>by
  have hc:=fun b=>E_ n ks b;have ha:=fun e b=>Fm n e ks b;simp only[aU]
  split
  ·rw[π,ω,uj _ _ _ _ (by decide) (by decide)]
  split
  ·rw[π,ω,uj _ _ _ _ (by decide) (by decide)]
  split
  ·rw[π,ω,uj _ _ _ _ (by decide) (by decide)]
  split
  ·exact hc b
  split
  ·rw[Φ];exact ha _ b
  split
  ·exact KY hc
  split
  ·rw[π,ν,π,ω,uj _ _ _ _ (by decide) (by decide),uj _ _ _ _ (by decide) (by decide),Φ,hc]
  ·rfl
theorem E_ (n:Nat):∀(ts:bU) (b:Nat),iD ts (b+n)=(iD ts b).map (Ed n)
 | .nil,b=>by simp only[iD,ω]
 | .cons t ts,b=>by
  have h:=E_ n ts (b+t.sz);rw[Φ] at h;simp only[iD,ν];rw[vU n t b,h]
theorem Fm (n:Nat):∀(e:Nat) (ts:bU) (b:Nat),f_ (pF (e+n)) ts (b+n)=(f_ (pF e) ts b).map (Ed n)
 |e,.nil,b=>by simp only[f_,ω]
 |e,.cons t ts,b=>by
  have h:=Fm n e ts (b+t.sz+2);have h1:=vU n t (b+1);have e1:b+t.sz+2+n=b+n+t.sz+2:=by omega
  have e2:b+1+n=b+n+1:=by omega
  have e3:b+1+t.sz+1+n=b+n+1+t.sz+1:=by omega
  rw[e1] at h;rw[e2] at h1;simp only[f_]
  split
  ·exact vU n t b
  ·rw[π,ν,π,Co,Hp,h1,h,e3]
end
def sD (lo hi:Nat) (i:aL):Prop:=i.op≠7∧(i.op=2→((lo:Int)≤i.x∧i.x≤hi)∧(lo:Int)≤i.y∧i.y≤hi)∧(i.op=3→(lo:Int)≤i.x∧i.x≤hi)
variable{i:aL}{lo hi:Nat}
theorem sD.mono {xy j7:Nat} (h:sD lo hi i) (h1:xy≤lo) (h2:hi≤j7):sD xy j7 i:=
 ⟨h.1,fun e=>by have:=h.2.1 e;omega,fun e=>by have:=h.2.2 e;omega⟩
theorem sD.mk (x y:Int) (rs:List Rg) (h2:op≠2) (h3:op≠3) (h7:op≠7):sD lo hi (dJ op x y rs):=⟨h7,fun h=>absurd h h2,fun h=>absurd h h3⟩
theorem sD.sp {s o:Nat} {lz:Bool} (h1:lo≤s+1∧s+1≤hi) (h2:lo≤o∧o≤hi):sD lo hi (rh s o lz):=by
 cases lz
 ·exact⟨by show(2:Int)≠7;decide,fun _=>by show((lo:Int)≤((s+1:Nat):Int)∧((s+1:Nat):Int)≤hi)∧(lo:Int)≤(o:Int)∧(o:Int)≤hi;omega,fun h=>absurd h (by show¬(2:Int)=3;decide)⟩
 ·exact⟨by show(2:Int)≠7;decide,fun _=>by show((lo:Int)≤(o:Int)∧(o:Int)≤hi)∧(lo:Int)≤((s+1:Nat):Int)∧((s+1:Nat):Int)≤hi;omega,fun h=>absurd h (by show¬(2:Int)=3;decide)⟩
theorem sD.jp {e:Nat} (h1:lo≤e∧e≤hi):sD lo hi (pF e):=
 ⟨by show(3:Int)≠7;decide,fun h=>absurd h (by show¬(3:Int)=2;decide),fun _=>by show(lo:Int)≤(e:Int)∧(e:Int)≤hi;omega⟩
theorem yw {c:Nat→List aL} {z:Nat} (hc:∀b,∀i∈c b,sD b (b+z) i):∀k b,∀i∈gO c z k b,sD b (b+k*z) i
 |0,b,i,hi=>by cases hi
 |k+1,b,i,hi=>by
  simp only[gO] at hi;rw[GB]
  rcases ρ.1 hi with hi|hi
  ·exact(hc b i hi).mono (χ _) z0
  ·exact(yw hc k _ i hi).mono z0 z0
theorem Ep {sp:Nat→aL} {c:Nat→List aL} {z lo hi:Nat} (hs:∀s,lo≤s→s+1≤hi→sD lo hi (sp s)) (hc:∀b,∀i∈c b,sD b (b+z) i):∀k b,lo≤b→b+k*(z+1)≤hi→∀i∈gA sp c z k b,sD lo hi i
 |0,b,_,_,i,j7=>by cases j7
 |k+1,b,h1,h2,i,j7=>by
  simp only[gA] at j7;rw[GB] at h2
  rcases κ.1 j7 with rfl|j7
  ·exact hs b h1 z0
  ·rcases ρ.1 j7 with j7|j7
   ·exact(hc _ i j7).mono z0 z0
   ·exact Ep hs hc k _ z0 z0 i j7
mutual
theorem vV:∀(t:Tr) (b:Nat),t.ok→∀i∈aU t b,sD b (b+t.sz) i
 | .mk n ks,b,aT,i,hi=>by
  simp only[Tr.ok] at aT;have hc:=fun b=>Fa ks b aT.2;obtain⟨_,hq⟩:=aT.1;simp only[aU] at hi;simp only[Tr.sz]
  by_cases q2:n.op=2
  ·rw[if_pos q2] at hi;simp only[κ,μ,or_false] at hi;subst hi;exact sD.mk _ _ _ (by decide) (by decide) (by decide)
  rw[if_neg q2] at hi
  by_cases q7:n.op=7
  ·rw[if_pos q7] at hi;simp only[κ,μ,or_false] at hi;subst hi;exact sD.mk _ _ _ (by decide) (by decide) (by decide)
  rw[if_neg q7] at hi
  by_cases q8:n.op=8
  ·rw[if_pos q8] at hi;simp only[κ,μ,or_false] at hi;subst hi;exact sD.mk _ _ _ (by decide) (by decide) (by decide)
  rw[if_neg q8] at hi
  have hz:∀s k,cg n s k=if n.op=4 then s+2*(k-1) else if n.op=6 then s+2 else if n.op=5 then(if n.mx=-1 then n.mn.toNat*s+s+2 else n.mn.toNat*s+(n.mx.toNat-n.mn.toNat)*(s+1)) else s:=by
   intro s k;unfold cg;rw[if_neg z0]
  by_cases q3:n.op=3
  ·rw[if_pos q3] at hi;rw[hz,if_neg z0,if_neg z0,if_neg z0];exact hc b i hi
  rw[if_neg q3] at hi
  by_cases q4:n.op=4
  ·rw[if_pos q4] at hi;have QC:cg n ks.sz ks.len=ks.sz+2*(ks.len-1):=by rw[hz,if_pos q4]
   rw[QC] at hi⊢;exact Fo ks b (b+(ks.sz+2*(ks.len-1))) aT.2 (χ _) i hi
  rw[if_neg q4] at hi
  by_cases q5:n.op=5
  ·rw[if_pos q5] at hi;rw[hz,if_neg q4,if_neg z0,if_pos q5];unfold rr at hi
   by_cases qm:n.mx=-1
   ·rw[if_pos qm] at hi⊢
    rcases ρ.1 hi with hi|hi
    ·exact(yw hc _ _ i hi).mono (χ _) z0
    ·rcases κ.1 hi with rfl|hi
     ·exact sD.sp z0 z0
     ·rcases ρ.1 hi with hi|hi
      ·exact(hc _ i hi).mono z0 z0
      ·simp only[κ,μ,or_false] at hi;subst hi;exact sD.jp z0
   ·rw[if_neg qm] at hi⊢
    rcases ρ.1 hi with hi|hi
    ·exact(yw hc _ _ i hi).mono (χ _) z0
    ·exact Ep (fun s h1 h2=>sD.sp z0 z0) hc _ _ z0 z0 i hi
  rw[if_neg q5] at hi
  by_cases q6:n.op=6
  ·rw[if_pos q6] at hi;rw[hz,if_neg q4,if_pos q6]
   rcases κ.1 hi with rfl|hi
   ·exact sD.mk _ _ _ (by decide) (by decide) (by decide)
   ·rcases ρ.1 hi with hi|hi
    ·exact(hc _ i hi).mono z0 z0
    ·simp only[κ,μ,or_false] at hi;subst hi;exact sD.mk _ _ _ (by decide) (by decide) (by decide)
  ·rw[if_neg q6] at hi;cases hi
theorem Fa:∀(ts:bU) (b:Nat),ts.ok→∀i∈iD ts b,sD b (b+ts.sz) i
 | .nil,b,_,i,hi=>by simp[iD] at hi
 | .cons t ts,b,aT,i,hi=>by
  simp only[bU.ok] at aT;simp only[iD] at hi;simp only[bU.sz]
  rcases ρ.1 hi with hi|hi
  ·exact(vV t b aT.1 i hi).mono (χ _) z0
  ·exact(Fa ts _ aT.2 i hi).mono z0 z0
theorem Fo:∀(ts:bU) (b e:Nat),ts.ok→b+(ts.sz+2*(ts.len-1))≤e→∀i∈f_ (pF e) ts b,sD b e i
 | .nil,b,e,_,_,i,hi=>by simp[f_] at hi
 | .cons t ts,b,e,aT,he,i,hi=>by
  simp only[bU.ok] at aT;simp only[f_] at hi;simp only[bU.sz,bU.len] at he
  by_cases q:ts.len=0
  ·rw[if_pos q] at hi;exact(vV t b aT.1 i hi).mono (χ _) z0
  ·rw[if_neg q] at hi
   rcases κ.1 hi with rfl|hi
   ·exact sD.sp z0 z0
   ·rcases ρ.1 hi with hi|hi
    ·exact(vV t _ aT.1 i hi).mono z0 z0
    ·rcases κ.1 hi with rfl|hi
     ·exact sD.jp z0
     ·exact(Fo ts _ e aT.2 z0 i hi).mono z0 z0
end
theorem DH (r:Nat) (c:List aL) (s:List Int):gg [] r c s=⟨c,s,0,0⟩:=by simp only[gg]
variable{code:List aL}{pc:Nat}
theorem BP (h:(code.map e_)[pc]?=some i):∃q,code[pc]?=some q∧i=e_ q:=by
 rw[φ] at h;obtain⟨q,hq,rfl⟩:=Option.map_eq_some_iff.1 h;exact⟨q,hq,rfl⟩
theorem get_copy (h:code[pc]?=some i):(code.map e_)[pc]?=some (e_ i):=by
 rw[φ,h];rfl
theorem BN (code:List aL):∀(f:Nat) (seen:List Bool) (ga:List Int),zM (code.map e_) f seen ga=zM code f seen ga
 |0,_,_=>rfl
 |_+1,_,[]=>rfl
 |f+1,seen,v::ga=>by
  have ih:=BN code f;unfold zM;rw[φ]
  cases h1:seen[v.toNat]? with
  |none=>exact ih _ _
  |some b=>
   cases b with
   |true=>exact ih _ _
   |false=>
    cases h2:code[v.toNat]? with
    |none=>rfl
    |some i=>exact ih _ _
theorem uE (code:List aL) (s:Int):br (code.map e_) s=br code s:=by
 unfold br;rw[δ,BN]
theorem Ct {p q:Pg} (h1:q.code=p.code.map e_) (h2:q.ak=p.ak):a7 q↔a7 p:=by
 have hl:q.code.length=p.code.length:=by rw[h1];simp
 constructor
 ·intro h;refine⟨by rw[←hl];exact h.cl,by rw[←h2];exact h.sl,fun pc i hi=>?_,fun v hv=>?_,fun r s hs pc i B' wH hi ib=>?_⟩
  ·have:=h.sh pc (e_ i) (by rw[h1];exact get_copy hi);rw[hl,h2] at this;exact this
  ·have:=h.st v (by rw[h2];exact hv);rw[hl] at this;exact this
  ·exact h.fo r s (by rw[h2];exact hs) pc (e_ i) (by rw[hl];exact B') (by rw[h1,uE];exact wH) (by rw[h1];exact get_copy hi) ib
 ·intro h;refine⟨by rw[hl];exact h.cl,by rw[h2];exact h.sl,fun pc i hi=>?_,fun v hv=>?_,fun r s hs pc i B' wH hi ib=>?_⟩
  ·rw[h1] at hi;obtain⟨j,hj,rfl⟩:=BP hi;rw[hl,h2];exact h.sh pc j hj
  ·rw[hl];exact h.st v (by rw[←h2];exact hv)
  ·rw[h1] at hi wH;rw[uE] at wH;obtain⟨j,hj,rfl⟩:=BP hi;exact h.fo r s (by rw[←h2];exact hs) pc j (by rw[←hl];exact B') wH hj ib
end Go.Proofs.YtkbacjpologjbaaGreat
