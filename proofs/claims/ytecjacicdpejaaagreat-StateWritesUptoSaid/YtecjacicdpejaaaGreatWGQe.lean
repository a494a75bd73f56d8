/-
 Of each node how many instructions its code has, and what stands behind it: both lists are filled in place.
-/
import Derived.Test.YtecjacicdpejaaaGreatWGHr
import Derived.Test.YtecjacicdpejaaaGreatWGPh
import Derived.Test.YtecjacicdpejaaaGreatWGJi
set_option maxRecDepth 100000
set_option maxHeartbeats 4000000
set_option linter.unusedSimpArgs false
set_option linter.unusedVariables false
open List renaming length_append→γ,length_cons→δ,length_map→ε,length_nil→ζ,length_set→η,length_reverse→θ,append_assoc→κ,getElem?_eq_getElem→ν,mem_cons→ξ,not_mem_nil→ο,map_append→π,append_nil→ρ,map_cons→ς,mem_append→τ,mem_of_getElem?→φ,getElem?_set_self→χ,getElem?_map→ψ,map_nil→Δ,nil_append→Θ,cons_append→Φ,drop_eq_getElem_cons→Ω,length_take→Wh,map_set→Z5,set_set→Zt,getElem?_set_ne→YQ,drop_length→Y',foldl_cons→YH,drop_zero→xw,foldl_nil→v8,replicate→ki,map_map→VQ,foldl→BY
open Nat renaming le_of_ble_eq_true→ι,reduceAdd→μ,le_refl→ω,add_right_comm→Ψ,succ_mul→ZD,mul_le_mul→Ut
open Go.V.D renaming cells→υ
open Go.V.Fr renaming put→Γ
open Int renaming eq_ofNat_of_zero_le→Ξ
open Go.V.ab renaming go→Q5,e_→Zn,DE→JS,JQ→wt,Nf→VM,gd→VT,iU→GB,yE→Bv,c_→Cf
namespace Go.Proofs.YtecjacicdpejaaaGreat
open Go.V Go
def bd (fr:Go.V.Fr) (k:Nat):Go.V.D:=Go.V.nth .bI fr.loc k
def tH (es:List Int) (a:Nat) (M:List Int):List Int:=es.take a++M++es.drop (a+M.length)
variable{es M:List Int}{a:Nat}
theorem Hk (h:a+M.length≤es.length):(tH es a M).length=es.length:=by
 unfold tH;simp only[γ,Wh,List.length_drop];omega
theorem Hj:tH es a []=es:=by
 unfold tH;simp
variable{x:Int}
theorem Oy (h:a≤es.length):(tH es a (x::M))[a]?=some x:=by
 unfold tH;rw[κ,List.getElem?_append_right (by simp only[Wh];omega)];simp[Nat.min_eq_left h]
theorem Hh {M':List Int} (h:a+M.length+M'.length≤es.length):tH (tH es a M) (a+M.length) M'=tH es a (M++M'):=by
 unfold tH;have h1:(es.take a++M).length=a+M.length:=by simp only[γ,Wh];omega
 rw[List.take_append_of_le_length (by omega),List.take_of_length_le (by omega)];rw[←h1,List.drop_append,List.drop_eq_nil_of_le (by omega),Θ,h1,List.drop_drop];simp only[κ,γ]
 congr 4
 omega
theorem Hi {v:Int} (h:a+1+M.length≤es.length):(tH es (a+1) M).set a v=tH es a (v::M):=by
 unfold tH;have h1:(es.take a).length=a:=by simp only[Wh];omega
 rw[κ,List.take_add_one,ν (by omega)];simp only[Option.toList_some,κ,Φ,Θ,δ];rw[List.set_append_right _ _ (by omega),h1,Nat.sub_self,List.set_cons_zero]
 congr 4
 omega
variable{l:List fX}{d:D}
theorem KL (hl:l.length≤1048576) (hi:∀n∈l,n.ok) (hd:dg d 7 (l.map ch)):∀(m:Nat) (t:Tr),t.flat.length≤m→t.ok→∀{N:Nat} {S s0:St} {H:List bo} {out:D} {es:List Int} {at_:Nat},jC l at_ t.flat→es.length=l.length→Has N S s0 (.aF out 1 (es.map az)::H)→
  ∃r ai,Ev pv 136 [d,out,.int .i64 (at_:Nat)] s0 r ai∧r=.int .i64 ((at_+t.flat.length:Nat):Int)∧Has N S ai (.aF out 1 ((tH es at_ t.zs).map az)::H):=by
 intro m
 induction m with
 |zero=>intro t h;have:=t.l7;omega
 |succ m ih=>
  rintro⟨n,ks⟩ hm ba N S s0 H out es at_ oa tJ hH;simp only[Tr.ok] at ba;obtain⟨oQ,mA⟩:=ba;simp only[Tr.flat,δ] at hm;have hle:=oa.le (by simp[Tr.flat]);simp only[Tr.flat] at oa hle;simp only[δ] at hle;have hn:=oa.head;have oa:=oa.tail;have TL:=hi n (φ hn);have gw:=qF hn;have Jr:=Dz TL;have Sz:=oQ.1;have mZ:=cN.pj ks;refine Ev.eN rfl XO rfl rfl rfl ?_;refine zE ?_;have cj:=hH;have hH:=hH.bE;have bV:(ae .rw s0).bs=s0.bs:=rfl;generalize ae .rw s0=S2 at*;have hc:=hd.arg N S2;refine zQ 8 ?_;refine qr fun p13 aam=>?_;refine Cf rfl (ev rfl) (by assumption) rfl (by dsimp only[Γ,u1,u2]<;>rfl) ?_;refine qa hH fun k7 st SB hH=>?_;refine ab.bQ hH rfl (ev rfl) (ev rfl) (by rfl) (by exact rfl) (by exact aB) (by exact rfl) (by exact .inr (by assumption)) (fun st hH=>?_);dsimp only[u2,u1,u3,u4,setMany,u5,u6,υ,μ,ch,az] at hH;refine zQ 19 ?_;refine ag.loop (fun mm fr st=>∃(i j ss:Nat) (rest:cN) (vR:List Int),fr.clean=⟨36,[d,out,.int .i64 (at_:Nat),bd fr 3,bd fr 4,bd fr 5,.int .i64 0,.ptr k7 0 0,.int .i64 (j:Nat),.int .i64 ((min ss 401:Nat):Int),bd fr 10,bd fr 11,bd fr 12,bd fr 13,bd fr 14,bd fr 15,bd fr 16,bd fr 17,.int .i64 n.kids,.int .i64 (i:Nat),bd fr 20,bd fr 21,bd fr 22,bd fr 23,bd fr 24,bd fr 25,bd fr 26,bd fr 27,bd fr 28,bd fr 29,bd fr 30,bd fr 31,bd fr 32,bd fr 33,bd fr 34,bd fr 35],[]⟩∧Has N S2 st (.aF out 1 (vR.map az)::.box k7 (.mem 0 false (ch n))::H)∧(mm=rest.len)∧(i+rest.len=ks.len)∧(jC l j rest.flat)∧(rest.ok)∧(ss+rest.sz=ks.sz)∧(vR.length=l.length)∧(tH vR j rest.zs=tH es (at_+1) ks.zs)∧(j+rest.flat.length=at_+1+ks.flat.length)∧(rest.flat.length≤m)) (ks.len) ?_ ?_
  ·exact⟨0,at_+1,0,ks,es,rfl,(by have:=hH.front aO;exact this),rfl,by omega,oa,mA,by omega,tJ,rfl,rfl,by omega⟩
  rintro mm fr st ⟨i,j,ss,rest,vR,hfr,hH,E9,AA,vL,mP,hss,Gn,BW,hj,R5⟩;rw[hfr];clear hfr;generalize bd fr=ee;clear fr;refine zQ 4 ?_
  cases rest with
  |nil=>
   simp only[cN.len] at AA;simp only[cN.sz] at hss;simp only[cN.flat,ζ] at hj;simp only[cN.zs,Hj] at BW;have lh:decide ((i:Int)<n.kids)=false:=by rw[decide_eq_false_iff_not];omega
   refine qq<|qE rfl (by rw[lh]) ?_;refine zQ 1 ?_;obtain rfl:ss=ks.sz:=by omega
   have oa:=vL;refine zQ 6 ?_;refine ag.merge (fun fr st=>∃(tmp:List (Nat×D)),fr=⟨36,[d,out,.int .i64 (at_:Nat),bd fr 3,bd fr 4,bd fr 5,.int .i64 0,.ptr k7 0 0,.int .i64 (j:Nat),.int .i64 ((cS n (min ks.sz 401) ks.len:Nat):Int),bd fr 10,bd fr 11,bd fr 12,bd fr 13,bd fr 14,bd fr 15,bd fr 16,bd fr 17,bd fr 18,bd fr 19,bd fr 20,bd fr 21,bd fr 22,bd fr 23,bd fr 24,bd fr 25,bd fr 26,bd fr 27,bd fr 28,bd fr 29,bd fr 30,bd fr 31,bd fr 32,bd fr 33,bd fr 34,bd fr 35],tmp⟩∧Has N S2 st (.aF out 1 (vR.map az)::.box k7 (.mem 0 false (ch n))::H)) ?_ ?_
   ·refine zQ 7 ?_;generalize hw:min ks.sz 401=w;have N5:w≤401:=by omega
    have kq:ks.len≤9223372036854775→True:=fun _=>trivial
    by_cases q2:n.op=2
    ·have hz:cS n w ks.len=1:=by unfold cS;rw[if_pos (.inl q2)]
     rw[hz];refine qD rfl (by simp[q2]) ?_;refine zQ 1 ?_;refine qD rfl (by simp[q2]) ?_;refine zQ 3 ?_;exact⟨_,rfl,hH⟩
    refine qE rfl (by simp[q2]) ?_;refine zQ 5 ?_
    by_cases q7:n.op=7
    ·have hz:cS n w ks.len=1:=by unfold cS;rw[if_pos (.inr (.inl q7))]
     rw[hz];refine qD rfl (by simp[q7]) ?_;refine zQ 1 ?_;refine qD rfl (by simp[q7]) ?_;refine zQ 3 ?_;exact⟨_,rfl,hH⟩
    refine qE rfl (by simp[q7]) ?_;refine zQ 4 ?_
    by_cases q8:n.op=8
    ·have hz:cS n w ks.len=1:=by unfold cS;rw[if_pos (.inr (.inr q8))]
     rw[hz];refine qD rfl (by simp[q8]) ?_;refine zQ 3 ?_;exact⟨_,rfl,hH⟩
    refine qE rfl (by simp[q8]) ?_
    have hz0:cS n w ks.len=if n.op=4 then w+2*(ks.len-1) else if n.op=6 then w+2 else if n.op=5 then(if n.mx=-1 then n.mn.toNat*w+w+2 else n.mn.toNat*w+(n.mx.toNat-n.mn.toNat)*(w+1)) else w:=by
     unfold cS;rw[if_neg (by omega)]
    rw[hz0];clear hz0;obtain⟨_,kZ⟩:=oQ;have hq:(n.op=1∧ks.len=0)∨((n.op=3∨n.op=4)∧2≤ks.len)∨(n.op=5∧ks.len=1∧0≤n.mn∧n.mn≤30∧(n.mx=-1∨(n.mn≤n.mx∧n.mx≤30)))∨(n.op=6∧ks.len=1∧1≤n.cap∧n.cap≤4):=by omega
    refine zQ 5 ?_
    by_cases q4:n.op=4
    ·rw[if_pos q4];have hk2:2≤ks.len:=by omega
     refine qD rfl (by simp[q4]) ?_;refine zQ 4 ?_;refine VT (z:=((ks.len-1:Nat):Int)) rfl (ev rfl) (ev rfl) (by(try simp only[θ,δ,ζ,γ,ε,η]);rw[wrap_i64 (by omega) (by omega)]<;>omega) (aa rfl _) ?_;refine JS (z:=((2*(ks.len-1):Nat):Int)) rfl (ev rfl) (ev rfl) (by(try simp only[θ,δ,ζ,γ,ε,η]);rw[wrap_i64 (by omega) (by omega)]<;>omega) (aa rfl _) ?_;refine Zn (z:=((w+2*(ks.len-1):Nat):Int)) rfl (ev rfl) (ev rfl) (by(try simp only[θ,δ,ζ,γ,ε,η]);rw[wrap_i64 (by omega) (by omega)]<;>omega) (aa rfl _) ?_;refine zQ 2 ?_;exact⟨_,rfl,hH⟩
    rw[if_neg q4];refine qE rfl (by simp[q4]) ?_;refine zQ 5 ?_
    by_cases q6:n.op=6
    ·rw[if_pos q6];refine qD rfl (by simp[q6]) ?_;refine zQ 5 ?_;exact⟨_,rfl,hH⟩
    rw[if_neg q6];refine qE rfl (by simp[q6]) ?_;refine zQ 5 ?_
    by_cases q5:n.op=5
    ·rw[if_pos q5];refine qD rfl (by simp[q5]) ?_;refine zQ 6 ?_;have Kd:0≤n.mn∧n.mn≤30∧(n.mx=-1∨(n.mn≤n.mx∧n.mx≤30)):=by omega
     obtain⟨a,ha⟩:∃a:Nat,n.mn=(a:Int):=Ξ Kd.1;have N6:n.mn.toNat=a:=by omega
     have h1:a*w≤30*401:=Ut (by omega) N5;have hmul:n.mn*(w:Int)=((a*w:Nat):Int):=by rw[ha];push_cast;rfl
     rw[N6]
     by_cases K8:n.mx=-1
     ·rw[if_pos K8];refine qD rfl (by simp[K8]) ?_;refine zQ 4 ?_;refine JS (z:=((a*w:Nat):Int)) rfl (ev rfl) (ev rfl) (by(try simp only[θ,δ,ζ,γ,ε,η]);rw[wrap_i64 (by omega) (by omega)]<;>omega) (aa rfl _) ?_;refine qm ?_;refine Zn (z:=((a*w+w:Nat):Int)) rfl (ev rfl) (ev rfl) (by(try simp only[θ,δ,ζ,γ,ε,η]);rw[wrap_i64 (by omega) (by omega)]<;>omega) (aa rfl _) ?_;refine Zn (z:=((a*w+w+2:Nat):Int)) rfl (ev rfl) (ev rfl) (by(try simp only[θ,δ,ζ,γ,ε,η]);rw[wrap_i64 (by omega) (by omega)]<;>omega) (aa rfl _) ?_;refine zQ 2 ?_;exact⟨_,rfl,hH⟩
     ·rw[if_neg K8];obtain⟨b,hb⟩:∃b:Nat,n.mx=(b:Int):=Ξ (by omega);have htb:n.mx.toNat=b:=by omega
      have h2:(b-a)*(w+1)≤30*402:=Ut (by omega) (by omega);rw[htb];refine qE rfl (by simp[K8]) ?_;refine zQ 4 ?_;refine JS (z:=((a*w:Nat):Int)) rfl (ev rfl) (ev rfl) (by(try simp only[θ,δ,ζ,γ,ε,η]);rw[wrap_i64 (by omega) (by omega)]<;>omega) (aa rfl _) ?_;refine zQ 4 ?_;refine VT (z:=((b-a:Nat):Int)) rfl (ev rfl) (ev rfl) (by(try simp only[θ,δ,ζ,γ,ε,η]);rw[wrap_i64 (by omega) (by omega)]<;>omega) (aa rfl _) ?_;refine qm ?_;refine Zn (z:=((w+1:Nat):Int)) rfl (ev rfl) (ev rfl) (by(try simp only[θ,δ,ζ,γ,ε,η]);rw[wrap_i64 (by omega) (by omega)]<;>omega) (aa rfl _) ?_;refine JS (z:=(((b-a)*(w+1):Nat):Int)) rfl (ev rfl) (ev rfl) (by(try simp only[θ,δ,ζ,γ,ε,η]);rw[wrap_i64 (by omega) (by omega)]<;>omega) (aa rfl _) ?_;refine Zn (z:=((a*w+(b-a)*(w+1):Nat):Int)) rfl (ev rfl) (ev rfl) (by(try simp only[θ,δ,ζ,γ,ε,η]);rw[wrap_i64 (by omega) (by omega)]<;>omega) (aa rfl _) ?_;refine zQ 2 ?_;exact⟨_,rfl,hH⟩
    ·rw[if_neg q5];refine qE rfl (by simp[q5]) ?_;refine zQ 1 ?_;exact⟨_,rfl,hH⟩
   ·rintro fr st ⟨tmp,hfr,hH⟩;rw[hfr];clear hfr;generalize bd fr=ee;clear fr;have oJ:=Qj (n:=n) (k:=ks.len) (s:=ks.sz);have mB:at_<vR.length:=by omega
    obtain⟨w,hw⟩:∃w,vR[at_]?=some w:=⟨vR[at_]'mB,ν _⟩
    have hr9:=fJ hw;refine zQ 5 ?_;refine ab.Uq (z:=((min (cS n ks.sz ks.len) 401:Nat):Int)) (t1:=_) (t2:=_) rfl (ev rfl) (ev rfl) (by omega) (aa rfl _) ?_;refine qi hH aB fun p81 Sa=>?_;refine ab.jb hH rfl (ev rfl) (ev rfl) (by assumption) rfl rfl (by exact aB) (by assumption) (ι rfl) (by exact .inr rfl) (fun st hH=>?_);dsimp only[u2,u1,u3,u4,setMany,u5,u6,υ,μ,ch,az] at hH;refine zQ 6 ?_;refine ag.ret ⟨rx,_,_,_,rfl,aj (rfl),?_⟩;have SG:j=at_+(Tr.mk n ks).flat.length:=by simp only[Tr.flat,δ];omega
    refine⟨by rw[SG];rfl,?_⟩
    have jl:tH es at_ (Tr.zs (.mk n ks))=vR.set at_ ((min (cS n ks.sz ks.len) 401:Nat):Int):=by
     rw[BW,Hi (by rw[cN.mI];omega)];rfl
    rw[jl,Z5];exact cj.DQ bV (hH.erase 1)
  |cons t ts=>
   simp only[cN.len] at AA E9;simp only[cN.sz] at hss;simp only[cN.flat,γ] at hj vL R5;simp only[cN.zs] at BW;simp only[cN.ok] at mP;have lh:decide ((i:Int)<n.kids)=true:=by rw[decide_eq_true_eq];omega
   have ZH:=t.l7;have RO:=t.mI;have RJ:=ts.mI;have SO:(tH vR j t.zs).length=l.length:=by rw[Hk (by omega)];exact Gn
   have hz8:(tH vR j t.zs)[j]?=some ((min t.sz 401:Nat):Int):=by
    obtain⟨n',Uz⟩:=t;simp only[Tr.zs,Tr.sz];exact Oy (by omega)
   have hr8:=fJ hz8;refine qq<|qD rfl (by rw[lh]) ?_;refine zQ 13 ?_;obtain⟨_,st,ax,rfl,hH⟩:=ih t (by omega) mP.1 vL.left Gn hH;refine qv ax ?_;refine zQ 6 ?_;refine qi hH aB fun p29 Vl=>?_;refine zQ 1 ?_;refine Zn (z:=((min ss 401+min t.sz 401:Nat):Int)) rfl (ev rfl) (ev rfl) (by(try simp only[θ,δ,ζ,γ,ε,η]);rw[wrap_i64 (by omega) (by omega)]<;>omega) (by dsimp only[Γ,u1,u2]<;>rfl) ?_;refine ab.Uq (z:=((min (ss+t.sz) 401:Nat):Int)) (t1:=_) (t2:=_) rfl (ev rfl) (ev rfl) (by omega) (by dsimp only[Γ,u1,u2]<;>rfl) ?_;refine zQ 6 ?_;exact⟨mm-1,by omega,⟨i+1,j+t.flat.length,ss+t.sz,ts,tH vR j t.zs,rfl,hH,by omega,by omega,vL.right,mP.2,by omega,SO,by rw[←BW];have:=Hh (es:=vR) (a:=j) (M:=t.zs) (M':=ts.zs) (by omega);rw[RO] at this;exact this,by omega,by omega⟩⟩
theorem P7 (hl:l.length≤1048576) (hi:∀n∈l,n.ok) (hd:dg d 7 (l.map ch)):∀(m:Nat) (t:Tr),t.flat.length≤m→t.ok→∀{N:Nat} {S s0:St} {H:List bo} {out:D} {es:List Int} {at_:Nat},jC l at_ t.flat→es.length=l.length→Has N S s0 (.aF out 1 (es.map az)::H)→
  ∃r ai,Ev pv 137 [d,out,.int .i64 (at_:Nat)] s0 r ai∧r=.int .i64 ((at_+t.flat.length:Nat):Int)∧Has N S ai (.aF out 1 ((tH es at_ (t.es at_)).map az)::H):=by
 intro m
 induction m with
 |zero=>intro t h;have:=t.l7;omega
 |succ m ih=>
  rintro⟨n,ks⟩ hm ba N S s0 H out es at_ oa tJ hH;simp only[Tr.ok] at ba;obtain⟨oQ,mA⟩:=ba;simp only[Tr.flat,δ] at hm;have hle:=oa.le (by simp[Tr.flat]);simp only[Tr.flat] at oa hle;simp only[δ] at hle;have hn:=oa.head;have oa:=oa.tail;have TL:=hi n (φ hn);have gw:=qF hn;have Sz:=oQ.1;have mZ:=cN.pj ks;refine Ev.eN rfl XN rfl rfl rfl ?_;refine zE ?_;have cj:=hH;have hH:=hH.bE;have bV:(ae .rw s0).bs=s0.bs:=rfl;generalize ae .rw s0=S2 at*;have hc:=hd.arg N S2;refine zQ 15 ?_;refine qr fun Zm Sm=>?_;refine qf (fo:=6) fun p13 aam=>?_;refine zQ 4 ?_;refine ag.loop (fun mm fr st=>∃(i j:Nat) (rest:cN) (vR:List Int),fr.clean=⟨16,[d,out,.int .i64 (at_:Nat),bd fr 3,bd fr 4,bd fr 5,.int .i64 0,.int .i64 (j:Nat),bd fr 8,bd fr 9,bd fr 10,bd fr 11,bd fr 12,bd fr 13,.int .i64 n.kids,.int .i64 (i:Nat)],[]⟩∧Has N S2 st (.aF out 1 (vR.map az)::H)∧(mm=rest.len)∧(i+rest.len=ks.len)∧(jC l j rest.flat)∧(rest.ok)∧(vR.length=l.length)∧(tH vR j (rest.es j)=tH es (at_+1) (ks.es (at_+1)))∧(j+rest.flat.length=at_+1+ks.flat.length)∧(rest.flat.length≤m)) (ks.len) ?_ ?_
  ·exact⟨0,at_+1,ks,es,rfl,hH,rfl,by omega,oa,mA,tJ,rfl,rfl,by omega⟩
  rintro mm fr st ⟨i,j,rest,vR,hfr,hH,E9,AA,vL,mP,Gn,BW,hj,R5⟩;rw[hfr];clear hfr;generalize bd fr=ee;clear fr;refine zQ 4 ?_
  cases rest with
  |nil=>
   simp only[cN.len] at AA;simp only[cN.flat,ζ] at hj;simp only[cN.es,Hj] at BW;have lh:decide ((i:Int)<n.kids)=false:=by rw[decide_eq_false_iff_not];omega
   have mB:at_<vR.length:=by omega
   obtain⟨w,hw⟩:∃w,vR[at_]?=some w:=⟨vR[at_]'mB,ν _⟩
   have hr9:=fJ hw;refine qq<|qE rfl (by rw[lh]) ?_;refine zQ 6 ?_;refine qi hH aB fun Ro Gd=>?_;refine ab.jb hH rfl (ev rfl) (ev rfl) (by assumption) rfl rfl (by exact aB) (by assumption) (ι rfl) (by exact .inr rfl) (fun st hH=>?_);dsimp only[u2,u1,u3,u4,setMany,u5,u6,υ,μ,ch,az] at hH;refine zQ 6 ?_;refine ag.ret ⟨rx,_,_,_,rfl,aj (rfl),?_⟩;have SG:j=at_+(Tr.mk n ks).flat.length:=by simp only[Tr.flat,δ];omega
   refine⟨by rw[SG];rfl,?_⟩
   have jl:tH es at_ (Tr.es (.mk n ks) at_)=vR.set at_ ((j:Nat):Int):=by
    rw[BW,Hi (by rw[cN.mR];omega)];have:j=at_+1+ks.flat.length:=by omega
    rw[this];rfl
   rw[jl,Z5];exact cj.DQ bV hH
  |cons t ts=>
   simp only[cN.len] at AA E9;simp only[cN.flat,γ] at hj vL R5;simp only[cN.es] at BW;simp only[cN.ok] at mP;have lh:decide ((i:Int)<n.kids)=true:=by rw[decide_eq_true_eq];omega
   have ZH:=t.l7;have RO:=t.mR j;have RJ:=ts.mR (j+t.flat.length);have SO:(tH vR j (t.es j)).length=l.length:=by rw[Hk (by omega)];exact Gn
   refine qq<|qD rfl (by rw[lh]) ?_;refine zQ 7 ?_;obtain⟨_,st,ax,rfl,hH⟩:=ih t (by omega) mP.1 vL.left Gn hH;refine qv ax ?_;refine zQ 6 ?_;exact⟨mm-1,by omega,⟨i+1,j+t.flat.length,ts,tH vR j (t.es j),rfl,hH,by omega,by omega,vL.right,mP.2,SO,by rw[←BW];have:=Hh (es:=vR) (a:=j) (M:=t.es j) (M':=ts.es (j+t.flat.length)) (by omega);rw[RO] at this;exact this,by omega,by omega⟩⟩
variable{N k:Nat}{S s0:St}{H:List bo}{ks:Nat→Prop}{cd nd zd ed:D}{code:List aP}{op y:Int}
theorem kz {w:D} {rs:List Rg} (hF:S.flr≤N) (hl:code.length≤1048576) (hH:Has N S s0 (.aF w 2 (rs.map aw)::.box k (.mem 0 false [cd,nd,zd,ed])::.deep ks cd 4 (code.map aJ)::H)):
  ∃r ai,Ev pv 138 [.ptr k 0 0,.agg [.int .i64 op,.int .i64 x,.int .i64 y,w]] s0 r ai∧r=.int .i64 (code.length:Nat)∧∃cd' Uz,Has N S ai (.box k (.mem 0 false [cd',nd,zd,ed])::.deep Uz cd' 4 ((code++[eU op x y rs]).map aJ)::H):=by
 refine Ev.eN rfl XM rfl rfl rfl ?_;refine zE ?_;change ag _ _ _ _ s0 _;refine zQ 2 ?_;refine qb hH fun k3 st oC hH=>?_;refine zQ 9 ?_;refine ab.av (m:=4) hH rfl (ev rfl) (by exact aB) (by dsimp only[List.drop_succ_cons,xw,List.take_succ_cons,List.take_zero,aJ]<;>rfl) rfl rfl (aa rfl _) ?_;refine qh (s:=4) (vs:=[_]) hH fun k11 st Jv hH=>?_;obtain⟨hH,SR⟩:=hH.Cu (i:=2) (j:=4) (by decide) a_ bL (fZ _);dsimp only[u1,u2] at hH;refine ab.tk hH rfl (ev rfl) (ev rfl) bL (hH.rows aB) (.cons (.cons (.plain _ rfl) (.cons (.plain _ rfl) (.cons (.plain _ rfl) (.cons SR .nil)))) .nil) rfl rfl rfl rfl rfl rfl rfl ⟨(ι rfl),(ι rfl)⟩ (fun _=>(aa rfl _)) (by simp only[ε,δ,ζ];omega) (.inl hF) (fun x12 st hH=>?_);dsimp only[u1,u2] at hH;refine zQ 2 ?_;refine ab.gE hH rfl (ev rfl) (ev rfl) (by exact hH.fv (by exact bL)) (by exact rfl) (by exact bh) (by exact ι rfl) (by exact .inl hF) (fun st hH=>?_);dsimp only[u2,u1,u3,u4,setMany,u5,u6,υ,μ,aJ] at hH;refine zQ 7 ?_;refine wt hH rfl (ev rfl) (by exact bL) rfl (aa rfl _) ?_;simp only[ε,γ,δ,ζ];refine VT (z:=((code.length:Nat):Int)) rfl (ev rfl) (ev rfl) (by(try simp only[θ,δ,ζ,γ,ε,η]);rw[wrap_i64 (by omega) (by omega)]<;>omega) (aa rfl _) ?_;refine zQ 2 ?_;refine ag.ret ⟨rx,_,_,_,rfl,rfl,?_⟩;exact⟨rfl,_,_,by rw[π];exact hH.drop 3⟩
variable{at_:Nat}{lz:Bool}
theorem wO {over:Nat} (mB:code[at_]?=some (eU 2 x y [])) (hl:code.length≤1048576) (hH:Has N S s0 (.box k (.mem 0 false [cd,nd,zd,ed])::.deep ks cd 4 (code.map aJ)::H)):
  ∃r ai,Ev pv 222 [.ptr k 0 0,.int .i64 (at_:Nat),.int .i64 (over:Nat),.bool lz] s0 r ai∧r=.tup []∧Has N S ai (.box k (.mem 0 false [cd,nd,zd,ed])::.deep ks cd 4 ((code.set at_ (tU at_ over lz)).map aJ)::H):=by
 have hlt:=bp mB;have gw:(code.map aJ)[at_]?=some [.int .i64 2,.int .i64 x,.int .i64 y,.sl []]:=gM mB;have jl:∀a b:List D,(code.map aJ).set at_ a=(code.map aJ).set at_ a:=fun _ _=>rfl;refine Ev.eN rfl WX rfl rfl rfl ?_;refine zE ?_;have cj:=hH;have hH:=hH.bE;have bV:(ae .rw s0).bs=s0.bs:=rfl;generalize ae .rw s0=S2 at*;refine zQ 13 ?_;refine Zn (z:=((at_+1:Nat):Int)) rfl (ev rfl) (ev rfl) (by(try simp only[θ,δ,ζ,γ,ε,η]);rw[wrap_i64 (by omega) (by omega)]<;>omega) (aa rfl _) ?_;refine qm ?_;refine VM (s:=4) hH rfl (ev rfl) (ev rfl) (by exact aO) rfl rfl (by exact bp (by assumption)) (fun _=>(aa rfl _)) (fun Uj Mi=>?_);refine GB (fo:=1) (m:=0) (o2:=1) rfl (ev rfl) (by assumption) rfl rfl rfl (fun _=>(aa rfl _)) (fun Ui Mh=>?_);refine Bv hH rfl (ev rfl) (ev rfl) (by assumption) rfl rfl (by exact aO) (by assumption) (ι rfl) (by intro d hd;simp only[ξ,ο,or_false] at hd;subst hd;rfl) (by exact .inr rfl) (fun st hH=>?_);dsimp only[u2,u1,u3,u4,setMany,u5,u6,υ,μ,aJ] at hH;refine VM (s:=4) hH rfl (ev rfl) (ev rfl) (by exact aO) rfl rfl (by simp only[ε,η]<;>omega) (fun _=>(aa rfl _)) (fun Uh Mg=>?_);refine GB (fo:=2) (m:=0) (o2:=2) rfl (ev rfl) (by assumption) rfl rfl rfl (fun _=>(aa rfl _)) (fun Qw D3=>?_);refine Bv hH rfl (ev rfl) (ev rfl) (by assumption) rfl rfl (by exact aO) (χ (by simp only[η,ε];omega)) (ι rfl) (by intro d hd;simp only[ξ,ο,or_false] at hd;subst hd;rfl) (by exact .inr rfl) (fun st hH=>?_);dsimp only[u1,u2,setMany] at hH;rw[Zt] at hH;refine zQ 5 ?_
 cases lz with
 |false=>
  refine zQ 2 ?_;refine⟨fun i h=>(by cases h),_,_,_,rfl,aj rfl,?_⟩;exact⟨rfl,by rw[Z5];exact cj.DR bV hH⟩
 |true=>
  refine zQ 14 ?_;refine Zn (z:=((at_+1:Nat):Int)) rfl (ev rfl) (ev rfl) (by(try simp only[θ,δ,ζ,γ,ε,η]);rw[wrap_i64 (by omega) (by omega)]<;>omega) (aa rfl _) ?_;refine VM (s:=4) hH rfl (ev rfl) (ev rfl) (by exact aO) rfl rfl (by simp only[ε,η]<;>omega) (fun _=>(aa rfl _)) (fun p39 Vi=>?_);refine GB (fo:=1) (m:=0) (o2:=1) rfl (ev rfl) (by assumption) rfl rfl rfl (fun _=>(aa rfl _)) (fun Zf Si=>?_);refine Bv hH rfl (ev rfl) (ev rfl) (by assumption) rfl rfl (by exact aO) (χ (by simp only[η,ε];omega)) (ι rfl) (by intro d hd;simp only[ξ,ο,or_false] at hd;subst hd;rfl) (by exact .inr rfl) (fun st hH=>?_);dsimp only[u1,u2,setMany] at hH;rw[Zt] at hH;refine VM (s:=4) hH rfl (ev rfl) (ev rfl) (by exact aO) rfl rfl (by simp only[ε,η]<;>omega) (fun _=>(aa rfl _)) (fun Yo Po=>?_);refine GB (fo:=2) (m:=0) (o2:=2) rfl (ev rfl) (by assumption) rfl rfl rfl (fun _=>(aa rfl _)) (fun p42 Vh=>?_);refine Bv hH rfl (ev rfl) (ev rfl) (by assumption) rfl rfl (by exact aO) (χ (by simp only[η,ε];omega)) (ι rfl) (by intro d hd;simp only[ξ,ο,or_false] at hd;subst hd;rfl) (by exact .inr rfl) (fun st hH=>?_);dsimp only[u1,u2,setMany] at hH;rw[Zt] at hH;refine zQ 1 ?_;refine⟨fun i h=>(by cases h),_,_,_,rfl,aj rfl,?_⟩;exact⟨rfl,by rw[Z5];exact cj.DR bV hH⟩
def aD (fr:Go.V.Fr) (k:Nat):Go.V.D:=Go.V.nth .bI fr.loc k
def pa (n:Nat):List D:=[.int .i64 (n:Nat)]
variable{i:Nat}
theorem DD {l:List Nat} {q:Nat} (h:l[i]?=some q):(l.map pa)[i]?=some (pa q):=by rw[ψ,h];rfl
def TX (N:Nat) (S st:St) (k:Nat) (nd zd ed:D) (Z E:List Int) (H:List bo) (code:List aP):Prop:=
 ∃cd ks,Has N S st (.box k (.mem 0 false [cd,nd,zd,ed])::.deep ks cd 4 (code.map aJ)::.aF zd 1 (Z.map az)::.aF ed 1 (E.map az)::H)
def y5 (l:List fX) (t:Tr):Prop:=∀{N k:Nat} {S s0:St} {H:List bo} {nd zd ed:D} {code:List aP} {Z E:List Int} {at_:Nat},S.flr≤N→dg nd 7 (l.map ch)→jC l at_ t.flat→jC Z at_ t.zs→jC E at_ (t.es at_)→t.ok→code.length+t.sz≤1000000→TX N S s0 k nd zd ed Z E H code→
 ∃r ai,Ev pv 139 [.ptr k 0 0,.int .i64 (at_:Nat)] s0 r ai∧r=.tup []∧TX N S ai k nd zd ed Z E H (code++bk t code.length)
variable{E:List Int}{t:Tr}
theorem Ii (h:jC E a (t.es a)):E[a]?=some ((a+t.flat.length:Nat):Int):=by
 obtain⟨n,ks⟩:=t;simp only[Tr.es] at h;rw[h.head];simp only[Tr.flat,δ]
 congr 2;omega
variable{Z:List Int}
theorem Ha (h:jC Z a t.zs):Z[a]?=some ((min t.sz 401:Nat):Int):=by
 obtain⟨n,ks⟩:=t;simp only[Tr.zs] at h;rw[h.head];rfl
variable{m:Nat}{n:fX}
theorem Tp (px:l.length≤1048576) (ih:∀t:Tr,t.flat.length≤m→y5 l t) {ks:cN} (jD:n.op=4) (hkm:ks.flat.length≤m) (oQ:DA n ks.len) (mA:ks.ok) (hF:S.flr≤N) (Ay:dg nd 7 (l.map ch)) (kX:jC l at_ (n::ks.flat)) (hsz:jC Z (at_+1) ks.zs) (sP:jC E (at_+1) (ks.es (at_+1))) (hb:code.length+cS n ks.sz ks.len≤1000000) (hM:TX N S s0 k nd zd ed Z E H code):
  ∃r ai,Ev pv 190 [.ptr k 0 0,.int .i64 (at_:Nat)] s0 r ai∧r=.tup []∧TX N S ai k nd zd ed Z E H (code++ij (sK (code.length+cS n ks.sz ks.len)) ks code.length):=by
 obtain⟨cd,dk,hH⟩:=hM;have hle:=kX.le (by simp);simp only[δ] at hle;have hn:=kX.head;have kX:=kX.tail;have gw:=qF hn;have Sz:=oQ.1;have kq:=cN.pj ks
 have hk2:2≤ks.len:=by
  obtain⟨_,hq⟩:=oQ;omega
 have Pu:cS n ks.sz ks.len=ks.sz+2*(ks.len-1):=by unfold cS;rw[if_neg (by omega),if_pos jD]
 rw[Pu] at hb⊢;clear Pu;refine Ev.eN rfl Xf rfl rfl rfl ?_;refine zE ?_;change ag _ _ _ _ s0 _;have hc:=Ay.arg N S;refine zQ 18 ?_;refine qr fun Zj Sl=>?_;refine qf (fo:=6) fun Rq Gf=>?_;refine zQ 3 ?_;have hH:Has N S s0 (.box k (.mem 0 false [cd,nd,zd,ed])::.deep dk cd 4 (code.map aJ)::.aF zd 1 (Z.map az)::.aF ed 1 (E.map az)::.aF .nul 1 (([]:List Nat).map pa)::H):=(hH.fW 1).OK;refine zQ 1 ?_;refine ag.loop (fun mm fr st=>∃(i j:Nat) (rest:cN) (cd jd:D) (dk:Nat→Prop) (bH:List aP) (js:List Nat),fr.clean=⟨68,[.ptr k 0 0,.int .i64 (at_:Nat),aD fr 2,aD fr 3,jd,.int .i64 (j:Nat),aD fr 6,aD fr 7,aD fr 8,aD fr 9,aD fr 10,aD fr 11,aD fr 12,aD fr 13,aD fr 14,aD fr 15,aD fr 16,aD fr 17,aD fr 18,.int .i64 n.kids,.int .i64 (i:Nat),aD fr 21,aD fr 22,aD fr 23,aD fr 24,aD fr 25,aD fr 26,aD fr 27,aD fr 28,aD fr 29,aD fr 30,aD fr 31,aD fr 32,aD fr 33,aD fr 34,aD fr 35,aD fr 36,aD fr 37,aD fr 38,aD fr 39,aD fr 40,aD fr 41,aD fr 42,aD fr 43,aD fr 44,aD fr 45,aD fr 46,aD fr 47,aD fr 48,aD fr 49,aD fr 50,aD fr 51,aD fr 52,aD fr 53,aD fr 54,aD fr 55,aD fr 56,aD fr 57,aD fr 58,aD fr 59,aD fr 60,aD fr 61,aD fr 62,aD fr 63,aD fr 64,aD fr 65,aD fr 66,aD fr 67],[]⟩∧Has N S st (.box k (.mem 0 false [cd,nd,zd,ed])::.deep dk cd 4 (bH.map aJ)::.aF zd 1 (Z.map az)::.aF ed 1 (E.map az)::.aF jd 1 (js.map pa)::H)∧(mm=rest.len)∧(i+rest.len=ks.len)∧(0<rest.len)∧(jC l j rest.flat)∧(jC Z j rest.zs)∧(jC E j (rest.es j))∧(rest.ok)∧(bH++ij (sK 0) rest bH.length=code++ij (sK 0) ks code.length)∧(js++yU rest bH.length=yU ks code.length)∧(bH.length+(rest.sz+2*(rest.len-1))=code.length+(ks.sz+2*(ks.len-1)))∧(rest.flat.length≤m)∧(js.length≤i)) (ks.len) ?_ ?_
 ·exact⟨0,at_+1,ks,cd,.nul,dk,code,[],rfl,hH,rfl,by omega,by omega,kX,hsz,sP,mA,rfl,rfl,rfl,hkm,by simp⟩
 rintro mm fr st ⟨i,j,rest,cd,jd,dk,bH,js,hfr,hH,E9,AA,hr0,vL,D1,vK,mP,l6,hjs,hcl,R5,oH⟩;rw[hfr];clear hfr;generalize aD fr=ee;clear fr;refine zQ 4 ?_
 cases rest with
 |nil=>simp[cN.len] at hr0
 |cons t ts=>
  simp only[cN.len] at AA E9 hcl;simp only[cN.sz] at hcl;simp only[cN.flat,γ] at vL R5;simp only[cN.zs] at D1;simp only[cN.es] at vK;simp only[cN.ok] at mP;have RO:=t.mI;have UW:=t.mR j;have Jo:=dZ t (bH.length+1) mP.1;have ZZ:=fJ (Ii vK.left);have lh:decide ((i:Int)<n.kids)=true:=by rw[decide_eq_true_eq];omega
  refine qq<|qD rfl (by rw[lh]) ?_;refine zQ 17 ?_;refine qr fun p29 Vl=>?_;refine qf (fo:=6) fun p30 Vk=>?_;refine qR ?_;refine VT (z:=((ks.len-1:Nat):Int)) rfl (ev rfl) (ev rfl) (by(try simp only[θ,δ,ζ,γ,ε,η]);rw[wrap_i64 (by omega) (by omega)]<;>omega) (by dsimp only[Γ,u1,u2]<;>rfl) ?_;refine zQ 2 ?_
  by_cases vA:ts.len=0
  ·simp only[ij,yU,if_pos vA,ρ] at l6 hjs;have Yz:=cN.len_nil vA;subst Yz;simp only[cN.sz,cN.len] at hcl AA;have SS:(((i:Nat):Int)==((ks.len-1:Nat):Int))=true:=by rw[beq_iff_eq];omega
   refine qD rfl (by rw[SS]) ?_;refine zQ 4 ?_;obtain⟨_,st,ax,rfl,cd,dk,hH⟩:=ih t (by omega) hF Ay vL.left D1.left vK.left mP.1 (by omega) ⟨cd,dk,hH⟩;refine qv ax ?_;refine zQ 5 ?_;refine qn ?_ (hR:=hH.rows bL);simp only[ε];refine zQ 2 ?_;rw[l6] at hH;have hal:=yT (sK 0) ks code.length mA;obtain⟨Gg,D4⟩:=uV (jp:=sK (code.length+(ks.sz+2*(ks.len-1)))) (i0:=sK 0) ks code.length code [] mA rfl;simp only[ρ] at Gg D4;have hC0:(code++ij (sK 0) ks code.length).length=code.length+(ks.sz+2*(ks.len-1)):=by rw[γ,hal]
   rw[←hjs] at Gg D4;rw[←Gg];clear Gg l6;generalize code++ij (sK 0) ks code.length=C0 at*;generalize code.length+(ks.sz+2*(ks.len-1))=e at*;refine zQ 1 ?_;refine ag.loop (fun mm fr st=>∃(q:Nat) (C:List aP),fr.clean=⟨68,[.ptr k 0 0,aD fr 1,aD fr 2,aD fr 3,aD fr 4,aD fr 5,aD fr 6,aD fr 7,aD fr 8,aD fr 9,aD fr 10,aD fr 11,aD fr 12,aD fr 13,aD fr 14,aD fr 15,aD fr 16,aD fr 17,aD fr 18,aD fr 19,aD fr 20,aD fr 21,aD fr 22,aD fr 23,aD fr 24,aD fr 25,aD fr 26,aD fr 27,aD fr 28,aD fr 29,aD fr 30,aD fr 31,aD fr 32,aD fr 33,aD fr 34,aD fr 35,aD fr 36,aD fr 37,aD fr 38,aD fr 39,aD fr 40,aD fr 41,aD fr 42,aD fr 43,aD fr 44,aD fr 45,aD fr 46,aD fr 47,aD fr 48,aD fr 49,aD fr 50,aD fr 51,aD fr 52,aD fr 53,aD fr 54,aD fr 55,aD fr 56,aD fr 57,aD fr 58,aD fr 59,aD fr 60,aD fr 61,aD fr 62,aD fr 63,aD fr 64,jd,.int .i64 (js.length:Nat),.int .i64 (q:Nat)],[]⟩∧Has N S st (.box k (.mem 0 false [cd,nd,zd,ed])::.deep dk cd 4 (C.map aJ)::.aF zd 1 (Z.map az)::.aF ed 1 (E.map az)::.aF jd 1 (js.map pa)::H)∧(q+mm=js.length)∧(lT (fun _=>sK e) C (js.drop q)=lT (fun _=>sK e) C0 js)∧(∀p∈js,∃v:Int,C[p]?=some (eU 3 v 0 []))∧(C.length=e)) (js.length) ?_ ?_
   ·exact⟨0,C0,rfl,hH,by omega,rfl,fun p hp=>⟨_,D4 p hp⟩,hC0⟩
   rintro mm fr st ⟨q,C,hfr,hH,hq,iM,s9,TV⟩;rw[hfr];clear hfr;generalize aD fr=ee;clear fr;refine zQ 5 ?_;refine zP (fun hlt=>?_) fun hlt=>?_
   ·refine zQ 1 ?_;have Kb:q<js.length:=by omega
    obtain⟨p,hp⟩:∃p,js[q]?=some p:=⟨js[q]'Kb,ν _⟩
    obtain⟨v,hv⟩:=s9 p (φ hp);have gw:=DD hp;have nB:=gM hv;have fT:=bp hv;refine zQ 4 ?_;refine qi hH bL fun p69 aae=>?_;refine zQ 13 ?_;refine wt hH rfl (ev rfl) (by exact aO) rfl (aa rfl _) ?_;simp only[ε];refine VM (s:=4) hH rfl (ev rfl) (ev rfl) (by exact aO) rfl rfl (by exact bp (by assumption)) (fun _=>(aa rfl _)) (fun p81 Sa=>?_);refine GB (fo:=1) (m:=0) (o2:=1) rfl (ev rfl) (by assumption) rfl rfl rfl (fun _=>(aa rfl _)) (fun p82 ac0=>?_);refine Bv hH rfl (ev rfl) (ev rfl) (by assumption) rfl rfl (by exact aO) (by assumption) (ι rfl) (by intro d hd;simp only[ξ,ο,or_false] at hd;subst hd;rfl) (by exact .inl hF) (fun st hH=>?_);dsimp only[u2,u1,u3,u4,setMany,u5,u6,υ,μ,aJ,ch,az,pa] at hH;refine zQ 5 ?_
    have vP:js.drop q=p::js.drop (q+1):=by
     rw[Ω Kb]
     congr 1
     exact Option.some.inj ((ν _).symm.trans hp)
    refine⟨mm-1,by omega,⟨q+1,C.set p (sK e),rfl,(by rw[Z5,←TV];exact hH),by omega,by rw[vP] at iM;exact iM,?_,by rw[η];exact TV⟩⟩;intro p' BZ
    by_cases hpp:p'=p
    ·subst hpp;exact⟨_,χ fT⟩
    ·rw[YQ (fun e=>hpp e.symm)];exact s9 p' BZ
   ·refine zQ 1 ?_;refine⟨fun i h=>(by cases h),_,_,_,rfl,rfl,?_⟩;have tI:q=js.length:=by omega
    rw[tI,Y'] at iM;have iM:C=lT (fun _=>sK e) C0 js:=iM;rw[←iM];exact⟨rfl,cd,dk,hH.erase 4⟩
  ·simp only[ij,yU,if_neg vA] at l6 hjs;have SS:(((i:Nat):Int)==((ks.len-1:Nat):Int))=false:=by rw[beq_eq_false_iff_ne];omega
   refine qE rfl (by rw[SS]) ?_;refine zQ 4 ?_;refine Q5 (d:=.agg [.int .i64 2,.int .i64 0,.int .i64 0,.nul]) (st1:=_) rfl rfl rfl (by dsimp only[Γ,u1,u2]<;>rfl) ?_;have hH:=hH.fW 2;obtain⟨_,st,ax,rfl,cd,dk,hH⟩:=kz (rs:=[]) hF (by omega) hH;refine qv ax ?_;refine zQ 2 ?_;have oI:(bH++[eU 2 0 0 []]).length=bH.length+1:=by simp
   refine zQ 4 ?_;obtain⟨_,st,ax,rfl,cd,dk,hH⟩:=ih t (by omega) hF Ay vL.left D1.left vK.left mP.1 (by omega) ⟨cd,dk,hH⟩;refine qv ax ?_;refine zQ 1 ?_;rw[oI] at hH;have mj:(bH++[eU 2 0 0 []]++bk t (bH.length+1)).length=bH.length+1+t.sz:=by rw[γ,oI,Jo]
   refine zQ 4 ?_;refine Q5 (d:=.agg [.int .i64 3,.int .i64 0,.int .i64 0,.nul]) (st1:=_) rfl rfl rfl (by dsimp only[Γ,u1,u2]<;>rfl) ?_;have hH:=hH.fW 2;obtain⟨_,st,ax,rfl,cd,dk,hH⟩:=kz (rs:=[]) hF (by omega) hH;refine qv ax ?_;refine qh (s:=1) (vs:=[_]) hH fun k47 st aaA hH=>?_;refine qP hH bT (hH.rows aB) fun NV st hH=>?_;dsimp only[u2,u1,u3,u4,setMany,u5,u6,υ,μ,aJ,ch,az,pa] at hH;refine zQ 2 ?_;have hH:=hH.drop 1
   have SX:(bH++[eU 2 0 0 []]++bk t (bH.length+1)++[eU 3 0 0 []])[bH.length]?=some (eU 2 0 0 []):=by
    rw[κ,κ];exact wA _ _ _
   have ME:(bH++[eU 2 0 0 []]++bk t (bH.length+1)++[eU 3 0 0 []]).length=bH.length+1+t.sz+1:=by rw[γ,mj];rfl
   have Pb:(bH++[eU 2 0 0 []]++bk t (bH.length+1)++[eU 3 0 0 []]).set bH.length (tU bH.length (bH.length+1+t.sz+1) false)=bH++(tU bH.length (bH.length+1+t.sz+1) false::(bk t (bH.length+1)++[sK 0])):=by
    rw[κ,κ];exact wc _ _ _ _
   have JC:(bH++(tU bH.length (bH.length+1+t.sz+1) false::(bk t (bH.length+1)++[sK 0]))).length=bH.length+t.sz+2:=by rw[←Pb,η,ME];omega
   generalize bH++[eU 2 0 0 []]++bk t (bH.length+1)++[eU 3 0 0 []]=Nq at*;refine zQ 8 ?_;refine wt hH rfl (ev rfl) (by exact aO) rfl (by dsimp only[Γ,u1,u2]<;>rfl) ?_;simp only[ε,γ,δ,ζ];obtain⟨_,st,ax,rfl,hH⟩:=wO (at_:=bH.length) (over:=Nq.length) (lz:=false) SX (by omega) hH;refine qv ax ?_;refine zQ 1 ?_;rw[ME,Pb] at hH;refine zQ 6 ?_;refine qi hH bh fun p62 aag=>?_;refine zQ 7 ?_;exact⟨mm-1,by omega,⟨i+1,j+t.flat.length,ts,cd,NV,dk,bH++(tU bH.length (bH.length+1+t.sz+1) false::(bk t (bH.length+1)++[sK 0])),js++[bH.length+1+t.sz],rfl,(by rw[π (f:=pa)];rw[mj] at hH;exact hH),by omega,by omega,by omega,vL.right,by rw[←RO];exact D1.right,by rw[←UW];rw[←UW] at vK;exact vK.right,mP.2,by rw[JC,←l6];simp only[κ,Φ,Θ],by rw[JC,←hjs];simp only[κ,Φ,Θ],by rw[JC];omega,by omega,by rw[γ];simp only[δ,ζ];omega⟩⟩
def ah (fr:Go.V.Fr) (k:Nat):Go.V.D:=Go.V.nth .bI fr.loc k
theorem zO {c:Nat→List aP} (hc:∀b,(c b).length=0) (z:Nat):∀k b,i_ c z k b=[]
 |0,_=>rfl
 |k+1,b=>by rw[i_,zO hc z k,List.length_eq_zero_iff.1 (hc b)];rfl
theorem KH (s o:Nat) (lz:Bool):∃x y:Int,tU s o lz=eU 2 x y []:=by
 cases lz
 ·exact⟨_,_,rfl⟩
 ·exact⟨_,_,rfl⟩
theorem I5 (px:l.length≤1048576) (ih:∀t:Tr,t.flat.length≤m→y5 l t) (jD:n.op=5) (hkm:t.flat.length≤m) (oQ:DA n 1) (zm:t.ok) (hF:S.flr≤N) (Ay:dg nd 7 (l.map ch)) (kX:jC l at_ (n::t.flat)) (hsz:jC Z (at_+1) t.zs) (sP:jC E (at_+1) (t.es (at_+1))) (hb:code.length+cS n t.sz 1≤1000000) (hM:TX N S s0 k nd zd ed Z E H code):
  ∃r ai,Ev pv 191 [.ptr k 0 0,.int .i64 (at_:Nat)] s0 r ai∧r=.tup []∧TX N S ai k nd zd ed Z E H (code++t_ n (bk t) t.sz code.length):=by
 obtain⟨cd,dk,hH⟩:=hM;have hle:=kX.le (by simp);simp only[δ] at hle;have hn:=kX.head;have kX:=kX.tail;have gw:=qF hn;have nB:=fJ (Ha hsz)
 have Kd:0≤n.mn∧n.mn≤30∧(n.mx=-1∨(n.mn≤n.mx∧n.mx≤30)):=by
  obtain⟨_,hq⟩:=oQ;omega
 have Pu:cS n t.sz 1=if n.mx=-1 then n.mn.toNat*t.sz+t.sz+2 else n.mn.toNat*t.sz+(n.mx.toNat-n.mn.toNat)*(t.sz+1):=by unfold cS;rw[if_neg (by omega),if_neg (by omega),if_neg (by omega),if_pos jD]
 rw[Pu] at hb;clear Pu;have Jo:=fun b=>dZ t b zm;have hb1:code.length+n.mn.toNat*t.sz≤1000000:=by split at hb<;>omega
 refine Ev.eN rfl Xe rfl rfl rfl ?_;refine zE ?_;change ag _ _ _ _ s0 _;have hc:=Ay.arg N S;refine zQ 7 ?_;refine qr fun Ys Ps=>?_;refine Cf rfl (ev rfl) (by assumption) rfl (by dsimp only[Γ,u1,u2]<;>rfl) ?_;refine zQ 2 ?_;refine qa hH fun k4 st QQ hH=>?_;refine qS hH aB fun st hH=>?_;dsimp only[u2,u1,u3,u4,setMany,u5,u6,υ,μ,aJ,ch,az,pa] at hH;refine zQ 2 ?_;have hH:Has N S st (.box k (.mem 0 false [cd,nd,zd,ed])::.deep dk cd 4 (code.map aJ)::.aF zd 1 (Z.map az)::.aF ed 1 (E.map az)::.box k4 (.mem 0 false (ch n))::H):=hH.OK;refine zQ 8 ?_;refine qi hH a_ fun Qw D3=>?_;refine zQ 3 ?_;have hRl:=nh Jo n.mn.toNat code.length;refine ag.merge (fun fr st=>∃(cd:D) (dk:Nat→Prop) (tmp:List (Nat×D)),fr=⟨78,[.ptr k 0 0,.int .i64 (at_:Nat),ah fr 2,ah fr 3,.ptr k4 0 0,.int .i64 ((at_+1:Nat):Int),ah fr 6,ah fr 7,ah fr 8,ah fr 9,ah fr 10,ah fr 11,ah fr 12,ah fr 13,ah fr 14,ah fr 15,ah fr 16,ah fr 17,ah fr 18,ah fr 19,ah fr 20,ah fr 21,ah fr 22,ah fr 23,ah fr 24,ah fr 25,ah fr 26,ah fr 27,ah fr 28,ah fr 29,ah fr 30,ah fr 31,ah fr 32,ah fr 33,ah fr 34,ah fr 35,ah fr 36,ah fr 37,ah fr 38,ah fr 39,ah fr 40,ah fr 41,ah fr 42,ah fr 43,ah fr 44,ah fr 45,ah fr 46,ah fr 47,ah fr 48,ah fr 49,ah fr 50,ah fr 51,ah fr 52,ah fr 53,ah fr 54,ah fr 55,ah fr 56,ah fr 57,ah fr 58,ah fr 59,ah fr 60,ah fr 61,ah fr 62,ah fr 63,ah fr 64,ah fr 65,ah fr 66,ah fr 67,ah fr 68,ah fr 69,ah fr 70,ah fr 71,ah fr 72,ah fr 73,ah fr 74,ah fr 75,ah fr 76,ah fr 77],tmp⟩∧Has N S st (.box k (.mem 0 false [cd,nd,zd,ed])::.deep dk cd 4 ((code++i_ (bk t) t.sz n.mn.toNat code.length).map aJ)::.aF zd 1 (Z.map az)::.aF ed 1 (E.map az)::.box k4 (.mem 0 false (ch n))::H)) ?_ ?_
 ·refine zP (fun hz=>?_) fun hz=>?_
  ·refine zQ 7 ?_;refine ag.loop (fun mm fr st=>∃(i:Nat) (cd:D) (dk:Nat→Prop) (bH:List aP),fr.clean=⟨78,[.ptr k 0 0,.int .i64 (at_:Nat),ah fr 2,ah fr 3,.ptr k4 0 0,.int .i64 ((at_+1:Nat):Int),ah fr 6,ah fr 7,ah fr 8,ah fr 9,ah fr 10,ah fr 11,ah fr 12,ah fr 13,ah fr 14,ah fr 15,ah fr 16,ah fr 17,ah fr 18,ah fr 19,ah fr 20,ah fr 21,ah fr 22,ah fr 23,ah fr 24,ah fr 25,ah fr 26,ah fr 27,.int .i64 n.mn,.int .i64 (i:Nat),ah fr 30,ah fr 31,ah fr 32,ah fr 33,ah fr 34,ah fr 35,ah fr 36,ah fr 37,ah fr 38,ah fr 39,ah fr 40,ah fr 41,ah fr 42,ah fr 43,ah fr 44,ah fr 45,ah fr 46,ah fr 47,ah fr 48,ah fr 49,ah fr 50,ah fr 51,ah fr 52,ah fr 53,ah fr 54,ah fr 55,ah fr 56,ah fr 57,ah fr 58,ah fr 59,ah fr 60,ah fr 61,ah fr 62,ah fr 63,ah fr 64,ah fr 65,ah fr 66,ah fr 67,ah fr 68,ah fr 69,ah fr 70,ah fr 71,ah fr 72,ah fr 73,ah fr 74,ah fr 75,ah fr 76,ah fr 77],[]⟩∧Has N S st (.box k (.mem 0 false [cd,nd,zd,ed])::.deep dk cd 4 (bH.map aJ)::.aF zd 1 (Z.map az)::.aF ed 1 (E.map az)::.box k4 (.mem 0 false (ch n))::H)∧(i+mm=n.mn.toNat)∧(bH++i_ (bk t) t.sz mm bH.length=code++i_ (bk t) t.sz n.mn.toNat code.length)∧(bH.length+mm*t.sz=code.length+n.mn.toNat*t.sz)) (n.mn.toNat) ?_ ?_
   ·exact⟨0,cd,dk,code,rfl,hH,by omega,rfl,rfl⟩
   rintro mm fr st ⟨i,cd,dk,bH,hfr,hH,hi,oK,hcl⟩;rw[hfr];clear hfr;generalize ah fr=ee;clear fr;refine zQ 4 ?_
   cases mm with
   |zero=>
    have lh:decide ((i:Int)<n.mn)=false:=by rw[decide_eq_false_iff_not];omega
    refine qq<|qE rfl (by rw[lh]) ?_;simp only[i_,ρ] at oK;rw[oK] at hH;refine zQ 1 ?_;exact⟨cd,dk,_,rfl,hH⟩
   |succ mm=>
    have lh:decide ((i:Int)<n.mn)=true:=by rw[decide_eq_true_eq];omega
    rw[ZD] at hcl;refine qq<|qD rfl (by rw[lh]) ?_;refine zQ 6 ?_;obtain⟨_,st,ax,rfl,cd,dk,hH⟩:=ih t (by omega) hF Ay kX hsz sP zm (by omega) ⟨cd,dk,hH⟩;refine qv ax ?_;refine zQ 5 ?_;exact⟨mm,by omega,⟨i+1,cd,dk,bH++bk t bH.length,rfl,hH,by omega,by rw[γ,Jo,κ];exact oK,by rw[γ,Jo];omega⟩⟩
  ·refine zQ 1 ?_;have hz0:t.sz=0:=by omega
   have hR0:i_ (bk t) t.sz n.mn.toNat code.length=[]:=zO (fun b=>by rw[Jo,hz0]) _ _ _;exact⟨cd,dk,_,rfl,(by rw[hR0,ρ];exact hH)⟩
 ·rintro fr st ⟨cd,dk,tmp,hfr,hH⟩;rw[hfr];clear hfr;generalize ah fr=ee;clear fr;have YO:(code++i_ (bk t) t.sz n.mn.toNat code.length).length=code.length+n.mn.toNat*t.sz:=by rw[γ,hRl]
  unfold t_;rw[←YO];rw[←YO] at hb1
  have hb2:if n.mx=-1 then(code++i_ (bk t) t.sz n.mn.toNat code.length).length+t.sz+2≤1000000 else(code++i_ (bk t) t.sz n.mn.toNat code.length).length+(n.mx.toNat-n.mn.toNat)*(t.sz+1)≤1000000:=by
   rw[YO];split
   ·rename_i h;rw[if_pos h] at hb;omega
   ·rename_i h;rw[if_neg h] at hb;omega
  have PS:∀X:List aP,code++(i_ (bk t) t.sz n.mn.toNat code.length++X)=code++i_ (bk t) t.sz n.mn.toNat code.length++X:=fun X=>by rw[κ]
  simp only[apply_ite (fun X:List aP=>code++X),PS];clear PS YO;generalize code++i_ (bk t) t.sz n.mn.toNat code.length=cR at*;refine zQ 7 ?_
  by_cases K8:n.mx=-1
  ·rw[if_pos K8];rw[if_pos K8] at hb2;refine qD rfl (by simp[K8]) ?_;refine zQ 3 ?_;refine Q5 (d:=.agg [.int .i64 2,.int .i64 0,.int .i64 0,.nul]) (st1:=_) rfl rfl rfl (by dsimp only[Γ,u1,u2]<;>rfl) ?_;have hH:=hH.fW 2;obtain⟨_,st,ax,rfl,cd,dk,hH⟩:=kz (rs:=[]) hF (by omega) hH;refine qv ax ?_;refine zQ 2 ?_;have oI:(cR++[eU 2 0 0 []]).length=cR.length+1:=by simp
   refine zQ 4 ?_;obtain⟨_,st,ax,rfl,cd,dk,hH⟩:=ih t (by omega) hF Ay kX hsz sP zm (by omega) ⟨cd,dk,hH⟩;refine qv ax ?_;refine zQ 1 ?_;rw[oI] at hH;have mj:(cR++[eU 2 0 0 []]++bk t (cR.length+1)).length=cR.length+1+t.sz:=by rw[γ,oI,Jo]
   refine zQ 4 ?_;refine Q5 (d:=.agg [.int .i64 3,.int .i64 (cR.length:Nat),.int .i64 0,.nul]) (st1:=_) rfl rfl rfl (by dsimp only[Γ,u1,u2]<;>rfl) ?_;have hH:=hH.fW 2;obtain⟨_,st,ax,rfl,cd,dk,hH⟩:=kz (rs:=[]) hF (by omega) hH;refine qv ax ?_;refine zQ 1 ?_
   have SX:(cR++[eU 2 0 0 []]++bk t (cR.length+1)++[eU 3 (cR.length:Nat) 0 []])[cR.length]?=some (eU 2 0 0 []):=by
    rw[κ,κ];exact wA _ _ _
   have ME:(cR++[eU 2 0 0 []]++bk t (cR.length+1)++[eU 3 (cR.length:Nat) 0 []]).length=cR.length+t.sz+2:=by rw[γ,mj];simp only[δ,ζ];omega
   have Pb:(cR++[eU 2 0 0 []]++bk t (cR.length+1)++[eU 3 (cR.length:Nat) 0 []]).set cR.length (tU cR.length (cR.length+t.sz+2) n.lz)=cR++(tU cR.length (cR.length+t.sz+2) n.lz::(bk t (cR.length+1)++[sK cR.length])):=by
    rw[κ,κ];exact wc _ _ _ _
   generalize cR++[eU 2 0 0 []]++bk t (cR.length+1)++[eU 3 (cR.length:Nat) 0 []]=Nq at*;refine zQ 8 ?_;refine wt hH rfl (ev rfl) (by exact aO) rfl (by dsimp only[Γ,u1,u2]<;>rfl) ?_;simp only[ε,γ,δ,ζ];refine zQ 2 ?_;obtain⟨_,st,ax,rfl,hH⟩:=wO (at_:=cR.length) (over:=Nq.length) (lz:=n.lz) SX (by omega) hH;refine qv ax ?_;refine zQ 1 ?_;rw[ME,Pb] at hH;refine ag.ret ⟨rx,_,_,_,rfl,rfl,?_⟩;exact⟨rfl,cd,dk,hH.erase 4⟩
  ·rw[if_neg K8];rw[if_neg K8] at hb2;refine qE rfl (by simp[K8]) ?_;refine zQ 1 ?_;obtain⟨a,ha⟩:∃a:Nat,n.mn=(a:Int):=Ξ Kd.1;obtain⟨b,B6⟩:∃b:Nat,n.mx=(b:Int):=Ξ (by omega);have SQ:n.mx.toNat-n.mn.toNat=b-a:=by omega
   rw[SQ] at hb2⊢;refine zQ 11 ?_;refine VT (z:=((b-a:Nat):Int)) rfl (ev rfl) (ev rfl) (by(try simp only[θ,δ,ζ,γ,ε,η]);rw[wrap_i64 (by omega) (by omega)]<;>omega) (by dsimp only[Γ,u1,u2]<;>rfl) ?_;refine zQ 2 ?_;have hH:Has N S st (.box k (.mem 0 false [cd,nd,zd,ed])::.deep dk cd 4 (cR.map aJ)::.aF zd 1 (Z.map az)::.aF ed 1 (E.map az)::.aF .nul 1 (([]:List Nat).map pa)::.box k4 (.mem 0 false (ch n))::H):=(hH.fW 1).OK;refine zQ 1 ?_;refine ag.loop (fun mm fr st=>∃(i:Nat) (cd jd:D) (dk:Nat→Prop) (bH:List aP) (js:List Nat),fr.clean=⟨78,[.ptr k 0 0,.int .i64 (at_:Nat),ah fr 2,ah fr 3,.ptr k4 0 0,.int .i64 ((at_+1:Nat):Int),ah fr 6,jd,ah fr 8,ah fr 9,ah fr 10,ah fr 11,ah fr 12,ah fr 13,ah fr 14,ah fr 15,ah fr 16,ah fr 17,ah fr 18,ah fr 19,ah fr 20,ah fr 21,ah fr 22,ah fr 23,ah fr 24,ah fr 25,ah fr 26,ah fr 27,ah fr 28,ah fr 29,ah fr 30,ah fr 31,ah fr 32,ah fr 33,ah fr 34,ah fr 35,ah fr 36,ah fr 37,ah fr 38,ah fr 39,ah fr 40,ah fr 41,ah fr 42,ah fr 43,ah fr 44,ah fr 45,ah fr 46,ah fr 47,ah fr 48,ah fr 49,ah fr 50,ah fr 51,ah fr 52,ah fr 53,ah fr 54,ah fr 55,ah fr 56,ah fr 57,ah fr 58,ah fr 59,ah fr 60,ah fr 61,.int .i64 ((b-a:Nat):Int),.int .i64 (i:Nat),ah fr 64,ah fr 65,ah fr 66,ah fr 67,ah fr 68,ah fr 69,ah fr 70,ah fr 71,ah fr 72,ah fr 73,ah fr 74,ah fr 75,ah fr 76,ah fr 77],[]⟩∧Has N S st (.box k (.mem 0 false [cd,nd,zd,ed])::.deep dk cd 4 (bH.map aJ)::.aF zd 1 (Z.map az)::.aF ed 1 (E.map az)::.aF jd 1 (js.map pa)::.box k4 (.mem 0 false (ch n))::H)∧(i+mm=b-a)∧(bH++iL (fun _=>eU 2 0 0 []) (bk t) t.sz mm bH.length=cR++iL (fun _=>eU 2 0 0 []) (bk t) t.sz (b-a) cR.length)∧(js++Ds t.sz mm bH.length=Ds t.sz (b-a) cR.length)∧(bH.length+mm*(t.sz+1)=cR.length+(b-a)*(t.sz+1))∧(js.length=i)) (b-a) ?_ ?_
   ·exact⟨0,cd,.nul,dk,cR,[],rfl,hH,by omega,rfl,rfl,rfl,rfl⟩
   rintro mm fr st ⟨i,cd,jd,dk,bH,js,hfr,hH,hi,l6,hjs,hcl,oH⟩;rw[hfr];clear hfr;generalize ah fr=ee;clear fr;refine zQ 4 ?_
   cases mm with
   |zero=>
    have lh:decide ((i:Int)<((b-a:Nat):Int))=false:=by rw[decide_eq_false_iff_not];omega
    refine qq<|qE rfl (by rw[lh]) ?_;refine zQ 4 ?_;refine qn ?_ (hR:=hH.rows bL);simp only[ε];refine zQ 2 ?_;simp only[iL,Ds,ρ] at l6 hjs;rw[l6] at hH;obtain⟨Gg,D4⟩:=uj (sp:=fun s=>tU s (cR.length+(b-a)*(t.sz+1)) n.lz) Jo (i0:=eU 2 0 0 []) (b-a) cR.length cR [] rfl;simp only[ρ] at Gg D4;have hC0:(cR++iL (fun _=>eU 2 0 0 []) (bk t) t.sz (b-a) cR.length).length=cR.length+(b-a)*(t.sz+1):=by rw[γ,xq Jo]
    rw[←hjs] at Gg D4;rw[←Gg];clear Gg l6;generalize cR++iL (fun _=>eU 2 0 0 []) (bk t) t.sz (b-a) cR.length=C0 at*;generalize cR.length+(b-a)*(t.sz+1)=e at*;refine zQ 1 ?_;refine ag.loop (fun mm fr st=>∃(q:Nat) (C:List aP),fr.clean=⟨78,[.ptr k 0 0,ah fr 1,ah fr 2,ah fr 3,.ptr k4 0 0,ah fr 5,ah fr 6,ah fr 7,ah fr 8,ah fr 9,ah fr 10,ah fr 11,ah fr 12,ah fr 13,ah fr 14,ah fr 15,ah fr 16,ah fr 17,ah fr 18,ah fr 19,ah fr 20,ah fr 21,ah fr 22,ah fr 23,ah fr 24,ah fr 25,ah fr 26,ah fr 27,ah fr 28,ah fr 29,ah fr 30,ah fr 31,ah fr 32,ah fr 33,ah fr 34,ah fr 35,ah fr 36,ah fr 37,ah fr 38,ah fr 39,ah fr 40,ah fr 41,ah fr 42,ah fr 43,ah fr 44,ah fr 45,ah fr 46,ah fr 47,ah fr 48,ah fr 49,ah fr 50,ah fr 51,ah fr 52,ah fr 53,ah fr 54,ah fr 55,ah fr 56,ah fr 57,ah fr 58,ah fr 59,ah fr 60,ah fr 61,ah fr 62,ah fr 63,ah fr 64,ah fr 65,ah fr 66,ah fr 67,ah fr 68,ah fr 69,ah fr 70,ah fr 71,ah fr 72,ah fr 73,ah fr 74,jd,.int .i64 (js.length:Nat),.int .i64 (q:Nat)],[]⟩∧Has N S st (.box k (.mem 0 false [cd,nd,zd,ed])::.deep dk cd 4 (C.map aJ)::.aF zd 1 (Z.map az)::.aF ed 1 (E.map az)::.aF jd 1 (js.map pa)::.box k4 (.mem 0 false (ch n))::H)∧(q+mm=js.length)∧(lT (fun s=>tU s e n.lz) C (js.drop q)=lT (fun s=>tU s e n.lz) C0 js)∧(∀p∈js,∃x y:Int,C[p]?=some (eU 2 x y []))∧(C.length=e)) (js.length) ?_ ?_
    ·exact⟨0,C0,rfl,hH,by omega,rfl,fun p hp=>⟨_,_,D4 p hp⟩,hC0⟩
    rintro mm fr st ⟨q,C,hfr,hH,hq,iM,s9,TV⟩;rw[hfr];clear hfr;generalize ah fr=ee;clear fr;refine zQ 5 ?_;refine zP (fun hlt=>?_) fun hlt=>?_
    ·refine zQ 1 ?_;have Kb:q<js.length:=by omega
     obtain⟨p,hp⟩:∃p,js[q]?=some p:=⟨js[q]'Kb,ν _⟩
     obtain⟨x,y,hv⟩:=s9 p (φ hp);have gw:=DD hp;have fT:=bp hv;refine zQ 4 ?_;refine qi hH bL fun Ym Pm=>?_;refine zQ 10 ?_;refine wt hH rfl (ev rfl) (by exact aO) rfl (aa rfl _) ?_;simp only[ε];refine zQ 2 ?_;obtain⟨_,st,ax,rfl,hH⟩:=wO (at_:=p) (over:=C.length) (lz:=n.lz) hv (by omega) hH;refine qv ax ?_;refine zQ 5 ?_
     have vP:js.drop q=p::js.drop (q+1):=by
      rw[Ω Kb]
      congr 1
      exact Option.some.inj ((ν _).symm.trans hp)
     refine⟨mm-1,by omega,⟨q+1,C.set p (tU p e n.lz),rfl,(by rw[TV] at hH;exact hH),by omega,by rw[vP] at iM;exact iM,?_,by rw[η];exact TV⟩⟩;intro p' BZ
     by_cases hpp:p'=p
     ·subst hpp;obtain⟨x',y',UL⟩:=KH p' e n.lz;exact⟨x',y',by rw[χ fT,UL]⟩
     ·rw[YQ (fun e=>hpp e.symm)];exact s9 p' BZ
    ·refine zQ 1 ?_;refine⟨fun i h=>(by cases h),_,_,_,rfl,rfl,?_⟩;have tI:q=js.length:=by omega
     rw[tI,Y'] at iM;have iM:C=lT (fun s=>tU s e n.lz) C0 js:=iM;rw[←iM];exact⟨rfl,cd,dk,(hH.erase 5).erase 4⟩
   |succ mm=>
    have lh:decide ((i:Int)<((b-a:Nat):Int))=true:=by rw[decide_eq_true_eq];omega
    rw[ZD] at hcl;refine qq<|qD rfl (by rw[lh]) ?_;refine zQ 7 ?_;refine Q5 (d:=.agg [.int .i64 2,.int .i64 0,.int .i64 0,.nul]) (st1:=_) rfl rfl rfl (by dsimp only[Γ,u1,u2]<;>rfl) ?_;have hH:=hH.fW 2;obtain⟨_,st,ax,rfl,cd,dk,hH⟩:=kz (rs:=[]) hF (by omega) hH;refine qv ax ?_;refine qh (s:=1) (vs:=[_]) hH fun k69 st aav hH=>?_;dsimp only[u2,u1,u3,u4,setMany,u5,u6,υ,μ,aJ,ch,az,pa] at hH;refine qP hH bT (hH.rows aB) fun Yi st hH=>?_;dsimp only[u2,u1,u3,u4,setMany,u5,u6,υ,μ,aJ,ch,az,pa] at hH;refine zQ 2 ?_;have hH:=hH.drop 1;have oI:(bH++[eU 2 0 0 []]).length=bH.length+1:=by simp
    refine zQ 3 ?_;obtain⟨_,st,ax,rfl,cd,dk,hH⟩:=ih t (by omega) hF Ay kX hsz sP zm (by omega) ⟨cd,dk,hH⟩;refine qv ax ?_;refine zQ 1 ?_;rw[oI] at hH;have mj:(bH++[eU 2 0 0 []]++bk t (bH.length+1)).length=bH.length+1+t.sz:=by rw[γ,oI,Jo]
    refine zQ 4 ?_;exact⟨mm,by omega,⟨i+1,cd,Yi,dk,bH++[eU 2 0 0 []]++bk t (bH.length+1),js++[bH.length],rfl,(by rw[π (f:=pa)];exact hH),by omega,by rw[mj,←l6];simp only[iL,κ,Φ,Θ],by rw[mj,←hjs];simp only[Ds,κ,Φ,Θ],by rw[mj];omega,by rw[γ,oH];rfl⟩⟩
def cY (fr:Go.V.Fr) (k:Nat):Go.V.D:=Go.V.nth .bI fr.loc k
theorem EL (t:Tr):jR (.cons t .nil)=bk t:=by
 funext b;simp only[jR,ρ]
theorem Fj (t:Tr):(cN.cons t .nil).sz=t.sz:=by simp only[cN.sz,Nat.add_zero]
theorem OT (px:l.length≤1048576) (hi:∀n∈l,n.ok):∀(m:Nat) (t:Tr),t.flat.length≤m→y5 l t:=by
 intro m
 induction m with
 |zero=>intro t h;have:=t.l7;omega
 |succ m ih=>
  rintro⟨n,ks⟩ hm N k S s0 H nd zd ed code Z E at_ hF Ay kX hsz sP ba hb hM;have hM0:=hM;obtain⟨cd,dk,hH⟩:=hM;simp only[Tr.ok] at ba;obtain⟨oQ,mA⟩:=ba;simp only[Tr.flat,δ] at hm;have hle:=kX.le (by simp[Tr.flat]);simp only[Tr.flat] at kX hle;simp only[δ] at hle;simp only[Tr.zs] at hsz;simp only[Tr.es] at sP;simp only[Tr.sz] at hb;have hn:=kX.head;have TL:=hi n (φ hn);have Gb:=TL.1.arg N S;have sQ:=TL.2.1;have gw:=qF hn;have Sz:=oQ.1;have kq:=cN.pj ks;have hcat:=fun b=>tu ks b mA;refine Ev.eN rfl XL rfl rfl rfl ?_;refine zE ?_;change ag _ _ _ _ s0 _;have hc:=Ay.arg N S;refine zQ 7 ?_;refine qr fun p11 Vq=>?_;refine Cf rfl (ev rfl) (by assumption) rfl (by dsimp only[Γ,u1,u2]<;>rfl) ?_;refine qa hH fun k4 st QQ hH=>?_;refine qS hH aB fun st hH=>?_;dsimp only[u2,u1,u3,u4,setMany,u5,u6,υ,μ,aJ,ch,az,pa] at hH;refine zQ 1 ?_;have hH:Has N S st (.box k (.mem 0 false [cd,nd,zd,ed])::.deep dk cd 4 (code.map aJ)::.aF zd 1 (Z.map az)::.aF ed 1 (E.map az)::.box k4 (.mem 0 false (ch n))::H):=hH.OK;refine zQ 11 ?_;refine zI (fun q2=>?_) fun q2=>?_
  ·have Gq:bk (.mk n ks) code.length=[eU 1 0 0 n.rs]:=by simp only[bk,if_pos q2]
   rw[Gq];have hz:cS n ks.sz ks.len=1:=by unfold cS;rw[if_pos (.inl q2)]
   have hH:=hH.fW 2;refine zQ 4 ?_;refine qP hH aB (Arg.rows (by assumption) hH) fun x20 st hH=>?_;dsimp only[u2,u1,u3,u4,setMany,u5,u6,υ,μ,aJ,ch,az,pa] at hH;refine ab.jc (qs:=[(0,_),(3,_)]) rfl rfl rfl rfl ⟨rfl,(ev rfl),(by rfl),rfl,(ev rfl),(by exact hH.cX (by exact aB)),trivial⟩ (by intro q hq;simp only[ξ,ο,or_false] at hq;rcases hq with rfl|rfl<;>exact⟨rfl,by exact ι rfl⟩) (by show BY _ [_,_,_,_] _=_;dsimp only[YH,v8,u2,u1]<;>rfl) (by dsimp only[Γ,u1,u2]<;>rfl) ?_;obtain⟨_,st,ax,rfl,cd,dk,hH⟩:=kz (rs:=n.rs) hF (by omega) hH;refine qv ax ?_;refine zQ 1 ?_;refine⟨fun i h=>(by cases h),_,_,_,rfl,rfl,?_⟩;exact⟨rfl,cd,dk,hH.erase 4⟩
  refine zQ 5 ?_;refine zI (fun q7=>?_) fun q7=>?_
  ·have Gq:bk (.mk n ks) code.length=[eU 5 0 0 []]:=by simp only[bk,if_neg q2,if_pos q7]
   rw[Gq];refine zQ 2 ?_;refine Q5 (d:=.agg [.int .i64 5,.int .i64 0,.int .i64 0,.nul]) (st1:=_) rfl rfl rfl (by dsimp only[Γ,u1,u2]<;>rfl) ?_;have hH:=hH.fW 2;obtain⟨_,st,ax,rfl,cd,dk,hH⟩:=kz (rs:=[]) hF (by omega) hH;refine qv ax ?_;refine zQ 1 ?_;refine⟨fun i h=>(by cases h),_,_,_,rfl,rfl,?_⟩;exact⟨rfl,cd,dk,hH.erase 4⟩
  refine zQ 5 ?_;refine zI (fun q8=>?_) fun q8=>?_
  ·have Gq:bk (.mk n ks) code.length=[eU 6 0 0 []]:=by simp only[bk,if_neg q2,if_neg q7,if_pos q8]
   rw[Gq];refine zQ 2 ?_;refine Q5 (d:=.agg [.int .i64 6,.int .i64 0,.int .i64 0,.nul]) (st1:=_) rfl rfl rfl (by dsimp only[Γ,u1,u2]<;>rfl) ?_;have hH:=hH.fW 2;obtain⟨_,st,ax,rfl,cd,dk,hH⟩:=kz (rs:=[]) hF (by omega) hH;refine qv ax ?_;refine zQ 1 ?_;refine⟨fun i h=>(by cases h),_,_,_,rfl,rfl,?_⟩;exact⟨rfl,cd,dk,hH.erase 4⟩
  refine zQ 5 ?_;refine zI (fun q3=>?_) fun q3=>?_
  ·have Gq:bk (.mk n ks) code.length=jR ks code.length:=by simp only[bk,if_neg q2,if_neg q7,if_neg q8,if_pos q3]
   rw[Gq];have hz:cS n ks.sz ks.len=ks.sz:=by unfold cS;rw[if_neg (by omega),if_neg (by omega),if_neg (by omega),if_neg (by omega)]
   rw[hz] at hb;refine zQ 13 ?_;refine ag.loop (fun mm fr st=>∃(i j:Nat) (rest:cN) (cd:D) (dk:Nat→Prop) (bH:List aP),fr.clean=⟨40,[.ptr k 0 0,.int .i64 (at_:Nat),cY fr 2,cY fr 3,.ptr k4 0 0,.int .i64 (j:Nat),cY fr 6,cY fr 7,cY fr 8,cY fr 9,cY fr 10,cY fr 11,cY fr 12,cY fr 13,cY fr 14,cY fr 15,cY fr 16,cY fr 17,cY fr 18,cY fr 19,cY fr 20,cY fr 21,cY fr 22,cY fr 23,cY fr 24,cY fr 25,cY fr 26,cY fr 27,cY fr 28,cY fr 29,cY fr 30,cY fr 31,cY fr 32,cY fr 33,cY fr 34,cY fr 35,cY fr 36,cY fr 37,.int .i64 n.kids,.int .i64 (i:Nat)],[]⟩∧Has N S st (.box k (.mem 0 false [cd,nd,zd,ed])::.deep dk cd 4 (bH.map aJ)::.aF zd 1 (Z.map az)::.aF ed 1 (E.map az)::.box k4 (.mem 0 false (ch n))::H)∧(mm=rest.len)∧(i+rest.len=ks.len)∧(jC l j rest.flat)∧(jC Z j rest.zs)∧(jC E j (rest.es j))∧(rest.ok)∧(bH++jR rest bH.length=code++jR ks code.length)∧(bH.length+rest.sz=code.length+ks.sz)∧(rest.flat.length≤m)) (ks.len) ?_ ?_
   ·exact⟨0,at_+1,ks,cd,dk,code,rfl,hH,rfl,by omega,kX.tail,hsz.tail,sP.tail,mA,rfl,rfl,by omega⟩
   rintro mm fr st ⟨i,j,rest,cd,dk,bH,hfr,hH,E9,AA,vL,D1,vK,mP,l6,hcl,R5⟩;rw[hfr];clear hfr;generalize cY fr=ee;clear fr;refine zQ 4 ?_
   cases rest with
   |nil=>
    simp only[cN.len] at AA;simp only[jR,ρ] at l6;have lh:decide ((i:Int)<n.kids)=false:=by rw[decide_eq_false_iff_not];omega
    refine qq<|qE rfl (by rw[lh]) ?_;refine zQ 1 ?_;refine⟨fun i h=>(by cases h),_,_,_,rfl,rfl,?_⟩;rw[←l6];exact⟨rfl,cd,dk,hH.erase 4⟩
   |cons t ts=>
    simp only[cN.len] at AA E9;simp only[cN.sz] at hcl;simp only[cN.flat,γ] at vL R5;simp only[cN.zs] at D1;simp only[cN.es] at vK;simp only[cN.ok] at mP;simp only[jR] at l6;have RO:=t.mI;have UW:=t.mR j;have Jo:=dZ t bH.length mP.1;have ZZ:=fJ (Ii vK.left);have lh:decide ((i:Int)<n.kids)=true:=by rw[decide_eq_true_eq];omega
    refine qq<|qD rfl (by rw[lh]) ?_;refine zQ 7 ?_;obtain⟨_,st,ax,rfl,cd,dk,hH⟩:=ih t (by omega) hF Ay vL.left D1.left vK.left mP.1 (by omega) ⟨cd,dk,hH⟩;refine qv ax ?_;refine zQ 7 ?_;refine qi hH bh fun Zc Sf=>?_;refine zQ 7 ?_;exact⟨mm-1,by omega,⟨i+1,j+t.flat.length,ts,cd,dk,bH++bk t bH.length,rfl,hH,by omega,by omega,vL.right,by rw[←RO];exact D1.right,by rw[←UW];rw[←UW] at vK;exact vK.right,mP.2,by rw[γ,Jo,κ];exact l6,by rw[γ,Jo];omega,by omega⟩⟩
  refine zQ 5 ?_;refine zI (fun q4=>?_) fun q4=>?_
  ·have Gq:bk (.mk n ks) code.length=ij (sK (code.length+cS n ks.sz ks.len)) ks code.length:=by simp only[bk,if_neg q2,if_neg q7,if_neg q8,if_neg q3,if_pos q4]
   rw[Gq];refine zQ 3 ?_;obtain⟨_,st,ax,rfl,cd,dk,hH⟩:=Tp px ih q4 (by omega) oQ mA hF Ay kX hsz.tail sP.tail hb ⟨cd,dk,hH⟩;refine qv ax ?_;refine zQ 1 ?_;refine⟨fun i h=>(by cases h),_,_,_,rfl,rfl,?_⟩;exact⟨rfl,cd,dk,hH.erase 4⟩
  refine zQ 5 ?_;refine zI (fun q5=>?_) fun q5=>?_
  ·have rj:ks.len=1:=by
    obtain⟨_,hq⟩:=oQ;omega
   obtain⟨t,rfl⟩:=cN.HN rj;have Gq:bk (.mk n (.cons t .nil)) code.length=t_ n (bk t) t.sz code.length:=by simp only[bk,if_neg q2,if_neg q7,if_neg q8,if_neg q3,if_neg q4,if_pos q5,EL,Fj]
   rw[Gq];rw[rj] at oQ hb;rw[Fj] at hb;simp only[cN.flat,cN.zs,cN.es,cN.ok,ρ] at*;refine zQ 3 ?_;obtain⟨_,st,ax,rfl,cd,dk,hH⟩:=I5 px ih q5 (by omega) oQ mA.1 hF Ay kX hsz.tail sP.tail hb ⟨cd,dk,hH⟩;refine qv ax ?_;refine zQ 1 ?_;refine⟨fun i h=>(by cases h),_,_,_,rfl,rfl,?_⟩;exact⟨rfl,cd,dk,hH.erase 4⟩
  refine zQ 5 ?_;refine zI (fun q6=>?_) fun q6=>?_
  ·have rj:ks.len=1∧1≤n.cap∧n.cap≤4:=by
    obtain⟨_,hq⟩:=oQ;omega
   obtain⟨t,rfl⟩:=cN.HN rj.1;have Gq:bk (.mk n (.cons t .nil)) code.length=eU 4 (2*n.cap) 0 []::(bk t (code.length+1)++[eU 4 (2*n.cap+1) 0 []]):=by simp only[bk,if_neg q2,if_neg q7,if_neg q8,if_neg q3,if_neg q4,if_neg q5,if_pos q6,EL]
   rw[Gq];have hz:cS n (cN.cons t .nil).sz (cN.cons t .nil).len=t.sz+2:=by unfold cS;rw[if_neg (by omega),if_neg (by omega),if_pos q6,Fj]
   rw[hz] at hb;simp only[cN.flat,cN.zs,cN.es,cN.ok,ρ] at kX hsz sP mA hm;refine zQ 5 ?_;refine JS (z:=(2*n.cap)) rfl (ev rfl) (ev rfl) (by(try simp only[θ,δ,ζ,γ,ε,η]);rw[wrap_i64 (by omega) (by omega)]<;>omega) (aa rfl _) ?_;refine Q5 (d:=.agg [.int .i64 4,.int .i64 (2*n.cap),.int .i64 0,.nul]) (st1:=_) rfl rfl rfl (aa rfl _) ?_;have hH:=hH.fW 2;obtain⟨_,st,ax,rfl,cd,dk,hH⟩:=kz (rs:=[]) hF (by omega) hH;refine qv ax ?_;refine zQ 1 ?_;have oI:(code++[eU 4 (2*n.cap) 0 []]).length=code.length+1:=by simp
   refine zQ 5 ?_;obtain⟨_,st,ax,rfl,cd,dk,hH⟩:=ih t (by omega) hF Ay kX.tail hsz.tail sP.tail mA.1 (by omega) ⟨cd,dk,hH⟩;refine qv ax ?_;refine zQ 1 ?_;rw[oI] at hH;have mj:(code++[eU 4 (2*n.cap) 0 []]++bk t (code.length+1)).length=code.length+1+t.sz:=by rw[γ,oI,dZ t _ mA.1]
   refine zQ 4 ?_;refine JS (z:=(2*n.cap)) rfl (ev rfl) (ev rfl) (by(try simp only[θ,δ,ζ,γ,ε,η]);rw[wrap_i64 (by omega) (by omega)]<;>omega) (aa rfl _) ?_;refine Zn (z:=(2*n.cap+1)) rfl (ev rfl) (ev rfl) (by(try simp only[θ,δ,ζ,γ,ε,η]);rw[wrap_i64 (by omega) (by omega)]<;>omega) (aa rfl _) ?_;refine Q5 (d:=.agg [.int .i64 4,.int .i64 (2*n.cap+1),.int .i64 0,.nul]) (st1:=_) rfl rfl rfl (aa rfl _) ?_;have hH:=hH.fW 2;obtain⟨_,st,ax,rfl,cd,dk,hH⟩:=kz (rs:=[]) hF (by omega) hH;refine qv ax ?_;refine zQ 1 ?_;have jl:code++[eU 4 (2*n.cap) 0 []]++bk t (code.length+1)++[eU 4 (2*n.cap+1) 0 []]=code++eU 4 (2*n.cap) 0 []::(bk t (code.length+1)++[eU 4 (2*n.cap+1) 0 []]):=by simp
   rw[jl] at hH;refine⟨fun i h=>(by cases h),_,_,_,rfl,rfl,?_⟩;exact⟨rfl,cd,dk,hH.erase 4⟩
  ·refine zQ 1 ?_;have Gq:bk (.mk n ks) code.length=[]:=by simp only[bk,if_neg q2,if_neg q7,if_neg q8,if_neg q3,if_neg q4,if_neg q5,if_neg q6]
   rw[Gq,ρ];refine⟨fun i h=>(by cases h),_,_,_,rfl,rfl,?_⟩;exact⟨rfl,cd,dk,hH.erase 4⟩
def lX (fr:Go.V.Fr) (k:Nat):Go.V.D:=Go.V.nth .bI fr.loc k
def J_ (x:Nl):List D:=[x.d]
theorem RC {l:List Nl} {q:Nl} (h:l[i]?=some q):(l.map J_)[i]?=some (J_ q):=by rw[ψ,h];rfl
def vG (R:y7):D:=.tup [(ui R.code R.ak).d,.int .i64 R.e,.int .i64 R.w]
theorem Hl (h:M.length=es.length):tH es 0 M=M:=by
 unfold tH;simp[h]
theorem uP (r:Nat) (c:List aP) (s:List Int):iy [] r c s=⟨c,s,0,0⟩:=by simp only[iy]
theorem GO {x:D} {rules:List Nl} (hx:V.Rows s0 1 x (rules.map J_)) (hr:∀r∈rules,r.ok) (hl:rules.length≤1048576):Ev pv 69 [x] s0 (vG (cv (rules.map (·.l)))) s0:=by
 refine Ev.gP rfl abE rfl rfl rfl ?_;refine zE ?_;obtain⟨aN,hF,hH⟩:=ri s0;generalize ae .ro s0=S at*;have hx:=Arg.of hx aN;have hfz:∀(st:St) (e w:Int),bA st s0.bs.length false 16 (zc [.agg [.nul,.nul],.int .i64 e,.int .i64 w])=some (vG ⟨[],[],e,w⟩):=fun st e w=>rfl;refine zQ 2 ?_;refine qa hH fun k2 st hk2 hH=>?_;refine zQ 7 ?_;refine qn ?_;simp only[ε];refine zQ 2 ?_;unfold cv
 by_cases h8:8<rules.length
 ·rw[if_pos (by rw[ε];exact h8)];refine qD rfl (by simp;omega) ?_;refine zQ 2 ?_;refine Q5 (d:=.agg [.nul,.nul]) (st1:=_) rfl rfl rfl (by dsimp only[Γ,u1,u2]<;>rfl) ?_;refine qS hH aB fun st hH=>?_;dsimp only[u2,u1,u3,u4,setMany,u5,u6,υ,μ,aJ,ch,az,J_] at hH;refine zQ 3 ?_;refine ag.ret ⟨rx,_,hH.pX rfl aB rfl rfl rfl,rl aN hH (hfz _ 13 8)⟩
 ·rw[if_neg (by rw[ε];exact h8)];refine qE rfl (by simp;omega) ?_;refine zQ 3 ?_;refine Q5 (d:=.agg [.nul,.nul,.nul,.nul]) (st1:=_) rfl rfl rfl (by dsimp only[Γ,u1,u2]<;>rfl) ?_;refine qb hH fun k14 st PC hH=>?_;refine zQ 10 ?_;refine qn ?_;simp only[ε];refine zQ 2 ?_;have hH:Has s0.bs.length S st (.aF .nul 1 (([]:List Int).map az)::.deep (fun _=>False) .nul 4 (([]:List aP).map aJ)::.box k14 (.mem 0 false [.nul,.nul,.nul,.nul])::[.box k2 (.mem 0 false [.nul,.nul])]):=(hH.OS 4).fW 1;refine zQ 1 ?_;refine ag.loop (fun mm fr st=>∃(r:Nat) (cd nd zd ed sd:D) (dk:Nat→Prop) (code:List aP) (ak:List Int),fr.clean=⟨18,[lX fr 0,lX fr 1,.ptr k2 0 0,.int .i64 0,.int .i64 0,.ptr k14 0 0,sd,lX fr 7,lX fr 8,lX fr 9,lX fr 10,lX fr 11,lX fr 12,lX fr 13,lX fr 14,x,.int .i64 (rules.length:Nat),.int .i64 (r:Nat)],[]⟩∧Has s0.bs.length S st [.aF sd 1 (ak.map az),.deep dk cd 4 (code.map aJ),.box k14 (.mem 0 false [cd,nd,zd,ed]),.box k2 (.mem 0 false [.nul,.nul])]∧(r+mm=rules.length)∧(iy ((rules.drop r).map (·.l)) r code ak=iy (rules.map (·.l)) 0 [] [])∧(code.length≤400)∧(ak.length≤r)) (rules.length) ?_ ?_
  ·exact⟨0,.nul,.nul,.nul,.nul,.nul,(fun _=>False),[],[],rfl,hH,by omega,by rw[xw],by simp,by simp⟩
  rintro mm fr st ⟨r,cd,nd,zd,ed,sd,dk,code,ak,hfr,hH,hrr,hX,hcl,jO⟩;rw[hfr];clear hfr;generalize lX fr=ee;clear fr;refine zQ 4 ?_
  by_cases hlt:r<rules.length
  ·obtain⟨q,hq⟩:∃q,rules[r]?=some q:=⟨rules[r]'hlt,ν _⟩
   have D2:=hr q (φ hq);have gw:=RC hq
   have vP:rules.drop r=q::rules.drop (r+1):=by
    rw[Ω hlt]
    congr 1
    exact Option.some.inj ((ν _).symm.trans hq)
   rw[vP,ς,iy] at hX;refine qq<|qD rfl (by simp;omega) ?_;refine zQ 6 ?_;refine qr fun Rp Ge=>?_;refine zQ 8 ?_;refine qv (I4 D2) ?_;refine zQ 2 ?_
   cases Ga:kb q.l with
   |false=>
    rw[if_pos Ga] at hX;refine zQ 3 ?_;refine Q5 (d:=.agg [.nul,.nul]) (st1:=_) rfl rfl rfl (aa rfl _) ?_;refine qm ?_;refine qS hH bh fun st hH=>?_;dsimp only[u2,u1,u3,u4,setMany,u5,u6,υ,μ,aJ,ch,az,J_] at hH;refine zQ 3 ?_;rw[←hX];refine ag.ret ⟨rx,_,hH.pX rfl bh rfl rfl rfl,rl aN hH (hfz _ 1 r)⟩
   |true=>
    rw[if_neg (by rw[Ga];simp)] at hX;obtain⟨zm,RP⟩:=Bg Ga;have hqd:=D2.c.arg s0.bs.length S;have hqn:=D2.nl;have nM:=D2.c;refine zQ 9 ?_;refine qn ?_;simp only[ε];refine ab.Az (s:=1) hH rfl rfl rfl rfl rfl rfl rfl rfl (ι rfl) (by omega) (fun _=>(aa rfl _)) (fun k33 st aaD hH=>?_);refine qm ?_;refine qn ?_;simp only[ε];refine ab.Az (s:=1) hH rfl rfl rfl rfl rfl rfl rfl rfl (ι rfl) (by omega) (fun _=>(aa rfl _)) (fun k36 st VD hH=>?_);refine zQ 2 ?_;refine qT hH bL fun st hH=>?_;dsimp only[u2,u1,u3,u4,setMany,u5,u6,υ,μ,aJ,ch,az,J_] at hH;refine zQ 2 ?_;refine qT hH bL fun st hH=>?_;dsimp only[u2,u1,u3,u4,setMany,u5,u6,υ,μ,aJ,ch,az,J_] at hH;refine zQ 2 ?_;refine qT hH bL fun st hH=>?_;dsimp only[u2,u1,u3,u4,setMany,u5,u6,υ,μ,aJ,ch,az,J_] at hH;refine zQ 1 ?_
    have hH:Has s0.bs.length S st (.aF (.win k33 0 0 q.l.length 1) 1 ((ki q.l.length (0:Int)).map az)::.aF (.win k36 0 0 q.l.length 1) 1 ((ki q.l.length (0:Int)).map az)::.aF sd 1 (ak.map az)::.deep dk cd 4 (code.map aJ)::.box k14 (.mem 0 false [cd,q.d,.win k33 0 0 q.l.length 1,.win k36 0 0 q.l.length 1])::.box k2 (.mem 0 false [.nul,.nul])::[]):=by
     rw[List.map_replicate];exact hH.front aO
    refine zQ 7 ?_;obtain⟨_,st,ax,rfl,hH⟩:=KL D2.nl D2.i D2.c _ (eC q.l) (ω _) zm (at_:=0) (by rw[RP];exact jC.all _) (by simp) hH;refine qv ax ?_;refine zQ 1 ?_;rw[Hl (by rw[Tr.mI,RP];simp)] at hH;have hH:=hH.front aO;refine zQ 7 ?_;obtain⟨_,st,ax,rfl,hH⟩:=P7 D2.nl D2.i D2.c _ (eC q.l) (ω _) zm (at_:=0) (by rw[RP];exact jC.all _) (by simp) hH;refine qv ax ?_;refine zQ 1 ?_;rw[Hl (by rw[Tr.mR,RP];simp)] at hH;have acT:=fJ (Ha (jC.all (eC q.l).zs));refine zQ 7 ?_;refine wt hH rfl (ev rfl) (by exact bh) rfl (aa rfl _) ?_;simp only[ε];refine zQ 4 ?_;refine qi hH aO fun p64 Vd=>?_;refine zQ 1 ?_;refine Zn (z:=((code.length+min (eC q.l).sz 401:Nat):Int)) rfl (ev rfl) (ev rfl) (by(try simp only[θ,δ,ζ,γ,ε,η]);rw[wrap_i64 (by omega) (by omega)]<;>omega) (aa rfl _) ?_;refine Zn (z:=((code.length+min (eC q.l).sz 401+3:Nat):Int)) rfl (ev rfl) (ev rfl) (by(try simp only[θ,δ,ζ,γ,ε,η]);rw[wrap_i64 (by omega) (by omega)]<;>omega) (aa rfl _) ?_;refine zQ 2 ?_
    by_cases yk:400<code.length+min (eC q.l).sz 401+3
    ·rw[if_pos yk] at hX;have lh:decide (((code.length+min (eC q.l).sz 401+3:Nat):Int)>400)=true:=by rw[decide_eq_true_eq];omega
     refine qD rfl (by rw[lh]) ?_;refine zQ 2 ?_;refine Q5 (d:=.agg [.nul,.nul]) (st1:=_) rfl rfl rfl (aa rfl _) ?_;refine qm ?_;refine qS hH bT fun st hH=>?_;dsimp only[u2,u1,u3,u4,setMany,u5,u6,υ,μ,aJ,ch,az,J_] at hH;refine zQ 3 ?_;rw[←hX];refine ag.ret ⟨rx,_,hH.pX rfl bT rfl rfl rfl,rl aN hH (hfz _ 12 r)⟩
    ·rw[if_neg yk] at hX;have lh:decide (((code.length+min (eC q.l).sz 401+3:Nat):Int)>400)=false:=by rw[decide_eq_false_iff_not];omega
     refine qE rfl (by rw[lh]) ?_;refine zQ 1 ?_;have hH:=hH.front aO;have hH:=hH.front bh;have hH:=hH.front bL;have hH:Has s0.bs.length S st (.box k14 (.mem 0 false [cd,q.d,.win k33 0 0 q.l.length 1,.win k36 0 0 q.l.length 1])::.deep dk cd 4 (code.map aJ)::.aF (.win k33 0 0 q.l.length 1) 1 ((eC q.l).zs.map az)::.aF (.win k36 0 0 q.l.length 1) 1 (((eC q.l).es 0).map az)::.aF sd 1 (ak.map az)::.box k2 (.mem 0 false [.nul,.nul])::[]):=hH;refine zQ 4 ?_;refine Q5 (d:=.agg [.int .i64 4,.int .i64 0,.int .i64 0,.nul]) (st1:=_) rfl rfl rfl (aa rfl _) ?_;have hH:=hH.fW 2;obtain⟨_,st,ax,rfl,cd,dk,hH⟩:=kz (rs:=[]) hF (by omega) hH;refine qv ax ?_;refine qh (s:=1) (vs:=[_]) hH fun k75 st adn hH=>?_;refine ab.cL (s:=1) hH rfl (ev rfl) (ev rfl) (by exact bT) (by exact hH.rows (by exact aB)) rfl rfl rfl rfl rfl rfl rfl ⟨(ι rfl),(ι rfl)⟩ (fun _=>(aa rfl _)) (by simp only[δ,ζ,ε]<;>omega) (by exact .inl hF) (fun x76 st hH=>?_);dsimp only[u2,u1,u3,u4,setMany,u5,u6,υ,μ,aJ,ch,az,J_] at hH;refine zQ 2 ?_;have hH:=hH.drop 1;have oI:(code++[eU 4 0 0 []]).length=code.length+1:=by simp
     refine zQ 3 ?_;obtain⟨_,st,ax,rfl,cd,dk,hH⟩:=OT D2.nl D2.i _ (eC q.l) (ω _) hF D2.c (at_:=0) (by rw[RP];exact jC.all _) (jC.all _) (jC.all _) zm (by omega) ⟨cd,dk,hH⟩;refine qv ax ?_;refine zQ 1 ?_;rw[oI] at hH;have mj:(code++[eU 4 0 0 []]++bk (eC q.l) (code.length+1)).length=code.length+1+(eC q.l).sz:=by rw[γ,oI,dZ _ _ zm]
     refine zQ 3 ?_;refine Q5 (d:=.agg [.int .i64 4,.int .i64 1,.int .i64 0,.nul]) (st1:=_) rfl rfl rfl (aa rfl _) ?_;have hH:=hH.fW 2;obtain⟨_,st,ax,rfl,cd,dk,hH⟩:=kz (rs:=[]) hF (by omega) hH;refine qv ax ?_;refine zQ 1 ?_;have ME:(code++[eU 4 0 0 []]++bk (eC q.l) (code.length+1)++[eU 4 1 0 []]).length=code.length+1+(eC q.l).sz+1:=by rw[γ,mj];rfl
     refine zQ 3 ?_;refine Q5 (d:=.agg [.int .i64 7,.int .i64 (r:Nat),.int .i64 0,.nul]) (st1:=_) rfl rfl rfl (aa rfl _) ?_;have hH:=hH.fW 2;obtain⟨_,st,ax,rfl,cd,dk,hH⟩:=kz (rs:=[]) hF (by omega) hH;refine qv ax ?_;refine zQ 1 ?_
     have ZY:code++[eU 4 0 0 []]++bk (eC q.l) (code.length+1)++[eU 4 1 0 []]++[eU 7 (r:Nat) 0 []]=code++iq (eC q.l) code.length r:=by
      unfold iq;simp
     rw[ZY] at hH;have hH:=(hH.erase 2).erase 2;have hH:=hH.front aO;have hH:=hH.front a_;refine zQ 4 ?_;exact⟨mm-1,by omega,⟨r+1,cd,q.d,.win k33 0 0 q.l.length 1,.win k36 0 0 q.l.length 1,x76,dk,code++iq (eC q.l) code.length r,ak++[((code.length:Nat):Int)],rfl,(by rw[π (f:=az)];exact hH),by omega,hX,by rw[γ,pW zm];omega,by rw[γ];simp only[δ,ζ];omega⟩⟩
  ·refine qq<|qE rfl (by simp;omega) ?_;refine zQ 1 ?_;rw[List.drop_of_length_le (by omega),Δ,uP] at hX;refine zQ 7 ?_;refine ab.jc (qs:=[(0,_),(1,_)]) rfl rfl rfl rfl ⟨rfl,(ev rfl),(by exact hH.fv (by exact aO)),rfl,(ev rfl),(by exact hH.cX (by exact aB)),trivial⟩ (by intro q hq;simp only[ξ,ο,or_false] at hq;rcases hq with rfl|rfl<;>exact⟨rfl,by exact ι rfl⟩) (by show BY _ [_,_] _=_;dsimp only[YH,v8,u2,u1]<;>rfl) (aa rfl _) ?_;refine qS hH bh fun st hH=>?_;dsimp only[u2,u1,u3,u4,setMany,u5,u6,υ,μ,aJ,ch,az,J_] at hH;refine zQ 3 ?_;rw[←hX];have h1:=hH.tf aO (n:=13) (by decide);have h2:=hH.kE aB (lO _) (n:=14) (by decide)
   have h4:bA st s0.bs.length false 15 (.agg [cd,sd])=some (ui code ak).d:=by
    show(jZ (bA st s0.bs.length false 14) [cd,sd]).map D.agg=_;simp only[jZ,h1,h2,Option.map_some];rfl
   have h3:bA st s0.bs.length false 16 (zc [.agg [cd,sd],.int .i64 0,.int .i64 0])=some (vG ⟨code,ak,0,0⟩):=by
    show(jZ (bA st s0.bs.length false 15) [.agg [cd,sd],.int .i64 0,.int .i64 0]).map D.tup=_;simp only[jZ,h4];rfl
   exact ag.ret ⟨rx,_,hH.pX rfl bh rfl rfl rfl,rl aN hH h3⟩
theorem EH:∀(ls:List (List fX)) (r:Nat) (c:List aP) (s:List Int),(∀l∈ls,∀n∈l,n.rs.length≤1048576)→(∀i∈c,nK i)→c.length≤400→s.length≤r→(∀i∈(iy ls r c s).code,nK i)∧(iy ls r c s).code.length≤400∧(iy ls r c s).ak.length≤r+ls.length
 |[],r,c,s,_,h1,h2,h3=>by rw[uP];exact⟨h1,h2,by simpa using h3⟩
 |l::ls,r,c,s,h0,h1,h2,h3=>by
  have PJ:∀e w:Int,(∀i∈(y7.mk [] [] e w).code,nK i)∧(y7.mk [] [] e w).code.length≤400∧(y7.mk [] [] e w).ak.length≤r+(l::ls).length:=fun e w=>⟨fun i hi=>(by cases hi),by simp,by simp⟩
  rw[iy]
  split
  ·exact PJ _ _
  ·rename_i hr;rw[Bool.not_eq_false] at hr
   split
   ·exact PJ _ _
   ·rename_i hb;obtain⟨t1,t2⟩:=Bg hr
    obtain⟨h4,h5,h6⟩:=EH ls (r+1) (c++iq (eC l) c.length r) (s++[((c.length:Nat):Int)]) (fun l' j7=>h0 l' (List.mem_cons_of_mem _ j7)) (fun i hi=>by
     rcases τ.1 hi with hi|hi
     ·exact h1 i hi
     ·exact OI (by rw[t2];exact h0 l (List.mem_cons_self ..)) i hi) (by rw[γ,pW t1];omega) (by rw[γ];simp only[δ,ζ];omega)
    exact⟨h4,h5,by simp only[δ];omega⟩
theorem EG {ls:List (List fX)} (h:∀l∈ls,∀n∈l,n.rs.length≤1048576):(ui (cv ls).code (cv ls).ak).ok∧(cv ls).code.length≤400:=by
 unfold cv
 split
 ·exact⟨Le (fun i hi=>(by cases hi)) (by simp) (by simp),by simp⟩
 ·obtain⟨h1,h2,h3⟩:=EH ls 0 [] [] h (fun i hi=>by cases hi) (by simp) (by simp);exact⟨Le h1 (by omega) (by omega),h2⟩
def tQ (b:List UInt8):List D:=[.str b]
theorem Ov {l:List (List UInt8)} {q:List UInt8} (h:l[i]?=some q):(l.map tQ)[i]?=some (tQ q):=by rw[ψ,h];rfl
variable{parts:List (List fX)}
theorem RB (h:∀l∈parts,(∀n∈l,CC n)∧l.length≤500):∀r∈parts.map (fun l=>(⟨Cw l,l⟩:Nl)),r.ok:=by
 intro r hr;obtain⟨l,hl,rfl⟩:=List.mem_map.1 hr;exact Un (h l hl).1 (by have:=(h l hl).2;omega)
theorem LB:(parts.map (fun l=>(⟨Cw l,l⟩:Nl))).map J_=parts.map gL:=by
 rw[VQ];rfl
theorem GP {y:D} (h:∀l∈parts,(∀n∈l,CC n)∧l.length≤500) (hl:parts.length≤1048576) (hy:V.Rows s0 1 y (parts.map gL)):Ev pv 69 [y] s0 (vG (cv parts)) s0∧(ui (cv parts).code (cv parts).ak).ok∧(cv parts).code.length≤400:=by
 have h1:=GO (s0:=s0) (x:=y) (rules:=parts.map (fun l=>(⟨Cw l,l⟩:Nl))) (by rw[LB];exact hy) (RB h) (by rw[ε];exact hl);have h2:(parts.map (fun l=>(⟨Cw l,l⟩:Nl))).map (·.l)=parts:=by rw[VQ];exact List.map_id _
 rw[h2] at h1;exact⟨h1,EG fun l hl n hn=>((h l hl).1 n hn).2.1⟩
def Hp (n:Nat) (i:aP):aP:=if i.op=2 then⟨2,i.x+n,i.y+n,i.rd,i.rs⟩ else if i.op=3 then⟨3,i.x+n,i.y,i.rd,i.rs⟩ else i
theorem wS (n:Nat) (x y:Int) (rs:List Rg) (h2:op≠2) (h3:op≠3):Hp n (eU op x y rs)=eU op x y rs:=by
 unfold Hp eU;rw[if_neg h2,if_neg h3]
theorem Fq (n s o:Nat) (lz:Bool):Hp n (tU s o lz)=tU (s+n) (o+n) lz:=by
 cases lz
 ·show(⟨2,((s+1:Nat):Int)+n,(o:Int)+n,_,_⟩:aP)=eU 2 ((s+n+1:Nat):Int) ((o+n:Nat):Int) [];unfold eU
  congr 1;omega
 ·show(⟨2,(o:Int)+n,((s+1:Nat):Int)+n,_,_⟩:aP)=eU 2 ((o+n:Nat):Int) ((s+n+1:Nat):Int) [];unfold eU
  congr 1;omega
theorem KP (n e:Nat):Hp n (sK e)=sK (e+n):=by
 show(⟨3,(e:Int)+n,0,_,_⟩:aP)=eU 3 ((e+n:Nat):Int) 0 [];unfold eU
 congr 1
theorem Bq {c:Nat→List aP} {z n:Nat} (hc:∀b,c (b+n)=(c b).map (Hp n)):∀k b,i_ c z k (b+n)=(i_ c z k b).map (Hp n)
 |0,b=>rfl
 |k+1,b=>by
  have h:=Bq hc (z:=z) k (b+z);rw[Ψ] at h;rw[i_,i_,π,hc,h]
theorem HB {sp sp':Nat→aP} {c:Nat→List aP} {z n:Nat} (hs:∀s,sp' (s+n)=Hp n (sp s)) (hc:∀b,c (b+n)=(c b).map (Hp n)):∀k b,iL sp' c z k (b+n)=(iL sp c z k b).map (Hp n)
 |0,b=>rfl
 |k+1,b=>by
  have h:=HB hs hc (z:=z) k (b+1+z);have e1:b+1+z+n=b+n+1+z:=by omega
  have e2:b+n+1=b+1+n:=by omega
  rw[e1] at h;rw[iL,iL,ς,π,hs,h,e2,hc]
theorem OJ {nd:fX} {c:Nat→List aP} {z n b:Nat} (hc:∀b,c (b+n)=(c b).map (Hp n)):t_ nd c z (b+n)=(t_ nd c z b).map (Hp n):=by
 unfold t_
 split
 ·rw[π,Bq hc,ς,π,Fq,ς,Δ,KP];have e1:b+n+nd.mn.toNat*z=b+nd.mn.toNat*z+n:=by omega
  have e2:b+nd.mn.toNat*z+n+1=b+nd.mn.toNat*z+1+n:=by omega
  have e3:b+nd.mn.toNat*z+n+z+2=b+nd.mn.toNat*z+z+2+n:=by omega
  rw[e1,e2,e3,hc]
 ·rw[π,Bq hc];have e1:b+n+nd.mn.toNat*z=b+nd.mn.toNat*z+n:=by omega
  rw[e1]
  congr 1
  refine HB (fun s=>?_) hc _ _;rw[Fq]
  congr 1
  omega
mutual
theorem yK (n:Nat):∀(t:Tr) (b:Nat),bk t (b+n)=(bk t b).map (Hp n)
 | .mk nd ks,b=>by
  have hc:=fun b=>Ij n ks b;have ha:=fun e b=>Ix n e ks b;simp only[bk]
  split
  ·rw[ς,Δ,wS _ _ _ _ (by decide) (by decide)]
  split
  ·rw[ς,Δ,wS _ _ _ _ (by decide) (by decide)]
  split
  ·rw[ς,Δ,wS _ _ _ _ (by decide) (by decide)]
  split
  ·exact hc b
  split
  ·rw[Ψ];exact ha _ b
  split
  ·exact OJ hc
  split
  ·rw[ς,π,ς,Δ,wS _ _ _ _ (by decide) (by decide),wS _ _ _ _ (by decide) (by decide),Ψ,hc]
  ·rfl
theorem Ij (n:Nat):∀(ts:cN) (b:Nat),jR ts (b+n)=(jR ts b).map (Hp n)
 | .nil,b=>by simp only[jR,Δ]
 | .cons t ts,b=>by
  have h:=Ij n ts (b+t.sz);rw[Ψ] at h;simp only[jR,π];rw[yK n t b,h]
theorem Ix (n:Nat):∀(e:Nat) (ts:cN) (b:Nat),ij (sK (e+n)) ts (b+n)=(ij (sK e) ts b).map (Hp n)
 |e,.nil,b=>by simp only[ij,Δ]
 |e,.cons t ts,b=>by
  have h:=Ix n e ts (b+t.sz+2);have h1:=yK n t (b+1);have e1:b+t.sz+2+n=b+n+t.sz+2:=by omega
  have e2:b+1+n=b+n+1:=by omega
  have e3:b+1+t.sz+1+n=b+n+1+t.sz+1:=by omega
  rw[e1] at h;rw[e2] at h1;simp only[ij]
  split
  ·exact yK n t b
  ·rw[ς,π,ς,Fq,KP,h1,h,e3]
end
def u7 (lo hi:Nat) (i:aP):Prop:=i.op≠7∧(i.op=2→((lo:Int)≤i.x∧i.x≤hi)∧(lo:Int)≤i.y∧i.y≤hi)∧(i.op=3→(lo:Int)≤i.x∧i.x≤hi)
variable{lo hi:Nat}
theorem u7.mono {Ao l4:Nat} {i:aP} (h:u7 lo hi i) (h1:Ao≤lo) (h2:hi≤l4):u7 Ao l4 i:=
 ⟨h.1,fun e=>by have:=h.2.1 e;omega,fun e=>by have:=h.2.2 e;omega⟩
theorem u7.mk (x y:Int) (rs:List Rg) (h2:op≠2) (h3:op≠3) (h7:op≠7):u7 lo hi (eU op x y rs):=⟨h7,fun h=>absurd h h2,fun h=>absurd h h3⟩
theorem u7.sp {s o:Nat} (h1:lo≤s+1∧s+1≤hi) (h2:lo≤o∧o≤hi):u7 lo hi (tU s o lz):=by
 cases lz
 ·exact⟨by show(2:Int)≠7;decide,fun _=>by show((lo:Int)≤((s+1:Nat):Int)∧((s+1:Nat):Int)≤hi)∧(lo:Int)≤(o:Int)∧(o:Int)≤hi;omega,fun h=>absurd h (by show¬(2:Int)=3;decide)⟩
 ·exact⟨by show(2:Int)≠7;decide,fun _=>by show((lo:Int)≤(o:Int)∧(o:Int)≤hi)∧(lo:Int)≤((s+1:Nat):Int)∧((s+1:Nat):Int)≤hi;omega,fun h=>absurd h (by show¬(2:Int)=3;decide)⟩
theorem u7.jp {e:Nat} (h1:lo≤e∧e≤hi):u7 lo hi (sK e):=
 ⟨by show(3:Int)≠7;decide,fun h=>absurd h (by show¬(3:Int)=2;decide),fun _=>by show(lo:Int)≤(e:Int)∧(e:Int)≤hi;omega⟩
theorem Br {c:Nat→List aP} {z:Nat} (hc:∀b,∀i∈c b,u7 b (b+z) i):∀k b,∀i∈i_ c z k b,u7 b (b+k*z) i
 |0,b,i,hi=>by cases hi
 |k+1,b,i,hi=>by
  simp only[i_] at hi;rw[ZD]
  rcases τ.1 hi with hi|hi
  ·exact(hc b i hi).mono (ω _) (by omega)
  ·exact(Br hc k _ i hi).mono (by omega) (by omega)
theorem HC {sp:Nat→aP} {c:Nat→List aP} {z lo hi:Nat} (hs:∀s,lo≤s→s+1≤hi→u7 lo hi (sp s)) (hc:∀b,∀i∈c b,u7 b (b+z) i):∀k b,lo≤b→b+k*(z+1)≤hi→∀i∈iL sp c z k b,u7 lo hi i
 |0,b,_,_,i,l4=>by cases l4
 |k+1,b,h1,h2,i,l4=>by
  simp only[iL] at l4;rw[ZD] at h2
  rcases ξ.1 l4 with rfl|l4
  ·exact hs b h1 (by omega)
  ·rcases τ.1 l4 with l4|l4
   ·exact(hc _ i l4).mono (by omega) (by omega)
   ·exact HC hs hc k _ (by omega) (by omega) i l4
mutual
theorem yL:∀(t:Tr) (b:Nat),t.ok→∀i∈bk t b,u7 b (b+t.sz) i
 | .mk n ks,b,ba,i,hi=>by
  simp only[Tr.ok] at ba;have hc:=fun b=>Ik ks b ba.2;obtain⟨_,hq⟩:=ba.1;simp only[bk] at hi;simp only[Tr.sz]
  by_cases q2:n.op=2
  ·rw[if_pos q2] at hi;simp only[ξ,ο,or_false] at hi;subst hi;exact u7.mk _ _ _ (by decide) (by decide) (by decide)
  rw[if_neg q2] at hi
  by_cases q7:n.op=7
  ·rw[if_pos q7] at hi;simp only[ξ,ο,or_false] at hi;subst hi;exact u7.mk _ _ _ (by decide) (by decide) (by decide)
  rw[if_neg q7] at hi
  by_cases q8:n.op=8
  ·rw[if_pos q8] at hi;simp only[ξ,ο,or_false] at hi;subst hi;exact u7.mk _ _ _ (by decide) (by decide) (by decide)
  rw[if_neg q8] at hi
  have hz:∀s k,cS n s k=if n.op=4 then s+2*(k-1) else if n.op=6 then s+2 else if n.op=5 then(if n.mx=-1 then n.mn.toNat*s+s+2 else n.mn.toNat*s+(n.mx.toNat-n.mn.toNat)*(s+1)) else s:=by
   intro s k;unfold cS;rw[if_neg (by omega)]
  by_cases q3:n.op=3
  ·rw[if_pos q3] at hi;rw[hz,if_neg (by omega),if_neg (by omega),if_neg (by omega)];exact hc b i hi
  rw[if_neg q3] at hi
  by_cases q4:n.op=4
  ·rw[if_pos q4] at hi;have UE:cS n ks.sz ks.len=ks.sz+2*(ks.len-1):=by rw[hz,if_pos q4]
   rw[UE] at hi⊢;exact Iy ks b (b+(ks.sz+2*(ks.len-1))) ba.2 (ω _) i hi
  rw[if_neg q4] at hi
  by_cases q5:n.op=5
  ·rw[if_pos q5] at hi;rw[hz,if_neg q4,if_neg (by omega),if_pos q5];unfold t_ at hi
   by_cases qm:n.mx=-1
   ·rw[if_pos qm] at hi⊢
    rcases τ.1 hi with hi|hi
    ·exact(Br hc _ _ i hi).mono (ω _) (by omega)
    ·rcases ξ.1 hi with rfl|hi
     ·exact u7.sp (by omega) (by omega)
     ·rcases τ.1 hi with hi|hi
      ·exact(hc _ i hi).mono (by omega) (by omega)
      ·simp only[ξ,ο,or_false] at hi;subst hi;exact u7.jp (by omega)
   ·rw[if_neg qm] at hi⊢
    rcases τ.1 hi with hi|hi
    ·exact(Br hc _ _ i hi).mono (ω _) (by omega)
    ·exact HC (fun s h1 h2=>u7.sp (by omega) (by omega)) hc _ _ (by omega) (by omega) i hi
  rw[if_neg q5] at hi
  by_cases q6:n.op=6
  ·rw[if_pos q6] at hi;rw[hz,if_neg q4,if_pos q6]
   rcases ξ.1 hi with rfl|hi
   ·exact u7.mk _ _ _ (by decide) (by decide) (by decide)
   ·rcases τ.1 hi with hi|hi
    ·exact(hc _ i hi).mono (by omega) (by omega)
    ·simp only[ξ,ο,or_false] at hi;subst hi;exact u7.mk _ _ _ (by decide) (by decide) (by decide)
  ·rw[if_neg q6] at hi;cases hi
theorem Ik:∀(ts:cN) (b:Nat),ts.ok→∀i∈jR ts b,u7 b (b+ts.sz) i
 | .nil,b,_,i,hi=>by simp[jR] at hi
 | .cons t ts,b,ba,i,hi=>by
  simp only[cN.ok] at ba;simp only[jR] at hi;simp only[cN.sz]
  rcases τ.1 hi with hi|hi
  ·exact(yL t b ba.1 i hi).mono (ω _) (by omega)
  ·exact(Ik ts _ ba.2 i hi).mono (by omega) (by omega)
theorem Iy:∀(ts:cN) (b e:Nat),ts.ok→b+(ts.sz+2*(ts.len-1))≤e→∀i∈ij (sK e) ts b,u7 b e i
 | .nil,b,e,_,_,i,hi=>by simp[ij] at hi
 | .cons t ts,b,e,ba,he,i,hi=>by
  simp only[cN.ok] at ba;simp only[ij] at hi;simp only[cN.sz,cN.len] at he
  by_cases q:ts.len=0
  ·rw[if_pos q] at hi;exact(yL t b ba.1 i hi).mono (ω _) (by omega)
  ·rw[if_neg q] at hi
   rcases ξ.1 hi with rfl|hi
   ·exact u7.sp (by omega) (by omega)
   ·rcases τ.1 hi with hi|hi
    ·exact(yL t _ ba.1 i hi).mono (by omega) (by omega)
    ·rcases ξ.1 hi with rfl|hi
     ·exact u7.jp (by omega)
     ·exact(Iy ts _ e ba.2 (by omega) i hi).mono (by omega) (by omega)
end
theorem GQ (r:Nat) (c:List aP) (s:List Int):iy [] r c s=⟨c,s,0,0⟩:=by simp only[iy]
variable{pc:Nat}
theorem ED {i:aP} (h:(code.map ga)[pc]?=some i):∃q,code[pc]?=some q∧i=ga q:=by
 rw[ψ] at h;obtain⟨q,hq,rfl⟩:=Option.map_eq_some_iff.1 h;exact⟨q,hq,rfl⟩
theorem get_copy {i:aP} (h:code[pc]?=some i):(code.map ga)[pc]?=some (ga i):=by
 rw[ψ,h];rfl
theorem EB (code:List aP):∀(f:Nat) (seen:List Bool) (il:List Int),CB (code.map ga) f seen il=CB code f seen il
 |0,_,_=>rfl
 |_+1,_,[]=>rfl
 |f+1,seen,v::il=>by
  have ih:=EB code f;unfold CB;rw[ψ]
  cases h1:seen[v.toNat]? with
  |none=>exact ih _ _
  |some b=>
   cases b with
   |true=>exact ih _ _
   |false=>
    cases h2:code[v.toNat]? with
    |none=>rfl
    |some i=>exact ih _ _
theorem xc (code:List aP) (s:Int):bR (code.map ga) s=bR code s:=by
 unfold bR;rw[ε,EB]
theorem Fx {p q:Pg} (h1:q.code=p.code.map ga) (h2:q.ak=p.ak):bm q↔bm p:=by
 have hl:q.code.length=p.code.length:=by rw[h1];simp
 constructor
 ·intro h;refine⟨by rw[←hl];exact h.cl,by rw[←h2];exact h.sl,fun pc i hi=>?_,fun v hv=>?_,fun r s hs pc i E8 sS hi jD=>?_⟩
  ·have:=h.sh pc (ga i) (by rw[h1];exact get_copy hi);rw[hl,h2] at this;exact this
  ·have:=h.st v (by rw[h2];exact hv);rw[hl] at this;exact this
  ·exact h.fo r s (by rw[h2];exact hs) pc (ga i) (by rw[hl];exact E8) (by rw[h1,xc];exact sS) (by rw[h1];exact get_copy hi) jD
 ·intro h;refine⟨by rw[hl];exact h.cl,by rw[h2];exact h.sl,fun pc i hi=>?_,fun v hv=>?_,fun r s hs pc i E8 sS hi jD=>?_⟩
  ·rw[h1] at hi;obtain⟨j,hj,rfl⟩:=ED hi;rw[hl,h2];exact h.sh pc j hj
  ·rw[hl];exact h.st v (by rw[←h2];exact hv)
  ·rw[h1] at hi sS;rw[xc] at sS;obtain⟨j,hj,rfl⟩:=ED hi;exact h.fo r s (by rw[←h2];exact hs) pc j (by rw[←hl];exact E8) sS hj jD
end Go.Proofs.YtecjacicdpejaaaGreat
