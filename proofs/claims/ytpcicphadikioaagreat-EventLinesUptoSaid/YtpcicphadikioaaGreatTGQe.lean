/-
 Of each node how many instructions its code has, and what stands behind it: both lists are filled in place.
-/
import Derived.Test.YtpcicphadikioaaGreatTGHr
import Derived.Test.YtpcicphadikioaaGreatTGJh
set_option maxRecDepth 100000
set_option maxHeartbeats 4000000
set_option linter.unusedSimpArgs false
set_option linter.unusedVariables false
namespace Go.Proofs.YtpcicphadikioaaGreat
open Go.V Go
def aH (fr:Go.V.Fr) (k:Nat):Go.V.D:=Go.V.nth .aY fr.loc k
def ma (es:List Int) (a:Nat) (M:List Int):List Int:=es.take a++M++es.drop (a+M.length)
theorem zx {es M:List Int} {a:Nat} (h:a+M.length≤es.length):(ma es a M).length=es.length:=by
 unfold ma;simp only[List.length_append,List.length_take,List.length_drop];omega
theorem zw {es:List Int} {a:Nat}:ma es a []=es:=by
 unfold ma;simp
theorem Fa {es M:List Int} {a:Nat} {x:Int} (h:a≤es.length):(ma es a (x::M))[a]?=some x:=by
 unfold ma;rw[List.append_assoc,List.getElem?_append_right (by simp only[List.length_take];omega)];simp[Nat.min_eq_left h]
theorem zt {es M M':List Int} {a:Nat} (h:a+M.length+M'.length≤es.length):ma (ma es a M) (a+M.length) M'=ma es a (M++M'):=by
 unfold ma;have h1:(es.take a++M).length=a+M.length:=by simp only[List.length_append,List.length_take];omega
 rw[List.take_append_of_le_length (by omega),List.take_of_length_le (by omega)];rw[←h1,List.drop_append,List.drop_eq_nil_of_le (by omega),List.nil_append,h1,List.drop_drop];simp only[List.append_assoc,List.length_append]
 congr 4
 omega
theorem zu {es M:List Int} {a:Nat} {v:Int} (h:a+1+M.length≤es.length):(ma es (a+1) M).set a v=ma es a (v::M):=by
 unfold ma;have h1:(es.take a).length=a:=by simp only[List.length_take];omega
 rw[List.append_assoc,List.take_add_one,List.getElem?_eq_getElem (by omega)];simp only[Option.toList_some,List.append_assoc,List.cons_append,List.nil_append,List.length_cons];rw[List.set_append_right _ _ (by omega),h1,Nat.sub_self,List.set_cons_zero]
 congr 4
 omega
theorem CA {l:List bn} {d:D} (hl:l.length≤1048576) (hi:∀n∈l,n.ok) (hd:eZ d 7 (l.map aE)):∀(m:Nat) (t:Tr),t.flat.length≤m→t.ok→∀{N:Nat} {S s0:St} {H:List bh} {out:D} {es:List Int} {at_:Nat},fK l at_ t.flat→es.length=l.length→Has N S s0 (.aD out 1 (es.map az)::H)→
  ∃r ah,Ev pv 29 [d,out,.int .i64 (at_:Nat)] s0 r ah∧r=.int .i64 ((at_+t.flat.length:Nat):Int)∧Has N S ah (.aD out 1 ((ma es at_ t.zs).map az)::H):=by
 intro m
 induction m with
 |zero=>intro t h;have:=t.jg;omega
 |succ m ih=>
  rintro⟨n,ks⟩ hm eC N S s0 H out es at_ mB rN hH;simp only[Tr.ok] at eC;obtain⟨rz,sW⟩:=eC;simp only[Tr.flat,List.length_cons] at hm;have hle:=mB.le (by simp[Tr.flat]);simp only[Tr.flat] at mB hle;simp only[List.length_cons] at hle;have hn:=mB.head;have mB:=mB.tail;have Ki:=hi n (List.mem_of_getElem? hn);have gJ:=kJ hn;have EW:=wg Ki;have Bv:=rz.1;have iU:=aJ.pX ks;refine Ev.kT rfl O4 rfl rfl rfl ?_;refine zE ?_;have cm:=hH;have hH:=hH.cq;have b9:(ai .rw s0).bs=s0.bs:=rfl;generalize ai .rw s0=S2 at*;have hc:=hd.arg N S2;refine zQ 8 ?_;refine qr fun Ri M9=>?_;refine ae.cJ rfl (ev rfl) (by assumption) rfl (by dsimp only[Fr.put,u1,u2]<;>rfl) ?_;refine qa hH fun k7 st Nt hH=>?_;refine ae.bP hH rfl (ev rfl) (ev rfl) (by rfl) (by exact rfl) (by exact aG) (by exact rfl) (by exact .inr (by assumption)) (fun st hH=>?_);dsimp only[u2,u1,u3,u4,setMany,u5,u6,D.cells,Nat.reduceAdd,aE,az] at hH;refine zQ 19 ?_;refine ag.loop (fun mm fr st=>∃(i j ss:Nat) (rest:aJ) (oR:List Int),fr.clean=⟨36,[d,out,.int .i64 (at_:Nat),aH fr 3,aH fr 4,aH fr 5,.int .i64 0,.ptr k7 0 0,.int .i64 (j:Nat),.int .i64 ((min ss 401:Nat):Int),aH fr 10,aH fr 11,aH fr 12,aH fr 13,aH fr 14,aH fr 15,aH fr 16,aH fr 17,.int .i64 n.kids,.int .i64 (i:Nat),aH fr 20,aH fr 21,aH fr 22,aH fr 23,aH fr 24,aH fr 25,aH fr 26,aH fr 27,aH fr 28,aH fr 29,aH fr 30,aH fr 31,aH fr 32,aH fr 33,aH fr 34,aH fr 35],[]⟩∧Has N S2 st (.aD out 1 (oR.map az)::.box k7 (.mem 0 false (aE n))::H)∧(mm=rest.len)∧(i+rest.len=ks.len)∧(fK l j rest.flat)∧(rest.ok)∧(ss+rest.sz=ks.sz)∧(oR.length=l.length)∧(ma oR j rest.zs=ma es (at_+1) ks.zs)∧(j+rest.flat.length=at_+1+ks.flat.length)∧(rest.flat.length≤m)) (ks.len) ?_ ?_
  ·exact⟨0,at_+1,0,ks,es,rfl,(by have:=hH.front aV;exact this),rfl,by omega,mB,sW,by omega,rN,rfl,rfl,by omega⟩
  rintro mm fr st ⟨i,j,ss,rest,oR,hfr,hH,yM,uI,oN,jM,B_,yP,rJ,hj,hrm⟩;rw[hfr];clear hfr;generalize aH fr=ee;clear fr;refine zQ 4 ?_
  cases rest with
  |nil=>
   simp only[aJ.len] at uI;simp only[aJ.sz] at B_;simp only[aJ.flat,List.length_nil] at hj;simp only[aJ.zs,zw] at rJ;have fJ:decide ((i:Int)<n.kids)=false:=by rw[decide_eq_false_iff_not];omega
   refine qq<|qE rfl (by rw[fJ]) ?_;refine zQ 1 ?_;obtain rfl:ss=ks.sz:=by omega
   have mB:=oN;refine zQ 6 ?_;refine ag.merge (fun fr st=>∃(tmp:List (Nat×D)),fr=⟨36,[d,out,.int .i64 (at_:Nat),aH fr 3,aH fr 4,aH fr 5,.int .i64 0,.ptr k7 0 0,.int .i64 (j:Nat),.int .i64 ((bC n (min ks.sz 401) ks.len:Nat):Int),aH fr 10,aH fr 11,aH fr 12,aH fr 13,aH fr 14,aH fr 15,aH fr 16,aH fr 17,aH fr 18,aH fr 19,aH fr 20,aH fr 21,aH fr 22,aH fr 23,aH fr 24,aH fr 25,aH fr 26,aH fr 27,aH fr 28,aH fr 29,aH fr 30,aH fr 31,aH fr 32,aH fr 33,aH fr 34,aH fr 35],tmp⟩∧Has N S2 st (.aD out 1 (oR.map az)::.box k7 (.mem 0 false (aE n))::H)) ?_ ?_
   ·refine zQ 7 ?_;generalize hw:min ks.sz 401=w;have Ms:w≤401:=by omega
    have gU:ks.len≤9223372036854775→True:=fun _=>trivial
    by_cases q2:n.op=2
    ·have hz:bC n w ks.len=1:=by unfold bC;rw[if_pos (.inl q2)]
     rw[hz];refine qD rfl (by simp[q2]) ?_;refine zQ 1 ?_;refine qD rfl (by simp[q2]) ?_;refine zQ 3 ?_;exact⟨_,rfl,hH⟩
    refine qE rfl (by simp[q2]) ?_;refine zQ 5 ?_
    by_cases q7:n.op=7
    ·have hz:bC n w ks.len=1:=by unfold bC;rw[if_pos (.inr (.inl q7))]
     rw[hz];refine qD rfl (by simp[q7]) ?_;refine zQ 1 ?_;refine qD rfl (by simp[q7]) ?_;refine zQ 3 ?_;exact⟨_,rfl,hH⟩
    refine qE rfl (by simp[q7]) ?_;refine zQ 4 ?_
    by_cases q8:n.op=8
    ·have hz:bC n w ks.len=1:=by unfold bC;rw[if_pos (.inr (.inr q8))]
     rw[hz];refine qD rfl (by simp[q8]) ?_;refine zQ 3 ?_;exact⟨_,rfl,hH⟩
    refine qE rfl (by simp[q8]) ?_
    have hz0:bC n w ks.len=if n.op=4 then w+2*(ks.len-1) else if n.op=6 then w+2 else if n.op=5 then(if n.mx=-1 then n.mn.toNat*w+w+2 else n.mn.toNat*w+(n.mx.toNat-n.mn.toNat)*(w+1)) else w:=by
     unfold bC;rw[if_neg (by omega)]
    rw[hz0];clear hz0;obtain⟨_,hcs⟩:=rz;have hq:(n.op=1∧ks.len=0)∨((n.op=3∨n.op=4)∧2≤ks.len)∨(n.op=5∧ks.len=1∧0≤n.mn∧n.mn≤30∧(n.mx=-1∨(n.mn≤n.mx∧n.mx≤30)))∨(n.op=6∧ks.len=1∧1≤n.cap∧n.cap≤4):=by omega
    refine zQ 5 ?_
    by_cases q4:n.op=4
    ·rw[if_pos q4];have hk2:2≤ks.len:=by omega
     refine qD rfl (by simp[q4]) ?_;refine zQ 4 ?_;refine ae.kQ (z:=((ks.len-1:Nat):Int)) rfl (ev rfl) (ev rfl) (by(try simp only[List.length_reverse,List.length_cons,List.length_nil,List.length_append,List.length_map,List.length_set]);rw[wrap_i64 (by omega) (by omega)]<;>omega) (aa rfl _) ?_;refine ae.yt (z:=((2*(ks.len-1):Nat):Int)) rfl (ev rfl) (ev rfl) (by(try simp only[List.length_reverse,List.length_cons,List.length_nil,List.length_append,List.length_map,List.length_set]);rw[wrap_i64 (by omega) (by omega)]<;>omega) (aa rfl _) ?_;refine ae.cS (z:=((w+2*(ks.len-1):Nat):Int)) rfl (ev rfl) (ev rfl) (by(try simp only[List.length_reverse,List.length_cons,List.length_nil,List.length_append,List.length_map,List.length_set]);rw[wrap_i64 (by omega) (by omega)]<;>omega) (aa rfl _) ?_;refine zQ 2 ?_;exact⟨_,rfl,hH⟩
    rw[if_neg q4];refine qE rfl (by simp[q4]) ?_;refine zQ 5 ?_
    by_cases q6:n.op=6
    ·rw[if_pos q6];refine qD rfl (by simp[q6]) ?_;refine zQ 5 ?_;exact⟨_,rfl,hH⟩
    rw[if_neg q6];refine qE rfl (by simp[q6]) ?_;refine zQ 5 ?_
    by_cases q5:n.op=5
    ·rw[if_pos q5];refine qD rfl (by simp[q5]) ?_;refine zQ 6 ?_;have Cc:0≤n.mn∧n.mn≤30∧(n.mx=-1∨(n.mn≤n.mx∧n.mx≤30)):=by omega
     obtain⟨a,ha⟩:∃a:Nat,n.mn=(a:Int):=Int.eq_ofNat_of_zero_le Cc.1;have RK:n.mn.toNat=a:=by omega
     have h1:a*w≤30*401:=Nat.mul_le_mul (by omega) Ms;have hmul:n.mn*(w:Int)=((a*w:Nat):Int):=by rw[ha];push_cast;rfl
     rw[RK]
     by_cases CM:n.mx=-1
     ·rw[if_pos CM];refine qD rfl (by simp[CM]) ?_;refine zQ 4 ?_;refine ae.yt (z:=((a*w:Nat):Int)) rfl (ev rfl) (ev rfl) (by(try simp only[List.length_reverse,List.length_cons,List.length_nil,List.length_append,List.length_map,List.length_set]);rw[wrap_i64 (by omega) (by omega)]<;>omega) (aa rfl _) ?_;refine qm ?_;refine ae.cS (z:=((a*w+w:Nat):Int)) rfl (ev rfl) (ev rfl) (by(try simp only[List.length_reverse,List.length_cons,List.length_nil,List.length_append,List.length_map,List.length_set]);rw[wrap_i64 (by omega) (by omega)]<;>omega) (aa rfl _) ?_;refine ae.cS (z:=((a*w+w+2:Nat):Int)) rfl (ev rfl) (ev rfl) (by(try simp only[List.length_reverse,List.length_cons,List.length_nil,List.length_append,List.length_map,List.length_set]);rw[wrap_i64 (by omega) (by omega)]<;>omega) (aa rfl _) ?_;refine zQ 2 ?_;exact⟨_,rfl,hH⟩
     ·rw[if_neg CM];obtain⟨b,hb⟩:∃b:Nat,n.mx=(b:Int):=Int.eq_ofNat_of_zero_le (by omega);have RJ:n.mx.toNat=b:=by omega
      have h2:(b-a)*(w+1)≤30*402:=Nat.mul_le_mul (by omega) (by omega);rw[RJ];refine qE rfl (by simp[CM]) ?_;refine zQ 4 ?_;refine ae.yt (z:=((a*w:Nat):Int)) rfl (ev rfl) (ev rfl) (by(try simp only[List.length_reverse,List.length_cons,List.length_nil,List.length_append,List.length_map,List.length_set]);rw[wrap_i64 (by omega) (by omega)]<;>omega) (aa rfl _) ?_;refine zQ 4 ?_;refine ae.kQ (z:=((b-a:Nat):Int)) rfl (ev rfl) (ev rfl) (by(try simp only[List.length_reverse,List.length_cons,List.length_nil,List.length_append,List.length_map,List.length_set]);rw[wrap_i64 (by omega) (by omega)]<;>omega) (aa rfl _) ?_;refine qm ?_;refine ae.cS (z:=((w+1:Nat):Int)) rfl (ev rfl) (ev rfl) (by(try simp only[List.length_reverse,List.length_cons,List.length_nil,List.length_append,List.length_map,List.length_set]);rw[wrap_i64 (by omega) (by omega)]<;>omega) (aa rfl _) ?_;refine ae.yt (z:=(((b-a)*(w+1):Nat):Int)) rfl (ev rfl) (ev rfl) (by(try simp only[List.length_reverse,List.length_cons,List.length_nil,List.length_append,List.length_map,List.length_set]);rw[wrap_i64 (by omega) (by omega)]<;>omega) (aa rfl _) ?_;refine ae.cS (z:=((a*w+(b-a)*(w+1):Nat):Int)) rfl (ev rfl) (ev rfl) (by(try simp only[List.length_reverse,List.length_cons,List.length_nil,List.length_append,List.length_map,List.length_set]);rw[wrap_i64 (by omega) (by omega)]<;>omega) (aa rfl _) ?_;refine zQ 2 ?_;exact⟨_,rfl,hH⟩
    ·rw[if_neg q5];refine qE rfl (by simp[q5]) ?_;refine zQ 1 ?_;exact⟨_,rfl,hH⟩
   ·rintro fr st ⟨tmp,hfr,hH⟩;rw[hfr];clear hfr;generalize aH fr=ee;clear fr;have kc:=Gv (n:=n) (k:=ks.len) (s:=ks.sz);have hat:at_<oR.length:=by omega
    obtain⟨w,hw⟩:∃w,oR[at_]?=some w:=⟨oR[at_]'hat,List.getElem?_eq_getElem _⟩
    have RZ:=iA hw;refine zQ 5 ?_;refine ae.JH (z:=((min (bC n ks.sz ks.len) 401:Nat):Int)) (t1:=_) (t2:=_) rfl (ev rfl) (ev rfl) (by omega) (aa rfl _) ?_;refine qi hH aG fun Q2 MT=>?_;refine ae.pJ hH rfl (ev rfl) (ev rfl) (by assumption) rfl rfl (by exact aG) (by assumption) (Nat.le_of_ble_eq_true rfl) (by exact .inr rfl) (fun st hH=>?_);dsimp only[u2,u1,u3,u4,setMany,u5,u6,D.cells,Nat.reduceAdd,aE,az] at hH;refine zQ 6 ?_;refine ag.ret ⟨rx,_,_,_,rfl,ak (rfl),?_⟩;have KD:j=at_+(Tr.mk n ks).flat.length:=by simp only[Tr.flat,List.length_cons];omega
    refine⟨by rw[KD];rfl,?_⟩
    have gR:ma es at_ (Tr.zs (.mk n ks))=oR.set at_ ((min (bC n ks.sz ks.len) 401:Nat):Int):=by
     rw[rJ,zu (by rw[aJ.iH];omega)];rfl
    rw[gR,List.map_set];exact cm.pZ b9 (hH.erase 1)
  |cons t ts=>
   simp only[aJ.len] at uI yM;simp only[aJ.sz] at B_;simp only[aJ.flat,List.length_append] at hj oN hrm;simp only[aJ.zs] at rJ;simp only[aJ.ok] at jM;have fJ:decide ((i:Int)<n.kids)=true:=by rw[decide_eq_true_eq];omega
   have RI:=t.jg;have HI:=t.iH;have hzz:=ts.iH;have Ih:(ma oR j t.zs).length=l.length:=by rw[zx (by omega)];exact yP
   have Rv:(ma oR j t.zs)[j]?=some ((min t.sz 401:Nat):Int):=by
    obtain⟨n',JO⟩:=t;simp only[Tr.zs,Tr.sz];exact Fa (by omega)
   have Uo:=iA Rv;refine qq<|qD rfl (by rw[fJ]) ?_;refine zQ 13 ?_;obtain⟨_,st,aF,rfl,hH⟩:=ih t (by omega) jM.1 oN.left yP hH;refine qv aF ?_;refine zQ 6 ?_;refine qi hH aG fun PT J3=>?_;refine zQ 1 ?_;refine ae.cS (z:=((min ss 401+min t.sz 401:Nat):Int)) rfl (ev rfl) (ev rfl) (by(try simp only[List.length_reverse,List.length_cons,List.length_nil,List.length_append,List.length_map,List.length_set]);rw[wrap_i64 (by omega) (by omega)]<;>omega) (by dsimp only[Fr.put,u1,u2]<;>rfl) ?_;refine ae.JH (z:=((min (ss+t.sz) 401:Nat):Int)) (t1:=_) (t2:=_) rfl (ev rfl) (ev rfl) (by omega) (by dsimp only[Fr.put,u1,u2]<;>rfl) ?_;refine zQ 6 ?_;exact⟨mm-1,by omega,⟨i+1,j+t.flat.length,ss+t.sz,ts,ma oR j t.zs,rfl,hH,by omega,by omega,oN.right,jM.2,by omega,Ih,by rw[←rJ];have:=zt (es:=oR) (a:=j) (M:=t.zs) (M':=ts.zs) (by omega);rw[HI] at this;exact this,by omega,by omega⟩⟩
theorem Gh {l:List bn} {d:D} (hl:l.length≤1048576) (hi:∀n∈l,n.ok) (hd:eZ d 7 (l.map aE)):∀(m:Nat) (t:Tr),t.flat.length≤m→t.ok→∀{N:Nat} {S s0:St} {H:List bh} {out:D} {es:List Int} {at_:Nat},fK l at_ t.flat→es.length=l.length→Has N S s0 (.aD out 1 (es.map az)::H)→
  ∃r ah,Ev pv 30 [d,out,.int .i64 (at_:Nat)] s0 r ah∧r=.int .i64 ((at_+t.flat.length:Nat):Int)∧Has N S ah (.aD out 1 ((ma es at_ (t.es at_)).map az)::H):=by
 intro m
 induction m with
 |zero=>intro t h;have:=t.jg;omega
 |succ m ih=>
  rintro⟨n,ks⟩ hm eC N S s0 H out es at_ mB rN hH;simp only[Tr.ok] at eC;obtain⟨rz,sW⟩:=eC;simp only[Tr.flat,List.length_cons] at hm;have hle:=mB.le (by simp[Tr.flat]);simp only[Tr.flat] at mB hle;simp only[List.length_cons] at hle;have hn:=mB.head;have mB:=mB.tail;have Ki:=hi n (List.mem_of_getElem? hn);have gJ:=kJ hn;have Bv:=rz.1;have iU:=aJ.pX ks;refine Ev.kT rfl O3 rfl rfl rfl ?_;refine zE ?_;have cm:=hH;have hH:=hH.cq;have b9:(ai .rw s0).bs=s0.bs:=rfl;generalize ai .rw s0=S2 at*;have hc:=hd.arg N S2;refine zQ 15 ?_;refine qr fun Ma HX=>?_;refine qf (fo:=6) fun Ri M9=>?_;refine zQ 4 ?_;refine ag.loop (fun mm fr st=>∃(i j:Nat) (rest:aJ) (oR:List Int),fr.clean=⟨16,[d,out,.int .i64 (at_:Nat),aH fr 3,aH fr 4,aH fr 5,.int .i64 0,.int .i64 (j:Nat),aH fr 8,aH fr 9,aH fr 10,aH fr 11,aH fr 12,aH fr 13,.int .i64 n.kids,.int .i64 (i:Nat)],[]⟩∧Has N S2 st (.aD out 1 (oR.map az)::H)∧(mm=rest.len)∧(i+rest.len=ks.len)∧(fK l j rest.flat)∧(rest.ok)∧(oR.length=l.length)∧(ma oR j (rest.es j)=ma es (at_+1) (ks.es (at_+1)))∧(j+rest.flat.length=at_+1+ks.flat.length)∧(rest.flat.length≤m)) (ks.len) ?_ ?_
  ·exact⟨0,at_+1,ks,es,rfl,hH,rfl,by omega,mB,sW,rN,rfl,rfl,by omega⟩
  rintro mm fr st ⟨i,j,rest,oR,hfr,hH,yM,uI,oN,jM,yP,rJ,hj,hrm⟩;rw[hfr];clear hfr;generalize aH fr=ee;clear fr;refine zQ 4 ?_
  cases rest with
  |nil=>
   simp only[aJ.len] at uI;simp only[aJ.flat,List.length_nil] at hj;simp only[aJ.es,zw] at rJ;have fJ:decide ((i:Int)<n.kids)=false:=by rw[decide_eq_false_iff_not];omega
   have hat:at_<oR.length:=by omega
   obtain⟨w,hw⟩:∃w,oR[at_]?=some w:=⟨oR[at_]'hat,List.getElem?_eq_getElem _⟩
   have RZ:=iA hw;refine qq<|qE rfl (by rw[fJ]) ?_;refine zQ 6 ?_;refine qi hH aG fun L' HW=>?_;refine ae.pJ hH rfl (ev rfl) (ev rfl) (by assumption) rfl rfl (by exact aG) (by assumption) (Nat.le_of_ble_eq_true rfl) (by exact .inr rfl) (fun st hH=>?_);dsimp only[u2,u1,u3,u4,setMany,u5,u6,D.cells,Nat.reduceAdd,aE,az] at hH;refine zQ 6 ?_;refine ag.ret ⟨rx,_,_,_,rfl,ak (rfl),?_⟩;have KD:j=at_+(Tr.mk n ks).flat.length:=by simp only[Tr.flat,List.length_cons];omega
   refine⟨by rw[KD];rfl,?_⟩
   have gR:ma es at_ (Tr.es (.mk n ks) at_)=oR.set at_ ((j:Nat):Int):=by
    rw[rJ,zu (by rw[aJ.iQ];omega)];have:j=at_+1+ks.flat.length:=by omega
    rw[this];rfl
   rw[gR,List.map_set];exact cm.pZ b9 hH
  |cons t ts=>
   simp only[aJ.len] at uI yM;simp only[aJ.flat,List.length_append] at hj oN hrm;simp only[aJ.es] at rJ;simp only[aJ.ok] at jM;have fJ:decide ((i:Int)<n.kids)=true:=by rw[decide_eq_true_eq];omega
   have RI:=t.jg;have HI:=t.iQ j;have hzz:=ts.iQ (j+t.flat.length);have Ih:(ma oR j (t.es j)).length=l.length:=by rw[zx (by omega)];exact yP
   refine qq<|qD rfl (by rw[fJ]) ?_;refine zQ 7 ?_;obtain⟨_,st,aF,rfl,hH⟩:=ih t (by omega) jM.1 oN.left yP hH;refine qv aF ?_;refine zQ 6 ?_;exact⟨mm-1,by omega,⟨i+1,j+t.flat.length,ts,ma oR j (t.es j),rfl,hH,by omega,by omega,oN.right,jM.2,Ih,by rw[←rJ];have:=zt (es:=oR) (a:=j) (M:=t.es j) (M':=ts.es (j+t.flat.length)) (by omega);rw[HI] at this;exact this,by omega,by omega⟩⟩
theorem ga {N k:Nat} {S s0:St} {H:List bh} {ks:Nat→Prop} {cd nd zd ed w:D} {code:List aT} {op x y:Int} {rs:List Rg} (hF:S.flr≤N) (hl:code.length≤1048576) (hH:Has N S s0 (.aD w 2 (rs.map av)::.box k (.mem 0 false [cd,nd,zd,ed])::.deep ks cd 4 (code.map bS)::H)):
  ∃r ah,Ev pv 31 [.ptr k 0 0,.agg [.int .i64 op,.int .i64 x,.int .i64 y,w]] s0 r ah∧r=.int .i64 (code.length:Nat)∧∃QE JO,Has N S ah (.box k (.mem 0 false [QE,nd,zd,ed])::.deep JO QE 4 ((code++[du op x y rs]).map bS)::H):=by
 refine Ev.kT rfl O2 rfl rfl rfl ?_;refine zE ?_;change ag _ _ _ _ s0 _;refine zQ 2 ?_;refine qb hH fun k3 st Ib hH=>?_;refine zQ 9 ?_;refine ae.aO (m:=4) hH rfl (ev rfl) (by exact aG) (by dsimp only[List.drop_succ_cons,List.drop_zero,List.take_succ_cons,List.take_zero,bS]<;>rfl) rfl rfl (aa rfl _) ?_;refine qh (s:=4) (vs:=[_]) hH fun k11 st SU hH=>?_;obtain⟨hH,NW⟩:=hH.EL (i:=2) (j:=4) (by decide) b8 eo (dX _);dsimp only[u1,u2] at hH;refine ae.pg hH rfl (ev rfl) (ev rfl) eo (hH.rows aG) (.cons (.cons (.plain _ rfl) (.cons (.plain _ rfl) (.cons (.plain _ rfl) (.cons NW .nil)))) .nil) rfl rfl rfl rfl rfl rfl rfl ⟨(Nat.le_of_ble_eq_true rfl),(Nat.le_of_ble_eq_true rfl)⟩ (fun _=>(aa rfl _)) (by simp only[List.length_map,List.length_cons,List.length_nil];omega) (.inl hF) (fun T1 st hH=>?_);dsimp only[u1,u2] at hH;refine zQ 2 ?_;refine ae.uz hH rfl (ev rfl) (ev rfl) (by exact hH.lR (by exact eo)) (by exact rfl) (by exact dw) (by exact Nat.le_of_ble_eq_true rfl) (by exact .inl hF) (fun st hH=>?_);dsimp only[u2,u1,u3,u4,setMany,u5,u6,D.cells,Nat.reduceAdd,bS] at hH;refine zQ 7 ?_;refine ae.BN hH rfl (ev rfl) (by exact eo) rfl (aa rfl _) ?_;simp only[List.length_map,List.length_append,List.length_cons,List.length_nil];refine ae.kQ (z:=((code.length:Nat):Int)) rfl (ev rfl) (ev rfl) (by(try simp only[List.length_reverse,List.length_cons,List.length_nil,List.length_append,List.length_map,List.length_set]);rw[wrap_i64 (by omega) (by omega)]<;>omega) (aa rfl _) ?_;refine zQ 2 ?_;refine ag.ret ⟨rx,_,_,_,rfl,rfl,?_⟩;exact⟨rfl,_,_,by rw[List.map_append];exact hH.drop 3⟩
theorem pA {N k:Nat} {S s0:St} {H:List bh} {ks:Nat→Prop} {cd nd zd ed:D} {code:List aT} {at_ over:Nat} {lz:Bool} {x y:Int} (hat:code[at_]?=some (du 2 x y [])) (hl:code.length≤1048576) (hH:Has N S s0 (.box k (.mem 0 false [cd,nd,zd,ed])::.deep ks cd 4 (code.map bS)::H)):
  ∃r ah,Ev pv 61 [.ptr k 0 0,.int .i64 (at_:Nat),.int .i64 (over:Nat),.bool lz] s0 r ah∧r=.tup []∧Has N S ah (.box k (.mem 0 false [cd,nd,zd,ed])::.deep ks cd 4 ((code.set at_ (n9 at_ over lz)).map bS)::H):=by
 have hlt:=cQ hat;have gJ:(code.map bS)[at_]?=some [.int .i64 2,.int .i64 x,.int .i64 y,.sl []]:=uw hat;have gR:∀a b:List D,(code.map bS).set at_ a=(code.map bS).set at_ a:=fun _ _=>rfl;refine Ev.kT rfl OI rfl rfl rfl ?_;refine zE ?_;have cm:=hH;have hH:=hH.cq;have b9:(ai .rw s0).bs=s0.bs:=rfl;generalize ai .rw s0=S2 at*;refine zQ 13 ?_;refine ae.cS (z:=((at_+1:Nat):Int)) rfl (ev rfl) (ev rfl) (by(try simp only[List.length_reverse,List.length_cons,List.length_nil,List.length_append,List.length_map,List.length_set]);rw[wrap_i64 (by omega) (by omega)]<;>omega) (aa rfl _) ?_;refine qm ?_;refine ae.Eh (s:=4) hH rfl (ev rfl) (ev rfl) (by exact aV) rfl rfl (by exact cQ (by assumption)) (fun _=>(aa rfl _)) (fun PX J7=>?_);refine ae.cX (fo:=1) (m:=0) (o2:=1) rfl (ev rfl) (by assumption) rfl rfl rfl (fun _=>(aa rfl _)) (fun PW J6=>?_);refine ae.rb hH rfl (ev rfl) (ev rfl) (by assumption) rfl rfl (by exact aV) (by assumption) (Nat.le_of_ble_eq_true rfl) (by intro d hd;simp only[List.mem_cons,List.not_mem_nil,or_false] at hd;subst hd;rfl) (by exact .inr rfl) (fun st hH=>?_);dsimp only[u2,u1,u3,u4,setMany,u5,u6,D.cells,Nat.reduceAdd,bS] at hH;refine ae.Eh (s:=4) hH rfl (ev rfl) (ev rfl) (by exact aV) rfl rfl (by simp only[List.length_map,List.length_set]<;>omega) (fun _=>(aa rfl _)) (fun Rh M8=>?_);refine ae.cX (fo:=2) (m:=0) (o2:=2) rfl (ev rfl) (by assumption) rfl rfl rfl (fun _=>(aa rfl _)) (fun Jy DH=>?_);refine ae.rb hH rfl (ev rfl) (ev rfl) (by assumption) rfl rfl (by exact aV) (List.getElem?_set_self (by simp only[List.length_set,List.length_map];omega)) (Nat.le_of_ble_eq_true rfl) (by intro d hd;simp only[List.mem_cons,List.not_mem_nil,or_false] at hd;subst hd;rfl) (by exact .inr rfl) (fun st hH=>?_);dsimp only[u1,u2,setMany] at hH;rw[List.set_set] at hH;refine zQ 5 ?_
 cases lz with
 |false=>
  refine zQ 2 ?_;refine⟨fun i h=>(by cases h),_,_,_,rfl,ak rfl,?_⟩;exact⟨rfl,by rw[List.map_set];exact cm.wE b9 hH⟩
 |true=>
  refine zQ 14 ?_;refine ae.cS (z:=((at_+1:Nat):Int)) rfl (ev rfl) (ev rfl) (by(try simp only[List.length_reverse,List.length_cons,List.length_nil,List.length_append,List.length_map,List.length_set]);rw[wrap_i64 (by omega) (by omega)]<;>omega) (aa rfl _) ?_;refine ae.Eh (s:=4) hH rfl (ev rfl) (ev rfl) (by exact aV) rfl rfl (by simp only[List.length_map,List.length_set]<;>omega) (fun _=>(aa rfl _)) (fun Rb M4=>?_);refine ae.cX (fo:=1) (m:=0) (o2:=1) rfl (ev rfl) (by assumption) rfl rfl rfl (fun _=>(aa rfl _)) (fun Ra M3=>?_);refine ae.rb hH rfl (ev rfl) (ev rfl) (by assumption) rfl rfl (by exact aV) (List.getElem?_set_self (by simp only[List.length_set,List.length_map];omega)) (Nat.le_of_ble_eq_true rfl) (by intro d hd;simp only[List.mem_cons,List.not_mem_nil,or_false] at hd;subst hd;rfl) (by exact .inr rfl) (fun st hH=>?_);dsimp only[u1,u2,setMany] at hH;rw[List.set_set] at hH;refine ae.Eh (s:=4) hH rfl (ev rfl) (ev rfl) (by exact aV) rfl rfl (by simp only[List.length_map,List.length_set]<;>omega) (fun _=>(aa rfl _)) (fun Q_ M1=>?_);refine ae.cX (fo:=2) (m:=0) (o2:=2) rfl (ev rfl) (by assumption) rfl rfl rfl (fun _=>(aa rfl _)) (fun Q9 MZ=>?_);refine ae.rb hH rfl (ev rfl) (ev rfl) (by assumption) rfl rfl (by exact aV) (List.getElem?_set_self (by simp only[List.length_set,List.length_map];omega)) (Nat.le_of_ble_eq_true rfl) (by intro d hd;simp only[List.mem_cons,List.not_mem_nil,or_false] at hd;subst hd;rfl) (by exact .inr rfl) (fun st hH=>?_);dsimp only[u1,u2,setMany] at hH;rw[List.set_set] at hH;refine zQ 1 ?_;refine⟨fun i h=>(by cases h),_,_,_,rfl,ak rfl,?_⟩;exact⟨rfl,by rw[List.map_set];exact cm.wE b9 hH⟩
def aw (fr:Go.V.Fr) (k:Nat):Go.V.D:=Go.V.nth .aY fr.loc k
def j6 (n:Nat):List D:=[.int .i64 (n:Nat)]
theorem wh {l:List Nat} {i q:Nat} (h:l[i]?=some q):(l.map j6)[i]?=some (j6 q):=by rw[List.getElem?_map,h];rfl
def Jd (N:Nat) (S st:St) (k:Nat) (nd zd ed:D) (Z E:List Int) (H:List bh) (code:List aT):Prop:=
 ∃cd ks,Has N S st (.box k (.mem 0 false [cd,nd,zd,ed])::.deep ks cd 4 (code.map bS)::.aD zd 1 (Z.map az)::.aD ed 1 (E.map az)::H)
def ru (l:List bn) (t:Tr):Prop:=∀{N k:Nat} {S s0:St} {H:List bh} {nd zd ed:D} {code:List aT} {Z E:List Int} {at_:Nat},S.flr≤N→eZ nd 7 (l.map aE)→fK l at_ t.flat→fK Z at_ t.zs→fK E at_ (t.es at_)→t.ok→code.length+t.sz≤1000000→Jd N S s0 k nd zd ed Z E H code→
 ∃r ah,Ev pv 32 [.ptr k 0 0,.int .i64 (at_:Nat)] s0 r ah∧r=.tup []∧Jd N S ah k nd zd ed Z E H (code++aN t code.length)
theorem Aq {E:List Int} {t:Tr} {a:Nat} (h:fK E a (t.es a)):E[a]?=some ((a+t.flat.length:Nat):Int):=by
 obtain⟨n,ks⟩:=t;simp only[Tr.es] at h;rw[h.head];simp only[Tr.flat,List.length_cons]
 congr 2;omega
theorem zj {Z:List Int} {t:Tr} {a:Nat} (h:fK Z a t.zs):Z[a]?=some ((min t.sz 401:Nat):Int):=by
 obtain⟨n,ks⟩:=t;simp only[Tr.zs] at h;rw[h.head];rfl
theorem IM {l:List bn} (oP:l.length≤1048576) {m:Nat} (ih:∀t:Tr,t.flat.length≤m→ru l t) {n:bn} {ks:aJ} (hop:n.op=4) (Ks:ks.flat.length≤m) (rz:sC n ks.len) (sW:ks.ok) {N k:Nat} {S s0:St} {H:List bh} {nd zd ed:D} {code:List aT} {Z E:List Int} {at_:Nat} (hF:S.flr≤N) (yL:eZ nd 7 (l.map aE)) (kU:fK l at_ (n::ks.flat)) (hsz:fK Z (at_+1) ks.zs) (xC:fK E (at_+1) (ks.es (at_+1))) (hb:code.length+bC n ks.sz ks.len≤1000000) (hM:Jd N S s0 k nd zd ed Z E H code):
  ∃r ah,Ev pv 48 [.ptr k 0 0,.int .i64 (at_:Nat)] s0 r ah∧r=.tup []∧Jd N S ah k nd zd ed Z E H (code++fz (lv (code.length+bC n ks.sz ks.len)) ks code.length):=by
 obtain⟨cd,dk,hH⟩:=hM;have hle:=kU.le (by simp);simp only[List.length_cons] at hle;have hn:=kU.head;have kU:=kU.tail;have gJ:=kJ hn;have Bv:=rz.1;have gU:=aJ.pX ks
 have hk2:2≤ks.len:=by
  obtain⟨_,hq⟩:=rz;omega
 have F7:bC n ks.sz ks.len=ks.sz+2*(ks.len-1):=by unfold bC;rw[if_neg (by omega),if_pos hop]
 rw[F7] at hb⊢;clear F7;refine Ev.kT rfl OR rfl rfl rfl ?_;refine zE ?_;change ag _ _ _ _ s0 _;have hc:=yL.arg N S;refine zQ 18 ?_;refine qr fun PZ J9=>?_;refine qf (fo:=6) fun PY J8=>?_;refine zQ 3 ?_;have hH:Has N S s0 (.box k (.mem 0 false [cd,nd,zd,ed])::.deep dk cd 4 (code.map bS)::.aD zd 1 (Z.map az)::.aD ed 1 (E.map az)::.aD .nul 1 (([]:List Nat).map j6)::H):=(hH.dU 1).Fj;refine zQ 1 ?_;refine ag.loop (fun mm fr st=>∃(i j:Nat) (rest:aJ) (cd jd:D) (dk:Nat→Prop) (aP:List aT) (js:List Nat),fr.clean=⟨68,[.ptr k 0 0,.int .i64 (at_:Nat),aw fr 2,aw fr 3,jd,.int .i64 (j:Nat),aw fr 6,aw fr 7,aw fr 8,aw fr 9,aw fr 10,aw fr 11,aw fr 12,aw fr 13,aw fr 14,aw fr 15,aw fr 16,aw fr 17,aw fr 18,.int .i64 n.kids,.int .i64 (i:Nat),aw fr 21,aw fr 22,aw fr 23,aw fr 24,aw fr 25,aw fr 26,aw fr 27,aw fr 28,aw fr 29,aw fr 30,aw fr 31,aw fr 32,aw fr 33,aw fr 34,aw fr 35,aw fr 36,aw fr 37,aw fr 38,aw fr 39,aw fr 40,aw fr 41,aw fr 42,aw fr 43,aw fr 44,aw fr 45,aw fr 46,aw fr 47,aw fr 48,aw fr 49,aw fr 50,aw fr 51,aw fr 52,aw fr 53,aw fr 54,aw fr 55,aw fr 56,aw fr 57,aw fr 58,aw fr 59,aw fr 60,aw fr 61,aw fr 62,aw fr 63,aw fr 64,aw fr 65,aw fr 66,aw fr 67],[]⟩∧Has N S st (.box k (.mem 0 false [cd,nd,zd,ed])::.deep dk cd 4 (aP.map bS)::.aD zd 1 (Z.map az)::.aD ed 1 (E.map az)::.aD jd 1 (js.map j6)::H)∧(mm=rest.len)∧(i+rest.len=ks.len)∧(0<rest.len)∧(fK l j rest.flat)∧(fK Z j rest.zs)∧(fK E j (rest.es j))∧(rest.ok)∧(aP++fz (lv 0) rest aP.length=code++fz (lv 0) ks code.length)∧(js++rq rest aP.length=rq ks code.length)∧(aP.length+(rest.sz+2*(rest.len-1))=code.length+(ks.sz+2*(ks.len-1)))∧(rest.flat.length≤m)∧(js.length≤i)) (ks.len) ?_ ?_
 ·exact⟨0,at_+1,ks,cd,.nul,dk,code,[],rfl,hH,rfl,by omega,by omega,kU,hsz,xC,sW,rfl,rfl,rfl,Ks,by simp⟩
 rintro mm fr st ⟨i,j,rest,cd,jd,dk,aP,js,hfr,hH,yM,uI,GR,oN,wQ,oM,jM,ic,hjs,hcl,hrm,hjl⟩;rw[hfr];clear hfr;generalize aw fr=ee;clear fr;refine zQ 4 ?_
 cases rest with
 |nil=>simp[aJ.len] at GR
 |cons t ts=>
  simp only[aJ.len] at uI yM hcl;simp only[aJ.sz] at hcl;simp only[aJ.flat,List.length_append] at oN hrm;simp only[aJ.zs] at wQ;simp only[aJ.es] at oM;simp only[aJ.ok] at jM;have HI:=t.iH;have GP:=t.iQ j;have Bo:=bW t (aP.length+1) jM.1;have MM:=iA (Aq oM.left);have fJ:decide ((i:Int)<n.kids)=true:=by rw[decide_eq_true_eq];omega
  refine qq<|qD rfl (by rw[fJ]) ?_;refine zQ 17 ?_;refine qr fun PT J3=>?_;refine qf (fo:=6) fun PS J2=>?_;refine qR ?_;refine ae.kQ (z:=((ks.len-1:Nat):Int)) rfl (ev rfl) (ev rfl) (by(try simp only[List.length_reverse,List.length_cons,List.length_nil,List.length_append,List.length_map,List.length_set]);rw[wrap_i64 (by omega) (by omega)]<;>omega) (by dsimp only[Fr.put,u1,u2]<;>rfl) ?_;refine zQ 2 ?_
  by_cases Af:ts.len=0
  ·simp only[fz,rq,if_pos Af,List.append_nil] at ic hjs;have htn:=aJ.len_nil Af;subst htn;simp only[aJ.sz,aJ.len] at hcl uI;have Ik:(((i:Nat):Int)==((ks.len-1:Nat):Int))=true:=by rw[beq_iff_eq];omega
   refine qD rfl (by rw[Ik]) ?_;refine zQ 4 ?_;obtain⟨_,st,aF,rfl,cd,dk,hH⟩:=ih t (by omega) hF yL oN.left wQ.left oM.left jM.1 (by omega) ⟨cd,dk,hH⟩;refine qv aF ?_;refine zQ 5 ?_;refine qn ?_ (hR:=hH.rows eo);simp only[List.length_map];refine zQ 2 ?_;rw[ic] at hH;have hal:=mU (lv 0) ks code.length sW;obtain⟨wS,F3⟩:=nU (jp:=lv (code.length+(ks.sz+2*(ks.len-1)))) (i0:=lv 0) ks code.length code [] sW rfl;simp only[List.append_nil] at wS F3;have Ja:(code++fz (lv 0) ks code.length).length=code.length+(ks.sz+2*(ks.len-1)):=by rw[List.length_append,hal]
   rw[←hjs] at wS F3;rw[←wS];clear wS ic;generalize code++fz (lv 0) ks code.length=C0 at*;generalize code.length+(ks.sz+2*(ks.len-1))=e at*;refine zQ 1 ?_;refine ag.loop (fun mm fr st=>∃(q:Nat) (C:List aT),fr.clean=⟨68,[.ptr k 0 0,aw fr 1,aw fr 2,aw fr 3,aw fr 4,aw fr 5,aw fr 6,aw fr 7,aw fr 8,aw fr 9,aw fr 10,aw fr 11,aw fr 12,aw fr 13,aw fr 14,aw fr 15,aw fr 16,aw fr 17,aw fr 18,aw fr 19,aw fr 20,aw fr 21,aw fr 22,aw fr 23,aw fr 24,aw fr 25,aw fr 26,aw fr 27,aw fr 28,aw fr 29,aw fr 30,aw fr 31,aw fr 32,aw fr 33,aw fr 34,aw fr 35,aw fr 36,aw fr 37,aw fr 38,aw fr 39,aw fr 40,aw fr 41,aw fr 42,aw fr 43,aw fr 44,aw fr 45,aw fr 46,aw fr 47,aw fr 48,aw fr 49,aw fr 50,aw fr 51,aw fr 52,aw fr 53,aw fr 54,aw fr 55,aw fr 56,aw fr 57,aw fr 58,aw fr 59,aw fr 60,aw fr 61,aw fr 62,aw fr 63,aw fr 64,jd,.int .i64 (js.length:Nat),.int .i64 (q:Nat)],[]⟩∧Has N S st (.box k (.mem 0 false [cd,nd,zd,ed])::.deep dk cd 4 (C.map bS)::.aD zd 1 (Z.map az)::.aD ed 1 (E.map az)::.aD jd 1 (js.map j6)::H)∧(q+mm=js.length)∧(gX (fun _=>lv e) C (js.drop q)=gX (fun _=>lv e) C0 js)∧(∀p∈js,∃v:Int,C[p]?=some (du 3 v 0 []))∧(C.length=e)) (js.length) ?_ ?_
   ·exact⟨0,C0,rfl,hH,by omega,rfl,fun p hp=>⟨_,F3 p hp⟩,Ja⟩
   rintro mm fr st ⟨q,C,hfr,hH,hq,fh,hall,K1⟩;rw[hfr];clear hfr;generalize aw fr=ee;clear fr;refine zQ 5 ?_;refine zP (fun hlt=>?_) fun hlt=>?_
   ·refine zQ 1 ?_;have I5:q<js.length:=by omega
    obtain⟨p,hp⟩:∃p,js[q]?=some p:=⟨js[q]'I5,List.getElem?_eq_getElem _⟩
    obtain⟨v,hv⟩:=hall p (List.mem_of_getElem? hp);have gJ:=wh hp;have m_:=uw hv;have ka:=cQ hv;refine zQ 4 ?_;refine qi hH eo fun Ua R_=>?_;refine zQ 13 ?_;refine ae.BN hH rfl (ev rfl) (by exact aV) rfl (aa rfl _) ?_;simp only[List.length_map];refine ae.Eh (s:=4) hH rfl (ev rfl) (ev rfl) (by exact aV) rfl rfl (by exact cQ (by assumption)) (fun _=>(aa rfl _)) (fun Q2 MT=>?_);refine ae.cX (fo:=1) (m:=0) (o2:=1) rfl (ev rfl) (by assumption) rfl rfl rfl (fun _=>(aa rfl _)) (fun T9 R8=>?_);refine ae.rb hH rfl (ev rfl) (ev rfl) (by assumption) rfl rfl (by exact aV) (by assumption) (Nat.le_of_ble_eq_true rfl) (by intro d hd;simp only[List.mem_cons,List.not_mem_nil,or_false] at hd;subst hd;rfl) (by exact .inl hF) (fun st hH=>?_);dsimp only[u2,u1,u3,u4,setMany,u5,u6,D.cells,Nat.reduceAdd,bS,aE,az,j6] at hH;refine zQ 5 ?_
    have BA:js.drop q=p::js.drop (q+1):=by
     rw[List.drop_eq_getElem_cons I5]
     congr 1
     exact Option.some.inj ((List.getElem?_eq_getElem _).symm.trans hp)
    refine⟨mm-1,by omega,⟨q+1,C.set p (lv e),rfl,(by rw[List.map_set,←K1];exact hH),by omega,by rw[BA] at fh;exact fh,?_,by rw[List.length_set];exact K1⟩⟩;intro p' uC
    by_cases hpp:p'=p
    ·subst hpp;exact⟨_,List.getElem?_set_self ka⟩
    ·rw[List.getElem?_set_ne (fun e=>hpp e.symm)];exact hall p' uC
   ·refine zQ 1 ?_;refine⟨fun i h=>(by cases h),_,_,_,rfl,rfl,?_⟩;have Bs:q=js.length:=by omega
    rw[Bs,List.drop_length] at fh;have fh:C=gX (fun _=>lv e) C0 js:=fh;rw[←fh];exact⟨rfl,cd,dk,hH.erase 4⟩
  ·simp only[fz,rq,if_neg Af] at ic hjs;have Ik:(((i:Nat):Int)==((ks.len-1:Nat):Int))=false:=by rw[beq_eq_false_iff_ne];omega
   refine qE rfl (by rw[Ik]) ?_;refine zQ 4 ?_;refine ae.go (d:=.agg [.int .i64 2,.int .i64 0,.int .i64 0,.nul]) (st1:=_) rfl rfl rfl (by dsimp only[Fr.put,u1,u2]<;>rfl) ?_;have hH:=hH.dU 2;obtain⟨_,st,aF,rfl,cd,dk,hH⟩:=ga (rs:=[]) hF (by omega) hH;refine qv aF ?_;refine zQ 2 ?_;have mE:(aP++[du 2 0 0 []]).length=aP.length+1:=by simp
   refine zQ 4 ?_;obtain⟨_,st,aF,rfl,cd,dk,hH⟩:=ih t (by omega) hF yL oN.left wQ.left oM.left jM.1 (by omega) ⟨cd,dk,hH⟩;refine qv aF ?_;refine zQ 1 ?_;rw[mE] at hH;have nL:(aP++[du 2 0 0 []]++aN t (aP.length+1)).length=aP.length+1+t.sz:=by rw[List.length_append,mE,Bo]
   refine zQ 4 ?_;refine ae.go (d:=.agg [.int .i64 3,.int .i64 0,.int .i64 0,.nul]) (st1:=_) rfl rfl rfl (by dsimp only[Fr.put,u1,u2]<;>rfl) ?_;have hH:=hH.dU 2;obtain⟨_,st,aF,rfl,cd,dk,hH⟩:=ga (rs:=[]) hF (by omega) hH;refine qv aF ?_;refine qh (s:=1) (vs:=[_]) hH fun k47 st SK hH=>?_;refine qP hH fG (hH.rows aG) fun LQ st hH=>?_;dsimp only[u2,u1,u3,u4,setMany,u5,u6,D.cells,Nat.reduceAdd,bS,aE,az,j6] at hH;refine zQ 2 ?_;have hH:=hH.drop 1
   have Io:(aP++[du 2 0 0 []]++aN t (aP.length+1)++[du 3 0 0 []])[aP.length]?=some (du 2 0 0 []):=by
    rw[List.append_assoc,List.append_assoc];exact pe _ _ _
   have D2:(aP++[du 2 0 0 []]++aN t (aP.length+1)++[du 3 0 0 []]).length=aP.length+1+t.sz+1:=by rw[List.length_append,nL];rfl
   have FZ:(aP++[du 2 0 0 []]++aN t (aP.length+1)++[du 3 0 0 []]).set aP.length (n9 aP.length (aP.length+1+t.sz+1) false)=aP++(n9 aP.length (aP.length+1+t.sz+1) false::(aN t (aP.length+1)++[lv 0])):=by
    rw[List.append_assoc,List.append_assoc];exact o4 _ _ _ _
   have Ij:(aP++(n9 aP.length (aP.length+1+t.sz+1) false::(aN t (aP.length+1)++[lv 0]))).length=aP.length+t.sz+2:=by rw[←FZ,List.length_set,D2];omega
   generalize aP++[du 2 0 0 []]++aN t (aP.length+1)++[du 3 0 0 []]=Ej at*;refine zQ 8 ?_;refine ae.BN hH rfl (ev rfl) (by exact aV) rfl (by dsimp only[Fr.put,u1,u2]<;>rfl) ?_;simp only[List.length_map,List.length_append,List.length_cons,List.length_nil];obtain⟨_,st,aF,rfl,hH⟩:=pA (at_:=aP.length) (over:=Ej.length) (lz:=false) Io (by omega) hH;refine qv aF ?_;refine zQ 1 ?_;rw[D2,FZ] at hH;refine zQ 6 ?_;refine qi hH dw fun Uc Sb=>?_;refine zQ 7 ?_;exact⟨mm-1,by omega,⟨i+1,j+t.flat.length,ts,cd,LQ,dk,aP++(n9 aP.length (aP.length+1+t.sz+1) false::(aN t (aP.length+1)++[lv 0])),js++[aP.length+1+t.sz],rfl,(by rw[List.map_append (f:=j6)];rw[nL] at hH;exact hH),by omega,by omega,by omega,oN.right,by rw[←HI];exact wQ.right,by rw[←GP];rw[←GP] at oM;exact oM.right,jM.2,by rw[Ij,←ic];simp only[List.append_assoc,List.cons_append,List.nil_append],by rw[Ij,←hjs];simp only[List.append_assoc,List.cons_append,List.nil_append],by rw[Ij];omega,by omega,by rw[List.length_append];simp only[List.length_cons,List.length_nil];omega⟩⟩
def af (fr:Go.V.Fr) (k:Nat):Go.V.D:=Go.V.nth .aY fr.loc k
theorem su {c:Nat→List aT} (hc:∀b,(c b).length=0) (z:Nat):∀k b,gZ c z k b=[]
 |0,_=>rfl
 |k+1,b=>by rw[gZ,su hc z k,List.length_eq_zero_iff.1 (hc b)];rfl
theorem Cy (s o:Nat) (lz:Bool):∃x y:Int,n9 s o lz=du 2 x y []:=by
 cases lz
 ·exact⟨_,_,rfl⟩
 ·exact⟨_,_,rfl⟩
theorem AW {l:List bn} (oP:l.length≤1048576) {m:Nat} (ih:∀t:Tr,t.flat.length≤m→ru l t) {n:bn} {t:Tr} (hop:n.op=5) (Ks:t.flat.length≤m) (rz:sC n 1) (rI:t.ok) {N k:Nat} {S s0:St} {H:List bh} {nd zd ed:D} {code:List aT} {Z E:List Int} {at_:Nat} (hF:S.flr≤N) (yL:eZ nd 7 (l.map aE)) (kU:fK l at_ (n::t.flat)) (hsz:fK Z (at_+1) t.zs) (xC:fK E (at_+1) (t.es (at_+1))) (hb:code.length+bC n t.sz 1≤1000000) (hM:Jd N S s0 k nd zd ed Z E H code):
  ∃r ah,Ev pv 49 [.ptr k 0 0,.int .i64 (at_:Nat)] s0 r ah∧r=.tup []∧Jd N S ah k nd zd ed Z E H (code++tO n (aN t) t.sz code.length):=by
 obtain⟨cd,dk,hH⟩:=hM;have hle:=kU.le (by simp);simp only[List.length_cons] at hle;have hn:=kU.head;have kU:=kU.tail;have gJ:=kJ hn;have m_:=iA (zj hsz)
 have Cc:0≤n.mn∧n.mn≤30∧(n.mx=-1∨(n.mn≤n.mx∧n.mx≤30)):=by
  obtain⟨_,hq⟩:=rz;omega
 have F7:bC n t.sz 1=if n.mx=-1 then n.mn.toNat*t.sz+t.sz+2 else n.mn.toNat*t.sz+(n.mx.toNat-n.mn.toNat)*(t.sz+1):=by unfold bC;rw[if_neg (by omega),if_neg (by omega),if_neg (by omega),if_pos hop]
 rw[F7] at hb;clear F7;have Bo:=fun b=>bW t b rI;have hb1:code.length+n.mn.toNat*t.sz≤1000000:=by split at hb<;>omega
 refine Ev.kT rfl OQ rfl rfl rfl ?_;refine zE ?_;change ag _ _ _ _ s0 _;have hc:=yL.arg N S;refine zQ 7 ?_;refine qr fun P0 J_=>?_;refine ae.cJ rfl (ev rfl) (by assumption) rfl (by dsimp only[Fr.put,u1,u2]<;>rfl) ?_;refine zQ 2 ?_;refine qa hH fun k4 st I_ hH=>?_;refine qS hH aG fun st hH=>?_;dsimp only[u2,u1,u3,u4,setMany,u5,u6,D.cells,Nat.reduceAdd,bS,aE,az,j6] at hH;refine zQ 2 ?_;have hH:Has N S st (.box k (.mem 0 false [cd,nd,zd,ed])::.deep dk cd 4 (code.map bS)::.aD zd 1 (Z.map az)::.aD ed 1 (E.map az)::.box k4 (.mem 0 false (aE n))::H):=hH.Fj;refine zQ 8 ?_;refine qi hH b8 fun Jy DH=>?_;refine zQ 3 ?_;have hRl:=jY Bo n.mn.toNat code.length;refine ag.merge (fun fr st=>∃(cd:D) (dk:Nat→Prop) (tmp:List (Nat×D)),fr=⟨78,[.ptr k 0 0,.int .i64 (at_:Nat),af fr 2,af fr 3,.ptr k4 0 0,.int .i64 ((at_+1:Nat):Int),af fr 6,af fr 7,af fr 8,af fr 9,af fr 10,af fr 11,af fr 12,af fr 13,af fr 14,af fr 15,af fr 16,af fr 17,af fr 18,af fr 19,af fr 20,af fr 21,af fr 22,af fr 23,af fr 24,af fr 25,af fr 26,af fr 27,af fr 28,af fr 29,af fr 30,af fr 31,af fr 32,af fr 33,af fr 34,af fr 35,af fr 36,af fr 37,af fr 38,af fr 39,af fr 40,af fr 41,af fr 42,af fr 43,af fr 44,af fr 45,af fr 46,af fr 47,af fr 48,af fr 49,af fr 50,af fr 51,af fr 52,af fr 53,af fr 54,af fr 55,af fr 56,af fr 57,af fr 58,af fr 59,af fr 60,af fr 61,af fr 62,af fr 63,af fr 64,af fr 65,af fr 66,af fr 67,af fr 68,af fr 69,af fr 70,af fr 71,af fr 72,af fr 73,af fr 74,af fr 75,af fr 76,af fr 77],tmp⟩∧Has N S st (.box k (.mem 0 false [cd,nd,zd,ed])::.deep dk cd 4 ((code++gZ (aN t) t.sz n.mn.toNat code.length).map bS)::.aD zd 1 (Z.map az)::.aD ed 1 (E.map az)::.box k4 (.mem 0 false (aE n))::H)) ?_ ?_
 ·refine zP (fun hz=>?_) fun hz=>?_
  ·refine zQ 7 ?_;refine ag.loop (fun mm fr st=>∃(i:Nat) (cd:D) (dk:Nat→Prop) (aP:List aT),fr.clean=⟨78,[.ptr k 0 0,.int .i64 (at_:Nat),af fr 2,af fr 3,.ptr k4 0 0,.int .i64 ((at_+1:Nat):Int),af fr 6,af fr 7,af fr 8,af fr 9,af fr 10,af fr 11,af fr 12,af fr 13,af fr 14,af fr 15,af fr 16,af fr 17,af fr 18,af fr 19,af fr 20,af fr 21,af fr 22,af fr 23,af fr 24,af fr 25,af fr 26,af fr 27,.int .i64 n.mn,.int .i64 (i:Nat),af fr 30,af fr 31,af fr 32,af fr 33,af fr 34,af fr 35,af fr 36,af fr 37,af fr 38,af fr 39,af fr 40,af fr 41,af fr 42,af fr 43,af fr 44,af fr 45,af fr 46,af fr 47,af fr 48,af fr 49,af fr 50,af fr 51,af fr 52,af fr 53,af fr 54,af fr 55,af fr 56,af fr 57,af fr 58,af fr 59,af fr 60,af fr 61,af fr 62,af fr 63,af fr 64,af fr 65,af fr 66,af fr 67,af fr 68,af fr 69,af fr 70,af fr 71,af fr 72,af fr 73,af fr 74,af fr 75,af fr 76,af fr 77],[]⟩∧Has N S st (.box k (.mem 0 false [cd,nd,zd,ed])::.deep dk cd 4 (aP.map bS)::.aD zd 1 (Z.map az)::.aD ed 1 (E.map az)::.box k4 (.mem 0 false (aE n))::H)∧(i+mm=n.mn.toNat)∧(aP++gZ (aN t) t.sz mm aP.length=code++gZ (aN t) t.sz n.mn.toNat code.length)∧(aP.length+mm*t.sz=code.length+n.mn.toNat*t.sz)) (n.mn.toNat) ?_ ?_
   ·exact⟨0,cd,dk,code,rfl,hH,by omega,rfl,rfl⟩
   rintro mm fr st ⟨i,cd,dk,aP,hfr,hH,hi,oC,hcl⟩;rw[hfr];clear hfr;generalize af fr=ee;clear fr;refine zQ 4 ?_
   cases mm with
   |zero=>
    have fJ:decide ((i:Int)<n.mn)=false:=by rw[decide_eq_false_iff_not];omega
    refine qq<|qE rfl (by rw[fJ]) ?_;simp only[gZ,List.append_nil] at oC;rw[oC] at hH;refine zQ 1 ?_;exact⟨cd,dk,_,rfl,hH⟩
   |succ mm=>
    have fJ:decide ((i:Int)<n.mn)=true:=by rw[decide_eq_true_eq];omega
    rw[Nat.succ_mul] at hcl;refine qq<|qD rfl (by rw[fJ]) ?_;refine zQ 6 ?_;obtain⟨_,st,aF,rfl,cd,dk,hH⟩:=ih t (by omega) hF yL kU hsz xC rI (by omega) ⟨cd,dk,hH⟩;refine qv aF ?_;refine zQ 5 ?_;exact⟨mm,by omega,⟨i+1,cd,dk,aP++aN t aP.length,rfl,hH,by omega,by rw[List.length_append,Bo,List.append_assoc];exact oC,by rw[List.length_append,Bo];omega⟩⟩
  ·refine zQ 1 ?_;have hz0:t.sz=0:=by omega
   have hR0:gZ (aN t) t.sz n.mn.toNat code.length=[]:=su (fun b=>by rw[Bo,hz0]) _ _ _;exact⟨cd,dk,_,rfl,(by rw[hR0,List.append_nil];exact hH)⟩
 ·rintro fr st ⟨cd,dk,tmp,hfr,hH⟩;rw[hfr];clear hfr;generalize af fr=ee;clear fr;have LF:(code++gZ (aN t) t.sz n.mn.toNat code.length).length=code.length+n.mn.toNat*t.sz:=by rw[List.length_append,hRl]
  unfold tO;rw[←LF];rw[←LF] at hb1
  have hb2:if n.mx=-1 then(code++gZ (aN t) t.sz n.mn.toNat code.length).length+t.sz+2≤1000000 else(code++gZ (aN t) t.sz n.mn.toNat code.length).length+(n.mx.toNat-n.mn.toNat)*(t.sz+1)≤1000000:=by
   rw[LF];split
   ·rename_i h;rw[if_pos h] at hb;omega
   ·rename_i h;rw[if_neg h] at hb;omega
  have uK:∀X:List aT,code++(gZ (aN t) t.sz n.mn.toNat code.length++X)=code++gZ (aN t) t.sz n.mn.toNat code.length++X:=fun X=>by rw[List.append_assoc]
  simp only[apply_ite (fun X:List aT=>code++X),uK];clear uK LF;generalize code++gZ (aN t) t.sz n.mn.toNat code.length=cR at*;refine zQ 7 ?_
  by_cases CM:n.mx=-1
  ·rw[if_pos CM];rw[if_pos CM] at hb2;refine qD rfl (by simp[CM]) ?_;refine zQ 3 ?_;refine ae.go (d:=.agg [.int .i64 2,.int .i64 0,.int .i64 0,.nul]) (st1:=_) rfl rfl rfl (by dsimp only[Fr.put,u1,u2]<;>rfl) ?_;have hH:=hH.dU 2;obtain⟨_,st,aF,rfl,cd,dk,hH⟩:=ga (rs:=[]) hF (by omega) hH;refine qv aF ?_;refine zQ 2 ?_;have mE:(cR++[du 2 0 0 []]).length=cR.length+1:=by simp
   refine zQ 4 ?_;obtain⟨_,st,aF,rfl,cd,dk,hH⟩:=ih t (by omega) hF yL kU hsz xC rI (by omega) ⟨cd,dk,hH⟩;refine qv aF ?_;refine zQ 1 ?_;rw[mE] at hH;have nL:(cR++[du 2 0 0 []]++aN t (cR.length+1)).length=cR.length+1+t.sz:=by rw[List.length_append,mE,Bo]
   refine zQ 4 ?_;refine ae.go (d:=.agg [.int .i64 3,.int .i64 (cR.length:Nat),.int .i64 0,.nul]) (st1:=_) rfl rfl rfl (by dsimp only[Fr.put,u1,u2]<;>rfl) ?_;have hH:=hH.dU 2;obtain⟨_,st,aF,rfl,cd,dk,hH⟩:=ga (rs:=[]) hF (by omega) hH;refine qv aF ?_;refine zQ 1 ?_
   have Io:(cR++[du 2 0 0 []]++aN t (cR.length+1)++[du 3 (cR.length:Nat) 0 []])[cR.length]?=some (du 2 0 0 []):=by
    rw[List.append_assoc,List.append_assoc];exact pe _ _ _
   have D2:(cR++[du 2 0 0 []]++aN t (cR.length+1)++[du 3 (cR.length:Nat) 0 []]).length=cR.length+t.sz+2:=by rw[List.length_append,nL];simp only[List.length_cons,List.length_nil];omega
   have FZ:(cR++[du 2 0 0 []]++aN t (cR.length+1)++[du 3 (cR.length:Nat) 0 []]).set cR.length (n9 cR.length (cR.length+t.sz+2) n.lz)=cR++(n9 cR.length (cR.length+t.sz+2) n.lz::(aN t (cR.length+1)++[lv cR.length])):=by
    rw[List.append_assoc,List.append_assoc];exact o4 _ _ _ _
   generalize cR++[du 2 0 0 []]++aN t (cR.length+1)++[du 3 (cR.length:Nat) 0 []]=Ej at*;refine zQ 8 ?_;refine ae.BN hH rfl (ev rfl) (by exact aV) rfl (by dsimp only[Fr.put,u1,u2]<;>rfl) ?_;simp only[List.length_map,List.length_append,List.length_cons,List.length_nil];refine zQ 2 ?_;obtain⟨_,st,aF,rfl,hH⟩:=pA (at_:=cR.length) (over:=Ej.length) (lz:=n.lz) Io (by omega) hH;refine qv aF ?_;refine zQ 1 ?_;rw[D2,FZ] at hH;refine ag.ret ⟨rx,_,_,_,rfl,rfl,?_⟩;exact⟨rfl,cd,dk,hH.erase 4⟩
  ·rw[if_neg CM];rw[if_neg CM] at hb2;refine qE rfl (by simp[CM]) ?_;refine zQ 1 ?_;obtain⟨a,ha⟩:∃a:Nat,n.mn=(a:Int):=Int.eq_ofNat_of_zero_le Cc.1;obtain⟨b,hb3⟩:∃b:Nat,n.mx=(b:Int):=Int.eq_ofNat_of_zero_le (by omega);have NV:n.mx.toNat-n.mn.toNat=b-a:=by omega
   rw[NV] at hb2⊢;refine zQ 11 ?_;refine ae.kQ (z:=((b-a:Nat):Int)) rfl (ev rfl) (ev rfl) (by(try simp only[List.length_reverse,List.length_cons,List.length_nil,List.length_append,List.length_map,List.length_set]);rw[wrap_i64 (by omega) (by omega)]<;>omega) (by dsimp only[Fr.put,u1,u2]<;>rfl) ?_;refine zQ 2 ?_;have hH:Has N S st (.box k (.mem 0 false [cd,nd,zd,ed])::.deep dk cd 4 (cR.map bS)::.aD zd 1 (Z.map az)::.aD ed 1 (E.map az)::.aD .nul 1 (([]:List Nat).map j6)::.box k4 (.mem 0 false (aE n))::H):=(hH.dU 1).Fj;refine zQ 1 ?_;refine ag.loop (fun mm fr st=>∃(i:Nat) (cd jd:D) (dk:Nat→Prop) (aP:List aT) (js:List Nat),fr.clean=⟨78,[.ptr k 0 0,.int .i64 (at_:Nat),af fr 2,af fr 3,.ptr k4 0 0,.int .i64 ((at_+1:Nat):Int),af fr 6,jd,af fr 8,af fr 9,af fr 10,af fr 11,af fr 12,af fr 13,af fr 14,af fr 15,af fr 16,af fr 17,af fr 18,af fr 19,af fr 20,af fr 21,af fr 22,af fr 23,af fr 24,af fr 25,af fr 26,af fr 27,af fr 28,af fr 29,af fr 30,af fr 31,af fr 32,af fr 33,af fr 34,af fr 35,af fr 36,af fr 37,af fr 38,af fr 39,af fr 40,af fr 41,af fr 42,af fr 43,af fr 44,af fr 45,af fr 46,af fr 47,af fr 48,af fr 49,af fr 50,af fr 51,af fr 52,af fr 53,af fr 54,af fr 55,af fr 56,af fr 57,af fr 58,af fr 59,af fr 60,af fr 61,.int .i64 ((b-a:Nat):Int),.int .i64 (i:Nat),af fr 64,af fr 65,af fr 66,af fr 67,af fr 68,af fr 69,af fr 70,af fr 71,af fr 72,af fr 73,af fr 74,af fr 75,af fr 76,af fr 77],[]⟩∧Has N S st (.box k (.mem 0 false [cd,nd,zd,ed])::.deep dk cd 4 (aP.map bS)::.aD zd 1 (Z.map az)::.aD ed 1 (E.map az)::.aD jd 1 (js.map j6)::.box k4 (.mem 0 false (aE n))::H)∧(i+mm=b-a)∧(aP++gN (fun _=>du 2 0 0 []) (aN t) t.sz mm aP.length=cR++gN (fun _=>du 2 0 0 []) (aN t) t.sz (b-a) cR.length)∧(js++vX t.sz mm aP.length=vX t.sz (b-a) cR.length)∧(aP.length+mm*(t.sz+1)=cR.length+(b-a)*(t.sz+1))∧(js.length=i)) (b-a) ?_ ?_
   ·exact⟨0,cd,.nul,dk,cR,[],rfl,hH,by omega,rfl,rfl,rfl,rfl⟩
   rintro mm fr st ⟨i,cd,jd,dk,aP,js,hfr,hH,hi,ic,hjs,hcl,hjl⟩;rw[hfr];clear hfr;generalize af fr=ee;clear fr;refine zQ 4 ?_
   cases mm with
   |zero=>
    have fJ:decide ((i:Int)<((b-a:Nat):Int))=false:=by rw[decide_eq_false_iff_not];omega
    refine qq<|qE rfl (by rw[fJ]) ?_;refine zQ 4 ?_;refine qn ?_ (hR:=hH.rows eo);simp only[List.length_map];refine zQ 2 ?_;simp only[gN,vX,List.append_nil] at ic hjs;rw[ic] at hH;obtain⟨wS,F3⟩:=ny (sp:=fun s=>n9 s (cR.length+(b-a)*(t.sz+1)) n.lz) Bo (i0:=du 2 0 0 []) (b-a) cR.length cR [] rfl;simp only[List.append_nil] at wS F3;have Ja:(cR++gN (fun _=>du 2 0 0 []) (aN t) t.sz (b-a) cR.length).length=cR.length+(b-a)*(t.sz+1):=by rw[List.length_append,mg Bo]
    rw[←hjs] at wS F3;rw[←wS];clear wS ic;generalize cR++gN (fun _=>du 2 0 0 []) (aN t) t.sz (b-a) cR.length=C0 at*;generalize cR.length+(b-a)*(t.sz+1)=e at*;refine zQ 1 ?_;refine ag.loop (fun mm fr st=>∃(q:Nat) (C:List aT),fr.clean=⟨78,[.ptr k 0 0,af fr 1,af fr 2,af fr 3,.ptr k4 0 0,af fr 5,af fr 6,af fr 7,af fr 8,af fr 9,af fr 10,af fr 11,af fr 12,af fr 13,af fr 14,af fr 15,af fr 16,af fr 17,af fr 18,af fr 19,af fr 20,af fr 21,af fr 22,af fr 23,af fr 24,af fr 25,af fr 26,af fr 27,af fr 28,af fr 29,af fr 30,af fr 31,af fr 32,af fr 33,af fr 34,af fr 35,af fr 36,af fr 37,af fr 38,af fr 39,af fr 40,af fr 41,af fr 42,af fr 43,af fr 44,af fr 45,af fr 46,af fr 47,af fr 48,af fr 49,af fr 50,af fr 51,af fr 52,af fr 53,af fr 54,af fr 55,af fr 56,af fr 57,af fr 58,af fr 59,af fr 60,af fr 61,af fr 62,af fr 63,af fr 64,af fr 65,af fr 66,af fr 67,af fr 68,af fr 69,af fr 70,af fr 71,af fr 72,af fr 73,af fr 74,jd,.int .i64 (js.length:Nat),.int .i64 (q:Nat)],[]⟩∧Has N S st (.box k (.mem 0 false [cd,nd,zd,ed])::.deep dk cd 4 (C.map bS)::.aD zd 1 (Z.map az)::.aD ed 1 (E.map az)::.aD jd 1 (js.map j6)::.box k4 (.mem 0 false (aE n))::H)∧(q+mm=js.length)∧(gX (fun s=>n9 s e n.lz) C (js.drop q)=gX (fun s=>n9 s e n.lz) C0 js)∧(∀p∈js,∃x y:Int,C[p]?=some (du 2 x y []))∧(C.length=e)) (js.length) ?_ ?_
    ·exact⟨0,C0,rfl,hH,by omega,rfl,fun p hp=>⟨_,_,F3 p hp⟩,Ja⟩
    rintro mm fr st ⟨q,C,hfr,hH,hq,fh,hall,K1⟩;rw[hfr];clear hfr;generalize af fr=ee;clear fr;refine zQ 5 ?_;refine zP (fun hlt=>?_) fun hlt=>?_
    ·refine zQ 1 ?_;have I5:q<js.length:=by omega
     obtain⟨p,hp⟩:∃p,js[q]?=some p:=⟨js[q]'I5,List.getElem?_eq_getElem _⟩
     obtain⟨x,y,hv⟩:=hall p (List.mem_of_getElem? hp);have gJ:=wh hp;have ka:=cQ hv;refine zQ 4 ?_;refine qi hH eo fun Q3 MU=>?_;refine zQ 10 ?_;refine ae.BN hH rfl (ev rfl) (by exact aV) rfl (aa rfl _) ?_;simp only[List.length_map];refine zQ 2 ?_;obtain⟨_,st,aF,rfl,hH⟩:=pA (at_:=p) (over:=C.length) (lz:=n.lz) hv (by omega) hH;refine qv aF ?_;refine zQ 5 ?_
     have BA:js.drop q=p::js.drop (q+1):=by
      rw[List.drop_eq_getElem_cons I5]
      congr 1
      exact Option.some.inj ((List.getElem?_eq_getElem _).symm.trans hp)
     refine⟨mm-1,by omega,⟨q+1,C.set p (n9 p e n.lz),rfl,(by rw[K1] at hH;exact hH),by omega,by rw[BA] at fh;exact fh,?_,by rw[List.length_set];exact K1⟩⟩;intro p' uC
     by_cases hpp:p'=p
     ·subst hpp;obtain⟨x',y',JU⟩:=Cy p' e n.lz;exact⟨x',y',by rw[List.getElem?_set_self ka,JU]⟩
     ·rw[List.getElem?_set_ne (fun e=>hpp e.symm)];exact hall p' uC
    ·refine zQ 1 ?_;refine⟨fun i h=>(by cases h),_,_,_,rfl,rfl,?_⟩;have Bs:q=js.length:=by omega
     rw[Bs,List.drop_length] at fh;have fh:C=gX (fun s=>n9 s e n.lz) C0 js:=fh;rw[←fh];exact⟨rfl,cd,dk,(hH.erase 5).erase 4⟩
   |succ mm=>
    have fJ:decide ((i:Int)<((b-a:Nat):Int))=true:=by rw[decide_eq_true_eq];omega
    rw[Nat.succ_mul] at hcl;refine qq<|qD rfl (by rw[fJ]) ?_;refine zQ 7 ?_;refine ae.go (d:=.agg [.int .i64 2,.int .i64 0,.int .i64 0,.nul]) (st1:=_) rfl rfl rfl (by dsimp only[Fr.put,u1,u2]<;>rfl) ?_;have hH:=hH.dU 2;obtain⟨_,st,aF,rfl,cd,dk,hH⟩:=ga (rs:=[]) hF (by omega) hH;refine qv aF ?_;refine qh (s:=1) (vs:=[_]) hH fun k69 st SG hH=>?_;dsimp only[u2,u1,u3,u4,setMany,u5,u6,D.cells,Nat.reduceAdd,bS,aE,az,j6] at hH;refine qP hH fG (hH.rows aG) fun QN st hH=>?_;dsimp only[u2,u1,u3,u4,setMany,u5,u6,D.cells,Nat.reduceAdd,bS,aE,az,j6] at hH;refine zQ 2 ?_;have hH:=hH.drop 1;have mE:(aP++[du 2 0 0 []]).length=aP.length+1:=by simp
    refine zQ 3 ?_;obtain⟨_,st,aF,rfl,cd,dk,hH⟩:=ih t (by omega) hF yL kU hsz xC rI (by omega) ⟨cd,dk,hH⟩;refine qv aF ?_;refine zQ 1 ?_;rw[mE] at hH;have nL:(aP++[du 2 0 0 []]++aN t (aP.length+1)).length=aP.length+1+t.sz:=by rw[List.length_append,mE,Bo]
    refine zQ 4 ?_;exact⟨mm,by omega,⟨i+1,cd,QN,dk,aP++[du 2 0 0 []]++aN t (aP.length+1),js++[aP.length],rfl,(by rw[List.map_append (f:=j6)];exact hH),by omega,by rw[nL,←ic];simp only[gN,List.append_assoc,List.cons_append,List.nil_append],by rw[nL,←hjs];simp only[vX,List.append_assoc,List.cons_append,List.nil_append],by rw[nL];omega,by rw[List.length_append,hjl];rfl⟩⟩
def bu (fr:Go.V.Fr) (k:Nat):Go.V.D:=Go.V.nth .aY fr.loc k
theorem xq (t:Tr):jj (.cons t .nil)=aN t:=by
 funext b;simp only[jj,List.append_nil]
theorem xX (t:Tr):(aJ.cons t .nil).sz=t.sz:=by simp only[aJ.sz,Nat.add_zero]
theorem FF {l:List bn} (oP:l.length≤1048576) (hi:∀n∈l,n.ok):∀(m:Nat) (t:Tr),t.flat.length≤m→ru l t:=by
 intro m
 induction m with
 |zero=>intro t h;have:=t.jg;omega
 |succ m ih=>
  rintro⟨n,ks⟩ hm N k S s0 H nd zd ed code Z E at_ hF yL kU hsz xC eC hb hM;have TG:=hM;obtain⟨cd,dk,hH⟩:=hM;simp only[Tr.ok] at eC;obtain⟨rz,sW⟩:=eC;simp only[Tr.flat,List.length_cons] at hm;have hle:=kU.le (by simp[Tr.flat]);simp only[Tr.flat] at kU hle;simp only[List.length_cons] at hle;simp only[Tr.zs] at hsz;simp only[Tr.es] at xC;simp only[Tr.sz] at hb;have hn:=kU.head;have Ki:=hi n (List.mem_of_getElem? hn);have xD:=Ki.1.arg N S;have B':=Ki.2.1;have gJ:=kJ hn;have Bv:=rz.1;have gU:=aJ.pX ks;have yR:=fun b=>mP ks b sW;refine Ev.kT rfl O1 rfl rfl rfl ?_;refine zE ?_;change ag _ _ _ _ s0 _;have hc:=yL.arg N S;refine zQ 7 ?_;refine qr fun Rj M_=>?_;refine ae.cJ rfl (ev rfl) (by assumption) rfl (by dsimp only[Fr.put,u1,u2]<;>rfl) ?_;refine qa hH fun k4 st I_ hH=>?_;refine qS hH aG fun st hH=>?_;dsimp only[u2,u1,u3,u4,setMany,u5,u6,D.cells,Nat.reduceAdd,bS,aE,az,j6] at hH;refine zQ 1 ?_;have hH:Has N S st (.box k (.mem 0 false [cd,nd,zd,ed])::.deep dk cd 4 (code.map bS)::.aD zd 1 (Z.map az)::.aD ed 1 (E.map az)::.box k4 (.mem 0 false (aE n))::H):=hH.Fj;refine zQ 11 ?_;refine zI (fun q2=>?_) fun q2=>?_
  ·have yS:aN (.mk n ks) code.length=[du 1 0 0 n.rs]:=by simp only[aN,if_pos q2]
   rw[yS];have hz:bC n ks.sz ks.len=1:=by unfold bC;rw[if_pos (.inl q2)]
   have hH:=hH.dU 2;refine zQ 4 ?_;refine qP hH aG (Arg.rows (by assumption) hH) fun PI st hH=>?_;dsimp only[u2,u1,u3,u4,setMany,u5,u6,D.cells,Nat.reduceAdd,bS,aE,az,j6] at hH;refine ae.gE (qs:=[(0,_),(3,_)]) rfl rfl rfl rfl ⟨rfl,(ev rfl),(by rfl),rfl,(ev rfl),(by exact hH.eO (by exact aG)),trivial⟩ (by intro q hq;simp only[List.mem_cons,List.not_mem_nil,or_false] at hq;rcases hq with rfl|rfl<;>exact⟨rfl,by exact Nat.le_of_ble_eq_true rfl⟩) (by show List.foldl _ [_,_,_,_] _=_;dsimp only[List.foldl_cons,List.foldl_nil,u2,u1]<;>rfl) (by dsimp only[Fr.put,u1,u2]<;>rfl) ?_;obtain⟨_,st,aF,rfl,cd,dk,hH⟩:=ga (rs:=n.rs) hF (by omega) hH;refine qv aF ?_;refine zQ 1 ?_;refine⟨fun i h=>(by cases h),_,_,_,rfl,rfl,?_⟩;exact⟨rfl,cd,dk,hH.erase 4⟩
  refine zQ 5 ?_;refine zI (fun q7=>?_) fun q7=>?_
  ·have yS:aN (.mk n ks) code.length=[du 5 0 0 []]:=by simp only[aN,if_neg q2,if_pos q7]
   rw[yS];refine zQ 2 ?_;refine ae.go (d:=.agg [.int .i64 5,.int .i64 0,.int .i64 0,.nul]) (st1:=_) rfl rfl rfl (by dsimp only[Fr.put,u1,u2]<;>rfl) ?_;have hH:=hH.dU 2;obtain⟨_,st,aF,rfl,cd,dk,hH⟩:=ga (rs:=[]) hF (by omega) hH;refine qv aF ?_;refine zQ 1 ?_;refine⟨fun i h=>(by cases h),_,_,_,rfl,rfl,?_⟩;exact⟨rfl,cd,dk,hH.erase 4⟩
  refine zQ 5 ?_;refine zI (fun q8=>?_) fun q8=>?_
  ·have yS:aN (.mk n ks) code.length=[du 6 0 0 []]:=by simp only[aN,if_neg q2,if_neg q7,if_pos q8]
   rw[yS];refine zQ 2 ?_;refine ae.go (d:=.agg [.int .i64 6,.int .i64 0,.int .i64 0,.nul]) (st1:=_) rfl rfl rfl (by dsimp only[Fr.put,u1,u2]<;>rfl) ?_;have hH:=hH.dU 2;obtain⟨_,st,aF,rfl,cd,dk,hH⟩:=ga (rs:=[]) hF (by omega) hH;refine qv aF ?_;refine zQ 1 ?_;refine⟨fun i h=>(by cases h),_,_,_,rfl,rfl,?_⟩;exact⟨rfl,cd,dk,hH.erase 4⟩
  refine zQ 5 ?_;refine zI (fun q3=>?_) fun q3=>?_
  ·have yS:aN (.mk n ks) code.length=jj ks code.length:=by simp only[aN,if_neg q2,if_neg q7,if_neg q8,if_pos q3]
   rw[yS];have hz:bC n ks.sz ks.len=ks.sz:=by unfold bC;rw[if_neg (by omega),if_neg (by omega),if_neg (by omega),if_neg (by omega)]
   rw[hz] at hb;refine zQ 13 ?_;refine ag.loop (fun mm fr st=>∃(i j:Nat) (rest:aJ) (cd:D) (dk:Nat→Prop) (aP:List aT),fr.clean=⟨40,[.ptr k 0 0,.int .i64 (at_:Nat),bu fr 2,bu fr 3,.ptr k4 0 0,.int .i64 (j:Nat),bu fr 6,bu fr 7,bu fr 8,bu fr 9,bu fr 10,bu fr 11,bu fr 12,bu fr 13,bu fr 14,bu fr 15,bu fr 16,bu fr 17,bu fr 18,bu fr 19,bu fr 20,bu fr 21,bu fr 22,bu fr 23,bu fr 24,bu fr 25,bu fr 26,bu fr 27,bu fr 28,bu fr 29,bu fr 30,bu fr 31,bu fr 32,bu fr 33,bu fr 34,bu fr 35,bu fr 36,bu fr 37,.int .i64 n.kids,.int .i64 (i:Nat)],[]⟩∧Has N S st (.box k (.mem 0 false [cd,nd,zd,ed])::.deep dk cd 4 (aP.map bS)::.aD zd 1 (Z.map az)::.aD ed 1 (E.map az)::.box k4 (.mem 0 false (aE n))::H)∧(mm=rest.len)∧(i+rest.len=ks.len)∧(fK l j rest.flat)∧(fK Z j rest.zs)∧(fK E j (rest.es j))∧(rest.ok)∧(aP++jj rest aP.length=code++jj ks code.length)∧(aP.length+rest.sz=code.length+ks.sz)∧(rest.flat.length≤m)) (ks.len) ?_ ?_
   ·exact⟨0,at_+1,ks,cd,dk,code,rfl,hH,rfl,by omega,kU.tail,hsz.tail,xC.tail,sW,rfl,rfl,by omega⟩
   rintro mm fr st ⟨i,j,rest,cd,dk,aP,hfr,hH,yM,uI,oN,wQ,oM,jM,ic,hcl,hrm⟩;rw[hfr];clear hfr;generalize bu fr=ee;clear fr;refine zQ 4 ?_
   cases rest with
   |nil=>
    simp only[aJ.len] at uI;simp only[jj,List.append_nil] at ic;have fJ:decide ((i:Int)<n.kids)=false:=by rw[decide_eq_false_iff_not];omega
    refine qq<|qE rfl (by rw[fJ]) ?_;refine zQ 1 ?_;refine⟨fun i h=>(by cases h),_,_,_,rfl,rfl,?_⟩;rw[←ic];exact⟨rfl,cd,dk,hH.erase 4⟩
   |cons t ts=>
    simp only[aJ.len] at uI yM;simp only[aJ.sz] at hcl;simp only[aJ.flat,List.length_append] at oN hrm;simp only[aJ.zs] at wQ;simp only[aJ.es] at oM;simp only[aJ.ok] at jM;simp only[jj] at ic;have HI:=t.iH;have GP:=t.iQ j;have Bo:=bW t aP.length jM.1;have MM:=iA (Aq oM.left);have fJ:decide ((i:Int)<n.kids)=true:=by rw[decide_eq_true_eq];omega
    refine qq<|qD rfl (by rw[fJ]) ?_;refine zQ 7 ?_;obtain⟨_,st,aF,rfl,cd,dk,hH⟩:=ih t (by omega) hF yL oN.left wQ.left oM.left jM.1 (by omega) ⟨cd,dk,hH⟩;refine qv aF ?_;refine zQ 7 ?_;refine qi hH dw fun L_ HV=>?_;refine zQ 7 ?_;exact⟨mm-1,by omega,⟨i+1,j+t.flat.length,ts,cd,dk,aP++aN t aP.length,rfl,hH,by omega,by omega,oN.right,by rw[←HI];exact wQ.right,by rw[←GP];rw[←GP] at oM;exact oM.right,jM.2,by rw[List.length_append,Bo,List.append_assoc];exact ic,by rw[List.length_append,Bo];omega,by omega⟩⟩
  refine zQ 5 ?_;refine zI (fun q4=>?_) fun q4=>?_
  ·have yS:aN (.mk n ks) code.length=fz (lv (code.length+bC n ks.sz ks.len)) ks code.length:=by simp only[aN,if_neg q2,if_neg q7,if_neg q8,if_neg q3,if_pos q4]
   rw[yS];refine zQ 3 ?_;obtain⟨_,st,aF,rfl,cd,dk,hH⟩:=IM oP ih q4 (by omega) rz sW hF yL kU hsz.tail xC.tail hb ⟨cd,dk,hH⟩;refine qv aF ?_;refine zQ 1 ?_;refine⟨fun i h=>(by cases h),_,_,_,rfl,rfl,?_⟩;exact⟨rfl,cd,dk,hH.erase 4⟩
  refine zQ 5 ?_;refine zI (fun q5=>?_) fun q5=>?_
  ·have lL:ks.len=1:=by
    obtain⟨_,hq⟩:=rz;omega
   obtain⟨t,rfl⟩:=aJ.zZ lL;have yS:aN (.mk n (.cons t .nil)) code.length=tO n (aN t) t.sz code.length:=by simp only[aN,if_neg q2,if_neg q7,if_neg q8,if_neg q3,if_neg q4,if_pos q5,xq,xX]
   rw[yS];rw[lL] at rz hb;rw[xX] at hb;simp only[aJ.flat,aJ.zs,aJ.es,aJ.ok,List.append_nil] at*;refine zQ 3 ?_;obtain⟨_,st,aF,rfl,cd,dk,hH⟩:=AW oP ih q5 (by omega) rz sW.1 hF yL kU hsz.tail xC.tail hb ⟨cd,dk,hH⟩;refine qv aF ?_;refine zQ 1 ?_;refine⟨fun i h=>(by cases h),_,_,_,rfl,rfl,?_⟩;exact⟨rfl,cd,dk,hH.erase 4⟩
  refine zQ 5 ?_;refine zI (fun q6=>?_) fun q6=>?_
  ·have lL:ks.len=1∧1≤n.cap∧n.cap≤4:=by
    obtain⟨_,hq⟩:=rz;omega
   obtain⟨t,rfl⟩:=aJ.zZ lL.1;have yS:aN (.mk n (.cons t .nil)) code.length=du 4 (2*n.cap) 0 []::(aN t (code.length+1)++[du 4 (2*n.cap+1) 0 []]):=by simp only[aN,if_neg q2,if_neg q7,if_neg q8,if_neg q3,if_neg q4,if_neg q5,if_pos q6,xq]
   rw[yS];have hz:bC n (aJ.cons t .nil).sz (aJ.cons t .nil).len=t.sz+2:=by unfold bC;rw[if_neg (by omega),if_neg (by omega),if_pos q6,xX]
   rw[hz] at hb;simp only[aJ.flat,aJ.zs,aJ.es,aJ.ok,List.append_nil] at kU hsz xC sW hm;refine zQ 5 ?_;refine ae.yt (z:=(2*n.cap)) rfl (ev rfl) (ev rfl) (by(try simp only[List.length_reverse,List.length_cons,List.length_nil,List.length_append,List.length_map,List.length_set]);rw[wrap_i64 (by omega) (by omega)]<;>omega) (aa rfl _) ?_;refine ae.go (d:=.agg [.int .i64 4,.int .i64 (2*n.cap),.int .i64 0,.nul]) (st1:=_) rfl rfl rfl (aa rfl _) ?_;have hH:=hH.dU 2;obtain⟨_,st,aF,rfl,cd,dk,hH⟩:=ga (rs:=[]) hF (by omega) hH;refine qv aF ?_;refine zQ 1 ?_;have mE:(code++[du 4 (2*n.cap) 0 []]).length=code.length+1:=by simp
   refine zQ 5 ?_;obtain⟨_,st,aF,rfl,cd,dk,hH⟩:=ih t (by omega) hF yL kU.tail hsz.tail xC.tail sW.1 (by omega) ⟨cd,dk,hH⟩;refine qv aF ?_;refine zQ 1 ?_;rw[mE] at hH;have nL:(code++[du 4 (2*n.cap) 0 []]++aN t (code.length+1)).length=code.length+1+t.sz:=by rw[List.length_append,mE,bW t _ sW.1]
   refine zQ 4 ?_;refine ae.yt (z:=(2*n.cap)) rfl (ev rfl) (ev rfl) (by(try simp only[List.length_reverse,List.length_cons,List.length_nil,List.length_append,List.length_map,List.length_set]);rw[wrap_i64 (by omega) (by omega)]<;>omega) (aa rfl _) ?_;refine ae.cS (z:=(2*n.cap+1)) rfl (ev rfl) (ev rfl) (by(try simp only[List.length_reverse,List.length_cons,List.length_nil,List.length_append,List.length_map,List.length_set]);rw[wrap_i64 (by omega) (by omega)]<;>omega) (aa rfl _) ?_;refine ae.go (d:=.agg [.int .i64 4,.int .i64 (2*n.cap+1),.int .i64 0,.nul]) (st1:=_) rfl rfl rfl (aa rfl _) ?_;have hH:=hH.dU 2;obtain⟨_,st,aF,rfl,cd,dk,hH⟩:=ga (rs:=[]) hF (by omega) hH;refine qv aF ?_;refine zQ 1 ?_;have gR:code++[du 4 (2*n.cap) 0 []]++aN t (code.length+1)++[du 4 (2*n.cap+1) 0 []]=code++du 4 (2*n.cap) 0 []::(aN t (code.length+1)++[du 4 (2*n.cap+1) 0 []]):=by simp
   rw[gR] at hH;refine⟨fun i h=>(by cases h),_,_,_,rfl,rfl,?_⟩;exact⟨rfl,cd,dk,hH.erase 4⟩
  ·refine zQ 1 ?_;have yS:aN (.mk n ks) code.length=[]:=by simp only[aN,if_neg q2,if_neg q7,if_neg q8,if_neg q3,if_neg q4,if_neg q5,if_neg q6]
   rw[yS,List.append_nil];refine⟨fun i h=>(by cases h),_,_,_,rfl,rfl,?_⟩;exact⟨rfl,cd,dk,hH.erase 4⟩
def hY (fr:Go.V.Fr) (k:Nat):Go.V.D:=Go.V.nth .aY fr.loc k
def B6 (x:Nl):List D:=[x.d]
theorem Hu {l:List Nl} {i:Nat} {q:Nl} (h:l[i]?=some q):(l.map B6)[i]?=some (B6 q):=by rw[List.getElem?_map,h];rfl
def mL (R:mY):D:=.tup [(Fu R.code R.bp).d,.int .i64 R.e,.int .i64 R.w]
theorem zy {es M:List Int} (h:M.length=es.length):ma es 0 M=M:=by
 unfold ma;simp[h]
theorem BS (r:Nat) (c:List aT) (s:List Int):rj [] r c s=⟨c,s,0,0⟩:=by simp only[rj]
theorem y5 {s0:St} {x:D} {rules:List Nl} (hx:V.Rows s0 1 x (rules.map B6)) (hr:∀r∈rules,r.ok) (hl:rules.length≤1048576):Ev pv 12 [x] s0 (mL (cx (rules.map (·.l)))) s0:=by
 refine Ev.jL rfl Pj rfl rfl rfl ?_;refine zE ?_;obtain⟨aW,hF,hH⟩:=ri s0;generalize ai .ro s0=S at*;have hx:=Arg.of hx aW;have hfz:∀(st:St) (e w:Int),aB st s0.bs.length false 16 (rC [.agg [.nul,.nul],.int .i64 e,.int .i64 w])=some (mL ⟨[],[],e,w⟩):=fun st e w=>rfl;refine zQ 2 ?_;refine qa hH fun k2 st hk2 hH=>?_;refine zQ 7 ?_;refine qn ?_;simp only[List.length_map];refine zQ 2 ?_;unfold cx
 by_cases h8:8<rules.length
 ·rw[if_pos (by rw[List.length_map];exact h8)];refine qD rfl (by simp;omega) ?_;refine zQ 2 ?_;refine ae.go (d:=.agg [.nul,.nul]) (st1:=_) rfl rfl rfl (by dsimp only[Fr.put,u1,u2]<;>rfl) ?_;refine qS hH aG fun st hH=>?_;dsimp only[u2,u1,u3,u4,setMany,u5,u6,D.cells,Nat.reduceAdd,bS,aE,az,B6] at hH;refine zQ 3 ?_;refine ag.ret ⟨rx,_,hH.kC rfl aG rfl rfl rfl,rl aW hH (hfz _ 13 8)⟩
 ·rw[if_neg (by rw[List.length_map];exact h8)];refine qE rfl (by simp;omega) ?_;refine zQ 3 ?_;refine ae.go (d:=.agg [.nul,.nul,.nul,.nul]) (st1:=_) rfl rfl rfl (by dsimp only[Fr.put,u1,u2]<;>rfl) ?_;refine qb hH fun k14 st KC hH=>?_;refine zQ 10 ?_;refine qn ?_;simp only[List.length_map];refine zQ 2 ?_;have hH:Has s0.bs.length S st (.aD .nul 1 (([]:List Int).map az)::.deep (fun _=>False) .nul 4 (([]:List aT).map bS)::.box k14 (.mem 0 false [.nul,.nul,.nul,.nul])::[.box k2 (.mem 0 false [.nul,.nul])]):=(hH.JC 4).dU 1;refine zQ 1 ?_;refine ag.loop (fun mm fr st=>∃(r:Nat) (cd nd zd ed sd:D) (dk:Nat→Prop) (code:List aT) (bp:List Int),fr.clean=⟨18,[hY fr 0,hY fr 1,.ptr k2 0 0,.int .i64 0,.int .i64 0,.ptr k14 0 0,sd,hY fr 7,hY fr 8,hY fr 9,hY fr 10,hY fr 11,hY fr 12,hY fr 13,hY fr 14,x,.int .i64 (rules.length:Nat),.int .i64 (r:Nat)],[]⟩∧Has s0.bs.length S st [.aD sd 1 (bp.map az),.deep dk cd 4 (code.map bS),.box k14 (.mem 0 false [cd,nd,zd,ed]),.box k2 (.mem 0 false [.nul,.nul])]∧(r+mm=rules.length)∧(rj ((rules.drop r).map (·.l)) r code bp=rj (rules.map (·.l)) 0 [] [])∧(code.length≤400)∧(bp.length≤r)) (rules.length) ?_ ?_
  ·exact⟨0,.nul,.nul,.nul,.nul,.nul,(fun _=>False),[],[],rfl,hH,by omega,by rw[List.drop_zero],by simp,by simp⟩
  rintro mm fr st ⟨r,cd,nd,zd,ed,sd,dk,code,bp,hfr,hH,P',hX,hcl,hst⟩;rw[hfr];clear hfr;generalize hY fr=ee;clear fr;refine zQ 4 ?_
  by_cases hlt:r<rules.length
  ·obtain⟨q,hq⟩:∃q,rules[r]?=some q:=⟨rules[r]'hlt,List.getElem?_eq_getElem _⟩
   have hqo:=hr q (List.mem_of_getElem? hq);have gJ:=Hu hq
   have BA:rules.drop r=q::rules.drop (r+1):=by
    rw[List.drop_eq_getElem_cons hlt]
    congr 1
    exact Option.some.inj ((List.getElem?_eq_getElem _).symm.trans hq)
   rw[BA,List.map_cons,rj] at hX;refine qq<|qD rfl (by simp;omega) ?_;refine zQ 6 ?_;refine qr fun Jz DJ=>?_;refine zQ 8 ?_;refine qv (sr hqo) ?_;refine zQ 2 ?_
   cases yJ:gD q.l with
   |false=>
    rw[if_pos yJ] at hX;refine zQ 3 ?_;refine ae.go (d:=.agg [.nul,.nul]) (st1:=_) rfl rfl rfl (aa rfl _) ?_;refine qm ?_;refine qS hH dw fun st hH=>?_;dsimp only[u2,u1,u3,u4,setMany,u5,u6,D.cells,Nat.reduceAdd,bS,aE,az,B6] at hH;refine zQ 3 ?_;rw[←hX];refine ag.ret ⟨rx,_,hH.kC rfl dw rfl rfl rfl,rl aW hH (hfz _ 1 r)⟩
   |true=>
    rw[if_neg (by rw[yJ];simp)] at hX;obtain⟨rI,wO⟩:=tG yJ;have Ur:=hqo.c.arg s0.bs.length S;have Uq:=hqo.nl;have w5:=hqo.c;refine zQ 9 ?_;refine qn ?_;simp only[List.length_map];refine ae.GU (s:=1) hH rfl rfl rfl rfl rfl rfl rfl rfl (Nat.le_of_ble_eq_true rfl) (by omega) (fun _=>(aa rfl _)) (fun k33 st Ny hH=>?_);refine qm ?_;refine qn ?_;simp only[List.length_map];refine ae.GU (s:=1) hH rfl rfl rfl rfl rfl rfl rfl rfl (Nat.le_of_ble_eq_true rfl) (by omega) (fun _=>(aa rfl _)) (fun k36 st KA hH=>?_);refine zQ 2 ?_;refine qT hH eo fun st hH=>?_;dsimp only[u2,u1,u3,u4,setMany,u5,u6,D.cells,Nat.reduceAdd,bS,aE,az,B6] at hH;refine zQ 2 ?_;refine qT hH eo fun st hH=>?_;dsimp only[u2,u1,u3,u4,setMany,u5,u6,D.cells,Nat.reduceAdd,bS,aE,az,B6] at hH;refine zQ 2 ?_;refine qT hH eo fun st hH=>?_;dsimp only[u2,u1,u3,u4,setMany,u5,u6,D.cells,Nat.reduceAdd,bS,aE,az,B6] at hH;refine zQ 1 ?_
    have hH:Has s0.bs.length S st (.aD (.win k33 0 0 q.l.length 1) 1 ((List.replicate q.l.length (0:Int)).map az)::.aD (.win k36 0 0 q.l.length 1) 1 ((List.replicate q.l.length (0:Int)).map az)::.aD sd 1 (bp.map az)::.deep dk cd 4 (code.map bS)::.box k14 (.mem 0 false [cd,q.d,.win k33 0 0 q.l.length 1,.win k36 0 0 q.l.length 1])::.box k2 (.mem 0 false [.nul,.nul])::[]):=by
     rw[List.map_replicate];exact hH.front aV
    refine zQ 7 ?_;obtain⟨_,st,aF,rfl,hH⟩:=CA hqo.nl hqo.i hqo.c _ (de q.l) (Nat.le_refl _) rI (at_:=0) (by rw[wO];exact fK.all _) (by simp) hH;refine qv aF ?_;refine zQ 1 ?_;rw[zy (by rw[Tr.iH,wO];simp)] at hH;have hH:=hH.front aV;refine zQ 7 ?_;obtain⟨_,st,aF,rfl,hH⟩:=Gh hqo.nl hqo.i hqo.c _ (de q.l) (Nat.le_refl _) rI (at_:=0) (by rw[wO];exact fK.all _) (by simp) hH;refine qv aF ?_;refine zQ 1 ?_;rw[zy (by rw[Tr.iQ,wO];simp)] at hH;have R0:=iA (zj (fK.all (de q.l).zs));refine zQ 7 ?_;refine ae.BN hH rfl (ev rfl) (by exact dw) rfl (aa rfl _) ?_;simp only[List.length_map];refine zQ 4 ?_;refine qi hH aV fun PO J0=>?_;refine zQ 1 ?_;refine ae.cS (z:=((code.length+min (de q.l).sz 401:Nat):Int)) rfl (ev rfl) (ev rfl) (by(try simp only[List.length_reverse,List.length_cons,List.length_nil,List.length_append,List.length_map,List.length_set]);rw[wrap_i64 (by omega) (by omega)]<;>omega) (aa rfl _) ?_;refine ae.cS (z:=((code.length+min (de q.l).sz 401+3:Nat):Int)) rfl (ev rfl) (ev rfl) (by(try simp only[List.length_reverse,List.length_cons,List.length_nil,List.length_append,List.length_map,List.length_set]);rw[wrap_i64 (by omega) (by omega)]<;>omega) (aa rfl _) ?_;refine zQ 2 ?_
    by_cases hbig:400<code.length+min (de q.l).sz 401+3
    ·rw[if_pos hbig] at hX;have fJ:decide (((code.length+min (de q.l).sz 401+3:Nat):Int)>400)=true:=by rw[decide_eq_true_eq];omega
     refine qD rfl (by rw[fJ]) ?_;refine zQ 2 ?_;refine ae.go (d:=.agg [.nul,.nul]) (st1:=_) rfl rfl rfl (aa rfl _) ?_;refine qm ?_;refine qS hH fG fun st hH=>?_;dsimp only[u2,u1,u3,u4,setMany,u5,u6,D.cells,Nat.reduceAdd,bS,aE,az,B6] at hH;refine zQ 3 ?_;rw[←hX];refine ag.ret ⟨rx,_,hH.kC rfl fG rfl rfl rfl,rl aW hH (hfz _ 12 r)⟩
    ·rw[if_neg hbig] at hX;have fJ:decide (((code.length+min (de q.l).sz 401+3:Nat):Int)>400)=false:=by rw[decide_eq_false_iff_not];omega
     refine qE rfl (by rw[fJ]) ?_;refine zQ 1 ?_;have hH:=hH.front aV;have hH:=hH.front dw;have hH:=hH.front eo;have hH:Has s0.bs.length S st (.box k14 (.mem 0 false [cd,q.d,.win k33 0 0 q.l.length 1,.win k36 0 0 q.l.length 1])::.deep dk cd 4 (code.map bS)::.aD (.win k33 0 0 q.l.length 1) 1 ((de q.l).zs.map az)::.aD (.win k36 0 0 q.l.length 1) 1 (((de q.l).es 0).map az)::.aD sd 1 (bp.map az)::.box k2 (.mem 0 false [.nul,.nul])::[]):=hH;refine zQ 4 ?_;refine ae.go (d:=.agg [.int .i64 4,.int .i64 0,.int .i64 0,.nul]) (st1:=_) rfl rfl rfl (aa rfl _) ?_;have hH:=hH.dU 2;obtain⟨_,st,aF,rfl,cd,dk,hH⟩:=ga (rs:=[]) hF (by omega) hH;refine qv aF ?_;refine qh (s:=1) (vs:=[_]) hH fun k75 st SE hH=>?_;refine ae.dh (s:=1) hH rfl (ev rfl) (ev rfl) (by exact fG) (by exact hH.rows (by exact aG)) rfl rfl rfl rfl rfl rfl rfl ⟨(Nat.le_of_ble_eq_true rfl),(Nat.le_of_ble_eq_true rfl)⟩ (fun _=>(aa rfl _)) (by simp only[List.length_cons,List.length_nil,List.length_map]<;>omega) (by exact .inl hF) (fun QM st hH=>?_);dsimp only[u2,u1,u3,u4,setMany,u5,u6,D.cells,Nat.reduceAdd,bS,aE,az,B6] at hH;refine zQ 2 ?_;have hH:=hH.drop 1;have mE:(code++[du 4 0 0 []]).length=code.length+1:=by simp
     refine zQ 3 ?_;obtain⟨_,st,aF,rfl,cd,dk,hH⟩:=FF hqo.nl hqo.i _ (de q.l) (Nat.le_refl _) hF hqo.c (at_:=0) (by rw[wO];exact fK.all _) (fK.all _) (fK.all _) rI (by omega) ⟨cd,dk,hH⟩;refine qv aF ?_;refine zQ 1 ?_;rw[mE] at hH;have nL:(code++[du 4 0 0 []]++aN (de q.l) (code.length+1)).length=code.length+1+(de q.l).sz:=by rw[List.length_append,mE,bW _ _ rI]
     refine zQ 3 ?_;refine ae.go (d:=.agg [.int .i64 4,.int .i64 1,.int .i64 0,.nul]) (st1:=_) rfl rfl rfl (aa rfl _) ?_;have hH:=hH.dU 2;obtain⟨_,st,aF,rfl,cd,dk,hH⟩:=ga (rs:=[]) hF (by omega) hH;refine qv aF ?_;refine zQ 1 ?_;have D2:(code++[du 4 0 0 []]++aN (de q.l) (code.length+1)++[du 4 1 0 []]).length=code.length+1+(de q.l).sz+1:=by rw[List.length_append,nL];rfl
     refine zQ 3 ?_;refine ae.go (d:=.agg [.int .i64 7,.int .i64 (r:Nat),.int .i64 0,.nul]) (st1:=_) rfl rfl rfl (aa rfl _) ?_;have hH:=hH.dU 2;obtain⟨_,st,aF,rfl,cd,dk,hH⟩:=ga (rs:=[]) hF (by omega) hH;refine qv aF ?_;refine zQ 1 ?_
     have RX:code++[du 4 0 0 []]++aN (de q.l) (code.length+1)++[du 4 1 0 []]++[du 7 (r:Nat) 0 []]=code++sq (de q.l) code.length r:=by
      unfold sq;simp
     rw[RX] at hH;have hH:=(hH.erase 2).erase 2;have hH:=hH.front aV;have hH:=hH.front b8;refine zQ 4 ?_;exact⟨mm-1,by omega,⟨r+1,cd,q.d,.win k33 0 0 q.l.length 1,.win k36 0 0 q.l.length 1,QM,dk,code++sq (de q.l) code.length r,bp++[((code.length:Nat):Int)],rfl,(by rw[List.map_append (f:=az)];exact hH),by omega,hX,by rw[List.length_append,AS rI];omega,by rw[List.length_append];simp only[List.length_cons,List.length_nil];omega⟩⟩
  ·refine qq<|qE rfl (by simp;omega) ?_;refine zQ 1 ?_;rw[List.drop_of_length_le (by omega),List.map_nil,BS] at hX;refine zQ 7 ?_;refine ae.gE (qs:=[(0,_),(1,_)]) rfl rfl rfl rfl ⟨rfl,(ev rfl),(by exact hH.lR (by exact aV)),rfl,(ev rfl),(by exact hH.eO (by exact aG)),trivial⟩ (by intro q hq;simp only[List.mem_cons,List.not_mem_nil,or_false] at hq;rcases hq with rfl|rfl<;>exact⟨rfl,by exact Nat.le_of_ble_eq_true rfl⟩) (by show List.foldl _ [_,_] _=_;dsimp only[List.foldl_cons,List.foldl_nil,u2,u1]<;>rfl) (aa rfl _) ?_;refine qS hH dw fun st hH=>?_;dsimp only[u2,u1,u3,u4,setMany,u5,u6,D.cells,Nat.reduceAdd,bS,aE,az,B6] at hH;refine zQ 3 ?_;rw[←hX];have h1:=hH.w8 aV (n:=13) (by decide);have h2:=hH.mG aG (nH _) (n:=14) (by decide)
   have h4:aB st s0.bs.length false 15 (.agg [cd,sd])=some (Fu code bp).d:=by
    show(cH (aB st s0.bs.length false 14) [cd,sd]).map D.agg=_;simp only[cH,h1,h2,Option.map_some];rfl
   have h3:aB st s0.bs.length false 16 (rC [.agg [cd,sd],.int .i64 0,.int .i64 0])=some (mL ⟨code,bp,0,0⟩):=by
    show(cH (aB st s0.bs.length false 15) [.agg [cd,sd],.int .i64 0,.int .i64 0]).map D.tup=_;simp only[cH,h4];rfl
   exact ag.ret ⟨rx,_,hH.kC rfl dw rfl rfl rfl,rl aW hH h3⟩
def aJ.l:aJ→List Tr
 | .nil=>[]
 | .cons t ts=>t::ts.l
def dH:List Tr→aJ
 |[]=>.nil
 |t::l=>.cons t (dH l)
theorem Co:∀ks:aJ,dH ks.l=ks
 | .nil=>rfl
 | .cons t ts=>by simp only[aJ.l,dH,Co ts]
theorem lh:∀l:List Tr,(dH l).l=l
 |[]=>rfl
 |t::l=>by simp only[aJ.l,dH,lh l]
theorem lZ:∀ks:aJ,ks.l.length=ks.len
 | .nil=>rfl
 | .cons t ts=>by simp only[aJ.l,aJ.len,List.length_cons,lZ ts]
def Tr.n:Tr→bn
 | .mk n _=>n
def Tr.ks:Tr→List Tr
 | .mk _ ks=>ks.l
mutual
def Tr.c:Tr→List D
 | .mk n ks=>[.int .i64 n.op,n.rd,.int .i64 n.mn,.int .i64 n.mx,.bool n.lz,.int .i64 n.cap,.int .i64 n.kids,.sl ks.ds]
def aJ.ds:aJ→List D
 | .nil=>[]
 | .cons t ts=>.agg t.c::ts.ds
end
theorem Cq:∀ks:aJ,ks.ds=(ks.l.map Tr.c).map (jn 8)
 | .nil=>by simp[aJ.ds,aJ.l]
 | .cons t ts=>by simp only[aJ.ds,aJ.l,List.map_cons,Cq ts];rfl
def dq (l:List Tr):D:=.sl ((l.map Tr.c).map (jn 8))
def bR (n:bn) (x:D):List D:=[.int .i64 n.op,n.rd,.int .i64 n.mn,.int .i64 n.mx,.bool n.lz,.int .i64 n.cap,.int .i64 n.kids,x]
theorem Tr.Pt (t:Tr):t.c=bR t.n (dq t.ks):=by
 cases t with
 |mk n ks=>simp only[Tr.c,bR,Tr.n,Tr.ks,dq,Cq]
mutual
def Tr.fa (P:bn→Prop):Tr→Prop
 | .mk n ks=>P n∧ks.fa P
def aJ.fa (P:bn→Prop):aJ→Prop
 | .nil=>True
 | .cons t ts=>t.fa P∧ts.fa P
end
theorem tF {P:bn→Prop}:∀{ks:aJ},ks.fa P↔∀t∈ks.l,t.fa P
 | .nil=>by simp[aJ.fa,aJ.l]
 | .cons t ts=>by simp only[aJ.fa,aJ.l,List.mem_cons,forall_eq_or_imp,tF (ks:=ts)]
theorem Tr.dQ {P:bn→Prop} {t:Tr}:t.fa P↔P t.n∧∀k∈t.ks,k.fa P:=by
 cases t with
 |mk n ks=>simp only[Tr.fa,Tr.n,Tr.ks,tF]
theorem zO {P:bn→Prop} {n:bn} {l:List Tr}:(Tr.mk n (dH l)).fa P↔P n∧∀k∈l,k.fa P:=by
 rw[Tr.dQ];simp only[Tr.n,Tr.ks,lh]
mutual
theorem Tr.fx {P:bn→Prop}:∀(t:Tr),t.fa P↔∀n∈t.flat,P n
 | .mk n ks=>by simp only[Tr.fa,Tr.flat,List.mem_cons,forall_eq_or_imp,aJ.fx ks]
theorem aJ.fx {P:bn→Prop}:∀(ts:aJ),ts.fa P↔∀n∈ts.flat,P n
 | .nil=>by simp[aJ.fa,aJ.flat]
 | .cons t ts=>by simp only[aJ.fa,aJ.flat,List.mem_append,or_imp,forall_and,Tr.fx t,aJ.fx ts]
end
mutual
def Tr.eW:Tr→Nat
 | .mk n ks=>ks.eW+1
def aJ.eW:aJ→Nat
 | .nil=>0
 | .cons t ts=>t.eW+ts.eW
end
def bO (l:List Tr):Nat:=(l.map Tr.eW).sum
theorem oW:∀ks:aJ,ks.eW=bO ks.l
 | .nil=>rfl
 | .cons t ts=>by simp only[aJ.eW,aJ.l,bO,List.map_cons,List.sum_cons,oW ts]
theorem Tr.dF (t:Tr):t.eW=bO t.ks+1:=by
 cases t with
 |mk n ks=>simp only[Tr.eW,Tr.ks,oW]
theorem nA (n:bn) (l:List Tr):(Tr.mk n (dH l)).eW=bO l+1:=by
 rw[Tr.dF];simp only[Tr.ks,lh]
mutual
theorem Tr.jh:∀t:Tr,t.flat.length=t.eW
 | .mk n ks=>by simp only[Tr.flat,Tr.eW,List.length_cons,aJ.jh ks]
theorem aJ.jh:∀ts:aJ,ts.flat.length=ts.eW
 | .nil=>rfl
 | .cons t ts=>by simp only[aJ.flat,aJ.eW,List.length_append,Tr.jh t,aJ.jh ts]
end
theorem ji (a b:List Tr):bO (a++b)=bO a+bO b:=by unfold bO;rw[List.map_append,List.sum_append]
theorem bE (t:Tr) (b:List Tr):bO (t::b)=t.eW+bO b:=by unfold bO;rw[List.map_cons,List.sum_cons]
theorem cy:∀l:List Tr,l.length≤bO l
 |[]=>Nat.le_refl _
 |t::l=>by have:=cy l;have:=Tr.dF t;rw[bE,List.length_cons];omega
theorem eH {l:List Tr} {t:Tr} (h:t∈l):t.eW≤bO l:=by
 induction l with
 |nil=>cases h
 |cons x l ih=>
  rw[bE]
  rcases List.mem_cons.1 h with rfl|h
  ·omega
  ·have:=ih h;omega
mutual
def Tr.same:Tr→Tr→Bool
 | .mk n ks,.mk m js=>n.op==m.op &&n.mn==m.mn &&n.mx==m.mx &&n.lz==m.lz &&n.cap==m.cap &&n.rs==m.rs &&ks.same js
def aJ.same:aJ→aJ→Bool
 | .nil,.nil=>true
 | .cons t ts,.cons u us=>t.same u &&ts.same us
 | .nil,.cons _ _=>false
 | .cons _ _,.nil=>false
end
def fH:List Tr→List Tr→Bool
 |[],[]=>true
 |t::l,u::k=>t.same u &&fH l k
 |_,_=>false
theorem vn:∀ks js:aJ,ks.same js=fH ks.l js.l
 | .nil,.nil=>by simp only[aJ.same,aJ.l,fH]
 | .cons t ts,.cons u us=>by simp only[aJ.same,aJ.l,fH,vn ts us]
 | .nil,.cons _ _=>by simp only[aJ.same,aJ.l,fH]
 | .cons _ _,.nil=>by simp only[aJ.same,aJ.l,fH]
theorem Tr.Fc (t u:Tr):t.same u=(t.n.op==u.n.op &&t.n.mn==u.n.mn &&t.n.mx==u.n.mx &&t.n.lz==u.n.lz &&t.n.cap==u.n.cap &&t.n.rs==u.n.rs &&fH t.ks u.ks):=by
 cases t;cases u;simp only[Tr.same,Tr.n,Tr.ks,vn]
theorem sn:∀(l k:List Tr),fH l k=true→l.length=k.length
 |[],[],_=>rfl
 |t::l,u::k,h=>by simp only[fH,Bool.and_eq_true] at h;rw[List.length_cons,List.length_cons,sn l k h.2]
 |[],_::_,h=>by cases h
 |_::_,[],h=>by cases h
mutual
def Tr.qQ:Tr→Bool
 | .mk n ks=>n.op==6||ks.qQ
def aJ.qQ:aJ→Bool
 | .nil=>false
 | .cons t ts=>t.qQ||ts.qQ
end
theorem zp:∀ks:aJ,ks.qQ=ks.l.any Tr.qQ
 | .nil=>rfl
 | .cons t ts=>by simp only[aJ.qQ,aJ.l,List.any_cons,zp ts]
theorem Tr.Iv (t:Tr):t.qQ=(t.n.op==6||t.ks.any Tr.qQ):=by
 cases t;simp only[Tr.qQ,Tr.n,Tr.ks,zp]
def EV (op:Int):bn:=⟨op,aL [],[],0,0,false,0,0⟩
def AG (op:Int) (l:List Tr):Tr:=.mk (EV op) (dH l)
def aX (op:Int) (l:List Tr):List Tr:=l.flatMap fun t=>if t.n.op=op then t.ks else[t]
def fM (op:Int) (l:List Tr):Tr:=match l with
 |[]=>AG 1 []
 |[t]=>t
 |l=>AG op l
def cG (l:List Tr):List Tr:=l.foldl (fun out k=>if out.any (fun x=>x.same k)=true then out else out++[k]) []
noncomputable def oS (a b:List Rg):Tr:=.mk ⟨2,aL (bV (a++b)),bV (a++b),0,0,false,0,0⟩ .nil
noncomputable def gp (out:List Tr) (k:Tr):List Tr:=match out.getLast? with
 |some t=>if k.n.op=2∧t.n.op=2 then out.set (out.length-1) (oS t.n.rs k.n.rs) else out++[k]
 |none=>out++[k]
noncomputable def bZ (l:List Tr):List Tr:=l.foldl gp []
noncomputable def iG:Nat→List Tr→List Tr
 |0,l=>l
 |f+1,l=>if(bZ (cG l)).length=l.length then l else iG f (bZ (cG l))
def gH (n:bn):Bool:=n.op==5 &&!n.lz &&n.mx==-1 &&decide (n.mn≤1)
def z6 (l:List Tr):Bool:=match l with
 |[]=>false
 |t::_=>t.n.op==2
def vG (n:bn) (k:Tr) (l:List Tr):Tr:=
 if k.n.op=1 then k
 else if n.mn=1∧n.mx=1 then k
 else if n.mx=0∧k.qQ=false then AG 1 []
 else if(gH {n with lz:=n.lz &&n.mn !=n.mx} &&(gH k.n &&z6 k.ks))=true then .mk {k.n with mn:=k.n.mn*n.mn} (dH k.ks)
 else .mk {n with lz:=n.lz &&n.mn !=n.mx} (dH l)
noncomputable def ou (n:bn) (l:List Tr):Tr:=
 if n.op=3 then fM 3 ((aX 3 l).filter fun t=>t.n.op !=1)
 else if n.op=4 then fM 4 (iG (aX 4 l).length (aX 4 l))
 else if n.op=5 then(match l with|k::_=>vG n k l|[]=>.mk n .nil)
 else .mk n (dH l)
mutual
noncomputable def Tr.less:Tr→Tr
 | .mk n ks=>ou n ks.less
noncomputable def aJ.less:aJ→List Tr
 | .nil=>[]
 | .cons t ts=>t.less::ts.less
end
theorem py:∀ks:aJ,ks.less=ks.l.map Tr.less
 | .nil=>rfl
 | .cons t ts=>by simp only[aJ.less,aJ.l,List.map_cons,py ts]
theorem Tr.zY (t:Tr):t.less=ou t.n (t.ks.map Tr.less):=by
 cases t;simp only[Tr.less,Tr.n,Tr.ks,py]
mutual
def Tr.nN:Tr→List bn
 | .mk n ks=>{n with kids:=(ks.len:Nat)}::ks.nN
def aJ.nN:aJ→List bn
 | .nil=>[]
 | .cons t ts=>t.nN++ts.nN
end
theorem zq:∀ks:aJ,ks.nN=ks.l.flatMap Tr.nN
 | .nil=>rfl
 | .cons t ts=>by simp only[aJ.nN,aJ.l,List.flatMap_cons,zq ts]
theorem Tr.D' (t:Tr):t.nN={t.n with kids:=(t.ks.length:Nat)}::t.ks.flatMap Tr.nN:=by
 cases t;simp only[Tr.nN,Tr.n,Tr.ks,zq,lZ]
mutual
theorem Tr.jD:∀t:Tr,t.nN.length=t.eW
 | .mk n ks=>by simp only[Tr.nN,Tr.eW,List.length_cons,aJ.jD ks]
theorem aJ.jD:∀ts:aJ,ts.nN.length=ts.eW
 | .nil=>rfl
 | .cons t ts=>by simp only[aJ.nN,aJ.eW,List.length_append,Tr.jD t,aJ.jD ts]
end
noncomputable def dg (l:List bn):List bn:=if gD l=true then(de l).less.nN else[]
theorem tp:∀{l:List Rg} {b:Int},canon l→(∀x∈l,b≤x.1∧x.2≤1114111)→2*(l.length:Int)≤max 0 (1114113-b)
 |[],b,_,_=>by simp;omega
 |x::l,b,hc,hb=>by
  obtain⟨h1,h2,h3⟩:=ig hc;have hx:=hb x (List.mem_cons_self ..)
  have ih:=tp (b:=x.2+2) h1 fun y hy=>by
   have wM:=hb y (List.mem_cons_of_mem _ hy);have hle:=h1.1 y hy;have:=h3 y.1 ⟨y,hy,Int.le_refl _,hle⟩;omega
  rw[List.length_cons];omega
theorem yz {l a:List Rg} (h:e_ l a):a.length≤557057:=by
 have hb:∀x∈a,0≤x.1∧x.2≤1114111:=fun x hx=>by
  have hle:=h.1.1 x hx;have g1:=((h.2 x.1).1 ⟨x,hx,Int.le_refl _,hle⟩).1;have g2:=((h.2 x.2).1 ⟨x,hx,hle,Int.le_refl _⟩).1;unfold lK at g1 g2;omega
 have:=tp (b:=0) h.1 hb;omega
def lY (n:bn):Prop:=n.rd=aL n.rs∧n.rs.length≤1048576
def jP (l:List Tr):Prop:=∀t∈l,t.fa lY
theorem jo {op:Int} {l:List Tr} (h:jP l):jP (aX op l):=by
 intro t ht;obtain⟨u,hu,ht⟩:=List.mem_flatMap.1 ht
 split at ht
 ·exact(Tr.dQ.1 (h u hu)).2 t ht
 ·simp only[List.mem_cons,List.not_mem_nil,or_false] at ht;rw[ht];exact h u hu
theorem fO (op:Int):∀l:List Tr,bO (aX op l)≤bO l
 |[]=>Nat.le_refl _
 |t::l=>by
  have:=fO op l;unfold aX at this⊢;rw[List.flatMap_cons,ji,bE];have h2:=Tr.dF t
  split
  ·omega
  ·simp only[bE];unfold bO at this⊢;simp only[List.map_nil,List.sum_nil];omega
theorem q9 (p:Tr→Bool):∀l:List Tr,bO (l.filter p)≤bO l
 |[]=>Nat.le_refl _
 |t::l=>by
  have:=q9 p l;rw[List.filter_cons,bE]
  split
  ·rw[bE];omega
  ·omega
theorem JF (op:Int):lY (EV op):=⟨rfl,by simp[EV]⟩
theorem xU {op:Int} {l:List Tr} (h:jP l):(AG op l).fa lY:=zO.2 ⟨JF op,h⟩
theorem rW {op:Int} {l:List Tr} (h:jP l):(fM op l).fa lY:=by
 unfold fM
 split
 ·exact xU (by intro t ht;cases ht)
 ·exact h _ (List.mem_cons_self ..)
 ·exact xU h
theorem rX (op:Int) (l:List Tr):(fM op l).eW≤bO l+1:=by
 unfold fM
 split
 ·unfold AG;rw[nA];omega
 ·rw[bE];omega
 ·unfold AG;rw[nA];omega
theorem mH {α β:Type} {f:β→α→β} {P:β→Prop} {l:List α} (h:∀b a,a∈l→P b→P (f b a)):∀b,P b→P (l.foldl f b):=by
 induction l with
 |nil=>exact fun b hb=>hb
 |cons a l ih=>exact fun b hb=>ih (fun b a ha=>h b a (List.mem_cons_of_mem _ ha)) _ (h b a (List.mem_cons_self ..) hb)
theorem mi {l:List Tr} (h:jP l):jP (cG l):=by
 unfold cG;refine mH (P:=jP) (fun b a ha hb=>?_) _ (by intro t ht;cases ht)
 split
 ·exact hb
 ·intro t ht
  rcases List.mem_append.1 ht with ht|ht
  ·exact hb t ht
  ·simp only[List.mem_cons,List.not_mem_nil,or_false] at ht;rw[ht];exact h a ha
theorem A6 (l:List Tr):∀b,bO (l.foldl (fun out k=>if out.any (fun x=>x.same k)=true then out else out++[k]) b)≤bO b+bO l:=by
 induction l with
 |nil=>intro b;unfold bO;simp
 |cons a l ih=>
  intro b;rw[List.foldl_cons,bE]
  split
  ·have:=ih b;omega
  ·have:=ih (b++[a]);rw[ji,bE] at this;unfold bO at this⊢;simp only[List.map_nil,List.sum_nil] at this;omega
theorem pM (l:List Tr):bO (cG l)≤bO l:=by
 have:=A6 l [];unfold cG;unfold bO at this⊢;simp only[List.map_nil,List.sum_nil] at this;omega
theorem Lg (a b:List Rg):(bV (a++b)).length≤557057:=by
 unfold bV
 split
 ·rename_i h;exact yz (Classical.choose_spec h)
 ·simp
theorem IG (a b:List Rg):(oS a b).fa lY:=by
 unfold oS;simp only[Tr.fa,aJ.fa,and_true];exact⟨rfl,by have:=Lg a b;show(bV (a++b)).length≤_;omega⟩
theorem Ek {l:List Tr} {i:Nat} {t u:Tr} (h:l[i]?=some t):bO (l.set i u)+t.eW=bO l+u.eW:=by
 induction l generalizing i with
 |nil=>simp at h
 |cons x l ih=>
  cases i with
  |zero=>simp only[List.getElem?_cons_zero,Option.some.injEq] at h;subst h;rw[List.set_cons_zero,bE,bE];omega
  |succ i=>rw[List.set_cons_succ,bE,bE];have:=ih (i:=i) (by simpa using h);omega
theorem AJ {l:List Tr} {t:Tr} (h:l.getLast?=some t):l[l.length-1]?=some t:=by rw[←h,List.getLast?_eq_getElem?]
theorem Ds (b:List Tr) (a:Tr):bO (gp b a)≤bO b+a.eW:=by
 unfold gp
 split
 ·rename_i t ht
  split
  ·have:=Ek (u:=oS t.n.rs a.n.rs) (AJ ht);have h1:(oS t.n.rs a.n.rs).eW=1:=by unfold oS;simp[Tr.eW,aJ.eW]
   have h2:=Tr.dF t;omega
  ·rw[ji,bE];unfold bO;simp
 ·rw[ji,bE];unfold bO;simp
theorem wF (l:List Tr):∀b,bO (l.foldl gp b)≤bO b+bO l:=by
 induction l with
 |nil=>intro b;unfold bO;simp
 |cons a l ih=>intro b;rw[List.foldl_cons,bE];have:=ih (gp b a);have:=Ds b a;omega
theorem qd (l:List Tr):bO (bZ l)≤bO l:=by
 have:=wF l [];unfold bZ;unfold bO at this⊢;simp only[List.map_nil,List.sum_nil] at this;omega
theorem Dq (b:List Tr) (a:Tr):(gp b a).length≤b.length+1:=by
 unfold gp
 split
 ·split
  ·rw[List.length_set];omega
  ·rw[List.length_append];simp
 ·rw[List.length_append];simp
theorem Dr {b:List Tr} {a:Tr} (hb:jP b) (ha:a.fa lY):jP (gp b a):=by
 have uK:jP (b++[a]):=by
  intro t ht
  rcases List.mem_append.1 ht with ht|ht
  ·exact hb t ht
  ·simp only[List.mem_cons,List.not_mem_nil,or_false] at ht;rw[ht];exact ha
 unfold gp
 split
 ·split
  ·intro t ht
   rcases List.mem_or_eq_of_mem_set ht with ht|rfl
   ·exact hb t ht
   ·exact IG _ _
  ·exact uK
 ·exact uK
theorem jw {l:List Tr} (h:jP l):jP (bZ l):=by
 unfold bZ;exact mH (P:=jP) (fun b a ha hb=>Dr hb (h a ha)) _ (by intro t ht;cases ht)
theorem ow (l:List Tr):∀b,(l.foldl gp b).length≤b.length+l.length:=by
 induction l with
 |nil=>intro b;simp
 |cons a l ih=>intro b;rw[List.foldl_cons,List.length_cons];have:=ih (gp b a);have:=Dq b a;omega
theorem A5 (l:List Tr):∀b,(l.foldl (fun out k=>if out.any (fun x=>x.same k)=true then out else out++[k]) b).length≤b.length+l.length:=by
 induction l with
 |nil=>intro b;simp
 |cons a l ih=>
  intro b;rw[List.foldl_cons,List.length_cons]
  split
  ·have:=ih b;omega
  ·have:=ih (b++[a]);rw[List.length_append] at this;simp only[List.length_cons,List.length_nil] at this;omega
theorem AH (l:List Tr):(bZ (cG l)).length≤l.length:=by
 have h1:=ow (cG l) [];have h2:=A5 l [];unfold bZ cG at*;simp only[List.length_nil] at h1 h2;omega
theorem tv:∀(f:Nat) {l:List Tr},jP l→jP (iG f l)∧bO (iG f l)≤bO l
 |0,l,h=>⟨h,Nat.le_refl _⟩
 |f+1,l,h=>by
  unfold iG
  split
  ·exact⟨h,Nat.le_refl _⟩
  ·obtain⟨h1,h2⟩:=tv f (jw (mi h));have:=qd (cG l);have:=pM l;exact⟨h1,by omega⟩
theorem Ff {n:bn} {k:Tr} {l:List Tr} (hn:lY n) (h:jP l) (hk:k∈l):(vG n k l).fa lY:=by
 have hkk:=h k hk;unfold vG
 split
 ·exact hkk
 split
 ·exact hkk
 split
 ·exact xU (by intro t ht;cases ht)
 split
 ·exact zO.2 ⟨(Tr.dQ.1 hkk).1,(Tr.dQ.1 hkk).2⟩
 ·exact zO.2 ⟨hn,h⟩
theorem Fg {n:bn} {k:Tr} {l:List Tr} (hk:k∈l):(vG n k l).eW≤bO l+1:=by
 have:=eH hk;unfold vG
 split
 ·omega
 split
 ·omega
 split
 ·unfold AG;rw[nA];unfold bO;simp
 split
 ·rw[nA];have:=Tr.dF k;omega
 ·rw[nA];omega
theorem Bh {n:bn} {l:List Tr} (hn:lY n) (h:jP l):(ou n l).fa lY∧(ou n l).eW≤bO l+1:=by
 unfold ou
 split
 ·have h1:=q9 (fun t=>t.n.op !=1) (aX 3 l);have h2:=fO 3 l;have h3:=rX 3 ((aX 3 l).filter fun t=>t.n.op !=1);exact⟨rW fun t ht=>jo h t (List.mem_filter.1 ht).1,by omega⟩
 split
 ·obtain⟨h1,h2⟩:=tv (aX 4 l).length (jo (op:=4) h);have h3:=fO 4 l;have h4:=rX 4 (iG (aX 4 l).length (aX 4 l));exact⟨rW h1,by omega⟩
 split
 ·cases l with
  |nil=>exact⟨by simp only[Tr.fa,aJ.fa,and_true];exact hn,by simp[Tr.eW,aJ.eW,bO]⟩
  |cons k l=>exact⟨Ff hn h (List.mem_cons_self ..),Fg (List.mem_cons_self ..)⟩
 ·exact⟨zO.2 ⟨hn,h⟩,by rw[nA];omega⟩
mutual
theorem Tr.gm:∀(t:Tr),t.fa lY→t.less.fa lY∧t.less.eW≤t.eW
 | .mk n ks,h=>by
  simp only[Tr.fa] at h;obtain⟨h1,h2⟩:=aJ.gm ks h.2;obtain⟨h3,h4⟩:=Bh h.1 h1;simp only[Tr.less,Tr.eW];exact⟨h3,by omega⟩
theorem aJ.gm:∀(ts:aJ),ts.fa lY→jP ts.less∧bO ts.less≤ts.eW
 | .nil,_=>⟨by intro t ht;simp[aJ.less] at ht,by simp[aJ.less,bO]⟩
 | .cons t ts,h=>by
  simp only[aJ.fa] at h;obtain⟨h1,h2⟩:=Tr.gm t h.1;obtain⟨h3,h4⟩:=aJ.gm ts h.2;simp only[aJ.less,aJ.eW];refine⟨fun u hu=>?_,by rw[bE];omega⟩
  rcases List.mem_cons.1 hu with rfl|hu
  ·exact h1
  ·exact h3 u hu
end
mutual
theorem Tr.qZ:∀(t:Tr),t.fa lY→t.eW≤1048576→∀n∈t.nN,lX n
 | .mk n ks,h,hc=>by
  simp only[Tr.fa] at h;simp only[Tr.eW] at hc;have ih:=aJ.qZ ks h.2 (by omega);simp only[Tr.nN,List.mem_cons];rintro m (rfl|hm)
  ·have h1:=lZ ks;have h2:=cy ks.l;rw[←oW] at h2;exact⟨h.1.1,h.1.2,by show((ks.len:Nat):Int)≤_;omega⟩
  ·exact ih m hm
theorem aJ.qZ:∀(ts:aJ),ts.fa lY→ts.eW≤1048576→∀n∈ts.nN,lX n
 | .nil,_,_=>by simp[aJ.nN]
 | .cons t ts,h,hc=>by
  simp only[aJ.fa] at h;simp only[aJ.eW] at hc;have h1:=Tr.qZ t h.1 (by omega);have h2:=aJ.qZ ts h.2 (by omega);simp only[aJ.nN,List.mem_append];rintro m (hm|hm)
  ·exact h1 m hm
  ·exact h2 m hm
end
theorem sm {l:List bn} (h:∀n∈l,lX n) (hl:l.length≤500):(∀n∈dg l,lX n)∧(dg l).length≤500:=by
 unfold dg
 split
 ·rename_i hr;obtain⟨_,h2⟩:=tG hr;have hfa:(de l).fa lY:=(Tr.fx _).2 fun n hn=>by rw[h2] at hn;exact⟨(h n hn).1,(h n hn).2.1⟩
  obtain⟨h3,h4⟩:=Tr.gm _ hfa;have h5:=Tr.jh (de l);rw[h2] at h5;have h6:=Tr.jD (de l).less;exact⟨Tr.qZ _ h3 (by omega),by omega⟩
 ·exact⟨fun n hn=>(by cases hn),by simp⟩
end Go.Proofs.YtpcicphadikioaaGreat
