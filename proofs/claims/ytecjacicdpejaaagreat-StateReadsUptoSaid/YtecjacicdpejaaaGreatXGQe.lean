/-
 Of each node how many instructions its code has, and what stands behind it: both lists are filled in place.
-/
import Derived.Test.YtecjacicdpejaaaGreatXGHr
import Derived.Test.YtecjacicdpejaaaGreatXGPh
import Derived.Test.YtecjacicdpejaaaGreatXGJi
set_option maxRecDepth 100000
set_option maxHeartbeats 4000000
set_option linter.unusedSimpArgs false
set_option linter.unusedVariables false
namespace Go.Proofs.YtecjacicdpejaaaGreat
open Go.V Go
def aM (fr:Go.V.Fr) (k:Nat):Go.V.D:=Go.V.nth .bj fr.loc k
def om (es:List Int) (a:Nat) (M:List Int):List Int:=es.take a++M++es.drop (a+M.length)
theorem A9 {es M:List Int} {a:Nat} (h:a+M.length≤es.length):(om es a M).length=es.length:=by
 unfold om;simp only[List.length_append,List.length_take,List.length_drop];omega
theorem A8 {es:List Int} {a:Nat}:om es a []=es:=by
 unfold om;simp
theorem GY {es M:List Int} {a:Nat} {x:Int} (h:a≤es.length):(om es a (x::M))[a]?=some x:=by
 unfold om;rw[List.append_assoc,List.getElem?_append_right (by simp only[List.length_take];omega)];simp[Nat.min_eq_left h]
theorem A6 {es M M':List Int} {a:Nat} (h:a+M.length+M'.length≤es.length):om (om es a M) (a+M.length) M'=om es a (M++M'):=by
 unfold om;have h1:(es.take a++M).length=a+M.length:=by simp only[List.length_append,List.length_take];omega
 rw[List.take_append_of_le_length (by omega),List.take_of_length_le (by omega)];rw[←h1,List.drop_append,List.drop_eq_nil_of_le (by omega),List.nil_append,h1,List.drop_drop];simp only[List.append_assoc,List.length_append]
 congr 4
 omega
theorem A7 {es M:List Int} {a:Nat} {v:Int} (h:a+1+M.length≤es.length):(om es (a+1) M).set a v=om es a (v::M):=by
 unfold om;have h1:(es.take a).length=a:=by simp only[List.length_take];omega
 rw[List.append_assoc,List.take_add_one,List.getElem?_eq_getElem (by omega)];simp only[Option.toList_some,List.append_assoc,List.cons_append,List.nil_append,List.length_cons];rw[List.set_append_right _ _ (by omega),h1,Nat.sub_self,List.set_cons_zero]
 congr 4
 omega
theorem DU {l:List dI} {d:D} (hl:l.length≤1048576) (hi:∀n∈l,n.ok) (hd:gd d 7 (l.map bf)):∀(m:Nat) (t:Tr),t.flat.length≤m→t.ok→∀{N:Nat} {S s0:St} {H:List a_} {out:D} {es:List Int} {at_:Nat},ga l at_ t.flat→es.length=l.length→Has N S s0 (.aC out 1 (es.map ax)::H)→
  ∃r ah,Ev pv 136 [d,out,.int .i64 (at_:Nat)] s0 r ah∧r=.int .i64 ((at_+t.flat.length:Nat):Int)∧Has N S ah (.aC out 1 ((om es at_ t.zs).map ax)::H):=by
 intro m
 induction m with
 |zero=>intro t h;have:=t.i7;omega
 |succ m ih=>
  rintro⟨n,ks⟩ hm bq N S s0 H out es at_ kC sG hH;simp only[Tr.ok] at bq;obtain⟨lb,jt⟩:=bq;simp only[Tr.flat,List.length_cons] at hm;have hle:=kC.le (by simp[Tr.flat]);simp only[Tr.flat] at kC hle;simp only[List.length_cons] at hle;have hn:=kC.head;have kC:=kC.tail;have Mx:=hi n (List.mem_of_getElem? hn);have gm:=l_ hn;have IP:=xU Mx;have K9:=lb.1;have mb:=bD.oS ks;refine Ev.gA rfl Oq rfl rfl rfl ?_;refine zE ?_;have bn:=hH;have hH:=hH.aW;have bh:(ae .rw s0).bs=s0.bs:=rfl;generalize ae .rw s0=S2 at*;have hc:=hd.arg N S2;refine zQ 8 ?_;refine qr fun Uw Qx=>?_;refine aa.cV rfl (ev rfl) (by assumption) rfl (by dsimp only[Fr.put,u1,u2]<;>rfl) ?_;refine qa hH fun k7 st O6 hH=>?_;refine aa.cM hH rfl (ev rfl) (ev rfl) (by rfl) (by exact rfl) (by exact aN) (by exact rfl) (by exact .inr (by assumption)) (fun st hH=>?_);dsimp only[u2,u1,u3,u4,setMany,u5,u6,D.cells,Nat.reduceAdd,bf,ax] at hH;refine zQ 19 ?_;refine ak.loop (fun mm fr st=>∃(i j ss:Nat) (rest:bD) (pZ:List Int),fr.clean=⟨36,[d,out,.int .i64 (at_:Nat),aM fr 3,aM fr 4,aM fr 5,.int .i64 0,.ptr k7 0 0,.int .i64 (j:Nat),.int .i64 ((min ss 401:Nat):Int),aM fr 10,aM fr 11,aM fr 12,aM fr 13,aM fr 14,aM fr 15,aM fr 16,aM fr 17,.int .i64 n.kids,.int .i64 (i:Nat),aM fr 20,aM fr 21,aM fr 22,aM fr 23,aM fr 24,aM fr 25,aM fr 26,aM fr 27,aM fr 28,aM fr 29,aM fr 30,aM fr 31,aM fr 32,aM fr 33,aM fr 34,aM fr 35],[]⟩∧Has N S2 st (.aC out 1 (pZ.map ax)::.box k7 (.mem 0 false (bf n))::H)∧(mm=rest.len)∧(i+rest.len=ks.len)∧(ga l j rest.flat)∧(rest.ok)∧(ss+rest.sz=ks.sz)∧(pZ.length=l.length)∧(om pZ j rest.zs=om es (at_+1) ks.zs)∧(j+rest.flat.length=at_+1+ks.flat.length)∧(rest.flat.length≤m)) (ks.len) ?_ ?_
  ·exact⟨0,at_+1,0,ks,es,rfl,(by have:=hH.front bV;exact this),rfl,by omega,kC,jt,by omega,sG,rfl,rfl,by omega⟩
  rintro mm fr st ⟨i,j,ss,rest,pZ,hfr,hH,y5,uI,pW,kT,BG,Ak,v_,hj,JR⟩;rw[hfr];clear hfr;generalize aM fr=ee;clear fr;refine zQ 4 ?_
  cases rest with
  |nil=>
   simp only[bD.len] at uI;simp only[bD.sz] at BG;simp only[bD.flat,List.length_nil] at hj;simp only[bD.zs,A8] at v_;have iZ:decide ((i:Int)<n.kids)=false:=by rw[decide_eq_false_iff_not];omega
   refine qq<|qE rfl (by rw[iZ]) ?_;refine zQ 1 ?_;obtain rfl:ss=ks.sz:=by omega
   have kC:=pW;refine zQ 6 ?_;refine ak.merge (fun fr st=>∃(tmp:List (Nat×D)),fr=⟨36,[d,out,.int .i64 (at_:Nat),aM fr 3,aM fr 4,aM fr 5,.int .i64 0,.ptr k7 0 0,.int .i64 (j:Nat),.int .i64 ((bH n (min ks.sz 401) ks.len:Nat):Int),aM fr 10,aM fr 11,aM fr 12,aM fr 13,aM fr 14,aM fr 15,aM fr 16,aM fr 17,aM fr 18,aM fr 19,aM fr 20,aM fr 21,aM fr 22,aM fr 23,aM fr 24,aM fr 25,aM fr 26,aM fr 27,aM fr 28,aM fr 29,aM fr 30,aM fr 31,aM fr 32,aM fr 33,aM fr 34,aM fr 35],tmp⟩∧Has N S2 st (.aC out 1 (pZ.map ax)::.box k7 (.mem 0 false (bf n))::H)) ?_ ?_
   ·refine zQ 7 ?_;generalize hw:min ks.sz 401=w;have hwl:w≤401:=by omega
    have j4:ks.len≤9223372036854775→True:=fun _=>trivial
    by_cases q2:n.op=2
    ·have hz:bH n w ks.len=1:=by unfold bH;rw[if_pos (.inl q2)]
     rw[hz];refine qD rfl (by simp[q2]) ?_;refine zQ 1 ?_;refine qD rfl (by simp[q2]) ?_;refine zQ 3 ?_;exact⟨_,rfl,hH⟩
    refine qE rfl (by simp[q2]) ?_;refine zQ 5 ?_
    by_cases q7:n.op=7
    ·have hz:bH n w ks.len=1:=by unfold bH;rw[if_pos (.inr (.inl q7))]
     rw[hz];refine qD rfl (by simp[q7]) ?_;refine zQ 1 ?_;refine qD rfl (by simp[q7]) ?_;refine zQ 3 ?_;exact⟨_,rfl,hH⟩
    refine qE rfl (by simp[q7]) ?_;refine zQ 4 ?_
    by_cases q8:n.op=8
    ·have hz:bH n w ks.len=1:=by unfold bH;rw[if_pos (.inr (.inr q8))]
     rw[hz];refine qD rfl (by simp[q8]) ?_;refine zQ 3 ?_;exact⟨_,rfl,hH⟩
    refine qE rfl (by simp[q8]) ?_
    have hz0:bH n w ks.len=if n.op=4 then w+2*(ks.len-1) else if n.op=6 then w+2 else if n.op=5 then(if n.mx=-1 then n.mn.toNat*w+w+2 else n.mn.toNat*w+(n.mx.toNat-n.mn.toNat)*(w+1)) else w:=by
     unfold bH;rw[if_neg (by omega)]
    rw[hz0];clear hz0;obtain⟨_,lf⟩:=lb;have hq:(n.op=1∧ks.len=0)∨((n.op=3∨n.op=4)∧2≤ks.len)∨(n.op=5∧ks.len=1∧0≤n.mn∧n.mn≤30∧(n.mx=-1∨(n.mn≤n.mx∧n.mx≤30)))∨(n.op=6∧ks.len=1∧1≤n.cap∧n.cap≤4):=by omega
    refine zQ 5 ?_
    by_cases q4:n.op=4
    ·rw[if_pos q4];have hk2:2≤ks.len:=by omega
     refine qD rfl (by simp[q4]) ?_;refine zQ 4 ?_;refine aa.eY (z:=((ks.len-1:Nat):Int)) rfl (ev rfl) (ev rfl) (by rw[wrap_i64 (by omega) (by omega)]<;>omega) (ab rfl _) ?_;refine aa.xY (z:=((2*(ks.len-1):Nat):Int)) rfl (ev rfl) (ev rfl) (by rw[wrap_i64 (by omega) (by omega)]<;>omega) (ab rfl _) ?_;refine aa.eC (z:=((w+2*(ks.len-1):Nat):Int)) rfl (ev rfl) (ev rfl) (by rw[wrap_i64 (by omega) (by omega)]<;>omega) (ab rfl _) ?_;refine zQ 2 ?_;exact⟨_,rfl,hH⟩
    rw[if_neg q4];refine qE rfl (by simp[q4]) ?_;refine zQ 5 ?_
    by_cases q6:n.op=6
    ·rw[if_pos q6];refine qD rfl (by simp[q6]) ?_;refine zQ 5 ?_;exact⟨_,rfl,hH⟩
    rw[if_neg q6];refine qE rfl (by simp[q6]) ?_;refine zQ 5 ?_
    by_cases q5:n.op=5
    ·rw[if_pos q5];refine qD rfl (by simp[q5]) ?_;refine zQ 6 ?_;have Dw:0≤n.mn∧n.mn≤30∧(n.mx=-1∨(n.mn≤n.mx∧n.mx≤30)):=by omega
     obtain⟨a,ha⟩:∃a:Nat,n.mn=(a:Int):=Int.eq_ofNat_of_zero_le Dw.1;have K5:n.mn.toNat=a:=by omega
     have h1:a*w≤30*401:=Nat.mul_le_mul (by omega) hwl;have hmul:n.mn*(w:Int)=((a*w:Nat):Int):=by rw[ha];push_cast;rfl
     rw[K5]
     by_cases Ea:n.mx=-1
     ·rw[if_pos Ea];refine qD rfl (by simp[Ea]) ?_;refine zQ 4 ?_;refine aa.xY (z:=((a*w:Nat):Int)) rfl (ev rfl) (ev rfl) (by rw[wrap_i64 (by omega) (by omega)]<;>omega) (ab rfl _) ?_;refine qm ?_;refine aa.eC (z:=((a*w+w:Nat):Int)) rfl (ev rfl) (ev rfl) (by rw[wrap_i64 (by omega) (by omega)]<;>omega) (ab rfl _) ?_;refine aa.eC (z:=((a*w+w+2:Nat):Int)) rfl (ev rfl) (ev rfl) (by rw[wrap_i64 (by omega) (by omega)]<;>omega) (ab rfl _) ?_;refine zQ 2 ?_;exact⟨_,rfl,hH⟩
     ·rw[if_neg Ea];obtain⟨b,hb⟩:∃b:Nat,n.mx=(b:Int):=Int.eq_ofNat_of_zero_le (by omega);have U3:n.mx.toNat=b:=by omega
      have h2:(b-a)*(w+1)≤30*402:=Nat.mul_le_mul (by omega) (by omega);rw[U3];refine qE rfl (by simp[Ea]) ?_;refine zQ 4 ?_;refine aa.xY (z:=((a*w:Nat):Int)) rfl (ev rfl) (ev rfl) (by rw[wrap_i64 (by omega) (by omega)]<;>omega) (ab rfl _) ?_;refine zQ 4 ?_;refine aa.eY (z:=((b-a:Nat):Int)) rfl (ev rfl) (ev rfl) (by rw[wrap_i64 (by omega) (by omega)]<;>omega) (ab rfl _) ?_;refine qm ?_;refine aa.eC (z:=((w+1:Nat):Int)) rfl (ev rfl) (ev rfl) (by rw[wrap_i64 (by omega) (by omega)]<;>omega) (ab rfl _) ?_;refine aa.xY (z:=(((b-a)*(w+1):Nat):Int)) rfl (ev rfl) (ev rfl) (by rw[wrap_i64 (by omega) (by omega)]<;>omega) (ab rfl _) ?_;refine aa.eC (z:=((a*w+(b-a)*(w+1):Nat):Int)) rfl (ev rfl) (ev rfl) (by rw[wrap_i64 (by omega) (by omega)]<;>omega) (ab rfl _) ?_;refine zQ 2 ?_;exact⟨_,rfl,hH⟩
    ·rw[if_neg q5];refine qE rfl (by simp[q5]) ?_;refine zQ 1 ?_;exact⟨_,rfl,hH⟩
   ·rintro fr st ⟨tmp,hfr,hH⟩;rw[hfr];clear hfr;generalize aM fr=ee;clear fr;have mB:=Is (n:=n) (k:=ks.len) (s:=ks.sz);have jv:at_<pZ.length:=by omega
    obtain⟨w,hw⟩:∃w,pZ[at_]?=some w:=⟨pZ[at_]'jv,List.getElem?_eq_getElem _⟩
    have Vb:=er hw;refine zQ 5 ?_;refine aa.LG (z:=((min (bH n ks.sz ks.len) 401:Nat):Int)) (t1:=_) (t2:=_) rfl (ev rfl) (ev rfl) (by omega) (ab rfl _) ?_;refine qi hH aN fun Ui Qm=>?_;refine aa.jE hH rfl (ev rfl) (ev rfl) (by assumption) rfl rfl (by exact aN) (by assumption) (Nat.le_of_ble_eq_true rfl) (by exact .inr rfl) (fun st hH=>?_);dsimp only[u2,u1,u3,u4,setMany,u5,u6,D.cells,Nat.reduceAdd,bf,ax] at hH;refine zQ 6 ?_;refine ak.ret ⟨rx,_,_,_,rfl,ag (rfl),?_⟩;have Kc:j=at_+(Tr.mk n ks).flat.length:=by simp only[Tr.flat,List.length_cons];omega
    refine⟨by rw[Kc];rfl,?_⟩
    have gD:om es at_ (Tr.zs (.mk n ks))=pZ.set at_ ((min (bH n ks.sz ks.len) 401:Nat):Int):=by
     rw[v_,A7 (by rw[bD.jB];omega)];rfl
    rw[gD,List.map_set];exact bn.ya bh (hH.erase 1)
  |cons t ts=>
   simp only[bD.len] at uI y5;simp only[bD.sz] at BG;simp only[bD.flat,List.length_append] at hj pW JR;simp only[bD.zs] at v_;simp only[bD.ok] at kT;have iZ:decide ((i:Int)<n.kids)=true:=by rw[decide_eq_true_eq];omega
   have U0:=t.i7;have JJ:=t.jB;have JC:=ts.jB;have Kf:(om pZ j t.zs).length=l.length:=by rw[A9 (by omega)];exact Ak
   have UL:(om pZ j t.zs)[j]?=some ((min t.sz 401:Nat):Int):=by
    obtain⟨n',LO⟩:=t;simp only[Tr.zs,Tr.sz];exact GY (by omega)
   have Vc:=er UL;refine qq<|qD rfl (by rw[iZ]) ?_;refine zQ 13 ?_;obtain⟨_,st,aB,rfl,hH⟩:=ih t (by omega) kT.1 pW.left Ak hH;refine qv aB ?_;refine zQ 6 ?_;refine qi hH aN fun SS Mo=>?_;refine zQ 1 ?_;refine aa.eC (z:=((min ss 401+min t.sz 401:Nat):Int)) rfl (ev rfl) (ev rfl) (by rw[wrap_i64 (by omega) (by omega)]<;>omega) (by dsimp only[Fr.put,u1,u2]<;>rfl) ?_;refine aa.LG (z:=((min (ss+t.sz) 401:Nat):Int)) (t1:=_) (t2:=_) rfl (ev rfl) (ev rfl) (by omega) (by dsimp only[Fr.put,u1,u2]<;>rfl) ?_;refine zQ 6 ?_;exact⟨mm-1,by omega,⟨i+1,j+t.flat.length,ss+t.sz,ts,om pZ j t.zs,rfl,hH,by omega,by omega,pW.right,kT.2,by omega,Kf,by rw[←v_];have:=A6 (es:=pZ) (a:=j) (M:=t.zs) (M':=ts.zs) (by omega);rw[JJ] at this;exact this,by omega,by omega⟩⟩
theorem Ie {l:List dI} {d:D} (hl:l.length≤1048576) (hi:∀n∈l,n.ok) (hd:gd d 7 (l.map bf)):∀(m:Nat) (t:Tr),t.flat.length≤m→t.ok→∀{N:Nat} {S s0:St} {H:List a_} {out:D} {es:List Int} {at_:Nat},ga l at_ t.flat→es.length=l.length→Has N S s0 (.aC out 1 (es.map ax)::H)→
  ∃r ah,Ev pv 137 [d,out,.int .i64 (at_:Nat)] s0 r ah∧r=.int .i64 ((at_+t.flat.length:Nat):Int)∧Has N S ah (.aC out 1 ((om es at_ (t.es at_)).map ax)::H):=by
 intro m
 induction m with
 |zero=>intro t h;have:=t.i7;omega
 |succ m ih=>
  rintro⟨n,ks⟩ hm bq N S s0 H out es at_ kC sG hH;simp only[Tr.ok] at bq;obtain⟨lb,jt⟩:=bq;simp only[Tr.flat,List.length_cons] at hm;have hle:=kC.le (by simp[Tr.flat]);simp only[Tr.flat] at kC hle;simp only[List.length_cons] at hle;have hn:=kC.head;have kC:=kC.tail;have Mx:=hi n (List.mem_of_getElem? hn);have gm:=l_ hn;have K9:=lb.1;have mb:=bD.oS ks;refine Ev.gA rfl Oo rfl rfl rfl ?_;refine zE ?_;have bn:=hH;have hH:=hH.aW;have bh:(ae .rw s0).bs=s0.bs:=rfl;generalize ae .rw s0=S2 at*;have hc:=hd.arg N S2;refine zQ 15 ?_;refine qr fun SY Mt=>?_;refine qf (fo:=6) fun Uw Qx=>?_;refine zQ 4 ?_;refine ak.loop (fun mm fr st=>∃(i j:Nat) (rest:bD) (pZ:List Int),fr.clean=⟨16,[d,out,.int .i64 (at_:Nat),aM fr 3,aM fr 4,aM fr 5,.int .i64 0,.int .i64 (j:Nat),aM fr 8,aM fr 9,aM fr 10,aM fr 11,aM fr 12,aM fr 13,.int .i64 n.kids,.int .i64 (i:Nat)],[]⟩∧Has N S2 st (.aC out 1 (pZ.map ax)::H)∧(mm=rest.len)∧(i+rest.len=ks.len)∧(ga l j rest.flat)∧(rest.ok)∧(pZ.length=l.length)∧(om pZ j (rest.es j)=om es (at_+1) (ks.es (at_+1)))∧(j+rest.flat.length=at_+1+ks.flat.length)∧(rest.flat.length≤m)) (ks.len) ?_ ?_
  ·exact⟨0,at_+1,ks,es,rfl,hH,rfl,by omega,kC,jt,sG,rfl,rfl,by omega⟩
  rintro mm fr st ⟨i,j,rest,pZ,hfr,hH,y5,uI,pW,kT,Ak,v_,hj,JR⟩;rw[hfr];clear hfr;generalize aM fr=ee;clear fr;refine zQ 4 ?_
  cases rest with
  |nil=>
   simp only[bD.len] at uI;simp only[bD.flat,List.length_nil] at hj;simp only[bD.es,A8] at v_;have iZ:decide ((i:Int)<n.kids)=false:=by rw[decide_eq_false_iff_not];omega
   have jv:at_<pZ.length:=by omega
   obtain⟨w,hw⟩:∃w,pZ[at_]?=some w:=⟨pZ[at_]'jv,List.getElem?_eq_getElem _⟩
   have Vb:=er hw;refine qq<|qE rfl (by rw[iZ]) ?_;refine zQ 6 ?_;refine qi hH aN fun KW CT=>?_;refine aa.jE hH rfl (ev rfl) (ev rfl) (by assumption) rfl rfl (by exact aN) (by assumption) (Nat.le_of_ble_eq_true rfl) (by exact .inr rfl) (fun st hH=>?_);dsimp only[u2,u1,u3,u4,setMany,u5,u6,D.cells,Nat.reduceAdd,bf,ax] at hH;refine zQ 6 ?_;refine ak.ret ⟨rx,_,_,_,rfl,ag (rfl),?_⟩;have Kc:j=at_+(Tr.mk n ks).flat.length:=by simp only[Tr.flat,List.length_cons];omega
   refine⟨by rw[Kc];rfl,?_⟩
   have gD:om es at_ (Tr.es (.mk n ks) at_)=pZ.set at_ ((j:Nat):Int):=by
    rw[v_,A7 (by rw[bD.jG];omega)];have:j=at_+1+ks.flat.length:=by omega
    rw[this];rfl
   rw[gD,List.map_set];exact bn.ya bh hH
  |cons t ts=>
   simp only[bD.len] at uI y5;simp only[bD.flat,List.length_append] at hj pW JR;simp only[bD.es] at v_;simp only[bD.ok] at kT;have iZ:decide ((i:Int)<n.kids)=true:=by rw[decide_eq_true_eq];omega
   have U0:=t.i7;have JJ:=t.jG j;have JC:=ts.jG (j+t.flat.length);have Kf:(om pZ j (t.es j)).length=l.length:=by rw[A9 (by omega)];exact Ak
   refine qq<|qD rfl (by rw[iZ]) ?_;refine zQ 7 ?_;obtain⟨_,st,aB,rfl,hH⟩:=ih t (by omega) kT.1 pW.left Ak hH;refine qv aB ?_;refine zQ 6 ?_;exact⟨mm-1,by omega,⟨i+1,j+t.flat.length,ts,om pZ j (t.es j),rfl,hH,by omega,by omega,pW.right,kT.2,Kf,by rw[←v_];have:=A6 (es:=pZ) (a:=j) (M:=t.es j) (M':=ts.es (j+t.flat.length)) (by omega);rw[JJ] at this;exact this,by omega,by omega⟩⟩
theorem gS {N k:Nat} {S s0:St} {H:List a_} {ks:Nat→Prop} {cd nd zd ed w:D} {code:List aK} {op x y:Int} {rs:List Rg} (hF:S.flr≤N) (hl:code.length≤1048576) (hH:Has N S s0 (.aC w 2 (rs.map au)::.box k (.mem 0 false [cd,nd,zd,ed])::.deep ks cd 4 (code.map aT)::H)):
  ∃r ah,Ev pv 138 [.ptr k 0 0,.agg [.int .i64 op,.int .i64 x,.int .i64 y,w]] s0 r ah∧r=.int .i64 (code.length:Nat)∧∃TT LO,Has N S ah (.box k (.mem 0 false [TT,nd,zd,ed])::.deep LO TT 4 ((code++[de op x y rs]).map aT)::H):=by
 refine Ev.gA rfl On rfl rfl rfl ?_;refine zE ?_;change ak _ _ _ _ s0 _;refine zQ 2 ?_;refine qb hH fun k3 st tG hH=>?_;refine zQ 9 ?_;refine aa.aL (m:=4) hH rfl (ev rfl) (by exact aN) (by dsimp only[List.drop_succ_cons,List.drop_zero,List.take_succ_cons,List.take_zero,aT]<;>rfl) rfl rfl (ab rfl _) ?_;refine qh (s:=4) (vs:=[_]) hH fun k11 st MK hH=>?_;obtain⟨hH,Rj⟩:=hH.Gr (i:=2) (j:=4) (by decide) fm tw (fY _);dsimp only[u1,u2] at hH;refine aa.wH hH rfl (ev rfl) (ev rfl) tw (hH.rows aN) (.cons (.cons (.plain _ rfl) (.cons (.plain _ rfl) (.cons (.plain _ rfl) (.cons Rj .nil)))) .nil) rfl rfl rfl rfl rfl rfl rfl ⟨(Nat.le_of_ble_eq_true rfl),(Nat.le_of_ble_eq_true rfl)⟩ (fun _=>(ab rfl _)) (by simp only[List.length_map,List.length_cons,List.length_nil];omega) (.inl hF) (fun Xl st hH=>?_);dsimp only[u1,u2] at hH;refine zQ 2 ?_;refine aa.fe hH rfl (ev rfl) (ev rfl) (by exact hH.F3 (by exact tw)) (by exact rfl) (by exact gX) (by exact Nat.le_of_ble_eq_true rfl) (by exact .inl hF) (fun st hH=>?_);dsimp only[u2,u1,u3,u4,setMany,u5,u6,D.cells,Nat.reduceAdd,aT] at hH;refine zQ 7 ?_;refine aa.Dc hH rfl (ev rfl) (by exact tw) rfl (ab rfl _) ?_;simp only[List.length_map,List.length_append,List.length_cons,List.length_nil];refine aa.eY (z:=((code.length:Nat):Int)) rfl (ev rfl) (ev rfl) (by rw[wrap_i64 (by omega) (by omega)]<;>omega) (ab rfl _) ?_;refine zQ 2 ?_;refine ak.ret ⟨rx,_,_,_,rfl,rfl,?_⟩;exact⟨rfl,_,_,by rw[List.map_append];exact hH.drop 3⟩
theorem rn {N k:Nat} {S s0:St} {H:List a_} {ks:Nat→Prop} {cd nd zd ed:D} {code:List aK} {at_ over:Nat} {lz:Bool} {x y:Int} (jv:code[at_]?=some (de 2 x y [])) (hl:code.length≤1048576) (hH:Has N S s0 (.box k (.mem 0 false [cd,nd,zd,ed])::.deep ks cd 4 (code.map aT)::H)):
  ∃r ah,Ev pv 222 [.ptr k 0 0,.int .i64 (at_:Nat),.int .i64 (over:Nat),.bool lz] s0 r ah∧r=.tup []∧Has N S ah (.box k (.mem 0 false [cd,nd,zd,ed])::.deep ks cd 4 ((code.set at_ (ox at_ over lz)).map aT)::H):=by
 have hlt:=bo jv;have gm:(code.map aT)[at_]?=some [.int .i64 2,.int .i64 x,.int .i64 y,.sl []]:=gk jv;have gD:∀a b:List D,(code.map aT).set at_ a=(code.map aT).set at_ a:=fun _ _=>rfl;refine Ev.gA rfl NN rfl rfl rfl ?_;refine zE ?_;have bn:=hH;have hH:=hH.aW;have bh:(ae .rw s0).bs=s0.bs:=rfl;generalize ae .rw s0=S2 at*;refine zQ 13 ?_;refine aa.eC (z:=((at_+1:Nat):Int)) rfl (ev rfl) (ev rfl) (by rw[wrap_i64 (by omega) (by omega)]<;>omega) (ab rfl _) ?_;refine qm ?_;refine aa.F1 (s:=4) hH rfl (ev rfl) (ev rfl) (by exact bV) rfl rfl (by exact bo (by assumption)) (fun _=>(ab rfl _)) (fun OV HI=>?_);refine aa.gU (fo:=1) (m:=0) (o2:=1) rfl (ev rfl) (by assumption) rfl rfl rfl (fun _=>(ab rfl _)) (fun OU HH=>?_);refine aa.sX hH rfl (ev rfl) (ev rfl) (by assumption) rfl rfl (by exact bV) (by assumption) (Nat.le_of_ble_eq_true rfl) (by intro d hd;simp only[List.mem_cons,List.not_mem_nil,or_false] at hd;subst hd;rfl) (by exact .inr rfl) (fun st hH=>?_);dsimp only[u2,u1,u3,u4,setMany,u5,u6,D.cells,Nat.reduceAdd,aT] at hH;refine aa.F1 (s:=4) hH rfl (ev rfl) (ev rfl) (by exact bV) rfl rfl (by simp only[List.length_map,List.length_set]<;>omega) (fun _=>(ab rfl _)) (fun OT HG=>?_);refine aa.gU (fo:=2) (m:=0) (o2:=2) rfl (ev rfl) (by assumption) rfl rfl rfl (fun _=>(ab rfl _)) (fun Lv E7=>?_);refine aa.sX hH rfl (ev rfl) (ev rfl) (by assumption) rfl rfl (by exact bV) (List.getElem?_set_self (by simp only[List.length_map];omega)) (Nat.le_of_ble_eq_true rfl) (by intro d hd;simp only[List.mem_cons,List.not_mem_nil,or_false] at hd;subst hd;rfl) (by exact .inr rfl) (fun st hH=>?_);dsimp only[u1,u2,setMany] at hH;rw[List.set_set] at hH;refine zQ 5 ?_
 cases lz with
 |false=>
  refine zQ 2 ?_;refine⟨fun i h=>(by cases h),_,_,_,rfl,ag rfl,?_⟩;exact⟨rfl,by rw[List.map_set];exact bn.yc bh hH⟩
 |true=>
  refine zQ 14 ?_;refine aa.eC (z:=((at_+1:Nat):Int)) rfl (ev rfl) (ev rfl) (by rw[wrap_i64 (by omega) (by omega)]<;>omega) (ab rfl _) ?_;refine aa.F1 (s:=4) hH rfl (ev rfl) (ev rfl) (by exact bV) rfl rfl (by simp only[List.length_map,List.length_set]<;>omega) (fun _=>(ab rfl _)) (fun SO Ml=>?_);refine aa.gU (fo:=1) (m:=0) (o2:=1) rfl (ev rfl) (by assumption) rfl rfl rfl (fun _=>(ab rfl _)) (fun Ur Qu=>?_);refine aa.sX hH rfl (ev rfl) (ev rfl) (by assumption) rfl rfl (by exact bV) (List.getElem?_set_self (by simp only[List.length_map];omega)) (Nat.le_of_ble_eq_true rfl) (by intro d hd;simp only[List.mem_cons,List.not_mem_nil,or_false] at hd;subst hd;rfl) (by exact .inr rfl) (fun st hH=>?_);dsimp only[u1,u2,setMany] at hH;rw[List.set_set] at hH;refine aa.F1 (s:=4) hH rfl (ev rfl) (ev rfl) (by exact bV) rfl rfl (by simp only[List.length_map,List.length_set]<;>omega) (fun _=>(ab rfl _)) (fun Uq Qt=>?_);refine aa.gU (fo:=2) (m:=0) (o2:=2) rfl (ev rfl) (by assumption) rfl rfl rfl (fun _=>(ab rfl _)) (fun Up Qs=>?_);refine aa.sX hH rfl (ev rfl) (ev rfl) (by assumption) rfl rfl (by exact bV) (List.getElem?_set_self (by simp only[List.length_map];omega)) (Nat.le_of_ble_eq_true rfl) (by intro d hd;simp only[List.mem_cons,List.not_mem_nil,or_false] at hd;subst hd;rfl) (by exact .inr rfl) (fun st hH=>?_);dsimp only[u1,u2,setMany] at hH;rw[List.set_set] at hH;refine zQ 1 ?_;refine⟨fun i h=>(by cases h),_,_,_,rfl,ag rfl,?_⟩;exact⟨rfl,by rw[List.map_set];exact bn.yc bh hH⟩
def aw (fr:Go.V.Fr) (k:Nat):Go.V.D:=Go.V.nth .bj fr.loc k
def lC (n:Nat):List D:=[.int .i64 (n:Nat)]
theorem xX {l:List Nat} {i q:Nat} (h:l[i]?=some q):(l.map lC)[i]?=some (lC q):=by rw[List.getElem?_map,h];rfl
def Ld (N:Nat) (S st:St) (k:Nat) (nd zd ed:D) (Z E:List Int) (H:List a_) (code:List aK):Prop:=
 ∃cd ks,Has N S st (.box k (.mem 0 false [cd,nd,zd,ed])::.deep ks cd 4 (code.map aT)::.aC zd 1 (Z.map ax)::.aC ed 1 (E.map ax)::H)
def tj (l:List dI) (t:Tr):Prop:=∀{N k:Nat} {S s0:St} {H:List a_} {nd zd ed:D} {code:List aK} {Z E:List Int} {at_:Nat},S.flr≤N→gd nd 7 (l.map bf)→ga l at_ t.flat→ga Z at_ t.zs→ga E at_ (t.es at_)→t.ok→code.length+t.sz≤1000000→Ld N S s0 k nd zd ed Z E H code→
 ∃r ah,Ev pv 139 [.ptr k 0 0,.int .i64 (at_:Nat)] s0 r ah∧r=.tup []∧Ld N S ah k nd zd ed Z E H (code++aO t code.length)
theorem B2 {E:List Int} {t:Tr} {a:Nat} (h:ga E a (t.es a)):E[a]?=some ((a+t.flat.length:Nat):Int):=by
 obtain⟨n,ks⟩:=t;simp only[Tr.es] at h;rw[h.head];simp only[Tr.flat,List.length_cons]
 congr 2;omega
theorem AZ {Z:List Int} {t:Tr} {a:Nat} (h:ga Z a t.zs):Z[a]?=some ((min t.sz 401:Nat):Int):=by
 obtain⟨n,ks⟩:=t;simp only[Tr.zs] at h;rw[h.head];rfl
theorem KI {l:List dI} (tp:l.length≤1048576) {m:Nat} (ih:∀t:Tr,t.flat.length≤m→tj l t) {n:dI} {ks:bD} (gb:n.op=4) (QL:ks.flat.length≤m) (lb:xV n ks.len) (jt:ks.ok) {N k:Nat} {S s0:St} {H:List a_} {nd zd ed:D} {code:List aK} {Z E:List Int} {at_:Nat} (hF:S.flr≤N) (Ag:gd nd 7 (l.map bf)) (ka:ga l at_ (n::ks.flat)) (hsz:ga Z (at_+1) ks.zs) (sC:ga E (at_+1) (ks.es (at_+1))) (hb:code.length+bH n ks.sz ks.len≤1000000) (hM:Ld N S s0 k nd zd ed Z E H code):
  ∃r ah,Ev pv 190 [.ptr k 0 0,.int .i64 (at_:Nat)] s0 r ah∧r=.tup []∧Ld N S ah k nd zd ed Z E H (code++eT (nK (code.length+bH n ks.sz ks.len)) ks code.length):=by
 obtain⟨cd,dk,hH⟩:=hM;have hle:=ka.le (by simp);simp only[List.length_cons] at hle;have hn:=ka.head;have ka:=ka.tail;have gm:=l_ hn;have K9:=lb.1;have j4:=bD.oS ks
 have hk2:2≤ks.len:=by
  obtain⟨_,hq⟩:=lb;omega
 have HL:bH n ks.sz ks.len=ks.sz+2*(ks.len-1):=by unfold bH;rw[if_neg (by omega),if_pos gb]
 rw[HL] at hb⊢;clear HL;refine Ev.gA rfl NY rfl rfl rfl ?_;refine zE ?_;change ak _ _ _ _ s0 _;have hc:=Ag.arg N S;refine zQ 18 ?_;refine qr fun PG JZ=>?_;refine qf (fo:=6) fun OW HJ=>?_;refine zQ 3 ?_;have hH:Has N S s0 (.box k (.mem 0 false [cd,nd,zd,ed])::.deep dk cd 4 (code.map aT)::.aC zd 1 (Z.map ax)::.aC ed 1 (E.map ax)::.aC .nul 1 (([]:List Nat).map lC)::H):=(hH.gf 1).G5;refine zQ 1 ?_;refine ak.loop (fun mm fr st=>∃(i j:Nat) (rest:bD) (cd jd:D) (dk:Nat→Prop) (aV:List aK) (js:List Nat),fr.clean=⟨68,[.ptr k 0 0,.int .i64 (at_:Nat),aw fr 2,aw fr 3,jd,.int .i64 (j:Nat),aw fr 6,aw fr 7,aw fr 8,aw fr 9,aw fr 10,aw fr 11,aw fr 12,aw fr 13,aw fr 14,aw fr 15,aw fr 16,aw fr 17,aw fr 18,.int .i64 n.kids,.int .i64 (i:Nat),aw fr 21,aw fr 22,aw fr 23,aw fr 24,aw fr 25,aw fr 26,aw fr 27,aw fr 28,aw fr 29,aw fr 30,aw fr 31,aw fr 32,aw fr 33,aw fr 34,aw fr 35,aw fr 36,aw fr 37,aw fr 38,aw fr 39,aw fr 40,aw fr 41,aw fr 42,aw fr 43,aw fr 44,aw fr 45,aw fr 46,aw fr 47,aw fr 48,aw fr 49,aw fr 50,aw fr 51,aw fr 52,aw fr 53,aw fr 54,aw fr 55,aw fr 56,aw fr 57,aw fr 58,aw fr 59,aw fr 60,aw fr 61,aw fr 62,aw fr 63,aw fr 64,aw fr 65,aw fr 66,aw fr 67],[]⟩∧Has N S st (.box k (.mem 0 false [cd,nd,zd,ed])::.deep dk cd 4 (aV.map aT)::.aC zd 1 (Z.map ax)::.aC ed 1 (E.map ax)::.aC jd 1 (js.map lC)::H)∧(mm=rest.len)∧(i+rest.len=ks.len)∧(0<rest.len)∧(ga l j rest.flat)∧(ga Z j rest.zs)∧(ga E j (rest.es j))∧(rest.ok)∧(aV++eT (nK 0) rest aV.length=code++eT (nK 0) ks code.length)∧(js++te rest aV.length=te ks code.length)∧(aV.length+(rest.sz+2*(rest.len-1))=code.length+(ks.sz+2*(ks.len-1)))∧(rest.flat.length≤m)∧(js.length≤i)) (ks.len) ?_ ?_
 ·exact⟨0,at_+1,ks,cd,.nul,dk,code,[],rfl,hH,rfl,by omega,by omega,ka,hsz,sC,jt,rfl,rfl,rfl,QL,by simp⟩
 rintro mm fr st ⟨i,j,rest,cd,jd,dk,aV,js,hfr,hH,y5,uI,Md,pW,yl,pV,kT,iY,hjs,hcl,JR,oo⟩;rw[hfr];clear hfr;generalize aw fr=ee;clear fr;refine zQ 4 ?_
 cases rest with
 |nil=>simp[bD.len] at Md
 |cons t ts=>
  simp only[bD.len] at uI y5 hcl;simp only[bD.sz] at hcl;simp only[bD.flat,List.length_append] at pW JR;simp only[bD.zs] at yl;simp only[bD.es] at pV;simp only[bD.ok] at kT;have JJ:=t.jB;have L5:=t.jG j;have CO:=cG t (aV.length+1) kT.1;have Qf:=er (B2 pV.left);have iZ:decide ((i:Int)<n.kids)=true:=by rw[decide_eq_true_eq];omega
  refine qq<|qD rfl (by rw[iZ]) ?_;refine zQ 17 ?_;refine qr fun SS Mo=>?_;refine qf (fo:=6) fun SR Mn=>?_;refine qR ?_;refine aa.eY (z:=((ks.len-1:Nat):Int)) rfl (ev rfl) (ev rfl) (by rw[wrap_i64 (by omega) (by omega)]<;>omega) (by dsimp only[Fr.put,u1,u2]<;>rfl) ?_;refine zQ 2 ?_
  by_cases pJ:ts.len=0
  ·simp only[eT,te,if_pos pJ,List.append_nil] at iY hjs;have U1:=bD.len_nil pJ;subst U1;simp only[bD.sz,bD.len] at hcl uI;have Ki:(((i:Nat):Int)==((ks.len-1:Nat):Int))=true:=by rw[beq_iff_eq];omega
   refine qD rfl (by rw[Ki]) ?_;refine zQ 4 ?_;obtain⟨_,st,aB,rfl,cd,dk,hH⟩:=ih t (by omega) hF Ag pW.left yl.left pV.left kT.1 (by omega) ⟨cd,dk,hH⟩;refine qv aB ?_;refine zQ 5 ?_;refine qn ?_ (hR:=hH.rows tw);simp only[List.length_map];refine zQ 2 ?_;rw[iY] at hH;have hal:=tb (nK 0) ks code.length jt;obtain⟨Du,GI⟩:=pe (jp:=nK (code.length+(ks.sz+2*(ks.len-1)))) (i0:=nK 0) ks code.length code [] jt rfl;simp only[List.append_nil] at Du GI;have Rx:(code++eT (nK 0) ks code.length).length=code.length+(ks.sz+2*(ks.len-1)):=by rw[List.length_append,hal]
   rw[←hjs] at Du GI;rw[←Du];clear Du iY;generalize code++eT (nK 0) ks code.length=C0 at*;generalize code.length+(ks.sz+2*(ks.len-1))=e at*;refine zQ 1 ?_;refine ak.loop (fun mm fr st=>∃(q:Nat) (C:List aK),fr.clean=⟨68,[.ptr k 0 0,aw fr 1,aw fr 2,aw fr 3,aw fr 4,aw fr 5,aw fr 6,aw fr 7,aw fr 8,aw fr 9,aw fr 10,aw fr 11,aw fr 12,aw fr 13,aw fr 14,aw fr 15,aw fr 16,aw fr 17,aw fr 18,aw fr 19,aw fr 20,aw fr 21,aw fr 22,aw fr 23,aw fr 24,aw fr 25,aw fr 26,aw fr 27,aw fr 28,aw fr 29,aw fr 30,aw fr 31,aw fr 32,aw fr 33,aw fr 34,aw fr 35,aw fr 36,aw fr 37,aw fr 38,aw fr 39,aw fr 40,aw fr 41,aw fr 42,aw fr 43,aw fr 44,aw fr 45,aw fr 46,aw fr 47,aw fr 48,aw fr 49,aw fr 50,aw fr 51,aw fr 52,aw fr 53,aw fr 54,aw fr 55,aw fr 56,aw fr 57,aw fr 58,aw fr 59,aw fr 60,aw fr 61,aw fr 62,aw fr 63,aw fr 64,jd,.int .i64 (js.length:Nat),.int .i64 (q:Nat)],[]⟩∧Has N S st (.box k (.mem 0 false [cd,nd,zd,ed])::.deep dk cd 4 (C.map aT)::.aC zd 1 (Z.map ax)::.aC ed 1 (E.map ax)::.aC jd 1 (js.map lC)::H)∧(q+mm=js.length)∧(iO (fun _=>nK e) C (js.drop q)=iO (fun _=>nK e) C0 js)∧(∀p∈js,∃v:Int,C[p]?=some (de 3 v 0 []))∧(C.length=e)) (js.length) ?_ ?_
   ·exact⟨0,C0,rfl,hH,by omega,rfl,fun p hp=>⟨_,GI p hp⟩,Rx⟩
   rintro mm fr st ⟨q,C,hfr,hH,hq,fy,nQ,Lc⟩;rw[hfr];clear hfr;generalize aw fr=ee;clear fr;refine zQ 5 ?_;refine zP (fun hlt=>?_) fun hlt=>?_
   ·refine zQ 1 ?_;have GG:q<js.length:=by omega
    obtain⟨p,hp⟩:∃p,js[q]?=some p:=⟨js[q]'GG,List.getElem?_eq_getElem _⟩
    obtain⟨v,hv⟩:=nQ p (List.mem_of_getElem? hp);have gm:=xX hp;have mA:=gk hv;have jL:=bo hv;refine zQ 4 ?_;refine qi hH tw fun Ul Qp=>?_;refine zQ 13 ?_;refine aa.Dc hH rfl (ev rfl) (by exact bV) rfl (ab rfl _) ?_;simp only[List.length_map];refine aa.F1 (s:=4) hH rfl (ev rfl) (ev rfl) (by exact bV) rfl rfl (by exact bo (by assumption)) (fun _=>(ab rfl _)) (fun Ui Qm=>?_);refine aa.gU (fo:=1) (m:=0) (o2:=1) rfl (ev rfl) (by assumption) rfl rfl rfl (fun _=>(ab rfl _)) (fun Xx Vo=>?_);refine aa.sX hH rfl (ev rfl) (ev rfl) (by assumption) rfl rfl (by exact bV) (by assumption) (Nat.le_of_ble_eq_true rfl) (by intro d hd;simp only[List.mem_cons,List.not_mem_nil,or_false] at hd;subst hd;rfl) (by exact .inl hF) (fun st hH=>?_);dsimp only[u2,u1,u3,u4,setMany,u5,u6,D.cells,Nat.reduceAdd,aT,bf,ax,lC] at hH;refine zQ 5 ?_
    have yu:js.drop q=p::js.drop (q+1):=by
     rw[List.drop_eq_getElem_cons GG]
     congr 1
     exact Option.some.inj ((List.getElem?_eq_getElem _).symm.trans hp)
    refine⟨mm-1,by omega,⟨q+1,C.set p (nK e),rfl,(by rw[List.map_set,←Lc];exact hH),by omega,by rw[yu] at fy;exact fy,?_,by rw[List.length_set];exact Lc⟩⟩;intro p' we
    by_cases hpp:p'=p
    ·subst hpp;exact⟨_,List.getElem?_set_self jL⟩
    ·rw[List.getElem?_set_ne (fun e=>hpp e.symm)];exact nQ p' we
   ·refine zQ 1 ?_;refine⟨fun i h=>(by cases h),_,_,_,rfl,rfl,?_⟩;have HB:q=js.length:=by omega
    rw[HB,List.drop_length] at fy;have fy:C=iO (fun _=>nK e) C0 js:=fy;rw[←fy];exact⟨rfl,cd,dk,hH.erase 4⟩
  ·simp only[eT,te,if_neg pJ] at iY hjs;have Ki:(((i:Nat):Int)==((ks.len-1:Nat):Int))=false:=by rw[beq_eq_false_iff_ne];omega
   refine qE rfl (by rw[Ki]) ?_;refine zQ 4 ?_;refine aa.go (d:=.agg [.int .i64 2,.int .i64 0,.int .i64 0,.nul]) (st1:=_) rfl rfl rfl (by dsimp only[Fr.put,u1,u2]<;>rfl) ?_;have hH:=hH.gf 2;obtain⟨_,st,aB,rfl,cd,dk,hH⟩:=gS (rs:=[]) hF (by omega) hH;refine qv aB ?_;refine zQ 2 ?_;have mX:(aV++[de 2 0 0 []]).length=aV.length+1:=by simp
   refine zQ 4 ?_;obtain⟨_,st,aB,rfl,cd,dk,hH⟩:=ih t (by omega) hF Ag pW.left yl.left pV.left kT.1 (by omega) ⟨cd,dk,hH⟩;refine qv aB ?_;refine zQ 1 ?_;rw[mX] at hH;have mW:(aV++[de 2 0 0 []]++aO t (aV.length+1)).length=aV.length+1+t.sz:=by rw[List.length_append,mX,CO]
   refine zQ 4 ?_;refine aa.go (d:=.agg [.int .i64 3,.int .i64 0,.int .i64 0,.nul]) (st1:=_) rfl rfl rfl (by dsimp only[Fr.put,u1,u2]<;>rfl) ?_;have hH:=hH.gf 2;obtain⟨_,st,aB,rfl,cd,dk,hH⟩:=gS (rs:=[]) hF (by omega) hH;refine qv aB ?_;refine qh (s:=1) (vs:=[_]) hH fun k47 st QR hH=>?_;refine qP hH Dz (hH.rows aN) fun Le st hH=>?_;dsimp only[u2,u1,u3,u4,setMany,u5,u6,D.cells,Nat.reduceAdd,aT,bf,ax,lC] at hH;refine zQ 2 ?_;have hH:=hH.drop 1
   have Kl:(aV++[de 2 0 0 []]++aO t (aV.length+1)++[de 3 0 0 []])[aV.length]?=some (de 2 0 0 []):=by
    rw[List.append_assoc,List.append_assoc];exact ra _ _ _
   have Fu:(aV++[de 2 0 0 []]++aO t (aV.length+1)++[de 3 0 0 []]).length=aV.length+1+t.sz+1:=by rw[List.length_append,mW];rfl
   have Hw:(aV++[de 2 0 0 []]++aO t (aV.length+1)++[de 3 0 0 []]).set aV.length (ox aV.length (aV.length+1+t.sz+1) false)=aV++(ox aV.length (aV.length+1+t.sz+1) false::(aO t (aV.length+1)++[nK 0])):=by
    rw[List.append_assoc,List.append_assoc];exact qK _ _ _ _
   have HX:(aV++(ox aV.length (aV.length+1+t.sz+1) false::(aO t (aV.length+1)++[nK 0]))).length=aV.length+t.sz+2:=by rw[←Hw,List.length_set,Fu];omega
   generalize aV++[de 2 0 0 []]++aO t (aV.length+1)++[de 3 0 0 []]=F6 at*;refine zQ 8 ?_;refine aa.Dc hH rfl (ev rfl) (by exact bV) rfl (by dsimp only[Fr.put,u1,u2]<;>rfl) ?_;simp only[List.length_map,List.length_append,List.length_cons,List.length_nil];obtain⟨_,st,aB,rfl,hH⟩:=rn (at_:=aV.length) (over:=F6.length) (lz:=false) Kl (by omega) hH;refine qv aB ?_;refine zQ 1 ?_;rw[Fu,Hw] at hH;refine zQ 6 ?_;refine qi hH gX fun XF Vw=>?_;refine zQ 7 ?_;exact⟨mm-1,by omega,⟨i+1,j+t.flat.length,ts,cd,Le,dk,aV++(ox aV.length (aV.length+1+t.sz+1) false::(aO t (aV.length+1)++[nK 0])),js++[aV.length+1+t.sz],rfl,(by rw[List.map_append (f:=lC)];rw[mW] at hH;exact hH),by omega,by omega,by omega,pW.right,by rw[←JJ];exact yl.right,by rw[←L5];rw[←L5] at pV;exact pV.right,kT.2,by rw[HX,←iY];simp only[List.append_assoc,List.cons_append,List.nil_append],by rw[HX,←hjs];simp only[List.append_assoc,List.cons_append,List.nil_append],by rw[HX];omega,by omega,by rw[List.length_append];simp only[List.length_cons,List.length_nil];omega⟩⟩
def af (fr:Go.V.Fr) (k:Nat):Go.V.D:=Go.V.nth .bj fr.loc k
theorem tZ {c:Nat→List aK} (hc:∀b,(c b).length=0) (z:Nat):∀k b,fO c z k b=[]
 |0,_=>rfl
 |k+1,b=>by rw[fO,tZ hc z k,List.length_eq_zero_iff.1 (hc b)];rfl
theorem DS (s o:Nat) (lz:Bool):∃x y:Int,ox s o lz=de 2 x y []:=by
 cases lz
 ·exact⟨_,_,rfl⟩
 ·exact⟨_,_,rfl⟩
theorem Cw {l:List dI} (tp:l.length≤1048576) {m:Nat} (ih:∀t:Tr,t.flat.length≤m→tj l t) {n:dI} {t:Tr} (gb:n.op=5) (QL:t.flat.length≤m) (lb:xV n 1) (tF:t.ok) {N k:Nat} {S s0:St} {H:List a_} {nd zd ed:D} {code:List aK} {Z E:List Int} {at_:Nat} (hF:S.flr≤N) (Ag:gd nd 7 (l.map bf)) (ka:ga l at_ (n::t.flat)) (hsz:ga Z (at_+1) t.zs) (sC:ga E (at_+1) (t.es (at_+1))) (hb:code.length+bH n t.sz 1≤1000000) (hM:Ld N S s0 k nd zd ed Z E H code):
  ∃r ah,Ev pv 191 [.ptr k 0 0,.int .i64 (at_:Nat)] s0 r ah∧r=.tup []∧Ld N S ah k nd zd ed Z E H (code++oB n (aO t) t.sz code.length):=by
 obtain⟨cd,dk,hH⟩:=hM;have hle:=ka.le (by simp);simp only[List.length_cons] at hle;have hn:=ka.head;have ka:=ka.tail;have gm:=l_ hn;have mA:=er (AZ hsz)
 have Dw:0≤n.mn∧n.mn≤30∧(n.mx=-1∨(n.mn≤n.mx∧n.mx≤30)):=by
  obtain⟨_,hq⟩:=lb;omega
 have HL:bH n t.sz 1=if n.mx=-1 then n.mn.toNat*t.sz+t.sz+2 else n.mn.toNat*t.sz+(n.mx.toNat-n.mn.toNat)*(t.sz+1):=by unfold bH;rw[if_neg (by omega),if_neg (by omega),if_neg (by omega),if_pos gb]
 rw[HL] at hb;clear HL;have CO:=fun b=>cG t b tF;have hb1:code.length+n.mn.toNat*t.sz≤1000000:=by split at hb<;>omega
 refine Ev.gA rfl NX rfl rfl rfl ?_;refine zE ?_;change ak _ _ _ _ s0 _;have hc:=Ag.arg N S;refine zQ 7 ?_;refine qr fun PH J0=>?_;refine aa.cV rfl (ev rfl) (by assumption) rfl (by dsimp only[Fr.put,u1,u2]<;>rfl) ?_;refine zQ 2 ?_;refine qa hH fun k4 st La hH=>?_;refine qS hH aN fun st hH=>?_;dsimp only[u2,u1,u3,u4,setMany,u5,u6,D.cells,Nat.reduceAdd,aT,bf,ax,lC] at hH;refine zQ 2 ?_;have hH:Has N S st (.box k (.mem 0 false [cd,nd,zd,ed])::.deep dk cd 4 (code.map aT)::.aC zd 1 (Z.map ax)::.aC ed 1 (E.map ax)::.box k4 (.mem 0 false (bf n))::H):=hH.G5;refine zQ 8 ?_;refine qi hH fm fun Lv E7=>?_;refine zQ 3 ?_;have TM:=jQ CO n.mn.toNat code.length;refine ak.merge (fun fr st=>∃(cd:D) (dk:Nat→Prop) (tmp:List (Nat×D)),fr=⟨78,[.ptr k 0 0,.int .i64 (at_:Nat),af fr 2,af fr 3,.ptr k4 0 0,.int .i64 ((at_+1:Nat):Int),af fr 6,af fr 7,af fr 8,af fr 9,af fr 10,af fr 11,af fr 12,af fr 13,af fr 14,af fr 15,af fr 16,af fr 17,af fr 18,af fr 19,af fr 20,af fr 21,af fr 22,af fr 23,af fr 24,af fr 25,af fr 26,af fr 27,af fr 28,af fr 29,af fr 30,af fr 31,af fr 32,af fr 33,af fr 34,af fr 35,af fr 36,af fr 37,af fr 38,af fr 39,af fr 40,af fr 41,af fr 42,af fr 43,af fr 44,af fr 45,af fr 46,af fr 47,af fr 48,af fr 49,af fr 50,af fr 51,af fr 52,af fr 53,af fr 54,af fr 55,af fr 56,af fr 57,af fr 58,af fr 59,af fr 60,af fr 61,af fr 62,af fr 63,af fr 64,af fr 65,af fr 66,af fr 67,af fr 68,af fr 69,af fr 70,af fr 71,af fr 72,af fr 73,af fr 74,af fr 75,af fr 76,af fr 77],tmp⟩∧Has N S st (.box k (.mem 0 false [cd,nd,zd,ed])::.deep dk cd 4 ((code++fO (aO t) t.sz n.mn.toNat code.length).map aT)::.aC zd 1 (Z.map ax)::.aC ed 1 (E.map ax)::.box k4 (.mem 0 false (bf n))::H)) ?_ ?_
 ·refine zP (fun hz=>?_) fun hz=>?_
  ·refine zQ 7 ?_;refine ak.loop (fun mm fr st=>∃(i:Nat) (cd:D) (dk:Nat→Prop) (aV:List aK),fr.clean=⟨78,[.ptr k 0 0,.int .i64 (at_:Nat),af fr 2,af fr 3,.ptr k4 0 0,.int .i64 ((at_+1:Nat):Int),af fr 6,af fr 7,af fr 8,af fr 9,af fr 10,af fr 11,af fr 12,af fr 13,af fr 14,af fr 15,af fr 16,af fr 17,af fr 18,af fr 19,af fr 20,af fr 21,af fr 22,af fr 23,af fr 24,af fr 25,af fr 26,af fr 27,.int .i64 n.mn,.int .i64 (i:Nat),af fr 30,af fr 31,af fr 32,af fr 33,af fr 34,af fr 35,af fr 36,af fr 37,af fr 38,af fr 39,af fr 40,af fr 41,af fr 42,af fr 43,af fr 44,af fr 45,af fr 46,af fr 47,af fr 48,af fr 49,af fr 50,af fr 51,af fr 52,af fr 53,af fr 54,af fr 55,af fr 56,af fr 57,af fr 58,af fr 59,af fr 60,af fr 61,af fr 62,af fr 63,af fr 64,af fr 65,af fr 66,af fr 67,af fr 68,af fr 69,af fr 70,af fr 71,af fr 72,af fr 73,af fr 74,af fr 75,af fr 76,af fr 77],[]⟩∧Has N S st (.box k (.mem 0 false [cd,nd,zd,ed])::.deep dk cd 4 (aV.map aT)::.aC zd 1 (Z.map ax)::.aC ed 1 (E.map ax)::.box k4 (.mem 0 false (bf n))::H)∧(i+mm=n.mn.toNat)∧(aV++fO (aO t) t.sz mm aV.length=code++fO (aO t) t.sz n.mn.toNat code.length)∧(aV.length+mm*t.sz=code.length+n.mn.toNat*t.sz)) (n.mn.toNat) ?_ ?_
   ·exact⟨0,cd,dk,code,rfl,hH,by omega,rfl,rfl⟩
   rintro mm fr st ⟨i,cd,dk,aV,hfr,hH,hi,mI,hcl⟩;rw[hfr];clear hfr;generalize af fr=ee;clear fr;refine zQ 4 ?_
   cases mm with
   |zero=>
    have iZ:decide ((i:Int)<n.mn)=false:=by rw[decide_eq_false_iff_not];omega
    refine qq<|qE rfl (by rw[iZ]) ?_;simp only[fO,List.append_nil] at mI;rw[mI] at hH;refine zQ 1 ?_;exact⟨cd,dk,_,rfl,hH⟩
   |succ mm=>
    have iZ:decide ((i:Int)<n.mn)=true:=by rw[decide_eq_true_eq];omega
    rw[Nat.succ_mul] at hcl;refine qq<|qD rfl (by rw[iZ]) ?_;refine zQ 6 ?_;obtain⟨_,st,aB,rfl,cd,dk,hH⟩:=ih t (by omega) hF Ag ka hsz sC tF (by omega) ⟨cd,dk,hH⟩;refine qv aB ?_;refine zQ 5 ?_;exact⟨mm,by omega,⟨i+1,cd,dk,aV++aO t aV.length,rfl,hH,by omega,by rw[List.length_append,CO,List.append_assoc];exact mI,by rw[List.length_append,CO];omega⟩⟩
  ·refine zQ 1 ?_;have hz0:t.sz=0:=by omega
   have WH:fO (aO t) t.sz n.mn.toNat code.length=[]:=tZ (fun b=>by rw[CO,hz0]) _ _ _;exact⟨cd,dk,_,rfl,(by rw[WH,List.append_nil];exact hH)⟩
 ·rintro fr st ⟨cd,dk,tmp,hfr,hH⟩;rw[hfr];clear hfr;generalize af fr=ee;clear fr;have O':(code++fO (aO t) t.sz n.mn.toNat code.length).length=code.length+n.mn.toNat*t.sz:=by rw[List.length_append,TM]
  unfold oB;rw[←O'];rw[←O'] at hb1
  have hb2:if n.mx=-1 then(code++fO (aO t) t.sz n.mn.toNat code.length).length+t.sz+2≤1000000 else(code++fO (aO t) t.sz n.mn.toNat code.length).length+(n.mx.toNat-n.mn.toNat)*(t.sz+1)≤1000000:=by
   rw[O'];split
   ·rename_i h;rw[if_pos h] at hb;omega
   ·rename_i h;rw[if_neg h] at hb;omega
  have H3:∀X:List aK,code++(fO (aO t) t.sz n.mn.toNat code.length++X)=code++fO (aO t) t.sz n.mn.toNat code.length++X:=fun X=>by rw[List.append_assoc]
  simp only[apply_ite (fun X:List aK=>code++X),H3];clear H3 O';generalize code++fO (aO t) t.sz n.mn.toNat code.length=cR at*;refine zQ 7 ?_
  by_cases Ea:n.mx=-1
  ·rw[if_pos Ea];rw[if_pos Ea] at hb2;refine qD rfl (by simp[Ea]) ?_;refine zQ 3 ?_;refine aa.go (d:=.agg [.int .i64 2,.int .i64 0,.int .i64 0,.nul]) (st1:=_) rfl rfl rfl (by dsimp only[Fr.put,u1,u2]<;>rfl) ?_;have hH:=hH.gf 2;obtain⟨_,st,aB,rfl,cd,dk,hH⟩:=gS (rs:=[]) hF (by omega) hH;refine qv aB ?_;refine zQ 2 ?_;have mX:(cR++[de 2 0 0 []]).length=cR.length+1:=by simp
   refine zQ 4 ?_;obtain⟨_,st,aB,rfl,cd,dk,hH⟩:=ih t (by omega) hF Ag ka hsz sC tF (by omega) ⟨cd,dk,hH⟩;refine qv aB ?_;refine zQ 1 ?_;rw[mX] at hH;have mW:(cR++[de 2 0 0 []]++aO t (cR.length+1)).length=cR.length+1+t.sz:=by rw[List.length_append,mX,CO]
   refine zQ 4 ?_;refine aa.go (d:=.agg [.int .i64 3,.int .i64 (cR.length:Nat),.int .i64 0,.nul]) (st1:=_) rfl rfl rfl (by dsimp only[Fr.put,u1,u2]<;>rfl) ?_;have hH:=hH.gf 2;obtain⟨_,st,aB,rfl,cd,dk,hH⟩:=gS (rs:=[]) hF (by omega) hH;refine qv aB ?_;refine zQ 1 ?_
   have Kl:(cR++[de 2 0 0 []]++aO t (cR.length+1)++[de 3 (cR.length:Nat) 0 []])[cR.length]?=some (de 2 0 0 []):=by
    rw[List.append_assoc,List.append_assoc];exact ra _ _ _
   have Fu:(cR++[de 2 0 0 []]++aO t (cR.length+1)++[de 3 (cR.length:Nat) 0 []]).length=cR.length+t.sz+2:=by rw[List.length_append,mW];simp only[List.length_cons,List.length_nil];omega
   have Hw:(cR++[de 2 0 0 []]++aO t (cR.length+1)++[de 3 (cR.length:Nat) 0 []]).set cR.length (ox cR.length (cR.length+t.sz+2) n.lz)=cR++(ox cR.length (cR.length+t.sz+2) n.lz::(aO t (cR.length+1)++[nK cR.length])):=by
    rw[List.append_assoc,List.append_assoc];exact qK _ _ _ _
   generalize cR++[de 2 0 0 []]++aO t (cR.length+1)++[de 3 (cR.length:Nat) 0 []]=F6 at*;refine zQ 8 ?_;refine aa.Dc hH rfl (ev rfl) (by exact bV) rfl (by dsimp only[Fr.put,u1,u2]<;>rfl) ?_;simp only[List.length_map,List.length_append,List.length_cons,List.length_nil];refine zQ 2 ?_;obtain⟨_,st,aB,rfl,hH⟩:=rn (at_:=cR.length) (over:=F6.length) (lz:=n.lz) Kl (by omega) hH;refine qv aB ?_;refine zQ 1 ?_;rw[Fu,Hw] at hH;refine ak.ret ⟨rx,_,_,_,rfl,rfl,?_⟩;exact⟨rfl,cd,dk,hH.erase 4⟩
  ·rw[if_neg Ea];rw[if_neg Ea] at hb2;refine qE rfl (by simp[Ea]) ?_;refine zQ 1 ?_;obtain⟨a,ha⟩:∃a:Nat,n.mn=(a:Int):=Int.eq_ofNat_of_zero_le Dw.1;obtain⟨b,M6⟩:∃b:Nat,n.mx=(b:Int):=Int.eq_ofNat_of_zero_le (by omega);have Ri:n.mx.toNat-n.mn.toNat=b-a:=by omega
   rw[Ri] at hb2⊢;refine zQ 11 ?_;refine aa.eY (z:=((b-a:Nat):Int)) rfl (ev rfl) (ev rfl) (by rw[wrap_i64 (by omega) (by omega)]<;>omega) (by dsimp only[Fr.put,u1,u2]<;>rfl) ?_;refine zQ 2 ?_;have hH:Has N S st (.box k (.mem 0 false [cd,nd,zd,ed])::.deep dk cd 4 (cR.map aT)::.aC zd 1 (Z.map ax)::.aC ed 1 (E.map ax)::.aC .nul 1 (([]:List Nat).map lC)::.box k4 (.mem 0 false (bf n))::H):=(hH.gf 1).G5;refine zQ 1 ?_;refine ak.loop (fun mm fr st=>∃(i:Nat) (cd jd:D) (dk:Nat→Prop) (aV:List aK) (js:List Nat),fr.clean=⟨78,[.ptr k 0 0,.int .i64 (at_:Nat),af fr 2,af fr 3,.ptr k4 0 0,.int .i64 ((at_+1:Nat):Int),af fr 6,jd,af fr 8,af fr 9,af fr 10,af fr 11,af fr 12,af fr 13,af fr 14,af fr 15,af fr 16,af fr 17,af fr 18,af fr 19,af fr 20,af fr 21,af fr 22,af fr 23,af fr 24,af fr 25,af fr 26,af fr 27,af fr 28,af fr 29,af fr 30,af fr 31,af fr 32,af fr 33,af fr 34,af fr 35,af fr 36,af fr 37,af fr 38,af fr 39,af fr 40,af fr 41,af fr 42,af fr 43,af fr 44,af fr 45,af fr 46,af fr 47,af fr 48,af fr 49,af fr 50,af fr 51,af fr 52,af fr 53,af fr 54,af fr 55,af fr 56,af fr 57,af fr 58,af fr 59,af fr 60,af fr 61,.int .i64 ((b-a:Nat):Int),.int .i64 (i:Nat),af fr 64,af fr 65,af fr 66,af fr 67,af fr 68,af fr 69,af fr 70,af fr 71,af fr 72,af fr 73,af fr 74,af fr 75,af fr 76,af fr 77],[]⟩∧Has N S st (.box k (.mem 0 false [cd,nd,zd,ed])::.deep dk cd 4 (aV.map aT)::.aC zd 1 (Z.map ax)::.aC ed 1 (E.map ax)::.aC jd 1 (js.map lC)::.box k4 (.mem 0 false (bf n))::H)∧(i+mm=b-a)∧(aV++fx (fun _=>de 2 0 0 []) (aO t) t.sz mm aV.length=cR++fx (fun _=>de 2 0 0 []) (aO t) t.sz (b-a) cR.length)∧(js++xM t.sz mm aV.length=xM t.sz (b-a) cR.length)∧(aV.length+mm*(t.sz+1)=cR.length+(b-a)*(t.sz+1))∧(js.length=i)) (b-a) ?_ ?_
   ·exact⟨0,cd,.nul,dk,cR,[],rfl,hH,by omega,rfl,rfl,rfl,rfl⟩
   rintro mm fr st ⟨i,cd,jd,dk,aV,js,hfr,hH,hi,iY,hjs,hcl,oo⟩;rw[hfr];clear hfr;generalize af fr=ee;clear fr;refine zQ 4 ?_
   cases mm with
   |zero=>
    have iZ:decide ((i:Int)<((b-a:Nat):Int))=false:=by rw[decide_eq_false_iff_not];omega
    refine qq<|qE rfl (by rw[iZ]) ?_;refine zQ 4 ?_;refine qn ?_ (hR:=hH.rows tw);simp only[List.length_map];refine zQ 2 ?_;simp only[fx,xM,List.append_nil] at iY hjs;rw[iY] at hH;obtain⟨Du,GI⟩:=oK (sp:=fun s=>ox s (cR.length+(b-a)*(t.sz+1)) n.lz) CO (i0:=de 2 0 0 []) (b-a) cR.length cR [] rfl;simp only[List.append_nil] at Du GI;have Rx:(cR++fx (fun _=>de 2 0 0 []) (aO t) t.sz (b-a) cR.length).length=cR.length+(b-a)*(t.sz+1):=by rw[List.length_append,rM CO]
    rw[←hjs] at Du GI;rw[←Du];clear Du iY;generalize cR++fx (fun _=>de 2 0 0 []) (aO t) t.sz (b-a) cR.length=C0 at*;generalize cR.length+(b-a)*(t.sz+1)=e at*;refine zQ 1 ?_;refine ak.loop (fun mm fr st=>∃(q:Nat) (C:List aK),fr.clean=⟨78,[.ptr k 0 0,af fr 1,af fr 2,af fr 3,.ptr k4 0 0,af fr 5,af fr 6,af fr 7,af fr 8,af fr 9,af fr 10,af fr 11,af fr 12,af fr 13,af fr 14,af fr 15,af fr 16,af fr 17,af fr 18,af fr 19,af fr 20,af fr 21,af fr 22,af fr 23,af fr 24,af fr 25,af fr 26,af fr 27,af fr 28,af fr 29,af fr 30,af fr 31,af fr 32,af fr 33,af fr 34,af fr 35,af fr 36,af fr 37,af fr 38,af fr 39,af fr 40,af fr 41,af fr 42,af fr 43,af fr 44,af fr 45,af fr 46,af fr 47,af fr 48,af fr 49,af fr 50,af fr 51,af fr 52,af fr 53,af fr 54,af fr 55,af fr 56,af fr 57,af fr 58,af fr 59,af fr 60,af fr 61,af fr 62,af fr 63,af fr 64,af fr 65,af fr 66,af fr 67,af fr 68,af fr 69,af fr 70,af fr 71,af fr 72,af fr 73,af fr 74,jd,.int .i64 (js.length:Nat),.int .i64 (q:Nat)],[]⟩∧Has N S st (.box k (.mem 0 false [cd,nd,zd,ed])::.deep dk cd 4 (C.map aT)::.aC zd 1 (Z.map ax)::.aC ed 1 (E.map ax)::.aC jd 1 (js.map lC)::.box k4 (.mem 0 false (bf n))::H)∧(q+mm=js.length)∧(iO (fun s=>ox s e n.lz) C (js.drop q)=iO (fun s=>ox s e n.lz) C0 js)∧(∀p∈js,∃x y:Int,C[p]?=some (de 2 x y []))∧(C.length=e)) (js.length) ?_ ?_
    ·exact⟨0,C0,rfl,hH,by omega,rfl,fun p hp=>⟨_,_,GI p hp⟩,Rx⟩
    rintro mm fr st ⟨q,C,hfr,hH,hq,fy,nQ,Lc⟩;rw[hfr];clear hfr;generalize af fr=ee;clear fr;refine zQ 5 ?_;refine zP (fun hlt=>?_) fun hlt=>?_
    ·refine zQ 1 ?_;have GG:q<js.length:=by omega
     obtain⟨p,hp⟩:∃p,js[q]?=some p:=⟨js[q]'GG,List.getElem?_eq_getElem _⟩
     obtain⟨x,y,hv⟩:=nQ p (List.mem_of_getElem? hp);have gm:=xX hp;have jL:=bo hv;refine zQ 4 ?_;refine qi hH tw fun OS HE=>?_;refine zQ 10 ?_;refine aa.Dc hH rfl (ev rfl) (by exact bV) rfl (ab rfl _) ?_;simp only[List.length_map];refine zQ 2 ?_;obtain⟨_,st,aB,rfl,hH⟩:=rn (at_:=p) (over:=C.length) (lz:=n.lz) hv (by omega) hH;refine qv aB ?_;refine zQ 5 ?_
     have yu:js.drop q=p::js.drop (q+1):=by
      rw[List.drop_eq_getElem_cons GG]
      congr 1
      exact Option.some.inj ((List.getElem?_eq_getElem _).symm.trans hp)
     refine⟨mm-1,by omega,⟨q+1,C.set p (ox p e n.lz),rfl,(by rw[Lc] at hH;exact hH),by omega,by rw[yu] at fy;exact fy,?_,by rw[List.length_set];exact Lc⟩⟩;intro p' we
     by_cases hpp:p'=p
     ·subst hpp;obtain⟨x',y',LW⟩:=DS p' e n.lz;exact⟨x',y',by rw[List.getElem?_set_self jL,LW]⟩
     ·rw[List.getElem?_set_ne (fun e=>hpp e.symm)];exact nQ p' we
    ·refine zQ 1 ?_;refine⟨fun i h=>(by cases h),_,_,_,rfl,rfl,?_⟩;have HB:q=js.length:=by omega
     rw[HB,List.drop_length] at fy;have fy:C=iO (fun s=>ox s e n.lz) C0 js:=fy;rw[←fy];exact⟨rfl,cd,dk,(hH.erase 5).erase 4⟩
   |succ mm=>
    have iZ:decide ((i:Int)<((b-a:Nat):Int))=true:=by rw[decide_eq_true_eq];omega
    rw[Nat.succ_mul] at hcl;refine qq<|qD rfl (by rw[iZ]) ?_;refine zQ 7 ?_;refine aa.go (d:=.agg [.int .i64 2,.int .i64 0,.int .i64 0,.nul]) (st1:=_) rfl rfl rfl (by dsimp only[Fr.put,u1,u2]<;>rfl) ?_;have hH:=hH.gf 2;obtain⟨_,st,aB,rfl,cd,dk,hH⟩:=gS (rs:=[]) hF (by omega) hH;refine qv aB ?_;refine qh (s:=1) (vs:=[_]) hH fun k69 st VY hH=>?_;dsimp only[u2,u1,u3,u4,setMany,u5,u6,D.cells,Nat.reduceAdd,aT,bf,ax,lC] at hH;refine qP hH Dz (hH.rows aN) fun T1 st hH=>?_;dsimp only[u2,u1,u3,u4,setMany,u5,u6,D.cells,Nat.reduceAdd,aT,bf,ax,lC] at hH;refine zQ 2 ?_;have hH:=hH.drop 1;have mX:(aV++[de 2 0 0 []]).length=aV.length+1:=by simp
    refine zQ 3 ?_;obtain⟨_,st,aB,rfl,cd,dk,hH⟩:=ih t (by omega) hF Ag ka hsz sC tF (by omega) ⟨cd,dk,hH⟩;refine qv aB ?_;refine zQ 1 ?_;rw[mX] at hH;have mW:(aV++[de 2 0 0 []]++aO t (aV.length+1)).length=aV.length+1+t.sz:=by rw[List.length_append,mX,CO]
    refine zQ 4 ?_;exact⟨mm,by omega,⟨i+1,cd,T1,dk,aV++[de 2 0 0 []]++aO t (aV.length+1),js++[aV.length],rfl,(by rw[List.map_append (f:=lC)];exact hH),by omega,by rw[mW,←iY];simp only[fx,List.append_assoc,List.cons_append,List.nil_append],by rw[mW,←hjs];simp only[xM,List.append_assoc,List.cons_append,List.nil_append],by rw[mW];omega,by rw[List.length_append,oo];rfl⟩⟩
def bO (fr:Go.V.Fr) (k:Nat):Go.V.D:=Go.V.nth .bj fr.loc k
theorem yP (t:Tr):gp (.cons t .nil)=aO t:=by
 funext b;simp only[gp,List.append_nil]
theorem zb (t:Tr):(bD.cons t .nil).sz=t.sz:=by simp only[bD.sz,Nat.add_zero]
theorem He {l:List dI} (tp:l.length≤1048576) (hi:∀n∈l,n.ok):∀(m:Nat) (t:Tr),t.flat.length≤m→tj l t:=by
 intro m
 induction m with
 |zero=>intro t h;have:=t.i7;omega
 |succ m ih=>
  rintro⟨n,ks⟩ hm N k S s0 H nd zd ed code Z E at_ hF Ag ka hsz sC bq hb hM;have Ye:=hM;obtain⟨cd,dk,hH⟩:=hM;simp only[Tr.ok] at bq;obtain⟨lb,jt⟩:=bq;simp only[Tr.flat,List.length_cons] at hm;have hle:=ka.le (by simp[Tr.flat]);simp only[Tr.flat] at ka hle;simp only[List.length_cons] at hle;simp only[Tr.zs] at hsz;simp only[Tr.es] at sC;simp only[Tr.sz] at hb;have hn:=ka.head;have Mx:=hi n (List.mem_of_getElem? hn);have CQ:=Mx.1.arg N S;have Ac:=Mx.2.1;have gm:=l_ hn;have K9:=lb.1;have j4:=bD.oS ks;have hcat:=fun b=>n9 ks b jt;refine Ev.gA rfl Om rfl rfl rfl ?_;refine zE ?_;change ak _ _ _ _ s0 _;have hc:=Ag.arg N S;refine zQ 7 ?_;refine qr fun UD Qy=>?_;refine aa.cV rfl (ev rfl) (by assumption) rfl (by dsimp only[Fr.put,u1,u2]<;>rfl) ?_;refine qa hH fun k4 st La hH=>?_;refine qS hH aN fun st hH=>?_;dsimp only[u2,u1,u3,u4,setMany,u5,u6,D.cells,Nat.reduceAdd,aT,bf,ax,lC] at hH;refine zQ 1 ?_;have hH:Has N S st (.box k (.mem 0 false [cd,nd,zd,ed])::.deep dk cd 4 (code.map aT)::.aC zd 1 (Z.map ax)::.aC ed 1 (E.map ax)::.box k4 (.mem 0 false (bf n))::H):=hH.G5;refine zQ 11 ?_;refine zI (fun q2=>?_) fun q2=>?_
  ·have Al:aO (.mk n ks) code.length=[de 1 0 0 n.rs]:=by simp only[aO,if_pos q2]
   rw[Al];have hz:bH n ks.sz ks.len=1:=by unfold bH;rw[if_pos (.inl q2)]
   have hH:=hH.gf 2;refine zQ 4 ?_;refine qP hH aN (Arg.rows (by assumption) hH) fun SA st hH=>?_;dsimp only[u2,u1,u3,u4,setMany,u5,u6,D.cells,Nat.reduceAdd,aT,bf,ax,lC] at hH;refine aa.ij (qs:=[(0,_),(3,_)]) rfl rfl rfl rfl ⟨rfl,(ev rfl),(by rfl),rfl,(ev rfl),(by exact hH.oM (by exact aN)),trivial⟩ (by intro q hq;simp only[List.mem_cons,List.not_mem_nil,or_false] at hq;rcases hq with rfl|rfl<;>exact⟨rfl,by exact Nat.le_of_ble_eq_true rfl⟩) (by show List.foldl _ [_,_,_,_] _=_;dsimp only[List.foldl_cons,List.foldl_nil,u2,u1]<;>rfl) (by dsimp only[Fr.put,u1,u2]<;>rfl) ?_;obtain⟨_,st,aB,rfl,cd,dk,hH⟩:=gS (rs:=n.rs) hF (by omega) hH;refine qv aB ?_;refine zQ 1 ?_;refine⟨fun i h=>(by cases h),_,_,_,rfl,rfl,?_⟩;exact⟨rfl,cd,dk,hH.erase 4⟩
  refine zQ 5 ?_;refine zI (fun q7=>?_) fun q7=>?_
  ·have Al:aO (.mk n ks) code.length=[de 5 0 0 []]:=by simp only[aO,if_neg q2,if_pos q7]
   rw[Al];refine zQ 2 ?_;refine aa.go (d:=.agg [.int .i64 5,.int .i64 0,.int .i64 0,.nul]) (st1:=_) rfl rfl rfl (by dsimp only[Fr.put,u1,u2]<;>rfl) ?_;have hH:=hH.gf 2;obtain⟨_,st,aB,rfl,cd,dk,hH⟩:=gS (rs:=[]) hF (by omega) hH;refine qv aB ?_;refine zQ 1 ?_;refine⟨fun i h=>(by cases h),_,_,_,rfl,rfl,?_⟩;exact⟨rfl,cd,dk,hH.erase 4⟩
  refine zQ 5 ?_;refine zI (fun q8=>?_) fun q8=>?_
  ·have Al:aO (.mk n ks) code.length=[de 6 0 0 []]:=by simp only[aO,if_neg q2,if_neg q7,if_pos q8]
   rw[Al];refine zQ 2 ?_;refine aa.go (d:=.agg [.int .i64 6,.int .i64 0,.int .i64 0,.nul]) (st1:=_) rfl rfl rfl (by dsimp only[Fr.put,u1,u2]<;>rfl) ?_;have hH:=hH.gf 2;obtain⟨_,st,aB,rfl,cd,dk,hH⟩:=gS (rs:=[]) hF (by omega) hH;refine qv aB ?_;refine zQ 1 ?_;refine⟨fun i h=>(by cases h),_,_,_,rfl,rfl,?_⟩;exact⟨rfl,cd,dk,hH.erase 4⟩
  refine zQ 5 ?_;refine zI (fun q3=>?_) fun q3=>?_
  ·have Al:aO (.mk n ks) code.length=gp ks code.length:=by simp only[aO,if_neg q2,if_neg q7,if_neg q8,if_pos q3]
   rw[Al];have hz:bH n ks.sz ks.len=ks.sz:=by unfold bH;rw[if_neg (by omega),if_neg (by omega),if_neg (by omega),if_neg (by omega)]
   rw[hz] at hb;refine zQ 13 ?_;refine ak.loop (fun mm fr st=>∃(i j:Nat) (rest:bD) (cd:D) (dk:Nat→Prop) (aV:List aK),fr.clean=⟨40,[.ptr k 0 0,.int .i64 (at_:Nat),bO fr 2,bO fr 3,.ptr k4 0 0,.int .i64 (j:Nat),bO fr 6,bO fr 7,bO fr 8,bO fr 9,bO fr 10,bO fr 11,bO fr 12,bO fr 13,bO fr 14,bO fr 15,bO fr 16,bO fr 17,bO fr 18,bO fr 19,bO fr 20,bO fr 21,bO fr 22,bO fr 23,bO fr 24,bO fr 25,bO fr 26,bO fr 27,bO fr 28,bO fr 29,bO fr 30,bO fr 31,bO fr 32,bO fr 33,bO fr 34,bO fr 35,bO fr 36,bO fr 37,.int .i64 n.kids,.int .i64 (i:Nat)],[]⟩∧Has N S st (.box k (.mem 0 false [cd,nd,zd,ed])::.deep dk cd 4 (aV.map aT)::.aC zd 1 (Z.map ax)::.aC ed 1 (E.map ax)::.box k4 (.mem 0 false (bf n))::H)∧(mm=rest.len)∧(i+rest.len=ks.len)∧(ga l j rest.flat)∧(ga Z j rest.zs)∧(ga E j (rest.es j))∧(rest.ok)∧(aV++gp rest aV.length=code++gp ks code.length)∧(aV.length+rest.sz=code.length+ks.sz)∧(rest.flat.length≤m)) (ks.len) ?_ ?_
   ·exact⟨0,at_+1,ks,cd,dk,code,rfl,hH,rfl,by omega,ka.tail,hsz.tail,sC.tail,jt,rfl,rfl,by omega⟩
   rintro mm fr st ⟨i,j,rest,cd,dk,aV,hfr,hH,y5,uI,pW,yl,pV,kT,iY,hcl,JR⟩;rw[hfr];clear hfr;generalize bO fr=ee;clear fr;refine zQ 4 ?_
   cases rest with
   |nil=>
    simp only[bD.len] at uI;simp only[gp,List.append_nil] at iY;have iZ:decide ((i:Int)<n.kids)=false:=by rw[decide_eq_false_iff_not];omega
    refine qq<|qE rfl (by rw[iZ]) ?_;refine zQ 1 ?_;refine⟨fun i h=>(by cases h),_,_,_,rfl,rfl,?_⟩;rw[←iY];exact⟨rfl,cd,dk,hH.erase 4⟩
   |cons t ts=>
    simp only[bD.len] at uI y5;simp only[bD.sz] at hcl;simp only[bD.flat,List.length_append] at pW JR;simp only[bD.zs] at yl;simp only[bD.es] at pV;simp only[bD.ok] at kT;simp only[gp] at iY;have JJ:=t.jB;have L5:=t.jG j;have CO:=cG t aV.length kT.1;have Qf:=er (B2 pV.left);have iZ:decide ((i:Int)<n.kids)=true:=by rw[decide_eq_true_eq];omega
    refine qq<|qD rfl (by rw[iZ]) ?_;refine zQ 7 ?_;obtain⟨_,st,aB,rfl,cd,dk,hH⟩:=ih t (by omega) hF Ag pW.left yl.left pV.left kT.1 (by omega) ⟨cd,dk,hH⟩;refine qv aB ?_;refine zQ 7 ?_;refine qi hH gX fun SM Mj=>?_;refine zQ 7 ?_;exact⟨mm-1,by omega,⟨i+1,j+t.flat.length,ts,cd,dk,aV++aO t aV.length,rfl,hH,by omega,by omega,pW.right,by rw[←JJ];exact yl.right,by rw[←L5];rw[←L5] at pV;exact pV.right,kT.2,by rw[List.length_append,CO,List.append_assoc];exact iY,by rw[List.length_append,CO];omega,by omega⟩⟩
  refine zQ 5 ?_;refine zI (fun q4=>?_) fun q4=>?_
  ·have Al:aO (.mk n ks) code.length=eT (nK (code.length+bH n ks.sz ks.len)) ks code.length:=by simp only[aO,if_neg q2,if_neg q7,if_neg q8,if_neg q3,if_pos q4]
   rw[Al];refine zQ 3 ?_;obtain⟨_,st,aB,rfl,cd,dk,hH⟩:=KI tp ih q4 (by omega) lb jt hF Ag ka hsz.tail sC.tail hb ⟨cd,dk,hH⟩;refine qv aB ?_;refine zQ 1 ?_;refine⟨fun i h=>(by cases h),_,_,_,rfl,rfl,?_⟩;exact⟨rfl,cd,dk,hH.erase 4⟩
  refine zQ 5 ?_;refine zI (fun q5=>?_) fun q5=>?_
  ·have o6:ks.len=1:=by
    obtain⟨_,hq⟩:=lb;omega
   obtain⟨t,rfl⟩:=bD.Bv o6;have Al:aO (.mk n (.cons t .nil)) code.length=oB n (aO t) t.sz code.length:=by simp only[aO,if_neg q2,if_neg q7,if_neg q8,if_neg q3,if_neg q4,if_pos q5,yP,zb]
   rw[Al];rw[o6] at lb hb;rw[zb] at hb;simp only[bD.flat,bD.zs,bD.es,bD.ok,List.append_nil] at*;refine zQ 3 ?_;obtain⟨_,st,aB,rfl,cd,dk,hH⟩:=Cw tp ih q5 (by omega) lb jt.1 hF Ag ka hsz.tail sC.tail hb ⟨cd,dk,hH⟩;refine qv aB ?_;refine zQ 1 ?_;refine⟨fun i h=>(by cases h),_,_,_,rfl,rfl,?_⟩;exact⟨rfl,cd,dk,hH.erase 4⟩
  refine zQ 5 ?_;refine zI (fun q6=>?_) fun q6=>?_
  ·have o6:ks.len=1∧1≤n.cap∧n.cap≤4:=by
    obtain⟨_,hq⟩:=lb;omega
   obtain⟨t,rfl⟩:=bD.Bv o6.1;have Al:aO (.mk n (.cons t .nil)) code.length=de 4 (2*n.cap) 0 []::(aO t (code.length+1)++[de 4 (2*n.cap+1) 0 []]):=by simp only[aO,if_neg q2,if_neg q7,if_neg q8,if_neg q3,if_neg q4,if_neg q5,if_pos q6,yP]
   rw[Al];have hz:bH n (bD.cons t .nil).sz (bD.cons t .nil).len=t.sz+2:=by unfold bH;rw[if_neg (by omega),if_neg (by omega),if_pos q6,zb]
   rw[hz] at hb;simp only[bD.flat,bD.zs,bD.es,bD.ok,List.append_nil] at ka hsz sC jt hm;refine zQ 5 ?_;refine aa.xY (z:=(2*n.cap)) rfl (ev rfl) (ev rfl) (by rw[wrap_i64 (by omega) (by omega)]<;>omega) (ab rfl _) ?_;refine aa.go (d:=.agg [.int .i64 4,.int .i64 (2*n.cap),.int .i64 0,.nul]) (st1:=_) rfl rfl rfl (ab rfl _) ?_;have hH:=hH.gf 2;obtain⟨_,st,aB,rfl,cd,dk,hH⟩:=gS (rs:=[]) hF (by omega) hH;refine qv aB ?_;refine zQ 1 ?_;have mX:(code++[de 4 (2*n.cap) 0 []]).length=code.length+1:=by simp
   refine zQ 5 ?_;obtain⟨_,st,aB,rfl,cd,dk,hH⟩:=ih t (by omega) hF Ag ka.tail hsz.tail sC.tail jt.1 (by omega) ⟨cd,dk,hH⟩;refine qv aB ?_;refine zQ 1 ?_;rw[mX] at hH;have mW:(code++[de 4 (2*n.cap) 0 []]++aO t (code.length+1)).length=code.length+1+t.sz:=by rw[List.length_append,mX,cG t _ jt.1]
   refine zQ 4 ?_;refine aa.xY (z:=(2*n.cap)) rfl (ev rfl) (ev rfl) (by rw[wrap_i64 (by omega) (by omega)]<;>omega) (ab rfl _) ?_;refine aa.eC (z:=(2*n.cap+1)) rfl (ev rfl) (ev rfl) (by rw[wrap_i64 (by omega) (by omega)]<;>omega) (ab rfl _) ?_;refine aa.go (d:=.agg [.int .i64 4,.int .i64 (2*n.cap+1),.int .i64 0,.nul]) (st1:=_) rfl rfl rfl (ab rfl _) ?_;have hH:=hH.gf 2;obtain⟨_,st,aB,rfl,cd,dk,hH⟩:=gS (rs:=[]) hF (by omega) hH;refine qv aB ?_;refine zQ 1 ?_;have gD:code++[de 4 (2*n.cap) 0 []]++aO t (code.length+1)++[de 4 (2*n.cap+1) 0 []]=code++de 4 (2*n.cap) 0 []::(aO t (code.length+1)++[de 4 (2*n.cap+1) 0 []]):=by simp
   rw[gD] at hH;refine⟨fun i h=>(by cases h),_,_,_,rfl,rfl,?_⟩;exact⟨rfl,cd,dk,hH.erase 4⟩
  ·refine zQ 1 ?_;have Al:aO (.mk n ks) code.length=[]:=by simp only[aO,if_neg q2,if_neg q7,if_neg q8,if_neg q3,if_neg q4,if_neg q5,if_neg q6]
   rw[Al,List.append_nil];refine⟨fun i h=>(by cases h),_,_,_,rfl,rfl,?_⟩;exact⟨rfl,cd,dk,hH.erase 4⟩
def iT (fr:Go.V.Fr) (k:Nat):Go.V.D:=Go.V.nth .bj fr.loc k
def Dp (x:Nl):List D:=[x.d]
theorem Jv {l:List Nl} {i:Nat} {q:Nl} (h:l[i]?=some q):(l.map Dp)[i]?=some (Dp q):=by rw[List.getElem?_map,h];rfl
def pR (R:tl):D:=.tup [(py R.code R.aq).d,.int .i64 R.e,.int .i64 R.w]
theorem A_ {es M:List Int} (h:M.length=es.length):om es 0 M=M:=by
 unfold om;simp[h]
theorem o_ (r:Nat) (c:List aK) (s:List Int):eX [] r c s=⟨c,s,0,0⟩:=by simp only[eX]
theorem AG {s0:St} {x:D} {rules:List Nl} (hx:V.Rows s0 1 x (rules.map Dp)) (hr:∀r∈rules,r.ok) (hl:rules.length≤1048576):Ev pv 69 [x] s0 (pR (bm (rules.map (·.l)))) s0:=by
 refine Ev.ia rfl RU rfl rfl rfl ?_;refine zE ?_;obtain⟨aP,hF,hH⟩:=ri s0;generalize ae .ro s0=S at*;have hx:=Arg.of hx aP;have hfz:∀(st:St) (e w:Int),bd st s0.bs.length false 16 (tz [.agg [.nul,.nul],.int .i64 e,.int .i64 w])=some (pR ⟨[],[],e,w⟩):=fun st e w=>rfl;refine zQ 2 ?_;refine qa hH fun k2 st hk2 hH=>?_;refine zQ 7 ?_;refine qn ?_;simp only[List.length_map];refine zQ 2 ?_;unfold bm
 by_cases h8:8<rules.length
 ·rw[if_pos (by rw[List.length_map];exact h8)];refine qD rfl (by simp;omega) ?_;refine zQ 2 ?_;refine aa.go (d:=.agg [.nul,.nul]) (st1:=_) rfl rfl rfl (by dsimp only[Fr.put,u1,u2]<;>rfl) ?_;refine qS hH aN fun st hH=>?_;dsimp only[u2,u1,u3,u4,setMany,u5,u6,D.cells,Nat.reduceAdd,aT,bf,ax,Dp] at hH;refine zQ 3 ?_;refine ak.ret ⟨rx,_,hH.l0 rfl aN rfl rfl rfl,rl aP hH (hfz _ 13 8)⟩
 ·rw[if_neg (by rw[List.length_map];exact h8)];refine qE rfl (by simp;omega) ?_;refine zQ 3 ?_;refine aa.go (d:=.agg [.nul,.nul,.nul,.nul]) (st1:=_) rfl rfl rfl (by dsimp only[Fr.put,u1,u2]<;>rfl) ?_;refine qb hH fun k14 st Kb hH=>?_;refine zQ 10 ?_;refine qn ?_;simp only[List.length_map];refine zQ 2 ?_;have hH:Has s0.bs.length S st (.aC .nul 1 (([]:List Int).map ax)::.deep (fun _=>False) .nul 4 (([]:List aK).map aT)::.box k14 (.mem 0 false [.nul,.nul,.nul,.nul])::[.box k2 (.mem 0 false [.nul,.nul])]):=(hH.LB 4).gf 1;refine zQ 1 ?_;refine ak.loop (fun mm fr st=>∃(r:Nat) (cd nd zd ed sd:D) (dk:Nat→Prop) (code:List aK) (aq:List Int),fr.clean=⟨18,[iT fr 0,iT fr 1,.ptr k2 0 0,.int .i64 0,.int .i64 0,.ptr k14 0 0,sd,iT fr 7,iT fr 8,iT fr 9,iT fr 10,iT fr 11,iT fr 12,iT fr 13,iT fr 14,x,.int .i64 (rules.length:Nat),.int .i64 (r:Nat)],[]⟩∧Has s0.bs.length S st [.aC sd 1 (aq.map ax),.deep dk cd 4 (code.map aT),.box k14 (.mem 0 false [cd,nd,zd,ed]),.box k2 (.mem 0 false [.nul,.nul])]∧(r+mm=rules.length)∧(eX ((rules.drop r).map (·.l)) r code aq=eX (rules.map (·.l)) 0 [] [])∧(code.length≤400)∧(aq.length≤r)) (rules.length) ?_ ?_
  ·exact⟨0,.nul,.nul,.nul,.nul,.nul,(fun _=>False),[],[],rfl,hH,by omega,by rw[List.drop_zero],by simp,by simp⟩
  rintro mm fr st ⟨r,cd,nd,zd,ed,sd,dk,code,aq,hfr,hH,XT,hX,hcl,gC⟩;rw[hfr];clear hfr;generalize iT fr=ee;clear fr;refine zQ 4 ?_
  by_cases hlt:r<rules.length
  ·obtain⟨q,hq⟩:∃q,rules[r]?=some q:=⟨rules[r]'hlt,List.getElem?_eq_getElem _⟩
   have CS:=hr q (List.mem_of_getElem? hq);have gm:=Jv hq
   have yu:rules.drop r=q::rules.drop (r+1):=by
    rw[List.drop_eq_getElem_cons hlt]
    congr 1
    exact Option.some.inj ((List.getElem?_eq_getElem _).symm.trans hq)
   rw[yu,List.map_cons,eX] at hX;refine qq<|qD rfl (by simp;omega) ?_;refine zQ 6 ?_;refine qr fun Lw E8=>?_;refine zQ 8 ?_;refine qv (Cv CS) ?_;refine zQ 2 ?_
   cases Ad:gL q.l with
   |false=>
    rw[if_pos Ad] at hX;refine zQ 3 ?_;refine aa.go (d:=.agg [.nul,.nul]) (st1:=_) rfl rfl rfl (ab rfl _) ?_;refine qm ?_;refine qS hH gX fun st hH=>?_;dsimp only[u2,u1,u3,u4,setMany,u5,u6,D.cells,Nat.reduceAdd,aT,bf,ax,Dp] at hH;refine zQ 3 ?_;rw[←hX];refine ak.ret ⟨rx,_,hH.l0 rfl gX rfl rfl rfl,rl aP hH (hfz _ 1 r)⟩
   |true=>
    rw[if_neg (by rw[Ad];simp)] at hX;obtain⟨tF,L4⟩:=vp Ad;have XZ:=CS.c.arg s0.bs.length S;have XY:=CS.nl;have pK:=CS.c;refine zQ 9 ?_;refine qn ?_;simp only[List.length_map];refine aa.yp (s:=1) hH rfl rfl rfl rfl rfl rfl rfl rfl (Nat.le_of_ble_eq_true rfl) (by omega) (fun _=>(ab rfl _)) (fun k33 st QU hH=>?_);refine qm ?_;refine qn ?_;simp only[List.length_map];refine aa.yp (s:=1) hH rfl rfl rfl rfl rfl rfl rfl rfl (Nat.le_of_ble_eq_true rfl) (by omega) (fun _=>(ab rfl _)) (fun k36 st MI hH=>?_);refine zQ 2 ?_;refine qT hH tw fun st hH=>?_;dsimp only[u2,u1,u3,u4,setMany,u5,u6,D.cells,Nat.reduceAdd,aT,bf,ax,Dp] at hH;refine zQ 2 ?_;refine qT hH tw fun st hH=>?_;dsimp only[u2,u1,u3,u4,setMany,u5,u6,D.cells,Nat.reduceAdd,aT,bf,ax,Dp] at hH;refine zQ 2 ?_;refine qT hH tw fun st hH=>?_;dsimp only[u2,u1,u3,u4,setMany,u5,u6,D.cells,Nat.reduceAdd,aT,bf,ax,Dp] at hH;refine zQ 1 ?_
    have hH:Has s0.bs.length S st (.aC (.win k33 0 0 q.l.length 1) 1 ((List.replicate q.l.length (0:Int)).map ax)::.aC (.win k36 0 0 q.l.length 1) 1 ((List.replicate q.l.length (0:Int)).map ax)::.aC sd 1 (aq.map ax)::.deep dk cd 4 (code.map aT)::.box k14 (.mem 0 false [cd,q.d,.win k33 0 0 q.l.length 1,.win k36 0 0 q.l.length 1])::.box k2 (.mem 0 false [.nul,.nul])::[]):=by
     rw[List.map_replicate];exact hH.front bV
    refine zQ 7 ?_;obtain⟨_,st,aB,rfl,hH⟩:=DU CS.nl CS.i CS.c _ (cP q.l) (Nat.le_refl _) tF (at_:=0) (by rw[L4];exact ga.all _) (by simp) hH;refine qv aB ?_;refine zQ 1 ?_;rw[A_ (by rw[Tr.jB,L4];simp)] at hH;have hH:=hH.front bV;refine zQ 7 ?_;obtain⟨_,st,aB,rfl,hH⟩:=Ie CS.nl CS.i CS.c _ (cP q.l) (Nat.le_refl _) tF (at_:=0) (by rw[L4];exact ga.all _) (by simp) hH;refine qv aB ?_;refine zQ 1 ?_;rw[A_ (by rw[Tr.jG,L4];simp)] at hH;have Vd:=er (AZ (ga.all (cP q.l).zs));refine zQ 7 ?_;refine aa.Dc hH rfl (ev rfl) (by exact gX) rfl (ab rfl _) ?_;simp only[List.length_map];refine zQ 4 ?_;refine qi hH bV fun SJ Mf=>?_;refine zQ 1 ?_;refine aa.eC (z:=((code.length+min (cP q.l).sz 401:Nat):Int)) rfl (ev rfl) (ev rfl) (by rw[wrap_i64 (by omega) (by omega)]<;>omega) (ab rfl _) ?_;refine aa.eC (z:=((code.length+min (cP q.l).sz 401+3:Nat):Int)) rfl (ev rfl) (ev rfl) (by rw[wrap_i64 (by omega) (by omega)]<;>omega) (ab rfl _) ?_;refine zQ 2 ?_
    by_cases sI:400<code.length+min (cP q.l).sz 401+3
    ·rw[if_pos sI] at hX;have iZ:decide (((code.length+min (cP q.l).sz 401+3:Nat):Int)>400)=true:=by rw[decide_eq_true_eq];omega
     refine qD rfl (by rw[iZ]) ?_;refine zQ 2 ?_;refine aa.go (d:=.agg [.nul,.nul]) (st1:=_) rfl rfl rfl (ab rfl _) ?_;refine qm ?_;refine qS hH Dz fun st hH=>?_;dsimp only[u2,u1,u3,u4,setMany,u5,u6,D.cells,Nat.reduceAdd,aT,bf,ax,Dp] at hH;refine zQ 3 ?_;rw[←hX];refine ak.ret ⟨rx,_,hH.l0 rfl Dz rfl rfl rfl,rl aP hH (hfz _ 12 r)⟩
    ·rw[if_neg sI] at hX;have iZ:decide (((code.length+min (cP q.l).sz 401+3:Nat):Int)>400)=false:=by rw[decide_eq_false_iff_not];omega
     refine qE rfl (by rw[iZ]) ?_;refine zQ 1 ?_;have hH:=hH.front bV;have hH:=hH.front gX;have hH:=hH.front tw;have hH:Has s0.bs.length S st (.box k14 (.mem 0 false [cd,q.d,.win k33 0 0 q.l.length 1,.win k36 0 0 q.l.length 1])::.deep dk cd 4 (code.map aT)::.aC (.win k33 0 0 q.l.length 1) 1 ((cP q.l).zs.map ax)::.aC (.win k36 0 0 q.l.length 1) 1 (((cP q.l).es 0).map ax)::.aC sd 1 (aq.map ax)::.box k2 (.mem 0 false [.nul,.nul])::[]):=hH;refine zQ 4 ?_;refine aa.go (d:=.agg [.int .i64 4,.int .i64 0,.int .i64 0,.nul]) (st1:=_) rfl rfl rfl (ab rfl _) ?_;have hH:=hH.gf 2;obtain⟨_,st,aB,rfl,cd,dk,hH⟩:=gS (rs:=[]) hF (by omega) hH;refine qv aB ?_;refine qh (s:=1) (vs:=[_]) hH fun k75 st VW hH=>?_;refine aa.cJ (s:=1) hH rfl (ev rfl) (ev rfl) (by exact Dz) (by exact hH.rows (by exact aN)) rfl rfl rfl rfl rfl rfl rfl ⟨(Nat.le_of_ble_eq_true rfl),(Nat.le_of_ble_eq_true rfl)⟩ (fun _=>(ab rfl _)) (by simp only[List.length_cons,List.length_nil,List.length_map]<;>omega) (by exact .inl hF) (fun T0 st hH=>?_);dsimp only[u2,u1,u3,u4,setMany,u5,u6,D.cells,Nat.reduceAdd,aT,bf,ax,Dp] at hH;refine zQ 2 ?_;have hH:=hH.drop 1;have mX:(code++[de 4 0 0 []]).length=code.length+1:=by simp
     refine zQ 3 ?_;obtain⟨_,st,aB,rfl,cd,dk,hH⟩:=He CS.nl CS.i _ (cP q.l) (Nat.le_refl _) hF CS.c (at_:=0) (by rw[L4];exact ga.all _) (ga.all _) (ga.all _) tF (by omega) ⟨cd,dk,hH⟩;refine qv aB ?_;refine zQ 1 ?_;rw[mX] at hH;have mW:(code++[de 4 0 0 []]++aO (cP q.l) (code.length+1)).length=code.length+1+(cP q.l).sz:=by rw[List.length_append,mX,cG _ _ tF]
     refine zQ 3 ?_;refine aa.go (d:=.agg [.int .i64 4,.int .i64 1,.int .i64 0,.nul]) (st1:=_) rfl rfl rfl (ab rfl _) ?_;have hH:=hH.gf 2;obtain⟨_,st,aB,rfl,cd,dk,hH⟩:=gS (rs:=[]) hF (by omega) hH;refine qv aB ?_;refine zQ 1 ?_;have Fu:(code++[de 4 0 0 []]++aO (cP q.l) (code.length+1)++[de 4 1 0 []]).length=code.length+1+(cP q.l).sz+1:=by rw[List.length_append,mW];rfl
     refine zQ 3 ?_;refine aa.go (d:=.agg [.int .i64 7,.int .i64 (r:Nat),.int .i64 0,.nul]) (st1:=_) rfl rfl rfl (ab rfl _) ?_;have hH:=hH.gf 2;obtain⟨_,st,aB,rfl,cd,dk,hH⟩:=gS (rs:=[]) hF (by omega) hH;refine qv aB ?_;refine zQ 1 ?_
     have Qd:code++[de 4 0 0 []]++aO (cP q.l) (code.length+1)++[de 4 1 0 []]++[de 7 (r:Nat) 0 []]=code++eV (cP q.l) code.length r:=by
      unfold eV;simp
     rw[Qd] at hH;have hH:=(hH.erase 2).erase 2;have hH:=hH.front bV;have hH:=hH.front fm;refine zQ 4 ?_;exact⟨mm-1,by omega,⟨r+1,cd,q.d,.win k33 0 0 q.l.length 1,.win k36 0 0 q.l.length 1,T0,dk,code++eV (cP q.l) code.length r,aq++[((code.length:Nat):Int)],rfl,(by rw[List.map_append (f:=ax)];exact hH),by omega,hX,by rw[List.length_append,lZ tF];omega,by rw[List.length_append];simp only[List.length_cons,List.length_nil];omega⟩⟩
  ·refine qq<|qE rfl (by simp;omega) ?_;refine zQ 1 ?_;rw[List.drop_of_length_le (by omega),List.map_nil,o_] at hX;refine zQ 7 ?_;refine aa.ij (qs:=[(0,_),(1,_)]) rfl rfl rfl rfl ⟨rfl,(ev rfl),(by exact hH.F3 (by exact bV)),rfl,(ev rfl),(by exact hH.oM (by exact aN)),trivial⟩ (by intro q hq;simp only[List.mem_cons,List.not_mem_nil,or_false] at hq;rcases hq with rfl|rfl<;>exact⟨rfl,by exact Nat.le_of_ble_eq_true rfl⟩) (by show List.foldl _ [_,_] _=_;dsimp only[List.foldl_cons,List.foldl_nil,u2,u1]<;>rfl) (ab rfl _) ?_;refine qS hH gX fun st hH=>?_;dsimp only[u2,u1,u3,u4,setMany,u5,u6,D.cells,Nat.reduceAdd,aT,bf,ax,Dp] at hH;refine zQ 3 ?_;rw[←hX];have h1:=hH.FQ bV (n:=13) (by decide);have h2:=hH.B0 aN (jZ _) (n:=14) (by decide)
   have h4:bd st s0.bs.length false 15 (.agg [cd,sd])=some (py code aq).d:=by
    show(iH (bd st s0.bs.length false 14) [cd,sd]).map D.agg=_;simp only[iH,h1,h2,Option.map_some];rfl
   have h3:bd st s0.bs.length false 16 (tz [.agg [cd,sd],.int .i64 0,.int .i64 0])=some (pR ⟨code,aq,0,0⟩):=by
    show(iH (bd st s0.bs.length false 15) [.agg [cd,sd],.int .i64 0,.int .i64 0]).map D.tup=_;simp only[iH,h4];rfl
   exact ak.ret ⟨rx,_,hH.l0 rfl gX rfl rfl rfl,rl aP hH h3⟩
theorem yL:∀(ls:List (List dI)) (r:Nat) (c:List aK) (s:List Int),(∀l∈ls,∀n∈l,n.rs.length≤1048576)→(∀i∈c,j9 i)→c.length≤400→s.length≤r→(∀i∈(eX ls r c s).code,j9 i)∧(eX ls r c s).code.length≤400∧(eX ls r c s).aq.length≤r+ls.length
 |[],r,c,s,_,h1,h2,h3=>by rw[o_];exact⟨h1,h2,by simpa using h3⟩
 |l::ls,r,c,s,h0,h1,h2,h3=>by
  have HU:∀e w:Int,(∀i∈(tl.mk [] [] e w).code,j9 i)∧(tl.mk [] [] e w).code.length≤400∧(tl.mk [] [] e w).aq.length≤r+(l::ls).length:=fun e w=>⟨fun i hi=>(by cases hi),by simp,by simp⟩
  rw[eX]
  split
  ·exact HU _ _
  ·rename_i hr;rw[Bool.not_eq_false] at hr
   split
   ·exact HU _ _
   ·rename_i hb;obtain⟨t1,t2⟩:=vp hr
    obtain⟨h4,h5,h6⟩:=yL ls (r+1) (c++eV (cP l) c.length r) (s++[((c.length:Nat):Int)]) (fun l' iM=>h0 l' (List.mem_cons_of_mem _ iM)) (fun i hi=>by
     rcases List.mem_append.1 hi with hi|hi
     ·exact h1 i hi
     ·exact G3 (by rw[t2];exact h0 l (List.mem_cons_self ..)) i hi) (by rw[List.length_append,lZ t1];omega) (by rw[List.length_append];simp only[List.length_cons,List.length_nil];omega)
    exact⟨h4,h5,by simp only[List.length_cons];omega⟩
theorem yK {ls:List (List dI)} (h:∀l∈ls,∀n∈l,n.rs.length≤1048576):(py (bm ls).code (bm ls).aq).ok∧(bm ls).code.length≤400:=by
 unfold bm
 split
 ·exact⟨Ei (fun i hi=>(by cases hi)) (by simp) (by simp),by simp⟩
 ·obtain⟨h1,h2,h3⟩:=yL ls 0 [] [] h (fun i hi=>by cases hi) (by simp) (by simp);exact⟨Ei h1 (by omega) (by omega),h2⟩
def zc (b:List UInt8):List D:=[.str b]
theorem GU {l:List (List UInt8)} {i:Nat} {q:List UInt8} (h:l[i]?=some q):(l.map zc)[i]?=some (zc q):=by rw[List.getElem?_map,h];rfl
theorem Ju {parts:List (List dI)} (h:∀l∈parts,(∀n∈l,wX n)∧l.length≤500):∀r∈parts.map (fun l=>(⟨wS l,l⟩:Nl)),r.ok:=by
 intro r hr;obtain⟨l,hl,rfl⟩:=List.mem_map.1 hr;exact LC (h l hl).1 (by have:=(h l hl).2;omega)
theorem EH {parts:List (List dI)}:(parts.map (fun l=>(⟨wS l,l⟩:Nl))).map Dp=parts.map eo:=by
 rw[List.map_map];rfl
theorem AH {s0:St} {y:D} {parts:List (List dI)} (h:∀l∈parts,(∀n∈l,wX n)∧l.length≤500) (hl:parts.length≤1048576) (hy:V.Rows s0 1 y (parts.map eo)):Ev pv 69 [y] s0 (pR (bm parts)) s0∧(py (bm parts).code (bm parts).aq).ok∧(bm parts).code.length≤400:=by
 have h1:=AG (s0:=s0) (x:=y) (rules:=parts.map (fun l=>(⟨wS l,l⟩:Nl))) (by rw[EH];exact hy) (Ju h) (by rw[List.length_map];exact hl);have h2:(parts.map (fun l=>(⟨wS l,l⟩:Nl))).map (·.l)=parts:=by rw[List.map_map];exact List.map_id _
 rw[h2] at h1;exact⟨h1,yK fun l hl n hn=>((h l hl).1 n hn).2.1⟩
def Bb (n:Nat) (i:aK):aK:=if i.op=2 then⟨2,i.x+n,i.y+n,i.rd,i.rs⟩ else if i.op=3 then⟨3,i.x+n,i.y,i.rd,i.rs⟩ else i
theorem rq (n:Nat) {op:Int} (x y:Int) (rs:List Rg) (h2:op≠2) (h3:op≠3):Bb n (de op x y rs)=de op x y rs:=by
 unfold Bb de;rw[if_neg h2,if_neg h3]
theorem zi (n s o:Nat) (lz:Bool):Bb n (ox s o lz)=ox (s+n) (o+n) lz:=by
 cases lz
 ·show(⟨2,((s+1:Nat):Int)+n,(o:Int)+n,_,_⟩:aK)=de 2 ((s+n+1:Nat):Int) ((o+n:Nat):Int) [];unfold de
  congr 1;omega
 ·show(⟨2,(o:Int)+n,((s+1:Nat):Int)+n,_,_⟩:aK)=de 2 ((o+n:Nat):Int) ((s+n+1:Nat):Int) [];unfold de
  congr 1;omega
theorem DY (n e:Nat):Bb n (nK e)=nK (e+n):=by
 show(⟨3,(e:Int)+n,0,_,_⟩:aK)=de 3 ((e+n:Nat):Int) 0 [];unfold de
 congr 1
theorem vz {c:Nat→List aK} {z n:Nat} (hc:∀b,c (b+n)=(c b).map (Bb n)):∀k b,fO c z k (b+n)=(fO c z k b).map (Bb n)
 |0,b=>rfl
 |k+1,b=>by
  have h:=vz hc (z:=z) k (b+z);rw[Nat.add_right_comm] at h;rw[fO,fO,List.map_append,hc,h]
theorem Bk {sp SF:Nat→aK} {c:Nat→List aK} {z n:Nat} (hs:∀s,SF (s+n)=Bb n (sp s)) (hc:∀b,c (b+n)=(c b).map (Bb n)):∀k b,fx SF c z k (b+n)=(fx sp c z k b).map (Bb n)
 |0,b=>rfl
 |k+1,b=>by
  have h:=Bk hs hc (z:=z) k (b+1+z);have e1:b+1+z+n=b+n+1+z:=by omega
  have e2:b+n+1=b+1+n:=by omega
  rw[e1] at h;rw[fx,fx,List.map_cons,List.map_append,hs,h,e2,hc]
theorem G4 {nd:dI} {c:Nat→List aK} {z n b:Nat} (hc:∀b,c (b+n)=(c b).map (Bb n)):oB nd c z (b+n)=(oB nd c z b).map (Bb n):=by
 unfold oB
 split
 ·rw[List.map_append,vz hc,List.map_cons,List.map_append,zi,List.map_cons,List.map_nil,DY];have e1:b+n+nd.mn.toNat*z=b+nd.mn.toNat*z+n:=by omega
  have e2:b+nd.mn.toNat*z+n+1=b+nd.mn.toNat*z+1+n:=by omega
  have e3:b+nd.mn.toNat*z+n+z+2=b+nd.mn.toNat*z+z+2+n:=by omega
  rw[e1,e2,e3,hc]
 ·rw[List.map_append,vz hc];have e1:b+n+nd.mn.toNat*z=b+nd.mn.toNat*z+n:=by omega
  rw[e1]
  congr 1
  refine Bk (fun s=>?_) hc _ _;rw[zi]
  congr 1
  omega
mutual
theorem s9 (n:Nat):∀(t:Tr) (b:Nat),aO t (b+n)=(aO t b).map (Bb n)
 | .mk nd ks,b=>by
  have hc:=fun b=>B3 n ks b;have ha:=fun e b=>Cc n e ks b;simp only[aO]
  split
  ·rw[List.map_cons,List.map_nil,rq _ _ _ _ (by decide) (by decide)]
  split
  ·rw[List.map_cons,List.map_nil,rq _ _ _ _ (by decide) (by decide)]
  split
  ·rw[List.map_cons,List.map_nil,rq _ _ _ _ (by decide) (by decide)]
  split
  ·exact hc b
  split
  ·rw[Nat.add_right_comm];exact ha _ b
  split
  ·exact G4 hc
  split
  ·rw[List.map_cons,List.map_append,List.map_cons,List.map_nil,rq _ _ _ _ (by decide) (by decide),rq _ _ _ _ (by decide) (by decide),Nat.add_right_comm,hc]
  ·rfl
theorem B3 (n:Nat):∀(ts:bD) (b:Nat),gp ts (b+n)=(gp ts b).map (Bb n)
 | .nil,b=>by simp only[gp,List.map_nil]
 | .cons t ts,b=>by
  have h:=B3 n ts (b+t.sz);rw[Nat.add_right_comm] at h;simp only[gp,List.map_append];rw[s9 n t b,h]
theorem Cc (n:Nat):∀(e:Nat) (ts:bD) (b:Nat),eT (nK (e+n)) ts (b+n)=(eT (nK e) ts b).map (Bb n)
 |e,.nil,b=>by simp only[eT,List.map_nil]
 |e,.cons t ts,b=>by
  have h:=Cc n e ts (b+t.sz+2);have h1:=s9 n t (b+1);have e1:b+t.sz+2+n=b+n+t.sz+2:=by omega
  have e2:b+1+n=b+n+1:=by omega
  have e3:b+1+t.sz+1+n=b+n+1+t.sz+1:=by omega
  rw[e1] at h;rw[e2] at h1;simp only[eT]
  split
  ·exact s9 n t b
  ·rw[List.map_cons,List.map_append,List.map_cons,zi,DY,h1,h,e3]
end
def pg (lo hi:Nat) (i:aK):Prop:=i.op≠7∧(i.op=2→((lo:Int)≤i.x∧i.x≤hi)∧(lo:Int)≤i.y∧i.y≤hi)∧(i.op=3→(lo:Int)≤i.x∧i.x≤hi)
theorem pg.mono {lo hi uB iW:Nat} {i:aK} (h:pg lo hi i) (h1:uB≤lo) (h2:hi≤iW):pg uB iW i:=
 ⟨h.1,fun e=>by have:=h.2.1 e;omega,fun e=>by have:=h.2.2 e;omega⟩
theorem pg.mk {lo hi:Nat} {op:Int} (x y:Int) (rs:List Rg) (h2:op≠2) (h3:op≠3) (h7:op≠7):pg lo hi (de op x y rs):=⟨h7,fun h=>absurd h h2,fun h=>absurd h h3⟩
theorem pg.sp {lo hi s o:Nat} {lz:Bool} (h1:lo≤s+1∧s+1≤hi) (h2:lo≤o∧o≤hi):pg lo hi (ox s o lz):=by
 cases lz
 ·exact⟨by show(2:Int)≠7;decide,fun _=>by show((lo:Int)≤((s+1:Nat):Int)∧((s+1:Nat):Int)≤hi)∧(lo:Int)≤(o:Int)∧(o:Int)≤hi;omega,fun h=>absurd h (by show¬(2:Int)=3;decide)⟩
 ·exact⟨by show(2:Int)≠7;decide,fun _=>by show((lo:Int)≤(o:Int)∧(o:Int)≤hi)∧(lo:Int)≤((s+1:Nat):Int)∧((s+1:Nat):Int)≤hi;omega,fun h=>absurd h (by show¬(2:Int)=3;decide)⟩
theorem pg.jp {lo hi e:Nat} (h1:lo≤e∧e≤hi):pg lo hi (nK e):=
 ⟨by show(3:Int)≠7;decide,fun h=>absurd h (by show¬(3:Int)=2;decide),fun _=>by show(lo:Int)≤(e:Int)∧(e:Int)≤hi;omega⟩
theorem vA {c:Nat→List aK} {z:Nat} (hc:∀b,∀i∈c b,pg b (b+z) i):∀k b,∀i∈fO c z k b,pg b (b+k*z) i
 |0,b,i,hi=>by cases hi
 |k+1,b,i,hi=>by
  simp only[fO] at hi;rw[Nat.succ_mul]
  rcases List.mem_append.1 hi with hi|hi
  ·exact(hc b i hi).mono (Nat.le_refl _) (by omega)
  ·exact(vA hc k _ i hi).mono (by omega) (by omega)
theorem Bl {sp:Nat→aK} {c:Nat→List aK} {z lo hi:Nat} (hs:∀s,lo≤s→s+1≤hi→pg lo hi (sp s)) (hc:∀b,∀i∈c b,pg b (b+z) i):∀k b,lo≤b→b+k*(z+1)≤hi→∀i∈fx sp c z k b,pg lo hi i
 |0,b,_,_,i,iW=>by cases iW
 |k+1,b,h1,h2,i,iW=>by
  simp only[fx] at iW;rw[Nat.succ_mul] at h2
  rcases List.mem_cons.1 iW with rfl|iW
  ·exact hs b h1 (by omega)
  ·rcases List.mem_append.1 iW with iW|iW
   ·exact(hc _ i iW).mono (by omega) (by omega)
   ·exact Bl hs hc k _ (by omega) (by omega) i iW
mutual
theorem s_:∀(t:Tr) (b:Nat),t.ok→∀i∈aO t b,pg b (b+t.sz) i
 | .mk n ks,b,bq,i,hi=>by
  simp only[Tr.ok] at bq;have hc:=fun b=>B4 ks b bq.2;obtain⟨_,hq⟩:=bq.1;simp only[aO] at hi;simp only[Tr.sz]
  by_cases q2:n.op=2
  ·rw[if_pos q2] at hi;simp only[List.mem_cons,List.not_mem_nil,or_false] at hi;subst hi;exact pg.mk _ _ _ (by decide) (by decide) (by decide)
  rw[if_neg q2] at hi
  by_cases q7:n.op=7
  ·rw[if_pos q7] at hi;simp only[List.mem_cons,List.not_mem_nil,or_false] at hi;subst hi;exact pg.mk _ _ _ (by decide) (by decide) (by decide)
  rw[if_neg q7] at hi
  by_cases q8:n.op=8
  ·rw[if_pos q8] at hi;simp only[List.mem_cons,List.not_mem_nil,or_false] at hi;subst hi;exact pg.mk _ _ _ (by decide) (by decide) (by decide)
  rw[if_neg q8] at hi
  have hz:∀s k,bH n s k=if n.op=4 then s+2*(k-1) else if n.op=6 then s+2 else if n.op=5 then(if n.mx=-1 then n.mn.toNat*s+s+2 else n.mn.toNat*s+(n.mx.toNat-n.mn.toNat)*(s+1)) else s:=by
   intro s k;unfold bH;rw[if_neg (by omega)]
  by_cases q3:n.op=3
  ·rw[if_pos q3] at hi;rw[hz,if_neg (by omega),if_neg (by omega),if_neg (by omega)];exact hc b i hi
  rw[if_neg q3] at hi
  by_cases q4:n.op=4
  ·rw[if_pos q4] at hi;have LU:bH n ks.sz ks.len=ks.sz+2*(ks.len-1):=by rw[hz,if_pos q4]
   rw[LU] at hi⊢;exact Cd ks b (b+(ks.sz+2*(ks.len-1))) bq.2 (Nat.le_refl _) i hi
  rw[if_neg q4] at hi
  by_cases q5:n.op=5
  ·rw[if_pos q5] at hi;rw[hz,if_neg q4,if_neg (by omega),if_pos q5];unfold oB at hi
   by_cases qm:n.mx=-1
   ·rw[if_pos qm] at hi⊢
    rcases List.mem_append.1 hi with hi|hi
    ·exact(vA hc _ _ i hi).mono (Nat.le_refl _) (by omega)
    ·rcases List.mem_cons.1 hi with rfl|hi
     ·exact pg.sp (by omega) (by omega)
     ·rcases List.mem_append.1 hi with hi|hi
      ·exact(hc _ i hi).mono (by omega) (by omega)
      ·simp only[List.mem_cons,List.not_mem_nil,or_false] at hi;subst hi;exact pg.jp (by omega)
   ·rw[if_neg qm] at hi⊢
    rcases List.mem_append.1 hi with hi|hi
    ·exact(vA hc _ _ i hi).mono (Nat.le_refl _) (by omega)
    ·exact Bl (fun s h1 h2=>pg.sp (by omega) (by omega)) hc _ _ (by omega) (by omega) i hi
  rw[if_neg q5] at hi
  by_cases q6:n.op=6
  ·rw[if_pos q6] at hi;rw[hz,if_neg q4,if_pos q6]
   rcases List.mem_cons.1 hi with rfl|hi
   ·exact pg.mk _ _ _ (by decide) (by decide) (by decide)
   ·rcases List.mem_append.1 hi with hi|hi
    ·exact(hc _ i hi).mono (by omega) (by omega)
    ·simp only[List.mem_cons,List.not_mem_nil,or_false] at hi;subst hi;exact pg.mk _ _ _ (by decide) (by decide) (by decide)
  ·rw[if_neg q6] at hi;cases hi
theorem B4:∀(ts:bD) (b:Nat),ts.ok→∀i∈gp ts b,pg b (b+ts.sz) i
 | .nil,b,_,i,hi=>by simp[gp] at hi
 | .cons t ts,b,bq,i,hi=>by
  simp only[bD.ok] at bq;simp only[gp] at hi;simp only[bD.sz]
  rcases List.mem_append.1 hi with hi|hi
  ·exact(s_ t b bq.1 i hi).mono (Nat.le_refl _) (by omega)
  ·exact(B4 ts _ bq.2 i hi).mono (by omega) (by omega)
theorem Cd:∀(ts:bD) (b e:Nat),ts.ok→b+(ts.sz+2*(ts.len-1))≤e→∀i∈eT (nK e) ts b,pg b e i
 | .nil,b,e,_,_,i,hi=>by simp[eT] at hi
 | .cons t ts,b,e,bq,he,i,hi=>by
  simp only[bD.ok] at bq;simp only[eT] at hi;simp only[bD.sz,bD.len] at he
  by_cases q:ts.len=0
  ·rw[if_pos q] at hi;exact(s_ t b bq.1 i hi).mono (Nat.le_refl _) (by omega)
  ·rw[if_neg q] at hi
   rcases List.mem_cons.1 hi with rfl|hi
   ·exact pg.sp (by omega) (by omega)
   ·rcases List.mem_append.1 hi with hi|hi
    ·exact(s_ t _ bq.1 i hi).mono (by omega) (by omega)
    ·rcases List.mem_cons.1 hi with rfl|hi
     ·exact pg.jp (by omega)
     ·exact(Cd ts _ e bq.2 (by omega) i hi).mono (by omega) (by omega)
end
theorem AJ (r:Nat) (c:List aK) (s:List Int):eX [] r c s=⟨c,s,0,0⟩:=by simp only[eX]
theorem yJ {code:List aK} {pc:Nat} {i:aK} (h:(code.map mK)[pc]?=some i):∃q,code[pc]?=some q∧i=mK q:=by
 rw[List.getElem?_map] at h;obtain⟨q,hq,rfl⟩:=Option.map_eq_some_iff.1 h;exact⟨q,hq,rfl⟩
theorem get_copy {code:List aK} {pc:Nat} {i:aK} (h:code[pc]?=some i):(code.map mK)[pc]?=some (mK i):=by
 rw[List.getElem?_map,h];rfl
theorem yH (code:List aK):∀(f:Nat) (seen:List Bool) (eU:List Int),wV (code.map mK) f seen eU=wV code f seen eU
 |0,_,_=>rfl
 |_+1,_,[]=>rfl
 |f+1,seen,v::eU=>by
  have ih:=yH code f;unfold wV;rw[List.getElem?_map]
  cases h1:seen[v.toNat]? with
  |none=>exact ih _ _
  |some b=>
   cases b with
   |true=>exact ih _ _
   |false=>
    cases h2:code[v.toNat]? with
    |none=>rfl
    |some i=>exact ih _ _
theorem rI (code:List aK) (s:Int):ba (code.map mK) s=ba code s:=by
 unfold ba;rw[List.length_map,yH]
theorem zk {p q:Pg} (h1:q.code=p.code.map mK) (h2:q.aq=p.aq):cL q↔cL p:=by
 have hl:q.code.length=p.code.length:=by rw[h1];simp
 constructor
 ·intro h;refine⟨by rw[←hl];exact h.cl,by rw[←h2];exact h.sl,fun pc i hi=>?_,fun v hv=>?_,fun r s hs pc i BJ wb hi gb=>?_⟩
  ·have:=h.sh pc (mK i) (by rw[h1];exact get_copy hi);rw[hl,h2] at this;exact this
  ·have:=h.st v (by rw[h2];exact hv);rw[hl] at this;exact this
  ·exact h.fo r s (by rw[h2];exact hs) pc (mK i) (by rw[hl];exact BJ) (by rw[h1,rI];exact wb) (by rw[h1];exact get_copy hi) gb
 ·intro h;refine⟨by rw[hl];exact h.cl,by rw[h2];exact h.sl,fun pc i hi=>?_,fun v hv=>?_,fun r s hs pc i BJ wb hi gb=>?_⟩
  ·rw[h1] at hi;obtain⟨j,hj,rfl⟩:=yJ hi;rw[hl,h2];exact h.sh pc j hj
  ·rw[hl];exact h.st v (by rw[←h2];exact hv)
  ·rw[h1] at hi wb;rw[rI] at wb;obtain⟨j,hj,rfl⟩:=yJ hi;exact h.fo r s (by rw[←h2];exact hs) pc j (by rw[←hl];exact BJ) wb hj gb
end Go.Proofs.YtecjacicdpejaaaGreat
