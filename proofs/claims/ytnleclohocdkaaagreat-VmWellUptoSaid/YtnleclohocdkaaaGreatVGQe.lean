/-
 Of each node how many instructions its code has, and what stands behind it: both lists are filled in place.
-/
import Derived.Test.YtnleclohocdkaaaGreatVGHr
import Derived.Test.YtnleclohocdkaaaGreatVGPh
import Derived.Test.YtnleclohocdkaaaGreatVGJi
set_option maxRecDepth 100000
set_option maxHeartbeats 4000000
set_option linter.unusedSimpArgs false
set_option linter.unusedVariables false
namespace Go.Proofs.YtnleclohocdkaaaGreat
open Go.V Go
def aG (fr:Go.V.Fr) (k:Nat):Go.V.D:=Go.V.nth .junk fr.loc k
def mA (es:List Int) (a:Nat) (M:List Int):List Int:=es.take a++M++es.drop (a+M.length)
theorem y_ {es M:List Int} {a:Nat} (h:a+M.length≤es.length):(mA es a M).length=es.length:=by
 unfold mA;simp only[List.length_append,List.length_take,List.length_drop];omega
theorem y9 {es:List Int} {a:Nat}:mA es a []=es:=by
 unfold mA;simp
theorem Ew {es M:List Int} {a:Nat} {x:Int} (h:a≤es.length):(mA es a (x::M))[a]?=some x:=by
 unfold mA;rw[List.append_assoc,List.getElem?_append_right (by simp only[List.length_take];omega)];simp[Nat.min_eq_left h]
theorem y7 {es M M':List Int} {a:Nat} (h:a+M.length+M'.length≤es.length):mA (mA es a M) (a+M.length) M'=mA es a (M++M'):=by
 unfold mA;have h1:(es.take a++M).length=a+M.length:=by simp only[List.length_append,List.length_take];omega
 rw[List.take_append_of_le_length (by omega),List.take_of_length_le (by omega)];rw[←h1,List.drop_append,List.drop_eq_nil_of_le (by omega),List.nil_append,h1,List.drop_drop];simp only[List.append_assoc,List.length_append]
 congr 4
 omega
theorem y8 {es M:List Int} {a:Nat} {v:Int} (h:a+1+M.length≤es.length):(mA es (a+1) M).set a v=mA es a (v::M):=by
 unfold mA;have h1:(es.take a).length=a:=by simp only[List.length_take];omega
 rw[List.append_assoc,List.take_add_one,List.getElem?_eq_getElem (by omega)];simp only[Option.toList_some,List.append_assoc,List.cons_append,List.nil_append,List.length_cons];rw[List.set_append_right _ _ (by omega),h1,Nat.sub_self,List.set_cons_zero]
 congr 4
 omega
theorem B1 {l:List Nod} {d:D} (hl:l.length≤1048576) (hi:∀n∈l,n.ok) (hd:SlD d 7 (l.map aS)):∀(m:Nat) (t:Tr),t.flat.length≤m→t.ok→∀{N:Nat} {S s0:St} {H:List aP} {out:D} {es:List Int} {at_:Nat},eT l at_ t.flat→es.length=l.length→Has N S s0 (.lst out 1 (es.map ae)::H)→
  ∃r ab,Ev pv 44 [d,out,.int .i64 (at_:Nat)] s0 r ab∧r=.int .i64 ((at_+t.flat.length:Nat):Int)∧Has N S ab (.lst out 1 ((mA es at_ t.zs).map ae)::H):=by
 intro m
 induction m with
 |zero=>intro t h;have:=t.gJ;omega
 |succ m ih=>
  rintro⟨n,ks⟩ hm hok N S s0 H out es at_ jn mB hH;simp only[Tr.ok] at hok;obtain⟨jA,jI⟩:=hok;simp only[Tr.flat,List.length_cons] at hm;have hle:=jn.le (by simp[Tr.flat]);simp only[Tr.flat] at jn hle;simp only[List.length_cons] at hle;have hn:=jn.head;have jn:=jn.tail;have J3:=hi n (List.mem_of_getElem? hn);have hr1:=kG hn;have Gh:=vO J3;have IJ:=jA.1;have lC:=bc.jY ks;refine Ev.iI rfl O6 rfl rfl rfl ?_;refine zE ?_;have bY:=hH;have hH:=hH.cg;have bZ:(enterSt .rw s0).bs=s0.bs:=rfl;generalize enterSt .rw s0=S2 at*;have hc:=hd.arg N S2;refine zQ 8 ?_;refine qr fun P3 JW=>?_;refine EvO.bF rfl (ev rfl) (by assumption) rfl (by dsimp only[Fr.put,u1,u2]<;>rfl) ?_;refine qa hH fun k7 st IL hH=>?_;refine EvO.hstoreA hH rfl (ev rfl) (ev rfl) (by rfl) (by exact rfl) (by exact at0) (by exact rfl) (by exact .inr (by assumption)) (fun st hH=>?_);dsimp only[u2,u1,u3,u4,setMany,u5,u6,D.cells,Nat.reduceAdd,aS,ae] at hH;refine zQ 19 ?_;refine EvC.loop (fun mm fr st=>∃(i j ss:Nat) (rest:bc) (ow:List Int),fr.clean=⟨36,[d,out,.int .i64 (at_:Nat),aG fr 3,aG fr 4,aG fr 5,.int .i64 0,.ptr k7 0 0,.int .i64 (j:Nat),.int .i64 ((min ss 401:Nat):Int),aG fr 10,aG fr 11,aG fr 12,aG fr 13,aG fr 14,aG fr 15,aG fr 16,aG fr 17,.int .i64 n.kids,.int .i64 (i:Nat),aG fr 20,aG fr 21,aG fr 22,aG fr 23,aG fr 24,aG fr 25,aG fr 26,aG fr 27,aG fr 28,aG fr 29,aG fr 30,aG fr 31,aG fr 32,aG fr 33,aG fr 34,aG fr 35],[]⟩∧Has N S2 st (.lst out 1 (ow.map ae)::.box k7 (.mem 0 false (aS n))::H)∧(mm=rest.len)∧(i+rest.len=ks.len)∧(eT l j rest.flat)∧(rest.ok)∧(ss+rest.sz=ks.sz)∧(ow.length=l.length)∧(mA ow j rest.zs=mA es (at_+1) ks.zs)∧(j+rest.flat.length=at_+1+ks.flat.length)∧(rest.flat.length≤m)) (ks.len) ?_ ?_
  ·exact⟨0,at_+1,0,ks,es,rfl,(by have:=hH.front at1;exact this),rfl,by omega,jn,jI,by omega,mB,rfl,rfl,by omega⟩
  rintro mm fr st ⟨i,j,ss,rest,ow,hfr,hH,xk,Ba,ot,jz,zH,yr,ui,hj,Hk⟩;rw[hfr];clear hfr;generalize aG fr=ee;clear fr;refine zQ 4 ?_
  cases rest with
  |nil=>
   simp only[bc.len] at Ba;simp only[bc.sz] at zH;simp only[bc.flat,List.length_nil] at hj;simp only[bc.zs,y9] at ui;have hcc:decide ((i:Int)<n.kids)=false:=by rw[decide_eq_false_iff_not];omega
   refine qq<|qE rfl (by rw[hcc]) ?_;refine zQ 1 ?_;obtain rfl:ss=ks.sz:=by omega
   have jn:=ot;refine zQ 6 ?_;refine EvC.merge (fun fr st=>∃(tmp:List (Nat×D)),fr=⟨36,[d,out,.int .i64 (at_:Nat),aG fr 3,aG fr 4,aG fr 5,.int .i64 0,.ptr k7 0 0,.int .i64 (j:Nat),.int .i64 ((bh n (min ks.sz 401) ks.len:Nat):Int),aG fr 10,aG fr 11,aG fr 12,aG fr 13,aG fr 14,aG fr 15,aG fr 16,aG fr 17,aG fr 18,aG fr 19,aG fr 20,aG fr 21,aG fr 22,aG fr 23,aG fr 24,aG fr 25,aG fr 26,aG fr 27,aG fr 28,aG fr 29,aG fr 30,aG fr 31,aG fr 32,aG fr 33,aG fr 34,aG fr 35],tmp⟩∧Has N S2 st (.lst out 1 (ow.map ae)::.box k7 (.mem 0 false (aS n))::H)) ?_ ?_
   ·refine zQ 7 ?_;generalize hw:min ks.sz 401=w;have MT:w≤401:=by omega
    have ij:ks.len≤9223372036854775→True:=fun _=>trivial
    by_cases q2:n.op=2
    ·have hz:bh n w ks.len=1:=by unfold bh;rw[if_pos (.inl q2)]
     rw[hz];refine qD rfl (by simp[q2]) ?_;refine zQ 1 ?_;refine qD rfl (by simp[q2]) ?_;refine zQ 3 ?_;exact⟨_,rfl,hH⟩
    refine qE rfl (by simp[q2]) ?_;refine zQ 5 ?_
    by_cases q7:n.op=7
    ·have hz:bh n w ks.len=1:=by unfold bh;rw[if_pos (.inr (.inl q7))]
     rw[hz];refine qD rfl (by simp[q7]) ?_;refine zQ 1 ?_;refine qD rfl (by simp[q7]) ?_;refine zQ 3 ?_;exact⟨_,rfl,hH⟩
    refine qE rfl (by simp[q7]) ?_;refine zQ 4 ?_
    by_cases q8:n.op=8
    ·have hz:bh n w ks.len=1:=by unfold bh;rw[if_pos (.inr (.inr q8))]
     rw[hz];refine qD rfl (by simp[q8]) ?_;refine zQ 3 ?_;exact⟨_,rfl,hH⟩
    refine qE rfl (by simp[q8]) ?_
    have hz0:bh n w ks.len=if n.op=4 then w+2*(ks.len-1) else if n.op=6 then w+2 else if n.op=5 then(if n.mx=-1 then n.mn.toNat*w+w+2 else n.mn.toNat*w+(n.mx.toNat-n.mn.toNat)*(w+1)) else w:=by
     unfold bh;rw[if_neg (by omega)]
    rw[hz0];clear hz0;obtain⟨_,gQ⟩:=jA;have hq:(n.op=1∧ks.len=0)∨((n.op=3∨n.op=4)∧2≤ks.len)∨(n.op=5∧ks.len=1∧0≤n.mn∧n.mn≤30∧(n.mx=-1∨(n.mn≤n.mx∧n.mx≤30)))∨(n.op=6∧ks.len=1∧1≤n.cap∧n.cap≤4):=by omega
    refine zQ 5 ?_
    by_cases q4:n.op=4
    ·rw[if_pos q4];have hk2:2≤ks.len:=by omega
     refine qD rfl (by simp[q4]) ?_;refine zQ 4 ?_;refine EvO.gR (z:=((ks.len-1:Nat):Int)) rfl (ev rfl) (ev rfl) (by(try simp only[List.length_reverse,List.length_cons,List.length_nil,List.length_append,List.length_map,List.length_set]);rw[wrap_i64 (by omega) (by omega)]<;>omega) (put_T rfl _) ?_;refine EvO.xU (z:=((2*(ks.len-1):Nat):Int)) rfl (ev rfl) (ev rfl) (by(try simp only[List.length_reverse,List.length_cons,List.length_nil,List.length_append,List.length_map,List.length_set]);rw[wrap_i64 (by omega) (by omega)]<;>omega) (put_T rfl _) ?_;refine EvO.ke (z:=((w+2*(ks.len-1):Nat):Int)) rfl (ev rfl) (ev rfl) (by(try simp only[List.length_reverse,List.length_cons,List.length_nil,List.length_append,List.length_map,List.length_set]);rw[wrap_i64 (by omega) (by omega)]<;>omega) (put_T rfl _) ?_;refine zQ 2 ?_;exact⟨_,rfl,hH⟩
    rw[if_neg q4];refine qE rfl (by simp[q4]) ?_;refine zQ 5 ?_
    by_cases q6:n.op=6
    ·rw[if_pos q6];refine qD rfl (by simp[q6]) ?_;refine zQ 5 ?_;exact⟨_,rfl,hH⟩
    rw[if_neg q6];refine qE rfl (by simp[q6]) ?_;refine zQ 5 ?_
    by_cases q5:n.op=5
    ·rw[if_pos q5];refine qD rfl (by simp[q5]) ?_;refine zQ 6 ?_;have zL:0≤n.mn∧n.mn≤30∧(n.mx=-1∨(n.mn≤n.mx∧n.mx≤30)):=by omega
     obtain⟨a,ha⟩:∃a:Nat,n.mn=(a:Int):=Int.eq_ofNat_of_zero_le zL.1;have E_:n.mn.toNat=a:=by omega
     have h1:a*w≤30*401:=Nat.mul_le_mul (by omega) MT;have hmul:n.mn*(w:Int)=((a*w:Nat):Int):=by rw[ha];push_cast;rfl
     rw[E_]
     by_cases Cc:n.mx=-1
     ·rw[if_pos Cc];refine qD rfl (by simp[Cc]) ?_;refine zQ 4 ?_;refine EvO.xU (z:=((a*w:Nat):Int)) rfl (ev rfl) (ev rfl) (by(try simp only[List.length_reverse,List.length_cons,List.length_nil,List.length_append,List.length_map,List.length_set]);rw[wrap_i64 (by omega) (by omega)]<;>omega) (put_T rfl _) ?_;refine qm ?_;refine EvO.ke (z:=((a*w+w:Nat):Int)) rfl (ev rfl) (ev rfl) (by(try simp only[List.length_reverse,List.length_cons,List.length_nil,List.length_append,List.length_map,List.length_set]);rw[wrap_i64 (by omega) (by omega)]<;>omega) (put_T rfl _) ?_;refine EvO.ke (z:=((a*w+w+2:Nat):Int)) rfl (ev rfl) (ev rfl) (by(try simp only[List.length_reverse,List.length_cons,List.length_nil,List.length_append,List.length_map,List.length_set]);rw[wrap_i64 (by omega) (by omega)]<;>omega) (put_T rfl _) ?_;refine zQ 2 ?_;exact⟨_,rfl,hH⟩
     ·rw[if_neg Cc];obtain⟨b,hb⟩:∃b:Nat,n.mx=(b:Int):=Int.eq_ofNat_of_zero_le (by omega);have R8:n.mx.toNat=b:=by omega
      have h2:(b-a)*(w+1)≤30*402:=Nat.mul_le_mul (by omega) (by omega);rw[R8];refine qE rfl (by simp[Cc]) ?_;refine zQ 4 ?_;refine EvO.xU (z:=((a*w:Nat):Int)) rfl (ev rfl) (ev rfl) (by(try simp only[List.length_reverse,List.length_cons,List.length_nil,List.length_append,List.length_map,List.length_set]);rw[wrap_i64 (by omega) (by omega)]<;>omega) (put_T rfl _) ?_;refine zQ 4 ?_;refine EvO.gR (z:=((b-a:Nat):Int)) rfl (ev rfl) (ev rfl) (by(try simp only[List.length_reverse,List.length_cons,List.length_nil,List.length_append,List.length_map,List.length_set]);rw[wrap_i64 (by omega) (by omega)]<;>omega) (put_T rfl _) ?_;refine qm ?_;refine EvO.ke (z:=((w+1:Nat):Int)) rfl (ev rfl) (ev rfl) (by(try simp only[List.length_reverse,List.length_cons,List.length_nil,List.length_append,List.length_map,List.length_set]);rw[wrap_i64 (by omega) (by omega)]<;>omega) (put_T rfl _) ?_;refine EvO.xU (z:=(((b-a)*(w+1):Nat):Int)) rfl (ev rfl) (ev rfl) (by(try simp only[List.length_reverse,List.length_cons,List.length_nil,List.length_append,List.length_map,List.length_set]);rw[wrap_i64 (by omega) (by omega)]<;>omega) (put_T rfl _) ?_;refine EvO.ke (z:=((a*w+(b-a)*(w+1):Nat):Int)) rfl (ev rfl) (ev rfl) (by(try simp only[List.length_reverse,List.length_cons,List.length_nil,List.length_append,List.length_map,List.length_set]);rw[wrap_i64 (by omega) (by omega)]<;>omega) (put_T rfl _) ?_;refine zQ 2 ?_;exact⟨_,rfl,hH⟩
    ·rw[if_neg q5];refine qE rfl (by simp[q5]) ?_;refine zQ 1 ?_;exact⟨_,rfl,hH⟩
   ·rintro fr st ⟨tmp,hfr,hH⟩;rw[hfr];clear hfr;generalize aG fr=ee;clear fr;have kR:=FX (n:=n) (k:=ks.len) (s:=ks.sz);have g_:at_<ow.length:=by omega
    obtain⟨w,hw⟩:∃w,ow[at_]?=some w:=⟨ow[at_]'g_,List.getElem?_eq_getElem _⟩
    have Sj:=dc hw;refine zQ 5 ?_;refine EvO.Jl (z:=((min (bh n ks.sz ks.len) 401:Nat):Int)) (t1:=_) (t2:=_) rfl (ev rfl) (ev rfl) (by omega) (put_T rfl _) ?_;refine qi hH at0 fun Rz Nk=>?_;refine EvO.eW hH rfl (ev rfl) (ev rfl) (by assumption) rfl rfl (by exact at0) (by assumption) (Nat.le_of_ble_eq_true rfl) (by exact .inr rfl) (fun st hH=>?_);dsimp only[u2,u1,u3,u4,setMany,u5,u6,D.cells,Nat.reduceAdd,aS,ae] at hH;refine zQ 6 ?_;refine EvC.ret ⟨rx,_,_,_,rfl,ag (rfl),?_⟩;have N1:j=at_+(Tr.mk n ks).flat.length:=by simp only[Tr.flat,List.length_cons];omega
    refine⟨by rw[N1];rfl,?_⟩
    have eM:mA es at_ (Tr.zs (.mk n ks))=ow.set at_ ((min (bh n ks.sz ks.len) 401:Nat):Int):=by
     rw[ui,y8 (by rw[bc.ia];omega)];rfl
    rw[eM,List.map_set];exact bY.wc bZ (hH.erase 1)
  |cons t ts=>
   simp only[bc.len] at Ba xk;simp only[bc.sz] at zH;simp only[bc.flat,List.length_append] at hj ot Hk;simp only[bc.zs] at ui;simp only[bc.ok] at jz;have hcc:decide ((i:Int)<n.kids)=true:=by rw[decide_eq_true_eq];omega
   have JD:=t.gJ;have Ha:=t.ia;have Jv:=ts.ia;have HO:(mA ow j t.zs).length=l.length:=by rw[y_ (by omega)];exact yr
   have RX:(mA ow j t.zs)[j]?=some ((min t.sz 401:Nat):Int):=by
    obtain⟨n',Js⟩:=t;simp only[Tr.zs,Tr.sz];exact Ew (by omega)
   have Sk:=dc RX;refine qq<|qD rfl (by rw[hcc]) ?_;refine zQ 13 ?_;obtain⟨_,st,hev,rfl,hH⟩:=ih t (by omega) jz.1 ot.left yr hH;refine qv hev ?_;refine zQ 6 ?_;refine qi hH at0 fun PX JR=>?_;refine zQ 1 ?_;refine EvO.ke (z:=((min ss 401+min t.sz 401:Nat):Int)) rfl (ev rfl) (ev rfl) (by(try simp only[List.length_reverse,List.length_cons,List.length_nil,List.length_append,List.length_map,List.length_set]);rw[wrap_i64 (by omega) (by omega)]<;>omega) (by dsimp only[Fr.put,u1,u2]<;>rfl) ?_;refine EvO.Jl (z:=((min (ss+t.sz) 401:Nat):Int)) (t1:=_) (t2:=_) rfl (ev rfl) (ev rfl) (by omega) (by dsimp only[Fr.put,u1,u2]<;>rfl) ?_;refine zQ 6 ?_;exact⟨mm-1,by omega,⟨i+1,j+t.flat.length,ss+t.sz,ts,mA ow j t.zs,rfl,hH,by omega,by omega,ot.right,jz.2,by omega,HO,by rw[←ui];have:=y7 (es:=ow) (a:=j) (M:=t.zs) (M':=ts.zs) (by omega);rw[Ha] at this;exact this,by omega,by omega⟩⟩
theorem FO {l:List Nod} {d:D} (hl:l.length≤1048576) (hi:∀n∈l,n.ok) (hd:SlD d 7 (l.map aS)):∀(m:Nat) (t:Tr),t.flat.length≤m→t.ok→∀{N:Nat} {S s0:St} {H:List aP} {out:D} {es:List Int} {at_:Nat},eT l at_ t.flat→es.length=l.length→Has N S s0 (.lst out 1 (es.map ae)::H)→
  ∃r ab,Ev pv 45 [d,out,.int .i64 (at_:Nat)] s0 r ab∧r=.int .i64 ((at_+t.flat.length:Nat):Int)∧Has N S ab (.lst out 1 ((mA es at_ (t.es at_)).map ae)::H):=by
 intro m
 induction m with
 |zero=>intro t h;have:=t.gJ;omega
 |succ m ih=>
  rintro⟨n,ks⟩ hm hok N S s0 H out es at_ jn mB hH;simp only[Tr.ok] at hok;obtain⟨jA,jI⟩:=hok;simp only[Tr.flat,List.length_cons] at hm;have hle:=jn.le (by simp[Tr.flat]);simp only[Tr.flat] at jn hle;simp only[List.length_cons] at hle;have hn:=jn.head;have jn:=jn.tail;have J3:=hi n (List.mem_of_getElem? hn);have hr1:=kG hn;have IJ:=jA.1;have lC:=bc.jY ks;refine Ev.iI rfl O5 rfl rfl rfl ?_;refine zE ?_;have bY:=hH;have hH:=hH.cg;have bZ:(enterSt .rw s0).bs=s0.bs:=rfl;generalize enterSt .rw s0=S2 at*;have hc:=hd.arg N S2;refine zQ 15 ?_;refine qr fun P4 JX=>?_;refine qf (fo:=6) fun P3 JW=>?_;refine zQ 4 ?_;refine EvC.loop (fun mm fr st=>∃(i j:Nat) (rest:bc) (ow:List Int),fr.clean=⟨16,[d,out,.int .i64 (at_:Nat),aG fr 3,aG fr 4,aG fr 5,.int .i64 0,.int .i64 (j:Nat),aG fr 8,aG fr 9,aG fr 10,aG fr 11,aG fr 12,aG fr 13,.int .i64 n.kids,.int .i64 (i:Nat)],[]⟩∧Has N S2 st (.lst out 1 (ow.map ae)::H)∧(mm=rest.len)∧(i+rest.len=ks.len)∧(eT l j rest.flat)∧(rest.ok)∧(ow.length=l.length)∧(mA ow j (rest.es j)=mA es (at_+1) (ks.es (at_+1)))∧(j+rest.flat.length=at_+1+ks.flat.length)∧(rest.flat.length≤m)) (ks.len) ?_ ?_
  ·exact⟨0,at_+1,ks,es,rfl,hH,rfl,by omega,jn,jI,mB,rfl,rfl,by omega⟩
  rintro mm fr st ⟨i,j,rest,ow,hfr,hH,xk,Ba,ot,jz,yr,ui,hj,Hk⟩;rw[hfr];clear hfr;generalize aG fr=ee;clear fr;refine zQ 4 ?_
  cases rest with
  |nil=>
   simp only[bc.len] at Ba;simp only[bc.flat,List.length_nil] at hj;simp only[bc.es,y9] at ui;have hcc:decide ((i:Int)<n.kids)=false:=by rw[decide_eq_false_iff_not];omega
   have g_:at_<ow.length:=by omega
   obtain⟨w,hw⟩:∃w,ow[at_]?=some w:=⟨ow[at_]'g_,List.getElem?_eq_getElem _⟩
   have Sj:=dc hw;refine qq<|qE rfl (by rw[hcc]) ?_;refine zQ 6 ?_;refine qi hH at0 fun GP yj=>?_;refine EvO.eW hH rfl (ev rfl) (ev rfl) (by assumption) rfl rfl (by exact at0) (by assumption) (Nat.le_of_ble_eq_true rfl) (by exact .inr rfl) (fun st hH=>?_);dsimp only[u2,u1,u3,u4,setMany,u5,u6,D.cells,Nat.reduceAdd,aS,ae] at hH;refine zQ 6 ?_;refine EvC.ret ⟨rx,_,_,_,rfl,ag (rfl),?_⟩;have N1:j=at_+(Tr.mk n ks).flat.length:=by simp only[Tr.flat,List.length_cons];omega
   refine⟨by rw[N1];rfl,?_⟩
   have eM:mA es at_ (Tr.es (.mk n ks) at_)=ow.set at_ ((j:Nat):Int):=by
    rw[ui,y8 (by rw[bc.il];omega)];have:j=at_+1+ks.flat.length:=by omega
    rw[this];rfl
   rw[eM,List.map_set];exact bY.wc bZ hH
  |cons t ts=>
   simp only[bc.len] at Ba xk;simp only[bc.flat,List.length_append] at hj ot Hk;simp only[bc.es] at ui;simp only[bc.ok] at jz;have hcc:decide ((i:Int)<n.kids)=true:=by rw[decide_eq_true_eq];omega
   have JD:=t.gJ;have Ha:=t.il j;have Jv:=ts.il (j+t.flat.length);have HO:(mA ow j (t.es j)).length=l.length:=by rw[y_ (by omega)];exact yr
   refine qq<|qD rfl (by rw[hcc]) ?_;refine zQ 7 ?_;obtain⟨_,st,hev,rfl,hH⟩:=ih t (by omega) jz.1 ot.left yr hH;refine qv hev ?_;refine zQ 6 ?_;exact⟨mm-1,by omega,⟨i+1,j+t.flat.length,ts,mA ow j (t.es j),rfl,hH,by omega,by omega,ot.right,jz.2,HO,by rw[←ui];have:=y7 (es:=ow) (a:=j) (M:=t.es j) (M':=ts.es (j+t.flat.length)) (by omega);rw[Ha] at this;exact this,by omega,by omega⟩⟩
theorem fM {N k:Nat} {S s0:St} {H:List aP} {ks:Nat→Prop} {cd nd zd ed w:D} {code:List aC} {op x y:Int} {rs:List Rg} (hF:S.flr≤N) (hl:code.length≤1048576) (hH:Has N S s0 (.lst w 2 (rs.map ah)::.box k (.mem 0 false [cd,nd,zd,ed])::.deep ks cd 4 (code.map aq)::H)):
  ∃r ab,Ev pv 46 [.ptr k 0 0,.agg [.int .i64 op,.int .i64 x,.int .i64 y,w]] s0 r ab∧r=.int .i64 (code.length:Nat)∧∃QV Js,Has N S ab (.box k (.mem 0 false [QV,nd,zd,ed])::.deep Js QV 4 ((code++[cz op x y rs]).map aq)::H):=by
 refine Ev.iI rfl O4 rfl rfl rfl ?_;refine zE ?_;change EvC _ _ _ _ s0 _;refine zQ 2 ?_;refine qb hH fun k3 st BD hH=>?_;refine zQ 9 ?_;refine EvO.hloadS (m:=4) hH rfl (ev rfl) (by exact at0) (by dsimp only[List.drop_succ_cons,List.drop_zero,List.take_succ_cons,List.take_zero,aq]<;>rfl) rfl rfl (put_T rfl _) ?_;refine qh (s:=4) (vs:=[_]) hH fun k11 st hk11 hH=>?_;obtain⟨hH,Kr⟩:=hH.yV (i:=2) (j:=4) (by decide) at2 at4 (c8 _);dsimp only[u1,u2] at hH;refine EvO.me hH rfl (ev rfl) (ev rfl) at4 (hH.rows at0) (.cons (.cons (.plain _ rfl) (.cons (.plain _ rfl) (.cons (.plain _ rfl) (.cons Kr .nil)))) .nil) rfl rfl rfl rfl rfl rfl rfl ⟨(Nat.le_of_ble_eq_true rfl),(Nat.le_of_ble_eq_true rfl)⟩ (fun _=>(put_T rfl _)) (by simp only[List.length_map,List.length_cons,List.length_nil];omega) (.inl hF) (fun UL st hH=>?_);dsimp only[u1,u2] at hH;refine zQ 2 ?_;refine EvO.lA hH rfl (ev rfl) (ev rfl) (by exact hH.dcells (by exact at4)) (by exact rfl) (by exact at3) (by exact Nat.le_of_ble_eq_true rfl) (by exact .inl hF) (fun st hH=>?_);dsimp only[u2,u1,u3,u4,setMany,u5,u6,D.cells,Nat.reduceAdd,aq] at hH;refine zQ 7 ?_;refine EvO.Bl hH rfl (ev rfl) (by exact at4) rfl (put_T rfl _) ?_;simp only[List.length_map,List.length_append,List.length_cons,List.length_nil];refine EvO.gR (z:=((code.length:Nat):Int)) rfl (ev rfl) (ev rfl) (by(try simp only[List.length_reverse,List.length_cons,List.length_nil,List.length_append,List.length_map,List.length_set]);rw[wrap_i64 (by omega) (by omega)]<;>omega) (put_T rfl _) ?_;refine zQ 2 ?_;refine EvC.ret ⟨rx,_,_,_,rfl,rfl,?_⟩;exact⟨rfl,_,_,by rw[List.map_append];exact hH.drop 3⟩
theorem oZ {N k:Nat} {S s0:St} {H:List aP} {ks:Nat→Prop} {cd nd zd ed:D} {code:List aC} {at_ over:Nat} {lz:Bool} {x y:Int} (g_:code[at_]?=some (cz 2 x y [])) (hl:code.length≤1048576) (hH:Has N S s0 (.box k (.mem 0 false [cd,nd,zd,ed])::.deep ks cd 4 (code.map aq)::H)):
  ∃r ab,Ev pv 114 [.ptr k 0 0,.int .i64 (at_:Nat),.int .i64 (over:Nat),.bool lz] s0 r ab∧r=.tup []∧Has N S ab (.box k (.mem 0 false [cd,nd,zd,ed])::.deep ks cd 4 ((code.set at_ (mK at_ over lz)).map aq)::H):=by
 have hlt:=lt_get g_;have hr1:(code.map aq)[at_]?=some [.int .i64 2,.int .i64 x,.int .i64 y,.sl []]:=de g_;have eM:∀a b:List D,(code.map aq).set at_ a=(code.map aq).set at_ a:=fun _ _=>rfl;refine Ev.iI rfl Ll rfl rfl rfl ?_;refine zE ?_;have bY:=hH;have hH:=hH.cg;have bZ:(enterSt .rw s0).bs=s0.bs:=rfl;generalize enterSt .rw s0=S2 at*;refine zQ 13 ?_;refine EvO.ke (z:=((at_+1:Nat):Int)) rfl (ev rfl) (ev rfl) (by(try simp only[List.length_reverse,List.length_cons,List.length_nil,List.length_append,List.length_map,List.length_set]);rw[wrap_i64 (by omega) (by omega)]<;>omega) (put_T rfl _) ?_;refine qm ?_;refine EvO.DE (s:=4) hH rfl (ev rfl) (ev rfl) (by exact at1) rfl rfl (by exact lt_get (by assumption)) (fun _=>(put_T rfl _)) (fun Jd C6=>?_);refine EvO.da (fo:=1) (m:=0) (o2:=1) rfl (ev rfl) (by assumption) rfl rfl rfl (fun _=>(put_T rfl _)) (fun Jc C5=>?_);refine EvO.q_ hH rfl (ev rfl) (ev rfl) (by assumption) rfl rfl (by exact at1) (by assumption) (Nat.le_of_ble_eq_true rfl) (by intro d hd;simp only[List.mem_cons,List.not_mem_nil,or_false] at hd;subst hd;rfl) (by exact .inr rfl) (fun st hH=>?_);dsimp only[u2,u1,u3,u4,setMany,u5,u6,D.cells,Nat.reduceAdd,aq] at hH;refine EvO.DE (s:=4) hH rfl (ev rfl) (ev rfl) (by exact at1) rfl rfl (by simp only[List.length_map,List.length_set]<;>omega) (fun _=>(put_T rfl _)) (fun LN Ft=>?_);refine EvO.da (fo:=2) (m:=0) (o2:=2) rfl (ev rfl) (by assumption) rfl rfl rfl (fun _=>(put_T rfl _)) (fun F9 wx=>?_);refine EvO.q_ hH rfl (ev rfl) (ev rfl) (by assumption) rfl rfl (by exact at1) (List.getElem?_set_self (by simp only[List.length_set,List.length_map];omega)) (Nat.le_of_ble_eq_true rfl) (by intro d hd;simp only[List.mem_cons,List.not_mem_nil,or_false] at hd;subst hd;rfl) (by exact .inr rfl) (fun st hH=>?_);dsimp only[u1,u2,setMany] at hH;rw[List.set_set] at hH;refine zQ 5 ?_
 cases lz with
 |false=>
  refine zQ 2 ?_;refine⟨fun i h=>(by cases h),_,_,_,rfl,ag rfl,?_⟩;exact⟨rfl,by rw[List.map_set];exact bY.we bZ hH⟩
 |true=>
  refine zQ 14 ?_;refine EvO.ke (z:=((at_+1:Nat):Int)) rfl (ev rfl) (ev rfl) (by(try simp only[List.length_reverse,List.length_cons,List.length_nil,List.length_append,List.length_map,List.length_set]);rw[wrap_i64 (by omega) (by omega)]<;>omega) (put_T rfl _) ?_;refine EvO.DE (s:=4) hH rfl (ev rfl) (ev rfl) (by exact at1) rfl rfl (by simp only[List.length_map,List.length_set]<;>omega) (fun _=>(put_T rfl _)) (fun Mw Hu=>?_);refine EvO.da (fo:=1) (m:=0) (o2:=1) rfl (ev rfl) (by assumption) rfl rfl rfl (fun _=>(put_T rfl _)) (fun RG Nu=>?_);refine EvO.q_ hH rfl (ev rfl) (ev rfl) (by assumption) rfl rfl (by exact at1) (List.getElem?_set_self (by simp only[List.length_set,List.length_map];omega)) (Nat.le_of_ble_eq_true rfl) (by intro d hd;simp only[List.mem_cons,List.not_mem_nil,or_false] at hd;subst hd;rfl) (by exact .inr rfl) (fun st hH=>?_);dsimp only[u1,u2,setMany] at hH;rw[List.set_set] at hH;refine EvO.DE (s:=4) hH rfl (ev rfl) (ev rfl) (by exact at1) rfl rfl (by simp only[List.length_map,List.length_set]<;>omega) (fun _=>(put_T rfl _)) (fun Vb SO=>?_);refine EvO.da (fo:=2) (m:=0) (o2:=2) rfl (ev rfl) (by assumption) rfl rfl rfl (fun _=>(put_T rfl _)) (fun RF Nt=>?_);refine EvO.q_ hH rfl (ev rfl) (ev rfl) (by assumption) rfl rfl (by exact at1) (List.getElem?_set_self (by simp only[List.length_set,List.length_map];omega)) (Nat.le_of_ble_eq_true rfl) (by intro d hd;simp only[List.mem_cons,List.not_mem_nil,or_false] at hd;subst hd;rfl) (by exact .inr rfl) (fun st hH=>?_);dsimp only[u1,u2,setMany] at hH;rw[List.set_set] at hH;refine zQ 1 ?_;refine⟨fun i h=>(by cases h),_,_,_,rfl,ag rfl,?_⟩;exact⟨rfl,by rw[List.map_set];exact bY.we bZ hH⟩
def ak (fr:Go.V.Fr) (k:Nat):Go.V.D:=Go.V.nth .junk fr.loc k
def jU (n:Nat):List D:=[.int .i64 (n:Nat)]
theorem vS {l:List Nat} {i q:Nat} (h:l[i]?=some q):(l.map jU)[i]?=some (jU q):=by rw[List.getElem?_map,h];rfl
def IW (N:Nat) (S st:St) (k:Nat) (nd zd ed:D) (Z E:List Int) (H:List aP) (code:List aC):Prop:=
 ∃cd ks,Has N S st (.box k (.mem 0 false [cd,nd,zd,ed])::.deep ks cd 4 (code.map aq)::.lst zd 1 (Z.map ae)::.lst ed 1 (E.map ae)::H)
def rB (l:List Nod) (t:Tr):Prop:=∀{N k:Nat} {S s0:St} {H:List aP} {nd zd ed:D} {code:List aC} {Z E:List Int} {at_:Nat},S.flr≤N→SlD nd 7 (l.map aS)→eT l at_ t.flat→eT Z at_ t.zs→eT E at_ (t.es at_)→t.ok→code.length+t.sz≤1000000→IW N S s0 k nd zd ed Z E H code→
 ∃r ab,Ev pv 47 [.ptr k 0 0,.int .i64 (at_:Nat)] s0 r ab∧r=.tup []∧IW N S ab k nd zd ed Z E H (code++aH t code.length)
theorem z8 {E:List Int} {t:Tr} {a:Nat} (h:eT E a (t.es a)):E[a]?=some ((a+t.flat.length:Nat):Int):=by
 obtain⟨n,ks⟩:=t;simp only[Tr.es] at h;rw[h.head];simp only[Tr.flat,List.length_cons]
 congr 2;omega
theorem yY {Z:List Int} {t:Tr} {a:Nat} (h:eT Z a t.zs):Z[a]?=some ((min t.sz 401:Nat):Int):=by
 obtain⟨n,ks⟩:=t;simp only[Tr.zs] at h;rw[h.head];rfl
theorem Io {l:List Nod} (hll:l.length≤1048576) {m:Nat} (ih:∀t:Tr,t.flat.length≤m→rB l t) {n:Nod} {ks:bc} (eU:n.op=4) (NJ:ks.flat.length≤m) (jA:vP n ks.len) (jI:ks.ok) {N k:Nat} {S s0:St} {H:List aP} {nd zd ed:D} {code:List aC} {Z E:List Int} {at_:Nat} (hF:S.flr≤N) (hnd:SlD nd 7 (l.map aS)) (gi:eT l at_ (n::ks.flat)) (hsz:eT Z (at_+1) ks.zs) (pU:eT E (at_+1) (ks.es (at_+1))) (hb:code.length+bh n ks.sz ks.len≤1000000) (hM:IW N S s0 k nd zd ed Z E H code):
  ∃r ab,Ev pv 89 [.ptr k 0 0,.int .i64 (at_:Nat)] s0 r ab∧r=.tup []∧IW N S ab k nd zd ed Z E H (code++dR (l3 (code.length+bh n ks.sz ks.len)) ks code.length):=by
 obtain⟨cd,dk,hH⟩:=hM;have hle:=gi.le (by simp);simp only[List.length_cons] at hle;have hn:=gi.head;have gi:=gi.tail;have hr1:=kG hn;have IJ:=jA.1;have ij:=bc.jY ks
 have hk2:2≤ks.len:=by
  obtain⟨_,hq⟩:=jA;omega
 have Fx:bh n ks.sz ks.len=ks.sz+2*(ks.len-1):=by unfold bh;rw[if_neg (by omega),if_pos eU]
 rw[Fx] at hb⊢;clear Fx;refine Ev.iI rfl ON rfl rfl rfl ?_;refine zE ?_;change EvC _ _ _ _ s0 _;have hc:=hnd.arg N S;refine zQ 18 ?_;refine qr fun My Hw=>?_;refine qf (fo:=6) fun PY JS=>?_;refine zQ 3 ?_;have hH:Has N S s0 (.box k (.mem 0 false [cd,nd,zd,ed])::.deep dk cd 4 (code.map aq)::.lst zd 1 (Z.map ae)::.lst ed 1 (E.map ae)::.lst .nul 1 (([]:List Nat).map jU)::H):=(hH.nulE 1).EC;refine zQ 1 ?_;refine EvC.loop (fun mm fr st=>∃(i j:Nat) (rest:bc) (cd jd:D) (dk:Nat→Prop) (aO:List aC) (js:List Nat),fr.clean=⟨68,[.ptr k 0 0,.int .i64 (at_:Nat),ak fr 2,ak fr 3,jd,.int .i64 (j:Nat),ak fr 6,ak fr 7,ak fr 8,ak fr 9,ak fr 10,ak fr 11,ak fr 12,ak fr 13,ak fr 14,ak fr 15,ak fr 16,ak fr 17,ak fr 18,.int .i64 n.kids,.int .i64 (i:Nat),ak fr 21,ak fr 22,ak fr 23,ak fr 24,ak fr 25,ak fr 26,ak fr 27,ak fr 28,ak fr 29,ak fr 30,ak fr 31,ak fr 32,ak fr 33,ak fr 34,ak fr 35,ak fr 36,ak fr 37,ak fr 38,ak fr 39,ak fr 40,ak fr 41,ak fr 42,ak fr 43,ak fr 44,ak fr 45,ak fr 46,ak fr 47,ak fr 48,ak fr 49,ak fr 50,ak fr 51,ak fr 52,ak fr 53,ak fr 54,ak fr 55,ak fr 56,ak fr 57,ak fr 58,ak fr 59,ak fr 60,ak fr 61,ak fr 62,ak fr 63,ak fr 64,ak fr 65,ak fr 66,ak fr 67],[]⟩∧Has N S st (.box k (.mem 0 false [cd,nd,zd,ed])::.deep dk cd 4 (aO.map aq)::.lst zd 1 (Z.map ae)::.lst ed 1 (E.map ae)::.lst jd 1 (js.map jU)::H)∧(mm=rest.len)∧(i+rest.len=ks.len)∧(0<rest.len)∧(eT l j rest.flat)∧(eT Z j rest.zs)∧(eT E j (rest.es j))∧(rest.ok)∧(aO++dR (l3 0) rest aO.length=code++dR (l3 0) ks code.length)∧(js++rr rest aO.length=rr ks code.length)∧(aO.length+(rest.sz+2*(rest.len-1))=code.length+(ks.sz+2*(ks.len-1)))∧(rest.flat.length≤m)∧(js.length≤i)) (ks.len) ?_ ?_
 ·exact⟨0,at_+1,ks,cd,.nul,dk,code,[],rfl,hH,rfl,by omega,by omega,gi,hsz,pU,jI,rfl,rfl,rfl,NJ,by simp⟩
 rintro mm fr st ⟨i,j,rest,cd,jd,dk,aO,js,hfr,hH,xk,Ba,IG,ot,wk,oq,jz,gI,hjs,hcl,Hk,iV⟩;rw[hfr];clear hfr;generalize ak fr=ee;clear fr;refine zQ 4 ?_
 cases rest with
 |nil=>simp[bc.len] at IG
 |cons t ts=>
  simp only[bc.len] at Ba xk hcl;simp only[bc.sz] at hcl;simp only[bc.flat,List.length_append] at ot Hk;simp only[bc.zs] at wk;simp only[bc.es] at oq;simp only[bc.ok] at jz;have Ha:=t.ia;have JF:=t.il j;have A6:=bW t (aO.length+1) jz.1;have Nb:=dc (z8 oq.left);have hcc:decide ((i:Int)<n.kids)=true:=by rw[decide_eq_true_eq];omega
  refine qq<|qD rfl (by rw[hcc]) ?_;refine zQ 17 ?_;refine qr fun PX JR=>?_;refine qf (fo:=6) fun PW JQ=>?_;refine qR ?_;refine EvO.gR (z:=((ks.len-1:Nat):Int)) rfl (ev rfl) (ev rfl) (by(try simp only[List.length_reverse,List.length_cons,List.length_nil,List.length_append,List.length_map,List.length_set]);rw[wrap_i64 (by omega) (by omega)]<;>omega) (by dsimp only[Fr.put,u1,u2]<;>rfl) ?_;refine zQ 2 ?_
  by_cases oa:ts.len=0
  ·simp only[dR,rr,if_pos oa,List.append_nil] at gI hjs;have R7:=bc.len_nil oa;subst R7;simp only[bc.sz,bc.len] at hcl Ba;have HQ:(((i:Nat):Int)==((ks.len-1:Nat):Int))=true:=by rw[beq_iff_eq];omega
   refine qD rfl (by rw[HQ]) ?_;refine zQ 4 ?_;obtain⟨_,st,hev,rfl,cd,dk,hH⟩:=ih t (by omega) hF hnd ot.left wk.left oq.left jz.1 (by omega) ⟨cd,dk,hH⟩;refine qv hev ?_;refine zQ 5 ?_;refine qn ?_ (hR:=hH.rows at4);simp only[List.length_map];refine zQ 2 ?_;rw[gI] at hH;have hal:=rq (l3 0) ks code.length jI;obtain⟨BC,C7⟩:=nG (jp:=l3 (code.length+(ks.sz+2*(ks.len-1)))) (i0:=l3 0) ks code.length code [] jI rfl;simp only[List.append_nil] at BC C7;have OA:(code++dR (l3 0) ks code.length).length=code.length+(ks.sz+2*(ks.len-1)):=by rw[List.length_append,hal]
   rw[←hjs] at BC C7;rw[←BC];clear BC gI;generalize code++dR (l3 0) ks code.length=C0 at*;generalize code.length+(ks.sz+2*(ks.len-1))=e at*;refine zQ 1 ?_;refine EvC.loop (fun mm fr st=>∃(q:Nat) (C:List aC),fr.clean=⟨68,[.ptr k 0 0,ak fr 1,ak fr 2,ak fr 3,ak fr 4,ak fr 5,ak fr 6,ak fr 7,ak fr 8,ak fr 9,ak fr 10,ak fr 11,ak fr 12,ak fr 13,ak fr 14,ak fr 15,ak fr 16,ak fr 17,ak fr 18,ak fr 19,ak fr 20,ak fr 21,ak fr 22,ak fr 23,ak fr 24,ak fr 25,ak fr 26,ak fr 27,ak fr 28,ak fr 29,ak fr 30,ak fr 31,ak fr 32,ak fr 33,ak fr 34,ak fr 35,ak fr 36,ak fr 37,ak fr 38,ak fr 39,ak fr 40,ak fr 41,ak fr 42,ak fr 43,ak fr 44,ak fr 45,ak fr 46,ak fr 47,ak fr 48,ak fr 49,ak fr 50,ak fr 51,ak fr 52,ak fr 53,ak fr 54,ak fr 55,ak fr 56,ak fr 57,ak fr 58,ak fr 59,ak fr 60,ak fr 61,ak fr 62,ak fr 63,ak fr 64,jd,.int .i64 (js.length:Nat),.int .i64 (q:Nat)],[]⟩∧Has N S st (.box k (.mem 0 false [cd,nd,zd,ed])::.deep dk cd 4 (C.map aq)::.lst zd 1 (Z.map ae)::.lst ed 1 (E.map ae)::.lst jd 1 (js.map jU)::H)∧(q+mm=js.length)∧(gA (fun _=>l3 e) C (js.drop q)=gA (fun _=>l3 e) C0 js)∧(∀p∈js,∃v:Int,C[p]?=some (cz 3 v 0 []))∧(C.length=e)) (js.length) ?_ ?_
   ·exact⟨0,C0,rfl,hH,by omega,rfl,fun p hp=>⟨_,C7 p hp⟩,OA⟩
   rintro mm fr st ⟨q,C,hfr,hH,hq,ew,l9,IV⟩;rw[hfr];clear hfr;generalize ak fr=ee;clear fr;refine zQ 5 ?_;refine zP (fun hlt=>?_) fun hlt=>?_
   ·refine zQ 1 ?_;have Gi:q<js.length:=by omega
    obtain⟨p,hp⟩:∃p,js[q]?=some p:=⟨js[q]'Gi,List.getElem?_eq_getElem _⟩
    obtain⟨v,hv⟩:=l9 p (List.mem_of_getElem? hp);have hr1:=vS hp;have kW:=de hv;have hpl:=lt_get hv;refine zQ 4 ?_;refine qi hH at4 fun U0 SA=>?_;refine zQ 13 ?_;refine EvO.Bl hH rfl (ev rfl) (by exact at1) rfl (put_T rfl _) ?_;simp only[List.length_map];refine EvO.DE (s:=4) hH rfl (ev rfl) (ev rfl) (by exact at1) rfl rfl (by exact lt_get (by assumption)) (fun _=>(put_T rfl _)) (fun Rz Nk=>?_);refine EvO.da (fo:=1) (m:=0) (o2:=1) rfl (ev rfl) (by assumption) rfl rfl rfl (fun _=>(put_T rfl _)) (fun UW Sw=>?_);refine EvO.q_ hH rfl (ev rfl) (ev rfl) (by assumption) rfl rfl (by exact at1) (by assumption) (Nat.le_of_ble_eq_true rfl) (by intro d hd;simp only[List.mem_cons,List.not_mem_nil,or_false] at hd;subst hd;rfl) (by exact .inl hF) (fun st hH=>?_);dsimp only[u2,u1,u3,u4,setMany,u5,u6,D.cells,Nat.reduceAdd,aq,aS,ae,jU] at hH;refine zQ 5 ?_
    have wG:js.drop q=p::js.drop (q+1):=by
     rw[List.drop_eq_getElem_cons Gi]
     congr 1
     exact Option.some.inj ((List.getElem?_eq_getElem _).symm.trans hp)
    refine⟨mm-1,by omega,⟨q+1,C.set p (l3 e),rfl,(by rw[List.map_set,←IV];exact hH),by omega,by rw[wG] at ew;exact ew,?_,by rw[List.length_set];exact IV⟩⟩;intro p' uq
    by_cases hpp:p'=p
    ·subst hpp;exact⟨_,List.getElem?_set_self hpl⟩
    ·rw[List.getElem?_set_ne (fun e=>hpp e.symm)];exact l9 p' uq
   ·refine zQ 1 ?_;refine⟨fun i h=>(by cases h),_,_,_,rfl,rfl,?_⟩;have Fk:q=js.length:=by omega
    rw[Fk,List.drop_length] at ew;have ew:C=gA (fun _=>l3 e) C0 js:=ew;rw[←ew];exact⟨rfl,cd,dk,hH.erase 4⟩
  ·simp only[dR,rr,if_neg oa] at gI hjs;have HQ:(((i:Nat):Int)==((ks.len-1:Nat):Int))=false:=by rw[beq_eq_false_iff_ne];omega
   refine qE rfl (by rw[HQ]) ?_;refine zQ 4 ?_;refine EvO.go (d:=.agg [.int .i64 2,.int .i64 0,.int .i64 0,.nul]) (st1:=_) rfl rfl rfl (by dsimp only[Fr.put,u1,u2]<;>rfl) ?_;have hH:=hH.nulE 2;obtain⟨_,st,hev,rfl,cd,dk,hH⟩:=fM (rs:=[]) hF (by omega) hH;refine qv hev ?_;refine zQ 2 ?_;have l8:(aO++[cz 2 0 0 []]).length=aO.length+1:=by simp
   refine zQ 4 ?_;obtain⟨_,st,hev,rfl,cd,dk,hH⟩:=ih t (by omega) hF hnd ot.left wk.left oq.left jz.1 (by omega) ⟨cd,dk,hH⟩;refine qv hev ?_;refine zQ 1 ?_;rw[l8] at hH;have l7:(aO++[cz 2 0 0 []]++aH t (aO.length+1)).length=aO.length+1+t.sz:=by rw[List.length_append,l8,A6]
   refine zQ 4 ?_;refine EvO.go (d:=.agg [.int .i64 3,.int .i64 0,.int .i64 0,.nul]) (st1:=_) rfl rfl rfl (by dsimp only[Fr.put,u1,u2]<;>rfl) ?_;have hH:=hH.nulE 2;obtain⟨_,st,hev,rfl,cd,dk,hH⟩:=fM (rs:=[]) hF (by omega) hH;refine qv hev ?_;refine qh (s:=1) (vs:=[_]) hH fun k47 st NN hH=>?_;refine qP hH at5 (hH.rows at0) fun IX st hH=>?_;dsimp only[u2,u1,u3,u4,setMany,u5,u6,D.cells,Nat.reduceAdd,aq,aS,ae,jU] at hH;refine zQ 2 ?_;have hH:=hH.drop 1
   have HV:(aO++[cz 2 0 0 []]++aH t (aO.length+1)++[cz 3 0 0 []])[aO.length]?=some (cz 2 0 0 []):=by
    rw[List.append_assoc,List.append_assoc];exact oQ _ _ _
   have Dj:(aO++[cz 2 0 0 []]++aH t (aO.length+1)++[cz 3 0 0 []]).length=aO.length+1+t.sz+1:=by rw[List.length_append,l7];rfl
   have Fa:(aO++[cz 2 0 0 []]++aH t (aO.length+1)++[cz 3 0 0 []]).set aO.length (mK aO.length (aO.length+1+t.sz+1) false)=aO++(mK aO.length (aO.length+1+t.sz+1) false::(aH t (aO.length+1)++[l3 0])):=by
    rw[List.append_assoc,List.append_assoc];exact oF _ _ _ _
   have FG:(aO++(mK aO.length (aO.length+1+t.sz+1) false::(aH t (aO.length+1)++[l3 0]))).length=aO.length+t.sz+2:=by rw[←Fa,List.length_set,Dj];omega
   generalize aO++[cz 2 0 0 []]++aH t (aO.length+1)++[cz 3 0 0 []]=DG at*;refine zQ 8 ?_;refine EvO.Bl hH rfl (ev rfl) (by exact at1) rfl (by dsimp only[Fr.put,u1,u2]<;>rfl) ?_;simp only[List.length_map,List.length_append,List.length_cons,List.length_nil];obtain⟨_,st,hev,rfl,hH⟩:=oZ (at_:=aO.length) (over:=DG.length) (lz:=false) HV (by omega) hH;refine qv hev ?_;refine zQ 1 ?_;rw[Dj,Fa] at hH;refine zQ 6 ?_;refine qi hH at3 fun U4 SE=>?_;refine zQ 7 ?_;exact⟨mm-1,by omega,⟨i+1,j+t.flat.length,ts,cd,IX,dk,aO++(mK aO.length (aO.length+1+t.sz+1) false::(aH t (aO.length+1)++[l3 0])),js++[aO.length+1+t.sz],rfl,(by rw[List.map_append (f:=jU)];rw[l7] at hH;exact hH),by omega,by omega,by omega,ot.right,by rw[←Ha];exact wk.right,by rw[←JF];rw[←JF] at oq;exact oq.right,jz.2,by rw[FG,←gI];simp only[List.append_assoc,List.cons_append,List.nil_append],by rw[FG,←hjs];simp only[List.append_assoc,List.cons_append,List.nil_append],by rw[FG];omega,by omega,by rw[List.length_append];simp only[List.length_cons,List.length_nil];omega⟩⟩
def aa (fr:Go.V.Fr) (k:Nat):Go.V.D:=Go.V.nth .junk fr.loc k
theorem sf {c:Nat→List aC} (hc:∀b,(c b).length=0) (z:Nat):∀k b,eF c z k b=[]
 |0,_=>rfl
 |k+1,b=>by rw[eF,sf hc z k,List.length_eq_zero_iff.1 (hc b)];rfl
theorem BW (s o:Nat) (lz:Bool):∃x y:Int,mK s o lz=cz 2 x y []:=by
 cases lz
 ·exact⟨_,_,rfl⟩
 ·exact⟨_,_,rfl⟩
theorem AF {l:List Nod} (hll:l.length≤1048576) {m:Nat} (ih:∀t:Tr,t.flat.length≤m→rB l t) {n:Nod} {t:Tr} (eU:n.op=5) (NJ:t.flat.length≤m) (jA:vP n 1) (rM:t.ok) {N k:Nat} {S s0:St} {H:List aP} {nd zd ed:D} {code:List aC} {Z E:List Int} {at_:Nat} (hF:S.flr≤N) (hnd:SlD nd 7 (l.map aS)) (gi:eT l at_ (n::t.flat)) (hsz:eT Z (at_+1) t.zs) (pU:eT E (at_+1) (t.es (at_+1))) (hb:code.length+bh n t.sz 1≤1000000) (hM:IW N S s0 k nd zd ed Z E H code):
  ∃r ab,Ev pv 90 [.ptr k 0 0,.int .i64 (at_:Nat)] s0 r ab∧r=.tup []∧IW N S ab k nd zd ed Z E H (code++mP n (aH t) t.sz code.length):=by
 obtain⟨cd,dk,hH⟩:=hM;have hle:=gi.le (by simp);simp only[List.length_cons] at hle;have hn:=gi.head;have gi:=gi.tail;have hr1:=kG hn;have kW:=dc (yY hsz)
 have zL:0≤n.mn∧n.mn≤30∧(n.mx=-1∨(n.mn≤n.mx∧n.mx≤30)):=by
  obtain⟨_,hq⟩:=jA;omega
 have Fx:bh n t.sz 1=if n.mx=-1 then n.mn.toNat*t.sz+t.sz+2 else n.mn.toNat*t.sz+(n.mx.toNat-n.mn.toNat)*(t.sz+1):=by unfold bh;rw[if_neg (by omega),if_neg (by omega),if_neg (by omega),if_pos eU]
 rw[Fx] at hb;clear Fx;have A6:=fun b=>bW t b rM;have hb1:code.length+n.mn.toNat*t.sz≤1000000:=by split at hb<;>omega
 refine Ev.iI rfl OM rfl rfl rfl ?_;refine zE ?_;change EvC _ _ _ _ s0 _;have hc:=hnd.arg N S;refine zQ 7 ?_;refine qr fun LP Fv=>?_;refine EvO.bF rfl (ev rfl) (by assumption) rfl (by dsimp only[Fr.put,u1,u2]<;>rfl) ?_;refine zQ 2 ?_;refine qa hH fun k4 st IM hH=>?_;refine qS hH at0 fun st hH=>?_;dsimp only[u2,u1,u3,u4,setMany,u5,u6,D.cells,Nat.reduceAdd,aq,aS,ae,jU] at hH;refine zQ 2 ?_;have hH:Has N S st (.box k (.mem 0 false [cd,nd,zd,ed])::.deep dk cd 4 (code.map aq)::.lst zd 1 (Z.map ae)::.lst ed 1 (E.map ae)::.box k4 (.mem 0 false (aS n))::H):=hH.EC;refine zQ 8 ?_;refine qi hH at2 fun F9 wx=>?_;refine zQ 3 ?_;have T0:=iE A6 n.mn.toNat code.length;refine EvC.merge (fun fr st=>∃(cd:D) (dk:Nat→Prop) (tmp:List (Nat×D)),fr=⟨78,[.ptr k 0 0,.int .i64 (at_:Nat),aa fr 2,aa fr 3,.ptr k4 0 0,.int .i64 ((at_+1:Nat):Int),aa fr 6,aa fr 7,aa fr 8,aa fr 9,aa fr 10,aa fr 11,aa fr 12,aa fr 13,aa fr 14,aa fr 15,aa fr 16,aa fr 17,aa fr 18,aa fr 19,aa fr 20,aa fr 21,aa fr 22,aa fr 23,aa fr 24,aa fr 25,aa fr 26,aa fr 27,aa fr 28,aa fr 29,aa fr 30,aa fr 31,aa fr 32,aa fr 33,aa fr 34,aa fr 35,aa fr 36,aa fr 37,aa fr 38,aa fr 39,aa fr 40,aa fr 41,aa fr 42,aa fr 43,aa fr 44,aa fr 45,aa fr 46,aa fr 47,aa fr 48,aa fr 49,aa fr 50,aa fr 51,aa fr 52,aa fr 53,aa fr 54,aa fr 55,aa fr 56,aa fr 57,aa fr 58,aa fr 59,aa fr 60,aa fr 61,aa fr 62,aa fr 63,aa fr 64,aa fr 65,aa fr 66,aa fr 67,aa fr 68,aa fr 69,aa fr 70,aa fr 71,aa fr 72,aa fr 73,aa fr 74,aa fr 75,aa fr 76,aa fr 77],tmp⟩∧Has N S st (.box k (.mem 0 false [cd,nd,zd,ed])::.deep dk cd 4 ((code++eF (aH t) t.sz n.mn.toNat code.length).map aq)::.lst zd 1 (Z.map ae)::.lst ed 1 (E.map ae)::.box k4 (.mem 0 false (aS n))::H)) ?_ ?_
 ·refine zP (fun hz=>?_) fun hz=>?_
  ·refine zQ 7 ?_;refine EvC.loop (fun mm fr st=>∃(i:Nat) (cd:D) (dk:Nat→Prop) (aO:List aC),fr.clean=⟨78,[.ptr k 0 0,.int .i64 (at_:Nat),aa fr 2,aa fr 3,.ptr k4 0 0,.int .i64 ((at_+1:Nat):Int),aa fr 6,aa fr 7,aa fr 8,aa fr 9,aa fr 10,aa fr 11,aa fr 12,aa fr 13,aa fr 14,aa fr 15,aa fr 16,aa fr 17,aa fr 18,aa fr 19,aa fr 20,aa fr 21,aa fr 22,aa fr 23,aa fr 24,aa fr 25,aa fr 26,aa fr 27,.int .i64 n.mn,.int .i64 (i:Nat),aa fr 30,aa fr 31,aa fr 32,aa fr 33,aa fr 34,aa fr 35,aa fr 36,aa fr 37,aa fr 38,aa fr 39,aa fr 40,aa fr 41,aa fr 42,aa fr 43,aa fr 44,aa fr 45,aa fr 46,aa fr 47,aa fr 48,aa fr 49,aa fr 50,aa fr 51,aa fr 52,aa fr 53,aa fr 54,aa fr 55,aa fr 56,aa fr 57,aa fr 58,aa fr 59,aa fr 60,aa fr 61,aa fr 62,aa fr 63,aa fr 64,aa fr 65,aa fr 66,aa fr 67,aa fr 68,aa fr 69,aa fr 70,aa fr 71,aa fr 72,aa fr 73,aa fr 74,aa fr 75,aa fr 76,aa fr 77],[]⟩∧Has N S st (.box k (.mem 0 false [cd,nd,zd,ed])::.deep dk cd 4 (aO.map aq)::.lst zd 1 (Z.map ae)::.lst ed 1 (E.map ae)::.box k4 (.mem 0 false (aS n))::H)∧(i+mm=n.mn.toNat)∧(aO++eF (aH t) t.sz mm aO.length=code++eF (aH t) t.sz n.mn.toNat code.length)∧(aO.length+mm*t.sz=code.length+n.mn.toNat*t.sz)) (n.mn.toNat) ?_ ?_
   ·exact⟨0,cd,dk,code,rfl,hH,by omega,rfl,rfl⟩
   rintro mm fr st ⟨i,cd,dk,aO,hfr,hH,hi,zU,hcl⟩;rw[hfr];clear hfr;generalize aa fr=ee;clear fr;refine zQ 4 ?_
   cases mm with
   |zero=>
    have hcc:decide ((i:Int)<n.mn)=false:=by rw[decide_eq_false_iff_not];omega
    refine qq<|qE rfl (by rw[hcc]) ?_;simp only[eF,List.append_nil] at zU;rw[zU] at hH;refine zQ 1 ?_;exact⟨cd,dk,_,rfl,hH⟩
   |succ mm=>
    have hcc:decide ((i:Int)<n.mn)=true:=by rw[decide_eq_true_eq];omega
    rw[Nat.succ_mul] at hcl;refine qq<|qD rfl (by rw[hcc]) ?_;refine zQ 6 ?_;obtain⟨_,st,hev,rfl,cd,dk,hH⟩:=ih t (by omega) hF hnd gi hsz pU rM (by omega) ⟨cd,dk,hH⟩;refine qv hev ?_;refine zQ 5 ?_;exact⟨mm,by omega,⟨i+1,cd,dk,aO++aH t aO.length,rfl,hH,by omega,by rw[List.length_append,A6,List.append_assoc];exact zU,by rw[List.length_append,A6];omega⟩⟩
  ·refine zQ 1 ?_;have hz0:t.sz=0:=by omega
   have T3:eF (aH t) t.sz n.mn.toNat code.length=[]:=sf (fun b=>by rw[A6,hz0]) _ _ _;exact⟨cd,dk,_,rfl,(by rw[T3,List.append_nil];exact hH)⟩
 ·rintro fr st ⟨cd,dk,tmp,hfr,hH⟩;rw[hfr];clear hfr;generalize aa fr=ee;clear fr;have L7:(code++eF (aH t) t.sz n.mn.toNat code.length).length=code.length+n.mn.toNat*t.sz:=by rw[List.length_append,T0]
  unfold mP;rw[←L7];rw[←L7] at hb1
  have hb2:if n.mx=-1 then(code++eF (aH t) t.sz n.mn.toNat code.length).length+t.sz+2≤1000000 else(code++eF (aH t) t.sz n.mn.toNat code.length).length+(n.mx.toNat-n.mn.toNat)*(t.sz+1)≤1000000:=by
   rw[L7];split
   ·rename_i h;rw[if_pos h] at hb;omega
   ·rename_i h;rw[if_neg h] at hb;omega
  have FI:∀X:List aC,code++(eF (aH t) t.sz n.mn.toNat code.length++X)=code++eF (aH t) t.sz n.mn.toNat code.length++X:=fun X=>by rw[List.append_assoc]
  simp only[apply_ite (fun X:List aC=>code++X),FI];clear FI L7;generalize code++eF (aH t) t.sz n.mn.toNat code.length=cR at*;refine zQ 7 ?_
  by_cases Cc:n.mx=-1
  ·rw[if_pos Cc];rw[if_pos Cc] at hb2;refine qD rfl (by simp[Cc]) ?_;refine zQ 3 ?_;refine EvO.go (d:=.agg [.int .i64 2,.int .i64 0,.int .i64 0,.nul]) (st1:=_) rfl rfl rfl (by dsimp only[Fr.put,u1,u2]<;>rfl) ?_;have hH:=hH.nulE 2;obtain⟨_,st,hev,rfl,cd,dk,hH⟩:=fM (rs:=[]) hF (by omega) hH;refine qv hev ?_;refine zQ 2 ?_;have l8:(cR++[cz 2 0 0 []]).length=cR.length+1:=by simp
   refine zQ 4 ?_;obtain⟨_,st,hev,rfl,cd,dk,hH⟩:=ih t (by omega) hF hnd gi hsz pU rM (by omega) ⟨cd,dk,hH⟩;refine qv hev ?_;refine zQ 1 ?_;rw[l8] at hH;have l7:(cR++[cz 2 0 0 []]++aH t (cR.length+1)).length=cR.length+1+t.sz:=by rw[List.length_append,l8,A6]
   refine zQ 4 ?_;refine EvO.go (d:=.agg [.int .i64 3,.int .i64 (cR.length:Nat),.int .i64 0,.nul]) (st1:=_) rfl rfl rfl (by dsimp only[Fr.put,u1,u2]<;>rfl) ?_;have hH:=hH.nulE 2;obtain⟨_,st,hev,rfl,cd,dk,hH⟩:=fM (rs:=[]) hF (by omega) hH;refine qv hev ?_;refine zQ 1 ?_
   have HV:(cR++[cz 2 0 0 []]++aH t (cR.length+1)++[cz 3 (cR.length:Nat) 0 []])[cR.length]?=some (cz 2 0 0 []):=by
    rw[List.append_assoc,List.append_assoc];exact oQ _ _ _
   have Dj:(cR++[cz 2 0 0 []]++aH t (cR.length+1)++[cz 3 (cR.length:Nat) 0 []]).length=cR.length+t.sz+2:=by rw[List.length_append,l7];simp only[List.length_cons,List.length_nil];omega
   have Fa:(cR++[cz 2 0 0 []]++aH t (cR.length+1)++[cz 3 (cR.length:Nat) 0 []]).set cR.length (mK cR.length (cR.length+t.sz+2) n.lz)=cR++(mK cR.length (cR.length+t.sz+2) n.lz::(aH t (cR.length+1)++[l3 cR.length])):=by
    rw[List.append_assoc,List.append_assoc];exact oF _ _ _ _
   generalize cR++[cz 2 0 0 []]++aH t (cR.length+1)++[cz 3 (cR.length:Nat) 0 []]=DG at*;refine zQ 8 ?_;refine EvO.Bl hH rfl (ev rfl) (by exact at1) rfl (by dsimp only[Fr.put,u1,u2]<;>rfl) ?_;simp only[List.length_map,List.length_append,List.length_cons,List.length_nil];refine zQ 2 ?_;obtain⟨_,st,hev,rfl,hH⟩:=oZ (at_:=cR.length) (over:=DG.length) (lz:=n.lz) HV (by omega) hH;refine qv hev ?_;refine zQ 1 ?_;rw[Dj,Fa] at hH;refine EvC.ret ⟨rx,_,_,_,rfl,rfl,?_⟩;exact⟨rfl,cd,dk,hH.erase 4⟩
  ·rw[if_neg Cc];rw[if_neg Cc] at hb2;refine qE rfl (by simp[Cc]) ?_;refine zQ 1 ?_;obtain⟨a,ha⟩:∃a:Nat,n.mn=(a:Int):=Int.eq_ofNat_of_zero_le zL.1;obtain⟨b,HU⟩:∃b:Nat,n.mx=(b:Int):=Int.eq_ofNat_of_zero_le (by omega);have Of:n.mx.toNat-n.mn.toNat=b-a:=by omega
   rw[Of] at hb2⊢;refine zQ 11 ?_;refine EvO.gR (z:=((b-a:Nat):Int)) rfl (ev rfl) (ev rfl) (by(try simp only[List.length_reverse,List.length_cons,List.length_nil,List.length_append,List.length_map,List.length_set]);rw[wrap_i64 (by omega) (by omega)]<;>omega) (by dsimp only[Fr.put,u1,u2]<;>rfl) ?_;refine zQ 2 ?_;have hH:Has N S st (.box k (.mem 0 false [cd,nd,zd,ed])::.deep dk cd 4 (cR.map aq)::.lst zd 1 (Z.map ae)::.lst ed 1 (E.map ae)::.lst .nul 1 (([]:List Nat).map jU)::.box k4 (.mem 0 false (aS n))::H):=(hH.nulE 1).EC;refine zQ 1 ?_;refine EvC.loop (fun mm fr st=>∃(i:Nat) (cd jd:D) (dk:Nat→Prop) (aO:List aC) (js:List Nat),fr.clean=⟨78,[.ptr k 0 0,.int .i64 (at_:Nat),aa fr 2,aa fr 3,.ptr k4 0 0,.int .i64 ((at_+1:Nat):Int),aa fr 6,jd,aa fr 8,aa fr 9,aa fr 10,aa fr 11,aa fr 12,aa fr 13,aa fr 14,aa fr 15,aa fr 16,aa fr 17,aa fr 18,aa fr 19,aa fr 20,aa fr 21,aa fr 22,aa fr 23,aa fr 24,aa fr 25,aa fr 26,aa fr 27,aa fr 28,aa fr 29,aa fr 30,aa fr 31,aa fr 32,aa fr 33,aa fr 34,aa fr 35,aa fr 36,aa fr 37,aa fr 38,aa fr 39,aa fr 40,aa fr 41,aa fr 42,aa fr 43,aa fr 44,aa fr 45,aa fr 46,aa fr 47,aa fr 48,aa fr 49,aa fr 50,aa fr 51,aa fr 52,aa fr 53,aa fr 54,aa fr 55,aa fr 56,aa fr 57,aa fr 58,aa fr 59,aa fr 60,aa fr 61,.int .i64 ((b-a:Nat):Int),.int .i64 (i:Nat),aa fr 64,aa fr 65,aa fr 66,aa fr 67,aa fr 68,aa fr 69,aa fr 70,aa fr 71,aa fr 72,aa fr 73,aa fr 74,aa fr 75,aa fr 76,aa fr 77],[]⟩∧Has N S st (.box k (.mem 0 false [cd,nd,zd,ed])::.deep dk cd 4 (aO.map aq)::.lst zd 1 (Z.map ae)::.lst ed 1 (E.map ae)::.lst jd 1 (js.map jU)::.box k4 (.mem 0 false (aS n))::H)∧(i+mm=b-a)∧(aO++eu (fun _=>cz 2 0 0 []) (aH t) t.sz mm aO.length=cR++eu (fun _=>cz 2 0 0 []) (aH t) t.sz (b-a) cR.length)∧(js++vI t.sz mm aO.length=vI t.sz (b-a) cR.length)∧(aO.length+mm*(t.sz+1)=cR.length+(b-a)*(t.sz+1))∧(js.length=i)) (b-a) ?_ ?_
   ·exact⟨0,cd,.nul,dk,cR,[],rfl,hH,by omega,rfl,rfl,rfl,rfl⟩
   rintro mm fr st ⟨i,cd,jd,dk,aO,js,hfr,hH,hi,gI,hjs,hcl,iV⟩;rw[hfr];clear hfr;generalize aa fr=ee;clear fr;refine zQ 4 ?_
   cases mm with
   |zero=>
    have hcc:decide ((i:Int)<((b-a:Nat):Int))=false:=by rw[decide_eq_false_iff_not];omega
    refine qq<|qE rfl (by rw[hcc]) ?_;refine zQ 4 ?_;refine qn ?_ (hR:=hH.rows at4);simp only[List.length_map];refine zQ 2 ?_;simp only[eu,vI,List.append_nil] at gI hjs;rw[gI] at hH;obtain⟨BC,C7⟩:=mW (sp:=fun s=>mK s (cR.length+(b-a)*(t.sz+1)) n.lz) A6 (i0:=cz 2 0 0 []) (b-a) cR.length cR [] rfl;simp only[List.append_nil] at BC C7;have OA:(cR++eu (fun _=>cz 2 0 0 []) (aH t) t.sz (b-a) cR.length).length=cR.length+(b-a)*(t.sz+1):=by rw[List.length_append,pj A6]
    rw[←hjs] at BC C7;rw[←BC];clear BC gI;generalize cR++eu (fun _=>cz 2 0 0 []) (aH t) t.sz (b-a) cR.length=C0 at*;generalize cR.length+(b-a)*(t.sz+1)=e at*;refine zQ 1 ?_;refine EvC.loop (fun mm fr st=>∃(q:Nat) (C:List aC),fr.clean=⟨78,[.ptr k 0 0,aa fr 1,aa fr 2,aa fr 3,.ptr k4 0 0,aa fr 5,aa fr 6,aa fr 7,aa fr 8,aa fr 9,aa fr 10,aa fr 11,aa fr 12,aa fr 13,aa fr 14,aa fr 15,aa fr 16,aa fr 17,aa fr 18,aa fr 19,aa fr 20,aa fr 21,aa fr 22,aa fr 23,aa fr 24,aa fr 25,aa fr 26,aa fr 27,aa fr 28,aa fr 29,aa fr 30,aa fr 31,aa fr 32,aa fr 33,aa fr 34,aa fr 35,aa fr 36,aa fr 37,aa fr 38,aa fr 39,aa fr 40,aa fr 41,aa fr 42,aa fr 43,aa fr 44,aa fr 45,aa fr 46,aa fr 47,aa fr 48,aa fr 49,aa fr 50,aa fr 51,aa fr 52,aa fr 53,aa fr 54,aa fr 55,aa fr 56,aa fr 57,aa fr 58,aa fr 59,aa fr 60,aa fr 61,aa fr 62,aa fr 63,aa fr 64,aa fr 65,aa fr 66,aa fr 67,aa fr 68,aa fr 69,aa fr 70,aa fr 71,aa fr 72,aa fr 73,aa fr 74,jd,.int .i64 (js.length:Nat),.int .i64 (q:Nat)],[]⟩∧Has N S st (.box k (.mem 0 false [cd,nd,zd,ed])::.deep dk cd 4 (C.map aq)::.lst zd 1 (Z.map ae)::.lst ed 1 (E.map ae)::.lst jd 1 (js.map jU)::.box k4 (.mem 0 false (aS n))::H)∧(q+mm=js.length)∧(gA (fun s=>mK s e n.lz) C (js.drop q)=gA (fun s=>mK s e n.lz) C0 js)∧(∀p∈js,∃x y:Int,C[p]?=some (cz 2 x y []))∧(C.length=e)) (js.length) ?_ ?_
    ·exact⟨0,C0,rfl,hH,by omega,rfl,fun p hp=>⟨_,_,C7 p hp⟩,OA⟩
    rintro mm fr st ⟨q,C,hfr,hH,hq,ew,l9,IV⟩;rw[hfr];clear hfr;generalize aa fr=ee;clear fr;refine zQ 5 ?_;refine zP (fun hlt=>?_) fun hlt=>?_
    ·refine zQ 1 ?_;have Gi:q<js.length:=by omega
     obtain⟨p,hp⟩:∃p,js[q]?=some p:=⟨js[q]'Gi,List.getElem?_eq_getElem _⟩
     obtain⟨x,y,hv⟩:=l9 p (List.mem_of_getElem? hp);have hr1:=vS hp;have hpl:=lt_get hv;refine zQ 4 ?_;refine qi hH at4 fun LI Fo=>?_;refine zQ 10 ?_;refine EvO.Bl hH rfl (ev rfl) (by exact at1) rfl (put_T rfl _) ?_;simp only[List.length_map];refine zQ 2 ?_;obtain⟨_,st,hev,rfl,hH⟩:=oZ (at_:=p) (over:=C.length) (lz:=n.lz) hv (by omega) hH;refine qv hev ?_;refine zQ 5 ?_
     have wG:js.drop q=p::js.drop (q+1):=by
      rw[List.drop_eq_getElem_cons Gi]
      congr 1
      exact Option.some.inj ((List.getElem?_eq_getElem _).symm.trans hp)
     refine⟨mm-1,by omega,⟨q+1,C.set p (mK p e n.lz),rfl,(by rw[IV] at hH;exact hH),by omega,by rw[wG] at ew;exact ew,?_,by rw[List.length_set];exact IV⟩⟩;intro p' uq
     by_cases hpp:p'=p
     ·subst hpp;obtain⟨x',y',Jz⟩:=BW p' e n.lz;exact⟨x',y',by rw[List.getElem?_set_self hpl,Jz]⟩
     ·rw[List.getElem?_set_ne (fun e=>hpp e.symm)];exact l9 p' uq
    ·refine zQ 1 ?_;refine⟨fun i h=>(by cases h),_,_,_,rfl,rfl,?_⟩;have Fk:q=js.length:=by omega
     rw[Fk,List.drop_length] at ew;have ew:C=gA (fun s=>mK s e n.lz) C0 js:=ew;rw[←ew];exact⟨rfl,cd,dk,(hH.erase 5).erase 4⟩
   |succ mm=>
    have hcc:decide ((i:Int)<((b-a:Nat):Int))=true:=by rw[decide_eq_true_eq];omega
    rw[Nat.succ_mul] at hcl;refine qq<|qD rfl (by rw[hcc]) ?_;refine zQ 7 ?_;refine EvO.go (d:=.agg [.int .i64 2,.int .i64 0,.int .i64 0,.nul]) (st1:=_) rfl rfl rfl (by dsimp only[Fr.put,u1,u2]<;>rfl) ?_;have hH:=hH.nulE 2;obtain⟨_,st,hev,rfl,cd,dk,hH⟩:=fM (rs:=[]) hF (by omega) hH;refine qv hev ?_;refine qh (s:=1) (vs:=[_]) hH fun k69 st Ta hH=>?_;dsimp only[u2,u1,u3,u4,setMany,u5,u6,D.cells,Nat.reduceAdd,aq,aS,ae,jU] at hH;refine qP hH at5 (hH.rows at0) fun Q8 st hH=>?_;dsimp only[u2,u1,u3,u4,setMany,u5,u6,D.cells,Nat.reduceAdd,aq,aS,ae,jU] at hH;refine zQ 2 ?_;have hH:=hH.drop 1;have l8:(aO++[cz 2 0 0 []]).length=aO.length+1:=by simp
    refine zQ 3 ?_;obtain⟨_,st,hev,rfl,cd,dk,hH⟩:=ih t (by omega) hF hnd gi hsz pU rM (by omega) ⟨cd,dk,hH⟩;refine qv hev ?_;refine zQ 1 ?_;rw[l8] at hH;have l7:(aO++[cz 2 0 0 []]++aH t (aO.length+1)).length=aO.length+1+t.sz:=by rw[List.length_append,l8,A6]
    refine zQ 4 ?_;exact⟨mm,by omega,⟨i+1,cd,Q8,dk,aO++[cz 2 0 0 []]++aH t (aO.length+1),js++[aO.length],rfl,(by rw[List.map_append (f:=jU)];exact hH),by omega,by rw[l7,←gI];simp only[eu,List.append_assoc,List.cons_append,List.nil_append],by rw[l7,←hjs];simp only[vI,List.append_assoc,List.cons_append,List.nil_append],by rw[l7];omega,by rw[List.length_append,iV];rfl⟩⟩
def bp (fr:Go.V.Fr) (k:Nat):Go.V.D:=Go.V.nth .junk fr.loc k
theorem w7 (t:Tr):fg (.cons t .nil)=aH t:=by
 funext b;simp only[fg,List.append_nil]
theorem xt (t:Tr):(bc.cons t .nil).sz=t.sz:=by simp only[bc.sz,Nat.add_zero]
theorem EM {l:List Nod} (hll:l.length≤1048576) (hi:∀n∈l,n.ok):∀(m:Nat) (t:Tr),t.flat.length≤m→rB l t:=by
 intro m
 induction m with
 |zero=>intro t h;have:=t.gJ;omega
 |succ m ih=>
  rintro⟨n,ks⟩ hm N k S s0 H nd zd ed code Z E at_ hF hnd gi hsz pU hok hb hM;have VG:=hM;obtain⟨cd,dk,hH⟩:=hM;simp only[Tr.ok] at hok;obtain⟨jA,jI⟩:=hok;simp only[Tr.flat,List.length_cons] at hm;have hle:=gi.le (by simp[Tr.flat]);simp only[Tr.flat] at gi hle;simp only[List.length_cons] at hle;simp only[Tr.zs] at hsz;simp only[Tr.es] at pU;simp only[Tr.sz] at hb;have hn:=gi.head;have J3:=hi n (List.mem_of_getElem? hn);have uo:=J3.1.arg N S;have n_:=J3.2.1;have hr1:=kG hn;have IJ:=jA.1;have ij:=bc.jY ks;have hcat:=fun b=>mj ks b jI;refine Ev.iI rfl O3 rfl rfl rfl ?_;refine zE ?_;change EvC _ _ _ _ s0 _;have hc:=hnd.arg N S;refine zQ 7 ?_;refine qr fun P5 J0=>?_;refine EvO.bF rfl (ev rfl) (by assumption) rfl (by dsimp only[Fr.put,u1,u2]<;>rfl) ?_;refine qa hH fun k4 st IM hH=>?_;refine qS hH at0 fun st hH=>?_;dsimp only[u2,u1,u3,u4,setMany,u5,u6,D.cells,Nat.reduceAdd,aq,aS,ae,jU] at hH;refine zQ 1 ?_;have hH:Has N S st (.box k (.mem 0 false [cd,nd,zd,ed])::.deep dk cd 4 (code.map aq)::.lst zd 1 (Z.map ae)::.lst ed 1 (E.map ae)::.box k4 (.mem 0 false (aS n))::H):=hH.EC;refine zQ 11 ?_;refine zI (fun q2=>?_) fun q2=>?_
  ·have yu:aH (.mk n ks) code.length=[cz 1 0 0 n.rs]:=by simp only[aH,if_pos q2]
   rw[yu];have hz:bh n ks.sz ks.len=1:=by unfold bh;rw[if_pos (.inl q2)]
   have hH:=hH.nulE 2;refine zQ 4 ?_;refine qP hH at0 (Arg.rows (by assumption) hH) fun PE st hH=>?_;dsimp only[u2,u1,u3,u4,setMany,u5,u6,D.cells,Nat.reduceAdd,aq,aS,ae,jU] at hH;refine EvO.eX (qs:=[(0,_),(3,_)]) rfl rfl rfl rfl ⟨rfl,(ev rfl),(by rfl),rfl,(ev rfl),(by exact hH.ocells (by exact at0)),trivial⟩ (by intro q hq;simp only[List.mem_cons,List.not_mem_nil,or_false] at hq;rcases hq with rfl|rfl<;>exact⟨rfl,by exact Nat.le_of_ble_eq_true rfl⟩) (by show List.foldl _ [_,_,_,_] _=_;dsimp only[List.foldl_cons,List.foldl_nil,u2,u1]<;>rfl) (by dsimp only[Fr.put,u1,u2]<;>rfl) ?_;obtain⟨_,st,hev,rfl,cd,dk,hH⟩:=fM (rs:=n.rs) hF (by omega) hH;refine qv hev ?_;refine zQ 1 ?_;refine⟨fun i h=>(by cases h),_,_,_,rfl,rfl,?_⟩;exact⟨rfl,cd,dk,hH.erase 4⟩
  refine zQ 5 ?_;refine zI (fun q7=>?_) fun q7=>?_
  ·have yu:aH (.mk n ks) code.length=[cz 5 0 0 []]:=by simp only[aH,if_neg q2,if_pos q7]
   rw[yu];refine zQ 2 ?_;refine EvO.go (d:=.agg [.int .i64 5,.int .i64 0,.int .i64 0,.nul]) (st1:=_) rfl rfl rfl (by dsimp only[Fr.put,u1,u2]<;>rfl) ?_;have hH:=hH.nulE 2;obtain⟨_,st,hev,rfl,cd,dk,hH⟩:=fM (rs:=[]) hF (by omega) hH;refine qv hev ?_;refine zQ 1 ?_;refine⟨fun i h=>(by cases h),_,_,_,rfl,rfl,?_⟩;exact⟨rfl,cd,dk,hH.erase 4⟩
  refine zQ 5 ?_;refine zI (fun q8=>?_) fun q8=>?_
  ·have yu:aH (.mk n ks) code.length=[cz 6 0 0 []]:=by simp only[aH,if_neg q2,if_neg q7,if_pos q8]
   rw[yu];refine zQ 2 ?_;refine EvO.go (d:=.agg [.int .i64 6,.int .i64 0,.int .i64 0,.nul]) (st1:=_) rfl rfl rfl (by dsimp only[Fr.put,u1,u2]<;>rfl) ?_;have hH:=hH.nulE 2;obtain⟨_,st,hev,rfl,cd,dk,hH⟩:=fM (rs:=[]) hF (by omega) hH;refine qv hev ?_;refine zQ 1 ?_;refine⟨fun i h=>(by cases h),_,_,_,rfl,rfl,?_⟩;exact⟨rfl,cd,dk,hH.erase 4⟩
  refine zQ 5 ?_;refine zI (fun q3=>?_) fun q3=>?_
  ·have yu:aH (.mk n ks) code.length=fg ks code.length:=by simp only[aH,if_neg q2,if_neg q7,if_neg q8,if_pos q3]
   rw[yu];have hz:bh n ks.sz ks.len=ks.sz:=by unfold bh;rw[if_neg (by omega),if_neg (by omega),if_neg (by omega),if_neg (by omega)]
   rw[hz] at hb;refine zQ 13 ?_;refine EvC.loop (fun mm fr st=>∃(i j:Nat) (rest:bc) (cd:D) (dk:Nat→Prop) (aO:List aC),fr.clean=⟨40,[.ptr k 0 0,.int .i64 (at_:Nat),bp fr 2,bp fr 3,.ptr k4 0 0,.int .i64 (j:Nat),bp fr 6,bp fr 7,bp fr 8,bp fr 9,bp fr 10,bp fr 11,bp fr 12,bp fr 13,bp fr 14,bp fr 15,bp fr 16,bp fr 17,bp fr 18,bp fr 19,bp fr 20,bp fr 21,bp fr 22,bp fr 23,bp fr 24,bp fr 25,bp fr 26,bp fr 27,bp fr 28,bp fr 29,bp fr 30,bp fr 31,bp fr 32,bp fr 33,bp fr 34,bp fr 35,bp fr 36,bp fr 37,.int .i64 n.kids,.int .i64 (i:Nat)],[]⟩∧Has N S st (.box k (.mem 0 false [cd,nd,zd,ed])::.deep dk cd 4 (aO.map aq)::.lst zd 1 (Z.map ae)::.lst ed 1 (E.map ae)::.box k4 (.mem 0 false (aS n))::H)∧(mm=rest.len)∧(i+rest.len=ks.len)∧(eT l j rest.flat)∧(eT Z j rest.zs)∧(eT E j (rest.es j))∧(rest.ok)∧(aO++fg rest aO.length=code++fg ks code.length)∧(aO.length+rest.sz=code.length+ks.sz)∧(rest.flat.length≤m)) (ks.len) ?_ ?_
   ·exact⟨0,at_+1,ks,cd,dk,code,rfl,hH,rfl,by omega,gi.tail,hsz.tail,pU.tail,jI,rfl,rfl,by omega⟩
   rintro mm fr st ⟨i,j,rest,cd,dk,aO,hfr,hH,xk,Ba,ot,wk,oq,jz,gI,hcl,Hk⟩;rw[hfr];clear hfr;generalize bp fr=ee;clear fr;refine zQ 4 ?_
   cases rest with
   |nil=>
    simp only[bc.len] at Ba;simp only[fg,List.append_nil] at gI;have hcc:decide ((i:Int)<n.kids)=false:=by rw[decide_eq_false_iff_not];omega
    refine qq<|qE rfl (by rw[hcc]) ?_;refine zQ 1 ?_;refine⟨fun i h=>(by cases h),_,_,_,rfl,rfl,?_⟩;rw[←gI];exact⟨rfl,cd,dk,hH.erase 4⟩
   |cons t ts=>
    simp only[bc.len] at Ba xk;simp only[bc.sz] at hcl;simp only[bc.flat,List.length_append] at ot Hk;simp only[bc.zs] at wk;simp only[bc.es] at oq;simp only[bc.ok] at jz;simp only[fg] at gI;have Ha:=t.ia;have JF:=t.il j;have A6:=bW t aO.length jz.1;have Nb:=dc (z8 oq.left);have hcc:decide ((i:Int)<n.kids)=true:=by rw[decide_eq_true_eq];omega
    refine qq<|qD rfl (by rw[hcc]) ?_;refine zQ 7 ?_;obtain⟨_,st,hev,rfl,cd,dk,hH⟩:=ih t (by omega) hF hnd ot.left wk.left oq.left jz.1 (by omega) ⟨cd,dk,hH⟩;refine qv hev ?_;refine zQ 7 ?_;refine qi hH at3 fun Mu Hr=>?_;refine zQ 7 ?_;exact⟨mm-1,by omega,⟨i+1,j+t.flat.length,ts,cd,dk,aO++aH t aO.length,rfl,hH,by omega,by omega,ot.right,by rw[←Ha];exact wk.right,by rw[←JF];rw[←JF] at oq;exact oq.right,jz.2,by rw[List.length_append,A6,List.append_assoc];exact gI,by rw[List.length_append,A6];omega,by omega⟩⟩
  refine zQ 5 ?_;refine zI (fun q4=>?_) fun q4=>?_
  ·have yu:aH (.mk n ks) code.length=dR (l3 (code.length+bh n ks.sz ks.len)) ks code.length:=by simp only[aH,if_neg q2,if_neg q7,if_neg q8,if_neg q3,if_pos q4]
   rw[yu];refine zQ 3 ?_;obtain⟨_,st,hev,rfl,cd,dk,hH⟩:=Io hll ih q4 (by omega) jA jI hF hnd gi hsz.tail pU.tail hb ⟨cd,dk,hH⟩;refine qv hev ?_;refine zQ 1 ?_;refine⟨fun i h=>(by cases h),_,_,_,rfl,rfl,?_⟩;exact⟨rfl,cd,dk,hH.erase 4⟩
  refine zQ 5 ?_;refine zI (fun q5=>?_) fun q5=>?_
  ·have pY:ks.len=1:=by
    obtain⟨_,hq⟩:=jA;omega
   obtain⟨t,rfl⟩:=bc.zw pY;have yu:aH (.mk n (.cons t .nil)) code.length=mP n (aH t) t.sz code.length:=by simp only[aH,if_neg q2,if_neg q7,if_neg q8,if_neg q3,if_neg q4,if_pos q5,w7,xt]
   rw[yu];rw[pY] at jA hb;rw[xt] at hb;simp only[bc.flat,bc.zs,bc.es,bc.ok,List.append_nil] at*;refine zQ 3 ?_;obtain⟨_,st,hev,rfl,cd,dk,hH⟩:=AF hll ih q5 (by omega) jA jI.1 hF hnd gi hsz.tail pU.tail hb ⟨cd,dk,hH⟩;refine qv hev ?_;refine zQ 1 ?_;refine⟨fun i h=>(by cases h),_,_,_,rfl,rfl,?_⟩;exact⟨rfl,cd,dk,hH.erase 4⟩
  refine zQ 5 ?_;refine zI (fun q6=>?_) fun q6=>?_
  ·have pY:ks.len=1∧1≤n.cap∧n.cap≤4:=by
    obtain⟨_,hq⟩:=jA;omega
   obtain⟨t,rfl⟩:=bc.zw pY.1;have yu:aH (.mk n (.cons t .nil)) code.length=cz 4 (2*n.cap) 0 []::(aH t (code.length+1)++[cz 4 (2*n.cap+1) 0 []]):=by simp only[aH,if_neg q2,if_neg q7,if_neg q8,if_neg q3,if_neg q4,if_neg q5,if_pos q6,w7]
   rw[yu];have hz:bh n (bc.cons t .nil).sz (bc.cons t .nil).len=t.sz+2:=by unfold bh;rw[if_neg (by omega),if_neg (by omega),if_pos q6,xt]
   rw[hz] at hb;simp only[bc.flat,bc.zs,bc.es,bc.ok,List.append_nil] at gi hsz pU jI hm;refine zQ 5 ?_;refine EvO.xU (z:=(2*n.cap)) rfl (ev rfl) (ev rfl) (by(try simp only[List.length_reverse,List.length_cons,List.length_nil,List.length_append,List.length_map,List.length_set]);rw[wrap_i64 (by omega) (by omega)]<;>omega) (put_T rfl _) ?_;refine EvO.go (d:=.agg [.int .i64 4,.int .i64 (2*n.cap),.int .i64 0,.nul]) (st1:=_) rfl rfl rfl (put_T rfl _) ?_;have hH:=hH.nulE 2;obtain⟨_,st,hev,rfl,cd,dk,hH⟩:=fM (rs:=[]) hF (by omega) hH;refine qv hev ?_;refine zQ 1 ?_;have l8:(code++[cz 4 (2*n.cap) 0 []]).length=code.length+1:=by simp
   refine zQ 5 ?_;obtain⟨_,st,hev,rfl,cd,dk,hH⟩:=ih t (by omega) hF hnd gi.tail hsz.tail pU.tail jI.1 (by omega) ⟨cd,dk,hH⟩;refine qv hev ?_;refine zQ 1 ?_;rw[l8] at hH;have l7:(code++[cz 4 (2*n.cap) 0 []]++aH t (code.length+1)).length=code.length+1+t.sz:=by rw[List.length_append,l8,bW t _ jI.1]
   refine zQ 4 ?_;refine EvO.xU (z:=(2*n.cap)) rfl (ev rfl) (ev rfl) (by(try simp only[List.length_reverse,List.length_cons,List.length_nil,List.length_append,List.length_map,List.length_set]);rw[wrap_i64 (by omega) (by omega)]<;>omega) (put_T rfl _) ?_;refine EvO.ke (z:=(2*n.cap+1)) rfl (ev rfl) (ev rfl) (by(try simp only[List.length_reverse,List.length_cons,List.length_nil,List.length_append,List.length_map,List.length_set]);rw[wrap_i64 (by omega) (by omega)]<;>omega) (put_T rfl _) ?_;refine EvO.go (d:=.agg [.int .i64 4,.int .i64 (2*n.cap+1),.int .i64 0,.nul]) (st1:=_) rfl rfl rfl (put_T rfl _) ?_;have hH:=hH.nulE 2;obtain⟨_,st,hev,rfl,cd,dk,hH⟩:=fM (rs:=[]) hF (by omega) hH;refine qv hev ?_;refine zQ 1 ?_;have eM:code++[cz 4 (2*n.cap) 0 []]++aH t (code.length+1)++[cz 4 (2*n.cap+1) 0 []]=code++cz 4 (2*n.cap) 0 []::(aH t (code.length+1)++[cz 4 (2*n.cap+1) 0 []]):=by simp
   rw[eM] at hH;refine⟨fun i h=>(by cases h),_,_,_,rfl,rfl,?_⟩;exact⟨rfl,cd,dk,hH.erase 4⟩
  ·refine zQ 1 ?_;have yu:aH (.mk n ks) code.length=[]:=by simp only[aH,if_neg q2,if_neg q7,if_neg q8,if_neg q3,if_neg q4,if_neg q5,if_neg q6]
   rw[yu,List.append_nil];refine⟨fun i h=>(by cases h),_,_,_,rfl,rfl,?_⟩;exact⟨rfl,cd,dk,hH.erase 4⟩
def gE (fr:Go.V.Fr) (k:Nat):Go.V.D:=Go.V.nth .junk fr.loc k
def Bw (x:Nl):List D:=[x.d]
theorem G0 {l:List Nl} {i:Nat} {q:Nl} (h:l[i]?=some q):(l.map Bw)[i]?=some (Bw q):=by rw[List.getElem?_map,h];rfl
def compD (R:rD):D:=.tup [(pgV R.code R.af).d,.int .i64 R.e,.int .i64 R.w]
theorem za {es M:List Int} (h:M.length=es.length):mA es 0 M=M:=by
 unfold mA;simp[h]
theorem nB (r:Nat) (c:List aC) (s:List Int):dY [] r c s=⟨c,s,0,0⟩:=by simp only[dY]
theorem yK {s0:St} {x:D} {rules:List Nl} (hx:V.Rows s0 1 x (rules.map Bw)) (hr:∀r∈rules,r.ok) (hl:rules.length≤1048576):Ev pv 8 [x] s0 (compD (compileS (rules.map (·.l)))) s0:=by
 refine Ev.mk1 rfl Ug rfl rfl rfl ?_;refine zE ?_;obtain⟨hSb,hF,hH⟩:=ri s0;generalize enterSt .ro s0=S at*;have hx:=Arg.of hx hSb;have hfz:∀(st:St) (e w:Int),aQ st s0.bs.length false 16 (rI [.agg [.nul,.nul],.int .i64 e,.int .i64 w])=some (compD ⟨[],[],e,w⟩):=fun st e w=>rfl;refine zQ 2 ?_;refine qa hH fun k2 st hk2 hH=>?_;refine zQ 7 ?_;refine qn ?_;simp only[List.length_map];refine zQ 2 ?_;unfold compileS
 by_cases h8:8<rules.length
 ·rw[if_pos (by rw[List.length_map];exact h8)];refine qD rfl (by simp;omega) ?_;refine zQ 2 ?_;refine EvO.go (d:=.agg [.nul,.nul]) (st1:=_) rfl rfl rfl (by dsimp only[Fr.put,u1,u2]<;>rfl) ?_;refine qS hH at0 fun st hH=>?_;dsimp only[u2,u1,u3,u4,setMany,u5,u6,D.cells,Nat.reduceAdd,aq,aS,ae,Bw] at hH;refine zQ 3 ?_;refine EvC.ret ⟨rx,_,hH.kz rfl at0 rfl rfl rfl,rl hSb hH (hfz _ 13 8)⟩
 ·rw[if_neg (by rw[List.length_map];exact h8)];refine qE rfl (by simp;omega) ?_;refine zQ 3 ?_;refine EvO.go (d:=.agg [.nul,.nul,.nul,.nul]) (st1:=_) rfl rfl rfl (by dsimp only[Fr.put,u1,u2]<;>rfl) ?_;refine qb hH fun k14 st HL hH=>?_;refine zQ 10 ?_;refine qn ?_;simp only[List.length_map];refine zQ 2 ?_;have hH:Has s0.bs.length S st (.lst .nul 1 (([]:List Int).map ae)::.deep (fun _=>False) .nul 4 (([]:List aC).map aq)::.box k14 (.mem 0 false [.nul,.nul,.nul,.nul])::[.box k2 (.mem 0 false [.nul,.nul])]):=(hH.GX 4).nulE 1;refine zQ 1 ?_;refine EvC.loop (fun mm fr st=>∃(r:Nat) (cd nd zd ed sd:D) (dk:Nat→Prop) (code:List aC) (af:List Int),fr.clean=⟨18,[gE fr 0,gE fr 1,.ptr k2 0 0,.int .i64 0,.int .i64 0,.ptr k14 0 0,sd,gE fr 7,gE fr 8,gE fr 9,gE fr 10,gE fr 11,gE fr 12,gE fr 13,gE fr 14,x,.int .i64 (rules.length:Nat),.int .i64 (r:Nat)],[]⟩∧Has s0.bs.length S st [.lst sd 1 (af.map ae),.deep dk cd 4 (code.map aq),.box k14 (.mem 0 false [cd,nd,zd,ed]),.box k2 (.mem 0 false [.nul,.nul])]∧(r+mm=rules.length)∧(dY ((rules.drop r).map (·.l)) r code af=dY (rules.map (·.l)) 0 [] [])∧(code.length≤400)∧(af.length≤r)) (rules.length) ?_ ?_
  ·exact⟨0,.nul,.nul,.nul,.nul,.nul,(fun _=>False),[],[],rfl,hH,by omega,by rw[List.drop_zero],by simp,by simp⟩
  rintro mm fr st ⟨r,cd,nd,zd,ed,sd,dk,code,af,hfr,hH,Vg,hX,hcl,e_⟩;rw[hfr];clear hfr;generalize gE fr=ee;clear fr;refine zQ 4 ?_
  by_cases hlt:r<rules.length
  ·obtain⟨q,hq⟩:∃q,rules[r]?=some q:=⟨rules[r]'hlt,List.getElem?_eq_getElem _⟩
   have wu:=hr q (List.mem_of_getElem? hq);have hr1:=G0 hq
   have wG:rules.drop r=q::rules.drop (r+1):=by
    rw[List.drop_eq_getElem_cons hlt]
    congr 1
    exact Option.some.inj ((List.getElem?_eq_getElem _).symm.trans hq)
   rw[wG,List.map_cons,dY] at hX;refine qq<|qD rfl (by simp;omega) ?_;refine zQ 6 ?_;refine qr fun F_ wy=>?_;refine zQ 8 ?_;refine qv (AE wu) ?_;refine zQ 2 ?_
   cases yi:fy q.l with
   |false=>
    rw[if_pos yi] at hX;refine zQ 3 ?_;refine EvO.go (d:=.agg [.nul,.nul]) (st1:=_) rfl rfl rfl (put_T rfl _) ?_;refine qm ?_;refine qS hH at3 fun st hH=>?_;dsimp only[u2,u1,u3,u4,setMany,u5,u6,D.cells,Nat.reduceAdd,aq,aS,ae,Bw] at hH;refine zQ 3 ?_;rw[←hX];refine EvC.ret ⟨rx,_,hH.kz rfl at3 rfl rfl rfl,rl hSb hH (hfz _ 1 r)⟩
   |true=>
    rw[if_neg (by rw[yi];simp)] at hX;obtain⟨rM,Ge⟩:=tz yi;have Vm:=wu.c.arg s0.bs.length S;have Vl:=wu.nl;have sV:=wu.c;refine zQ 9 ?_;refine qn ?_;simp only[List.length_map];refine EvO.pW (s:=1) hH rfl rfl rfl rfl rfl rfl rfl rfl (Nat.le_of_ble_eq_true rfl) (by omega) (fun _=>(put_T rfl _)) (fun k33 st NP hH=>?_);refine qm ?_;refine qn ?_;simp only[List.length_map];refine EvO.pW (s:=1) hH rfl rfl rfl rfl rfl rfl rfl rfl (Nat.le_of_ble_eq_true rfl) (by omega) (fun _=>(put_T rfl _)) (fun k36 st Kc hH=>?_);refine zQ 2 ?_;refine qT hH at4 fun st hH=>?_;dsimp only[u2,u1,u3,u4,setMany,u5,u6,D.cells,Nat.reduceAdd,aq,aS,ae,Bw] at hH;refine zQ 2 ?_;refine qT hH at4 fun st hH=>?_;dsimp only[u2,u1,u3,u4,setMany,u5,u6,D.cells,Nat.reduceAdd,aq,aS,ae,Bw] at hH;refine zQ 2 ?_;refine qT hH at4 fun st hH=>?_;dsimp only[u2,u1,u3,u4,setMany,u5,u6,D.cells,Nat.reduceAdd,aq,aS,ae,Bw] at hH;refine zQ 1 ?_
    have hH:Has s0.bs.length S st (.lst (.win k33 0 0 q.l.length 1) 1 ((List.replicate q.l.length (0:Int)).map ae)::.lst (.win k36 0 0 q.l.length 1) 1 ((List.replicate q.l.length (0:Int)).map ae)::.lst sd 1 (af.map ae)::.deep dk cd 4 (code.map aq)::.box k14 (.mem 0 false [cd,q.d,.win k33 0 0 q.l.length 1,.win k36 0 0 q.l.length 1])::.box k2 (.mem 0 false [.nul,.nul])::[]):=by
     rw[List.map_replicate];exact hH.front at1
    refine zQ 7 ?_;obtain⟨_,st,hev,rfl,hH⟩:=B1 wu.nl wu.i wu.c _ (cj q.l) (Nat.le_refl _) rM (at_:=0) (by rw[Ge];exact eT.all _) (by simp) hH;refine qv hev ?_;refine zQ 1 ?_;rw[za (by rw[Tr.ia,Ge];simp)] at hH;have hH:=hH.front at1;refine zQ 7 ?_;obtain⟨_,st,hev,rfl,hH⟩:=FO wu.nl wu.i wu.c _ (cj q.l) (Nat.le_refl _) rM (at_:=0) (by rw[Ge];exact eT.all _) (by simp) hH;refine qv hev ?_;refine zQ 1 ?_;rw[za (by rw[Tr.il,Ge];simp)] at hH;have Sl:=dc (yY (eT.all (cj q.l).zs));refine zQ 7 ?_;refine EvO.Bl hH rfl (ev rfl) (by exact at3) rfl (put_T rfl _) ?_;simp only[List.length_map];refine zQ 4 ?_;refine qi hH at1 fun Ms Hp=>?_;refine zQ 1 ?_;refine EvO.ke (z:=((code.length+min (cj q.l).sz 401:Nat):Int)) rfl (ev rfl) (ev rfl) (by(try simp only[List.length_reverse,List.length_cons,List.length_nil,List.length_append,List.length_map,List.length_set]);rw[wrap_i64 (by omega) (by omega)]<;>omega) (put_T rfl _) ?_;refine EvO.ke (z:=((code.length+min (cj q.l).sz 401+3:Nat):Int)) rfl (ev rfl) (ev rfl) (by(try simp only[List.length_reverse,List.length_cons,List.length_nil,List.length_append,List.length_map,List.length_set]);rw[wrap_i64 (by omega) (by omega)]<;>omega) (put_T rfl _) ?_;refine zQ 2 ?_
    by_cases HS:400<code.length+min (cj q.l).sz 401+3
    ·rw[if_pos HS] at hX;have hcc:decide (((code.length+min (cj q.l).sz 401+3:Nat):Int)>400)=true:=by rw[decide_eq_true_eq];omega
     refine qD rfl (by rw[hcc]) ?_;refine zQ 2 ?_;refine EvO.go (d:=.agg [.nul,.nul]) (st1:=_) rfl rfl rfl (put_T rfl _) ?_;refine qm ?_;refine qS hH at5 fun st hH=>?_;dsimp only[u2,u1,u3,u4,setMany,u5,u6,D.cells,Nat.reduceAdd,aq,aS,ae,Bw] at hH;refine zQ 3 ?_;rw[←hX];refine EvC.ret ⟨rx,_,hH.kz rfl at5 rfl rfl rfl,rl hSb hH (hfz _ 12 r)⟩
    ·rw[if_neg HS] at hX;have hcc:decide (((code.length+min (cj q.l).sz 401+3:Nat):Int)>400)=false:=by rw[decide_eq_false_iff_not];omega
     refine qE rfl (by rw[hcc]) ?_;refine zQ 1 ?_;have hH:=hH.front at1;have hH:=hH.front at3;have hH:=hH.front at4;have hH:Has s0.bs.length S st (.box k14 (.mem 0 false [cd,q.d,.win k33 0 0 q.l.length 1,.win k36 0 0 q.l.length 1])::.deep dk cd 4 (code.map aq)::.lst (.win k33 0 0 q.l.length 1) 1 ((cj q.l).zs.map ae)::.lst (.win k36 0 0 q.l.length 1) 1 (((cj q.l).es 0).map ae)::.lst sd 1 (af.map ae)::.box k2 (.mem 0 false [.nul,.nul])::[]):=hH;refine zQ 4 ?_;refine EvO.go (d:=.agg [.int .i64 4,.int .i64 0,.int .i64 0,.nul]) (st1:=_) rfl rfl rfl (put_T rfl _) ?_;have hH:=hH.nulE 2;obtain⟨_,st,hev,rfl,cd,dk,hH⟩:=fM (rs:=[]) hF (by omega) hH;refine qv hev ?_;refine qh (s:=1) (vs:=[_]) hH fun k75 st S_ hH=>?_;refine EvO.happend (s:=1) hH rfl (ev rfl) (ev rfl) (by exact at5) (by exact hH.rows (by exact at0)) rfl rfl rfl rfl rfl rfl rfl ⟨(Nat.le_of_ble_eq_true rfl),(Nat.le_of_ble_eq_true rfl)⟩ (fun _=>(put_T rfl _)) (by simp only[List.length_cons,List.length_nil,List.length_map]<;>omega) (by exact .inl hF) (fun Q7 st hH=>?_);dsimp only[u2,u1,u3,u4,setMany,u5,u6,D.cells,Nat.reduceAdd,aq,aS,ae,Bw] at hH;refine zQ 2 ?_;have hH:=hH.drop 1;have l8:(code++[cz 4 0 0 []]).length=code.length+1:=by simp
     refine zQ 3 ?_;obtain⟨_,st,hev,rfl,cd,dk,hH⟩:=EM wu.nl wu.i _ (cj q.l) (Nat.le_refl _) hF wu.c (at_:=0) (by rw[Ge];exact eT.all _) (eT.all _) (eT.all _) rM (by omega) ⟨cd,dk,hH⟩;refine qv hev ?_;refine zQ 1 ?_;rw[l8] at hH;have l7:(code++[cz 4 0 0 []]++aH (cj q.l) (code.length+1)).length=code.length+1+(cj q.l).sz:=by rw[List.length_append,l8,bW _ _ rM]
     refine zQ 3 ?_;refine EvO.go (d:=.agg [.int .i64 4,.int .i64 1,.int .i64 0,.nul]) (st1:=_) rfl rfl rfl (put_T rfl _) ?_;have hH:=hH.nulE 2;obtain⟨_,st,hev,rfl,cd,dk,hH⟩:=fM (rs:=[]) hF (by omega) hH;refine qv hev ?_;refine zQ 1 ?_;have Dj:(code++[cz 4 0 0 []]++aH (cj q.l) (code.length+1)++[cz 4 1 0 []]).length=code.length+1+(cj q.l).sz+1:=by rw[List.length_append,l7];rfl
     refine zQ 3 ?_;refine EvO.go (d:=.agg [.int .i64 7,.int .i64 (r:Nat),.int .i64 0,.nul]) (st1:=_) rfl rfl rfl (put_T rfl _) ?_;have hH:=hH.nulE 2;obtain⟨_,st,hev,rfl,cd,dk,hH⟩:=fM (rs:=[]) hF (by omega) hH;refine qv hev ?_;refine zQ 1 ?_
     have M_:code++[cz 4 0 0 []]++aH (cj q.l) (code.length+1)++[cz 4 1 0 []]++[cz 7 (r:Nat) 0 []]=code++dU (cj q.l) code.length r:=by
      unfold dU;simp
     rw[M_] at hH;have hH:=(hH.erase 2).erase 2;have hH:=hH.front at1;have hH:=hH.front at2;refine zQ 4 ?_;exact⟨mm-1,by omega,⟨r+1,cd,q.d,.win k33 0 0 q.l.length 1,.win k36 0 0 q.l.length 1,Q7,dk,code++dU (cj q.l) code.length r,af++[((code.length:Nat):Int)],rfl,(by rw[List.map_append (f:=ae)];exact hH),by omega,hX,by rw[List.length_append,ky rM];omega,by rw[List.length_append];simp only[List.length_cons,List.length_nil];omega⟩⟩
  ·refine qq<|qE rfl (by simp;omega) ?_;refine zQ 1 ?_;rw[List.drop_of_length_le (by omega),List.map_nil,nB] at hX;refine zQ 7 ?_;refine EvO.eX (qs:=[(0,_),(1,_)]) rfl rfl rfl rfl ⟨rfl,(ev rfl),(by exact hH.dcells (by exact at1)),rfl,(ev rfl),(by exact hH.ocells (by exact at0)),trivial⟩ (by intro q hq;simp only[List.mem_cons,List.not_mem_nil,or_false] at hq;rcases hq with rfl|rfl<;>exact⟨rfl,by exact Nat.le_of_ble_eq_true rfl⟩) (by show List.foldl _ [_,_] _=_;dsimp only[List.foldl_cons,List.foldl_nil,u2,u1]<;>rfl) (put_T rfl _) ?_;refine qS hH at3 fun st hH=>?_;dsimp only[u2,u1,u3,u4,setMany,u5,u6,D.cells,Nat.reduceAdd,aq,aS,ae,Bw] at hH;refine zQ 3 ?_;rw[←hX];have h1:=hH.qI at1 (n:=13) (by decide);have h2:=hH.uD at0 (gy _) (n:=14) (by decide)
   have h4:aQ st s0.bs.length false 15 (.agg [cd,sd])=some (pgV code af).d:=by
    show(fp (aQ st s0.bs.length false 14) [cd,sd]).map D.agg=_;simp only[fp,h1,h2,Option.map_some];rfl
   have h3:aQ st s0.bs.length false 16 (rI [.agg [cd,sd],.int .i64 0,.int .i64 0])=some (compD ⟨code,af,0,0⟩):=by
    show(fp (aQ st s0.bs.length false 15) [.agg [cd,sd],.int .i64 0,.int .i64 0]).map D.tup=_;simp only[fp,h4];rfl
   exact EvC.ret ⟨rx,_,hH.kz rfl at3 rfl rfl rfl,rl hSb hH h3⟩
theorem wZ:∀(ls:List (List Nod)) (r:Nat) (c:List aC) (s:List Int),(∀l∈ls,∀n∈l,n.rs.length≤1048576)→(∀i∈c,iU i)→c.length≤400→s.length≤r→(∀i∈(dY ls r c s).code,iU i)∧(dY ls r c s).code.length≤400∧(dY ls r c s).af.length≤r+ls.length
 |[],r,c,s,_,h1,h2,h3=>by rw[nB];exact⟨h1,h2,by simpa using h3⟩
 |l::ls,r,c,s,h0,h1,h2,h3=>by
  have FF:∀e w:Int,(∀i∈(rD.mk [] [] e w).code,iU i)∧(rD.mk [] [] e w).code.length≤400∧(rD.mk [] [] e w).af.length≤r+(l::ls).length:=fun e w=>⟨fun i hi=>(by cases hi),by simp,by simp⟩
  rw[dY]
  split
  ·exact FF _ _
  ·rename_i hr;rw[Bool.not_eq_false] at hr
   split
   ·exact FF _ _
   ·rename_i hb;obtain⟨t1,t2⟩:=tz hr
    obtain⟨h4,h5,h6⟩:=wZ ls (r+1) (c++dU (cj l) c.length r) (s++[((c.length:Nat):Int)]) (fun l' hl'=>h0 l' (List.mem_cons_of_mem _ hl')) (fun i hi=>by
     rcases List.mem_append.1 hi with hi|hi
     ·exact h1 i hi
     ·exact EA (by rw[t2];exact h0 l (List.mem_cons_self ..)) i hi) (by rw[List.length_append,ky t1];omega) (by rw[List.length_append];simp only[List.length_cons,List.length_nil];omega)
    exact⟨h4,h5,by simp only[List.length_cons];omega⟩
theorem wY {ls:List (List Nod)} (h:∀l∈ls,∀n∈l,n.rs.length≤1048576):(pgV (compileS ls).code (compileS ls).af).ok∧(compileS ls).code.length≤400:=by
 unfold compileS
 split
 ·exact⟨Co (fun i hi=>(by cases hi)) (by simp) (by simp),by simp⟩
 ·obtain⟨h1,h2,h3⟩:=wZ ls 0 [] [] h (fun i hi=>by cases hi) (by simp) (by simp);exact⟨Co h1 (by omega) (by omega),h2⟩
def strC (b:List UInt8):List D:=[.str b]
theorem str_get {l:List (List UInt8)} {i:Nat} {q:List UInt8} (h:l[i]?=some q):(l.map strC)[i]?=some (strC q):=by rw[List.getElem?_map,h];rfl
theorem GZ {parts:List (List Nod)} (h:∀l∈parts,(∀n∈l,NdV n)∧l.length≤500):∀r∈parts.map (fun l=>(⟨uQ l,l⟩:Nl)),r.ok:=by
 intro r hr;obtain⟨l,hl,rfl⟩:=List.mem_map.1 hr;exact Ji (h l hl).1 (by have:=(h l hl).2;omega)
theorem CE {parts:List (List Nod)}:(parts.map (fun l=>(⟨uQ l,l⟩:Nl))).map Bw=parts.map partC:=by
 rw[List.map_map];rfl
theorem comp_parts {s0:St} {y:D} {parts:List (List Nod)} (h:∀l∈parts,(∀n∈l,NdV n)∧l.length≤500) (hl:parts.length≤1048576) (hy:V.Rows s0 1 y (parts.map partC)):Ev pv 8 [y] s0 (compD (compileS parts)) s0∧(pgV (compileS parts).code (compileS parts).af).ok∧(compileS parts).code.length≤400:=by
 have h1:=yK (s0:=s0) (x:=y) (rules:=parts.map (fun l=>(⟨uQ l,l⟩:Nl))) (by rw[CE];exact hy) (GZ h) (by rw[List.length_map];exact hl);have h2:(parts.map (fun l=>(⟨uQ l,l⟩:Nl))).map (·.l)=parts:=by rw[List.map_map];exact List.map_id _
 rw[h2] at h1;exact⟨h1,wY fun l hl n hn=>((h l hl).1 n hn).2.1⟩
def zc (n:Nat) (i:aC):aC:=if i.op=2 then⟨2,i.x+n,i.y+n,i.rd,i.rs⟩ else if i.op=3 then⟨3,i.x+n,i.y,i.rd,i.rs⟩ else i
theorem o0 (n:Nat) {op:Int} (x y:Int) (rs:List Rg) (h2:op≠2) (h3:op≠3):zc n (cz op x y rs)=cz op x y rs:=by
 unfold zc cz;rw[if_neg h2,if_neg h3]
theorem xy (n s o:Nat) (lz:Bool):zc n (mK s o lz)=mK (s+n) (o+n) lz:=by
 cases lz
 ·show(⟨2,((s+1:Nat):Int)+n,(o:Int)+n,_,_⟩:aC)=cz 2 ((s+n+1:Nat):Int) ((o+n:Nat):Int) [];unfold cz
  congr 1;omega
 ·show(⟨2,(o:Int)+n,((s+1:Nat):Int)+n,_,_⟩:aC)=cz 2 ((o+n:Nat):Int) ((s+n+1:Nat):Int) [];unfold cz
  congr 1;omega
theorem B3 (n e:Nat):zc n (l3 e)=l3 (e+n):=by
 show(⟨3,(e:Int)+n,0,_,_⟩:aC)=cz 3 ((e+n:Nat):Int) 0 [];unfold cz
 congr 1
theorem tF {c:Nat→List aC} {z n:Nat} (hc:∀b,c (b+n)=(c b).map (zc n)):∀k b,eF c z k (b+n)=(eF c z k b).map (zc n)
 |0,b=>rfl
 |k+1,b=>by
  have h:=tF hc (z:=z) k (b+z);rw[Nat.add_right_comm] at h;rw[eF,eF,List.map_append,hc,h]
theorem zj {sp PM:Nat→aC} {c:Nat→List aC} {z n:Nat} (hs:∀s,PM (s+n)=zc n (sp s)) (hc:∀b,c (b+n)=(c b).map (zc n)):∀k b,eu PM c z k (b+n)=(eu sp c z k b).map (zc n)
 |0,b=>rfl
 |k+1,b=>by
  have h:=zj hs hc (z:=z) k (b+1+z);have e1:b+1+z+n=b+n+1+z:=by omega
  have e2:b+n+1=b+1+n:=by omega
  rw[e1] at h;rw[eu,eu,List.map_cons,List.map_append,hs,h,e2,hc]
theorem EB {nd:Nod} {c:Nat→List aC} {z n b:Nat} (hc:∀b,c (b+n)=(c b).map (zc n)):mP nd c z (b+n)=(mP nd c z b).map (zc n):=by
 unfold mP
 split
 ·rw[List.map_append,tF hc,List.map_cons,List.map_append,xy,List.map_cons,List.map_nil,B3];have e1:b+n+nd.mn.toNat*z=b+nd.mn.toNat*z+n:=by omega
  have e2:b+nd.mn.toNat*z+n+1=b+nd.mn.toNat*z+1+n:=by omega
  have e3:b+nd.mn.toNat*z+n+z+2=b+nd.mn.toNat*z+z+2+n:=by omega
  rw[e1,e2,e3,hc]
 ·rw[List.map_append,tF hc];have e1:b+n+nd.mn.toNat*z=b+nd.mn.toNat*z+n:=by omega
  rw[e1]
  congr 1
  refine zj (fun s=>?_) hc _ _;rw[xy]
  congr 1
  omega
mutual
theorem rj (n:Nat):∀(t:Tr) (b:Nat),aH t (b+n)=(aH t b).map (zc n)
 | .mk nd ks,b=>by
  have hc:=fun b=>z_ n ks b;have ha:=fun e b=>Aj n e ks b;simp only[aH]
  split
  ·rw[List.map_cons,List.map_nil,o0 _ _ _ _ (by decide) (by decide)]
  split
  ·rw[List.map_cons,List.map_nil,o0 _ _ _ _ (by decide) (by decide)]
  split
  ·rw[List.map_cons,List.map_nil,o0 _ _ _ _ (by decide) (by decide)]
  split
  ·exact hc b
  split
  ·rw[Nat.add_right_comm];exact ha _ b
  split
  ·exact EB hc
  split
  ·rw[List.map_cons,List.map_append,List.map_cons,List.map_nil,o0 _ _ _ _ (by decide) (by decide),o0 _ _ _ _ (by decide) (by decide),Nat.add_right_comm,hc]
  ·rfl
theorem z_ (n:Nat):∀(ts:bc) (b:Nat),fg ts (b+n)=(fg ts b).map (zc n)
 | .nil,b=>by simp only[fg,List.map_nil]
 | .cons t ts,b=>by
  have h:=z_ n ts (b+t.sz);rw[Nat.add_right_comm] at h;simp only[fg,List.map_append];rw[rj n t b,h]
theorem Aj (n:Nat):∀(e:Nat) (ts:bc) (b:Nat),dR (l3 (e+n)) ts (b+n)=(dR (l3 e) ts b).map (zc n)
 |e,.nil,b=>by simp only[dR,List.map_nil]
 |e,.cons t ts,b=>by
  have h:=Aj n e ts (b+t.sz+2);have h1:=rj n t (b+1);have e1:b+t.sz+2+n=b+n+t.sz+2:=by omega
  have e2:b+1+n=b+n+1:=by omega
  have e3:b+1+t.sz+1+n=b+n+1+t.sz+1:=by omega
  rw[e1] at h;rw[e2] at h1;simp only[dR]
  split
  ·exact rj n t b
  ·rw[List.map_cons,List.map_append,List.map_cons,xy,B3,h1,h,e3]
end
def nJ (lo hi:Nat) (i:aC):Prop:=i.op≠7∧(i.op=2→((lo:Int)≤i.x∧i.x≤hi)∧(lo:Int)≤i.y∧i.y≤hi)∧(i.op=3→(lo:Int)≤i.x∧i.x≤hi)
theorem nJ.mono {lo hi sO gH:Nat} {i:aC} (h:nJ lo hi i) (h1:sO≤lo) (h2:hi≤gH):nJ sO gH i:=
 ⟨h.1,fun e=>by have:=h.2.1 e;omega,fun e=>by have:=h.2.2 e;omega⟩
theorem nJ.mk {lo hi:Nat} {op:Int} (x y:Int) (rs:List Rg) (h2:op≠2) (h3:op≠3) (h7:op≠7):nJ lo hi (cz op x y rs):=⟨h7,fun h=>absurd h h2,fun h=>absurd h h3⟩
theorem nJ.sp {lo hi s o:Nat} {lz:Bool} (h1:lo≤s+1∧s+1≤hi) (h2:lo≤o∧o≤hi):nJ lo hi (mK s o lz):=by
 cases lz
 ·exact⟨by show(2:Int)≠7;decide,fun _=>by show((lo:Int)≤((s+1:Nat):Int)∧((s+1:Nat):Int)≤hi)∧(lo:Int)≤(o:Int)∧(o:Int)≤hi;omega,fun h=>absurd h (by show¬(2:Int)=3;decide)⟩
 ·exact⟨by show(2:Int)≠7;decide,fun _=>by show((lo:Int)≤(o:Int)∧(o:Int)≤hi)∧(lo:Int)≤((s+1:Nat):Int)∧((s+1:Nat):Int)≤hi;omega,fun h=>absurd h (by show¬(2:Int)=3;decide)⟩
theorem nJ.jp {lo hi e:Nat} (h1:lo≤e∧e≤hi):nJ lo hi (l3 e):=
 ⟨by show(3:Int)≠7;decide,fun h=>absurd h (by show¬(3:Int)=2;decide),fun _=>by show(lo:Int)≤(e:Int)∧(e:Int)≤hi;omega⟩
theorem tG {c:Nat→List aC} {z:Nat} (hc:∀b,∀i∈c b,nJ b (b+z) i):∀k b,∀i∈eF c z k b,nJ b (b+k*z) i
 |0,b,i,hi=>by cases hi
 |k+1,b,i,hi=>by
  simp only[eF] at hi;rw[Nat.succ_mul]
  rcases List.mem_append.1 hi with hi|hi
  ·exact(hc b i hi).mono (Nat.le_refl _) (by omega)
  ·exact(tG hc k _ i hi).mono (by omega) (by omega)
theorem zk {sp:Nat→aC} {c:Nat→List aC} {z lo hi:Nat} (hs:∀s,lo≤s→s+1≤hi→nJ lo hi (sp s)) (hc:∀b,∀i∈c b,nJ b (b+z) i):∀k b,lo≤b→b+k*(z+1)≤hi→∀i∈eu sp c z k b,nJ lo hi i
 |0,b,_,_,i,gH=>by cases gH
 |k+1,b,h1,h2,i,gH=>by
  simp only[eu] at gH;rw[Nat.succ_mul] at h2
  rcases List.mem_cons.1 gH with rfl|gH
  ·exact hs b h1 (by omega)
  ·rcases List.mem_append.1 gH with gH|gH
   ·exact(hc _ i gH).mono (by omega) (by omega)
   ·exact zk hs hc k _ (by omega) (by omega) i gH
mutual
theorem rk:∀(t:Tr) (b:Nat),t.ok→∀i∈aH t b,nJ b (b+t.sz) i
 | .mk n ks,b,hok,i,hi=>by
  simp only[Tr.ok] at hok;have hc:=fun b=>Aa ks b hok.2;obtain⟨_,hq⟩:=hok.1;simp only[aH] at hi;simp only[Tr.sz]
  by_cases q2:n.op=2
  ·rw[if_pos q2] at hi;simp only[List.mem_cons,List.not_mem_nil,or_false] at hi;subst hi;exact nJ.mk _ _ _ (by decide) (by decide) (by decide)
  rw[if_neg q2] at hi
  by_cases q7:n.op=7
  ·rw[if_pos q7] at hi;simp only[List.mem_cons,List.not_mem_nil,or_false] at hi;subst hi;exact nJ.mk _ _ _ (by decide) (by decide) (by decide)
  rw[if_neg q7] at hi
  by_cases q8:n.op=8
  ·rw[if_pos q8] at hi;simp only[List.mem_cons,List.not_mem_nil,or_false] at hi;subst hi;exact nJ.mk _ _ _ (by decide) (by decide) (by decide)
  rw[if_neg q8] at hi
  have hz:∀s k,bh n s k=if n.op=4 then s+2*(k-1) else if n.op=6 then s+2 else if n.op=5 then(if n.mx=-1 then n.mn.toNat*s+s+2 else n.mn.toNat*s+(n.mx.toNat-n.mn.toNat)*(s+1)) else s:=by
   intro s k;unfold bh;rw[if_neg (by omega)]
  by_cases q3:n.op=3
  ·rw[if_pos q3] at hi;rw[hz,if_neg (by omega),if_neg (by omega),if_neg (by omega)];exact hc b i hi
  rw[if_neg q3] at hi
  by_cases q4:n.op=4
  ·rw[if_pos q4] at hi;have Jx:bh n ks.sz ks.len=ks.sz+2*(ks.len-1):=by rw[hz,if_pos q4]
   rw[Jx] at hi⊢;exact Ak ks b (b+(ks.sz+2*(ks.len-1))) hok.2 (Nat.le_refl _) i hi
  rw[if_neg q4] at hi
  by_cases q5:n.op=5
  ·rw[if_pos q5] at hi;rw[hz,if_neg q4,if_neg (by omega),if_pos q5];unfold mP at hi
   by_cases qm:n.mx=-1
   ·rw[if_pos qm] at hi⊢
    rcases List.mem_append.1 hi with hi|hi
    ·exact(tG hc _ _ i hi).mono (Nat.le_refl _) (by omega)
    ·rcases List.mem_cons.1 hi with rfl|hi
     ·exact nJ.sp (by omega) (by omega)
     ·rcases List.mem_append.1 hi with hi|hi
      ·exact(hc _ i hi).mono (by omega) (by omega)
      ·simp only[List.mem_cons,List.not_mem_nil,or_false] at hi;subst hi;exact nJ.jp (by omega)
   ·rw[if_neg qm] at hi⊢
    rcases List.mem_append.1 hi with hi|hi
    ·exact(tG hc _ _ i hi).mono (Nat.le_refl _) (by omega)
    ·exact zk (fun s h1 h2=>nJ.sp (by omega) (by omega)) hc _ _ (by omega) (by omega) i hi
  rw[if_neg q5] at hi
  by_cases q6:n.op=6
  ·rw[if_pos q6] at hi;rw[hz,if_neg q4,if_pos q6]
   rcases List.mem_cons.1 hi with rfl|hi
   ·exact nJ.mk _ _ _ (by decide) (by decide) (by decide)
   ·rcases List.mem_append.1 hi with hi|hi
    ·exact(hc _ i hi).mono (by omega) (by omega)
    ·simp only[List.mem_cons,List.not_mem_nil,or_false] at hi;subst hi;exact nJ.mk _ _ _ (by decide) (by decide) (by decide)
  ·rw[if_neg q6] at hi;cases hi
theorem Aa:∀(ts:bc) (b:Nat),ts.ok→∀i∈fg ts b,nJ b (b+ts.sz) i
 | .nil,b,_,i,hi=>by simp[fg] at hi
 | .cons t ts,b,hok,i,hi=>by
  simp only[bc.ok] at hok;simp only[fg] at hi;simp only[bc.sz]
  rcases List.mem_append.1 hi with hi|hi
  ·exact(rk t b hok.1 i hi).mono (Nat.le_refl _) (by omega)
  ·exact(Aa ts _ hok.2 i hi).mono (by omega) (by omega)
theorem Ak:∀(ts:bc) (b e:Nat),ts.ok→b+(ts.sz+2*(ts.len-1))≤e→∀i∈dR (l3 e) ts b,nJ b e i
 | .nil,b,e,_,_,i,hi=>by simp[dR] at hi
 | .cons t ts,b,e,hok,he,i,hi=>by
  simp only[bc.ok] at hok;simp only[dR] at hi;simp only[bc.sz,bc.len] at he
  by_cases q:ts.len=0
  ·rw[if_pos q] at hi;exact(rk t b hok.1 i hi).mono (Nat.le_refl _) (by omega)
  ·rw[if_neg q] at hi
   rcases List.mem_cons.1 hi with rfl|hi
   ·exact nJ.sp (by omega) (by omega)
   ·rcases List.mem_append.1 hi with hi|hi
    ·exact(rk t _ hok.1 i hi).mono (by omega) (by omega)
    ·rcases List.mem_cons.1 hi with rfl|hi
     ·exact nJ.jp (by omega)
     ·exact(Ak ts _ e hok.2 (by omega) i hi).mono (by omega) (by omega)
end
theorem yL (r:Nat) (c:List aC) (s:List Int):dY [] r c s=⟨c,s,0,0⟩:=by simp only[dY]
theorem wW {code:List aC} {pc:Nat} {i:aC} (h:(code.map dK)[pc]?=some i):∃q,code[pc]?=some q∧i=dK q:=by
 rw[List.getElem?_map] at h;obtain⟨q,hq,rfl⟩:=Option.map_eq_some_iff.1 h;exact⟨q,hq,rfl⟩
theorem get_copy {code:List aC} {pc:Nat} {i:aC} (h:code[pc]?=some i):(code.map dK)[pc]?=some (dK i):=by
 rw[List.getElem?_map,h];rfl
theorem wV (code:List aC):∀(f:Nat) (seen:List Bool) (dS:List Int),uV (code.map dK) f seen dS=uV code f seen dS
 |0,_,_=>rfl
 |_+1,_,[]=>rfl
 |f+1,seen,v::dS=>by
  have ih:=wV code f;unfold uV;rw[List.getElem?_map]
  cases h1:seen[v.toNat]? with
  |none=>exact ih _ _
  |some b=>
   cases b with
   |true=>exact ih _ _
   |false=>
    cases h2:code[v.toNat]? with
    |none=>rfl
    |some i=>exact ih _ _
theorem pe (code:List aC) (s:Int):aR (code.map dK) s=aR code s:=by
 unfold aR;rw[List.length_map,wV]
theorem xC {p q:Pg} (h1:q.code=p.code.map dK) (h2:q.af=p.af):aX q↔aX p:=by
 have hl:q.code.length=p.code.length:=by rw[h1];simp
 constructor
 ·intro h;refine⟨by rw[←hl];exact h.cl,by rw[←h2];exact h.sl,fun pc i hi=>?_,fun v hv=>?_,fun r s hs pc i wv wo hi eU=>?_⟩
  ·have:=h.sh pc (dK i) (by rw[h1];exact get_copy hi);rw[hl,h2] at this;exact this
  ·have:=h.st v (by rw[h2];exact hv);rw[hl] at this;exact this
  ·exact h.fo r s (by rw[h2];exact hs) pc (dK i) (by rw[hl];exact wv) (by rw[h1,pe];exact wo) (by rw[h1];exact get_copy hi) eU
 ·intro h;refine⟨by rw[hl];exact h.cl,by rw[h2];exact h.sl,fun pc i hi=>?_,fun v hv=>?_,fun r s hs pc i wv wo hi eU=>?_⟩
  ·rw[h1] at hi;obtain⟨j,hj,rfl⟩:=wW hi;rw[hl,h2];exact h.sh pc j hj
  ·rw[hl];exact h.st v (by rw[←h2];exact hv)
  ·rw[h1] at hi wo;rw[pe] at wo;obtain⟨j,hj,rfl⟩:=wW hi;exact h.fo r s (by rw[←h2];exact hs) pc j (by rw[←hl];exact wv) wo hj eU
end Go.Proofs.YtnleclohocdkaaaGreat
