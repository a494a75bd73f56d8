/-
 Of each node how many instructions its code has, and what stands behind it: both lists are filled in place.
-/
import Derived.Test.YtnleclohocdkaaaVGHr
import Derived.Test.YtnleclohocdkaaaVGJh
set_option maxRecDepth 100000
set_option maxHeartbeats 4000000
set_option linter.unusedSimpArgs false
set_option linter.unusedVariables false
namespace Go.Proofs.Ytnleclohocdkaaa
open Go.V Go
def aJ (fr:Go.V.Fr) (k:Nat):Go.V.D:=Go.V.nth .bh fr.loc k
def mW (es:List Int) (a:Nat) (M:List Int):List Int:=es.take a++M++es.drop (a+M.length)
theorem zB {es M:List Int} {a:Nat} (h:a+M.length≤es.length):(mW es a M).length=es.length:=by
 unfold mW;simp only[List.length_append,List.length_take,List.length_drop];omega
theorem zA {es:List Int} {a:Nat}:mW es a []=es:=by
 unfold mW;simp
theorem Fa {es M:List Int} {a:Nat} {x:Int} (h:a≤es.length):(mW es a (x::M))[a]?=some x:=by
 unfold mW;rw[List.append_assoc,List.getElem?_append_right (by simp only[List.length_take];omega)];simp[Nat.min_eq_left h]
theorem zy {es M M':List Int} {a:Nat} (h:a+M.length+M'.length≤es.length):mW (mW es a M) (a+M.length) M'=mW es a (M++M'):=by
 unfold mW;have h1:(es.take a++M).length=a+M.length:=by simp only[List.length_append,List.length_take];omega
 rw[List.take_append_of_le_length (by omega),List.take_of_length_le (by omega)];rw[←h1,List.drop_append,List.drop_eq_nil_of_le (by omega),List.nil_append,h1,List.drop_drop];simp only[List.append_assoc,List.length_append]
 congr 4
 omega
theorem zz {es M:List Int} {a:Nat} {v:Int} (h:a+1+M.length≤es.length):(mW es (a+1) M).set a v=mW es a (v::M):=by
 unfold mW;have h1:(es.take a).length=a:=by simp only[List.length_take];omega
 rw[List.append_assoc,List.take_add_one,List.getElem?_eq_getElem (by omega)];simp only[Option.toList_some,List.append_assoc,List.cons_append,List.nil_append,List.length_cons];rw[List.set_append_right _ _ (by omega),h1,Nat.sub_self,List.set_cons_zero]
 congr 4
 omega
theorem CJ {l:List cg} {d:D} (hl:l.length≤1048576) (hi:∀n∈l,n.ok) (hd:gU d 7 (l.map aV)):∀(m:Nat) (t:Tr),t.flat.length≤m→t.ok→∀{N:Nat} {S s0:St} {H:List bm} {out:D} {es:List Int} {at_:Nat},fw l at_ t.flat→es.length=l.length→Has N S s0 (.aI out 1 (es.map az)::H)→
  ∃r af,Ev pv 41 [d,out,.int .i64 (at_:Nat)] s0 r af∧r=.int .i64 ((at_+t.flat.length:Nat):Int)∧Has N S af (.aI out 1 ((mW es at_ t.zs).map az)::H):=by
 intro m
 induction m with
 |zero=>intro t h;have:=t.ie;omega
 |succ m ih=>
  rintro⟨n,ks⟩ hm aY N S s0 H out es at_ jK tj hH;simp only[Tr.ok] at aY;obtain⟨nO,l6⟩:=aY;simp only[Tr.flat,List.length_cons] at hm;have hle:=jK.le (by simp[Tr.flat]);simp only[Tr.flat] at jK hle;simp only[List.length_cons] at hle;have hn:=jK.head;have jK:=jK.tail;have Ka:=hi n (List.mem_of_getElem? hn);have iH:=lg hn;have IB:=wo Ka;have IG:=nO.1;have oT:=bj.ku ks;refine Ev.ko rfl O0 rfl rfl rfl ?_;refine zE ?_;have cx:=hH;have hH:=hH.cB;have cw:(ag .rw s0).bs=s0.bs:=rfl;generalize ag .rw s0=S2 at*;have hc:=hd.arg N S2;refine zQ 8 ?_;refine qr fun Rj NA=>?_;refine ab.eB rfl (ev rfl) (by assumption) rfl (by dsimp only[Fr.put,u1,u2]<;>rfl) ?_;refine qa hH fun k7 st Qg hH=>?_;refine ab.lp hH rfl (ev rfl) (ev rfl) (by rfl) (by exact rfl) (by exact aS) (by exact rfl) (by exact .inr (by assumption)) (fun st hH=>?_);dsimp only[u2,u1,u3,u4,setMany,u5,u6,D.cells,Nat.reduceAdd,aV,az] at hH;refine zQ 19 ?_;refine ah.loop (fun mm fr st=>∃(i j ss:Nat) (rest:bj) (oV:List Int),fr.clean=⟨36,[d,out,.int .i64 (at_:Nat),aJ fr 3,aJ fr 4,aJ fr 5,.int .i64 0,.ptr k7 0 0,.int .i64 (j:Nat),.int .i64 ((min ss 401:Nat):Int),aJ fr 10,aJ fr 11,aJ fr 12,aJ fr 13,aJ fr 14,aJ fr 15,aJ fr 16,aJ fr 17,.int .i64 n.kids,.int .i64 (i:Nat),aJ fr 20,aJ fr 21,aJ fr 22,aJ fr 23,aJ fr 24,aJ fr 25,aJ fr 26,aJ fr 27,aJ fr 28,aJ fr 29,aJ fr 30,aJ fr 31,aJ fr 32,aJ fr 33,aJ fr 34,aJ fr 35],[]⟩∧Has N S2 st (.aI out 1 (oV.map az)::.box k7 (.mem 0 false (aV n))::H)∧(mm=rest.len)∧(i+rest.len=ks.len)∧(fw l j rest.flat)∧(rest.ok)∧(ss+rest.sz=ks.sz)∧(oV.length=l.length)∧(mW oV j rest.zs=mW es (at_+1) ks.zs)∧(j+rest.flat.length=at_+1+ks.flat.length)∧(rest.flat.length≤m)) (ks.len) ?_ ?_
  ·exact⟨0,at_+1,0,ks,es,rfl,(by have:=hH.front bZ;exact this),rfl,by omega,jK,l6,by omega,tj,rfl,rfl,by omega⟩
  rintro mm fr st ⟨i,j,ss,rest,oV,hfr,hH,yH,wV,oQ,j0,Ci,yM,uH,hj,Hw⟩;rw[hfr];clear hfr;generalize aJ fr=ee;clear fr;refine zQ 4 ?_
  cases rest with
  |nil=>
   simp only[bj.len] at wV;simp only[bj.sz] at Ci;simp only[bj.flat,List.length_nil] at hj;simp only[bj.zs,zA] at uH;have iz:decide ((i:Int)<n.kids)=false:=by rw[decide_eq_false_iff_not];omega
   refine qq<|qE rfl (by rw[iz]) ?_;refine zQ 1 ?_;obtain rfl:ss=ks.sz:=by omega
   have jK:=oQ;refine zQ 6 ?_;refine ah.merge (fun fr st=>∃(tmp:List (Nat×D)),fr=⟨36,[d,out,.int .i64 (at_:Nat),aJ fr 3,aJ fr 4,aJ fr 5,.int .i64 0,.ptr k7 0 0,.int .i64 (j:Nat),.int .i64 ((bk n (min ks.sz 401) ks.len:Nat):Int),aJ fr 10,aJ fr 11,aJ fr 12,aJ fr 13,aJ fr 14,aJ fr 15,aJ fr 16,aJ fr 17,aJ fr 18,aJ fr 19,aJ fr 20,aJ fr 21,aJ fr 22,aJ fr 23,aJ fr 24,aJ fr 25,aJ fr 26,aJ fr 27,aJ fr 28,aJ fr 29,aJ fr 30,aJ fr 31,aJ fr 32,aJ fr 33,aJ fr 34,aJ fr 35],tmp⟩∧Has N S2 st (.aI out 1 (oV.map az)::.box k7 (.mem 0 false (aV n))::H)) ?_ ?_
   ·refine zQ 7 ?_;generalize hw:min ks.sz 401=w;have ML:w≤401:=by omega
    have ir:ks.len≤9223372036854775→True:=fun _=>trivial
    by_cases q2:n.op=2
    ·have hz:bk n w ks.len=1:=by unfold bk;rw[if_pos (.inl q2)]
     rw[hz];refine qD rfl (by simp[q2]) ?_;refine zQ 1 ?_;refine qD rfl (by simp[q2]) ?_;refine zQ 3 ?_;exact⟨_,rfl,hH⟩
    refine qE rfl (by simp[q2]) ?_;refine zQ 5 ?_
    by_cases q7:n.op=7
    ·have hz:bk n w ks.len=1:=by unfold bk;rw[if_pos (.inr (.inl q7))]
     rw[hz];refine qD rfl (by simp[q7]) ?_;refine zQ 1 ?_;refine qD rfl (by simp[q7]) ?_;refine zQ 3 ?_;exact⟨_,rfl,hH⟩
    refine qE rfl (by simp[q7]) ?_;refine zQ 4 ?_
    by_cases q8:n.op=8
    ·have hz:bk n w ks.len=1:=by unfold bk;rw[if_pos (.inr (.inr q8))]
     rw[hz];refine qD rfl (by simp[q8]) ?_;refine zQ 3 ?_;exact⟨_,rfl,hH⟩
    refine qE rfl (by simp[q8]) ?_
    have hz0:bk n w ks.len=if n.op=4 then w+2*(ks.len-1) else if n.op=6 then w+2 else if n.op=5 then(if n.mx=-1 then n.mn.toNat*w+w+2 else n.mn.toNat*w+(n.mx.toNat-n.mn.toNat)*(w+1)) else w:=by
     unfold bk;rw[if_neg (by omega)]
    rw[hz0];clear hz0;obtain⟨_,i_⟩:=nO;have hq:(n.op=1∧ks.len=0)∨((n.op=3∨n.op=4)∧2≤ks.len)∨(n.op=5∧ks.len=1∧0≤n.mn∧n.mn≤30∧(n.mx=-1∨(n.mn≤n.mx∧n.mx≤30)))∨(n.op=6∧ks.len=1∧1≤n.cap∧n.cap≤4):=by omega
    refine zQ 5 ?_
    by_cases q4:n.op=4
    ·rw[if_pos q4];have hk2:2≤ks.len:=by omega
     refine qD rfl (by simp[q4]) ?_;refine zQ 4 ?_;refine ab.oM (z:=((ks.len-1:Nat):Int)) rfl (ev rfl) (ev rfl) (by(try simp only[List.length_reverse,List.length_cons,List.length_nil,List.length_append,List.length_map,List.length_set]);rw[wrap_i64 (by omega) (by omega)]<;>omega) (aa rfl _) ?_;refine ab.yp (z:=((2*(ks.len-1):Nat):Int)) rfl (ev rfl) (ev rfl) (by(try simp only[List.length_reverse,List.length_cons,List.length_nil,List.length_append,List.length_map,List.length_set]);rw[wrap_i64 (by omega) (by omega)]<;>omega) (aa rfl _) ?_;refine ab.lD (z:=((w+2*(ks.len-1):Nat):Int)) rfl (ev rfl) (ev rfl) (by(try simp only[List.length_reverse,List.length_cons,List.length_nil,List.length_append,List.length_map,List.length_set]);rw[wrap_i64 (by omega) (by omega)]<;>omega) (aa rfl _) ?_;refine zQ 2 ?_;exact⟨_,rfl,hH⟩
    rw[if_neg q4];refine qE rfl (by simp[q4]) ?_;refine zQ 5 ?_
    by_cases q6:n.op=6
    ·rw[if_pos q6];refine qD rfl (by simp[q6]) ?_;refine zQ 5 ?_;exact⟨_,rfl,hH⟩
    rw[if_neg q6];refine qE rfl (by simp[q6]) ?_;refine zQ 5 ?_
    by_cases q5:n.op=5
    ·rw[if_pos q5];refine qD rfl (by simp[q5]) ?_;refine zQ 6 ?_;have Cl:0≤n.mn∧n.mn≤30∧(n.mx=-1∨(n.mn≤n.mx∧n.mx≤30)):=by omega
     obtain⟨a,ha⟩:∃a:Nat,n.mn=(a:Int):=Int.eq_ofNat_of_zero_le Cl.1;have MW:n.mn.toNat=a:=by omega
     have h1:a*w≤30*401:=Nat.mul_le_mul (by omega) ML;have hmul:n.mn*(w:Int)=((a*w:Nat):Int):=by rw[ha];push_cast;rfl
     rw[MW]
     by_cases CV:n.mx=-1
     ·rw[if_pos CV];refine qD rfl (by simp[CV]) ?_;refine zQ 4 ?_;refine ab.yp (z:=((a*w:Nat):Int)) rfl (ev rfl) (ev rfl) (by(try simp only[List.length_reverse,List.length_cons,List.length_nil,List.length_append,List.length_map,List.length_set]);rw[wrap_i64 (by omega) (by omega)]<;>omega) (aa rfl _) ?_;refine qm ?_;refine ab.lD (z:=((a*w+w:Nat):Int)) rfl (ev rfl) (ev rfl) (by(try simp only[List.length_reverse,List.length_cons,List.length_nil,List.length_append,List.length_map,List.length_set]);rw[wrap_i64 (by omega) (by omega)]<;>omega) (aa rfl _) ?_;refine ab.lD (z:=((a*w+w+2:Nat):Int)) rfl (ev rfl) (ev rfl) (by(try simp only[List.length_reverse,List.length_cons,List.length_nil,List.length_append,List.length_map,List.length_set]);rw[wrap_i64 (by omega) (by omega)]<;>omega) (aa rfl _) ?_;refine zQ 2 ?_;exact⟨_,rfl,hH⟩
     ·rw[if_neg CV];obtain⟨b,hb⟩:∃b:Nat,n.mx=(b:Int):=Int.eq_ofNat_of_zero_le (by omega);have JC:n.mx.toNat=b:=by omega
      have h2:(b-a)*(w+1)≤30*402:=Nat.mul_le_mul (by omega) (by omega);rw[JC];refine qE rfl (by simp[CV]) ?_;refine zQ 4 ?_;refine ab.yp (z:=((a*w:Nat):Int)) rfl (ev rfl) (ev rfl) (by(try simp only[List.length_reverse,List.length_cons,List.length_nil,List.length_append,List.length_map,List.length_set]);rw[wrap_i64 (by omega) (by omega)]<;>omega) (aa rfl _) ?_;refine zQ 4 ?_;refine ab.oM (z:=((b-a:Nat):Int)) rfl (ev rfl) (ev rfl) (by(try simp only[List.length_reverse,List.length_cons,List.length_nil,List.length_append,List.length_map,List.length_set]);rw[wrap_i64 (by omega) (by omega)]<;>omega) (aa rfl _) ?_;refine qm ?_;refine ab.lD (z:=((w+1:Nat):Int)) rfl (ev rfl) (ev rfl) (by(try simp only[List.length_reverse,List.length_cons,List.length_nil,List.length_append,List.length_map,List.length_set]);rw[wrap_i64 (by omega) (by omega)]<;>omega) (aa rfl _) ?_;refine ab.yp (z:=(((b-a)*(w+1):Nat):Int)) rfl (ev rfl) (ev rfl) (by(try simp only[List.length_reverse,List.length_cons,List.length_nil,List.length_append,List.length_map,List.length_set]);rw[wrap_i64 (by omega) (by omega)]<;>omega) (aa rfl _) ?_;refine ab.lD (z:=((a*w+(b-a)*(w+1):Nat):Int)) rfl (ev rfl) (ev rfl) (by(try simp only[List.length_reverse,List.length_cons,List.length_nil,List.length_append,List.length_map,List.length_set]);rw[wrap_i64 (by omega) (by omega)]<;>omega) (aa rfl _) ?_;refine zQ 2 ?_;exact⟨_,rfl,hH⟩
    ·rw[if_neg q5];refine qE rfl (by simp[q5]) ?_;refine zQ 1 ?_;exact⟨_,rfl,hH⟩
   ·rintro fr st ⟨tmp,hfr,hH⟩;rw[hfr];clear hfr;generalize aJ fr=ee;clear fr;have kB:=Ge (n:=n) (k:=ks.len) (s:=ks.sz);have iI:at_<oV.length:=by omega
    obtain⟨w,hw⟩:∃w,oV[at_]?=some w:=⟨oV[at_]'iI,List.getElem?_eq_getElem _⟩
    have RY:=fL hw;refine zQ 5 ?_;refine ab.Jk (z:=((min (bk n ks.sz ks.len) 401:Nat):Int)) (t1:=_) (t2:=_) rfl (ev rfl) (ev rfl) (by omega) (aa rfl _) ?_;refine qi hH aS fun Q5 Nj=>?_;refine ab.nz hH rfl (ev rfl) (ev rfl) (by assumption) rfl rfl (by exact aS) (by assumption) (Nat.le_of_ble_eq_true rfl) (by exact .inr rfl) (fun st hH=>?_);dsimp only[u2,u1,u3,u4,setMany,u5,u6,D.cells,Nat.reduceAdd,aV,az] at hH;refine zQ 6 ?_;refine ah.ret ⟨rx,_,_,_,rfl,ai (rfl),?_⟩;have NS:j=at_+(Tr.mk n ks).flat.length:=by simp only[Tr.flat,List.length_cons];omega
    refine⟨by rw[NS];rfl,?_⟩
    have gd:mW es at_ (Tr.zs (.mk n ks))=oV.set at_ ((min (bk n ks.sz ks.len) 401:Nat):Int):=by
     rw[uH,zz (by rw[bj.iO];omega)];rfl
    rw[gd,List.map_set];exact cx.wF cw (hH.erase 1)
  |cons t ts=>
   simp only[bj.len] at wV yH;simp only[bj.sz] at Ci;simp only[bj.flat,List.length_append] at hj oQ Hw;simp only[bj.zs] at uH;simp only[bj.ok] at j0;have iz:decide ((i:Int)<n.kids)=true:=by rw[decide_eq_true_eq];omega
   have MS:=t.ie;have Hm:=t.iO;have Jv:=ts.iO;have HR:(mW oV j t.zs).length=l.length:=by rw[zB (by omega)];exact yM
   have Rx:(mW oV j t.zs)[j]?=some ((min t.sz 401:Nat):Int):=by
    obtain⟨n',Js⟩:=t;simp only[Tr.zs,Tr.sz];exact Fa (by omega)
   have UU:=fL Rx;refine qq<|qD rfl (by rw[iz]) ?_;refine zQ 13 ?_;obtain⟨_,st,aG,rfl,hH⟩:=ih t (by omega) j0.1 oQ.left yM hH;refine qv aG ?_;refine zQ 6 ?_;refine qi hH aS fun Rc Nu=>?_;refine zQ 1 ?_;refine ab.lD (z:=((min ss 401+min t.sz 401:Nat):Int)) rfl (ev rfl) (ev rfl) (by(try simp only[List.length_reverse,List.length_cons,List.length_nil,List.length_append,List.length_map,List.length_set]);rw[wrap_i64 (by omega) (by omega)]<;>omega) (by dsimp only[Fr.put,u1,u2]<;>rfl) ?_;refine ab.Jk (z:=((min (ss+t.sz) 401:Nat):Int)) (t1:=_) (t2:=_) rfl (ev rfl) (ev rfl) (by omega) (by dsimp only[Fr.put,u1,u2]<;>rfl) ?_;refine zQ 6 ?_;exact⟨mm-1,by omega,⟨i+1,j+t.flat.length,ss+t.sz,ts,mW oV j t.zs,rfl,hH,by omega,by omega,oQ.right,j0.2,by omega,HR,by rw[←uH];have:=zy (es:=oV) (a:=j) (M:=t.zs) (M':=ts.zs) (by omega);rw[Hm] at this;exact this,by omega,by omega⟩⟩
theorem F7 {l:List cg} {d:D} (hl:l.length≤1048576) (hi:∀n∈l,n.ok) (hd:gU d 7 (l.map aV)):∀(m:Nat) (t:Tr),t.flat.length≤m→t.ok→∀{N:Nat} {S s0:St} {H:List bm} {out:D} {es:List Int} {at_:Nat},fw l at_ t.flat→es.length=l.length→Has N S s0 (.aI out 1 (es.map az)::H)→
  ∃r af,Ev pv 42 [d,out,.int .i64 (at_:Nat)] s0 r af∧r=.int .i64 ((at_+t.flat.length:Nat):Int)∧Has N S af (.aI out 1 ((mW es at_ (t.es at_)).map az)::H):=by
 intro m
 induction m with
 |zero=>intro t h;have:=t.ie;omega
 |succ m ih=>
  rintro⟨n,ks⟩ hm aY N S s0 H out es at_ jK tj hH;simp only[Tr.ok] at aY;obtain⟨nO,l6⟩:=aY;simp only[Tr.flat,List.length_cons] at hm;have hle:=jK.le (by simp[Tr.flat]);simp only[Tr.flat] at jK hle;simp only[List.length_cons] at hle;have hn:=jK.head;have jK:=jK.tail;have Ka:=hi n (List.mem_of_getElem? hn);have iH:=lg hn;have IG:=nO.1;have oT:=bj.ku ks;refine Ev.ko rfl OZ rfl rfl rfl ?_;refine zE ?_;have cx:=hH;have hH:=hH.cB;have cw:(ag .rw s0).bs=s0.bs:=rfl;generalize ag .rw s0=S2 at*;have hc:=hd.arg N S2;refine zQ 15 ?_;refine qr fun PY J8=>?_;refine qf (fo:=6) fun Rj NA=>?_;refine zQ 4 ?_;refine ah.loop (fun mm fr st=>∃(i j:Nat) (rest:bj) (oV:List Int),fr.clean=⟨16,[d,out,.int .i64 (at_:Nat),aJ fr 3,aJ fr 4,aJ fr 5,.int .i64 0,.int .i64 (j:Nat),aJ fr 8,aJ fr 9,aJ fr 10,aJ fr 11,aJ fr 12,aJ fr 13,.int .i64 n.kids,.int .i64 (i:Nat)],[]⟩∧Has N S2 st (.aI out 1 (oV.map az)::H)∧(mm=rest.len)∧(i+rest.len=ks.len)∧(fw l j rest.flat)∧(rest.ok)∧(oV.length=l.length)∧(mW oV j (rest.es j)=mW es (at_+1) (ks.es (at_+1)))∧(j+rest.flat.length=at_+1+ks.flat.length)∧(rest.flat.length≤m)) (ks.len) ?_ ?_
  ·exact⟨0,at_+1,ks,es,rfl,hH,rfl,by omega,jK,l6,tj,rfl,rfl,by omega⟩
  rintro mm fr st ⟨i,j,rest,oV,hfr,hH,yH,wV,oQ,j0,yM,uH,hj,Hw⟩;rw[hfr];clear hfr;generalize aJ fr=ee;clear fr;refine zQ 4 ?_
  cases rest with
  |nil=>
   simp only[bj.len] at wV;simp only[bj.flat,List.length_nil] at hj;simp only[bj.es,zA] at uH;have iz:decide ((i:Int)<n.kids)=false:=by rw[decide_eq_false_iff_not];omega
   have iI:at_<oV.length:=by omega
   obtain⟨w,hw⟩:∃w,oV[at_]?=some w:=⟨oV[at_]'iI,List.getElem?_eq_getElem _⟩
   have RY:=fL hw;refine qq<|qE rfl (by rw[iz]) ?_;refine zQ 6 ?_;refine qi hH aS fun Jd DM=>?_;refine ab.nz hH rfl (ev rfl) (ev rfl) (by assumption) rfl rfl (by exact aS) (by assumption) (Nat.le_of_ble_eq_true rfl) (by exact .inr rfl) (fun st hH=>?_);dsimp only[u2,u1,u3,u4,setMany,u5,u6,D.cells,Nat.reduceAdd,aV,az] at hH;refine zQ 6 ?_;refine ah.ret ⟨rx,_,_,_,rfl,ai (rfl),?_⟩;have NS:j=at_+(Tr.mk n ks).flat.length:=by simp only[Tr.flat,List.length_cons];omega
   refine⟨by rw[NS];rfl,?_⟩
   have gd:mW es at_ (Tr.es (.mk n ks) at_)=oV.set at_ ((j:Nat):Int):=by
    rw[uH,zz (by rw[bj.iV];omega)];have:j=at_+1+ks.flat.length:=by omega
    rw[this];rfl
   rw[gd,List.map_set];exact cx.wF cw hH
  |cons t ts=>
   simp only[bj.len] at wV yH;simp only[bj.flat,List.length_append] at hj oQ Hw;simp only[bj.es] at uH;simp only[bj.ok] at j0;have iz:decide ((i:Int)<n.kids)=true:=by rw[decide_eq_true_eq];omega
   have MS:=t.ie;have Hm:=t.iV j;have Jv:=ts.iV (j+t.flat.length);have HR:(mW oV j (t.es j)).length=l.length:=by rw[zB (by omega)];exact yM
   refine qq<|qD rfl (by rw[iz]) ?_;refine zQ 7 ?_;obtain⟨_,st,aG,rfl,hH⟩:=ih t (by omega) j0.1 oQ.left yM hH;refine qv aG ?_;refine zQ 6 ?_;exact⟨mm-1,by omega,⟨i+1,j+t.flat.length,ts,mW oV j (t.es j),rfl,hH,by omega,by omega,oQ.right,j0.2,HR,by rw[←uH];have:=zy (es:=oV) (a:=j) (M:=t.es j) (M':=ts.es (j+t.flat.length)) (by omega);rw[Hm] at this;exact this,by omega,by omega⟩⟩
theorem gg {N k:Nat} {S s0:St} {H:List bm} {ks:Nat→Prop} {cd nd zd ed w:D} {code:List aC} {op x y:Int} {rs:List Rg} (hF:S.flr≤N) (hl:code.length≤1048576) (hH:Has N S s0 (.aI w 2 (rs.map au)::.box k (.mem 0 false [cd,nd,zd,ed])::.deep ks cd 4 (code.map aK)::H)):
  ∃r af,Ev pv 43 [.ptr k 0 0,.agg [.int .i64 op,.int .i64 x,.int .i64 y,w]] s0 r af∧r=.int .i64 (code.length:Nat)∧∃QG Js,Has N S af (.box k (.mem 0 false [QG,nd,zd,ed])::.deep Js QG 4 ((code++[bX op x y rs]).map aK)::H):=by
 refine Ev.ko rfl OY rfl rfl rfl ?_;refine zE ?_;change ah _ _ _ _ s0 _;refine zQ 2 ?_;refine qb hH fun k3 st NP hH=>?_;refine zQ 9 ?_;refine ab.bN (m:=4) hH rfl (ev rfl) (by exact aS) (by dsimp only[List.drop_succ_cons,List.drop_zero,List.take_succ_cons,List.take_zero,aK]<;>rfl) rfl rfl (aa rfl _) ?_;refine qh (s:=4) (vs:=[_]) hH fun k11 st Kr hH=>?_;obtain⟨hH,N8⟩:=hH.EF (i:=2) (j:=4) (by decide) cU eJ (ec _);dsimp only[u1,u2] at hH;refine ab.pf hH rfl (ev rfl) (ev rfl) eJ (hH.rows aS) (.cons (.cons (.plain _ rfl) (.cons (.plain _ rfl) (.cons (.plain _ rfl) (.cons N8 .nil)))) .nil) rfl rfl rfl rfl rfl rfl rfl ⟨(Nat.le_of_ble_eq_true rfl),(Nat.le_of_ble_eq_true rfl)⟩ (fun _=>(aa rfl _)) (by simp only[List.length_map,List.length_cons,List.length_nil];omega) (.inl hF) (fun Uj st hH=>?_);dsimp only[u1,u2] at hH;refine zQ 2 ?_;refine ab.ra hH rfl (ev rfl) (ev rfl) (by exact hH.nS (by exact eJ)) (by exact rfl) (by exact dI) (by exact Nat.le_of_ble_eq_true rfl) (by exact .inl hF) (fun st hH=>?_);dsimp only[u2,u1,u3,u4,setMany,u5,u6,D.cells,Nat.reduceAdd,aK] at hH;refine zQ 7 ?_;refine ab.BW hH rfl (ev rfl) (by exact eJ) rfl (aa rfl _) ?_;simp only[List.length_map,List.length_append,List.length_cons,List.length_nil];refine ab.oM (z:=((code.length:Nat):Int)) rfl (ev rfl) (ev rfl) (by(try simp only[List.length_reverse,List.length_cons,List.length_nil,List.length_append,List.length_map,List.length_set]);rw[wrap_i64 (by omega) (by omega)]<;>omega) (aa rfl _) ?_;refine zQ 2 ?_;refine ah.ret ⟨rx,_,_,_,rfl,rfl,?_⟩;exact⟨rfl,_,_,by rw[List.map_append];exact hH.drop 3⟩
theorem pz {N k:Nat} {S s0:St} {H:List bm} {ks:Nat→Prop} {cd nd zd ed:D} {code:List aC} {at_ over:Nat} {lz:Bool} {x y:Int} (iI:code[at_]?=some (bX 2 x y [])) (hl:code.length≤1048576) (hH:Has N S s0 (.box k (.mem 0 false [cd,nd,zd,ed])::.deep ks cd 4 (code.map aK)::H)):
  ∃r af,Ev pv 101 [.ptr k 0 0,.int .i64 (at_:Nat),.int .i64 (over:Nat),.bool lz] s0 r af∧r=.tup []∧Has N S af (.box k (.mem 0 false [cd,nd,zd,ed])::.deep ks cd 4 ((code.set at_ (kS at_ over lz)).map aK)::H):=by
 have hlt:=aR iI;have iH:(code.map aK)[at_]?=some [.int .i64 2,.int .i64 x,.int .i64 y,.sl []]:=iF iI;have gd:∀a b:List D,(code.map aK).set at_ a=(code.map aK).set at_ a:=fun _ _=>rfl;refine Ev.ko rfl Lc rfl rfl rfl ?_;refine zE ?_;have cx:=hH;have hH:=hH.cB;have cw:(ag .rw s0).bs=s0.bs:=rfl;generalize ag .rw s0=S2 at*;refine zQ 13 ?_;refine ab.lD (z:=((at_+1:Nat):Int)) rfl (ev rfl) (ev rfl) (by(try simp only[List.length_reverse,List.length_cons,List.length_nil,List.length_append,List.length_map,List.length_set]);rw[wrap_i64 (by omega) (by omega)]<;>omega) (aa rfl _) ?_;refine qm ?_;refine ab.Eg (s:=4) hH rfl (ev rfl) (ev rfl) (by exact bZ) rfl rfl (by exact aR (by assumption)) (fun _=>(aa rfl _)) (fun Mb HB=>?_);refine ab.dz (fo:=1) (m:=0) (o2:=1) rfl (ev rfl) (by assumption) rfl rfl rfl (fun _=>(aa rfl _)) (fun Ma HA=>?_);refine ab.rC hH rfl (ev rfl) (ev rfl) (by assumption) rfl rfl (by exact bZ) (by assumption) (Nat.le_of_ble_eq_true rfl) (by intro d hd;simp only[List.mem_cons,List.not_mem_nil,or_false] at hd;subst hd;rfl) (by exact .inr rfl) (fun st hH=>?_);dsimp only[u2,u1,u3,u4,setMany,u5,u6,D.cells,Nat.reduceAdd,aK] at hH;refine ab.Eg (s:=4) hH rfl (ev rfl) (ev rfl) (by exact bZ) rfl rfl (by simp only[List.length_map,List.length_set]<;>omega) (fun _=>(aa rfl _)) (fun PW JU=>?_);refine ab.dz (fo:=2) (m:=0) (o2:=2) rfl (ev rfl) (by assumption) rfl rfl rfl (fun _=>(aa rfl _)) (fun Je DN=>?_);refine ab.rC hH rfl (ev rfl) (ev rfl) (by assumption) rfl rfl (by exact bZ) (List.getElem?_set_self (by simp only[List.length_set,List.length_map];omega)) (Nat.le_of_ble_eq_true rfl) (by intro d hd;simp only[List.mem_cons,List.not_mem_nil,or_false] at hd;subst hd;rfl) (by exact .inr rfl) (fun st hH=>?_);dsimp only[u1,u2,setMany] at hH;rw[List.set_set] at hH;refine zQ 5 ?_
 cases lz with
 |false=>
  refine zQ 2 ?_;refine⟨fun i h=>(by cases h),_,_,_,rfl,ai rfl,?_⟩;exact⟨rfl,by rw[List.map_set];exact cx.wG cw hH⟩
 |true=>
  refine zQ 14 ?_;refine ab.lD (z:=((at_+1:Nat):Int)) rfl (ev rfl) (ev rfl) (by(try simp only[List.length_reverse,List.length_cons,List.length_nil,List.length_append,List.length_map,List.length_set]);rw[wrap_i64 (by omega) (by omega)]<;>omega) (aa rfl _) ?_;refine ab.Eg (s:=4) hH rfl (ev rfl) (ev rfl) (by exact bZ) rfl rfl (by simp only[List.length_map,List.length_set]<;>omega) (fun _=>(aa rfl _)) (fun Ra Nr=>?_);refine ab.dz (fo:=1) (m:=0) (o2:=1) rfl (ev rfl) (by assumption) rfl rfl rfl (fun _=>(aa rfl _)) (fun Q_ Nq=>?_);refine ab.rC hH rfl (ev rfl) (ev rfl) (by assumption) rfl rfl (by exact bZ) (List.getElem?_set_self (by simp only[List.length_set,List.length_map];omega)) (Nat.le_of_ble_eq_true rfl) (by intro d hd;simp only[List.mem_cons,List.not_mem_nil,or_false] at hd;subst hd;rfl) (by exact .inr rfl) (fun st hH=>?_);dsimp only[u1,u2,setMany] at hH;rw[List.set_set] at hH;refine ab.Eg (s:=4) hH rfl (ev rfl) (ev rfl) (by exact bZ) rfl rfl (by simp only[List.length_map,List.length_set]<;>omega) (fun _=>(aa rfl _)) (fun UJ Sr=>?_);refine ab.dz (fo:=2) (m:=0) (o2:=2) rfl (ev rfl) (by assumption) rfl rfl rfl (fun _=>(aa rfl _)) (fun UI Sq=>?_);refine ab.rC hH rfl (ev rfl) (ev rfl) (by assumption) rfl rfl (by exact bZ) (List.getElem?_set_self (by simp only[List.length_set,List.length_map];omega)) (Nat.le_of_ble_eq_true rfl) (by intro d hd;simp only[List.mem_cons,List.not_mem_nil,or_false] at hd;subst hd;rfl) (by exact .inr rfl) (fun st hH=>?_);dsimp only[u1,u2,setMany] at hH;rw[List.set_set] at hH;refine zQ 1 ?_;refine⟨fun i h=>(by cases h),_,_,_,rfl,ai rfl,?_⟩;exact⟨rfl,by rw[List.map_set];exact cx.wG cw hH⟩
def aq (fr:Go.V.Fr) (k:Nat):Go.V.D:=Go.V.nth .bh fr.loc k
def km (n:Nat):List D:=[.int .i64 (n:Nat)]
theorem wy {l:List Nat} {i q:Nat} (h:l[i]?=some q):(l.map km)[i]?=some (km q):=by rw[List.getElem?_map,h];rfl
def IV (N:Nat) (S st:St) (k:Nat) (nd zd ed:D) (Z E:List Int) (H:List bm) (code:List aC):Prop:=
 ∃cd ks,Has N S st (.box k (.mem 0 false [cd,nd,zd,ed])::.deep ks cd 4 (code.map aK)::.aI zd 1 (Z.map az)::.aI ed 1 (E.map az)::H)
def rM (l:List cg) (t:Tr):Prop:=∀{N k:Nat} {S s0:St} {H:List bm} {nd zd ed:D} {code:List aC} {Z E:List Int} {at_:Nat},S.flr≤N→gU nd 7 (l.map aV)→fw l at_ t.flat→fw Z at_ t.zs→fw E at_ (t.es at_)→t.ok→code.length+t.sz≤1000000→IV N S s0 k nd zd ed Z E H code→
 ∃r af,Ev pv 44 [.ptr k 0 0,.int .i64 (at_:Nat)] s0 r af∧r=.tup []∧IV N S af k nd zd ed Z E H (code++aF t code.length)
theorem Ay {E:List Int} {t:Tr} {a:Nat} (h:fw E a (t.es a)):E[a]?=some ((a+t.flat.length:Nat):Int):=by
 obtain⟨n,ks⟩:=t;simp only[Tr.es] at h;rw[h.head];simp only[Tr.flat,List.length_cons]
 congr 2;omega
theorem zq {Z:List Int} {t:Tr} {a:Nat} (h:fw Z a t.zs):Z[a]?=some ((min t.sz 401:Nat):Int):=by
 obtain⟨n,ks⟩:=t;simp only[Tr.zs] at h;rw[h.head];rfl
theorem Il {l:List cg} (vg:l.length≤1048576) {m:Nat} (ih:∀t:Tr,t.flat.length≤m→rM l t) {n:cg} {ks:bj} (fM:n.op=4) (Qf:ks.flat.length≤m) (nO:wu n ks.len) (l6:ks.ok) {N k:Nat} {S s0:St} {H:List bm} {nd zd ed:D} {code:List aC} {Z E:List Int} {at_:Nat} (hF:S.flr≤N) (yG:gU nd 7 (l.map aV)) (jT:fw l at_ (n::ks.flat)) (hsz:fw Z (at_+1) ks.zs) (ve:fw E (at_+1) (ks.es (at_+1))) (hb:code.length+bk n ks.sz ks.len≤1000000) (hM:IV N S s0 k nd zd ed Z E H code):
  ∃r af,Ev pv 75 [.ptr k 0 0,.int .i64 (at_:Nat)] s0 r af∧r=.tup []∧IV N S af k nd zd ed Z E H (code++du (jk (code.length+bk n ks.sz ks.len)) ks code.length):=by
 obtain⟨cd,dk,hH⟩:=hM;have hle:=jT.le (by simp);simp only[List.length_cons] at hle;have hn:=jT.head;have jT:=jT.tail;have iH:=lg hn;have IG:=nO.1;have ir:=bj.ku ks
 have hk2:2≤ks.len:=by
  obtain⟨_,hq⟩:=nO;omega
 have FV:bk n ks.sz ks.len=ks.sz+2*(ks.len-1):=by unfold bk;rw[if_neg (by omega),if_pos fM]
 rw[FV] at hb⊢;clear FV;refine Ev.ko rfl OK rfl rfl rfl ?_;refine zE ?_;change ah _ _ _ _ s0 _;have hc:=yG.arg N S;refine zQ 18 ?_;refine qr fun Rh Ny=>?_;refine qf (fo:=6) fun PX JV=>?_;refine zQ 3 ?_;have hH:Has N S s0 (.box k (.mem 0 false [cd,nd,zd,ed])::.deep dk cd 4 (code.map aK)::.aI zd 1 (Z.map az)::.aI ed 1 (E.map az)::.aI .nul 1 (([]:List Nat).map km)::H):=(hH.e_ 1).Fh;refine zQ 1 ?_;refine ah.loop (fun mm fr st=>∃(i j:Nat) (rest:bj) (cd jd:D) (dk:Nat→Prop) (aP:List aC) (js:List Nat),fr.clean=⟨68,[.ptr k 0 0,.int .i64 (at_:Nat),aq fr 2,aq fr 3,jd,.int .i64 (j:Nat),aq fr 6,aq fr 7,aq fr 8,aq fr 9,aq fr 10,aq fr 11,aq fr 12,aq fr 13,aq fr 14,aq fr 15,aq fr 16,aq fr 17,aq fr 18,.int .i64 n.kids,.int .i64 (i:Nat),aq fr 21,aq fr 22,aq fr 23,aq fr 24,aq fr 25,aq fr 26,aq fr 27,aq fr 28,aq fr 29,aq fr 30,aq fr 31,aq fr 32,aq fr 33,aq fr 34,aq fr 35,aq fr 36,aq fr 37,aq fr 38,aq fr 39,aq fr 40,aq fr 41,aq fr 42,aq fr 43,aq fr 44,aq fr 45,aq fr 46,aq fr 47,aq fr 48,aq fr 49,aq fr 50,aq fr 51,aq fr 52,aq fr 53,aq fr 54,aq fr 55,aq fr 56,aq fr 57,aq fr 58,aq fr 59,aq fr 60,aq fr 61,aq fr 62,aq fr 63,aq fr 64,aq fr 65,aq fr 66,aq fr 67],[]⟩∧Has N S st (.box k (.mem 0 false [cd,nd,zd,ed])::.deep dk cd 4 (aP.map aK)::.aI zd 1 (Z.map az)::.aI ed 1 (E.map az)::.aI jd 1 (js.map km)::H)∧(mm=rest.len)∧(i+rest.len=ks.len)∧(0<rest.len)∧(fw l j rest.flat)∧(fw Z j rest.zs)∧(fw E j (rest.es j))∧(rest.ok)∧(aP++du (jk 0) rest aP.length=code++du (jk 0) ks code.length)∧(js++rK rest aP.length=rK ks code.length)∧(aP.length+(rest.sz+2*(rest.len-1))=code.length+(ks.sz+2*(ks.len-1)))∧(rest.flat.length≤m)∧(js.length≤i)) (ks.len) ?_ ?_
 ·exact⟨0,at_+1,ks,cd,.nul,dk,code,[],rfl,hH,rfl,by omega,by omega,jT,hsz,ve,l6,rfl,rfl,rfl,Qf,by simp⟩
 rintro mm fr st ⟨i,j,rest,cd,jd,dk,aP,js,hfr,hH,yH,wV,Ly,oQ,wL,oP,j0,ic,hjs,hcl,Hw,jU⟩;rw[hfr];clear hfr;generalize aq fr=ee;clear fr;refine zQ 4 ?_
 cases rest with
 |nil=>simp[bj.len] at Ly
 |cons t ts=>
  simp only[bj.len] at wV yH hcl;simp only[bj.sz] at hcl;simp only[bj.flat,List.length_append] at oQ Hw;simp only[bj.zs] at wL;simp only[bj.es] at oP;simp only[bj.ok] at j0;have Hm:=t.iO;have JB:=t.iV j;have Bv:=bp t (aP.length+1) j0.1;have Na:=fL (Ay oP.left);have iz:decide ((i:Int)<n.kids)=true:=by rw[decide_eq_true_eq];omega
  refine qq<|qD rfl (by rw[iz]) ?_;refine zQ 17 ?_;refine qr fun Rc Nu=>?_;refine qf (fo:=6) fun PV JT=>?_;refine qR ?_;refine ab.oM (z:=((ks.len-1:Nat):Int)) rfl (ev rfl) (ev rfl) (by(try simp only[List.length_reverse,List.length_cons,List.length_nil,List.length_append,List.length_map,List.length_set]);rw[wrap_i64 (by omega) (by omega)]<;>omega) (by dsimp only[Fr.put,u1,u2]<;>rfl) ?_;refine zQ 2 ?_
  by_cases Am:ts.len=0
  ·simp only[du,rK,if_pos Am,List.append_nil] at ic hjs;have RI:=bj.len_nil Am;subst RI;simp only[bj.sz,bj.len] at hcl wV;have HU:(((i:Nat):Int)==((ks.len-1:Nat):Int))=true:=by rw[beq_iff_eq];omega
   refine qD rfl (by rw[HU]) ?_;refine zQ 4 ?_;obtain⟨_,st,aG,rfl,cd,dk,hH⟩:=ih t (by omega) hF yG oQ.left wL.left oP.left j0.1 (by omega) ⟨cd,dk,hH⟩;refine qv aG ?_;refine zQ 5 ?_;refine qn ?_ (hR:=hH.rows eJ);simp only[List.length_map];refine zQ 2 ?_;rw[ic] at hH;have hal:=mS (jk 0) ks code.length l6;obtain⟨BA,DO⟩:=n9 (jp:=jk (code.length+(ks.sz+2*(ks.len-1)))) (i0:=jk 0) ks code.length code [] l6 rfl;simp only[List.append_nil] at BA DO;have IU:(code++du (jk 0) ks code.length).length=code.length+(ks.sz+2*(ks.len-1)):=by rw[List.length_append,hal]
   rw[←hjs] at BA DO;rw[←BA];clear BA ic;generalize code++du (jk 0) ks code.length=C0 at*;generalize code.length+(ks.sz+2*(ks.len-1))=e at*;refine zQ 1 ?_;refine ah.loop (fun mm fr st=>∃(q:Nat) (C:List aC),fr.clean=⟨68,[.ptr k 0 0,aq fr 1,aq fr 2,aq fr 3,aq fr 4,aq fr 5,aq fr 6,aq fr 7,aq fr 8,aq fr 9,aq fr 10,aq fr 11,aq fr 12,aq fr 13,aq fr 14,aq fr 15,aq fr 16,aq fr 17,aq fr 18,aq fr 19,aq fr 20,aq fr 21,aq fr 22,aq fr 23,aq fr 24,aq fr 25,aq fr 26,aq fr 27,aq fr 28,aq fr 29,aq fr 30,aq fr 31,aq fr 32,aq fr 33,aq fr 34,aq fr 35,aq fr 36,aq fr 37,aq fr 38,aq fr 39,aq fr 40,aq fr 41,aq fr 42,aq fr 43,aq fr 44,aq fr 45,aq fr 46,aq fr 47,aq fr 48,aq fr 49,aq fr 50,aq fr 51,aq fr 52,aq fr 53,aq fr 54,aq fr 55,aq fr 56,aq fr 57,aq fr 58,aq fr 59,aq fr 60,aq fr 61,aq fr 62,aq fr 63,aq fr 64,jd,.int .i64 (js.length:Nat),.int .i64 (q:Nat)],[]⟩∧Has N S st (.box k (.mem 0 false [cd,nd,zd,ed])::.deep dk cd 4 (C.map aK)::.aI zd 1 (Z.map az)::.aI ed 1 (E.map az)::.aI jd 1 (js.map km)::H)∧(q+mm=js.length)∧(gZ (fun _=>jk e) C (js.drop q)=gZ (fun _=>jk e) C0 js)∧(∀p∈js,∃v:Int,C[p]?=some (bX 3 v 0 []))∧(C.length=e)) (js.length) ?_ ?_
   ·exact⟨0,C0,rfl,hH,by omega,rfl,fun p hp=>⟨_,DO p hp⟩,IU⟩
   rintro mm fr st ⟨q,C,hfr,hH,hq,iy,eS,IQ⟩;rw[hfr];clear hfr;generalize aq fr=ee;clear fr;refine zQ 5 ?_;refine zP (fun hlt=>?_) fun hlt=>?_
   ·refine zQ 1 ?_;have Gx:q<js.length:=by omega
    obtain⟨p,hp⟩:∃p,js[q]?=some p:=⟨js[q]'Gx,List.getElem?_eq_getElem _⟩
    obtain⟨v,hv⟩:=eS p (List.mem_of_getElem? hp);have iH:=wy hp;have oS:=iF hv;have gR:=aR hv;refine zQ 4 ?_;refine qi hH eJ fun Uv Sb=>?_;refine zQ 13 ?_;refine ab.BW hH rfl (ev rfl) (by exact bZ) rfl (aa rfl _) ?_;simp only[List.length_map];refine ab.Eg (s:=4) hH rfl (ev rfl) (ev rfl) (by exact bZ) rfl rfl (by exact aR (by assumption)) (fun _=>(aa rfl _)) (fun Q5 Nj=>?_);refine ab.dz (fo:=1) (m:=0) (o2:=1) rfl (ev rfl) (by assumption) rfl rfl rfl (fun _=>(aa rfl _)) (fun Us R9=>?_);refine ab.rC hH rfl (ev rfl) (ev rfl) (by assumption) rfl rfl (by exact bZ) (by assumption) (Nat.le_of_ble_eq_true rfl) (by intro d hd;simp only[List.mem_cons,List.not_mem_nil,or_false] at hd;subst hd;rfl) (by exact .inl hF) (fun st hH=>?_);dsimp only[u2,u1,u3,u4,setMany,u5,u6,D.cells,Nat.reduceAdd,aK,aV,az,km] at hH;refine zQ 5 ?_
    have sa:js.drop q=p::js.drop (q+1):=by
     rw[List.drop_eq_getElem_cons Gx]
     congr 1
     exact Option.some.inj ((List.getElem?_eq_getElem _).symm.trans hp)
    refine⟨mm-1,by omega,⟨q+1,C.set p (jk e),rfl,(by rw[List.map_set,←IQ];exact hH),by omega,by rw[sa] at iy;exact iy,?_,by rw[List.length_set];exact IQ⟩⟩;intro p' uI
    by_cases hpp:p'=p
    ·subst hpp;exact⟨_,List.getElem?_set_self gR⟩
    ·rw[List.getElem?_set_ne (fun e=>hpp e.symm)];exact eS p' uI
   ·refine zQ 1 ?_;refine⟨fun i h=>(by cases h),_,_,_,rfl,rfl,?_⟩;have yE:q=js.length:=by omega
    rw[yE,List.drop_length] at iy;have iy:C=gZ (fun _=>jk e) C0 js:=iy;rw[←iy];exact⟨rfl,cd,dk,hH.erase 4⟩
  ·simp only[du,rK,if_neg Am] at ic hjs;have HU:(((i:Nat):Int)==((ks.len-1:Nat):Int))=false:=by rw[beq_eq_false_iff_ne];omega
   refine qE rfl (by rw[HU]) ?_;refine zQ 4 ?_;refine ab.go (d:=.agg [.int .i64 2,.int .i64 0,.int .i64 0,.nul]) (st1:=_) rfl rfl rfl (by dsimp only[Fr.put,u1,u2]<;>rfl) ?_;have hH:=hH.e_ 2;obtain⟨_,st,aG,rfl,cd,dk,hH⟩:=gg (rs:=[]) hF (by omega) hH;refine qv aG ?_;refine zQ 2 ?_;have lV:(aP++[bX 2 0 0 []]).length=aP.length+1:=by simp
   refine zQ 4 ?_;obtain⟨_,st,aG,rfl,cd,dk,hH⟩:=ih t (by omega) hF yG oQ.left wL.left oP.left j0.1 (by omega) ⟨cd,dk,hH⟩;refine qv aG ?_;refine zQ 1 ?_;rw[lV] at hH;have mA:(aP++[bX 2 0 0 []]++aF t (aP.length+1)).length=aP.length+1+t.sz:=by rw[List.length_append,lV,Bv]
   refine zQ 4 ?_;refine ab.go (d:=.agg [.int .i64 3,.int .i64 0,.int .i64 0,.nul]) (st1:=_) rfl rfl rfl (by dsimp only[Fr.put,u1,u2]<;>rfl) ?_;have hH:=hH.e_ 2;obtain⟨_,st,aG,rfl,cd,dk,hH⟩:=gg (rs:=[]) hF (by omega) hH;refine qv aG ?_;refine qh (s:=1) (vs:=[_]) hH fun k47 st S0 hH=>?_;refine qP hH gk (hH.rows aS) fun LU st hH=>?_;dsimp only[u2,u1,u3,u4,setMany,u5,u6,D.cells,Nat.reduceAdd,aK,aV,az,km] at hH;refine zQ 2 ?_;have hH:=hH.drop 1
   have HY:(aP++[bX 2 0 0 []]++aF t (aP.length+1)++[bX 3 0 0 []])[aP.length]?=some (bX 2 0 0 []):=by
    rw[List.append_assoc,List.append_assoc];exact pe _ _ _
   have BI:(aP++[bX 2 0 0 []]++aF t (aP.length+1)++[bX 3 0 0 []]).length=aP.length+1+t.sz+1:=by rw[List.length_append,mA];rfl
   have FN:(aP++[bX 2 0 0 []]++aF t (aP.length+1)++[bX 3 0 0 []]).set aP.length (kS aP.length (aP.length+1+t.sz+1) false)=aP++(kS aP.length (aP.length+1+t.sz+1) false::(aF t (aP.length+1)++[jk 0])):=by
    rw[List.append_assoc,List.append_assoc];exact o5 _ _ _ _
   have HT:(aP++(kS aP.length (aP.length+1+t.sz+1) false::(aF t (aP.length+1)++[jk 0]))).length=aP.length+t.sz+2:=by rw[←FN,List.length_set,BI];omega
   generalize aP++[bX 2 0 0 []]++aF t (aP.length+1)++[bX 3 0 0 []]=Ej at*;refine zQ 8 ?_;refine ab.BW hH rfl (ev rfl) (by exact bZ) rfl (by dsimp only[Fr.put,u1,u2]<;>rfl) ?_;simp only[List.length_map,List.length_append,List.length_cons,List.length_nil];obtain⟨_,st,aG,rfl,hH⟩:=pz (at_:=aP.length) (over:=Ej.length) (lz:=false) HY (by omega) hH;refine qv aG ?_;refine zQ 1 ?_;rw[BI,FN] at hH;refine zQ 6 ?_;refine qi hH dI fun Uz Sf=>?_;refine zQ 7 ?_;exact⟨mm-1,by omega,⟨i+1,j+t.flat.length,ts,cd,LU,dk,aP++(kS aP.length (aP.length+1+t.sz+1) false::(aF t (aP.length+1)++[jk 0])),js++[aP.length+1+t.sz],rfl,(by rw[List.map_append (f:=km)];rw[mA] at hH;exact hH),by omega,by omega,by omega,oQ.right,by rw[←Hm];exact wL.right,by rw[←JB];rw[←JB] at oP;exact oP.right,j0.2,by rw[HT,←ic];simp only[List.append_assoc,List.cons_append,List.nil_append],by rw[HT,←hjs];simp only[List.append_assoc,List.cons_append,List.nil_append],by rw[HT];omega,by omega,by rw[List.length_append];simp only[List.length_cons,List.length_nil];omega⟩⟩
def ae (fr:Go.V.Fr) (k:Nat):Go.V.D:=Go.V.nth .bh fr.loc k
theorem sF {c:Nat→List aC} (hc:∀b,(c b).length=0) (z:Nat):∀k b,eC c z k b=[]
 |0,_=>rfl
 |k+1,b=>by rw[eC,sF hc z k,List.length_eq_zero_iff.1 (hc b)];rfl
theorem CH (s o:Nat) (lz:Bool):∃x y:Int,kS s o lz=bX 2 x y []:=by
 cases lz
 ·exact⟨_,_,rfl⟩
 ·exact⟨_,_,rfl⟩
theorem A' {l:List cg} (vg:l.length≤1048576) {m:Nat} (ih:∀t:Tr,t.flat.length≤m→rM l t) {n:cg} {t:Tr} (fM:n.op=5) (Qf:t.flat.length≤m) (nO:wu n 1) (rY:t.ok) {N k:Nat} {S s0:St} {H:List bm} {nd zd ed:D} {code:List aC} {Z E:List Int} {at_:Nat} (hF:S.flr≤N) (yG:gU nd 7 (l.map aV)) (jT:fw l at_ (n::t.flat)) (hsz:fw Z (at_+1) t.zs) (ve:fw E (at_+1) (t.es (at_+1))) (hb:code.length+bk n t.sz 1≤1000000) (hM:IV N S s0 k nd zd ed Z E H code):
  ∃r af,Ev pv 76 [.ptr k 0 0,.int .i64 (at_:Nat)] s0 r af∧r=.tup []∧IV N S af k nd zd ed Z E H (code++lL n (aF t) t.sz code.length):=by
 obtain⟨cd,dk,hH⟩:=hM;have hle:=jT.le (by simp);simp only[List.length_cons] at hle;have hn:=jT.head;have jT:=jT.tail;have iH:=lg hn;have oS:=fL (zq hsz)
 have Cl:0≤n.mn∧n.mn≤30∧(n.mx=-1∨(n.mn≤n.mx∧n.mx≤30)):=by
  obtain⟨_,hq⟩:=nO;omega
 have FV:bk n t.sz 1=if n.mx=-1 then n.mn.toNat*t.sz+t.sz+2 else n.mn.toNat*t.sz+(n.mx.toNat-n.mn.toNat)*(t.sz+1):=by unfold bk;rw[if_neg (by omega),if_neg (by omega),if_neg (by omega),if_pos fM]
 rw[FV] at hb;clear FV;have Bv:=fun b=>bp t b rY;have hb1:code.length+n.mn.toNat*t.sz≤1000000:=by split at hb<;>omega
 refine Ev.ko rfl OJ rfl rfl rfl ?_;refine zE ?_;change ah _ _ _ _ s0 _;have hc:=yG.arg N S;refine zQ 7 ?_;refine qr fun Ri Nz=>?_;refine ab.eB rfl (ev rfl) (by assumption) rfl (by dsimp only[Fr.put,u1,u2]<;>rfl) ?_;refine zQ 2 ?_;refine qa hH fun k4 st NN hH=>?_;refine qS hH aS fun st hH=>?_;dsimp only[u2,u1,u3,u4,setMany,u5,u6,D.cells,Nat.reduceAdd,aK,aV,az,km] at hH;refine zQ 2 ?_;have hH:Has N S st (.box k (.mem 0 false [cd,nd,zd,ed])::.deep dk cd 4 (code.map aK)::.aI zd 1 (Z.map az)::.aI ed 1 (E.map az)::.box k4 (.mem 0 false (aV n))::H):=hH.Fh;refine zQ 8 ?_;refine qi hH cU fun Je DN=>?_;refine zQ 3 ?_;have TT:=g_ Bv n.mn.toNat code.length;refine ah.merge (fun fr st=>∃(cd:D) (dk:Nat→Prop) (tmp:List (Nat×D)),fr=⟨78,[.ptr k 0 0,.int .i64 (at_:Nat),ae fr 2,ae fr 3,.ptr k4 0 0,.int .i64 ((at_+1:Nat):Int),ae fr 6,ae fr 7,ae fr 8,ae fr 9,ae fr 10,ae fr 11,ae fr 12,ae fr 13,ae fr 14,ae fr 15,ae fr 16,ae fr 17,ae fr 18,ae fr 19,ae fr 20,ae fr 21,ae fr 22,ae fr 23,ae fr 24,ae fr 25,ae fr 26,ae fr 27,ae fr 28,ae fr 29,ae fr 30,ae fr 31,ae fr 32,ae fr 33,ae fr 34,ae fr 35,ae fr 36,ae fr 37,ae fr 38,ae fr 39,ae fr 40,ae fr 41,ae fr 42,ae fr 43,ae fr 44,ae fr 45,ae fr 46,ae fr 47,ae fr 48,ae fr 49,ae fr 50,ae fr 51,ae fr 52,ae fr 53,ae fr 54,ae fr 55,ae fr 56,ae fr 57,ae fr 58,ae fr 59,ae fr 60,ae fr 61,ae fr 62,ae fr 63,ae fr 64,ae fr 65,ae fr 66,ae fr 67,ae fr 68,ae fr 69,ae fr 70,ae fr 71,ae fr 72,ae fr 73,ae fr 74,ae fr 75,ae fr 76,ae fr 77],tmp⟩∧Has N S st (.box k (.mem 0 false [cd,nd,zd,ed])::.deep dk cd 4 ((code++eC (aF t) t.sz n.mn.toNat code.length).map aK)::.aI zd 1 (Z.map az)::.aI ed 1 (E.map az)::.box k4 (.mem 0 false (aV n))::H)) ?_ ?_
 ·refine zP (fun hz=>?_) fun hz=>?_
  ·refine zQ 7 ?_;refine ah.loop (fun mm fr st=>∃(i:Nat) (cd:D) (dk:Nat→Prop) (aP:List aC),fr.clean=⟨78,[.ptr k 0 0,.int .i64 (at_:Nat),ae fr 2,ae fr 3,.ptr k4 0 0,.int .i64 ((at_+1:Nat):Int),ae fr 6,ae fr 7,ae fr 8,ae fr 9,ae fr 10,ae fr 11,ae fr 12,ae fr 13,ae fr 14,ae fr 15,ae fr 16,ae fr 17,ae fr 18,ae fr 19,ae fr 20,ae fr 21,ae fr 22,ae fr 23,ae fr 24,ae fr 25,ae fr 26,ae fr 27,.int .i64 n.mn,.int .i64 (i:Nat),ae fr 30,ae fr 31,ae fr 32,ae fr 33,ae fr 34,ae fr 35,ae fr 36,ae fr 37,ae fr 38,ae fr 39,ae fr 40,ae fr 41,ae fr 42,ae fr 43,ae fr 44,ae fr 45,ae fr 46,ae fr 47,ae fr 48,ae fr 49,ae fr 50,ae fr 51,ae fr 52,ae fr 53,ae fr 54,ae fr 55,ae fr 56,ae fr 57,ae fr 58,ae fr 59,ae fr 60,ae fr 61,ae fr 62,ae fr 63,ae fr 64,ae fr 65,ae fr 66,ae fr 67,ae fr 68,ae fr 69,ae fr 70,ae fr 71,ae fr 72,ae fr 73,ae fr 74,ae fr 75,ae fr 76,ae fr 77],[]⟩∧Has N S st (.box k (.mem 0 false [cd,nd,zd,ed])::.deep dk cd 4 (aP.map aK)::.aI zd 1 (Z.map az)::.aI ed 1 (E.map az)::.box k4 (.mem 0 false (aV n))::H)∧(i+mm=n.mn.toNat)∧(aP++eC (aF t) t.sz mm aP.length=code++eC (aF t) t.sz n.mn.toNat code.length)∧(aP.length+mm*t.sz=code.length+n.mn.toNat*t.sz)) (n.mn.toNat) ?_ ?_
   ·exact⟨0,cd,dk,code,rfl,hH,by omega,rfl,rfl⟩
   rintro mm fr st ⟨i,cd,dk,aP,hfr,hH,hi,xM,hcl⟩;rw[hfr];clear hfr;generalize ae fr=ee;clear fr;refine zQ 4 ?_
   cases mm with
   |zero=>
    have iz:decide ((i:Int)<n.mn)=false:=by rw[decide_eq_false_iff_not];omega
    refine qq<|qE rfl (by rw[iz]) ?_;simp only[eC,List.append_nil] at xM;rw[xM] at hH;refine zQ 1 ?_;exact⟨cd,dk,_,rfl,hH⟩
   |succ mm=>
    have iz:decide ((i:Int)<n.mn)=true:=by rw[decide_eq_true_eq];omega
    rw[Nat.succ_mul] at hcl;refine qq<|qD rfl (by rw[iz]) ?_;refine zQ 6 ?_;obtain⟨_,st,aG,rfl,cd,dk,hH⟩:=ih t (by omega) hF yG jT hsz ve rY (by omega) ⟨cd,dk,hH⟩;refine qv aG ?_;refine zQ 5 ?_;exact⟨mm,by omega,⟨i+1,cd,dk,aP++aF t aP.length,rfl,hH,by omega,by rw[List.length_append,Bv,List.append_assoc];exact xM,by rw[List.length_append,Bv];omega⟩⟩
  ·refine zQ 1 ?_;have hz0:t.sz=0:=by omega
   have TU:eC (aF t) t.sz n.mn.toNat code.length=[]:=sF (fun b=>by rw[Bv,hz0]) _ _ _;exact⟨cd,dk,_,rfl,(by rw[TU,List.append_nil];exact hH)⟩
 ·rintro fr st ⟨cd,dk,tmp,hfr,hH⟩;rw[hfr];clear hfr;generalize ae fr=ee;clear fr;have LG:(code++eC (aF t) t.sz n.mn.toNat code.length).length=code.length+n.mn.toNat*t.sz:=by rw[List.length_append,TT]
  unfold lL;rw[←LG];rw[←LG] at hb1
  have hb2:if n.mx=-1 then(code++eC (aF t) t.sz n.mn.toNat code.length).length+t.sz+2≤1000000 else(code++eC (aF t) t.sz n.mn.toNat code.length).length+(n.mx.toNat-n.mn.toNat)*(t.sz+1)≤1000000:=by
   rw[LG];split
   ·rename_i h;rw[if_pos h] at hb;omega
   ·rename_i h;rw[if_neg h] at hb;omega
  have F2:∀X:List aC,code++(eC (aF t) t.sz n.mn.toNat code.length++X)=code++eC (aF t) t.sz n.mn.toNat code.length++X:=fun X=>by rw[List.append_assoc]
  simp only[apply_ite (fun X:List aC=>code++X),F2];clear F2 LG;generalize code++eC (aF t) t.sz n.mn.toNat code.length=cR at*;refine zQ 7 ?_
  by_cases CV:n.mx=-1
  ·rw[if_pos CV];rw[if_pos CV] at hb2;refine qD rfl (by simp[CV]) ?_;refine zQ 3 ?_;refine ab.go (d:=.agg [.int .i64 2,.int .i64 0,.int .i64 0,.nul]) (st1:=_) rfl rfl rfl (by dsimp only[Fr.put,u1,u2]<;>rfl) ?_;have hH:=hH.e_ 2;obtain⟨_,st,aG,rfl,cd,dk,hH⟩:=gg (rs:=[]) hF (by omega) hH;refine qv aG ?_;refine zQ 2 ?_;have lV:(cR++[bX 2 0 0 []]).length=cR.length+1:=by simp
   refine zQ 4 ?_;obtain⟨_,st,aG,rfl,cd,dk,hH⟩:=ih t (by omega) hF yG jT hsz ve rY (by omega) ⟨cd,dk,hH⟩;refine qv aG ?_;refine zQ 1 ?_;rw[lV] at hH;have mA:(cR++[bX 2 0 0 []]++aF t (cR.length+1)).length=cR.length+1+t.sz:=by rw[List.length_append,lV,Bv]
   refine zQ 4 ?_;refine ab.go (d:=.agg [.int .i64 3,.int .i64 (cR.length:Nat),.int .i64 0,.nul]) (st1:=_) rfl rfl rfl (by dsimp only[Fr.put,u1,u2]<;>rfl) ?_;have hH:=hH.e_ 2;obtain⟨_,st,aG,rfl,cd,dk,hH⟩:=gg (rs:=[]) hF (by omega) hH;refine qv aG ?_;refine zQ 1 ?_
   have HY:(cR++[bX 2 0 0 []]++aF t (cR.length+1)++[bX 3 (cR.length:Nat) 0 []])[cR.length]?=some (bX 2 0 0 []):=by
    rw[List.append_assoc,List.append_assoc];exact pe _ _ _
   have BI:(cR++[bX 2 0 0 []]++aF t (cR.length+1)++[bX 3 (cR.length:Nat) 0 []]).length=cR.length+t.sz+2:=by rw[List.length_append,mA];simp only[List.length_cons,List.length_nil];omega
   have FN:(cR++[bX 2 0 0 []]++aF t (cR.length+1)++[bX 3 (cR.length:Nat) 0 []]).set cR.length (kS cR.length (cR.length+t.sz+2) n.lz)=cR++(kS cR.length (cR.length+t.sz+2) n.lz::(aF t (cR.length+1)++[jk cR.length])):=by
    rw[List.append_assoc,List.append_assoc];exact o5 _ _ _ _
   generalize cR++[bX 2 0 0 []]++aF t (cR.length+1)++[bX 3 (cR.length:Nat) 0 []]=Ej at*;refine zQ 8 ?_;refine ab.BW hH rfl (ev rfl) (by exact bZ) rfl (by dsimp only[Fr.put,u1,u2]<;>rfl) ?_;simp only[List.length_map,List.length_append,List.length_cons,List.length_nil];refine zQ 2 ?_;obtain⟨_,st,aG,rfl,hH⟩:=pz (at_:=cR.length) (over:=Ej.length) (lz:=n.lz) HY (by omega) hH;refine qv aG ?_;refine zQ 1 ?_;rw[BI,FN] at hH;refine ah.ret ⟨rx,_,_,_,rfl,rfl,?_⟩;exact⟨rfl,cd,dk,hH.erase 4⟩
  ·rw[if_neg CV];rw[if_neg CV] at hb2;refine qE rfl (by simp[CV]) ?_;refine zQ 1 ?_;obtain⟨a,ha⟩:∃a:Nat,n.mn=(a:Int):=Int.eq_ofNat_of_zero_le Cl.1;obtain⟨b,HX⟩:∃b:Nat,n.mx=(b:Int):=Int.eq_ofNat_of_zero_le (by omega);have N7:n.mx.toNat-n.mn.toNat=b-a:=by omega
   rw[N7] at hb2⊢;refine zQ 11 ?_;refine ab.oM (z:=((b-a:Nat):Int)) rfl (ev rfl) (ev rfl) (by(try simp only[List.length_reverse,List.length_cons,List.length_nil,List.length_append,List.length_map,List.length_set]);rw[wrap_i64 (by omega) (by omega)]<;>omega) (by dsimp only[Fr.put,u1,u2]<;>rfl) ?_;refine zQ 2 ?_;have hH:Has N S st (.box k (.mem 0 false [cd,nd,zd,ed])::.deep dk cd 4 (cR.map aK)::.aI zd 1 (Z.map az)::.aI ed 1 (E.map az)::.aI .nul 1 (([]:List Nat).map km)::.box k4 (.mem 0 false (aV n))::H):=(hH.e_ 1).Fh;refine zQ 1 ?_;refine ah.loop (fun mm fr st=>∃(i:Nat) (cd jd:D) (dk:Nat→Prop) (aP:List aC) (js:List Nat),fr.clean=⟨78,[.ptr k 0 0,.int .i64 (at_:Nat),ae fr 2,ae fr 3,.ptr k4 0 0,.int .i64 ((at_+1:Nat):Int),ae fr 6,jd,ae fr 8,ae fr 9,ae fr 10,ae fr 11,ae fr 12,ae fr 13,ae fr 14,ae fr 15,ae fr 16,ae fr 17,ae fr 18,ae fr 19,ae fr 20,ae fr 21,ae fr 22,ae fr 23,ae fr 24,ae fr 25,ae fr 26,ae fr 27,ae fr 28,ae fr 29,ae fr 30,ae fr 31,ae fr 32,ae fr 33,ae fr 34,ae fr 35,ae fr 36,ae fr 37,ae fr 38,ae fr 39,ae fr 40,ae fr 41,ae fr 42,ae fr 43,ae fr 44,ae fr 45,ae fr 46,ae fr 47,ae fr 48,ae fr 49,ae fr 50,ae fr 51,ae fr 52,ae fr 53,ae fr 54,ae fr 55,ae fr 56,ae fr 57,ae fr 58,ae fr 59,ae fr 60,ae fr 61,.int .i64 ((b-a:Nat):Int),.int .i64 (i:Nat),ae fr 64,ae fr 65,ae fr 66,ae fr 67,ae fr 68,ae fr 69,ae fr 70,ae fr 71,ae fr 72,ae fr 73,ae fr 74,ae fr 75,ae fr 76,ae fr 77],[]⟩∧Has N S st (.box k (.mem 0 false [cd,nd,zd,ed])::.deep dk cd 4 (aP.map aK)::.aI zd 1 (Z.map az)::.aI ed 1 (E.map az)::.aI jd 1 (js.map km)::.box k4 (.mem 0 false (aV n))::H)∧(i+mm=b-a)∧(aP++eD (fun _=>bX 2 0 0 []) (aF t) t.sz mm aP.length=cR++eD (fun _=>bX 2 0 0 []) (aF t) t.sz (b-a) cR.length)∧(js++vZ t.sz mm aP.length=vZ t.sz (b-a) cR.length)∧(aP.length+mm*(t.sz+1)=cR.length+(b-a)*(t.sz+1))∧(js.length=i)) (b-a) ?_ ?_
   ·exact⟨0,cd,.nul,dk,cR,[],rfl,hH,by omega,rfl,rfl,rfl,rfl⟩
   rintro mm fr st ⟨i,cd,jd,dk,aP,js,hfr,hH,hi,ic,hjs,hcl,jU⟩;rw[hfr];clear hfr;generalize ae fr=ee;clear fr;refine zQ 4 ?_
   cases mm with
   |zero=>
    have iz:decide ((i:Int)<((b-a:Nat):Int))=false:=by rw[decide_eq_false_iff_not];omega
    refine qq<|qE rfl (by rw[iz]) ?_;refine zQ 4 ?_;refine qn ?_ (hR:=hH.rows eJ);simp only[List.length_map];refine zQ 2 ?_;simp only[eD,vZ,List.append_nil] at ic hjs;rw[ic] at hH;obtain⟨BA,DO⟩:=nA (sp:=fun s=>kS s (cR.length+(b-a)*(t.sz+1)) n.lz) Bv (i0:=bX 2 0 0 []) (b-a) cR.length cR [] rfl;simp only[List.append_nil] at BA DO;have IU:(cR++eD (fun _=>bX 2 0 0 []) (aF t) t.sz (b-a) cR.length).length=cR.length+(b-a)*(t.sz+1):=by rw[List.length_append,mf Bv]
    rw[←hjs] at BA DO;rw[←BA];clear BA ic;generalize cR++eD (fun _=>bX 2 0 0 []) (aF t) t.sz (b-a) cR.length=C0 at*;generalize cR.length+(b-a)*(t.sz+1)=e at*;refine zQ 1 ?_;refine ah.loop (fun mm fr st=>∃(q:Nat) (C:List aC),fr.clean=⟨78,[.ptr k 0 0,ae fr 1,ae fr 2,ae fr 3,.ptr k4 0 0,ae fr 5,ae fr 6,ae fr 7,ae fr 8,ae fr 9,ae fr 10,ae fr 11,ae fr 12,ae fr 13,ae fr 14,ae fr 15,ae fr 16,ae fr 17,ae fr 18,ae fr 19,ae fr 20,ae fr 21,ae fr 22,ae fr 23,ae fr 24,ae fr 25,ae fr 26,ae fr 27,ae fr 28,ae fr 29,ae fr 30,ae fr 31,ae fr 32,ae fr 33,ae fr 34,ae fr 35,ae fr 36,ae fr 37,ae fr 38,ae fr 39,ae fr 40,ae fr 41,ae fr 42,ae fr 43,ae fr 44,ae fr 45,ae fr 46,ae fr 47,ae fr 48,ae fr 49,ae fr 50,ae fr 51,ae fr 52,ae fr 53,ae fr 54,ae fr 55,ae fr 56,ae fr 57,ae fr 58,ae fr 59,ae fr 60,ae fr 61,ae fr 62,ae fr 63,ae fr 64,ae fr 65,ae fr 66,ae fr 67,ae fr 68,ae fr 69,ae fr 70,ae fr 71,ae fr 72,ae fr 73,ae fr 74,jd,.int .i64 (js.length:Nat),.int .i64 (q:Nat)],[]⟩∧Has N S st (.box k (.mem 0 false [cd,nd,zd,ed])::.deep dk cd 4 (C.map aK)::.aI zd 1 (Z.map az)::.aI ed 1 (E.map az)::.aI jd 1 (js.map km)::.box k4 (.mem 0 false (aV n))::H)∧(q+mm=js.length)∧(gZ (fun s=>kS s e n.lz) C (js.drop q)=gZ (fun s=>kS s e n.lz) C0 js)∧(∀p∈js,∃x y:Int,C[p]?=some (bX 2 x y []))∧(C.length=e)) (js.length) ?_ ?_
    ·exact⟨0,C0,rfl,hH,by omega,rfl,fun p hp=>⟨_,_,DO p hp⟩,IU⟩
    rintro mm fr st ⟨q,C,hfr,hH,hq,iy,eS,IQ⟩;rw[hfr];clear hfr;generalize ae fr=ee;clear fr;refine zQ 5 ?_;refine zP (fun hlt=>?_) fun hlt=>?_
    ·refine zQ 1 ?_;have Gx:q<js.length:=by omega
     obtain⟨p,hp⟩:∃p,js[q]?=some p:=⟨js[q]'Gx,List.getElem?_eq_getElem _⟩
     obtain⟨x,y,hv⟩:=eS p (List.mem_of_getElem? hp);have iH:=wy hp;have gR:=aR hv;refine zQ 4 ?_;refine qi hH eJ fun Q6 Nk=>?_;refine zQ 10 ?_;refine ab.BW hH rfl (ev rfl) (by exact bZ) rfl (aa rfl _) ?_;simp only[List.length_map];refine zQ 2 ?_;obtain⟨_,st,aG,rfl,hH⟩:=pz (at_:=p) (over:=C.length) (lz:=n.lz) hv (by omega) hH;refine qv aG ?_;refine zQ 5 ?_
     have sa:js.drop q=p::js.drop (q+1):=by
      rw[List.drop_eq_getElem_cons Gx]
      congr 1
      exact Option.some.inj ((List.getElem?_eq_getElem _).symm.trans hp)
     refine⟨mm-1,by omega,⟨q+1,C.set p (kS p e n.lz),rfl,(by rw[IQ] at hH;exact hH),by omega,by rw[sa] at iy;exact iy,?_,by rw[List.length_set];exact IQ⟩⟩;intro p' uI
     by_cases hpp:p'=p
     ·subst hpp;obtain⟨x',y',Jy⟩:=CH p' e n.lz;exact⟨x',y',by rw[List.getElem?_set_self gR,Jy]⟩
     ·rw[List.getElem?_set_ne (fun e=>hpp e.symm)];exact eS p' uI
    ·refine zQ 1 ?_;refine⟨fun i h=>(by cases h),_,_,_,rfl,rfl,?_⟩;have yE:q=js.length:=by omega
     rw[yE,List.drop_length] at iy;have iy:C=gZ (fun s=>kS s e n.lz) C0 js:=iy;rw[←iy];exact⟨rfl,cd,dk,(hH.erase 5).erase 4⟩
   |succ mm=>
    have iz:decide ((i:Int)<((b-a:Nat):Int))=true:=by rw[decide_eq_true_eq];omega
    rw[Nat.succ_mul] at hcl;refine qq<|qD rfl (by rw[iz]) ?_;refine zQ 7 ?_;refine ab.go (d:=.agg [.int .i64 2,.int .i64 0,.int .i64 0,.nul]) (st1:=_) rfl rfl rfl (by dsimp only[Fr.put,u1,u2]<;>rfl) ?_;have hH:=hH.e_ 2;obtain⟨_,st,aG,rfl,cd,dk,hH⟩:=gg (rs:=[]) hF (by omega) hH;refine qv aG ?_;refine qh (s:=1) (vs:=[_]) hH fun k69 st SU hH=>?_;dsimp only[u2,u1,u3,u4,setMany,u5,u6,D.cells,Nat.reduceAdd,aK,aV,az,km] at hH;refine qP hH gk (hH.rows aS) fun QP st hH=>?_;dsimp only[u2,u1,u3,u4,setMany,u5,u6,D.cells,Nat.reduceAdd,aK,aV,az,km] at hH;refine zQ 2 ?_;have hH:=hH.drop 1;have lV:(aP++[bX 2 0 0 []]).length=aP.length+1:=by simp
    refine zQ 3 ?_;obtain⟨_,st,aG,rfl,cd,dk,hH⟩:=ih t (by omega) hF yG jT hsz ve rY (by omega) ⟨cd,dk,hH⟩;refine qv aG ?_;refine zQ 1 ?_;rw[lV] at hH;have mA:(aP++[bX 2 0 0 []]++aF t (aP.length+1)).length=aP.length+1+t.sz:=by rw[List.length_append,lV,Bv]
    refine zQ 4 ?_;exact⟨mm,by omega,⟨i+1,cd,QP,dk,aP++[bX 2 0 0 []]++aF t (aP.length+1),js++[aP.length],rfl,(by rw[List.map_append (f:=km)];exact hH),by omega,by rw[mA,←ic];simp only[eD,List.append_assoc,List.cons_append,List.nil_append],by rw[mA,←hjs];simp only[vZ,List.append_assoc,List.cons_append,List.nil_append],by rw[mA];omega,by rw[List.length_append,jU];rfl⟩⟩
def bG (fr:Go.V.Fr) (k:Nat):Go.V.D:=Go.V.nth .bh fr.loc k
theorem xt (t:Tr):eU (.cons t .nil)=aF t:=by
 funext b;simp only[eU,List.append_nil]
theorem xS (t:Tr):(bj.cons t .nil).sz=t.sz:=by simp only[bj.sz,Nat.add_zero]
theorem Fv {l:List cg} (vg:l.length≤1048576) (hi:∀n∈l,n.ok):∀(m:Nat) (t:Tr),t.flat.length≤m→rM l t:=by
 intro m
 induction m with
 |zero=>intro t h;have:=t.ie;omega
 |succ m ih=>
  rintro⟨n,ks⟩ hm N k S s0 H nd zd ed code Z E at_ hF yG jT hsz ve aY hb hM;have U9:=hM;obtain⟨cd,dk,hH⟩:=hM;simp only[Tr.ok] at aY;obtain⟨nO,l6⟩:=aY;simp only[Tr.flat,List.length_cons] at hm;have hle:=jT.le (by simp[Tr.flat]);simp only[Tr.flat] at jT hle;simp only[List.length_cons] at hle;simp only[Tr.zs] at hsz;simp only[Tr.es] at ve;simp only[Tr.sz] at hb;have hn:=jT.head;have Ka:=hi n (List.mem_of_getElem? hn);have DG:=Ka.1.arg N S;have rZ:=Ka.2.1;have iH:=lg hn;have IG:=nO.1;have ir:=bj.ku ks;have hcat:=fun b=>kK ks b l6;refine Ev.ko rfl OX rfl rfl rfl ?_;refine zE ?_;change ah _ _ _ _ s0 _;have hc:=yG.arg N S;refine zQ 7 ?_;refine qr fun PZ J9=>?_;refine ab.eB rfl (ev rfl) (by assumption) rfl (by dsimp only[Fr.put,u1,u2]<;>rfl) ?_;refine qa hH fun k4 st NN hH=>?_;refine qS hH aS fun st hH=>?_;dsimp only[u2,u1,u3,u4,setMany,u5,u6,D.cells,Nat.reduceAdd,aK,aV,az,km] at hH;refine zQ 1 ?_;have hH:Has N S st (.box k (.mem 0 false [cd,nd,zd,ed])::.deep dk cd 4 (code.map aK)::.aI zd 1 (Z.map az)::.aI ed 1 (E.map az)::.box k4 (.mem 0 false (aV n))::H):=hH.Fh;refine zQ 11 ?_;refine zI (fun q2=>?_) fun q2=>?_
  ·have yP:aF (.mk n ks) code.length=[bX 1 0 0 n.rs]:=by simp only[aF,if_pos q2]
   rw[yP];have hz:bk n ks.sz ks.len=1:=by unfold bk;rw[if_pos (.inl q2)]
   have hH:=hH.e_ 2;refine zQ 4 ?_;refine qP hH aS (Arg.rows (by assumption) hH) fun Pz st hH=>?_;dsimp only[u2,u1,u3,u4,setMany,u5,u6,D.cells,Nat.reduceAdd,aK,aV,az,km] at hH;refine ab.gm (qs:=[(0,_),(3,_)]) rfl rfl rfl rfl ⟨rfl,(ev rfl),(by rfl),rfl,(ev rfl),(by exact hH.fI (by exact aS)),trivial⟩ (by intro q hq;simp only[List.mem_cons,List.not_mem_nil,or_false] at hq;rcases hq with rfl|rfl<;>exact⟨rfl,by exact Nat.le_of_ble_eq_true rfl⟩) (by show List.foldl _ [_,_,_,_] _=_;dsimp only[List.foldl_cons,List.foldl_nil,u2,u1]<;>rfl) (by dsimp only[Fr.put,u1,u2]<;>rfl) ?_;obtain⟨_,st,aG,rfl,cd,dk,hH⟩:=gg (rs:=n.rs) hF (by omega) hH;refine qv aG ?_;refine zQ 1 ?_;refine⟨fun i h=>(by cases h),_,_,_,rfl,rfl,?_⟩;exact⟨rfl,cd,dk,hH.erase 4⟩
  refine zQ 5 ?_;refine zI (fun q7=>?_) fun q7=>?_
  ·have yP:aF (.mk n ks) code.length=[bX 5 0 0 []]:=by simp only[aF,if_neg q2,if_pos q7]
   rw[yP];refine zQ 2 ?_;refine ab.go (d:=.agg [.int .i64 5,.int .i64 0,.int .i64 0,.nul]) (st1:=_) rfl rfl rfl (by dsimp only[Fr.put,u1,u2]<;>rfl) ?_;have hH:=hH.e_ 2;obtain⟨_,st,aG,rfl,cd,dk,hH⟩:=gg (rs:=[]) hF (by omega) hH;refine qv aG ?_;refine zQ 1 ?_;refine⟨fun i h=>(by cases h),_,_,_,rfl,rfl,?_⟩;exact⟨rfl,cd,dk,hH.erase 4⟩
  refine zQ 5 ?_;refine zI (fun q8=>?_) fun q8=>?_
  ·have yP:aF (.mk n ks) code.length=[bX 6 0 0 []]:=by simp only[aF,if_neg q2,if_neg q7,if_pos q8]
   rw[yP];refine zQ 2 ?_;refine ab.go (d:=.agg [.int .i64 6,.int .i64 0,.int .i64 0,.nul]) (st1:=_) rfl rfl rfl (by dsimp only[Fr.put,u1,u2]<;>rfl) ?_;have hH:=hH.e_ 2;obtain⟨_,st,aG,rfl,cd,dk,hH⟩:=gg (rs:=[]) hF (by omega) hH;refine qv aG ?_;refine zQ 1 ?_;refine⟨fun i h=>(by cases h),_,_,_,rfl,rfl,?_⟩;exact⟨rfl,cd,dk,hH.erase 4⟩
  refine zQ 5 ?_;refine zI (fun q3=>?_) fun q3=>?_
  ·have yP:aF (.mk n ks) code.length=eU ks code.length:=by simp only[aF,if_neg q2,if_neg q7,if_neg q8,if_pos q3]
   rw[yP];have hz:bk n ks.sz ks.len=ks.sz:=by unfold bk;rw[if_neg (by omega),if_neg (by omega),if_neg (by omega),if_neg (by omega)]
   rw[hz] at hb;refine zQ 13 ?_;refine ah.loop (fun mm fr st=>∃(i j:Nat) (rest:bj) (cd:D) (dk:Nat→Prop) (aP:List aC),fr.clean=⟨40,[.ptr k 0 0,.int .i64 (at_:Nat),bG fr 2,bG fr 3,.ptr k4 0 0,.int .i64 (j:Nat),bG fr 6,bG fr 7,bG fr 8,bG fr 9,bG fr 10,bG fr 11,bG fr 12,bG fr 13,bG fr 14,bG fr 15,bG fr 16,bG fr 17,bG fr 18,bG fr 19,bG fr 20,bG fr 21,bG fr 22,bG fr 23,bG fr 24,bG fr 25,bG fr 26,bG fr 27,bG fr 28,bG fr 29,bG fr 30,bG fr 31,bG fr 32,bG fr 33,bG fr 34,bG fr 35,bG fr 36,bG fr 37,.int .i64 n.kids,.int .i64 (i:Nat)],[]⟩∧Has N S st (.box k (.mem 0 false [cd,nd,zd,ed])::.deep dk cd 4 (aP.map aK)::.aI zd 1 (Z.map az)::.aI ed 1 (E.map az)::.box k4 (.mem 0 false (aV n))::H)∧(mm=rest.len)∧(i+rest.len=ks.len)∧(fw l j rest.flat)∧(fw Z j rest.zs)∧(fw E j (rest.es j))∧(rest.ok)∧(aP++eU rest aP.length=code++eU ks code.length)∧(aP.length+rest.sz=code.length+ks.sz)∧(rest.flat.length≤m)) (ks.len) ?_ ?_
   ·exact⟨0,at_+1,ks,cd,dk,code,rfl,hH,rfl,by omega,jT.tail,hsz.tail,ve.tail,l6,rfl,rfl,by omega⟩
   rintro mm fr st ⟨i,j,rest,cd,dk,aP,hfr,hH,yH,wV,oQ,wL,oP,j0,ic,hcl,Hw⟩;rw[hfr];clear hfr;generalize bG fr=ee;clear fr;refine zQ 4 ?_
   cases rest with
   |nil=>
    simp only[bj.len] at wV;simp only[eU,List.append_nil] at ic;have iz:decide ((i:Int)<n.kids)=false:=by rw[decide_eq_false_iff_not];omega
    refine qq<|qE rfl (by rw[iz]) ?_;refine zQ 1 ?_;refine⟨fun i h=>(by cases h),_,_,_,rfl,rfl,?_⟩;rw[←ic];exact⟨rfl,cd,dk,hH.erase 4⟩
   |cons t ts=>
    simp only[bj.len] at wV yH;simp only[bj.sz] at hcl;simp only[bj.flat,List.length_append] at oQ Hw;simp only[bj.zs] at wL;simp only[bj.es] at oP;simp only[bj.ok] at j0;simp only[eU] at ic;have Hm:=t.iO;have JB:=t.iV j;have Bv:=bp t aP.length j0.1;have Na:=fL (Ay oP.left);have iz:decide ((i:Int)<n.kids)=true:=by rw[decide_eq_true_eq];omega
    refine qq<|qD rfl (by rw[iz]) ?_;refine zQ 7 ?_;obtain⟨_,st,aG,rfl,cd,dk,hH⟩:=ih t (by omega) hF yG oQ.left wL.left oP.left j0.1 (by omega) ⟨cd,dk,hH⟩;refine qv aG ?_;refine zQ 7 ?_;refine qi hH dI fun PQ JP=>?_;refine zQ 7 ?_;exact⟨mm-1,by omega,⟨i+1,j+t.flat.length,ts,cd,dk,aP++aF t aP.length,rfl,hH,by omega,by omega,oQ.right,by rw[←Hm];exact wL.right,by rw[←JB];rw[←JB] at oP;exact oP.right,j0.2,by rw[List.length_append,Bv,List.append_assoc];exact ic,by rw[List.length_append,Bv];omega,by omega⟩⟩
  refine zQ 5 ?_;refine zI (fun q4=>?_) fun q4=>?_
  ·have yP:aF (.mk n ks) code.length=du (jk (code.length+bk n ks.sz ks.len)) ks code.length:=by simp only[aF,if_neg q2,if_neg q7,if_neg q8,if_neg q3,if_pos q4]
   rw[yP];refine zQ 3 ?_;obtain⟨_,st,aG,rfl,cd,dk,hH⟩:=Il vg ih q4 (by omega) nO l6 hF yG jT hsz.tail ve.tail hb ⟨cd,dk,hH⟩;refine qv aG ?_;refine zQ 1 ?_;refine⟨fun i h=>(by cases h),_,_,_,rfl,rfl,?_⟩;exact⟨rfl,cd,dk,hH.erase 4⟩
  refine zQ 5 ?_;refine zI (fun q5=>?_) fun q5=>?_
  ·have re:ks.len=1:=by
    obtain⟨_,hq⟩:=nO;omega
   obtain⟨t,rfl⟩:=bj.Ac re;have yP:aF (.mk n (.cons t .nil)) code.length=lL n (aF t) t.sz code.length:=by simp only[aF,if_neg q2,if_neg q7,if_neg q8,if_neg q3,if_neg q4,if_pos q5,xt,xS]
   rw[yP];rw[re] at nO hb;rw[xS] at hb;simp only[bj.flat,bj.zs,bj.es,bj.ok,List.append_nil] at*;refine zQ 3 ?_;obtain⟨_,st,aG,rfl,cd,dk,hH⟩:=A' vg ih q5 (by omega) nO l6.1 hF yG jT hsz.tail ve.tail hb ⟨cd,dk,hH⟩;refine qv aG ?_;refine zQ 1 ?_;refine⟨fun i h=>(by cases h),_,_,_,rfl,rfl,?_⟩;exact⟨rfl,cd,dk,hH.erase 4⟩
  refine zQ 5 ?_;refine zI (fun q6=>?_) fun q6=>?_
  ·have re:ks.len=1∧1≤n.cap∧n.cap≤4:=by
    obtain⟨_,hq⟩:=nO;omega
   obtain⟨t,rfl⟩:=bj.Ac re.1;have yP:aF (.mk n (.cons t .nil)) code.length=bX 4 (2*n.cap) 0 []::(aF t (code.length+1)++[bX 4 (2*n.cap+1) 0 []]):=by simp only[aF,if_neg q2,if_neg q7,if_neg q8,if_neg q3,if_neg q4,if_neg q5,if_pos q6,xt]
   rw[yP];have hz:bk n (bj.cons t .nil).sz (bj.cons t .nil).len=t.sz+2:=by unfold bk;rw[if_neg (by omega),if_neg (by omega),if_pos q6,xS]
   rw[hz] at hb;simp only[bj.flat,bj.zs,bj.es,bj.ok,List.append_nil] at jT hsz ve l6 hm;refine zQ 5 ?_;refine ab.yp (z:=(2*n.cap)) rfl (ev rfl) (ev rfl) (by(try simp only[List.length_reverse,List.length_cons,List.length_nil,List.length_append,List.length_map,List.length_set]);rw[wrap_i64 (by omega) (by omega)]<;>omega) (aa rfl _) ?_;refine ab.go (d:=.agg [.int .i64 4,.int .i64 (2*n.cap),.int .i64 0,.nul]) (st1:=_) rfl rfl rfl (aa rfl _) ?_;have hH:=hH.e_ 2;obtain⟨_,st,aG,rfl,cd,dk,hH⟩:=gg (rs:=[]) hF (by omega) hH;refine qv aG ?_;refine zQ 1 ?_;have lV:(code++[bX 4 (2*n.cap) 0 []]).length=code.length+1:=by simp
   refine zQ 5 ?_;obtain⟨_,st,aG,rfl,cd,dk,hH⟩:=ih t (by omega) hF yG jT.tail hsz.tail ve.tail l6.1 (by omega) ⟨cd,dk,hH⟩;refine qv aG ?_;refine zQ 1 ?_;rw[lV] at hH;have mA:(code++[bX 4 (2*n.cap) 0 []]++aF t (code.length+1)).length=code.length+1+t.sz:=by rw[List.length_append,lV,bp t _ l6.1]
   refine zQ 4 ?_;refine ab.yp (z:=(2*n.cap)) rfl (ev rfl) (ev rfl) (by(try simp only[List.length_reverse,List.length_cons,List.length_nil,List.length_append,List.length_map,List.length_set]);rw[wrap_i64 (by omega) (by omega)]<;>omega) (aa rfl _) ?_;refine ab.lD (z:=(2*n.cap+1)) rfl (ev rfl) (ev rfl) (by(try simp only[List.length_reverse,List.length_cons,List.length_nil,List.length_append,List.length_map,List.length_set]);rw[wrap_i64 (by omega) (by omega)]<;>omega) (aa rfl _) ?_;refine ab.go (d:=.agg [.int .i64 4,.int .i64 (2*n.cap+1),.int .i64 0,.nul]) (st1:=_) rfl rfl rfl (aa rfl _) ?_;have hH:=hH.e_ 2;obtain⟨_,st,aG,rfl,cd,dk,hH⟩:=gg (rs:=[]) hF (by omega) hH;refine qv aG ?_;refine zQ 1 ?_;have gd:code++[bX 4 (2*n.cap) 0 []]++aF t (code.length+1)++[bX 4 (2*n.cap+1) 0 []]=code++bX 4 (2*n.cap) 0 []::(aF t (code.length+1)++[bX 4 (2*n.cap+1) 0 []]):=by simp
   rw[gd] at hH;refine⟨fun i h=>(by cases h),_,_,_,rfl,rfl,?_⟩;exact⟨rfl,cd,dk,hH.erase 4⟩
  ·refine zQ 1 ?_;have yP:aF (.mk n ks) code.length=[]:=by simp only[aF,if_neg q2,if_neg q7,if_neg q8,if_neg q3,if_neg q4,if_neg q5,if_neg q6]
   rw[yP,List.append_nil];refine⟨fun i h=>(by cases h),_,_,_,rfl,rfl,?_⟩;exact⟨rfl,cd,dk,hH.erase 4⟩
def hY (fr:Go.V.Fr) (k:Nat):Go.V.D:=Go.V.nth .bh fr.loc k
def Cf (x:Nl):List D:=[x.d]
theorem Hd {l:List Nl} {i:Nat} {q:Nl} (h:l[i]?=some q):(l.map Cf)[i]?=some (Cf q):=by rw[List.getElem?_map,h];rfl
def oJ (R:tL):D:=.tup [(mX R.code R.av).d,.int .i64 R.e,.int .i64 R.w]
theorem zC {es M:List Int} (h:M.length=es.length):mW es 0 M=M:=by
 unfold mW;simp[h]
theorem nT (r:Nat) (c:List aC) (s:List Int):dG [] r c s=⟨c,s,0,0⟩:=by simp only[dG]
theorem y7 {s0:St} {x:D} {rules:List Nl} (hx:V.Rows s0 1 x (rules.map Cf)) (hr:∀r∈rules,r.ok) (hl:rules.length≤1048576):Ev pv 12 [x] s0 (oJ (aw (rules.map (·.l)))) s0:=by
 refine Ev.o9 rfl O' rfl rfl rfl ?_;refine zE ?_;obtain⟨cD,hF,hH⟩:=ri s0;generalize ag .ro s0=S at*;have hx:=Arg.of hx cD;have hfz:∀(st:St) (e w:Int),bo st s0.bs.length false 16 (rT [.agg [.nul,.nul],.int .i64 e,.int .i64 w])=some (oJ ⟨[],[],e,w⟩):=fun st e w=>rfl;refine zQ 2 ?_;refine qa hH fun k2 st hk2 hH=>?_;refine zQ 7 ?_;refine qn ?_;simp only[List.length_map];refine zQ 2 ?_;unfold aw
 by_cases h8:8<rules.length
 ·rw[if_pos (by rw[List.length_map];exact h8)];refine qD rfl (by simp;omega) ?_;refine zQ 2 ?_;refine ab.go (d:=.agg [.nul,.nul]) (st1:=_) rfl rfl rfl (by dsimp only[Fr.put,u1,u2]<;>rfl) ?_;refine qS hH aS fun st hH=>?_;dsimp only[u2,u1,u3,u4,setMany,u5,u6,D.cells,Nat.reduceAdd,aK,aV,az,Cf] at hH;refine zQ 3 ?_;refine ah.ret ⟨rx,_,hH.kW rfl aS rfl rfl rfl,rl cD hH (hfz _ 13 8)⟩
 ·rw[if_neg (by rw[List.length_map];exact h8)];refine qE rfl (by simp;omega) ?_;refine zQ 3 ?_;refine ab.go (d:=.agg [.nul,.nul,.nul,.nul]) (st1:=_) rfl rfl rfl (by dsimp only[Fr.put,u1,u2]<;>rfl) ?_;refine qb hH fun k14 st Kq hH=>?_;refine zQ 10 ?_;refine qn ?_;simp only[List.length_map];refine zQ 2 ?_;have hH:Has s0.bs.length S st (.aI .nul 1 (([]:List Int).map az)::.deep (fun _=>False) .nul 4 (([]:List aC).map aK)::.box k14 (.mem 0 false [.nul,.nul,.nul,.nul])::[.box k2 (.mem 0 false [.nul,.nul])]):=(hH.Jg 4).e_ 1;refine zQ 1 ?_;refine ah.loop (fun mm fr st=>∃(r:Nat) (cd nd zd ed sd:D) (dk:Nat→Prop) (code:List aC) (av:List Int),fr.clean=⟨18,[hY fr 0,hY fr 1,.ptr k2 0 0,.int .i64 0,.int .i64 0,.ptr k14 0 0,sd,hY fr 7,hY fr 8,hY fr 9,hY fr 10,hY fr 11,hY fr 12,hY fr 13,hY fr 14,x,.int .i64 (rules.length:Nat),.int .i64 (r:Nat)],[]⟩∧Has s0.bs.length S st [.aI sd 1 (av.map az),.deep dk cd 4 (code.map aK),.box k14 (.mem 0 false [cd,nd,zd,ed]),.box k2 (.mem 0 false [.nul,.nul])]∧(r+mm=rules.length)∧(dG ((rules.drop r).map (·.l)) r code av=dG (rules.map (·.l)) 0 [] [])∧(code.length≤400)∧(av.length≤r)) (rules.length) ?_ ?_
  ·exact⟨0,.nul,.nul,.nul,.nul,.nul,(fun _=>False),[],[],rfl,hH,by omega,by rw[List.drop_zero],by simp,by simp⟩
  rintro mm fr st ⟨r,cd,nd,zd,ed,sd,dk,code,av,hfr,hH,US,hX,hcl,df⟩;rw[hfr];clear hfr;generalize hY fr=ee;clear fr;refine zQ 4 ?_
  by_cases hlt:r<rules.length
  ·obtain⟨q,hq⟩:∃q,rules[r]?=some q:=⟨rules[r]'hlt,List.getElem?_eq_getElem _⟩
   have wM:=hr q (List.mem_of_getElem? hq);have iH:=Hd hq
   have sa:rules.drop r=q::rules.drop (r+1):=by
    rw[List.drop_eq_getElem_cons hlt]
    congr 1
    exact Option.some.inj ((List.getElem?_eq_getElem _).symm.trans hq)
   rw[sa,List.map_cons,dG] at hX;refine qq<|qD rfl (by simp;omega) ?_;refine zQ 6 ?_;refine qr fun Mc HC=>?_;refine zQ 8 ?_;refine qv (A_ wM) ?_;refine zQ 2 ?_
   cases yD:dq q.l with
   |false=>
    rw[if_pos yD] at hX;refine zQ 3 ?_;refine ab.go (d:=.agg [.nul,.nul]) (st1:=_) rfl rfl rfl (aa rfl _) ?_;refine qm ?_;refine qS hH dI fun st hH=>?_;dsimp only[u2,u1,u3,u4,setMany,u5,u6,D.cells,Nat.reduceAdd,aK,aV,az,Cf] at hH;refine zQ 3 ?_;rw[←hX];refine ah.ret ⟨rx,_,hH.kW rfl dI rfl rfl rfl,rl cD hH (hfz _ 1 r)⟩
   |true=>
    rw[if_neg (by rw[yD];simp)] at hX;obtain⟨rY,Ho⟩:=l_ yD;have UX:=wM.c.arg s0.bs.length S;have UW:=wM.nl;have vi:=wM.c;refine zQ 9 ?_;refine qn ?_;simp only[List.length_map];refine ab.Aj (s:=1) hH rfl rfl rfl rfl rfl rfl rfl rfl (Nat.le_of_ble_eq_true rfl) (by omega) (fun _=>(aa rfl _)) (fun k33 st NO hH=>?_);refine qm ?_;refine qn ?_;simp only[List.length_map];refine ab.Aj (s:=1) hH rfl rfl rfl rfl rfl rfl rfl rfl (Nat.le_of_ble_eq_true rfl) (by omega) (fun _=>(aa rfl _)) (fun k36 st Kn hH=>?_);refine zQ 2 ?_;refine qT hH eJ fun st hH=>?_;dsimp only[u2,u1,u3,u4,setMany,u5,u6,D.cells,Nat.reduceAdd,aK,aV,az,Cf] at hH;refine zQ 2 ?_;refine qT hH eJ fun st hH=>?_;dsimp only[u2,u1,u3,u4,setMany,u5,u6,D.cells,Nat.reduceAdd,aK,aV,az,Cf] at hH;refine zQ 2 ?_;refine qT hH eJ fun st hH=>?_;dsimp only[u2,u1,u3,u4,setMany,u5,u6,D.cells,Nat.reduceAdd,aK,aV,az,Cf] at hH;refine zQ 1 ?_
    have hH:Has s0.bs.length S st (.aI (.win k33 0 0 q.l.length 1) 1 ((List.replicate q.l.length (0:Int)).map az)::.aI (.win k36 0 0 q.l.length 1) 1 ((List.replicate q.l.length (0:Int)).map az)::.aI sd 1 (av.map az)::.deep dk cd 4 (code.map aK)::.box k14 (.mem 0 false [cd,q.d,.win k33 0 0 q.l.length 1,.win k36 0 0 q.l.length 1])::.box k2 (.mem 0 false [.nul,.nul])::[]):=by
     rw[List.map_replicate];exact hH.front bZ
    refine zQ 7 ?_;obtain⟨_,st,aG,rfl,hH⟩:=CJ wM.nl wM.i wM.c _ (bD q.l) (Nat.le_refl _) rY (at_:=0) (by rw[Ho];exact fw.all _) (by simp) hH;refine qv aG ?_;refine zQ 1 ?_;rw[zC (by rw[Tr.iO,Ho];simp)] at hH;have hH:=hH.front bZ;refine zQ 7 ?_;obtain⟨_,st,aG,rfl,hH⟩:=F7 wM.nl wM.i wM.c _ (bD q.l) (Nat.le_refl _) rY (at_:=0) (by rw[Ho];exact fw.all _) (by simp) hH;refine qv aG ?_;refine zQ 1 ?_;rw[zC (by rw[Tr.iV,Ho];simp)] at hH;have R0:=fL (zq (fw.all (bD q.l).zs));refine zQ 7 ?_;refine ab.BW hH rfl (ev rfl) (by exact dI) rfl (aa rfl _) ?_;simp only[List.length_map];refine zQ 4 ?_;refine qi hH bZ fun Q8 Nn=>?_;refine zQ 1 ?_;refine ab.lD (z:=((code.length+min (bD q.l).sz 401:Nat):Int)) rfl (ev rfl) (ev rfl) (by(try simp only[List.length_reverse,List.length_cons,List.length_nil,List.length_append,List.length_map,List.length_set]);rw[wrap_i64 (by omega) (by omega)]<;>omega) (aa rfl _) ?_;refine ab.lD (z:=((code.length+min (bD q.l).sz 401+3:Nat):Int)) rfl (ev rfl) (ev rfl) (by(try simp only[List.length_reverse,List.length_cons,List.length_nil,List.length_append,List.length_map,List.length_set]);rw[wrap_i64 (by omega) (by omega)]<;>omega) (aa rfl _) ?_;refine zQ 2 ?_
    by_cases HV:400<code.length+min (bD q.l).sz 401+3
    ·rw[if_pos HV] at hX;have iz:decide (((code.length+min (bD q.l).sz 401+3:Nat):Int)>400)=true:=by rw[decide_eq_true_eq];omega
     refine qD rfl (by rw[iz]) ?_;refine zQ 2 ?_;refine ab.go (d:=.agg [.nul,.nul]) (st1:=_) rfl rfl rfl (aa rfl _) ?_;refine qm ?_;refine qS hH gk fun st hH=>?_;dsimp only[u2,u1,u3,u4,setMany,u5,u6,D.cells,Nat.reduceAdd,aK,aV,az,Cf] at hH;refine zQ 3 ?_;rw[←hX];refine ah.ret ⟨rx,_,hH.kW rfl gk rfl rfl rfl,rl cD hH (hfz _ 12 r)⟩
    ·rw[if_neg HV] at hX;have iz:decide (((code.length+min (bD q.l).sz 401+3:Nat):Int)>400)=false:=by rw[decide_eq_false_iff_not];omega
     refine qE rfl (by rw[iz]) ?_;refine zQ 1 ?_;have hH:=hH.front bZ;have hH:=hH.front dI;have hH:=hH.front eJ;have hH:Has s0.bs.length S st (.box k14 (.mem 0 false [cd,q.d,.win k33 0 0 q.l.length 1,.win k36 0 0 q.l.length 1])::.deep dk cd 4 (code.map aK)::.aI (.win k33 0 0 q.l.length 1) 1 ((bD q.l).zs.map az)::.aI (.win k36 0 0 q.l.length 1) 1 (((bD q.l).es 0).map az)::.aI sd 1 (av.map az)::.box k2 (.mem 0 false [.nul,.nul])::[]):=hH;refine zQ 4 ?_;refine ab.go (d:=.agg [.int .i64 4,.int .i64 0,.int .i64 0,.nul]) (st1:=_) rfl rfl rfl (aa rfl _) ?_;have hH:=hH.e_ 2;obtain⟨_,st,aG,rfl,cd,dk,hH⟩:=gg (rs:=[]) hF (by omega) hH;refine qv aG ?_;refine qh (s:=1) (vs:=[_]) hH fun k75 st SR hH=>?_;refine ab.bT (s:=1) hH rfl (ev rfl) (ev rfl) (by exact gk) (by exact hH.rows (by exact aS)) rfl rfl rfl rfl rfl rfl rfl ⟨(Nat.le_of_ble_eq_true rfl),(Nat.le_of_ble_eq_true rfl)⟩ (fun _=>(aa rfl _)) (by simp only[List.length_cons,List.length_nil,List.length_map]<;>omega) (by exact .inl hF) (fun QO st hH=>?_);dsimp only[u2,u1,u3,u4,setMany,u5,u6,D.cells,Nat.reduceAdd,aK,aV,az,Cf] at hH;refine zQ 2 ?_;have hH:=hH.drop 1;have lV:(code++[bX 4 0 0 []]).length=code.length+1:=by simp
     refine zQ 3 ?_;obtain⟨_,st,aG,rfl,cd,dk,hH⟩:=Fv wM.nl wM.i _ (bD q.l) (Nat.le_refl _) hF wM.c (at_:=0) (by rw[Ho];exact fw.all _) (fw.all _) (fw.all _) rY (by omega) ⟨cd,dk,hH⟩;refine qv aG ?_;refine zQ 1 ?_;rw[lV] at hH;have mA:(code++[bX 4 0 0 []]++aF (bD q.l) (code.length+1)).length=code.length+1+(bD q.l).sz:=by rw[List.length_append,lV,bp _ _ rY]
     refine zQ 3 ?_;refine ab.go (d:=.agg [.int .i64 4,.int .i64 1,.int .i64 0,.nul]) (st1:=_) rfl rfl rfl (aa rfl _) ?_;have hH:=hH.e_ 2;obtain⟨_,st,aG,rfl,cd,dk,hH⟩:=gg (rs:=[]) hF (by omega) hH;refine qv aG ?_;refine zQ 1 ?_;have BI:(code++[bX 4 0 0 []]++aF (bD q.l) (code.length+1)++[bX 4 1 0 []]).length=code.length+1+(bD q.l).sz+1:=by rw[List.length_append,mA];rfl
     refine zQ 3 ?_;refine ab.go (d:=.agg [.int .i64 7,.int .i64 (r:Nat),.int .i64 0,.nul]) (st1:=_) rfl rfl rfl (aa rfl _) ?_;have hH:=hH.e_ 2;obtain⟨_,st,aG,rfl,cd,dk,hH⟩:=gg (rs:=[]) hF (by omega) hH;refine qv aG ?_;refine zQ 1 ?_
     have RX:code++[bX 4 0 0 []]++aF (bD q.l) (code.length+1)++[bX 4 1 0 []]++[bX 7 (r:Nat) 0 []]=code++bK (bD q.l) code.length r:=by
      unfold bK;simp
     rw[RX] at hH;have hH:=(hH.erase 2).erase 2;have hH:=hH.front bZ;have hH:=hH.front cU;refine zQ 4 ?_;exact⟨mm-1,by omega,⟨r+1,cd,q.d,.win k33 0 0 q.l.length 1,.win k36 0 0 q.l.length 1,QO,dk,code++bK (bD q.l) code.length r,av++[((code.length:Nat):Int)],rfl,(by rw[List.map_append (f:=az)];exact hH),by omega,hX,by rw[List.length_append,gP rY];omega,by rw[List.length_append];simp only[List.length_cons,List.length_nil];omega⟩⟩
  ·refine qq<|qE rfl (by simp;omega) ?_;refine zQ 1 ?_;rw[List.drop_of_length_le (by omega),List.map_nil,nT] at hX;refine zQ 7 ?_;refine ab.gm (qs:=[(0,_),(1,_)]) rfl rfl rfl rfl ⟨rfl,(ev rfl),(by exact hH.nS (by exact bZ)),rfl,(ev rfl),(by exact hH.fI (by exact aS)),trivial⟩ (by intro q hq;simp only[List.mem_cons,List.not_mem_nil,or_false] at hq;rcases hq with rfl|rfl<;>exact⟨rfl,by exact Nat.le_of_ble_eq_true rfl⟩) (by show List.foldl _ [_,_] _=_;dsimp only[List.foldl_cons,List.foldl_nil,u2,u1]<;>rfl) (aa rfl _) ?_;refine qS hH dI fun st hH=>?_;dsimp only[u2,u1,u3,u4,setMany,u5,u6,D.cells,Nat.reduceAdd,aK,aV,az,Cf] at hH;refine zQ 3 ?_;rw[←hX];have h1:=hH.w6 bZ (n:=13) (by decide);have h2:=hH.Av aS (nM _) (n:=14) (by decide)
   have h4:bo st s0.bs.length false 15 (.agg [cd,sd])=some (mX code av).d:=by
    show(iv (bo st s0.bs.length false 14) [cd,sd]).map D.agg=_;simp only[iv,h1,h2,Option.map_some];rfl
   have h3:bo st s0.bs.length false 16 (rT [.agg [cd,sd],.int .i64 0,.int .i64 0])=some (oJ ⟨code,av,0,0⟩):=by
    show(iv (bo st s0.bs.length false 15) [.agg [cd,sd],.int .i64 0,.int .i64 0]).map D.tup=_;simp only[iv,h4];rfl
   exact ah.ret ⟨rx,_,hH.kW rfl dI rfl rfl rfl,rl cD hH h3⟩
theorem xl:∀(ls:List (List cg)) (r:Nat) (c:List aC) (s:List Int),(∀l∈ls,∀n∈l,n.rs.length≤1048576)→(∀i∈c,jv i)→c.length≤400→s.length≤r→(∀i∈(dG ls r c s).code,jv i)∧(dG ls r c s).code.length≤400∧(dG ls r c s).av.length≤r+ls.length
 |[],r,c,s,_,h1,h2,h3=>by rw[nT];exact⟨h1,h2,by simpa using h3⟩
 |l::ls,r,c,s,h0,h1,h2,h3=>by
  have Qm:∀e w:Int,(∀i∈(tL.mk [] [] e w).code,jv i)∧(tL.mk [] [] e w).code.length≤400∧(tL.mk [] [] e w).av.length≤r+(l::ls).length:=fun e w=>⟨fun i hi=>(by cases hi),by simp,by simp⟩
  rw[dG]
  split
  ·exact Qm _ _
  ·rename_i hr;rw[Bool.not_eq_false] at hr
   split
   ·exact Qm _ _
   ·rename_i hb;obtain⟨t1,t2⟩:=l_ hr
    obtain⟨h4,h5,h6⟩:=xl ls (r+1) (c++bK (bD l) c.length r) (s++[((c.length:Nat):Int)]) (fun l' gS=>h0 l' (List.mem_cons_of_mem _ gS)) (fun i hi=>by
     rcases List.mem_append.1 hi with hi|hi
     ·exact h1 i hi
     ·exact Ff (by rw[t2];exact h0 l (List.mem_cons_self ..)) i hi) (by rw[List.length_append,gP t1];omega) (by rw[List.length_append];simp only[List.length_cons,List.length_nil];omega)
    exact⟨h4,h5,by simp only[List.length_cons];omega⟩
theorem xk {ls:List (List cg)} (h:∀l∈ls,∀n∈l,n.rs.length≤1048576):(mX (aw ls).code (aw ls).av).ok∧(aw ls).code.length≤400:=by
 unfold aw
 split
 ·exact⟨C4 (fun i hi=>(by cases hi)) (by simp) (by simp),by simp⟩
 ·obtain⟨h1,h2,h3⟩:=xl ls 0 [] [] h (fun i hi=>by cases hi) (by simp) (by simp);exact⟨C4 h1 (by omega) (by omega),h2⟩
def GY (b:List UInt8):List D:=[.str b]
theorem E7 {l:List (List UInt8)} {i:Nat} {q:List UInt8} (h:l[i]?=some q):(l.map GY)[i]?=some (GY q):=by rw[List.getElem?_map,h];rfl
theorem Hc {parts:List (List cg)} (h:∀l∈parts,(∀n∈l,tJ n)∧l.length≤500):∀r∈parts.map (fun l=>(⟨uj l,l⟩:Nl)),r.ok:=by
 intro r hr;obtain⟨l,hl,rfl⟩:=List.mem_map.1 hr;exact Jh (h l hl).1 (by have:=(h l hl).2;omega)
theorem Di {parts:List (List cg)}:(parts.map (fun l=>(⟨uj l,l⟩:Nl))).map Cf=parts.map dM:=by
 rw[List.map_map];rfl
theorem y8 {s0:St} {y:D} {parts:List (List cg)} (h:∀l∈parts,(∀n∈l,tJ n)∧l.length≤500) (hl:parts.length≤1048576) (hy:V.Rows s0 1 y (parts.map dM)):Ev pv 12 [y] s0 (oJ (aw parts)) s0∧(mX (aw parts).code (aw parts).av).ok∧(aw parts).code.length≤400:=by
 have h1:=y7 (s0:=s0) (x:=y) (rules:=parts.map (fun l=>(⟨uj l,l⟩:Nl))) (by rw[Di];exact hy) (Hc h) (by rw[List.length_map];exact hl);have h2:(parts.map (fun l=>(⟨uj l,l⟩:Nl))).map (·.l)=parts:=by rw[List.map_map];exact List.map_id _
 rw[h2] at h1;exact⟨h1,xk fun l hl n hn=>((h l hl).1 n hn).2.1⟩
def xG (n:Nat) (i:aC):aC:=if i.op=2 then⟨2,i.x+n,i.y+n,i.rd,i.rs⟩ else if i.op=3 then⟨3,i.x+n,i.y,i.rd,i.rs⟩ else i
theorem pA (n:Nat) {op:Int} (x y:Int) (rs:List Rg) (h2:op≠2) (h3:op≠3):xG n (bX op x y rs)=bX op x y rs:=by
 unfold xG bX;rw[if_neg h2,if_neg h3]
theorem x0 (n s o:Nat) (lz:Bool):xG n (kS s o lz)=kS (s+n) (o+n) lz:=by
 cases lz
 ·show(⟨2,((s+1:Nat):Int)+n,(o:Int)+n,_,_⟩:aC)=bX 2 ((s+n+1:Nat):Int) ((o+n:Nat):Int) [];unfold bX
  congr 1;omega
 ·show(⟨2,(o:Int)+n,((s+1:Nat):Int)+n,_,_⟩:aC)=bX 2 ((o+n:Nat):Int) ((s+n+1:Nat):Int) [];unfold bX
  congr 1;omega
theorem CL (n e:Nat):xG n (jk e)=jk (e+n):=by
 show(⟨3,(e:Int)+n,0,_,_⟩:aC)=bX 3 ((e+n:Nat):Int) 0 [];unfold bX
 congr 1
theorem tW {c:Nat→List aC} {z n:Nat} (hc:∀b,c (b+n)=(c b).map (xG n)):∀k b,eC c z k (b+n)=(eC c z k b).map (xG n)
 |0,b=>rfl
 |k+1,b=>by
  have h:=tW hc (z:=z) k (b+z);rw[Nat.add_right_comm] at h;rw[eC,eC,List.map_append,hc,h]
theorem zV {sp PI:Nat→aC} {c:Nat→List aC} {z n:Nat} (hs:∀s,PI (s+n)=xG n (sp s)) (hc:∀b,c (b+n)=(c b).map (xG n)):∀k b,eD PI c z k (b+n)=(eD sp c z k b).map (xG n)
 |0,b=>rfl
 |k+1,b=>by
  have h:=zV hs hc (z:=z) k (b+1+z);have e1:b+1+z+n=b+n+1+z:=by omega
  have e2:b+n+1=b+1+n:=by omega
  rw[e1] at h;rw[eD,eD,List.map_cons,List.map_append,hs,h,e2,hc]
theorem Fg {nd:cg} {c:Nat→List aC} {z n b:Nat} (hc:∀b,c (b+n)=(c b).map (xG n)):lL nd c z (b+n)=(lL nd c z b).map (xG n):=by
 unfold lL
 split
 ·rw[List.map_append,tW hc,List.map_cons,List.map_append,x0,List.map_cons,List.map_nil,CL];have e1:b+n+nd.mn.toNat*z=b+nd.mn.toNat*z+n:=by omega
  have e2:b+nd.mn.toNat*z+n+1=b+nd.mn.toNat*z+1+n:=by omega
  have e3:b+nd.mn.toNat*z+n+z+2=b+nd.mn.toNat*z+z+2+n:=by omega
  rw[e1,e2,e3,hc]
 ·rw[List.map_append,tW hc];have e1:b+n+nd.mn.toNat*z=b+nd.mn.toNat*z+n:=by omega
  rw[e1]
  congr 1
  refine zV (fun s=>?_) hc _ _;rw[x0]
  congr 1
  omega
mutual
theorem mJ (n:Nat):∀(t:Tr) (b:Nat),aF t (b+n)=(aF t b).map (xG n)
 | .mk nd ks,b=>by
  have hc:=fun b=>AA n ks b;have ha:=fun e b=>AL n e ks b;simp only[aF]
  split
  ·rw[List.map_cons,List.map_nil,pA _ _ _ _ (by decide) (by decide)]
  split
  ·rw[List.map_cons,List.map_nil,pA _ _ _ _ (by decide) (by decide)]
  split
  ·rw[List.map_cons,List.map_nil,pA _ _ _ _ (by decide) (by decide)]
  split
  ·exact hc b
  split
  ·rw[Nat.add_right_comm];exact ha _ b
  split
  ·exact Fg hc
  split
  ·rw[List.map_cons,List.map_append,List.map_cons,List.map_nil,pA _ _ _ _ (by decide) (by decide),pA _ _ _ _ (by decide) (by decide),Nat.add_right_comm,hc]
  ·rfl
theorem AA (n:Nat):∀(ts:bj) (b:Nat),eU ts (b+n)=(eU ts b).map (xG n)
 | .nil,b=>by simp only[eU,List.map_nil]
 | .cons t ts,b=>by
  have h:=AA n ts (b+t.sz);rw[Nat.add_right_comm] at h;simp only[eU,List.map_append];rw[mJ n t b,h]
theorem AL (n:Nat):∀(e:Nat) (ts:bj) (b:Nat),du (jk (e+n)) ts (b+n)=(du (jk e) ts b).map (xG n)
 |e,.nil,b=>by simp only[du,List.map_nil]
 |e,.cons t ts,b=>by
  have h:=AL n e ts (b+t.sz+2);have h1:=mJ n t (b+1);have e1:b+t.sz+2+n=b+n+t.sz+2:=by omega
  have e2:b+1+n=b+n+1:=by omega
  have e3:b+1+t.sz+1+n=b+n+1+t.sz+1:=by omega
  rw[e1] at h;rw[e2] at h1;simp only[du]
  split
  ·exact mJ n t b
  ·rw[List.map_cons,List.map_append,List.map_cons,x0,CL,h1,h,e3]
end
def mZ (lo hi:Nat) (i:aC):Prop:=i.op≠7∧(i.op=2→((lo:Int)≤i.x∧i.x≤hi)∧(lo:Int)≤i.y∧i.y≤hi)∧(i.op=3→(lo:Int)≤i.x∧i.x≤hi)
theorem mZ.mono {lo hi s_ gT:Nat} {i:aC} (h:mZ lo hi i) (h1:s_≤lo) (h2:hi≤gT):mZ s_ gT i:=
 ⟨h.1,fun e=>by have:=h.2.1 e;omega,fun e=>by have:=h.2.2 e;omega⟩
theorem mZ.mk {lo hi:Nat} {op:Int} (x y:Int) (rs:List Rg) (h2:op≠2) (h3:op≠3) (h7:op≠7):mZ lo hi (bX op x y rs):=⟨h7,fun h=>absurd h h2,fun h=>absurd h h3⟩
theorem mZ.sp {lo hi s o:Nat} {lz:Bool} (h1:lo≤s+1∧s+1≤hi) (h2:lo≤o∧o≤hi):mZ lo hi (kS s o lz):=by
 cases lz
 ·exact⟨by show(2:Int)≠7;decide,fun _=>by show((lo:Int)≤((s+1:Nat):Int)∧((s+1:Nat):Int)≤hi)∧(lo:Int)≤(o:Int)∧(o:Int)≤hi;omega,fun h=>absurd h (by show¬(2:Int)=3;decide)⟩
 ·exact⟨by show(2:Int)≠7;decide,fun _=>by show((lo:Int)≤(o:Int)∧(o:Int)≤hi)∧(lo:Int)≤((s+1:Nat):Int)∧((s+1:Nat):Int)≤hi;omega,fun h=>absurd h (by show¬(2:Int)=3;decide)⟩
theorem mZ.jp {lo hi e:Nat} (h1:lo≤e∧e≤hi):mZ lo hi (jk e):=
 ⟨by show(3:Int)≠7;decide,fun h=>absurd h (by show¬(3:Int)=2;decide),fun _=>by show(lo:Int)≤(e:Int)∧(e:Int)≤hi;omega⟩
theorem tX {c:Nat→List aC} {z:Nat} (hc:∀b,∀i∈c b,mZ b (b+z) i):∀k b,∀i∈eC c z k b,mZ b (b+k*z) i
 |0,b,i,hi=>by cases hi
 |k+1,b,i,hi=>by
  simp only[eC] at hi;rw[Nat.succ_mul]
  rcases List.mem_append.1 hi with hi|hi
  ·exact(hc b i hi).mono (Nat.le_refl _) (by omega)
  ·exact(tX hc k _ i hi).mono (by omega) (by omega)
theorem zW {sp:Nat→aC} {c:Nat→List aC} {z lo hi:Nat} (hs:∀s,lo≤s→s+1≤hi→mZ lo hi (sp s)) (hc:∀b,∀i∈c b,mZ b (b+z) i):∀k b,lo≤b→b+k*(z+1)≤hi→∀i∈eD sp c z k b,mZ lo hi i
 |0,b,_,_,i,gT=>by cases gT
 |k+1,b,h1,h2,i,gT=>by
  simp only[eD] at gT;rw[Nat.succ_mul] at h2
  rcases List.mem_cons.1 gT with rfl|gT
  ·exact hs b h1 (by omega)
  ·rcases List.mem_append.1 gT with gT|gT
   ·exact(hc _ i gT).mono (by omega) (by omega)
   ·exact zW hs hc k _ (by omega) (by omega) i gT
mutual
theorem kH:∀(t:Tr) (b:Nat),t.ok→∀i∈aF t b,mZ b (b+t.sz) i
 | .mk n ks,b,aY,i,hi=>by
  simp only[Tr.ok] at aY;have hc:=fun b=>AB ks b aY.2;obtain⟨_,hq⟩:=aY.1;simp only[aF] at hi;simp only[Tr.sz]
  by_cases q2:n.op=2
  ·rw[if_pos q2] at hi;simp only[List.mem_cons,List.not_mem_nil,or_false] at hi;subst hi;exact mZ.mk _ _ _ (by decide) (by decide) (by decide)
  rw[if_neg q2] at hi
  by_cases q7:n.op=7
  ·rw[if_pos q7] at hi;simp only[List.mem_cons,List.not_mem_nil,or_false] at hi;subst hi;exact mZ.mk _ _ _ (by decide) (by decide) (by decide)
  rw[if_neg q7] at hi
  by_cases q8:n.op=8
  ·rw[if_pos q8] at hi;simp only[List.mem_cons,List.not_mem_nil,or_false] at hi;subst hi;exact mZ.mk _ _ _ (by decide) (by decide) (by decide)
  rw[if_neg q8] at hi
  have hz:∀s k,bk n s k=if n.op=4 then s+2*(k-1) else if n.op=6 then s+2 else if n.op=5 then(if n.mx=-1 then n.mn.toNat*s+s+2 else n.mn.toNat*s+(n.mx.toNat-n.mn.toNat)*(s+1)) else s:=by
   intro s k;unfold bk;rw[if_neg (by omega)]
  by_cases q3:n.op=3
  ·rw[if_pos q3] at hi;rw[hz,if_neg (by omega),if_neg (by omega),if_neg (by omega)];exact hc b i hi
  rw[if_neg q3] at hi
  by_cases q4:n.op=4
  ·rw[if_pos q4] at hi;have Jx:bk n ks.sz ks.len=ks.sz+2*(ks.len-1):=by rw[hz,if_pos q4]
   rw[Jx] at hi⊢;exact AO ks b (b+(ks.sz+2*(ks.len-1))) aY.2 (Nat.le_refl _) i hi
  rw[if_neg q4] at hi
  by_cases q5:n.op=5
  ·rw[if_pos q5] at hi;rw[hz,if_neg q4,if_neg (by omega),if_pos q5];unfold lL at hi
   by_cases qm:n.mx=-1
   ·rw[if_pos qm] at hi⊢
    rcases List.mem_append.1 hi with hi|hi
    ·exact(tX hc _ _ i hi).mono (Nat.le_refl _) (by omega)
    ·rcases List.mem_cons.1 hi with rfl|hi
     ·exact mZ.sp (by omega) (by omega)
     ·rcases List.mem_append.1 hi with hi|hi
      ·exact(hc _ i hi).mono (by omega) (by omega)
      ·simp only[List.mem_cons,List.not_mem_nil,or_false] at hi;subst hi;exact mZ.jp (by omega)
   ·rw[if_neg qm] at hi⊢
    rcases List.mem_append.1 hi with hi|hi
    ·exact(tX hc _ _ i hi).mono (Nat.le_refl _) (by omega)
    ·exact zW (fun s h1 h2=>mZ.sp (by omega) (by omega)) hc _ _ (by omega) (by omega) i hi
  rw[if_neg q5] at hi
  by_cases q6:n.op=6
  ·rw[if_pos q6] at hi;rw[hz,if_neg q4,if_pos q6]
   rcases List.mem_cons.1 hi with rfl|hi
   ·exact mZ.mk _ _ _ (by decide) (by decide) (by decide)
   ·rcases List.mem_append.1 hi with hi|hi
    ·exact(hc _ i hi).mono (by omega) (by omega)
    ·simp only[List.mem_cons,List.not_mem_nil,or_false] at hi;subst hi;exact mZ.mk _ _ _ (by decide) (by decide) (by decide)
  ·rw[if_neg q6] at hi;cases hi
theorem AB:∀(ts:bj) (b:Nat),ts.ok→∀i∈eU ts b,mZ b (b+ts.sz) i
 | .nil,b,_,i,hi=>by simp[eU] at hi
 | .cons t ts,b,aY,i,hi=>by
  simp only[bj.ok] at aY;simp only[eU] at hi;simp only[bj.sz]
  rcases List.mem_append.1 hi with hi|hi
  ·exact(kH t b aY.1 i hi).mono (Nat.le_refl _) (by omega)
  ·exact(AB ts _ aY.2 i hi).mono (by omega) (by omega)
theorem AO:∀(ts:bj) (b e:Nat),ts.ok→b+(ts.sz+2*(ts.len-1))≤e→∀i∈du (jk e) ts b,mZ b e i
 | .nil,b,e,_,_,i,hi=>by simp[du] at hi
 | .cons t ts,b,e,aY,he,i,hi=>by
  simp only[bj.ok] at aY;simp only[du] at hi;simp only[bj.sz,bj.len] at he
  by_cases q:ts.len=0
  ·rw[if_pos q] at hi;exact(kH t b aY.1 i hi).mono (Nat.le_refl _) (by omega)
  ·rw[if_neg q] at hi
   rcases List.mem_cons.1 hi with rfl|hi
   ·exact mZ.sp (by omega) (by omega)
   ·rcases List.mem_append.1 hi with hi|hi
    ·exact(kH t _ aY.1 i hi).mono (by omega) (by omega)
    ·rcases List.mem_cons.1 hi with rfl|hi
     ·exact mZ.jp (by omega)
     ·exact(AO ts _ e aY.2 (by omega) i hi).mono (by omega) (by omega)
end
def sx (n:Nat) (i:aC):aC:=if i.op=2 then⟨2,i.x+n,i.y+n,i.rd,i.rs⟩ else if i.op=3 then⟨3,i.x+n,i.y,i.rd,i.rs⟩ else if i.op=7 then⟨7,1,i.y,i.rd,i.rs⟩ else i
theorem EY {lo hi n:Nat} {i:aC} (h:mZ lo hi i):sx n i=xG n i:=by
 unfold sx xG;rw[if_neg h.1]
theorem A5 {t:Tr} (h:t.ok) (n:Nat):bK t n 1=(bK t 0 0).map (sx n):=by
 unfold bK;have h1:=mJ n t 1;rw[Nat.add_comm 1 n] at h1;rw[h1,List.map_cons,List.map_append]
 congr 1
 congr 1
 exact(List.map_congr_left fun i hi=>EY (kH t 1 h i hi)).symm
theorem Fe {t:Tr} (h:t.ok):∀i∈bK t 0 0,i.op=2∨i.op=3→(0≤i.x∧i.x≤t.sz+1)∧(i.op=2→0≤i.y∧i.y≤t.sz+1):=by
 intro i hi ho;unfold bK at hi
 rcases List.mem_cons.1 hi with rfl|hi
 ·exact absurd ho (by show¬((4:Int)=2∨(4:Int)=3);decide)
 ·rcases List.mem_append.1 hi with hi|hi
  ·obtain⟨_,h2,h3⟩:=kH t _ h i hi
   rcases ho with ho|ho
   ·have:=h2 ho;omega
   ·have:=h3 ho;exact⟨by omega,fun h=>by omega⟩
  ·simp only[List.mem_cons,List.not_mem_nil,or_false] at hi
   rcases hi with rfl|rfl
   ·exact absurd ho (by show¬((4:Int)=2∨(4:Int)=3);decide)
   ·exact absurd ho (by show¬((7:Int)=2∨(7:Int)=3);decide)
theorem lX (r:Nat) (c:List aC) (s:List Int):dG [] r c s=⟨c,s,0,0⟩:=by simp only[dG]
theorem kG (a:List cg):aw [a]=if dq a=false then⟨[],[],1,0⟩ else if 400<min (bD a).sz 401+3 then⟨[],[],12,0⟩ else⟨bK (bD a) 0 0,[0],0,0⟩:=by
 unfold aw;rw[if_neg (by simp),dG];simp only[lX,List.length_nil,List.nil_append,Nat.zero_add]
 rfl
theorem oL (a b:List cg):
  (((aw [a]).e≠0∨(aw [b]).e≠0)∧(aw [a,b]).e≠0∧(aw [a,b]).code=[]∧(((aw [a,b]).w==0)==((aw [a]).e !=0))=true)∨
  ((aw [a]).e=0∧(aw [b]).e=0∧400<(aw [a]).code.length+(aw [b]).code.length∧(aw [a,b]).e=12∧(aw [a,b]).w=1)∨
  ((aw [a]).e=0∧(aw [b]).e=0∧(aw [a]).code.length+(aw [b]).code.length≤400∧(aw [a,b]).e=0∧(aw [a,b]).av=[0,((aw [a]).code.length:Int)]∧(aw [a,b]).code=(aw [a]).code++(aw [b]).code.map (sx (aw [a]).code.length)∧∀i∈(aw [b]).code,i.op=2∨i.op=3→(0≤i.x∧i.x≤1000)∧(i.op=2→0≤i.y∧i.y≤1000)):=by
 have hB:aw [a,b]=if dq a=false then⟨[],[],1,0⟩ else if 400<min (bD a).sz 401+3 then⟨[],[],12,0⟩ else if dq b=false then⟨[],[],1,1⟩ else if 400<(bK (bD a) 0 0).length+min (bD b).sz 401+3 then⟨[],[],12,1⟩ else⟨bK (bD a) 0 0++bK (bD b) (bK (bD a) 0 0).length 1,[0,((bK (bD a) 0 0).length:Int)],0,0⟩:=by
  unfold aw;rw[if_neg (by simp),dG,dG];simp only[lX,List.length_nil,List.nil_append,Nat.zero_add]
  rfl
 rw[hB,kG a,kG b]
 by_cases ha:dq a=false
 ·rw[if_pos ha,if_pos ha];exact .inl ⟨.inl (by decide),by decide,rfl,by decide⟩
 rw[if_neg ha,if_neg ha];have MW:=(l_ (by rw[←Bool.not_eq_false];exact ha)).1
 by_cases LI:400<min (bD a).sz 401+3
 ·rw[if_pos LI,if_pos LI];exact .inl ⟨.inl (by decide),by decide,rfl,by decide⟩
 rw[if_neg LI,if_neg LI];have hla:=gP (b:=0) (r:=0) MW
 by_cases hb:dq b=false
 ·rw[if_pos hb,if_pos hb];exact .inl ⟨.inr (by decide),by decide,rfl,rfl⟩
 rw[if_neg hb,if_neg hb];have JC:=(l_ (by rw[←Bool.not_eq_false];exact hb)).1;have U0:=gP (b:=0) (r:=0) JC
 by_cases D4:400<min (bD b).sz 401+3
 ·rw[if_pos D4,if_pos (by omega)];exact .inl ⟨.inr (by decide),by decide,rfl,rfl⟩
 rw[if_neg D4]
 by_cases eS:400<(bK (bD a) 0 0).length+min (bD b).sz 401+3
 ·rw[if_pos eS];exact .inr (.inl ⟨rfl,rfl,by simp only;omega,rfl,rfl⟩)
 ·rw[if_neg eS];refine .inr (.inr ⟨rfl,rfl,by simp only;omega,rfl,rfl,?_,fun i hi ho=>?_⟩)
  ·simp only;rw[A5 JC]
  ·have:=Fe JC i hi ho;omega
theorem xi {code:List aC} {pc:Nat} {i:aC} (h:(code.map ek)[pc]?=some i):∃q,code[pc]?=some q∧i=ek q:=by
 rw[List.getElem?_map] at h;obtain⟨q,hq,rfl⟩:=Option.map_eq_some_iff.1 h;exact⟨q,hq,rfl⟩
theorem get_copy {code:List aC} {pc:Nat} {i:aC} (h:code[pc]?=some i):(code.map ek)[pc]?=some (ek i):=by
 rw[List.getElem?_map,h];rfl
theorem xf (code:List aC):∀(f:Nat) (seen:List Bool) (cS:List Int),y0 (code.map ek) f seen cS=y0 code f seen cS
 |0,_,_=>rfl
 |_+1,_,[]=>rfl
 |f+1,seen,v::cS=>by
  have ih:=xf code f;unfold y0;rw[List.getElem?_map]
  cases h1:seen[v.toNat]? with
  |none=>exact ih _ _
  |some b=>
   cases b with
   |true=>exact ih _ _
   |false=>
    cases h2:code[v.toNat]? with
    |none=>rfl
    |some i=>exact ih _ _
theorem pM (code:List aC) (s:Int):cu (code.map ek) s=cu code s:=by
 unfold cu;rw[List.length_map,xf]
theorem x7 {p q:Pg} (h1:q.code=p.code.map ek) (h2:q.av=p.av):a_ q↔a_ p:=by
 have hl:q.code.length=p.code.length:=by rw[h1];simp
 constructor
 ·intro h;refine⟨by rw[←hl];exact h.cl,by rw[←h2];exact h.sl,fun pc i hi=>?_,fun v hv=>?_,fun r s hs pc i DK FQ hi fM=>?_⟩
  ·have:=h.sh pc (ek i) (by rw[h1];exact get_copy hi);rw[hl,h2] at this;exact this
  ·have:=h.st v (by rw[h2];exact hv);rw[hl] at this;exact this
  ·exact h.fo r s (by rw[h2];exact hs) pc (ek i) (by rw[hl];exact DK) (by rw[h1,pM];exact FQ) (by rw[h1];exact get_copy hi) fM
 ·intro h;refine⟨by rw[hl];exact h.cl,by rw[h2];exact h.sl,fun pc i hi=>?_,fun v hv=>?_,fun r s hs pc i DK FQ hi fM=>?_⟩
  ·rw[h1] at hi;obtain⟨j,hj,rfl⟩:=xi hi;rw[hl,h2];exact h.sh pc j hj
  ·rw[hl];exact h.st v (by rw[←h2];exact hv)
  ·rw[h1] at hi FQ;rw[pM] at FQ;obtain⟨j,hj,rfl⟩:=xi hi;exact h.fo r s (by rw[←h2];exact hs) pc j (by rw[←hl];exact DK) FQ hj fM
end Go.Proofs.Ytnleclohocdkaaa
