/-
 Of each node how many instructions its code has, and what stands behind it: both lists are filled in place.
-/
import Derived.Test.YthahmilhpmfkfaaGreatVHr
import Derived.Test.YthahmilhpmfkfaaGreatVGQa
set_option maxRecDepth 100000
set_option maxHeartbeats 4000000
set_option linter.unusedSimpArgs false
set_option linter.unusedVariables false
namespace Go.Proofs.YthahmilhpmfkfaaGreat
open Go.V Go
def aL (fr:Go.V.Fr) (k:Nat):Go.V.D:=Go.V.nth .bf fr.loc k
def oy (es:List Int) (a:Nat) (M:List Int):List Int:=es.take a++M++es.drop (a+M.length)
theorem BC {es M:List Int} {a:Nat} (h:a+M.length≤es.length):(oy es a M).length=es.length:=by
 unfold oy;simp only[List.length_append,List.length_take,List.length_drop];omega
theorem BB {es:List Int} {a:Nat}:oy es a []=es:=by
 unfold oy;simp
theorem HV {es M:List Int} {a:Nat} {x:Int} (h:a≤es.length):(oy es a (x::M))[a]?=some x:=by
 unfold oy;rw[List.append_assoc,List.getElem?_append_right (by simp only[List.length_take];omega)];simp[Nat.min_eq_left h]
theorem Bz {es M M':List Int} {a:Nat} (h:a+M.length+M'.length≤es.length):oy (oy es a M) (a+M.length) M'=oy es a (M++M'):=by
 unfold oy;have h1:(es.take a++M).length=a+M.length:=by simp only[List.length_append,List.length_take];omega
 rw[List.take_append_of_le_length (by omega),List.take_of_length_le (by omega)];rw[←h1,List.drop_append,List.drop_eq_nil_of_le (by omega),List.nil_append,h1,List.drop_drop];simp only[List.append_assoc,List.length_append]
 congr 4
 omega
theorem BA {es M:List Int} {a:Nat} {v:Int} (h:a+1+M.length≤es.length):(oy es (a+1) M).set a v=oy es a (v::M):=by
 unfold oy;have h1:(es.take a).length=a:=by simp only[List.length_take];omega
 rw[List.append_assoc,List.take_add_one,List.getElem?_eq_getElem (by omega)];simp only[Option.toList_some,List.append_assoc,List.cons_append,List.nil_append,List.length_cons];rw[List.set_append_right _ _ (by omega),h1,Nat.sub_self,List.set_cons_zero]
 congr 4
 omega
theorem EZ {l:List bp} {d:D} (hl:l.length≤1048576) (hi:∀n∈l,n.ok) (hd:gY d 7 (l.map aH)):∀(m:Nat) (t:Tr),t.flat.length≤m→t.ok→∀{N:Nat} {S s0:St} {H:List aZ} {out:D} {es:List Int} {at_:Nat},gb l at_ t.flat→es.length=l.length→Has N S s0 (.aB out 1 (es.map ay)::H)→
  ∃r ah,Ev pv 45 [d,out,.int .i64 (at_:Nat)] s0 r ah∧r=.int .i64 ((at_+t.flat.length:Nat):Int)∧Has N S ah (.aB out 1 ((oy es at_ t.zs).map ay)::H):=by
 intro m
 induction m with
 |zero=>intro t h;have:=t.jf;omega
 |succ m ih=>
  rintro⟨n,ks⟩ hm cn N S s0 H out es at_ kG tW hH;simp only[Tr.ok] at cn;obtain⟨pb,mM⟩:=cn;simp only[Tr.flat,List.length_cons] at hm;have hle:=kG.le (by simp[Tr.flat]);simp only[Tr.flat] at kG hle;simp only[List.length_cons] at hle;have hn:=kG.head;have kG:=kG.tail;have NJ:=hi n (List.mem_of_getElem? hn);have gr:=mh hn;have Mh:=ym NJ;have DO:=pb.1;have jc:=aE.oX ks;refine Ev.jN rfl SN rfl rfl rfl ?_;refine zE ?_;have bS:=hH;have hH:=hH.bG;have bO:(ag .rw s0).bs=s0.bs:=rfl;generalize ag .rw s0=S2 at*;have hc:=hd.arg N S2;refine zQ 8 ?_;refine qr fun Vc QX=>?_;refine ae.cA rfl (ev rfl) (by assumption) rfl (by dsimp only[Fr.put,u1,u2]<;>rfl) ?_;refine qa hH fun k7 st Pj hH=>?_;refine ae.bC hH rfl (ev rfl) (ev rfl) (by rfl) (by exact rfl) (by exact aG) (by exact rfl) (by exact .inr (by assumption)) (fun st hH=>?_);dsimp only[u2,u1,u3,u4,setMany,u5,u6,D.cells,Nat.reduceAdd,aH,ay] at hH;refine zQ 19 ?_;refine ai.loop (fun mm fr st=>∃(i j ss:Nat) (rest:aE) (qQ:List Int),fr.clean=⟨36,[d,out,.int .i64 (at_:Nat),aL fr 3,aL fr 4,aL fr 5,.int .i64 0,.ptr k7 0 0,.int .i64 (j:Nat),.int .i64 ((min ss 401:Nat):Int),aL fr 10,aL fr 11,aL fr 12,aL fr 13,aL fr 14,aL fr 15,aL fr 16,aL fr 17,.int .i64 n.kids,.int .i64 (i:Nat),aL fr 20,aL fr 21,aL fr 22,aL fr 23,aL fr 24,aL fr 25,aL fr 26,aL fr 27,aL fr 28,aL fr 29,aL fr 30,aL fr 31,aL fr 32,aL fr 33,aL fr 34,aL fr 35],[]⟩∧Has N S2 st (.aB out 1 (qQ.map ay)::.box k7 (.mem 0 false (aH n))::H)∧(mm=rest.len)∧(i+rest.len=ks.len)∧(gb l j rest.flat)∧(rest.ok)∧(ss+rest.sz=ks.sz)∧(qQ.length=l.length)∧(oy qQ j rest.zs=oy es (at_+1) ks.zs)∧(j+rest.flat.length=at_+1+ks.flat.length)∧(rest.flat.length≤m)) (ks.len) ?_ ?_
  ·exact⟨0,at_+1,0,ks,es,rfl,(by have:=hH.front aV;exact this),rfl,by omega,kG,mM,by omega,tW,rfl,rfl,by omega⟩
  rintro mm fr st ⟨i,j,ss,rest,qQ,hfr,hH,AS,wR,qI,kX,Es,AW,tP,hj,hrm⟩;rw[hfr];clear hfr;generalize aL fr=ee;clear fr;refine zQ 4 ?_
  cases rest with
  |nil=>
   simp only[aE.len] at wR;simp only[aE.sz] at Es;simp only[aE.flat,List.length_nil] at hj;simp only[aE.zs,BB] at tP;have gu:decide ((i:Int)<n.kids)=false:=by rw[decide_eq_false_iff_not];omega
   refine qq<|qE rfl (by rw[gu]) ?_;refine zQ 1 ?_;obtain rfl:ss=ks.sz:=by omega
   have kG:=qI;refine zQ 6 ?_;refine ai.merge (fun fr st=>∃(tmp:List (Nat×D)),fr=⟨36,[d,out,.int .i64 (at_:Nat),aL fr 3,aL fr 4,aL fr 5,.int .i64 0,.ptr k7 0 0,.int .i64 (j:Nat),.int .i64 ((br n (min ks.sz 401) ks.len:Nat):Int),aL fr 10,aL fr 11,aL fr 12,aL fr 13,aL fr 14,aL fr 15,aL fr 16,aL fr 17,aL fr 18,aL fr 19,aL fr 20,aL fr 21,aL fr 22,aL fr 23,aL fr 24,aL fr 25,aL fr 26,aL fr 27,aL fr 28,aL fr 29,aL fr 30,aL fr 31,aL fr 32,aL fr 33,aL fr 34,aL fr 35],tmp⟩∧Has N S2 st (.aB out 1 (qQ.map ay)::.box k7 (.mem 0 false (aH n))::H)) ?_ ?_
   ·refine zQ 7 ?_;generalize hw:min ks.sz 401=w;have Qk:w≤401:=by omega
    have gT:ks.len≤9223372036854775→True:=fun _=>trivial
    by_cases q2:n.op=2
    ·have hz:br n w ks.len=1:=by unfold br;rw[if_pos (.inl q2)]
     rw[hz];refine qD rfl (by simp[q2]) ?_;refine zQ 1 ?_;refine qD rfl (by simp[q2]) ?_;refine zQ 3 ?_;exact⟨_,rfl,hH⟩
    refine qE rfl (by simp[q2]) ?_;refine zQ 5 ?_
    by_cases q7:n.op=7
    ·have hz:br n w ks.len=1:=by unfold br;rw[if_pos (.inr (.inl q7))]
     rw[hz];refine qD rfl (by simp[q7]) ?_;refine zQ 1 ?_;refine qD rfl (by simp[q7]) ?_;refine zQ 3 ?_;exact⟨_,rfl,hH⟩
    refine qE rfl (by simp[q7]) ?_;refine zQ 4 ?_
    by_cases q8:n.op=8
    ·have hz:br n w ks.len=1:=by unfold br;rw[if_pos (.inr (.inr q8))]
     rw[hz];refine qD rfl (by simp[q8]) ?_;refine zQ 3 ?_;exact⟨_,rfl,hH⟩
    refine qE rfl (by simp[q8]) ?_
    have hz0:br n w ks.len=if n.op=4 then w+2*(ks.len-1) else if n.op=6 then w+2 else if n.op=5 then(if n.mx=-1 then n.mn.toNat*w+w+2 else n.mn.toNat*w+(n.mx.toNat-n.mn.toNat)*(w+1)) else w:=by
     unfold br;rw[if_neg (by omega)]
    rw[hz0];clear hz0;obtain⟨_,hcs⟩:=pb;have hq:(n.op=1∧ks.len=0)∨((n.op=3∨n.op=4)∧2≤ks.len)∨(n.op=5∧ks.len=1∧0≤n.mn∧n.mn≤30∧(n.mx=-1∨(n.mn≤n.mx∧n.mx≤30)))∨(n.op=6∧ks.len=1∧1≤n.cap∧n.cap≤4):=by omega
    refine zQ 5 ?_
    by_cases q4:n.op=4
    ·rw[if_pos q4];have hk2:2≤ks.len:=by omega
     refine qD rfl (by simp[q4]) ?_;refine zQ 4 ?_;refine ae.mQ (z:=((ks.len-1:Nat):Int)) rfl (ev rfl) (ev rfl) (by(try simp only[List.length_reverse,List.length_cons,List.length_nil,List.length_append,List.length_map,List.length_set]);rw[wrap_i64 (by omega) (by omega)]<;>omega) (aa rfl _) ?_;refine ae.Ap (z:=((2*(ks.len-1):Nat):Int)) rfl (ev rfl) (ev rfl) (by(try simp only[List.length_reverse,List.length_cons,List.length_nil,List.length_append,List.length_map,List.length_set]);rw[wrap_i64 (by omega) (by omega)]<;>omega) (aa rfl _) ?_;refine ae.eN (z:=((w+2*(ks.len-1):Nat):Int)) rfl (ev rfl) (ev rfl) (by(try simp only[List.length_reverse,List.length_cons,List.length_nil,List.length_append,List.length_map,List.length_set]);rw[wrap_i64 (by omega) (by omega)]<;>omega) (aa rfl _) ?_;refine zQ 2 ?_;exact⟨_,rfl,hH⟩
    rw[if_neg q4];refine qE rfl (by simp[q4]) ?_;refine zQ 5 ?_
    by_cases q6:n.op=6
    ·rw[if_pos q6];refine qD rfl (by simp[q6]) ?_;refine zQ 5 ?_;exact⟨_,rfl,hH⟩
    rw[if_neg q6];refine qE rfl (by simp[q6]) ?_;refine zQ 5 ?_
    by_cases q5:n.op=5
    ·rw[if_pos q5];refine qD rfl (by simp[q5]) ?_;refine zQ 6 ?_;have Et:0≤n.mn∧n.mn≤30∧(n.mx=-1∨(n.mn≤n.mx∧n.mx≤30)):=by omega
     obtain⟨a,ha⟩:∃a:Nat,n.mn=(a:Int):=Int.eq_ofNat_of_zero_le Et.1;have Vz:n.mn.toNat=a:=by omega
     have h1:a*w≤30*401:=Nat.mul_le_mul (by omega) Qk;have hmul:n.mn*(w:Int)=((a*w:Nat):Int):=by rw[ha];push_cast;rfl
     rw[Vz]
     by_cases Fg:n.mx=-1
     ·rw[if_pos Fg];refine qD rfl (by simp[Fg]) ?_;refine zQ 4 ?_;refine ae.Ap (z:=((a*w:Nat):Int)) rfl (ev rfl) (ev rfl) (by(try simp only[List.length_reverse,List.length_cons,List.length_nil,List.length_append,List.length_map,List.length_set]);rw[wrap_i64 (by omega) (by omega)]<;>omega) (aa rfl _) ?_;refine qm ?_;refine ae.eN (z:=((a*w+w:Nat):Int)) rfl (ev rfl) (ev rfl) (by(try simp only[List.length_reverse,List.length_cons,List.length_nil,List.length_append,List.length_map,List.length_set]);rw[wrap_i64 (by omega) (by omega)]<;>omega) (aa rfl _) ?_;refine ae.eN (z:=((a*w+w+2:Nat):Int)) rfl (ev rfl) (ev rfl) (by(try simp only[List.length_reverse,List.length_cons,List.length_nil,List.length_append,List.length_map,List.length_set]);rw[wrap_i64 (by omega) (by omega)]<;>omega) (aa rfl _) ?_;refine zQ 2 ?_;exact⟨_,rfl,hH⟩
     ·rw[if_neg Fg];obtain⟨b,hb⟩:∃b:Nat,n.mx=(b:Int):=Int.eq_ofNat_of_zero_le (by omega);have Vy:n.mx.toNat=b:=by omega
      have h2:(b-a)*(w+1)≤30*402:=Nat.mul_le_mul (by omega) (by omega);rw[Vy];refine qE rfl (by simp[Fg]) ?_;refine zQ 4 ?_;refine ae.Ap (z:=((a*w:Nat):Int)) rfl (ev rfl) (ev rfl) (by(try simp only[List.length_reverse,List.length_cons,List.length_nil,List.length_append,List.length_map,List.length_set]);rw[wrap_i64 (by omega) (by omega)]<;>omega) (aa rfl _) ?_;refine zQ 4 ?_;refine ae.mQ (z:=((b-a:Nat):Int)) rfl (ev rfl) (ev rfl) (by(try simp only[List.length_reverse,List.length_cons,List.length_nil,List.length_append,List.length_map,List.length_set]);rw[wrap_i64 (by omega) (by omega)]<;>omega) (aa rfl _) ?_;refine qm ?_;refine ae.eN (z:=((w+1:Nat):Int)) rfl (ev rfl) (ev rfl) (by(try simp only[List.length_reverse,List.length_cons,List.length_nil,List.length_append,List.length_map,List.length_set]);rw[wrap_i64 (by omega) (by omega)]<;>omega) (aa rfl _) ?_;refine ae.Ap (z:=(((b-a)*(w+1):Nat):Int)) rfl (ev rfl) (ev rfl) (by(try simp only[List.length_reverse,List.length_cons,List.length_nil,List.length_append,List.length_map,List.length_set]);rw[wrap_i64 (by omega) (by omega)]<;>omega) (aa rfl _) ?_;refine ae.eN (z:=((a*w+(b-a)*(w+1):Nat):Int)) rfl (ev rfl) (ev rfl) (by(try simp only[List.length_reverse,List.length_cons,List.length_nil,List.length_append,List.length_map,List.length_set]);rw[wrap_i64 (by omega) (by omega)]<;>omega) (aa rfl _) ?_;refine zQ 2 ?_;exact⟨_,rfl,hH⟩
    ·rw[if_neg q5];refine qE rfl (by simp[q5]) ?_;refine zQ 1 ?_;exact⟨_,rfl,hH⟩
   ·rintro fr st ⟨tmp,hfr,hH⟩;rw[hfr];clear hfr;generalize aL fr=ee;clear fr;have lI:=JD (n:=n) (k:=ks.len) (s:=ks.sz);have hat:at_<qQ.length:=by omega
    obtain⟨w,hw⟩:∃w,qQ[at_]?=some w:=⟨qQ[at_]'hat,List.getElem?_eq_getElem _⟩
    have VS:=hD hw;refine zQ 5 ?_;refine ae.M1 (z:=((min (br n ks.sz ks.len) 401:Nat):Int)) (t1:=_) (t2:=_) rfl (ev rfl) (ev rfl) (by omega) (aa rfl _) ?_;refine qi hH aG fun U1 QL=>?_;refine ae.mV hH rfl (ev rfl) (ev rfl) (by assumption) rfl rfl (by exact aG) (by assumption) (Nat.le_of_ble_eq_true rfl) (by exact .inr rfl) (fun st hH=>?_);dsimp only[u2,u1,u3,u4,setMany,u5,u6,D.cells,Nat.reduceAdd,aH,ay] at hH;refine zQ 6 ?_;refine ai.ret ⟨rx,_,_,_,rfl,ak (rfl),?_⟩;have Ln:j=at_+(Tr.mk n ks).flat.length:=by simp only[Tr.flat,List.length_cons];omega
    refine⟨by rw[Ln];rfl,?_⟩
    have iP:oy es at_ (Tr.zs (.mk n ks))=qQ.set at_ ((min (br n ks.sz ks.len) 401:Nat):Int):=by
     rw[tP,BA (by rw[aE.jI];omega)];rfl
    rw[iP,List.map_set];exact bS.sD bO (hH.erase 1)
  |cons t ts=>
   simp only[aE.len] at wR AS;simp only[aE.sz] at Es;simp only[aE.flat,List.length_append] at hj qI hrm;simp only[aE.zs] at tP;simp only[aE.ok] at kX;have gu:decide ((i:Int)<n.kids)=true:=by rw[decide_eq_true_eq];omega
   have Vx:=t.jf;have KW:=t.jI;have hzz:=ts.jI;have Ls:(oy qQ j t.zs).length=l.length:=by rw[BC (by omega)];exact AW
   have Vi:(oy qQ j t.zs)[j]?=some ((min t.sz 401:Nat):Int):=by
    obtain⟨n',JX⟩:=t;simp only[Tr.zs,Tr.sz];exact HV (by omega)
   have Ym:=hD Vi;refine qq<|qD rfl (by rw[gu]) ?_;refine zQ 13 ?_;obtain⟨_,st,aC,rfl,hH⟩:=ih t (by omega) kX.1 qI.left AW hH;refine qv aC ?_;refine zQ 6 ?_;refine qi hH aG fun TQ Nt=>?_;refine zQ 1 ?_;refine ae.eN (z:=((min ss 401+min t.sz 401:Nat):Int)) rfl (ev rfl) (ev rfl) (by(try simp only[List.length_reverse,List.length_cons,List.length_nil,List.length_append,List.length_map,List.length_set]);rw[wrap_i64 (by omega) (by omega)]<;>omega) (by dsimp only[Fr.put,u1,u2]<;>rfl) ?_;refine ae.M1 (z:=((min (ss+t.sz) 401:Nat):Int)) (t1:=_) (t2:=_) rfl (ev rfl) (ev rfl) (by omega) (by dsimp only[Fr.put,u1,u2]<;>rfl) ?_;refine zQ 6 ?_;exact⟨mm-1,by omega,⟨i+1,j+t.flat.length,ss+t.sz,ts,oy qQ j t.zs,rfl,hH,by omega,by omega,qI.right,kX.2,by omega,Ls,by rw[←tP];have:=Bz (es:=qQ) (a:=j) (M:=t.zs) (M':=ts.zs) (by omega);rw[KW] at this;exact this,by omega,by omega⟩⟩
theorem Jl {l:List bp} {d:D} (hl:l.length≤1048576) (hi:∀n∈l,n.ok) (hd:gY d 7 (l.map aH)):∀(m:Nat) (t:Tr),t.flat.length≤m→t.ok→∀{N:Nat} {S s0:St} {H:List aZ} {out:D} {es:List Int} {at_:Nat},gb l at_ t.flat→es.length=l.length→Has N S s0 (.aB out 1 (es.map ay)::H)→
  ∃r ah,Ev pv 46 [d,out,.int .i64 (at_:Nat)] s0 r ah∧r=.int .i64 ((at_+t.flat.length:Nat):Int)∧Has N S ah (.aB out 1 ((oy es at_ (t.es at_)).map ay)::H):=by
 intro m
 induction m with
 |zero=>intro t h;have:=t.jf;omega
 |succ m ih=>
  rintro⟨n,ks⟩ hm cn N S s0 H out es at_ kG tW hH;simp only[Tr.ok] at cn;obtain⟨pb,mM⟩:=cn;simp only[Tr.flat,List.length_cons] at hm;have hle:=kG.le (by simp[Tr.flat]);simp only[Tr.flat] at kG hle;simp only[List.length_cons] at hle;have hn:=kG.head;have kG:=kG.tail;have NJ:=hi n (List.mem_of_getElem? hn);have gr:=mh hn;have DO:=pb.1;have jc:=aE.oX ks;refine Ev.jN rfl SM rfl rfl rfl ?_;refine zE ?_;have bS:=hH;have hH:=hH.bG;have bO:(ag .rw s0).bs=s0.bs:=rfl;generalize ag .rw s0=S2 at*;have hc:=hd.arg N S2;refine zQ 15 ?_;refine qr fun P0 Lb=>?_;refine qf (fo:=6) fun Vc QX=>?_;refine zQ 4 ?_;refine ai.loop (fun mm fr st=>∃(i j:Nat) (rest:aE) (qQ:List Int),fr.clean=⟨16,[d,out,.int .i64 (at_:Nat),aL fr 3,aL fr 4,aL fr 5,.int .i64 0,.int .i64 (j:Nat),aL fr 8,aL fr 9,aL fr 10,aL fr 11,aL fr 12,aL fr 13,.int .i64 n.kids,.int .i64 (i:Nat)],[]⟩∧Has N S2 st (.aB out 1 (qQ.map ay)::H)∧(mm=rest.len)∧(i+rest.len=ks.len)∧(gb l j rest.flat)∧(rest.ok)∧(qQ.length=l.length)∧(oy qQ j (rest.es j)=oy es (at_+1) (ks.es (at_+1)))∧(j+rest.flat.length=at_+1+ks.flat.length)∧(rest.flat.length≤m)) (ks.len) ?_ ?_
  ·exact⟨0,at_+1,ks,es,rfl,hH,rfl,by omega,kG,mM,tW,rfl,rfl,by omega⟩
  rintro mm fr st ⟨i,j,rest,qQ,hfr,hH,AS,wR,qI,kX,AW,tP,hj,hrm⟩;rw[hfr];clear hfr;generalize aL fr=ee;clear fr;refine zQ 4 ?_
  cases rest with
  |nil=>
   simp only[aE.len] at wR;simp only[aE.flat,List.length_nil] at hj;simp only[aE.es,BB] at tP;have gu:decide ((i:Int)<n.kids)=false:=by rw[decide_eq_false_iff_not];omega
   have hat:at_<qQ.length:=by omega
   obtain⟨w,hw⟩:∃w,qQ[at_]?=some w:=⟨qQ[at_]'hat,List.getElem?_eq_getElem _⟩
   have VS:=hD hw;refine qq<|qE rfl (by rw[gu]) ?_;refine zQ 6 ?_;refine qi hH aG fun PX K_=>?_;refine ae.mV hH rfl (ev rfl) (ev rfl) (by assumption) rfl rfl (by exact aG) (by assumption) (Nat.le_of_ble_eq_true rfl) (by exact .inr rfl) (fun st hH=>?_);dsimp only[u2,u1,u3,u4,setMany,u5,u6,D.cells,Nat.reduceAdd,aH,ay] at hH;refine zQ 6 ?_;refine ai.ret ⟨rx,_,_,_,rfl,ak (rfl),?_⟩;have Ln:j=at_+(Tr.mk n ks).flat.length:=by simp only[Tr.flat,List.length_cons];omega
   refine⟨by rw[Ln];rfl,?_⟩
   have iP:oy es at_ (Tr.es (.mk n ks) at_)=qQ.set at_ ((j:Nat):Int):=by
    rw[tP,BA (by rw[aE.jR];omega)];have:j=at_+1+ks.flat.length:=by omega
    rw[this];rfl
   rw[iP,List.map_set];exact bS.sD bO hH
  |cons t ts=>
   simp only[aE.len] at wR AS;simp only[aE.flat,List.length_append] at hj qI hrm;simp only[aE.es] at tP;simp only[aE.ok] at kX;have gu:decide ((i:Int)<n.kids)=true:=by rw[decide_eq_true_eq];omega
   have Vx:=t.jf;have KW:=t.jR j;have hzz:=ts.jR (j+t.flat.length);have Ls:(oy qQ j (t.es j)).length=l.length:=by rw[BC (by omega)];exact AW
   refine qq<|qD rfl (by rw[gu]) ?_;refine zQ 7 ?_;obtain⟨_,st,aC,rfl,hH⟩:=ih t (by omega) kX.1 qI.left AW hH;refine qv aC ?_;refine zQ 6 ?_;exact⟨mm-1,by omega,⟨i+1,j+t.flat.length,ts,oy qQ j (t.es j),rfl,hH,by omega,by omega,qI.right,kX.2,Ls,by rw[←tP];have:=Bz (es:=qQ) (a:=j) (M:=t.es j) (M':=ts.es (j+t.flat.length)) (by omega);rw[KW] at this;exact this,by omega,by omega⟩⟩
variable{bb:Bool}
theorem gX {N k:Nat} {S s0:St} {H:List aZ} {ks:Nat→Prop} {cd nd zd ed w:D} {code:List aK} {op x y:Int} {rs:List Rg} (hF:S.flr≤N) (hl:code.length≤1048576) (hH:Has N S s0 (.aB w 2 (rs.map av)::.box k (.mem 0 false [cd,nd,zd,ed])::.cv bb ks cd 4 (code.map aX)::H)):
  ∃r ah,Ev pv 47 [.ptr k 0 0,.agg [.int .i64 op,.int .i64 x,.int .i64 y,w]] s0 r ah∧r=.int .i64 (code.length:Nat)∧∃UC JX,Has N S ah (.box k (.mem 0 false [UC,nd,zd,ed])::.cv bb JX UC 4 ((code++[cH op x y rs]).map aX)::H):=by
 refine Ev.jN rfl SL rfl rfl rfl ?_;refine zE ?_;change ai _ _ _ _ s0 _;refine zQ 2 ?_;refine qb hH fun k3 st DQ hH=>?_;refine zQ 9 ?_;refine ae.aN (m:=4) hH rfl (ev rfl) (by exact aG) (by dsimp only[List.drop_succ_cons,List.drop_zero,List.take_succ_cons,List.take_zero,aX]<;>rfl) rfl rfl (aa rfl _) ?_;refine qh (s:=4) (vs:=[_]) hH fun k11 st Rt hH=>?_;obtain⟨hH,Xh⟩:=hH.L9 (i:=2) (j:=4) (by decide) bE cW (fX _);dsimp only[u1,u2] at hH;refine ae.xb hH rfl (ev rfl) (ev rfl) cW (hH.rows aG) (.cons (.cons (.plain _ rfl) (.cons (.plain _ rfl) (.cons (.plain _ rfl) (.cons Xh .nil)))) .nil) rfl rfl rfl rfl rfl rfl rfl ⟨(Nat.le_of_ble_eq_true rfl),(Nat.le_of_ble_eq_true rfl)⟩ (fun _=>(aa rfl _)) (by simp only[List.length_map,List.length_cons,List.length_nil];omega) (.inl hF) (fun XW st hH=>?_);dsimp only[u1,u2] at hH;refine zQ 2 ?_;refine ae.kE hH rfl (ev rfl) (ev rfl) (by exact hH.tc (by exact cW)) (by exact rfl) (by exact cD) (by exact Nat.le_of_ble_eq_true rfl) (by exact .inl hF) (fun st hH=>?_);dsimp only[u2,u1,u3,u4,setMany,u5,u6,D.cells,Nat.reduceAdd,aX] at hH;refine zQ 7 ?_;refine ae.D6 hH rfl (ev rfl) (by exact cW) rfl (aa rfl _) ?_;simp only[List.length_map,List.length_append,List.length_cons,List.length_nil];refine ae.mQ (z:=((code.length:Nat):Int)) rfl (ev rfl) (ev rfl) (by(try simp only[List.length_reverse,List.length_cons,List.length_nil,List.length_append,List.length_map,List.length_set]);rw[wrap_i64 (by omega) (by omega)]<;>omega) (aa rfl _) ?_;refine zQ 2 ?_;refine ai.ret ⟨rx,_,_,_,rfl,rfl,?_⟩;exact⟨rfl,_,_,by rw[List.map_append];exact hH.drop 3⟩
theorem rJ {N k:Nat} {S s0:St} {H:List aZ} {ks:Nat→Prop} {cd nd zd ed:D} {code:List aK} {at_ over:Nat} {lz:Bool} {x y:Int} (hat:code[at_]?=some (cH 2 x y [])) (hl:code.length≤1048576) (hH:Has N S s0 (.box k (.mem 0 false [cd,nd,zd,ed])::.cv bb ks cd 4 (code.map aX)::H)):
  ∃r ah,Ev pv 76 [.ptr k 0 0,.int .i64 (at_:Nat),.int .i64 (over:Nat),.bool lz] s0 r ah∧r=.tup []∧Has N S ah (.box k (.mem 0 false [cd,nd,zd,ed])::.cv bb ks cd 4 ((code.set at_ (lX at_ over lz)).map aX)::H):=by
 have hlt:=bX hat;have gr:(code.map aX)[at_]?=some [.int .i64 2,.int .i64 x,.int .i64 y,.sl []]:=mo hat;have iP:∀a b:List D,(code.map aX).set at_ a=(code.map aX).set at_ a:=fun _ _=>rfl;refine Ev.jN rfl Sm rfl rfl rfl ?_;refine zE ?_;have bS:=hH;have hH:=hH.bG;have bO:(ag .rw s0).bs=s0.bs:=rfl;generalize ag .rw s0=S2 at*;refine zQ 13 ?_;refine ae.eN (z:=((at_+1:Nat):Int)) rfl (ev rfl) (ev rfl) (by(try simp only[List.length_reverse,List.length_cons,List.length_nil,List.length_append,List.length_map,List.length_set]);rw[wrap_i64 (by omega) (by omega)]<;>omega) (aa rfl _) ?_;refine qm ?_;refine ae.GZ (s:=4) hH rfl (ev rfl) (ev rfl) (by exact aV) rfl rfl (by exact bX (by assumption)) (fun _=>(aa rfl _)) (fun TU Ny=>?_);refine ae.eu (fo:=1) (m:=0) (o2:=1) rfl (ev rfl) (by assumption) rfl rfl rfl (fun _=>(aa rfl _)) (fun TT Nw=>?_);refine ae.s9 hH rfl (ev rfl) (ev rfl) (by assumption) rfl rfl (by exact aV) (by assumption) (Nat.le_of_ble_eq_true rfl) (by intro d hd;simp only[List.mem_cons,List.not_mem_nil,or_false] at hd;subst hd;rfl) (by exact .inr rfl) (fun st hH=>?_);dsimp only[u2,u1,u3,u4,setMany,u5,u6,D.cells,Nat.reduceAdd,aX] at hH;refine ae.GZ (s:=4) hH rfl (ev rfl) (ev rfl) (by exact aV) rfl rfl (by simp only[List.length_map,List.length_set]<;>omega) (fun _=>(aa rfl _)) (fun MQ Gh=>?_);refine ae.eu (fo:=2) (m:=0) (o2:=2) rfl (ev rfl) (by assumption) rfl rfl rfl (fun _=>(aa rfl _)) (fun MP Gg=>?_);refine ae.s9 hH rfl (ev rfl) (ev rfl) (by assumption) rfl rfl (by exact aV) (List.getElem?_set_self (by simp only[List.length_set,List.length_map];omega)) (Nat.le_of_ble_eq_true rfl) (by intro d hd;simp only[List.mem_cons,List.not_mem_nil,or_false] at hd;subst hd;rfl) (by exact .inr rfl) (fun st hH=>?_);dsimp only[u1,u2,setMany] at hH;rw[List.set_set] at hH;refine zQ 5 ?_
 cases lz with
 |false=>
  refine zQ 2 ?_;refine⟨fun i h=>(by cases h),_,_,_,rfl,ak rfl,?_⟩;exact⟨rfl,by rw[List.map_set];exact bS.yD bO hH⟩
 |true=>
  refine zQ 14 ?_;refine ae.eN (z:=((at_+1:Nat):Int)) rfl (ev rfl) (ev rfl) (by(try simp only[List.length_reverse,List.length_cons,List.length_nil,List.length_append,List.length_map,List.length_set]);rw[wrap_i64 (by omega) (by omega)]<;>omega) (aa rfl _) ?_;refine ae.GZ (s:=4) hH rfl (ev rfl) (ev rfl) (by exact aV) rfl rfl (by simp only[List.length_map,List.length_set]<;>omega) (fun _=>(aa rfl _)) (fun U_ QS=>?_);refine ae.eu (fo:=1) (m:=0) (o2:=1) rfl (ev rfl) (by assumption) rfl rfl rfl (fun _=>(aa rfl _)) (fun U9 QR=>?_);refine ae.s9 hH rfl (ev rfl) (ev rfl) (by assumption) rfl rfl (by exact aV) (List.getElem?_set_self (by simp only[List.length_set,List.length_map];omega)) (Nat.le_of_ble_eq_true rfl) (by intro d hd;simp only[List.mem_cons,List.not_mem_nil,or_false] at hd;subst hd;rfl) (by exact .inr rfl) (fun st hH=>?_);dsimp only[u1,u2,setMany] at hH;rw[List.set_set] at hH;refine ae.GZ (s:=4) hH rfl (ev rfl) (ev rfl) (by exact aV) rfl rfl (by simp only[List.length_map,List.length_set]<;>omega) (fun _=>(aa rfl _)) (fun Ya Wa=>?_);refine ae.eu (fo:=2) (m:=0) (o2:=2) rfl (ev rfl) (by assumption) rfl rfl rfl (fun _=>(aa rfl _)) (fun X' V'=>?_);refine ae.s9 hH rfl (ev rfl) (ev rfl) (by assumption) rfl rfl (by exact aV) (List.getElem?_set_self (by simp only[List.length_set,List.length_map];omega)) (Nat.le_of_ble_eq_true rfl) (by intro d hd;simp only[List.mem_cons,List.not_mem_nil,or_false] at hd;subst hd;rfl) (by exact .inr rfl) (fun st hH=>?_);dsimp only[u1,u2,setMany] at hH;rw[List.set_set] at hH;refine zQ 1 ?_;refine⟨fun i h=>(by cases h),_,_,_,rfl,ak rfl,?_⟩;exact⟨rfl,by rw[List.map_set];exact bS.yD bO hH⟩
end Go.Proofs.YthahmilhpmfkfaaGreat
namespace Go.Proofs.YthahmilhpmfkfaaGreat
open Go.V Go
def aw (fr:Go.V.Fr) (k:Nat):Go.V.D:=Go.V.nth .bf fr.loc k
variable{bb:Bool}
def lB (n:Nat):List D:=[.int .i64 (n:Nat)]
theorem yn {l:List Nat} {i q:Nat} (h:l[i]?=some q):(l.map lB)[i]?=some (lB q):=by rw[List.getElem?_map,h];rfl
def Mq (bb:Bool) (N:Nat) (S st:St) (k:Nat) (nd zd ed:D) (Z E:List Int) (H:List aZ) (code:List aK):Prop:=
 ∃cd ks,Has N S st (.box k (.mem 0 false [cd,nd,zd,ed])::.cv bb ks cd 4 (code.map aX)::.aB zd 1 (Z.map ay)::.aB ed 1 (E.map ay)::H)
def tw (bb:Bool) (l:List bp) (t:Tr):Prop:=∀{N k:Nat} {S s0:St} {H:List aZ} {nd zd ed:D} {code:List aK} {Z E:List Int} {at_:Nat},S.flr≤N→gY nd 7 (l.map aH)→gb l at_ t.flat→gb Z at_ t.zs→gb E at_ (t.es at_)→t.ok→code.length+t.sz≤1000000→Mq bb N S s0 k nd zd ed Z E H code→
 ∃r ah,Ev pv 48 [.ptr k 0 0,.int .i64 (at_:Nat)] s0 r ah∧r=.tup []∧Mq bb N S ah k nd zd ed Z E H (code++aM t code.length)
theorem Cy {E:List Int} {t:Tr} {a:Nat} (h:gb E a (t.es a)):E[a]?=some ((a+t.flat.length:Nat):Int):=by
 obtain⟨n,ks⟩:=t;simp only[Tr.es] at h;rw[h.head];simp only[Tr.flat,List.length_cons]
 congr 2;omega
theorem Bo {Z:List Int} {t:Tr} {a:Nat} (h:gb Z a t.zs):Z[a]?=some ((min t.sz 401:Nat):Int):=by
 obtain⟨n,ks⟩:=t;simp only[Tr.zs] at h;rw[h.head];rfl
theorem L6 {l:List bp} (nc:l.length≤1048576) {m:Nat} (ih:∀t:Tr,t.flat.length≤m→tw bb l t) {n:bp} {ks:aE} (hop:n.op=4) (NR:ks.flat.length≤m) (pb:uH n ks.len) (mM:ks.ok) {N k:Nat} {S s0:St} {H:List aZ} {nd zd ed:D} {code:List aK} {Z E:List Int} {at_:Nat} (hF:S.flr≤N) (AR:gY nd 7 (l.map aH)) (kW:gb l at_ (n::ks.flat)) (hsz:gb Z (at_+1) ks.zs) (wH:gb E (at_+1) (ks.es (at_+1))) (hb:code.length+br n ks.sz ks.len≤1000000) (hM:Mq bb N S s0 k nd zd ed Z E H code):
  ∃r ah,Ev pv 64 [.ptr k 0 0,.int .i64 (at_:Nat)] s0 r ah∧r=.tup []∧Mq bb N S ah k nd zd ed Z E H (code++di (j9 (code.length+br n ks.sz ks.len)) ks code.length):=by
 obtain⟨cd,dk,hH⟩:=hM;have hle:=kW.le (by simp);simp only[List.length_cons] at hle;have hn:=kW.head;have kW:=kW.tail;have gr:=mh hn;have DO:=pb.1;have gT:=aE.oX ks
 have hk2:2≤ks.len:=by
  obtain⟨_,hq⟩:=pb;omega
 have I2:br n ks.sz ks.len=ks.sz+2*(ks.len-1):=by unfold br;rw[if_neg (by omega),if_pos hop]
 rw[I2] at hb⊢;clear I2;refine Ev.jN rfl Sy rfl rfl rfl ?_;refine zE ?_;change ai _ _ _ _ s0 _;have hc:=AR.arg N S;refine zQ 18 ?_;refine qr fun Vb QW=>?_;refine qf (fo:=6) fun TV Nz=>?_;refine zQ 3 ?_;have hH:Has N S s0 (.box k (.mem 0 false [cd,nd,zd,ed])::.cv bb dk cd 4 (code.map aX)::.aB zd 1 (Z.map ay)::.aB ed 1 (E.map ay)::.aB .nul 1 (([]:List Nat).map lB)::H):=(hH.eC 1).H8;refine zQ 1 ?_;refine ai.loop (fun mm fr st=>∃(i j:Nat) (rest:aE) (cd jd:D) (dk:Nat→Prop) (aT:List aK) (js:List Nat),fr.clean=⟨68,[.ptr k 0 0,.int .i64 (at_:Nat),aw fr 2,aw fr 3,jd,.int .i64 (j:Nat),aw fr 6,aw fr 7,aw fr 8,aw fr 9,aw fr 10,aw fr 11,aw fr 12,aw fr 13,aw fr 14,aw fr 15,aw fr 16,aw fr 17,aw fr 18,.int .i64 n.kids,.int .i64 (i:Nat),aw fr 21,aw fr 22,aw fr 23,aw fr 24,aw fr 25,aw fr 26,aw fr 27,aw fr 28,aw fr 29,aw fr 30,aw fr 31,aw fr 32,aw fr 33,aw fr 34,aw fr 35,aw fr 36,aw fr 37,aw fr 38,aw fr 39,aw fr 40,aw fr 41,aw fr 42,aw fr 43,aw fr 44,aw fr 45,aw fr 46,aw fr 47,aw fr 48,aw fr 49,aw fr 50,aw fr 51,aw fr 52,aw fr 53,aw fr 54,aw fr 55,aw fr 56,aw fr 57,aw fr 58,aw fr 59,aw fr 60,aw fr 61,aw fr 62,aw fr 63,aw fr 64,aw fr 65,aw fr 66,aw fr 67],[]⟩∧Has N S st (.box k (.mem 0 false [cd,nd,zd,ed])::.cv bb dk cd 4 (aT.map aX)::.aB zd 1 (Z.map ay)::.aB ed 1 (E.map ay)::.aB jd 1 (js.map lB)::H)∧(mm=rest.len)∧(i+rest.len=ks.len)∧(0<rest.len)∧(gb l j rest.flat)∧(gb Z j rest.zs)∧(gb E j (rest.es j))∧(rest.ok)∧(aT++di (j9 0) rest aT.length=code++di (j9 0) ks code.length)∧(js++tt rest aT.length=tt ks code.length)∧(aT.length+(rest.sz+2*(rest.len-1))=code.length+(ks.sz+2*(ks.len-1)))∧(rest.flat.length≤m)∧(js.length≤i)) (ks.len) ?_ ?_
 ·exact⟨0,at_+1,ks,cd,.nul,dk,code,[],rfl,hH,rfl,by omega,by omega,kW,hsz,wH,mM,rfl,rfl,rfl,NR,by simp⟩
 rintro mm fr st ⟨i,j,rest,cd,jd,dk,aT,js,hfr,hH,AS,wR,J5,qI,yL,qH,kX,je,hjs,hcl,hrm,hjl⟩;rw[hfr];clear hfr;generalize aw fr=ee;clear fr;refine zQ 4 ?_
 cases rest with
 |nil=>simp[aE.len] at J5
 |cons t ts=>
  simp only[aE.len] at wR AS hcl;simp only[aE.sz] at hcl;simp only[aE.flat,List.length_append] at qI hrm;simp only[aE.zs] at yL;simp only[aE.es] at qH;simp only[aE.ok] at kX;have KW:=t.jI;have J2:=t.jR j;have DH:=bw t (aT.length+1) kX.1;have QC:=hD (Cy qH.left);have gu:decide ((i:Int)<n.kids)=true:=by rw[decide_eq_true_eq];omega
  refine qq<|qD rfl (by rw[gu]) ?_;refine zQ 17 ?_;refine qr fun TQ Nt=>?_;refine qf (fo:=6) fun TP Ns=>?_;refine qR ?_;refine ae.mQ (z:=((ks.len-1:Nat):Int)) rfl (ev rfl) (ev rfl) (by(try simp only[List.length_reverse,List.length_cons,List.length_nil,List.length_append,List.length_map,List.length_set]);rw[wrap_i64 (by omega) (by omega)]<;>omega) (by dsimp only[Fr.put,u1,u2]<;>rfl) ?_;refine zQ 2 ?_
  by_cases Ck:ts.len=0
  ·simp only[di,tt,if_pos Ck,List.append_nil] at je hjs;have htn:=aE.len_nil Ck;subst htn;simp only[aE.sz,aE.len] at hcl wR;have Lv:(((i:Nat):Int)==((ks.len-1:Nat):Int))=true:=by rw[beq_iff_eq];omega
   refine qD rfl (by rw[Lv]) ?_;refine zQ 4 ?_;obtain⟨_,st,aC,rfl,cd,dk,hH⟩:=ih t (by omega) hF AR qI.left yL.left qH.left kX.1 (by omega) ⟨cd,dk,hH⟩;refine qv aC ?_;refine zQ 5 ?_;refine qn ?_ (hR:=hH.rows cW);simp only[List.length_map];refine zQ 2 ?_;rw[je] at hH;have hal:=ou (j9 0) ks code.length mM;obtain⟨yN,Ch⟩:=py (jp:=j9 (code.length+(ks.sz+2*(ks.len-1)))) (i0:=j9 0) ks code.length code [] mM rfl;simp only[List.append_nil] at yN Ch;have Mn:(code++di (j9 0) ks code.length).length=code.length+(ks.sz+2*(ks.len-1)):=by rw[List.length_append,hal]
   rw[←hjs] at yN Ch;rw[←yN];clear yN je;generalize code++di (j9 0) ks code.length=C0 at*;generalize code.length+(ks.sz+2*(ks.len-1))=e at*;refine zQ 1 ?_;refine ai.loop (fun mm fr st=>∃(q:Nat) (C:List aK),fr.clean=⟨68,[.ptr k 0 0,aw fr 1,aw fr 2,aw fr 3,aw fr 4,aw fr 5,aw fr 6,aw fr 7,aw fr 8,aw fr 9,aw fr 10,aw fr 11,aw fr 12,aw fr 13,aw fr 14,aw fr 15,aw fr 16,aw fr 17,aw fr 18,aw fr 19,aw fr 20,aw fr 21,aw fr 22,aw fr 23,aw fr 24,aw fr 25,aw fr 26,aw fr 27,aw fr 28,aw fr 29,aw fr 30,aw fr 31,aw fr 32,aw fr 33,aw fr 34,aw fr 35,aw fr 36,aw fr 37,aw fr 38,aw fr 39,aw fr 40,aw fr 41,aw fr 42,aw fr 43,aw fr 44,aw fr 45,aw fr 46,aw fr 47,aw fr 48,aw fr 49,aw fr 50,aw fr 51,aw fr 52,aw fr 53,aw fr 54,aw fr 55,aw fr 56,aw fr 57,aw fr 58,aw fr 59,aw fr 60,aw fr 61,aw fr 62,aw fr 63,aw fr 64,jd,.int .i64 (js.length:Nat),.int .i64 (q:Nat)],[]⟩∧Has N S st (.box k (.mem 0 false [cd,nd,zd,ed])::.cv bb dk cd 4 (C.map aX)::.aB zd 1 (Z.map ay)::.aB ed 1 (E.map ay)::.aB jd 1 (js.map lB)::H)∧(q+mm=js.length)∧(iT (fun _=>j9 e) C (js.drop q)=iT (fun _=>j9 e) C0 js)∧(∀p∈js,∃v:Int,C[p]?=some (cH 3 v 0 []))∧(C.length=e)) (js.length) ?_ ?_
   ·exact⟨0,C0,rfl,hH,by omega,rfl,fun p hp=>⟨_,Ch p hp⟩,Mn⟩
   rintro mm fr st ⟨q,C,hfr,hH,hq,gw,hall,Mm⟩;rw[hfr];clear hfr;generalize aw fr=ee;clear fr;refine zQ 5 ?_;refine zP (fun hlt=>?_) fun hlt=>?_
   ·refine zQ 1 ?_;have IY:q<js.length:=by omega
    obtain⟨p,hp⟩:∃p,js[q]?=some p:=⟨js[q]'IY,List.getElem?_eq_getElem _⟩
    obtain⟨v,hv⟩:=hall p (List.mem_of_getElem? hp);have gr:=yn hp;have qK:=mo hv;have lg:=bX hv;refine zQ 4 ?_;refine qi hH cW fun X5 V5=>?_;refine zQ 13 ?_;refine ae.D6 hH rfl (ev rfl) (by exact aV) rfl (aa rfl _) ?_;simp only[List.length_map];refine ae.GZ (s:=4) hH rfl (ev rfl) (ev rfl) (by exact aV) rfl rfl (by exact bX (by assumption)) (fun _=>(aa rfl _)) (fun U1 QL=>?_);refine ae.eu (fo:=1) (m:=0) (o2:=1) rfl (ev rfl) (by assumption) rfl rfl rfl (fun _=>(aa rfl _)) (fun X3 V3=>?_);refine ae.s9 hH rfl (ev rfl) (ev rfl) (by assumption) rfl rfl (by exact aV) (by assumption) (Nat.le_of_ble_eq_true rfl) (by intro d hd;simp only[List.mem_cons,List.not_mem_nil,or_false] at hd;subst hd;rfl) (by exact .inl hF) (fun st hH=>?_);dsimp only[u2,u1,u3,u4,setMany,u5,u6,D.cells,Nat.reduceAdd,aX,aH,ay,lB] at hH;refine zQ 5 ?_
    have yU:js.drop q=p::js.drop (q+1):=by
     rw[List.drop_eq_getElem_cons IY]
     congr 1
     exact Option.some.inj ((List.getElem?_eq_getElem _).symm.trans hp)
    refine⟨mm-1,by omega,⟨q+1,C.set p (j9 e),rfl,(by rw[List.map_set,←Mm];exact hH),by omega,by rw[yU] at gw;exact gw,?_,by rw[List.length_set];exact Mm⟩⟩;intro p' wL
    by_cases hpp:p'=p
    ·subst hpp;exact⟨_,List.getElem?_set_self lg⟩
    ·rw[List.getElem?_set_ne (fun e=>hpp e.symm)];exact hall p' wL
   ·refine zQ 1 ?_;refine⟨fun i h=>(by cases h),_,_,_,rfl,rfl,?_⟩;have Cf:q=js.length:=by omega
    rw[Cf,List.drop_length] at gw;have gw:C=iT (fun _=>j9 e) C0 js:=gw;rw[←gw];exact⟨rfl,cd,dk,hH.erase 4⟩
  ·simp only[di,tt,if_neg Ck] at je hjs;have Lv:(((i:Nat):Int)==((ks.len-1:Nat):Int))=false:=by rw[beq_eq_false_iff_ne];omega
   refine qE rfl (by rw[Lv]) ?_;refine zQ 4 ?_;refine ae.go (d:=.agg [.int .i64 2,.int .i64 0,.int .i64 0,.nul]) (st1:=_) rfl rfl rfl (by dsimp only[Fr.put,u1,u2]<;>rfl) ?_;have hH:=hH.eC 2;obtain⟨_,st,aC,rfl,cd,dk,hH⟩:=gX (rs:=[]) hF (by omega) hH;refine qv aC ?_;refine zQ 2 ?_;have n5:(aT++[cH 2 0 0 []]).length=aT.length+1:=by simp
   refine zQ 4 ?_;obtain⟨_,st,aC,rfl,cd,dk,hH⟩:=ih t (by omega) hF AR qI.left yL.left qH.left kX.1 (by omega) ⟨cd,dk,hH⟩;refine qv aC ?_;refine zQ 1 ?_;rw[n5] at hH;have pf:(aT++[cH 2 0 0 []]++aM t (aT.length+1)).length=aT.length+1+t.sz:=by rw[List.length_append,n5,DH]
   refine zQ 4 ?_;refine ae.go (d:=.agg [.int .i64 3,.int .i64 0,.int .i64 0,.nul]) (st1:=_) rfl rfl rfl (by dsimp only[Fr.put,u1,u2]<;>rfl) ?_;have hH:=hH.eC 2;obtain⟨_,st,aC,rfl,cd,dk,hH⟩:=gX (rs:=[]) hF (by omega) hH;refine qv aC ?_;refine qh (s:=1) (vs:=[_]) hH fun k47 st WJ hH=>?_;refine qP hH du (hH.rows aG) fun PD st hH=>?_;dsimp only[u2,u1,u3,u4,setMany,u5,u6,D.cells,Nat.reduceAdd,aX,aH,ay,lB] at hH;refine zQ 2 ?_;have hH:=hH.drop 1
   have LA:(aT++[cH 2 0 0 []]++aM t (aT.length+1)++[cH 3 0 0 []])[aT.length]?=some (cH 2 0 0 []):=by
    rw[List.append_assoc,List.append_assoc];exact rn _ _ _
   have GC:(aT++[cH 2 0 0 []]++aM t (aT.length+1)++[cH 3 0 0 []]).length=aT.length+1+t.sz+1:=by rw[List.length_append,pf];rfl
   have IV:(aT++[cH 2 0 0 []]++aM t (aT.length+1)++[cH 3 0 0 []]).set aT.length (lX aT.length (aT.length+1+t.sz+1) false)=aT++(lX aT.length (aT.length+1+t.sz+1) false::(aM t (aT.length+1)++[j9 0])):=by
    rw[List.append_assoc,List.append_assoc];exact re _ _ _ _
   have Lu:(aT++(lX aT.length (aT.length+1+t.sz+1) false::(aM t (aT.length+1)++[j9 0]))).length=aT.length+t.sz+2:=by rw[←IV,List.length_set,GC];omega
   generalize aT++[cH 2 0 0 []]++aM t (aT.length+1)++[cH 3 0 0 []]=G6 at*;refine zQ 8 ?_;refine ae.D6 hH rfl (ev rfl) (by exact aV) rfl (by dsimp only[Fr.put,u1,u2]<;>rfl) ?_;simp only[List.length_map,List.length_append,List.length_cons,List.length_nil];obtain⟨_,st,aC,rfl,hH⟩:=rJ (at_:=aT.length) (over:=G6.length) (lz:=false) LA (by omega) hH;refine qv aC ?_;refine zQ 1 ?_;rw[GC,IV] at hH;refine zQ 6 ?_;refine qi hH cD fun X7 V7=>?_;refine zQ 7 ?_;exact⟨mm-1,by omega,⟨i+1,j+t.flat.length,ts,cd,PD,dk,aT++(lX aT.length (aT.length+1+t.sz+1) false::(aM t (aT.length+1)++[j9 0])),js++[aT.length+1+t.sz],rfl,(by rw[List.map_append (f:=lB)];rw[pf] at hH;exact hH),by omega,by omega,by omega,qI.right,by rw[←KW];exact yL.right,by rw[←J2];rw[←J2] at qH;exact qH.right,kX.2,by rw[Lu,←je];simp only[List.append_assoc,List.cons_append,List.nil_append],by rw[Lu,←hjs];simp only[List.append_assoc,List.cons_append,List.nil_append],by rw[Lu];omega,by omega,by rw[List.length_append];simp only[List.length_cons,List.length_nil];omega⟩⟩
end Go.Proofs.YthahmilhpmfkfaaGreat
namespace Go.Proofs.YthahmilhpmfkfaaGreat
open Go.V Go
def af (fr:Go.V.Fr) (k:Nat):Go.V.D:=Go.V.nth .bf fr.loc k
variable{bb:Bool}
theorem uz {c:Nat→List aK} (hc:∀b,(c b).length=0) (z:Nat):∀k b,eZ c z k b=[]
 |0,_=>rfl
 |k+1,b=>by rw[eZ,uz hc z k,List.length_eq_zero_iff.1 (hc b)];rfl
theorem EX (s o:Nat) (lz:Bool):∃x y:Int,lX s o lz=cH 2 x y []:=by
 cases lz
 ·exact⟨_,_,rfl⟩
 ·exact⟨_,_,rfl⟩
theorem Da {l:List bp} (nc:l.length≤1048576) {m:Nat} (ih:∀t:Tr,t.flat.length≤m→tw bb l t) {n:bp} {t:Tr} (hop:n.op=5) (NR:t.flat.length≤m) (pb:uH n 1) (tO:t.ok) {N k:Nat} {S s0:St} {H:List aZ} {nd zd ed:D} {code:List aK} {Z E:List Int} {at_:Nat} (hF:S.flr≤N) (AR:gY nd 7 (l.map aH)) (kW:gb l at_ (n::t.flat)) (hsz:gb Z (at_+1) t.zs) (wH:gb E (at_+1) (t.es (at_+1))) (hb:code.length+br n t.sz 1≤1000000) (hM:Mq bb N S s0 k nd zd ed Z E H code):
  ∃r ah,Ev pv 65 [.ptr k 0 0,.int .i64 (at_:Nat)] s0 r ah∧r=.tup []∧Mq bb N S ah k nd zd ed Z E H (code++mS n (aM t) t.sz code.length):=by
 obtain⟨cd,dk,hH⟩:=hM;have hle:=kW.le (by simp);simp only[List.length_cons] at hle;have hn:=kW.head;have kW:=kW.tail;have gr:=mh hn;have qK:=hD (Bo hsz)
 have Et:0≤n.mn∧n.mn≤30∧(n.mx=-1∨(n.mn≤n.mx∧n.mx≤30)):=by
  obtain⟨_,hq⟩:=pb;omega
 have I2:br n t.sz 1=if n.mx=-1 then n.mn.toNat*t.sz+t.sz+2 else n.mn.toNat*t.sz+(n.mx.toNat-n.mn.toNat)*(t.sz+1):=by unfold br;rw[if_neg (by omega),if_neg (by omega),if_neg (by omega),if_pos hop]
 rw[I2] at hb;clear I2;have DH:=fun b=>bw t b tO;have hb1:code.length+n.mn.toNat*t.sz≤1000000:=by split at hb<;>omega
 refine Ev.jN rfl Sx rfl rfl rfl ?_;refine zE ?_;change ai _ _ _ _ s0 _;have hc:=AR.arg N S;refine zQ 7 ?_;refine qr fun PZ La=>?_;refine ae.cA rfl (ev rfl) (by assumption) rfl (by dsimp only[Fr.put,u1,u2]<;>rfl) ?_;refine zQ 2 ?_;refine qa hH fun k4 st NZ hH=>?_;refine qS hH aG fun st hH=>?_;dsimp only[u2,u1,u3,u4,setMany,u5,u6,D.cells,Nat.reduceAdd,aX,aH,ay,lB] at hH;refine zQ 2 ?_;have hH:Has N S st (.box k (.mem 0 false [cd,nd,zd,ed])::.cv bb dk cd 4 (code.map aX)::.aB zd 1 (Z.map ay)::.aB ed 1 (E.map ay)::.box k4 (.mem 0 false (aH n))::H):=hH.H8;refine zQ 8 ?_;refine qi hH bE fun MP Gg=>?_;refine zQ 3 ?_;have hRl:=iU DH n.mn.toNat code.length;refine ai.merge (fun fr st=>∃(cd:D) (dk:Nat→Prop) (tmp:List (Nat×D)),fr=⟨78,[.ptr k 0 0,.int .i64 (at_:Nat),af fr 2,af fr 3,.ptr k4 0 0,.int .i64 ((at_+1:Nat):Int),af fr 6,af fr 7,af fr 8,af fr 9,af fr 10,af fr 11,af fr 12,af fr 13,af fr 14,af fr 15,af fr 16,af fr 17,af fr 18,af fr 19,af fr 20,af fr 21,af fr 22,af fr 23,af fr 24,af fr 25,af fr 26,af fr 27,af fr 28,af fr 29,af fr 30,af fr 31,af fr 32,af fr 33,af fr 34,af fr 35,af fr 36,af fr 37,af fr 38,af fr 39,af fr 40,af fr 41,af fr 42,af fr 43,af fr 44,af fr 45,af fr 46,af fr 47,af fr 48,af fr 49,af fr 50,af fr 51,af fr 52,af fr 53,af fr 54,af fr 55,af fr 56,af fr 57,af fr 58,af fr 59,af fr 60,af fr 61,af fr 62,af fr 63,af fr 64,af fr 65,af fr 66,af fr 67,af fr 68,af fr 69,af fr 70,af fr 71,af fr 72,af fr 73,af fr 74,af fr 75,af fr 76,af fr 77],tmp⟩∧Has N S st (.box k (.mem 0 false [cd,nd,zd,ed])::.cv bb dk cd 4 ((code++eZ (aM t) t.sz n.mn.toNat code.length).map aX)::.aB zd 1 (Z.map ay)::.aB ed 1 (E.map ay)::.box k4 (.mem 0 false (aH n))::H)) ?_ ?_
 ·refine zP (fun hz=>?_) fun hz=>?_
  ·refine zQ 7 ?_;refine ai.loop (fun mm fr st=>∃(i:Nat) (cd:D) (dk:Nat→Prop) (aT:List aK),fr.clean=⟨78,[.ptr k 0 0,.int .i64 (at_:Nat),af fr 2,af fr 3,.ptr k4 0 0,.int .i64 ((at_+1:Nat):Int),af fr 6,af fr 7,af fr 8,af fr 9,af fr 10,af fr 11,af fr 12,af fr 13,af fr 14,af fr 15,af fr 16,af fr 17,af fr 18,af fr 19,af fr 20,af fr 21,af fr 22,af fr 23,af fr 24,af fr 25,af fr 26,af fr 27,.int .i64 n.mn,.int .i64 (i:Nat),af fr 30,af fr 31,af fr 32,af fr 33,af fr 34,af fr 35,af fr 36,af fr 37,af fr 38,af fr 39,af fr 40,af fr 41,af fr 42,af fr 43,af fr 44,af fr 45,af fr 46,af fr 47,af fr 48,af fr 49,af fr 50,af fr 51,af fr 52,af fr 53,af fr 54,af fr 55,af fr 56,af fr 57,af fr 58,af fr 59,af fr 60,af fr 61,af fr 62,af fr 63,af fr 64,af fr 65,af fr 66,af fr 67,af fr 68,af fr 69,af fr 70,af fr 71,af fr 72,af fr 73,af fr 74,af fr 75,af fr 76,af fr 77],[]⟩∧Has N S st (.box k (.mem 0 false [cd,nd,zd,ed])::.cv bb dk cd 4 (aT.map aX)::.aB zd 1 (Z.map ay)::.aB ed 1 (E.map ay)::.box k4 (.mem 0 false (aH n))::H)∧(i+mm=n.mn.toNat)∧(aT++eZ (aM t) t.sz mm aT.length=code++eZ (aM t) t.sz n.mn.toNat code.length)∧(aT.length+mm*t.sz=code.length+n.mn.toNat*t.sz)) (n.mn.toNat) ?_ ?_
   ·exact⟨0,cd,dk,code,rfl,hH,by omega,rfl,rfl⟩
   rintro mm fr st ⟨i,cd,dk,aT,hfr,hH,hi,ny,hcl⟩;rw[hfr];clear hfr;generalize af fr=ee;clear fr;refine zQ 4 ?_
   cases mm with
   |zero=>
    have gu:decide ((i:Int)<n.mn)=false:=by rw[decide_eq_false_iff_not];omega
    refine qq<|qE rfl (by rw[gu]) ?_;simp only[eZ,List.append_nil] at ny;rw[ny] at hH;refine zQ 1 ?_;exact⟨cd,dk,_,rfl,hH⟩
   |succ mm=>
    have gu:decide ((i:Int)<n.mn)=true:=by rw[decide_eq_true_eq];omega
    rw[Nat.succ_mul] at hcl;refine qq<|qD rfl (by rw[gu]) ?_;refine zQ 6 ?_;obtain⟨_,st,aC,rfl,cd,dk,hH⟩:=ih t (by omega) hF AR kW hsz wH tO (by omega) ⟨cd,dk,hH⟩;refine qv aC ?_;refine zQ 5 ?_;exact⟨mm,by omega,⟨i+1,cd,dk,aT++aM t aT.length,rfl,hH,by omega,by rw[List.length_append,DH,List.append_assoc];exact ny,by rw[List.length_append,DH];omega⟩⟩
  ·refine zQ 1 ?_;have hz0:t.sz=0:=by omega
   have hR0:eZ (aM t) t.sz n.mn.toNat code.length=[]:=uz (fun b=>by rw[DH,hz0]) _ _ _;exact⟨cd,dk,_,rfl,(by rw[hR0,List.append_nil];exact hH)⟩
 ·rintro fr st ⟨cd,dk,tmp,hfr,hH⟩;rw[hfr];clear hfr;generalize af fr=ee;clear fr;have Pq:(code++eZ (aM t) t.sz n.mn.toNat code.length).length=code.length+n.mn.toNat*t.sz:=by rw[List.length_append,hRl]
  unfold mS;rw[←Pq];rw[←Pq] at hb1
  have hb2:if n.mx=-1 then(code++eZ (aM t) t.sz n.mn.toNat code.length).length+t.sz+2≤1000000 else(code++eZ (aM t) t.sz n.mn.toNat code.length).length+(n.mx.toNat-n.mn.toNat)*(t.sz+1)≤1000000:=by
   rw[Pq];split
   ·rename_i h;rw[if_pos h] at hb;omega
   ·rename_i h;rw[if_neg h] at hb;omega
  have wV:∀X:List aK,code++(eZ (aM t) t.sz n.mn.toNat code.length++X)=code++eZ (aM t) t.sz n.mn.toNat code.length++X:=fun X=>by rw[List.append_assoc]
  simp only[apply_ite (fun X:List aK=>code++X),wV];clear wV Pq;generalize code++eZ (aM t) t.sz n.mn.toNat code.length=cR at*;refine zQ 7 ?_
  by_cases Fg:n.mx=-1
  ·rw[if_pos Fg];rw[if_pos Fg] at hb2;refine qD rfl (by simp[Fg]) ?_;refine zQ 3 ?_;refine ae.go (d:=.agg [.int .i64 2,.int .i64 0,.int .i64 0,.nul]) (st1:=_) rfl rfl rfl (by dsimp only[Fr.put,u1,u2]<;>rfl) ?_;have hH:=hH.eC 2;obtain⟨_,st,aC,rfl,cd,dk,hH⟩:=gX (rs:=[]) hF (by omega) hH;refine qv aC ?_;refine zQ 2 ?_;have n5:(cR++[cH 2 0 0 []]).length=cR.length+1:=by simp
   refine zQ 4 ?_;obtain⟨_,st,aC,rfl,cd,dk,hH⟩:=ih t (by omega) hF AR kW hsz wH tO (by omega) ⟨cd,dk,hH⟩;refine qv aC ?_;refine zQ 1 ?_;rw[n5] at hH;have pf:(cR++[cH 2 0 0 []]++aM t (cR.length+1)).length=cR.length+1+t.sz:=by rw[List.length_append,n5,DH]
   refine zQ 4 ?_;refine ae.go (d:=.agg [.int .i64 3,.int .i64 (cR.length:Nat),.int .i64 0,.nul]) (st1:=_) rfl rfl rfl (by dsimp only[Fr.put,u1,u2]<;>rfl) ?_;have hH:=hH.eC 2;obtain⟨_,st,aC,rfl,cd,dk,hH⟩:=gX (rs:=[]) hF (by omega) hH;refine qv aC ?_;refine zQ 1 ?_
   have LA:(cR++[cH 2 0 0 []]++aM t (cR.length+1)++[cH 3 (cR.length:Nat) 0 []])[cR.length]?=some (cH 2 0 0 []):=by
    rw[List.append_assoc,List.append_assoc];exact rn _ _ _
   have GC:(cR++[cH 2 0 0 []]++aM t (cR.length+1)++[cH 3 (cR.length:Nat) 0 []]).length=cR.length+t.sz+2:=by rw[List.length_append,pf];simp only[List.length_cons,List.length_nil];omega
   have IV:(cR++[cH 2 0 0 []]++aM t (cR.length+1)++[cH 3 (cR.length:Nat) 0 []]).set cR.length (lX cR.length (cR.length+t.sz+2) n.lz)=cR++(lX cR.length (cR.length+t.sz+2) n.lz::(aM t (cR.length+1)++[j9 cR.length])):=by
    rw[List.append_assoc,List.append_assoc];exact re _ _ _ _
   generalize cR++[cH 2 0 0 []]++aM t (cR.length+1)++[cH 3 (cR.length:Nat) 0 []]=G6 at*;refine zQ 8 ?_;refine ae.D6 hH rfl (ev rfl) (by exact aV) rfl (by dsimp only[Fr.put,u1,u2]<;>rfl) ?_;simp only[List.length_map,List.length_append,List.length_cons,List.length_nil];refine zQ 2 ?_;obtain⟨_,st,aC,rfl,hH⟩:=rJ (at_:=cR.length) (over:=G6.length) (lz:=n.lz) LA (by omega) hH;refine qv aC ?_;refine zQ 1 ?_;rw[GC,IV] at hH;refine ai.ret ⟨rx,_,_,_,rfl,rfl,?_⟩;exact⟨rfl,cd,dk,hH.erase 4⟩
  ·rw[if_neg Fg];rw[if_neg Fg] at hb2;refine qE rfl (by simp[Fg]) ?_;refine zQ 1 ?_;obtain⟨a,ha⟩:∃a:Nat,n.mn=(a:Int):=Int.eq_ofNat_of_zero_le Et.1;obtain⟨b,hb3⟩:∃b:Nat,n.mx=(b:Int):=Int.eq_ofNat_of_zero_le (by omega);have RK:n.mx.toNat-n.mn.toNat=b-a:=by omega
   rw[RK] at hb2⊢;refine zQ 11 ?_;refine ae.mQ (z:=((b-a:Nat):Int)) rfl (ev rfl) (ev rfl) (by(try simp only[List.length_reverse,List.length_cons,List.length_nil,List.length_append,List.length_map,List.length_set]);rw[wrap_i64 (by omega) (by omega)]<;>omega) (by dsimp only[Fr.put,u1,u2]<;>rfl) ?_;refine zQ 2 ?_;have hH:Has N S st (.box k (.mem 0 false [cd,nd,zd,ed])::.cv bb dk cd 4 (cR.map aX)::.aB zd 1 (Z.map ay)::.aB ed 1 (E.map ay)::.aB .nul 1 (([]:List Nat).map lB)::.box k4 (.mem 0 false (aH n))::H):=(hH.eC 1).H8;refine zQ 1 ?_;refine ai.loop (fun mm fr st=>∃(i:Nat) (cd jd:D) (dk:Nat→Prop) (aT:List aK) (js:List Nat),fr.clean=⟨78,[.ptr k 0 0,.int .i64 (at_:Nat),af fr 2,af fr 3,.ptr k4 0 0,.int .i64 ((at_+1:Nat):Int),af fr 6,jd,af fr 8,af fr 9,af fr 10,af fr 11,af fr 12,af fr 13,af fr 14,af fr 15,af fr 16,af fr 17,af fr 18,af fr 19,af fr 20,af fr 21,af fr 22,af fr 23,af fr 24,af fr 25,af fr 26,af fr 27,af fr 28,af fr 29,af fr 30,af fr 31,af fr 32,af fr 33,af fr 34,af fr 35,af fr 36,af fr 37,af fr 38,af fr 39,af fr 40,af fr 41,af fr 42,af fr 43,af fr 44,af fr 45,af fr 46,af fr 47,af fr 48,af fr 49,af fr 50,af fr 51,af fr 52,af fr 53,af fr 54,af fr 55,af fr 56,af fr 57,af fr 58,af fr 59,af fr 60,af fr 61,.int .i64 ((b-a:Nat):Int),.int .i64 (i:Nat),af fr 64,af fr 65,af fr 66,af fr 67,af fr 68,af fr 69,af fr 70,af fr 71,af fr 72,af fr 73,af fr 74,af fr 75,af fr 76,af fr 77],[]⟩∧Has N S st (.box k (.mem 0 false [cd,nd,zd,ed])::.cv bb dk cd 4 (aT.map aX)::.aB zd 1 (Z.map ay)::.aB ed 1 (E.map ay)::.aB jd 1 (js.map lB)::.box k4 (.mem 0 false (aH n))::H)∧(i+mm=b-a)∧(aT++e_ (fun _=>cH 2 0 0 []) (aM t) t.sz mm aT.length=cR++e_ (fun _=>cH 2 0 0 []) (aM t) t.sz (b-a) cR.length)∧(js++yf t.sz mm aT.length=yf t.sz (b-a) cR.length)∧(aT.length+mm*(t.sz+1)=cR.length+(b-a)*(t.sz+1))∧(js.length=i)) (b-a) ?_ ?_
   ·exact⟨0,cd,.nul,dk,cR,[],rfl,hH,by omega,rfl,rfl,rfl,rfl⟩
   rintro mm fr st ⟨i,cd,jd,dk,aT,js,hfr,hH,hi,je,hjs,hcl,hjl⟩;rw[hfr];clear hfr;generalize af fr=ee;clear fr;refine zQ 4 ?_
   cases mm with
   |zero=>
    have gu:decide ((i:Int)<((b-a:Nat):Int))=false:=by rw[decide_eq_false_iff_not];omega
    refine qq<|qE rfl (by rw[gu]) ?_;refine zQ 4 ?_;refine qn ?_ (hR:=hH.rows cW);simp only[List.length_map];refine zQ 2 ?_;simp only[e_,yf,List.append_nil] at je hjs;rw[je] at hH;obtain⟨yN,Ch⟩:=oQ (sp:=fun s=>lX s (cR.length+(b-a)*(t.sz+1)) n.lz) DH (i0:=cH 2 0 0 []) (b-a) cR.length cR [] rfl;simp only[List.append_nil] at yN Ch;have Mn:(cR++e_ (fun _=>cH 2 0 0 []) (aM t) t.sz (b-a) cR.length).length=cR.length+(b-a)*(t.sz+1):=by rw[List.length_append,nL DH]
    rw[←hjs] at yN Ch;rw[←yN];clear yN je;generalize cR++e_ (fun _=>cH 2 0 0 []) (aM t) t.sz (b-a) cR.length=C0 at*;generalize cR.length+(b-a)*(t.sz+1)=e at*;refine zQ 1 ?_;refine ai.loop (fun mm fr st=>∃(q:Nat) (C:List aK),fr.clean=⟨78,[.ptr k 0 0,af fr 1,af fr 2,af fr 3,.ptr k4 0 0,af fr 5,af fr 6,af fr 7,af fr 8,af fr 9,af fr 10,af fr 11,af fr 12,af fr 13,af fr 14,af fr 15,af fr 16,af fr 17,af fr 18,af fr 19,af fr 20,af fr 21,af fr 22,af fr 23,af fr 24,af fr 25,af fr 26,af fr 27,af fr 28,af fr 29,af fr 30,af fr 31,af fr 32,af fr 33,af fr 34,af fr 35,af fr 36,af fr 37,af fr 38,af fr 39,af fr 40,af fr 41,af fr 42,af fr 43,af fr 44,af fr 45,af fr 46,af fr 47,af fr 48,af fr 49,af fr 50,af fr 51,af fr 52,af fr 53,af fr 54,af fr 55,af fr 56,af fr 57,af fr 58,af fr 59,af fr 60,af fr 61,af fr 62,af fr 63,af fr 64,af fr 65,af fr 66,af fr 67,af fr 68,af fr 69,af fr 70,af fr 71,af fr 72,af fr 73,af fr 74,jd,.int .i64 (js.length:Nat),.int .i64 (q:Nat)],[]⟩∧Has N S st (.box k (.mem 0 false [cd,nd,zd,ed])::.cv bb dk cd 4 (C.map aX)::.aB zd 1 (Z.map ay)::.aB ed 1 (E.map ay)::.aB jd 1 (js.map lB)::.box k4 (.mem 0 false (aH n))::H)∧(q+mm=js.length)∧(iT (fun s=>lX s e n.lz) C (js.drop q)=iT (fun s=>lX s e n.lz) C0 js)∧(∀p∈js,∃x y:Int,C[p]?=some (cH 2 x y []))∧(C.length=e)) (js.length) ?_ ?_
    ·exact⟨0,C0,rfl,hH,by omega,rfl,fun p hp=>⟨_,_,Ch p hp⟩,Mn⟩
    rintro mm fr st ⟨q,C,hfr,hH,hq,gw,hall,Mm⟩;rw[hfr];clear hfr;generalize af fr=ee;clear fr;refine zQ 5 ?_;refine zP (fun hlt=>?_) fun hlt=>?_
    ·refine zQ 1 ?_;have IY:q<js.length:=by omega
     obtain⟨p,hp⟩:∃p,js[q]?=some p:=⟨js[q]'IY,List.getElem?_eq_getElem _⟩
     obtain⟨x,y,hv⟩:=hall p (List.mem_of_getElem? hp);have gr:=yn hp;have lg:=bX hv;refine zQ 4 ?_;refine qi hH cW fun U2 QM=>?_;refine zQ 10 ?_;refine ae.D6 hH rfl (ev rfl) (by exact aV) rfl (aa rfl _) ?_;simp only[List.length_map];refine zQ 2 ?_;obtain⟨_,st,aC,rfl,hH⟩:=rJ (at_:=p) (over:=C.length) (lz:=n.lz) hv (by omega) hH;refine qv aC ?_;refine zQ 5 ?_
     have yU:js.drop q=p::js.drop (q+1):=by
      rw[List.drop_eq_getElem_cons IY]
      congr 1
      exact Option.some.inj ((List.getElem?_eq_getElem _).symm.trans hp)
     refine⟨mm-1,by omega,⟨q+1,C.set p (lX p e n.lz),rfl,(by rw[Mm] at hH;exact hH),by omega,by rw[yU] at gw;exact gw,?_,by rw[List.length_set];exact Mm⟩⟩;intro p' wL
     by_cases hpp:p'=p
     ·subst hpp;obtain⟨x',y',IK⟩:=EX p' e n.lz;exact⟨x',y',by rw[List.getElem?_set_self lg,IK]⟩
     ·rw[List.getElem?_set_ne (fun e=>hpp e.symm)];exact hall p' wL
    ·refine zQ 1 ?_;refine⟨fun i h=>(by cases h),_,_,_,rfl,rfl,?_⟩;have Cf:q=js.length:=by omega
     rw[Cf,List.drop_length] at gw;have gw:C=iT (fun s=>lX s e n.lz) C0 js:=gw;rw[←gw];exact⟨rfl,cd,dk,(hH.erase 5).erase 4⟩
   |succ mm=>
    have gu:decide ((i:Int)<((b-a:Nat):Int))=true:=by rw[decide_eq_true_eq];omega
    rw[Nat.succ_mul] at hcl;refine qq<|qD rfl (by rw[gu]) ?_;refine zQ 7 ?_;refine ae.go (d:=.agg [.int .i64 2,.int .i64 0,.int .i64 0,.nul]) (st1:=_) rfl rfl rfl (by dsimp only[Fr.put,u1,u2]<;>rfl) ?_;have hH:=hH.eC 2;obtain⟨_,st,aC,rfl,cd,dk,hH⟩:=gX (rs:=[]) hF (by omega) hH;refine qv aC ?_;refine qh (s:=1) (vs:=[_]) hH fun k69 st WE hH=>?_;dsimp only[u2,u1,u3,u4,setMany,u5,u6,D.cells,Nat.reduceAdd,aX,aH,ay,lB] at hH;refine qP hH du (hH.rows aG) fun UL st hH=>?_;dsimp only[u2,u1,u3,u4,setMany,u5,u6,D.cells,Nat.reduceAdd,aX,aH,ay,lB] at hH;refine zQ 2 ?_;have hH:=hH.drop 1;have n5:(aT++[cH 2 0 0 []]).length=aT.length+1:=by simp
    refine zQ 3 ?_;obtain⟨_,st,aC,rfl,cd,dk,hH⟩:=ih t (by omega) hF AR kW hsz wH tO (by omega) ⟨cd,dk,hH⟩;refine qv aC ?_;refine zQ 1 ?_;rw[n5] at hH;have pf:(aT++[cH 2 0 0 []]++aM t (aT.length+1)).length=aT.length+1+t.sz:=by rw[List.length_append,n5,DH]
    refine zQ 4 ?_;exact⟨mm,by omega,⟨i+1,cd,UL,dk,aT++[cH 2 0 0 []]++aM t (aT.length+1),js++[aT.length],rfl,(by rw[List.map_append (f:=lB)];exact hH),by omega,by rw[pf,←je];simp only[e_,List.append_assoc,List.cons_append,List.nil_append],by rw[pf,←hjs];simp only[yf,List.append_assoc,List.cons_append,List.nil_append],by rw[pf];omega,by rw[List.length_append,hjl];rfl⟩⟩
end Go.Proofs.YthahmilhpmfkfaaGreat
namespace Go.Proofs.YthahmilhpmfkfaaGreat
open Go.V Go
def bL (fr:Go.V.Fr) (k:Nat):Go.V.D:=Go.V.nth .bf fr.loc k
variable{bb:Bool}
theorem zj (t:Tr):eo (.cons t .nil)=aM t:=by
 funext b;simp only[eo,List.append_nil]
theorem zN (t:Tr):(aE.cons t .nil).sz=t.sz:=by simp only[aE.sz,Nat.add_zero]
theorem Ir {l:List bp} (nc:l.length≤1048576) (hi:∀n∈l,n.ok):∀(m:Nat) (t:Tr),t.flat.length≤m→tw bb l t:=by
 intro m
 induction m with
 |zero=>intro t h;have:=t.jf;omega
 |succ m ih=>
  rintro⟨n,ks⟩ hm N k S s0 H nd zd ed code Z E at_ hF AR kW hsz wH cn hb hM;have XC:=hM;obtain⟨cd,dk,hH⟩:=hM;simp only[Tr.ok] at cn;obtain⟨pb,mM⟩:=cn;simp only[Tr.flat,List.length_cons] at hm;have hle:=kW.le (by simp[Tr.flat]);simp only[Tr.flat] at kW hle;simp only[List.length_cons] at hle;simp only[Tr.zs] at hsz;simp only[Tr.es] at wH;simp only[Tr.sz] at hb;have hn:=kW.head;have NJ:=hi n (List.mem_of_getElem? hn);have AQ:=NJ.1.arg N S;have DM:=NJ.2.1;have gr:=mh hn;have DO:=pb.1;have gT:=aE.oX ks;have hcat:=fun b=>lP ks b mM;refine Ev.jN rfl SK rfl rfl rfl ?_;refine zE ?_;change ai _ _ _ _ s0 _;have hc:=AR.arg N S;refine zQ 7 ?_;refine qr fun Vd QY=>?_;refine ae.cA rfl (ev rfl) (by assumption) rfl (by dsimp only[Fr.put,u1,u2]<;>rfl) ?_;refine qa hH fun k4 st NZ hH=>?_;refine qS hH aG fun st hH=>?_;dsimp only[u2,u1,u3,u4,setMany,u5,u6,D.cells,Nat.reduceAdd,aX,aH,ay,lB] at hH;refine zQ 1 ?_;have hH:Has N S st (.box k (.mem 0 false [cd,nd,zd,ed])::.cv bb dk cd 4 (code.map aX)::.aB zd 1 (Z.map ay)::.aB ed 1 (E.map ay)::.box k4 (.mem 0 false (aH n))::H):=hH.H8;refine zQ 11 ?_;refine zI (fun q2=>?_) fun q2=>?_
  ·have AX:aM (.mk n ks) code.length=[cH 1 0 0 n.rs]:=by simp only[aM,if_pos q2]
   rw[AX];have hz:br n ks.sz ks.len=1:=by unfold br;rw[if_pos (.inl q2)]
   have hH:=hH.eC 2;refine zQ 4 ?_;refine qP hH aG (Arg.rows (by assumption) hH) fun TH st hH=>?_;dsimp only[u2,u1,u3,u4,setMany,u5,u6,D.cells,Nat.reduceAdd,aX,aH,ay,lB] at hH;refine ae.iC (qs:=[(0,_),(3,_)]) rfl rfl rfl rfl ⟨rfl,(ev rfl),(by rfl),rfl,(ev rfl),(by exact hH.gN (by exact aG)),trivial⟩ (by intro q hq;simp only[List.mem_cons,List.not_mem_nil,or_false] at hq;rcases hq with rfl|rfl<;>exact⟨rfl,by exact Nat.le_of_ble_eq_true rfl⟩) (by show List.foldl _ [_,_,_,_] _=_;dsimp only[List.foldl_cons,List.foldl_nil,u2,u1]<;>rfl) (by dsimp only[Fr.put,u1,u2]<;>rfl) ?_;obtain⟨_,st,aC,rfl,cd,dk,hH⟩:=gX (rs:=n.rs) hF (by omega) hH;refine qv aC ?_;refine zQ 1 ?_;refine⟨fun i h=>(by cases h),_,_,_,rfl,rfl,?_⟩;exact⟨rfl,cd,dk,hH.erase 4⟩
  refine zQ 5 ?_;refine zI (fun q7=>?_) fun q7=>?_
  ·have AX:aM (.mk n ks) code.length=[cH 5 0 0 []]:=by simp only[aM,if_neg q2,if_pos q7]
   rw[AX];refine zQ 2 ?_;refine ae.go (d:=.agg [.int .i64 5,.int .i64 0,.int .i64 0,.nul]) (st1:=_) rfl rfl rfl (by dsimp only[Fr.put,u1,u2]<;>rfl) ?_;have hH:=hH.eC 2;obtain⟨_,st,aC,rfl,cd,dk,hH⟩:=gX (rs:=[]) hF (by omega) hH;refine qv aC ?_;refine zQ 1 ?_;refine⟨fun i h=>(by cases h),_,_,_,rfl,rfl,?_⟩;exact⟨rfl,cd,dk,hH.erase 4⟩
  refine zQ 5 ?_;refine zI (fun q8=>?_) fun q8=>?_
  ·have AX:aM (.mk n ks) code.length=[cH 6 0 0 []]:=by simp only[aM,if_neg q2,if_neg q7,if_pos q8]
   rw[AX];refine zQ 2 ?_;refine ae.go (d:=.agg [.int .i64 6,.int .i64 0,.int .i64 0,.nul]) (st1:=_) rfl rfl rfl (by dsimp only[Fr.put,u1,u2]<;>rfl) ?_;have hH:=hH.eC 2;obtain⟨_,st,aC,rfl,cd,dk,hH⟩:=gX (rs:=[]) hF (by omega) hH;refine qv aC ?_;refine zQ 1 ?_;refine⟨fun i h=>(by cases h),_,_,_,rfl,rfl,?_⟩;exact⟨rfl,cd,dk,hH.erase 4⟩
  refine zQ 5 ?_;refine zI (fun q3=>?_) fun q3=>?_
  ·have AX:aM (.mk n ks) code.length=eo ks code.length:=by simp only[aM,if_neg q2,if_neg q7,if_neg q8,if_pos q3]
   rw[AX];have hz:br n ks.sz ks.len=ks.sz:=by unfold br;rw[if_neg (by omega),if_neg (by omega),if_neg (by omega),if_neg (by omega)]
   rw[hz] at hb;refine zQ 13 ?_;refine ai.loop (fun mm fr st=>∃(i j:Nat) (rest:aE) (cd:D) (dk:Nat→Prop) (aT:List aK),fr.clean=⟨40,[.ptr k 0 0,.int .i64 (at_:Nat),bL fr 2,bL fr 3,.ptr k4 0 0,.int .i64 (j:Nat),bL fr 6,bL fr 7,bL fr 8,bL fr 9,bL fr 10,bL fr 11,bL fr 12,bL fr 13,bL fr 14,bL fr 15,bL fr 16,bL fr 17,bL fr 18,bL fr 19,bL fr 20,bL fr 21,bL fr 22,bL fr 23,bL fr 24,bL fr 25,bL fr 26,bL fr 27,bL fr 28,bL fr 29,bL fr 30,bL fr 31,bL fr 32,bL fr 33,bL fr 34,bL fr 35,bL fr 36,bL fr 37,.int .i64 n.kids,.int .i64 (i:Nat)],[]⟩∧Has N S st (.box k (.mem 0 false [cd,nd,zd,ed])::.cv bb dk cd 4 (aT.map aX)::.aB zd 1 (Z.map ay)::.aB ed 1 (E.map ay)::.box k4 (.mem 0 false (aH n))::H)∧(mm=rest.len)∧(i+rest.len=ks.len)∧(gb l j rest.flat)∧(gb Z j rest.zs)∧(gb E j (rest.es j))∧(rest.ok)∧(aT++eo rest aT.length=code++eo ks code.length)∧(aT.length+rest.sz=code.length+ks.sz)∧(rest.flat.length≤m)) (ks.len) ?_ ?_
   ·exact⟨0,at_+1,ks,cd,dk,code,rfl,hH,rfl,by omega,kW.tail,hsz.tail,wH.tail,mM,rfl,rfl,by omega⟩
   rintro mm fr st ⟨i,j,rest,cd,dk,aT,hfr,hH,AS,wR,qI,yL,qH,kX,je,hcl,hrm⟩;rw[hfr];clear hfr;generalize bL fr=ee;clear fr;refine zQ 4 ?_
   cases rest with
   |nil=>
    simp only[aE.len] at wR;simp only[eo,List.append_nil] at je;have gu:decide ((i:Int)<n.kids)=false:=by rw[decide_eq_false_iff_not];omega
    refine qq<|qE rfl (by rw[gu]) ?_;refine zQ 1 ?_;refine⟨fun i h=>(by cases h),_,_,_,rfl,rfl,?_⟩;rw[←je];exact⟨rfl,cd,dk,hH.erase 4⟩
   |cons t ts=>
    simp only[aE.len] at wR AS;simp only[aE.sz] at hcl;simp only[aE.flat,List.length_append] at qI hrm;simp only[aE.zs] at yL;simp only[aE.es] at qH;simp only[aE.ok] at kX;simp only[eo] at je;have KW:=t.jI;have J2:=t.jR j;have DH:=bw t aT.length kX.1;have QC:=hD (Cy qH.left);have gu:decide ((i:Int)<n.kids)=true:=by rw[decide_eq_true_eq];omega
    refine qq<|qD rfl (by rw[gu]) ?_;refine zQ 7 ?_;obtain⟨_,st,aC,rfl,cd,dk,hH⟩:=ih t (by omega) hF AR qI.left yL.left qH.left kX.1 (by omega) ⟨cd,dk,hH⟩;refine qv aC ?_;refine zQ 7 ?_;refine qi hH cD fun PW K9=>?_;refine zQ 7 ?_;exact⟨mm-1,by omega,⟨i+1,j+t.flat.length,ts,cd,dk,aT++aM t aT.length,rfl,hH,by omega,by omega,qI.right,by rw[←KW];exact yL.right,by rw[←J2];rw[←J2] at qH;exact qH.right,kX.2,by rw[List.length_append,DH,List.append_assoc];exact je,by rw[List.length_append,DH];omega,by omega⟩⟩
  refine zQ 5 ?_;refine zI (fun q4=>?_) fun q4=>?_
  ·have AX:aM (.mk n ks) code.length=di (j9 (code.length+br n ks.sz ks.len)) ks code.length:=by simp only[aM,if_neg q2,if_neg q7,if_neg q8,if_neg q3,if_pos q4]
   rw[AX];refine zQ 3 ?_;obtain⟨_,st,aC,rfl,cd,dk,hH⟩:=L6 nc ih q4 (by omega) pb mM hF AR kW hsz.tail wH.tail hb ⟨cd,dk,hH⟩;refine qv aC ?_;refine zQ 1 ?_;refine⟨fun i h=>(by cases h),_,_,_,rfl,rfl,?_⟩;exact⟨rfl,cd,dk,hH.erase 4⟩
  refine zQ 5 ?_;refine zI (fun q5=>?_) fun q5=>?_
  ·have lG:ks.len=1:=by
    obtain⟨_,hq⟩:=pb;omega
   obtain⟨t,rfl⟩:=aE.B7 lG;have AX:aM (.mk n (.cons t .nil)) code.length=mS n (aM t) t.sz code.length:=by simp only[aM,if_neg q2,if_neg q7,if_neg q8,if_neg q3,if_neg q4,if_pos q5,zj,zN]
   rw[AX];rw[lG] at pb hb;rw[zN] at hb;simp only[aE.flat,aE.zs,aE.es,aE.ok,List.append_nil] at*;refine zQ 3 ?_;obtain⟨_,st,aC,rfl,cd,dk,hH⟩:=Da nc ih q5 (by omega) pb mM.1 hF AR kW hsz.tail wH.tail hb ⟨cd,dk,hH⟩;refine qv aC ?_;refine zQ 1 ?_;refine⟨fun i h=>(by cases h),_,_,_,rfl,rfl,?_⟩;exact⟨rfl,cd,dk,hH.erase 4⟩
  refine zQ 5 ?_;refine zI (fun q6=>?_) fun q6=>?_
  ·have lG:ks.len=1∧1≤n.cap∧n.cap≤4:=by
    obtain⟨_,hq⟩:=pb;omega
   obtain⟨t,rfl⟩:=aE.B7 lG.1;have AX:aM (.mk n (.cons t .nil)) code.length=cH 4 (2*n.cap) 0 []::(aM t (code.length+1)++[cH 4 (2*n.cap+1) 0 []]):=by simp only[aM,if_neg q2,if_neg q7,if_neg q8,if_neg q3,if_neg q4,if_neg q5,if_pos q6,zj]
   rw[AX];have hz:br n (aE.cons t .nil).sz (aE.cons t .nil).len=t.sz+2:=by unfold br;rw[if_neg (by omega),if_neg (by omega),if_pos q6,zN]
   rw[hz] at hb;simp only[aE.flat,aE.zs,aE.es,aE.ok,List.append_nil] at kW hsz wH mM hm;refine zQ 5 ?_;refine ae.Ap (z:=(2*n.cap)) rfl (ev rfl) (ev rfl) (by(try simp only[List.length_reverse,List.length_cons,List.length_nil,List.length_append,List.length_map,List.length_set]);rw[wrap_i64 (by omega) (by omega)]<;>omega) (aa rfl _) ?_;refine ae.go (d:=.agg [.int .i64 4,.int .i64 (2*n.cap),.int .i64 0,.nul]) (st1:=_) rfl rfl rfl (aa rfl _) ?_;have hH:=hH.eC 2;obtain⟨_,st,aC,rfl,cd,dk,hH⟩:=gX (rs:=[]) hF (by omega) hH;refine qv aC ?_;refine zQ 1 ?_;have n5:(code++[cH 4 (2*n.cap) 0 []]).length=code.length+1:=by simp
   refine zQ 5 ?_;obtain⟨_,st,aC,rfl,cd,dk,hH⟩:=ih t (by omega) hF AR kW.tail hsz.tail wH.tail mM.1 (by omega) ⟨cd,dk,hH⟩;refine qv aC ?_;refine zQ 1 ?_;rw[n5] at hH;have pf:(code++[cH 4 (2*n.cap) 0 []]++aM t (code.length+1)).length=code.length+1+t.sz:=by rw[List.length_append,n5,bw t _ mM.1]
   refine zQ 4 ?_;refine ae.Ap (z:=(2*n.cap)) rfl (ev rfl) (ev rfl) (by(try simp only[List.length_reverse,List.length_cons,List.length_nil,List.length_append,List.length_map,List.length_set]);rw[wrap_i64 (by omega) (by omega)]<;>omega) (aa rfl _) ?_;refine ae.eN (z:=(2*n.cap+1)) rfl (ev rfl) (ev rfl) (by(try simp only[List.length_reverse,List.length_cons,List.length_nil,List.length_append,List.length_map,List.length_set]);rw[wrap_i64 (by omega) (by omega)]<;>omega) (aa rfl _) ?_;refine ae.go (d:=.agg [.int .i64 4,.int .i64 (2*n.cap+1),.int .i64 0,.nul]) (st1:=_) rfl rfl rfl (aa rfl _) ?_;have hH:=hH.eC 2;obtain⟨_,st,aC,rfl,cd,dk,hH⟩:=gX (rs:=[]) hF (by omega) hH;refine qv aC ?_;refine zQ 1 ?_;have iP:code++[cH 4 (2*n.cap) 0 []]++aM t (code.length+1)++[cH 4 (2*n.cap+1) 0 []]=code++cH 4 (2*n.cap) 0 []::(aM t (code.length+1)++[cH 4 (2*n.cap+1) 0 []]):=by simp
   rw[iP] at hH;refine⟨fun i h=>(by cases h),_,_,_,rfl,rfl,?_⟩;exact⟨rfl,cd,dk,hH.erase 4⟩
  ·refine zQ 1 ?_;have AX:aM (.mk n ks) code.length=[]:=by simp only[aM,if_neg q2,if_neg q7,if_neg q8,if_neg q3,if_neg q4,if_neg q5,if_neg q6]
   rw[AX,List.append_nil];refine⟨fun i h=>(by cases h),_,_,_,rfl,rfl,?_⟩;exact⟨rfl,cd,dk,hH.erase 4⟩
end Go.Proofs.YthahmilhpmfkfaaGreat
namespace Go.Proofs.YthahmilhpmfkfaaGreat
open Go.V Go
def i_ (fr:Go.V.Fr) (k:Nat):Go.V.D:=Go.V.nth .bf fr.loc k
def Eo (x:Nl):List D:=[x.d]
theorem KK {l:List Nl} {i:Nat} {q:Nl} (h:l[i]?=some q):(l.map Eo)[i]?=some (Eo q):=by rw[List.getElem?_map,h];rfl
def og (R:iK):D:=.tup [(mb R.code R.aF).d,.int .i64 R.e,.int .i64 R.w]
theorem BD {es M:List Int} (h:M.length=es.length):oy es 0 M=M:=by
 unfold oy;simp[h]
theorem vu (r:Nat) (c:List aK) (s:List Int):gB [] r c s=⟨c,s,0,0⟩:=by simp only[gB]
theorem A_ {s0:St} {x:D} {rules:List Nl} (hx:V.Rows s0 1 x (rules.map Eo)) (hr:∀r∈rules,r.ok) (hl:rules.length≤1048576):Ev pv 19 [x] s0 (og (bc (rules.map (·.l)))) s0:=by
 refine Ev.iZ rfl S_ rfl rfl rfl ?_;refine zE ?_;obtain⟨aU,hF,hH⟩:=ri s0;generalize ag .ro s0=S at*;have hx:=Arg.of hx aU;have hfz:∀(st:St) (e w:Int),aJ st s0.bs.length false 16 (tI [.agg [.nul,.nul],.int .i64 e,.int .i64 w])=some (og ⟨[],[],e,w⟩):=fun st e w=>rfl;refine zQ 2 ?_;refine qa hH fun k2 st hk2 hH=>?_;refine zQ 7 ?_;refine qn ?_;simp only[List.length_map];refine zQ 2 ?_;unfold bc
 by_cases h8:8<rules.length
 ·rw[if_pos (by rw[List.length_map];exact h8)];refine qD rfl (by simp;omega) ?_;refine zQ 2 ?_;refine ae.go (d:=.agg [.nul,.nul]) (st1:=_) rfl rfl rfl (by dsimp only[Fr.put,u1,u2]<;>rfl) ?_;refine qS hH aG fun st hH=>?_;dsimp only[u2,u1,u3,u4,setMany,u5,u6,D.cells,Nat.reduceAdd,aX,aH,ay,Eo] at hH;refine zQ 3 ?_;refine ai.ret ⟨rx,_,hH.l_ rfl aG rfl rfl rfl,rl aU hH (hfz _ 13 8)⟩
 ·rw[if_neg (by rw[List.length_map];exact h8)];refine qE rfl (by simp;omega) ?_;refine zQ 3 ?_;refine ae.go (d:=.agg [.nul,.nul,.nul,.nul]) (st1:=_) rfl rfl rfl (by dsimp only[Fr.put,u1,u2]<;>rfl) ?_;refine qb hH fun k14 st N1 hH=>?_;refine zQ 10 ?_;refine qn ?_;simp only[List.length_map];refine zQ 2 ?_;have hH:Has s0.bs.length S st (.aB .nul 1 (([]:List Int).map ay)::.deep (fun _=>False) .nul 4 (([]:List aK).map aX)::.box k14 (.mem 0 false [.nul,.nul,.nul,.nul])::[.box k2 (.mem 0 false [.nul,.nul])]):=(hH.P7 4).eC 1;refine zQ 1 ?_;refine ai.loop (fun mm fr st=>∃(r:Nat) (cd nd zd ed sd:D) (dk:Nat→Prop) (code:List aK) (aF:List Int),fr.clean=⟨18,[i_ fr 0,i_ fr 1,.ptr k2 0 0,.int .i64 0,.int .i64 0,.ptr k14 0 0,sd,i_ fr 7,i_ fr 8,i_ fr 9,i_ fr 10,i_ fr 11,i_ fr 12,i_ fr 13,i_ fr 14,x,.int .i64 (rules.length:Nat),.int .i64 (r:Nat)],[]⟩∧Has s0.bs.length S st [.aB sd 1 (aF.map ay),.deep dk cd 4 (code.map aX),.box k14 (.mem 0 false [cd,nd,zd,ed]),.box k2 (.mem 0 false [.nul,.nul])]∧(r+mm=rules.length)∧(gB ((rules.drop r).map (·.l)) r code aF=gB (rules.map (·.l)) 0 [] [])∧(code.length≤400)∧(aF.length≤r)) (rules.length) ?_ ?_
  ·exact⟨0,.nul,.nul,.nul,.nul,.nul,(fun _=>False),[],[],rfl,hH,by omega,by rw[List.drop_zero],by simp,by simp⟩
  rintro mm fr st ⟨r,cd,nd,zd,ed,sd,dk,code,aF,hfr,hH,T6,hX,hcl,hst⟩;rw[hfr];clear hfr;generalize i_ fr=ee;clear fr;refine zQ 4 ?_
  by_cases hlt:r<rules.length
  ·obtain⟨q,hq⟩:∃q,rules[r]?=some q:=⟨rules[r]'hlt,List.getElem?_eq_getElem _⟩
   have hqo:=hr q (List.mem_of_getElem? hq);have gr:=KK hq
   have yU:rules.drop r=q::rules.drop (r+1):=by
    rw[List.drop_eq_getElem_cons hlt]
    congr 1
    exact Option.some.inj ((List.getElem?_eq_getElem _).symm.trans hq)
   rw[yU,List.map_cons,gB] at hX;refine qq<|qD rfl (by simp;omega) ?_;refine zQ 6 ?_;refine qr fun MR Gi=>?_;refine zQ 8 ?_;refine qv (uy hqo) ?_;refine zQ 2 ?_
   cases AO:fJ q.l with
   |false=>
    rw[if_pos AO] at hX;refine zQ 3 ?_;refine ae.go (d:=.agg [.nul,.nul]) (st1:=_) rfl rfl rfl (aa rfl _) ?_;refine qm ?_;refine qS hH cD fun st hH=>?_;dsimp only[u2,u1,u3,u4,setMany,u5,u6,D.cells,Nat.reduceAdd,aX,aH,ay,Eo] at hH;refine zQ 3 ?_;rw[←hX];refine ai.ret ⟨rx,_,hH.l_ rfl cD rfl rfl rfl,rl aU hH (hfz _ 1 r)⟩
   |true=>
    rw[if_neg (by rw[AO];simp)] at hX;obtain⟨tO,yJ⟩:=nD AO;have Yo:=hqo.c.arg s0.bs.length S;have Yn:=hqo.nl;have u_:=hqo.c;refine zQ 9 ?_;refine qn ?_;simp only[List.length_map];refine ae.J8 (s:=1) hH rfl rfl rfl rfl rfl rfl rfl rfl (Nat.le_of_ble_eq_true rfl) (by omega) (fun _=>(aa rfl _)) (fun k33 st Rk hH=>?_);refine qm ?_;refine qn ?_;simp only[List.length_map];refine ae.J8 (s:=1) hH rfl rfl rfl rfl rfl rfl rfl rfl (Nat.le_of_ble_eq_true rfl) (by omega) (fun _=>(aa rfl _)) (fun k36 st N0 hH=>?_);refine zQ 2 ?_;refine qT hH cW fun st hH=>?_;dsimp only[u2,u1,u3,u4,setMany,u5,u6,D.cells,Nat.reduceAdd,aX,aH,ay,Eo] at hH;refine zQ 2 ?_;refine qT hH cW fun st hH=>?_;dsimp only[u2,u1,u3,u4,setMany,u5,u6,D.cells,Nat.reduceAdd,aX,aH,ay,Eo] at hH;refine zQ 2 ?_;refine qT hH cW fun st hH=>?_;dsimp only[u2,u1,u3,u4,setMany,u5,u6,D.cells,Nat.reduceAdd,aX,aH,ay,Eo] at hH;refine zQ 1 ?_
    have hH:Has s0.bs.length S st (.aB (.win k33 0 0 q.l.length 1) 1 ((List.replicate q.l.length (0:Int)).map ay)::.aB (.win k36 0 0 q.l.length 1) 1 ((List.replicate q.l.length (0:Int)).map ay)::.aB sd 1 (aF.map ay)::.deep dk cd 4 (code.map aX)::.box k14 (.mem 0 false [cd,q.d,.win k33 0 0 q.l.length 1,.win k36 0 0 q.l.length 1])::.box k2 (.mem 0 false [.nul,.nul])::[]):=by
     rw[List.map_replicate];exact hH.front aV
    refine zQ 7 ?_;obtain⟨_,st,aC,rfl,hH⟩:=EZ hqo.nl hqo.i hqo.c _ (cq q.l) (Nat.le_refl _) tO (at_:=0) (by rw[yJ];exact gb.all _) (by simp) hH;refine qv aC ?_;refine zQ 1 ?_;rw[BD (by rw[Tr.jI,yJ];simp)] at hH;have hH:=hH.front aV;refine zQ 7 ?_;obtain⟨_,st,aC,rfl,hH⟩:=Jl hqo.nl hqo.i hqo.c _ (cq q.l) (Nat.le_refl _) tO (at_:=0) (by rw[yJ];exact gb.all _) (by simp) hH;refine qv aC ?_;refine zQ 1 ?_;rw[BD (by rw[Tr.jR,yJ];simp)] at hH;have VT:=hD (Bo (gb.all (cq q.l).zs));refine zQ 7 ?_;refine ae.D6 hH rfl (ev rfl) (by exact cD) rfl (aa rfl _) ?_;simp only[List.length_map];refine zQ 4 ?_;refine qi hH aV fun TO Nq=>?_;refine zQ 1 ?_;refine ae.eN (z:=((code.length+min (cq q.l).sz 401:Nat):Int)) rfl (ev rfl) (ev rfl) (by(try simp only[List.length_reverse,List.length_cons,List.length_nil,List.length_append,List.length_map,List.length_set]);rw[wrap_i64 (by omega) (by omega)]<;>omega) (aa rfl _) ?_;refine ae.eN (z:=((code.length+min (cq q.l).sz 401+3:Nat):Int)) rfl (ev rfl) (ev rfl) (by(try simp only[List.length_reverse,List.length_cons,List.length_nil,List.length_append,List.length_map,List.length_set]);rw[wrap_i64 (by omega) (by omega)]<;>omega) (aa rfl _) ?_;refine zQ 2 ?_
    by_cases hbig:400<code.length+min (cq q.l).sz 401+3
    ·rw[if_pos hbig] at hX;have gu:decide (((code.length+min (cq q.l).sz 401+3:Nat):Int)>400)=true:=by rw[decide_eq_true_eq];omega
     refine qD rfl (by rw[gu]) ?_;refine zQ 2 ?_;refine ae.go (d:=.agg [.nul,.nul]) (st1:=_) rfl rfl rfl (aa rfl _) ?_;refine qm ?_;refine qS hH du fun st hH=>?_;dsimp only[u2,u1,u3,u4,setMany,u5,u6,D.cells,Nat.reduceAdd,aX,aH,ay,Eo] at hH;refine zQ 3 ?_;rw[←hX];refine ai.ret ⟨rx,_,hH.l_ rfl du rfl rfl rfl,rl aU hH (hfz _ 12 r)⟩
    ·rw[if_neg hbig] at hX;have gu:decide (((code.length+min (cq q.l).sz 401+3:Nat):Int)>400)=false:=by rw[decide_eq_false_iff_not];omega
     refine qE rfl (by rw[gu]) ?_;refine zQ 1 ?_;have hH:=hH.front aV;have hH:=hH.front cD;have hH:=hH.front cW;have hH:Has s0.bs.length S st (.box k14 (.mem 0 false [cd,q.d,.win k33 0 0 q.l.length 1,.win k36 0 0 q.l.length 1])::.deep dk cd 4 (code.map aX)::.aB (.win k33 0 0 q.l.length 1) 1 ((cq q.l).zs.map ay)::.aB (.win k36 0 0 q.l.length 1) 1 (((cq q.l).es 0).map ay)::.aB sd 1 (aF.map ay)::.box k2 (.mem 0 false [.nul,.nul])::[]):=hH;refine zQ 4 ?_;refine ae.go (d:=.agg [.int .i64 4,.int .i64 0,.int .i64 0,.nul]) (st1:=_) rfl rfl rfl (aa rfl _) ?_;have hH:=hH.eC 2;obtain⟨_,st,aC,rfl,cd,dk,hH⟩:=gX (rs:=[]) hF (by omega) hH;refine qv aC ?_;refine qh (s:=1) (vs:=[_]) hH fun k75 st WC hH=>?_;refine ae.ew (s:=1) hH rfl (ev rfl) (ev rfl) (by exact du) (by exact hH.rows (by exact aG)) rfl rfl rfl rfl rfl rfl rfl ⟨(Nat.le_of_ble_eq_true rfl),(Nat.le_of_ble_eq_true rfl)⟩ (fun _=>(aa rfl _)) (by simp only[List.length_cons,List.length_nil,List.length_map]<;>omega) (by exact .inl hF) (fun UK st hH=>?_);dsimp only[u2,u1,u3,u4,setMany,u5,u6,D.cells,Nat.reduceAdd,aX,aH,ay,Eo] at hH;refine zQ 2 ?_;have hH:=hH.drop 1;have n5:(code++[cH 4 0 0 []]).length=code.length+1:=by simp
     refine zQ 3 ?_;obtain⟨_,st,aC,rfl,cd,dk,hH⟩:=Ir hqo.nl hqo.i _ (cq q.l) (Nat.le_refl _) hF hqo.c (at_:=0) (by rw[yJ];exact gb.all _) (gb.all _) (gb.all _) tO (by omega) ⟨cd,dk,hH⟩;refine qv aC ?_;refine zQ 1 ?_;rw[n5] at hH;have pf:(code++[cH 4 0 0 []]++aM (cq q.l) (code.length+1)).length=code.length+1+(cq q.l).sz:=by rw[List.length_append,n5,bw _ _ tO]
     refine zQ 3 ?_;refine ae.go (d:=.agg [.int .i64 4,.int .i64 1,.int .i64 0,.nul]) (st1:=_) rfl rfl rfl (aa rfl _) ?_;have hH:=hH.eC 2;obtain⟨_,st,aC,rfl,cd,dk,hH⟩:=gX (rs:=[]) hF (by omega) hH;refine qv aC ?_;refine zQ 1 ?_;have GC:(code++[cH 4 0 0 []]++aM (cq q.l) (code.length+1)++[cH 4 1 0 []]).length=code.length+1+(cq q.l).sz+1:=by rw[List.length_append,pf];rfl
     refine zQ 3 ?_;refine ae.go (d:=.agg [.int .i64 7,.int .i64 (r:Nat),.int .i64 0,.nul]) (st1:=_) rfl rfl rfl (aa rfl _) ?_;have hH:=hH.eC 2;obtain⟨_,st,aC,rfl,cd,dk,hH⟩:=gX (rs:=[]) hF (by omega) hH;refine qv aC ?_;refine zQ 1 ?_
     have VO:code++[cH 4 0 0 []]++aM (cq q.l) (code.length+1)++[cH 4 1 0 []]++[cH 7 (r:Nat) 0 []]=code++eW (cq q.l) code.length r:=by
      unfold eW;simp
     rw[VO] at hH;have hH:=(hH.erase 2).erase 2;have hH:=hH.front aV;have hH:=hH.front bE;refine zQ 4 ?_;exact⟨mm-1,by omega,⟨r+1,cd,q.d,.win k33 0 0 q.l.length 1,.win k36 0 0 q.l.length 1,UK,dk,code++eW (cq q.l) code.length r,aF++[((code.length:Nat):Int)],rfl,(by rw[List.map_append (f:=ay)];exact hH),by omega,hX,by rw[List.length_append,lZ tO];omega,by rw[List.length_append];simp only[List.length_cons,List.length_nil];omega⟩⟩
  ·refine qq<|qE rfl (by simp;omega) ?_;refine zQ 1 ?_;rw[List.drop_of_length_le (by omega),List.map_nil,vu] at hX;refine zQ 7 ?_;refine ae.iC (qs:=[(0,_),(1,_)]) rfl rfl rfl rfl ⟨rfl,(ev rfl),(by exact hH.tc (by exact aV)),rfl,(ev rfl),(by exact hH.gN (by exact aG)),trivial⟩ (by intro q hq;simp only[List.mem_cons,List.not_mem_nil,or_false] at hq;rcases hq with rfl|rfl<;>exact⟨rfl,by exact Nat.le_of_ble_eq_true rfl⟩) (by show List.foldl _ [_,_] _=_;dsimp only[List.foldl_cons,List.foldl_nil,u2,u1]<;>rfl) (aa rfl _) ?_;refine qS hH cD fun st hH=>?_;dsimp only[u2,u1,u3,u4,setMany,u5,u6,D.cells,Nat.reduceAdd,aX,aH,ay,Eo] at hH;refine zQ 3 ?_;rw[←hX];have h1:=hH.GO aV (n:=13) (by decide);have h2:=hH.w5 aG (uV _) (n:=14) (by decide)
   have h4:aJ st s0.bs.length false 15 (.agg [cd,sd])=some (mb code aF).d:=by
    show(ec (aJ st s0.bs.length false 14) [cd,sd]).map D.agg=_;simp only[ec,h1,h2,Option.map_some];rfl
   have h3:aJ st s0.bs.length false 16 (tI [.agg [cd,sd],.int .i64 0,.int .i64 0])=some (og ⟨code,aF,0,0⟩):=by
    show(ec (aJ st s0.bs.length false 15) [.agg [cd,sd],.int .i64 0,.int .i64 0]).map D.tup=_;simp only[ec,h4];rfl
   exact ai.ret ⟨rx,_,hH.l_ rfl cD rfl rfl rfl,rl aU hH h3⟩
end Go.Proofs.YthahmilhpmfkfaaGreat
namespace Go.Proofs.YthahmilhpmfkfaaGreat
open Go.V Go
theorem zf:∀(ls:List (List bp)) (r:Nat) (c:List aK) (s:List Int),(∀l∈ls,∀n∈l,n.rs.length≤1048576)→(∀i∈c,kf i)→c.length≤400→s.length≤r→(∀i∈(gB ls r c s).code,kf i)∧(gB ls r c s).code.length≤400∧(gB ls r c s).aF.length≤r+ls.length
 |[],r,c,s,_,h1,h2,h3=>by rw[vu];exact⟨h1,h2,by simpa using h3⟩
 |l::ls,r,c,s,h0,h1,h2,h3=>by
  have Um:∀e w:Int,(∀i∈(iK.mk [] [] e w).code,kf i)∧(iK.mk [] [] e w).code.length≤400∧(iK.mk [] [] e w).aF.length≤r+(l::ls).length:=fun e w=>⟨fun i hi=>(by cases hi),by simp,by simp⟩
  rw[gB]
  split
  ·exact Um _ _
  ·rename_i hr;rw[Bool.not_eq_false] at hr
   split
   ·exact Um _ _
   ·rename_i hb;obtain⟨t1,t2⟩:=nD hr
    obtain⟨h4,h5,h6⟩:=zf ls (r+1) (c++eW (cq l) c.length r) (s++[((c.length:Nat):Int)]) (fun l' jV=>h0 l' (List.mem_cons_of_mem _ jV)) (fun i hi=>by
     rcases List.mem_append.1 hi with hi|hi
     ·exact h1 i hi
     ·exact H0 (by rw[t2];exact h0 l (List.mem_cons_self ..)) i hi) (by rw[List.length_append,lZ t1];omega) (by rw[List.length_append];simp only[List.length_cons,List.length_nil];omega)
    exact⟨h4,h5,by simp only[List.length_cons];omega⟩
theorem ze {ls:List (List bp)} (h:∀l∈ls,∀n∈l,n.rs.length≤1048576):(mb (bc ls).code (bc ls).aF).ok∧(bc ls).code.length≤400:=by
 unfold bc
 split
 ·exact⟨Fp (fun i hi=>(by cases hi)) (by simp) (by simp),by simp⟩
 ·obtain⟨h1,h2,h3⟩:=zf ls 0 [] [] h (fun i hi=>by cases hi) (by simp) (by simp);exact⟨Fp h1 (by omega) (by omega),h2⟩
end Go.Proofs.YthahmilhpmfkfaaGreat
