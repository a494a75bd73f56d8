/-
 May a machine of a program have these lists?
-/
import Derived.Test.YtecjacicdpejaaaGreatXGHr
import Derived.Test.YtecjacicdpejaaaGreatXGYd
import Derived.Test.YtecjacicdpejaaaGreatXGUo
import Derived.Test.YtecjacicdpejaaaGreatXGJi
set_option maxRecDepth 100000
set_option maxHeartbeats 4000000
set_option linter.unusedSimpArgs false
set_option linter.unusedVariables false
namespace Go.Proofs.YtecjacicdpejaaaGreat
open Go.V Go
structure GV where
 dn:Bool
 bf:j4
 td:D
 bn:List GT
def eo (l:GV):List D:=aX l.dn l.bf l.td
theorem yp {l:List GV} {i:Nat} {q:GV} (h:l[i]?=some q):(l.map eo)[i]?=some (eo q):=by rw[List.getElem?_map,h];rfl
def rq (f:j4):Prop:=∀i,i<10→f i=-1
def A' (p:Pg) (place:Int) (L:List GV) (m:Nat):Prop:=∀r l s,r<m→L[r]?=some l→p.ak[r]?=some s→(l.dn=true∨rq l.bf)∧cz l.bf place∧lP p s l.bn place l.bn.length
structure dr (p:Pg) (place:Int) (L:List GV):Prop where
 right:bm p
 ge:0≤place
 le:place≤1099511627776
 len:L.length=p.ak.length
 each:A' p place L L.length
theorem A'.succ {p:Pg} {place:Int} {L:List GV} {m:Nat} {l:GV} {s:Int} (h:A' p place L m) (hl:L[m]?=some l) (hs:p.ak[m]?=some s) (h1:(l.dn=true∨rq l.bf)∧cz l.bf place∧lP p s l.bn place l.bn.length):A' p place L (m+1):=by
 intro r l' s' hr j7 qG
 by_cases he:r=m
 ·subst he;rw[hl] at j7;cases j7;rw[hs] at qG;cases qG;exact h1
 ·exact h r l' s' (by omega) j7 qG
def G8 (st:St) (x:D) (L:List GV):Prop:=V.Rows st 12 x (L.map eo)∧L.length≤1048576∧∀l∈L,V.Rows st 11 l.td (l.bn.map dA)∧l.bn.length≤1048576
def di (fr:Go.V.Fr) (k:Nat):Go.V.D:=Go.V.nth .bI fr.loc k
def ei (n:Int):Int:=min (max n (-1)) 9223372036854775806
def pK (f:j4):List UInt8:=((List.range 10).map fun i=>aQ (ei (f i)+1)).flatten
def iX (t:GT):List UInt8:=aQ t.pc++pK t.c
def eX (l:GV):List UInt8:=iw l.dn++(pK l.bf++(aQ (l.bn.length:Nat)++(l.bn.map iX).flatten))
def mM (L:List GV):List UInt8:=aQ (L.length:Nat)++(L.map eX).flatten
def kV (h:List UInt8) (place:Int) (L:List GV):List UInt8:=eK h++(aQ place++mM L)
theorem tv (f:j4):(pK f).length≤90:=by
 have:=kO (f:=fun i=>aQ (ei (f i)+1)) (n:=9) (l:=List.range 10) fun i _=>aV _;rw[List.length_range] at this;exact this
theorem Bj (t:GT):(iX t).length≤99:=by unfold iX;have:=aV t.pc;have:=tv t.c;rw[List.length_append];omega
theorem yw (f:Bool):(iw f).length≤9:=aV _
theorem xQ {l:GV} (h:l.bn.length≤1000):(eX l).length≤99108:=by
 unfold eX;have:=yw l.dn;have:=tv l.bf;have:=aV (l.bn.length:Nat);have:=kO (f:=iX) (n:=99) (l:=l.bn) fun t _=>Bj t;simp only[List.length_append];omega
def j4.fit (f:j4):Prop:=∀i,i<10→f i≤9223372036854775807
def GT.fit (t:GT):Prop:=t.pc<9223372036854775808∧j4.fit t.c
def GV.fit (l:GV):Prop:=j4.fit l.bf∧∀t∈l.bn,t.fit
theorem A5 (f:j4) {i:Nat} (h:i<10):((((List.range 10).take (i+1)).map fun i=>aQ (ei (f i)+1)).flatten)=(((List.range 10).take i).map fun i=>aQ (ei (f i)+1)).flatten++aQ (ei (f i)+1):=
 jQ (f:=fun i=>aQ (ei (f i)+1)) (l:=List.range 10) (by rw[List.getElem?_range h])
theorem xf {s0:St} {x:D} {b:List UInt8} (hF:s0.flr≤s0.bs.length) (du:s0.ro≤s0.bs.length) (hx:V.Rows s0 1 x (byteCells b)) (hl:b.length≤50000000000) (f:j4) (hf:j4.fit f):
  ∃d ai,Ev pv 89 [x,.agg (aA f)] s0 d ai∧kC s0 ai d (b++pK f):=by
 refine Ev.eN rfl abk rfl rfl rfl ?_;refine zE ?_;have aN:(ae .nw s0).bs=s0.bs:=rfl;have hF:(ae .nw s0).flr≤s0.bs.length:=hF;have hH:Has s0.bs.length (ae .nw s0) (ae .nw s0) []:=Has.start (Nat.le_refl _) (Nat.le_refl _);generalize ae .nw s0=S at*;have hx:=Arg.of hx aN;refine zQ 2 ?_;refine qb hH fun k3 st oC hH=>?_;dsimp only[u2,u1,u3,u4,setMany,u5,u6,D.cells,Nat.reduceAdd,aA] at hH;refine zQ 8 ?_;refine ag.loop (fun mm fr st=>∃(i:Nat) (y:D) (E:List bo),fr.clean=⟨7,[y,di fr 1,di fr 2,.ptr k3 0 0,di fr 4,.int .i64 (i:Nat),di fr 6],[]⟩∧Has s0.bs.length S st (E++[.box k3 (.mem 0 false (aA f))])∧(i+mm=10)∧(V.Rows st 1 y (byteCells (b++(((List.range 10).take i).map fun i=>aQ (ei (f i)+1)).flatten)))∧(i=0∨∃E',E=.aF y 1 (byteCells (b++(((List.range 10).take i).map fun i=>aQ (ei (f i)+1)).flatten))::E')) (10) ?_ ?_
 ·exact⟨0,x,[],rfl,hH,by omega,(by simpa using hx.rows hH),.inl rfl⟩
 rintro mm fr st ⟨i,y,E,hfr,hH,hi,hy,hE⟩;rw[hfr];clear hfr;generalize di fr=ee;clear fr;refine zQ 6 ?_;refine zP (fun hlt=>?_) fun hlt=>?_
 ·refine zQ 1 ?_;have nD:i<10:=by omega
  have hfi:=hf i nD;have ej:=A5 f nD;have fT:=kO (f:=fun i=>aQ (ei (f i)+1)) (n:=9) (l:=(List.range 10).take i) fun i _=>aV _;have Ma:((List.range 10).take i).length≤10:=by rw[List.length_take,List.length_range];omega
  have hb:(E++[bo.box k3 (.mem 0 false (aA f))])[E.length]?=some (.box k3 (.mem 0 false (aA f))):=by rw[List.getElem?_append_right (Nat.le_refl _),Nat.sub_self];rfl
  have oJ:-1≤ei (f i)∧ei (f i)≤9223372036854775806:=by unfold ei;omega
  have S4:(b++(((List.range 10).take i).map fun i=>aQ (ei (f i)+1)).flatten).length≤60000000000:=by rw[List.length_append];omega
  generalize hP:b++(((List.range 10).take i).map fun i=>aQ (ei (f i)+1)).flatten=P at*;refine zQ 5 ?_;refine ab.go (d:=.ptr k3 0 (0+i*1)) (st1:=_) rfl rfl (Cn nD) (aa rfl _) ?_;refine ab.iv hH rfl rfl hb (uS nD) (aa rfl _) ?_;refine zQ 2 ?_
  obtain⟨mx,TN⟩:∃mx,max (f i) (-1)=mx:=⟨_,rfl⟩
  refine zQ 2 ?_;refine ag.jI (fun fr st=>∃(tmp:List (Nat×D)),fr=⟨7,[y,di fr 1,di fr 2,.ptr k3 0 0,di fr 4,.int .i64 (i:Nat),.int .i64 mx],tmp⟩∧Has s0.bs.length S st (E++[.box k3 (.mem 0 false (aA f))])∧(V.Rows st 1 y (byteCells P))) ?_ ?_
  ·refine zQ 4 ?_;refine zP (fun h1=>?_) fun h1=>?_
   ·refine zQ 3 ?_;obtain rfl:mx=-1:=by omega
    exact⟨_,rfl,hH,hy⟩
   ·refine zQ 1 ?_;obtain rfl:mx=f i:=by omega
    exact⟨_,rfl,hH,hy⟩
  ·rintro fr st ⟨tmp,hfr,hH,hy⟩;rw[hfr];clear hfr;generalize di fr=ee;clear fr;refine zQ 2 ?_;refine ag.jI (fun fr st=>∃(tmp:List (Nat×D)),fr=⟨7,[y,di fr 1,di fr 2,.ptr k3 0 0,di fr 4,.int .i64 (i:Nat),.int .i64 (ei (f i))],tmp⟩∧Has s0.bs.length S st (E++[.box k3 (.mem 0 false (aA f))])∧(V.Rows st 1 y (byteCells P))) ?_ ?_
   ·refine zQ 4 ?_;refine zI (fun h2=>?_) fun h2=>?_
    ·have e8:mx-1=ei (f i):=by unfold ei;omega
     refine zQ 2 ?_;refine ab.gd (z:=ei (f i)) rfl (ev rfl) (ev rfl) (by rw[e8];exact wrap_i64 (by omega) (by omega)) (aa rfl _) ?_;refine zQ 2 ?_;exact⟨_,rfl,hH,hy⟩
    ·refine zQ 1 ?_;have e:mx=ei (f i):=by unfold ei;omega
     subst e;exact⟨_,rfl,hH,hy⟩
   ·rintro fr st ⟨tmp,hfr,hH,hy⟩;rw[hfr];clear hfr;generalize di fr=ee;clear fr;refine zQ 3 ?_;refine ab.e_ (z:=ei (f i)+1) rfl (ev rfl) (ev rfl) (by(try simp only[List.length_reverse,List.length_cons,List.length_nil,List.length_append,List.length_map,List.length_set]);rw[wrap_i64 (by omega) (by omega)]<;>omega) (aa rfl _) ?_;obtain⟨dn,st,ax,ho⟩:=eG (x:=y) (b:=P) (hH.de hF).1 (hH.de hF).2 hy S4 (ei (f i)+1) (by omega);have hH:=hH.hY ho;refine qv ax ?_;refine zQ 2 ?_;have hH:Has s0.bs.length S st ((.aF dn 1 (byteCells (P++aQ (ei (f i)+1)))::E)++[.box k3 (.mem 0 false (aA f))]):=hH;have kL:V.Rows st 1 dn (byteCells (P++aQ (ei (f i)+1))):=hH.rows (j:=0) rfl;refine zQ 5 ?_;exact⟨mm-1,by omega,⟨i+1,dn,_,rfl,hH,by omega,(by rw[ej,←List.append_assoc,hP];exact kL),.inr ⟨E,by rw[ej,←List.append_assoc,hP]⟩⟩⟩
 ·refine zQ 1 ?_;have nD:i=10:=by omega
  subst nD
  rcases hE with h|⟨E',rfl⟩
  ·omega
  refine zQ 5 ?_;refine ag.ret ⟨rx,_,_,_,rfl,rfl,?_⟩;exact(hH.take 1).dU aN du
theorem ng (st:St):V.Rows st 1 .nul (byteCells []):=.nul
structure Pg.fit (p:Pg):Prop where
 c:∀i∈p.code,i.fit
 s:∀v∈p.ak,v<9223372036854775808
 cl:p.code.length≤1000
def eZ (fr:Go.V.Fr) (k:Nat):Go.V.D:=Go.V.nth .bI fr.loc k
theorem lI:∀(b:List UInt8),oy (b.map fun y=>D.int .u8 (y.toNat:Nat))=some b
 |[]=>rfl
 |c::b=>by
  simp only[List.map_cons,oy,lI b,Option.map_some,Option.some.injEq,List.cons.injEq,and_true];show UInt8.ofNat (((c.toNat:Nat):Int).toNat)=c;rw[Int.toNat_natCast];exact UInt8.ofNat_toNat
theorem EF {st:St} {x:D} {b:List UInt8} (hx:dg x 1 (byteCells b)):j8 pv 23 9 x st=some (.str b,st):=by
 have hr:=(hx.rows st).row
 have mZ:(byteCells b).flatten=b.map fun y=>D.int .u8 (y.toNat:Nat):=by
  unfold byteCells
  induction b with
  |nil=>rfl
  |cons c b ih=>rw[List.map_cons,List.flatten_cons,List.map_cons,List.singleton_append];congr 1;clear ih hr hx;induction b with
   |nil=>rfl
   |cons c b ih=>rw[List.map_cons,List.flatten_cons,List.map_cons,List.singleton_append,ih]
 rw[mZ,au] at hr;have h1:pv.db 23=some (.slice 5):=rfl;have h2:pv.db 9=some .string:=rfl;have h3:pv.db 5=some (.int .u8):=rfl
 rcases hx with⟨rfl,hb⟩|⟨ds,rfl,hd,_⟩
 ·have hb:b=[]:=List.map_eq_nil_iff.1 hb;subst hb;rfl
 ·simp only[j8,h1,h2,h3,hr,List.length_map,if_true,lI,Option.map_some]
structure NS (st:St) (y:D) (L:List GV):Prop where
 r:V.Rows st 12 y (L.map eo)
 n:L.length≤100
 t:∀l∈L,V.Rows st 11 l.td (l.bn.map dA)∧l.bn.length≤1000
 f:∀l∈L,l.fit
theorem lM {L:List GV} (h:L.length≤100) (ht:∀l∈L,l.bn.length≤1000):(mM L).length≤10000000:=by
 unfold mM;have h1:=aV (L.length:Nat);have h2:=kO (f:=eX) (n:=99108) (l:=L) fun l hl=>xQ (ht l hl);rw[List.length_append];omega
theorem sy {s0:St} {x y:D} {b:List UInt8} {L:List GV} (hF:s0.flr≤s0.bs.length) (du:s0.ro≤s0.bs.length) (hx:V.Rows s0 1 x (byteCells b)) (hl:b.length≤10000000000) (hL:NS s0 y L):
  ∃d ai,Ev pv 27 [x,y] s0 d ai∧kC s0 ai d (b++mM L):=by
 have TH:=hL.r;have TS:=hL.n;have jX:=aV (L.length:Nat);refine Ev.eN rfl ab0 rfl rfl rfl ?_;refine zE ?_;have aN:(ae .nw s0).bs=s0.bs:=rfl;have hF:(ae .nw s0).flr≤s0.bs.length:=hF;have hH:Has s0.bs.length (ae .nw s0) (ae .nw s0) []:=Has.start (Nat.le_refl _) (Nat.le_refl _);generalize ae .nw s0=S at*;have hx:=Arg.of hx aN;have hy:=Arg.of TH aN;refine zQ 8 ?_;refine qn ?_;simp only[List.length_map];obtain⟨cO,cM⟩:=hH.de hF;obtain⟨d10,st,ax,ho⟩:=eG (x:=x) (b:=b) cO cM (hx.rows hH) (by omega) (L.length:Nat) (by omega);have hH:=hH.hY ho
 (try dsimp only[u3,u4] at hH)
 refine qv ax ?_;refine zQ 8 ?_;refine ag.loop (fun mm fr st=>∃(i:Nat) (o:D),fr.clean=⟨7,[o,y,eZ fr 2,eZ fr 3,eZ fr 4,.int .i64 (i:Nat),eZ fr 6],[]⟩∧Has s0.bs.length S st [.aF o 1 (byteCells (b++(aQ (L.length:Nat)++((L.take i).map eX).flatten)))]∧(i+mm=L.length)) (L.length) ?_ ?_
 ·exact⟨0,d10,rfl,(by simpa using hH),by omega⟩
 rintro mm fr st ⟨i,o,hfr,hH,hi⟩;rw[hfr];clear hfr;generalize eZ fr=ee;clear fr;refine zQ 5 ?_;refine qn ?_;simp only[List.length_map];refine zQ 2 ?_;refine zP (fun hlt=>?_) fun hlt=>?_
 ·refine zQ 1 ?_
  obtain⟨v,hv⟩:∃v,L[i]?=some v:=⟨L[i]'(by omega),List.getElem?_eq_getElem _⟩
  have E7:=List.mem_of_getElem? hv;obtain⟨htr,Yz⟩:=hL.t v E7;obtain⟨aaK,aaJ⟩:=hL.f v E7;have gw:=yp hv;have N6:=Arg.of htr aN;have ej:=jQ (f:=eX) hv;have Gh:=kO (f:=eX) (n:=99108) (l:=L.take i) (fun x hx=>xQ (hL.t x (List.mem_of_mem_take hx)).2);have mO:(L.take i).length=i:=by rw[List.length_take];omega
  have S4:(b++(aQ (L.length:Nat)++((L.take i).map eX).flatten)).length≤20000000000:=by simp only[List.length_append];omega
  generalize hP:b++(aQ (L.length:Nat)++((L.take i).map eX).flatten)=P at*;have yf:=yw v.dn;have D9:=tv v.bf;have B2:=aV (v.bn.length:Nat);refine zQ 7 ?_;refine qr fun Rp Ge=>?_;refine qf (fo:=0) fun Uj Mi=>?_;refine qR ?_;refine qv ((K7 (hH.rows aB) (by omega) v.dn)) ?_;refine zQ 2 ?_;refine qr fun p26 Vm=>?_;refine qf (fo:=1) fun Zi Sk=>?_;refine ab.bB (d:=.agg (aA v.bf)) rfl (ev rfl) (by assumption) rfl (aa rfl _) ?_;obtain⟨cO,cM⟩:=hH.de hF;obtain⟨d29,st,ax,ho⟩:=xf (x:=bF (P++iw v.dn)) (b:=P++iw v.dn) cO cM (g_ _ _) (by rw[List.length_append];omega) v.bf aaK;have hH:=hH.hY ho
  (try dsimp only[u3,u4] at hH)
  refine qv ax ?_;refine zQ 7 ?_;refine qr fun p33 aak=>?_;refine qf (fo:=11) fun p34 Vj=>?_;refine qR ?_;refine qn ?_;simp only[List.length_map];obtain⟨cO,cM⟩:=hH.de hF;obtain⟨d37,st,ax,ho⟩:=eG (x:=d29) (b:=(P++iw v.dn)++pK v.bf) cO cM (hH.rows aB) (by simp only[List.length_append];omega) (v.bn.length:Nat) (by omega);have hH:=hH.hY ho
  (try dsimp only[u3,u4] at hH)
  refine qv ax ?_;refine zQ 2 ?_;have hQl:(((P++iw v.dn)++pK v.bf)++aQ (v.bn.length:Nat)).length≤30000000000:=by simp only[List.length_append];omega
  have hQe:P++eX v=(((P++iw v.dn)++pK v.bf)++aQ (v.bn.length:Nat))++(v.bn.map iX).flatten:=by unfold eX;simp only[List.append_assoc]
  generalize((P++iw v.dn)++pK v.bf)++aQ (v.bn.length:Nat)=Q at*;have hH:=hH.take 1;refine zQ 5 ?_;refine ag.loop (fun mm fr st=>∃(j:Nat) (o2:D),fr.clean=⟨7,[o2,y,eZ fr 2,eZ fr 3,eZ fr 4,.int .i64 (i:Nat),.int .i64 (j:Nat)],[]⟩∧Has s0.bs.length S st [.aF o2 1 (byteCells (Q++((v.bn.take j).map iX).flatten))]∧(j+mm=v.bn.length)) (v.bn.length) ?_ ?_
  ·exact⟨0,d37,rfl,(by simpa using hH),by omega⟩
  rintro mm fr st ⟨j,o2,hfr,hH,hj⟩;rw[hfr];clear hfr;generalize eZ fr=ee;clear fr;refine zQ 6 ?_;refine qr fun Yo Po=>?_;refine qf (fo:=11) fun p42 Vh=>?_;refine qR ?_;refine qn ?_;simp only[List.length_map];refine zQ 2 ?_;refine zP (fun Su=>?_) fun Su=>?_
  ·refine zQ 1 ?_
   obtain⟨t,ht⟩:∃t,v.bn[j]?=some t:=⟨v.bn[j]'(by omega),List.getElem?_eq_getElem _⟩
   obtain⟨Pa,RQ⟩:=aaJ t (List.mem_of_getElem? ht);have nB:=Ca ht;have RT:=jQ (f:=iX) ht;have adh:=kO (f:=iX) (n:=99) (l:=v.bn.take j) (fun x _=>Bj x);have ZI:(v.bn.take j).length=j:=by rw[List.length_take];omega
   have Wc:(Q++((v.bn.take j).map iX).flatten).length≤40000000000:=by rw[List.length_append];omega
   generalize hT:Q++((v.bn.take j).map iX).flatten=T at*;have Mn:=aV t.pc;refine zQ 6 ?_;refine qr fun Zb Se=>?_;refine qf (fo:=11) fun p52 aai=>?_;refine zQ 2 ?_;refine qr fun p55 Vf=>?_;refine qf (fo:=0) fun Za Sd=>?_;refine ab.bB (d:=.int .i64 t.pc) rfl (ev rfl) (by assumption) rfl (aa rfl _) ?_;obtain⟨cO,cM⟩:=hH.de hF;obtain⟨d58,st,ax,ho⟩:=eG (x:=o2) (b:=T) cO cM (hH.rows aB) (by omega) t.pc Pa;have hH:=hH.hY ho
   (try dsimp only[u3,u4] at hH)
   refine qv ax ?_;refine zQ 2 ?_;refine qr fun p61 Sb=>?_;refine qf (fo:=11) fun p62 aag=>?_;refine zQ 2 ?_;refine qr fun p65 aaf=>?_;refine qf (fo:=1) fun p66 ac7=>?_;refine ab.bB (d:=.agg (aA t.c)) rfl (ev rfl) (by assumption) rfl (aa rfl _) ?_;obtain⟨cO,cM⟩:=hH.de hF;obtain⟨d68,st,ax,ho⟩:=xf (x:=d58) (b:=T++aQ t.pc) cO cM (hH.rows aB) (by rw[List.length_append];omega) t.c RQ;have hH:=hH.hY ho
   (try dsimp only[u3,u4] at hH)
   refine qv ax ?_;refine zQ 7 ?_;exact⟨v.bn.length-(j+1),by omega,⟨j+1,d68,rfl,(by rw[RT,←List.append_assoc,hT];unfold iX;rw[←List.append_assoc];exact hH.take 1),by omega⟩⟩
  ·refine zQ 1 ?_;rw[List.take_of_length_le (by omega),←hQe] at hH;refine zQ 5 ?_;exact⟨L.length-(i+1),by omega,⟨i+1,o2,rfl,(by rw[ej,←List.append_assoc (aQ _),←List.append_assoc b,hP];exact hH),by omega⟩⟩
 ·refine zQ 1 ?_;rw[List.take_of_length_le (by omega)] at hH;refine zQ 5 ?_;refine ag.ret ⟨rx,_,_,_,rfl,rfl,?_⟩;exact hH.dU aN du
theorem oY {s0:St} {x y ly:D} {b h:List UInt8} {place:Int} {L:List GV} (hF:s0.flr≤s0.bs.length) (du:s0.ro≤s0.bs.length) (hx:V.Rows s0 1 x (byteCells b)) (hl:b.length≤1000000000) (hy:dg y 1 (byteCells h)) (hh:h.length≤1048576) (fT:place<9223372036854775808) (hL:NS s0 ly L):
  ∃d ai,Ev pv 25 [x,.agg [y,.int .i64 place,ly]] s0 d ai∧kC s0 ai d (b++kV h place L):=by
 have oI:=hy.cells.1;have mj:=i7 hL.r;have Jy:=fun st=>EF (st:=st) hy;have jX:=aV (h.length:Nat);have CA:=aV place;have htx:(eK h).length≤1048600:=by unfold eK;rw[List.length_append];omega
 refine Ev.eN rfl ab2 rfl rfl rfl ?_;refine zE ?_;have aN:(ae .nw s0).bs=s0.bs:=rfl;have hF:(ae .nw s0).flr≤s0.bs.length:=hF;have hH:Has s0.bs.length (ae .nw s0) (ae .nw s0) []:=Has.start (Nat.le_refl _) (Nat.le_refl _);generalize ae .nw s0=S at*;have hx:=Arg.of hx aN;refine zQ 2 ?_;refine qb hH fun k3 st oC hH=>?_;refine zQ 7 ?_;refine ab.go (d:=.str h) (st1:=_) rfl rfl (by exact Jy _) (aa rfl _) ?_;refine qv ((K5 (hx.rows hH) (by omega) hh)) ?_;refine zQ 3 ?_;obtain⟨cO,cM⟩:=hH.de hF;obtain⟨d13,st,ax,ho⟩:=eG (x:=bF (b++eK h)) (b:=b++eK h) cO cM (g_ _ _) (by rw[List.length_append];omega) place fT;have hH:=hH.hY ho
 (try dsimp only[u3,u4] at hH)
 refine qv ax ?_;refine zQ 3 ?_;obtain⟨cO,cM⟩:=hH.de hF;obtain⟨d17,st,ax,ho⟩:=sy (x:=d13) (b:=(b++eK h)++aQ place) cO cM (hH.rows aB) (by simp only[List.length_append];omega) ⟨(Arg.of hL.r aN).rows hH,hL.n,fun l hm=>⟨(Arg.of (hL.t l hm).1 aN).rows hH,(hL.t l hm).2⟩,hL.f⟩;have hH:=hH.hY ho
 (try dsimp only[u3,u4] at hH)
 refine qv ax ?_;refine zQ 2 ?_;refine ag.ret ⟨rx,_,_,_,rfl,rfl,?_⟩;have h1:=(hH.take 1).dU aN du;unfold kC kV;simp only[List.append_assoc] at h1⊢;exact h1
theorem zJ {f:j4} {x:Nat} {v:Int} (hx:x<10):setMany (aA f) x [.int .i64 v]=aA (ze f x v):=by
 match x,hx with
 |0,_=>rfl
 |1,_=>rfl
 |2,_=>rfl
 |3,_=>rfl
 |4,_=>rfl
 |5,_=>rfl
 |6,_=>rfl
 |7,_=>rfl
 |8,_=>rfl
 |9,_=>rfl
theorem DC (f:j4):fw pv .neq 48 (.agg (aA f)) (.agg (aA f))=some (.bool false):=by
 have h:∀b c d e g i j k l m:Int,fw pv .neq 48 (.agg [.int .i64 b,.int .i64 c,.int .i64 d,.int .i64 e,.int .i64 g,.int .i64 i,.int .i64 j,.int .i64 k,.int .i64 l,.int .i64 m]) (.agg [.int .i64 b,.int .i64 c,.int .i64 d,.int .i64 e,.int .i64 g,.int .i64 i,.int .i64 j,.int .i64 k,.int .i64 l,.int .i64 m])=Option.map (fun b=>D.bool !b) (match some (b==b) with|some true=>(match some (c==c) with|some true=>(match some (d==d) with|some true=>(match some (e==e) with|some true=>(match some (g==g) with|some true=>(match some (i==i) with|some true=>(match some (j==j) with|some true=>(match some (k==k) with|some true=>(match some (l==l) with|some true=>(match some (m==m) with|some true=>some true|some false=>some false|none=>none)|some false=>some false|none=>none)|some false=>some false|none=>none)|some false=>some false|none=>none)|some false=>some false|none=>none)|some false=>some false|none=>none)|some false=>some false|none=>none)|some false=>some false|none=>none)|some false=>some false|none=>none)|some false=>some false|none=>none):=fun _ _ _ _ _ _ _ _ _ _=>rfl;unfold aA;rw[h];simp only[beq_self_eq_true,Option.map_some,Bool.not_true]
def E0 (es:List (List D)) (L:List PL):Prop:=es.length=L.length∧∀(i:Nat) l,L[i]?=some l→∃d,dg d 11 (l.bn.map bw)∧es[i]?=some (aX l.dn l.bf d)
def uZ (st:St) (es:List (List D)) (L:List PL):Prop:=es.length=L.length∧∀(i:Nat) l,L[i]?=some l→∃d,V.Rows st 11 d (l.bn.map bw)∧es[i]?=some (aX l.dn l.bf d)
theorem E0.any {es:List (List D)} {L:List PL} (h:E0 es L) (st:St):uZ st es L:=⟨h.1,fun i l hl=>by
 obtain⟨d,h1,h2⟩:=h.2 i l hl
 exact⟨d,h1.rows st,h2⟩⟩
theorem uZ.ex {s0 S st:St} {H:List bo} {es:List (List D)} {L:List PL} (h:uZ s0 es L) (hS:S.bs=s0.bs) (hH:Has s0.bs.length S st H):uZ st es L:=⟨h.1,fun i l hl=>by
 obtain⟨d,h1,h2⟩:=h.2 i l hl
 exact⟨d,(Arg.of h1 hS).rows hH,h2⟩⟩
def PL.v (l:PL):VL:=⟨l.dn,l.bf,TA l.bn,l.bn⟩
open Go.V Go Go.RowKit
theorem wG (code:List aP) (pl:Nat) (e:Bool):∀(f:Nat) (w:Wk) (t:hU),er (code.map ga) pl e f w t=er code pl e f w t
 |0,_,_=>rfl
 |f+1,w,t=>by
  unfold er;simp only[wG code pl e f,List.getElem?_map]
  cases code[t.pc]? with
  |none=>rfl
  |some i=>rfl
theorem yA (code:List aP) (pl:Nat) (e:Bool):∀(l:List hU) (w:Wk),vE (code.map ga) pl e l w=vE code pl e l w
 |[],_=>rfl
 |t::ts,w=>by
  unfold vE;simp only[wG,List.length_map,yA code pl e ts]
theorem I1 (code:List aP) (k:Nat):I2 (code.map ga) k=I2 code k:=by
 unfold I2;rw[List.getElem?_map];cases code[k]?<;>rfl
theorem xF (code:List aP) (r:Int):∀(l a:List hU),jH (code.map ga) r l a=jH code r l a
 |[],_=>rfl
 |t::ts,a=>by unfold jH;simp only[I1,xF code r ts]
theorem Fl (code:List aP) (pl s:Nat) (r:Int) (l:PL):ju (code.map ga) pl s r l=ju code pl s r l:=by
 unfold ju;simp only[yA,xF,List.length_map]
theorem va (code:List aP) (pl:Nat) (r:Int):∀(ss:List Nat) (ls:List PL),jE (code.map ga) pl r ss ls=jE code pl r ss ls
 |[],_=>rfl
 |_::_,[]=>rfl
 |s::ss,l::ls=>by simp only[jE,Fl,va code pl r ss ls]
theorem uY.aG {p q:Pg} (h:uY p q):aG q=aG p:=by unfold Go.Proofs.YtecjacicdpejaaaGreat.aG;rw[h.ak]
theorem tT {p:Pg} (hR:bm p) {pl:Nat} {r:Int}:∀{ss:List Nat} {ls:List PL},(∀s∈ss,s<p.code.length)→∀l∈jE p.code pl r ss ls,l.ok p.code.length
 |[],_,_,l,hl=>by cases hl
 |_::_,[],_,l,hl=>by cases hl
 |s::ss,x::ls,hs,l,hl=>by
  simp only[jE,List.mem_cons] at hl
  rcases hl with rfl|hl
  ·exact KF hR (hs s (List.mem_cons_self ..))
  ·exact tT hR (fun s h=>hs s (List.mem_cons_of_mem _ h)) l hl
theorem wK {p:Pg} (hR:bm p):∀s∈aG p,s<p.code.length:=by
 intro s hs;obtain⟨v,hv,rfl⟩:=List.mem_map.1 hs;have:=hR.st v hv;omega
theorem yM {x y:Oper} {fi fj:Fr} {si wb sj NW:St} {a:Operand} {k aE off v:Nat} {ar:Bool} {c:List D} (hy:kJ y.op=some a) (ha:fj.ev a=.ptr k aE off) (h1:si.bs[k]?=some (.mem v ar c)) (h2:wb.bs[k]?=some (.mem v ar c)):lU x fi si wb y fj sj NW=true:=by
 unfold lU;simp only[hy,ha,D.rU];exact tR h1 h2
def iu (ks kv:Nat) (p:Pg) (pl:Nat) (ld pd qd:D) (P Q:List Nat) (L:List VL):List bo:=
 .box kv (.mem 0 false [p.cd,p.sd,.int .i64 (pl:Nat),ld,.ptr ks 0 0])::.box ks (.mem 0 false [pd,qd])::.aF pd 1 (P.map jG)::.aF qd 2 (Q.map sN)::.aF ld 12 (L.map iR)::L.map tG
theorem vm {A:List bo} {N:Nat} {S st:St} {ks kv:Nat} {p:Pg} {pl:Nat} {ld:D} {L:List VL} {H:List bo} (h:MH A N S st ks kv p pl ld L H):∃pd qd P Q sn,Has N S st (A++(iu ks kv p pl ld pd qd P Q L++H))∧eQ P Q sn∧sn.length=p.code.length:=by
 obtain⟨pd,qd,P,Q,sn,hH,h1,h2⟩:=h;exact⟨pd,qd,P,Q,sn,by simpa only[iu,List.cons_append] using hH,h1,h2⟩
theorem DG {A:List bo} {N:Nat} {S st:St} {ks kv:Nat} {p:Pg} {pl:Nat} {ld:D} {L:List VL} {H:List bo} {pd qd:D} {P Q:List Nat} {sn:List Bool} (hH:Has N S st (A++(iu ks kv p pl ld pd qd P Q L++H))) (h1:eQ P Q sn) (h2:sn.length=p.code.length):MH A N S st ks kv p pl ld L H:=
 ⟨pd,qd,P,Q,sn,by simpa only[iu,List.cons_append] using hH,h1,h2⟩
def MM (A:List bo) (N:Nat) (S st:St) (ks kv:Nat) (p:Pg) (pl:Nat) (ld:D) (L:List VL) (vJ wo:Nat) (p2:Pg) (E5:Nat) (Cx:D) (L2:List VL):Prop:=
 ∃pd qd P Q sn N1 NZ P2 Q2 Rc,Has N S st (A++(iu ks kv p pl ld pd qd P Q L++iu vJ wo p2 E5 Cx N1 NZ P2 Q2 L2))∧eQ P Q sn∧sn.length=p.code.length∧eQ P2 Q2 Rc∧Rc.length=p2.code.length
section
variable{A:List bo} {N:Nat} {S st:St} {ks kv vJ wo:Nat} {p p2:Pg} {pl E5:Nat} {ld Cx:D} {L L2:List VL}
theorem MM.one (h:MM A N S st ks kv p pl ld L vJ wo p2 E5 Cx L2):∃H,MH [] N S st ks kv p pl ld L H∧∀(B:List bo) (ai:St) (y8:Nat) (F3:D) (L':List VL),MH B N S ai ks kv p y8 F3 L' H→MM (B++A) N S ai ks kv p y8 F3 L' vJ wo p2 E5 Cx L2:=by
 obtain⟨pd,qd,P,Q,sn,N1,NZ,P2,Q2,Rc,hH,h1,h2,h3,h4⟩:=h
 refine⟨iu vJ wo p2 E5 Cx N1 NZ P2 Q2 L2++A,DG (by
  have a:=Has.jA A (iu ks kv p pl ld pd qd P Q L++iu vJ wo p2 E5 Cx N1 NZ P2 Q2 L2) (H:=[]) (by rw[List.append_nil];exact hH);rw[List.append_nil,List.append_assoc] at a
  exact a) h1 h2,fun B ai y8 F3 L' hM=>?_⟩
 obtain⟨N2,N0,P',Q',Y3,hH',Wm,TW⟩:=vm hM;refine⟨N2,N0,P',Q',Y3,N1,NZ,P2,Q2,Rc,?_,Wm,TW,h3,h4⟩
 have a:=Has.jA (B++(iu ks kv p y8 F3 N2 N0 P' Q' L'++iu vJ wo p2 E5 Cx N1 NZ P2 Q2 L2)) A (H:=[]) (by rw[List.append_nil];simpa only[List.append_assoc] using hH');have b:Has N S ai (A++(B++((iu ks kv p y8 F3 N2 N0 P' Q' L'++iu vJ wo p2 E5 Cx N1 NZ P2 Q2 L2)++[]))):=by simpa only[List.append_assoc] using a
 have c:=Has.jA _ _ b;rw[List.append_nil] at c
 simpa only[List.append_assoc] using c
theorem MM.drop (n:Nat) (h:MM A N S st ks kv p pl ld L vJ wo p2 E5 Cx L2) (hn:n≤A.length):MM (A.drop n) N S st ks kv p pl ld L vJ wo p2 E5 Cx L2:=by
 obtain⟨pd,qd,P,Q,sn,N1,NZ,P2,Q2,Rc,hH,h1,h2,h3,h4⟩:=h;refine⟨pd,qd,P,Q,sn,N1,NZ,P2,Q2,Rc,?_,h1,h2,h3,h4⟩;have:=hH.drop n
 rwa [List.drop_append_of_le_length hn] at this
theorem MM.has (h:MM A N S st ks kv p pl ld L vJ wo p2 E5 Cx L2):Has N S st A:=by
 obtain⟨pd,qd,P,Q,sn,N1,NZ,P2,Q2,Rc,hH,_⟩:=h;have:=hH.take A.length
 rwa [List.take_left] at this
end
end Go.Proofs.YtecjacicdpejaaaGreat
namespace Go.Proofs.YtecjacicdpejaaaGreat
open Go.V Go
theorem Has.over {N:Nat} {S st ai:St} {H H2:List bo} (h:Has N S st H) (h2:Has st.bs.length st ai H2):Has N S ai (H2++H):=by
 have hN:=h.hN;have hl:=h.ex.len;have ry:=h2.ex.len;refine⟨⟨fun k hk=>?_,by omega,h2.ex.flr.trans h.ex.flr,h2.ex.ro.trans h.ex.ro⟩,hN,h.du,fun i e hi=>?_,fun i j a b hij ha hb k sX kQ=>?_⟩
 ·rw[h2.ex.low k (by omega)];exact h.ex.low k hk
 ·by_cases hlt:i<H2.length
  ·rw[List.getElem?_append_left hlt] at hi;obtain⟨h3,h4⟩:=h2.ok i e hi;exact⟨h3,fun k hk=>⟨by have:=(h4 k hk).1;omega,(h4 k hk).2⟩⟩
  ·rw[List.getElem?_append_right (by omega)] at hi;obtain⟨h3,h4⟩:=h.ok _ e hi;exact⟨e.loc (fun k hk=>h2.ex.low k (h4 k hk).2) h3,fun k hk=>⟨(h4 k hk).1,by have:=(h4 k hk).2;omega⟩⟩
 ·by_cases h1:i<H2.length<;>by_cases h3:j<H2.length
  ·rw[List.getElem?_append_left h1] at ha;rw[List.getElem?_append_left h3] at hb;exact h2.dis i j a b hij ha hb k sX kQ
  ·rw[List.getElem?_append_left h1] at ha;rw[List.getElem?_append_right (by omega)] at hb;have:=((h2.ok _ a ha).2 k sX).1;have:=((h.ok _ b hb).2 k kQ).2;omega
  ·rw[List.getElem?_append_right (by omega)] at ha;rw[List.getElem?_append_left h3] at hb;have:=((h2.ok _ b hb).2 k kQ).1;have:=((h.ok _ a ha).2 k sX).2;omega
  ·rw[List.getElem?_append_right (by omega)] at ha hb;exact h.dis _ _ a b (by omega) ha hb k sX kQ
end Go.Proofs.YtecjacicdpejaaaGreat
