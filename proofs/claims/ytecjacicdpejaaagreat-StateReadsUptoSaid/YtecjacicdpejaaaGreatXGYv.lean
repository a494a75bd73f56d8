/-
 May a machine of a program have these lists?
-/
import Derived.Test.YtecjacicdpejaaaGreatXGHr
import Derived.Test.YtecjacicdpejaaaGreatXGNe
import Derived.Test.YtecjacicdpejaaaGreatXGJi
import Derived.Test.YtecjacicdpejaaaGreatXGJp
set_option maxRecDepth 100000
set_option maxHeartbeats 4000000
set_option linter.unusedSimpArgs false
set_option linter.unusedVariables false
namespace Go.Proofs.YtecjacicdpejaaaGreat
open Go.V Go
def cw (fr:Go.V.Fr) (k:Nat):Go.V.D:=Go.V.nth .bj fr.loc k
structure GV where
 dn:Bool
 best:mr
 td:D
 ct:List GT
def f' (l:GV):List D:=cA l.dn l.best l.td
theorem Ap {l:List GV} {i:Nat} {q:GV} (h:l[i]?=some q):(l.map f')[i]?=some (f' q):=by rw[List.getElem?_map,h];rfl
def mF (f:mr):Prop:=∀i,i<10→f i=-1
theorem EE (f:mr):dec (mF f)=(f 0==-1 &&(f 1==-1 &&(f 2==-1 &&(f 3==-1 &&(f 4==-1 &&(f 5==-1 &&(f 6==-1 &&(f 7==-1 &&(f 8==-1 &&f 9==-1))))))))):=by
 by_cases h:mF f
 ·rw[bK h,h 0 (by decide),h 1 (by decide),h 2 (by decide),h 3 (by decide),h 4 (by decide),h 5 (by decide),h 6 (by decide),h 7 (by decide),h 8 (by decide),h 9 (by decide)];rfl
 ·rw[cq h];refine(Bool.eq_false_iff.2 fun h2=>h ?_).symm;simp only[Bool.and_eq_true,beq_iff_eq] at h2;intro i hi
  match i,hi with
  |0,_=>exact h2.1
  |1,_=>exact h2.2.1
  |2,_=>exact h2.2.2.1
  |3,_=>exact h2.2.2.2.1
  |4,_=>exact h2.2.2.2.2.1
  |5,_=>exact h2.2.2.2.2.2.1
  |6,_=>exact h2.2.2.2.2.2.2.1
  |7,_=>exact h2.2.2.2.2.2.2.2.1
  |8,_=>exact h2.2.2.2.2.2.2.2.2.1
  |9,_=>exact h2.2.2.2.2.2.2.2.2.2
theorem xW (f:mr):eL pv .neq 48 (.agg (aY f)) (.agg (aY dP))=some (.bool (!dec (mF f))):=by
 have h:∀a b c d e g i j k l n:Int,eL pv .neq 48 (.agg [.int .i64 a,.int .i64 b,.int .i64 c,.int .i64 d,.int .i64 e,.int .i64 g,.int .i64 i,.int .i64 j,.int .i64 k,.int .i64 l]) (.agg [.int .i64 n,.int .i64 n,.int .i64 n,.int .i64 n,.int .i64 n,.int .i64 n,.int .i64 n,.int .i64 n,.int .i64 n,.int .i64 n])=Option.map (fun b=>D.bool !b) (match some (a==n) with|some true=>(match some (b==n) with|some true=>(match some (c==n) with|some true=>(match some (d==n) with|some true=>(match some (e==n) with|some true=>(match some (g==n) with|some true=>(match some (i==n) with|some true=>(match some (j==n) with|some true=>(match some (k==n) with|some true=>(match some (l==n) with|some true=>some true|some false=>some false|none=>none)|some false=>some false|none=>none)|some false=>some false|none=>none)|some false=>some false|none=>none)|some false=>some false|none=>none)|some false=>some false|none=>none)|some false=>some false|none=>none)|some false=>some false|none=>none)|some false=>some false|none=>none)|some false=>some false|none=>none):=fun _ _ _ _ _ _ _ _ _ _ _=>rfl;rw[EE];unfold aY;rw[show dP 0=-1 from rfl,show dP 1=-1 from rfl,show dP 2=-1 from rfl,show dP 3=-1 from rfl,show dP 4=-1 from rfl,show dP 5=-1 from rfl,show dP 6=-1 from rfl,show dP 7=-1 from rfl,show dP 8=-1 from rfl,show dP 9=-1 from rfl];rw[h];generalize(f 0==-1)=b0;generalize(f 1==-1)=b1;generalize(f 2==-1)=b2;generalize(f 3==-1)=b3;generalize(f 4==-1)=b4;generalize(f 5==-1)=b5;generalize(f 6==-1)=b6;generalize(f 7==-1)=b7;generalize(f 8==-1)=b8;generalize(f 9==-1)=b9;cases b0
 ·rfl
 cases b1
 ·rfl
 cases b2
 ·rfl
 cases b3
 ·rfl
 cases b4
 ·rfl
 cases b5
 ·rfl
 cases b6
 ·rfl
 cases b7
 ·rfl
 cases b8
 ·rfl
 cases b9<;>rfl
def vh (p:Pg) (place:Int) (L:List GV) (m:Nat):Prop:=∀r l s,r<m→L[r]?=some l→p.aq[r]?=some s→(l.dn=true∨mF l.best)∧cI l.best place∧kb p s l.ct place l.ct.length
structure dH (p:Pg) (place:Int) (L:List GV):Prop where
 right:cL p
 ge:0≤place
 le:place≤1099511627776
 len:L.length=p.aq.length
 each:vh p place L L.length
theorem vh.succ {p:Pg} {place:Int} {L:List GV} {m:Nat} {l:GV} {s:Int} (h:vh p place L m) (hl:L[m]?=some l) (hs:p.aq[m]?=some s) (h1:(l.dn=true∨mF l.best)∧cI l.best place∧kb p s l.ct place l.ct.length):vh p place L (m+1):=by
 intro r l' s' hr iM nc
 by_cases he:r=m
 ·subst he;rw[hl] at iM;cases iM;rw[hs] at nc;cases nc;exact h1
 ·exact h r l' s' (by omega) iM nc
def Dn (st:St) (x:D) (L:List GV):Prop:=V.Rows st 12 x (L.map f')∧L.length≤1048576∧∀l∈L,V.Rows st 11 l.td (l.ct.map eN)∧l.ct.length≤1048576
theorem DJ (lK:∀st,Ev pv 149 [] st (.agg (aY dP)) st) {s0:St} {p:Pg} (hp:p.ok) {x:D} {L:List GV} (hx:Dn s0 x L) (place:Int):
  Ev pv 96 [p.d,.agg [.int .i64 place,x]] s0 (.bool (dec (dH p place L))) s0:=by
 obtain⟨hx,WN,JK⟩:=hx;have ka:=hp.sl;refine Ev.ia rfl RF rfl rfl rfl ?_;refine zE ?_;obtain⟨aP,hF,hH⟩:=ri s0;generalize ae .ro s0=S at*;have hs:=hp.s.arg s0.bs.length S;have hla:=Arg.of hx aP;have hcr:=fun st=>mM (s0:=st) hp;have LX:=fun{st:St} (hR:cL p) {r:Nat} {s:Int} (hr:p.aq[r]?=some s) {dn:Bool} {b:mr} {td:D} {ct:List GT} (y4:V.Rows st 11 td (ct.map eN)) (hl:ct.length≤1048576)=>DD (s0:=st) hp hR hr (dn:=dn) (b:=b) y4 hl place;unfold Pg.d at*;refine zQ 2 ?_;refine qb hH fun k2 st hk2 hH=>?_;dsimp only[u2,u1,u3,u4,setMany,u5,u6,D.cells,Nat.reduceAdd,aT,cA,aY,ax,Pg.cs,eN,f'] at hH;refine qb hH fun k3 st tG hH=>?_;refine zQ 4 ?_;refine ak.kW 28 (.bool (((!dec (cL p)||decide (place<0))||decide (place>1099511627776))||(((L.length:Nat):Int) !=((p.aq.length:Nat):Int)))) [7,8,9,10,11,12,13,14,15,16,17,18,19,20,21,22,23,24,25,26,27] ?_ (fun ff tmp=>?_)
 ·refine aa.aL (m:=2) hH rfl (ev rfl) (by exact bV) (by dsimp only[List.drop_succ_cons,List.drop_zero,List.take_succ_cons,List.take_zero,aT,cA,aY,ax,Pg.cs,eN,f']<;>rfl) rfl rfl (by dsimp only[Fr.put,u1,u2]<;>rfl) ?_;refine qv ((hcr _)) ?_;refine zQ 2 ?_;refine aa.two 10 rfl (fun bk=>?_) (fun bk=>?_)
  ·refine zQ 18 ?_;refine aa.nil (aR ?_);refine zG ?_
   all_goals(simp[bk];done)
  ·refine zQ 5 ?_;refine aa.two 15 rfl (fun gW=>?_) (fun gW=>?_)
   ·refine zQ 13 ?_;refine aa.nil (aR ?_);refine zG ?_
    all_goals(simp[bk,gW];done)
   ·refine zQ 5 ?_;refine aa.two 20 rfl (fun d_=>?_) (fun d_=>?_)
    ·refine zQ 8 ?_;refine aa.nil (aR ?_);refine zG ?_
     all_goals(simp[bk,gW,d_];done)
    ·refine zQ 2 ?_;refine qn ?_ (hg:=wi d_);simp only[List.length_map];refine zQ 2 ?_;refine qn ?_ (hg:=wi d_);simp only[List.length_map];refine zQ 2 ?_;refine aa.nil (aR ?_);refine zG ?_
     all_goals(simp[bk,gW,d_];done)
 dsimp only[aF,List.foldl,nth,u2,u1];generalize ff 7=e7;generalize ff 8=e8;generalize ff 9=e9;generalize ff 10=Xc;generalize ff 11=Xb;generalize ff 12=Xa;generalize ff 13=W_;generalize ff 14=W9;generalize ff 15=W8;generalize ff 16=W7;generalize ff 17=Yy;generalize ff 18=W6;generalize ff 19=W5;generalize ff 20=W4;generalize ff 21=W3;generalize ff 22=W2;generalize ff 23=W0;generalize ff 24=WZ;generalize ff 25=WY;generalize ff 26=WX;generalize ff 27=WW;refine qc (fun h0=>?_) (fun h0=>?_)<;>try simp only[cs] at h0
 ·rw[cq (q:=dH p place L) (fun h=>by
   rw[bK h.right] at h0;have h1:=h.ge;have h2:=h.le;have h3:=h.len
   simp at h0;omega)]
  refine zQ 4 ?_;refine ak.ret ⟨rx,_,rfl,rl aP hH (rfl)⟩
 ·refine zQ 1 ?_
  have h0:cL p∧0≤place∧place≤1099511627776∧L.length=p.aq.length:=by
   simp only[Bool.or_eq_false_iff,decide_eq_false_iff_not,Bool.not_eq_false'] at h0;obtain⟨⟨⟨h1,h2⟩,h3⟩,h4⟩:=h0;refine⟨@of_decide_eq_true _ (Classical.propDecidable _) h1,by omega,by omega,?_⟩;simp at h4;omega
  obtain⟨hR,hge,hle,Rt⟩:=h0;refine zQ 5 ?_;refine qn ?_;simp only[List.length_map];refine zQ 3 ?_;refine ak.loop (fun mm fr st=>∃(r:Nat),fr.clean=⟨33,[cw fr 0,cw fr 1,.ptr k2 0 0,.ptr k3 0 0,cw fr 4,cw fr 5,cw fr 6,cw fr 7,cw fr 8,cw fr 9,cw fr 10,cw fr 11,cw fr 12,cw fr 13,cw fr 14,cw fr 15,cw fr 16,cw fr 17,cw fr 18,cw fr 19,cw fr 20,cw fr 21,cw fr 22,cw fr 23,cw fr 24,cw fr 25,cw fr 26,cw fr 27,cw fr 28,cw fr 29,x,.int .i64 (L.length:Nat),.int .i64 (r:Nat)],[]⟩∧Has s0.bs.length S st [.box k3 (.mem 0 false [.int .i64 place,x]),.box k2 (.mem 0 false [p.cd,p.sd])]∧(r+mm=L.length)∧(vh p place L r)) (L.length) ?_ ?_
  ·exact⟨0,rfl,hH,by omega,by intro r l s h;omega⟩
  rintro mm fr st ⟨r,hfr,hH,hi,hw⟩;rw[hfr];clear hfr;generalize cw fr=ee;clear fr;refine zQ 5 ?_;refine zP (fun h1=>?_) fun h1=>?_
  ·refine zQ 1 ?_
   obtain⟨l,hl⟩:∃l,L[r]?=some l:=⟨L[r]'(by omega),List.getElem?_eq_getElem _⟩
   obtain⟨s,kR⟩:∃s,p.aq[r]?=some s:=⟨p.aq[r]'(by omega),List.getElem?_eq_getElem _⟩
   obtain⟨y4,nM⟩:=JK l (List.mem_of_getElem? hl);have K5:=Arg.of y4 aP;have gm:=Ap hl;refine zQ 5 ?_;refine qr fun PE JX=>?_;refine aa.cV rfl (ev rfl) (by assumption) rfl (ab rfl _) ?_;refine qa hH fun k6 st Dx hH=>?_;refine qm ?_;refine qS hH aN fun st hH=>?_;dsimp only[u2,u1,u3,u4,setMany,u5,u6,D.cells,Nat.reduceAdd,aT,cA,aY,ax,Pg.cs,eN,f'] at hH;refine zQ 2 ?_;refine ak.cY 62 (.bool (((!l.dn &&!dec (mF l.best))||!dec (cI l.best place))||!dec (kb p s l.ct place l.ct.length))) [] ?_ (fun ff tmp cx=>?_)
   ·refine zQ 4 ?_;refine aa.two 40 rfl (fun bk=>?_) (fun bk=>?_)
    ·refine zQ 1 ?_;refine aa.aL (m:=10) hH (ai rfl rfl rfl bk) (ev rfl) (by exact aN) (by dsimp only[List.drop_succ_cons,List.drop_zero,List.take_succ_cons,List.take_zero,aT,cA,aY,ax,Pg.cs,eN,f']<;>rfl) rfl rfl (ab rfl _) ?_;refine qv (lK _) ?_ (hg:=wi bk);refine aa.KZ (ai rfl rfl rfl bk) (ev rfl) (ev rfl) (xW l.best) (ab rfl _) ?_;refine zQ 2 ?_;refine aa.two 46 rfl (fun ec=>?_) (fun ec=>?_)
     ·refine zQ 16 ?_;refine aa.nil (aJ ?_ ?_)
      ·dsimp only[aF,List.foldl,nth,u2,u1]
       all_goals(first|rfl|simp)
      ·refine zF ?_
       all_goals(simp[bk,ec];done)
     ·refine zQ 1 ?_;refine aa.aL (m:=10) hH (ai rfl rfl rfl ec) (ev rfl) (by exact aN) (by dsimp only[List.drop_succ_cons,List.drop_zero,List.take_succ_cons,List.take_zero,aT,cA,aY,ax,Pg.cs,eN,f']<;>rfl) rfl rfl (ab rfl _) ?_;refine zQ 2 ?_;refine qv (oH l.best place) ?_ (hg:=wi ec);refine zQ 3 ?_;refine aa.two 54 rfl (fun bZ=>?_) (fun bZ=>?_)
      ·refine zQ 8 ?_;refine aa.nil (aJ ?_ ?_)
       ·dsimp only[aF,List.foldl,nth,u2,u1]
        all_goals(first|rfl|simp)
       ·refine zF ?_
        all_goals(simp[bk,ec,bZ];done)
      ·refine aa.aL (m:=2) hH (ai rfl rfl rfl bZ) (ev rfl) (by exact fm) (by dsimp only[List.drop_succ_cons,List.drop_zero,List.take_succ_cons,List.take_zero,aT,cA,aY,ax,Pg.cs,eN,f']<;>rfl) rfl rfl (ab rfl _) ?_;refine zQ 1 ?_;refine aa.aL (m:=12) hH (ai rfl rfl rfl bZ) (ev rfl) (by exact aN) (by dsimp only[List.drop_succ_cons,List.drop_zero,List.take_succ_cons,List.take_zero,aT,cA,aY,ax,Pg.cs,eN,f']<;>rfl) rfl rfl (ab rfl _) ?_;refine zQ 2 ?_;refine qv ((LX hR kR (K5.rows hH) nM)) ?_ (hg:=wi bZ);refine zQ 2 ?_;refine aa.nil (aJ ?_ ?_)
       ·dsimp only[aF,List.foldl,nth,u2,u1]
        all_goals(first|rfl|simp)
       ·refine zF ?_
        all_goals(simp[bk,ec,bZ];done)
    ·refine zQ 7 ?_;refine aa.aL (m:=10) hH rfl (ev rfl) (by exact aN) (by dsimp only[List.drop_succ_cons,List.drop_zero,List.take_succ_cons,List.take_zero,aT,cA,aY,ax,Pg.cs,eN,f']<;>rfl) rfl rfl (ab rfl _) ?_;refine zQ 2 ?_;refine qv (oH l.best place) ?_;refine zQ 3 ?_;refine aa.two 54 rfl (fun bZ=>?_) (fun bZ=>?_)
     ·refine zQ 8 ?_;refine aa.nil (aJ ?_ ?_)
      ·dsimp only[aF,List.foldl,nth,u2,u1]
       all_goals(first|rfl|simp)
      ·refine zF ?_
       all_goals(simp[bk,bZ];done)
     ·refine aa.aL (m:=2) hH (ai rfl rfl rfl bZ) (ev rfl) (by exact fm) (by dsimp only[List.drop_succ_cons,List.drop_zero,List.take_succ_cons,List.take_zero,aT,cA,aY,ax,Pg.cs,eN,f']<;>rfl) rfl rfl (ab rfl _) ?_;refine zQ 1 ?_;refine aa.aL (m:=12) hH (ai rfl rfl rfl bZ) (ev rfl) (by exact aN) (by dsimp only[List.drop_succ_cons,List.drop_zero,List.take_succ_cons,List.take_zero,aT,cA,aY,ax,Pg.cs,eN,f']<;>rfl) rfl rfl (ab rfl _) ?_;refine zQ 2 ?_;refine qv ((LX hR kR (K5.rows hH) nM)) ?_ (hg:=wi bZ);refine zQ 2 ?_;refine aa.nil (aJ ?_ ?_)
      ·dsimp only[aF,List.foldl,nth,u2,u1]
       all_goals(first|rfl|simp)
      ·refine zF ?_
       all_goals(simp[bk,bZ];done)
   refine zG ?_;refine qc (fun h2=>?_) (fun h2=>?_)<;>try simp only[cs] at h2
   ·rw[cq (q:=dH p place L) (fun h=>by
     obtain⟨h3,h4,h5⟩:=h.each r l s (by omega) hl kR;rw[bK h4,bK h5] at h2
     rcases h3 with h3|h3
     ·simp[h3] at h2
     ·simp[bK h3] at h2)]
    refine zQ 4 ?_;refine ak.ret ⟨rx,_,rfl,rl aP hH (rfl)⟩
   ·refine zQ 5 ?_;refine⟨mm-1,by omega,⟨r+1,rfl,hH.drop 1,by omega,?_⟩⟩;simp only[Bool.or_eq_false_iff,Bool.and_eq_false_iff,Bool.not_eq_false'] at h2;obtain⟨⟨h3,h4⟩,h5⟩:=h2;refine hw.succ hl kR ⟨?_,@of_decide_eq_true _ (Classical.propDecidable _) h4,@of_decide_eq_true _ (Classical.propDecidable _) h5⟩
    rcases h3 with h3|h3
    ·exact .inl h3
    ·exact .inr (@of_decide_eq_true _ (Classical.propDecidable _) h3)
  ·refine zQ 1 ?_;rw[bK (q:=dH p place L) ⟨hR,hge,hle,Rt,by rw[show L.length=r by omega];exact hw⟩];refine zQ 4 ?_;refine ak.ret ⟨rx,_,rfl,rl aP hH (rfl)⟩
def mr.fit (f:mr):Prop:=∀i,i<10→f i≤9223372036854775807
def GT.fit (t:GT):Prop:=t.pc<9223372036854775808∧mr.fit t.c
def GV.fit (l:GV):Prop:=mr.fit l.best∧∀t∈l.ct,t.fit
def oW (fr:Go.V.Fr) (k:Nat):Go.V.D:=Go.V.nth .bj fr.loc k
theorem pw {st:St} {s:Nat} {x:D} {es:List (List D)} (h:V.Rows st s x es):x.cells=[x]:=by cases h<;>rfl
theorem xv (st:St):V.Rows st 1 .nul (byteCells []):=.nul
theorem DN {s0:St} {x d:D} {b:List UInt8} (hx:V.Rows s0 1 x [[d]]) (hd:V.Rows s0 1 d (byteCells b)) (hl:b.length≤1000000000000):Ev pv 70 [x] s0 (jP (lR 0#32 b)) s0:=by
 refine Ev.ia rfl RT rfl rfl rfl ?_;refine zE ?_;obtain⟨aP,hF,hH⟩:=ri s0;generalize ae .ro s0=S at*;have hx:=Arg.of hx aP;have hd:=Arg.of hd aP;refine zQ 12 ?_;refine qn ?_;simp only[List.length_cons,List.length_nil];refine zQ 3 ?_;refine ak.loop (fun mm fr st=>∃(i:Nat) (c:BitVec 32),fr.clean=⟨9,[oW fr 0,oW fr 1,oW fr 2,jP c,oW fr 4,oW fr 5,x,.int .i64 1,.int .i64 (i:Nat)],[]⟩∧Has s0.bs.length S st []∧(i+mm=1)∧(c=if i=0 then 0#32 else lR 0#32 b)) (1) ?_ ?_
 ·exact⟨0,0#32,rfl,hH,by omega,rfl⟩
 rintro mm fr st ⟨i,c,hfr,hH,hi,hc⟩;rw[hfr];clear hfr;generalize oW fr=ee;clear fr;refine zQ 5 ?_;refine zP (fun hlt=>?_) fun hlt=>?_
 ·refine zQ 1 ?_;have TB:i=0:=by omega
  subst TB;have gm:([[d]]:List (List D))[0]?=some [d]:=rfl;refine zQ 4 ?_;refine qr fun SZ Mv=>?_;refine zQ 3 ?_;have hc:c=0#32:=hc;subst hc;refine zQ 3 ?_;refine qv (IG (hd.rows hH) hl _) ?_;refine zQ 6 ?_;exact⟨0,by omega,⟨1,lR 0#32 b,rfl,hH,by omega,rfl⟩⟩
 ·refine zQ 1 ?_;rw[if_neg (by omega)] at hc;subst hc;refine zQ 5 ?_;refine ak.ret ⟨rx,_,rfl,rl aP hH (rfl)⟩
def I3 (u v:BitVec 32):Int:=(((u.toNat*65536)|||(v &&&65535#32).toNat:Nat):Int)
theorem vn (u:BitVec 32) (st:St):iB pv 121 3 (jP u) st=some (.int .i64 (u.toNat:Nat),st):=by
 show some (D.int .i64 (a7 .i64 (u.toNat:Nat)),st)=_;rw[bA (by simp only[fQ];have:=u.isLt;omega)]
theorem xc (u:BitVec 32) (st:St):(eL pv .shl 3 (.int .i64 (u.toNat:Nat)) (.int .u64 16)).map (fun d=>(d,st))=some (.int .i64 ((u.toNat*65536:Nat):Int),st):=by
 show Option.map _ (some (D.int .i64 (a7 .i64 ((u.toNat:Nat)*2^16))))=_;rw[show((u.toNat:Nat):Int)*2^16=((u.toNat*65536:Nat):Int) by omega,bA (by simp only[fQ];have:=u.isLt;omega)];rfl
theorem Ly (a b:Nat) (ha:a<2^48) (hb:b<2^48) (st:St):(eL pv .or 3 (.int .i64 (a:Nat)) (.int .i64 (b:Nat))).map (fun d=>(d,st))=some (.int .i64 ((a|||b:Nat):Int),st):=by
 show Option.map _ (some (D.int .i64 (a7 .i64 ((BitVec.ofInt 64 (a:Nat)|||BitVec.ofInt 64 (b:Nat)).toNat:Nat))))=_;have hlt:=Nat.or_lt_two_pow ha hb;rw[BitVec.ofInt_natCast,BitVec.ofInt_natCast,BitVec.toNat_or,BitVec.toNat_ofNat,BitVec.toNat_ofNat,Nat.mod_eq_of_lt (by omega),Nat.mod_eq_of_lt (by omega),bA (by simp only[fQ];omega)];rfl
theorem BR (u v:BitVec 32) (st:St):(eL pv .or 3 (.int .i64 ((u.toNat*65536:Nat):Int)) (.int .i64 ((v &&&65535#32).toNat:Nat))).map (fun d=>(d,st))=some (.int .i64 (I3 u v),st):=
 Ly _ _ (by have:=u.isLt;omega) (by have:=(v &&&65535#32).isLt;omega) st
structure Pg.fit (p:Pg):Prop where
 c:∀i∈p.code,i.fit
 s:∀v∈p.aq,v<9223372036854775808
 cl:p.code.length≤1000
noncomputable def j5 (p:Pg):Int:=I3 (lR 0#32 (gZ p.code p.aq)) (lR 1#32 (gZ p.code p.aq))
theorem yN {l:List aK} (h:∀i∈l,i.ok) (hl:l.length≤1000):(mL l).length≤18874404000:=by
 have:=pP (f:=mz) (n:=18874404) (l:=l) fun i hi=>BD (h i hi).2;exact Nat.le_trans this (by omega)
theorem rK {p:Pg} (hp:p.ok) (hf:p.fit):(gZ p.code p.aq).length≤20000000000:=by
 unfold gZ;have h1:=bY (p.aq.length:Nat);have h2:=bY (p.code.length:Nat);have h3:=rS p.aq;have h4:=hp.sl;have h5:=yN hp.i hf.cl;simp only[List.length_append];omega
theorem HZ {s0:St} {p:Pg} (hp:p.ok) (hf:p.fit):Ev pv 19 [p.d] s0 (.int .i64 (j5 p)) s0:=by
 have jL:=rK hp hf;have pK:=hp.c;have hsd:=hp.s;have ka:=hp.sl;refine Ev.ia rfl Sa rfl rfl rfl ?_;refine zE ?_;obtain⟨aP,hF,hH⟩:=ri s0;generalize ae .ro s0=S at*;have hc:=hp.c.arg s0.bs.length S;have hs:=hp.s.arg s0.bs.length S;unfold Pg.d;have wj:=bY (p.aq.length:Nat);have HN:=rS p.aq;refine zQ 2 ?_;refine qb hH fun k1 st o6 hH=>?_;dsimp only[u2,u1,u3,u4,setMany,u5,u6,D.cells,Nat.reduceAdd,Pg.cs] at hH;refine zQ 6 ?_;obtain⟨gI,gE⟩:=hH.ir hF;obtain⟨d6,st,aB,ho⟩:=Ch (x:=.nul) (b:=[]) gI gE (xv _) (hs.rows hH) (by simp) hp.sl hf.s;have hH:=hH.oJ ho
 (dsimp only[u3,u4] at hH)
 refine qv aB ?_;refine zQ 7 ?_;obtain⟨gI,gE⟩:=hH.ir hF;obtain⟨d10,st,aB,ho⟩:=wZ (x:=d6) (b:=[]++(bu (p.aq.length:Nat)++((p.aq.map bu).flatten))) gI gE (hH.rows aN) (hc.rows hH) (by unfold rT at HN;simp only[List.length_append,List.nil_append];omega) hf.cl hp.i hf.c;have hH:=hH.oJ ho
 (dsimp only[u3,u4] at hH)
 refine qv aB ?_;refine zQ 2 ?_
 have hH:Has s0.bs.length S st (.aC d10 1 (byteCells (gZ p.code p.aq))::.aC d6 1 (byteCells ([]++(bu (p.aq.length:Nat)++((p.aq.map bu).flatten))))::[.box k1 (.mem 0 false [p.cd,p.sd])]):=by
  unfold gZ rT mL;simp only[List.nil_append,List.append_assoc] at hH⊢;exact hH
 have hcell:d10.cells?=some d10.cells∧d10.cells.length=1:=by
  rw[pw (hH.rows aN)];exact⟨mO (hH.rows aN),rfl⟩
 have mI:=pw (hH.rows aN);refine zQ 3 ?_;refine aa.Fe (s:=1) (vs:=[d10]) hH rfl rfl rfl rfl rfl (Nat.le_of_ble_eq_true rfl) ⟨rfl,(ev rfl),trivial⟩ rfl (by intro v hv;simp only[List.mem_cons,List.not_mem_nil,or_false] at hv;subst hv;exact hcell) (fun _=>(ab rfl _)) (fun k12 st V9 hH=>?_);rw[show List.map D.cells [d10]=[[d10]] by rw[List.map_cons,List.map_nil,mI]] at hH;refine qv (DN (hH.rows aN) (hH.rows bV) (by omega)) ?_;refine aa.go (d:=.int .i64 ((lR 0#32 (gZ p.code p.aq)).toNat:Nat)) (st1:=_) rfl rfl (by exact vn _ _) (ab rfl _) ?_;refine aa.go (d:=.int .i64 (((lR 0#32 (gZ p.code p.aq)).toNat*65536:Nat):Int)) (st1:=_) rfl rfl (by exact xc _ _) (ab rfl _) ?_;refine qm ?_;refine qv (IG (hH.rows bV) (by omega) 1#32) ?_;refine aa.go (d:=jP (lR 1#32 (gZ p.code p.aq) &&&65535#32)) (st1:=_) rfl rfl (by exact wO _ 65535#32 _) (ab rfl _) ?_;refine aa.go (d:=.int .i64 ((lR 1#32 (gZ p.code p.aq) &&&65535#32).toNat:Nat)) (st1:=_) rfl rfl (by exact vn _ _) (ab rfl _) ?_;refine aa.go (d:=.int .i64 (j5 p)) (st1:=_) rfl rfl (by exact BR _ _ _) (ab rfl _) ?_;refine zQ 2 ?_;refine ak.ret ⟨rx,_,rfl,rl aP hH (rfl)⟩
def e_ (fr:Go.V.Fr) (k:Nat):Go.V.D:=Go.V.nth .bj fr.loc k
theorem Cy {s0:St} {p:Pg} (hp:p.ok) (hf:p.fit):Ev pv 78 [p.d] s0 (gr (gZ p.code p.aq)) s0:=by
 have jL:=rK hp hf;have pK:=hp.c;have hsd:=hp.s;have ka:=hp.sl;have mX:=hf.cl;refine Ev.ia rfl RL rfl rfl rfl ?_;refine zE ?_;obtain⟨aP,hF,hH⟩:=ri s0;generalize ae .ro s0=S at*;have hc:=hp.c.arg s0.bs.length S;have hs:=hp.s.arg s0.bs.length S;unfold Pg.d;have wj:=bY (p.aq.length:Nat);have HN:=rS p.aq;refine zQ 2 ?_;refine qb hH fun k1 st o6 hH=>?_;dsimp only[u2,u1,u3,u4,setMany,u5,u6,D.cells,Nat.reduceAdd,Pg.cs,aT,au,ax] at hH;refine zQ 6 ?_;refine qn ?_;simp only[List.length_map];obtain⟨gI,gE⟩:=hH.ir hF;obtain⟨d11,st,aB,ho⟩:=iF (x:=.nul) (b:=[]) gI gE (xv _) (by simp) (p.aq.length:Nat) (by omega);have hH:=hH.oJ ho
 (dsimp only[u3,u4] at hH)
 refine qv aB ?_;refine zQ 8 ?_;refine ak.loop (fun mm fr st=>∃(i:Nat) (y:D),fr.clean=⟨8,[e_ fr 0,.ptr k1 0 0,e_ fr 2,y,.int .i64 (i:Nat),e_ fr 5,e_ fr 6,e_ fr 7],[]⟩∧Has s0.bs.length S st [.aC y 1 (byteCells (bu (p.aq.length:Nat)++(((p.aq.take i).map bu).flatten))),.box k1 (.mem 0 false [p.cd,p.sd])]∧(i+mm=p.aq.length)) (p.aq.length) ?_ ?_
 ·exact⟨0,d11,rfl,(by simpa using hH),by omega⟩
 rintro mm fr st ⟨i,y,hfr,hH,hi⟩;rw[hfr];clear hfr;generalize e_ fr=ee;clear fr;refine zQ 6 ?_;refine qn ?_;simp only[List.length_map];refine zQ 2 ?_;refine zP (fun hlt=>?_) fun hlt=>?_
 ·refine zQ 1 ?_
  obtain⟨v,hv⟩:∃v,p.aq[i]?=some v:=⟨p.aq[i]'(by omega),List.getElem?_eq_getElem _⟩
  have gm:=er hv;have K4:=hf.s v (List.mem_of_getElem? hv);have uG:=mh (f:=bu) hv;have HR:=pP (f:=bu) (n:=9) (l:=p.aq.take i) (fun x hx=>bY x);have nM:(p.aq.take i).length=i:=by rw[List.length_take];omega
  have TN:(bu (p.aq.length:Nat)++(((p.aq.take i).map bu).flatten)).length≤60000000000:=by rw[List.length_append];omega
  generalize hP:bu (p.aq.length:Nat)++(((p.aq.take i).map bu).flatten)=P at*;refine zQ 7 ?_;refine qr fun OT HG=>?_;refine qR ?_;obtain⟨gI,gE⟩:=hH.ir hF;obtain⟨d25,st,aB,ho⟩:=iF (x:=y) (b:=P) gI gE (hH.rows aN) TN v K4;have hH:=hH.oJ ho
  (dsimp only[u3,u4] at hH)
  refine qv aB ?_;refine zQ 7 ?_;exact⟨mm-1,by omega,⟨i+1,d25,rfl,(by rw[uG,←List.append_assoc,hP];exact hH.erase 1),by omega⟩⟩
 ·refine zQ 1 ?_;rw[List.take_of_length_le (by omega)] at hH;change Has _ _ _ [.aC y 1 (byteCells (bu (p.aq.length:Nat)++rT p.aq)),_] at hH;have Yc:(bu (p.aq.length:Nat)++rT p.aq).length≤10000000:=by rw[List.length_append];omega
  generalize hQ:bu (p.aq.length:Nat)++rT p.aq=Q at*;have VI:=bY (p.code.length:Nat);refine zQ 5 ?_;refine qn ?_;simp only[List.length_map];obtain⟨gI,gE⟩:=hH.ir hF;obtain⟨d30,st,aB,ho⟩:=iF (x:=y) (b:=Q) gI gE (hH.rows aN) (by omega) (p.code.length:Nat) (by omega);have hH:=hH.oJ ho
  (dsimp only[u3,u4] at hH)
  refine qv aB ?_;refine zQ 8 ?_;refine ak.loop (fun mm fr st=>∃(i:Nat) (y:D),fr.clean=⟨8,[e_ fr 0,.ptr k1 0 0,e_ fr 2,y,e_ fr 4,.int .i64 (i:Nat),e_ fr 6,e_ fr 7],[]⟩∧Has s0.bs.length S st [.aC y 1 (byteCells (Q++(bu (p.code.length:Nat)++mL (p.code.take i)))),.box k1 (.mem 0 false [p.cd,p.sd])]∧(i+mm=p.code.length)) (p.code.length) ?_ ?_
  ·exact⟨0,d30,rfl,(by have:=hH.erase 1;simpa[mL] using this),by omega⟩
  rintro mm fr st ⟨i,y,hfr,hH,hi⟩;rw[hfr];clear hfr;generalize e_ fr=ee;clear fr;refine zQ 6 ?_;refine qn ?_;simp only[List.length_map];refine zQ 2 ?_;refine zP (fun hlt=>?_) fun hlt=>?_
  ·refine zQ 1 ?_
   obtain⟨v,hv⟩:∃v,p.code[i]?=some v:=⟨p.code[i]'(by omega),List.getElem?_eq_getElem _⟩
   have gm:=gk hv;have K4:=hf.c v (List.mem_of_getElem? hv);obtain⟨LY,UQ⟩:=hp.i v (List.mem_of_getElem? hv);have UR:=LY.cells.1;have IQ:=LY.arg s0.bs.length S;have uG:mL (p.code.take (i+1))=mL (p.code.take i)++mz v:=mh (f:=mz) hv;have HR:(mL (p.code.take i)).length≤18874404000:=yN (fun x hx=>hp.i x (List.mem_of_mem_take hx)) (by rw[List.length_take];omega);have TN:(Q++(bu (p.code.length:Nat)++mL (p.code.take i))).length≤20000000000:=by simp only[List.length_append];omega
   generalize hP:Q++(bu (p.code.length:Nat)++mL (p.code.take i))=P at*;have y6:=bY v.op;have HQ:=bY v.x;have K8:=bY v.y;have Tu:=bY (v.rs.length:Nat);refine zQ 7 ?_;refine qr fun Uq Qt=>?_;refine aa.cV rfl (ev rfl) (by assumption) rfl (ab rfl _) ?_;refine qa hH fun k6 st Dx hH=>?_;refine qS hH aN fun st hH=>?_;dsimp only[u2,u1,u3,u4,setMany,u5,u6,D.cells,Nat.reduceAdd,Pg.cs,aT,au,ax] at hH;refine zQ 6 ?_;obtain⟨gI,gE⟩:=hH.ir hF;obtain⟨d46,st,aB,ho⟩:=iF (x:=y) (b:=P) gI gE (hH.rows bV) (by omega) v.op K4.op;have hH:=hH.oJ ho
   (dsimp only[u3,u4] at hH)
   refine qv aB ?_;refine zQ 2 ?_;obtain⟨gI,gE⟩:=hH.ir hF;obtain⟨d49,st,aB,ho⟩:=iF (x:=d46) (b:=P++bu v.op) gI gE (hH.rows aN) (by rw[List.length_append];omega) v.x K4.x;have hH:=hH.oJ ho
   (dsimp only[u3,u4] at hH)
   refine qv aB ?_;refine zQ 2 ?_;obtain⟨gI,gE⟩:=hH.ir hF;obtain⟨d52,st,aB,ho⟩:=iF (x:=d49) (b:=(P++bu v.op)++bu v.x) gI gE (hH.rows aN) (by simp only[List.length_append];omega) v.y K4.y;have hH:=hH.oJ ho
   (dsimp only[u3,u4] at hH)
   refine qv aB ?_;refine zQ 2 ?_;refine qn ?_;simp only[List.length_map];obtain⟨gI,gE⟩:=hH.ir hF;obtain⟨d56,st,aB,ho⟩:=iF (x:=d52) (b:=((P++bu v.op)++bu v.x)++bu v.y) gI gE (hH.rows aN) (by simp only[List.length_append];omega) (v.rs.length:Nat) (by omega);have hH:=hH.oJ ho
   (dsimp only[u3,u4] at hH)
   refine qv aB ?_;refine zQ 2 ?_;have TM:((((P++bu v.op)++bu v.x)++bu v.y)++bu (v.rs.length:Nat)).length≤30000000000:=by simp only[List.length_append];omega
   have WE:P++mz v=((((P++bu v.op)++bu v.x)++bu v.y)++bu (v.rs.length:Nat))++rF v.rs:=by unfold mz;simp only[List.append_assoc]
   generalize(((P++bu v.op)++bu v.x)++bu v.y)++bu (v.rs.length:Nat)=R at*;have hH:Has s0.bs.length S st [.aC d56 1 (byteCells R),.box k6 (.mem 0 false (aT v)),.box k1 (.mem 0 false [p.cd,p.sd])]:=(((hH.erase 1).erase 1).erase 1).erase 2;refine zQ 5 ?_;refine ak.loop (fun mm fr st=>∃(j:Nat) (y:D),fr.clean=⟨8,[e_ fr 0,.ptr k1 0 0,e_ fr 2,y,e_ fr 4,.int .i64 (i:Nat),.ptr k6 0 0,.int .i64 (j:Nat)],[]⟩∧Has s0.bs.length S st [.aC y 1 (byteCells (R++rF (v.rs.take j))),.box k6 (.mem 0 false (aT v)),.box k1 (.mem 0 false [p.cd,p.sd])]∧(j+mm=v.rs.length)) (v.rs.length) ?_ ?_
   ·exact⟨0,d56,rfl,(by simpa[rF] using hH),by omega⟩
   rintro mm fr st ⟨j,y,hfr,hH,hj⟩;rw[hfr];clear hfr;generalize e_ fr=ee;clear fr;refine zQ 6 ?_;refine qn ?_;simp only[List.length_map];refine zQ 2 ?_;refine zP (fun QI=>?_) fun QI=>?_
   ·refine zQ 1 ?_
    obtain⟨g,hg⟩:∃g,v.rs[j]?=some g:=⟨v.rs[j]'(by omega),List.getElem?_eq_getElem _⟩
    have mA:=dD hg;have O_:=K4.r g (List.mem_of_getElem? hg);have P7:rF (v.rs.take (j+1))=rF (v.rs.take j)++Bg g:=mh (f:=Bg) hg;have X4:(rF (v.rs.take j)).length≤18*(v.rs.take j).length:=Be _;have X3:(v.rs.take j).length≤1048576:=by rw[List.length_take];omega
    have Pb:(R++rF (v.rs.take j)).length≤40000000000:=by rw[List.length_append];omega
    generalize hT:R++rF (v.rs.take j)=T at*;have IX:=bY g.1;refine zQ 7 ?_;refine qr fun Lu wc=>?_;refine qf (fo:=0) fun Ul Qp=>?_;refine qR ?_;refine aa.go (d:=.int .i64 g.1) (st1:=_) rfl rfl (by exact Im O_.1 O_.2.1 _) (ab rfl _) ?_;obtain⟨gI,gE⟩:=hH.ir hF;obtain⟨d72,st,aB,ho⟩:=iF (x:=y) (b:=T) gI gE (hH.rows aN) (by omega) g.1 (by omega);have hH:=hH.oJ ho
    (dsimp only[u3,u4] at hH)
    refine qv aB ?_;refine zQ 3 ?_;refine qr fun XA Vr=>?_;refine qf (fo:=1) fun Xz Vq=>?_;refine qR ?_;refine aa.go (d:=.int .i64 g.2) (st1:=_) rfl rfl (by exact Im O_.2.2.1 O_.2.2.2 _) (ab rfl _) ?_;obtain⟨gI,gE⟩:=hH.ir hF;obtain⟨d80,st,aB,ho⟩:=iF (x:=d72) (b:=T++bu g.1) gI gE (hH.rows aN) (by rw[List.length_append];omega) g.2 (by omega);have hH:=hH.oJ ho
    (dsimp only[u3,u4] at hH)
    refine qv aB ?_;refine zQ 7 ?_;exact⟨v.rs.length-(j+1),by omega,⟨j+1,d80,rfl,(by rw[P7,←List.append_assoc,hT];unfold Bg;rw[←List.append_assoc];exact(hH.erase 1).erase 1),by omega⟩⟩
   ·refine zQ 1 ?_;rw[List.take_of_length_le (by omega),←WE] at hH;refine zQ 5 ?_;exact⟨p.code.length-(i+1),by omega,⟨i+1,y,rfl,(by rw[uG,←List.append_assoc (bu _),←List.append_assoc Q,hP];exact hH.erase 1),by omega⟩⟩
  ·refine zQ 1 ?_;rw[List.take_of_length_le (by omega)] at hH
   have hH:Has s0.bs.length S st [.aC y 1 (byteCells (gZ p.code p.aq)),.box k1 (.mem 0 false [p.cd,p.sd])]:=by
    unfold gZ;rw[←List.append_assoc,hQ];exact hH
   refine zQ 5 ?_;refine ak.ret ⟨rx,_,rfl,rl aP hH ?_⟩;exact hH.B0 aN (fI _) (by decide)
theorem D' {s0:St} {p:Pg} (hp:p.ok) (hf:p.fit):Ev pv 20 [p.d] s0 (.int .i64 (j5 p)) s0:=by
 have jL:=rK hp hf;have pK:=hp.c;have hsd:=hp.s;have TI:=fun(st:St)=>Cy (s0:=st) hp hf;unfold Pg.d at*;refine Ev.ia rfl R_ rfl rfl rfl ?_;refine zE ?_;obtain⟨aP,hF,hH⟩:=ri s0;generalize ae .ro s0=S at*;refine zQ 2 ?_;refine qb hH fun k1 st o6 hH=>?_;dsimp only[u2,u1,u3,u4,setMany,u5,u6,D.cells,Nat.reduceAdd,Pg.cs] at hH;refine zQ 4 ?_;refine aa.aL (m:=2) hH rfl (ev rfl) (by exact aN) (by dsimp only[List.drop_succ_cons,List.drop_zero,List.take_succ_cons,List.take_zero,Pg.cs]<;>rfl) rfl rfl (ab rfl _) ?_;refine qv ((TI _)) ?_;refine zQ 5 ?_;refine qv (D_ (pS _ _) (by omega) 0#32) ?_;refine aa.go (d:=.int .i64 ((lR 0#32 (gZ p.code p.aq)).toNat:Nat)) (st1:=_) rfl rfl (by exact vn _ _) (ab rfl _) ?_;refine aa.go (d:=.int .i64 (((lR 0#32 (gZ p.code p.aq)).toNat*65536:Nat):Int)) (st1:=_) rfl rfl (by exact xc _ _) (ab rfl _) ?_;refine qm ?_;refine qv (D_ (pS _ _) (by omega) 1#32) ?_;refine aa.go (d:=jP (lR 1#32 (gZ p.code p.aq) &&&65535#32)) (st1:=_) rfl rfl (by exact wO _ 65535#32 _) (ab rfl _) ?_;refine aa.go (d:=.int .i64 ((lR 1#32 (gZ p.code p.aq) &&&65535#32).toNat:Nat)) (st1:=_) rfl rfl (by exact vn _ _) (ab rfl _) ?_;refine aa.go (d:=.int .i64 (j5 p)) (st1:=_) rfl rfl (by exact BR _ _ _) (ab rfl _) ?_;refine zQ 2 ?_;refine ak.ret ⟨rx,_,rfl,rl aP hH (rfl)⟩
theorem kL:∀(b:List UInt8),kM (b.map fun y=>D.int .u8 (y.toNat:Nat))=some b
 |[]=>rfl
 |c::b=>by
  simp only[List.map_cons,kM,kL b,Option.map_some,Option.some.injEq,List.cons.injEq,and_true];show UInt8.ofNat (((c.toNat:Nat):Int).toNat)=c;rw[Int.toNat_natCast];exact UInt8.ofNat_toNat
theorem sL {N k:Nat} {S s0:St} {H:List a_} {x:D} {b:List UInt8} {s:c8} (hbl:b.length≤1099511627776) (bq:s.at_≤b.length) (most:Int) (hH:Has N S s0 (.box k (.mem 0 false (bG x s))::.aC x 1 (byteCells b)::H)):
  ∃d ah,Ev pv 152 [.ptr k 0 0,.int .i64 most] s0 d ah∧d=.int .i64 (br b most s).1∧Has N S ah (.box k (.mem 0 false (bG x (br b most s).2))::.aC x 1 (byteCells b)::H):=by
 refine Ev.gA rfl N' rfl rfl rfl ?_;refine zE ?_;have bn:=hH;have hH:=hH.aW;have bh:(ae .rw s0).bs=s0.bs:=rfl;generalize ae .rw s0=S2 at*;refine zQ 15 ?_;obtain⟨_,st,aB,rfl,hH⟩:=me hbl bq hH;refine qv aB ?_;refine zQ 2 ?_;unfold br;generalize aX b s=R at*;obtain⟨n,s1⟩:=R;dsimp only at hH⊢;refine zQ 2 ?_;refine ak.cY 22 (.bool (s1.e==0 &&decide (n>most))) [] ?_ (fun ff tmp cx=>?_)
 ·refine zQ 6 ?_;refine aa.two 18 rfl (fun cK=>?_) (fun cK=>?_)
  ·refine zQ 4 ?_;refine aa.nil (aJ ?_ ?_)
   ·dsimp only[aF,List.foldl,nth,u2,u1]
    all_goals(first|rfl|simp)
   ·refine zF ?_
    all_goals(simp[cK];done)
  ·refine zQ 4 ?_;refine aa.nil (aJ ?_ ?_)
   ·dsimp only[aF,List.foldl,nth,u2,u1]
    all_goals(first|rfl|simp)
   ·refine zF ?_
    all_goals(simp[cK];done)
 dsimp only[aF,List.foldl,nth,u2,u1];refine qc (fun hc=>?_) (fun hc=>?_)<;>try simp only[cs] at hc
 ·have hc:s1.e=0∧n>most:=by simpa using hc
  rw[if_pos hc];refine zQ 4 ?_;obtain⟨_,st,aB,rfl,hH⟩:=eS s.at_ 2 hH;refine qv aB ?_;refine zQ 2 ?_;refine ak.ret ⟨rx,_,_,_,rfl,ag (rfl),?_⟩;exact⟨rfl,bn.aj bh hH⟩
 ·have hc:¬(s1.e=0∧n>most):=by
   rintro⟨h1,h2⟩;rw[h1,decide_eq_true h2] at hc;simp at hc
  rw[if_neg hc];refine zQ 6 ?_;refine ak.ret ⟨rx,_,_,_,rfl,ag (rfl),?_⟩;exact⟨rfl,bn.aj bh hH⟩
theorem FP {N k:Nat} {S s0:St} {H:List a_} {x:D} {b:List UInt8} {s:c8} (hbl:b.length≤1099511627776) (bq:s.at_≤b.length) (hH:Has N S s0 (.box k (.mem 0 false (bG x s))::.aC x 1 (byteCells b)::H)):
  ∃d ah,Ev pv 155 [.ptr k 0 0] s0 d ah∧d=.bool (db b s).1∧Has N S ah (.box k (.mem 0 false (bG x (db b s).2))::.aC x 1 (byteCells b)::H):=by
 refine Ev.gA rfl N8 rfl rfl rfl ?_;refine zE ?_;have bn:=hH;have hH:=hH.aW;have bh:(ae .rw s0).bs=s0.bs:=rfl;generalize ae .rw s0=S2 at*;refine zQ 15 ?_;obtain⟨_,st,aB,rfl,hH⟩:=me hbl bq hH;refine qv aB ?_;refine zQ 2 ?_;unfold db;generalize aX b s=R at*;obtain⟨n,s1⟩:=R;dsimp only at hH⊢;refine zQ 2 ?_;refine ak.cY 19 (.bool (s1.e==0 &&decide (n>1))) [] ?_ (fun ff tmp cx=>?_)
 ·refine zQ 6 ?_;refine aa.two 16 rfl (fun cK=>?_) (fun cK=>?_)
  ·refine zQ 3 ?_;refine aa.nil (aJ ?_ ?_)
   ·dsimp only[aF,List.foldl,nth,u2,u1]
    all_goals(first|rfl|simp)
   ·refine zF ?_
    all_goals(simp[cK];done)
  ·refine zQ 3 ?_;refine aa.nil (aJ ?_ ?_)
   ·dsimp only[aF,List.foldl,nth,u2,u1]
    all_goals(first|rfl|simp)
   ·refine zF ?_
    all_goals(simp[cK];done)
 dsimp only[aF,List.foldl,nth,u2,u1];refine qc (fun hc=>?_) (fun hc=>?_)<;>try simp only[cs] at hc
 ·have hc:s1.e=0∧n>1:=by simpa using hc
  rw[if_pos hc];have cK:((4:Int)==0)=false:=rfl;refine zQ 3 ?_;obtain⟨_,st,aB,rfl,hH⟩:=eS s.at_ 4 hH;refine qv aB ?_;refine zQ 14 ?_;refine ak.ret ⟨rx,_,_,_,rfl,ag (rfl),?_⟩;exact⟨rfl,bn.aj bh hH⟩
 ·have hc:¬(s1.e=0∧n>1):=by
   rintro⟨h1,h2⟩;rw[h1,decide_eq_true h2] at hc;simp at hc
  rw[if_neg hc];refine zQ 1 ?_
  have hb:decide (s1.e=0∧n=1)=(s1.e==0 &&n==1):=by
   by_cases h1:s1.e=0<;>by_cases h2:n=1<;>simp[h1,h2]
  dsimp only;rw[hb];refine qq<|ak.kW 2 (.bool (s1.e==0 &&n==1)) [] ?_ (fun ff tmp=>?_)
  ·refine zQ 6 ?_;refine aa.two 28 rfl (fun cK=>?_) (fun cK=>?_)
   ·refine zQ 4 ?_;refine aa.nil (aR ?_);refine zG ?_
    all_goals(simp[cK];done)
   ·refine zQ 4 ?_;refine aa.nil (aR ?_);refine zG ?_
    all_goals(simp[cK];done)
  dsimp only[aF,List.foldl,nth,u2,u1];refine ak.ret ⟨rx,_,_,_,rfl,ag (rfl),?_⟩;exact⟨rfl,bn.aj bh hH⟩
theorem uX {st:St} {x:D} {b:List UInt8} (hx:V.Rows st 1 x (byteCells b)):iB pv 23 9 x st=some (.str b,st):=by
 have hr:=hx.row
 have mb:(byteCells b).flatten=b.map fun y=>D.int .u8 (y.toNat:Nat):=by
  clear hx hr;unfold byteCells
  induction b with
  |nil=>rfl
  |cons c b ih=>rw[List.map_cons,List.flatten_cons,List.map_cons,List.singleton_append,ih]
 rw[mb,ay] at hr;have h1:pv.ch 23=some (.slice 5):=rfl;have h2:pv.ch 9=some .string:=rfl;have h3:pv.ch 5=some (.int .u8):=rfl
 have h4:∀(x:D),(∀c,x≠.str c)→ny st x=some (b.length,b.map fun y=>D.int .u8 (y.toNat:Nat))→(match ny st x with
   |some (n,cs)=>match x with
    | .str _=>none
    |_=>if cs.length=n then(kM cs).map fun b=>(D.str b,st) else none
   |none=>none)=some (.str b,st):=fun x hs h=>by
  rw[h]
  cases x<;>first|(exact absurd rfl (hs _))|(simp only[List.length_map,if_true,kL,Option.map_some])
 generalize byteCells b=es at hx;have hs:∀c,x≠.str c:=by cases hx<;>intro c e<;>cases e
 have h5:=h4 x hs hr
 cases hx with
 |nul=>exact h5
 |sl es h=>exact h5
 |win k az off es ar c hm hl he=>
  simp only[iB,h1,h2,h3,hr,List.length_map,if_true,kL,Option.map_some]
theorem FL {N k:Nat} {S s0:St} {H:List a_} {x:D} {b:List UInt8} {s:c8} (hbl:b.length≤1099511627776) (bq:s.at_≤b.length) (most:Int) (hH:Has N S s0 (.box k (.mem 0 false (bG x s))::.aC x 1 (byteCells b)::H)):
  ∃d ah,Ev pv 98 [.ptr k 0 0,.int .i64 most] s0 d ah∧d=.str (dY b most s).1∧Has N S ah (.box k (.mem 0 false (bG x (dY b most s).2))::.aC x 1 (byteCells b)::H):=by
 obtain⟨o1,o2,o3,o4,o5⟩:=dc (b:=b) (s:=s) bq
 have hu:(br b most s).2.at_≤b.length∧0≤(br b most s).1∧(br b most s).1<9223372036854775808:=by
  unfold br
  split
  ·exact⟨bq,by simp,by simp⟩
  ·exact⟨o1,o3,o4⟩
 have uJ:=ay b;refine Ev.gA rfl RD rfl rfl rfl ?_;refine zE ?_;have bn:=hH;have hH:=hH.aW;have bh:(ae .rw s0).bs=s0.bs:=rfl;generalize ae .rw s0=S2 at*;refine zQ 16 ?_;obtain⟨_,st,aB,rfl,hH⟩:=sL hbl bq most hH;refine qv aB ?_;refine zQ 2 ?_;unfold dY;generalize br b most s=R at*;obtain⟨n,s1⟩:=R;dsimp only at hH hu⊢;obtain⟨u1,u2,u3⟩:=hu
 obtain⟨m,rfl⟩:∃m:Nat,n=(m:Nat):=⟨n.toNat,by omega⟩
 refine zQ 9 ?_;refine ak.cond (by rfl) (fun he=>?_) (fun he=>?_)<;>try simp only[bne_iff_ne,bne_eq_false_iff_eq,ne_eq] at he
 ·rw[if_pos (by simpa using he)];refine zQ 4 ?_;refine ak.ret ⟨rx,_,_,_,rfl,ag (rfl),?_⟩;exact⟨rfl,bn.aj bh hH⟩
 rw[if_neg (by simpa using he)];refine zQ 8 ?_;refine qn ?_ (hR:=hH.rows bV);refine zQ 4 ?_;refine aa.eY (z:=(((b.length:Nat):Int)-(s1.at_:Nat))) rfl (ev rfl) (ev rfl) (by rw[wrap_i64 (by omega) (by omega)]<;>omega) (ab rfl _) ?_;refine zQ 3 ?_;refine zP (fun hlt=>?_) fun hlt=>?_
 ·rw[if_pos (by omega)];refine zQ 4 ?_;obtain⟨_,st,aB,rfl,hH⟩:=eS s.at_ 3 hH;refine qv aB ?_;refine zQ 5 ?_;refine ak.ret ⟨rx,_,_,_,rfl,ag (rfl),?_⟩;exact⟨rfl,bn.aj bh hH⟩
 rw[if_neg (by omega)];refine zQ 1 ?_
 have Qh:∀{st:St} {e:a_} {H:List a_},Has N S2 st (e::.aC x 1 (byteCells b)::H)→V.Rows st 1 (oG x s1.at_ (s1.at_+m)) (byteCells ((b.drop s1.at_).take m)):=fun h=>by
  have:=rL h (l:=s1.at_) (r:=s1.at_+m) (by omega)
  rwa [List.drop_take,Nat.add_sub_cancel_left] at this
 have HW:=uX (Qh hH);refine zQ 15 ?_;refine aa.eC (z:=((s1.at_+m:Nat):Int)) rfl (ev rfl) (ev rfl) (by rw[wrap_i64 (by omega) (by omega)]<;>omega) (ab rfl _) ?_;refine aa.prt rfl (ev rfl) (hH.rows bV) rfl rfl (lT (m:=s1.at_) (n:=s1.at_+m) (by rw[ay];omega)) ⟨by omega,by rw[ay];omega⟩ (ab rfl _) ?_;refine aa.go (d:=.str ((b.drop s1.at_).take m)) (st1:=_) rfl rfl (by exact HW) (ab rfl _) ?_;refine zQ 9 ?_;refine aa.eC (z:=((s1.at_+m:Nat):Int)) rfl (ev rfl) (ev rfl) (by rw[wrap_i64 (by omega) (by omega)]<;>omega) (ab rfl _) ?_;refine zQ 2 ?_;refine qT hH aN fun st hH=>?_;dsimp only[u2,u1,u3,u4,setMany,u5,u6,D.cells,Nat.reduceAdd,bG] at hH;refine zQ 6 ?_;refine ak.ret ⟨rx,_,_,_,rfl,ag (rfl),?_⟩;have he:s1.e=0:=by simpa using he
 rw[he] at hH;exact⟨rfl,bn.aj bh hH⟩
theorem BX {N k:Nat} {S s0:St} {H:List a_} {x:D} {b:List UInt8} {s:c8} (hbl:b.length≤1099511627776) (hH:Has N S s0 (.box k (.mem 0 false (bG x s))::.aC x 1 (byteCells b)::H)):
  ∃d ah,Ev pv 67 [.ptr k 0 0] s0 d ah∧d=.int .i64 (kV b s).e∧Has N S ah (.box k (.mem 0 false (bG x (kV b s)))::.aC x 1 (byteCells b)::H):=by
 have uJ:=ay b;refine Ev.gA rfl RW rfl rfl rfl ?_;refine zE ?_;have bn:=hH;have hH:=hH.aW;have bh:(ae .rw s0).bs=s0.bs:=rfl;generalize ae .rw s0=S2 at*;refine zQ 4 ?_;unfold kV
 by_cases he:s.e=0
 ·have cK:(s.e==0)=true:=by simpa using he
  refine zQ 17 ?_;refine qn ?_ (hR:=hH.rows bV) (hg:=wi cK);refine zQ 3 ?_;rw[uJ];refine zP (fun hc=>?_) fun hc=>?_
  ·rw[if_pos ⟨he,by omega⟩];refine zQ 4 ?_;refine qT hH aN fun st hH=>?_;dsimp only[u2,u1,u3,u4,setMany,u5,u6,D.cells,Nat.reduceAdd,bG] at hH;refine zQ 9 ?_;refine ak.ret ⟨rx,_,_,_,rfl,ag (rfl),?_⟩;exact⟨rfl,bn.aj bh hH⟩
  ·rw[if_neg (by omega)];refine zQ 9 ?_;refine ak.ret ⟨rx,_,_,_,rfl,ag (rfl),?_⟩;exact⟨rfl,bn.aj bh hH⟩
 ·have cK:(s.e==0)=false:=by simpa using he
  rw[if_neg (fun h=>he h.1)];refine zQ 31 ?_;refine ak.ret ⟨rx,_,_,_,rfl,ag (rfl),?_⟩;exact⟨rfl,bn.aj bh hH⟩
theorem FN {s0:St} {x:D} {b:List UInt8} (hF:s0.flr≤s0.bs.length) (di:s0.ro≤s0.bs.length) (hx:V.Rows s0 1 x (byteCells b)) (hl:b.length≤68719476736):
  ∃d ah,Ev pv 35 [x] s0 d ah∧∃k y,d=.ptr k 0 0∧Has s0.bs.length s0 ah [.box k (.mem 0 false (bG y ⟨0,0⟩)),.aC y 1 (byteCells b)]:=by
 have uJ:=ay b;refine Ev.gA rfl R4 rfl rfl rfl ?_;refine zE ?_;have aP:(ae .nw s0).bs=s0.bs:=rfl;have hF:(ae .nw s0).flr≤s0.bs.length:=hF;have hH:Has s0.bs.length (ae .nw s0) (ae .nw s0) []:=Has.start (Nat.le_refl _) (Nat.le_refl _);generalize ae .nw s0=S at*;have hx:=Arg.of hx aP;refine zQ 4 ?_;have hH:=hH.gf 1;refine zQ 3 ?_;refine aa.hO (s:=1) hH rfl (ev rfl) (ev rfl) (by exact aN) (by exact Arg.rows (by assumption) hH) rfl rfl rfl rfl rfl rfl rfl ⟨(Nat.le_of_ble_eq_true rfl),(Nat.le_of_ble_eq_true rfl)⟩ (fun _=>(ab rfl _)) rfl (by simp only[List.length_nil]<;>omega) (by exact .inl hF) (fun x4 st hH=>?_);dsimp only[u2,u1,u3,u4,setMany,u5,u6,D.cells,Nat.reduceAdd,bG] at hH;refine aa.ij (qs:=[(0,_)]) rfl rfl rfl rfl ⟨rfl,(ev rfl),(by exact hH.oM (by exact aN)),trivial⟩ (by intro q hq;simp only[List.mem_cons,List.not_mem_nil,or_false] at hq;rcases hq with rfl<;>exact⟨rfl,by exact Nat.le_of_ble_eq_true rfl⟩) (by show List.foldl _ [_,_,_] _=_;dsimp only[List.foldl_cons,List.foldl_nil,u2,u1]<;>rfl) (ab rfl _) ?_;refine qb hH fun k6 st Dx hH=>?_;refine zQ 2 ?_;refine ak.ret ⟨rx,_,_,_,rfl,rfl,?_⟩;exact⟨_,_,rfl,(hH.take 2).gV aP di⟩
def lH (fr:Go.V.Fr) (k:Nat):Go.V.D:=Go.V.nth .bj fr.loc k
theorem vm:∀(l:List UInt8) (u:Nat),u*256^l.length≤fL u l
 |[],u=>by simp[fL]
 |c::l,u=>by
  simp only[fL,List.length_cons];have h1:=vm l (u*256+c.toNat);rw[Nat.pow_succ,Nat.mul_comm (256^l.length) 256,←Nat.mul_assoc];exact Nat.le_trans (Nat.mul_le_mul_right _ (by omega)) h1
theorem GP (l:List UInt8) (u:Nat):u≤fL u l:=by
 have h1:=vm l u;have h2:0<256^l.length:=Nat.pow_pos (by decide);exact Nat.le_trans (Nat.le_mul_of_pos_right u h2) h1
theorem I' {z:UInt8} {l:List UInt8} (h:l.length=7):9223372036854775808≤fL 0 (z::l)↔127<z.toNat:=by
 have h1:=vm l (0*256+z.toNat);have h2:=vl l (0*256+z.toNat);rw[h,show(256:Nat)^7=72057594037927936 by decide] at h1 h2;show 9223372036854775808≤fL (0*256+z.toNat) l↔_;omega
theorem Ja {l:List UInt8} (h:l.length≤7):fL 0 l<9223372036854775808:=by
 have h2:=vl l 0;have h1:256^l.length≤256^7:=Nat.pow_le_pow_right (by decide) h;have h3:(256:Nat)^7=72057594037927936:=by decide
 omega
theorem GZ (u:Nat) (h:u*256<9223372036854775808) (st:St):(eL pv .shl 3 (.int .i64 (u:Nat)) (.int .i64 8)).map (fun d=>(d,st))=some (.int .i64 ((u*256:Nat):Int),st):=by
 show Option.map _ (if(8:Int)<0 then none else some (D.int .i64 (a7 .i64 ((u:Nat)*2^(min (8:Int).toNat 64)))))=_
 rw[if_neg (by decide),show((u:Nat):Int)*2^(min (8:Int).toNat 64)=((u*256:Nat):Int) by
  rw[show(min (8:Int).toNat 64)=8 from rfl];omega,bA (by simp only[fQ];omega)]
 rfl
theorem Jn (u c:Nat) (hc:c<256) (h:u*256+c<9223372036854775808) (st:St):(eL pv .or 3 (.int .i64 ((u*256:Nat):Int)) (.int .i64 (c:Nat))).map (fun d=>(d,st))=some (.int .i64 ((u*256+c:Nat):Int),st):=by
 show Option.map _ (some (D.int .i64 (a7 .i64 ((BitVec.ofInt 64 ((u*256:Nat):Int)|||BitVec.ofInt 64 ((c:Nat):Int)).toNat:Nat))))=_;rw[BitVec.ofInt_natCast,BitVec.ofInt_natCast,BitVec.toNat_or,BitVec.toNat_ofNat,BitVec.toNat_ofNat,Nat.mod_eq_of_lt (by omega),Nat.mod_eq_of_lt (by omega)]
 have e:u*256|||c=u*256+c:=by
  have:=Nat.shiftLeft_add_eq_or_of_lt (i:=8) (b:=c) hc u;rw[Nat.shiftLeft_eq] at this;exact this.symm
 rw[e,bA (by simp only[fQ];omega)];rfl
theorem mc {N k:Nat} {S s0:St} {H:List a_} {x:D} {b:List UInt8} {s:c8} (hbl:b.length≤1099511627776) (bq:s.at_≤b.length) (hH:Has N S s0 (.box k (.mem 0 false (bG x s))::.aC x 1 (byteCells b)::H)):
  ∃d ah,Ev pv 38 [.ptr k 0 0] s0 d ah∧d=.int .i64 (aX b s).1∧Has N S ah (.box k (.mem 0 false (bG x (aX b s).2))::.aC x 1 (byteCells b)::H):=by
 have uJ:=ay b;refine Ev.gA rfl R1 rfl rfl rfl ?_;refine zE ?_;have bn:=hH;have hH:=hH.aW;have bh:(ae .rw s0).bs=s0.bs:=rfl;generalize ae .rw s0=S2 at*;refine zQ 13 ?_;refine ak.cond (by rfl) (fun he=>?_) (fun he=>?_)<;>try simp only[bne_iff_ne,bne_eq_false_iff_eq,ne_eq] at he
 ·have hv:aX b s=(0,s):=by unfold aX;rw[if_pos he]
  rw[hv];refine zQ 4 ?_;refine ak.ret ⟨rx,_,_,_,rfl,ag (rfl),?_⟩;exact⟨rfl,bn.aj bh hH⟩
 refine zQ 1 ?_;have HV:s.e=0:=by simpa using he
 have hv:aX b s=match b.drop s.at_ with
  |[]=>(0,⟨s.at_,3⟩)
  |k::rest=>
   if 8<k.toNat then(0,⟨s.at_,4⟩)
   else if rest.length<k.toNat then(0,⟨s.at_,3⟩)
   else if(0<k.toNat∧rest.head?=some 0)∨9223372036854775808≤fL 0 (rest.take k.toNat) then(0,⟨s.at_,4⟩)
   else((fL 0 (rest.take k.toNat):Nat),⟨s.at_+1+k.toNat,0⟩):=by
  unfold aX;rw[if_neg (by simpa using he)];cases List.drop s.at_ b<;>rfl
 have Ft:(b.drop s.at_).length=b.length-s.at_:=List.length_drop
 have hget:∀i,(byteCells b)[s.at_+i]?=((b.drop s.at_)[i]?).map fun c=>[.int .u8 (c.toNat:Nat)]:=fun i=>by
  unfold byteCells;rw[List.getElem?_map,List.getElem?_drop]
 obtain⟨R,hR⟩:∃R,b.drop s.at_=R:=⟨_,rfl⟩
 rw[hR] at hv Ft;simp only[hR] at hget;refine zQ 11 ?_;refine qn ?_ (hR:=hH.rows bV);refine zQ 2 ?_;rw[uJ]
 cases R with
 |nil=>
  simp only[List.length_nil] at Ft;simp only at hv;rw[hv];have hc:decide (((s.at_:Nat):Int)≥((b.length:Nat):Int))=true:=by rw[decide_eq_true_eq];omega
  refine qD rfl (by rw[hc]) ?_;refine zQ 5 ?_;refine qT hH aN fun st hH=>?_;dsimp only[u2,u1,u3,u4,setMany,u5,u6,D.cells,Nat.reduceAdd,bG] at hH;refine zQ 5 ?_;refine ak.ret ⟨rx,_,_,_,rfl,ag (rfl),?_⟩;exact⟨rfl,bn.aj bh hH⟩
 |cons c rest=>
 simp only[List.length_cons] at Ft;simp only at hv;have hc:decide (((s.at_:Nat):Int)≥((b.length:Nat):Int))=false:=by rw[decide_eq_false_iff_not];omega
 refine qE rfl (by rw[hc]) ?_;refine zQ 1 ?_;have gm:(byteCells b)[s.at_]?=some [.int .u8 (c.toNat:Nat)]:=hget 0;refine zQ 10 ?_;refine aa.nz rfl (ev rfl) (ev rfl) (hH.rows bV) rfl rfl gm (fun _=>(ab rfl _)) (fun SQ HF=>?_);refine aa.iP rfl (ev rfl) HF rfl (ab rfl _) ?_;refine aa.go (d:=.int .i64 (c.toNat:Nat)) (st1:=_) rfl rfl (by exact wJ c _) (ab rfl _) ?_;refine zQ 2 ?_
 obtain⟨kn,hkn⟩:∃kn,c.toNat=kn:=⟨_,rfl⟩
 rw[hkn] at hv⊢;refine zQ 6 ?_;refine zP (fun h8=>?_) fun h8=>?_
 ·rw[if_pos (by omega)] at hv;rw[hv];refine zQ 5 ?_;refine qT hH aN fun st hH=>?_;dsimp only[u2,u1,u3,u4,setMany,u5,u6,D.cells,Nat.reduceAdd,bG] at hH;refine zQ 5 ?_;refine ak.ret ⟨rx,_,_,_,rfl,ag (rfl),?_⟩;exact⟨rfl,bn.aj bh hH⟩
 rw[if_neg (by omega)] at hv;refine zQ 8 ?_;refine qn ?_ (hR:=hH.rows bV);refine zQ 4 ?_;refine aa.eY (z:=(((b.length:Nat):Int)-(s.at_:Nat))) rfl (ev rfl) (ev rfl) (by rw[wrap_i64 (by omega) (by omega)]<;>omega) (ab rfl _) ?_;refine aa.eY (z:=(((b.length:Nat):Int)-(s.at_:Nat)-1)) rfl (ev rfl) (ev rfl) (by rw[wrap_i64 (by omega) (by omega)]<;>omega) (ab rfl _) ?_;refine zQ 3 ?_
 by_cases hs:rest.length<kn
 ·rw[if_pos hs] at hv;rw[hv];have hc:decide ((((b.length:Nat):Int)-(s.at_:Nat)-1)<(kn:Nat))=true:=by rw[decide_eq_true_eq];omega
  refine qD rfl (by rw[hc]) ?_;refine zQ 5 ?_;refine qT hH aN fun st hH=>?_;dsimp only[u2,u1,u3,u4,setMany,u5,u6,D.cells,Nat.reduceAdd,bG] at hH;refine zQ 5 ?_;refine ak.ret ⟨rx,_,_,_,rfl,ag (rfl),?_⟩;exact⟨rfl,bn.aj bh hH⟩
 rw[if_neg hs] at hv;have hc:decide ((((b.length:Nat):Int)-(s.at_:Nat)-1)<(kn:Nat))=false:=by rw[decide_eq_false_iff_not];omega
 refine qE rfl (by rw[hc]) ?_;refine zQ 1 ?_
 obtain⟨l,hl⟩:∃l,rest.take kn=l:=⟨_,rfl⟩
 have tp:l.length=kn:=by rw[←hl,List.length_take];omega
 rw[hl] at hv
 have VO:∀i q,l[i]?=some q→(byteCells b)[s.at_+1+i]?=some [.int .u8 (q.toNat:Nat)]:=fun i q h=>by
  rw[←hl,List.getElem?_take] at h;rw[Nat.add_assoc,hget]
  split at h
  ·rw[Nat.add_comm 1 i,List.getElem?_cons_succ,h];rfl
  ·cases h
 have M5:∀st:St,((0<kn∧rest.head?=some 0)∨9223372036854775808≤fL 0 l)→aX b s=(0,⟨s.at_,4⟩):=fun st h=>by
  rw[hv,if_pos h]
 have TD:¬((0<kn∧rest.head?=some 0)∨9223372036854775808≤fL 0 l)→∀st:St,Has N S2 st (.box k (.mem 0 false (bG x s))::.aC x 1 (byteCells b)::H)→True:=fun _ _ _=>trivial;refine zQ 2 ?_;refine ak.ky (fun fr st=>∃(tmp:List (Nat×D)),fr=⟨6,[.ptr k 0 0,lH fr 1,lH fr 2,.int .i64 (kn:Nat),lH fr 4,lH fr 5],tmp⟩∧Has N S2 st (.box k (.mem 0 false (bG x s))::.aC x 1 (byteCells b)::H)∧(¬((0<kn∧rest.head?=some 0)∨9223372036854775808≤fL 0 l))) ?_ ?_
 ·by_cases Kq:kn=0
  ·have cu:decide (((kn:Nat):Int)>0)=false:=by rw[decide_eq_false_iff_not];omega
   have iX:(((kn:Nat):Int)==8)=false:=by rw[beq_eq_false_iff_ne];omega
   have CV:l=[]:=List.length_eq_zero_iff.1 (by omega);refine zQ 38 ?_;exact⟨_,rfl,hH,(by rintro(⟨h,_⟩|h);omega;rw[CV] at h;simp[fL] at h)⟩
  ·have cu:decide (((kn:Nat):Int)>0)=true:=by rw[decide_eq_true_eq];omega
   obtain⟨z,Bh,rfl⟩:∃z r,rest=z::r:=by
    cases rest with
    |nil=>simp only[List.length_nil] at hs;omega
    |cons z r=>exact⟨z,r,rfl⟩
   obtain⟨l2,rfl⟩:∃l2,l=z::l2:=by
    cases kn with
    |zero=>exact absurd rfl Kq
    |succ kn=>exact⟨_,by rw[←hl];rfl⟩
   have Ae:(byteCells b)[s.at_+1]?=some [.int .u8 (z.toNat:Nat)]:=hget 1
   have hz:(((z.toNat:Nat):Int)==0)=decide (z=0):=by
    by_cases h:z=0
    ·subst h;rfl
    ·have:z.toNat≠0:=fun e=>h (by rw[←UInt8.toNat_inj];exact e);rw[decide_eq_false h,beq_eq_false_iff_ne];omega
   by_cases hz0:z=0
   ·have pY:(((z.toNat:Nat):Int)==0)=true:=by rw[hz,decide_eq_true hz0]
    rw[M5 S2 (.inl ⟨by omega,by rw[hz0];rfl⟩)];refine zQ 12 ?_;refine aa.eC (z:=((s.at_+1:Nat):Int)) (ai rfl rfl rfl cu) (ev rfl) (ev rfl) (by rw[wrap_i64 (by omega) (by omega)]<;>omega) (ab rfl _) ?_;refine aa.nz (ai rfl rfl rfl cu) (ev rfl) (ev rfl) (hH.rows bV) rfl rfl Ae (fun _=>(ab rfl _)) (fun Lu wc=>?_);refine aa.iP (ai rfl rfl rfl cu) (ev rfl) wc rfl (ab rfl _) ?_;refine zQ 27 ?_;refine qT hH aN fun st hH=>?_;dsimp only[u2,u1,u3,u4,setMany,u5,u6,D.cells,Nat.reduceAdd,bG] at hH;refine zQ 5 ?_;refine ak.ret ⟨rx,_,_,_,rfl,ag (rfl),?_⟩;exact⟨rfl,bn.aj bh hH⟩
   have pY:(((z.toNat:Nat):Int)==0)=false:=by rw[hz,decide_eq_false hz0]
   have S4:¬(0<kn∧(z::Bh).head?=some 0):=fun h=>hz0 (Option.some.inj h.2)
   by_cases Yf:kn=8
   ·have iX:(((kn:Nat):Int)==8)=true:=by rw[beq_iff_eq];omega
    have S9:=I' (z:=z) (l:=l2) (by simp only[List.length_cons] at tp;omega)
    by_cases sI:127<z.toNat
    ·have mI:decide (((z.toNat:Nat):Int)>127)=true:=by rw[decide_eq_true_eq];omega
     rw[M5 S2 (.inr (S9.2 sI))];refine zQ 12 ?_;refine aa.eC (z:=((s.at_+1:Nat):Int)) (ai rfl rfl rfl cu) (ev rfl) (ev rfl) (by rw[wrap_i64 (by omega) (by omega)]<;>omega) (ab rfl _) ?_;refine aa.nz (ai rfl rfl rfl cu) (ev rfl) (ev rfl) (hH.rows bV) rfl rfl Ae (fun _=>(ab rfl _)) (fun Lu wc=>?_);refine aa.iP (ai rfl rfl rfl cu) (ev rfl) wc rfl (ab rfl _) ?_;refine zQ 14 ?_;refine aa.eC (z:=((s.at_+1:Nat):Int)) (ai rfl rfl rfl iX) (ev rfl) (ev rfl) (by rw[wrap_i64 (by omega) (by omega)]<;>omega) (ab rfl _) ?_;refine aa.nz (ai rfl rfl rfl iX) (ev rfl) (ev rfl) (hH.rows bV) rfl rfl Ae (fun _=>(ab rfl _)) (fun Uh JU=>?_);refine aa.iP (ai rfl rfl rfl iX) (ev rfl) JU rfl (ab rfl _) ?_;refine zQ 1 ?_;refine aa.cQ (ai rfl rfl rfl pY) rfl iX (ab rfl _) ?_;refine zQ 2 ?_;refine qD rfl (by rw[mI]) ?_;refine zQ 5 ?_;refine qT hH aN fun st hH=>?_;dsimp only[u2,u1,u3,u4,setMany,u5,u6,D.cells,Nat.reduceAdd,bG] at hH;refine zQ 5 ?_;refine ak.ret ⟨rx,_,_,_,rfl,ag (rfl),?_⟩;exact⟨rfl,bn.aj bh hH⟩
    ·have mI:decide (((z.toNat:Nat):Int)>127)=false:=by rw[decide_eq_false_iff_not];omega
     refine zQ 12 ?_;refine aa.eC (z:=((s.at_+1:Nat):Int)) (ai rfl rfl rfl cu) (ev rfl) (ev rfl) (by rw[wrap_i64 (by omega) (by omega)]<;>omega) (ab rfl _) ?_;refine aa.nz (ai rfl rfl rfl cu) (ev rfl) (ev rfl) (hH.rows bV) rfl rfl Ae (fun _=>(ab rfl _)) (fun Lu wc=>?_);refine aa.iP (ai rfl rfl rfl cu) (ev rfl) wc rfl (ab rfl _) ?_;refine zQ 14 ?_;refine aa.eC (z:=((s.at_+1:Nat):Int)) (ai rfl rfl rfl iX) (ev rfl) (ev rfl) (by rw[wrap_i64 (by omega) (by omega)]<;>omega) (ab rfl _) ?_;refine aa.nz (ai rfl rfl rfl iX) (ev rfl) (ev rfl) (hH.rows bV) rfl rfl Ae (fun _=>(ab rfl _)) (fun Uh JU=>?_);refine aa.iP (ai rfl rfl rfl iX) (ev rfl) JU rfl (ab rfl _) ?_;refine zQ 1 ?_;refine aa.cQ (ai rfl rfl rfl pY) rfl iX (ab rfl _) ?_;refine zQ 2 ?_;refine qE rfl (by rw[mI]) ?_;refine zQ 1 ?_;exact⟨_,rfl,hH,(by rintro(h|h);exact S4 h;exact sI (S9.1 h))⟩
   ·have iX:(((kn:Nat):Int)==8)=false:=by rw[beq_eq_false_iff_ne];omega
    have XS:=Ja (l:=z::l2) (by omega);refine zQ 12 ?_;refine aa.eC (z:=((s.at_+1:Nat):Int)) (ai rfl rfl rfl cu) (ev rfl) (ev rfl) (by rw[wrap_i64 (by omega) (by omega)]<;>omega) (ab rfl _) ?_;refine aa.nz (ai rfl rfl rfl cu) (ev rfl) (ev rfl) (hH.rows bV) rfl rfl Ae (fun _=>(ab rfl _)) (fun Lu wc=>?_);refine aa.iP (ai rfl rfl rfl cu) (ev rfl) wc rfl (ab rfl _) ?_;refine zQ 18 ?_;refine aa.cH (ai rfl rfl rfl pY) rfl iX (ab rfl _) ?_;refine zQ 4 ?_;exact⟨_,rfl,hH,(by rintro(h|h);exact S4 h;omega)⟩
 ·rintro fr st ⟨tmp,hfr,hH,lb⟩;rw[hfr];clear hfr;generalize lH fr=ee;clear fr;rw[if_neg lb] at hv;rw[hv];have hV:fL 0 l<9223372036854775808:=Nat.lt_of_not_le fun h=>lb (.inr h);refine zQ 10 ?_;refine ak.loop (fun mm fr st=>∃(i u:Nat),fr.clean=⟨6,[.ptr k 0 0,lH fr 1,lH fr 2,.int .i64 (kn:Nat),.int .i64 (u:Nat),.int .i64 (i:Nat)],[]⟩∧Has N S2 st (.box k (.mem 0 false (bG x s))::.aC x 1 (byteCells b)::H)∧(i+mm=kn)∧(fL u (l.drop i)=fL 0 l)) (kn) ?_ ?_
  ·exact⟨0,0,rfl,hH,by omega,rfl⟩
  rintro mm fr st ⟨i,u,hfr,hH,hi,hu⟩;rw[hfr];clear hfr;generalize lH fr=ee;clear fr;refine zQ 7 ?_
  by_cases hlt:i<l.length
  ·have mI:decide (((i:Nat):Int)<((kn:Nat):Int))=true:=by rw[decide_eq_true_eq];omega
   refine qD rfl (by rw[mI]) ?_;refine zQ 1 ?_
   obtain⟨q,hq⟩:∃q,l[i]?=some q:=⟨l[i]'hlt,List.getElem?_eq_getElem _⟩
   have mA:=VO i q hq
   have yu:l.drop i=q::l.drop (i+1):=by
    have:=List.drop_eq_getElem_cons (l:=l) (i:=i) hlt;rw[this];congr 1;rw[List.getElem?_eq_getElem hlt] at hq;exact Option.some.inj hq
   rw[yu] at hu;have hu:fL (u*256+q.toNat) (l.drop (i+1))=fL 0 l:=hu;have UX:=GP (l.drop (i+1)) (u*256+q.toNat);have GG:q.toNat<256:=q.toNat_lt;refine zQ 4 ?_;refine aa.go (d:=.int .i64 ((u*256:Nat):Int)) (st1:=_) rfl rfl (by exact GZ u (by omega) _) (ab rfl _) ?_;refine zQ 8 ?_;refine aa.eC (z:=((s.at_+1:Nat):Int)) rfl (ev rfl) (ev rfl) (by rw[wrap_i64 (by omega) (by omega)]<;>omega) (ab rfl _) ?_;refine qm ?_;refine aa.eC (z:=((s.at_+1+i:Nat):Int)) rfl (ev rfl) (ev rfl) (by rw[wrap_i64 (by omega) (by omega)]<;>omega) (ab rfl _) ?_;refine aa.nz rfl (ev rfl) (ev rfl) (hH.rows bV) rfl rfl mA (fun _=>(ab rfl _)) (fun UC Mu=>?_);refine aa.iP rfl (ev rfl) Mu rfl (ab rfl _) ?_;refine aa.go (d:=.int .i64 (q.toNat:Nat)) (st1:=_) rfl rfl (by exact wJ q _) (ab rfl _) ?_;refine aa.go (d:=.int .i64 ((u*256+q.toNat:Nat):Int)) (st1:=_) rfl rfl (by exact Jn u q.toNat GG (by omega) _) (ab rfl _) ?_;refine zQ 7 ?_;exact⟨mm-1,by omega,⟨i+1,u*256+q.toNat,rfl,hH,by omega,hu⟩⟩
  ·have mI:decide (((i:Nat):Int)<((kn:Nat):Int))=false:=by rw[decide_eq_false_iff_not];omega
   refine qE rfl (by rw[mI]) ?_;refine zQ 1 ?_;have hil:i=l.length:=by omega
   rw[hil,List.drop_length] at hu;have hu:u=fL 0 l:=hu;rw[←hu];refine zQ 7 ?_;refine aa.eC (z:=((s.at_+1:Nat):Int)) rfl (ev rfl) (ev rfl) (by rw[wrap_i64 (by omega) (by omega)]<;>omega) (ab rfl _) ?_;refine qm ?_;refine aa.eC (z:=((s.at_+1+kn:Nat):Int)) rfl (ev rfl) (ev rfl) (by rw[wrap_i64 (by omega) (by omega)]<;>omega) (ab rfl _) ?_;refine zQ 2 ?_;refine qT hH aN fun st hH=>?_;dsimp only[u2,u1,u3,u4,setMany,u5,u6,D.cells,Nat.reduceAdd,bG] at hH;refine zQ 6 ?_;refine ak.ret ⟨rx,_,_,_,rfl,ag (rfl),?_⟩;rw[HV] at hH;exact⟨rfl,bn.aj bh hH⟩
theorem yw {N k:Nat} {S s0:St} {H:List a_} {x:D} {b:List UInt8} {s:c8} (hbl:b.length≤1099511627776) (bq:s.at_≤b.length) (most:Int) (hH:Has N S s0 (.box k (.mem 0 false (bG x s))::.aC x 1 (byteCells b)::H)):
  ∃d ah,Ev pv 131 [.ptr k 0 0,.int .i64 most] s0 d ah∧d=.int .i64 (br b most s).1∧Has N S ah (.box k (.mem 0 false (bG x (br b most s).2))::.aC x 1 (byteCells b)::H):=by
 refine Ev.gA rfl Ox rfl rfl rfl ?_;refine zE ?_;have bn:=hH;have hH:=hH.aW;have bh:(ae .rw s0).bs=s0.bs:=rfl;generalize ae .rw s0=S2 at*;refine zQ 15 ?_;obtain⟨_,st,aB,rfl,hH⟩:=mc hbl bq hH;refine qv aB ?_;refine zQ 2 ?_;unfold br;generalize aX b s=R at*;obtain⟨n,s1⟩:=R;dsimp only at hH⊢;refine zQ 2 ?_;refine ak.cY 22 (.bool (s1.e==0 &&decide (n>most))) [] ?_ (fun ff tmp cx=>?_)
 ·refine zQ 6 ?_;refine aa.two 18 rfl (fun cK=>?_) (fun cK=>?_)
  ·refine zQ 4 ?_;refine aa.nil (aJ ?_ ?_)
   ·dsimp only[aF,List.foldl,nth,u2,u1]
    all_goals(first|rfl|simp)
   ·refine zF ?_
    all_goals(simp[cK];done)
  ·refine zQ 4 ?_;refine aa.nil (aJ ?_ ?_)
   ·dsimp only[aF,List.foldl,nth,u2,u1]
    all_goals(first|rfl|simp)
   ·refine zF ?_
    all_goals(simp[cK];done)
 dsimp only[aF,List.foldl,nth,u2,u1];refine qc (fun hc=>?_) (fun hc=>?_)<;>try simp only[cs] at hc
 ·have hc:s1.e=0∧n>most:=by simpa using hc
  rw[if_pos hc];refine zQ 5 ?_;refine qT hH aN fun st hH=>?_;dsimp only[u2,u1,u3,u4,setMany,u5,u6,D.cells,Nat.reduceAdd,bG] at hH;refine zQ 7 ?_;refine qT hH aN fun st hH=>?_;dsimp only[u2,u1,u3,u4,setMany,u5,u6,D.cells,Nat.reduceAdd,bG] at hH;refine zQ 5 ?_;refine ak.ret ⟨rx,_,_,_,rfl,ag (rfl),?_⟩;exact⟨rfl,bn.aj bh hH⟩
 ·have hc:¬(s1.e=0∧n>most):=by
   rintro⟨h1,h2⟩;rw[h1,decide_eq_true h2] at hc;simp at hc
  rw[if_neg hc];refine zQ 6 ?_;refine ak.ret ⟨rx,_,_,_,rfl,ag (rfl),?_⟩;exact⟨rfl,bn.aj bh hH⟩
theorem FG {N k:Nat} {S s0:St} {H:List a_} {x:D} {b:List UInt8} {s:c8} (hbl:b.length≤1099511627776) (bq:s.at_≤b.length) (hH:Has N S s0 (.box k (.mem 0 false (bG x s))::.aC x 1 (byteCells b)::H)):
  ∃d ah,Ev pv 160 [.ptr k 0 0] s0 d ah∧d=.bool (db b s).1∧Has N S ah (.box k (.mem 0 false (bG x (db b s).2))::.aC x 1 (byteCells b)::H):=by
 obtain⟨o1,o2,o3,o4,o5⟩:=dc (b:=b) (s:=s) bq;refine Ev.gA rfl N3 rfl rfl rfl ?_;refine zE ?_;have bn:=hH;have hH:=hH.aW;have bh:(ae .rw s0).bs=s0.bs:=rfl;generalize ae .rw s0=S2 at*;refine zQ 15 ?_;obtain⟨_,st,aB,rfl,hH⟩:=mc hbl bq hH;refine qv aB ?_;refine zQ 2 ?_;unfold db;generalize aX b s=R at*;obtain⟨n,s1⟩:=R;dsimp only at hH o5⊢;refine zQ 2 ?_;refine ak.cY 19 (.bool (s1.e==0 &&decide (n>1))) [] ?_ (fun ff tmp cx=>?_)
 ·refine zQ 6 ?_;refine aa.two 16 rfl (fun cK=>?_) (fun cK=>?_)
  ·refine zQ 3 ?_;refine aa.nil (aJ ?_ ?_)
   ·dsimp only[aF,List.foldl,nth,u2,u1]
    all_goals(first|rfl|simp)
   ·refine zF ?_
    all_goals(simp[cK];done)
  ·refine zQ 3 ?_;refine aa.nil (aJ ?_ ?_)
   ·dsimp only[aF,List.foldl,nth,u2,u1]
    all_goals(first|rfl|simp)
   ·refine zF ?_
    all_goals(simp[cK];done)
 dsimp only[aF,List.foldl,nth,u2,u1];refine qc (fun hc=>?_) (fun hc=>?_)<;>try simp only[cs] at hc
 ·have hc:s1.e=0∧n>1:=by simpa using hc
  rw[if_pos hc];refine zQ 5 ?_;refine qT hH aN fun st hH=>?_;dsimp only[u2,u1,u3,u4,setMany,u5,u6,D.cells,Nat.reduceAdd,bG] at hH;refine zQ 7 ?_;refine qT hH aN fun st hH=>?_;dsimp only[u2,u1,u3,u4,setMany,u5,u6,D.cells,Nat.reduceAdd,bG] at hH;refine zQ 5 ?_;refine ak.ret ⟨rx,_,_,_,rfl,ag (rfl),?_⟩;exact⟨rfl,bn.aj bh hH⟩
 ·have hc:¬(s1.e=0∧n>1):=by
   rintro⟨h1,h2⟩;rw[h1,decide_eq_true h2] at hc;simp at hc
  rw[if_neg hc]
  have hb:(n==1)=decide (s1.e=0∧n=1):=by
   by_cases h1:s1.e=0
   ·by_cases h2:n=1
    ·rw[decide_eq_true ⟨h1,h2⟩,h2];rfl
    ·rw[decide_eq_false (fun h=>h2 h.2),beq_eq_false_iff_ne];exact h2
   ·rw[(o5 h1).1,decide_eq_false (fun h=>h1 h.1)];rfl
  dsimp only;rw[←hb];refine zQ 7 ?_;refine ak.ret ⟨rx,_,_,_,rfl,ag (rfl),?_⟩;exact⟨rfl,bn.aj bh hH⟩
theorem FC {N k:Nat} {S s0:St} {H:List a_} {x:D} {b:List UInt8} {s:c8} (hbl:b.length≤1099511627776) (bq:s.at_≤b.length) (most:Int) (hH:Has N S s0 (.box k (.mem 0 false (bG x s))::.aC x 1 (byteCells b)::H)):
  ∃d ah,Ev pv 100 [.ptr k 0 0,.int .i64 most] s0 d ah∧d=.str (dY b most s).1∧Has N S ah (.box k (.mem 0 false (bG x (dY b most s).2))::.aC x 1 (byteCells b)::H):=by
 obtain⟨o1,o2,o3,o4,o5⟩:=dc (b:=b) (s:=s) bq
 have hu:(br b most s).2.at_≤b.length∧0≤(br b most s).1∧(br b most s).1<9223372036854775808:=by
  unfold br
  split
  ·exact⟨bq,by simp,by simp⟩
  ·exact⟨o1,o3,o4⟩
 have uJ:=ay b;refine Ev.gA rfl OB rfl rfl rfl ?_;refine zE ?_;have bn:=hH;have hH:=hH.aW;have bh:(ae .rw s0).bs=s0.bs:=rfl;generalize ae .rw s0=S2 at*;refine zQ 16 ?_;obtain⟨_,st,aB,rfl,hH⟩:=yw hbl bq most hH;refine qv aB ?_;refine zQ 2 ?_;unfold dY;generalize br b most s=R at*;obtain⟨n,s1⟩:=R;dsimp only at hH hu⊢;obtain⟨u1,u2,u3⟩:=hu
 obtain⟨m,rfl⟩:∃m:Nat,n=(m:Nat):=⟨n.toNat,by omega⟩
 by_cases he:s1.e=0
 ·rw[if_neg (by simpa using he)];have cK:(s1.e==0)=true:=by simpa using he
  refine zQ 14 ?_;refine qn ?_ (hR:=hH.rows bV) (hg:=wi cK);refine zQ 4 ?_;refine aa.eY (z:=(((b.length:Nat):Int)-(s1.at_:Nat))) (ai rfl rfl rfl cK) (ev rfl) (ev rfl) (by rw[wrap_i64 (by omega) (by omega)]<;>omega) (ab rfl _) ?_;refine zQ 3 ?_
  by_cases hlt:((b.length:Nat):Int)-(s1.at_:Nat)<(m:Nat)
  ·rw[if_pos hlt];have hc:decide (((m:Nat):Int)>((b.length:Nat):Int)-(s1.at_:Nat))=true:=by rw[decide_eq_true_eq];omega
   refine qD rfl (by rw[hc]) ?_;refine zQ 5 ?_;refine qT hH aN fun st hH=>?_;dsimp only[u2,u1,u3,u4,setMany,u5,u6,D.cells,Nat.reduceAdd,bG] at hH;refine zQ 6 ?_;refine qT hH aN fun st hH=>?_;dsimp only[u2,u1,u3,u4,setMany,u5,u6,D.cells,Nat.reduceAdd,bG] at hH;refine zQ 15 ?_;refine ak.ret ⟨rx,_,_,_,rfl,ag (rfl),?_⟩;exact⟨rfl,bn.aj bh hH⟩
  ·rw[if_neg hlt];have hc:decide (((m:Nat):Int)>((b.length:Nat):Int)-(s1.at_:Nat))=false:=by rw[decide_eq_false_iff_not];omega
   refine qE rfl (by rw[hc]) ?_;refine zQ 10 ?_;refine qE rfl (by simp[he]) ?_;refine zQ 1 ?_
   have Qh:∀{st:St} {e:a_} {H:List a_},Has N S2 st (e::.aC x 1 (byteCells b)::H)→V.Rows st 1 (oG x s1.at_ (s1.at_+m)) (byteCells ((b.drop s1.at_).take m)):=fun h=>by
    have:=rL h (l:=s1.at_) (r:=s1.at_+m) (by omega)
    rwa [List.drop_take,Nat.add_sub_cancel_left] at this
   have HW:=uX (Qh hH);refine zQ 15 ?_;refine aa.eC (z:=((s1.at_+m:Nat):Int)) rfl (ev rfl) (ev rfl) (by rw[wrap_i64 (by omega) (by omega)]<;>omega) (ab rfl _) ?_;refine aa.prt rfl (ev rfl) (hH.rows bV) rfl rfl (lT (m:=s1.at_) (n:=s1.at_+m) (by rw[ay];omega)) ⟨by omega,by rw[ay];omega⟩ (ab rfl _) ?_;refine aa.go (d:=.str ((b.drop s1.at_).take m)) (st1:=_) rfl rfl (by exact HW) (ab rfl _) ?_;refine zQ 10 ?_;refine aa.eC (z:=((s1.at_+m:Nat):Int)) rfl (ev rfl) (ev rfl) (by rw[wrap_i64 (by omega) (by omega)]<;>omega) (ab rfl _) ?_;refine zQ 2 ?_;refine qT hH aN fun st hH=>?_;dsimp only[u2,u1,u3,u4,setMany,u5,u6,D.cells,Nat.reduceAdd,bG] at hH;refine zQ 6 ?_;refine ak.ret ⟨rx,_,_,_,rfl,ag (rfl),?_⟩;rw[he] at hH;exact⟨rfl,bn.aj bh hH⟩
 ·rw[if_pos he];have cK:(s1.e==0)=false:=by simpa using he
  refine zQ 34 ?_;refine qD rfl (by simp[he]) ?_;refine zQ 4 ?_;refine ak.ret ⟨rx,_,_,_,rfl,ag (rfl),?_⟩;exact⟨rfl,bn.aj bh hH⟩
theorem H7 {N k:Nat} {S s0:St} {H:List a_} {x:D} {b:List UInt8} {s:c8} (hbl:b.length≤1099511627776) (hH:Has N S s0 (.box k (.mem 0 false (bG x s))::.aC x 1 (byteCells b)::H)):
  ∃d ah,Ev pv 93 [.ptr k 0 0] s0 d ah∧d=.int .i64 (kV b s).e∧Has N S ah (.box k (.mem 0 false (bG x (kV b s)))::.aC x 1 (byteCells b)::H):=by
 have uJ:=ay b;refine Ev.gA rfl RH rfl rfl rfl ?_;refine zE ?_;have bn:=hH;have hH:=hH.aW;have bh:(ae .rw s0).bs=s0.bs:=rfl;generalize ae .rw s0=S2 at*;refine zQ 4 ?_;unfold kV
 by_cases he:s.e=0
 ·have cK:(s.e==0)=true:=by simpa using he
  refine zQ 17 ?_;refine qn ?_ (hR:=hH.rows bV) (hg:=wi cK);refine zQ 3 ?_;rw[uJ];refine zP (fun hc=>?_) fun hc=>?_
  ·rw[if_pos ⟨he,by omega⟩];refine zQ 4 ?_;refine qT hH aN fun st hH=>?_;dsimp only[u2,u1,u3,u4,setMany,u5,u6,D.cells,Nat.reduceAdd,bG] at hH;refine zQ 9 ?_;refine ak.ret ⟨rx,_,_,_,rfl,ag (rfl),?_⟩;exact⟨rfl,bn.aj bh hH⟩
  ·rw[if_neg (by omega)];refine zQ 9 ?_;refine ak.ret ⟨rx,_,_,_,rfl,ag (rfl),?_⟩;exact⟨rfl,bn.aj bh hH⟩
 ·have cK:(s.e==0)=false:=by simpa using he
  rw[if_neg (fun h=>he h.1)];refine zQ 31 ?_;refine ak.ret ⟨rx,_,_,_,rfl,ag (rfl),?_⟩;exact⟨rfl,bn.aj bh hH⟩
theorem FE {s0:St} {x:D} {b:List UInt8} (hF:s0.flr≤s0.bs.length) (di:s0.ro≤s0.bs.length) (hx:V.Rows s0 1 x (byteCells b)) (hl:b.length≤68719476736):
  ∃d ah,Ev pv 36 [x] s0 d ah∧∃k y,d=.ptr k 0 0∧Has s0.bs.length s0 ah [.box k (.mem 0 false (bG y ⟨0,0⟩)),.aC y 1 (byteCells b)]:=by
 have uJ:=ay b;refine Ev.gA rfl R3 rfl rfl rfl ?_;refine zE ?_;have aP:(ae .nw s0).bs=s0.bs:=rfl;have hF:(ae .nw s0).flr≤s0.bs.length:=hF;have hH:Has s0.bs.length (ae .nw s0) (ae .nw s0) []:=Has.start (Nat.le_refl _) (Nat.le_refl _);generalize ae .nw s0=S at*;have hx:=Arg.of hx aP;refine zQ 6 ?_;refine aa.Fc (s:=1) hH rfl rfl rfl rfl rfl (fun _=>(ab rfl _)) (fun k3 st tG hH=>?_);refine qm ?_;refine aa.hO (s:=1) hH rfl (ev rfl) (ev rfl) (by exact aN) (by exact Arg.rows (by assumption) hH) rfl rfl rfl rfl rfl rfl rfl ⟨(Nat.le_of_ble_eq_true rfl),(Nat.le_of_ble_eq_true rfl)⟩ (fun _=>(ab rfl _)) rfl (by simp only[List.length_nil]<;>omega) (by exact .inl hF) (fun x5 st hH=>?_);dsimp only[u2,u1,u3,u4,setMany,u5,u6,D.cells,Nat.reduceAdd,bG] at hH;refine aa.ij (qs:=[(0,_)]) rfl rfl rfl rfl ⟨rfl,(ev rfl),(by exact hH.oM (by exact aN)),trivial⟩ (by intro q hq;simp only[List.mem_cons,List.not_mem_nil,or_false] at hq;rcases hq with rfl<;>exact⟨rfl,by exact Nat.le_of_ble_eq_true rfl⟩) (by show List.foldl _ [_,_,_] _=_;dsimp only[List.foldl_cons,List.foldl_nil,u2,u1]<;>rfl) (ab rfl _) ?_;refine qb hH fun k7 st O6 hH=>?_;refine zQ 2 ?_;refine ak.ret ⟨rx,_,_,_,rfl,rfl,?_⟩;exact⟨_,_,rfl,(hH.take 2).gV aP di⟩
theorem tV {f:mr} {x:Nat} {v:Int} (hx:x<10):setMany (aY f) x [.int .i64 v]=aY (DZ f x v):=by
 match x,hx with
 |0,_=>rfl
 |1,_=>rfl
 |2,_=>rfl
 |3,_=>rfl
 |4,_=>rfl
 |5,_=>rfl
 |6,_=>rfl
 |7,_=>rfl
 |8,_=>rfl
 |9,_=>rfl
theorem EK (f:mr):eL pv .neq 48 (.agg (aY f)) (.agg (aY f))=some (.bool false):=by
 have h:∀b c d e g i j k l m:Int,eL pv .neq 48 (.agg [.int .i64 b,.int .i64 c,.int .i64 d,.int .i64 e,.int .i64 g,.int .i64 i,.int .i64 j,.int .i64 k,.int .i64 l,.int .i64 m]) (.agg [.int .i64 b,.int .i64 c,.int .i64 d,.int .i64 e,.int .i64 g,.int .i64 i,.int .i64 j,.int .i64 k,.int .i64 l,.int .i64 m])=Option.map (fun b=>D.bool !b) (match some (b==b) with|some true=>(match some (c==c) with|some true=>(match some (d==d) with|some true=>(match some (e==e) with|some true=>(match some (g==g) with|some true=>(match some (i==i) with|some true=>(match some (j==j) with|some true=>(match some (k==k) with|some true=>(match some (l==l) with|some true=>(match some (m==m) with|some true=>some true|some false=>some false|none=>none)|some false=>some false|none=>none)|some false=>some false|none=>none)|some false=>some false|none=>none)|some false=>some false|none=>none)|some false=>some false|none=>none)|some false=>some false|none=>none)|some false=>some false|none=>none)|some false=>some false|none=>none)|some false=>some false|none=>none):=fun _ _ _ _ _ _ _ _ _ _=>rfl;unfold aY;rw[h];simp only[beq_self_eq_true,Option.map_some,Bool.not_true]
def I9 (es:List (List D)) (L:List PL):Prop:=es.length=L.length∧∀(i:Nat) l,L[i]?=some l→∃d,gd d 11 (l.ct.map y9)∧es[i]?=some (cA l.dn l.best d)
def wQ (st:St) (es:List (List D)) (L:List PL):Prop:=es.length=L.length∧∀(i:Nat) l,L[i]?=some l→∃d,V.Rows st 11 d (l.ct.map y9)∧es[i]?=some (cA l.dn l.best d)
theorem I9.any {es:List (List D)} {L:List PL} (h:I9 es L) (st:St):wQ st es L:=⟨h.1,fun i l hl=>by
 obtain⟨d,h1,h2⟩:=h.2 i l hl
 exact⟨d,h1.rows st,h2⟩⟩
theorem wQ.ex {s0 S st:St} {H:List a_} {es:List (List D)} {L:List PL} (h:wQ s0 es L) (hS:S.bs=s0.bs) (hH:Has s0.bs.length S st H):wQ st es L:=⟨h.1,fun i l hl=>by
 obtain⟨d,h1,h2⟩:=h.2 i l hl
 exact⟨d,(Arg.of h1 hS).rows hH,h2⟩⟩
def PL.v (l:PL):VL:=⟨l.dn,l.best,T8 l.ct,l.ct⟩
open Go.V Go Go.RowKit
def gG (ks kv:Nat) (p:Pg) (pl:Nat) (ld pd qd:D) (P Q:List Nat) (L:List VL):List a_:=
 .box kv (.mem 0 false [p.cd,p.sd,.int .i64 (pl:Nat),ld,.ptr ks 0 0])::.box ks (.mem 0 false [pd,qd])::.aC pd 1 (P.map Hc)::.aC qd 2 (Q.map OY)::.aC ld 12 (L.map Ll)::L.map Lk
theorem EN {A:List a_} {N:Nat} {S st:St} {ks kv:Nat} {p:Pg} {pl:Nat} {ld:D} {L:List VL} {H:List a_} (h:MH A N S st ks kv p pl ld L H):∃pd qd P Q sn,Has N S st (A++(gG ks kv p pl ld pd qd P Q L++H))∧h_ P Q sn∧sn.length=p.code.length:=by
 obtain⟨pd,qd,P,Q,sn,hH,h1,h2⟩:=h;exact⟨pd,qd,P,Q,sn,by simpa only[gG,List.cons_append] using hH,h1,h2⟩
theorem EO {A:List a_} {N:Nat} {S st:St} {ks kv:Nat} {p:Pg} {pl:Nat} {ld:D} {L:List VL} {H:List a_} {pd qd:D} {P Q:List Nat} {sn:List Bool} (hH:Has N S st (A++(gG ks kv p pl ld pd qd P Q L++H))) (h1:h_ P Q sn) (h2:sn.length=p.code.length):MH A N S st ks kv p pl ld L H:=
 ⟨pd,qd,P,Q,sn,by simpa only[gG,List.cons_append] using hH,h1,h2⟩
def MM (A:List a_) (N:Nat) (S st:St) (ks kv:Nat) (p:Pg) (pl:Nat) (ld:D) (L:List VL) (Bz Bx:Nat) (p2:Pg) (Bi:Nat) (Bw:D) (L2:List VL):Prop:=
 ∃pd qd P Q sn GC GA P2 Q2 Jh,Has N S st (A++(gG ks kv p pl ld pd qd P Q L++gG Bz Bx p2 Bi Bw GC GA P2 Q2 L2))∧h_ P Q sn∧sn.length=p.code.length∧h_ P2 Q2 Jh∧Jh.length=p2.code.length
section
variable{A:List a_} {N:Nat} {S st:St} {ks kv Bz Bx:Nat} {p p2:Pg} {pl Bi:Nat} {ld Bw:D} {L L2:List VL}
theorem MM.one (h:MM A N S st ks kv p pl ld L Bz Bx p2 Bi Bw L2):∃H,MH [] N S st ks kv p pl ld L H∧∀(B:List a_) (ah:St) (Ef:Nat) (LN:D) (L':List VL),MH B N S ah ks kv p Ef LN L' H→MM (B++A) N S ah ks kv p Ef LN L' Bz Bx p2 Bi Bw L2:=by
 obtain⟨pd,qd,P,Q,sn,GC,GA,P2,Q2,Jh,hH,h1,h2,h3,h4⟩:=h
 refine⟨gG Bz Bx p2 Bi Bw GC GA P2 Q2 L2++A,EO (by
  have a:=Has.rD A (gG ks kv p pl ld pd qd P Q L++gG Bz Bx p2 Bi Bw GC GA P2 Q2 L2) (H:=[]) (by rw[List.append_nil];exact hH);rw[List.append_nil,List.append_assoc] at a
  exact a) h1 h2,fun B ah Ef LN L' hM=>?_⟩
 obtain⟨KV,KS,P',Q',Pu,WQ,Nf,Rz⟩:=EN hM;refine⟨KV,KS,P',Q',Pu,GC,GA,P2,Q2,Jh,?_,Nf,Rz,h3,h4⟩
 have a:=Has.rD (B++(gG ks kv p Ef LN KV KS P' Q' L'++gG Bz Bx p2 Bi Bw GC GA P2 Q2 L2)) A (H:=[]) (by rw[List.append_nil];simpa only[List.append_assoc] using WQ);have b:Has N S ah (A++(B++((gG ks kv p Ef LN KV KS P' Q' L'++gG Bz Bx p2 Bi Bw GC GA P2 Q2 L2)++[]))):=by simpa only[List.append_assoc] using a
 have c:=Has.rD _ _ b;rw[List.append_nil] at c
 simpa only[List.append_assoc] using c
theorem MM.drop (n:Nat) (h:MM A N S st ks kv p pl ld L Bz Bx p2 Bi Bw L2) (hn:n≤A.length):MM (A.drop n) N S st ks kv p pl ld L Bz Bx p2 Bi Bw L2:=by
 obtain⟨pd,qd,P,Q,sn,GC,GA,P2,Q2,Jh,hH,h1,h2,h3,h4⟩:=h;refine⟨pd,qd,P,Q,sn,GC,GA,P2,Q2,Jh,?_,h1,h2,h3,h4⟩;have:=hH.drop n
 rwa [List.drop_append_of_le_length hn] at this
theorem MM.has (h:MM A N S st ks kv p pl ld L Bz Bx p2 Bi Bw L2):Has N S st A:=by
 obtain⟨pd,qd,P,Q,sn,GC,GA,P2,Q2,Jh,hH,_⟩:=h;have:=hH.take A.length
 rwa [List.take_left] at this
theorem MM.made {pd qd:D} {P Q:List Nat} {sn:List Bool} (h:MH [] N S st ks kv p pl ld L (gG Bz Bx p2 Bi Bw pd qd P Q L2++A)) (h1:h_ P Q sn) (h2:sn.length=p2.code.length):MM A N S st ks kv p pl ld L Bz Bx p2 Bi Bw L2:=by
 obtain⟨KV,KS,P',Q',Pu,hH,h3,h4⟩:=EN h;refine⟨KV,KS,P',Q',Pu,pd,qd,P,Q,sn,?_,h3,h4,h1,h2⟩;have a:=Has.rD (gG ks kv p pl ld KV KS P' Q' L++gG Bz Bx p2 Bi Bw pd qd P Q L2) A (H:=[]) (by rw[List.append_nil];simpa only[List.nil_append,List.append_assoc] using hH)
 rwa [List.append_nil] at a
end
end Go.Proofs.YtecjacicdpejaaaGreat
namespace Go.Proofs.YtecjacicdpejaaaGreat
open Go.V Go
theorem Has.over {N:Nat} {S st ah:St} {H H2:List a_} (h:Has N S st H) (h2:Has st.bs.length st ah H2):Has N S ah (H2++H):=by
 have hN:=h.hN;have hl:=h.ex.len;have wk:=h2.ex.len;refine⟨⟨fun k hk=>?_,by omega,h2.ex.flr.trans h.ex.flr,h2.ex.ro.trans h.ex.ro⟩,hN,h.di,fun i e hi=>?_,fun i j a b hij ha hb k nP ib=>?_⟩
 ·rw[h2.ex.low k (by omega)];exact h.ex.low k hk
 ·by_cases hlt:i<H2.length
  ·rw[List.getElem?_append_left hlt] at hi;obtain⟨h3,h4⟩:=h2.ok i e hi;exact⟨h3,fun k hk=>⟨by have:=(h4 k hk).1;omega,(h4 k hk).2⟩⟩
  ·rw[List.getElem?_append_right (by omega)] at hi;obtain⟨h3,h4⟩:=h.ok _ e hi;exact⟨e.loc (fun k hk=>h2.ex.low k (h4 k hk).2) h3,fun k hk=>⟨(h4 k hk).1,by have:=(h4 k hk).2;omega⟩⟩
 ·by_cases h1:i<H2.length<;>by_cases h3:j<H2.length
  ·rw[List.getElem?_append_left h1] at ha;rw[List.getElem?_append_left h3] at hb;exact h2.dis i j a b hij ha hb k nP ib
  ·rw[List.getElem?_append_left h1] at ha;rw[List.getElem?_append_right (by omega)] at hb;have:=((h2.ok _ a ha).2 k nP).1;have:=((h.ok _ b hb).2 k ib).2;omega
  ·rw[List.getElem?_append_right (by omega)] at ha;rw[List.getElem?_append_left h3] at hb;have:=((h2.ok _ b hb).2 k ib).1;have:=((h.ok _ a ha).2 k nP).2;omega
  ·rw[List.getElem?_append_right (by omega)] at ha hb;exact h.dis _ _ a b (by omega) ha hb k nP ib
end Go.Proofs.YtecjacicdpejaaaGreat
namespace Go.Proofs.YtecjacicdpejaaaGreat
open Go.V Go
def kI (h j:List UInt8):List D:=(h++j).map wR++[.int .i64 (h.length:Nat)]
theorem EJ (st:St):Ev pv 103 [] st (.ptr st.bs.length 0 0) (st.push (.mem 0 false (kI [] [0,0,0,0]))):=by
 refine Ev.ia rfl Oz rfl rfl rfl ?_;refine zE ?_;refine zU ?_;refine zX ?_;refine aa.nil ?_;refine zF ?_;refine zU ?_;refine zX ?_;refine aa.nil ?_;refine zF ?_;refine qy ?_;exact ak.ret ⟨rx,_,rfl,rfl⟩
theorem LA {st:St} {x:D} {h:List UInt8} (hb:Bytes st x h) (bq:cm h=true∨h=[]) (h3:h.length≤3) (di:st.ro≤st.bs.length):
  Ev pv 95 [x] st (.tup [.ptr st.bs.length 0 0,.int .i64 0]) (st.push (.mem 0 false (kI h (([0,0,0,0]:List UInt8).drop h.length)))):=by
 have hx:=hb.ref;have hbl:=ay h;refine Ev.ia rfl Ni rfl rfl rfl ?_;refine zE ?_;refine zR ?_;refine zU ?_
 refine zW ?_
 refine aa.oa rfl rfl rfl (sR hb) ?_;refine zX ?_;refine zN ?_;have Rm:(dt h).2.2=cm h:=rfl;rw[Rm];generalize(dt h).1=r0;generalize(dt h).2.1=n0
 cases Rl:cm h with
 |true=>
  refine zR ?_;(repeat refine qq ?_);refine ak.cond (v:=false) rfl (fun h=>by cases h) fun _=>?_;refine qy ?_;refine ak.skip ?_;refine qy ?_;have ma:(st.push (.mem 0 false (kI [] [0,0,0,0]))).bs[st.bs.length]?=some (.mem 0 false (kI [] [0,0,0,0])):=jm st _;have hb1:Bytes (st.push (.mem 0 false (kI [] [0,0,0,0]))) x h:=hb.ex (Ex.push (Nat.le_refl _) _) hx;have Fv:∀S:St,S.ro=st.ro→S.ja st.bs.length 0=true:=fun S hS=>va (by omega);refine zU ?_;refine aa.oa rfl rfl rfl (EJ st) ?_;refine zX ?_;refine zN ?_;refine zU ?_
  refine zW ?_
  refine zW ?_
  refine zW ?_
  refine zW ?_
  refine aa.xb (k:=st.bs.length) (v:=0) (off:=0) (l:=0) (r:=4) rfl rfl rfl rfl rfl ma (by decide) rfl ?_
  refine zW ?_
  refine aa.copy (k:=st.bs.length) (az:=0) (off:=0) (len:=4) (s:=1) (ys:=byteCells h) (ar:=false) (c:=kI [] [0,0,0,0]) rfl rfl rfl rfl hb1 rfl rfl ma (by decide) ?_ ?_
  ·rw[gu]
   have:∀(b:List UInt8) m,refs ((b.map wR).take m)=0:=by
    intro b m
    induction b generalizing m with
    |nil=>simp[refs]
    |cons y b ih=>cases m with
     |zero=>simp[refs]
     |succ m=>simp only[List.map_cons,List.take_succ_cons,refs,ih];rfl
   rw[this];exact Fv _ rfl
  have yn:min (byteCells h).length 4=h.length:=by omega
  rw[yn,gu]
  have MY:(kI [] [0,0,0,0]).take 0++(h.map wR).take (h.length*1)++(kI [] [0,0,0,0]).drop (0+h.length*1)=(h++([0,0,0,0]:List UInt8).drop h.length).map wR++[.int .i64 0]:=by
   rw[List.take_zero,List.nil_append,Nat.mul_one,Nat.zero_add];have e1:(h.map wR).take h.length=h.map wR:=List.take_of_length_le (by simp);rw[e1,List.map_append,List.append_assoc]
   congr 1
   show([0,0,0,0].map wR++[D.int .i64 0]).drop h.length=_;rw[List.drop_append_of_le_length (by simp;omega),List.map_drop]
  rw[MY];have hlt:((h++([0,0,0,0]:List UInt8).drop h.length).map wR).length=4:=by simp;omega
  have hT:∃T:List D,T=(h++([0,0,0,0]:List UInt8).drop h.length).map wR:=⟨_,rfl⟩
  obtain⟨T,hT⟩:=hT;rw[←hT] at hlt⊢;have HD:∀b b':iN,(⟨(st.push b).bs.set st.bs.length b',(st.push b).flr,(st.push b).ro⟩:St)=st.push b':=fun b b'=>xF rfl
  refine zW ?_
  refine zW ?_
  rw[HD];refine aa.store (k:=st.bs.length) (az:=0) (off:=4) (cs:=[.int .i64 (h.length:Nat)]) rfl rfl rfl rfl rfl (jm st _) (by rw[List.length_append,hlt];exact Nat.le_refl _) (Fv _ rfl) ?_;rw[HD]
  have mI:(T++[D.int .i64 0]).take 4++[.int .i64 (h.length:Nat)]++(T++[D.int .i64 0]).drop (4+[D.int .i64 (h.length:Nat)].length)=kI h (([0,0,0,0]:List UInt8).drop h.length):=by
   rw[List.take_left' hlt,List.drop_eq_nil_of_le (by rw[List.length_append,hlt];exact Nat.le_refl _),List.append_nil,hT]
   rfl
  rw[mI];refine zN ?_;refine zR ?_;exact ak.ret ⟨rx,_,rfl,rfl⟩
 |false=>
  have CV:h.length=0:=by
   rcases bq with h'|h'
   ·rw[Rl] at h';cases h'
   ·rw[h'];rfl
  refine zU ?_
  refine zW ?_
  refine zW ?_
  refine zW ?_
  refine zW ?_
  refine aa.len rfl rfl rfl hb rfl ?_;rw[hbl];refine zY ?_;refine zN ?_;(repeat refine qq ?_);refine ak.cond (v:=false) rfl (fun h=>by cases h) fun _=>?_;refine qy ?_;refine ak.skip ?_;refine qy ?_;have ma:(st.push (.mem 0 false (kI [] [0,0,0,0]))).bs[st.bs.length]?=some (.mem 0 false (kI [] [0,0,0,0])):=jm st _;have hb1:Bytes (st.push (.mem 0 false (kI [] [0,0,0,0]))) x h:=hb.ex (Ex.push (Nat.le_refl _) _) hx;have Fv:∀S:St,S.ro=st.ro→S.ja st.bs.length 0=true:=fun S hS=>va (by omega);refine zU ?_;refine aa.oa rfl rfl rfl (EJ st) ?_;refine zX ?_;refine zN ?_;refine zU ?_
  refine zW ?_
  refine zW ?_
  refine zW ?_
  refine zW ?_
  refine aa.xb (k:=st.bs.length) (v:=0) (off:=0) (l:=0) (r:=4) rfl rfl rfl rfl rfl ma (by decide) rfl ?_
  refine zW ?_
  refine aa.copy (k:=st.bs.length) (az:=0) (off:=0) (len:=4) (s:=1) (ys:=byteCells h) (ar:=false) (c:=kI [] [0,0,0,0]) rfl rfl rfl rfl hb1 rfl rfl ma (by decide) ?_ ?_
  ·rw[gu]
   have:∀(b:List UInt8) m,refs ((b.map wR).take m)=0:=by
    intro b m
    induction b generalizing m with
    |nil=>simp[refs]
    |cons y b ih=>cases m with
     |zero=>simp[refs]
     |succ m=>simp only[List.map_cons,List.take_succ_cons,refs,ih];rfl
   rw[this];exact Fv _ rfl
  have yn:min (byteCells h).length 4=h.length:=by omega
  rw[yn,gu]
  have MY:(kI [] [0,0,0,0]).take 0++(h.map wR).take (h.length*1)++(kI [] [0,0,0,0]).drop (0+h.length*1)=(h++([0,0,0,0]:List UInt8).drop h.length).map wR++[.int .i64 0]:=by
   rw[List.take_zero,List.nil_append,Nat.mul_one,Nat.zero_add];have e1:(h.map wR).take h.length=h.map wR:=List.take_of_length_le (by simp);rw[e1,List.map_append,List.append_assoc]
   congr 1
   show([0,0,0,0].map wR++[D.int .i64 0]).drop h.length=_;rw[List.drop_append_of_le_length (by simp;omega),List.map_drop]
  rw[MY];have hlt:((h++([0,0,0,0]:List UInt8).drop h.length).map wR).length=4:=by simp;omega
  have hT:∃T:List D,T=(h++([0,0,0,0]:List UInt8).drop h.length).map wR:=⟨_,rfl⟩
  obtain⟨T,hT⟩:=hT;rw[←hT] at hlt⊢;have HD:∀b b':iN,(⟨(st.push b).bs.set st.bs.length b',(st.push b).flr,(st.push b).ro⟩:St)=st.push b':=fun b b'=>xF rfl
  refine zW ?_
  refine zW ?_
  rw[HD];refine aa.store (k:=st.bs.length) (az:=0) (off:=4) (cs:=[.int .i64 (h.length:Nat)]) rfl rfl rfl rfl rfl (jm st _) (by rw[List.length_append,hlt];exact Nat.le_refl _) (Fv _ rfl) ?_;rw[HD]
  have mI:(T++[D.int .i64 0]).take 4++[.int .i64 (h.length:Nat)]++(T++[D.int .i64 0]).drop (4+[D.int .i64 (h.length:Nat)].length)=kI h (([0,0,0,0]:List UInt8).drop h.length):=by
   rw[List.take_left' hlt,List.drop_eq_nil_of_le (by rw[List.length_append,hlt];exact Nat.le_refl _),List.append_nil,hT]
   rfl
  rw[mI];refine zN ?_;refine zR ?_;exact ak.ret ⟨rx,_,rfl,rfl⟩
end Go.Proofs.YtecjacicdpejaaaGreat
namespace Go.Proofs.YtecjacicdpejaaaGreat
open Go.V Go
end Go.Proofs.YtecjacicdpejaaaGreat
namespace Go.Proofs.YtecjacicdpejaaaGreat
open Go.V Go
theorem Gl {st:St} {x:D} {b:List UInt8} (hb:Bytes st x b) (hlen:b.length≤1048576):Ev pv 142 [x] st (.bool (cm b)) st:=by
 refine Ev.ia rfl Oi rfl rfl rfl ?_;refine zE ?_;have hb:=hb.enter .ro;have hbl:=ay b;have hf:=(sQ b).1;refine zU ?_;refine zX ?_;refine zN ?_;refine zU ?_
 refine zW ?_
 refine aa.oa rfl rfl rfl (Ib hb hlen) ?_;refine zX ?_;refine zN ?_;generalize(cT b).1=k at*;generalize(cT b).2=n at*
 by_cases h1:0<k
 ·by_cases h2:k<n
  ·by_cases h3:k=b.length
   ·rw[hf.2 ⟨h1,h2,h3⟩];refine zU ?_;refine zY ?_;refine aa.len rfl rfl rfl hb rfl ?_;rw[hbl];refine zY ?_;refine zN ?_;refine ak.ret ⟨rx,_,rfl,aH (by simp) (by simp[ae]) ?_⟩
    rfl
   ·have:cm b=false:=by
     cases h:cm b with
     |false=>rfl
     |true=>have:=hf.1 h;omega
    rw[this];refine zU ?_;refine zY ?_;refine aa.len rfl rfl rfl hb rfl ?_;rw[hbl];refine zY ?_;refine zN ?_;refine ak.ret ⟨rx,_,rfl,aH (by simp) (by simp[ae]) ?_⟩
    rfl
  ·have:cm b=false:=by
    cases h:cm b with
    |false=>rfl
    |true=>have:=hf.1 h;omega
   rw[this];refine zU ?_;refine zY ?_;refine zN ?_;refine ak.ret ⟨rx,_,rfl,aH (by simp) (by simp[ae]) ?_⟩
   rfl
 ·have:cm b=false:=by
   cases h:cm b with
   |false=>rfl
   |true=>have:=hf.1 h;omega
  rw[this];refine zU ?_;refine zY ?_;refine zN ?_;refine ak.ret ⟨rx,_,rfl,aH (by simp) (by simp[ae]) ?_⟩
  rfl
theorem Gk {l:List UInt8} (h:cm l=true):l.length≤3:=by
 obtain⟨h1,h2,h3⟩:=(sQ l).1.1 h
 cases l with
 |nil=>simp
 |cons c xs=>
  have:=rW c.toNat;simp only[cT] at h2 h3
  split at h2
  ·simp at h2
  ·split at h2
   ·split at h2
    ·rw[←h3];rename_i a1 a2 a3;rw[if_neg a1,if_pos a2,if_pos a3];simp only;omega
    ·simp at h2
   ·simp at h2
/- the plain law: byte by byte is all at once -/
end Go.Proofs.YtecjacicdpejaaaGreat
namespace Go.Proofs.YtecjacicdpejaaaGreat
open Go.V Go
def SH (A:List a_) (N:Nat) (S st:St) (kS kd kv ks:Nat) (p:Pg) (pl:Nat) (ld:D) (L:List VL) (h:List UInt8) (H:List a_):Prop:=
 ∃pd qd P Q sn js,Has N S st (A++(.box kS (.mem 0 false [.ptr kd 0 0,.ptr kv 0 0])::.box kd (.mem 0 false (kI h js))::(gG ks kv p pl ld pd qd P Q L++H)))∧h_ P Q sn∧sn.length=p.code.length∧(h++js).length=4
end Go.Proofs.YtecjacicdpejaaaGreat
namespace Go.Proofs.YtecjacicdpejaaaGreat
open Go.V Go
theorem pb (b:List UInt8):gd (gr b) 1 (byteCells b):=gd.frozen (jI b) (fI b)
structure AS (st:St) (kS kd kv ks:Nat) (p:Pg) (pl:Nat) (ld:D) (L:List VL) (h js:List UInt8):Prop where
 s:st.bs[kS]?=some (.mem 0 false [.ptr kd 0 0,.ptr kv 0 0])
 sl:kS<st.bs.length
 d:st.bs[kd]?=some (.mem 0 false (kI h js))
 dl:kd<st.bs.length
 hl:(h++js).length=4
 m:AM st.bs.length st kv ks p pl ld L
 ro:st.ro≤st.bs.length
theorem SH.as {N kS kd kv ks:Nat} {S s0:St} {H:List a_} {p:Pg} {pl:Nat} {ld:D} {L:List VL} {h:List UInt8} (hM:SH [] N S s0 kS kd kv ks p pl ld L h H):∃js,AS s0 kS kd kv ks p pl ld L h js:=by
 obtain⟨pd,qd,P,Q,sn,js,hH,bq,uG,hl⟩:=hM;dsimp only[u4] at hH;have hM:MH [] N S s0 ks kv p pl ld L ([_,_]++H):=MH.push [_,_] [] (H:=H) (EO hH bq uG);exact⟨js,hH.at aN,(hH.ge aN).2,hH.at bV,(hH.ge bV).2,hl,hM.am,hM.ro⟩
theorem AM.bs {N:Nat} {S S2:St} {kv ks:Nat} {p:Pg} {pl:Nat} {ld:D} {L:List VL} (h:AM N S kv ks p pl ld L) (hS:S2.bs=S.bs):AM N S2 kv ks p pl ld L:=
 ⟨h.lt,by rw[hS];exact h.le,by rw[hS];exact h.at_,⟨h.ld.1.bs hS,h.ld.2⟩,fun l hl=>⟨(h.td l hl).1.bs hS,(h.td l hl).2⟩,h.ksl⟩
end Go.Proofs.YtecjacicdpejaaaGreat
namespace Go.Proofs.YtecjacicdpejaaaGreat
open Go.V Go
section
variable{A:List a_} {N kS kd kv ks:Nat} {S s0:St} {p:Pg} {pl:Nat} {ld:D} {L:List VL} {h:List UInt8} {H:List a_}
theorem SH.push (hM:SH A N S s0 kS kd kv ks p pl ld L h H):SH [] N S s0 kS kd kv ks p pl ld L h (A++H):=by
 obtain⟨pd,qd,P,Q,sn,js,hH,h1,h2,h3⟩:=hM;refine⟨pd,qd,P,Q,sn,js,?_,h1,h2,h3⟩;have:=Has.rD A (_::_::gG ks kv p pl ld pd qd P Q L) (H:=H) (by simpa only[List.cons_append,List.append_assoc] using hH)
 simpa only[List.nil_append,List.cons_append,List.append_assoc] using this
theorem SH.has (hM:SH A N S s0 kS kd kv ks p pl ld L h H):Has N S s0 A:=by
 obtain⟨pd,qd,P,Q,sn,js,hH,h1,h2,h3⟩:=hM;have:=hH.take A.length
 rwa [List.take_left] at this
end
end Go.Proofs.YtecjacicdpejaaaGreat
