/-
 A scan's bytes.
-/
import Derived.Test.YtkbacjpologjbaaGreatWGHr
import Derived.Test.YtkbacjpologjbaaGreatWGNe
import Derived.Test.YtkbacjpologjbaaGreatWGYd
import Derived.Test.YtkbacjpologjbaaGreatWGJi
set_option maxRecDepth 100000
set_option maxHeartbeats 4000000
set_option linter.unusedSimpArgs false
set_option linter.unusedVariables false
open Go.V renaming byteCells→γ,Rows→φ
open List renaming length_append→δ,append_assoc→ε,length_map→η,getElem?_eq_getElem→θ,foldl→μ,getElem?_append_right→ν,getElem?_append_left→ξ,mem_of_getElem?→ο,length_take→ρ,range→ς,take_of_length_le→τ,map_cons→υ,append_nil→χ,length_nil→Δ,length_cons→Φ,singleton_append→wt,mem_cons→IN,flatten_cons→IT,getElem?_map→OF,not_mem_nil→Pd,nil_append→AT,mem_of_mem_take→Qa4,length_range→Qa6,cons_append→Qa7,foldl_cons→Qaa,drop_take→Qab,foldl_nil→Qac
open Nat renaming reduceAdd→ζ,le_of_ble_eq_true→ι,le_refl→π,mod_eq_of_lt→Ψ,add_sub_cancel_left→Qa0,le_trans→Qa2,or_lt_two_pow→Qa8
open Go.V.D renaming cells→κ,int→AI
open BitVec renaming ofInt_natCast→ψ,toNat_ofNat→Θ,ofInt→IS,toNat_or→Qa5
open Go.V.ab renaming go→ω,dX→Ω,nil→BY,eZ→Pe,oG→Qa3,two→Qa9,eK→Qae
open Option renaming map_some→Γ,map→GB,some→Qa1
open Go.V.Arg renaming of→Ξ,rows→Qag
open Go.V.Ev renaming eH→v8,iu→Qaf
open Go.V.Has renaming start→AN,ki→Qad
namespace Go.Proofs.YtkbacjpologjbaaGreat
open Go.V Go
theorem zjta {A B:Prop} (h:A) (e:A→B:=by intro h;dsimp only[u2,u1,u3,u4,setMany,u5,u6,κ,ζ,b_] at h;exact h):B:=e h
def iX (fr:Go.V.Fr) (k:Nat):Go.V.D:=Go.V.nth .bo fr.loc k
def jN (n:Int):Int:=min (max n (-1)) 9223372036854775806
def ti (f:kq):List UInt8:=((ς 10).map fun i=>aZ (jN (f i)+1)).flatten
def uc (t:GT):List UInt8:=aZ t.pc++ti t.c
def na (l:GV):List UInt8:=pV l.dn++(ti l.aY++(aZ (l.bn.length:Nat)++(l.bn.map uc).flatten))
def yY (L:List GV):List UInt8:=aZ (L.length:Nat)++(L.map na).flatten
def KU (h:List UInt8) (place:Int) (L:List GV):List UInt8:=ox h++(aZ place++yY L)
theorem vW (f:kq):(ti f).length≤90:=by
 have:=kN (f:=fun i=>aZ (jN (f i)+1)) (n:=9) (l:=ς 10) fun i _=>bj _;rw[Qa6] at this;exact this
theorem D5 (t:GT):(uc t).length≤99:=by unfold uc;have:=bj t.pc;have:=vW t.c;rw[δ];omega
theorem BG (f:Bool):(pV f).length≤9:=bj _
theorem Bc {l:GV} (h:l.bn.length≤1000):(na l).length≤99108:=by
 unfold na;have:=BG l.dn;have:=vW l.aY;have:=bj (l.bn.length:Nat);have:=kN (f:=uc) (n:=99) (l:=l.bn) fun t _=>D5 t;simp only[δ];omega
def kq.fit (f:kq):Prop:=∀i,i<10→f i≤9223372036854775807
def GT.fit (t:GT):Prop:=t.pc<9223372036854775808∧kq.fit t.c
def GV.fit (l:GV):Prop:=kq.fit l.aY∧∀t∈l.bn,t.fit
theorem Gz (f:kq) {i:Nat} (h:i<10):((((ς 10).take (i+1)).map fun i=>aZ (jN (f i)+1)).flatten)=(((ς 10).take i).map fun i=>aZ (jN (f i)+1)).flatten++aZ (jN (f i)+1):=
 jK (f:=fun i=>aZ (jN (f i)+1)) (l:=ς 10) (by rw[List.getElem?_range h])
variable{s0:St}{x:D}{b:List UInt8}
theorem uG (hF:s0.flr≤s0.bs.length) (db:s0.ro≤s0.bs.length) (hx:φ s0 1 x (γ b)) (hl:b.length≤50000000000) (f:kq) (hf:kq.fit f):
  ∃d ah,Ev pv 97 [x,.agg (aE f)] s0 d ah∧nH s0 ah d (b++ti f):=by
 refine v8 rfl WI rfl rfl rfl ?_;refine zE ?_;have aR:(ae .nw s0).bs=s0.bs:=rfl;have hF:(ae .nw s0).flr≤s0.bs.length:=hF;have hH:Has s0.bs.length (ae .nw s0) (ae .nw s0) []:=AN (π _) (π _);generalize ae .nw s0=S at*;have hx:=Ξ hx aR;refine zQ 2 ?_;refine qb hH fun k3 st tt hH=>?_;dsimp only[u2,u1,u3,u4,setMany,u5,u6,κ,ζ,aE] at hH;refine zQ 8 ?_;refine ag.loop (fun mm fr st=>∃(i:Nat) (y:D) (E:List a8),fr.clean=⟨7,[y,iX fr 1,iX fr 2,.ptr k3 0 0,iX fr 4,.int .i64 (i:Nat),iX fr 6],[]⟩∧Has s0.bs.length S st (E++[.box k3 (.mem 0 false (aE f))])∧(i+mm=10)∧(φ st 1 y (γ (b++(((ς 10).take i).map fun i=>aZ (jN (f i)+1)).flatten)))∧(i=0∨∃E',E=.aC y 1 (γ (b++(((ς 10).take i).map fun i=>aZ (jN (f i)+1)).flatten))::E')) (10) ?_ ?_
 ·exact⟨0,x,[],rfl,hH,by omega,(by simpa using hx.rows hH),.inl rfl⟩
 rintro mm fr st ⟨i,y,E,hfr,hH,hi,hy,hE⟩;rw[hfr];clear hfr;generalize iX fr=ee;clear fr;refine zQ 6 ?_;refine zP (fun hlt=>?_) fun hlt=>?_
 ·refine zQ 1 ?_;have pP:i<10:=by omega
  have hfi:=hf i pP;have eI:=Gz f pP;have ia:=kN (f:=fun i=>aZ (jN (f i)+1)) (n:=9) (l:=(ς 10).take i) fun i _=>bj _;have Vb:((ς 10).take i).length≤10:=by rw[ρ,Qa6];omega
  have hb:(E++[a8.box k3 (.mem 0 false (aE f))])[E.length]?=some (.box k3 (.mem 0 false (aE f))):=by rw[ν (π _),Nat.sub_self];rfl
  have nr:-1≤jN (f i)∧jN (f i)≤9223372036854775806:=by unfold jN;omega
  have R7:(b++(((ς 10).take i).map fun i=>aZ (jN (f i)+1)).flatten).length≤60000000000:=by rw[δ];omega
  generalize hP:b++(((ς 10).take i).map fun i=>aZ (jN (f i)+1)).flatten=P at*;refine zQ 5 ?_;refine ω (d:=.ptr k3 0 (0+i*1)) (st1:=_) rfl rfl (zw pP) (aa rfl _) ?_;refine ab.vu hH rfl rfl hb (su pP) (aa rfl _) ?_;refine zQ 2 ?_
  obtain⟨mx,PO⟩:∃mx,max (f i) (-1)=mx:=⟨_,rfl⟩
  refine zQ 2 ?_;refine ag.jn (fun fr st=>∃(tmp:List (Nat×D)),fr=⟨7,[y,iX fr 1,iX fr 2,.ptr k3 0 0,iX fr 4,.int .i64 (i:Nat),.int .i64 mx],tmp⟩∧Has s0.bs.length S st (E++[.box k3 (.mem 0 false (aE f))])∧(φ st 1 y (γ P))) ?_ ?_
  ·refine zQ 4 ?_;refine zP (fun h1=>?_) fun h1=>?_
   ·refine zQ 3 ?_;obtain rfl:mx=-1:=by omega
    exact⟨_,rfl,hH,hy⟩
   ·refine zQ 1 ?_;obtain rfl:mx=f i:=by omega
    exact⟨_,rfl,hH,hy⟩
  ·rintro fr st ⟨tmp,hfr,hH,hy⟩;rw[hfr];clear hfr;generalize iX fr=ee;clear fr;refine zQ 2 ?_;refine ag.jn (fun fr st=>∃(tmp:List (Nat×D)),fr=⟨7,[y,iX fr 1,iX fr 2,.ptr k3 0 0,iX fr 4,.int .i64 (i:Nat),.int .i64 (jN (f i))],tmp⟩∧Has s0.bs.length S st (E++[.box k3 (.mem 0 false (aE f))])∧(φ st 1 y (γ P))) ?_ ?_
   ·refine zQ 4 ?_;refine zI (fun h2=>?_) fun h2=>?_
    ·have e8:mx-1=jN (f i):=by unfold jN;omega
     refine zQ 2 ?_;refine Qae (z:=jN (f i)) rfl z3 z3 (by rw[e8];exact wrap_i64 z0 z0) (aa rfl _) ?_;refine zQ 2 ?_;exact⟨_,rfl,hH,hy⟩
    ·refine zQ 1 ?_;have e:mx=jN (f i):=by unfold jN;omega
     subst e;exact⟨_,rfl,hH,hy⟩
   ·rintro fr st ⟨tmp,hfr,hH,hy⟩;rw[hfr];clear hfr;generalize iX fr=ee;clear fr;refine zQ 3 ?_;refine Ω (z:=jN (f i)+1) rfl z3 z3 (by rw[wrap_i64 z0 z0]<;>omega) (aa rfl _) ?_;obtain⟨dn,st,aA,ho⟩:=dH (x:=y) (b:=P) (hH.eQ hF).1 (hH.eQ hF).2 hy R7 (jN (f i)+1) z0;have hH:=hH.lD ho;refine qv aA ?_;refine zQ 2 ?_;have hH:Has s0.bs.length S st ((.aC dn 1 (γ (P++aZ (jN (f i)+1)))::E)++[.box k3 (.mem 0 false (aE f))]):=hH;have jI:φ st 1 dn (γ (P++aZ (jN (f i)+1))):=hH.rows (j:=0) rfl;refine zQ 5 ?_;exact⟨mm-1,by omega,⟨i+1,dn,_,rfl,hH,by omega,(by rw[eI,←ε,hP];exact jI),.inr ⟨E,by rw[eI,←ε,hP]⟩⟩⟩
 ·refine zQ 1 ?_;have pP:i=10:=by omega
  subst pP
  rcases hE with h|⟨E',rfl⟩
  ·omega
  refine zQ 5 ?_;refine ag.ret ⟨rx,_,_,_,rfl,rfl,?_⟩;exact(hH.take 1).fx aR db
def rS (fr:Go.V.Fr) (k:Nat):Go.V.D:=Go.V.nth .bo fr.loc k
variable{st:St}{es:List (List D)}
theorem sO {s:Nat} (h:φ st s x es):x.cells=[x]:=by cases h<;>rfl
theorem uy (st:St):φ st 1 .nul (γ []):=.nul
theorem Hb {d:D} (hx:φ s0 1 x [[d]]) (hd:φ s0 1 d (γ b)) (hl:b.length≤1000000000000):Ev pv 20 [x] s0 (lA (mj 0#32 b)) s0:=by
 refine Qaf rfl XR rfl rfl rfl ?_;refine zE ?_;obtain⟨aR,hF,hH⟩:=ri s0;generalize ae .ro s0=S at*;have hx:=Ξ hx aR;have hd:=Ξ hd aR;refine zQ 12 ?_;refine qn ?_;simp only[Φ,Δ];refine zQ 3 ?_;refine ag.loop (fun mm fr st=>∃(i:Nat) (c:BitVec 32),fr.clean=⟨9,[rS fr 0,rS fr 1,rS fr 2,lA c,rS fr 4,rS fr 5,x,.int .i64 1,.int .i64 (i:Nat)],[]⟩∧Has s0.bs.length S st []∧(i+mm=1)∧(c=if i=0 then 0#32 else mj 0#32 b)) (1) ?_ ?_
 ·exact⟨0,0#32,rfl,hH,by omega,rfl⟩
 rintro mm fr st ⟨i,c,hfr,hH,hi,hc⟩;rw[hfr];clear hfr;generalize rS fr=ee;clear fr;refine zQ 5 ?_;refine zP (fun hlt=>?_) fun hlt=>?_
 ·refine zQ 1 ?_;have Zh:i=0:=by omega
  subst Zh;have fU:([[d]]:List (List D))[0]?=some [d]:=rfl;refine zQ 4 ?_;refine qr fun Ql IJ=>?_;refine zQ 3 ?_;have hc:c=0#32:=hc;subst hc;refine zQ 3 ?_;refine qv (MP (hd.rows hH) hl _) ?_;refine zQ 6 ?_;exact⟨0,by omega,⟨1,mj 0#32 b,rfl,hH,by omega,rfl⟩⟩
 ·refine zQ 1 ?_;rw[if_neg z0] at hc;subst hc;refine zQ 5 ?_;refine ag.ret ⟨rx,_,rfl,rl aR hH (rfl)⟩
def Bx (u v:BitVec 32):Int:=(((u.toNat*65536)|||(v &&&65535#32).toNat:Nat):Int)
theorem Jd (u v:BitVec 32):0≤Bx u v∧Bx u v<281474976710656:=by
 have h1:u.toNat*65536<2^48:=by have:=u.isLt;omega
 have h2:(v &&&65535#32).toNat<2^48:=by have:=(v &&&65535#32).isLt;omega
 have:=Qa8 h1 h2;unfold Bx;omega
theorem yk (u:BitVec 32) (st:St):iO pv 60 3 (lA u) st=some (.int .i64 (u.toNat:Nat),st):=by
 show some (AI .i64 (bp .i64 (u.toNat:Nat)),st)=_;rw[bI (by simp only[gh];have:=u.isLt;omega)]
theorem Ah (u:BitVec 32) (st:St):(fp pv .shl 3 (.int .i64 (u.toNat:Nat)) (.int .u64 16)).map (fun d=>(d,st))=some (.int .i64 ((u.toNat*65536:Nat):Int),st):=by
 show GB _ (some (AI .i64 (bp .i64 ((u.toNat:Nat)*2^16))))=_;rw[show((u.toNat:Nat):Int)*2^16=((u.toNat*65536:Nat):Int) by omega,bI (by simp only[gh];have:=u.isLt;omega)];rfl
theorem Qm (a b:Nat) (ha:a<2^48) (hb:b<2^48) (st:St):(fp pv .or 3 (.int .i64 (a:Nat)) (.int .i64 (b:Nat))).map (fun d=>(d,st))=some (.int .i64 ((a|||b:Nat):Int),st):=by
 show GB _ (some (AI .i64 (bp .i64 ((IS 64 (a:Nat)|||IS 64 (b:Nat)).toNat:Nat))))=_;have hlt:=Qa8 ha hb;rw[ψ,ψ,Qa5,Θ,Θ,Ψ z0,Ψ z0,bI (by simp only[gh];omega)];rfl
theorem EZ (u v:BitVec 32) (st:St):(fp pv .or 3 (.int .i64 ((u.toNat*65536:Nat):Int)) (.int .i64 ((v &&&65535#32).toNat:Nat))).map (fun d=>(d,st))=some (.int .i64 (Bx u v),st):=
 Qm _ _ (by have:=u.isLt;omega) (by have:=(v &&&65535#32).isLt;omega) st
structure Pg.fit (p:Pg):Prop where
 c:∀i∈p.code,i.fit
 s:∀v∈p.ak,v<9223372036854775808
 cl:p.code.length≤1000
noncomputable def gF (p:Pg):Int:=Bx (mj 0#32 (ij p.code p.ak)) (mj 1#32 (ij p.code p.ak))
theorem BT {l:List aL} (h:∀i∈l,i.ok) (hl:l.length≤1000):(oC l).length≤18874404000:=by
 have:=kN (f:=oq) (n:=18874404) (l:=l) fun i hi=>EK (h i hi).2;exact Qa2 this z0
variable{p:Pg}
theorem uH (hp:p.ok) (hf:p.fit):(ij p.code p.ak).length≤20000000000:=by
 unfold ij;have h1:=bj (p.ak.length:Nat);have h2:=bj (p.code.length:Nat);have h3:=uQ p.ak;have h4:=hp.sl;have h5:=BT hp.i hf.cl;simp only[δ];omega
theorem L9 (hp:p.ok) (hf:p.fit):Ev pv 19 [p.d] s0 (.int .i64 (gF p)) s0:=by
 have ia:=uH hp hf;have nY:=hp.c;have hsd:=hp.s;have jS:=hp.sl;refine Qaf rfl XS rfl rfl rfl ?_;refine zE ?_;obtain⟨aR,hF,hH⟩:=ri s0;generalize ae .ro s0=S at*;have hc:=hp.c.arg s0.bs.length S;have hs:=hp.s.arg s0.bs.length S;unfold Pg.d;have pM:=bj (p.ak.length:Nat);have IP:=uQ p.ak;refine zQ 2 ?_;refine qb hH fun k1 st oO hH=>?_;dsimp only[u2,u1,u3,u4,setMany,u5,u6,κ,ζ,Pg.cs] at hH;refine zQ 6 ?_;obtain⟨eC,er⟩:=hH.eQ hF;obtain⟨d6,st,aA,ho⟩:=Ft (x:=.nul) (b:=[]) eC er (uy _) (hs.rows hH) (by simp) hp.sl hf.s;have hH:=hH.lD ho
 (dsimp only[u3,u4] at hH)
 refine qv aA ?_;refine zQ 7 ?_;obtain⟨eC,er⟩:=hH.eQ hF;obtain⟨d10,st,aA,ho⟩:=z_ (x:=d6) (b:=[]++(aZ (p.ak.length:Nat)++((p.ak.map aZ).flatten))) eC er (hH.rows aJ) (hc.rows hH) (by unfold uR at IP;simp only[δ,AT];omega) hf.cl hp.i hf.c;have hH:=hH.lD ho
 (dsimp only[u3,u4] at hH)
 refine qv aA ?_;refine zQ 2 ?_
 have hH:Has s0.bs.length S st (.aC d10 1 (γ (ij p.code p.ak))::.aC d6 1 (γ ([]++(aZ (p.ak.length:Nat)++((p.ak.map aZ).flatten))))::[.box k1 (.mem 0 false [p.cd,p.sd])]):=by
  unfold ij uR oC;simp only[AT,ε] at hH⊢;exact hH
 have hcell:d10.cells?=some d10.cells∧d10.cells.length=1:=by
  rw[sO (hH.rows aJ)];exact⟨lZ (hH.rows aJ),rfl⟩
 have nu:=sO (hH.rows aJ);refine zQ 3 ?_;refine ab.EU (s:=1) (vs:=[d10]) hH rfl rfl rfl rfl rfl (ι rfl) ⟨rfl,z3,trivial⟩ rfl (by intro v hv;simp only[IN,Pd,or_false] at hv;subst hv;exact hcell) (fun _=>(aa rfl _)) (fun k12 st VV hH=>?_);rw[show List.map κ [d10]=[[d10]] by rw[υ,List.map_nil,nu]] at hH;refine qv (Hb (hH.rows aJ) (hH.rows bt) z0) ?_;refine ω (d:=.int .i64 ((mj 0#32 (ij p.code p.ak)).toNat:Nat)) (st1:=_) rfl rfl (by exact yk _ _) (aa rfl _) ?_;refine ω (d:=.int .i64 (((mj 0#32 (ij p.code p.ak)).toNat*65536:Nat):Int)) (st1:=_) rfl rfl (by exact Ah _ _) (aa rfl _) ?_;refine qm ?_;refine qv (MP (hH.rows bt) z0 1#32) ?_;refine ω (d:=lA (mj 1#32 (ij p.code p.ak) &&&65535#32)) (st1:=_) rfl rfl (by exact zB _ 65535#32 _) (aa rfl _) ?_;refine ω (d:=.int .i64 ((mj 1#32 (ij p.code p.ak) &&&65535#32).toNat:Nat)) (st1:=_) rfl rfl (by exact yk _ _) (aa rfl _) ?_;refine ω (d:=.int .i64 (gF p)) (st1:=_) rfl rfl (by exact EZ _ _ _) (aa rfl _) ?_;refine zQ 2 ?_;refine ag.ret ⟨rx,_,rfl,rl aR hH (rfl)⟩
def gj (fr:Go.V.Fr) (k:Nat):Go.V.D:=Go.V.nth .bo fr.loc k
theorem FR (hp:p.ok) (hf:p.fit):Ev pv 64 [p.d] s0 (cA (ij p.code p.ak)) s0:=by
 have ia:=uH hp hf;have nY:=hp.c;have hsd:=hp.s;have jS:=hp.sl;have ot:=hf.cl;refine Qaf rfl Xb rfl rfl rfl ?_;refine zE ?_;obtain⟨aR,hF,hH⟩:=ri s0;generalize ae .ro s0=S at*;have hc:=hp.c.arg s0.bs.length S;have hs:=hp.s.arg s0.bs.length S;unfold Pg.d;have pM:=bj (p.ak.length:Nat);have IP:=uQ p.ak;refine zQ 2 ?_;refine qb hH fun k1 st oO hH=>?_;dsimp only[u2,u1,u3,u4,setMany,u5,u6,κ,ζ,Pg.cs,aK,au,ax] at hH;refine zQ 6 ?_;refine qn ?_;simp only[η];obtain⟨eC,er⟩:=hH.eQ hF;obtain⟨d11,st,aA,ho⟩:=dH (x:=.nul) (b:=[]) eC er (uy _) (by simp) (p.ak.length:Nat) z0;have hH:=hH.lD ho
 (dsimp only[u3,u4] at hH)
 refine qv aA ?_;refine zQ 8 ?_;refine ag.loop (fun mm fr st=>∃(i:Nat) (y:D),fr.clean=⟨8,[gj fr 0,.ptr k1 0 0,gj fr 2,y,.int .i64 (i:Nat),gj fr 5,gj fr 6,gj fr 7],[]⟩∧Has s0.bs.length S st [.aC y 1 (γ (aZ (p.ak.length:Nat)++(((p.ak.take i).map aZ).flatten))),.box k1 (.mem 0 false [p.cd,p.sd])]∧(i+mm=p.ak.length)) (p.ak.length) ?_ ?_
 ·exact⟨0,d11,rfl,(by simpa using hH),by omega⟩
 rintro mm fr st ⟨i,y,hfr,hH,hi⟩;rw[hfr];clear hfr;generalize gj fr=ee;clear fr;refine zQ 6 ?_;refine qn ?_;simp only[η];refine zQ 2 ?_;refine zP (fun hlt=>?_) fun hlt=>?_
 ·refine zQ 1 ?_
  obtain⟨v,hv⟩:∃v,p.ak[i]?=some v:=⟨p.ak[i]' z0,θ _⟩
  have fU:=ej hv;have PI:=hf.s v (ο hv);have eI:=jK (f:=aZ) hv;have IW:=kN (f:=aZ) (n:=9) (l:=p.ak.take i) (fun x hx=>bj x);have mA:(p.ak.take i).length=i:=by rw[ρ];omega
  have R7:(aZ (p.ak.length:Nat)++(((p.ak.take i).map aZ).flatten)).length≤60000000000:=by rw[δ];omega
  generalize hP:aZ (p.ak.length:Nat)++(((p.ak.take i).map aZ).flatten)=P at*;refine zQ 7 ?_;refine qr fun TG LH=>?_;refine qR ?_;obtain⟨eC,er⟩:=hH.eQ hF;obtain⟨d25,st,aA,ho⟩:=dH (x:=y) (b:=P) eC er (hH.rows aJ) R7 v PI;have hH:=hH.lD ho
  (dsimp only[u3,u4] at hH)
  refine qv aA ?_;refine zQ 7 ?_;exact⟨mm-1,by omega,⟨i+1,d25,rfl,(by rw[eI,←ε,hP];exact hH.erase 1),by omega⟩⟩
 ·refine zQ 1 ?_;rw[τ z0] at hH;change Has _ _ _ [.aC y 1 (γ (aZ (p.ak.length:Nat)++uR p.ak)),_] at hH;have hQl:(aZ (p.ak.length:Nat)++uR p.ak).length≤10000000:=by rw[δ];omega
  generalize hQ:aZ (p.ak.length:Nat)++uR p.ak=Q at*;have hn3:=bj (p.code.length:Nat);refine zQ 5 ?_;refine qn ?_;simp only[η];obtain⟨eC,er⟩:=hH.eQ hF;obtain⟨d30,st,aA,ho⟩:=dH (x:=y) (b:=Q) eC er (hH.rows aJ) z0 (p.code.length:Nat) z0;have hH:=hH.lD ho
  (dsimp only[u3,u4] at hH)
  refine qv aA ?_;refine zQ 8 ?_;refine ag.loop (fun mm fr st=>∃(i:Nat) (y:D),fr.clean=⟨8,[gj fr 0,.ptr k1 0 0,gj fr 2,y,gj fr 4,.int .i64 (i:Nat),gj fr 6,gj fr 7],[]⟩∧Has s0.bs.length S st [.aC y 1 (γ (Q++(aZ (p.code.length:Nat)++oC (p.code.take i)))),.box k1 (.mem 0 false [p.cd,p.sd])]∧(i+mm=p.code.length)) (p.code.length) ?_ ?_
  ·exact⟨0,d30,rfl,(by have:=hH.erase 1;simpa[oC] using this),by omega⟩
  rintro mm fr st ⟨i,y,hfr,hH,hi⟩;rw[hfr];clear hfr;generalize gj fr=ee;clear fr;refine zQ 6 ?_;refine qn ?_;simp only[η];refine zQ 2 ?_;refine zP (fun hlt=>?_) fun hlt=>?_
  ·refine zQ 1 ?_
   obtain⟨v,hv⟩:∃v,p.code[i]?=some v:=⟨p.code[i]' z0,θ _⟩
   have fU:=fy hv;have PI:=hf.c v (ο hv);obtain⟨QI,aaj⟩:=hp.i v (ο hv);have aak:=QI.cells.1;have LB:=QI.arg s0.bs.length S;have eI:oC (p.code.take (i+1))=oC (p.code.take i)++oq v:=jK (f:=oq) hv;have IW:(oC (p.code.take i)).length≤18874404000:=BT (fun x hx=>hp.i x (Qa4 hx)) (by rw[ρ];omega);have R7:(Q++(aZ (p.code.length:Nat)++oC (p.code.take i))).length≤20000000000:=by simp only[δ];omega
   generalize hP:Q++(aZ (p.code.length:Nat)++oC (p.code.take i))=P at*;have vt:=bj v.op;have Bt:=bj v.x;have Dc:=bj v.y;have TT:=bj (v.rs.length:Nat);refine zQ 7 ?_;refine qr fun YC Rb=>?_;refine ab.cM rfl z3 z5 rfl (aa rfl _) ?_;refine qa hH fun k6 st De hH=>?_;refine qS hH aJ fun st hH=>?_;dsimp only[u2,u1,u3,u4,setMany,u5,u6,κ,ζ,Pg.cs,aK,au,ax] at hH;refine zQ 6 ?_;obtain⟨eC,er⟩:=hH.eQ hF;obtain⟨d46,st,aA,ho⟩:=dH (x:=y) (b:=P) eC er (hH.rows bt) z0 v.op PI.op;have hH:=hH.lD ho
   (dsimp only[u3,u4] at hH)
   refine qv aA ?_;refine zQ 2 ?_;obtain⟨eC,er⟩:=hH.eQ hF;obtain⟨d49,st,aA,ho⟩:=dH (x:=d46) (b:=P++aZ v.op) eC er (hH.rows aJ) (by rw[δ];omega) v.x PI.x;have hH:=hH.lD ho
   (dsimp only[u3,u4] at hH)
   refine qv aA ?_;refine zQ 2 ?_;obtain⟨eC,er⟩:=hH.eQ hF;obtain⟨d52,st,aA,ho⟩:=dH (x:=d49) (b:=(P++aZ v.op)++aZ v.x) eC er (hH.rows aJ) (by simp only[δ];omega) v.y PI.y;have hH:=hH.lD ho
   (dsimp only[u3,u4] at hH)
   refine qv aA ?_;refine zQ 2 ?_;refine qn ?_;simp only[η];obtain⟨eC,er⟩:=hH.eQ hF;obtain⟨d56,st,aA,ho⟩:=dH (x:=d52) (b:=((P++aZ v.op)++aZ v.x)++aZ v.y) eC er (hH.rows aJ) (by simp only[δ];omega) (v.rs.length:Nat) z0;have hH:=hH.lD ho
   (dsimp only[u3,u4] at hH)
   refine qv aA ?_;refine zQ 2 ?_;have Zu:((((P++aZ v.op)++aZ v.x)++aZ v.y)++aZ (v.rs.length:Nat)).length≤30000000000:=by simp only[δ];omega
   have hRe:P++oq v=((((P++aZ v.op)++aZ v.x)++aZ v.y)++aZ (v.rs.length:Nat))++uB v.rs:=by unfold oq;simp only[ε]
   generalize(((P++aZ v.op)++aZ v.x)++aZ v.y)++aZ (v.rs.length:Nat)=R at*;have hH:Has s0.bs.length S st [.aC d56 1 (γ R),.box k6 (.mem 0 false (aK v)),.box k1 (.mem 0 false [p.cd,p.sd])]:=(((hH.erase 1).erase 1).erase 1).erase 2;refine zQ 5 ?_;refine ag.loop (fun mm fr st=>∃(j:Nat) (y:D),fr.clean=⟨8,[gj fr 0,.ptr k1 0 0,gj fr 2,y,gj fr 4,.int .i64 (i:Nat),.ptr k6 0 0,.int .i64 (j:Nat)],[]⟩∧Has s0.bs.length S st [.aC y 1 (γ (R++uB (v.rs.take j))),.box k6 (.mem 0 false (aK v)),.box k1 (.mem 0 false [p.cd,p.sd])]∧(j+mm=v.rs.length)) (v.rs.length) ?_ ?_
   ·exact⟨0,d56,rfl,(by simpa[uB] using hH),by omega⟩
   rintro mm fr st ⟨j,y,hfr,hH,hj⟩;rw[hfr];clear hfr;generalize gj fr=ee;clear fr;refine zQ 6 ?_;refine qn ?_;simp only[η];refine zQ 2 ?_;refine zP (fun OA=>?_) fun OA=>?_
   ·refine zQ 1 ?_
    obtain⟨g,hg⟩:∃g,v.rs[j]?=some g:=⟨v.rs[j]' z0,θ _⟩
    have mB:=dP hg;have TW:=PI.r g (ο hg);have N6:uB (v.rs.take (j+1))=uB (v.rs.take j)++Ek g:=jK (f:=Ek) hg;have Zc:(uB (v.rs.take j)).length≤18*(v.rs.take j).length:=Ei _;have PQ:(v.rs.take j).length≤1048576:=by rw[ρ];omega
    have R3:(R++uB (v.rs.take j)).length≤40000000000:=by rw[δ];omega
    generalize hT:R++uB (v.rs.take j)=T at*;have IU:=bj g.1;refine zQ 7 ?_;refine qr fun Qf y6=>?_;refine qf (fo:=0) fun p69 Vi=>?_;refine qR ?_;refine ω (d:=.int .i64 g.1) (st1:=_) rfl rfl (by exact Mt TW.1 TW.2.1 _) (aa rfl _) ?_;obtain⟨eC,er⟩:=hH.eQ hF;obtain⟨d72,st,aA,ho⟩:=dH (x:=y) (b:=T) eC er (hH.rows aJ) z0 g.1 z0;have hH:=hH.lD ho
    (dsimp only[u3,u4] at hH)
    refine qv aA ?_;refine zQ 3 ?_;refine qr fun p76 aaD=>?_;refine qf (fo:=1) fun p77 aaC=>?_;refine qR ?_;refine ω (d:=.int .i64 g.2) (st1:=_) rfl rfl (by exact Mt TW.2.2.1 TW.2.2.2 _) (aa rfl _) ?_;obtain⟨eC,er⟩:=hH.eQ hF;obtain⟨d80,st,aA,ho⟩:=dH (x:=d72) (b:=T++aZ g.1) eC er (hH.rows aJ) (by rw[δ];omega) g.2 z0;have hH:=hH.lD ho
    (dsimp only[u3,u4] at hH)
    refine qv aA ?_;refine zQ 7 ?_;exact⟨v.rs.length-(j+1),by omega,⟨j+1,d80,rfl,(by rw[N6,←ε,hT];unfold Ek;rw[←ε];exact(hH.erase 1).erase 1),by omega⟩⟩
   ·refine zQ 1 ?_;rw[τ z0,←hRe] at hH;refine zQ 5 ?_;exact⟨p.code.length-(i+1),by omega,⟨i+1,y,rfl,(by rw[eI,←ε (aZ _),←ε Q,hP];exact hH.erase 1),by omega⟩⟩
  ·refine zQ 1 ?_;rw[τ z0] at hH
   have hH:Has s0.bs.length S st [.aC y 1 (γ (ij p.code p.ak)),.box k1 (.mem 0 false [p.cd,p.sd])]:=by
    unfold ij;rw[←ε,hQ];exact hH
   refine zQ 5 ?_;refine ag.ret ⟨rx,_,rfl,rl aR hH ?_⟩;exact hH.n_ aJ (cS _) (by decide)
theorem AJ (hp:p.ok) (hf:p.fit):Ev pv 25 [p.d] s0 (.int .i64 (gF p)) s0:=by
 have ia:=uH hp hf;have nY:=hp.c;have hsd:=hp.s;have PW:=fun(st:St)=>FR (s0:=st) hp hf;unfold Pg.d at*;refine Qaf rfl XN rfl rfl rfl ?_;refine zE ?_;obtain⟨aR,hF,hH⟩:=ri s0;generalize ae .ro s0=S at*;refine zQ 2 ?_;refine qb hH fun k1 st oO hH=>?_;dsimp only[u2,u1,u3,u4,setMany,u5,u6,κ,ζ,Pg.cs] at hH;refine zQ 4 ?_;refine ab.aH (m:=2) hH rfl z3 (by exact aJ) (by dsimp only[List.drop_succ_cons,List.drop_zero,List.take_succ_cons,List.take_zero,Pg.cs]<;>rfl) rfl rfl (aa rfl _) ?_;refine qv ((PW _)) ?_;refine zQ 5 ?_;refine qv (HF (kQ _ _) z0 0#32) ?_;refine ω (d:=.int .i64 ((mj 0#32 (ij p.code p.ak)).toNat:Nat)) (st1:=_) rfl rfl (by exact yk _ _) (aa rfl _) ?_;refine ω (d:=.int .i64 (((mj 0#32 (ij p.code p.ak)).toNat*65536:Nat):Int)) (st1:=_) rfl rfl (by exact Ah _ _) (aa rfl _) ?_;refine qm ?_;refine qv (HF (kQ _ _) z0 1#32) ?_;refine ω (d:=lA (mj 1#32 (ij p.code p.ak) &&&65535#32)) (st1:=_) rfl rfl (by exact zB _ 65535#32 _) (aa rfl _) ?_;refine ω (d:=.int .i64 ((mj 1#32 (ij p.code p.ak) &&&65535#32).toNat:Nat)) (st1:=_) rfl rfl (by exact yk _ _) (aa rfl _) ?_;refine ω (d:=.int .i64 (gF p)) (st1:=_) rfl rfl (by exact EZ _ _ _) (aa rfl _) ?_;refine zQ 2 ?_;refine ag.ret ⟨rx,_,rfl,rl aR hH (rfl)⟩
def mb (fr:Go.V.Fr) (k:Nat):Go.V.D:=Go.V.nth .bo fr.loc k
theorem jP:∀(b:List UInt8),mr (b.map fun y=>AI .u8 (y.toNat:Nat))=some b
 |[]=>rfl
 |c::b=>by
  simp only[υ,mr,jP b,Γ,Qa1.injEq,List.cons.injEq,and_true];show UInt8.ofNat (((c.toNat:Nat):Int).toNat)=c;rw[Int.toNat_natCast];exact UInt8.ofNat_toNat
theorem JT (hx:fg x 1 (γ b)):iO pv 23 9 x st=some (.str b,st):=by
 have hr:=(hx.rows st).row
 have mi:(γ b).flatten=b.map fun y=>AI .u8 (y.toNat:Nat):=by
  unfold γ
  induction b with
  |nil=>rfl
  |cons c b ih=>rw[υ,IT,υ,wt];congr 1;clear ih hr hx;induction b with
   |nil=>rfl
   |cons c b ih=>rw[υ,IT,υ,wt,ih]
 rw[mi,aw] at hr;have h1:pv.cy 23=some (.slice 5):=rfl;have h2:pv.cy 9=some .string:=rfl;have h3:pv.cy 5=some (.int .u8):=rfl
 rcases hx with⟨rfl,hb⟩|⟨ds,rfl,hd,_⟩
 ·have hb:b=[]:=List.map_eq_nil_iff.1 hb;subst hb;rfl
 ·simp only[iO,h1,h2,h3,hr,η,if_true,jP,Γ]
structure Px (st:St) (y:D) (L:List GV):Prop where
 r:φ st 12 y (L.map gW)
 n:L.length≤100
 t:∀l∈L,φ st 11 l.td (l.bn.map fI)∧l.bn.length≤1000
 f:∀l∈L,l.fit
variable{L:List GV}
theorem F6 (h:L.length≤100) (ht:∀l∈L,l.bn.length≤1000):(yY L).length≤10000000:=by
 unfold yY;have h1:=bj (L.length:Nat);have h2:=kN (f:=na) (n:=99108) (l:=L) fun l hl=>Bc (ht l hl);rw[δ];omega
variable{y:D}
theorem yA (hF:s0.flr≤s0.bs.length) (db:s0.ro≤s0.bs.length) (hx:φ s0 1 x (γ b)) (hl:b.length≤10000000000) (hL:Px s0 y L):
  ∃d ah,Ev pv 62 [x,y] s0 d ah∧nH s0 ah d (b++yY L):=by
 have TK:=hL.r;have Zw:=hL.n;have pM:=bj (L.length:Nat);refine v8 rfl Xd rfl rfl rfl ?_;refine zE ?_;have aR:(ae .nw s0).bs=s0.bs:=rfl;have hF:(ae .nw s0).flr≤s0.bs.length:=hF;have hH:Has s0.bs.length (ae .nw s0) (ae .nw s0) []:=AN (π _) (π _);generalize ae .nw s0=S at*;have hx:=Ξ hx aR;have hy:=Ξ TK aR;refine zQ 8 ?_;refine qn ?_;simp only[η];obtain⟨eC,er⟩:=hH.eQ hF;obtain⟨d10,st,aA,ho⟩:=dH (x:=x) (b:=b) eC er (hx.rows hH) z0 (L.length:Nat) z0;have hH:=hH.lD ho
 (dsimp only[u3,u4] at hH)
 refine qv aA ?_;refine zQ 8 ?_;refine ag.loop (fun mm fr st=>∃(i:Nat) (o:D),fr.clean=⟨7,[o,y,mb fr 2,mb fr 3,mb fr 4,.int .i64 (i:Nat),mb fr 6],[]⟩∧Has s0.bs.length S st [.aC o 1 (γ (b++(aZ (L.length:Nat)++((L.take i).map na).flatten)))]∧(i+mm=L.length)) (L.length) ?_ ?_
 ·exact⟨0,d10,rfl,(by simpa using hH),by omega⟩
 rintro mm fr st ⟨i,o,hfr,hH,hi⟩;rw[hfr];clear hfr;generalize mb fr=ee;clear fr;refine zQ 5 ?_;refine qn ?_;simp only[η];refine zQ 2 ?_;refine zP (fun hlt=>?_) fun hlt=>?_
 ·refine zQ 1 ?_
  obtain⟨v,hv⟩:∃v,L[i]?=some v:=⟨L[i]' z0,θ _⟩
  have Lr:=ο hv;obtain⟨htr,TP⟩:=hL.t v Lr;obtain⟨V6,V5⟩:=hL.f v Lr;have fU:=zi hv;have MY:=Ξ htr aR;have eI:=jK (f:=na) hv;have IW:=kN (f:=na) (n:=99108) (l:=L.take i) (fun x hx=>Bc (hL.t x (Qa4 hx)).2);have mA:(L.take i).length=i:=by rw[ρ];omega
  have R7:(b++(aZ (L.length:Nat)++((L.take i).map na).flatten)).length≤20000000000:=by simp only[δ];omega
  generalize hP:b++(aZ (L.length:Nat)++((L.take i).map na).flatten)=P at*;have vt:=BG v.dn;have Bt:=vW v.aY;have Dc:=bj (v.bn.length:Nat);refine zQ 7 ?_;refine qr fun PC Gb=>?_;refine qf (fo:=0) fun Qi IH=>?_;refine qR ?_;refine qv ((HG (hH.rows aJ) z0 v.dn)) ?_;refine zQ 2 ?_;refine qr fun YI Ri=>?_;refine qf (fo:=1) fun Ut Ot=>?_;refine Pe (d:=.agg (aE v.aY)) rfl z3 z5 rfl (aa rfl _) ?_;obtain⟨eC,er⟩:=hH.eQ hF;obtain⟨d29,st,aA,ho⟩:=uG (x:=cA (P++pV v.dn)) (b:=P++pV v.dn) eC er (kQ _ _) (by rw[δ];omega) v.aY V6;have hH:=hH.lD ho
  (dsimp only[u3,u4] at hH)
  refine qv aA ?_;refine zQ 7 ?_;refine qr fun p33 Vp=>?_;refine qf (fo:=11) fun YE Re=>?_;refine qR ?_;refine qn ?_;simp only[η];obtain⟨eC,er⟩:=hH.eQ hF;obtain⟨d37,st,aA,ho⟩:=dH (x:=d29) (b:=(P++pV v.dn)++ti v.aY) eC er (hH.rows aJ) (by simp only[δ];omega) (v.bn.length:Nat) z0;have hH:=hH.lD ho
  (dsimp only[u3,u4] at hH)
  refine qv aA ?_;refine zQ 2 ?_;have hQl:(((P++pV v.dn)++ti v.aY)++aZ (v.bn.length:Nat)).length≤30000000000:=by simp only[δ];omega
  have hQe:P++na v=(((P++pV v.dn)++ti v.aY)++aZ (v.bn.length:Nat))++(v.bn.map uc).flatten:=by unfold na;simp only[ε]
  generalize((P++pV v.dn)++ti v.aY)++aZ (v.bn.length:Nat)=Q at*;have hH:=hH.take 1;refine zQ 5 ?_;refine ag.loop (fun mm fr st=>∃(j:Nat) (o2:D),fr.clean=⟨7,[o2,y,mb fr 2,mb fr 3,mb fr 4,.int .i64 (i:Nat),.int .i64 (j:Nat)],[]⟩∧Has s0.bs.length S st [.aC o2 1 (γ (Q++((v.bn.take j).map uc).flatten))]∧(j+mm=v.bn.length)) (v.bn.length) ?_ ?_
  ·exact⟨0,d37,rfl,(by simpa using hH),by omega⟩
  rintro mm fr st ⟨j,o2,hfr,hH,hj⟩;rw[hfr];clear hfr;generalize mb fr=ee;clear fr;refine zQ 6 ?_;refine qr fun YC Rb=>?_;refine qf (fo:=11) fun YB Ra=>?_;refine qR ?_;refine qn ?_;simp only[η];refine zQ 2 ?_;refine zP (fun OA=>?_) fun OA=>?_
  ·refine zQ 1 ?_
   obtain⟨t,ht⟩:∃t,v.bn[j]?=some t:=⟨v.bn[j]' z0,θ _⟩
   obtain⟨Ls,N3⟩:=V5 t (ο ht);have mB:=zj ht;have N6:=jK (f:=uc) ht;have aaQ:=kN (f:=uc) (n:=99) (l:=v.bn.take j) (fun x _=>D5 x);have UO:(v.bn.take j).length=j:=by rw[ρ];omega
   have R3:(Q++((v.bn.take j).map uc).flatten).length≤40000000000:=by rw[δ];omega
   generalize hT:Q++((v.bn.take j).map uc).flatten=T at*;have IU:=bj t.pc;refine zQ 6 ?_;refine qr fun Un Oj=>?_;refine qf (fo:=11) fun p52 Vl=>?_;refine zQ 2 ?_;refine qr fun Yy Q8=>?_;refine qf (fo:=0) fun Um Oi=>?_;refine Pe (d:=.int .i64 t.pc) rfl z3 z5 rfl (aa rfl _) ?_;obtain⟨eC,er⟩:=hH.eQ hF;obtain⟨d58,st,aA,ho⟩:=dH (x:=o2) (b:=T) eC er (hH.rows aJ) z0 t.pc Ls;have hH:=hH.lD ho
   (dsimp only[u3,u4] at hH)
   refine qv aA ?_;refine zQ 2 ?_;refine qr fun Yx Oh=>?_;refine qf (fo:=11) fun p62 Vk=>?_;refine zQ 2 ?_;refine qr fun p65 Vj=>?_;refine qf (fo:=1) fun p66 aaH=>?_;refine Pe (d:=.agg (aE t.c)) rfl z3 z5 rfl (aa rfl _) ?_;obtain⟨eC,er⟩:=hH.eQ hF;obtain⟨d68,st,aA,ho⟩:=uG (x:=d58) (b:=T++aZ t.pc) eC er (hH.rows aJ) (by rw[δ];omega) t.c N3;have hH:=hH.lD ho
   (dsimp only[u3,u4] at hH)
   refine qv aA ?_;refine zQ 7 ?_;exact⟨v.bn.length-(j+1),by omega,⟨j+1,d68,rfl,(by rw[N6,←ε,hT];unfold uc;rw[←ε];exact hH.take 1),by omega⟩⟩
  ·refine zQ 1 ?_;rw[τ z0,←hQe] at hH;refine zQ 5 ?_;exact⟨L.length-(i+1),by omega,⟨i+1,o2,rfl,(by rw[eI,←ε (aZ _),←ε b,hP];exact hH),by omega⟩⟩
 ·refine zQ 1 ?_;rw[τ z0] at hH;refine zQ 5 ?_;refine ag.ret ⟨rx,_,_,_,rfl,rfl,?_⟩;exact hH.fx aR db
theorem AH {ly:D} {h:List UInt8} {place:Int} (hF:s0.flr≤s0.bs.length) (db:s0.ro≤s0.bs.length) (hx:φ s0 1 x (γ b)) (hl:b.length≤1000000000) (hy:fg y 1 (γ h)) (hh:h.length≤1048576) (ia:place<9223372036854775808) (hL:Px s0 ly L):
  ∃d ah,Ev pv 23 [x,.agg [y,.int .i64 place,ly]] s0 d ah∧nH s0 ah d (b++KU h place L):=by
 have ot:=hy.cells.1;have np:=lZ hL.r;have I_:=fun st=>JT (st:=st) hy;have pM:=bj (h.length:Nat);have IP:=bj place;have htx:(ox h).length≤1048600:=by unfold ox;rw[δ];omega
 refine v8 rfl XP rfl rfl rfl ?_;refine zE ?_;have aR:(ae .nw s0).bs=s0.bs:=rfl;have hF:(ae .nw s0).flr≤s0.bs.length:=hF;have hH:Has s0.bs.length (ae .nw s0) (ae .nw s0) []:=AN (π _) (π _);generalize ae .nw s0=S at*;have hx:=Ξ hx aR;refine zQ 2 ?_;refine qb hH fun k3 st tt hH=>?_;refine zQ 7 ?_;refine ω (d:=.str h) (st1:=_) rfl rfl (by exact I_ _) (aa rfl _) ?_;refine qv ((HE (hx.rows hH) z0 hh)) ?_;refine zQ 3 ?_;obtain⟨eC,er⟩:=hH.eQ hF;obtain⟨d13,st,aA,ho⟩:=dH (x:=cA (b++ox h)) (b:=b++ox h) eC er (kQ _ _) (by rw[δ];omega) place ia;have hH:=hH.lD ho
 (dsimp only[u3,u4] at hH)
 refine qv aA ?_;refine zQ 3 ?_;obtain⟨eC,er⟩:=hH.eQ hF;obtain⟨d17,st,aA,ho⟩:=yA (x:=d13) (b:=(b++ox h)++aZ place) eC er (hH.rows aJ) (by simp only[δ];omega) ⟨(Ξ hL.r aR).rows hH,hL.n,fun l hm=>⟨(Ξ (hL.t l hm).1 aR).rows hH,(hL.t l hm).2⟩,hL.f⟩;have hH:=hH.lD ho
 (dsimp only[u3,u4] at hH)
 refine qv aA ?_;refine zQ 2 ?_;refine ag.ret ⟨rx,_,_,_,rfl,rfl,?_⟩;have h1:=(hH.take 1).fx aR db;unfold nH KU;simp only[ε] at h1⊢;exact h1
variable{s:dB}{N k:Nat}{S:St}{H:List a8}
theorem vD (hbl:b.length≤1099511627776) (aT:s.at_≤b.length) (most:Int) (hH:Has N S s0 (.box k (.mem 0 false (b_ x s))::.aC x 1 (γ b)::H)):
  ∃d ah,Ev pv 100 [.ptr k 0 0,.int .i64 most] s0 d ah∧d=.int .i64 (bJ b most s).1∧Has N S ah (.box k (.mem 0 false (b_ x (bJ b most s).2))::.aC x 1 (γ b)::H):=by
 refine v8 rfl Th rfl rfl rfl ?_;refine zE ?_;have bD:=hH;have hH:=hH.bf;have bA:(ae .rw s0).bs=s0.bs:=rfl;generalize ae .rw s0=S2 at*;refine zQ 15 ?_;obtain⟨_,st,aA,rfl,hH⟩:=n5 hbl aT hH;refine qv aA ?_;refine zQ 2 ?_;unfold bJ;generalize bk b s=R at*;obtain⟨n,s1⟩:=R;dsimp only at hH⊢;refine zQ 2 ?_;refine ag.da 22 (.bool (s1.e==0 &&decide (n>most))) [] ?_ (fun ff tmp cI=>?_)
 ·refine zQ 6 ?_;refine Qa9 18 rfl (fun de=>?_) (fun de=>?_)
  ·refine zQ 4 ?_;refine BY (aO ?_ ?_)
   ·dsimp only[aI,μ,nth,u2,u1]
    all_goals(first|rfl|simp)
   ·refine zF ?_
    all_goals(simp[de];done)
  ·refine zQ 4 ?_;refine BY (aO ?_ ?_)
   ·dsimp only[aI,μ,nth,u2,u1]
    all_goals(first|rfl|simp)
   ·refine zF ?_
    all_goals(simp[de];done)
 dsimp only[aI,μ,nth,u2,u1];refine qc (fun hc=>?_) (fun hc=>?_)<;>try simp only[cs] at hc
 ·have hc:s1.e=0∧n>most:=by simpa using hc
  rw[if_pos hc];refine zQ 4 ?_;obtain⟨_,st,aA,rfl,hH⟩:=fZ s.at_ 2 hH;refine qv aA ?_;refine zQ 2 ?_;refine ag.ret ⟨rx,_,_,_,rfl,ai (rfl),?_⟩;exact⟨rfl,bD.aq bA hH⟩
 ·have hc:¬(s1.e=0∧n>most):=by
   rintro⟨h1,h2⟩;rw[h1,decide_eq_true h2] at hc;simp at hc
  rw[if_neg hc];refine zQ 6 ?_;refine ag.ret ⟨rx,_,_,_,rfl,ai (rfl),?_⟩;exact⟨rfl,bD.aq bA hH⟩
theorem Jz (hbl:b.length≤1099511627776) (aT:s.at_≤b.length) (hH:Has N S s0 (.box k (.mem 0 false (b_ x s))::.aC x 1 (γ b)::H)):
  ∃d ah,Ev pv 103 [.ptr k 0 0] s0 d ah∧d=.bool (dG b s).1∧Has N S ah (.box k (.mem 0 false (b_ x (dG b s).2))::.aC x 1 (γ b)::H):=by
 refine v8 rfl Td rfl rfl rfl ?_;refine zE ?_;have bD:=hH;have hH:=hH.bf;have bA:(ae .rw s0).bs=s0.bs:=rfl;generalize ae .rw s0=S2 at*;refine zQ 15 ?_;obtain⟨_,st,aA,rfl,hH⟩:=n5 hbl aT hH;refine qv aA ?_;refine zQ 2 ?_;unfold dG;generalize bk b s=R at*;obtain⟨n,s1⟩:=R;dsimp only at hH⊢;refine zQ 2 ?_;refine ag.da 19 (.bool (s1.e==0 &&decide (n>1))) [] ?_ (fun ff tmp cI=>?_)
 ·refine zQ 6 ?_;refine Qa9 16 rfl (fun de=>?_) (fun de=>?_)
  ·refine zQ 3 ?_;refine BY (aO ?_ ?_)
   ·dsimp only[aI,μ,nth,u2,u1]
    all_goals(first|rfl|simp)
   ·refine zF ?_
    all_goals(simp[de];done)
  ·refine zQ 3 ?_;refine BY (aO ?_ ?_)
   ·dsimp only[aI,μ,nth,u2,u1]
    all_goals(first|rfl|simp)
   ·refine zF ?_
    all_goals(simp[de];done)
 dsimp only[aI,μ,nth,u2,u1];refine qc (fun hc=>?_) (fun hc=>?_)<;>try simp only[cs] at hc
 ·have hc:s1.e=0∧n>1:=by simpa using hc
  rw[if_pos hc];have de:((4:Int)==0)=false:=rfl;refine zQ 3 ?_;obtain⟨_,st,aA,rfl,hH⟩:=fZ s.at_ 4 hH;refine qv aA ?_;refine zQ 14 ?_;refine ag.ret ⟨rx,_,_,_,rfl,ai (rfl),?_⟩;exact⟨rfl,bD.aq bA hH⟩
 ·have hc:¬(s1.e=0∧n>1):=by
   rintro⟨h1,h2⟩;rw[h1,decide_eq_true h2] at hc;simp at hc
  rw[if_neg hc];refine zQ 1 ?_
  have hb:decide (s1.e=0∧n=1)=(s1.e==0 &&n==1):=by
   by_cases h1:s1.e=0<;>by_cases h2:n=1<;>simp[h1,h2]
  dsimp only;rw[hb];refine qq<|ag.mH 2 (.bool (s1.e==0 &&n==1)) [] ?_ (fun ff tmp=>?_)
  ·refine zQ 6 ?_;refine Qa9 28 rfl (fun de=>?_) (fun de=>?_)
   ·refine zQ 4 ?_;refine BY (aX ?_);refine zG ?_
    all_goals(simp[de];done)
   ·refine zQ 4 ?_;refine BY (aX ?_);refine zG ?_
    all_goals(simp[de];done)
  dsimp only[aI,μ,nth,u2,u1];refine ag.ret ⟨rx,_,_,_,rfl,ai (rfl),?_⟩;exact⟨rfl,bD.aq bA hH⟩
theorem xV (hx:φ st 1 x (γ b)):iO pv 23 9 x st=some (.str b,st):=by
 have hr:=hx.row
 have mi:(γ b).flatten=b.map fun y=>AI .u8 (y.toNat:Nat):=by
  clear hx hr;unfold γ
  induction b with
  |nil=>rfl
  |cons c b ih=>rw[υ,IT,υ,wt,ih]
 rw[mi,aw] at hr;have h1:pv.cy 23=some (.slice 5):=rfl;have h2:pv.cy 9=some .string:=rfl;have h3:pv.cy 5=some (.int .u8):=rfl
 have h4:∀(x:D),(∀c,x≠.str c)→pk st x=some (b.length,b.map fun y=>AI .u8 (y.toNat:Nat))→(match pk st x with
   |some (n,cs)=>match x with
    | .str _=>none
    |_=>if cs.length=n then(mr cs).map fun b=>(D.str b,st) else none
   |none=>none)=some (.str b,st):=fun x hs h=>by
  rw[h]
  cases x<;>first|(exact absurd rfl (hs _))|(simp only[η,if_true,jP,Γ])
 generalize γ b=es at hx;have hs:∀c,x≠.str c:=by cases hx<;>intro c e<;>cases e
 have h5:=h4 x hs hr
 cases hx with
 |nul=>exact h5
 |sl es h=>exact h5
 |win k aB off es ar c hm hl he=>
  simp only[iO,h1,h2,h3,hr,η,if_true,jP,Γ]
theorem Jv (hbl:b.length≤1099511627776) (aT:s.at_≤b.length) (most:Int) (hH:Has N S s0 (.box k (.mem 0 false (b_ x s))::.aC x 1 (γ b)::H)):
  ∃d ah,Ev pv 70 [.ptr k 0 0,.int .i64 most] s0 d ah∧d=.str (eY b most s).1∧Has N S ah (.box k (.mem 0 false (b_ x (eY b most s).2))::.aC x 1 (γ b)::H):=by
 obtain⟨o1,o2,o3,o4,o5⟩:=dI (b:=b) (s:=s) aT
 have hu:(bJ b most s).2.at_≤b.length∧0≤(bJ b most s).1∧(bJ b most s).1<9223372036854775808:=by
  unfold bJ
  split
  ·exact⟨aT,by simp,by simp⟩
  ·exact⟨o1,o3,o4⟩
 have tS:=aw b;refine v8 rfl W6 rfl rfl rfl ?_;refine zE ?_;have bD:=hH;have hH:=hH.bf;have bA:(ae .rw s0).bs=s0.bs:=rfl;generalize ae .rw s0=S2 at*;refine zQ 16 ?_;obtain⟨_,st,aA,rfl,hH⟩:=vD hbl aT most hH;refine qv aA ?_;refine zQ 2 ?_;unfold eY;generalize bJ b most s=R at*;obtain⟨n,s1⟩:=R;dsimp only at hH hu⊢;obtain⟨u1,u2,u3⟩:=hu
 obtain⟨m,rfl⟩:∃m:Nat,n=(m:Nat):=⟨n.toNat,by omega⟩
 refine zQ 9 ?_;refine ag.cond (by rfl) (fun he=>?_) (fun he=>?_)<;>try simp only[bne_iff_ne,bne_eq_false_iff_eq,ne_eq] at he
 ·rw[if_pos (by simpa using he)];refine zQ 4 ?_;refine ag.ret ⟨rx,_,_,_,rfl,ai (rfl),?_⟩;exact⟨rfl,bD.aq bA hH⟩
 rw[if_neg (by simpa using he)];refine zQ 8 ?_;refine qn ?_ (hR:=hH.rows bt);refine zQ 4 ?_;refine Qae (z:=(((b.length:Nat):Int)-(s1.at_:Nat))) rfl z3 z3 (by rw[wrap_i64 z0 z0]<;>omega) (aa rfl _) ?_;refine zQ 3 ?_;refine zP (fun hlt=>?_) fun hlt=>?_
 ·rw[if_pos z0];refine zQ 4 ?_;obtain⟨_,st,aA,rfl,hH⟩:=fZ s.at_ 3 hH;refine qv aA ?_;refine zQ 5 ?_;refine ag.ret ⟨rx,_,_,_,rfl,ai (rfl),?_⟩;exact⟨rfl,bD.aq bA hH⟩
 rw[if_neg z0];refine zQ 1 ?_
 have U_:∀{st:St} {e:a8} {H:List a8},Has N S2 st (e::.aC x 1 (γ b)::H)→φ st 1 (rB x s1.at_ (s1.at_+m)) (γ ((b.drop s1.at_).take m)):=fun h=>by
  have:=uJ h (l:=s1.at_) (r:=s1.at_+m) z0
  rwa [Qab,Qa0] at this
 have I_:=xV (U_ hH);refine zQ 15 ?_;refine Ω (z:=((s1.at_+m:Nat):Int)) rfl z3 z3 (by rw[wrap_i64 z0 z0]<;>omega) (aa rfl _) ?_;refine ab.prt rfl z3 (hH.rows bt) rfl rfl (nE (m:=s1.at_) (n:=s1.at_+m) (by rw[aw];omega)) ⟨by omega,by rw[aw];omega⟩ (aa rfl _) ?_;refine ω (d:=.str ((b.drop s1.at_).take m)) (st1:=_) rfl rfl (by exact I_) (aa rfl _) ?_;refine zQ 9 ?_;refine Ω (z:=((s1.at_+m:Nat):Int)) rfl z3 z3 (by rw[wrap_i64 z0 z0]<;>omega) (aa rfl _) ?_;refine zQ 2 ?_;refine qT hH aJ fun st hH=>?_;have hH:=zjta hH;refine zQ 6 ?_;refine ag.ret ⟨rx,_,_,_,rfl,ai (rfl),?_⟩;have he:s1.e=0:=by simpa using he
 rw[he] at hH;exact⟨rfl,bD.aq bA hH⟩
theorem E6 (hbl:b.length≤1099511627776) (hH:Has N S s0 (.box k (.mem 0 false (b_ x s))::.aC x 1 (γ b)::H)):
  ∃d ah,Ev pv 31 [.ptr k 0 0] s0 d ah∧d=.int .i64 (mG b s).e∧Has N S ah (.box k (.mem 0 false (b_ x (mG b s)))::.aC x 1 (γ b)::H):=by
 have tS:=aw b;refine v8 rfl XH rfl rfl rfl ?_;refine zE ?_;have bD:=hH;have hH:=hH.bf;have bA:(ae .rw s0).bs=s0.bs:=rfl;generalize ae .rw s0=S2 at*;refine zQ 4 ?_;unfold mG
 by_cases he:s.e=0
 ·have de:(s.e==0)=true:=by simpa using he
  refine zQ 17 ?_;refine qn ?_ (hR:=hH.rows bt) (hg:=wi de);refine zQ 3 ?_;rw[tS];refine zP (fun hc=>?_) fun hc=>?_
  ·rw[if_pos ⟨he,by omega⟩];refine zQ 4 ?_;refine qT hH aJ fun st hH=>?_;have hH:=zjta hH;refine zQ 9 ?_;refine ag.ret ⟨rx,_,_,_,rfl,ai (rfl),?_⟩;exact⟨rfl,bD.aq bA hH⟩
  ·rw[if_neg z0];refine zQ 9 ?_;refine ag.ret ⟨rx,_,_,_,rfl,ai (rfl),?_⟩;exact⟨rfl,bD.aq bA hH⟩
 ·have de:(s.e==0)=false:=by simpa using he
  rw[if_neg (fun h=>he h.1)];refine zQ 31 ?_;refine ag.ret ⟨rx,_,_,_,rfl,ai (rfl),?_⟩;exact⟨rfl,bD.aq bA hH⟩
theorem Jx (hF:s0.flr≤s0.bs.length) (db:s0.ro≤s0.bs.length) (hx:φ s0 1 x (γ b)) (hl:b.length≤68719476736):
  ∃d ah,Ev pv 27 [x] s0 d ah∧∃k y,d=.ptr k 0 0∧Has s0.bs.length s0 ah [.box k (.mem 0 false (b_ y ⟨0,0⟩)),.aC y 1 (γ b)]:=by
 have tS:=aw b;refine v8 rfl XL rfl rfl rfl ?_;refine zE ?_;have aR:(ae .nw s0).bs=s0.bs:=rfl;have hF:(ae .nw s0).flr≤s0.bs.length:=hF;have hH:Has s0.bs.length (ae .nw s0) (ae .nw s0) []:=AN (π _) (π _);generalize ae .nw s0=S at*;have hx:=Ξ hx aR;refine zQ 4 ?_;have hH:=hH.fG 1;refine zQ 3 ?_;refine ab.iB (s:=1) hH rfl z3 z3 (by exact aJ) (by exact Qag z5 hH) rfl rfl rfl rfl rfl rfl rfl ⟨(ι rfl),(ι rfl)⟩ (fun _=>(aa rfl _)) rfl (by simp only[Δ]<;>omega) (by exact .inl hF) (fun x4 st hH=>?_);have hH:=zjta hH;refine ab.hU (qs:=[(0,_)]) rfl rfl rfl rfl ⟨rfl,z3,(by exact hH.eO (by exact aJ)),trivial⟩ (by intro q hq;simp only[IN,Pd,or_false] at hq;rcases hq with rfl<;>exact⟨rfl,by exact ι rfl⟩) (by show μ _ [_,_,_] _=_;dsimp only[Qaa,Qac,u2,u1]<;>rfl) (aa rfl _) ?_;refine qb hH fun k6 st De hH=>?_;refine zQ 2 ?_;refine ag.ret ⟨rx,_,_,_,rfl,rfl,?_⟩;exact⟨_,_,rfl,(hH.take 2).fx aR db⟩
def nf (fr:Go.V.Fr) (k:Nat):Go.V.D:=Go.V.nth .bo fr.loc k
theorem yj:∀(l:List UInt8) (u:Nat),u*256^l.length≤gL u l
 |[],u=>by simp[gL]
 |c::l,u=>by
  simp only[gL,Φ];have h1:=yj l (u*256+c.toNat);rw[Nat.pow_succ,Nat.mul_comm (256^l.length) 256,←Nat.mul_assoc];exact Qa2 (Nat.mul_le_mul_right _ z0) h1
theorem KE (l:List UInt8) (u:Nat):u≤gL u l:=by
 have h1:=yj l u;have h2:0<256^l.length:=Nat.pow_pos (by decide);exact Qa2 (Nat.le_mul_of_pos_right u h2) h1
variable{l:List UInt8}
theorem Nh {z:UInt8} (h:l.length=7):9223372036854775808≤gL 0 (z::l)↔127<z.toNat:=by
 have h1:=yj l (0*256+z.toNat);have h2:=yi l (0*256+z.toNat);rw[h,show(256:Nat)^7=72057594037927936 by decide] at h1 h2;show 9223372036854775808≤gL (0*256+z.toNat) l↔_;omega
theorem Ni (h:l.length≤7):gL 0 l<9223372036854775808:=by
 have h2:=yi l 0;have h1:256^l.length≤256^7:=Nat.pow_le_pow_right (by decide) h;have h3:(256:Nat)^7=72057594037927936:=by decide
 omega
theorem KO (u:Nat) (h:u*256<9223372036854775808) (st:St):(fp pv .shl 3 (.int .i64 (u:Nat)) (.int .i64 8)).map (fun d=>(d,st))=some (.int .i64 ((u*256:Nat):Int),st):=by
 show GB _ (if(8:Int)<0 then none else some (AI .i64 (bp .i64 ((u:Nat)*2^(min (8:Int).toNat 64)))))=_
 rw[if_neg (by decide),show((u:Nat):Int)*2^(min (8:Int).toNat 64)=((u*256:Nat):Int) by
  rw[show(min (8:Int).toNat 64)=8 from rfl];omega,bI (by simp only[gh];omega)]
 rfl
theorem NC (u c:Nat) (hc:c<256) (h:u*256+c<9223372036854775808) (st:St):(fp pv .or 3 (.int .i64 ((u*256:Nat):Int)) (.int .i64 (c:Nat))).map (fun d=>(d,st))=some (.int .i64 ((u*256+c:Nat):Int),st):=by
 show GB _ (some (AI .i64 (bp .i64 ((IS 64 ((u*256:Nat):Int)|||IS 64 ((c:Nat):Int)).toNat:Nat))))=_;rw[ψ,ψ,Qa5,Θ,Θ,Ψ z0,Ψ z0]
 have e:u*256|||c=u*256+c:=by
  have:=Nat.shiftLeft_add_eq_or_of_lt (i:=8) (b:=c) hc u;rw[Nat.shiftLeft_eq] at this;exact this.symm
 rw[e,bI (by simp only[gh];omega)];rfl
theorem nZ (hbl:b.length≤1099511627776) (aT:s.at_≤b.length) (hH:Has N S s0 (.box k (.mem 0 false (b_ x s))::.aC x 1 (γ b)::H)):
  ∃d ah,Ev pv 35 [.ptr k 0 0] s0 d ah∧d=.int .i64 (bk b s).1∧Has N S ah (.box k (.mem 0 false (b_ x (bk b s).2))::.aC x 1 (γ b)::H):=by
 have tS:=aw b;refine v8 rfl XE rfl rfl rfl ?_;refine zE ?_;have bD:=hH;have hH:=hH.bf;have bA:(ae .rw s0).bs=s0.bs:=rfl;generalize ae .rw s0=S2 at*;refine zQ 13 ?_;refine ag.cond (by rfl) (fun he=>?_) (fun he=>?_)<;>try simp only[bne_iff_ne,bne_eq_false_iff_eq,ne_eq] at he
 ·have hv:bk b s=(0,s):=by unfold bk;rw[if_pos he]
  rw[hv];refine zQ 4 ?_;refine ag.ret ⟨rx,_,_,_,rfl,ai (rfl),?_⟩;exact⟨rfl,bD.aq bA hH⟩
 refine zQ 1 ?_;have L6:s.e=0:=by simpa using he
 have hv:bk b s=match b.drop s.at_ with
  |[]=>(0,⟨s.at_,3⟩)
  |k::rest=>
   if 8<k.toNat then(0,⟨s.at_,4⟩)
   else if rest.length<k.toNat then(0,⟨s.at_,3⟩)
   else if(0<k.toNat∧rest.head?=some 0)∨9223372036854775808≤gL 0 (rest.take k.toNat) then(0,⟨s.at_,4⟩)
   else((gL 0 (rest.take k.toNat):Nat),⟨s.at_+1+k.toNat,0⟩):=by
  unfold bk;rw[if_neg (by simpa using he)];cases List.drop s.at_ b<;>rfl
 have GR:(b.drop s.at_).length=b.length-s.at_:=List.length_drop
 have hget:∀i,(γ b)[s.at_+i]?=((b.drop s.at_)[i]?).map fun c=>[.int .u8 (c.toNat:Nat)]:=fun i=>by
  unfold γ;rw[OF,List.getElem?_drop]
 obtain⟨R,hR⟩:∃R,b.drop s.at_=R:=⟨_,rfl⟩
 rw[hR] at hv GR;simp only[hR] at hget;refine zQ 11 ?_;refine qn ?_ (hR:=hH.rows bt);refine zQ 2 ?_;rw[tS]
 cases R with
 |nil=>
  simp only[Δ] at GR;simp only at hv;rw[hv];have hc:decide (((s.at_:Nat):Int)≥((b.length:Nat):Int))=true:=by rw[decide_eq_true_eq];omega
  refine qD rfl (by rw[hc]) ?_;refine zQ 5 ?_;refine qT hH aJ fun st hH=>?_;have hH:=zjta hH;refine zQ 5 ?_;refine ag.ret ⟨rx,_,_,_,rfl,ai (rfl),?_⟩;exact⟨rfl,bD.aq bA hH⟩
 |cons c rest=>
 simp only[Φ] at GR;simp only at hv;have hc:decide (((s.at_:Nat):Int)≥((b.length:Nat):Int))=false:=by rw[decide_eq_false_iff_not];omega
 refine qE rfl (by rw[hc]) ?_;refine zQ 1 ?_;have fU:(γ b)[s.at_]?=some [.int .u8 (c.toNat:Nat)]:=hget 0;refine zQ 10 ?_;refine Qa3 rfl z3 z3 (hH.rows bt) rfl rfl fU (fun _=>(aa rfl _)) (fun YF LG=>?_);refine Pe rfl z3 LG rfl (aa rfl _) ?_;refine ω (d:=.int .i64 (c.toNat:Nat)) (st1:=_) rfl rfl (by exact zu c _) (aa rfl _) ?_;refine zQ 2 ?_
 obtain⟨kn,hkn⟩:∃kn,c.toNat=kn:=⟨_,rfl⟩
 rw[hkn] at hv⊢;refine zQ 6 ?_;refine zP (fun h8=>?_) fun h8=>?_
 ·rw[if_pos z0] at hv;rw[hv];refine zQ 5 ?_;refine qT hH aJ fun st hH=>?_;have hH:=zjta hH;refine zQ 5 ?_;refine ag.ret ⟨rx,_,_,_,rfl,ai (rfl),?_⟩;exact⟨rfl,bD.aq bA hH⟩
 rw[if_neg z0] at hv;refine zQ 8 ?_;refine qn ?_ (hR:=hH.rows bt);refine zQ 4 ?_;refine Qae (z:=(((b.length:Nat):Int)-(s.at_:Nat))) rfl z3 z3 (by rw[wrap_i64 z0 z0]<;>omega) (aa rfl _) ?_;refine Qae (z:=(((b.length:Nat):Int)-(s.at_:Nat)-1)) rfl z3 z3 (by rw[wrap_i64 z0 z0]<;>omega) (aa rfl _) ?_;refine zQ 3 ?_
 by_cases hs:rest.length<kn
 ·rw[if_pos hs] at hv;rw[hv];have hc:decide ((((b.length:Nat):Int)-(s.at_:Nat)-1)<(kn:Nat))=true:=by rw[decide_eq_true_eq];omega
  refine qD rfl (by rw[hc]) ?_;refine zQ 5 ?_;refine qT hH aJ fun st hH=>?_;have hH:=zjta hH;refine zQ 5 ?_;refine ag.ret ⟨rx,_,_,_,rfl,ai (rfl),?_⟩;exact⟨rfl,bD.aq bA hH⟩
 rw[if_neg hs] at hv;have hc:decide ((((b.length:Nat):Int)-(s.at_:Nat)-1)<(kn:Nat))=false:=by rw[decide_eq_false_iff_not];omega
 refine qE rfl (by rw[hc]) ?_;refine zQ 1 ?_
 obtain⟨l,hl⟩:∃l,rest.take kn=l:=⟨_,rfl⟩
 have rY:l.length=kn:=by rw[←hl,ρ];omega
 rw[hl] at hv
 have hli:∀i q,l[i]?=some q→(γ b)[s.at_+1+i]?=some [.int .u8 (q.toNat:Nat)]:=fun i q h=>by
  rw[←hl,List.getElem?_take] at h;rw[Nat.add_assoc,hget]
  split at h
  ·rw[Nat.add_comm 1 i,List.getElem?_cons_succ,h];rfl
  ·cases h
 have RZ:∀st:St,((0<kn∧rest.head?=some 0)∨9223372036854775808≤gL 0 l)→bk b s=(0,⟨s.at_,4⟩):=fun st h=>by
  rw[hv,if_pos h]
 have RK:¬((0<kn∧rest.head?=some 0)∨9223372036854775808≤gL 0 l)→∀st:St,Has N S2 st (.box k (.mem 0 false (b_ x s))::.aC x 1 (γ b)::H)→True:=fun _ _ _=>trivial;refine zQ 2 ?_;refine ag.jn (fun fr st=>∃(tmp:List (Nat×D)),fr=⟨6,[.ptr k 0 0,nf fr 1,nf fr 2,.int .i64 (kn:Nat),nf fr 4,nf fr 5],tmp⟩∧Has N S2 st (.box k (.mem 0 false (b_ x s))::.aC x 1 (γ b)::H)∧(¬((0<kn∧rest.head?=some 0)∨9223372036854775808≤gL 0 l))) ?_ ?_
 ·by_cases Mb:kn=0
  ·have cj:decide (((kn:Nat):Int)>0)=false:=by rw[decide_eq_false_iff_not];omega
   have j8:(((kn:Nat):Int)==8)=false:=by rw[beq_eq_false_iff_ne];omega
   have Cc:l=[]:=List.length_eq_zero_iff.1 z0;refine zQ 38 ?_;exact⟨_,rfl,hH,(by rintro(⟨h,_⟩|h);omega;rw[Cc] at h;simp[gL] at h)⟩
  ·have cj:decide (((kn:Nat):Int)>0)=true:=by rw[decide_eq_true_eq];omega
   obtain⟨z,El,rfl⟩:∃z r,rest=z::r:=by
    cases rest with
    |nil=>simp only[Δ] at hs;omega
    |cons z r=>exact⟨z,r,rfl⟩
   obtain⟨l2,rfl⟩:∃l2,l=z::l2:=by
    cases kn with
    |zero=>exact absurd rfl Mb
    |succ kn=>exact⟨_,by rw[←hl];rfl⟩
   have C8:(γ b)[s.at_+1]?=some [.int .u8 (z.toNat:Nat)]:=hget 1
   have hz:(((z.toNat:Nat):Int)==0)=decide (z=0):=by
    by_cases h:z=0
    ·subst h;rfl
    ·have:z.toNat≠0:=fun e=>h (by rw[←UInt8.toNat_inj];exact e);rw[decide_eq_false h,beq_eq_false_iff_ne];omega
   by_cases hz0:z=0
   ·have tu:(((z.toNat:Nat):Int)==0)=true:=by rw[hz,decide_eq_true hz0]
    rw[RZ S2 (.inl ⟨by omega,by rw[hz0];rfl⟩)];refine zQ 12 ?_;refine Ω (z:=((s.at_+1:Nat):Int)) (aj rfl rfl rfl cj) z3 z3 (by rw[wrap_i64 z0 z0]<;>omega) (aa rfl _) ?_;refine Qa3 (aj rfl rfl rfl cj) z3 z3 (hH.rows bt) rfl rfl C8 (fun _=>(aa rfl _)) (fun Qf y6=>?_);refine Pe (aj rfl rfl rfl cj) z3 y6 rfl (aa rfl _) ?_;refine zQ 27 ?_;refine qT hH aJ fun st hH=>?_;have hH:=zjta hH;refine zQ 5 ?_;refine ag.ret ⟨rx,_,_,_,rfl,ai (rfl),?_⟩;exact⟨rfl,bD.aq bA hH⟩
   have tu:(((z.toNat:Nat):Int)==0)=false:=by rw[hz,decide_eq_false hz0]
   have YQ:¬(0<kn∧(z::El).head?=some 0):=fun h=>hz0 (Qa1.inj h.2)
   by_cases hK8:kn=8
   ·have j8:(((kn:Nat):Int)==8)=true:=by rw[beq_iff_eq];omega
    have YT:=Nh (z:=z) (l:=l2) (by simp only[Φ] at rY;omega)
    by_cases vA:127<z.toNat
    ·have nu:decide (((z.toNat:Nat):Int)>127)=true:=by rw[decide_eq_true_eq];omega
     rw[RZ S2 (.inr (YT.2 vA))];refine zQ 12 ?_;refine Ω (z:=((s.at_+1:Nat):Int)) (aj rfl rfl rfl cj) z3 z3 (by rw[wrap_i64 z0 z0]<;>omega) (aa rfl _) ?_;refine Qa3 (aj rfl rfl rfl cj) z3 z3 (hH.rows bt) rfl rfl C8 (fun _=>(aa rfl _)) (fun Qf y6=>?_);refine Pe (aj rfl rfl rfl cj) z3 y6 rfl (aa rfl _) ?_;refine zQ 14 ?_;refine Ω (z:=((s.at_+1:Nat):Int)) (aj rfl rfl rfl j8) z3 z3 (by rw[wrap_i64 z0 z0]<;>omega) (aa rfl _) ?_;refine Qa3 (aj rfl rfl rfl j8) z3 z3 (hH.rows bt) rfl rfl C8 (fun _=>(aa rfl _)) (fun p85 Of=>?_);refine Pe (aj rfl rfl rfl j8) z3 Of rfl (aa rfl _) ?_;refine zQ 1 ?_;refine ab.c9 (aj rfl rfl rfl tu) rfl j8 (aa rfl _) ?_;refine zQ 2 ?_;refine qD rfl (by rw[nu]) ?_;refine zQ 5 ?_;refine qT hH aJ fun st hH=>?_;have hH:=zjta hH;refine zQ 5 ?_;refine ag.ret ⟨rx,_,_,_,rfl,ai (rfl),?_⟩;exact⟨rfl,bD.aq bA hH⟩
    ·have nu:decide (((z.toNat:Nat):Int)>127)=false:=by rw[decide_eq_false_iff_not];omega
     refine zQ 12 ?_;refine Ω (z:=((s.at_+1:Nat):Int)) (aj rfl rfl rfl cj) z3 z3 (by rw[wrap_i64 z0 z0]<;>omega) (aa rfl _) ?_;refine Qa3 (aj rfl rfl rfl cj) z3 z3 (hH.rows bt) rfl rfl C8 (fun _=>(aa rfl _)) (fun Qf y6=>?_);refine Pe (aj rfl rfl rfl cj) z3 y6 rfl (aa rfl _) ?_;refine zQ 14 ?_;refine Ω (z:=((s.at_+1:Nat):Int)) (aj rfl rfl rfl j8) z3 z3 (by rw[wrap_i64 z0 z0]<;>omega) (aa rfl _) ?_;refine Qa3 (aj rfl rfl rfl j8) z3 z3 (hH.rows bt) rfl rfl C8 (fun _=>(aa rfl _)) (fun p85 Of=>?_);refine Pe (aj rfl rfl rfl j8) z3 Of rfl (aa rfl _) ?_;refine zQ 1 ?_;refine ab.c9 (aj rfl rfl rfl tu) rfl j8 (aa rfl _) ?_;refine zQ 2 ?_;refine qE rfl (by rw[nu]) ?_;refine zQ 1 ?_;exact⟨_,rfl,hH,(by rintro(h|h);exact YQ h;exact vA (YT.1 h))⟩
   ·have j8:(((kn:Nat):Int)==8)=false:=by rw[beq_eq_false_iff_ne];omega
    have hv7:=Ni (l:=z::l2) z0;refine zQ 12 ?_;refine Ω (z:=((s.at_+1:Nat):Int)) (aj rfl rfl rfl cj) z3 z3 (by rw[wrap_i64 z0 z0]<;>omega) (aa rfl _) ?_;refine Qa3 (aj rfl rfl rfl cj) z3 z3 (hH.rows bt) rfl rfl C8 (fun _=>(aa rfl _)) (fun Qf y6=>?_);refine Pe (aj rfl rfl rfl cj) z3 y6 rfl (aa rfl _) ?_;refine zQ 18 ?_;refine ab.c_ (aj rfl rfl rfl tu) rfl j8 (aa rfl _) ?_;refine zQ 4 ?_;exact⟨_,rfl,hH,(by rintro(h|h);exact YQ h;omega)⟩
 ·rintro fr st ⟨tmp,hfr,hH,mK⟩;rw[hfr];clear hfr;generalize nf fr=ee;clear fr;rw[if_neg mK] at hv;rw[hv];have hV:gL 0 l<9223372036854775808:=Nat.lt_of_not_le fun h=>mK (.inr h);refine zQ 10 ?_;refine ag.loop (fun mm fr st=>∃(i u:Nat),fr.clean=⟨6,[.ptr k 0 0,nf fr 1,nf fr 2,.int .i64 (kn:Nat),.int .i64 (u:Nat),.int .i64 (i:Nat)],[]⟩∧Has N S2 st (.box k (.mem 0 false (b_ x s))::.aC x 1 (γ b)::H)∧(i+mm=kn)∧(gL u (l.drop i)=gL 0 l)) (kn) ?_ ?_
  ·exact⟨0,0,rfl,hH,by omega,rfl⟩
  rintro mm fr st ⟨i,u,hfr,hH,hi,hu⟩;rw[hfr];clear hfr;generalize nf fr=ee;clear fr;refine zQ 7 ?_
  by_cases hlt:i<l.length
  ·have nu:decide (((i:Nat):Int)<((kn:Nat):Int))=true:=by rw[decide_eq_true_eq];omega
   refine qD rfl (by rw[nu]) ?_;refine zQ 1 ?_
   obtain⟨q,hq⟩:∃q,l[i]?=some q:=⟨l[i]'hlt,θ _⟩
   have mB:=hli i q hq
   have tw:l.drop i=q::l.drop (i+1):=by
    have:=List.drop_eq_getElem_cons (l:=l) (i:=i) hlt;rw[this];congr 1;rw[θ hlt] at hq;exact Qa1.inj hq
   rw[tw] at hu;have hu:gL (u*256+q.toNat) (l.drop (i+1))=gL 0 l:=hu;have hub:=KE (l.drop (i+1)) (u*256+q.toNat);have GN:q.toNat<256:=q.toNat_lt;refine zQ 4 ?_;refine ω (d:=.int .i64 ((u*256:Nat):Int)) (st1:=_) rfl rfl (by exact KO u z0 _) (aa rfl _) ?_;refine zQ 8 ?_;refine Ω (z:=((s.at_+1:Nat):Int)) rfl z3 z3 (by rw[wrap_i64 z0 z0]<;>omega) (aa rfl _) ?_;refine qm ?_;refine Ω (z:=((s.at_+1+i:Nat):Int)) rfl z3 z3 (by rw[wrap_i64 z0 z0]<;>omega) (aa rfl _) ?_;refine Qa3 rfl z3 z3 (hH.rows bt) rfl rfl mB (fun _=>(aa rfl _)) (fun aah Rm=>?_);refine Pe rfl z3 Rm rfl (aa rfl _) ?_;refine ω (d:=.int .i64 (q.toNat:Nat)) (st1:=_) rfl rfl (by exact zu q _) (aa rfl _) ?_;refine ω (d:=.int .i64 ((u*256+q.toNat:Nat):Int)) (st1:=_) rfl rfl (by exact NC u q.toNat GN z0 _) (aa rfl _) ?_;refine zQ 7 ?_;exact⟨mm-1,by omega,⟨i+1,u*256+q.toNat,rfl,hH,by omega,hu⟩⟩
  ·have nu:decide (((i:Nat):Int)<((kn:Nat):Int))=false:=by rw[decide_eq_false_iff_not];omega
   refine qE rfl (by rw[nu]) ?_;refine zQ 1 ?_;have hil:i=l.length:=by omega
   rw[hil,List.drop_length] at hu;have hu:u=gL 0 l:=hu;rw[←hu];refine zQ 7 ?_;refine Ω (z:=((s.at_+1:Nat):Int)) rfl z3 z3 (by rw[wrap_i64 z0 z0]<;>omega) (aa rfl _) ?_;refine qm ?_;refine Ω (z:=((s.at_+1+kn:Nat):Int)) rfl z3 z3 (by rw[wrap_i64 z0 z0]<;>omega) (aa rfl _) ?_;refine zQ 2 ?_;refine qT hH aJ fun st hH=>?_;have hH:=zjta hH;refine zQ 6 ?_;refine ag.ret ⟨rx,_,_,_,rfl,ai (rfl),?_⟩;rw[L6] at hH;exact⟨rfl,bD.aq bA hH⟩
theorem BA (hbl:b.length≤1099511627776) (aT:s.at_≤b.length) (most:Int) (hH:Has N S s0 (.box k (.mem 0 false (b_ x s))::.aC x 1 (γ b)::H)):
  ∃d ah,Ev pv 112 [.ptr k 0 0,.int .i64 most] s0 d ah∧d=.int .i64 (bJ b most s).1∧Has N S ah (.box k (.mem 0 false (b_ x (bJ b most s).2))::.aC x 1 (γ b)::H):=by
 refine v8 rfl S7 rfl rfl rfl ?_;refine zE ?_;have bD:=hH;have hH:=hH.bf;have bA:(ae .rw s0).bs=s0.bs:=rfl;generalize ae .rw s0=S2 at*;refine zQ 15 ?_;obtain⟨_,st,aA,rfl,hH⟩:=nZ hbl aT hH;refine qv aA ?_;refine zQ 2 ?_;unfold bJ;generalize bk b s=R at*;obtain⟨n,s1⟩:=R;dsimp only at hH⊢;refine zQ 2 ?_;refine ag.da 22 (.bool (s1.e==0 &&decide (n>most))) [] ?_ (fun ff tmp cI=>?_)
 ·refine zQ 6 ?_;refine Qa9 18 rfl (fun de=>?_) (fun de=>?_)
  ·refine zQ 4 ?_;refine BY (aO ?_ ?_)
   ·dsimp only[aI,μ,nth,u2,u1]
    all_goals(first|rfl|simp)
   ·refine zF ?_
    all_goals(simp[de];done)
  ·refine zQ 4 ?_;refine BY (aO ?_ ?_)
   ·dsimp only[aI,μ,nth,u2,u1]
    all_goals(first|rfl|simp)
   ·refine zF ?_
    all_goals(simp[de];done)
 dsimp only[aI,μ,nth,u2,u1];refine qc (fun hc=>?_) (fun hc=>?_)<;>try simp only[cs] at hc
 ·have hc:s1.e=0∧n>most:=by simpa using hc
  rw[if_pos hc];refine zQ 5 ?_;refine qT hH aJ fun st hH=>?_;have hH:=zjta hH;refine zQ 7 ?_;refine qT hH aJ fun st hH=>?_;have hH:=zjta hH;refine zQ 5 ?_;refine ag.ret ⟨rx,_,_,_,rfl,ai (rfl),?_⟩;exact⟨rfl,bD.aq bA hH⟩
 ·have hc:¬(s1.e=0∧n>most):=by
   rintro⟨h1,h2⟩;rw[h1,decide_eq_true h2] at hc;simp at hc
  rw[if_neg hc];refine zQ 6 ?_;refine ag.ret ⟨rx,_,_,_,rfl,ai (rfl),?_⟩;exact⟨rfl,bD.aq bA hH⟩
theorem Jp (hbl:b.length≤1099511627776) (aT:s.at_≤b.length) (hH:Has N S s0 (.box k (.mem 0 false (b_ x s))::.aC x 1 (γ b)::H)):
  ∃d ah,Ev pv 114 [.ptr k 0 0] s0 d ah∧d=.bool (dG b s).1∧Has N S ah (.box k (.mem 0 false (b_ x (dG b s).2))::.aC x 1 (γ b)::H):=by
 obtain⟨o1,o2,o3,o4,o5⟩:=dI (b:=b) (s:=s) aT;refine v8 rfl S5 rfl rfl rfl ?_;refine zE ?_;have bD:=hH;have hH:=hH.bf;have bA:(ae .rw s0).bs=s0.bs:=rfl;generalize ae .rw s0=S2 at*;refine zQ 15 ?_;obtain⟨_,st,aA,rfl,hH⟩:=nZ hbl aT hH;refine qv aA ?_;refine zQ 2 ?_;unfold dG;generalize bk b s=R at*;obtain⟨n,s1⟩:=R;dsimp only at hH o5⊢;refine zQ 2 ?_;refine ag.da 19 (.bool (s1.e==0 &&decide (n>1))) [] ?_ (fun ff tmp cI=>?_)
 ·refine zQ 6 ?_;refine Qa9 16 rfl (fun de=>?_) (fun de=>?_)
  ·refine zQ 3 ?_;refine BY (aO ?_ ?_)
   ·dsimp only[aI,μ,nth,u2,u1]
    all_goals(first|rfl|simp)
   ·refine zF ?_
    all_goals(simp[de];done)
  ·refine zQ 3 ?_;refine BY (aO ?_ ?_)
   ·dsimp only[aI,μ,nth,u2,u1]
    all_goals(first|rfl|simp)
   ·refine zF ?_
    all_goals(simp[de];done)
 dsimp only[aI,μ,nth,u2,u1];refine qc (fun hc=>?_) (fun hc=>?_)<;>try simp only[cs] at hc
 ·have hc:s1.e=0∧n>1:=by simpa using hc
  rw[if_pos hc];refine zQ 5 ?_;refine qT hH aJ fun st hH=>?_;have hH:=zjta hH;refine zQ 7 ?_;refine qT hH aJ fun st hH=>?_;have hH:=zjta hH;refine zQ 5 ?_;refine ag.ret ⟨rx,_,_,_,rfl,ai (rfl),?_⟩;exact⟨rfl,bD.aq bA hH⟩
 ·have hc:¬(s1.e=0∧n>1):=by
   rintro⟨h1,h2⟩;rw[h1,decide_eq_true h2] at hc;simp at hc
  rw[if_neg hc]
  have hb:(n==1)=decide (s1.e=0∧n=1):=by
   by_cases h1:s1.e=0
   ·by_cases h2:n=1
    ·rw[decide_eq_true ⟨h1,h2⟩,h2];rfl
    ·rw[decide_eq_false (fun h=>h2 h.2),beq_eq_false_iff_ne];exact h2
   ·rw[(o5 h1).1,decide_eq_false (fun h=>h1 h.1)];rfl
  dsimp only;rw[←hb];refine zQ 7 ?_;refine ag.ret ⟨rx,_,_,_,rfl,ai (rfl),?_⟩;exact⟨rfl,bD.aq bA hH⟩
theorem Jl (hbl:b.length≤1099511627776) (aT:s.at_≤b.length) (most:Int) (hH:Has N S s0 (.box k (.mem 0 false (b_ x s))::.aC x 1 (γ b)::H)):
  ∃d ah,Ev pv 76 [.ptr k 0 0,.int .i64 most] s0 d ah∧d=.str (eY b most s).1∧Has N S ah (.box k (.mem 0 false (b_ x (eY b most s).2))::.aC x 1 (γ b)::H):=by
 obtain⟨o1,o2,o3,o4,o5⟩:=dI (b:=b) (s:=s) aT
 have hu:(bJ b most s).2.at_≤b.length∧0≤(bJ b most s).1∧(bJ b most s).1<9223372036854775808:=by
  unfold bJ
  split
  ·exact⟨aT,by simp,by simp⟩
  ·exact⟨o1,o3,o4⟩
 have tS:=aw b;refine v8 rfl W0 rfl rfl rfl ?_;refine zE ?_;have bD:=hH;have hH:=hH.bf;have bA:(ae .rw s0).bs=s0.bs:=rfl;generalize ae .rw s0=S2 at*;refine zQ 16 ?_;obtain⟨_,st,aA,rfl,hH⟩:=BA hbl aT most hH;refine qv aA ?_;refine zQ 2 ?_;unfold eY;generalize bJ b most s=R at*;obtain⟨n,s1⟩:=R;dsimp only at hH hu⊢;obtain⟨u1,u2,u3⟩:=hu
 obtain⟨m,rfl⟩:∃m:Nat,n=(m:Nat):=⟨n.toNat,by omega⟩
 by_cases he:s1.e=0
 ·rw[if_neg (by simpa using he)];have de:(s1.e==0)=true:=by simpa using he
  refine zQ 14 ?_;refine qn ?_ (hR:=hH.rows bt) (hg:=wi de);refine zQ 4 ?_;refine Qae (z:=(((b.length:Nat):Int)-(s1.at_:Nat))) (aj rfl rfl rfl de) z3 z3 (by rw[wrap_i64 z0 z0]<;>omega) (aa rfl _) ?_;refine zQ 3 ?_
  by_cases hlt:((b.length:Nat):Int)-(s1.at_:Nat)<(m:Nat)
  ·rw[if_pos hlt];have hc:decide (((m:Nat):Int)>((b.length:Nat):Int)-(s1.at_:Nat))=true:=by rw[decide_eq_true_eq];omega
   refine qD rfl (by rw[hc]) ?_;refine zQ 5 ?_;refine qT hH aJ fun st hH=>?_;have hH:=zjta hH;refine zQ 6 ?_;refine qT hH aJ fun st hH=>?_;have hH:=zjta hH;refine zQ 15 ?_;refine ag.ret ⟨rx,_,_,_,rfl,ai (rfl),?_⟩;exact⟨rfl,bD.aq bA hH⟩
  ·rw[if_neg hlt];have hc:decide (((m:Nat):Int)>((b.length:Nat):Int)-(s1.at_:Nat))=false:=by rw[decide_eq_false_iff_not];omega
   refine qE rfl (by rw[hc]) ?_;refine zQ 10 ?_;refine qE rfl (by simp[he]) ?_;refine zQ 1 ?_
   have U_:∀{st:St} {e:a8} {H:List a8},Has N S2 st (e::.aC x 1 (γ b)::H)→φ st 1 (rB x s1.at_ (s1.at_+m)) (γ ((b.drop s1.at_).take m)):=fun h=>by
    have:=uJ h (l:=s1.at_) (r:=s1.at_+m) z0
    rwa [Qab,Qa0] at this
   have I_:=xV (U_ hH);refine zQ 15 ?_;refine Ω (z:=((s1.at_+m:Nat):Int)) rfl z3 z3 (by rw[wrap_i64 z0 z0]<;>omega) (aa rfl _) ?_;refine ab.prt rfl z3 (hH.rows bt) rfl rfl (nE (m:=s1.at_) (n:=s1.at_+m) (by rw[aw];omega)) ⟨by omega,by rw[aw];omega⟩ (aa rfl _) ?_;refine ω (d:=.str ((b.drop s1.at_).take m)) (st1:=_) rfl rfl (by exact I_) (aa rfl _) ?_;refine zQ 10 ?_;refine Ω (z:=((s1.at_+m:Nat):Int)) rfl z3 z3 (by rw[wrap_i64 z0 z0]<;>omega) (aa rfl _) ?_;refine zQ 2 ?_;refine qT hH aJ fun st hH=>?_;have hH:=zjta hH;refine zQ 6 ?_;refine ag.ret ⟨rx,_,_,_,rfl,ai (rfl),?_⟩;rw[he] at hH;exact⟨rfl,bD.aq bA hH⟩
 ·rw[if_pos he];have de:(s1.e==0)=false:=by simpa using he
  refine zQ 34 ?_;refine qD rfl (by simp[he]) ?_;refine zQ 4 ?_;refine ag.ret ⟨rx,_,_,_,rfl,ai (rfl),?_⟩;exact⟨rfl,bD.aq bA hH⟩
theorem Md (hbl:b.length≤1099511627776) (hH:Has N S s0 (.box k (.mem 0 false (b_ x s))::.aC x 1 (γ b)::H)):
  ∃d ah,Ev pv 37 [.ptr k 0 0] s0 d ah∧d=.int .i64 (mG b s).e∧Has N S ah (.box k (.mem 0 false (b_ x (mG b s)))::.aC x 1 (γ b)::H):=by
 have tS:=aw b;refine v8 rfl XC rfl rfl rfl ?_;refine zE ?_;have bD:=hH;have hH:=hH.bf;have bA:(ae .rw s0).bs=s0.bs:=rfl;generalize ae .rw s0=S2 at*;refine zQ 4 ?_;unfold mG
 by_cases he:s.e=0
 ·have de:(s.e==0)=true:=by simpa using he
  refine zQ 17 ?_;refine qn ?_ (hR:=hH.rows bt) (hg:=wi de);refine zQ 3 ?_;rw[tS];refine zP (fun hc=>?_) fun hc=>?_
  ·rw[if_pos ⟨he,by omega⟩];refine zQ 4 ?_;refine qT hH aJ fun st hH=>?_;have hH:=zjta hH;refine zQ 9 ?_;refine ag.ret ⟨rx,_,_,_,rfl,ai (rfl),?_⟩;exact⟨rfl,bD.aq bA hH⟩
  ·rw[if_neg z0];refine zQ 9 ?_;refine ag.ret ⟨rx,_,_,_,rfl,ai (rfl),?_⟩;exact⟨rfl,bD.aq bA hH⟩
 ·have de:(s.e==0)=false:=by simpa using he
  rw[if_neg (fun h=>he h.1)];refine zQ 31 ?_;refine ag.ret ⟨rx,_,_,_,rfl,ai (rfl),?_⟩;exact⟨rfl,bD.aq bA hH⟩
theorem Jn (hF:s0.flr≤s0.bs.length) (db:s0.ro≤s0.bs.length) (hx:φ s0 1 x (γ b)) (hl:b.length≤68719476736):
  ∃d ah,Ev pv 34 [x] s0 d ah∧∃k y,d=.ptr k 0 0∧Has s0.bs.length s0 ah [.box k (.mem 0 false (b_ y ⟨0,0⟩)),.aC y 1 (γ b)]:=by
 have tS:=aw b;refine v8 rfl XF rfl rfl rfl ?_;refine zE ?_;have aR:(ae .nw s0).bs=s0.bs:=rfl;have hF:(ae .nw s0).flr≤s0.bs.length:=hF;have hH:Has s0.bs.length (ae .nw s0) (ae .nw s0) []:=AN (π _) (π _);generalize ae .nw s0=S at*;have hx:=Ξ hx aR;refine zQ 6 ?_;refine ab.IX (s:=1) hH rfl rfl rfl rfl rfl (fun _=>(aa rfl _)) (fun k3 st tt hH=>?_);refine qm ?_;refine ab.iB (s:=1) hH rfl z3 z3 (by exact aJ) (by exact Qag z5 hH) rfl rfl rfl rfl rfl rfl rfl ⟨(ι rfl),(ι rfl)⟩ (fun _=>(aa rfl _)) rfl (by simp only[Δ]<;>omega) (by exact .inl hF) (fun x5 st hH=>?_);have hH:=zjta hH;refine ab.hU (qs:=[(0,_)]) rfl rfl rfl rfl ⟨rfl,z3,(by exact hH.eO (by exact aJ)),trivial⟩ (by intro q hq;simp only[IN,Pd,or_false] at hq;rcases hq with rfl<;>exact⟨rfl,by exact ι rfl⟩) (by show μ _ [_,_,_] _=_;dsimp only[Qaa,Qac,u2,u1]<;>rfl) (aa rfl _) ?_;refine qb hH fun k7 st Rz hH=>?_;refine zQ 2 ?_;refine ag.ret ⟨rx,_,_,_,rfl,rfl,?_⟩;exact⟨_,_,rfl,(hH.take 2).fx aR db⟩
theorem wX {f:kq} {x:Nat} {v:Int} (hx:x<10):setMany (aE f) x [.int .i64 v]=aE (wB f x v):=by
 match x,hx with
 |0,_=>rfl
 |1,_=>rfl
 |2,_=>rfl
 |3,_=>rfl
 |4,_=>rfl
 |5,_=>rfl
 |6,_=>rfl
 |7,_=>rfl
 |8,_=>rfl
 |9,_=>rfl
theorem Ia (f:kq):fp pv .neq 156 (.agg (aE f)) (.agg (aE f))=some (.bool false):=by
 have h:∀b c d e g i j k l m:Int,fp pv .neq 156 (.agg [.int .i64 b,.int .i64 c,.int .i64 d,.int .i64 e,.int .i64 g,.int .i64 i,.int .i64 j,.int .i64 k,.int .i64 l,.int .i64 m]) (.agg [.int .i64 b,.int .i64 c,.int .i64 d,.int .i64 e,.int .i64 g,.int .i64 i,.int .i64 j,.int .i64 k,.int .i64 l,.int .i64 m])=GB (fun b=>D.bool !b) (match some (b==b) with|some true=>(match some (c==c) with|some true=>(match some (d==d) with|some true=>(match some (e==e) with|some true=>(match some (g==g) with|some true=>(match some (i==i) with|some true=>(match some (j==j) with|some true=>(match some (k==k) with|some true=>(match some (l==l) with|some true=>(match some (m==m) with|some true=>some true|some false=>some false|none=>none)|some false=>some false|none=>none)|some false=>some false|none=>none)|some false=>some false|none=>none)|some false=>some false|none=>none)|some false=>some false|none=>none)|some false=>some false|none=>none)|some false=>some false|none=>none)|some false=>some false|none=>none)|some false=>some false|none=>none):=fun _ _ _ _ _ _ _ _ _ _=>rfl;unfold aE;rw[h];simp only[beq_self_eq_true,Γ,Bool.not_true]
def Nf (es:List (List D)) (L:List PL):Prop:=es.length=L.length∧∀(i:Nat) l,L[i]?=some l→∃d,fg d 11 (l.bn.map bM)∧es[i]?=some (aV l.dn l.aY d)
def zH (st:St) (es:List (List D)) (L:List PL):Prop:=es.length=L.length∧∀(i:Nat) l,L[i]?=some l→∃d,φ st 11 d (l.bn.map bM)∧es[i]?=some (aV l.dn l.aY d)
theorem Nf.any {L:List PL} (h:Nf es L) (st:St):zH st es L:=⟨h.1,fun i l hl=>by
 obtain⟨d,h1,h2⟩:=h.2 i l hl
 exact⟨d,h1.rows st,h2⟩⟩
theorem zH.ex {L:List PL} (h:zH s0 es L) (hS:S.bs=s0.bs) (hH:Has s0.bs.length S st H):zH st es L:=⟨h.1,fun i l hl=>by
 obtain⟨d,h1,h2⟩:=h.2 i l hl
 exact⟨d,(Ξ h1 hS).rows hH,h2⟩⟩
def PL.v (l:PL):VL:=⟨l.dn,l.aY,TE l.bn,l.bn⟩
open Go.V Go Go.RowKit
theorem ua (code:List aL) (pl:Nat) (e:Bool):∀(f:Nat) (w:Wk) (t:gH),dh (code.map e_) pl e f w t=dh code pl e f w t
 |0,_,_=>rfl
 |f+1,w,t=>by
  unfold dh;simp only[ua code pl e f,OF]
  cases code[t.pc]? with
  |none=>rfl
  |some i=>rfl
theorem BH (code:List aL) (pl:Nat) (e:Bool):∀(l:List gH) (w:Wk),tU (code.map e_) pl e l w=tU code pl e l w
 |[],_=>rfl
 |t::ts,w=>by
  unfold tU;simp only[ua,η,BH code pl e ts]
theorem FL (code:List aL) (k:Nat):FM (code.map e_) k=FM code k:=by
 unfold FM;rw[OF];cases code[k]?<;>rfl
theorem uW (code:List aL) (r:Int):∀(l a:List gH),ir (code.map e_) r l a=ir code r l a
 |[],_=>rfl
 |t::ts,a=>by unfold ir;simp only[FL,uW code r ts]
theorem Ck (code:List aL) (pl s:Nat) (r:Int) (l:PL):hD (code.map e_) pl s r l=hD code pl s r l:=by
 unfold hD;simp only[BH,uW,η]
theorem sH (code:List aL) (pl:Nat) (r:Int):∀(ss:List Nat) (ls:List PL),ig (code.map e_) pl r ss ls=ig code pl r ss ls
 |[],_=>rfl
 |_::_,[]=>rfl
 |s::ss,l::ls=>by simp only[ig,Ck,sH code pl r ss ls]
theorem wh.aM {q:Pg} (h:wh p q):aM q=aM p:=by unfold Go.Proofs.YtkbacjpologjbaaGreat.aM;rw[h.ak]
theorem rf {p:Pg} (hR:a7 p) {pl:Nat} {r:Int}:∀{ss:List Nat} {ls:List PL},(∀s∈ss,s<p.code.length)→∀l∈ig p.code pl r ss ls,l.ok p.code.length
 |[],_,_,l,hl=>by cases hl
 |_::_,[],_,l,hl=>by cases hl
 |s::ss,x::ls,hs,l,hl=>by
  simp only[ig,IN] at hl
  rcases hl with rfl|hl
  ·exact Hh hR (hs s (List.mem_cons_self ..))
  ·exact rf hR (fun s h=>hs s (List.mem_cons_of_mem _ h)) l hl
theorem ue (hR:a7 p):∀s∈aM p,s<p.code.length:=by
 intro s hs;obtain⟨v,hv,rfl⟩:=List.mem_map.1 hs;have:=hR.st v hv;omega
theorem Pj {x y:Oper} {fi fj:Fr} {si tJ sj Kl:St} {a:Operand} {aB off v:Nat} {ar:Bool} {c:List D} (hy:jb y.op=some a) (ha:fj.ev a=.ptr k aB off) (h1:si.bs[k]?=some (.mem v ar c)) (h2:tJ.bs[k]?=some (.mem v ar c)):jW x fi si tJ y fj sj Kl=true:=by
 unfold jW;simp only[hy,ha,D.oV];exact rb h1 h2
def gC (ks kv:Nat) (p:Pg) (pl:Nat) (ld pd qd:D) (P Q:List Nat) (L:List VL):List a8:=
 .box kv (.mem 0 false [p.cd,p.sd,.int .i64 (pl:Nat),ld,.ptr ks 0 0])::.box ks (.mem 0 false [pd,qd])::.aC pd 1 (P.map iJ)::.aC qd 2 (Q.map qY)::.aC ld 12 (L.map jl)::L.map wo
variable{A:List a8}{ks kv pl:Nat}{ld:D}
theorem A8 {L:List VL} (h:MH A N S st ks kv p pl ld L H):∃pd qd P Q sn,Has N S st (A++(gC ks kv p pl ld pd qd P Q L++H))∧dM P Q sn∧sn.length=p.code.length:=by
 obtain⟨pd,qd,P,Q,sn,hH,h1,h2⟩:=h;exact⟨pd,qd,P,Q,sn,by simpa only[gC,Qa7] using hH,h1,h2⟩
theorem Ey {L:List VL} {pd qd:D} {P Q:List Nat} {sn:List Bool} (hH:Has N S st (A++(gC ks kv p pl ld pd qd P Q L++H))) (h1:dM P Q sn) (h2:sn.length=p.code.length):MH A N S st ks kv p pl ld L H:=
 ⟨pd,qd,P,Q,sn,by simpa only[gC,Qa7] using hH,h1,h2⟩
def MM (A:List a8) (N:Nat) (S st:St) (ks kv:Nat) (p:Pg) (pl:Nat) (ld:D) (L:List VL) (EF EE:Nat) (p2:Pg) (Em:Nat) (ED:D) (L2:List VL):Prop:=
 ∃pd qd P Q sn Ks Kp P2 Q2 Nr,Has N S st (A++(gC ks kv p pl ld pd qd P Q L++gC EF EE p2 Em ED Ks Kp P2 Q2 L2))∧dM P Q sn∧sn.length=p.code.length∧dM P2 Q2 Nr∧Nr.length=p2.code.length
section
variable{A:List a8} {N:Nat} {S st:St} {ks kv EF EE:Nat} {p p2:Pg} {pl Em:Nat} {ld ED:D} {L L2:List VL}
theorem MM.one (h:MM A N S st ks kv p pl ld L EF EE p2 Em ED L2):∃H,MH [] N S st ks kv p pl ld L H∧∀(B:List a8) (ah:St) (wu:Nat) (CW:D) (L':List VL),MH B N S ah ks kv p wu CW L' H→MM (B++A) N S ah ks kv p wu CW L' EF EE p2 Em ED L2:=by
 obtain⟨pd,qd,P,Q,sn,Ks,Kp,P2,Q2,Nr,hH,h1,h2,h3,h4⟩:=h
 refine⟨gC EF EE p2 Em ED Ks Kp P2 Q2 L2++A,Ey (by
  have a:=Qad A (gC ks kv p pl ld pd qd P Q L++gC EF EE p2 Em ED Ks Kp P2 Q2 L2) (H:=[]) (by rw[χ];exact hH);rw[χ,ε] at a
  exact a) h1 h2,fun B ah wu CW L' hM=>?_⟩
 obtain⟨Kt,Kq,P',Q',Uf,hH',Sc,PY⟩:=A8 hM;refine⟨Kt,Kq,P',Q',Uf,Ks,Kp,P2,Q2,Nr,?_,Sc,PY,h3,h4⟩
 have a:=Qad (B++(gC ks kv p wu CW Kt Kq P' Q' L'++gC EF EE p2 Em ED Ks Kp P2 Q2 L2)) A (H:=[]) (by rw[χ];simpa only[ε] using hH');have b:Has N S ah (A++(B++((gC ks kv p wu CW Kt Kq P' Q' L'++gC EF EE p2 Em ED Ks Kp P2 Q2 L2)++[]))):=by simpa only[ε] using a
 have c:=Qad _ _ b;rw[χ] at c
 simpa only[ε] using c
theorem MM.drop (n:Nat) (h:MM A N S st ks kv p pl ld L EF EE p2 Em ED L2) (hn:n≤A.length):MM (A.drop n) N S st ks kv p pl ld L EF EE p2 Em ED L2:=by
 obtain⟨pd,qd,P,Q,sn,Ks,Kp,P2,Q2,Nr,hH,h1,h2,h3,h4⟩:=h;refine⟨pd,qd,P,Q,sn,Ks,Kp,P2,Q2,Nr,?_,h1,h2,h3,h4⟩;have:=hH.drop n
 rwa [List.drop_append_of_le_length hn] at this
theorem MM.has (h:MM A N S st ks kv p pl ld L EF EE p2 Em ED L2):Has N S st A:=by
 obtain⟨pd,qd,P,Q,sn,Ks,Kp,P2,Q2,Nr,hH,_⟩:=h;have:=hH.take A.length
 rwa [List.take_left] at this
theorem MM.made {pd qd:D} {P Q:List Nat} {sn:List Bool} (h:MH [] N S st ks kv p pl ld L (gC EF EE p2 Em ED pd qd P Q L2++A)) (h1:dM P Q sn) (h2:sn.length=p2.code.length):MM A N S st ks kv p pl ld L EF EE p2 Em ED L2:=by
 obtain⟨Kt,Kq,P',Q',Uf,hH,h3,h4⟩:=A8 h;refine⟨Kt,Kq,P',Q',Uf,pd,qd,P,Q,sn,?_,h3,h4,h1,h2⟩;have a:=Qad (gC ks kv p pl ld Kt Kq P' Q' L++gC EF EE p2 Em ED pd qd P Q L2) A (H:=[]) (by rw[χ];simpa only[AT,ε] using hH)
 rwa [χ] at a
end
end Go.Proofs.YtkbacjpologjbaaGreat
namespace Go.Proofs.YtkbacjpologjbaaGreat
open Go.V Go
theorem Has.over {N:Nat} {S st ah:St} {H H2:List a8} (h:Has N S st H) (h2:Has st.bs.length st ah H2):Has N S ah (H2++H):=by
 have hN:=h.hN;have hl:=h.ex.len;have oZ:=h2.ex.len;refine⟨⟨fun k hk=>?_,by omega,h2.ex.flr.trans h.ex.flr,h2.ex.ro.trans h.ex.ro⟩,hN,h.db,fun i e hi=>?_,fun i j a b hij ha hb k pO jj=>?_⟩
 ·rw[h2.ex.low k z0];exact h.ex.low k hk
 ·by_cases hlt:i<H2.length
  ·rw[ξ hlt] at hi;obtain⟨h3,h4⟩:=h2.ok i e hi;exact⟨h3,fun k hk=>⟨by have:=(h4 k hk).1;omega,(h4 k hk).2⟩⟩
  ·rw[ν z0] at hi;obtain⟨h3,h4⟩:=h.ok _ e hi;exact⟨e.loc (fun k hk=>h2.ex.low k (h4 k hk).2) h3,fun k hk=>⟨(h4 k hk).1,by have:=(h4 k hk).2;omega⟩⟩
 ·by_cases h1:i<H2.length<;>by_cases h3:j<H2.length
  ·rw[ξ h1] at ha;rw[ξ h3] at hb;exact h2.dis i j a b hij ha hb k pO jj
  ·rw[ξ h1] at ha;rw[ν z0] at hb;have:=((h2.ok _ a ha).2 k pO).1;have:=((h.ok _ b hb).2 k jj).2;omega
  ·rw[ν z0] at ha;rw[ξ h3] at hb;have:=((h2.ok _ b hb).2 k jj).1;have:=((h.ok _ a ha).2 k pO).2;omega
  ·rw[ν z0] at ha hb;exact h.dis _ _ a b z0 ha hb k pO jj
end Go.Proofs.YtkbacjpologjbaaGreat
