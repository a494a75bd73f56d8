/-
 A machine's list is expanded.
-/
import Derived.Test.YtecjacicdpejaaaGreatWGHr
import Derived.Test.YtecjacicdpejaaaGreatWGUo
import Derived.Test.YtecjacicdpejaaaGreatWGQe
import Derived.Test.YtecjacicdpejaaaGreatWGJi
import Derived.Test.YtecjacicdpejaaaGreatWM2
set_option maxRecDepth 100000
set_option maxHeartbeats 4000000
set_option linter.unusedSimpArgs false
set_option linter.unusedVariables false
set_option linter.unusedSectionVars false
open Nat renaming reduceAdd→γ,le_of_ble_eq_true→δ,le_refl→Ω,le_trans→IN
open List renaming getElem?_eq_getElem→ε,length_map→ζ,drop_succ_cons→η,take_succ_cons→θ,mem_of_getElem?→κ,drop_zero→ν,take_zero→ξ,getElem?_map→ο,map_append→π,length_nil→ρ,length_cons→ς,not_mem_nil→τ,foldl→υ,mem_map→φ,mem_cons→χ,append_assoc→ψ,take_of_length_le→ω,getElem?_set_ne→Δ,length_set→Θ,take_add_one→Ψ,cons_append→Q5,getElem?_set_self→Z5,getElem?_eq_none→Zn,count_le_length→Zt,drop_append_of_le_length→YQ,foldl_cons→Y',foldl_nil→JS,drop_eq_getElem_cons→wt,getElem?_cons_succ→xw,map_set→v8,length_replicate→Ut,drop_eq_nil_iff→VQ,getElem?_of_mem→VM,mem_cons_of_mem→VT,ext_getElem?→GB,length_take→Bv,replicate→Cf
open Go.V.D renaming cells→ι,ref→IS
open Go.V.ab renaming nil→μ,av→ZD,go→YH,cL→BY,two→Cr,c_→LL,jc→OF
open Bool renaming and_eq_true_iff→Γ
open Go.V.Has renaming jA→Ξ,start→IT
open Option renaming toList_some→Φ,map_some→Wh,some→ki
namespace Go.Proofs.YtecjacicdpejaaaGreat
open Go.V Go
def dY (fr:Go.V.Fr) (k:Nat):Go.V.D:=Go.V.nth .bI fr.loc k
structure VL where
 dn:Bool
 bf:j4
 td:D
 bn:List hU
def iR (l:VL):List D:=aX l.dn l.bf l.td
def tG (l:VL):bo:=.aF l.td 11 (l.bn.map bw)
variable{L:List VL}{i:Nat}{l:VL}{H:List bo}
theorem Kr (A:List bo) {n:Nat} (hn:A.length=n) (h:L[i]?=some l):(A++(L.map tG++H))[n+i]?=some (tG l):=by
 have hi:=bp h;rw[List.getElem?_append_right (by omega),List.getElem?_append_left (by simp;omega),hn,Nat.add_sub_cancel_left,ο,h];rfl
theorem Bd (h:L[i]?=some l):(L.map iR)[i]?=some (iR l):=by rw[ο,h];rfl
theorem Bi {l:List hU} {q:hU} (h:l[i]?=some q):(l.map bw)[i]?=some (bw q):=by rw[ο,h];rfl
variable{N:Nat}{S st:St}{x:D}
theorem xM {j:Nat} {s:Nat} {es:List (List D)} (h:Has N S st H) (hj:H[j]?=some (.aF x s es)):x.ref≤st.bs.length:=by
 rcases Nat.eq_zero_or_pos x.ref with h0|h0
 ·omega
 ·have:=h.xV hj (k:=x.ref-1) (by show x.ref=x.ref-1+1;omega);omega
def MH (A:List bo) (N:Nat) (S st:St) (ks kv:Nat) (p:Pg) (pl:Nat) (ld:D) (L:List VL) (H:List bo):Prop:=
 ∃pd qd P Q sn,Has N S st (A++(.box kv (.mem 0 false [p.cd,p.sd,.int .i64 (pl:Nat),ld,.ptr ks 0 0])::.box ks (.mem 0 false [pd,qd])::.aF pd 1 (P.map jG)::.aF qd 2 (Q.map sN)::.aF ld 12 (L.map iR)::(L.map tG++H)))∧eQ P Q sn∧sn.length=p.code.length
variable{ks kv:Nat}{p:Pg}{ld:D}
theorem MH.push (A B:List bo) {pl:Nat} (h:MH (A++B) N S st ks kv p pl ld L H):MH B N S st ks kv p pl ld L (A++H):=by
 obtain⟨pd,qd,P,Q,sn,hH,ba,ej⟩:=h;refine⟨pd,qd,P,Q,sn,?_,ba,ej⟩;have:=Ξ (H:=H) A (B++(.box kv (.mem 0 false [p.cd,p.sd,.int .i64 (pl:Nat),ld,.ptr ks 0 0])::.box ks (.mem 0 false [pd,qd])::.aF pd 1 (P.map jG)::.aF qd 2 (Q.map sN)::.aF ld 12 (L.map iR)::L.map tG)) (by simpa only[ψ,Q5] using hH)
 simpa only[ψ,Q5] using this
theorem MH.pull (A B:List bo) {pl:Nat} (h:MH B N S st ks kv p pl ld L (A++H)):MH (A++B) N S st ks kv p pl ld L H:=by
 obtain⟨pd,qd,P,Q,sn,hH,ba,ej⟩:=h;refine⟨pd,qd,P,Q,sn,?_,ba,ej⟩;have:=Ξ (H:=H) (B++(.box kv (.mem 0 false [p.cd,p.sd,.int .i64 (pl:Nat),ld,.ptr ks 0 0])::.box ks (.mem 0 false [pd,qd])::.aF pd 1 (P.map jG)::.aF qd 2 (Q.map sN)::.aF ld 12 (L.map iR)::L.map tG)) A (by simpa only[ψ,Q5] using hH)
 simpa only[ψ,Q5] using this
def vE (code:List aP) (pl:Nat) (e:Bool):List hU→Wk→Wk
 |[],w=>w
 |t::ts,w=>if(er code pl e (code.length+1) w t).2=true then(er code pl e (code.length+1) w t).1 else vE code pl e ts (er code pl e (code.length+1) w t).1
def tM (n:Nat) (dn:Bool) (bf:j4):Wk:=⟨Cf n false,dn,bf,[]⟩
theorem yz (code:List aP) (pl:Nat) (e:Bool):∀(l:List hU) (w:Wk),Good code w (vE code pl e l w)
 |[],w=>.refl
 |t::ts,w=>by
  unfold vE
  split
  ·exact eO ..
  ·exact(eO ..).trans (yz code pl e ts _)
variable{s0:St}{e:Bool}
theorem AP {pl:Nat} (hF:S.flr≤N) (hp:p.ok) (hR:bm p) (fT:pl≤4000000000000) (hl:L[i]?=some l) (Cy:∀t∈l.bn,t.pc<p.code.length) (mO:l.bn.length≤1048576) (hM:MH [] N S s0 ks kv p pl ld L H):
  ∃r ai,Ev pv 168 [.ptr kv 0 0,.int .i64 (i:Nat),.bool e] s0 r ai∧∃rd,r=.tup [.agg (aX (vE p.code pl e l.bn (tM p.code.length l.dn l.bf)).dn (vE p.code pl e l.bn (tM p.code.length l.dn l.bf)).bf .nul),rd]∧MH [.aF rd 11 ((vE p.code pl e l.bn (tM p.code.length l.dn l.bf)).rdy.map bw)] N S ai ks kv p pl ld L H:=by
 obtain⟨pd,qd,P,Q,sn,hH,ba,ej⟩:=hM;have hcl:=hR.cl;have gw:=Bd hl;have hil:=bp hl;generalize hW:vE p.code pl e l.bn (tM p.code.length l.dn l.bf)=W at*;obtain⟨dn,bf,td,bn⟩:=l;simp only at hW Cy mO;dsimp only[u4] at hH;refine Ev.eN rfl Xj rfl rfl rfl ?_;refine zE ?_;change ag _ _ _ _ s0 _;refine qq<|qj fun K hK=>qa hH fun k6 st Gj hH=>?_;refine qm ?_;refine qe hK<|qq<|qj fun K hK=>qm ?_;refine qg ?_;refine qp (o:=3) ?_;refine ql hH aO ?_;refine qm ?_;refine qi hH bT fun Rq Gf=>?_;refine ab.Bz hH rfl (ev rfl) (by assumption) (by exact bT) (by assumption) rfl (by dsimp only[Fr.put,u1,u2]<;>rfl) ?_;refine qa hH fun k8 st N' hH=>?_;refine qS hH aB fun st hH=>?_;dsimp only[u2,u1,u3,u4,setMany,u5,u6,ι,γ,aJ,bw,aX,aA,iR] at hH;refine qe hK<|qq<|qj fun K hK=>qp (o:=0) ?_;refine ql hH aB ?_;refine qp (o:=1) ?_;refine ZD (m:=10) hH rfl (ev rfl) (by exact aB) (by dsimp only[η,ν,θ,ξ,aJ,bw,aX,aA,iR]<;>rfl) rfl rfl (by dsimp only[Fr.put,u1,u2]<;>rfl) ?_;refine YH (d:=.agg (aX dn bf .nul)) (st1:=_) rfl rfl rfl (by dsimp only[Fr.put,u1,u2]<;>rfl) ?_;refine qa hH fun k9 st PB hH=>?_;refine qS hH aB fun st hH=>?_;dsimp only[u2,u1,u3,u4,setMany,u5,u6,ι,γ,aJ,bw,aX,aA,iR] at hH;refine qe hK<|qq<|qj fun K hK=>qm ?_;refine OF (qs:=[(0,_),(2,_)]) rfl rfl rfl rfl ⟨rfl,(ev rfl),(by rfl),rfl,(ev rfl),(by rfl),trivial⟩ (by intro q hq;simp only[χ,τ,or_false] at hq;rcases hq with rfl|rfl<;>exact⟨rfl,by exact δ rfl⟩) (by show υ _ [_,_,_] _=_;dsimp only[Y',JS,u2,u1]<;>rfl) (by dsimp only[Fr.put,u1,u2]<;>rfl) ?_;refine qb hH fun k27 st aaE hH=>?_;refine qm ?_;refine qe hK ?_;have cj:=hH;refine qq<|qj fun K hK=>qm ?_;refine qg ?_;refine qp (o:=4) ?_;refine ql hH bL ?_;obtain⟨_,st,ax,rfl,pd,qd,P,Q,hH,ba⟩:=vc [_,_,_,_,_] hF ba hH;dsimp only[u3,u4] at hH;refine qv ax ?_;refine qe hK ?_;clear cj;rw[ej] at ba;have hH:=Ξ [_,_,_,_] [_] hH;have hH:=Ξ [_,_,_,_,_] [_,_,_] hH;have hH:=Ξ [_,_,_] [_,_,_] hH;have hH:=Ξ [_] [_,_,_] (hH.fW 11);dsimp only[u3,u4] at hH;have ZU:=hH.rows (Kr [_,_,_,_,_,_,_,_,_,_] rfl hl);have VP:=yz p.code pl e bn (tM p.code.length dn bf);refine qq<|qq<|qj fun K hK=>qp (o:=11) ?_;refine ql hH cm ?_;refine ab.kW rfl (ev rfl) ZU rfl (by dsimp only[Fr.put,u1,u2]<;>rfl) ?_;simp only[ζ];refine qm ?_;refine qe hK<|ag.block<|ag.loop (fun mm fr st=>∃(j:Nat) (w:Wk) (rest:List hU) (rd pd qd:D) (P Q:List Nat),fr.clean=⟨37,[.ptr kv 0 0,.int .i64 (i:Nat),.bool e,dY fr 3,dY fr 4,dY fr 5,.ptr k6 0 0,.nul,.ptr k8 0 0,.ptr k9 0 0,.ptr k27 0 0,dY fr 11,dY fr 12,dY fr 13,dY fr 14,dY fr 15,dY fr 16,dY fr 17,dY fr 18,dY fr 19,dY fr 20,dY fr 21,dY fr 22,dY fr 23,dY fr 24,dY fr 25,dY fr 26,dY fr 27,dY fr 28,dY fr 29,dY fr 30,dY fr 31,dY fr 32,dY fr 33,td,.int .i64 (bn.length:Nat),.int .i64 (j:Nat)],[]⟩∧Has N S st (.box kv (.mem 0 false [p.cd,p.sd,.int .i64 (pl:Nat),ld,.ptr ks 0 0])::.box k27 (.mem 0 false [.ptr k9 0 0,rd,.bool e])::.box k9 (.mem 0 false (aX w.dn w.bf .nul))::.aF rd 11 (w.rdy.map bw)::.box ks (.mem 0 false [pd,qd])::.aF pd 1 (P.map jG)::.aF qd 2 (Q.map sN)::.box k8 (.mem 0 false (aX dn bf td))::.box k6 (.mem 0 false (aX false cG .nul))::.aF ld 12 (L.map iR)::(L.map tG++H))∧(j+mm=bn.length)∧(rest=bn.drop j)∧(vE p.code pl e rest w=W)∧(w.seen.length=p.code.length)∧(w.rdy.length+w.seen.count false≤1048576)∧(eQ P Q w.seen)) (bn.length) ?_ ?_
 ·exact⟨0,tM p.code.length dn bf,bn,.nul,_,_,_,_,rfl,hH,by omega,rfl,hW,by simp[tM],by(have:=Zt (a:=false) (l:=(tM p.code.length dn bf).seen);simp[tM] at this⊢;omega),ba⟩
 rintro mm fr st ⟨j,w,rest,rd,pd,qd,P,Q,hfr,hH,hj,rh,hex,kX,sQ,ba⟩;rw[hfr];clear hfr;generalize dY fr=ee;clear fr;refine qq<|qj fun K hK=>qg ?_;refine qe hK ?_;have ZU:=hH.rows (Kr [_,_,_,_,_,_,_,_,_,_] rfl hl);refine qq<|zP (fun hlt=>?_) fun hlt=>?_
 ·refine ag.skip ?_;have oH:j<bn.length:=by omega
  obtain⟨t,ht⟩:∃t,bn[j]?=some t:=⟨bn[j]'oH,ε _⟩
  have U3:=Bi ht;have ZH:=Cy t (κ ht)
  have vP:rest=t::bn.drop (j+1):=by
   rw[rh,wt oH]
   congr 1
   exact ki.inj ((ε _).symm.trans ht)
  have JB:=Zt (a:=false) (l:=w.seen);have hgo:=eO p.code pl e (p.code.length+1) w t;rw[vP] at hex;have hex:(if(er p.code pl e (p.code.length+1) w t).2=true then(er p.code pl e (p.code.length+1) w t).1 else vE p.code pl e (bn.drop (j+1)) (er p.code pl e (p.code.length+1) w t).1)=W:=hex;refine qq<|ag.block<|qq<|qj fun K hK=>ab.re rfl (ev rfl) (ev rfl) ZU rfl rfl U3 (fun _=>(aa rfl _)) (fun p38 aaj=>?_);refine qR ?_;refine qa hH fun k12 st VH hH=>?_;dsimp only[u2,u1,u3,u4,setMany,u5,u6,ι,γ,aJ,bw,aX,aA,iR] at hH;refine qS hH aB fun st hH=>?_;dsimp only[u2,u1,u3,u4,setMany,u5,u6,ι,γ,aJ,bw,aX,aA,iR] at hH;refine qe hK<|qq<|qj fun K hK=>qm ?_;refine qm ?_;refine ZD (m:=11) hH rfl (ev rfl) (by exact aB) (by dsimp only[η,ν,θ,ξ,aJ,bw,aX,aA,iR]<;>rfl) rfl rfl (aa rfl _) ?_;have hH:=hH.drop 1;obtain⟨_,st,ax,rfl,hT⟩:=Qu (ks:=ks) (kv:=kv) (kw:=k27) (kl:=k9) (S:=S) (H:=H) (ld:=ld) (e:=e) hF hp hR fT (p.code.length+1) w t _ _ ZH kX (by omega) sQ ⟨rd,pd,qd,P,Q,hH,ba⟩;refine qv ax ?_;refine qe hK ?_;generalize er p.code pl e (p.code.length+1) w t=R1 at*;obtain⟨w1,b1⟩:=R1;obtain⟨mY,br,bZ,iN⟩:=hgo;simp only at mY br bZ iN hT hex;obtain⟨rd,pd,qd,P,Q,hH,ba⟩:=hT;have L5:w1.seen.length=p.code.length:=mY.trans kX
  cases b1 with
  |true=>
   rw[if_pos rfl] at hex;subst hex;refine qB ?_;refine ag.exit ?_;have hH:=Ξ [_,_,_,_,_,_,_] [_,_] hH;dsimp only[u3,u4] at hH;have za:=hH;have U8:=xM hH bT;have U7:=hH.xV bL (k:=k9) rfl;change ag _ _ _ _ _ _;refine qq ?_;generalize hK:aZ _ _ _ _=K;refine ag.uc rfl ?_;refine bP.cons ?_;refine ZD (m:=12) hH rfl (ev rfl) (by exact bL) (by dsimp only[η,ν,θ,ξ,aJ,bw,aX,aA,iR]<;>rfl) rfl rfl (aa rfl _) ?_;refine μ ⟨rfl,?_⟩;refine bP.cons ?_;refine qm ?_;refine μ ⟨rfl,?_⟩;refine bP.cons ?_;refine qg ?_;refine μ ⟨rfl,?_⟩;refine bP.cons ?_;refine qp (o:=1) ?_;refine μ ⟨rfl,?_⟩;refine bP.cons ?_;refine ql hH bh ?_;refine μ ⟨rfl,?_⟩;refine bP.cons ?_;refine qS hH aO fun st hH=>?_;dsimp only[u2,u1,u3,u4,setMany,u5,u6,ι,γ,aJ,bw,aX,aA,iR] at hH;refine μ ⟨by exact Γ.2 ⟨jy rfl rfl rfl (za.at bh) (hH.at bh) (za.at bh) (by simp only[refs,IS];omega),rfl⟩,?_⟩;refine bP.cons ?_;refine qm ?_;refine μ ⟨rfl,?_⟩;refine bP.nil ?_;subst hK;refine ag.ret ⟨rx,_,_,_,hH.fm rfl aO rfl rfl,rfl,rd,rfl,pd,qd,P,Q,_,?_,ba,L5⟩;exact((Ξ [_,_,_] [_] (hH.drop 2)).erase 2).erase 2
  |false=>
   rw[if_neg (by decide)] at hex;refine qC ?_;refine ag.skip<|qj fun K hK=>qA ?_;refine qm ?_;refine qe hK ?_;exact⟨mm-1,by omega,⟨j+1,w1,bn.drop (j+1),rd,pd,qd,P,Q,rfl,hH,by omega,rfl,hex,L5,by omega,ba⟩⟩
 ·refine ag.exit ?_;have Mk:rest=[]:=by rw[rh,VQ];omega
  subst Mk;have hex:w=W:=hex;subst hex;have hH:=Ξ [_,_,_,_,_,_,_] [_,_] hH;dsimp only[u3,u4] at hH;have za:=hH;have U8:=xM hH bT;have U7:=hH.xV bL (k:=k9) rfl;change ag _ _ _ _ _ _;refine qq ?_;generalize hK:aZ _ _ _ _=K;refine ag.uc rfl ?_;refine bP.cons ?_;refine ZD (m:=12) hH rfl (ev rfl) (by exact bL) (by dsimp only[η,ν,θ,ξ,aJ,bw,aX,aA,iR]<;>rfl) rfl rfl (aa rfl _) ?_;refine μ ⟨rfl,?_⟩;refine bP.cons ?_;refine qm ?_;refine μ ⟨rfl,?_⟩;refine bP.cons ?_;refine qg ?_;refine μ ⟨rfl,?_⟩;refine bP.cons ?_;refine qp (o:=1) ?_;refine μ ⟨rfl,?_⟩;refine bP.cons ?_;refine ql hH bh ?_;refine μ ⟨rfl,?_⟩;refine bP.cons ?_;refine qS hH aO fun st hH=>?_;dsimp only[u2,u1,u3,u4,setMany,u5,u6,ι,γ,aJ,bw,aX,aA,iR] at hH;refine μ ⟨by exact Γ.2 ⟨jy rfl rfl rfl (za.at bh) (hH.at bh) (za.at bh) (by simp only[refs,IS];omega),rfl⟩,?_⟩;refine bP.cons ?_;refine qm ?_;refine μ ⟨rfl,?_⟩;refine bP.nil ?_;subst hK;refine ag.ret ⟨rx,_,_,_,hH.fm rfl aO rfl rfl,rfl,rd,rfl,pd,qd,P,Q,_,?_,ba,kX⟩;exact((Ξ [_,_,_] [_] (hH.drop 2)).erase 2).erase 2
def cE (fr:Go.V.Fr) (k:Nat):Go.V.D:=Go.V.nth .bI fr.loc k
def mQ (l:List hU) (k:Nat):Bool:=l.any fun x=>x.pc==k
def uX (l:List hU) (t:hU):List hU:=if mQ l t.pc=true then l else l++[t]
def I2 (code:List aP) (pc:Nat):List Rg:=match code[pc]? with
 |some i=>i.rs
 |none=>[]
def jH (code:List aP) (r:Int):List hU→List hU→List hU
 |[],a=>a
 |t::ts,a=>jH code r ts (if lE (I2 code t.pc) r=true then uX a ⟨t.pc+1,t.c⟩ else a)
structure PL where
 dn:Bool
 bf:j4
 bn:List hU
def ju (code:List aP) (pl start:Nat) (r:Int) (l:PL):PL:=
 ⟨(vE code pl false l.bn (tM code.length l.dn l.bf)).dn,(vE code pl false l.bn (tM code.length l.dn l.bf)).bf,
  if(vE code pl false l.bn (tM code.length l.dn l.bf)).dn=true then jH code r (vE code pl false l.bn (tM code.length l.dn l.bf)).rdy []
  else uX (jH code r (vE code pl false l.bn (tM code.length l.dn l.bf)).rdy []) ⟨start,bK⟩⟩
theorem Gt (l:List hU) (t:hU) (k:Nat):mQ (l++[t]) k=(mQ l k||t.pc==k):=by
 unfold mQ;rw[List.any_append];simp
theorem EY (l:List hU) (t:hU):(uX l t).length≤l.length+1:=by
 unfold uX;split
 ·omega
 ·simp
variable{t:hU}
theorem yY {l:List hU} {x:hU} (h:x∈uX l t):x∈l∨x=t:=by
 unfold uX at h;split at h
 ·exact .inl h
 ·rcases List.mem_append.1 h with h|h
  ·exact .inl h
  ·exact .inr (by simpa using h)
theorem xE {code:List aP} {r:Int}:∀(l a:List hU),(jH code r l a).length≤l.length+a.length∧∀x∈jH code r l a,x∈a∨∃t∈l,x.pc=t.pc+1
 |[],a=>⟨by simp[jH],fun x h=>.inl h⟩
 |t::ts,a=>by
  unfold jH
  split
  ·obtain⟨h1,h2⟩:=xE (code:=code) (r:=r) ts (uX a ⟨t.pc+1,t.c⟩);have:=EY a ⟨t.pc+1,t.c⟩;refine⟨by simp only[ς];omega,fun x hx=>?_⟩
   rcases h2 x hx with h|⟨y,hy,he⟩
   ·rcases yY h with h|h
    ·exact .inl h
    ·exact .inr ⟨t,List.mem_cons_self ..,by rw[h]⟩
   ·exact .inr ⟨y,VT _ hy,he⟩
  ·obtain⟨h1,h2⟩:=xE (code:=code) (r:=r) ts a;refine⟨by simp only[ς];omega,fun x hx=>?_⟩
   rcases h2 x hx with h|⟨y,hy,he⟩
   ·exact .inl h
   ·exact .inr ⟨y,VT _ hy,he⟩
def PL.ok (n:Nat) (l:PL):Prop:=(∀t∈l.bn,t.pc<n)∧l.bn.length≤1000
variable{dn:Bool}
theorem zy {code:List aP} {pl:Nat} {l:List hU} {bf:j4}:(vE code pl e l (tM code.length dn bf)).rdy.length≤code.length∧∀t∈(vE code pl e l (tM code.length dn bf)).rdy,∃i,code[t.pc]?=some i∧i.op=1:=by
 obtain⟨_,_,h3,h4⟩:=yz code pl e l (tM code.length dn bf);have:=Zt (a:=false) (l:=(tM code.length dn bf).seen);simp only[tM,Ut,ρ] at h3 this;refine⟨by simp only[tM];omega,fun t ht=>?_⟩
 rcases h4 t ht with h|h
 ·simp[tM] at h
 ·exact h
theorem Dk (hR:bm p) (h:∃i,p.code[t.pc]?=some i∧i.op=1):t.pc+1<p.code.length:=by
 obtain⟨i,hi,h1⟩:=h;have:=sm (hR.sh t.pc i hi);omega
variable{start:Nat}{r:Int}
theorem KF (hR:bm p) {pl:Nat} {l:PL} (hs:start<p.code.length):(ju p.code pl start r l).ok p.code.length:=by
 obtain⟨h1,h2⟩:=zy (code:=p.code) (pl:=pl) (e:=false) (l:=l.bn) (dn:=l.dn) (bf:=l.bf);have hcl:=hR.cl;unfold ju PL.ok;generalize vE p.code pl false l.bn (tM p.code.length l.dn l.bf)=w at*;obtain⟨h3,h4⟩:=xE (code:=p.code) (r:=r) w.rdy []
 have h5:∀x∈jH p.code r w.rdy [],x.pc<p.code.length:=fun x hx=>by
  rcases h4 x hx with h|⟨t,ht,he⟩
  ·cases h
  ·have:=Dk hR (h2 t ht);omega
 simp only[ρ] at h3;simp only
 split
 ·exact⟨h5,by omega⟩
 ·refine⟨fun x hx=>?_,?_⟩
  ·rcases yY hx with h|h
   ·exact h5 x h
   ·rw[h];exact hs
  ·have:=EY (jH p.code r w.rdy []) ⟨start,bK⟩;omega
theorem KE (dE:∀st,Ev pv 149 [] st (.agg (aA bK)) st) {pl:Nat} (hF:S.flr≤N) (hp:p.ok) (hR:bm p) (fT:pl≤4000000000000) (hl:L[i]?=some l) (QJ:p.ak[i]?=some ((start:Nat):Int)) (Cy:(⟨l.dn,l.bf,l.bn⟩:PL).ok p.code.length) (hM:MH [] N S s0 ks kv p pl ld L H):
  ∃d ai,Ev pv 202 [.ptr kv 0 0,.int .i64 (i:Nat),.int .i32 r] s0 d ai∧∃td,d=.agg (aX (ju p.code pl start r ⟨l.dn,l.bf,l.bn⟩).dn (ju p.code pl start r ⟨l.dn,l.bf,l.bn⟩).bf td)∧MH [.aF td 11 ((ju p.code pl start r ⟨l.dn,l.bf,l.bn⟩).bn.map bw)] N S ai ks kv p pl ld L H:=by
 have hcl:=hR.cl;have hc:=hp.c.arg N S;have hs:=hp.s.arg N S;have hlen:=hp.cl;have RS:start<p.code.length:=by have:=(hR.st _ (κ QJ)).2;omega
 have hr0:=fJ QJ;obtain⟨UU,ZJ⟩:=Cy;simp only at UU ZJ;obtain⟨hb1,hb2⟩:=zy (code:=p.code) (pl:=pl) (e:=false) (l:=l.bn) (dn:=l.dn) (bf:=l.bf);obtain⟨pd,qd,P,Q,sn,hH,ba,ej⟩:=hM;dsimp only[u4] at hH;unfold ju;simp only;refine Ev.eN rfl W5 rfl rfl rfl ?_;refine zE ?_;change ag _ _ _ _ s0 _;refine zQ 2 ?_;refine qa hH fun k6 st Gj hH=>?_;refine zQ 1 ?_;obtain⟨_,st1,ax,rd,rfl,hM⟩:=AP (e:=false) hF hp hR fT hl UU (by omega) (MH.push [_] [] ⟨pd,qd,P,Q,sn,hH,ba,ej⟩);clear ba ej;have hM:=MH.pull [_] [_] hM;generalize vE p.code pl false l.bn (tM p.code.length l.dn l.bf)=W at*;obtain⟨pd,qd,P,Q,sn,S5,ba,ej⟩:=hM;dsimp only[u3,u4] at S5;refine zQ 4 ?_;have hH:=S5;refine qv ax ?_;refine zQ 3 ?_;refine qa hH fun k7 st SB hH=>?_;refine qS hH aB fun st hH=>?_;dsimp only[u2,u1,u3,u4,setMany,u5,u6,ι,γ,aJ,bw,aX,aA,iR] at hH;refine zQ 2 ?_;clear S5;refine zQ 6 ?_;obtain⟨_,st,ax,rfl,pd,qd,P,Q,hH,ba⟩:=vc [_,_,_,_] hF ba hH;dsimp only[u3,u4] at hH;refine qv ax ?_;refine zQ 1 ?_;rw[ej] at ba;refine zQ 4 ?_;refine qn ?_ (hR:=hH.rows a_);simp only[ζ];refine zQ 2 ?_;have hH:=Ξ [_] [_] (hH.fW 11);dsimp only[u3,u4] at hH
 obtain⟨A,hA⟩:∃A,jH p.code r W.rdy []=A:=⟨_,rfl⟩
 rw[hA];refine zQ 1 ?_;refine ag.loop (fun mm fr st=>∃(j:Nat) (acc rest:List hU) (td pd qd:D) (P Q:List Nat) (sn:List Bool),fr.clean=⟨25,[.ptr kv 0 0,.int .i64 (i:Nat),.int .i32 r,cE fr 3,cE fr 4,cE fr 5,.ptr k6 0 0,.ptr k7 0 0,rd,cE fr 9,cE fr 10,cE fr 11,cE fr 12,cE fr 13,cE fr 14,cE fr 15,cE fr 16,cE fr 17,cE fr 18,cE fr 19,cE fr 20,cE fr 21,rd,.int .i64 (W.rdy.length:Nat),.int .i64 (j:Nat)],[]⟩∧Has N S st (.box k7 (.mem 0 false (aX W.dn W.bf td))::.aF td 11 (acc.map bw)::.box k6 (.mem 0 false (aX false cG .nul))::.aF rd 11 (W.rdy.map bw)::.box kv (.mem 0 false [p.cd,p.sd,.int .i64 (pl:Nat),ld,.ptr ks 0 0])::.box ks (.mem 0 false [pd,qd])::.aF pd 1 (P.map jG)::.aF qd 2 (Q.map sN)::.aF ld 12 (L.map iR)::(L.map tG++H))∧(j+mm=W.rdy.length)∧(rest=W.rdy.drop j)∧(jH p.code r rest acc=A)∧(acc.length≤j)∧(eQ P Q sn)∧(sn.length=p.code.length)∧(∀k,k<p.code.length→sn[k]?=some (mQ acc k))) (W.rdy.length) ?_ ?_
 ·refine⟨0,[],W.rdy,.nul,_,_,_,_,_,rfl,hH,by omega,rfl,hA,by simp,ba,by simp,(fun k hk=>by rw[List.getElem?_replicate,if_pos hk];rfl)⟩
 rintro mm fr st ⟨j,acc,rest,td,pd,qd,P,Q,sn,hfr,hH,hj,rh,hex,hal,ba,ej,sP⟩;rw[hfr];clear hfr;generalize cE fr=ee;clear fr;refine zQ 5 ?_;refine zP (fun hlt=>?_) fun hlt=>?_
 ·refine zQ 1 ?_;have oH:j<W.rdy.length:=by omega
  obtain⟨t,ht⟩:∃t,W.rdy[j]?=some t:=⟨W.rdy[j]'oH,ε _⟩
  have U3:=Bi ht;obtain⟨ii,hii,SJ⟩:=hb2 t (κ ht);have RP:=Dk hR ⟨ii,hii,SJ⟩;have nB:=gM hii;have PD:=hp.i ii (κ hii);have R8:=PD.1;have R9:=R8.arg N S;have acS:=PD.2
  have vP:rest=t::W.rdy.drop (j+1):=by
   rw[rh,wt oH]
   congr 1
   exact ki.inj ((ε _).symm.trans ht)
  rw[vP] at hex;have ZV:I2 p.code t.pc=ii.rs:=by unfold I2;rw[hii]
  unfold jH at hex;rw[ZV] at hex;have Z_:mQ acc (t.pc+1)=mQ acc (t.pc+1):=rfl;generalize hbq:mQ acc (t.pc+1)=bq at Z_;have Pj:=sP (t.pc+1) RP;rw[hbq] at Pj;refine zQ 4 ?_;refine qi hH bh fun p26 Vm=>?_;refine ab.Bz hH rfl (ev rfl) (by assumption) (by exact bh) (by assumption) rfl (aa rfl _) ?_;refine qa hH fun k10 st VI hH=>?_;dsimp only[u2,u1,u3,u4,setMany,u5,u6,ι,γ,aJ,bw,aX,aA,iR] at hH;refine qS hH aB fun st hH=>?_;dsimp only[u2,u1,u3,u4,setMany,u5,u6,ι,γ,aJ,bw,aX,aA,iR] at hH;refine zQ 1 ?_
  cases eV:lE ii.rs r with
  |false=>
   rw[eV,if_neg (by decide)] at hex;refine zQ 9 ?_;refine qr fun Ug Me=>?_;refine qf (fo:=3) fun Yq Pq=>?_;refine zQ 2 ?_;refine qv (MJ (R9.rows hH) (by omega)) ?_;refine zQ 17 ?_;exact⟨mm-1,by omega,⟨j+1,acc,W.rdy.drop (j+1),td,pd,qd,P,Q,sn,rfl,(hH.drop 1),by omega,rfl,hex,by omega,ba,ej,sP⟩⟩
  |true=>
   rw[eV,if_pos rfl] at hex;have hex:jH p.code r (W.rdy.drop (j+1)) (if mQ acc (t.pc+1)=true then acc else acc++[⟨t.pc+1,t.c⟩])=A:=hex;rw[hbq] at hex;have mO:t.pc+1<sn.length:=by omega
   refine zQ 9 ?_;refine qr fun Ug Me=>?_;refine qf (fo:=3) fun Yq Pq=>?_;refine zQ 2 ?_;refine qv (MJ (R9.rows hH) (by omega)) ?_;refine zQ 8 ?_;obtain⟨_,st,ax,rfl,pd,qd,P,Q,hH,ba⟩:=tV [_,_,_,_,_,_] hF Pj ba hH;dsimp only[u3,u4] at hH;refine qv ax ?_ (hg:=wi eV);refine zQ 2 ?_
   cases bq with
   |true=>
    rw[if_pos rfl] at hex;refine zQ 6 ?_;refine⟨mm-1,by omega,⟨j+1,acc,W.rdy.drop (j+1),td,pd,qd,P,Q,sn.set (t.pc+1) true,rfl,(hH.drop 1),by omega,rfl,hex,by omega,ba,by rw[Θ];exact ej,?_⟩⟩;intro k hk
    by_cases hkk:k=t.pc+1
    ·subst hkk;rw[Z5 mO,hbq]
    ·rw[Δ (fun e=>hkk e.symm)];exact sP k hk
   |false=>
    rw[if_neg (by decide)] at hex;refine zQ 7 ?_;refine qT hH aB fun st hH=>?_;dsimp only[u2,u1,u3,u4,setMany,u5,u6,ι,γ,aJ,bw,aX,aA,iR] at hH;refine zQ 4 ?_;refine ZD (m:=11) hH rfl (ev rfl) (by exact aB) (by dsimp only[η,ν,θ,ξ,aJ,bw,aX,aA,iR]<;>rfl) rfl rfl (aa rfl _) ?_;refine qh (s:=11) (vs:=[_]) hH fun k57 st ads hH=>?_;refine BY (s:=11) hH rfl (ev rfl) (ev rfl) (by exact bh) (by exact hH.rows (by exact aB)) rfl rfl rfl rfl rfl rfl rfl ⟨(δ rfl),(δ rfl)⟩ (fun _=>(aa rfl _)) (by simp only[ς,ρ,ζ]<;>omega) (by exact .inl hF) (fun x58 st hH=>?_);dsimp only[u2,u1,u3,u4,setMany,u5,u6,ι,γ,aJ,bw,aX,aA,iR] at hH;refine zQ 1 ?_;refine qT hH a_ (fun st hH=>?_) (kZ:=hH.cX bh);dsimp only[u2,u1,u3,u4,setMany,u5,u6,ι,γ,aJ,bw,aX,aA,iR] at hH;refine zQ 5 ?_;refine⟨mm-1,by omega,⟨j+1,acc++[⟨t.pc+1,t.c⟩],W.rdy.drop (j+1),x58,pd,qd,P,Q,sn.set (t.pc+1) true,rfl,(by rw[π];exact hH.drop 2),by omega,rfl,hex,by simp;omega,ba,by rw[Θ];exact ej,?_⟩⟩;intro k hk;rw[Gt]
    by_cases hkk:k=t.pc+1
    ·subst hkk;rw[Z5 mO];simp
    ·rw[Δ (fun e=>hkk e.symm),sP k hk];have:(t.pc+1==k)=false:=by rw[beq_eq_false_iff_ne];omega
     simp only[this,Bool.or_false]
 ·refine zQ 1 ?_;have Mk:rest=[]:=by rw[rh,VQ];omega
  subst Mk;have hex:acc=A:=hex;subst hex;clear hA rh;have Pj:=sP start RS;refine zQ 2 ?_;refine ag.jI (fun fr st=>∃(bn:List hU) (td pd qd:D) (P Q:List Nat) (sn:List Bool) (tmp:List (Nat×D)),fr=⟨25,[cE fr 0,cE fr 1,cE fr 2,cE fr 3,cE fr 4,cE fr 5,.ptr k6 0 0,.ptr k7 0 0,cE fr 8,cE fr 9,cE fr 10,cE fr 11,cE fr 12,cE fr 13,cE fr 14,cE fr 15,cE fr 16,cE fr 17,cE fr 18,cE fr 19,cE fr 20,cE fr 21,cE fr 22,cE fr 23,cE fr 24],tmp⟩∧Has N S st (.box k7 (.mem 0 false (aX W.dn W.bf td))::.aF td 11 (bn.map bw)::.box k6 (.mem 0 false (aX false cG .nul))::.aF rd 11 (W.rdy.map bw)::.box kv (.mem 0 false [p.cd,p.sd,.int .i64 (pl:Nat),ld,.ptr ks 0 0])::.box ks (.mem 0 false [pd,qd])::.aF pd 1 (P.map jG)::.aF qd 2 (Q.map sN)::.aF ld 12 (L.map iR)::(L.map tG++H))∧(bn=(if W.dn=true then acc else uX acc ⟨start,bK⟩))∧(eQ P Q sn)∧(sn.length=p.code.length)) ?_ ?_
  ·cases hdn:W.dn with
   |true=>
    rw[hdn] at hH;have bZ:(!true)=false:=rfl;refine zQ 22 ?_;exact⟨acc,td,pd,qd,P,Q,sn,_,rfl,hH,rfl,ba,ej⟩
   |false=>
    rw[hdn] at hH;have bZ:(!false)=true:=rfl;refine zQ 15 ?_;refine qr (fun p75 ac4=>?_) (hg:=wi bZ);refine zQ 1 ?_;obtain⟨_,st,ax,rfl,pd,qd,P,Q,hH,ba⟩:=tV [_,_,_,_,_] hF Pj ba hH;dsimp only[u3,u4] at hH;refine qv ax ?_ (hg:=wi bZ);refine zQ 2 ?_
    by_cases Cz:mQ acc start=true
    ·refine qE rfl (by rw[Cz];rfl) ?_;refine zQ 1 ?_;exact⟨acc,td,pd,qd,P,Q,sn.set start true,_,rfl,hH,by unfold uX;rw[if_neg (by decide),if_pos Cz],ba,by rw[Θ];exact ej⟩
    ·refine qD rfl (by rw[Bool.eq_false_iff.2 Cz];rfl) ?_;refine zQ 9 ?_;refine qr fun p87 aab=>?_;refine qR ?_;refine qv (dE _) ?_;refine YH (d:=.agg (bw ⟨start,bK⟩)) (st1:=_) rfl rfl rfl (aa rfl _) ?_;refine qh (s:=11) (vs:=[_]) hH fun k91 st adi hH=>?_;dsimp only[u2,u1,u3,u4,setMany,u5,u6,ι,γ,aJ,bw,aX,aA,iR] at hH;refine BY (s:=11) hH rfl (ev rfl) (ev rfl) (by exact a_) (by exact hH.rows (by exact aB)) rfl rfl rfl rfl rfl rfl rfl ⟨(δ rfl),(δ rfl)⟩ (fun _=>(aa rfl _)) (by simp only[ς,ρ,ζ]<;>omega) (by exact .inl hF) (fun x92 st hH=>?_);dsimp only[u2,u1,u3,u4,setMany,u5,u6,ι,γ,aJ,bw,aX,aA,iR] at hH;refine zQ 1 ?_;refine qT hH aO (fun st hH=>?_) (kZ:=hH.cX a_);dsimp only[u2,u1,u3,u4,setMany,u5,u6,ι,γ,aJ,bw,aX,aA,iR] at hH;refine zQ 1 ?_;exact⟨acc++[⟨start,bK⟩],x92,pd,qd,P,Q,sn.set start true,_,rfl,(by rw[π];exact hH.drop 1),by unfold uX;rw[if_neg (by decide),if_neg Cz],ba,by rw[Θ];exact ej⟩
  ·rintro fr st ⟨bn,td,pd,qd,P,Q,sn,tmp,hfr,hH,LY,ba,ej⟩;rw[hfr];clear hfr;generalize cE fr=ee;clear fr;refine zQ 2 ?_;refine ZD (m:=12) hH rfl (ev rfl) (by exact aB) (by dsimp only[η,ν,θ,ξ,aJ,bw,aX,aA,iR]<;>rfl) rfl rfl (aa rfl _) ?_;refine qS hH a_ fun st hH=>?_;dsimp only[u2,u1,u3,u4,setMany,u5,u6,ι,γ,aJ,bw,aX,aA,iR] at hH;refine zQ 1 ?_;refine ag.ret ⟨rx,_,_,_,hH.kD rfl a_ rfl,rfl,td,rfl,pd,qd,P,Q,sn,?_,ba,ej⟩;rw[←LY];exact((hH.drop 1).erase 1).erase 1
def gj (fr:Go.V.Fr) (k:Nat):Go.V.D:=Go.V.nth .bI fr.loc k
def VL.pl (l:VL):PL:=⟨l.dn,l.bf,l.bn⟩
def aG (p:Pg):List Nat:=p.ak.map Int.toNat
def jE (code:List aP) (pl:Nat) (r:Int):List Nat→List PL→List PL
 |s::ss,l::ls=>ju code pl s r l::jE code pl r ss ls
 |_,_=>[]
def mS (n:Int):Nat:=(min (max n 0) 4).toNat
theorem uR (n:Int):mS n≤4:=by unfold mS;omega
theorem lS (code:List aP) (pl:Nat) (r:Int):∀(ss:List Nat) (ls:List PL),ss.length=ls.length→(jE code pl r ss ls).length=ls.length
 |[],[],_=>rfl
 |s::ss,l::ls,h=>by simp only[jE,ς];rw[lS code pl r ss ls (by simpa using h)]
theorem rC (code:List aP) (pl:Nat) (r:Int):∀(ss:List Nat) (ls:List PL) (i:Nat) (s:Nat) (l:PL),ss[i]?=some s→ls[i]?=some l→(jE code pl r ss ls)[i]?=some (ju code pl s r l)
 |[],_,_,_,_,h,_=>by simp at h
 |_::_,[],_,_,_,_,h=>by simp at h
 |s::ss,l::ls,0,_,_,h1,h2=>by simp only[List.getElem?_cons_zero,ki.injEq] at h1 h2;subst h1;subst h2;rfl
 |s::ss,l::ls,i+1,_,_,h1,h2=>by simp only[xw] at h1 h2;simp only[jE,xw];exact rC code pl r ss ls i _ _ h1 h2
theorem MH.mono {A:List bo} {pl:Nat} (n:Nat) (h:MH A N S st ks kv p pl ld L H):MH (A.drop n) N S st ks kv p pl ld L H:=by
 obtain⟨pd,qd,P,Q,sn,hH,ba,ej⟩:=h;refine⟨pd,qd,P,Q,sn,?_,ba,ej⟩
 rcases Nat.le_total n A.length with hn|hn
 ·have:=hH.drop n
  rwa [YQ hn] at this
 ·have:=hH.drop A.length;rw[YQ (Ω _),List.drop_length] at this;rw[List.drop_eq_nil_of_le hn];exact this
theorem Oh (L:List VL) (i:Nat) (l:VL):(L.set i l).map tG=(L.map tG).set i (tG l):=v8 ..
theorem MH.OG {pl:Nat} {pd qd:D} {P Q:List Nat} (hi:i<L.length) (h:Has N S st (.aF l.td 11 (l.bn.map bw)::.box kv (.mem 0 false [p.cd,p.sd,.int .i64 (pl:Nat),ld,.ptr ks 0 0])::.box ks (.mem 0 false [pd,qd])::.aF pd 1 (P.map jG)::.aF qd 2 (Q.map sN)::.aF ld 12 ((L.map iR).set i (iR l))::(L.map tG++H))):
  Has N S st (.box kv (.mem 0 false [p.cd,p.sd,.int .i64 (pl:Nat),ld,.ptr ks 0 0])::.box ks (.mem 0 false [pd,qd])::.aF pd 1 (P.map jG)::.aF qd 2 (Q.map sN)::.aF ld 12 ((L.set i l).map iR)::((L.set i l).map tG++H)):=by
 have h1:=h.fV (j:=5+i) (by simp;omega);rw[v8,Oh]
 have h2:∀(a b c d e:bo),(a::b::c::d::e::(L.map tG++H)).set (5+i) (.aF l.td 11 (l.bn.map bw))=a::b::c::d::e::((L.map tG).set i (tG l)++H):=by
  intro a b c d e;rw[Nat.add_comm 5 i];simp only[List.set_cons_succ];rw[List.set_append_left _ _ (by simpa using hi)];rfl
 rw[h2] at h1;exact h1
theorem Qp (dE:∀st,Ev pv 149 [] st (.agg (aA bK)) st) {pl:Nat} {n:Int} (hF:S.flr≤N) (hp:p.ok) (hR:bm p) (fT:pl≤3000000000000) (zq:L.length=p.ak.length) (ba:∀l∈L,l.pl.ok p.code.length) (hM:MH [] N S s0 ks kv p pl ld L H):
  ∃d ai,Ev pv 167 [.ptr kv 0 0,.int .i32 r,.int .i64 n] s0 d ai∧d=.tup []∧∃L',L'.map VL.pl=jE p.code pl r (aG p) (L.map VL.pl)∧MH [] N S ai ks kv p (pl+mS n) ld L' H:=by
 have RY:=hR.sl;refine Ev.eN rfl Xk rfl rfl rfl ?_;refine zE ?_;change ag _ _ _ _ s0 _;obtain⟨pd,qd,P,Q,sn,hH,jj,ej⟩:=hM;dsimp only[u4] at hH;refine qq<|qq<|qj fun K hK=>qm ?_;refine qg ?_;refine qp (o:=3) ?_;refine ql hH aB ?_;refine qn ?_ (hR:=hH.rows bL);simp only[ζ];refine qm ?_;refine qe hK<|ag.block<|ag.loop (fun mm fr st=>∃(i:Nat) (L2:List VL) (pd qd:D) (P Q:List Nat) (sn:List Bool),fr.clean=⟨13,[.ptr kv 0 0,.int .i32 r,.int .i64 n,gj fr 3,gj fr 4,gj fr 5,gj fr 6,gj fr 7,gj fr 8,gj fr 9,gj fr 10,.int .i64 (L.length:Nat),.int .i64 (i:Nat)],[]⟩∧Has N S st (.box kv (.mem 0 false [p.cd,p.sd,.int .i64 (pl:Nat),ld,.ptr ks 0 0])::.box ks (.mem 0 false [pd,qd])::.aF pd 1 (P.map jG)::.aF qd 2 (Q.map sN)::.aF ld 12 (L2.map iR)::(L2.map tG++H))∧(i+mm=L.length)∧(L2.length=L.length)∧(∀j l s,j<i→L[j]?=some l→p.ak[j]?=some s→(L2.map VL.pl)[j]?=some (ju p.code pl s.toNat r l.pl))∧(∀j,i≤j→L2[j]?=L[j]?)∧(eQ P Q sn)∧(sn.length=p.code.length)) (L.length) ?_ ?_
 ·exact⟨0,L,_,_,_,_,_,rfl,hH,by omega,rfl,(by intro j l s h;omega),(fun j _=>rfl),jj,ej⟩
 rintro mm fr st ⟨i,L2,pd,qd,P,Q,sn,hfr,hH,hi,px,YM,hto,jj,ej⟩;rw[hfr];clear hfr;generalize gj fr=ee;clear fr;refine qq<|qj fun K hK=>qg ?_;refine qe hK<|qq<|zP (fun hlt=>?_) fun hlt=>?_
 ·refine ag.skip ?_;have hil:i<L.length:=by omega
  obtain⟨l,hl⟩:∃l,L[i]?=some l:=⟨L[i]'hil,ε _⟩
  have ry:L2[i]?=some l:=by rw[hto i (Ω _)];exact hl
  obtain⟨s,hs⟩:∃s,p.ak[i]?=some s:=⟨p.ak[i]'(by omega),ε _⟩
  obtain⟨nA,L6⟩:=hR.st s (κ hs);obtain⟨TC,rfl⟩:=Int.eq_ofNat_of_zero_le nA;have gw:=Bd ry;refine qq<|ag.block<|qq<|qj fun K hK=>qm ?_;refine qm ?_;refine qe hK ?_;have cj:=hH;have U8:=xM hH bL;have U7:=hH.xV aO (k:=ks) rfl;have ZX:=hp.c.ref;have ZW:=hp.s.ref;have Jr:refs [p.cd,p.sd,.int .i64 (pl:Nat),ld,.ptr ks 0 0]≤st.bs.length:=by simp only[refs,IS,ZX,ZW];omega
  change ag _ _ _ _ _ _;generalize hK:aZ _ _ _ _=K;refine ag.uc rfl ?_;refine bP.cons ?_;refine qm ?_;refine μ ⟨rfl,?_⟩;refine bP.cons ?_;refine qg ?_;refine μ ⟨rfl,?_⟩;refine bP.cons ?_;refine qp (o:=3) ?_;refine μ ⟨rfl,?_⟩;refine bP.cons ?_;refine ql hH aB ?_;refine μ ⟨rfl,?_⟩;refine bP.cons ?_;refine qm ?_;refine μ ⟨rfl,?_⟩;refine bP.cons ?_;refine qm ?_;refine μ ⟨rfl,?_⟩;refine bP.cons ?_;refine qm ?_;refine μ ⟨rfl,?_⟩;refine bP.cons ?_;refine qm ?_;refine μ ⟨rfl,?_⟩;refine bP.cons ?_;obtain⟨_,st,ax,td,rfl,hM⟩:=KE dE hF hp hR (by omega) ry hs (ba l (κ hl)) ⟨pd,qd,P,Q,sn,hH,jj,ej⟩;obtain⟨pd,qd,P,Q,sn,hH,jj,ej⟩:=hM;dsimp only[u3,u4] at hH;refine qv ax ?_;refine μ ⟨by exact Γ.2 ⟨jy rfl rfl rfl (cj.at aB) (hH.at aO) (cj.at aB) Jr,rfl⟩,?_⟩;refine bP.cons ?_;refine qi hH bT fun Qw D3=>?_;refine μ ⟨rfl,?_⟩;refine bP.cons ?_;refine ab.jb hH rfl (ev rfl) (ev rfl) (by assumption) rfl rfl (by exact bT) (by assumption) (δ rfl) (by exact .inl hF) (fun st hH=>?_);dsimp only[u2,u1,u3,u4,setMany,u5,u6,ι,γ,aJ,bw,aX,aA,iR] at hH;refine μ ⟨rfl,?_⟩;refine bP.nil ?_;subst hK;have hH:=MH.OG (l:=⟨(ju p.code pl TC r l.pl).dn,(ju p.code pl TC r l.pl).bf,td,(ju p.code pl TC r l.pl).bn⟩) (by omega) hH;refine qj fun K hK=>qA ?_;refine qm ?_;refine qe hK ?_;refine⟨mm-1,by omega,⟨i+1,L2.set i ⟨(ju p.code pl TC r l.pl).dn,(ju p.code pl TC r l.pl).bf,td,(ju p.code pl TC r l.pl).bn⟩,pd,qd,P,Q,sn,rfl,hH,by omega,by rw[Θ];exact px,?_,(fun j hj=>by rw[Δ (by omega)];exact hto j (by omega)),jj,ej⟩⟩;intro j l' s' hj j7 qG;rw[v8]
  by_cases hji:j=i
  ·subst hji;rw[hl] at j7;rw[hs] at qG;cases j7;cases qG;rw[Z5 (by rw[ζ];omega)];rfl
  ·rw[Δ (fun e=>hji e.symm)];exact YM j l' s' (by omega) j7 qG
 ·refine ag.exit ?_;have hil:i=L.length:=by omega
  have TR:=uR n;have hcz:((pl:Nat):Int)+min (max n 0) 4=((pl+mS n:Nat):Int):=by unfold mS;omega
  refine qj fun K hK=>qm ?_;refine qg ?_;refine qp (o:=2) ?_;refine ql hH aB ?_;refine qm ?_;refine ab.Je (t1:=0) (t2:=0) rfl (ev rfl) (ev rfl) (aa rfl _) ?_;refine ab.LG (t1:=0) (t2:=0) rfl (ev rfl) (ev rfl) (aa rfl _) ?_;refine ab.e_ (z:=((pl+mS n:Nat):Int)) rfl (ev rfl) (ev rfl) (by rw[hcz];exact ct (by simp only[ic];omega)) (aa rfl _) ?_;refine qg ?_;refine qp (o:=2) ?_;refine qT hH aB fun st hH=>?_;dsimp only[u2,u1,u3,u4,setMany,u5,u6,ι,γ,aJ,bw,aX,aA,iR] at hH;refine qe hK ?_;refine⟨fun i h=>(by cases h),_,_,_,rfl,rfl,?_⟩;refine⟨rfl,L2,?_,pd,qd,P,Q,sn,hH,jj,ej⟩;refine GB fun j=>?_
  by_cases hj:j<L.length
  ·obtain⟨l,hl⟩:∃l,L[j]?=some l:=⟨L[j]'hj,ε _⟩
   obtain⟨s,hs⟩:∃s,p.ak[j]?=some s:=⟨p.ak[j]'(by omega),ε _⟩
   rw[YM j l s (by omega) hl hs,rC (s:=s.toNat) (l:=l.pl)]
   ·unfold aG;rw[ο,hs];rfl
   ·rw[ο,hl];rfl
  ·rw[Zn (by simp;omega),Zn];rw[lS]
   ·simp;omega
   ·unfold aG;simp;omega
def gX (fr:Go.V.Fr) (k:Nat):Go.V.D:=Go.V.nth .bI fr.loc k
structure uY (p q:Pg):Prop where
 ok:q.ok
 code:q.code=p.code.map ga
 ak:q.ak=p.ak
theorem Lh (hp:p.ok):∃d,Ev pv 200 [p.d] s0 d s0∧∃q:Pg,d=q.d∧uY p q:=by
 refine Ev.FP rfl W7 rfl rfl rfl ?_;refine zE ?_;obtain⟨aN,hF,hH⟩:=ri s0;generalize ae .ro s0=S at*;have hc:=hp.c.arg s0.bs.length S;have hs:=hp.s.arg s0.bs.length S;have hlen:=hp.cl;have Pf:=hp.sl;unfold Pg.d;refine zQ 2 ?_;refine qb hH fun k1 st rj hH=>?_;dsimp only[u2,u1,u3,u4,setMany,u5,u6,ι,γ,Pg.cs,aJ,az] at hH;refine qa hH fun k2 st hk2 hH=>?_;refine zQ 1 ?_;have hH:=hH.fW 1;refine zQ 4 ?_;refine qP hH aB (Arg.rows (by assumption) hH) fun x8 st hH=>?_;dsimp only[u2,u1,u3,u4,setMany,u5,u6,ι,γ,Pg.cs,aJ,az] at hH;refine OF (qs:=[(1,_)]) rfl rfl rfl rfl ⟨rfl,(ev rfl),(by exact hH.cX (by exact aB)),trivial⟩ (by intro q hq;simp only[χ,τ,or_false] at hq;rcases hq with rfl<;>exact⟨rfl,by exact δ rfl⟩) (by show υ _ [_,_] _=_;dsimp only[Y',JS,u2,u1]<;>rfl) (by dsimp only[Fr.put,u1,u2]<;>rfl) ?_;refine qa hH fun k3 st oC hH=>?_;refine qS hH aB fun st hH=>?_;dsimp only[u2,u1,u3,u4,setMany,u5,u6,ι,γ,Pg.cs,aJ,az] at hH;refine zQ 1 ?_;have hH:=hH.OS 4;refine zQ 5 ?_;refine qn ?_;simp only[ζ];refine zQ 3 ?_;refine ag.loop (fun mm fr st=>∃(i:Nat) (y:D) (ks:Nat→Prop),fr.clean=⟨14,[gX fr 0,.ptr k1 0 0,.ptr k2 0 0,.ptr k3 0 0,gX fr 4,gX fr 5,gX fr 6,gX fr 7,gX fr 8,gX fr 9,gX fr 10,p.cd,.int .i64 (p.code.length:Nat),.int .i64 (i:Nat)],[]⟩∧Has s0.bs.length S st [.deep ks y 4 ((p.code.take i).map yG),.box k3 (.mem 0 false [y,x8]),.aF x8 1 (p.ak.map az),.box k2 (.mem 0 false [.nul,.nul]),.box k1 (.mem 0 false [p.cd,p.sd])]∧(i+mm=p.code.length)) (p.code.length) ?_ ?_
 ·exact⟨0,.nul,_,rfl,hH,by omega⟩
 rintro mm fr st ⟨i,y,ks,hfr,hH,hi⟩;rw[hfr];clear hfr;generalize gX fr=ee;clear fr;refine zQ 5 ?_;refine zP (fun h1=>?_) fun h1=>?_
 ·refine zQ 1 ?_
  obtain⟨q,hq⟩:∃q,p.code[i]?=some q:=⟨p.code[i]'(by omega),ε _⟩
  have hr:=gM hq;have D2:=hp.i q (κ hq);have Gb:=D2.1;have L9:=D2.1.arg s0.bs.length S;have sQ:=D2.2;have mO:((p.code.take i).map yG).length≤1048576:=by rw[ζ,Bv];omega
  refine zQ 4 ?_;refine qr fun Ys Ps=>?_;refine LL rfl (ev rfl) (by assumption) rfl (aa rfl _) ?_;refine qa hH fun k5 st Kf hH=>?_;refine qS hH aB fun st hH=>?_;dsimp only[u2,u1,u3,u4,setMany,u5,u6,ι,γ,Pg.cs,aJ,az] at hH;refine zQ 1 ?_;have hH:=hH.fW 2;refine zQ 4 ?_;refine BY (s:=2) hH rfl (ev rfl) (ev rfl) (by exact aB) (by exact Arg.rows (by assumption) hH) rfl rfl rfl rfl rfl rfl rfl ⟨(δ rfl),(δ rfl)⟩ (fun _=>(aa rfl _)) (by simp only[ρ,ζ]<;>omega) (by exact .inl hF) (fun Tz st hH=>?_);dsimp only[u2,u1,u3,u4,setMany,u5,u6,ι,γ,Pg.cs,aJ,az] at hH;refine zQ 1 ?_;refine qT hH aO (fun st hH=>?_) (kZ:=hH.cX aB);dsimp only[u2,u1,u3,u4,setMany,u5,u6,ι,γ,Pg.cs,aJ,az] at hH;refine zQ 4 ?_;refine ZD (m:=4) hH rfl (ev rfl) (by exact aO) (by dsimp only[η,ν,θ,ξ,Pg.cs,aJ,az]<;>rfl) rfl rfl (aa rfl _) ?_;refine qh (s:=4) (vs:=[_]) hH fun k24 st VF hH=>?_;obtain⟨hH,SR⟩:=hH.Cu (i:=1) (j:=3) (by decide) aO bh (fZ _);dsimp only[u1,u2] at hH;refine ab.tk hH rfl rfl rfl bh (hH.rows aB) (.cons (.cons (.plain _ rfl) (.cons (.plain _ rfl) (.cons (.plain _ rfl) (.cons SR .nil)))) .nil) rfl rfl rfl rfl rfl rfl rfl ⟨(δ rfl),(δ rfl)⟩ (fun _=>(aa rfl _)) (by show _+1≤_;omega) (.inl hF) (fun Yk st hH=>?_);dsimp only[u1,u2] at hH;refine zQ 1 ?_;refine ab.gE hH rfl (ev rfl) (ev rfl) (by exact hH.fv (by exact bh)) (by exact rfl) (by exact bL) (by exact δ rfl) (by exact .inl hF) (fun st hH=>?_);dsimp only[u2,u1,u3,u4,setMany,u5,u6,ι,γ,Pg.cs,aJ,az] at hH;refine zQ 5 ?_;exact⟨mm-1,by omega,⟨i+1,Yk,_,rfl,(by rw[Ψ,hq,Φ,π];exact hH.drop 3),by omega⟩⟩
 ·refine zQ 3 ?_;refine ZD (m:=2) hH rfl (ev rfl) (by exact aO) (by dsimp only[η,ν,θ,ξ,Pg.cs,aJ,az]<;>rfl) rfl rfl (aa rfl _) ?_;refine qS hH bh fun st hH=>?_;dsimp only[u2,u1,u3,u4,setMany,u5,u6,ι,γ,Pg.cs,aJ,az] at hH;refine zQ 1 ?_;rw[ω (by omega)] at hH;have h1:=hH.tf aB (n:=14) (by decide);have h2:=hH.kE a_ (lO _) (n:=15) (by decide)
  have h3:bA st s0.bs.length false 16 (.agg [y,x8])=some (.agg [.sl ((p.code.map yG).map (ml 4)),.sl ((p.ak.map az).map (ml 1))]):=by
   show(jZ (bA st s0.bs.length false 15) [y,x8]).map D.agg=_;simp only[jZ,h1,h2,Wh]
  refine ag.ret ⟨rx,_,_,hH.kD rfl bh rfl,rl aN hH h3,⟨_,p.code.map ga,HR p.ak,p.ak⟩,rfl,⟨?_,x9 _,?_,by simpa using hlen,Pf⟩,rfl,rfl⟩
  ·have h0:(p.code.map ga).map aJ=p.code.map yG:=by rw[List.map_map];rfl
   show dg _ 4 ((p.code.map ga).map aJ);rw[h0]
   have h4:∀e∈(p.code.map yG),e.length=4:=by
    intro e he;obtain⟨q,_,rfl⟩:=φ.1 he;rfl
   have:=dg.frozen (s:=4) (es:=p.code.map yG) h4 (by
    intro e he d hd;obtain⟨q,_,rfl⟩:=φ.1 he;simp only[yG,aJ,ga,χ,τ,or_false] at hd
    rcases hd with rfl|rfl|rfl|rfl<;>rfl)
   exact this
  ·intro i hi;obtain⟨q,hq,rfl⟩:=φ.1 hi;exact Np (hp.i q hq)
theorem uY.right {q:Pg} (h:uY p q) (hR:bm p):bm q:=(Fx h.code h.ak).2 hR
theorem CM (hF:S.flr≤N) (hp:p.ok) (hR:bm p) (hH:Has N S s0 H):
  ∃r ai,Ev pv 162 [p.d] s0 r ai∧∃kv ks q,r=.tup [.ptr kv 0 0,.int .i64 0]∧uY p q∧MH [] N S ai ks kv q 0 .nul [] H:=by
 have hc:=hp.c.arg N S;have hcl:=hR.cl;obtain⟨_,SL,q,rfl,hq⟩:=Lh (s0:=s0) hp;have hown:∀st,∃d,Ev pv 200 [p.d] st d st∧∃q:Pg,d=q.d∧uY p q:=fun st=>Lh hp;unfold Pg.d at hown;unfold Pg.d;clear SL hq q;refine Ev.eN rfl Xp rfl rfl rfl ?_;refine zE ?_;change ag _ _ _ _ s0 _;refine zQ 2 ?_;refine qb hH fun k1 st rj hH=>?_;dsimp only[u2,u1,u3,u4,setMany,u5,u6,ι,γ,Pg.cs,aJ,az] at hH;refine zQ 6 ?_;refine ZD (m:=2) hH rfl (ev rfl) (by exact aB) (by dsimp only[η,ν,θ,ξ,Pg.cs,aJ,az]<;>rfl) rfl rfl (aa rfl _) ?_;refine qv (mT (p:=p) hp) ?_;refine zQ 2 ?_;refine qE rfl (by rw[b_ hR];rfl) ?_;refine zQ 5 ?_;refine qn ?_;simp only[ζ];obtain⟨_,st,ax,ks,rfl,pd,qd,P,Q,hH,ba⟩:=zK (n:=p.code.length) hF (by omega) hH;refine qv ax ?_;refine zQ 6 ?_;obtain⟨_,ax,q,rfl,hq⟩:=hown st;refine zQ 2 ?_;refine ZD (m:=2) hH rfl (ev rfl) (by exact bh) (by dsimp only[η,ν,θ,ξ,Pg.cs,aJ,az]<;>rfl) rfl rfl (aa rfl _) ?_;refine qv ax ?_;refine qm ?_;refine YH (d:=.agg [q.cd,q.sd,.int .i64 0,.nul,.ptr ks 0 0]) (st1:=_) rfl rfl rfl (aa rfl _) ?_;refine qb hH fun k20 st aaF hH=>?_;refine zQ 4 ?_;refine ag.ret ⟨rx,_,_,_,rfl,rfl,?_⟩;have hl:(Cf p.code.length false).length=q.code.length:=by rw[Ut,hq.code,ζ]
 exact⟨k20,ks,q,rfl,hq,pd,qd,P,Q,_,Ξ [_] [_,_,_,_] ((hH.erase 4).fW 12),ba,hl⟩
def jN (s:Nat):PL:=⟨false,bK,[⟨s,bK⟩]⟩
theorem NG (dE:∀st,Ev pv 149 [] st (.agg (aA bK)) st) (hF:S.flr≤N) (hp:p.ok) (hR:bm p) (hM:MH [] N S s0 ks kv p 0 .nul [] H):
  ∃d ai,Ev pv 163 [.ptr kv 0 0] s0 d ai∧d=.tup []∧∃ld L,L.map VL.pl=(aG p).map jN∧MH [] N S ai ks kv p 0 ld L H:=by
 have hs:=hp.s.arg N S;have RY:=hR.sl;obtain⟨pd,qd,P,Q,sn,hH,ba,ej⟩:=hM;dsimp only[u4] at hH;refine Ev.eN rfl Xo rfl rfl rfl ?_;refine zE ?_;change ag _ _ _ _ s0 _;refine zQ 7 ?_;refine qn ?_;simp only[ζ];refine zQ 3 ?_;refine ag.loop (fun mm fr st=>∃(i:Nat) (ld:D) (L:List VL),fr.clean=⟨11,[.ptr kv 0 0,gX fr 1,gX fr 2,gX fr 3,gX fr 4,gX fr 5,gX fr 6,gX fr 7,p.sd,.int .i64 (p.ak.length:Nat),.int .i64 (i:Nat)],[]⟩∧Has N S st (.box kv (.mem 0 false [p.cd,p.sd,.int .i64 ((0:Nat):Nat),ld,.ptr ks 0 0])::.box ks (.mem 0 false [pd,qd])::.aF pd 1 (P.map jG)::.aF qd 2 (Q.map sN)::.aF ld 12 (L.map iR)::(L.map tG++H))∧(i+mm=p.ak.length)∧(L.length=i)∧(L.map VL.pl=((aG p).take i).map jN)) (p.ak.length) ?_ ?_
 ·exact⟨0,.nul,[],rfl,hH,by omega,rfl,rfl⟩
 rintro mm fr st ⟨i,ld,L,hfr,hH,hi,zq,hLp⟩;rw[hfr];clear hfr;generalize gX fr=ee;clear fr;refine zQ 5 ?_;refine zP (fun hlt=>?_) fun hlt=>?_
 ·refine zQ 1 ?_;have hil:i<p.ak.length:=by omega
  obtain⟨s,ZO⟩:∃s,p.ak[i]?=some s:=⟨p.ak[i]'(by omega),ε _⟩
  obtain⟨nA,L6⟩:=hR.st s (κ ZO);obtain⟨s1,rfl⟩:=Int.eq_ofNat_of_zero_le nA;have gw:=fJ ZO;have jO:(aG p)[i]?=some s1:=by unfold aG;rw[ο,ZO];rfl
  refine zQ 4 ?_;refine qr fun Zm Sm=>?_;refine zQ 9 ?_;refine qv (dE _) ?_;refine qm ?_;refine qv (dE _) ?_;refine YH (d:=.agg (bw ⟨s1,bK⟩)) (st1:=_) rfl rfl rfl (aa rfl _) ?_;refine qh (s:=11) (vs:=[_]) hH fun k23 st VG hH=>?_;dsimp only[u2,u1,u3,u4,setMany,u5,u6,ι,γ,aJ,bw,aX,aA,iR,az] at hH;refine YH (d:=.agg (aX false bK (.win k23 0 0 1 11))) (st1:=_) rfl rfl rfl (aa rfl _) ?_;refine qh (s:=12) (vs:=[_]) hH fun k25 st adz hH=>?_;dsimp only[u2,u1,u3,u4,setMany,u5,u6,ι,γ,aJ,bw,aX,aA,iR,az] at hH;refine BY (s:=12) hH rfl (ev rfl) (ev rfl) (by exact cn) (by exact hH.rows (by exact aB)) rfl rfl rfl rfl rfl rfl rfl ⟨(δ rfl),(δ rfl)⟩ (fun _=>(aa rfl _)) (by simp only[ς,ρ,ζ]<;>omega) (by exact .inl hF) (fun x26 st hH=>?_);dsimp only[u2,u1,u3,u4,setMany,u5,u6,ι,γ,aJ,bw,aX,aA,iR,az] at hH;refine zQ 2 ?_;refine qT hH a_ (fun st hH=>?_) (kZ:=hH.cX cn);dsimp only[u2,u1,u3,u4,setMany,u5,u6,ι,γ,aJ,bw,aX,aA,iR,az] at hH;refine zQ 5 ?_;have hH:=hH.drop 1;have hH:=Ξ [_] (_::_::_::_::_::L.map tG) hH;refine⟨mm-1,by omega,⟨i+1,x26,L++[⟨false,bK,.win k23 0 0 1 11,[⟨s1,bK⟩]⟩],rfl,?_,by omega,by simp;omega,?_⟩⟩
  ·rw[π,π,ψ];exact hH
  ·rw[π,hLp,Ψ,jO,Φ,π];rfl
 ·refine zQ 1 ?_;refine⟨fun i h=>(by cases h),_,_,_,rfl,rfl,?_⟩;refine⟨rfl,ld,L,?_,pd,qd,P,Q,sn,hH,ba,ej⟩;rw[hLp,ω];unfold aG;rw[ζ];omega
theorem uf (hR:bm p):∀l∈(aG p).map jN,l.ok p.code.length:=by
 intro l hl;obtain⟨s,hs,rfl⟩:=φ.1 hl;obtain⟨v,hv,rfl⟩:=φ.1 hs;have:=hR.st v hv;refine⟨fun t ht=>?_,by simp[jN]⟩;simp only[jN,χ,τ,or_false] at ht;subst ht;show v.toNat<_;omega
theorem Ol (dE:∀st,Ev pv 149 [] st (.agg (aA bK)) st) (hF:S.flr≤N) (hp:p.ok) (hR:bm p) (hH:Has N S s0 H):
  ∃r ai,Ev pv 102 [p.d] s0 r ai∧∃kv ks q ld L,r=.tup [.ptr kv 0 0,.int .i64 0]∧uY p q∧L.map VL.pl=(aG p).map jN∧MH [] N S ai ks kv q 0 ld L H:=by
 have N_:∀st H,Has N S st H→∃r ai,Ev pv 162 [p.d] st r ai∧∃kv ks q,r=.tup [.ptr kv 0 0,.int .i64 0]∧uY p q∧MH [] N S ai ks kv q 0 .nul [] H:=fun st H h=>CM hF hp hR h;unfold Pg.d at*;refine Ev.eN rfl X3 rfl rfl rfl ?_;refine zE ?_;change ag _ _ _ _ s0 _;refine zQ 2 ?_;refine qb hH fun k1 st rj hH=>?_;dsimp only[u2,u1,u3,u4,setMany,u5,u6,ι,γ,Pg.cs,aJ,az] at hH;refine zQ 5 ?_;refine ZD (m:=2) hH rfl (ev rfl) (by exact aB) (by dsimp only[η,ν,θ,ξ,Pg.cs,aJ,az]<;>rfl) rfl rfl (aa rfl _) ?_;obtain⟨_,st,ax,kv,ks,q,rfl,hq,hM⟩:=N_ _ _ hH;refine qv ax ?_;refine zQ 12 ?_;refine ag.cond (v:=false) (by dsimp only[Fr.ev,Fr.get,nth,V.look];rfl) (fun h=>by cases h) (fun _=>?_);refine zQ 1 ?_;obtain⟨_,st1,ax,rfl,ld,L,hL,hM⟩:=NG dE hF hq.ok (hq.right hR) hM;refine zQ 3 ?_;refine qv ax ?_;refine zQ 7 ?_;refine ag.ret ⟨rx,_,_,_,rfl,rfl,?_⟩;have hsq:aG q=aG p:=by unfold aG;rw[hq.ak]
 obtain⟨pd,qd,P,Q,sn,hH,ba,ej⟩:=hM;refine⟨kv,ks,q,ld,L,rfl,hq,by rw[←hsq];exact hL,pd,qd,P,Q,sn,?_,ba,ej⟩;have hH:=Ξ (_::_::_::_::_::L.map tG) [_] (H:=H) hH;exact hH.drop 1
def uz (fr:Go.V.Fr) (k:Nat):Go.V.D:=Go.V.nth .bI fr.loc k
def TA (l:List hU):D:=.sl ((l.map bw).map (ml 11))
def mX (l:PL):List D:=aX l.dn l.bf (TA l.bn)
def rL (L:List PL):D:=.sl ((L.map mX).map (ml 12))
def QB (pl:Nat) (L:List PL):D:=.agg [.int .i64 (pl:Nat),rL L]
theorem zC (l:List hU):∀e∈l.map bw,∀d∈e,dh d=true:=by
 intro e he d hd;obtain⟨q,_,rfl⟩:=φ.1 he;simp only[bw,χ,τ,or_false] at hd
 rcases hd with rfl|rfl|rfl|rfl|rfl|rfl|rfl|rfl|rfl|rfl|rfl<;>rfl
variable{f:j4}
theorem GJ {ks:Nat→Prop} {y:D} (h:gb st ks x y):dN (gb st ks) (aX dn f x) (aX dn f y):=
 .cons (.plain _ rfl) (.cons (.plain _ rfl) (.cons (.plain _ rfl) (.cons (.plain _ rfl) (.cons (.plain _ rfl) (.cons (.plain _ rfl) (.cons (.plain _ rfl) (.cons (.plain _ rfl) (.cons (.plain _ rfl) (.cons (.plain _ rfl) (.cons (.plain _ rfl) (.cons h .nil)))))))))))
theorem JW (hF:S.flr≤N) (zq:L.length≤1000) (hx:Arg N S 12 x (L.map iR)) (ht:∀l∈L,Arg N S 11 l.td (l.bn.map bw)∧l.bn.length≤1000) (hH:Has N S s0 H):
  ∃d ai,Ev pv 164 [x] s0 d ai∧∃ks,Has N S ai (.deep ks d 12 ((L.map VL.pl).map mX)::H):=by
 refine Ev.eN rfl QZ rfl rfl rfl ?_;refine zE ?_;change ag _ _ _ _ s0 _;refine zQ 12 ?_;refine qn ?_;simp only[ζ];refine zQ 3 ?_;refine ag.loop (fun mm fr st=>∃(i:Nat) (y:D) (ks:Nat→Prop),fr.clean=⟨9,[uz fr 0,uz fr 1,uz fr 2,y,uz fr 4,uz fr 5,x,.int .i64 (L.length:Nat),.int .i64 (i:Nat)],[]⟩∧Has N S st (.deep ks y 12 (((L.map VL.pl).take i).map mX)::H)∧(i+mm=L.length)) (L.length) ?_ ?_
 ·exact⟨0,.nul,_,rfl,(hH.OS 12),by omega⟩
 rintro mm fr st ⟨i,y,ks,hfr,hH,hi⟩;rw[hfr];clear hfr;generalize uz fr=ee;clear fr;refine zQ 5 ?_;refine zP (fun hlt=>?_) fun hlt=>?_
 ·refine zQ 1 ?_;have hil:i<L.length:=by omega
  obtain⟨l,hl⟩:∃l,L[i]?=some l:=⟨L[i]'hil,ε _⟩
  obtain⟨N6,mO⟩:=ht l (κ hl);have gw:=Bd hl;have hlp:(L.map VL.pl)[i]?=some l.pl:=by rw[ο,hl];rfl
  have ZI:(((L.map VL.pl).take i).map mX).length≤1048576:=by rw[ζ,Bv,ζ];omega
  refine zQ 4 ?_;refine qr fun TE Jt=>?_;refine LL rfl (ev rfl) (by assumption) rfl (aa rfl _) ?_;refine qa hH fun k5 st Kf hH=>?_;refine qS hH aB fun st hH=>?_;dsimp only[u2,u1,u3,u4,setMany,u5,u6,ι,γ,aJ,bw,aX,aA,iR,mX] at hH;refine zQ 1 ?_;have hH:=hH.fW 11;refine zQ 4 ?_;refine BY (s:=11) hH rfl (ev rfl) (ev rfl) (by exact aB) (by exact Arg.rows (by assumption) hH) rfl rfl rfl rfl rfl rfl rfl ⟨(δ rfl),(δ rfl)⟩ (fun _=>(aa rfl _)) (by simp only[ρ,ζ]<;>omega) (by exact .inl hF) (fun x14 st hH=>?_);dsimp only[u2,u1,u3,u4,setMany,u5,u6,ι,γ,aJ,bw,aX,aA,iR,mX] at hH;refine zQ 1 ?_;refine qT hH aO (fun st hH=>?_) (kZ:=hH.cX aB);dsimp only[u2,u1,u3,u4,setMany,u5,u6,ι,γ,aJ,bw,aX,aA,iR,mX] at hH;refine zQ 3 ?_;refine ZD (m:=12) hH rfl (ev rfl) (by exact aO) (by dsimp only[η,ν,θ,ξ,aJ,bw,aX,aA,iR,mX]<;>rfl) rfl rfl (aa rfl _) ?_;refine qh (s:=12) (vs:=[_]) hH fun k18 st SE hH=>?_;obtain⟨hH,SR⟩:=hH.Cu (i:=1) (j:=3) (by decide) aO bh (zC _);dsimp only[u1,u2] at hH;refine ab.tk hH rfl rfl rfl bh (hH.rows aB) (.cons (GJ (dn:=l.dn) (f:=l.bf) SR) .nil) rfl rfl rfl rfl rfl rfl rfl ⟨(δ rfl),(δ rfl)⟩ (fun _=>(aa rfl _)) (by show _+1≤_;omega) (.inl hF) (fun Tz st hH=>?_);dsimp only[u1,u2] at hH;refine zQ 6 ?_;exact⟨mm-1,by omega,⟨i+1,Tz,_,rfl,(by rw[Ψ,hlp,Φ,π];exact hH.drop 3),by omega⟩⟩
 ·refine zQ 1 ?_;have hil:i=L.length:=by omega
  refine zQ 5 ?_;refine ag.ret ⟨rx,_,_,_,rfl,rfl,?_⟩;rw[ω (by simp;omega)] at hH;exact⟨_,hH⟩
structure AM (N:Nat) (S:St) (kv ks:Nat) (p:Pg) (pl:Nat) (ld:D) (L:List VL):Prop where
 lt:kv<N
 le:N≤S.bs.length
 at_:S.bs[kv]?=some (.mem 0 false [p.cd,p.sd,.int .i64 (pl:Nat),ld,.ptr ks 0 0])
 ld:Arg N S 12 ld (L.map iR)
 td:∀l∈L,Arg N S 11 l.td (l.bn.map bw)
 ksl:ks<N
theorem AM.box {pl:Nat} (h:AM N S kv ks p pl ld L) (hH:Has N S st H):st.bs[kv]?=some (.mem 0 false [p.cd,p.sd,.int .i64 (pl:Nat),ld,.ptr ks 0 0]):=by
 rw[hH.ex.low kv h.lt];exact h.at_
theorem AM.refs {pl:Nat} (h:AM N S kv ks p pl ld L) (hp:p.ok) (hH:Has N S st H):V.refs [p.cd,p.sd,.int .i64 (pl:Nat),ld,.ptr ks 0 0]≤st.bs.length:=by
 have h1:=hp.c.ref;have h2:=hp.s.ref;have h3:=h.ld.2;have h4:=h.ksl;have h5:=h.le;have h6:=hH.ex.len;simp only[V.refs,IS,h1,h2];omega
theorem AM.to {pl:Nat} (h:AM N S kv ks p pl ld L) (hH:Has N S st H) (o:Nat):mV st (.ptr kv 0 o) ([p.cd,p.sd,.int .i64 (pl:Nat),ld,.ptr ks 0 0].drop o):=
 .inl ⟨kv,0,o,false,_,rfl,St.mem_of (by rw[hH.ex.low kv h.lt];exact h.at_),List.take_length ..⟩
theorem EZ {pl:Nat} (hp:p.ok) (zq:L.length≤1000) (ba:∀l∈L,l.bn.length≤1000) (hA:AM s0.bs.length s0 kv ks p pl ld L) (du:s0.ro≤s0.bs.length):
  ∃d ai,Ev pv 107 [.ptr kv 0 0] s0 d ai∧d=QB pl (L.map VL.pl)∧ai=s0:=by
 have hkv:=hA.at_;have kq:=hA.lt;have B3:=hA.ld.1;have Au:∀(i:Nat) (l:VL),L[i]?=some l→V.Rows s0 11 l.td (l.bn.map bw):=fun i l hl=>(hA.td l (κ hl)).1;have Jr:=hA.refs hp (IT (Ω _) du);refine Ev.eN rfl XY rfl rfl rfl ?_;refine zE ?_;have aN:(ae .rw s0).bs=s0.bs:=rfl;have hF:(ae .rw s0).flr≤s0.bs.length:=Ω _;have hH:Has s0.bs.length (ae .rw s0) (ae .rw s0) []:=IT (Ω _) du;generalize ae .rw s0=S2 at*;have hx:=Arg.of B3 aN;refine qq<|qj fun K hK=>qa hH fun k2 st hk2 hH=>?_;refine qe hK ?_;have PA:st.bs[kv]?=some (.mem 0 false [p.cd,p.sd,.int .i64 (pl:Nat),ld,.ptr ks 0 0]):=by rw[hH.ex.low kv kq,aN];exact hkv
 have Gg:mV st (.ptr kv 0 2) [.int .i64 (pl:Nat)]:=.inl ⟨kv,0,2,false,_,rfl,St.mem_of PA,rfl⟩;have D4:mV st (.ptr kv 0 3) [ld]:=.inl ⟨kv,0,3,false,_,rfl,St.mem_of PA,rfl⟩;have hlen:=hH.ex.len;rw[aN] at hlen;change ag _ _ _ _ _ _;refine qq ?_;generalize hK:aZ _ _ _ _=K;refine ag.uc rfl ?_;refine bP.cons ?_;refine qm ?_;refine μ ⟨rfl,?_⟩;refine bP.cons ?_;refine qg ?_;refine μ ⟨rfl,?_⟩;refine bP.cons ?_;refine qp (o:=2) ?_;refine μ ⟨rfl,?_⟩;refine bP.cons ?_;refine qR ?_;refine μ ⟨rfl,?_⟩;refine bP.cons ?_;refine qm ?_;refine μ ⟨rfl,?_⟩;refine bP.cons ?_;refine qg ?_;refine μ ⟨rfl,?_⟩;refine bP.cons ?_;refine qp (o:=3) ?_;refine μ ⟨rfl,?_⟩;refine bP.cons ?_;refine qR ?_;refine μ ⟨rfl,?_⟩;refine bP.cons ?_;obtain⟨yd,st,ax,ks1,hH⟩:=JW hF zq hx (fun l hl=>⟨by obtain⟨i,hi⟩:=VM hl;exact Arg.of (Au i l hi) aN,ba l hl⟩) hH;refine qv ax ?_;refine μ ⟨by exact Γ.2 ⟨jy rfl rfl rfl PA (by rw[hH.ex.low kv kq,aN];exact hkv) PA (by omega),rfl⟩,?_⟩;refine bP.cons ?_;refine OF (qs:=[(0,_),(1,_)]) rfl rfl rfl rfl ⟨rfl,(ev rfl),(by rfl),rfl,(ev rfl),(by exact hH.fv (by exact aB)),trivial⟩ (by intro q hq;simp only[χ,τ,or_false] at hq;rcases hq with rfl|rfl<;>exact⟨rfl,by exact δ rfl⟩) (by show υ _ [_,_] _=_;dsimp only[Y',JS,u2,u1]<;>rfl) (aa rfl _) ?_;refine μ ⟨rfl,?_⟩;refine bP.cons ?_;refine qS hH aO fun st hH=>?_;dsimp only[u2,u1,u3,u4,setMany,u5,u6,ι,γ,aJ,bw,aX,aA,iR,mX] at hH;refine μ ⟨rfl,?_⟩;refine bP.nil ?_;subst hK;have h1:=hH.tf aB (n:=14) (by decide)
 have h3:bA st s0.bs.length false 16 (.agg [.int .i64 (pl:Nat),yd])=some (QB pl (L.map VL.pl)):=by
  show(jZ (bA st s0.bs.length false 15) [.int .i64 (pl:Nat),yd]).map D.agg=_;simp only[jZ,h1]
  rfl
 refine ag.ret ⟨rx,_,_,_,hH.kD rfl aO rfl,aj h3,rfl,?_⟩
 have hbs:st.bs.take s0.bs.length=s0.bs:=by
  refine GB fun j=>?_;rw[List.getElem?_take]
  by_cases hj:j<s0.bs.length
  ·rw[if_pos hj,hH.ex.low j hj,aN]
  ·rw[if_neg hj,Zn (by omega)]
 rw[hbs]
theorem MH.am {pl:Nat} (hM:MH [] N S s0 ks kv p pl ld L H):AM s0.bs.length s0 kv ks p pl ld L:=by
 obtain⟨pd,qd,P,Q,sn,hH,jj,ej⟩:=hM;dsimp only[u4] at hH
 exact⟨(hH.ge aB).2,Ω _,hH.at aB,⟨hH.rows bL,xM hH bL⟩,fun l hl=>(by
  obtain⟨i,hi⟩:=VM hl;have h:=Kr (H:=H) [.box kv (.mem 0 false [p.cd,p.sd,.int .i64 (pl:Nat),ld,.ptr ks 0 0]),.box ks (.mem 0 false [pd,qd]),.aF pd 1 (P.map jG),.aF qd 2 (Q.map sN),.aF ld 12 (L.map iR)] rfl hi
  exact⟨hH.rows h,xM hH h⟩),hH.xV aO rfl⟩
theorem MH.ro {pl:Nat} (hM:MH [] N S s0 ks kv p pl ld L H):s0.ro≤s0.bs.length:=by
 obtain⟨pd,qd,P,Q,sn,hH,jj,ej⟩:=hM;rw[hH.ex.ro];exact IN hH.du (IN hH.hN hH.ex.len)
def lW (fr:Go.V.Fr) (k:Nat):Go.V.D:=Go.V.nth .bI fr.loc k
def cz (f:j4) (to:Int):Prop:=∀i,i<10→-1≤f i∧f i≤to
theorem EM (hi:i<10):(x_ pv 48 (.agg (aA f)) (.int .i64 (i:Nat))).map (fun d=>(d,st))=some (.int .i64 (f i),st):=by
 match i,hi with
 |0,_=>rfl
 |1,_=>rfl
 |2,_=>rfl
 |3,_=>rfl
 |4,_=>rfl
 |5,_=>rfl
 |6,_=>rfl
 |7,_=>rfl
 |8,_=>rfl
 |9,_=>rfl
theorem uS (hi:i<10):fx pv 3 ((aA f).drop (0+i*1))=some (.int .i64 (f i)):=by
 match i,hi with
 |0,_=>rfl
 |1,_=>rfl
 |2,_=>rfl
 |3,_=>rfl
 |4,_=>rfl
 |5,_=>rfl
 |6,_=>rfl
 |7,_=>rfl
 |8,_=>rfl
 |9,_=>rfl
theorem Cn {k:Nat} (hi:i<10):(cJ pv 48 (.ptr k 0 0) (.int .i64 (i:Nat)) st).map (fun d=>(d,st))=some (.ptr k 0 (0+i*1),st):=by
 show Option.map _ (if(0:Int)≤(i:Nat)∧((i:Nat):Int)<((10:Nat):Int) then some (D.ptr k 0 (0+((i:Nat):Int).toNat*1)) else none)=_;rw[if_pos ⟨by omega,by omega⟩];rfl
theorem ug (f:j4) (to:Int):Ev pv 150 [.agg (aA f),.int .i64 to] s0 (.bool (dec (cz f to))) s0:=by
 refine Ev.gP rfl XB rfl rfl rfl ?_;refine zE ?_;obtain⟨aN,hF,hH⟩:=ri s0;generalize ae .ro s0=S at*;refine zQ 2 ?_;refine qb hH fun k2 st hk2 hH=>?_;refine zQ 5 ?_;refine ZD (m:=10) hH rfl (ev rfl) (by exact aB) (by dsimp only[η,ν,θ,ξ]<;>rfl) rfl rfl (by dsimp only[Fr.put,u1,u2]<;>rfl) ?_;refine zQ 3 ?_;refine ag.loop (fun mm fr st=>∃(i:Nat),fr.clean=⟨9,[lW fr 0,.int .i64 to,lW fr 2,lW fr 3,lW fr 4,lW fr 5,lW fr 6,.agg (aA f),.int .i64 (i:Nat)],[]⟩∧Has s0.bs.length S st [.box k2 (.mem 0 false (aA f))]∧(i+mm=10)∧(∀j,j<i→-1≤f j∧f j≤to)) (10) ?_ ?_
 ·exact⟨0,rfl,hH,by omega,by intro j h;omega⟩
 rintro mm fr st ⟨i,hfr,hH,hi,hpre⟩;rw[hfr];clear hfr;generalize lW fr=ee;clear fr;refine zQ 5 ?_;refine zP (fun hlt=>?_) fun hlt=>?_
 ·refine zQ 5 ?_;refine YH (d:=.int .i64 (f i)) (st1:=_) rfl rfl (EM (by omega)) (aa rfl _) ?_;refine zQ 3 ?_;refine ag.dM 17 (.bool (decide (f i< -1)||decide (f i>to))) [] ?_ (fun ff tmp dj=>?_)
  ·refine zQ 3 ?_;refine Cr 13 rfl (fun br=>?_) (fun br=>?_)
   ·refine zQ 4 ?_;refine μ (aR ?_ ?_)
    ·dsimp only[aK,υ,nth,u2,u1]
     all_goals(first|rfl|simp)
    ·refine zF ?_
     all_goals(simp[br];done)
   ·refine zQ 4 ?_;refine μ (aR ?_ ?_)
    ·dsimp only[aK,υ,nth,u2,u1]
     all_goals(first|rfl|simp)
    ·refine zF ?_
     all_goals(simp[br];done)
  refine zG ?_;refine qc (fun h2=>?_) (fun h2=>?_)<;>try simp only[cs] at h2
  ·rw[dp (fun h=>by have:=h i (by omega);simp at h2;omega)];refine zQ 4 ?_;refine ag.ret ⟨rx,_,rfl,rl aN hH (rfl)⟩
  ·refine zQ 5 ?_;refine⟨mm-1,by omega,⟨i+1,rfl,hH,by omega,?_⟩⟩;intro j hj
   by_cases he:j=i
   ·subst he;simp at h2;omega
   ·exact hpre j (by omega)
 ·refine zQ 1 ?_;rw[b_ (q:=cz f to) (fun j hj=>hpre j (by omega))];refine zQ 4 ?_;refine ag.ret ⟨rx,_,rfl,rl aN hH (rfl)⟩
theorem xb (f:j4) (to:Int):Ev pv 192 [.agg (aA f),.int .i64 to] s0 (.bool (dec (cz f to))) s0:=by
 refine Ev.gP rfl Xd rfl rfl rfl ?_;refine zE ?_;obtain⟨aN,hF,hH⟩:=ri s0;generalize ae .ro s0=S at*;refine zQ 2 ?_;refine qb hH fun k2 st hk2 hH=>?_;refine zQ 8 ?_;refine ag.loop (fun mm fr st=>∃(i:Nat),fr.clean=⟨6,[lW fr 0,.int .i64 to,.ptr k2 0 0,lW fr 3,lW fr 4,.int .i64 (i:Nat)],[]⟩∧Has s0.bs.length S st [.box k2 (.mem 0 false (aA f))]∧(i+mm=10)∧(∀j,j<i→-1≤f j∧f j≤to)) (10) ?_ ?_
 ·exact⟨0,rfl,hH,by omega,by intro j h;omega⟩
 rintro mm fr st ⟨i,hfr,hH,hi,hpre⟩;rw[hfr];clear hfr;generalize lW fr=ee;clear fr;refine zQ 6 ?_;refine zP (fun hlt=>?_) fun hlt=>?_
 ·refine zQ 4 ?_;refine ag.dM 20 (.bool (decide (f i< -1)||decide (f i>to))) [] ?_ (fun ff tmp dj=>?_)
  ·refine qm ?_;refine YH (d:=.ptr k2 0 (0+i*1)) (st1:=_) rfl rfl (Cn (by omega)) (aa rfl _) ?_;refine ab.iv hH rfl rfl aB (uS (by omega)) (aa rfl _) ?_;refine zQ 2 ?_;refine Cr 14 rfl (fun iN=>?_) (fun iN=>?_)
   ·refine zQ 6 ?_;refine μ (aR ?_ ?_)
    ·dsimp only[aK,υ,nth,u2,u1]
     all_goals(first|rfl|simp)
    ·refine zF ?_
     all_goals(simp[iN];done)
   ·refine zQ 1 ?_;refine YH (d:=.ptr k2 0 (0+i*1)) (st1:=_) (af rfl rfl rfl iN) rfl (Cn (by omega)) (aa rfl _) ?_;refine ab.iv hH (af rfl rfl rfl iN) rfl aB (uS (by omega)) (aa rfl _) ?_;refine zQ 3 ?_;refine μ (aR ?_ ?_)
    ·dsimp only[aK,υ,nth,u2,u1]
     all_goals(first|rfl|simp)
    ·refine zF ?_
     all_goals(simp[iN];done)
  refine zG ?_;refine qc (fun h2=>?_) (fun h2=>?_)<;>try simp only[cs] at h2
  ·rw[dp (fun h=>by have:=h i (by omega);simp at h2;omega)];refine zQ 4 ?_;refine ag.ret ⟨rx,_,rfl,rl aN hH (rfl)⟩
  ·refine zQ 6 ?_;refine⟨mm-1,by omega,⟨i+1,rfl,hH,by omega,?_⟩⟩;intro j hj
   by_cases he:j=i
   ·subst he;simp at h2;omega
   ·exact hpre j (by omega)
 ·refine zQ 1 ?_;rw[b_ (q:=cz f to) (fun j hj=>hpre j (by omega))];refine zQ 4 ?_;refine ag.ret ⟨rx,_,rfl,rl aN hH (rfl)⟩
end Go.Proofs.YtecjacicdpejaaaGreat
namespace Go.V
def nu (l:List (Int×Int)):List (D×D):=l.map fun p=>(.int .i64 p.1,.int .i64 p.2)
def getM:List (Int×Int)→Int→Int
 |[],_=>0
 |(k,x)::l,n=>if n=k then x else getM l n
def ud:List (Int×Int)→Int→Int→List (Int×Int)
 |[],n,v=>[(n,v)]
 |(k,x)::l,n,v=>if n=k then(n,v)::l else(k,x)::ud l n v
theorem ta (n v m:Int):∀l,getM (ud l n v) m=if m=n then v else getM l m
 |[]=>rfl
 |(k,x)::l=>by
  unfold ud
  by_cases h:n=k
  ·subst h;rw[if_pos rfl];unfold getM
   by_cases h2:m=n<;>simp[h2]
  ·rw[if_neg h];unfold getM;rw[ta n v m l]
   by_cases h2:m=n
   ·subst h2;simp[h]
   ·simp[h2]
theorem yy (n:Int):∀(l:List (Int×Int)) (i:Nat),(jJ .i64 n (nu l) i=some none∧getM l n=0∧∀v,ud l n v=l++[(n,v)])∨∃j,jJ .i64 n (nu l) i=some (some (i+j,.int .i64 (getM l n)))∧∀v,ud l n v=l.set j (n,v)
 |[],i=>.inl ⟨rfl,rfl,fun v=>rfl⟩
 |(k,x)::l,i=>by
  by_cases h:n=k
  ·subst h;exact .inr ⟨0,by simp[nu,jJ,getM],fun v=>by simp[ud]⟩
  ·have hb:(n==k)=false:=by simpa using h
   rcases yy n l (i+1) with⟨h1,h2,h3⟩|⟨j,h1,h3⟩
   ·refine .inl ⟨?_,by simp[getM,h,h2],fun v=>by simp[ud,h,h3 v]⟩;show(if IntKind.i64=IntKind.i64 then(if(n==k)=true then some (some (i,D.int .i64 x)) else jJ .i64 n (nu l) (i+1)) else none)=_;rw[hb];exact h1
   ·refine .inr ⟨j+1,?_,fun v=>by simp[ud,h,h3 v]⟩;show(if IntKind.i64=IntKind.i64 then(if(n==k)=true then some (some (i,D.int .i64 x)) else jJ .i64 n (nu l) (i+1)) else none)=_;rw[hb];simp only[getM,h,if_false];rw[show i+(j+1)=i+1+j by omega];exact h1
variable{P:Pv}
variable{k:Nat}{l:List (Int×Int)}{kk:IntKind}{n v:Int}
theorem xI {st:St} {t kt e:TypeId} (ht:P.db t=some (.map kt e)) (hk:P.db kt=some (.int kk)) (hb:st.bs[k]?=some (.map (nu l))) (hw:st.ku k 0=true):
  mw P t (.mp k) (.int .i64 n) (.int .i64 v) st=some {st with bs:=st.bs.set k (.map (nu (ud l n v)))}:=by
 unfold mw;simp only[ht,hk,hb,hw]
 rcases yy n l 0 with⟨h1,_,h3⟩|⟨j,h1,h3⟩
 ·rw[h1,h3 v];simp[nu]
 ·rw[h1,h3 v];simp[nu]
theorem FX {st:St} {t kt e:TypeId} (ht:P.db t=some (.map kt e)) (hk:P.db kt=some (.int kk)) (he:zx P e=some (.int .i64 0)) (hb:st.bs[k]?=some (.map (nu l))):
  sJ P t (.mp k) (.int .i64 n) st=some (.int .i64 (getM l n)):=by
 unfold sJ;simp only[ht,hk,hb]
 rcases yy n l 0 with⟨h1,h2,_⟩|⟨j,h1,_⟩
 ·rw[h1,h2];exact he
 ·rw[h1]
variable{N:Nat} {S st:St} {H:List bo} {fr aM:Fr} {ops:Array Oper} {rest:List Oper} {Q:Fr→St→Prop} {dst ty:Nat} {pp:String} {a:Array Edge} {g:Option (Nat×Bool)}
theorem ab.nC {t:TypeId} {aM:Nat→Fr} (hH:Has N S st H) (hg:aH ops fr ⟨some dst,.makeMap t none,ty,pp,a,g⟩=some true) (hp:∀k,fr.put dst (.mp k)=aM k)
  (h:∀k ai,S.bs.length≤k→Has N S ai (.box k (.map (nu []))::H)→ab P ops rest (aM k) ai Q):ab P ops (⟨some dst,.makeMap t none,ty,pp,a,g⟩::rest) fr st Q:=
 YH hg rfl (d:=.mp st.bs.length) (st1:=st.push (.map [])) rfl (hp _) (h _ _ hH.len (hH.p_ _))
variable{j:Nat}{mo ko vo:Operand}
theorem ab.HW {t kt e:TypeId} (hH:Has N S st H) (hg:aH ops fr ⟨none,.mapUpdate t mo ko vo,ty,pp,a,g⟩=some true) (ht:P.db t=some (.map kt e)) (hk:P.db kt=some (.int kk)) (hm:fr.ev mo=.mp k) (hn:fr.ev ko=.int .i64 n) (hv:fr.ev vo=.int .i64 v) (hj:H[j]?=some (.box k (.map (nu l)))) (h:∀ai,Has N S ai (H.set j (.box k (.map (nu (ud l n v)))))→ab P ops rest fr ai Q):ab P ops (⟨none,.mapUpdate t mo ko vo,ty,pp,a,g⟩::rest) fr st Q:=by
 refine ab.N hg rfl (d:=.tup []) (st1:=⟨st.bs.set k (.map (nu (ud l n v))),st.flr,st.ro⟩) ?_ (h _ (hH.rE (aE:=0) hj));simp only[eS,hm,hn,hv,xI ht hk (hH.at hj) (jT hH (cs:=[]) (hH.ge hj).1 (.inr rfl)),Wh]
theorem ab.Py {t kt e:TypeId} (hH:Has N S st H) (hg:aH ops fr ⟨none,.insert t mo ko vo,ty,pp,a,g⟩=some true) (ht:P.db t=some (.map kt e)) (hk:P.db kt=some (.int kk)) (hm:fr.ev mo=.mp k) (hn:fr.ev ko=.int .i64 n) (hv:fr.ev vo=.int .i64 v) (hj:H[j]?=some (.box k (.map (nu l)))) (h:∀ai,Has N S ai (H.set j (.box k (.map (nu (ud l n v)))))→ab P ops rest fr ai Q):ab P ops (⟨none,.insert t mo ko vo,ty,pp,a,g⟩::rest) fr st Q:=by
 refine ab.N hg rfl (d:=.tup []) (st1:=⟨st.bs.set k (.map (nu (ud l n v))),st.flr,st.ro⟩) ?_ (h _ (hH.rE (aE:=0) hj));simp only[eS,hm,hn,hv,xI ht hk (hH.at hj) (jT hH (cs:=[]) (hH.ge hj).1 (.inr rfl)),Wh]
theorem ab.Pz {t kt e:TypeId} (hH:Has N S st H) (hg:aH ops fr ⟨some dst,.lookup t mo ko false,ty,pp,a,g⟩=some true) (ht:P.db t=some (.map kt e)) (hk:P.db kt=some (.int kk)) (he:zx P e=some (.int .i64 0)) (hm:fr.ev mo=.mp k) (hn:fr.ev ko=.int .i64 n) (hj:H[j]?=some (.box k (.map (nu l)))) (hp:fr.put dst (.int .i64 (getM l n))=aM) (h:ab P ops rest aM st Q):ab P ops (⟨some dst,.lookup t mo ko false,ty,pp,a,g⟩::rest) fr st Q:=by
 refine YH hg rfl (d:=.int .i64 (getM l n)) (st1:=st) ?_ hp h;simp only[eS,hm,hn,FX ht hk he (hH.at hj),Wh]
end Go.V
namespace Go.Proofs.YtecjacicdpejaaaGreat
open Go.V Go
def aL (fr:Go.V.Fr) (k:Nat):Go.V.D:=Go.V.nth .bI fr.loc k
structure GT where
 pc:Int
 c:j4
def dA (t:GT):List D:=[.int .i64 t.pc,.int .i64 (t.c 0),.int .i64 (t.c 1),.int .i64 (t.c 2),.int .i64 (t.c 3),.int .i64 (t.c 4),.int .i64 (t.c 5),.int .i64 (t.c 6),.int .i64 (t.c 7),.int .i64 (t.c 8),.int .i64 (t.c 9)]
theorem Ca {l:List GT} {i:Nat} {q:GT} (h:l[i]?=some q):(l.map dA)[i]?=some (dA q):=by rw[ο,h];rfl
def mF (p:Pg) (s:Int) (m:Nat) (n:Int):Prop:=n=s∨∃i q,i<m∧n=((i+1:Nat):Int)∧(bR p.code s)[i]?=some true∧p.code[i]?=some q∧q.op=1
def oE (p:Pg) (s:Int) (bn:List GT) (m:Nat) (n:Int):Prop:=mF p s p.code.length n∧∀j t,j<m→bn[j]?=some t→t.pc≠n
def lP (p:Pg) (s:Int) (bn:List GT) (place:Int) (m:Nat):Prop:=∀j t,j<m→bn[j]?=some t→oE p s bn j t.pc∧cz t.c place
variable{p:Pg}{s n:Int}
theorem yr {m:Nat} {b:Bool} {q:aP} (hb:(bR p.code s)[m]?=some b) (hq:p.code[m]?=some q):mF p s (m+1) n↔mF p s m n∨(n=((m+1:Nat):Int)∧(b &&(q.op==1))=true):=by
 unfold mF;constructor
 ·rintro(h|⟨i,q',h1,h2,h3,h4,h5⟩)
  ·exact .inl (.inl h)
  ·by_cases he:i=m
   ·subst he;rw[hb] at h3;cases h3;rw[hq] at h4;cases h4;exact .inr ⟨h2,by simp[h5]⟩
   ·exact .inl (.inr ⟨i,q',by omega,h2,h3,h4,h5⟩)
 ·rintro((h|⟨i,q',h1,h2,h3,h4,h5⟩)|⟨h1,h2⟩)
  ·exact .inl h
  ·exact .inr ⟨i,q',by omega,h2,h3,h4,h5⟩
  ·simp only[Bool.and_eq_true,beq_iff_eq] at h2;obtain⟨rfl,h2⟩:=h2;exact .inr ⟨m,q,by omega,h1,hb,hq,h2⟩
variable{bn:List GT}{j:Nat}{t:GT}
theorem Gw (ht:bn[j]?=some t):oE p s bn (j+1) n↔oE p s bn j n∧n≠t.pc:=by
 unfold oE;constructor
 ·rintro⟨h1,h2⟩;exact⟨⟨h1,fun j' t' hj h=>h2 j' t' (by omega) h⟩,fun h=>h2 j t (by omega) ht h.symm⟩
 ·rintro⟨⟨h1,h2⟩,h3⟩;refine⟨h1,fun j' t' hj h=>?_⟩
  by_cases he:j'=j
  ·subst he;rw[ht] at h;cases h;exact fun h=>h3 h.symm
  ·exact h2 j' t' (by omega) h
theorem u_ {place:Int} (ht:bn[j]?=some t) (h:lP p s bn place j) (h1:oE p s bn j t.pc) (h2:cz t.c place):lP p s bn place (j+1):=by
 intro j' t' hj h'
 by_cases he:j'=j
 ·subst he;rw[ht] at h';cases h';exact⟨h1,h2⟩
 ·exact h j' t' (by omega) h'
theorem Km {s0:St} (hp:p.ok) (hR:bm p) {r:Nat} (hr:p.ak[r]?=some s) {dn:Bool} {b:j4} {td:D} (Au:V.Rows s0 11 td (bn.map dA)) (hl:bn.length≤1048576) (place:Int):
  Ev pv 151 [p.d,.int .i64 (r:Nat),.agg (aX dn b td),.int .i64 place] s0 (.bool (dec (lP p s bn place bn.length))) s0:=by
 have hcl:=hR.closed;have jO:=hR.st s (κ hr);have E8:=hp.c;have hlen:=hp.cl;have sQ:=nU p.code s;have hr8:=hR.sl;have acR:=bp hr;refine Ev.gP rfl XA rfl rfl rfl ?_;refine zE ?_;obtain⟨aN,hF,hH⟩:=ri s0;generalize ae .ro s0=S at*;have hc:=hp.c.arg s0.bs.length S;have hs:=hp.s.arg s0.bs.length S;have N6:=Arg.of Au aN;have L9:=(qX (bR p.code s)).arg s0.bs.length S;have gw:=fJ hr;unfold Pg.d;refine zQ 2 ?_;refine qb hH fun k4 st QQ hH=>?_;dsimp only[u2,u1,u3,u4,setMany,u5,u6,ι,γ,aJ,aX,aA,az,Pg.cs,dA,cQ] at hH;refine qb hH fun k6 st Gj hH=>?_;dsimp only[u2,u1,u3,u4,setMany,u5,u6,ι,γ,aJ,aX,aA,az,Pg.cs,dA,cQ] at hH;refine zQ 9 ?_;refine qr fun Rp Ge=>?_;refine qR ?_;refine qv ((Ig E8 hlen hcl jO)) ?_;refine zQ 4 ?_;refine ab.nC hH rfl (fun _=>by dsimp only[Fr.put,u1,u2]<;>rfl) (fun km st hkm hH=>?_);refine zQ 3 ?_;refine qr fun Zi Sk=>?_;refine qR ?_;refine ab.Py hH rfl rfl rfl rfl rfl rfl aB (fun st hH=>?_);dsimp only[u2] at hH;refine zQ 7 ?_;refine qn ?_;simp only[ζ];refine zQ 3 ?_;refine ag.loop (fun mm fr st=>∃(i:Nat) (M:List (Int×Int)),fr.clean=⟨55,[aL fr 0,.int .i64 (r:Nat),aL fr 2,.int .i64 place,.ptr k4 0 0,aL fr 5,.ptr k6 0 0,aL fr 7,aL fr 8,aL fr 9,.mp km,aL fr 11,aL fr 12,aL fr 13,aL fr 14,aL fr 15,aL fr 16,aL fr 17,aL fr 18,aL fr 19,aL fr 20,aL fr 21,aL fr 22,aL fr 23,aL fr 24,aL fr 25,aL fr 26,aL fr 27,aL fr 28,aL fr 29,rV (bR p.code s),.int .i64 ((bR p.code s).length:Nat),.int .i64 (i:Nat),aL fr 33,aL fr 34,aL fr 35,aL fr 36,aL fr 37,aL fr 38,aL fr 39,aL fr 40,aL fr 41,aL fr 42,aL fr 43,aL fr 44,aL fr 45,aL fr 46,aL fr 47,aL fr 48,aL fr 49,aL fr 50,aL fr 51,aL fr 52,aL fr 53,aL fr 54],[]⟩∧Has s0.bs.length S st [.box km (.map (nu M)),.box k6 (.mem 0 false (aX dn b td)),.box k4 (.mem 0 false [p.cd,p.sd])]∧(i+mm=p.code.length)∧(∀n,getM M n≠0↔mF p s i n)) (p.code.length) ?_ ?_
 ·refine⟨0,_,rfl,hH,by omega,?_⟩;intro n;rw[ta];unfold mF
  by_cases hn:n=s<;>simp[hn,getM]
 rintro mm fr st ⟨i,M,hfr,hH,hi,hM⟩;rw[hfr];clear hfr;generalize aL fr=ee;clear fr;refine zQ 5 ?_;refine zP (fun h1=>?_) fun h1=>?_
 ·refine zQ 1 ?_
  obtain⟨b,hb⟩:∃b,(bR p.code s)[i]?=some b:=⟨(bR p.code s)[i]'(by omega),ε _⟩
  obtain⟨q,hq⟩:∃q,p.code[i]?=some q:=⟨p.code[i]'(by omega),ε _⟩
  have gw:=mb hb;have nB:=gM hq;refine zQ 5 ?_;refine qr fun Ug Me=>?_;refine zQ 5 ?_;refine ag.oM 46 (.bool (b &&(q.op==1))) [37,38,39,40,41,42,43,44,45] ?_ (fun ff tmp=>?_)
  ·refine zQ 2 ?_;refine Cr 38 rfl (fun mY=>?_) (fun mY=>?_)
   ·refine zQ 3 ?_;refine qr (fun p42 Vh=>?_) (hg:=wi mY);refine qf (fo:=0) (fun Ze Sh=>?_) (hg:=wi mY);refine zQ 3 ?_;refine μ (bu ?_);refine zG ?_
    all_goals(simp[mY];done)
   ·refine zQ 8 ?_;refine μ (bu ?_);refine zG ?_
    all_goals(simp[mY];done)
  dsimp only[aK,υ,nth,u2,u1];generalize ff 37=e37;generalize ff 38=e38;generalize ff 39=e39;generalize ff 40=e40;generalize ff 41=e41;generalize ff 42=e42;generalize ff 43=e43;generalize ff 44=e44;generalize ff 45=e45;refine zF ?_;refine qc (fun h2=>?_) (fun h2=>?_)<;>try simp only[cs] at h2
  ·refine zQ 4 ?_;refine ab.HW hH rfl rfl rfl rfl rfl rfl aB (fun st hH=>?_);dsimp only[u2] at hH;refine zQ 5 ?_;refine⟨mm-1,by omega,⟨i+1,_,rfl,hH,by omega,?_⟩⟩;intro n;rw[ta,yr hb hq,h2,←hM n]
   by_cases hn:n=((i+1:Nat):Int)
   ·rw[if_pos (by rw[hn];omega)];simp[hn]
   ·rw[if_neg (by omega)];exact⟨.inl,fun h=>h.elim id fun h=>absurd h.1 hn⟩
  ·refine zQ 5 ?_;refine⟨mm-1,by omega,⟨i+1,_,rfl,hH,by omega,?_⟩⟩;intro n;rw[yr hb hq,←hM n];exact⟨.inl,fun h=>h.elim id fun h=>absurd h.2 (by rw[h2];decide)⟩
 ·refine zQ 1 ?_;have hM:∀n,getM M n≠0↔oE p s bn 0 n:=fun n=>by rw[hM n];unfold oE;rw[show i=p.code.length by omega];simp
  refine zQ 5 ?_;refine qn ?_;simp only[ζ];refine zQ 3 ?_;refine ag.loop (fun mm fr st=>∃(j:Nat) (M:List (Int×Int)),fr.clean=⟨55,[aL fr 0,.int .i64 (r:Nat),aL fr 2,.int .i64 place,.ptr k4 0 0,aL fr 5,.ptr k6 0 0,aL fr 7,aL fr 8,aL fr 9,.mp km,aL fr 11,aL fr 12,aL fr 13,aL fr 14,aL fr 15,aL fr 16,aL fr 17,aL fr 18,aL fr 19,aL fr 20,aL fr 21,aL fr 22,aL fr 23,aL fr 24,aL fr 25,aL fr 26,aL fr 27,aL fr 28,aL fr 29,aL fr 30,aL fr 31,aL fr 32,aL fr 33,aL fr 34,aL fr 35,aL fr 36,aL fr 37,aL fr 38,aL fr 39,aL fr 40,aL fr 41,aL fr 42,aL fr 43,aL fr 44,aL fr 45,aL fr 46,aL fr 47,aL fr 48,aL fr 49,aL fr 50,aL fr 51,td,.int .i64 (bn.length:Nat),.int .i64 (j:Nat)],[]⟩∧Has s0.bs.length S st [.box km (.map (nu M)),.box k6 (.mem 0 false (aX dn b td)),.box k4 (.mem 0 false [p.cd,p.sd])]∧(j+mm=bn.length)∧(∀n,getM M n≠0↔oE p s bn j n)∧(lP p s bn place j)) (bn.length) ?_ ?_
  ·exact⟨0,_,rfl,hH,by omega,hM,(by intro j t h;omega)⟩
  rintro mm fr st ⟨j,M,hfr,hH,hj,hM,hw⟩;rw[hfr];clear hfr;generalize aL fr=ee;clear fr;refine zQ 5 ?_;refine zP (fun h3=>?_) fun h3=>?_
  ·refine zQ 1 ?_
   obtain⟨t,ht⟩:∃t,bn[j]?=some t:=⟨bn[j]'(by omega),ε _⟩
   have Gc:=Ca ht;refine zQ 4 ?_;refine qr fun Za Sd=>?_;refine LL rfl (ev rfl) (by assumption) rfl (aa rfl _) ?_;refine qa hH fun k14 st PC hH=>?_;dsimp only[u2,u1,u3,u4,setMany,u5,u6,ι,γ,aJ,aX,aA,az,Pg.cs,dA,cQ] at hH;refine qS hH aB fun st hH=>?_;dsimp only[u2,u1,u3,u4,setMany,u5,u6,ι,γ,aJ,aX,aA,az,Pg.cs,dA,cQ] at hH;refine zQ 3 ?_;refine ag.dM 69 (.bool (getM M t.pc==0||!(dec (cz t.c place)))) [] ?_ (fun ff tmp dj=>?_)
   ·refine zQ 3 ?_;refine ab.Pz hH rfl rfl rfl rfl rfl rfl aO (aa rfl _) ?_;refine zQ 2 ?_;refine Cr 63 rfl (fun cK=>?_) (fun cK=>?_)
    ·refine zQ 6 ?_;refine μ (aR ?_ ?_)
     ·dsimp only[aK,υ,nth,u2,u1]
      all_goals(first|rfl|simp)
     ·refine zF ?_
      all_goals(simp[cK];done)
    ·refine zQ 1 ?_;refine ZD (m:=10) hH (af rfl rfl rfl cK) (ev rfl) (by exact aB) (by dsimp only[η,ν,θ,ξ,aJ,aX,aA,az,Pg.cs,dA,cQ]<;>rfl) rfl rfl (aa rfl _) ?_;refine zQ 1 ?_;refine qv (ug t.c place) ?_ (hg:=wi cK);refine zQ 2 ?_;refine μ (aR ?_ ?_)
     ·dsimp only[aK,υ,nth,u2,u1]
      all_goals(first|rfl|simp)
     ·refine zF ?_
      all_goals(simp[cK];done)
   refine zG ?_;refine qc (fun h4=>?_) (fun h4=>?_)<;>try simp only[cs] at h4
   ·rw[dp (fun h=>by
     have:=h j t (by omega) ht;rw[b_ this.2] at h4;have h5:=(hM t.pc).2 this.1
     simp[h5] at h4)]
    refine zQ 4 ?_;refine ag.ret ⟨rx,_,rfl,rl aN hH (rfl)⟩
   ·refine zQ 5 ?_;refine ab.HW hH rfl rfl rfl rfl rfl rfl aO (fun st hH=>?_);dsimp only[u1,u2] at hH;refine zQ 5 ?_;refine⟨mm-1,by omega,⟨j+1,_,rfl,hH.drop 1,by omega,?_,?_⟩⟩
    ·intro n;rw[ta,Gw ht,←hM n]
     by_cases hn:n=t.pc<;>simp[hn]
    ·simp only[Bool.or_eq_false_iff,beq_eq_false_iff_ne,ne_eq,Bool.not_eq_false'] at h4;exact u_ ht hw ((hM t.pc).1 h4.1) (@of_decide_eq_true _ (Classical.propDecidable _) h4.2)
  ·refine zQ 1 ?_;rw[show bn.length=j by omega,b_ hw];refine zQ 4 ?_;refine ag.ret ⟨rx,_,rfl,rl aN hH (rfl)⟩
end Go.Proofs.YtecjacicdpejaaaGreat
