/-
 A machine's list is expanded.
-/
import Derived.Test.YtkbacjpologjbaaGreatWGHr
import Derived.Test.YtkbacjpologjbaaGreatWGNe
import Derived.Test.YtkbacjpologjbaaGreatWGQe
import Derived.Test.YtkbacjpologjbaaGreatWGJi
import Derived.Test.YtkbacjpologjbaaGreatWM2
set_option maxRecDepth 100000
set_option maxHeartbeats 4000000
set_option linter.unusedSimpArgs false
set_option linter.unusedVariables false
set_option linter.unusedSectionVars false
open Nat renaming reduceAdd→γ,le_of_ble_eq_true→ζ,le_refl→Ψ,le_trans→Qah
open List renaming drop_succ_cons→δ,take_succ_cons→ε,getElem?_eq_getElem→η,length_map→θ,drop_zero→ι,take_zero→κ,mem_of_getElem?→ξ,foldl→ο,getElem?_map→π,map_append→ρ,length_nil→τ,length_cons→υ,not_mem_nil→φ,append_assoc→ψ,mem_cons→ω,getElem?_set_ne→Δ,length_set→Θ,mem_map→Φ,cons_append→Ω,getElem?_set_self→v8,take_of_length_le→GB,getElem?_eq_none→BY,count_le_length→IT,take_add_one→AN,drop_append_of_le_length→AT,foldl_cons→AI,foldl_nil→Qa1,drop_eq_getElem_cons→Qa2,getElem?_cons_succ→Qa3,map_set→Qa4,length_replicate→Qa6,drop_eq_nil_iff→Qa7,getElem?_of_mem→Qa8,mem_cons_of_mem→Qa9,ext_getElem?→Qab,length_take→Qad,replicate→Qae
open Go.V.ab renaming nil→μ,aH→χ,two→IN,go→Qa0,ck→Qag,cM→Qai,hU→Qal
open Go.V.D renaming cells→ν,ref→Qaj
open Classical renaming propDecidable→ς
open Bool renaming and_eq_true_iff→Γ,or_eq_false_iff→IS,not_eq_false'→Pd,eq_false_iff→Qaa,and_eq_true→Qac
open Go.V.Has renaming ki→Ξ,start→Qak
open Option renaming map_some→wt,toList_some→OF,some→Qa5,map→Qaf
open Go.V.Fr renaming put→Pe
namespace Go.Proofs.YtkbacjpologjbaaGreat
open Go.V Go
theorem zjsa {A B:Prop} (h:A) (e:A→B:=by intro h;dsimp only[u2,u1,u3,u4,setMany,u5,u6,ν,γ,aK,bM,aV,aE,jl] at h;exact h):B:=e h
theorem zjsb {A B:Prop} (h:A) (e:A→B:=by intro h;dsimp only[u2,u1,u3,u4,setMany,u5,u6,ν,γ,Pg.cs,aK,ax] at h;exact h):B:=e h
theorem zjsc {A B:Prop} (h:A) (e:A→B:=by intro h;dsimp only[u2,u1,u3,u4,setMany,u5,u6,ν,γ,aK,bM,aV,aE,jl,ax] at h;exact h):B:=e h
theorem zjsd {A B:Prop} (h:A) (e:A→B:=by intro h;dsimp only[u2,u1,u3,u4,setMany,u5,u6,ν,γ,aK,bM,aV,aE,jl,Kr] at h;exact h):B:=e h
theorem zjse {A B:Prop} (h:A) (e:A→B:=by intro h;dsimp only[u2,u1,u3,u4,setMany,u5,u6,ν,γ,aK,aV,aE,ax,Pg.cs,fI,bV] at h;exact h):B:=e h
def c7 (fr:Go.V.Fr) (k:Nat):Go.V.D:=Go.V.nth .bo fr.loc k
structure VL where
 dn:Bool
 aY:kq
 td:D
 bn:List gH
def jl (l:VL):List D:=aV l.dn l.aY l.td
def wo (l:VL):a8:=.aC l.td 11 (l.bn.map bM)
variable{L:List VL}{i:Nat}{l:VL}{H:List a8}
theorem G5 (A:List a8) {n:Nat} (hn:A.length=n) (h:L[i]?=some l):(A++(L.map wo++H))[n+i]?=some (wo l):=by
 have hi:=bc h;rw[List.getElem?_append_right z0,List.getElem?_append_left (by simp;omega),hn,Nat.add_sub_cancel_left,π,h];rfl
theorem Cd (h:L[i]?=some l):(L.map jl)[i]?=some (jl l):=by rw[π,h];rfl
theorem D4 {l:List gH} {q:gH} (h:l[i]?=some q):(l.map bM)[i]?=some (bM q):=by rw[π,h];rfl
variable{N:Nat}{S st:St}{x:D}
theorem u9 {j:Nat} {s:Nat} {es:List (List D)} (h:Has N S st H) (hj:H[j]?=some (.aC x s es)):x.ref≤st.bs.length:=by
 rcases Nat.eq_zero_or_pos x.ref with h0|h0
 ·omega
 ·have:=h.vd hj (k:=x.ref-1) (by show x.ref=x.ref-1+1;omega);omega
def MH (A:List a8) (N:Nat) (S st:St) (ks kv:Nat) (p:Pg) (pl:Nat) (ld:D) (L:List VL) (H:List a8):Prop:=
 ∃pd qd P Q sn,Has N S st (A++(.box kv (.mem 0 false [p.cd,p.sd,.int .i64 (pl:Nat),ld,.ptr ks 0 0])::.box ks (.mem 0 false [pd,qd])::.aC pd 1 (P.map iJ)::.aC qd 2 (Q.map qY)::.aC ld 12 (L.map jl)::(L.map wo++H)))∧dM P Q sn∧sn.length=p.code.length
variable{ks kv:Nat}{p:Pg}{ld:D}
theorem MH.push (A B:List a8) {pl:Nat} (h:MH (A++B) N S st ks kv p pl ld L H):MH B N S st ks kv p pl ld L (A++H):=by
 obtain⟨pd,qd,P,Q,sn,hH,aT,eI⟩:=h;refine⟨pd,qd,P,Q,sn,?_,aT,eI⟩;have:=Ξ (H:=H) A (B++(.box kv (.mem 0 false [p.cd,p.sd,.int .i64 (pl:Nat),ld,.ptr ks 0 0])::.box ks (.mem 0 false [pd,qd])::.aC pd 1 (P.map iJ)::.aC qd 2 (Q.map qY)::.aC ld 12 (L.map jl)::L.map wo)) (by simpa only[ψ,Ω] using hH)
 simpa only[ψ,Ω] using this
theorem MH.pull (A B:List a8) {pl:Nat} (h:MH B N S st ks kv p pl ld L (A++H)):MH (A++B) N S st ks kv p pl ld L H:=by
 obtain⟨pd,qd,P,Q,sn,hH,aT,eI⟩:=h;refine⟨pd,qd,P,Q,sn,?_,aT,eI⟩;have:=Ξ (H:=H) (B++(.box kv (.mem 0 false [p.cd,p.sd,.int .i64 (pl:Nat),ld,.ptr ks 0 0])::.box ks (.mem 0 false [pd,qd])::.aC pd 1 (P.map iJ)::.aC qd 2 (Q.map qY)::.aC ld 12 (L.map jl)::L.map wo)) A (by simpa only[ψ,Ω] using hH)
 simpa only[ψ,Ω] using this
def tU (code:List aL) (pl:Nat) (e:Bool):List gH→Wk→Wk
 |[],w=>w
 |t::ts,w=>if(dh code pl e (code.length+1) w t).2=true then(dh code pl e (code.length+1) w t).1 else tU code pl e ts (dh code pl e (code.length+1) w t).1
def tk (n:Nat) (dn:Bool) (aY:kq):Wk:=⟨Qae n false,dn,aY,[]⟩
theorem vL (code:List aL) (pl:Nat) (e:Bool):∀(l:List gH) (w:Wk),Good code w (tU code pl e l w)
 |[],w=>.refl
 |t::ts,w=>by
  unfold tU
  split
  ·exact dC ..
  ·exact(dC ..).trans (vL code pl e ts _)
variable{s0:St}{e:Bool}
theorem Gq {pl:Nat} (hF:S.flr≤N) (hp:p.ok) (hR:a7 p) (ia:pl≤4000000000000) (hl:L[i]?=some l) (MW:∀t∈l.bn,t.pc<p.code.length) (mA:l.bn.length≤1048576) (hM:MH [] N S s0 ks kv p pl ld L H):
  ∃r ah,Ev pv 156 [.ptr kv 0 0,.int .i64 (i:Nat),.bool e] s0 r ah∧∃rd,r=.tup [.agg (aV (tU p.code pl e l.bn (tk p.code.length l.dn l.aY)).dn (tU p.code pl e l.bn (tk p.code.length l.dn l.aY)).aY .nul),rd]∧MH [.aC rd 11 ((tU p.code pl e l.bn (tk p.code.length l.dn l.aY)).rdy.map bM)] N S ah ks kv p pl ld L H:=by
 obtain⟨pd,qd,P,Q,sn,hH,aT,eI⟩:=hM;have hcl:=hR.cl;have fU:=Cd hl;have hil:=bc hl;generalize hW:tU p.code pl e l.bn (tk p.code.length l.dn l.aY)=W at*;obtain⟨dn,aY,td,bn⟩:=l;simp only at hW MW mA;dsimp only[u4] at hH;refine Ev.eH rfl Ss rfl rfl rfl ?_;refine zE ?_;change ag _ _ _ _ s0 _;refine qq<|qj fun K hK=>qa hH fun k6 st De hH=>?_;refine qm ?_;refine qe hK<|qq<|qj fun K hK=>qm ?_;refine qg ?_;refine qp (o:=3) ?_;refine ql hH bt ?_;refine qm ?_;refine qi hH ke fun Qj II=>?_;refine ab.yE hH rfl z3 z5 (by exact ke) z5 rfl (by dsimp only[Pe,u1,u2]<;>rfl) ?_;refine qa hH fun k8 st LQ hH=>?_;refine qS hH aJ fun st hH=>?_;have hH:=zjsa hH;refine qe hK<|qq<|qj fun K hK=>qp (o:=0) ?_;refine ql hH aJ ?_;refine qp (o:=1) ?_;refine χ (m:=10) hH rfl z3 (by exact aJ) (by dsimp only[δ,ι,ε,κ,aK,bM,aV,aE,jl]<;>rfl) rfl rfl (by dsimp only[Pe,u1,u2]<;>rfl) ?_;refine Qa0 (d:=.agg (aV dn aY .nul)) (st1:=_) rfl rfl rfl (by dsimp only[Pe,u1,u2]<;>rfl) ?_;refine qa hH fun k9 st Rw hH=>?_;refine qS hH aJ fun st hH=>?_;have hH:=zjsa hH;refine qe hK<|qq<|qj fun K hK=>qm ?_;refine Qal (qs:=[(0,_),(2,_)]) rfl rfl rfl rfl ⟨rfl,z3,(by rfl),rfl,z3,(by rfl),trivial⟩ (by intro q hq;simp only[ω,φ,or_false] at hq;rcases hq with rfl|rfl<;>exact⟨rfl,by exact ζ rfl⟩) (by show ο _ [_,_,_] _=_;dsimp only[AI,Qa1,u2,u1]<;>rfl) (by dsimp only[Pe,u1,u2]<;>rfl) ?_;refine qb hH fun k27 st VS hH=>?_;refine qm ?_;refine qe hK ?_;have bD:=hH;refine qq<|qj fun K hK=>qm ?_;refine qg ?_;refine qp (o:=4) ?_;refine ql hH ie ?_;obtain⟨_,st,aA,rfl,pd,qd,P,Q,hH,aT⟩:=sJ [_,_,_,_,_] hF aT hH;dsimp only[u3,u4] at hH;refine qv aA ?_;refine qe hK ?_;clear bD;rw[eI] at aT;have hH:=Ξ [_,_,_,_] [_] hH;have hH:=Ξ [_,_,_,_,_] [_,_,_] hH;have hH:=Ξ [_,_,_] [_,_,_] hH;have hH:=Ξ [_] [_,_,_] (hH.fG 11);dsimp only[u3,u4] at hH;have U2:=hH.rows (G5 [_,_,_,_,_,_,_,_,_,_] rfl hl);have RK:=vL p.code pl e bn (tk p.code.length dn aY);refine qq<|qq<|qj fun K hK=>qp (o:=11) ?_;refine ql hH oX ?_;refine ab.Aw rfl z3 U2 rfl (by dsimp only[Pe,u1,u2]<;>rfl) ?_;simp only[θ];refine qm ?_;refine qe hK<|ag.block<|ag.loop (fun mm fr st=>∃(j:Nat) (w:Wk) (rest:List gH) (rd pd qd:D) (P Q:List Nat),fr.clean=⟨37,[.ptr kv 0 0,.int .i64 (i:Nat),.bool e,c7 fr 3,c7 fr 4,c7 fr 5,.ptr k6 0 0,.nul,.ptr k8 0 0,.ptr k9 0 0,.ptr k27 0 0,c7 fr 11,c7 fr 12,c7 fr 13,c7 fr 14,c7 fr 15,c7 fr 16,c7 fr 17,c7 fr 18,c7 fr 19,c7 fr 20,c7 fr 21,c7 fr 22,c7 fr 23,c7 fr 24,c7 fr 25,c7 fr 26,c7 fr 27,c7 fr 28,c7 fr 29,c7 fr 30,c7 fr 31,c7 fr 32,c7 fr 33,td,.int .i64 (bn.length:Nat),.int .i64 (j:Nat)],[]⟩∧Has N S st (.box kv (.mem 0 false [p.cd,p.sd,.int .i64 (pl:Nat),ld,.ptr ks 0 0])::.box k27 (.mem 0 false [.ptr k9 0 0,rd,.bool e])::.box k9 (.mem 0 false (aV w.dn w.aY .nul))::.aC rd 11 (w.rdy.map bM)::.box ks (.mem 0 false [pd,qd])::.aC pd 1 (P.map iJ)::.aC qd 2 (Q.map qY)::.box k8 (.mem 0 false (aV dn aY td))::.box k6 (.mem 0 false (aV false bQ .nul))::.aC ld 12 (L.map jl)::(L.map wo++H))∧(j+mm=bn.length)∧(rest=bn.drop j)∧(tU p.code pl e rest w=W)∧(w.seen.length=p.code.length)∧(w.rdy.length+w.seen.count false≤1048576)∧(dM P Q w.seen)) (bn.length) ?_ ?_
 ·exact⟨0,tk p.code.length dn aY,bn,.nul,_,_,_,_,rfl,hH,by omega,rfl,hW,by simp[tk],by(have:=IT (a:=false) (l:=(tk p.code.length dn aY).seen);simp[tk] at this⊢;omega),aT⟩
 rintro mm fr st ⟨j,w,rest,rd,pd,qd,P,Q,hfr,hH,hj,pI,hex,jS,wv,aT⟩;rw[hfr];clear hfr;generalize c7 fr=ee;clear fr;refine qq<|qj fun K hK=>qg ?_;refine qe hK ?_;have U2:=hH.rows (G5 [_,_,_,_,_,_,_,_,_,_] rfl hl);refine qq<|zP (fun hlt=>?_) fun hlt=>?_
 ·refine ag.skip ?_;have nX:j<bn.length:=by omega
  obtain⟨t,ht⟩:∃t,bn[j]?=some t:=⟨bn[j]'nX,η _⟩
  have QV:=D4 ht;have UN:=MW t (ξ ht)
  have tw:rest=t::bn.drop (j+1):=by
   rw[pI,Qa2 nX]
   congr 1
   exact Qa5.inj ((η _).symm.trans ht)
  have Gf:=IT (a:=false) (l:=w.seen);have V3:=dC p.code pl e (p.code.length+1) w t;rw[tw] at hex;have hex:(if(dh p.code pl e (p.code.length+1) w t).2=true then(dh p.code pl e (p.code.length+1) w t).1 else tU p.code pl e (bn.drop (j+1)) (dh p.code pl e (p.code.length+1) w t).1)=W:=hex;refine qq<|ag.block<|qq<|qj fun K hK=>ab.oG rfl z3 z3 U2 rfl rfl QV (fun _=>(aa rfl _)) (fun p38 Vo=>?_);refine qR ?_;refine qa hH fun k12 st VV hH=>?_;have hH:=zjsa hH;refine qS hH aJ fun st hH=>?_;have hH:=zjsa hH;refine qe hK<|qq<|qj fun K hK=>qm ?_;refine qm ?_;refine χ (m:=11) hH rfl z3 (by exact aJ) (by dsimp only[δ,ι,ε,κ,aK,bM,aV,aE,jl]<;>rfl) rfl rfl (aa rfl _) ?_;have hH:=hH.drop 1;obtain⟨_,st,aA,rfl,hT⟩:=MJ (ks:=ks) (kv:=kv) (kw:=k27) (kl:=k9) (S:=S) (H:=H) (ld:=ld) (e:=e) hF hp hR ia (p.code.length+1) w t _ _ UN jS z0 wv ⟨rd,pd,qd,P,Q,hH,aT⟩;refine qv aA ?_;refine qe hK ?_;generalize dh p.code pl e (p.code.length+1) w t=R1 at*;obtain⟨w1,b1⟩:=R1;obtain⟨lS,cj,bB,lR⟩:=V3;simp only at lS cj bB lR hT hex;obtain⟨rd,pd,qd,P,Q,hH,aT⟩:=hT;have Iw:w1.seen.length=p.code.length:=lS.trans jS
  cases b1 with
  |true=>
   rw[if_pos rfl] at hex;subst hex;refine qB ?_;refine ag.exit ?_;have hH:=Ξ [_,_,_,_,_,_,_] [_,_] hH;dsimp only[u3,u4] at hH;have zg:=hH;have QZ:=u9 hH ke;have QY:=hH.vd ie (k:=k9) rfl;change ag _ _ _ _ _ _;refine qq ?_;generalize hK:bS _ _ _ _=K;refine ag.yx rfl ?_;refine dg.cons ?_;refine χ (m:=12) hH rfl z3 (by exact ie) (by dsimp only[δ,ι,ε,κ,aK,bM,aV,aE,jl]<;>rfl) rfl rfl (aa rfl _) ?_;refine μ ⟨rfl,?_⟩;refine dg.cons ?_;refine qm ?_;refine μ ⟨rfl,?_⟩;refine dg.cons ?_;refine qg ?_;refine μ ⟨rfl,?_⟩;refine dg.cons ?_;refine qp (o:=1) ?_;refine μ ⟨rfl,?_⟩;refine dg.cons ?_;refine ql hH di ?_;refine μ ⟨rfl,?_⟩;refine dg.cons ?_;refine qS hH bt fun st hH=>?_;have hH:=zjsa hH;refine μ ⟨by exact Γ.2 ⟨jT rfl rfl rfl (zg.at di) (hH.at di) (zg.at di) (by simp only[refs,Qaj];omega),rfl⟩,?_⟩;refine dg.cons ?_;refine qm ?_;refine μ ⟨rfl,?_⟩;refine dg.nil ?_;subst hK;refine ag.ret ⟨rx,_,_,_,hH.dR rfl bt rfl rfl,rfl,rd,rfl,pd,qd,P,Q,_,?_,aT,Iw⟩;exact((Ξ [_,_,_] [_] (hH.drop 2)).erase 2).erase 2
  |false=>
   rw[if_neg (by decide)] at hex;refine qC ?_;refine ag.skip<|qj fun K hK=>qA ?_;refine qm ?_;refine qe hK ?_;exact⟨mm-1,by omega,⟨j+1,w1,bn.drop (j+1),rd,pd,qd,P,Q,rfl,hH,by omega,rfl,hex,Iw,by omega,aT⟩⟩
 ·refine ag.exit ?_;have IL:rest=[]:=by rw[pI,Qa7];omega
  subst IL;have hex:w=W:=hex;subst hex;have hH:=Ξ [_,_,_,_,_,_,_] [_,_] hH;dsimp only[u3,u4] at hH;have zg:=hH;have QZ:=u9 hH ke;have QY:=hH.vd ie (k:=k9) rfl;change ag _ _ _ _ _ _;refine qq ?_;generalize hK:bS _ _ _ _=K;refine ag.yx rfl ?_;refine dg.cons ?_;refine χ (m:=12) hH rfl z3 (by exact ie) (by dsimp only[δ,ι,ε,κ,aK,bM,aV,aE,jl]<;>rfl) rfl rfl (aa rfl _) ?_;refine μ ⟨rfl,?_⟩;refine dg.cons ?_;refine qm ?_;refine μ ⟨rfl,?_⟩;refine dg.cons ?_;refine qg ?_;refine μ ⟨rfl,?_⟩;refine dg.cons ?_;refine qp (o:=1) ?_;refine μ ⟨rfl,?_⟩;refine dg.cons ?_;refine ql hH di ?_;refine μ ⟨rfl,?_⟩;refine dg.cons ?_;refine qS hH bt fun st hH=>?_;have hH:=zjsa hH;refine μ ⟨by exact Γ.2 ⟨jT rfl rfl rfl (zg.at di) (hH.at di) (zg.at di) (by simp only[refs,Qaj];omega),rfl⟩,?_⟩;refine dg.cons ?_;refine qm ?_;refine μ ⟨rfl,?_⟩;refine dg.nil ?_;subst hK;refine ag.ret ⟨rx,_,_,_,hH.dR rfl bt rfl rfl,rfl,rd,rfl,pd,qd,P,Q,_,?_,aT,jS⟩;exact((Ξ [_,_,_] [_] (hH.drop 2)).erase 2).erase 2
def bP (fr:Go.V.Fr) (k:Nat):Go.V.D:=Go.V.nth .bo fr.loc k
def kY (l:List gH) (k:Nat):Bool:=l.any fun x=>x.pc==k
def sC (l:List gH) (t:gH):List gH:=if kY l t.pc=true then l else l++[t]
def FM (code:List aL) (pc:Nat):List Rg:=match code[pc]? with
 |some i=>i.rs
 |none=>[]
def ir (code:List aL) (r:Int):List gH→List gH→List gH
 |[],a=>a
 |t::ts,a=>ir code r ts (if jJ (FM code t.pc) r=true then sC a ⟨t.pc+1,t.c⟩ else a)
structure PL where
 dn:Bool
 aY:kq
 bn:List gH
def hD (code:List aL) (pl start:Nat) (r:Int) (l:PL):PL:=
 ⟨(tU code pl false l.bn (tk code.length l.dn l.aY)).dn,(tU code pl false l.bn (tk code.length l.dn l.aY)).aY,
  if(tU code pl false l.bn (tk code.length l.dn l.aY)).dn=true then ir code r (tU code pl false l.bn (tk code.length l.dn l.aY)).rdy []
  else sC (ir code r (tU code pl false l.bn (tk code.length l.dn l.aY)).rdy []) ⟨start,bN⟩⟩
theorem Dm (l:List gH) (t:gH) (k:Nat):kY (l++[t]) k=(kY l k||t.pc==k):=by
 unfold kY;rw[List.any_append];simp
theorem B7 (l:List gH) (t:gH):(sC l t).length≤l.length+1:=by
 unfold sC;split
 ·omega
 ·simp
variable{t:gH}
theorem we {l:List gH} {x:gH} (h:x∈sC l t):x∈l∨x=t:=by
 unfold sC at h;split at h
 ·exact .inl h
 ·rcases List.mem_append.1 h with h|h
  ·exact .inl h
  ·exact .inr (by simpa using h)
theorem uV {code:List aL} {r:Int}:∀(l a:List gH),(ir code r l a).length≤l.length+a.length∧∀x∈ir code r l a,x∈a∨∃t∈l,x.pc=t.pc+1
 |[],a=>⟨by simp[ir],fun x h=>.inl h⟩
 |t::ts,a=>by
  unfold ir
  split
  ·obtain⟨h1,h2⟩:=uV (code:=code) (r:=r) ts (sC a ⟨t.pc+1,t.c⟩);have:=B7 a ⟨t.pc+1,t.c⟩;refine⟨by simp only[υ];omega,fun x hx=>?_⟩
   rcases h2 x hx with h|⟨y,hy,he⟩
   ·rcases we h with h|h
    ·exact .inl h
    ·exact .inr ⟨t,List.mem_cons_self ..,by rw[h]⟩
   ·exact .inr ⟨y,Qa9 _ hy,he⟩
  ·obtain⟨h1,h2⟩:=uV (code:=code) (r:=r) ts a;refine⟨by simp only[υ];omega,fun x hx=>?_⟩
   rcases h2 x hx with h|⟨y,hy,he⟩
   ·exact .inl h
   ·exact .inr ⟨y,Qa9 _ hy,he⟩
def PL.ok (n:Nat) (l:PL):Prop:=(∀t∈l.bn,t.pc<n)∧l.bn.length≤1000
variable{dn:Bool}
theorem wR {code:List aL} {pl:Nat} {l:List gH} {aY:kq}:(tU code pl e l (tk code.length dn aY)).rdy.length≤code.length∧∀t∈(tU code pl e l (tk code.length dn aY)).rdy,∃i,code[t.pc]?=some i∧i.op=1:=by
 obtain⟨_,_,h3,h4⟩:=vL code pl e l (tk code.length dn aY);have:=IT (a:=false) (l:=(tk code.length dn aY).seen);simp only[tk,Qa6,τ] at h3 this;refine⟨by simp only[tk];omega,fun t ht=>?_⟩
 rcases h4 t ht with h|h
 ·simp[tk] at h
 ·exact h
theorem AF (hR:a7 p) (h:∃i,p.code[t.pc]?=some i∧i.op=1):t.pc+1<p.code.length:=by
 obtain⟨i,hi,h1⟩:=h;have:=pg (hR.sh t.pc i hi);omega
variable{start:Nat}{r:Int}
theorem Hh (hR:a7 p) {pl:Nat} {l:PL} (hs:start<p.code.length):(hD p.code pl start r l).ok p.code.length:=by
 obtain⟨h1,h2⟩:=wR (code:=p.code) (pl:=pl) (e:=false) (l:=l.bn) (dn:=l.dn) (aY:=l.aY);have hcl:=hR.cl;unfold hD PL.ok;generalize tU p.code pl false l.bn (tk p.code.length l.dn l.aY)=w at*;obtain⟨h3,h4⟩:=uV (code:=p.code) (r:=r) w.rdy []
 have h5:∀x∈ir p.code r w.rdy [],x.pc<p.code.length:=fun x hx=>by
  rcases h4 x hx with h|⟨t,ht,he⟩
  ·cases h
  ·have:=AF hR (h2 t ht);omega
 simp only[τ] at h3;simp only
 split
 ·exact⟨h5,by omega⟩
 ·refine⟨fun x hx=>?_,?_⟩
  ·rcases we hx with h|h
   ·exact h5 x h
   ·rw[h];exact hs
  ·have:=B7 (ir p.code r w.rdy []) ⟨start,bN⟩;omega
theorem Hg (dL:∀st,Ev pv 107 [] st (.agg (aE bN)) st) {pl:Nat} (hF:S.flr≤N) (hp:p.ok) (hR:a7 p) (ia:pl≤4000000000000) (hl:L[i]?=some l) (M0:p.ak[i]?=some ((start:Nat):Int)) (MW:(⟨l.dn,l.aY,l.bn⟩:PL).ok p.code.length) (hM:MH [] N S s0 ks kv p pl ld L H):
  ∃d ah,Ev pv 140 [.ptr kv 0 0,.int .i64 (i:Nat),.int .i32 r] s0 d ah∧∃td,d=.agg (aV (hD p.code pl start r ⟨l.dn,l.aY,l.bn⟩).dn (hD p.code pl start r ⟨l.dn,l.aY,l.bn⟩).aY td)∧MH [.aC td 11 ((hD p.code pl start r ⟨l.dn,l.aY,l.bn⟩).bn.map bM)] N S ah ks kv p pl ld L H:=by
 have hcl:=hR.cl;have hc:=hp.c.arg N S;have hs:=hp.s.arg N S;have hlen:=hp.cl;have N5:start<p.code.length:=by have:=(hR.st _ (ξ M0)).2;omega
 have PK:=ej M0;obtain⟨QO,UP⟩:=MW;simp only at QO UP;obtain⟨hb1,hb2⟩:=wR (code:=p.code) (pl:=pl) (e:=false) (l:=l.bn) (dn:=l.dn) (aY:=l.aY);obtain⟨pd,qd,P,Q,sn,hH,aT,eI⟩:=hM;dsimp only[u4] at hH;unfold hD;simp only;refine Ev.eH rfl SG rfl rfl rfl ?_;refine zE ?_;change ag _ _ _ _ s0 _;refine zQ 2 ?_;refine qa hH fun k6 st De hH=>?_;refine zQ 1 ?_;obtain⟨_,st1,aA,rd,rfl,hM⟩:=Gq (e:=false) hF hp hR ia hl QO z0 (MH.push [_] [] ⟨pd,qd,P,Q,sn,hH,aT,eI⟩);clear aT eI;have hM:=MH.pull [_] [_] hM;generalize tU p.code pl false l.bn (tk p.code.length l.dn l.aY)=W at*;obtain⟨pd,qd,P,Q,sn,Wx,aT,eI⟩:=hM;dsimp only[u3,u4] at Wx;refine zQ 4 ?_;have hH:=Wx;refine qv aA ?_;refine zQ 3 ?_;refine qa hH fun k7 st Rz hH=>?_;refine qS hH aJ fun st hH=>?_;have hH:=zjsa hH;refine zQ 2 ?_;clear Wx;refine zQ 6 ?_;obtain⟨_,st,aA,rfl,pd,qd,P,Q,hH,aT⟩:=sJ [_,_,_,_] hF aT hH;dsimp only[u3,u4] at hH;refine qv aA ?_;refine zQ 1 ?_;rw[eI] at aT;refine zQ 4 ?_;refine qn ?_ (hR:=hH.rows cU);simp only[θ];refine zQ 2 ?_;have hH:=Ξ [_] [_] (hH.fG 11);dsimp only[u3,u4] at hH
 obtain⟨A,hA⟩:∃A,ir p.code r W.rdy []=A:=⟨_,rfl⟩
 rw[hA];refine zQ 1 ?_;refine ag.loop (fun mm fr st=>∃(j:Nat) (acc rest:List gH) (td pd qd:D) (P Q:List Nat) (sn:List Bool),fr.clean=⟨25,[.ptr kv 0 0,.int .i64 (i:Nat),.int .i32 r,bP fr 3,bP fr 4,bP fr 5,.ptr k6 0 0,.ptr k7 0 0,rd,bP fr 9,bP fr 10,bP fr 11,bP fr 12,bP fr 13,bP fr 14,bP fr 15,bP fr 16,bP fr 17,bP fr 18,bP fr 19,bP fr 20,bP fr 21,rd,.int .i64 (W.rdy.length:Nat),.int .i64 (j:Nat)],[]⟩∧Has N S st (.box k7 (.mem 0 false (aV W.dn W.aY td))::.aC td 11 (acc.map bM)::.box k6 (.mem 0 false (aV false bQ .nul))::.aC rd 11 (W.rdy.map bM)::.box kv (.mem 0 false [p.cd,p.sd,.int .i64 (pl:Nat),ld,.ptr ks 0 0])::.box ks (.mem 0 false [pd,qd])::.aC pd 1 (P.map iJ)::.aC qd 2 (Q.map qY)::.aC ld 12 (L.map jl)::(L.map wo++H))∧(j+mm=W.rdy.length)∧(rest=W.rdy.drop j)∧(ir p.code r rest acc=A)∧(acc.length≤j)∧(dM P Q sn)∧(sn.length=p.code.length)∧(∀k,k<p.code.length→sn[k]?=some (kY acc k))) (W.rdy.length) ?_ ?_
 ·refine⟨0,[],W.rdy,.nul,_,_,_,_,_,rfl,hH,by omega,rfl,hA,by simp,aT,by simp,(fun k hk=>by rw[List.getElem?_replicate,if_pos hk];rfl)⟩
 rintro mm fr st ⟨j,acc,rest,td,pd,qd,P,Q,sn,hfr,hH,hj,pI,hex,hal,aT,eI,pH⟩;rw[hfr];clear hfr;generalize bP fr=ee;clear fr;refine zQ 5 ?_;refine zP (fun hlt=>?_) fun hlt=>?_
 ·refine zQ 1 ?_;have nX:j<W.rdy.length:=by omega
  obtain⟨t,ht⟩:∃t,W.rdy[j]?=some t:=⟨W.rdy[j]'nX,η _⟩
  have QV:=D4 ht;obtain⟨ii,hii,OP⟩:=hb2 t (ξ ht);have N2:=AF hR ⟨ii,hii,OP⟩;have mB:=fy hii;have LV:=hp.i ii (ξ hii);have Od:=LV.1;have Oe:=Od.arg N S;have aat:=LV.2
  have tw:rest=t::W.rdy.drop (j+1):=by
   rw[pI,Qa2 nX]
   congr 1
   exact Qa5.inj ((η _).symm.trans ht)
  rw[tw] at hex;have U3:FM p.code t.pc=ii.rs:=by unfold FM;rw[hii]
  unfold ir at hex;rw[U3] at hex;have Vd:kY acc (t.pc+1)=kY acc (t.pc+1):=rfl;generalize Wj:kY acc (t.pc+1)=bq at Vd;have Lx:=pH (t.pc+1) N2;rw[Wj] at Lx;refine zQ 4 ?_;refine qi hH di fun YI Ri=>?_;refine ab.yE hH rfl z3 z5 (by exact di) z5 rfl (aa rfl _) ?_;refine qa hH fun k10 st RF hH=>?_;have hH:=zjsa hH;refine qS hH aJ fun st hH=>?_;have hH:=zjsa hH;refine zQ 1 ?_
  cases dV:jJ ii.rs r with
  |false=>
   rw[dV,if_neg (by decide)] at hex;refine zQ 9 ?_;refine qr fun Qg IF=>?_;refine qf (fo:=3) fun Ur Oo=>?_;refine zQ 2 ?_;refine qv (Jf (Oe.rows hH) z0) ?_;refine zQ 17 ?_;exact⟨mm-1,by omega,⟨j+1,acc,W.rdy.drop (j+1),td,pd,qd,P,Q,sn,rfl,(hH.drop 1),by omega,rfl,hex,by omega,aT,eI,pH⟩⟩
  |true=>
   rw[dV,if_pos rfl] at hex;have hex:ir p.code r (W.rdy.drop (j+1)) (if kY acc (t.pc+1)=true then acc else acc++[⟨t.pc+1,t.c⟩])=A:=hex;rw[Wj] at hex;have mA:t.pc+1<sn.length:=by omega
   refine zQ 9 ?_;refine qr fun Qg IF=>?_;refine qf (fo:=3) fun Ur Oo=>?_;refine zQ 2 ?_;refine qv (Jf (Oe.rows hH) z0) ?_;refine zQ 8 ?_;obtain⟨_,st,aA,rfl,pd,qd,P,Q,hH,aT⟩:=rk [_,_,_,_,_,_] hF Lx aT hH;dsimp only[u3,u4] at hH;refine qv aA ?_ (hg:=wi dV);refine zQ 2 ?_
   cases bq with
   |true=>
    rw[if_pos rfl] at hex;refine zQ 6 ?_;refine⟨mm-1,by omega,⟨j+1,acc,W.rdy.drop (j+1),td,pd,qd,P,Q,sn.set (t.pc+1) true,rfl,(hH.drop 1),by omega,rfl,hex,by omega,aT,by rw[Θ];exact eI,?_⟩⟩;intro k hk
    by_cases hkk:k=t.pc+1
    ·subst hkk;rw[v8 mA,Wj]
    ·rw[Δ (fun e=>hkk e.symm)];exact pH k hk
   |false=>
    rw[if_neg (by decide)] at hex;refine zQ 7 ?_;refine qT hH aJ fun st hH=>?_;have hH:=zjsa hH;refine zQ 4 ?_;refine χ (m:=11) hH rfl z3 (by exact aJ) (by dsimp only[δ,ι,ε,κ,aK,bM,aV,aE,jl]<;>rfl) rfl rfl (aa rfl _) ?_;refine qh (s:=11) (vs:=[_]) hH fun k57 st aa1 hH=>?_;refine Qag (s:=11) hH rfl z3 z3 (by exact di) (by exact hH.rows (by exact aJ)) rfl rfl rfl rfl rfl rfl rfl ⟨(ζ rfl),(ζ rfl)⟩ (fun _=>(aa rfl _)) (by simp only[υ,τ,θ]<;>omega) (by exact .inl hF) (fun ZM st hH=>?_);have hH:=zjsa hH;refine zQ 1 ?_;refine qT hH cU (fun st hH=>?_) (kh:=hH.eO di);have hH:=zjsa hH;refine zQ 5 ?_;refine⟨mm-1,by omega,⟨j+1,acc++[⟨t.pc+1,t.c⟩],W.rdy.drop (j+1),ZM,pd,qd,P,Q,sn.set (t.pc+1) true,rfl,(by rw[ρ];exact hH.drop 2),by omega,rfl,hex,by simp;omega,aT,by rw[Θ];exact eI,?_⟩⟩;intro k hk;rw[Dm]
    by_cases hkk:k=t.pc+1
    ·subst hkk;rw[v8 mA];simp
    ·rw[Δ (fun e=>hkk e.symm),pH k hk];have:(t.pc+1==k)=false:=by rw[beq_eq_false_iff_ne];omega
     simp only[this,Bool.or_false]
 ·refine zQ 1 ?_;have IL:rest=[]:=by rw[pI,Qa7];omega
  subst IL;have hex:acc=A:=hex;subst hex;clear hA pI;have Lx:=pH start N5;refine zQ 2 ?_;refine ag.jn (fun fr st=>∃(bn:List gH) (td pd qd:D) (P Q:List Nat) (sn:List Bool) (tmp:List (Nat×D)),fr=⟨25,[bP fr 0,bP fr 1,bP fr 2,bP fr 3,bP fr 4,bP fr 5,.ptr k6 0 0,.ptr k7 0 0,bP fr 8,bP fr 9,bP fr 10,bP fr 11,bP fr 12,bP fr 13,bP fr 14,bP fr 15,bP fr 16,bP fr 17,bP fr 18,bP fr 19,bP fr 20,bP fr 21,bP fr 22,bP fr 23,bP fr 24],tmp⟩∧Has N S st (.box k7 (.mem 0 false (aV W.dn W.aY td))::.aC td 11 (bn.map bM)::.box k6 (.mem 0 false (aV false bQ .nul))::.aC rd 11 (W.rdy.map bM)::.box kv (.mem 0 false [p.cd,p.sd,.int .i64 (pl:Nat),ld,.ptr ks 0 0])::.box ks (.mem 0 false [pd,qd])::.aC pd 1 (P.map iJ)::.aC qd 2 (Q.map qY)::.aC ld 12 (L.map jl)::(L.map wo++H))∧(bn=(if W.dn=true then acc else sC acc ⟨start,bN⟩))∧(dM P Q sn)∧(sn.length=p.code.length)) ?_ ?_
  ·cases Zk:W.dn with
   |true=>
    rw[Zk] at hH;have bB:(!true)=false:=rfl;refine zQ 22 ?_;exact⟨acc,td,pd,qd,P,Q,sn,_,rfl,hH,rfl,aT,eI⟩
   |false=>
    rw[Zk] at hH;have bB:(!false)=true:=rfl;refine zQ 15 ?_;refine qr (fun p75 aaE=>?_) (hg:=wi bB);refine zQ 1 ?_;obtain⟨_,st,aA,rfl,pd,qd,P,Q,hH,aT⟩:=rk [_,_,_,_,_] hF Lx aT hH;dsimp only[u3,u4] at hH;refine qv aA ?_ (hg:=wi bB);refine zQ 2 ?_
    by_cases EO:kY acc start=true
    ·refine qE rfl (by rw[EO];rfl) ?_;refine zQ 1 ?_;exact⟨acc,td,pd,qd,P,Q,sn.set start true,_,rfl,hH,by unfold sC;rw[if_neg (by decide),if_pos EO],aT,by rw[Θ];exact eI⟩
    ·refine qD rfl (by rw[Qaa.2 EO];rfl) ?_;refine zQ 9 ?_;refine qr fun Z_ Vf=>?_;refine qR ?_;refine qv (dL _) ?_;refine Qa0 (d:=.agg (bM ⟨start,bN⟩)) (st1:=_) rfl rfl rfl (aa rfl _) ?_;refine qh (s:=11) (vs:=[_]) hH fun k91 st aaR hH=>?_;have hH:=zjsa hH;refine Qag (s:=11) hH rfl z3 z3 (by exact cU) (by exact hH.rows (by exact aJ)) rfl rfl rfl rfl rfl rfl rfl ⟨(ζ rfl),(ζ rfl)⟩ (fun _=>(aa rfl _)) (by simp only[υ,τ,θ]<;>omega) (by exact .inl hF) (fun ZH st hH=>?_);have hH:=zjsa hH;refine zQ 1 ?_;refine qT hH bt (fun st hH=>?_) (kh:=hH.eO cU);have hH:=zjsa hH;refine zQ 1 ?_;exact⟨acc++[⟨start,bN⟩],ZH,pd,qd,P,Q,sn.set start true,_,rfl,(by rw[ρ];exact hH.drop 1),by unfold sC;rw[if_neg (by decide),if_neg EO],aT,by rw[Θ];exact eI⟩
  ·rintro fr st ⟨bn,td,pd,qd,P,Q,sn,tmp,hfr,hH,It,aT,eI⟩;rw[hfr];clear hfr;generalize bP fr=ee;clear fr;refine zQ 2 ?_;refine χ (m:=12) hH rfl z3 (by exact aJ) (by dsimp only[δ,ι,ε,κ,aK,bM,aV,aE,jl]<;>rfl) rfl rfl (aa rfl _) ?_;refine qS hH cU fun st hH=>?_;have hH:=zjsa hH;refine zQ 1 ?_;refine ag.ret ⟨rx,_,_,_,hH.i_ rfl cU rfl,rfl,td,rfl,pd,qd,P,Q,sn,?_,aT,eI⟩;rw[←It];exact((hH.drop 1).erase 1).erase 1
def l_ (fr:Go.V.Fr) (k:Nat):Go.V.D:=Go.V.nth .bo fr.loc k
def VL.pl (l:VL):PL:=⟨l.dn,l.aY,l.bn⟩
def aM (p:Pg):List Nat:=p.ak.map Int.toNat
def ig (code:List aL) (pl:Nat) (r:Int):List Nat→List PL→List PL
 |s::ss,l::ls=>hD code pl s r l::ig code pl r ss ls
 |_,_=>[]
def k_ (n:Int):Nat:=(min (max n 0) 4).toNat
theorem sq (n:Int):k_ n≤4:=by unfold k_;omega
theorem jU (code:List aL) (pl:Nat) (r:Int):∀(ss:List Nat) (ls:List PL),ss.length=ls.length→(ig code pl r ss ls).length=ls.length
 |[],[],_=>rfl
 |s::ss,l::ls,h=>by simp only[ig,υ];rw[jU code pl r ss ls (by simpa using h)]
theorem oE (code:List aL) (pl:Nat) (r:Int):∀(ss:List Nat) (ls:List PL) (i:Nat) (s:Nat) (l:PL),ss[i]?=some s→ls[i]?=some l→(ig code pl r ss ls)[i]?=some (hD code pl s r l)
 |[],_,_,_,_,h,_=>by simp at h
 |_::_,[],_,_,_,_,h=>by simp at h
 |s::ss,l::ls,0,_,_,h1,h2=>by simp only[List.getElem?_cons_zero,Qa5.injEq] at h1 h2;subst h1;subst h2;rfl
 |s::ss,l::ls,i+1,_,_,h1,h2=>by simp only[Qa3] at h1 h2;simp only[ig,Qa3];exact oE code pl r ss ls i _ _ h1 h2
theorem MH.mono {A:List a8} {pl:Nat} (n:Nat) (h:MH A N S st ks kv p pl ld L H):MH (A.drop n) N S st ks kv p pl ld L H:=by
 obtain⟨pd,qd,P,Q,sn,hH,aT,eI⟩:=h;refine⟨pd,qd,P,Q,sn,?_,aT,eI⟩
 rcases Nat.le_total n A.length with hn|hn
 ·have:=hH.drop n
  rwa [AT hn] at this
 ·have:=hH.drop A.length;rw[AT (Ψ _),List.drop_length] at this;rw[List.drop_eq_nil_of_le hn];exact this
theorem KC (L:List VL) (i:Nat) (l:VL):(L.set i l).map wo=(L.map wo).set i (wo l):=Qa4 ..
theorem MH.KR {pl:Nat} {pd qd:D} {P Q:List Nat} (hi:i<L.length) (h:Has N S st (.aC l.td 11 (l.bn.map bM)::.box kv (.mem 0 false [p.cd,p.sd,.int .i64 (pl:Nat),ld,.ptr ks 0 0])::.box ks (.mem 0 false [pd,qd])::.aC pd 1 (P.map iJ)::.aC qd 2 (Q.map qY)::.aC ld 12 ((L.map jl).set i (jl l))::(L.map wo++H))):
  Has N S st (.box kv (.mem 0 false [p.cd,p.sd,.int .i64 (pl:Nat),ld,.ptr ks 0 0])::.box ks (.mem 0 false [pd,qd])::.aC pd 1 (P.map iJ)::.aC qd 2 (Q.map qY)::.aC ld 12 ((L.set i l).map jl)::((L.set i l).map wo++H)):=by
 have h1:=h.fV (j:=5+i) (by simp;omega);rw[Qa4,KC]
 have h2:∀(a b c d e:a8),(a::b::c::d::e::(L.map wo++H)).set (5+i) (.aC l.td 11 (l.bn.map bM))=a::b::c::d::e::((L.map wo).set i (wo l)++H):=by
  intro a b c d e;rw[Nat.add_comm 5 i];simp only[List.set_cons_succ];rw[List.set_append_left _ _ (by simpa using hi)];rfl
 rw[h2] at h1;exact h1
theorem MG (dL:∀st,Ev pv 107 [] st (.agg (aE bN)) st) {pl:Nat} {n:Int} (hF:S.flr≤N) (hp:p.ok) (hR:a7 p) (ia:pl≤3000000000000) (E1:L.length=p.ak.length) (aT:∀l∈L,l.pl.ok p.code.length) (hM:MH [] N S s0 ks kv p pl ld L H):
  ∃d ah,Ev pv 124 [.ptr kv 0 0,.int .i32 r,.int .i64 n] s0 d ah∧d=.tup []∧∃L',L'.map VL.pl=ig p.code pl r (aM p) (L.map VL.pl)∧MH [] N S ah ks kv p (pl+k_ n) ld L' H:=by
 have UX:=hR.sl;refine Ev.eH rfl SR rfl rfl rfl ?_;refine zE ?_;change ag _ _ _ _ s0 _;obtain⟨pd,qd,P,Q,sn,hH,kX,eI⟩:=hM;dsimp only[u4] at hH;refine qq<|qq<|qj fun K hK=>qm ?_;refine qg ?_;refine qp (o:=3) ?_;refine ql hH aJ ?_;refine qn ?_ (hR:=hH.rows ie);simp only[θ];refine qm ?_;refine qe hK<|ag.block<|ag.loop (fun mm fr st=>∃(i:Nat) (L2:List VL) (pd qd:D) (P Q:List Nat) (sn:List Bool),fr.clean=⟨13,[.ptr kv 0 0,.int .i32 r,.int .i64 n,l_ fr 3,l_ fr 4,l_ fr 5,l_ fr 6,l_ fr 7,l_ fr 8,l_ fr 9,l_ fr 10,.int .i64 (L.length:Nat),.int .i64 (i:Nat)],[]⟩∧Has N S st (.box kv (.mem 0 false [p.cd,p.sd,.int .i64 (pl:Nat),ld,.ptr ks 0 0])::.box ks (.mem 0 false [pd,qd])::.aC pd 1 (P.map iJ)::.aC qd 2 (Q.map qY)::.aC ld 12 (L2.map jl)::(L2.map wo++H))∧(i+mm=L.length)∧(L2.length=L.length)∧(∀j l s,j<i→L[j]?=some l→p.ak[j]?=some s→(L2.map VL.pl)[j]?=some (hD p.code pl s.toNat r l.pl))∧(∀j,i≤j→L2[j]?=L[j]?)∧(dM P Q sn)∧(sn.length=p.code.length)) (L.length) ?_ ?_
 ·exact⟨0,L,_,_,_,_,_,rfl,hH,by omega,rfl,(by intro j l s h;omega),(fun j _=>rfl),kX,eI⟩
 rintro mm fr st ⟨i,L2,pd,qd,P,Q,sn,hfr,hH,hi,rY,TX,YW,kX,eI⟩;rw[hfr];clear hfr;generalize l_ fr=ee;clear fr;refine qq<|qj fun K hK=>qg ?_;refine qe hK<|qq<|zP (fun hlt=>?_) fun hlt=>?_
 ·refine ag.skip ?_;have hil:i<L.length:=by omega
  obtain⟨l,hl⟩:∃l,L[i]?=some l:=⟨L[i]'hil,η _⟩
  have oZ:L2[i]?=some l:=by rw[YW i (Ψ _)];exact hl
  obtain⟨s,hs⟩:∃s,p.ak[i]?=some s:=⟨p.ak[i]' z0,η _⟩
  obtain⟨lL,LA⟩:=hR.st s (ξ hs);obtain⟨Pz,rfl⟩:=Int.eq_ofNat_of_zero_le lL;have fU:=Cd oZ;refine qq<|ag.block<|qq<|qj fun K hK=>qm ?_;refine qm ?_;refine qe hK ?_;have bD:=hH;have QZ:=u9 hH ie;have QY:=hH.vd bt (k:=ks) rfl;have U5:=hp.c.ref;have U4:=hp.s.ref;have Iz:refs [p.cd,p.sd,.int .i64 (pl:Nat),ld,.ptr ks 0 0]≤st.bs.length:=by simp only[refs,Qaj,U5,U4];omega
  change ag _ _ _ _ _ _;generalize hK:bS _ _ _ _=K;refine ag.yx rfl ?_;refine dg.cons ?_;refine qm ?_;refine μ ⟨rfl,?_⟩;refine dg.cons ?_;refine qg ?_;refine μ ⟨rfl,?_⟩;refine dg.cons ?_;refine qp (o:=3) ?_;refine μ ⟨rfl,?_⟩;refine dg.cons ?_;refine ql hH aJ ?_;refine μ ⟨rfl,?_⟩;refine dg.cons ?_;refine qm ?_;refine μ ⟨rfl,?_⟩;refine dg.cons ?_;refine qm ?_;refine μ ⟨rfl,?_⟩;refine dg.cons ?_;refine qm ?_;refine μ ⟨rfl,?_⟩;refine dg.cons ?_;refine qm ?_;refine μ ⟨rfl,?_⟩;refine dg.cons ?_;obtain⟨_,st,aA,td,rfl,hM⟩:=Hg dL hF hp hR z0 oZ hs (aT l (ξ hl)) ⟨pd,qd,P,Q,sn,hH,kX,eI⟩;obtain⟨pd,qd,P,Q,sn,hH,kX,eI⟩:=hM;dsimp only[u3,u4] at hH;refine qv aA ?_;refine μ ⟨by exact Γ.2 ⟨jT rfl rfl rfl (bD.at aJ) (hH.at bt) (bD.at aJ) Iz,rfl⟩,?_⟩;refine dg.cons ?_;refine qi hH ke fun NA C9=>?_;refine μ ⟨rfl,?_⟩;refine dg.cons ?_;refine ab.il hH rfl z3 z3 z5 rfl rfl (by exact ke) z5 (ζ rfl) (by exact .inl hF) (fun st hH=>?_);have hH:=zjsa hH;refine μ ⟨rfl,?_⟩;refine dg.nil ?_;subst hK;have hH:=MH.KR (l:=⟨(hD p.code pl Pz r l.pl).dn,(hD p.code pl Pz r l.pl).aY,td,(hD p.code pl Pz r l.pl).bn⟩) z0 hH;refine qj fun K hK=>qA ?_;refine qm ?_;refine qe hK ?_;refine⟨mm-1,by omega,⟨i+1,L2.set i ⟨(hD p.code pl Pz r l.pl).dn,(hD p.code pl Pz r l.pl).aY,td,(hD p.code pl Pz r l.pl).bn⟩,pd,qd,P,Q,sn,rfl,hH,by omega,by rw[Θ];exact rY,?_,(fun j hj=>by rw[Δ z0];exact YW j z0),kX,eI⟩⟩;intro j l' s' hj ji nW;rw[Qa4]
  by_cases hji:j=i
  ·subst hji;rw[hl] at ji;rw[hs] at nW;cases ji;cases nW;rw[v8 (by rw[θ];omega)];rfl
  ·rw[Δ (fun e=>hji e.symm)];exact TX j l' s' z0 ji nW
 ·refine ag.exit ?_;have hil:i=L.length:=by omega
  have PV:=sq n;have hcz:((pl:Nat):Int)+min (max n 0) 4=((pl+k_ n:Nat):Int):=by unfold k_;omega
  refine qj fun K hK=>qm ?_;refine qg ?_;refine qp (o:=2) ?_;refine ql hH aJ ?_;refine qm ?_;refine ab.Ie (t1:=0) (t2:=0) rfl z3 z3 (aa rfl _) ?_;refine ab.Lg (t1:=0) (t2:=0) rfl z3 z3 (aa rfl _) ?_;refine ab.dX (z:=((pl+k_ n:Nat):Int)) rfl z3 z3 (by rw[hcz];exact bI (by simp only[gh];omega)) (aa rfl _) ?_;refine qg ?_;refine qp (o:=2) ?_;refine qT hH aJ fun st hH=>?_;have hH:=zjsa hH;refine qe hK ?_;refine⟨fun i h=>(by cases h),_,_,_,rfl,rfl,?_⟩;refine⟨rfl,L2,?_,pd,qd,P,Q,sn,hH,kX,eI⟩;refine Qab fun j=>?_
  by_cases hj:j<L.length
  ·obtain⟨l,hl⟩:∃l,L[j]?=some l:=⟨L[j]'hj,η _⟩
   obtain⟨s,hs⟩:∃s,p.ak[j]?=some s:=⟨p.ak[j]' z0,η _⟩
   rw[TX j l s z0 hl hs,oE (s:=s.toNat) (l:=l.pl)]
   ·unfold aM;rw[π,hs];rfl
   ·rw[π,hl];rfl
  ·rw[BY (by simp;omega),BY];rw[jU]
   ·simp;omega
   ·unfold aM;simp;omega
def fP (fr:Go.V.Fr) (k:Nat):Go.V.D:=Go.V.nth .bo fr.loc k
structure wh (p q:Pg):Prop where
 ok:q.ok
 code:q.code=p.code.map e_
 ak:q.ak=p.ak
theorem HS (hp:p.ok):∃d,Ev pv 123 [p.d] s0 d s0∧∃q:Pg,d=q.d∧wh p q:=by
 refine Ev.CL rfl SS rfl rfl rfl ?_;refine zE ?_;obtain⟨aR,hF,hH⟩:=ri s0;generalize ae .ro s0=S at*;have hc:=hp.c.arg s0.bs.length S;have hs:=hp.s.arg s0.bs.length S;have hlen:=hp.cl;have Lv:=hp.sl;unfold Pg.d;refine zQ 2 ?_;refine qb hH fun k1 st oO hH=>?_;have hH:=zjsb hH;refine qa hH fun k2 st hk2 hH=>?_;refine zQ 1 ?_;have hH:=hH.fG 1;refine zQ 4 ?_;refine qP hH aJ (Arg.rows z5 hH) fun x8 st hH=>?_;have hH:=zjsb hH;refine Qal (qs:=[(1,_)]) rfl rfl rfl rfl ⟨rfl,z3,(by exact hH.eO (by exact aJ)),trivial⟩ (by intro q hq;simp only[ω,φ,or_false] at hq;rcases hq with rfl<;>exact⟨rfl,by exact ζ rfl⟩) (by show ο _ [_,_] _=_;dsimp only[AI,Qa1,u2,u1]<;>rfl) (by dsimp only[Pe,u1,u2]<;>rfl) ?_;refine qa hH fun k3 st tt hH=>?_;refine qS hH aJ fun st hH=>?_;have hH:=zjsb hH;refine zQ 1 ?_;have hH:=hH.K_ 4;refine zQ 5 ?_;refine qn ?_;simp only[θ];refine zQ 3 ?_;refine ag.loop (fun mm fr st=>∃(i:Nat) (y:D) (ks:Nat→Prop),fr.clean=⟨14,[fP fr 0,.ptr k1 0 0,.ptr k2 0 0,.ptr k3 0 0,fP fr 4,fP fr 5,fP fr 6,fP fr 7,fP fr 8,fP fr 9,fP fr 10,p.cd,.int .i64 (p.code.length:Nat),.int .i64 (i:Nat)],[]⟩∧Has s0.bs.length S st [.deep ks y 4 ((p.code.take i).map vR),.box k3 (.mem 0 false [y,x8]),.aC x8 1 (p.ak.map ax),.box k2 (.mem 0 false [.nul,.nul]),.box k1 (.mem 0 false [p.cd,p.sd])]∧(i+mm=p.code.length)) (p.code.length) ?_ ?_
 ·exact⟨0,.nul,_,rfl,hH,by omega⟩
 rintro mm fr st ⟨i,y,ks,hfr,hH,hi⟩;rw[hfr];clear hfr;generalize fP fr=ee;clear fr;refine zQ 5 ?_;refine zP (fun h1=>?_) fun h1=>?_
 ·refine zQ 1 ?_
  obtain⟨q,hq⟩:∃q,p.code[i]?=some q:=⟨p.code[i]' z0,η _⟩
  have hr:=fy hq;have Bq:=hp.i q (ξ hq);have C7:=Bq.1;have LB:=Bq.1.arg s0.bs.length S;have wv:=Bq.2;have mA:((p.code.take i).map vR).length≤1048576:=by rw[θ,Qad];omega
  refine zQ 4 ?_;refine qr fun TH LI=>?_;refine Qai rfl z3 z5 rfl (aa rfl _) ?_;refine qa hH fun k5 st LS hH=>?_;refine qS hH aJ fun st hH=>?_;have hH:=zjsb hH;refine zQ 1 ?_;have hH:=hH.fG 2;refine zQ 4 ?_;refine Qag (s:=2) hH rfl z3 z3 (by exact aJ) (by exact Arg.rows z5 hH) rfl rfl rfl rfl rfl rfl rfl ⟨(ζ rfl),(ζ rfl)⟩ (fun _=>(aa rfl _)) (by simp only[τ,θ]<;>omega) (by exact .inl hF) (fun TC st hH=>?_);have hH:=zjsb hH;refine zQ 1 ?_;refine qT hH bt (fun st hH=>?_) (kh:=hH.eO aJ);have hH:=zjsb hH;refine zQ 4 ?_;refine χ (m:=4) hH rfl z3 (by exact bt) (by dsimp only[δ,ι,ε,κ,Pg.cs,aK,ax]<;>rfl) rfl rfl (aa rfl _) ?_;refine qh (s:=4) (vs:=[_]) hH fun k24 st RD hH=>?_;obtain⟨hH,OV⟩:=hH.zC (i:=1) (j:=3) (by decide) bt di (eG _);dsimp only[u1,u2] at hH;refine ab.p_ hH rfl rfl rfl di (hH.rows aJ) (.cons (.cons (.plain _ rfl) (.cons (.plain _ rfl) (.cons (.plain _ rfl) (.cons OV .nil)))) .nil) rfl rfl rfl rfl rfl rfl rfl ⟨(ζ rfl),(ζ rfl)⟩ (fun _=>(aa rfl _)) (by show _+1≤_;omega) (.inl hF) (fun TB st hH=>?_);dsimp only[u1,u2] at hH;refine zQ 1 ?_;refine ab.fk hH rfl z3 z3 (by exact hH.nB (by exact di)) (by exact rfl) (by exact ie) (by exact ζ rfl) (by exact .inl hF) (fun st hH=>?_);have hH:=zjsb hH;refine zQ 5 ?_;exact⟨mm-1,by omega,⟨i+1,TB,_,rfl,(by rw[AN,hq,OF,ρ];exact hH.drop 3),by omega⟩⟩
 ·refine zQ 3 ?_;refine χ (m:=2) hH rfl z3 (by exact bt) (by dsimp only[δ,ι,ε,κ,Pg.cs,aK,ax]<;>rfl) rfl rfl (aa rfl _) ?_;refine qS hH di fun st hH=>?_;have hH:=zjsb hH;refine zQ 1 ?_;rw[GB z0] at hH;have h1:=hH.vE aJ (n:=14) (by decide);have h2:=hH.n_ cU (jR _) (n:=15) (by decide)
  have h3:ba st s0.bs.length false 16 (.agg [y,x8])=some (.agg [.sl ((p.code.map vR).map (kO 4)),.sl ((p.ak.map ax).map (kO 1))]):=by
   show(iK (ba st s0.bs.length false 15) [y,x8]).map D.agg=_;simp only[iK,h1,h2,wt]
  refine ag.ret ⟨rx,_,_,hH.i_ rfl di rfl,rl aR hH h3,⟨_,p.code.map e_,EJ p.ak,p.ak⟩,rfl,⟨?_,vl _,?_,by simpa using hlen,Lv⟩,rfl,rfl⟩
  ·have h0:(p.code.map e_).map aK=p.code.map vR:=by rw[List.map_map];rfl
   show fg _ 4 ((p.code.map e_).map aK);rw[h0]
   have h4:∀e∈(p.code.map vR),e.length=4:=by
    intro e he;obtain⟨q,_,rfl⟩:=Φ.1 he;rfl
   have:=fg.frozen (s:=4) (es:=p.code.map vR) h4 (by
    intro e he d hd;obtain⟨q,_,rfl⟩:=Φ.1 he;simp only[vR,aK,e_,ω,φ,or_false] at hd
    rcases hd with rfl|rfl|rfl|rfl<;>rfl)
   exact this
  ·intro i hi;obtain⟨q,hq,rfl⟩:=Φ.1 hi;exact JS (hp.i q hq)
theorem wh.right {q:Pg} (h:wh p q) (hR:a7 p):a7 q:=(Ct h.code h.ak).2 hR
theorem G4 (hF:S.flr≤N) (hp:p.ok) (hR:a7 p) (hH:Has N S s0 H):
  ∃r ah,Ev pv 86 [p.d] s0 r ah∧∃kv ks q,r=.tup [.ptr kv 0 0,.int .i64 0]∧wh p q∧MH [] N S ah ks kv q 0 .nul [] H:=by
 have hc:=hp.c.arg N S;have hcl:=hR.cl;obtain⟨_,V9,q,rfl,hq⟩:=HS (s0:=s0) hp;have hown:∀st,∃d,Ev pv 123 [p.d] st d st∧∃q:Pg,d=q.d∧wh p q:=fun st=>HS hp;unfold Pg.d at hown;unfold Pg.d;clear V9 hq q;refine Ev.eH rfl WR rfl rfl rfl ?_;refine zE ?_;change ag _ _ _ _ s0 _;refine zQ 2 ?_;refine qb hH fun k1 st oO hH=>?_;have hH:=zjsb hH;refine zQ 6 ?_;refine χ (m:=2) hH rfl z3 (by exact aJ) (by dsimp only[δ,ι,ε,κ,Pg.cs,aK,ax]<;>rfl) rfl rfl (aa rfl _) ?_;refine qv (lb (p:=p) hp) ?_;refine zQ 2 ?_;refine qE rfl (by rw[bY hR];rfl) ?_;refine zQ 5 ?_;refine qn ?_;simp only[θ];obtain⟨_,st,aA,ks,rfl,pd,qd,P,Q,hH,aT⟩:=FA (n:=p.code.length) hF z0 hH;refine qv aA ?_;refine zQ 6 ?_;obtain⟨_,aA,q,rfl,hq⟩:=hown st;refine zQ 2 ?_;refine χ (m:=2) hH rfl z3 (by exact di) (by dsimp only[δ,ι,ε,κ,Pg.cs,aK,ax]<;>rfl) rfl rfl (aa rfl _) ?_;refine qv aA ?_;refine qm ?_;refine Qa0 (d:=.agg [q.cd,q.sd,.int .i64 0,.nul,.ptr ks 0 0]) (st1:=_) rfl rfl rfl (aa rfl _) ?_;refine qb hH fun k20 st VU hH=>?_;refine zQ 4 ?_;refine ag.ret ⟨rx,_,_,_,rfl,rfl,?_⟩;have hl:(Qae p.code.length false).length=q.code.length:=by rw[Qa6,hq.code,θ]
 exact⟨k20,ks,q,rfl,hq,pd,qd,P,Q,_,Ξ [_] [_,_,_,_] ((hH.erase 4).fG 12),aT,hl⟩
def je (s:Nat):PL:=⟨false,bN,[⟨s,bN⟩]⟩
theorem J' (dL:∀st,Ev pv 107 [] st (.agg (aE bN)) st) (hF:S.flr≤N) (hp:p.ok) (hR:a7 p) (hM:MH [] N S s0 ks kv p 0 .nul [] H):
  ∃d ah,Ev pv 87 [.ptr kv 0 0] s0 d ah∧d=.tup []∧∃ld L,L.map VL.pl=(aM p).map je∧MH [] N S ah ks kv p 0 ld L H:=by
 have hs:=hp.s.arg N S;have UX:=hR.sl;obtain⟨pd,qd,P,Q,sn,hH,aT,eI⟩:=hM;dsimp only[u4] at hH;refine Ev.eH rfl WQ rfl rfl rfl ?_;refine zE ?_;change ag _ _ _ _ s0 _;refine zQ 7 ?_;refine qn ?_;simp only[θ];refine zQ 3 ?_;refine ag.loop (fun mm fr st=>∃(i:Nat) (ld:D) (L:List VL),fr.clean=⟨11,[.ptr kv 0 0,fP fr 1,fP fr 2,fP fr 3,fP fr 4,fP fr 5,fP fr 6,fP fr 7,p.sd,.int .i64 (p.ak.length:Nat),.int .i64 (i:Nat)],[]⟩∧Has N S st (.box kv (.mem 0 false [p.cd,p.sd,.int .i64 ((0:Nat):Nat),ld,.ptr ks 0 0])::.box ks (.mem 0 false [pd,qd])::.aC pd 1 (P.map iJ)::.aC qd 2 (Q.map qY)::.aC ld 12 (L.map jl)::(L.map wo++H))∧(i+mm=p.ak.length)∧(L.length=i)∧(L.map VL.pl=((aM p).take i).map je)) (p.ak.length) ?_ ?_
 ·exact⟨0,.nul,[],rfl,hH,by omega,rfl,rfl⟩
 rintro mm fr st ⟨i,ld,L,hfr,hH,hi,E1,Zv⟩;rw[hfr];clear hfr;generalize fP fr=ee;clear fr;refine zQ 5 ?_;refine zP (fun hlt=>?_) fun hlt=>?_
 ·refine zQ 1 ?_;have hil:i<p.ak.length:=by omega
  obtain⟨s,UU⟩:∃s,p.ak[i]?=some s:=⟨p.ak[i]' z0,η _⟩
  obtain⟨lL,LA⟩:=hR.st s (ξ UU);obtain⟨s1,rfl⟩:=Int.eq_ofNat_of_zero_le lL;have fU:=ej UU;have iA:(aM p)[i]?=some s1:=by unfold aM;rw[π,UU];rfl
  refine zQ 4 ?_;refine qr fun Uw Ov=>?_;refine zQ 9 ?_;refine qv (dL _) ?_;refine qm ?_;refine qv (dL _) ?_;refine Qa0 (d:=.agg (bM ⟨s1,bN⟩)) (st1:=_) rfl rfl rfl (aa rfl _) ?_;refine qh (s:=11) (vs:=[_]) hH fun k23 st VT hH=>?_;have hH:=zjsc hH;refine Qa0 (d:=.agg (aV false bN (.win k23 0 0 1 11))) (st1:=_) rfl rfl rfl (aa rfl _) ?_;refine qh (s:=12) (vs:=[_]) hH fun k25 st aa7 hH=>?_;have hH:=zjsc hH;refine Qag (s:=12) hH rfl z3 z3 (by exact o7) (by exact hH.rows (by exact aJ)) rfl rfl rfl rfl rfl rfl rfl ⟨(ζ rfl),(ζ rfl)⟩ (fun _=>(aa rfl _)) (by simp only[υ,τ,θ]<;>omega) (by exact .inl hF) (fun ZT st hH=>?_);have hH:=zjsc hH;refine zQ 2 ?_;refine qT hH cU (fun st hH=>?_) (kh:=hH.eO o7);have hH:=zjsc hH;refine zQ 5 ?_;have hH:=hH.drop 1;have hH:=Ξ [_] (_::_::_::_::_::L.map wo) hH;refine⟨mm-1,by omega,⟨i+1,ZT,L++[⟨false,bN,.win k23 0 0 1 11,[⟨s1,bN⟩]⟩],rfl,?_,by omega,by simp;omega,?_⟩⟩
  ·rw[ρ,ρ,ψ];exact hH
  ·rw[ρ,Zv,AN,iA,OF,ρ];rfl
 ·refine zQ 1 ?_;refine⟨fun i h=>(by cases h),_,_,_,rfl,rfl,?_⟩;refine⟨rfl,ld,L,?_,pd,qd,P,Q,sn,hH,aT,eI⟩;rw[Zv,GB];unfold aM;rw[θ];omega
theorem w9 (hR:a7 p):∀l∈(aM p).map je,l.ok p.code.length:=by
 intro l hl;obtain⟨s,hs,rfl⟩:=Φ.1 hl;obtain⟨v,hv,rfl⟩:=Φ.1 hs;have:=hR.st v hv;refine⟨fun t ht=>?_,by simp[je]⟩;simp only[je,ω,φ,or_false] at ht;subst ht;show v.toNat<_;omega
theorem KF (dL:∀st,Ev pv 107 [] st (.agg (aE bN)) st) (hF:S.flr≤N) (hp:p.ok) (hR:a7 p) (hH:Has N S s0 H):
  ∃r ah,Ev pv 48 [p.d] s0 r ah∧∃kv ks q ld L,r=.tup [.ptr kv 0 0,.int .i64 0]∧wh p q∧L.map VL.pl=(aM p).map je∧MH [] N S ah ks kv q 0 ld L H:=by
 have M5:∀st H,Has N S st H→∃r ah,Ev pv 86 [p.d] st r ah∧∃kv ks q,r=.tup [.ptr kv 0 0,.int .i64 0]∧wh p q∧MH [] N S ah ks kv q 0 .nul [] H:=fun st H h=>G4 hF hp hR h;unfold Pg.d at*;refine Ev.eH rfl Xr rfl rfl rfl ?_;refine zE ?_;change ag _ _ _ _ s0 _;refine zQ 2 ?_;refine qb hH fun k1 st oO hH=>?_;have hH:=zjsb hH;refine zQ 5 ?_;refine χ (m:=2) hH rfl z3 (by exact aJ) (by dsimp only[δ,ι,ε,κ,Pg.cs,aK,ax]<;>rfl) rfl rfl (aa rfl _) ?_;obtain⟨_,st,aA,kv,ks,q,rfl,hq,hM⟩:=M5 _ _ hH;refine qv aA ?_;refine zQ 12 ?_;refine ag.cond (v:=false) (by dsimp only[Fr.ev,Fr.get,nth,V.look];rfl) (fun h=>by cases h) (fun _=>?_);refine zQ 1 ?_;obtain⟨_,st1,aA,rfl,ld,L,hL,hM⟩:=J' dL hF hq.ok (hq.right hR) hM;refine zQ 3 ?_;refine qv aA ?_;refine zQ 7 ?_;refine ag.ret ⟨rx,_,_,_,rfl,rfl,?_⟩;have hsq:aM q=aM p:=by unfold aM;rw[hq.ak]
 obtain⟨pd,qd,P,Q,sn,hH,aT,eI⟩:=hM;refine⟨kv,ks,q,ld,L,rfl,hq,by rw[←hsq];exact hL,pd,qd,P,Q,sn,?_,aT,eI⟩;have hH:=Ξ (_::_::_::_::_::L.map wo) [_] (H:=H) hH;exact hH.drop 1
def rM (fr:Go.V.Fr) (k:Nat):Go.V.D:=Go.V.nth .bo fr.loc k
def TE (l:List gH):D:=.sl ((l.map bM).map (kO 11))
def Kr (l:PL):List D:=aV l.dn l.aY (TE l.bn)
def yX (L:List PL):D:=.sl ((L.map Kr).map (kO 12))
def MQ (pl:Nat) (L:List PL):D:=.agg [.int .i64 (pl:Nat),yX L]
theorem Fu (l:List gH):∀e∈l.map bM,∀d∈e,cD d=true:=by
 intro e he d hd;obtain⟨q,_,rfl⟩:=Φ.1 he;simp only[bM,ω,φ,or_false] at hd
 rcases hd with rfl|rfl|rfl|rfl|rfl|rfl|rfl|rfl|rfl|rfl|rfl<;>rfl
variable{f:kq}
theorem JM {ks:Nat→Prop} {y:D} (h:mD st ks x y):cO (mD st ks) (aV dn f x) (aV dn f y):=
 .cons (.plain _ rfl) (.cons (.plain _ rfl) (.cons (.plain _ rfl) (.cons (.plain _ rfl) (.cons (.plain _ rfl) (.cons (.plain _ rfl) (.cons (.plain _ rfl) (.cons (.plain _ rfl) (.cons (.plain _ rfl) (.cons (.plain _ rfl) (.cons (.plain _ rfl) (.cons h .nil)))))))))))
theorem Gx (hF:S.flr≤N) (E1:L.length≤1000) (hx:Arg N S 12 x (L.map jl)) (ht:∀l∈L,Arg N S 11 l.td (l.bn.map bM)∧l.bn.length≤1000) (hH:Has N S s0 H):
  ∃d ah,Ev pv 90 [x] s0 d ah∧∃ks,Has N S ah (.deep ks d 12 ((L.map VL.pl).map Kr)::H):=by
 refine Ev.eH rfl WM rfl rfl rfl ?_;refine zE ?_;change ag _ _ _ _ s0 _;refine zQ 12 ?_;refine qn ?_;simp only[θ];refine zQ 3 ?_;refine ag.loop (fun mm fr st=>∃(i:Nat) (y:D) (ks:Nat→Prop),fr.clean=⟨9,[rM fr 0,rM fr 1,rM fr 2,y,rM fr 4,rM fr 5,x,.int .i64 (L.length:Nat),.int .i64 (i:Nat)],[]⟩∧Has N S st (.deep ks y 12 (((L.map VL.pl).take i).map Kr)::H)∧(i+mm=L.length)) (L.length) ?_ ?_
 ·exact⟨0,.nul,_,rfl,(hH.K_ 12),by omega⟩
 rintro mm fr st ⟨i,y,ks,hfr,hH,hi⟩;rw[hfr];clear hfr;generalize rM fr=ee;clear fr;refine zQ 5 ?_;refine zP (fun hlt=>?_) fun hlt=>?_
 ·refine zQ 1 ?_;have hil:i<L.length:=by omega
  obtain⟨l,hl⟩:∃l,L[i]?=some l:=⟨L[i]'hil,η _⟩
  obtain⟨MY,mA⟩:=ht l (ξ hl);have fU:=Cd hl;have hlp:(L.map VL.pl)[i]?=some l.pl:=by rw[π,hl];rfl
  have UO:(((L.map VL.pl).take i).map Kr).length≤1048576:=by rw[θ,Qad,θ];omega
  refine zQ 4 ?_;refine qr fun Ql IJ=>?_;refine Qai rfl z3 z5 rfl (aa rfl _) ?_;refine qa hH fun k5 st LS hH=>?_;refine qS hH aJ fun st hH=>?_;have hH:=zjsd hH;refine zQ 1 ?_;have hH:=hH.fG 11;refine zQ 4 ?_;refine Qag (s:=11) hH rfl z3 z3 (by exact aJ) (by exact Arg.rows z5 hH) rfl rfl rfl rfl rfl rfl rfl ⟨(ζ rfl),(ζ rfl)⟩ (fun _=>(aa rfl _)) (by simp only[τ,θ]<;>omega) (by exact .inl hF) (fun x14 st hH=>?_);have hH:=zjsd hH;refine zQ 1 ?_;refine qT hH bt (fun st hH=>?_) (kh:=hH.eO aJ);have hH:=zjsd hH;refine zQ 3 ?_;refine χ (m:=12) hH rfl z3 (by exact bt) (by dsimp only[δ,ι,ε,κ,aK,bM,aV,aE,jl,Kr]<;>rfl) rfl rfl (aa rfl _) ?_;refine qh (s:=12) (vs:=[_]) hH fun k18 st aa8 hH=>?_;obtain⟨hH,OV⟩:=hH.zC (i:=1) (j:=3) (by decide) bt di (Fu _);dsimp only[u1,u2] at hH;refine ab.p_ hH rfl rfl rfl di (hH.rows aJ) (.cons (JM (dn:=l.dn) (f:=l.aY) OV) .nil) rfl rfl rfl rfl rfl rfl rfl ⟨(ζ rfl),(ζ rfl)⟩ (fun _=>(aa rfl _)) (by show _+1≤_;omega) (.inl hF) (fun TC st hH=>?_);dsimp only[u1,u2] at hH;refine zQ 6 ?_;exact⟨mm-1,by omega,⟨i+1,TC,_,rfl,(by rw[AN,hlp,OF,ρ];exact hH.drop 3),by omega⟩⟩
 ·refine zQ 1 ?_;have hil:i=L.length:=by omega
  refine zQ 5 ?_;refine ag.ret ⟨rx,_,_,_,rfl,rfl,?_⟩;rw[GB (by simp;omega)] at hH;exact⟨_,hH⟩
structure AM (N:Nat) (S:St) (kv ks:Nat) (p:Pg) (pl:Nat) (ld:D) (L:List VL):Prop where
 lt:kv<N
 le:N≤S.bs.length
 at_:S.bs[kv]?=some (.mem 0 false [p.cd,p.sd,.int .i64 (pl:Nat),ld,.ptr ks 0 0])
 ld:Arg N S 12 ld (L.map jl)
 td:∀l∈L,Arg N S 11 l.td (l.bn.map bM)
 ksl:ks<N
theorem AM.box {pl:Nat} (h:AM N S kv ks p pl ld L) (hH:Has N S st H):st.bs[kv]?=some (.mem 0 false [p.cd,p.sd,.int .i64 (pl:Nat),ld,.ptr ks 0 0]):=by
 rw[hH.ex.low kv h.lt];exact h.at_
theorem AM.refs {pl:Nat} (h:AM N S kv ks p pl ld L) (hp:p.ok) (hH:Has N S st H):V.refs [p.cd,p.sd,.int .i64 (pl:Nat),ld,.ptr ks 0 0]≤st.bs.length:=by
 have h1:=hp.c.ref;have h2:=hp.s.ref;have h3:=h.ld.2;have h4:=h.ksl;have h5:=h.le;have h6:=hH.ex.len;simp only[V.refs,Qaj,h1,h2];omega
theorem AM.to {pl:Nat} (h:AM N S kv ks p pl ld L) (hH:Has N S st H) (o:Nat):lj st (.ptr kv 0 o) ([p.cd,p.sd,.int .i64 (pl:Nat),ld,.ptr ks 0 0].drop o):=
 .inl ⟨kv,0,o,false,_,rfl,St.mem_of (by rw[hH.ex.low kv h.lt];exact h.at_),List.take_length ..⟩
theorem B8 {pl:Nat} (hp:p.ok) (E1:L.length≤1000) (aT:∀l∈L,l.bn.length≤1000) (hA:AM s0.bs.length s0 kv ks p pl ld L) (db:s0.ro≤s0.bs.length):
  ∃d ah,Ev pv 52 [.ptr kv 0 0] s0 d ah∧d=MQ pl (L.map VL.pl)∧ah=s0:=by
 have VF:=hA.at_;have jx:=hA.lt;have y_:=hA.ld.1;have zK:∀(i:Nat) (l:VL),L[i]?=some l→V.Rows s0 11 l.td (l.bn.map bM):=fun i l hl=>(hA.td l (ξ hl)).1;have Iz:=hA.refs hp (Qak (Ψ _) db);refine Ev.eH rfl Xn rfl rfl rfl ?_;refine zE ?_;have aR:(ae .rw s0).bs=s0.bs:=rfl;have hF:(ae .rw s0).flr≤s0.bs.length:=Ψ _;have hH:Has s0.bs.length (ae .rw s0) (ae .rw s0) []:=Qak (Ψ _) db;generalize ae .rw s0=S2 at*;have hx:=Arg.of y_ aR;refine qq<|qj fun K hK=>qa hH fun k2 st hk2 hH=>?_;refine qe hK ?_;have LP:st.bs[kv]?=some (.mem 0 false [p.cd,p.sd,.int .i64 (pl:Nat),ld,.ptr ks 0 0]):=by rw[hH.ex.low kv jx,aR];exact VF
 have ER:lj st (.ptr kv 0 2) [.int .i64 (pl:Nat)]:=.inl ⟨kv,0,2,false,_,rfl,St.mem_of LP,rfl⟩;have EP:lj st (.ptr kv 0 3) [ld]:=.inl ⟨kv,0,3,false,_,rfl,St.mem_of LP,rfl⟩;have hlen:=hH.ex.len;rw[aR] at hlen;change ag _ _ _ _ _ _;refine qq ?_;generalize hK:bS _ _ _ _=K;refine ag.yx rfl ?_;refine dg.cons ?_;refine qm ?_;refine μ ⟨rfl,?_⟩;refine dg.cons ?_;refine qg ?_;refine μ ⟨rfl,?_⟩;refine dg.cons ?_;refine qp (o:=2) ?_;refine μ ⟨rfl,?_⟩;refine dg.cons ?_;refine qR ?_;refine μ ⟨rfl,?_⟩;refine dg.cons ?_;refine qm ?_;refine μ ⟨rfl,?_⟩;refine dg.cons ?_;refine qg ?_;refine μ ⟨rfl,?_⟩;refine dg.cons ?_;refine qp (o:=3) ?_;refine μ ⟨rfl,?_⟩;refine dg.cons ?_;refine qR ?_;refine μ ⟨rfl,?_⟩;refine dg.cons ?_;obtain⟨yd,st,aA,ks1,hH⟩:=Gx hF E1 hx (fun l hl=>⟨by obtain⟨i,hi⟩:=Qa8 hl;exact Arg.of (zK i l hi) aR,aT l hl⟩) hH;refine qv aA ?_;refine μ ⟨by exact Γ.2 ⟨jT rfl rfl rfl LP (by rw[hH.ex.low kv jx,aR];exact VF) LP z0,rfl⟩,?_⟩;refine dg.cons ?_;refine Qal (qs:=[(0,_),(1,_)]) rfl rfl rfl rfl ⟨rfl,z3,(by rfl),rfl,z3,(by exact hH.nB (by exact aJ)),trivial⟩ (by intro q hq;simp only[ω,φ,or_false] at hq;rcases hq with rfl|rfl<;>exact⟨rfl,by exact ζ rfl⟩) (by show ο _ [_,_] _=_;dsimp only[AI,Qa1,u2,u1]<;>rfl) (aa rfl _) ?_;refine μ ⟨rfl,?_⟩;refine dg.cons ?_;refine qS hH bt fun st hH=>?_;have hH:=zjsd hH;refine μ ⟨rfl,?_⟩;refine dg.nil ?_;subst hK;have h1:=hH.vE aJ (n:=14) (by decide)
 have h3:ba st s0.bs.length false 16 (.agg [.int .i64 (pl:Nat),yd])=some (MQ pl (L.map VL.pl)):=by
  show(iK (ba st s0.bs.length false 15) [.int .i64 (pl:Nat),yd]).map D.agg=_;simp only[iK,h1]
  rfl
 refine ag.ret ⟨rx,_,_,_,hH.i_ rfl bt rfl,ai h3,rfl,?_⟩
 have Wi:st.bs.take s0.bs.length=s0.bs:=by
  refine Qab fun j=>?_;rw[List.getElem?_take]
  by_cases hj:j<s0.bs.length
  ·rw[if_pos hj,hH.ex.low j hj,aR]
  ·rw[if_neg hj,BY z0]
 rw[Wi]
theorem MH.am {pl:Nat} (hM:MH [] N S s0 ks kv p pl ld L H):AM s0.bs.length s0 kv ks p pl ld L:=by
 obtain⟨pd,qd,P,Q,sn,hH,kX,eI⟩:=hM;dsimp only[u4] at hH
 exact⟨(hH.ge aJ).2,Ψ _,hH.at aJ,⟨hH.rows ie,u9 hH ie⟩,fun l hl=>(by
  obtain⟨i,hi⟩:=Qa8 hl;have h:=G5 (H:=H) [.box kv (.mem 0 false [p.cd,p.sd,.int .i64 (pl:Nat),ld,.ptr ks 0 0]),.box ks (.mem 0 false [pd,qd]),.aC pd 1 (P.map iJ),.aC qd 2 (Q.map qY),.aC ld 12 (L.map jl)] rfl hi
  exact⟨hH.rows h,u9 hH h⟩),hH.vd bt rfl⟩
theorem MH.ro {pl:Nat} (hM:MH [] N S s0 ks kv p pl ld L H):s0.ro≤s0.bs.length:=by
 obtain⟨pd,qd,P,Q,sn,hH,kX,eI⟩:=hM;rw[hH.ex.ro];exact Qah hH.db (Qah hH.hN hH.ex.len)
def jY (fr:Go.V.Fr) (k:Nat):Go.V.D:=Go.V.nth .bo fr.loc k
def bL (f:kq) (to:Int):Prop:=∀i,i<10→-1≤f i∧f i≤to
theorem J3 (hi:i<10):(vm pv 156 (.agg (aE f)) (.int .i64 (i:Nat))).map (fun d=>(d,st))=some (.int .i64 (f i),st):=by
 match i,hi with
 |0,_=>rfl
 |1,_=>rfl
 |2,_=>rfl
 |3,_=>rfl
 |4,_=>rfl
 |5,_=>rfl
 |6,_=>rfl
 |7,_=>rfl
 |8,_=>rfl
 |9,_=>rfl
theorem su (hi:i<10):dY pv 3 ((aE f).drop (0+i*1))=some (.int .i64 (f i)):=by
 match i,hi with
 |0,_=>rfl
 |1,_=>rfl
 |2,_=>rfl
 |3,_=>rfl
 |4,_=>rfl
 |5,_=>rfl
 |6,_=>rfl
 |7,_=>rfl
 |8,_=>rfl
 |9,_=>rfl
theorem zw {k:Nat} (hi:i<10):(bX pv 156 (.ptr k 0 0) (.int .i64 (i:Nat)) st).map (fun d=>(d,st))=some (.ptr k 0 (0+i*1),st):=by
 show Qaf _ (if(0:Int)≤(i:Nat)∧((i:Nat):Int)<((10:Nat):Int) then some (D.ptr k 0 (0+((i:Nat):Int).toNat*1)) else none)=_;rw[if_pos ⟨by omega,by omega⟩];rfl
theorem rC (f:kq) (to:Int):Ev pv 108 [.agg (aE f),.int .i64 to] s0 (.bool (dec (bL f to))) s0:=by
 refine Ev.iu rfl S' rfl rfl rfl ?_;refine zE ?_;obtain⟨aR,hF,hH⟩:=ri s0;generalize ae .ro s0=S at*;refine zQ 2 ?_;refine qb hH fun k2 st hk2 hH=>?_;refine zQ 5 ?_;refine χ (m:=10) hH rfl z3 (by exact aJ) (by dsimp only[δ,ι,ε,κ]<;>rfl) rfl rfl (by dsimp only[Pe,u1,u2]<;>rfl) ?_;refine zQ 3 ?_;refine ag.loop (fun mm fr st=>∃(i:Nat),fr.clean=⟨9,[jY fr 0,.int .i64 to,jY fr 2,jY fr 3,jY fr 4,jY fr 5,jY fr 6,.agg (aE f),.int .i64 (i:Nat)],[]⟩∧Has s0.bs.length S st [.box k2 (.mem 0 false (aE f))]∧(i+mm=10)∧(∀j,j<i→-1≤f j∧f j≤to)) (10) ?_ ?_
 ·exact⟨0,rfl,hH,by omega,by intro j h;omega⟩
 rintro mm fr st ⟨i,hfr,hH,hi,hpre⟩;rw[hfr];clear hfr;generalize jY fr=ee;clear fr;refine zQ 5 ?_;refine zP (fun hlt=>?_) fun hlt=>?_
 ·refine zQ 5 ?_;refine Qa0 (d:=.int .i64 (f i)) (st1:=_) rfl rfl (J3 z0) (aa rfl _) ?_;refine zQ 3 ?_;refine ag.da 17 (.bool (decide (f i< -1)||decide (f i>to))) [] ?_ (fun ff tmp cI=>?_)
  ·refine zQ 3 ?_;refine IN 13 rfl (fun cj=>?_) (fun cj=>?_)
   ·refine zQ 4 ?_;refine μ (aO ?_ ?_)
    ·dsimp only[aI,ο,nth,u2,u1]
     all_goals(first|rfl|simp)
    ·refine zF ?_
     all_goals(simp[cj];done)
   ·refine zQ 4 ?_;refine μ (aO ?_ ?_)
    ·dsimp only[aI,ο,nth,u2,u1]
     all_goals(first|rfl|simp)
    ·refine zF ?_
     all_goals(simp[cj];done)
  refine zG ?_;refine qc (fun h2=>?_) (fun h2=>?_)<;>try simp only[cs] at h2
  ·rw[cL (fun h=>by have:=h i z0;simp at h2;omega)];refine zQ 4 ?_;refine ag.ret ⟨rx,_,rfl,rl aR hH (rfl)⟩
  ·refine zQ 5 ?_;refine⟨mm-1,by omega,⟨i+1,rfl,hH,by omega,?_⟩⟩;intro j hj
   by_cases he:j=i
   ·subst he;simp at h2;omega
   ·exact hpre j z0
 ·refine zQ 1 ?_;rw[bY (q:=bL f to) (fun j hj=>hpre j z0)];refine zQ 4 ?_;refine ag.ret ⟨rx,_,rfl,rl aR hH (rfl)⟩
theorem uD (f:kq) (to:Int):Ev pv 94 [.agg (aE f),.int .i64 to] s0 (.bool (dec (bL f to))) s0:=by
 refine Ev.iu rfl WK rfl rfl rfl ?_;refine zE ?_;obtain⟨aR,hF,hH⟩:=ri s0;generalize ae .ro s0=S at*;refine zQ 2 ?_;refine qb hH fun k2 st hk2 hH=>?_;refine zQ 8 ?_;refine ag.loop (fun mm fr st=>∃(i:Nat),fr.clean=⟨6,[jY fr 0,.int .i64 to,.ptr k2 0 0,jY fr 3,jY fr 4,.int .i64 (i:Nat)],[]⟩∧Has s0.bs.length S st [.box k2 (.mem 0 false (aE f))]∧(i+mm=10)∧(∀j,j<i→-1≤f j∧f j≤to)) (10) ?_ ?_
 ·exact⟨0,rfl,hH,by omega,by intro j h;omega⟩
 rintro mm fr st ⟨i,hfr,hH,hi,hpre⟩;rw[hfr];clear hfr;generalize jY fr=ee;clear fr;refine zQ 6 ?_;refine zP (fun hlt=>?_) fun hlt=>?_
 ·refine zQ 4 ?_;refine ag.da 20 (.bool (decide (f i< -1)||decide (f i>to))) [] ?_ (fun ff tmp cI=>?_)
  ·refine qm ?_;refine Qa0 (d:=.ptr k2 0 (0+i*1)) (st1:=_) rfl rfl (zw z0) (aa rfl _) ?_;refine ab.vu hH rfl rfl aJ (su z0) (aa rfl _) ?_;refine zQ 2 ?_;refine IN 14 rfl (fun lR=>?_) (fun lR=>?_)
   ·refine zQ 6 ?_;refine μ (aO ?_ ?_)
    ·dsimp only[aI,ο,nth,u2,u1]
     all_goals(first|rfl|simp)
    ·refine zF ?_
     all_goals(simp[lR];done)
   ·refine zQ 1 ?_;refine Qa0 (d:=.ptr k2 0 (0+i*1)) (st1:=_) (aj rfl rfl rfl lR) rfl (zw z0) (aa rfl _) ?_;refine ab.vu hH (aj rfl rfl rfl lR) rfl aJ (su z0) (aa rfl _) ?_;refine zQ 3 ?_;refine μ (aO ?_ ?_)
    ·dsimp only[aI,ο,nth,u2,u1]
     all_goals(first|rfl|simp)
    ·refine zF ?_
     all_goals(simp[lR];done)
  refine zG ?_;refine qc (fun h2=>?_) (fun h2=>?_)<;>try simp only[cs] at h2
  ·rw[cL (fun h=>by have:=h i z0;simp at h2;omega)];refine zQ 4 ?_;refine ag.ret ⟨rx,_,rfl,rl aR hH (rfl)⟩
  ·refine zQ 6 ?_;refine⟨mm-1,by omega,⟨i+1,rfl,hH,by omega,?_⟩⟩;intro j hj
   by_cases he:j=i
   ·subst he;simp at h2;omega
   ·exact hpre j z0
 ·refine zQ 1 ?_;rw[bY (q:=bL f to) (fun j hj=>hpre j z0)];refine zQ 4 ?_;refine ag.ret ⟨rx,_,rfl,rl aR hH (rfl)⟩
end Go.Proofs.YtkbacjpologjbaaGreat
namespace Go.V
def lH (l:List (Int×Int)):List (D×D):=l.map fun p=>(.int .i64 p.1,.int .i64 p.2)
def getM:List (Int×Int)→Int→Int
 |[],_=>0
 |(k,x)::l,n=>if n=k then x else getM l n
def rA:List (Int×Int)→Int→Int→List (Int×Int)
 |[],n,v=>[(n,v)]
 |(k,x)::l,n,v=>if n=k then(n,v)::l else(k,x)::rA l n v
theorem pS (n v m:Int):∀l,getM (rA l n v) m=if m=n then v else getM l m
 |[]=>rfl
 |(k,x)::l=>by
  unfold rA
  by_cases h:n=k
  ·subst h;rw[if_pos rfl];unfold getM
   by_cases h2:m=n<;>simp[h2]
  ·rw[if_neg h];unfold getM;rw[pS n v m l]
   by_cases h2:m=n
   ·subst h2;simp[h]
   ·simp[h2]
theorem vK (n:Int):∀(l:List (Int×Int)) (i:Nat),(iv .i64 n (lH l) i=some none∧getM l n=0∧∀v,rA l n v=l++[(n,v)])∨∃j,iv .i64 n (lH l) i=some (some (i+j,.int .i64 (getM l n)))∧∀v,rA l n v=l.set j (n,v)
 |[],i=>.inl ⟨rfl,rfl,fun v=>rfl⟩
 |(k,x)::l,i=>by
  by_cases h:n=k
  ·subst h;exact .inr ⟨0,by simp[lH,iv,getM],fun v=>by simp[rA]⟩
  ·have hb:(n==k)=false:=by simpa using h
   rcases vK n l (i+1) with⟨h1,h2,h3⟩|⟨j,h1,h3⟩
   ·refine .inl ⟨?_,by simp[getM,h,h2],fun v=>by simp[rA,h,h3 v]⟩;show(if IntKind.i64=IntKind.i64 then(if(n==k)=true then some (some (i,D.int .i64 x)) else iv .i64 n (lH l) (i+1)) else none)=_;rw[hb];exact h1
   ·refine .inr ⟨j+1,?_,fun v=>by simp[rA,h,h3 v]⟩;show(if IntKind.i64=IntKind.i64 then(if(n==k)=true then some (some (i,D.int .i64 x)) else iv .i64 n (lH l) (i+1)) else none)=_;rw[hb];simp only[getM,h,if_false];rw[show i+(j+1)=i+1+j by omega];exact h1
variable{P:Pv}
variable{k:Nat}{l:List (Int×Int)}{kk:IntKind}{n v:Int}
theorem uZ {st:St} {t kt e:TypeId} (ht:P.cy t=some (.map kt e)) (hk:P.cy kt=some (.int kk)) (hb:st.bs[k]?=some (.map (lH l))) (hw:st.jr k 0=true):
  kA P t (.mp k) (.int .i64 n) (.int .i64 v) st=some {st with bs:=st.bs.set k (.map (lH (rA l n v)))}:=by
 unfold kA;simp only[ht,hk,hb,hw]
 rcases vK n l 0 with⟨h1,_,h3⟩|⟨j,h1,h3⟩
 ·rw[h1,h3 v];simp[lH]
 ·rw[h1,h3 v];simp[lH]
theorem CT {st:St} {t kt e:TypeId} (ht:P.cy t=some (.map kt e)) (hk:P.cy kt=some (.int kk)) (he:wQ P e=some (.int .i64 0)) (hb:st.bs[k]?=some (.map (lH l))):
  pD P t (.mp k) (.int .i64 n) st=some (.int .i64 (getM l n)):=by
 unfold pD;simp only[ht,hk,hb]
 rcases vK n l 0 with⟨h1,h2,_⟩|⟨j,h1,_⟩
 ·rw[h1,h2];exact he
 ·rw[h1]
variable{N:Nat} {S st:St} {H:List a8} {fr aG:Fr} {ops:Array Oper} {rest:List Oper} {Q:Fr→St→Prop} {dst ty:Nat} {pp:String} {a:Array Edge} {g:Option (Nat×Bool)}
theorem ab.pN {t:TypeId} {aG:Nat→Fr} (hH:Has N S st H) (hg:aD ops fr ⟨some dst,.makeMap t none,ty,pp,a,g⟩=some true) (hp:∀k,fr.put dst (.mp k)=aG k)
  (h:∀k ah,S.bs.length≤k→Has N S ah (.box k (.map (lH []))::H)→ab P ops rest (aG k) ah Q):ab P ops (⟨some dst,.makeMap t none,ty,pp,a,g⟩::rest) fr st Q:=
 Qa0 hg rfl (d:=.mp st.bs.length) (st1:=st.push (.map [])) rfl (hp _) (h _ _ hH.len (hH.pt _))
variable{j:Nat}{mo ko vo:Operand}
theorem ab.ET {t kt e:TypeId} (hH:Has N S st H) (hg:aD ops fr ⟨none,.mapUpdate t mo ko vo,ty,pp,a,g⟩=some true) (ht:P.cy t=some (.map kt e)) (hk:P.cy kt=some (.int kk)) (hm:fr.ev mo=.mp k) (hn:fr.ev ko=.int .i64 n) (hv:fr.ev vo=.int .i64 v) (hj:H[j]?=some (.box k (.map (lH l)))) (h:∀ah,Has N S ah (H.set j (.box k (.map (lH (rA l n v)))))→ab P ops rest fr ah Q):ab P ops (⟨none,.mapUpdate t mo ko vo,ty,pp,a,g⟩::rest) fr st Q:=by
 refine ab.N hg rfl (d:=.tup []) (st1:=⟨st.bs.set k (.map (lH (rA l n v))),st.flr,st.ro⟩) ?_ (h _ (hH.rj (aB:=0) hj));simp only[dN,hm,hn,hv,uZ ht hk (hH.at hj) (iE hH (cs:=[]) (hH.ge hj).1 (.inr rfl)),wt]
theorem ab.LN {t kt e:TypeId} (hH:Has N S st H) (hg:aD ops fr ⟨none,.insert t mo ko vo,ty,pp,a,g⟩=some true) (ht:P.cy t=some (.map kt e)) (hk:P.cy kt=some (.int kk)) (hm:fr.ev mo=.mp k) (hn:fr.ev ko=.int .i64 n) (hv:fr.ev vo=.int .i64 v) (hj:H[j]?=some (.box k (.map (lH l)))) (h:∀ah,Has N S ah (H.set j (.box k (.map (lH (rA l n v)))))→ab P ops rest fr ah Q):ab P ops (⟨none,.insert t mo ko vo,ty,pp,a,g⟩::rest) fr st Q:=by
 refine ab.N hg rfl (d:=.tup []) (st1:=⟨st.bs.set k (.map (lH (rA l n v))),st.flr,st.ro⟩) ?_ (h _ (hH.rj (aB:=0) hj));simp only[dN,hm,hn,hv,uZ ht hk (hH.at hj) (iE hH (cs:=[]) (hH.ge hj).1 (.inr rfl)),wt]
theorem ab.LO {t kt e:TypeId} (hH:Has N S st H) (hg:aD ops fr ⟨some dst,.lookup t mo ko false,ty,pp,a,g⟩=some true) (ht:P.cy t=some (.map kt e)) (hk:P.cy kt=some (.int kk)) (he:wQ P e=some (.int .i64 0)) (hm:fr.ev mo=.mp k) (hn:fr.ev ko=.int .i64 n) (hj:H[j]?=some (.box k (.map (lH l)))) (hp:fr.put dst (.int .i64 (getM l n))=aG) (h:ab P ops rest aG st Q):ab P ops (⟨some dst,.lookup t mo ko false,ty,pp,a,g⟩::rest) fr st Q:=by
 refine Qa0 hg rfl (d:=.int .i64 (getM l n)) (st1:=st) ?_ hp h;simp only[dN,hm,hn,CT ht hk he (hH.at hj),wt]
end Go.V
namespace Go.Proofs.YtkbacjpologjbaaGreat
open Go.V Go
def aF (fr:Go.V.Fr) (k:Nat):Go.V.D:=Go.V.nth .bo fr.loc k
structure GT where
 pc:Int
 c:kq
def fI (t:GT):List D:=[.int .i64 t.pc,.int .i64 (t.c 0),.int .i64 (t.c 1),.int .i64 (t.c 2),.int .i64 (t.c 3),.int .i64 (t.c 4),.int .i64 (t.c 5),.int .i64 (t.c 6),.int .i64 (t.c 7),.int .i64 (t.c 8),.int .i64 (t.c 9)]
variable{i:Nat}
theorem zj {l:List GT} {q:GT} (h:l[i]?=some q):(l.map fI)[i]?=some (fI q):=by rw[π,h];rfl
def kL (p:Pg) (s:Int) (m:Nat) (n:Int):Prop:=n=s∨∃i q,i<m∧n=((i+1:Nat):Int)∧(br p.code s)[i]?=some true∧p.code[i]?=some q∧q.op=1
def oB (p:Pg) (s:Int) (bn:List GT) (m:Nat) (n:Int):Prop:=kL p s p.code.length n∧∀j t,j<m→bn[j]?=some t→t.pc≠n
def lT (p:Pg) (s:Int) (bn:List GT) (place:Int) (m:Nat):Prop:=∀j t,j<m→bn[j]?=some t→oB p s bn j t.pc∧bL t.c place
variable{p:Pg}{s n:Int}{m:Nat}
theorem vF {b:Bool} {q:aL} (hb:(br p.code s)[m]?=some b) (hq:p.code[m]?=some q):kL p s (m+1) n↔kL p s m n∨(n=((m+1:Nat):Int)∧(b &&(q.op==1))=true):=by
 unfold kL;constructor
 ·rintro(h|⟨i,q',h1,h2,h3,h4,h5⟩)
  ·exact .inl (.inl h)
  ·by_cases he:i=m
   ·subst he;rw[hb] at h3;cases h3;rw[hq] at h4;cases h4;exact .inr ⟨h2,by simp[h5]⟩
   ·exact .inl (.inr ⟨i,q',by omega,h2,h3,h4,h5⟩)
 ·rintro((h|⟨i,q',h1,h2,h3,h4,h5⟩)|⟨h1,h2⟩)
  ·exact .inl h
  ·exact .inr ⟨i,q',by omega,h2,h3,h4,h5⟩
  ·simp only[Qac,beq_iff_eq] at h2;obtain⟨rfl,h2⟩:=h2;exact .inr ⟨m,q,by omega,h1,hb,hq,h2⟩
variable{bn:List GT}{j:Nat}{t:GT}
theorem Ds (ht:bn[j]?=some t):oB p s bn (j+1) n↔oB p s bn j n∧n≠t.pc:=by
 unfold oB;constructor
 ·rintro⟨h1,h2⟩;exact⟨⟨h1,fun j' t' hj h=>h2 j' t' z0 h⟩,fun h=>h2 j t z0 ht h.symm⟩
 ·rintro⟨⟨h1,h2⟩,h3⟩;refine⟨h1,fun j' t' hj h=>?_⟩
  by_cases he:j'=j
  ·subst he;rw[ht] at h;cases h;exact fun h=>h3 h.symm
  ·exact h2 j' t' z0 h
variable{place:Int}
theorem sG (ht:bn[j]?=some t) (h:lT p s bn place j) (h1:oB p s bn j t.pc) (h2:bL t.c place):lT p s bn place (j+1):=by
 intro j' t' hj h'
 by_cases he:j'=j
 ·subst he;rw[ht] at h';cases h';exact⟨h1,h2⟩
 ·exact h j' t' z0 h'
variable{s0:St}
theorem GZ (hp:p.ok) (hR:a7 p) {r:Nat} (hr:p.ak[r]?=some s) {dn:Bool} {b:kq} {td:D} (zK:V.Rows s0 11 td (bn.map fI)) (hl:bn.length≤1048576) (place:Int):
  Ev pv 109 [p.d,.int .i64 (r:Nat),.agg (aV dn b td),.int .i64 place] s0 (.bool (dec (lT p s bn place bn.length))) s0:=by
 have hcl:=hR.closed;have iA:=hR.st s (ξ hr);have B':=hp.c;have hlen:=hp.cl;have wv:=l5 p.code s;have hr8:=hR.sl;have aas:=bc hr;refine Ev.iu rfl S_ rfl rfl rfl ?_;refine zE ?_;obtain⟨aR,hF,hH⟩:=ri s0;generalize ae .ro s0=S at*;have hc:=hp.c.arg s0.bs.length S;have hs:=hp.s.arg s0.bs.length S;have MY:=Arg.of zK aR;have LB:=(oj (br p.code s)).arg s0.bs.length S;have fU:=ej hr;unfold Pg.d;refine zQ 2 ?_;refine qb hH fun k4 st OJ hH=>?_;have hH:=zjse hH;refine qb hH fun k6 st De hH=>?_;have hH:=zjse hH;refine zQ 9 ?_;refine qr fun PC Gb=>?_;refine qR ?_;refine qv ((E7 B' hlen hcl iA)) ?_;refine zQ 4 ?_;refine ab.pN hH rfl (fun _=>by dsimp only[Pe,u1,u2]<;>rfl) (fun km st VG hH=>?_);refine zQ 3 ?_;refine qr fun Ut Ot=>?_;refine qR ?_;refine ab.LN hH rfl rfl rfl rfl rfl rfl aJ (fun st hH=>?_);dsimp only[u2] at hH;refine zQ 7 ?_;refine qn ?_;simp only[θ];refine zQ 3 ?_;refine ag.loop (fun mm fr st=>∃(i:Nat) (M:List (Int×Int)),fr.clean=⟨55,[aF fr 0,.int .i64 (r:Nat),aF fr 2,.int .i64 place,.ptr k4 0 0,aF fr 5,.ptr k6 0 0,aF fr 7,aF fr 8,aF fr 9,.mp km,aF fr 11,aF fr 12,aF fr 13,aF fr 14,aF fr 15,aF fr 16,aF fr 17,aF fr 18,aF fr 19,aF fr 20,aF fr 21,aF fr 22,aF fr 23,aF fr 24,aF fr 25,aF fr 26,aF fr 27,aF fr 28,aF fr 29,oW (br p.code s),.int .i64 ((br p.code s).length:Nat),.int .i64 (i:Nat),aF fr 33,aF fr 34,aF fr 35,aF fr 36,aF fr 37,aF fr 38,aF fr 39,aF fr 40,aF fr 41,aF fr 42,aF fr 43,aF fr 44,aF fr 45,aF fr 46,aF fr 47,aF fr 48,aF fr 49,aF fr 50,aF fr 51,aF fr 52,aF fr 53,aF fr 54],[]⟩∧Has s0.bs.length S st [.box km (.map (lH M)),.box k6 (.mem 0 false (aV dn b td)),.box k4 (.mem 0 false [p.cd,p.sd])]∧(i+mm=p.code.length)∧(∀n,getM M n≠0↔kL p s i n)) (p.code.length) ?_ ?_
 ·refine⟨0,_,rfl,hH,by omega,?_⟩;intro n;rw[pS];unfold kL
  by_cases hn:n=s<;>simp[hn,getM]
 rintro mm fr st ⟨i,M,hfr,hH,hi,hM⟩;rw[hfr];clear hfr;generalize aF fr=ee;clear fr;refine zQ 5 ?_;refine zP (fun h1=>?_) fun h1=>?_
 ·refine zQ 1 ?_
  obtain⟨b,hb⟩:∃b,(br p.code s)[i]?=some b:=⟨(br p.code s)[i]' z0,η _⟩
  obtain⟨q,hq⟩:∃q,p.code[i]?=some q:=⟨p.code[i]' z0,η _⟩
  have fU:=kb hb;have mB:=fy hq;refine zQ 5 ?_;refine qr fun Qg IF=>?_;refine zQ 5 ?_;refine ag.mH 46 (.bool (b &&(q.op==1))) [37,38,39,40,41,42,43,44,45] ?_ (fun ff tmp=>?_)
  ·refine zQ 2 ?_;refine IN 38 rfl (fun lS=>?_) (fun lS=>?_)
   ·refine zQ 3 ?_;refine qr (fun YB Ra=>?_) (hg:=wi lS);refine qf (fo:=0) (fun Up Om=>?_) (hg:=wi lS);refine zQ 3 ?_;refine μ (aX ?_);refine zG ?_
    all_goals(simp[lS];done)
   ·refine zQ 8 ?_;refine μ (aX ?_);refine zG ?_
    all_goals(simp[lS];done)
  dsimp only[aI,ο,nth,u2,u1];generalize ff 37=e37;generalize ff 38=e38;generalize ff 39=e39;generalize ff 40=e40;generalize ff 41=e41;generalize ff 42=e42;generalize ff 43=e43;generalize ff 44=e44;generalize ff 45=e45;refine zF ?_;refine qc (fun h2=>?_) (fun h2=>?_)<;>try simp only[cs] at h2
  ·refine zQ 4 ?_;refine ab.ET hH rfl rfl rfl rfl rfl rfl aJ (fun st hH=>?_);dsimp only[u2] at hH;refine zQ 5 ?_;refine⟨mm-1,by omega,⟨i+1,_,rfl,hH,by omega,?_⟩⟩;intro n;rw[pS,vF hb hq,h2,←hM n]
   by_cases hn:n=((i+1:Nat):Int)
   ·rw[if_pos (by rw[hn];omega)];simp[hn]
   ·rw[if_neg z0];exact⟨.inl,fun h=>h.elim id fun h=>absurd h.1 hn⟩
  ·refine zQ 5 ?_;refine⟨mm-1,by omega,⟨i+1,_,rfl,hH,by omega,?_⟩⟩;intro n;rw[vF hb hq,←hM n];exact⟨.inl,fun h=>h.elim id fun h=>absurd h.2 (by rw[h2];decide)⟩
 ·refine zQ 1 ?_;have hM:∀n,getM M n≠0↔oB p s bn 0 n:=fun n=>by rw[hM n];unfold oB;rw[show i=p.code.length by omega];simp
  refine zQ 5 ?_;refine qn ?_;simp only[θ];refine zQ 3 ?_;refine ag.loop (fun mm fr st=>∃(j:Nat) (M:List (Int×Int)),fr.clean=⟨55,[aF fr 0,.int .i64 (r:Nat),aF fr 2,.int .i64 place,.ptr k4 0 0,aF fr 5,.ptr k6 0 0,aF fr 7,aF fr 8,aF fr 9,.mp km,aF fr 11,aF fr 12,aF fr 13,aF fr 14,aF fr 15,aF fr 16,aF fr 17,aF fr 18,aF fr 19,aF fr 20,aF fr 21,aF fr 22,aF fr 23,aF fr 24,aF fr 25,aF fr 26,aF fr 27,aF fr 28,aF fr 29,aF fr 30,aF fr 31,aF fr 32,aF fr 33,aF fr 34,aF fr 35,aF fr 36,aF fr 37,aF fr 38,aF fr 39,aF fr 40,aF fr 41,aF fr 42,aF fr 43,aF fr 44,aF fr 45,aF fr 46,aF fr 47,aF fr 48,aF fr 49,aF fr 50,aF fr 51,td,.int .i64 (bn.length:Nat),.int .i64 (j:Nat)],[]⟩∧Has s0.bs.length S st [.box km (.map (lH M)),.box k6 (.mem 0 false (aV dn b td)),.box k4 (.mem 0 false [p.cd,p.sd])]∧(j+mm=bn.length)∧(∀n,getM M n≠0↔oB p s bn j n)∧(lT p s bn place j)) (bn.length) ?_ ?_
  ·exact⟨0,_,rfl,hH,by omega,hM,(by intro j t h;omega)⟩
  rintro mm fr st ⟨j,M,hfr,hH,hj,hM,hw⟩;rw[hfr];clear hfr;generalize aF fr=ee;clear fr;refine zQ 5 ?_;refine zP (fun h3=>?_) fun h3=>?_
  ·refine zQ 1 ?_
   obtain⟨t,ht⟩:∃t,bn[j]?=some t:=⟨bn[j]' z0,η _⟩
   have C8:=zj ht;refine zQ 4 ?_;refine qr fun Um Oi=>?_;refine Qai rfl z3 z5 rfl (aa rfl _) ?_;refine qa hH fun k14 st OL hH=>?_;have hH:=zjse hH;refine qS hH aJ fun st hH=>?_;have hH:=zjse hH;refine zQ 3 ?_;refine ag.da 69 (.bool (getM M t.pc==0||!(dec (bL t.c place)))) [] ?_ (fun ff tmp cI=>?_)
   ·refine zQ 3 ?_;refine ab.LO hH rfl rfl rfl rfl rfl rfl bt (aa rfl _) ?_;refine zQ 2 ?_;refine IN 63 rfl (fun de=>?_) (fun de=>?_)
    ·refine zQ 6 ?_;refine μ (aO ?_ ?_)
     ·dsimp only[aI,ο,nth,u2,u1]
      all_goals(first|rfl|simp)
     ·refine zF ?_
      all_goals(simp[de];done)
    ·refine zQ 1 ?_;refine χ (m:=10) hH (aj rfl rfl rfl de) z3 (by exact aJ) (by dsimp only[δ,ι,ε,κ,aK,aV,aE,ax,Pg.cs,fI,bV]<;>rfl) rfl rfl (aa rfl _) ?_;refine zQ 1 ?_;refine qv (rC t.c place) ?_ (hg:=wi de);refine zQ 2 ?_;refine μ (aO ?_ ?_)
     ·dsimp only[aI,ο,nth,u2,u1]
      all_goals(first|rfl|simp)
     ·refine zF ?_
      all_goals(simp[de];done)
   refine zG ?_;refine qc (fun h4=>?_) (fun h4=>?_)<;>try simp only[cs] at h4
   ·rw[cL (fun h=>by
     have:=h j t z0 ht;rw[bY this.2] at h4;have h5:=(hM t.pc).2 this.1
     simp[h5] at h4)]
    refine zQ 4 ?_;refine ag.ret ⟨rx,_,rfl,rl aR hH (rfl)⟩
   ·refine zQ 5 ?_;refine ab.ET hH rfl rfl rfl rfl rfl rfl bt (fun st hH=>?_);dsimp only[u1,u2] at hH;refine zQ 5 ?_;refine⟨mm-1,by omega,⟨j+1,_,rfl,hH.drop 1,by omega,?_,?_⟩⟩
    ·intro n;rw[pS,Ds ht,←hM n]
     by_cases hn:n=t.pc<;>simp[hn]
    ·simp only[IS,beq_eq_false_iff_ne,ne_eq,Pd] at h4;exact sG ht hw ((hM t.pc).1 h4.1) (@of_decide_eq_true _ (ς _) h4.2)
  ·refine zQ 1 ?_;rw[show bn.length=j by omega,bY hw];refine zQ 4 ?_;refine ag.ret ⟨rx,_,rfl,rl aR hH (rfl)⟩
def cN (fr:Go.V.Fr) (k:Nat):Go.V.D:=Go.V.nth .bo fr.loc k
structure GV where
 dn:Bool
 aY:kq
 td:D
 bn:List GT
def gW (l:GV):List D:=aV l.dn l.aY l.td
theorem zi {l:List GV} {q:GV} (h:l[i]?=some q):(l.map gW)[i]?=some (gW q):=by rw[π,h];rfl
def oy (f:kq):Prop:=∀i,i<10→f i=-1
theorem H7 (f:kq):dec (oy f)=(f 0==-1 &&(f 1==-1 &&(f 2==-1 &&(f 3==-1 &&(f 4==-1 &&(f 5==-1 &&(f 6==-1 &&(f 7==-1 &&(f 8==-1 &&f 9==-1))))))))):=by
 by_cases h:oy f
 ·rw[bY h,h 0 (by decide),h 1 (by decide),h 2 (by decide),h 3 (by decide),h 4 (by decide),h 5 (by decide),h 6 (by decide),h 7 (by decide),h 8 (by decide),h 9 (by decide)];rfl
 ·rw[cL h];refine(Qaa.2 fun h2=>h ?_).symm;simp only[Qac,beq_iff_eq] at h2;intro i hi
  match i,hi with
  |0,_=>exact h2.1
  |1,_=>exact h2.2.1
  |2,_=>exact h2.2.2.1
  |3,_=>exact h2.2.2.2.1
  |4,_=>exact h2.2.2.2.2.1
  |5,_=>exact h2.2.2.2.2.2.1
  |6,_=>exact h2.2.2.2.2.2.2.1
  |7,_=>exact h2.2.2.2.2.2.2.2.1
  |8,_=>exact h2.2.2.2.2.2.2.2.2.1
  |9,_=>exact h2.2.2.2.2.2.2.2.2.2
theorem A4 (f:kq):fp pv .neq 156 (.agg (aE f)) (.agg (aE bN))=some (.bool (!dec (oy f))):=by
 have h:∀a b c d e g i j k l n:Int,fp pv .neq 156 (.agg [.int .i64 a,.int .i64 b,.int .i64 c,.int .i64 d,.int .i64 e,.int .i64 g,.int .i64 i,.int .i64 j,.int .i64 k,.int .i64 l]) (.agg [.int .i64 n,.int .i64 n,.int .i64 n,.int .i64 n,.int .i64 n,.int .i64 n,.int .i64 n,.int .i64 n,.int .i64 n,.int .i64 n])=Qaf (fun b=>D.bool !b) (match some (a==n) with|some true=>(match some (b==n) with|some true=>(match some (c==n) with|some true=>(match some (d==n) with|some true=>(match some (e==n) with|some true=>(match some (g==n) with|some true=>(match some (i==n) with|some true=>(match some (j==n) with|some true=>(match some (k==n) with|some true=>(match some (l==n) with|some true=>some true|some false=>some false|none=>none)|some false=>some false|none=>none)|some false=>some false|none=>none)|some false=>some false|none=>none)|some false=>some false|none=>none)|some false=>some false|none=>none)|some false=>some false|none=>none)|some false=>some false|none=>none)|some false=>some false|none=>none)|some false=>some false|none=>none):=fun _ _ _ _ _ _ _ _ _ _ _=>rfl;rw[H7];unfold aE;rw[show bN 0=-1 from rfl,show bN 1=-1 from rfl,show bN 2=-1 from rfl,show bN 3=-1 from rfl,show bN 4=-1 from rfl,show bN 5=-1 from rfl,show bN 6=-1 from rfl,show bN 7=-1 from rfl,show bN 8=-1 from rfl,show bN 9=-1 from rfl];rw[h];generalize(f 0==-1)=b0;generalize(f 1==-1)=b1;generalize(f 2==-1)=b2;generalize(f 3==-1)=b3;generalize(f 4==-1)=b4;generalize(f 5==-1)=b5;generalize(f 6==-1)=b6;generalize(f 7==-1)=b7;generalize(f 8==-1)=b8;generalize(f 9==-1)=b9;cases b0
 ·rfl
 cases b1
 ·rfl
 cases b2
 ·rfl
 cases b3
 ·rfl
 cases b4
 ·rfl
 cases b5
 ·rfl
 cases b6
 ·rfl
 cases b7
 ·rfl
 cases b8
 ·rfl
 cases b9<;>rfl
def ye (p:Pg) (place:Int) (L:List GV) (m:Nat):Prop:=∀r l s,r<m→L[r]?=some l→p.ak[r]?=some s→(l.dn=true∨oy l.aY)∧bL l.aY place∧lT p s l.bn place l.bn.length
structure dz (p:Pg) (place:Int) (L:List GV):Prop where
 right:a7 p
 ge:0≤place
 le:place≤1099511627776
 len:L.length=p.ak.length
 each:ye p place L L.length
variable{L:List GV}
theorem ye.succ {l:GV} (h:ye p place L m) (hl:L[m]?=some l) (hs:p.ak[m]?=some s) (h1:(l.dn=true∨oy l.aY)∧bL l.aY place∧lT p s l.bn place l.bn.length):ye p place L (m+1):=by
 intro r l' s' hr ji nW
 by_cases he:r=m
 ·subst he;rw[hl] at ji;cases ji;rw[hs] at nW;cases nW;exact h1
 ·exact h r l' s' z0 ji nW
def GI (st:St) (x:D) (L:List GV):Prop:=V.Rows st 12 x (L.map gW)∧L.length≤1048576∧∀l∈L,V.Rows st 11 l.td (l.bn.map fI)∧l.bn.length≤1048576
theorem G7 (dL:∀st,Ev pv 107 [] st (.agg (aE bN)) st) (hp:p.ok) {x:D} (hx:GI s0 x L) (place:Int):
  Ev pv 73 [p.d,.agg [.int .i64 place,x]] s0 (.bool (dec (dz p place L))) s0:=by
 obtain⟨hx,E1,It⟩:=hx;have jS:=hp.sl;refine Ev.iu rfl W4 rfl rfl rfl ?_;refine zE ?_;obtain⟨aR,hF,hH⟩:=ri s0;generalize ae .ro s0=S at*;have hs:=hp.s.arg s0.bs.length S;have hla:=Arg.of hx aR;have hcr:=fun st=>lb (s0:=st) hp;have QG:=fun{st:St} (hR:a7 p) {r:Nat} {s:Int} (hr:p.ak[r]?=some s) {dn:Bool} {b:kq} {td:D} {bn:List GT} (zK:V.Rows st 11 td (bn.map fI)) (hl:bn.length≤1048576)=>GZ (s0:=st) hp hR hr (dn:=dn) (b:=b) zK hl place;unfold Pg.d at*;refine zQ 2 ?_;refine qb hH fun k2 st hk2 hH=>?_;dsimp only[u2,u1,u3,u4,setMany,u5,u6,ν,γ,aK,aV,aE,ax,Pg.cs,fI,gW] at hH;refine qb hH fun k3 st tt hH=>?_;refine zQ 4 ?_;refine ag.mH 28 (.bool (((!dec (a7 p)||decide (place<0))||decide (place>1099511627776))||(((L.length:Nat):Int) !=((p.ak.length:Nat):Int)))) [7,8,9,10,11,12,13,14,15,16,17,18,19,20,21,22,23,24,25,26,27] ?_ (fun ff tmp=>?_)
 ·refine χ (m:=2) hH rfl z3 (by exact bt) (by dsimp only[δ,ι,ε,κ,aK,aV,aE,ax,Pg.cs,fI,gW]<;>rfl) rfl rfl (by dsimp only[Pe,u1,u2]<;>rfl) ?_;refine qv ((hcr _)) ?_;refine zQ 2 ?_;refine IN 10 rfl (fun bB=>?_) (fun bB=>?_)
  ·refine zQ 18 ?_;refine μ (aX ?_);refine zG ?_
   all_goals(simp[bB];done)
  ·refine zQ 5 ?_;refine IN 15 rfl (fun gv=>?_) (fun gv=>?_)
   ·refine zQ 13 ?_;refine μ (aX ?_);refine zG ?_
    all_goals(simp[bB,gv];done)
   ·refine zQ 5 ?_;refine IN 20 rfl (fun e6=>?_) (fun e6=>?_)
    ·refine zQ 8 ?_;refine μ (aX ?_);refine zG ?_
     all_goals(simp[bB,gv,e6];done)
    ·refine zQ 2 ?_;refine qn ?_ (hg:=wi e6);simp only[θ];refine zQ 2 ?_;refine qn ?_ (hg:=wi e6);simp only[θ];refine zQ 2 ?_;refine μ (aX ?_);refine zG ?_
     all_goals(simp[bB,gv,e6];done)
 dsimp only[aI,ο,nth,u2,u1];generalize ff 7=e7;generalize ff 8=e8;generalize ff 9=e9;generalize ff 10=e10;generalize ff 11=e11;generalize ff 12=e12;generalize ff 13=e13;generalize ff 14=e14;generalize ff 15=e15;generalize ff 16=e16;generalize ff 17=e17;generalize ff 18=e18;generalize ff 19=e19;generalize ff 20=e20;generalize ff 21=e21;generalize ff 22=e22;generalize ff 23=e23;generalize ff 24=e24;generalize ff 25=e25;generalize ff 26=e26;generalize ff 27=e27;refine qc (fun h0=>?_) (fun h0=>?_)<;>try simp only[cs] at h0
 ·rw[cL (q:=dz p place L) (fun h=>by
   rw[bY h.right] at h0;have h1:=h.ge;have h2:=h.le;have h3:=h.len
   simp at h0;omega)]
  refine zQ 4 ?_;refine ag.ret ⟨rx,_,rfl,rl aR hH (rfl)⟩
 ·refine zQ 1 ?_
  have h0:a7 p∧0≤place∧place≤1099511627776∧L.length=p.ak.length:=by
   simp only[IS,decide_eq_false_iff_not,Pd] at h0;obtain⟨⟨⟨h1,h2⟩,h3⟩,h4⟩:=h0;refine⟨@of_decide_eq_true _ (ς _) h1,by omega,by omega,?_⟩;simp at h4;omega
  obtain⟨hR,hge,hle,Ws⟩:=h0;refine zQ 5 ?_;refine qn ?_;simp only[θ];refine zQ 3 ?_;refine ag.loop (fun mm fr st=>∃(r:Nat),fr.clean=⟨33,[cN fr 0,cN fr 1,.ptr k2 0 0,.ptr k3 0 0,cN fr 4,cN fr 5,cN fr 6,cN fr 7,cN fr 8,cN fr 9,cN fr 10,cN fr 11,cN fr 12,cN fr 13,cN fr 14,cN fr 15,cN fr 16,cN fr 17,cN fr 18,cN fr 19,cN fr 20,cN fr 21,cN fr 22,cN fr 23,cN fr 24,cN fr 25,cN fr 26,cN fr 27,cN fr 28,cN fr 29,x,.int .i64 (L.length:Nat),.int .i64 (r:Nat)],[]⟩∧Has s0.bs.length S st [.box k3 (.mem 0 false [.int .i64 place,x]),.box k2 (.mem 0 false [p.cd,p.sd])]∧(r+mm=L.length)∧(ye p place L r)) (L.length) ?_ ?_
  ·exact⟨0,rfl,hH,by omega,by intro r l s h;omega⟩
  rintro mm fr st ⟨r,hfr,hH,hi,hw⟩;rw[hfr];clear hfr;generalize cN fr=ee;clear fr;refine zQ 5 ?_;refine zP (fun h1=>?_) fun h1=>?_
  ·refine zQ 1 ?_
   obtain⟨l,hl⟩:∃l,L[r]?=some l:=⟨L[r]' z0,η _⟩
   obtain⟨s,lL⟩:∃s,p.ak[r]?=some s:=⟨p.ak[r]' z0,η _⟩
   obtain⟨zK,mA⟩:=It l (ξ hl);have MY:=Arg.of zK aR;have fU:=zi hl;refine zQ 5 ?_;refine qr fun Qg IF=>?_;refine Qai rfl z3 z5 rfl (aa rfl _) ?_;refine qa hH fun k6 st De hH=>?_;refine qm ?_;refine qS hH aJ fun st hH=>?_;dsimp only[u2,u1,u3,u4,setMany,u5,u6,ν,γ,aK,aV,aE,ax,Pg.cs,fI,gW] at hH;refine zQ 2 ?_;refine ag.da 62 (.bool (((!l.dn &&!dec (oy l.aY))||!dec (bL l.aY place))||!dec (lT p s l.bn place l.bn.length))) [] ?_ (fun ff tmp cI=>?_)
   ·refine zQ 4 ?_;refine IN 40 rfl (fun bB=>?_) (fun bB=>?_)
    ·refine zQ 1 ?_;refine χ (m:=10) hH (aj rfl rfl rfl bB) z3 (by exact aJ) (by dsimp only[δ,ι,ε,κ,aK,aV,aE,ax,Pg.cs,fI,gW]<;>rfl) rfl rfl (aa rfl _) ?_;refine qv (dL _) ?_ (hg:=wi bB);refine ab.PE (aj rfl rfl rfl bB) z3 z3 (A4 l.aY) (aa rfl _) ?_;refine zQ 2 ?_;refine IN 46 rfl (fun fc=>?_) (fun fc=>?_)
     ·refine zQ 16 ?_;refine μ (aO ?_ ?_)
      ·dsimp only[aI,ο,nth,u2,u1]
       all_goals(first|rfl|simp)
      ·refine zF ?_
       all_goals(simp[bB,fc];done)
     ·refine zQ 1 ?_;refine χ (m:=10) hH (aj rfl rfl rfl fc) z3 (by exact aJ) (by dsimp only[δ,ι,ε,κ,aK,aV,aE,ax,Pg.cs,fI,gW]<;>rfl) rfl rfl (aa rfl _) ?_;refine zQ 2 ?_;refine qv (rC l.aY place) ?_ (hg:=wi fc);refine zQ 3 ?_;refine IN 54 rfl (fun cJ=>?_) (fun cJ=>?_)
      ·refine zQ 8 ?_;refine μ (aO ?_ ?_)
       ·dsimp only[aI,ο,nth,u2,u1]
        all_goals(first|rfl|simp)
       ·refine zF ?_
        all_goals(simp[bB,fc,cJ];done)
      ·refine χ (m:=2) hH (aj rfl rfl rfl cJ) z3 (by exact cU) (by dsimp only[δ,ι,ε,κ,aK,aV,aE,ax,Pg.cs,fI,gW]<;>rfl) rfl rfl (aa rfl _) ?_;refine zQ 1 ?_;refine χ (m:=12) hH (aj rfl rfl rfl cJ) z3 (by exact aJ) (by dsimp only[δ,ι,ε,κ,aK,aV,aE,ax,Pg.cs,fI,gW]<;>rfl) rfl rfl (aa rfl _) ?_;refine zQ 2 ?_;refine qv ((QG hR lL (MY.rows hH) mA)) ?_ (hg:=wi cJ);refine zQ 2 ?_;refine μ (aO ?_ ?_)
       ·dsimp only[aI,ο,nth,u2,u1]
        all_goals(first|rfl|simp)
       ·refine zF ?_
        all_goals(simp[bB,fc,cJ];done)
    ·refine zQ 7 ?_;refine χ (m:=10) hH rfl z3 (by exact aJ) (by dsimp only[δ,ι,ε,κ,aK,aV,aE,ax,Pg.cs,fI,gW]<;>rfl) rfl rfl (aa rfl _) ?_;refine zQ 2 ?_;refine qv (rC l.aY place) ?_;refine zQ 3 ?_;refine IN 54 rfl (fun cJ=>?_) (fun cJ=>?_)
     ·refine zQ 8 ?_;refine μ (aO ?_ ?_)
      ·dsimp only[aI,ο,nth,u2,u1]
       all_goals(first|rfl|simp)
      ·refine zF ?_
       all_goals(simp[bB,cJ];done)
     ·refine χ (m:=2) hH (aj rfl rfl rfl cJ) z3 (by exact cU) (by dsimp only[δ,ι,ε,κ,aK,aV,aE,ax,Pg.cs,fI,gW]<;>rfl) rfl rfl (aa rfl _) ?_;refine zQ 1 ?_;refine χ (m:=12) hH (aj rfl rfl rfl cJ) z3 (by exact aJ) (by dsimp only[δ,ι,ε,κ,aK,aV,aE,ax,Pg.cs,fI,gW]<;>rfl) rfl rfl (aa rfl _) ?_;refine zQ 2 ?_;refine qv ((QG hR lL (MY.rows hH) mA)) ?_ (hg:=wi cJ);refine zQ 2 ?_;refine μ (aO ?_ ?_)
      ·dsimp only[aI,ο,nth,u2,u1]
       all_goals(first|rfl|simp)
      ·refine zF ?_
       all_goals(simp[bB,cJ];done)
   refine zG ?_;refine qc (fun h2=>?_) (fun h2=>?_)<;>try simp only[cs] at h2
   ·rw[cL (q:=dz p place L) (fun h=>by
     obtain⟨h3,h4,h5⟩:=h.each r l s z0 hl lL;rw[bY h4,bY h5] at h2
     rcases h3 with h3|h3
     ·simp[h3] at h2
     ·simp[bY h3] at h2)]
    refine zQ 4 ?_;refine ag.ret ⟨rx,_,rfl,rl aR hH (rfl)⟩
   ·refine zQ 5 ?_;refine⟨mm-1,by omega,⟨r+1,rfl,hH.drop 1,by omega,?_⟩⟩;simp only[IS,Bool.and_eq_false_iff,Pd] at h2;obtain⟨⟨h3,h4⟩,h5⟩:=h2;refine hw.succ hl lL ⟨?_,@of_decide_eq_true _ (ς _) h4,@of_decide_eq_true _ (ς _) h5⟩
    rcases h3 with h3|h3
    ·exact .inl h3
    ·exact .inr (@of_decide_eq_true _ (ς _) h3)
  ·refine zQ 1 ?_;rw[bY (q:=dz p place L) ⟨hR,hge,hle,Ws,by rw[show L.length=r by omega];exact hw⟩];refine zQ 4 ?_;refine ag.ret ⟨rx,_,rfl,rl aR hH (rfl)⟩
end Go.Proofs.YtkbacjpologjbaaGreat
