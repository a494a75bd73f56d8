/-
 The program's reader: numbers.
-/
import Derived.Test.YtecjacicdpejaaaGreatVGHr
import Derived.Test.YtecjacicdpejaaaGreatVGJp
import Derived.Test.YtecjacicdpejaaaGreatVGUo
import Derived.Test.YtecjacicdpejaaaGreatVGYv
import Derived.Test.YtecjacicdpejaaaGreatVGSg
set_option maxRecDepth 100000
set_option maxHeartbeats 4000000
set_option linter.unusedSimpArgs false
set_option linter.unusedVariables false
open List renaming length_cons→γ,length_nil→δ,length_append→ε,length_reverse→ζ,length_map→η,length_set→θ,foldl→μ,not_mem_nil→ξ,mem_map→ο,getElem?_eq_getElem→π,mem_cons→ρ,drop_eq_getElem_cons→Zn,map_cons→Zt,length_eq_zero_iff→Y',append_assoc→xw,getElem?_map→v8,drop_length→VQ,length_drop→VM,length_take→VT,append_nil→GB,foldl_cons→Bv,map_append→BY,drop_take→IN,foldl_nil→IS,map_take→IT,map_map→LL,drop→Pe
open Nat renaming reduceAdd→ι,le_of_ble_eq_true→κ,le_refl→ψ,mod_eq_of_lt→ω,pow_le_pow_right→Δ,shiftLeft_add_eq_or_of_lt→Wh,add_sub_cancel_left→YH,eq_zero_or_pos→ki,shiftLeft_eq→Cf,add_comm→P8,le_trans→PR,pow_succ→Pd
open Go.V.D renaming cells→ν,int→ZD
open Go.V.Ev renaming eN→ς
open BitVec renaming ofInt_natCast→τ,toNat_ofNat→φ,ofInt→Ω,toNat_or→wt
open Go.V.ab renaming e_→υ,nil→χ,go→Γ,bB→Φ,re→Ψ,two→YQ,gd→JS,gE→Cr,prt→OF,av→AT,bQ→AI,kW→bU
open Go.V.Fr renaming put→Θ,get→R2,ev→AN
open Option renaming map→Ξ,some→Q5,map_some→Ut
open Go.V renaming Rows→Z5,look→R3
namespace Go.Proofs.YtecjacicdpejaaaGreat
open Go.V Go
def bG (fr:Go.V.Fr) (k:Nat):Go.V.D:=Go.V.nth .bI fr.loc k
def cP (x:D) (s:df):List D:=[x,.int .i64 (s.at_:Nat),.int .i64 s.e]
theorem Cm (c:UInt8) (st:St):j8 pv 5 3 (.int .u8 (c.toNat:Nat)) st=some (.int .i64 (c.toNat:Nat),st):=by
 show some (ZD .i64 (bJ .i64 (c.toNat:Nat)),st)=_;have h:c.toNat<256:=c.toNat_lt;rw[ct (by simp only[ic];omega)]
theorem Qd (c:UInt8) (st:St):j8 pv 5 151 (.int .u8 (c.toNat:Nat)) st=some (.int .u64 (c.toNat:Nat),st):=by
 show some (ZD .u64 (bJ .u64 (c.toNat:Nat)),st)=_;have h:c.toNat<256:=c.toNat_lt;rw[ct (by simp only[ic];omega)]
theorem Nk (u:Nat) (h:u<9223372036854775808) (st:St):j8 pv 151 3 (.int .u64 (u:Nat)) st=some (.int .i64 (u:Nat),st):=by
 show some (ZD .i64 (bJ .i64 (u:Nat)),st)=_;rw[ct (by simp only[ic];omega)]
theorem OD (u:Nat) (h:u*256<18446744073709551616) (st:St):(fw pv .shl 151 (.int .u64 (u:Nat)) (.int .i64 8)).map (fun d=>(d,st))=some (.int .u64 ((u*256:Nat):Int),st):=by
 show Ξ _ (if(8:Int)<0 then none else some (ZD .u64 (bJ .u64 ((u:Nat)*2^(min (8:Int).toNat 64)))))=_
 rw[if_neg (by decide),show((u:Nat):Int)*2^(min (8:Int).toNat 64)=((u*256:Nat):Int) by
  rw[show(min (8:Int).toNat 64)=8 from rfl];omega,ct (by simp only[ic];omega)]
 rfl
theorem Rt (u c:Nat) (hc:c<256) (h:u*256+c<18446744073709551616) (st:St):(fw pv .or 151 (.int .u64 ((u*256:Nat):Int)) (.int .u64 (c:Nat))).map (fun d=>(d,st))=some (.int .u64 ((u*256+c:Nat):Int),st):=by
 show Ξ _ (some (ZD .u64 (bJ .u64 ((Ω 64 ((u*256:Nat):Int)|||Ω 64 ((c:Nat):Int)).toNat:Nat))))=_;rw[τ,τ,wt,φ,φ,ω (by omega),ω (by omega)]
 have e:u*256|||c=u*256+c:=by
  have:=Wh (i:=8) (b:=c) hc u;rw[Cf] at this;exact this.symm
 rw[e,ct (by simp only[ic];omega)];rfl
theorem wR (u:Nat) (st:St):(fw pv .shr 151 (.int .u64 (u:Nat)) (.int .i64 63)).map (fun d=>(d,st))=some (.int .u64 ((u/9223372036854775808:Nat):Int),st):=by
 show Ξ _ (if(63:Int)<0 then none else some (ZD .u64 (Int.fdiv (u:Nat) (2^(min (63:Int).toNat 64)))))=_;rw[if_neg (by decide),show(2:Int)^(min (63:Int).toNat 64)=((9223372036854775808:Nat):Int) from rfl,Int.fdiv_eq_ediv_of_nonneg _ (Int.natCast_nonneg _)];rfl
variable{N k:Nat}{S s0:St}{H:List bo}{x:D}{s:df}
theorem ie (a:Nat) (e:Int) (hH:Has N S s0 (.box k (.mem 0 false (cP x s))::H)):
  ∃d ai,Ev pv 97 [.ptr k 0 0,.int .i64 (a:Nat),.int .i64 e] s0 d ai∧d=.int .i64 0∧Has N S ai (.box k (.mem 0 false (cP x ⟨a,e⟩))::H):=by
 refine ς rfl abc rfl rfl rfl ?_;refine zE ?_;have cj:=hH;have hH:=hH.bE;have bV:(ae .rw s0).bs=s0.bs:=rfl;generalize ae .rw s0=S2 at*;refine zQ 12 ?_;refine qT hH aB fun st hH=>?_;dsimp only[u2,u1,u3,u4,setMany,u5,u6,ν,ι,cP] at hH;refine zQ 2 ?_;refine qT hH aB fun st hH=>?_;dsimp only[u2,u1,u3,u4,setMany,u5,u6,ν,ι,cP] at hH;refine zQ 5 ?_;refine ag.ret ⟨rx,_,_,_,rfl,aj (rfl),?_⟩;exact⟨rfl,cj.aq bV hH⟩
theorem te (hH:Has N S s0 (.box k (.mem 0 false (cP x s))::H)):
  ∃d ai,Ev pv 42 [.ptr k 0 0] s0 d ai∧d=.int .i64 s.e∧Has N S ai (.box k (.mem 0 false (cP x s))::H):=by
 refine ς rfl abM rfl rfl rfl ?_;refine zE ?_;have cj:=hH;have hH:=hH.bE;have bV:(ae .rw s0).bs=s0.bs:=rfl;generalize ae .rw s0=S2 at*;refine zQ 12 ?_;refine ag.ret ⟨rx,_,_,_,rfl,aj (rfl),?_⟩;exact⟨rfl,cj.aq bV hH⟩
variable{st:St}{b:List UInt8}
theorem xm {e:bo} (hH:Has N S st (e::.aF x 1 (byteCells b)::H)) {l r:Nat} (h:l≤r∧r≤b.length):Z5 st 1 (ue x l r) (byteCells ((b.take r).drop l)):=by
 have:=(hH.rows aO).Ub (l:=l) (r:=r) (by rw[au];exact h);unfold byteCells at this⊢;rw[List.map_drop,IT];exact this
theorem om (hbl:b.length≤1099511627776) (ba:s.at_≤b.length) (hH:Has N S s0 (.box k (.mem 0 false (cP x s))::.aF x 1 (byteCells b)::H)):
  ∃d ai,Ev pv 37 [.ptr k 0 0] s0 d ai∧d=.int .i64 (bc b s).1∧Has N S ai (.box k (.mem 0 false (cP x (bc b s).2))::.aF x 1 (byteCells b)::H):=by
 refine ς rfl abR rfl rfl rfl ?_;refine zE ?_;have cj:=hH;have hH:=hH.bE;have bV:(ae .rw s0).bs=s0.bs:=rfl;generalize ae .rw s0=S2 at*;refine zQ 13 ?_;refine ag.cond (by rfl) (fun he=>?_) (fun he=>?_)<;>try simp only[bne_iff_ne,bne_eq_false_iff_eq,ne_eq] at he
 ·have hv:bc b s=(0,s):=by unfold bc;rw[if_pos he]
  rw[hv];refine zQ 4 ?_;refine ag.ret ⟨rx,_,_,_,rfl,aj (rfl),?_⟩;exact⟨rfl,cj.aq bV hH⟩
 refine zQ 1 ?_;have YP:b.take b.length=b:=List.take_length
 have f_:∀{st:St} {e:bo} {H:List bo},Has N S2 st (e::.aF x 1 (byteCells b)::H)→Z5 st 1 (ue x s.at_ b.length) (byteCells (b.drop s.at_)):=fun h=>by
  have:=xm h (l:=s.at_) (r:=b.length) ⟨ba,ψ _⟩
  rwa [YP] at this
 have hv:bc b s=match b.drop s.at_ with
  |[]=>(0,⟨s.at_,3⟩)
  |k::rest=>
   if 8<k.toNat then(0,⟨s.at_,4⟩)
   else if rest.length<k.toNat then(0,⟨s.at_,3⟩)
   else if(0<k.toNat∧rest.head?=some 0)∨9223372036854775808≤dX 0 (rest.take k.toNat) then(0,⟨s.at_,4⟩)
   else((dX 0 (rest.take k.toNat):Nat),⟨s.at_+1+k.toNat,0⟩):=by
  unfold bc;rw[if_neg (by simpa using he)];cases Pe s.at_ b<;>rfl
 refine zQ 10 ?_;refine OF rfl (ev rfl) (hH.rows aO) rfl rfl (mH (by rw[au];exact ba)) ⟨by rw[au];exact ba,by rw[au];exact ψ _⟩ (by dsimp only[Θ,u1,u2]<;>rfl) ?_;refine zQ 2 ?_;rw[au];have Kg:(b.drop s.at_).length=b.length-s.at_:=VM;have V8:=au (b.drop s.at_);refine zQ 4 ?_;refine bU rfl (ev rfl) (f_ hH) rfl (by dsimp only[Θ,u1,u2]<;>rfl) ?_;refine zQ 2 ?_;rw[V8]
 obtain⟨R,hR⟩:∃R,b.drop s.at_=R:=⟨_,rfl⟩
 rw[hR] at hv Kg;simp only[hR] at f_⊢;clear V8
 cases R with
 |nil=>
  simp only at hv;rw[hv];refine ag.cond (v:=true) (by dsimp only[AN,R2,nth,R3];rfl) (fun _=>?_) (fun h=>by cases h);refine zQ 7 ?_;obtain⟨_,st,ax,rfl,hH⟩:=ie s.at_ 3 hH;refine qv ax ?_;refine zQ 2 ?_;refine ag.ret ⟨rx,_,_,_,rfl,aj (rfl),?_⟩;exact⟨rfl,cj.aq bV hH⟩
 |cons c rest=>
 simp only at hv;simp only[γ] at Kg⊢;have JD:(((rest.length+1:Nat):Int)==0)=false:=by rw[beq_eq_false_iff_ne];omega
 refine qE rfl (by rw[JD]) ?_;refine zQ 1 ?_;have gw:(byteCells (c::rest))[0]?=some [.int .u8 (c.toNat:Nat)]:=rfl;refine zQ 3 ?_;refine Ψ (i:=0) rfl (ev rfl) (ev rfl) (f_ hH) rfl rfl gw (fun _=>by dsimp only[Θ,u1,u2]<;>rfl) (fun Zg Mf=>?_);refine Φ rfl (ev rfl) Mf rfl (by dsimp only[Θ,u1,u2]<;>rfl) ?_;refine Γ (d:=.int .i64 (c.toNat:Nat)) (st1:=_) rfl rfl (by exact Cm c _) (by dsimp only[Θ,u1,u2]<;>rfl) ?_;refine zQ 2 ?_
 obtain⟨kn,hkn⟩:∃kn,c.toNat=kn:=⟨_,rfl⟩
 rw[hkn] at hv⊢;refine zQ 6 ?_;refine zP (fun h8=>?_) fun h8=>?_
 ·rw[if_pos (by omega)] at hv;rw[hv];refine zQ 7 ?_;obtain⟨_,st,ax,rfl,hH⟩:=ie s.at_ 4 hH;refine qv ax ?_;refine zQ 2 ?_;refine ag.ret ⟨rx,_,_,_,rfl,aj (rfl),?_⟩;exact⟨rfl,cj.aq bV hH⟩
 rw[if_neg (by omega)] at hv;refine zQ 5 ?_;refine bU rfl (ev rfl) (f_ hH) rfl (by dsimp only[Θ,u1,u2]<;>rfl) ?_;refine qm ?_;refine υ (z:=((1+kn:Nat):Int)) rfl (ev rfl) (ev rfl) (by(try simp only[ζ,γ,δ,ε,η,θ]);rw[wrap_i64 (by omega) (by omega)]<;>omega) (by dsimp only[Θ,u1,u2]<;>rfl) ?_;refine zQ 2 ?_;simp only[au,γ]
 by_cases hs:rest.length<kn
 ·rw[if_pos hs] at hv;rw[hv];have hc:decide (((rest.length+1:Nat):Int)<((1+kn:Nat):Int))=true:=by rw[decide_eq_true_eq];omega
  refine qD rfl (by rw[hc]) ?_;refine zQ 7 ?_;obtain⟨_,st,ax,rfl,hH⟩:=ie s.at_ 3 hH;refine qv ax ?_;refine zQ 2 ?_;refine ag.ret ⟨rx,_,_,_,rfl,aj (rfl),?_⟩;exact⟨rfl,cj.aq bV hH⟩
 rw[if_neg hs] at hv;have hc:decide (((rest.length+1:Nat):Int)<((1+kn:Nat):Int))=false:=by rw[decide_eq_false_iff_not];omega
 refine qE rfl (by rw[hc]) ?_;refine zQ 1 ?_
 obtain⟨l,hl⟩:∃l,rest.take kn=l:=⟨_,rfl⟩
 have px:l.length=kn:=by rw[←hl,VT];omega
 rw[hl] at hv
 obtain⟨y,hy⟩:∃y,ue (ue x s.at_ b.length) 1 (1+kn)=y:=⟨_,rfl⟩
 have F_:∀{st:St} {e:bo} {H:List bo},Has N S2 st (e::.aF x 1 (byteCells b)::H)→Z5 st 1 y (byteCells l):=fun h=>by
  have h2:=(f_ h).Ub (l:=1) (r:=1+kn) (by rw[au,γ];omega);rw[hy] at h2
  have e:((byteCells (c::rest)).take (1+kn)).drop 1=byteCells l:=by
   rw[←hl,P8 1 kn];unfold byteCells;rw[Zt,List.take_succ_cons,List.drop_succ_cons,List.drop_zero,IT]
  rwa [e] at h2
 refine zQ 9 ?_;refine υ (z:=((1+kn:Nat):Int)) rfl (ev rfl) (ev rfl) (by(try simp only[ζ,γ,δ,ε,η,θ]);rw[wrap_i64 (by omega) (by omega)]<;>omega) (by dsimp only[Θ,u1,u2]<;>rfl) ?_;refine OF rfl (ev rfl) (f_ hH) rfl rfl (pL (m:=1) (n:=1+kn) (by rw[au,γ];omega)) ⟨by omega,by rw[au,γ];omega⟩ (by dsimp only[Θ,u1,u2]<;>rfl) ?_;rw[hy];refine bU rfl (ev rfl) (F_ hH) rfl (by dsimp only[Θ,u1,u2]<;>rfl) ?_;rw[au];refine zQ 2 ?_
 have QO:∀(i u:Nat),i≤7→u<256^i→u*256+255<18446744073709551616:=fun i u hi hu=>by
  have h1:256^i≤256^7:=Δ (by decide) hi;have h2:(256:Nat)^7=72057594037927936:=by decide
  omega
 refine zQ 1 ?_;refine ag.loop (fun mm fr st=>∃(i u:Nat),fr.clean=⟨60,[.ptr k 0 0,bG fr 1,bG fr 2,ue x s.at_ b.length,.int .i64 (kn:Nat),.int .u64 (u:Nat),bG fr 6,bG fr 7,bG fr 8,bG fr 9,bG fr 10,bG fr 11,bG fr 12,bG fr 13,bG fr 14,bG fr 15,bG fr 16,bG fr 17,bG fr 18,bG fr 19,bG fr 20,bG fr 21,bG fr 22,bG fr 23,bG fr 24,bG fr 25,bG fr 26,bG fr 27,bG fr 28,bG fr 29,bG fr 30,bG fr 31,bG fr 32,bG fr 33,bG fr 34,bG fr 35,bG fr 36,bG fr 37,bG fr 38,bG fr 39,bG fr 40,bG fr 41,bG fr 42,bG fr 43,bG fr 44,bG fr 45,bG fr 46,bG fr 47,bG fr 48,bG fr 49,bG fr 50,bG fr 51,bG fr 52,bG fr 53,bG fr 54,bG fr 55,bG fr 56,y,.int .i64 (l.length:Nat),.int .i64 (i:Nat)],[]⟩∧Has N S2 st (.box k (.mem 0 false (cP x s))::.aF x 1 (byteCells b)::H)∧(i+mm=l.length)∧(dX u (l.drop i)=dX 0 l)∧(u<256^i)) (l.length) ?_ ?_
 ·exact⟨0,0,rfl,hH,by omega,rfl,by decide⟩
 rintro mm fr st ⟨i,u,hfr,hH,hi,hu,hul⟩;rw[hfr];clear hfr;generalize bG fr=ee;clear fr;refine zQ 4 ?_
 by_cases hlt:i<l.length
 ·have oK:decide (((i:Nat):Int)<((l.length:Nat):Int))=true:=by rw[decide_eq_true_eq];omega
  refine qq<|qD rfl (by rw[oK]) ?_;refine zQ 3 ?_
  obtain⟨q,hq⟩:∃q,l[i]?=some q:=⟨l[i]'hlt,π _⟩
  have nB:(byteCells l)[i]?=some [.int .u8 (q.toNat:Nat)]:=by unfold byteCells;rw[v8,hq];rfl
  have vP:l.drop i=q::l.drop (i+1):=by
   have:=Zn (l:=l) (i:=i) hlt;rw[this];congr 1;rw[π hlt] at hq;exact Q5.inj hq
  rw[vP] at hu;have Kb:q.toNat<256:=q.toNat_lt;have hub:=QO i u (by omega) hul;refine zQ 2 ?_;refine Ψ rfl (ev rfl) (ev rfl) (F_ hH) rfl rfl nB (fun _=>(aa rfl _)) (fun p61 Sb=>?_);refine Φ rfl (ev rfl) Sb rfl (aa rfl _) ?_;refine zQ 4 ?_;refine Γ (d:=.int .u64 ((u*256:Nat):Int)) (st1:=_) rfl rfl (by exact OD u (by omega) _) (aa rfl _) ?_;refine qm ?_;refine Γ (d:=.int .u64 (q.toNat:Nat)) (st1:=_) rfl rfl (by exact Qd q _) (aa rfl _) ?_;refine Γ (d:=.int .u64 ((u*256+q.toNat:Nat):Int)) (st1:=_) rfl rfl (by exact Rt u q.toNat Kb (by omega) _) (aa rfl _) ?_;refine zQ 6 ?_;exact⟨mm-1,by omega,⟨i+1,u*256+q.toNat,rfl,hH,by omega,hu,by rw[Pd];omega⟩⟩
 ·have oK:decide (((i:Nat):Int)<((l.length:Nat):Int))=false:=by rw[decide_eq_false_iff_not];omega
  refine qq<|qE rfl (by rw[oK]) ?_;refine zQ 1 ?_;have hil:i=l.length:=by omega
  rw[hil,VQ] at hu;have hu:u=dX 0 l:=hu;rw[←hu] at hv
  have acK:u<18446744073709551616:=by
   have h1:256^i≤256^8:=Δ (by decide) (by omega);have h2:(256:Nat)^8=18446744073709551616:=by decide
   omega
  have hwr:∀st:St,Has N S2 st (.box k (.mem 0 false (cP x s))::.aF x 1 (byteCells b)::H)→∃d ai,Ev pv 97 [.ptr k 0 0,.int .i64 (s.at_:Nat),.int .i64 4] st d ai∧d=.int .i64 0∧Has N S2 ai (.box k (.mem 0 false (cP x ⟨s.at_,4⟩))::.aF x 1 (byteCells b)::H):=fun st hH=>ie s.at_ 4 hH
  have PQ:(((u/9223372036854775808:Nat):Int)==1)=decide (9223372036854775808≤u):=by
   by_cases h:9223372036854775808≤u
   ·have:u/9223372036854775808=1:=by omega
    rw[this,decide_eq_true h];rfl
   ·have:u/9223372036854775808=0:=by omega
    rw[this,decide_eq_false h];rfl
  by_cases PV:kn=0
  ·have br:decide (((kn:Nat):Int)>0)=false:=by rw[decide_eq_false_iff_not];omega
   have Fa:l=[]:=Y'.1 (by omega);have US:u=0:=by rw[hu,Fa];rfl
   have dL:false=false:=rfl;rw[if_neg (by omega)] at hv;rw[hv];subst US;refine zQ 13 ?_;refine Γ (d:=.int .u64 0) (st1:=_) rfl rfl (by exact wR 0 _) (aa rfl _) ?_;refine zQ 12 ?_;refine υ (z:=((1+kn:Nat):Int)) rfl (ev rfl) (ev rfl) (by(try simp only[ζ,γ,δ,ε,η,θ]);rw[wrap_i64 (by omega) (by omega)]<;>omega) (aa rfl _) ?_;refine υ (z:=((s.at_+1+kn:Nat):Int)) rfl (ev rfl) (ev rfl) (by(try simp only[ζ,γ,δ,ε,η,θ]);rw[wrap_i64 (by omega) (by omega)]<;>omega) (aa rfl _) ?_;refine zQ 2 ?_;refine qT hH aB fun st hH=>?_;dsimp only[u2,u1,u3,u4,setMany,u5,u6,ν,ι,cP] at hH;refine zQ 4 ?_;refine Γ (d:=.int .i64 (0:Nat)) (st1:=_) rfl rfl (by exact Nk 0 (by decide) _) (aa rfl _) ?_;refine zQ 2 ?_;have PK:s.e=0:=by simpa using he
   refine ag.ret ⟨rx,_,_,_,rfl,aj (rfl),?_⟩;rw[PK] at hH;exact⟨rfl,cj.aq bV hH⟩
  ·have br:decide (((kn:Nat):Int)>0)=true:=by rw[decide_eq_true_eq];omega
   obtain⟨z,Hy,rfl⟩:∃z r,rest=z::r:=by
    cases rest with
    |nil=>simp only[δ] at hs;omega
    |cons z r=>exact⟨z,r,rfl⟩
   have Gc:(byteCells (c::z::Hy))[1]?=some [.int .u8 (z.toNat:Nat)]:=rfl
   have hz:(((z.toNat:Nat):Int)==0)=decide (z=0):=by
    by_cases h:z=0
    ·subst h;rfl
    ·have:z.toNat≠0:=fun e=>h (by rw[←UInt8.toNat_inj];exact e);rw[decide_eq_false h,beq_eq_false_iff_ne];omega
   by_cases hz0:z=0
   ·have dL:(((z.toNat:Nat):Int)==0)=true:=by rw[hz,decide_eq_true hz0]
    rw[if_pos (.inl ⟨by omega,by rw[hz0];rfl⟩)] at hv;rw[hv];refine zQ 7 ?_;refine Ψ (i:=1) (af rfl rfl rfl br) (ev rfl) (ev rfl) (f_ hH) rfl rfl Gc (fun _=>(aa rfl _)) (fun p73 Md=>?_);refine Φ (af rfl rfl rfl br) (ev rfl) Md rfl (aa rfl _) ?_;refine zQ 16 ?_;obtain⟨_,st,ax,rfl,hH⟩:=hwr _ hH;refine qv ax ?_;refine zQ 2 ?_;refine ag.ret ⟨rx,_,_,_,rfl,aj (rfl),?_⟩;exact⟨rfl,cj.aq bV hH⟩
   ·have dL:(((z.toNat:Nat):Int)==0)=false:=by rw[hz,decide_eq_false hz0]
    by_cases yk:9223372036854775808≤u
    ·rw[if_pos (.inr yk)] at hv;rw[hv];rw[decide_eq_true yk] at PQ;refine zQ 7 ?_;refine Ψ (i:=1) (af rfl rfl rfl br) (ev rfl) (ev rfl) (f_ hH) rfl rfl Gc (fun _=>(aa rfl _)) (fun p73 Md=>?_);refine Φ (af rfl rfl rfl br) (ev rfl) Md rfl (aa rfl _) ?_;refine zQ 4 ?_;refine Γ (d:=.int .u64 ((u/9223372036854775808:Nat):Int)) (st1:=_) (af rfl rfl rfl dL) rfl (by exact wR u _) (aa rfl _) ?_;refine zQ 3 ?_;refine ag.cond (v:=true) (by dsimp only[AN,R2,nth,R3];exact congrArg D.bool PQ) (fun _=>?_) (fun h=>by cases h);refine zQ 7 ?_;obtain⟨_,st,ax,rfl,hH⟩:=hwr _ hH;refine qv ax ?_;refine zQ 2 ?_;refine ag.ret ⟨rx,_,_,_,rfl,aj (rfl),?_⟩;exact⟨rfl,cj.aq bV hH⟩
    ·have RJ:¬((0<kn∧(z::Hy).head?=some 0)∨9223372036854775808≤u):=by
      rintro(⟨_,h⟩|h)
      ·exact hz0 (Q5.inj h)
      ·exact yk h
     rw[if_neg RJ] at hv;rw[hv];rw[decide_eq_false yk] at PQ;refine zQ 7 ?_;refine Ψ (i:=1) (af rfl rfl rfl br) (ev rfl) (ev rfl) (f_ hH) rfl rfl Gc (fun _=>(aa rfl _)) (fun p73 Md=>?_);refine Φ (af rfl rfl rfl br) (ev rfl) Md rfl (aa rfl _) ?_;refine zQ 4 ?_;refine Γ (d:=.int .u64 ((u/9223372036854775808:Nat):Int)) (st1:=_) (af rfl rfl rfl dL) rfl (by exact wR u _) (aa rfl _) ?_;refine zQ 3 ?_;refine ag.cond (v:=false) (by dsimp only[AN,R2,nth,R3];exact congrArg D.bool PQ) (fun h=>by cases h) (fun _=>?_);refine zQ 8 ?_;refine υ (z:=((1+kn:Nat):Int)) rfl (ev rfl) (ev rfl) (by(try simp only[ζ,γ,δ,ε,η,θ]);rw[wrap_i64 (by omega) (by omega)]<;>omega) (aa rfl _) ?_;refine υ (z:=((s.at_+1+kn:Nat):Int)) rfl (ev rfl) (ev rfl) (by(try simp only[ζ,γ,δ,ε,η,θ]);rw[wrap_i64 (by omega) (by omega)]<;>omega) (aa rfl _) ?_;refine zQ 2 ?_;refine qT hH aB fun st hH=>?_;dsimp only[u2,u1,u3,u4,setMany,u5,u6,ν,ι,cP] at hH;refine zQ 4 ?_;refine Γ (d:=.int .i64 (u:Nat)) (st1:=_) rfl rfl (by exact Nk u (by omega) _) (aa rfl _) ?_;refine zQ 2 ?_;have PK:s.e=0:=by simpa using he
     refine ag.ret ⟨rx,_,_,_,rfl,aj (rfl),?_⟩;rw[PK] at hH;exact⟨rfl,cj.aq bV hH⟩
theorem yq (hbl:b.length≤1099511627776) (ba:s.at_≤b.length) (most:Int) (hH:Has N S s0 (.box k (.mem 0 false (cP x s))::.aF x 1 (byteCells b)::H)):
  ∃d ai,Ev pv 152 [.ptr k 0 0,.int .i64 most] s0 d ai∧d=.int .i64 (bM b most s).1∧Has N S ai (.box k (.mem 0 false (cP x (bM b most s).2))::.aF x 1 (byteCells b)::H):=by
 refine ς rfl Xz rfl rfl rfl ?_;refine zE ?_;have cj:=hH;have hH:=hH.bE;have bV:(ae .rw s0).bs=s0.bs:=rfl;generalize ae .rw s0=S2 at*;refine zQ 15 ?_;obtain⟨_,st,ax,rfl,hH⟩:=om hbl ba hH;refine qv ax ?_;refine zQ 2 ?_;unfold bM;generalize bc b s=R at*;obtain⟨n,s1⟩:=R;dsimp only at hH⊢;refine zQ 2 ?_;refine ag.dM 22 (.bool (s1.e==0 &&decide (n>most))) [] ?_ (fun ff tmp dj=>?_)
 ·refine zQ 6 ?_;refine YQ 18 rfl (fun cK=>?_) (fun cK=>?_)
  ·refine zQ 4 ?_;refine χ (aR ?_ ?_)
   ·dsimp only[aK,μ,nth,u2,u1]
    all_goals(first|rfl|simp)
   ·refine zF ?_
    all_goals(simp[cK];done)
  ·refine zQ 4 ?_;refine χ (aR ?_ ?_)
   ·dsimp only[aK,μ,nth,u2,u1]
    all_goals(first|rfl|simp)
   ·refine zF ?_
    all_goals(simp[cK];done)
 dsimp only[aK,μ,nth,u2,u1];refine qc (fun hc=>?_) (fun hc=>?_)<;>try simp only[cs] at hc
 ·have hc:s1.e=0∧n>most:=by simpa using hc
  rw[if_pos hc];refine zQ 4 ?_;obtain⟨_,st,ax,rfl,hH⟩:=ie s.at_ 2 hH;refine qv ax ?_;refine zQ 2 ?_;refine ag.ret ⟨rx,_,_,_,rfl,aj (rfl),?_⟩;exact⟨rfl,cj.aq bV hH⟩
 ·have hc:¬(s1.e=0∧n>most):=by
   rintro⟨h1,h2⟩;rw[h1,decide_eq_true h2] at hc;simp at hc
  rw[if_neg hc];refine zQ 6 ?_;refine ag.ret ⟨rx,_,_,_,rfl,aj (rfl),?_⟩;exact⟨rfl,cj.aq bV hH⟩
theorem M3 (hbl:b.length≤1099511627776) (ba:s.at_≤b.length) (hH:Has N S s0 (.box k (.mem 0 false (cP x s))::.aF x 1 (byteCells b)::H)):
  ∃d ai,Ev pv 155 [.ptr k 0 0] s0 d ai∧d=.bool (dq b s).1∧Has N S ai (.box k (.mem 0 false (cP x (dq b s).2))::.aF x 1 (byteCells b)::H):=by
 refine ς rfl Xw rfl rfl rfl ?_;refine zE ?_;have cj:=hH;have hH:=hH.bE;have bV:(ae .rw s0).bs=s0.bs:=rfl;generalize ae .rw s0=S2 at*;refine zQ 15 ?_;obtain⟨_,st,ax,rfl,hH⟩:=om hbl ba hH;refine qv ax ?_;refine zQ 2 ?_;unfold dq;generalize bc b s=R at*;obtain⟨n,s1⟩:=R;dsimp only at hH⊢;refine zQ 2 ?_;refine ag.dM 19 (.bool (s1.e==0 &&decide (n>1))) [] ?_ (fun ff tmp dj=>?_)
 ·refine zQ 6 ?_;refine YQ 16 rfl (fun cK=>?_) (fun cK=>?_)
  ·refine zQ 3 ?_;refine χ (aR ?_ ?_)
   ·dsimp only[aK,μ,nth,u2,u1]
    all_goals(first|rfl|simp)
   ·refine zF ?_
    all_goals(simp[cK];done)
  ·refine zQ 3 ?_;refine χ (aR ?_ ?_)
   ·dsimp only[aK,μ,nth,u2,u1]
    all_goals(first|rfl|simp)
   ·refine zF ?_
    all_goals(simp[cK];done)
 dsimp only[aK,μ,nth,u2,u1];refine qc (fun hc=>?_) (fun hc=>?_)<;>try simp only[cs] at hc
 ·have hc:s1.e=0∧n>1:=by simpa using hc
  rw[if_pos hc];have cK:((4:Int)==0)=false:=rfl;refine zQ 3 ?_;obtain⟨_,st,ax,rfl,hH⟩:=ie s.at_ 4 hH;refine qv ax ?_;refine zQ 14 ?_;refine ag.ret ⟨rx,_,_,_,rfl,aj (rfl),?_⟩;exact⟨rfl,cj.aq bV hH⟩
 ·have hc:¬(s1.e=0∧n>1):=by
   rintro⟨h1,h2⟩;rw[h1,decide_eq_true h2] at hc;simp at hc
  rw[if_neg hc];refine zQ 1 ?_
  have hb:decide (s1.e=0∧n=1)=(s1.e==0 &&n==1):=by
   by_cases h1:s1.e=0<;>by_cases h2:n=1<;>simp[h1,h2]
  dsimp only;rw[hb];refine qq<|ag.oM 2 (.bool (s1.e==0 &&n==1)) [] ?_ (fun ff tmp=>?_)
  ·refine zQ 6 ?_;refine YQ 28 rfl (fun cK=>?_) (fun cK=>?_)
   ·refine zQ 4 ?_;refine χ (bu ?_);refine zG ?_
    all_goals(simp[cK];done)
   ·refine zQ 4 ?_;refine χ (bu ?_);refine zG ?_
    all_goals(simp[cK];done)
  dsimp only[aK,μ,nth,u2,u1];refine ag.ret ⟨rx,_,_,_,rfl,aj (rfl),?_⟩;exact⟨rfl,cj.aq bV hH⟩
theorem AZ (hx:Z5 st 1 x (byteCells b)):j8 pv 23 9 x st=some (.str b,st):=by
 have hr:=hx.row
 have mZ:(byteCells b).flatten=b.map fun y=>ZD .u8 (y.toNat:Nat):=by
  clear hx hr;unfold byteCells
  induction b with
  |nil=>rfl
  |cons c b ih=>rw[Zt,List.flatten_cons,Zt,List.singleton_append,ih]
 rw[mZ,au] at hr;have h1:pv.db 23=some (.slice 5):=rfl;have h2:pv.db 9=some .string:=rfl;have h3:pv.db 5=some (.int .u8):=rfl
 have h4:∀(x:D),(∀c,x≠.str c)→su st x=some (b.length,b.map fun y=>ZD .u8 (y.toNat:Nat))→(match su st x with
   |some (n,cs)=>match x with
    | .str _=>none
    |_=>if cs.length=n then(oy cs).map fun b=>(D.str b,st) else none
   |none=>none)=some (.str b,st):=fun x hs h=>by
  rw[h]
  cases x<;>first|(exact absurd rfl (hs _))|(simp only[η,if_true,lI,Ut])
 generalize byteCells b=es at hx;have hs:∀c,x≠.str c:=by cases hx<;>intro c e<;>cases e
 have h5:=h4 x hs hr
 cases hx with
 |nul=>exact h5
 |sl es h=>exact h5
 |win k aE off es ar c hm hl he=>
  simp only[j8,h1,h2,h3,hr,η,if_true,lI,Ut]
theorem M0 (hbl:b.length≤1099511627776) (ba:s.at_≤b.length) (most:Int) (hH:Has N S s0 (.box k (.mem 0 false (cP x s))::.aF x 1 (byteCells b)::H)):
  ∃d ai,Ev pv 98 [.ptr k 0 0,.int .i64 most] s0 d ai∧d=.str (d_ b most s).1∧Has N S ai (.box k (.mem 0 false (cP x (d_ b most s).2))::.aF x 1 (byteCells b)::H):=by
 obtain⟨o1,o2,o3,o4,o5⟩:=dB (b:=b) (s:=s) ba
 have hu:(bM b most s).2.at_≤b.length∧0≤(bM b most s).1∧(bM b most s).1<9223372036854775808:=by
  unfold bM
  split
  ·exact⟨ba,by simp,by simp⟩
  ·exact⟨o1,o3,o4⟩
 have uN:=au b;refine ς rfl abb rfl rfl rfl ?_;refine zE ?_;have cj:=hH;have hH:=hH.bE;have bV:(ae .rw s0).bs=s0.bs:=rfl;generalize ae .rw s0=S2 at*;refine zQ 16 ?_;obtain⟨_,st,ax,rfl,hH⟩:=yq hbl ba most hH;refine qv ax ?_;refine zQ 2 ?_;unfold d_;generalize bM b most s=R at*;obtain⟨n,s1⟩:=R;dsimp only at hH hu⊢;obtain⟨u1,u2,u3⟩:=hu
 obtain⟨m,rfl⟩:∃m:Nat,n=(m:Nat):=⟨n.toNat,by omega⟩
 refine zQ 9 ?_;refine ag.cond (by rfl) (fun he=>?_) (fun he=>?_)<;>try simp only[bne_iff_ne,bne_eq_false_iff_eq,ne_eq] at he
 ·rw[if_pos (by simpa using he)];refine zQ 4 ?_;refine ag.ret ⟨rx,_,_,_,rfl,aj (rfl),?_⟩;exact⟨rfl,cj.aq bV hH⟩
 rw[if_neg (by simpa using he)];refine zQ 8 ?_;refine qn ?_ (hR:=hH.rows aO);refine zQ 4 ?_;refine JS (z:=(((b.length:Nat):Int)-(s1.at_:Nat))) rfl (ev rfl) (ev rfl) (by(try simp only[ζ,γ,δ,ε,η,θ]);rw[wrap_i64 (by omega) (by omega)]<;>omega) (aa rfl _) ?_;refine zQ 3 ?_;refine zP (fun hlt=>?_) fun hlt=>?_
 ·rw[if_pos (by omega)];refine zQ 4 ?_;obtain⟨_,st,ax,rfl,hH⟩:=ie s.at_ 3 hH;refine qv ax ?_;refine zQ 5 ?_;refine ag.ret ⟨rx,_,_,_,rfl,aj (rfl),?_⟩;exact⟨rfl,cj.aq bV hH⟩
 rw[if_neg (by omega)];refine zQ 1 ?_
 have Z6:∀{st:St} {e:bo} {H:List bo},Has N S2 st (e::.aF x 1 (byteCells b)::H)→Z5 st 1 (ue x s1.at_ (s1.at_+m)) (byteCells ((b.drop s1.at_).take m)):=fun h=>by
  have:=xm h (l:=s1.at_) (r:=s1.at_+m) (by omega)
  rwa [IN,YH] at this
 have Jy:=AZ (Z6 hH);refine zQ 15 ?_;refine υ (z:=((s1.at_+m:Nat):Int)) rfl (ev rfl) (ev rfl) (by(try simp only[ζ,γ,δ,ε,η,θ]);rw[wrap_i64 (by omega) (by omega)]<;>omega) (aa rfl _) ?_;refine OF rfl (ev rfl) (hH.rows aO) rfl rfl (pL (m:=s1.at_) (n:=s1.at_+m) (by rw[au];omega)) ⟨by omega,by rw[au];omega⟩ (aa rfl _) ?_;refine Γ (d:=.str ((b.drop s1.at_).take m)) (st1:=_) rfl rfl (by exact Jy) (aa rfl _) ?_;refine zQ 9 ?_;refine υ (z:=((s1.at_+m:Nat):Int)) rfl (ev rfl) (ev rfl) (by(try simp only[ζ,γ,δ,ε,η,θ]);rw[wrap_i64 (by omega) (by omega)]<;>omega) (aa rfl _) ?_;refine zQ 2 ?_;refine qT hH aB fun st hH=>?_;dsimp only[u2,u1,u3,u4,setMany,u5,u6,ν,ι,cP] at hH;refine zQ 6 ?_;refine ag.ret ⟨rx,_,_,_,rfl,aj (rfl),?_⟩;have he:s1.e=0:=by simpa using he
 rw[he] at hH;exact⟨rfl,cj.aq bV hH⟩
theorem Ie (hbl:b.length≤1099511627776) (hH:Has N S s0 (.box k (.mem 0 false (cP x s))::.aF x 1 (byteCells b)::H)):
  ∃d ai,Ev pv 67 [.ptr k 0 0] s0 d ai∧d=.int .i64 (l8 b s).e∧Has N S ai (.box k (.mem 0 false (cP x (l8 b s)))::.aF x 1 (byteCells b)::H):=by
 have uN:=au b;refine ς rfl abG rfl rfl rfl ?_;refine zE ?_;have cj:=hH;have hH:=hH.bE;have bV:(ae .rw s0).bs=s0.bs:=rfl;generalize ae .rw s0=S2 at*;refine zQ 4 ?_;unfold l8
 by_cases he:s.e=0
 ·have cK:(s.e==0)=true:=by simpa using he
  refine zQ 17 ?_;refine qn ?_ (hR:=hH.rows aO) (hg:=wi cK);refine zQ 3 ?_;rw[uN];refine zP (fun hc=>?_) fun hc=>?_
  ·rw[if_pos ⟨he,by omega⟩];refine zQ 4 ?_;refine qT hH aB fun st hH=>?_;dsimp only[u2,u1,u3,u4,setMany,u5,u6,ν,ι,cP] at hH;refine zQ 9 ?_;refine ag.ret ⟨rx,_,_,_,rfl,aj (rfl),?_⟩;exact⟨rfl,cj.aq bV hH⟩
  ·rw[if_neg (by omega)];refine zQ 9 ?_;refine ag.ret ⟨rx,_,_,_,rfl,aj (rfl),?_⟩;exact⟨rfl,cj.aq bV hH⟩
 ·have cK:(s.e==0)=false:=by simpa using he
  rw[if_neg (fun h=>he h.1)];refine zQ 31 ?_;refine ag.ret ⟨rx,_,_,_,rfl,aj (rfl),?_⟩;exact⟨rfl,cj.aq bV hH⟩
theorem Es (hF:s0.flr≤s0.bs.length) (du:s0.ro≤s0.bs.length) (hx:Z5 s0 1 x (byteCells b)) (hl:b.length≤68719476736):
  ∃d ai,Ev pv 35 [x] s0 d ai∧∃k y,d=.ptr k 0 0∧Has s0.bs.length s0 ai [.box k (.mem 0 false (cP y ⟨0,0⟩)),.aF y 1 (byteCells b)]:=by
 have uN:=au b;refine ς rfl abT rfl rfl rfl ?_;refine zE ?_;have aN:(ae .nw s0).bs=s0.bs:=rfl;have hF:(ae .nw s0).flr≤s0.bs.length:=hF;have hH:Has s0.bs.length (ae .nw s0) (ae .nw s0) []:=Has.start (ψ _) (ψ _);generalize ae .nw s0=S at*;have hx:=Arg.of hx aN;refine zQ 4 ?_;have hH:=hH.fW 1;refine zQ 3 ?_;refine ab.iO (s:=1) hH rfl (ev rfl) (ev rfl) (by exact aB) (by exact Arg.rows (by assumption) hH) rfl rfl rfl rfl rfl rfl rfl ⟨(κ rfl),(κ rfl)⟩ (fun _=>(aa rfl _)) rfl (by simp only[δ]<;>omega) (by exact .inl hF) (fun x4 st hH=>?_);dsimp only[u2,u1,u3,u4,setMany,u5,u6,ν,ι,cP] at hH;refine ab.jc (qs:=[(0,_)]) rfl rfl rfl rfl ⟨rfl,(ev rfl),(by exact hH.cX (by exact aB)),trivial⟩ (by intro q hq;simp only[ρ,ξ,or_false] at hq;rcases hq with rfl<;>exact⟨rfl,by exact κ rfl⟩) (by show μ _ [_,_,_] _=_;dsimp only[Bv,IS,u2,u1]<;>rfl) (aa rfl _) ?_;refine qb hH fun k6 st Gj hH=>?_;refine zQ 2 ?_;refine ag.ret ⟨rx,_,_,_,rfl,rfl,?_⟩;exact⟨_,_,rfl,(hH.take 2).dU aN du⟩
variable{l:List UInt8}
theorem En (l:List GT):∀e∈l.map dA,∀d∈e,dh d=true:=by
 intro e he d hd;obtain⟨q,_,rfl⟩:=ο.1 he;simp only[dA,ρ,ξ,or_false] at hd
 rcases hd with rfl|rfl|rfl|rfl|rfl|rfl|rfl|rfl|rfl|rfl|rfl<;>rfl
theorem S8 (l:List GT):∀e∈l.map dA,e.length=11:=by
 intro e he;obtain⟨q,_,rfl⟩:=ο.1 he;rfl
def qI (l:List GT):D:=.sl ((l.map dA).map (ml 11))
theorem QX (l:List GT):dg (qI l) 11 (l.map dA):=dg.frozen (S8 l) (En l)
def GV.told (l:GV):GV:=⟨l.dn,l.bf,qI l.bn,l.bn⟩
def RE (L:List GV):D:=.sl (((L.map GV.told).map eo).map (ml 12))
theorem MT (L:List GV):∀e∈L.map eo,e.length=12:=by
 intro e he;obtain⟨q,_,rfl⟩:=ο.1 he;rfl
theorem told_plain (L:List GV):∀e∈(L.map GV.told).map eo,∀d∈e,dh d=true:=by
 intro e he d hd;obtain⟨q,hq,rfl⟩:=ο.1 he;obtain⟨g,_,rfl⟩:=ο.1 hq;simp only[eo,aX,GV.told,qI,ρ,ξ,or_false] at hd
 rcases hd with rfl|rfl|rfl|rfl|rfl|rfl|rfl|rfl|rfl|rfl|rfl|rfl<;>rfl
variable{L:List GV}
theorem CD.told (h:CD x L):CD (RE L) (L.map GV.told):=by
 refine⟨dg.frozen (MT _) (told_plain L),by rw[η];exact h.ln,fun l hl=>?_⟩;obtain⟨g,hg,rfl⟩:=ο.1 hl;exact⟨QX _,(h.th g hg).2⟩
def cZ (fr:Go.V.Fr) (k:Nat):Go.V.D:=Go.V.nth .bI fr.loc k
def gp (b:List UInt8):Nat→df→df
 |0,s=>s
 |n+1,s=>(bc b (gp b n s)).2
def lG (b:List UInt8) (s:df):j4:=fun i=>(bc b (gp b i s)).1-1
def eT (b:List UInt8) (s:df):GT×df:=(⟨(bc b s).1,lG b (bc b s).2⟩,gp b 10 (bc b s).2)
def bj {α:Type} (one:df→α×df):Nat→df→List α×df
 |0,s=>([],s)
 |n+1,s=>if s.e≠0 then([],s) else((one s).1::(bj one n (one s).2).1,(bj one n (one s).2).2)
def lA (b:List UInt8) (s:df):List GT×df:=bj (eT b) (bS b 400 s).1.toNat (bS b 400 s).2
def dc (b:List UInt8) (s:df):GV×df:=(⟨(dq b s).1,lG b (dq b s).2,qI (lA b (gp b 10 (dq b s).2)).1,(lA b (gp b 10 (dq b s).2)).1⟩,(lA b (gp b 10 (dq b s).2)).2)
def dD (b:List UInt8) (s:df):List GV×df:=bj (dc b) (bS b 8 s).1.toNat (bS b 8 s).2
theorem eA {α:Type} (one:df→α×df) (h:s.e≠0):∀n,bj one n s=([],s)
 |0=>rfl
 |n+1=>by unfold bj;rw[if_pos h]
theorem kG {b:List UInt8} {s:df} (h:s.at_≤b.length):∀n,(gp b n s).at_≤b.length
 |0=>h
 |n+1=>(dB (kG h n)).1
variable{m:Int}
theorem m_ (h:s.at_≤b.length):(bM b m s).2.at_≤b.length∧0≤(bM b m s).1∧(bM b m s).1<9223372036854775808∧((bM b m s).2.e=0→(bM b m s).1≤max m 0):=by
 obtain⟨o1,o2,o3,o4,o5⟩:=dB (b:=b) (s:=s) h;unfold bM
 split
 ·exact⟨h,by simp,by simp,fun h=>by simp at h⟩
 ·rename_i hn
  exact⟨o1,o3,o4,fun h=>by
   by_cases h':m<(bc b s).1
   ·exact absurd ⟨h,h'⟩ hn
   ·omega⟩
theorem fS (h:s.at_≤b.length):(bS b m s).2.at_≤b.length∧0≤(bS b m s).1∧(bS b m s).1<9223372036854775808∧((bS b m s).2.e=0→(bS b m s).1≤max m 0):=by
 obtain⟨o1,o2,o3,o4⟩:=m_ (m:=m) h;unfold bS
 split
 ·exact⟨h,o2,o3,fun h=>by simp at h⟩
 ·exact⟨o1,o2,o3,o4⟩
theorem pz (h:s.at_≤b.length):(dq b s).2.at_≤b.length:=by
 unfold dq
 split
 ·exact h
 ·exact(dB h).1
theorem uH {α:Type} {b:List UInt8} {one:df→α×df} (ho:∀s:df,s.at_≤b.length→(one s).2.at_≤b.length):∀n (s:df),s.at_≤b.length→(bj one n s).2.at_≤b.length
 |0,s,h=>h
 |n+1,s,h=>by
  unfold bj
  split
  ·exact h
  ·exact uH ho n _ (ho s h)
theorem vX (h:s.at_≤b.length):(eT b s).2.at_≤b.length:=kG (dB h).1 10
theorem Oq (h:s.at_≤b.length):(lA b s).2.at_≤b.length:=uH (fun _ h=>vX h) _ _ (fS h).1
theorem pg (h:s.at_≤b.length):(dc b s).2.at_≤b.length:=Oq (kG (pz h) 10)
theorem Jg (h:s.at_≤b.length):(dD b s).2.at_≤b.length:=uH (fun _ h=>pg h) _ _ (fS h).1
theorem EN {f g:j4} (h:∀j,j<10→f j=g j):aA f=aA g:=by
 unfold aA;rw[h 0 (by decide),h 1 (by decide),h 2 (by decide),h 3 (by decide),h 4 (by decide),h 5 (by decide),h 6 (by decide),h 7 (by decide),h 8 (by decide),h 9 (by decide)]
theorem PY (h:∀g∈L,g.td=qI g.bn):(∀e∈L.map eo,∀d∈e,oU d=true)∧(L.map eo).map (·.map rS)=L.map eo:=by
 constructor
 ·intro e he d hd;obtain⟨q,hq,rfl⟩:=ο.1 he;have:=h q hq;simp only[eo,aX,this,qI,ρ,ξ,or_false] at hd
  rcases hd with rfl|rfl|rfl|rfl|rfl|rfl|rfl|rfl|rfl|rfl|rfl|rfl<;>rfl
 ·rw[LL];refine List.map_congr_left fun q hq=>?_;have:=h q hq;simp only[Function.comp,eo,aX,this,qI];rfl
theorem PZ (l:List GT):(∀e∈l.map dA,∀d∈e,oU d=true)∧(l.map dA).map (·.map rS)=l.map dA:=by
 constructor
 ·intro e he d hd;obtain⟨q,hq,rfl⟩:=ο.1 he;simp only[dA,ρ,ξ,or_false] at hd
  rcases hd with rfl|rfl|rfl|rfl|rfl|rfl|rfl|rfl|rfl|rfl|rfl<;>rfl
 ·rw[LL];rfl
def oL (L:List GV):D:=.sl ((L.map eo).map (ml 12))
theorem Et (hbl:b.length≤1099511627776) (ba:s.at_≤b.length) (hH:Has N S s0 (.box k (.mem 0 false (cP x s))::.aF x 1 (byteCells b)::H)):
  ∃d ai,Ev pv 156 [.ptr k 0 0] s0 d ai∧d=.agg (aA (lG b s))∧Has N S ai (.box k (.mem 0 false (cP x (gp b 10 s)))::.aF x 1 (byteCells b)::H):=by
 refine ς rfl Xv rfl rfl rfl ?_;refine zE ?_;have cj:=hH;have hH:=hH.bE;have bV:(ae .rw s0).bs=s0.bs:=rfl;generalize ae .rw s0=S2 at*;refine zQ 2 ?_;refine qa hH fun k2 st hk2 hH=>?_;dsimp only[u2,u1,u3,u4,setMany,u5,u6,ν,ι,cP] at hH;refine zQ 3 ?_;refine qa hH fun k3 st oC hH=>?_;refine zQ 6 ?_;have hH:Has N S2 st (.box k (.mem 0 false (cP x s))::.aF x 1 (byteCells b)::.box k3 (.mem 0 false (aA cG))::.box k2 (.mem 0 false (aA cG))::H):=Has.jA [_,_] [_,_] hH;refine zQ 1 ?_;refine ag.loop (fun mm fr st=>∃(i:Nat) (f:j4),fr.clean=⟨6,[.ptr k 0 0,cZ fr 1,.ptr k2 0 0,.ptr k3 0 0,cZ fr 4,.int .i64 (i:Nat)],[]⟩∧Has N S2 st (.box k (.mem 0 false (cP x (gp b i s)))::.aF x 1 (byteCells b)::.box k3 (.mem 0 false (aA f))::.box k2 (.mem 0 false (aA cG))::H)∧(i+mm=10)∧(∀j,j<i→f j=lG b s j)) (10) ?_ ?_
 ·exact⟨0,cG,rfl,hH,by omega,fun j h=>by omega⟩
 rintro mm fr st ⟨i,f,hfr,hH,hi,hf⟩;rw[hfr];clear hfr;generalize cZ fr=ee;clear fr;have Mj:=kG ba i;obtain⟨_,_,o3,o4,_⟩:=dB (b:=b) (s:=gp b i s) Mj;refine zQ 5 ?_;refine zP (fun h1=>?_) fun h1=>?_
 ·refine zQ 1 ?_;have nD:i<10:=by omega
  refine zQ 10 ?_;obtain⟨_,st,ax,rfl,hH⟩:=om hbl Mj hH;refine qv ax ?_;refine JS (z:=((bc b (gp b i s)).1-1)) rfl (ev rfl) (ev rfl) (by(try simp only[ζ,γ,δ,ε,η,θ]);rw[wrap_i64 (by omega) (by omega)]<;>omega) (aa rfl _) ?_;refine ab.ML (m:=10) (s:=1) (i:=i) (o:=i) rfl (ev rfl) (ev rfl) rfl rfl (by omega) (by omega) (aa rfl _) ?_;refine Cr hH rfl (ev rfl) (ev rfl) rfl (by exact rfl) a_ (by show i+1≤10;omega) (.inr rfl) (fun st hH=>?_);change Has _ _ _ (_::_::.box k3 (.mem 0 false (setMany (aA f) i [.int .i64 ((bc b (gp b i s)).1-1)]))::_) at hH;rw[zJ nD] at hH;refine zQ 5 ?_;refine⟨mm-1,by omega,⟨i+1,ze f i ((bc b (gp b i s)).1-1),rfl,hH,by omega,?_⟩⟩;intro j hj;unfold ze
  split
  ·rename_i h;subst h;rfl
  ·exact hf j (by omega)
 ·refine zQ 1 ?_;have nD:i=10:=by omega
  subst nD;have PG:=EN hf;rw[PG] at hH;refine zQ 2 ?_;refine AT (m:=10) (r:=aA (lG b s)) hH rfl (ev rfl) a_ rfl rfl rfl (aa rfl _) ?_;refine AI hH rfl (ev rfl) (ev rfl) rfl (by exact rfl) bh (by exact rfl) (.inr rfl) (fun st hH=>?_);dsimp only[u1,u2] at hH;refine zQ 1 ?_;refine ag.ret ⟨rx,_,_,_,hH.kD rfl bh rfl,aj (show bA st s0.bs.length false 16 (.agg (aA (lG b s)))=some (.agg (aA (lG b s))) from rfl),?_⟩;exact⟨rfl,cj.aq bV ((hH.erase 2).erase 2)⟩
theorem P4 (hbl:b.length≤1099511627776) (ba:s.at_≤b.length) (hH:Has N S s0 (.box k (.mem 0 false (cP x s))::.aF x 1 (byteCells b)::H)):
  ∃d ai,Ev pv 158 [.ptr k 0 0] s0 d ai∧d=.agg (dA (eT b s).1)∧Has N S ai (.box k (.mem 0 false (cP x (eT b s).2))::.aF x 1 (byteCells b)::H):=by
 refine ς rfl Xt rfl rfl rfl ?_;refine zE ?_;have cj:=hH;have hH:=hH.bE;have bV:(ae .rw s0).bs=s0.bs:=rfl;generalize ae .rw s0=S2 at*;refine zQ 2 ?_;refine qa hH fun k2 st hk2 hH=>?_;dsimp only[u2,u1,u3,u4,setMany,u5,u6,ν,ι,cP] at hH;refine zQ 3 ?_;refine qa hH fun k3 st oC hH=>?_;refine zQ 1 ?_;have hH:Has N S2 st (.box k (.mem 0 false (cP x s))::.aF x 1 (byteCells b)::.box k3 (.mem 0 false (dA ⟨0,cG⟩))::.box k2 (.mem 0 false (dA ⟨0,cG⟩))::H):=Has.jA [_,_] [_,_] hH;refine zQ 3 ?_;obtain⟨_,st,ax,rfl,hH⟩:=om hbl ba hH;refine qv ax ?_;refine zQ 1 ?_;refine Cr hH rfl (ev rfl) (ev rfl) rfl (by exact rfl) a_ (by exact κ rfl) (.inr rfl) (fun st hH=>?_);dsimp only[u1,u2] at hH;refine zQ 1 ?_;have hH:Has N S2 st (.box k (.mem 0 false (cP x (bc b s).2))::.aF x 1 (byteCells b)::.box k3 (.mem 0 false (dA ⟨(bc b s).1,cG⟩))::.box k2 (.mem 0 false (dA ⟨0,cG⟩))::H):=hH;have sV:=(dB (b:=b) ba).1;refine zQ 3 ?_;obtain⟨_,st,ax,rfl,hH⟩:=Et hbl sV hH;refine qv ax ?_;refine zQ 1 ?_;refine Cr hH rfl (ev rfl) (ev rfl) rfl (by exact rfl) a_ (by exact κ rfl) (.inr rfl) (fun st hH=>?_);dsimp only[u1,u2] at hH;refine zQ 1 ?_;have hH:Has N S2 st (.box k (.mem 0 false (cP x (eT b s).2))::.aF x 1 (byteCells b)::.box k3 (.mem 0 false (dA (eT b s).1))::.box k2 (.mem 0 false (dA ⟨0,cG⟩))::H):=hH;generalize(eT b s).1=t at*;refine zQ 2 ?_;refine AT (m:=11) (r:=dA t) hH rfl (ev rfl) a_ rfl rfl rfl (aa rfl _) ?_;refine AI hH rfl (ev rfl) (ev rfl) rfl (by exact rfl) bh (by exact rfl) (.inr rfl) (fun st hH=>?_);dsimp only[u1,u2] at hH;refine zQ 1 ?_;refine ag.ret ⟨rx,_,_,_,hH.kD rfl bh rfl,aj (show bA st s0.bs.length false 16 (.agg (dA t))=some (.agg (dA t)) from rfl),?_⟩;exact⟨rfl,cj.aq bV ((hH.erase 2).erase 2)⟩
theorem P3 (hbl:b.length≤1099511627776) (ba:s.at_≤b.length) (hH:Has N S s0 (.box k (.mem 0 false (cP x s))::.aF x 1 (byteCells b)::H)):
  ∃d ai,Ev pv 157 [.ptr k 0 0,.int .i64 400,.fn 158 []] s0 d ai∧(∃L:List GT,d=qI L∧L.length≤400∧True∧((lA b s).2.e=0→L=(lA b s).1))∧Has N S ai (.box k (.mem 0 false (cP x (lA b s).2))::.aF x 1 (byteCells b)::H):=by
 have uN:=au b;obtain⟨u1,u2,u3,u4⟩:=m_ (m:=400) ba;obtain⟨i1,i2,i3,i4⟩:=fS (m:=400) ba;have uK:bS b 400 s=if(bM b 400 s).2.e=0∧(bM b 400 s).1>(b.length:Int)-(bM b 400 s).2.at_ then((bM b 400 s).1,⟨s.at_,3⟩) else bM b 400 s:=rfl;unfold lA;refine ς rfl Xu rfl rfl rfl ?_;refine zE ?_;have cj:=hH;have hH:=hH.bE;have bV:(ae .rw s0).bs=s0.bs:=rfl;generalize ae .rw s0=S2 at*;refine zQ 16 ?_;obtain⟨_,st,ax,rfl,hH⟩:=yq hbl ba 400 hH;refine qv ax ?_;refine zQ 2 ?_;generalize bM b 400 s=R at*;obtain⟨n,s1⟩:=R;dsimp only at u1 u2 u3 u4 uK hH⊢;refine zQ 2 ?_;refine ag.jI (fun fr st=>∃(tmp:List (Nat×D)),fr=⟨11,[.ptr k 0 0,cZ fr 1,.fn 158 [],cZ fr 3,cZ fr 4,cZ fr 5,cZ fr 6,cZ fr 7,.int .i64 (bS b 400 s).1,cZ fr 9,cZ fr 10],tmp⟩∧Has N S2 st (.box k (.mem 0 false (cP x (bS b 400 s).2))::.aF x 1 (byteCells b)::H)∧(True)) ?_ ?_
 ·by_cases he:s1.e=0
  ·have cK:(s1.e==0)=true:=by simpa using he
   refine zQ 12 ?_;refine qn ?_ (hR:=hH.rows aO) (hg:=wi cK);refine zQ 4 ?_;refine JS (z:=(((b.length:Nat):Int)-(s1.at_:Nat))) (af rfl rfl rfl cK) (ev rfl) (ev rfl) (by(try simp only[ζ,γ,δ,ε,η,θ]);rw[wrap_i64 (by omega) (by omega)]<;>omega) (aa rfl _) ?_;refine zQ 3 ?_
   by_cases hlt:n>(b.length:Int)-s1.at_
   ·rw[if_pos ⟨he,hlt⟩] at uK;rw[uK];have hc:decide (n>(b.length:Int)-s1.at_)=true:=by rw[decide_eq_true_eq];exact hlt
    refine qD rfl (by rw[hc]) ?_;refine zQ 3 ?_;obtain⟨_,st,ax,rfl,hH⟩:=ie s.at_ 3 hH;refine qv ax ?_;refine zQ 1 ?_;exact⟨_,rfl,hH,trivial⟩
   ·rw[if_neg (fun h=>hlt h.2)] at uK;rw[uK];have hc:decide (n>(b.length:Int)-s1.at_)=false:=by rw[decide_eq_false_iff_not];exact hlt
    refine qE rfl (by rw[hc]) ?_;refine zQ 1 ?_;exact⟨_,rfl,hH,trivial⟩
  ·rw[if_neg (fun h=>he h.1)] at uK;rw[uK];have cK:(s1.e==0)=false:=by simpa using he
   refine zQ 23 ?_;exact⟨_,rfl,hH,trivial⟩
 rintro fr st ⟨tmp,hfr,hH,ht⟩;rw[hfr];clear hfr;generalize cZ fr=ee;clear fr;clear uK u1 u2 u3 u4;generalize bS b 400 s=R at*;obtain⟨n,s2⟩:=R;dsimp only at i1 i2 i3 i4 hH⊢
 obtain⟨m,rfl⟩:∃m:Nat,n=(m:Nat):=⟨n.toNat,by omega⟩
 rw[Int.toNat_natCast];refine zQ 9 ?_;have hH:Has N S2 st (.box k (.mem 0 false (cP x s2))::.aF x 1 (byteCells b)::.aF .nul 11 (([]:List GT).map dA)::H):=Has.jA [_] [_,_] (hH.fW 11);refine zQ 1 ?_;refine ag.loop (fun mm fr st=>∃(i:Nat) (sr:df) (od:D) (acc:List GT),fr.clean=⟨11,[.ptr k 0 0,cZ fr 1,.fn 158 [],cZ fr 3,cZ fr 4,cZ fr 5,cZ fr 6,cZ fr 7,.int .i64 (m:Nat),od,.int .i64 (i:Nat)],[]⟩∧Has N S2 st (.box k (.mem 0 false (cP x sr))::.aF x 1 (byteCells b)::.aF od 11 (acc.map dA)::H)∧(i+mm=m)∧(acc.length=i)∧(sr.at_≤b.length)∧(sr.e=0→s2.e=0)∧(∀k,od.ref=k+1→S2.bs.length≤k)∧((bj (eT b) m s2).2=(bj (eT b) mm sr).2)∧((bj (eT b) mm sr).2.e=0→(bj (eT b) m s2).1=acc++(bj (eT b) mm sr).1)∧(acc.length≤400)∧(True)) (m) ?_ ?_
 ·exact⟨0,s2,.nul,[],rfl,hH,by omega,rfl,i1,fun h=>h,fun k hk=>by simp only[D.ref] at hk;omega,rfl,fun _=>rfl,by simp,trivial⟩
 rintro mm fr st ⟨i,sr,od,acc,hfr,hH,hi,hal,Pc,sP,ye,PW,MQ,hab,hval⟩;rw[hfr];clear hfr;generalize cZ fr=ee;clear fr;refine zQ 2 ?_;refine ag.dM 49 (.bool (decide (((i:Nat):Int)<(m:Nat)) &&(sr.e==0))) [] ?_ (fun ff tmp dj=>?_)
 ·refine zQ 4 ?_;refine YQ 43 rfl (fun bZ=>?_) (fun bZ=>?_)
  ·refine zQ 6 ?_;refine χ (aR ?_ ?_)
   ·dsimp only[aK,μ,nth,u2,u1]
    all_goals(first|rfl|simp)
   ·refine zF ?_
    all_goals(simp_all;done)
  ·refine zQ 6 ?_;refine χ (aR ?_ ?_)
   ·dsimp only[aK,μ,nth,u2,u1]
    all_goals(first|rfl|simp)
   ·refine zF ?_
    all_goals(simp_all;omega)
 refine zG ?_;refine qc (fun hc=>?_) (fun hc=>?_)<;>try simp only[cs] at hc
 ·have hc:i<m∧sr.e=0:=by
   rw[Bool.and_eq_true,decide_eq_true_eq] at hc;exact⟨by omega,by simpa using hc.2⟩
  obtain⟨hlt,he⟩:=hc
  obtain⟨mm,rfl⟩:∃q,mm=q+1:=⟨mm-1,by omega⟩
  have YG:=i4 (sP he)
  have DZ:bj (eT b) (mm+1) sr=((eT b sr).1::(bj (eT b) mm (eT b sr).2).1,(bj (eT b) mm (eT b sr).2).2):=by
   conv=>lhs;unfold bj
   rw[if_neg (by simpa using he)]
  rw[DZ] at MQ PW;have sV:(eT b sr).2.at_≤b.length:=vX Pc;refine zQ 7 ?_;obtain⟨_,st,ax,rfl,hH⟩:=P4 hbl Pc hH;refine qv ax ?_;refine qh (s:=11) (vs:=[_]) hH fun k56 st aay hH=>?_;dsimp only[u2,u1,u3,u4,setMany,u5,u6,ν,ι,cP] at hH;refine ab.nF (s:=11) hH rfl (ev rfl) (ev rfl) bh (hH.rows aB) rfl rfl rfl rfl rfl rfl rfl ⟨(κ rfl),(κ rfl)⟩ (fun _=>(aa rfl _)) (by simp only[η,γ,δ];omega) (.inr rfl) ye (fun YZ st ye hH=>?_);dsimp only[u1,u2] at hH;refine zQ 2 ?_;have hH:=hH.drop 1;refine zQ 5 ?_;refine⟨mm,by omega,⟨i+1,(eT b sr).2,YZ,acc++[(eT b sr).1],rfl,(by rw[BY];exact hH),by omega,(by rw[ε];simp only[γ,δ];omega),sV,fun _=>sP he,ye,PW,?_,(by rw[ε];simp only[γ,δ];omega),trivial⟩⟩;intro h0;rw[MQ h0];rw[xw];rfl
 ·refine zQ 1 ?_
  have zp:bj (eT b) mm sr=([],sr):=by
   by_cases he:sr.e=0
   ·have:mm=0:=by
     rcases ki mm with h|h
     ·exact h
     ·exfalso
      have h1:decide (((i:Nat):Int)<(m:Nat))=true:=by rw[decide_eq_true_eq];omega
      rw[h1,he] at hc;simp at hc
    rw[this];rfl
   ·exact eA _ he mm
  rw[zp] at MQ PW;simp only[GB] at MQ;rw[PW];refine zQ 9 ?_;refine ag.cond (by rfl) (fun hne=>?_) (fun hne=>?_)<;>try simp only[bne_iff_ne,bne_eq_false_iff_eq,ne_eq] at hne
  ·refine zQ 4 ?_;refine ag.ret ⟨rx,_,_,_,rfl,aj (rfl),?_⟩;exact⟨⟨[],rfl,by simp,trivial,fun h=>absurd h (by simpa using hne)⟩,cj.aq bV (hH.erase 2)⟩
  ·refine zQ 6 ?_;have mO:=PZ acc;have hfz:=hH.qJ (L:=s0.bs.length) (n:=16) a_ (fun k hk=>by rw[←bV];exact ye k hk) mO.1 (by decide);rw[mO.2] at hfz;refine ag.ret ⟨rx,_,_,_,rfl,aj hfz,?_⟩;exact⟨⟨acc,rfl,hab,hval,fun h=>(MQ h).symm⟩,cj.aq bV (hH.erase 2)⟩
theorem M1 (hbl:b.length≤1099511627776) (ba:s.at_≤b.length) (hH:Has N S s0 (.box k (.mem 0 false (cP x s))::.aF x 1 (byteCells b)::H)):
  ∃d ai,Ev pv 154 [.ptr k 0 0] s0 d ai∧(∃g:GV,d=.agg (eo g)∧(g.td=qI g.bn∧g.bn.length≤400)∧((dc b s).2.e=0→g=(dc b s).1))∧Has N S ai (.box k (.mem 0 false (cP x (dc b s).2))::.aF x 1 (byteCells b)::H):=by
 refine ς rfl Xx rfl rfl rfl ?_;refine zE ?_;have cj:=hH;have hH:=hH.bE;have bV:(ae .rw s0).bs=s0.bs:=rfl;generalize ae .rw s0=S2 at*;refine zQ 2 ?_;refine qa hH fun k2 st hk2 hH=>?_;dsimp only[u2,u1,u3,u4,setMany,u5,u6,ν,ι,cP] at hH;refine zQ 3 ?_;refine qa hH fun k3 st oC hH=>?_;refine zQ 1 ?_;have hH:Has N S2 st (.box k (.mem 0 false (cP x s))::.aF x 1 (byteCells b)::.box k3 (.mem 0 false (aX false cG .nul))::.box k2 (.mem 0 false (aX false cG .nul))::H):=Has.jA [_,_] [_,_] hH;refine zQ 3 ?_;obtain⟨_,st,ax,rfl,hH⟩:=M3 hbl ba hH;refine qv ax ?_;refine zQ 1 ?_;refine Cr hH rfl (ev rfl) (ev rfl) rfl (by exact rfl) a_ (by exact κ rfl) (.inr rfl) (fun st hH=>?_);dsimp only[u1,u2] at hH;refine zQ 1 ?_;have hH:Has N S2 st (.box k (.mem 0 false (cP x (dq b s).2))::.aF x 1 (byteCells b)::.box k3 (.mem 0 false (aX (dq b s).1 cG .nul))::.box k2 (.mem 0 false (aX false cG .nul))::H):=hH;have sV:=pz ba;refine zQ 3 ?_;obtain⟨_,st,ax,rfl,hH⟩:=Et hbl sV hH;refine qv ax ?_;refine zQ 1 ?_;refine Cr hH rfl (ev rfl) (ev rfl) rfl (by exact rfl) a_ (by exact κ rfl) (.inr rfl) (fun st hH=>?_);dsimp only[u1,u2] at hH;refine zQ 1 ?_;have hH:Has N S2 st (.box k (.mem 0 false (cP x (gp b 10 (dq b s).2)))::.aF x 1 (byteCells b)::.box k3 (.mem 0 false (aX (dq b s).1 (lG b (dq b s).2) .nul))::.box k2 (.mem 0 false (aX false cG .nul))::H):=hH;have jj:=kG sV 10;refine zQ 3 ?_;obtain⟨_,st,ax,⟨ts,rfl,Yy,_,htq⟩,hH⟩:=P3 hbl jj hH;refine qv ax ?_;refine zQ 1 ?_;refine Cr hH rfl (ev rfl) (ev rfl) rfl (by exact rfl) a_ (by exact κ rfl) (.inr rfl) (fun st hH=>?_);dsimp only[u1,u2] at hH;refine zQ 1 ?_
 obtain⟨g,hg⟩:∃g:GV,g=⟨(dq b s).1,lG b (dq b s).2,qI ts,ts⟩:=⟨_,rfl⟩
 have hH:Has N S2 st (.box k (.mem 0 false (cP x (dc b s).2))::.aF x 1 (byteCells b)::.box k3 (.mem 0 false (eo g))::.box k2 (.mem 0 false (aX false cG .nul))::H):=by rw[hg];exact hH
 have Au:g.td=qI g.bn:=by rw[hg]
 have yh:g.bn.length≤400:=by rw[hg];exact Yy
 have QR:(dc b s).2.e=0→g=(dc b s).1:=fun h=>by
  rw[hg,htq h];rfl
 clear hg htq;have Jr:refs (eo g)=0:=by unfold eo;rw[Au];rfl
 refine zQ 2 ?_;refine AT (m:=12) (r:=eo g) hH rfl (ev rfl) a_ rfl rfl rfl (aa rfl _) ?_;refine AI hH rfl (ev rfl) (ev rfl) rfl (by exact rfl) bh (by exact rfl) (.inr Jr) (fun st hH=>?_);dsimp only[u1,u2] at hH;refine zQ 1 ?_;refine ag.ret ⟨rx,_,_,_,hH.kD rfl bh rfl,aj (show bA st s0.bs.length false 16 (.agg (eo g))=some (.agg (eo g)) by unfold eo;rw[Au];rfl),?_⟩;exact⟨⟨g,rfl,⟨Au,yh⟩,QR⟩,cj.aq bV ((hH.erase 2).erase 2)⟩
theorem JH (hbl:b.length≤1099511627776) (ba:s.at_≤b.length) (hH:Has N S s0 (.box k (.mem 0 false (cP x s))::.aF x 1 (byteCells b)::H)):
  ∃d ai,Ev pv 153 [.ptr k 0 0,.int .i64 8,.fn 154 []] s0 d ai∧(∃L:List GV,d=oL L∧L.length≤8∧(∀g∈L,g.td=qI g.bn∧g.bn.length≤400)∧((dD b s).2.e=0→L=(dD b s).1))∧Has N S ai (.box k (.mem 0 false (cP x (dD b s).2))::.aF x 1 (byteCells b)::H):=by
 have uN:=au b;obtain⟨u1,u2,u3,u4⟩:=m_ (m:=8) ba;obtain⟨i1,i2,i3,i4⟩:=fS (m:=8) ba;have uK:bS b 8 s=if(bM b 8 s).2.e=0∧(bM b 8 s).1>(b.length:Int)-(bM b 8 s).2.at_ then((bM b 8 s).1,⟨s.at_,3⟩) else bM b 8 s:=rfl;unfold dD;refine ς rfl Xy rfl rfl rfl ?_;refine zE ?_;have cj:=hH;have hH:=hH.bE;have bV:(ae .rw s0).bs=s0.bs:=rfl;generalize ae .rw s0=S2 at*;refine zQ 16 ?_;obtain⟨_,st,ax,rfl,hH⟩:=yq hbl ba 8 hH;refine qv ax ?_;refine zQ 2 ?_;generalize bM b 8 s=R at*;obtain⟨n,s1⟩:=R;dsimp only at u1 u2 u3 u4 uK hH⊢;refine zQ 2 ?_;refine ag.jI (fun fr st=>∃(tmp:List (Nat×D)),fr=⟨11,[.ptr k 0 0,cZ fr 1,.fn 154 [],cZ fr 3,cZ fr 4,cZ fr 5,cZ fr 6,cZ fr 7,.int .i64 (bS b 8 s).1,cZ fr 9,cZ fr 10],tmp⟩∧Has N S2 st (.box k (.mem 0 false (cP x (bS b 8 s).2))::.aF x 1 (byteCells b)::H)∧(True)) ?_ ?_
 ·by_cases he:s1.e=0
  ·have cK:(s1.e==0)=true:=by simpa using he
   refine zQ 12 ?_;refine qn ?_ (hR:=hH.rows aO) (hg:=wi cK);refine zQ 4 ?_;refine JS (z:=(((b.length:Nat):Int)-(s1.at_:Nat))) (af rfl rfl rfl cK) (ev rfl) (ev rfl) (by(try simp only[ζ,γ,δ,ε,η,θ]);rw[wrap_i64 (by omega) (by omega)]<;>omega) (aa rfl _) ?_;refine zQ 3 ?_
   by_cases hlt:n>(b.length:Int)-s1.at_
   ·rw[if_pos ⟨he,hlt⟩] at uK;rw[uK];have hc:decide (n>(b.length:Int)-s1.at_)=true:=by rw[decide_eq_true_eq];exact hlt
    refine qD rfl (by rw[hc]) ?_;refine zQ 3 ?_;obtain⟨_,st,ax,rfl,hH⟩:=ie s.at_ 3 hH;refine qv ax ?_;refine zQ 1 ?_;exact⟨_,rfl,hH,trivial⟩
   ·rw[if_neg (fun h=>hlt h.2)] at uK;rw[uK];have hc:decide (n>(b.length:Int)-s1.at_)=false:=by rw[decide_eq_false_iff_not];exact hlt
    refine qE rfl (by rw[hc]) ?_;refine zQ 1 ?_;exact⟨_,rfl,hH,trivial⟩
  ·rw[if_neg (fun h=>he h.1)] at uK;rw[uK];have cK:(s1.e==0)=false:=by simpa using he
   refine zQ 23 ?_;exact⟨_,rfl,hH,trivial⟩
 rintro fr st ⟨tmp,hfr,hH,ht⟩;rw[hfr];clear hfr;generalize cZ fr=ee;clear fr;clear uK u1 u2 u3 u4;generalize bS b 8 s=R at*;obtain⟨n,s2⟩:=R;dsimp only at i1 i2 i3 i4 hH⊢
 obtain⟨m,rfl⟩:∃m:Nat,n=(m:Nat):=⟨n.toNat,by omega⟩
 rw[Int.toNat_natCast];refine zQ 9 ?_;have hH:Has N S2 st (.box k (.mem 0 false (cP x s2))::.aF x 1 (byteCells b)::.aF .nul 12 (([]:List GV).map eo)::H):=Has.jA [_] [_,_] (hH.fW 12);refine zQ 1 ?_;refine ag.loop (fun mm fr st=>∃(i:Nat) (sr:df) (od:D) (acc:List GV),fr.clean=⟨11,[.ptr k 0 0,cZ fr 1,.fn 154 [],cZ fr 3,cZ fr 4,cZ fr 5,cZ fr 6,cZ fr 7,.int .i64 (m:Nat),od,.int .i64 (i:Nat)],[]⟩∧Has N S2 st (.box k (.mem 0 false (cP x sr))::.aF x 1 (byteCells b)::.aF od 12 (acc.map eo)::H)∧(i+mm=m)∧(acc.length=i)∧(sr.at_≤b.length)∧(sr.e=0→s2.e=0)∧(∀k,od.ref=k+1→S2.bs.length≤k)∧((bj (dc b) m s2).2=(bj (dc b) mm sr).2)∧((bj (dc b) mm sr).2.e=0→(bj (dc b) m s2).1=acc++(bj (dc b) mm sr).1)∧(acc.length≤8)∧(∀g∈acc,g.td=qI g.bn∧g.bn.length≤400)) (m) ?_ ?_
 ·exact⟨0,s2,.nul,[],rfl,hH,by omega,rfl,i1,fun h=>h,fun k hk=>by simp only[D.ref] at hk;omega,rfl,fun _=>rfl,by simp,(fun g hg=>by cases hg)⟩
 rintro mm fr st ⟨i,sr,od,acc,hfr,hH,hi,hal,Pc,sP,ye,PW,MQ,hab,hval⟩;rw[hfr];clear hfr;generalize cZ fr=ee;clear fr;refine zQ 2 ?_;refine ag.dM 49 (.bool (decide (((i:Nat):Int)<(m:Nat)) &&(sr.e==0))) [] ?_ (fun ff tmp dj=>?_)
 ·refine zQ 4 ?_;refine YQ 43 rfl (fun bZ=>?_) (fun bZ=>?_)
  ·refine zQ 6 ?_;refine χ (aR ?_ ?_)
   ·dsimp only[aK,μ,nth,u2,u1]
    all_goals(first|rfl|simp)
   ·refine zF ?_
    all_goals(simp_all;done)
  ·refine zQ 6 ?_;refine χ (aR ?_ ?_)
   ·dsimp only[aK,μ,nth,u2,u1]
    all_goals(first|rfl|simp)
   ·refine zF ?_
    all_goals(simp_all;omega)
 refine zG ?_;refine qc (fun hc=>?_) (fun hc=>?_)<;>try simp only[cs] at hc
 ·have hc:i<m∧sr.e=0:=by
   rw[Bool.and_eq_true,decide_eq_true_eq] at hc;exact⟨by omega,by simpa using hc.2⟩
  obtain⟨hlt,he⟩:=hc
  obtain⟨mm,rfl⟩:∃q,mm=q+1:=⟨mm-1,by omega⟩
  have YG:=i4 (sP he)
  have DZ:bj (dc b) (mm+1) sr=((dc b sr).1::(bj (dc b) mm (dc b sr).2).1,(bj (dc b) mm (dc b sr).2).2):=by
   conv=>lhs;unfold bj
   rw[if_neg (by simpa using he)]
  rw[DZ] at MQ PW;have sV:(dc b sr).2.at_≤b.length:=pg Pc;refine zQ 7 ?_;obtain⟨_,st,ax,⟨g,rfl,hgv,QR⟩,hH⟩:=M1 hbl Pc hH
  have Jr:refs ([eo g]:List (List D)).flatten=0:=(by unfold eo;rw[hgv.1];rfl)
  refine qv ax ?_;refine qh (s:=12) (vs:=[_]) hH fun k56 st aay hH=>?_;dsimp only[u2,u1,u3,u4,setMany,u5,u6,ν,ι,cP] at hH;refine ab.nF (s:=12) hH rfl (ev rfl) (ev rfl) bh (hH.rows aB) rfl rfl rfl rfl rfl rfl rfl ⟨(κ rfl),(κ rfl)⟩ (fun _=>(aa rfl _)) (by simp only[η,γ,δ];omega) (.inr Jr) ye (fun YZ st ye hH=>?_);dsimp only[u1,u2] at hH;refine zQ 2 ?_;have hH:=hH.drop 1;refine zQ 5 ?_;refine⟨mm,by omega,⟨i+1,(dc b sr).2,YZ,acc++[g],rfl,(by rw[BY];exact hH),by omega,(by rw[ε];simp only[γ,δ];omega),sV,fun _=>sP he,ye,PW,?_,(by rw[ε];simp only[γ,δ];omega),(fun g2 br=>by rcases List.mem_append.1 br with h|h;exact hval g2 h;simp only[ρ,ξ,or_false] at h;rw[h];exact hgv)⟩⟩;intro h0;rw[MQ h0]
  have jY:(dc b sr).2.e=0:=by
   rcases Classical.em ((dc b sr).2.e=0) with h|h
   ·exact h
   ·rw[eA _ h] at h0;exact absurd h0 h
  rw[QR jY,xw];rfl
 ·refine zQ 1 ?_
  have zp:bj (dc b) mm sr=([],sr):=by
   by_cases he:sr.e=0
   ·have:mm=0:=by
     rcases ki mm with h|h
     ·exact h
     ·exfalso
      have h1:decide (((i:Nat):Int)<(m:Nat))=true:=by rw[decide_eq_true_eq];omega
      rw[h1,he] at hc;simp at hc
    rw[this];rfl
   ·exact eA _ he mm
  rw[zp] at MQ PW;simp only[GB] at MQ;rw[PW];refine zQ 9 ?_;refine ag.cond (by rfl) (fun hne=>?_) (fun hne=>?_)<;>try simp only[bne_iff_ne,bne_eq_false_iff_eq,ne_eq] at hne
  ·refine zQ 4 ?_;refine ag.ret ⟨rx,_,_,_,rfl,aj (rfl),?_⟩;exact⟨⟨[],rfl,by simp,(fun g hg=>by cases hg),fun h=>absurd h (by simpa using hne)⟩,cj.aq bV (hH.erase 2)⟩
  ·refine zQ 6 ?_;have mO:=PY fun g hg=>(hval g hg).1;have hfz:=hH.qJ (L:=s0.bs.length) (n:=16) a_ (fun k hk=>by rw[←bV];exact ye k hk) mO.1 (by decide);rw[mO.2] at hfz;refine ag.ret ⟨rx,_,_,_,rfl,aj hfz,?_⟩;exact⟨⟨acc,rfl,hab,hval,fun h=>(MQ h).symm⟩,cj.aq bV (hH.erase 2)⟩
theorem JG (hbl:b.length≤1099511627776) (ba:s.at_≤b.length) (hH:Has N S s0 (.box k (.mem 0 false (cP x s))::.aF x 1 (byteCells b)::H)):
  ∃d ai,Ev pv 99 [.ptr k 0 0] s0 d ai∧(∃L:List GV,d=oL L∧L.length≤8∧(∀g∈L,g.td=qI g.bn∧g.bn.length≤400)∧((dD b s).2.e=0→L=(dD b s).1))∧Has N S ai (.box k (.mem 0 false (cP x (dD b s).2))::.aF x 1 (byteCells b)::H):=by
 refine ς rfl aba rfl rfl rfl ?_;refine zE ?_;have cj:=hH;have hH:=hH.bE;have bV:(ae .rw s0).bs=s0.bs:=rfl;generalize ae .rw s0=S2 at*;refine zQ 7 ?_;obtain⟨_,st,ax,⟨L,rfl,h1,h2,h3⟩,hH⟩:=JH hbl ba hH;refine qv ax ?_;refine zQ 2 ?_;refine ag.ret ⟨rx,_,_,_,rfl,aj (rfl),?_⟩;exact⟨⟨L,rfl,h1,h2,h3⟩,cj.aq bV hH⟩
end Go.Proofs.YtecjacicdpejaaaGreat
