/-
 Numbers, texts and flags are written behind bytes: texts and flags; the document's.
-/
import Derived.Test.YtkbacjpologjbaaGreatWGHr
import Derived.Test.YtkbacjpologjbaaGreatWGJp
import Derived.Test.YtkbacjpologjbaaGreatWGJi
import Derived.Test.YtkbacjpologjbaaGreatWGCa
import Derived.Test.YtkbacjpologjbaaGreatWGQe
import Derived.Test.YtkbacjpologjbaaGreatWGUa
set_option maxRecDepth 100000
set_option maxHeartbeats 4000000
set_option linter.unusedSimpArgs false
set_option linter.unusedVariables false
set_option linter.unusedSectionVars false
open Go.V renaming byteCells→γ,Rows→wt,look→Qaa
open List renaming getElem?_eq_getElem→δ,length_append→η,length_map→θ,append_assoc→ι,length_cons→μ,drop_succ_cons→ν,take_succ_cons→ξ,length_replicate→ο,drop_zero→ρ,replicate→ς,take_zero→τ,getElem?_map→υ,getElem?_append_right→φ,getElem?_append_left→Γ,length_nil→Δ,getElem?_set_self→Ξ,getElem?_set_ne→Φ,getElem?_eq_none→BY,mem_of_getElem?→IN,foldl→IS,drop_eq_getElem_cons→OF,length_take→AN,take_of_length_le→AT,ext_getElem?→Qa5,length_eq_countP_add_countP→Qa6,length_set→Qa8,map_append→Qa9,getD_eq_getElem?_getD→Qab,map_cons→Qae,getElem?_replicate→Qai,drop_eq_nil_of_le→Qak,count_replicate→Qam,mem_replicate→Qap,flatten_cons→Qaq,not_mem_nil→Qar,take_length→Qas,map_take→Qau,mem_cons→Qav
open Nat renaming le_of_ble_eq_true→ε,reduceAdd→ζ,le_refl→κ,mod_eq_of_lt→Qa7,lt_or_ge→Qal,pow_le_pow_right→Qao,le_trans→Qay,pow_succ→Qaz,mul_one→Qb0
open Go.V.D renaming cells→π,int→Pe,bool→Qah
open Go.V.ab renaming go→χ,nil→Ψ,aH→Qaf,dX→Qat,eZ→Qaw,oG→Qax,Aw→Qb2,cM→Qb3,iB→Qb4
open BitVec renaming ofInt→ψ,ofNat→ω,ofInt_natCast→AI,toNat_ofNat→Qa2,eq_of_toNat_eq→Qag,isLt→Qaj
open Bool renaming and_eq_true→Θ
open Option renaming map→Ω,some→Qa0
open Int renaming eq_ofNat_of_zero_le→v8,fdiv_eq_ediv_of_nonneg→Qac,fdiv→Qan
open Go.V.Fr renaming put→GB,get→Qa4,ev→Qad
open Go.V.Arg renaming of→IT
open UInt8 renaming ofNat→Pd
open Go.V.Ev renaming eH→Qa1,iu→Qb1
open Go.V.Has renaming start→Qa3
namespace Go.Proofs.YtkbacjpologjbaaGreat
open Go.V Go
theorem zjra {A B:Prop} (h:A) (e:A→B:=by intro h;dsimp only[u2,u1,u3,u4,setMany,u5,u6,π,ζ,aK,bM,aV,aE] at h;exact h):B:=e h
theorem zjrb {A B:Prop} (h:A) (e:A→B:=by intro h;dsimp only[u2,u1,u3,u4,setMany,u5,u6,π,ζ,iJ,qY] at h;exact h):B:=e h
theorem zjrc {A B:Prop} (h:A) (e:A→B:=by intro h;dsimp only[u2,u1,u3,u4,setMany,u5,u6,π,ζ,b_] at h;exact h):B:=e h
def eB (fr:Go.V.Fr) (k:Nat):Go.V.D:=Go.V.nth .bo fr.loc k
def pV (f:Bool):List UInt8:=aZ (if f then 1 else 0)
def ox (t:List UInt8):List UInt8:=aZ (t.length:Nat)++t
theorem Hn (m:Nat) (st:St):(fp pv .shr 3 (.int .i64 (m:Nat)) (.int .i64 8)).map (fun d=>(d,st))=some (.int .i64 ((m/256:Nat):Int),st):=by
 show Ω _ (some (Pe .i64 (Qan (m:Nat) (2^8))))=_;have:=JB m 1;simp only[Qb0,Nat.pow_one] at this;rw[this];rfl
theorem Hm (m k:Nat) (hk:k≤8) (st:St):(fp pv .shr 3 (.int .i64 (m:Nat)) (.int .i64 ((8*k:Nat):Int))).map (fun d=>(d,st))=some (.int .i64 ((m/256^k:Nat):Int),st):=by
 show Ω _ (if((8*k:Nat):Int)<0 then none else some (Pe .i64 (Qan (m:Nat) (2^(min ((8*k:Nat):Int).toNat 64)))))=_;rw[if_neg z0,Int.toNat_natCast,Nat.min_eq_left z0,JB];rfl
theorem Mr (q:Nat) (st:St):iO pv 3 5 (.int .i64 (q:Nat)) st=some (.int .u8 ((q %256:Nat):Int),st):=by
 show some (Pe .u8 (bp .u8 (q:Nat)),st)=_;rw[GX]
variable{s0:St}{x:D}{b:List UInt8}
theorem dH (hF:s0.flr≤s0.bs.length) (db:s0.ro≤s0.bs.length) (hx:wt s0 1 x (γ b)) (hl:b.length≤60000000000) (n:Int) (hn:n<9223372036854775808):
  ∃d ah,Ev pv 24 [x,.int .i64 n] s0 d ah∧nH s0 ah d (b++aZ n):=by
 obtain⟨m,hm⟩:∃m,n.toNat=m:=⟨_,rfl⟩
 have Bt:m<256^8:=by omega
 obtain⟨oO,hk2⟩:=EI Bt;have LQ:=Im m;have PN:aZ n=Pd (kB m)::Fg (kB m) m:=by unfold aZ;rw[hm]
 have tS:=aw b;rw[PN];refine Qa1 rfl XO rfl rfl rfl ?_;refine zE ?_;have aR:(ae .nw s0).bs=s0.bs:=rfl;have hF:(ae .nw s0).flr≤s0.bs.length:=hF;have hH:Has s0.bs.length (ae .nw s0) (ae .nw s0) []:=Qa3 (κ _) (κ _);generalize ae .nw s0=S at*;have hx:=IT hx aR;refine zQ 6 ?_;refine ab.IX (s:=1) hH rfl rfl rfl rfl rfl (fun _=>(aa rfl _)) (fun k9 st Rw hH=>?_);refine qm ?_;refine Qb4 (s:=1) hH rfl z3 z3 (by exact aJ) (by exact Arg.rows z5 hH) rfl rfl rfl rfl rfl rfl rfl ⟨(ε rfl),(ε rfl)⟩ (fun _=>(aa rfl _)) rfl (by simp only[Δ]<;>omega) (by exact .inl hF) (fun P5 st hH=>?_);dsimp only[u2,u1,u3,u4,setMany,u5,u6,π,ζ] at hH;refine zQ 2 ?_;have hH:Has s0.bs.length S st [.aC P5 1 (γ b)]:=hH;refine zQ 2 ?_;refine ag.jn (fun fr st=>∃(tmp:List (Nat×D)),fr=⟨9,[x,.int .i64 (m:Nat),eB fr 2,eB fr 3,eB fr 4,P5,eB fr 6,eB fr 7,eB fr 8],tmp⟩∧Has s0.bs.length S st [.aC P5 1 (γ b)]∧(True)) ?_ ?_
 ·refine zQ 4 ?_;refine zP (fun h0=>?_) fun h0=>?_
  ·refine zQ 3 ?_;have j6:m=0:=by omega
   subst j6;exact⟨_,rfl,hH,trivial⟩
  ·refine zQ 1 ?_;have LM:n=(m:Nat):=by omega
   subst LM;exact⟨_,rfl,hH,trivial⟩
 ·rintro fr st ⟨tmp,hfr,hH,ht⟩;rw[hfr];clear hfr;generalize eB fr=ee;clear fr;refine zQ 11 ?_;refine ag.loop (fun mm fr st=>∃(k q:Nat),fr.clean=⟨9,[eB fr 0,.int .i64 (m:Nat),eB fr 2,eB fr 3,eB fr 4,P5,.int .i64 (k:Nat),.int .i64 (q:Nat),eB fr 8],[]⟩∧Has s0.bs.length S st [.aC P5 1 (γ b)]∧(q=mm)∧(q=m/256^k)∧(k≤kB m)) (m) ?_ ?_
  ·exact⟨0,m,rfl,hH,rfl,by simp,by omega⟩
  rintro mm fr st ⟨k,q,hfr,hH,hq,hqk,hkk⟩;rw[hfr];clear hfr;generalize eB fr=ee;clear fr;refine zQ 6 ?_
  by_cases hq0:0<q
  ·have hlt:k<kB m:=by
    rcases Qal k (kB m) with h|h
    ·exact h
    ·have:k=kB m:=by omega
     subst this;omega
   have hc:decide (((q:Nat):Int)>0)=true:=by rw[decide_eq_true_eq];omega
   refine qD rfl (by rw[hc]) ?_;refine zQ 10 ?_;refine χ (d:=.int .i64 ((q/256:Nat):Int)) (st1:=_) rfl rfl (by exact Hn q _) (aa rfl _) ?_;refine zQ 2 ?_;have hd:q/256<q:=Nat.div_lt_self hq0 (by decide);exact⟨q/256,by omega,k+1,q/256,rfl,hH,rfl,by rw[hqk,Qaz,Nat.div_div_eq_div_mul],by omega⟩
  ·have hc:decide (((q:Nat):Int)>0)=false:=by rw[decide_eq_false_iff_not];omega
   have Rv:k=kB m:=by
    rcases Qal k (kB m) with h|h
    ·have:=hk2 k h;omega
    ·omega
   subst Rv;refine qE rfl (by rw[hc]) ?_;refine zQ 5 ?_;refine χ (d:=.int .u8 (kB m:Nat)) (st1:=_) rfl rfl (by show some (Pe .u8 (bp .u8 (kB m:Nat)),_)=_;rw[bI (by simp only[gh];omega)]) (aa rfl _) ?_;refine qh (s:=1) (vs:=[_]) hH fun k24 st RD hH=>?_;refine Qb4 (s:=1) hH rfl z3 z3 (by exact bt) (by exact hH.rows (by exact aJ)) rfl rfl rfl rfl rfl rfl rfl ⟨(ε rfl),(ε rfl)⟩ (fun _=>(aa rfl _)) rfl (by simp only[μ,Δ,θ]<;>omega) (by exact .inl hF) (fun TB st hH=>?_);dsimp only[u2,u1,u3,u4,setMany,u5,u6,π,ζ] at hH;refine zQ 2 ?_
   have hH:Has s0.bs.length S st [.aC TB 1 (γ (b++[Pd (kB m)]))]:=by
    rw[sy,Nc z0];exact hH.drop 1
   refine zQ 4 ?_;refine ab.Hc rfl z3 z3 z0 z0 (aa rfl _) ?_;refine zQ 2 ?_;have hbl:∀j,(Fg j m).length=j:=fun j=>tX j m
   obtain⟨T,hT⟩:∃T,b++Pd (kB m)::Fg (kB m) m=T:=⟨_,rfl⟩
   have R3:T.length=b.length+kB m+1:=by rw[←hT];simp[hbl];omega
   refine zQ 1 ?_;refine ag.loop (fun mm fr st=>∃(j:Nat) (y:D) (pre:List UInt8),fr.clean=⟨9,[eB fr 0,.int .i64 (m:Nat),eB fr 2,eB fr 3,eB fr 4,y,eB fr 6,eB fr 7,.int .i64 ((j:Int)-1)],[]⟩∧Has s0.bs.length S st [.aC y 1 (γ pre)]∧(j=mm)∧(j≤kB m)∧(pre++Fg j m=T)) (kB m) ?_ ?_
   ·exact⟨kB m,TB,b++[Pd (kB m)],rfl,hH,rfl,κ _,(by rw[←hT,ι];rfl)⟩
   rintro mm fr st ⟨j,y,pre,hfr,hH,hj,hjk,hp⟩;rw[hfr];clear hfr;generalize eB fr=ee;clear fr;have ia:pre.length+j=T.length:=by rw[←hp,η,hbl]
   have hbp:=aw pre;refine zQ 6 ?_
   cases j with
   |succ j=>
    have hc:decide (((j+1:Nat):Int)-1≥0)=true:=by rw[decide_eq_true_eq];omega
    refine qD rfl (by rw[hc]) ?_;refine zQ 1 ?_;have ON:((j+1:Nat):Int)-1=(j:Nat):=by omega
    rw[ON];have hq:m/256^j %256<256:=Nat.mod_lt _ (by decide);refine zQ 6 ?_;refine ab.A6 (z:=((8*j:Nat):Int)) rfl z3 z3 (by rw[show(8:Int)*(j:Nat)=((8*j:Nat):Int) by omega,bI (by simp only[gh];omega)]) (aa rfl _) ?_;refine χ (d:=.int .i64 ((m/256^j:Nat):Int)) (st1:=_) rfl rfl (by exact Hm m j z0 _) (aa rfl _) ?_;refine χ (d:=.int .u8 ((m/256^j %256:Nat):Int)) (st1:=_) rfl rfl (by exact Mr _ _) (aa rfl _) ?_;refine qh (s:=1) (vs:=[_]) hH fun k38 st aa5 hH=>?_;refine Qb4 (s:=1) hH rfl z3 z3 (by exact bt) (by exact hH.rows (by exact aJ)) rfl rfl rfl rfl rfl rfl rfl ⟨(ε rfl),(ε rfl)⟩ (fun _=>(aa rfl _)) rfl (by simp only[μ,Δ,θ]<;>omega) (by exact .inl hF) (fun Yj st hH=>?_);dsimp only[u2,u1,u3,u4,setMany,u5,u6,π,ζ] at hH;refine zQ 2 ?_
    have hH:Has s0.bs.length S st [.aC Yj 1 (γ (pre++[Pd (m/256^j)]))]:=by
     rw[sy,J0];exact hH.drop 1
    refine zQ 2 ?_;refine ab.eK (z:=((j:Int)-1)) rfl z3 z3 (by rw[wrap_i64 z0 z0]<;>omega) (aa rfl _) ?_;refine zQ 2 ?_;exact⟨j,by omega,⟨j,Yj,pre++[Pd (m/256^j)],rfl,hH,rfl,by omega,(by rw[ι];exact hp)⟩⟩
   |zero=>
    have hc:decide (((0:Nat):Int)-1≥0)=false:=rfl;refine qE rfl (by rw[hc]) ?_;refine zQ 1 ?_;have Vc:pre=T:=by rw[←hp];simp[Fg]
    subst Vc;refine zQ 5 ?_;refine ag.ret ⟨rx,_,_,_,rfl,rfl,?_⟩;rw[hT];exact hH.fx aR db
theorem HG (hx:wt s0 1 x (γ b)) (hl:b.length≤60000000000) (f:Bool):
  Ev pv 98 [x,.bool f] s0 (cA (b++pV f)) s0:=by
 refine Qb1 rfl WH rfl rfl rfl ?_;refine zE ?_;obtain⟨aR,hF,hH⟩:=ri s0;generalize ae .ro s0=S at*;have hx:=IT hx aR;refine zQ 9 ?_;obtain⟨eC,er⟩:=hH.eQ hF
 cases f with
 |true=>
  refine zQ 4 ?_;obtain⟨d7,st,aA,ho⟩:=dH (x:=x) (b:=b) eC er (hx.rows hH) hl 1 z0;have hH:=hH.lD ho
  (dsimp only[u3,u4] at hH)
  refine qv aA ?_;refine zQ 2 ?_;refine ag.ret ⟨rx,_,rfl,rl aR hH ?_⟩;exact hH.n_ aJ (cS _) (by decide)
 |false=>
  refine zQ 5 ?_;obtain⟨d7,st,aA,ho⟩:=dH (x:=x) (b:=b) eC er (hx.rows hH) hl 0 z0;have hH:=hH.lD ho
  (dsimp only[u3,u4] at hH)
  refine qv aA ?_;refine zQ 2 ?_;refine ag.ret ⟨rx,_,rfl,rl aR hH ?_⟩;exact hH.n_ aJ (cS _) (by decide)
theorem HE {t:List UInt8} (hx:wt s0 1 x (γ b)) (hl:b.length≤50000000000) (ht:t.length≤1048576):
  Ev pv 63 [x,.str t] s0 (cA (b++ox t)) s0:=by
 have C_:=bj (t.length:Nat);refine Qb1 rfl Xc rfl rfl rfl ?_;refine zE ?_;obtain⟨aR,hF,hH⟩:=ri s0;generalize ae .ro s0=S at*;have hx:=IT hx aR;refine zQ 4 ?_;obtain⟨eC,er⟩:=hH.eQ hF;have hbl:(γ (b++aZ (t.length:Nat))).length=b.length+(aZ (t.length:Nat)).length:=by rw[aw,η]
 refine zQ 4 ?_;refine ab.Ag rfl rfl rfl (aa rfl _) ?_;obtain⟨d8,st,aA,ho⟩:=dH (x:=x) (b:=b) eC er (hx.rows hH) z0 (t.length:Nat) z0;have hH:=hH.lD ho
 (dsimp only[u3,u4] at hH)
 refine qv aA ?_;refine qm ?_;refine ab.Ji hH rfl z3 z3 aJ rfl rfl rfl rfl rfl rfl rfl ⟨(ε rfl),(ε rfl)⟩ (fun _=>(aa rfl _)) rfl z0 (fun ZU st hH=>?_);dsimp only[u2] at hH;refine zQ 2 ?_
 have hH:Has s0.bs.length S st (.aC ZU 1 (γ (b++ox t))::[]):=by
  unfold ox;rw[←ι,sy];exact hH
 refine ag.ret ⟨rx,_,rfl,rl aR hH ?_⟩;exact hH.n_ aJ (cS _) (by decide)
def bd (fr:Go.V.Fr) (k:Nat):Go.V.D:=Go.V.nth .bo fr.loc k
def b_ (x:D) (s:dB):List D:=[x,.int .i64 (s.at_:Nat),.int .i64 s.e]
theorem zu (c:UInt8) (st:St):iO pv 5 3 (.int .u8 (c.toNat:Nat)) st=some (.int .i64 (c.toNat:Nat),st):=by
 show some (Pe .i64 (bp .i64 (c.toNat:Nat)),st)=_;have h:c.toNat<256:=c.toNat_lt;rw[bI (by simp only[gh];omega)]
theorem Ms (c:UInt8) (st:St):iO pv 5 128 (.int .u8 (c.toNat:Nat)) st=some (.int .u64 (c.toNat:Nat),st):=by
 show some (Pe .u64 (bp .u64 (c.toNat:Nat)),st)=_;have h:c.toNat<256:=c.toNat_lt;rw[bI (by simp only[gh];omega)]
theorem JQ (u:Nat) (h:u<9223372036854775808) (st:St):iO pv 128 3 (.int .u64 (u:Nat)) st=some (.int .i64 (u:Nat),st):=by
 show some (Pe .i64 (bp .i64 (u:Nat)),st)=_;rw[bI (by simp only[gh];omega)]
theorem KP (u:Nat) (h:u*256<18446744073709551616) (st:St):(fp pv .shl 128 (.int .u64 (u:Nat)) (.int .i64 8)).map (fun d=>(d,st))=some (.int .u64 ((u*256:Nat):Int),st):=by
 show Ω _ (if(8:Int)<0 then none else some (Pe .u64 (bp .u64 ((u:Nat)*2^(min (8:Int).toNat 64)))))=_
 rw[if_neg (by decide),show((u:Nat):Int)*2^(min (8:Int).toNat 64)=((u*256:Nat):Int) by
  rw[show(min (8:Int).toNat 64)=8 from rfl];omega,bI (by simp only[gh];omega)]
 rfl
theorem ND (u c:Nat) (hc:c<256) (h:u*256+c<18446744073709551616) (st:St):(fp pv .or 128 (.int .u64 ((u*256:Nat):Int)) (.int .u64 (c:Nat))).map (fun d=>(d,st))=some (.int .u64 ((u*256+c:Nat):Int),st):=by
 show Ω _ (some (Pe .u64 (bp .u64 ((ψ 64 ((u*256:Nat):Int)|||ψ 64 ((c:Nat):Int)).toNat:Nat))))=_;rw[AI,AI,BitVec.toNat_or,Qa2,Qa2,Qa7 z0,Qa7 z0]
 have e:u*256|||c=u*256+c:=by
  have:=Nat.shiftLeft_add_eq_or_of_lt (i:=8) (b:=c) hc u;rw[Nat.shiftLeft_eq] at this;exact this.symm
 rw[e,bI (by simp only[gh];omega)];rfl
theorem ui (u:Nat) (st:St):(fp pv .shr 128 (.int .u64 (u:Nat)) (.int .i64 63)).map (fun d=>(d,st))=some (.int .u64 ((u/9223372036854775808:Nat):Int),st):=by
 show Ω _ (if(63:Int)<0 then none else some (Pe .u64 (Qan (u:Nat) (2^(min (63:Int).toNat 64)))))=_;rw[if_neg (by decide),show(2:Int)^(min (63:Int).toNat 64)=((9223372036854775808:Nat):Int) from rfl,Qac _ (Int.natCast_nonneg _)];rfl
variable{N k:Nat}{S:St}{H:List a8}{s:dB}
theorem fZ (a:Nat) (e:Int) (hH:Has N S s0 (.box k (.mem 0 false (b_ x s))::H)):
  ∃d ah,Ev pv 69 [.ptr k 0 0,.int .i64 (a:Nat),.int .i64 e] s0 d ah∧d=.int .i64 0∧Has N S ah (.box k (.mem 0 false (b_ x ⟨a,e⟩))::H):=by
 refine Qa1 rfl W7 rfl rfl rfl ?_;refine zE ?_;have bD:=hH;have hH:=hH.bf;have bA:(ae .rw s0).bs=s0.bs:=rfl;generalize ae .rw s0=S2 at*;refine zQ 12 ?_;refine qT hH aJ fun st hH=>?_;have hH:=zjrc hH;refine zQ 2 ?_;refine qT hH aJ fun st hH=>?_;have hH:=zjrc hH;refine zQ 5 ?_;refine ag.ret ⟨rx,_,_,_,rfl,ai (rfl),?_⟩;exact⟨rfl,bD.aq bA hH⟩
theorem zk (hH:Has N S s0 (.box k (.mem 0 false (b_ x s))::H)):
  ∃d ah,Ev pv 29 [.ptr k 0 0] s0 d ah∧d=.int .i64 s.e∧Has N S ah (.box k (.mem 0 false (b_ x s))::H):=by
 refine Qa1 rfl XJ rfl rfl rfl ?_;refine zE ?_;have bD:=hH;have hH:=hH.bf;have bA:(ae .rw s0).bs=s0.bs:=rfl;generalize ae .rw s0=S2 at*;refine zQ 12 ?_;refine ag.ret ⟨rx,_,_,_,rfl,ai (rfl),?_⟩;exact⟨rfl,bD.aq bA hH⟩
theorem uJ {st:St} {e:a8} (hH:Has N S st (e::.aC x 1 (γ b)::H)) {l r:Nat} (h:l≤r∧r≤b.length):wt st 1 (rB x l r) (γ ((b.take r).drop l)):=by
 have:=(hH.rows bt).Qc (l:=l) (r:=r) (by rw[aw];exact h);unfold γ at this⊢;rw[List.map_drop,Qau];exact this
theorem n5 (hbl:b.length≤1099511627776) (aT:s.at_≤b.length) (hH:Has N S s0 (.box k (.mem 0 false (b_ x s))::.aC x 1 (γ b)::H)):
  ∃d ah,Ev pv 28 [.ptr k 0 0] s0 d ah∧d=.int .i64 (bk b s).1∧Has N S ah (.box k (.mem 0 false (b_ x (bk b s).2))::.aC x 1 (γ b)::H):=by
 refine Qa1 rfl XK rfl rfl rfl ?_;refine zE ?_;have bD:=hH;have hH:=hH.bf;have bA:(ae .rw s0).bs=s0.bs:=rfl;generalize ae .rw s0=S2 at*;refine zQ 13 ?_;refine ag.cond (by rfl) (fun he=>?_) (fun he=>?_)<;>try simp only[bne_iff_ne,bne_eq_false_iff_eq,ne_eq] at he
 ·have hv:bk b s=(0,s):=by unfold bk;rw[if_pos he]
  rw[hv];refine zQ 4 ?_;refine ag.ret ⟨rx,_,_,_,rfl,ai (rfl),?_⟩;exact⟨rfl,bD.aq bA hH⟩
 refine zQ 1 ?_;have T0:b.take b.length=b:=Qas
 have eJ:∀{st:St} {e:a8} {H:List a8},Has N S2 st (e::.aC x 1 (γ b)::H)→wt st 1 (rB x s.at_ b.length) (γ (b.drop s.at_)):=fun h=>by
  have:=uJ h (l:=s.at_) (r:=b.length) ⟨aT,κ _⟩
  rwa [T0] at this
 have hv:bk b s=match b.drop s.at_ with
  |[]=>(0,⟨s.at_,3⟩)
  |k::rest=>
   if 8<k.toNat then(0,⟨s.at_,4⟩)
   else if rest.length<k.toNat then(0,⟨s.at_,3⟩)
   else if(0<k.toNat∧rest.head?=some 0)∨9223372036854775808≤gL 0 (rest.take k.toNat) then(0,⟨s.at_,4⟩)
   else((gL 0 (rest.take k.toNat):Nat),⟨s.at_+1+k.toNat,0⟩):=by
  unfold bk;rw[if_neg (by simpa using he)];cases List.drop s.at_ b<;>rfl
 refine zQ 10 ?_;refine ab.prt rfl z3 (hH.rows bt) rfl rfl (B0 (by rw[aw];exact aT)) ⟨by rw[aw];exact aT,by rw[aw];exact κ _⟩ (by dsimp only[GB,u1,u2]<;>rfl) ?_;refine zQ 2 ?_;rw[aw];have GR:(b.drop s.at_).length=b.length-s.at_:=List.length_drop;have RY:=aw (b.drop s.at_);refine zQ 4 ?_;refine Qb2 rfl z3 (eJ hH) rfl (by dsimp only[GB,u1,u2]<;>rfl) ?_;refine zQ 2 ?_;rw[RY]
 obtain⟨R,hR⟩:∃R,b.drop s.at_=R:=⟨_,rfl⟩
 rw[hR] at hv GR;simp only[hR] at eJ⊢;clear RY
 cases R with
 |nil=>
  simp only at hv;rw[hv];refine ag.cond (v:=true) (by dsimp only[Qad,Qa4,nth,Qaa];rfl) (fun _=>?_) (fun h=>by cases h);refine zQ 7 ?_;obtain⟨_,st,aA,rfl,hH⟩:=fZ s.at_ 3 hH;refine qv aA ?_;refine zQ 2 ?_;refine ag.ret ⟨rx,_,_,_,rfl,ai (rfl),?_⟩;exact⟨rfl,bD.aq bA hH⟩
 |cons c rest=>
 simp only at hv;simp only[μ] at GR⊢;have RU:(((rest.length+1:Nat):Int)==0)=false:=by rw[beq_eq_false_iff_ne];omega
 refine qE rfl (by rw[RU]) ?_;refine zQ 1 ?_;have fU:(γ (c::rest))[0]?=some [.int .u8 (c.toNat:Nat)]:=rfl;refine zQ 3 ?_;refine Qax (i:=0) rfl z3 z3 (eJ hH) rfl rfl fU (fun _=>by dsimp only[GB,u1,u2]<;>rfl) (fun YF LG=>?_);refine Qaw rfl z3 LG rfl (by dsimp only[GB,u1,u2]<;>rfl) ?_;refine χ (d:=.int .i64 (c.toNat:Nat)) (st1:=_) rfl rfl (by exact zu c _) (by dsimp only[GB,u1,u2]<;>rfl) ?_;refine zQ 2 ?_
 obtain⟨kn,hkn⟩:∃kn,c.toNat=kn:=⟨_,rfl⟩
 rw[hkn] at hv⊢;refine zQ 6 ?_;refine zP (fun h8=>?_) fun h8=>?_
 ·rw[if_pos z0] at hv;rw[hv];refine zQ 7 ?_;obtain⟨_,st,aA,rfl,hH⟩:=fZ s.at_ 4 hH;refine qv aA ?_;refine zQ 2 ?_;refine ag.ret ⟨rx,_,_,_,rfl,ai (rfl),?_⟩;exact⟨rfl,bD.aq bA hH⟩
 rw[if_neg z0] at hv;refine zQ 5 ?_;refine Qb2 rfl z3 (eJ hH) rfl (by dsimp only[GB,u1,u2]<;>rfl) ?_;refine qm ?_;refine Qat (z:=((1+kn:Nat):Int)) rfl z3 z3 (by rw[wrap_i64 z0 z0]<;>omega) (by dsimp only[GB,u1,u2]<;>rfl) ?_;refine zQ 2 ?_;simp only[aw,μ]
 by_cases hs:rest.length<kn
 ·rw[if_pos hs] at hv;rw[hv];have hc:decide (((rest.length+1:Nat):Int)<((1+kn:Nat):Int))=true:=by rw[decide_eq_true_eq];omega
  refine qD rfl (by rw[hc]) ?_;refine zQ 7 ?_;obtain⟨_,st,aA,rfl,hH⟩:=fZ s.at_ 3 hH;refine qv aA ?_;refine zQ 2 ?_;refine ag.ret ⟨rx,_,_,_,rfl,ai (rfl),?_⟩;exact⟨rfl,bD.aq bA hH⟩
 rw[if_neg hs] at hv;have hc:decide (((rest.length+1:Nat):Int)<((1+kn:Nat):Int))=false:=by rw[decide_eq_false_iff_not];omega
 refine qE rfl (by rw[hc]) ?_;refine zQ 1 ?_
 obtain⟨l,hl⟩:∃l,rest.take kn=l:=⟨_,rfl⟩
 have rY:l.length=kn:=by rw[←hl,AN];omega
 rw[hl] at hv
 obtain⟨y,hy⟩:∃y,rB (rB x s.at_ b.length) 1 (1+kn)=y:=⟨_,rfl⟩
 have GL:∀{st:St} {e:a8} {H:List a8},Has N S2 st (e::.aC x 1 (γ b)::H)→wt st 1 y (γ l):=fun h=>by
  have h2:=(eJ h).Qc (l:=1) (r:=1+kn) (by rw[aw,μ];omega);rw[hy] at h2
  have e:((γ (c::rest)).take (1+kn)).drop 1=γ l:=by
   rw[←hl,Nat.add_comm 1 kn];unfold γ;rw[Qae,ξ,ν,ρ,Qau]
  rwa [e] at h2
 refine zQ 9 ?_;refine Qat (z:=((1+kn:Nat):Int)) rfl z3 z3 (by rw[wrap_i64 z0 z0]<;>omega) (by dsimp only[GB,u1,u2]<;>rfl) ?_;refine ab.prt rfl z3 (eJ hH) rfl rfl (nE (m:=1) (n:=1+kn) (by rw[aw,μ];omega)) ⟨by omega,by rw[aw,μ];omega⟩ (by dsimp only[GB,u1,u2]<;>rfl) ?_;rw[hy];refine Qb2 rfl z3 (GL hH) rfl (by dsimp only[GB,u1,u2]<;>rfl) ?_;rw[aw];refine zQ 2 ?_
 have VD:∀(i u:Nat),i≤7→u<256^i→u*256+255<18446744073709551616:=fun i u hi hu=>by
  have h1:256^i≤256^7:=Qao (by decide) hi;have h2:(256:Nat)^7=72057594037927936:=by decide
  omega
 refine zQ 1 ?_;refine ag.loop (fun mm fr st=>∃(i u:Nat),fr.clean=⟨60,[.ptr k 0 0,bd fr 1,bd fr 2,rB x s.at_ b.length,.int .i64 (kn:Nat),.int .u64 (u:Nat),bd fr 6,bd fr 7,bd fr 8,bd fr 9,bd fr 10,bd fr 11,bd fr 12,bd fr 13,bd fr 14,bd fr 15,bd fr 16,bd fr 17,bd fr 18,bd fr 19,bd fr 20,bd fr 21,bd fr 22,bd fr 23,bd fr 24,bd fr 25,bd fr 26,bd fr 27,bd fr 28,bd fr 29,bd fr 30,bd fr 31,bd fr 32,bd fr 33,bd fr 34,bd fr 35,bd fr 36,bd fr 37,bd fr 38,bd fr 39,bd fr 40,bd fr 41,bd fr 42,bd fr 43,bd fr 44,bd fr 45,bd fr 46,bd fr 47,bd fr 48,bd fr 49,bd fr 50,bd fr 51,bd fr 52,bd fr 53,bd fr 54,bd fr 55,bd fr 56,y,.int .i64 (l.length:Nat),.int .i64 (i:Nat)],[]⟩∧Has N S2 st (.box k (.mem 0 false (b_ x s))::.aC x 1 (γ b)::H)∧(i+mm=l.length)∧(gL u (l.drop i)=gL 0 l)∧(u<256^i)) (l.length) ?_ ?_
 ·exact⟨0,0,rfl,hH,by omega,rfl,by decide⟩
 rintro mm fr st ⟨i,u,hfr,hH,hi,hu,hul⟩;rw[hfr];clear hfr;generalize bd fr=ee;clear fr;refine zQ 4 ?_
 by_cases hlt:i<l.length
 ·have nu:decide (((i:Nat):Int)<((l.length:Nat):Int))=true:=by rw[decide_eq_true_eq];omega
  refine qq<|qD rfl (by rw[nu]) ?_;refine zQ 3 ?_
  obtain⟨q,hq⟩:∃q,l[i]?=some q:=⟨l[i]'hlt,δ _⟩
  have mB:(γ l)[i]?=some [.int .u8 (q.toNat:Nat)]:=by unfold γ;rw[υ,hq];rfl
  have tw:l.drop i=q::l.drop (i+1):=by
   have:=OF (l:=l) (i:=i) hlt;rw[this];congr 1;rw[δ hlt] at hq;exact Qa0.inj hq
  rw[tw] at hu;have GN:q.toNat<256:=q.toNat_lt;have hub:=VD i u z0 hul;refine zQ 2 ?_;refine Qax rfl z3 z3 (GL hH) rfl rfl mB (fun _=>(aa rfl _)) (fun Yx Oh=>?_);refine Qaw rfl z3 Oh rfl (aa rfl _) ?_;refine zQ 4 ?_;refine χ (d:=.int .u64 ((u*256:Nat):Int)) (st1:=_) rfl rfl (by exact KP u z0 _) (aa rfl _) ?_;refine qm ?_;refine χ (d:=.int .u64 (q.toNat:Nat)) (st1:=_) rfl rfl (by exact Ms q _) (aa rfl _) ?_;refine χ (d:=.int .u64 ((u*256+q.toNat:Nat):Int)) (st1:=_) rfl rfl (by exact ND u q.toNat GN z0 _) (aa rfl _) ?_;refine zQ 6 ?_;exact⟨mm-1,by omega,⟨i+1,u*256+q.toNat,rfl,hH,by omega,hu,by rw[Qaz];omega⟩⟩
 ·have nu:decide (((i:Nat):Int)<((l.length:Nat):Int))=false:=by rw[decide_eq_false_iff_not];omega
  refine qq<|qE rfl (by rw[nu]) ?_;refine zQ 1 ?_;have hil:i=l.length:=by omega
  rw[hil,List.drop_length] at hu;have hu:u=gL 0 l:=hu;rw[←hu] at hv
  have aam:u<18446744073709551616:=by
   have h1:256^i≤256^8:=Qao (by decide) z0;have h2:(256:Nat)^8=18446744073709551616:=by decide
   omega
  have hwr:∀st:St,Has N S2 st (.box k (.mem 0 false (b_ x s))::.aC x 1 (γ b)::H)→∃d ah,Ev pv 69 [.ptr k 0 0,.int .i64 (s.at_:Nat),.int .i64 4] st d ah∧d=.int .i64 0∧Has N S2 ah (.box k (.mem 0 false (b_ x ⟨s.at_,4⟩))::.aC x 1 (γ b)::H):=fun st hH=>fZ s.at_ 4 hH
  have L8:(((u/9223372036854775808:Nat):Int)==1)=decide (9223372036854775808≤u):=by
   by_cases h:9223372036854775808≤u
   ·have:u/9223372036854775808=1:=by omega
    rw[this,decide_eq_true h];rfl
   ·have:u/9223372036854775808=0:=by omega
    rw[this,decide_eq_false h];rfl
  by_cases Mb:kn=0
  ·have cj:decide (((kn:Nat):Int)>0)=false:=by rw[decide_eq_false_iff_not];omega
   have Cc:l=[]:=List.length_eq_zero_iff.1 z0;have QL:u=0:=by rw[hu,Cc];rfl
   have gv:false=false:=rfl;rw[if_neg z0] at hv;rw[hv];subst QL;refine zQ 13 ?_;refine χ (d:=.int .u64 0) (st1:=_) rfl rfl (by exact ui 0 _) (aa rfl _) ?_;refine zQ 12 ?_;refine Qat (z:=((1+kn:Nat):Int)) rfl z3 z3 (by rw[wrap_i64 z0 z0]<;>omega) (aa rfl _) ?_;refine Qat (z:=((s.at_+1+kn:Nat):Int)) rfl z3 z3 (by rw[wrap_i64 z0 z0]<;>omega) (aa rfl _) ?_;refine zQ 2 ?_;refine qT hH aJ fun st hH=>?_;have hH:=zjrc hH;refine zQ 4 ?_;refine χ (d:=.int .i64 (0:Nat)) (st1:=_) rfl rfl (by exact JQ 0 (by decide) _) (aa rfl _) ?_;refine zQ 2 ?_;have L6:s.e=0:=by simpa using he
   refine ag.ret ⟨rx,_,_,_,rfl,ai (rfl),?_⟩;rw[L6] at hH;exact⟨rfl,bD.aq bA hH⟩
  ·have cj:decide (((kn:Nat):Int)>0)=true:=by rw[decide_eq_true_eq];omega
   obtain⟨z,El,rfl⟩:∃z r,rest=z::r:=by
    cases rest with
    |nil=>simp only[Δ] at hs;omega
    |cons z r=>exact⟨z,r,rfl⟩
   have C8:(γ (c::z::El))[1]?=some [.int .u8 (z.toNat:Nat)]:=rfl
   have hz:(((z.toNat:Nat):Int)==0)=decide (z=0):=by
    by_cases h:z=0
    ·subst h;rfl
    ·have:z.toNat≠0:=fun e=>h (by rw[←UInt8.toNat_inj];exact e);rw[decide_eq_false h,beq_eq_false_iff_ne];omega
   by_cases hz0:z=0
   ·have gv:(((z.toNat:Nat):Int)==0)=true:=by rw[hz,decide_eq_true hz0]
    rw[if_pos (.inl ⟨by omega,by rw[hz0];rfl⟩)] at hv;rw[hv];refine zQ 7 ?_;refine Qax (i:=1) (aj rfl rfl rfl cj) z3 z3 (eJ hH) rfl rfl C8 (fun _=>(aa rfl _)) (fun Yv IE=>?_);refine Qaw (aj rfl rfl rfl cj) z3 IE rfl (aa rfl _) ?_;refine zQ 16 ?_;obtain⟨_,st,aA,rfl,hH⟩:=hwr _ hH;refine qv aA ?_;refine zQ 2 ?_;refine ag.ret ⟨rx,_,_,_,rfl,ai (rfl),?_⟩;exact⟨rfl,bD.aq bA hH⟩
   ·have gv:(((z.toNat:Nat):Int)==0)=false:=by rw[hz,decide_eq_false hz0]
    by_cases vA:9223372036854775808≤u
    ·rw[if_pos (.inr vA)] at hv;rw[hv];rw[decide_eq_true vA] at L8;refine zQ 7 ?_;refine Qax (i:=1) (aj rfl rfl rfl cj) z3 z3 (eJ hH) rfl rfl C8 (fun _=>(aa rfl _)) (fun Yv IE=>?_);refine Qaw (aj rfl rfl rfl cj) z3 IE rfl (aa rfl _) ?_;refine zQ 4 ?_;refine χ (d:=.int .u64 ((u/9223372036854775808:Nat):Int)) (st1:=_) (aj rfl rfl rfl gv) rfl (by exact ui u _) (aa rfl _) ?_;refine zQ 3 ?_;refine ag.cond (v:=true) (by dsimp only[Qad,Qa4,nth,Qaa];exact congrArg Qah L8) (fun _=>?_) (fun h=>by cases h);refine zQ 7 ?_;obtain⟨_,st,aA,rfl,hH⟩:=hwr _ hH;refine qv aA ?_;refine zQ 2 ?_;refine ag.ret ⟨rx,_,_,_,rfl,ai (rfl),?_⟩;exact⟨rfl,bD.aq bA hH⟩
    ·have NU:¬((0<kn∧(z::El).head?=some 0)∨9223372036854775808≤u):=by
      rintro(⟨_,h⟩|h)
      ·exact hz0 (Qa0.inj h)
      ·exact vA h
     rw[if_neg NU] at hv;rw[hv];rw[decide_eq_false vA] at L8;refine zQ 7 ?_;refine Qax (i:=1) (aj rfl rfl rfl cj) z3 z3 (eJ hH) rfl rfl C8 (fun _=>(aa rfl _)) (fun Yv IE=>?_);refine Qaw (aj rfl rfl rfl cj) z3 IE rfl (aa rfl _) ?_;refine zQ 4 ?_;refine χ (d:=.int .u64 ((u/9223372036854775808:Nat):Int)) (st1:=_) (aj rfl rfl rfl gv) rfl (by exact ui u _) (aa rfl _) ?_;refine zQ 3 ?_;refine ag.cond (v:=false) (by dsimp only[Qad,Qa4,nth,Qaa];exact congrArg Qah L8) (fun h=>by cases h) (fun _=>?_);refine zQ 8 ?_;refine Qat (z:=((1+kn:Nat):Int)) rfl z3 z3 (by rw[wrap_i64 z0 z0]<;>omega) (aa rfl _) ?_;refine Qat (z:=((s.at_+1+kn:Nat):Int)) rfl z3 z3 (by rw[wrap_i64 z0 z0]<;>omega) (aa rfl _) ?_;refine zQ 2 ?_;refine qT hH aJ fun st hH=>?_;have hH:=zjrc hH;refine zQ 4 ?_;refine χ (d:=.int .i64 (u:Nat)) (st1:=_) rfl rfl (by exact JQ u z0 _) (aa rfl _) ?_;refine zQ 2 ?_;have L6:s.e=0:=by simpa using he
     refine ag.ret ⟨rx,_,_,_,rfl,ai (rfl),?_⟩;rw[L6] at hH;exact⟨rfl,bD.aq bA hH⟩
def bw (fr:Go.V.Fr) (k:Nat):Go.V.D:=Go.V.nth .bo fr.loc k
def lA (s:BitVec 32):D:=.int .u32 (s.toNat:Nat)
def DC (s:BitVec 32):BitVec 32:=if s &&&1#32=1#32 then(s>>>1)^^^2197175160#32 else s>>>1
def tA:Nat→BitVec 32→BitVec 32
 |0,s=>s
 |k+1,s=>tA k (DC s)
def BO:BitVec 32→List UInt8→BitVec 32
 |s,[]=>s
 |s,c::l=>BO (tA 8 (s^^^ω 32 c.toNat)) l
def mj (c : BitVec 32) (b : List UInt8) : BitVec 32 := ~~~ (BO (~~~ c) b)
theorem wrap32 {n:Nat} (h:n<2^32):bp .u32 (n:Nat)=(n:Int):=bI (by simp only[gh];omega)
theorem H3 (a:BitVec 32):ψ 32 (a.toNat:Nat)=a:=by
 rw[AI,BitVec.ofNat_toNat,BitVec.setWidth_eq]
theorem yg (a b:BitVec 32) (st:St):(fp pv .xor 60 (lA a) (lA b)).map (fun d=>(d,st))=some (lA (a^^^b),st):=by
 show Ω _ (some (Pe .u32 (bp .u32 ((ψ 32 (a.toNat:Nat)^^^ψ 32 (b.toNat:Nat)).toNat:Nat))))=_;rw[H3,H3,wrap32 (Qaj _)];rfl
theorem zB (a b:BitVec 32) (st:St):(fp pv .and 60 (lA a) (lA b)).map (fun d=>(d,st))=some (lA (a &&&b),st):=by
 show Ω _ (some (Pe .u32 (bp .u32 ((ψ 32 (a.toNat:Nat) &&&ψ 32 (b.toNat:Nat)).toNat:Nat))))=_;rw[H3,H3,wrap32 (Qaj _)];rfl
theorem yH (a:BitVec 32) (st:St):(TD .xor (lA a)).map (fun d=>(d,st))=some (lA (~~~a),st):=by
 show Ω _ (some (Pe .u32 (bp .u32 ((ψ 32 4294967295^^^ψ 32 (a.toNat:Nat)).toNat:Nat))))=_;rw[H3,show ψ 32 4294967295=BitVec.allOnes 32 from rfl,BitVec.allOnes_xor,wrap32 (Qaj _)];rfl
theorem Cl (a:BitVec 32) (st:St):(fp pv .shr 60 (lA a) (.int .u64 1)).map (fun d=>(d,st))=some (lA (a>>>1),st):=by
 show Ω _ (some (Pe .u32 (Qan (a.toNat:Nat) (2^1))))=_;rw[Qac _ (by decide)];show some (Pe .u32 ((a.toNat/2:Nat):Int),st)=_;rw[lA,BitVec.toNat_ushiftRight,Nat.shiftRight_succ,Nat.shiftRight_zero]
theorem Nb (c:UInt8) (st:St):iO pv 5 60 (.int .u8 (c.toNat:Nat)) st=some (lA (ω 32 c.toNat),st):=by
 show some (Pe .u32 (bp .u32 (c.toNat:Nat)),st)=_;have h:c.toNat<256:=c.toNat_lt;rw[wrap32 z0,lA,Qa2,Qa7 z0]
theorem MP (hx:wt s0 1 x (γ b)) (hl:b.length≤1000000000000) (c:BitVec 32):Ev pv 21 [lA c,x] s0 (lA (mj c b)) s0:=by
 have tS:=aw b;refine Qb1 rfl XQ rfl rfl rfl ?_;refine zE ?_;obtain⟨aR,hF,hH⟩:=ri s0;generalize ae .ro s0=S at*;have hx:=IT hx aR;refine zQ 7 ?_;refine χ (d:=lA (~~~c)) (st1:=_) rfl rfl (by exact yH c _) (by dsimp only[GB,u1,u2]<;>rfl) ?_;refine zQ 6 ?_;refine qn ?_;refine zQ 2 ?_
 obtain⟨R,hR⟩:∃R,BO (~~~c) b=R:=⟨_,rfl⟩
 refine zQ 1 ?_;refine ag.loop (fun mm fr st=>∃(i:Nat) (s:BitVec 32),fr.clean=⟨22,[bw fr 0,bw fr 1,bw fr 2,bw fr 3,bw fr 4,lA s,bw fr 6,bw fr 7,bw fr 8,bw fr 9,bw fr 10,x,.int .i64 ((γ b).length:Nat),.int .i64 (i:Nat),bw fr 14,bw fr 15,bw fr 16,bw fr 17,bw fr 18,bw fr 19,bw fr 20,bw fr 21],[]⟩∧Has s0.bs.length S st []∧(i+mm=b.length)∧(BO s (b.drop i)=R)) (b.length) ?_ ?_
 ·exact⟨0,~~~c,rfl,hH,by omega,hR⟩
 rintro mm fr st ⟨i,s,hfr,hH,hi,hs⟩;rw[hfr];clear hfr;generalize bw fr=ee;clear fr;refine zQ 5 ?_;refine zP (fun h1=>?_) fun h1=>?_
 ·refine zQ 1 ?_
  obtain⟨q,hq⟩:∃q,b[i]?=some q:=⟨b[i]' z0,δ _⟩
  have fU:(γ b)[i]?=some [.int .u8 (q.toNat:Nat)]:=by unfold γ;rw[υ,hq];rfl
  have tw:b.drop i=q::b.drop (i+1):=by
   have:=OF (l:=b) (i:=i) z0;rw[this];congr 1;rw[δ z0] at hq;exact Qa0.inj hq
  rw[tw] at hs;change BO (tA 8 (s^^^ω 32 q.toNat)) (b.drop (i+1))=R at hs;refine zQ 4 ?_;refine qr fun TH LI=>?_;refine zQ 7 ?_;refine χ (d:=lA (ω 32 q.toNat)) (st1:=_) rfl rfl (by exact Nb q _) (by dsimp only[GB,u1,u2]<;>rfl) ?_;refine χ (d:=lA (s^^^ω 32 q.toNat)) (st1:=_) rfl rfl (by exact yg _ _ _) (by dsimp only[GB,u1,u2]<;>rfl) ?_;refine zQ 2 ?_;generalize s^^^ω 32 q.toNat=s1 at*;refine zQ 5 ?_;refine ag.loop (fun mm fr st=>∃(j:Nat) (s2:BitVec 32),fr.clean=⟨22,[bw fr 0,bw fr 1,bw fr 2,bw fr 3,bw fr 4,lA s2,bw fr 6,bw fr 7,bw fr 8,bw fr 9,bw fr 10,x,.int .i64 ((γ b).length:Nat),.int .i64 (i:Nat),bw fr 14,bw fr 15,bw fr 16,bw fr 17,bw fr 18,bw fr 19,bw fr 20,.int .i64 (j:Nat)],[]⟩∧Has s0.bs.length S st []∧(j+mm=8)∧(tA (8-j) s2=tA 8 s1)) (8) ?_ ?_
  ·exact⟨0,s1,rfl,hH,by omega,rfl⟩
  rintro mm fr st ⟨j,s2,hfr,hH,hj,ht⟩;rw[hfr];clear hfr;generalize bw fr=ee;clear fr;refine zQ 5 ?_;refine zP (fun h2=>?_) fun h2=>?_
  ·refine zQ 1 ?_;have hk:8-j=(8-(j+1))+1:=by omega
   rw[hk] at ht;change tA (8-(j+1)) (DC s2)=_ at ht;refine zQ 5 ?_;refine χ (d:=lA (s2 &&&1#32)) (st1:=_) rfl rfl (by exact zB s2 1#32 _) (aa rfl _) ?_;refine zQ 5 ?_;refine χ (d:=lA (s2>>>1)) (st1:=_) rfl rfl (by exact Cl s2 _) (aa rfl _) ?_;refine zQ 7 ?_
   by_cases hb:s2 &&&1#32=1#32
   ·have hc:((((s2 &&&1#32).toNat:Nat):Int)==1)=true:=by rw[hb];rfl
    refine ag.cond (v:=true) (by dsimp only[Qad,Qa4,nth,Qaa];exact congrArg Qah hc) (fun _=>?_) (fun h=>by cases h);refine zQ 2 ?_;refine χ (d:=lA ((s2>>>1)^^^2197175160#32)) (st1:=_) rfl rfl (by exact yg (s2>>>1) 2197175160#32 _) (aa rfl _) ?_;refine zQ 2 ?_;rw[DC,if_pos hb] at ht;refine zQ 4 ?_;exact⟨mm-1,by omega,⟨j+1,_,rfl,hH,by omega,ht⟩⟩
   ·have hc:((((s2 &&&1#32).toNat:Nat):Int)==1)=false:=by
     rw[beq_eq_false_iff_ne];intro h;exact hb (Qag (by have e:(1#32).toNat=1:=rfl;omega))
    refine ag.cond (v:=false) (by dsimp only[Qad,Qa4,nth,Qaa];exact congrArg Qah hc) (fun h=>by cases h) (fun _=>?_);refine zQ 1 ?_;rw[DC,if_neg hb] at ht;refine zQ 4 ?_;exact⟨mm-1,by omega,⟨j+1,_,rfl,hH,by omega,ht⟩⟩
  ·refine zQ 1 ?_;have VX:j=8:=by omega
   subst VX;have ht:s2=tA 8 s1:=ht;rw[←ht] at hs;refine zQ 4 ?_;exact⟨b.length-(i+1),by omega,⟨i+1,s2,rfl,hH,by omega,hs⟩⟩
 ·refine zQ 1 ?_;have hil:b.drop i=[]:=Qak z0;rw[hil] at hs;have hs:s=R:=hs;subst hs;refine zQ 3 ?_;refine χ (d:=lA (~~~s)) (st1:=_) rfl rfl (by exact yH s _) (aa rfl _) ?_;refine zQ 2 ?_;unfold mj;rw[hR];refine ag.ret ⟨rx,_,rfl,rl aR hH (rfl)⟩
theorem HF (hx:wt s0 1 x (γ b)) (hl:b.length≤1000000000000) (c:BitVec 32):Ev pv 65 [lA c,x] s0 (lA (mj c b)) s0:=by
 have tS:=aw b;refine Qb1 rfl Xa rfl rfl rfl ?_;refine zE ?_;obtain⟨aR,hF,hH⟩:=ri s0;generalize ae .ro s0=S at*;have hx:=IT hx aR;refine zQ 7 ?_;refine χ (d:=lA (~~~c)) (st1:=_) rfl rfl (by exact yH c _) (aa rfl _) ?_;refine zQ 7 ?_
 obtain⟨R,hR⟩:∃R,BO (~~~c) b=R:=⟨_,rfl⟩
 refine zQ 1 ?_;refine ag.loop (fun mm fr st=>∃(i:Nat) (s:BitVec 32),fr.clean=⟨8,[bw fr 0,x,bw fr 2,bw fr 3,bw fr 4,lA s,.int .i64 (i:Nat),bw fr 7],[]⟩∧Has s0.bs.length S st []∧(i+mm=b.length)∧(BO s (b.drop i)=R)) (b.length) ?_ ?_
 ·exact⟨0,~~~c,rfl,hH,by omega,hR⟩
 rintro mm fr st ⟨i,s,hfr,hH,hi,hs⟩;rw[hfr];clear hfr;generalize bw fr=ee;clear fr;refine zQ 5 ?_;refine qn ?_;refine zQ 2 ?_;refine zP (fun h1=>?_) fun h1=>?_
 ·refine zQ 1 ?_
  obtain⟨q,hq⟩:∃q,b[i]?=some q:=⟨b[i]' z0,δ _⟩
  have fU:(γ b)[i]?=some [.int .u8 (q.toNat:Nat)]:=by unfold γ;rw[υ,hq];rfl
  have tw:b.drop i=q::b.drop (i+1):=by
   have:=OF (l:=b) (i:=i) z0;rw[this];congr 1;rw[δ z0] at hq;exact Qa0.inj hq
  rw[tw] at hs;change BO (tA 8 (s^^^ω 32 q.toNat)) (b.drop (i+1))=R at hs;refine zQ 7 ?_;refine qr fun YJ Rj=>?_;refine qR ?_;refine χ (d:=lA (ω 32 q.toNat)) (st1:=_) rfl rfl (by exact Nb q _) (aa rfl _) ?_;refine χ (d:=lA (s^^^ω 32 q.toNat)) (st1:=_) rfl rfl (by exact yg _ _ _) (aa rfl _) ?_;refine zQ 2 ?_;generalize s^^^ω 32 q.toNat=s1 at*;refine zQ 5 ?_;refine ag.loop (fun mm fr st=>∃(j:Nat) (s2:BitVec 32),fr.clean=⟨8,[bw fr 0,x,bw fr 2,bw fr 3,bw fr 4,lA s2,.int .i64 (i:Nat),.int .i64 (j:Nat)],[]⟩∧Has s0.bs.length S st []∧(j+mm=8)∧(tA (8-j) s2=tA 8 s1)) (8) ?_ ?_
  ·exact⟨0,s1,rfl,hH,by omega,rfl⟩
  rintro mm fr st ⟨j,s2,hfr,hH,hj,ht⟩;rw[hfr];clear hfr;generalize bw fr=ee;clear fr;refine zQ 6 ?_;refine zP (fun h2=>?_) fun h2=>?_
  ·refine zQ 1 ?_;have hk:8-j=(8-(j+1))+1:=by omega
   rw[hk] at ht;change tA (8-(j+1)) (DC s2)=_ at ht;refine zQ 5 ?_;refine χ (d:=lA (s2 &&&1#32)) (st1:=_) rfl rfl (by exact zB s2 1#32 _) (aa rfl _) ?_;refine zQ 2 ?_
   by_cases hb:s2 &&&1#32=1#32
   ·have hc:((((s2 &&&1#32).toNat:Nat):Int)==1)=true:=by rw[hb];rfl
    refine ag.cond (v:=true) (by dsimp only[Qad,Qa4,nth,Qaa];exact congrArg Qah hc) (fun _=>?_) (fun h=>by cases h);refine zQ 2 ?_;refine χ (d:=lA (s2>>>1)) (st1:=_) rfl rfl (by exact Cl s2 _) (aa rfl _) ?_;refine χ (d:=lA ((s2>>>1)^^^2197175160#32)) (st1:=_) rfl rfl (by exact yg (s2>>>1) 2197175160#32 _) (aa rfl _) ?_;refine zQ 2 ?_;rw[DC,if_pos hb] at ht;refine zQ 5 ?_;exact⟨mm-1,by omega,⟨j+1,_,rfl,hH,by omega,ht⟩⟩
   ·have hc:((((s2 &&&1#32).toNat:Nat):Int)==1)=false:=by
     rw[beq_eq_false_iff_ne];intro h;exact hb (Qag (by have e:(1#32).toNat=1:=rfl;omega))
    refine ag.cond (v:=false) (by dsimp only[Qad,Qa4,nth,Qaa];exact congrArg Qah hc) (fun h=>by cases h) (fun _=>?_);refine zQ 2 ?_;refine χ (d:=lA (s2>>>1)) (st1:=_) rfl rfl (by exact Cl s2 _) (aa rfl _) ?_;refine zQ 2 ?_;rw[DC,if_neg hb] at ht;refine zQ 5 ?_;exact⟨mm-1,by omega,⟨j+1,_,rfl,hH,by omega,ht⟩⟩
  ·refine zQ 1 ?_;have VX:j=8:=by omega
   subst VX;have ht:s2=tA 8 s1:=ht;rw[←ht] at hs;refine zQ 5 ?_;exact⟨b.length-(i+1),by omega,⟨i+1,s2,rfl,hH,by omega,hs⟩⟩
 ·refine zQ 1 ?_;have hil:b.drop i=[]:=Qak z0;rw[hil] at hs;have hs:s=R:=hs;subst hs;refine zQ 3 ?_;refine χ (d:=lA (~~~s)) (st1:=_) rfl rfl (by exact yH s _) (aa rfl _) ?_;refine zQ 2 ?_;unfold mj;rw[hR];refine ag.ret ⟨rx,_,rfl,rl aR hH (rfl)⟩
def bT (fr:Go.V.Fr) (k:Nat):Go.V.D:=Go.V.nth .bo fr.loc k
theorem kQ (b:List UInt8) (st:St):wt st 1 (cA b) (γ b):=(fg.frozen (lg b) (cS b)).rows st
def uR (l:List Int):List UInt8:=(l.map aZ).flatten
def Ek (r:Rg):List UInt8:=aZ r.1++aZ r.2
def uB (l:List Rg):List UInt8:=(l.map Ek).flatten
def oq (i:aL):List UInt8:=aZ i.op++(aZ i.x++(aZ i.y++(aZ (i.rs.length:Nat)++uB i.rs)))
def oC (l:List aL):List UInt8:=(l.map oq).flatten
def ij (c:List aL) (s:List Int):List UInt8:=aZ (s.length:Nat)++(uR s++(aZ (c.length:Nat)++oC c))
theorem kN {α:Type} {f:α→List UInt8} {n:Nat}:∀{l:List α},(∀x∈l,(f x).length≤n)→((l.map f).flatten).length≤n*l.length
 |[],_=>by simp
 |x::l,h=>by
  have ih:=kN (l:=l) fun y hy=>h y (List.mem_cons_of_mem _ hy);have:=h x (List.mem_cons_self ..);simp only[Qae,Qaq,η,μ,Nat.mul_add,Qb0];omega
theorem jK {α:Type} {f:α→List UInt8} {l:List α} {i:Nat} {x:α} (h:l[i]?=some x):(((l.take (i+1)).map f).flatten)=((l.take i).map f).flatten++f x:=by
 rw[List.take_add_one,h,Option.toList_some,Qa9,List.flatten_append];simp
theorem uQ (l:List Int):(uR l).length≤9*l.length:=kN fun v _=>bj v
theorem Hz (r:Rg):(Ek r).length≤18:=by unfold Ek;have:=bj r.1;have:=bj r.2;rw[η];omega
theorem Ei (l:List Rg):(uB l).length≤18*l.length:=kN fun r _=>Hz r
structure aL.fit (i:aL):Prop where
 op:i.op<9223372036854775808
 x:i.x<9223372036854775808
 y:i.y<9223372036854775808
 r:∀g∈i.rs,-2147483648≤g.1∧g.1≤2147483647∧-2147483648≤g.2∧g.2≤2147483647
variable{i:aL}
theorem EK (h:i.rs.length≤1048576):(oq i).length≤18874404:=by
 unfold oq;have:=bj i.op;have:=bj i.x;have:=bj i.y;have:=bj (i.rs.length:Nat);have:=Ei i.rs;simp only[η];omega
theorem Mt {v:Int} (h1:-2147483648≤v) (h2:v≤2147483647) (st:St):iO pv 21 3 (.int .i32 v) st=some (.int .i64 v,st):=by
 show some (Pe .i64 (bp .i64 v),st)=_;rw[wrap_i64 z0 z0]
theorem R6 (hF:s0.flr≤s0.bs.length) (db:s0.ro≤s0.bs.length) (hx:wt s0 1 x (γ b)) (hl:b.length≤50000000000) {r:Rg} (hr:-2147483648≤r.1∧r.1≤2147483647∧-2147483648≤r.2∧r.2≤2147483647):
  ∃d ah,Ev pv 59 [x,.agg (au r)] s0 d ah∧nH s0 ah d (b++Ek r):=by
 have pM:=bj r.1;refine Qa1 rfl Xg rfl rfl rfl ?_;refine zE ?_;have aR:(ae .nw s0).bs=s0.bs:=rfl;have hF:(ae .nw s0).flr≤s0.bs.length:=hF;have hH:Has s0.bs.length (ae .nw s0) (ae .nw s0) []:=Qa3 (κ _) (κ _);generalize ae .nw s0=S at*;have hx:=IT hx aR;refine zQ 2 ?_;refine qb hH fun k3 st tt hH=>?_;dsimp only[u2,u1,u3,u4,setMany,u5,u6,π,ζ,au] at hH;refine zQ 7 ?_;refine χ (d:=.int .i64 r.1) (st1:=_) rfl rfl (by exact Mt hr.1 hr.2.1 _) (aa rfl _) ?_;obtain⟨eC,er⟩:=hH.eQ hF;obtain⟨d9,st,aA,ho⟩:=jD (x:=x) (b:=b) eC er (hx.rows hH) z0 r.1 z0;have hH:=hH.lD ho
 (dsimp only[u3,u4] at hH)
 refine qv aA ?_;refine zQ 2 ?_;refine χ (d:=.int .i64 r.2) (st1:=_) rfl rfl (by exact Mt hr.2.2.1 hr.2.2.2 _) (aa rfl _) ?_;obtain⟨eC,er⟩:=hH.eQ hF;obtain⟨d13,st,aA,ho⟩:=jD (x:=d9) (b:=b++aZ r.1) eC er (hH.rows aJ) (by rw[η];omega) r.2 z0;have hH:=hH.lD ho
 (dsimp only[u3,u4] at hH)
 refine qv aA ?_;refine zQ 2 ?_;refine ag.ret ⟨rx,_,_,_,rfl,rfl,?_⟩;have h1:=(hH.take 1).fx aR db;unfold nH Ek;rw[←ι];exact h1
variable{y:D}
theorem Ft {l:List Int} (hF:s0.flr≤s0.bs.length) (db:s0.ro≤s0.bs.length) (hx:wt s0 1 x (γ b)) (hy:wt s0 1 y (l.map ax)) (hl:b.length≤40000000000) (rY:l.length≤1048576) (rV:∀v∈l,v<9223372036854775808):
  ∃d ah,Ev pv 55 [x,y,.fn 54 []] s0 d ah∧nH s0 ah d (b++(aZ (l.length:Nat)++((l.map aZ).flatten))):=by
 have pM:=bj (l.length:Nat);refine Qa1 rfl Xk rfl rfl rfl ?_;refine zE ?_;have aR:(ae .nw s0).bs=s0.bs:=rfl;have hF:(ae .nw s0).flr≤s0.bs.length:=hF;have hH:Has s0.bs.length (ae .nw s0) (ae .nw s0) []:=Qa3 (κ _) (κ _);generalize ae .nw s0=S at*;have hx:=IT hx aR;have hy:=IT hy aR;refine zQ 8 ?_;refine qn ?_;simp only[θ];obtain⟨eC,er⟩:=hH.eQ hF;obtain⟨d13,st,aA,ho⟩:=jD (x:=x) (b:=b) eC er (hx.rows hH) z0 (l.length:Nat) z0;have hH:=hH.lD ho
 (dsimp only[u3,u4] at hH)
 refine qv aA ?_;refine zQ 6 ?_;refine qn ?_;simp only[θ];refine zQ 3 ?_;refine ag.loop (fun mm fr st=>∃(i:Nat) (o:D),fr.clean=⟨17,[bT fr 0,bT fr 1,.fn 54 [],bT fr 3,bT fr 4,bT fr 5,bT fr 6,o,bT fr 8,bT fr 9,bT fr 10,bT fr 11,bT fr 12,bT fr 13,y,.int .i64 (l.length:Nat),.int .i64 (i:Nat)],[]⟩∧Has s0.bs.length S st [.aC o 1 (γ (b++(aZ (l.length:Nat)++(((l.take i).map aZ).flatten))))]∧(i+mm=l.length)) (l.length) ?_ ?_
 ·exact⟨0,d13,rfl,(by simpa using hH),by omega⟩
 rintro mm fr st ⟨i,o,hfr,hH,hi⟩;rw[hfr];clear hfr;generalize bT fr=ee;clear fr;refine zQ 5 ?_;refine zP (fun hlt=>?_) fun hlt=>?_
 ·refine zQ 1 ?_
  obtain⟨v,hv⟩:∃v,l[i]?=some v:=⟨l[i]' z0,δ _⟩
  have Lr:=IN hv;have fU:(l.map ax)[i]?=some (ax v):=by rw[υ,hv];rfl
  have eI:=jK (f:=aZ) hv;have IW:=kN (f:=aZ) (n:=9) (l:=l.take i) (fun x hx=>bj x);have mA:(l.take i).length=i:=by rw[AN];omega
  have ia:(b++(aZ (l.length:Nat)++(((l.take i).map aZ).flatten))).length≤50000000000:=by simp only[η];omega
  generalize hP:b++(aZ (l.length:Nat)++(((l.take i).map aZ).flatten))=P at*;refine zQ 4 ?_;refine qr fun Qj II=>?_;refine zQ 7 ?_;obtain⟨eC,er⟩:=hH.eQ hF;obtain⟨d23,st,aA,ho⟩:=jD (x:=o) (b:=P) eC er (hH.rows aJ) z0 v (rV v Lr);have hH:=hH.lD ho
  (dsimp only[u3,u4] at hH)
  refine qv aA ?_;refine zQ 6 ?_;exact⟨mm-1,by omega,⟨i+1,d23,rfl,(by rw[eI,←ι (aZ _),←ι b,hP];exact hH.take 1),by omega⟩⟩
 ·refine zQ 1 ?_;rw[AT z0] at hH;refine zQ 5 ?_;refine ag.ret ⟨rx,_,_,_,rfl,rfl,?_⟩;exact hH.fx aR db
theorem Fs {l:List Rg} (hF:s0.flr≤s0.bs.length) (db:s0.ro≤s0.bs.length) (hx:wt s0 1 x (γ b)) (hy:wt s0 2 y (l.map au)) (hl:b.length≤40000000000) (rY:l.length≤1048576) (rV:∀g∈l,-2147483648≤g.1∧g.1≤2147483647∧-2147483648≤g.2∧g.2≤2147483647):
  ∃d ah,Ev pv 58 [x,y,.fn 59 []] s0 d ah∧nH s0 ah d (b++(aZ (l.length:Nat)++((l.map Ek).flatten))):=by
 have pM:=bj (l.length:Nat);refine Qa1 rfl Xh rfl rfl rfl ?_;refine zE ?_;have aR:(ae .nw s0).bs=s0.bs:=rfl;have hF:(ae .nw s0).flr≤s0.bs.length:=hF;have hH:Has s0.bs.length (ae .nw s0) (ae .nw s0) []:=Qa3 (κ _) (κ _);generalize ae .nw s0=S at*;have hx:=IT hx aR;have hy:=IT hy aR;refine zQ 8 ?_;refine qn ?_;simp only[θ];obtain⟨eC,er⟩:=hH.eQ hF;obtain⟨d13,st,aA,ho⟩:=jD (x:=x) (b:=b) eC er (hx.rows hH) z0 (l.length:Nat) z0;have hH:=hH.lD ho
 (dsimp only[u3,u4] at hH)
 refine qv aA ?_;refine zQ 6 ?_;refine qn ?_;simp only[θ];refine zQ 3 ?_;refine ag.loop (fun mm fr st=>∃(i:Nat) (o:D),fr.clean=⟨17,[bT fr 0,bT fr 1,.fn 59 [],bT fr 3,bT fr 4,bT fr 5,bT fr 6,o,bT fr 8,bT fr 9,bT fr 10,bT fr 11,bT fr 12,bT fr 13,y,.int .i64 (l.length:Nat),.int .i64 (i:Nat)],[]⟩∧Has s0.bs.length S st [.aC o 1 (γ (b++(aZ (l.length:Nat)++(((l.take i).map Ek).flatten))))]∧(i+mm=l.length)) (l.length) ?_ ?_
 ·exact⟨0,d13,rfl,(by simpa using hH),by omega⟩
 rintro mm fr st ⟨i,o,hfr,hH,hi⟩;rw[hfr];clear hfr;generalize bT fr=ee;clear fr;refine zQ 5 ?_;refine zP (fun hlt=>?_) fun hlt=>?_
 ·refine zQ 1 ?_
  obtain⟨v,hv⟩:∃v,l[i]?=some v:=⟨l[i]' z0,δ _⟩
  have Lr:=IN hv;have fU:(l.map au)[i]?=some (au v):=by rw[υ,hv];rfl
  have eI:=jK (f:=Ek) hv;have IW:=kN (f:=Ek) (n:=18) (l:=l.take i) (fun x hx=>Hz x);have mA:(l.take i).length=i:=by rw[AN];omega
  have ia:(b++(aZ (l.length:Nat)++(((l.take i).map Ek).flatten))).length≤50000000000:=by simp only[η];omega
  generalize hP:b++(aZ (l.length:Nat)++(((l.take i).map Ek).flatten))=P at*;refine zQ 4 ?_;refine qr fun Qj II=>?_;refine Qb3 rfl z3 z5 rfl (aa rfl _) ?_;refine qa hH fun k9 st Rw hH=>?_;refine qS hH aJ fun st hH=>?_;dsimp only[u2,u1,u3,u4,setMany,u5,u6,π,ζ,au] at hH;refine zQ 4 ?_;refine Qaf (m:=2) hH rfl z3 (by exact aJ) (by dsimp only[ν,ρ,ξ,τ,au]<;>rfl) rfl rfl (aa rfl _) ?_;obtain⟨eC,er⟩:=hH.eQ hF;obtain⟨d23,st,aA,ho⟩:=R6 (x:=o) (b:=P) eC er (hH.rows bt) z0 (r:=v) (rV v Lr);have hH:=hH.lD ho
  (dsimp only[u3,u4] at hH)
  refine qv aA ?_;refine zQ 6 ?_;exact⟨mm-1,by omega,⟨i+1,d23,rfl,(by rw[eI,←ι (aZ _),←ι b,hP];exact hH.take 1),by omega⟩⟩
 ·refine zQ 1 ?_;rw[AT z0] at hH;refine zQ 5 ?_;refine ag.ret ⟨rx,_,_,_,rfl,rfl,?_⟩;exact hH.fx aR db
theorem Sa (hF:s0.flr≤s0.bs.length) (db:s0.ro≤s0.bs.length) (hx:wt s0 1 x (γ b)) (hl:b.length≤30000000000) (hi:i.ok) (hf:i.fit):
  ∃d ah,Ev pv 57 [x,.agg (aK i)] s0 d ah∧nH s0 ah d (b++oq i):=by
 obtain⟨OP,xE⟩:=hi;have pM:=bj i.op;have IP:=bj i.x;have hn3:=bj i.y;have hcl:=OP.cells.1;refine Qa1 rfl Xi rfl rfl rfl ?_;refine zE ?_;have aR:(ae .nw s0).bs=s0.bs:=rfl;have hF:(ae .nw s0).flr≤s0.bs.length:=hF;have hH:Has s0.bs.length (ae .nw s0) (ae .nw s0) []:=Qa3 (κ _) (κ _);generalize ae .nw s0=S at*;have hx:=IT hx aR;have LB:=OP.arg s0.bs.length S;refine zQ 2 ?_;refine qb hH fun k3 st tt hH=>?_;dsimp only[u2,u1,u3,u4,setMany,u5,u6,π,ζ,aK] at hH;refine zQ 7 ?_;obtain⟨eC,er⟩:=hH.eQ hF;obtain⟨d8,st,aA,ho⟩:=jD (x:=x) (b:=b) eC er (hx.rows hH) z0 i.op hf.op;have hH:=hH.lD ho
 (dsimp only[u3,u4] at hH)
 refine qv aA ?_;refine zQ 2 ?_;obtain⟨eC,er⟩:=hH.eQ hF;obtain⟨d11,st,aA,ho⟩:=jD (x:=d8) (b:=b++aZ i.op) eC er (hH.rows aJ) (by rw[η];omega) i.x hf.x;have hH:=hH.lD ho
 (dsimp only[u3,u4] at hH)
 refine qv aA ?_;refine zQ 2 ?_;obtain⟨eC,er⟩:=hH.eQ hF;obtain⟨d14,st,aA,ho⟩:=jD (x:=d11) (b:=(b++aZ i.op)++aZ i.x) eC er (hH.rows aJ) (by simp only[η];omega) i.y hf.y;have hH:=hH.lD ho
 (dsimp only[u3,u4] at hH)
 refine qv aA ?_;refine zQ 7 ?_;obtain⟨eC,er⟩:=hH.eQ hF;obtain⟨d18,st,aA,ho⟩:=Fs (x:=d14) (b:=((b++aZ i.op)++aZ i.x)++aZ i.y) eC er (hH.rows aJ) (LB.rows hH) (by simp only[η];omega) xE hf.r;have hH:=hH.lD ho
 (dsimp only[u3,u4] at hH)
 refine qv aA ?_;refine zQ 2 ?_;refine ag.ret ⟨rx,_,_,_,rfl,rfl,?_⟩;have h1:=(hH.take 1).fx aR db;unfold nH oq uB;simp only[ι] at h1⊢;exact h1
theorem z_ {l:List aL} (hF:s0.flr≤s0.bs.length) (db:s0.ro≤s0.bs.length) (hx:wt s0 1 x (γ b)) (hy:wt s0 4 y (l.map aK)) (hl:b.length≤10000000) (rY:l.length≤1000) (aT:∀i∈l,i.ok) (rV:∀i∈l,i.fit):
  ∃d ah,Ev pv 56 [x,y,.fn 57 []] s0 d ah∧nH s0 ah d (b++(aZ (l.length:Nat)++((l.map oq).flatten))):=by
 have pM:=bj (l.length:Nat);refine Qa1 rfl Xj rfl rfl rfl ?_;refine zE ?_;have aR:(ae .nw s0).bs=s0.bs:=rfl;have hF:(ae .nw s0).flr≤s0.bs.length:=hF;have hH:Has s0.bs.length (ae .nw s0) (ae .nw s0) []:=Qa3 (κ _) (κ _);generalize ae .nw s0=S at*;have hx:=IT hx aR;have hy:=IT hy aR;refine zQ 8 ?_;refine qn ?_;simp only[θ];obtain⟨eC,er⟩:=hH.eQ hF;obtain⟨d13,st,aA,ho⟩:=jD (x:=x) (b:=b) eC er (hx.rows hH) z0 (l.length:Nat) z0;have hH:=hH.lD ho
 (dsimp only[u3,u4] at hH)
 refine qv aA ?_;refine zQ 6 ?_;refine qn ?_;simp only[θ];refine zQ 3 ?_;refine ag.loop (fun mm fr st=>∃(i:Nat) (o:D),fr.clean=⟨17,[bT fr 0,bT fr 1,.fn 57 [],bT fr 3,bT fr 4,bT fr 5,bT fr 6,o,bT fr 8,bT fr 9,bT fr 10,bT fr 11,bT fr 12,bT fr 13,y,.int .i64 (l.length:Nat),.int .i64 (i:Nat)],[]⟩∧Has s0.bs.length S st [.aC o 1 (γ (b++(aZ (l.length:Nat)++(((l.take i).map oq).flatten))))]∧(i+mm=l.length)) (l.length) ?_ ?_
 ·exact⟨0,d13,rfl,(by simpa using hH),by omega⟩
 rintro mm fr st ⟨i,o,hfr,hH,hi⟩;rw[hfr];clear hfr;generalize bT fr=ee;clear fr;refine zQ 5 ?_;refine zP (fun hlt=>?_) fun hlt=>?_
 ·refine zQ 1 ?_
  obtain⟨v,hv⟩:∃v,l[i]?=some v:=⟨l[i]' z0,δ _⟩
  have Lr:=IN hv;have fU:(l.map aK)[i]?=some (aK v):=by rw[υ,hv];rfl
  have eI:=jK (f:=oq) hv;have IW:=kN (f:=oq) (n:=18874404) (l:=l.take i) (fun x hx=>EK (aT x (List.mem_of_mem_take hx)).2);have mA:(l.take i).length=i:=by rw[AN];omega
  have ia:(b++(aZ (l.length:Nat)++(((l.take i).map oq).flatten))).length≤30000000000:=by simp only[η];omega
  generalize hP:b++(aZ (l.length:Nat)++(((l.take i).map oq).flatten))=P at*;refine zQ 4 ?_;refine qr fun Qj II=>?_;refine Qb3 rfl z3 z5 rfl (aa rfl _) ?_;refine qa hH fun k9 st Rw hH=>?_;refine qS hH aJ fun st hH=>?_;dsimp only[u2,u1,u3,u4,setMany,u5,u6,π,ζ,aK] at hH;refine zQ 4 ?_;refine Qaf (m:=4) hH rfl z3 (by exact aJ) (by dsimp only[ν,ρ,ξ,τ,aK]<;>rfl) rfl rfl (aa rfl _) ?_;obtain⟨eC,er⟩:=hH.eQ hF;obtain⟨d23,st,aA,ho⟩:=Sa (x:=o) (b:=P) eC er (hH.rows bt) z0 (i:=v) (aT v Lr) (rV v Lr);have hH:=hH.lD ho
  (dsimp only[u3,u4] at hH)
  refine qv aA ?_;refine zQ 6 ?_;exact⟨mm-1,by omega,⟨i+1,d23,rfl,(by rw[eI,←ι (aZ _),←ι b,hP];exact hH.take 1),by omega⟩⟩
 ·refine zQ 1 ?_;rw[AT z0] at hH;refine zQ 5 ?_;refine ag.ret ⟨rx,_,_,_,rfl,rfl,?_⟩;exact hH.fx aR db
end Go.Proofs.YtkbacjpologjbaaGreat
namespace Go.V
variable{N:Nat} {S st:St} {H:List a8}
theorem Has.ki (A B:List a8) (h:Has N S st (A++(B++H))):Has N S st (B++(A++H)):=by
 refine h.sub (fun i=>if i<B.length then i+A.length else if i<B.length+A.length then i-B.length else i) (fun a b e=>?_) fun i e hi=>?_
 ·have e':(if a<B.length then a+A.length else if a<B.length+A.length then a-B.length else a)=(if b<B.length then b+A.length else if b<B.length+A.length then b-B.length else b):=e
  repeat' split at e'
  all_goals omega
 ·show(A++(B++H))[if i<B.length then i+A.length else if i<B.length+A.length then i-B.length else i]?=some e
  by_cases h1:i<B.length
  ·rw[if_pos h1,φ z0,Nat.add_sub_cancel,Γ h1]
   rwa [Γ h1] at hi
  ·rw[φ z0] at hi
   by_cases h2:i<B.length+A.length
   ·rw[if_neg h1,if_pos h2,Γ z0]
    rwa [Γ z0] at hi
   ·rw[if_neg h1,if_neg h2,φ z0,φ z0];rw[φ z0] at hi;rw[←hi];congr 1;omega
variable{j:Nat}{e:a8}
theorem Has.fV (h:Has N S st (e::H)) (hj:j<H.length):Has N S st (H.set j e):=
 Has.back (h.erase (j+1)) hj
variable{k:Nat}
theorem Has.vd (h:Has N S st H) (hj:H[j]?=some e) (hk:e.K k):k+1≤st.bs.length:=((h.ok j e hj).2 k hk).2
theorem jT {x y:Oper} {fi fj:Fr} {si tJ sj Kl:St} {a:Operand} {aB off v:Nat} {ar:Bool} {c:List D} (hy:jb y.op=none) (hx:jb x.op=some a) (ha:fi.ev a=.ptr k aB off) (h1:sj.bs[k]?=some (.mem v ar c)) (h2:Kl.bs[k]?=some (.mem v ar c)) (h3:si.bs[k]?=some (.mem v ar c)) (hr:refs c≤si.bs.length):jW x fi si tJ y fj sj Kl=true:=by
 unfold jW;simp only[hy,hx,ha,D.oV,Θ];refine⟨rb h1 h2,?_⟩;unfold oF;simp only[h3]
 split
 ·rfl
 ·simpa using hr
variable{x:D}{s:Nat}{es:List (List D)}{z:List D}
theorem Has.clear {P:Pv} {t e:TypeId} (h:Has N S st H) (hj:H[j]?=some (.aC x s es)) (ht:P.cy t=some (.slice e)) (hz:dc P e=some z) (mz:z.length=s) (hr:refs z=0):
  ∃ah,nC P [t] x st=some (.tup [],ah)∧Has N S ah (H.set j (.aC x s (ς es.length z))):=by
 have Bu:=(h.ok j _ hj).2;have hown:=h.own hj
 have nX:j<H.length:=by
  rcases Qal j H.length with h'|h'
  ·exact h'
  ·rw[BY h'] at hj;cases hj
 cases hown with
 |nul=>
  refine⟨st,by simp only[nC,ht],?_⟩
  have:H.set j (.aC .nul s (ς ([]:List (List D)).length z))=H:=by
   refine Qa5 fun i=>?_
   by_cases hi:i=j
   ·subst hi;rw[Ξ nX,hj];rfl
   ·rw[Φ (fun e=>hi e.symm)]
  rw[this];exact h
 |win k aB off es c hm hle hc he=>
  have hk:=Bu k (by simp only[a8.aC,D.ref])
  have Iz:∀n,refs (Go.V.fV n z)=0:=by
   intro n;unfold Go.V.fV
   induction n with
   |zero=>rfl
   |succ n ih=>
    rw[List.replicate_succ,Qaq]
    have L_:∀(a b:List D),refs a=0→refs b=0→refs (a++b)=0:=by
     intro a
     induction a with
     |nil=>intro b _ hb;exact hb
     |cons d a Kv=>
      intro b ha hb;simp only[refs,List.cons_append] at ha⊢;have:=Kv b z0 hb;omega
    exact L_ _ _ hr ih
  have rX:(Go.V.fV es.length z).length=es.length*s:=by
   unfold Go.V.fV;rw[cX (s:=s) (fun e he=>by rw[(Qap.1 he).2];exact mz),ο]
  have hw:st.wr k aB off (Go.V.fV es.length z)=some ⟨st.bs.set k (.mem aB true (c.take off++Go.V.fV es.length z++c.drop (off+(Go.V.fV es.length z).length))),st.flr,st.ro⟩:=mL hm z0 (iE h hk.1 (.inr (Iz _)));refine⟨_,by simp only[nC,ht,hz,Option.bind_some];rw[if_pos mz,hw];rfl,?_⟩;refine h.D2 hj (fun n hn hne=>?_) (by simp) rfl rfl ?_ (fun n hn=>.inl hn) fun n hn=>?_
  ·simp only;rw[Φ (fun e=>hne (by simp only[a8.aC,D.ref];omega))]
  ·have IY:∀e'∈ς es.length z,e'.length=s:=fun e' tv=>by rw[(Qap.1 tv).2];exact mz
   have:=i7.win (st:=⟨st.bs.set k (.mem aB true (c.take off++Go.V.fV es.length z++c.drop (off+(Go.V.fV es.length z).length))),st.flr,st.ro⟩) (s:=s) k aB off (ς es.length z) (c.take off++Go.V.fV es.length z++c.drop (off+(Go.V.fV es.length z).length))
    (by simp only;rw[Ξ hk.2]) (by rw[ο];simp;omega) ?_ IY
   ·rw[ο] at this;exact this
   ·rw[ο,ι,List.drop_append_of_le_length (by simp;omega),List.drop_take,Nat.sub_self,τ,List.nil_append,←rX,List.take_left']
    ·rfl
    ·rfl
  ·simp only[a8.aC,D.ref] at hn;have:n=k:=by omega
   subst this
   simpa using hk.2
variable{P:Pv} {ops:Array Oper} {rest:List Oper} {fr aG:Fr} {Q:Fr→St→Prop} {ty:TypeId} {pp:String} {a:Array Edge} {g:Option (Nat×Bool)} {dst:Nat}
theorem ab.NK {t e:TypeId} {xo:Operand} (hH:Has N S st H) (hg:aD ops fr ⟨none,.call ⟨.builtin .clear,#[xo],#[t]⟩,ty,pp,a,g⟩=some true) (hx:fr.ev xo=x) (hj:H[j]?=some (.aC x s es)) (ht:P.cy t=some (.slice e)) (hz:dc P e=some z) (mz:z.length=s) (hr:refs z=0) (h:∀ah,Has N S ah (H.set j (.aC x s (ς es.length z)))→ab P ops rest fr ah Q):ab P ops (⟨none,.call ⟨.builtin .clear,#[xo],#[t]⟩,ty,pp,a,g⟩::rest) fr st Q:=by
 obtain⟨ah,h1,h2⟩:=hH.clear hj ht hz mz hr;refine ab.N hg rfl (d:=.tup []) (st1:=ah) ?_ (h _ h2);simp only[dN,Qae,List.map_nil,hx,bu];exact h1
theorem lZ {st:St} (h:wt st s x es):x.cells?=some [x]:=by cases h<;>rfl
end Go.V
namespace Go.Proofs.YtkbacjpologjbaaGreat
open Go.V Go
def iJ (n:Nat):List D:=[.int .i64 (n:Nat)]
def qY (n:Nat):List D:=[.int .i64 (n:Nat),.bool true]
variable{l:List Nat}{i q:Nat}
theorem A0 (h:l[i]?=some q):(l.map iJ)[i]?=some (iJ q):=by rw[υ,h];rfl
theorem Ln (h:l[i]?=some q):(l.map qY)[i]?=some (qY q):=by rw[υ,h];rfl
structure dM (P Q:List Nat) (seen:List Bool):Prop where
 len:P.length=seen.length
 mem:∀(i p:Nat),P[i]?=some p→seen[i]?=some (decide (Q[p]?=some i))
 cnt:Q.length=seen.count true
 small:seen.length≤4096
def Kf (N:Nat) (S st:St) (ks:Nat) (seen:List Bool) (H:List a8):Prop:=
 ∃pd qd P Q,Has N S st (.box ks (.mem 0 false [pd,qd])::.aC pd 1 (P.map iJ)::.aC qd 2 (Q.map qY)::H)∧dM P Q seen
variable{P Q:List Nat}{seen:List Bool}{b:Bool}
theorem dM.get (h:dM P Q seen) (hi:seen[i]?=some b):∃p,P[i]?=some p∧b=decide (Q[p]?=some i):=by
 have hl:=bc hi;have oZ:=h.len;refine⟨P[i]' z0,δ _,?_⟩;have:=h.mem i _ (δ z0);rw[hi] at this;exact Qa0.inj this
theorem dM.add (h:dM P Q seen) (hi:seen[i]?=some false):dM (P.set i Q.length) (Q++[i]) (seen.set i true):=by
 have hl:=bc hi;have oZ:=h.len;refine⟨by simp[oZ],fun j p hj=>?_,?_,by rw[Qa8];exact h.small⟩
 ·by_cases hij:j=i
  ·subst hij;rw[Ξ z0] at hj⊢;cases hj;simp
  ·rw[Φ (fun e=>hij e.symm)] at hj⊢;rw[h.mem j p hj]
   congr 2
   rcases Nat.lt_trichotomy p Q.length with hp|hp|hp
   ·rw[Γ hp]
   ·subst hp;have hne:¬i=j:=fun e=>hij e.symm;simp[hne]
   ·rw[BY z0,BY (by simp;omega)]
 ·have h1:=Qa6 (fun b=>b==true) (l:=seen);have h2:=Qa6 (fun b=>b==true) (l:=seen.set i true);have h3:=count_set hi
  have e1:∀l:List Bool,l.countP (fun a=>decide (¬(a==true)=true))=l.count false:=by
   intro l;unfold List.count;congr 1;funext b;cases b<;>rfl
  have e2:∀l:List Bool,l.countP (fun a=>a==true)=l.count true:=fun l=>rfl;rw[e1,e2] at h1 h2;rw[η,h.cnt];simp only[Qa8,μ,Δ] at h2⊢;omega
theorem dM.clear (h:dM P Q seen):dM P [] (ς seen.length false):=by
 refine⟨by rw[ο];exact h.len,fun i p hi=>?_,?_,by rw[ο];exact h.small⟩
 ·have:=bc hi;have:=h.len;rw[Qai,if_pos z0];simp
 ·rw[Qam];simp
theorem dM.nb (h:dM P Q seen):Q.length≤4096:=by
 have:=h.cnt;have:=h.small;have:=List.count_le_length (a:=true) (l:=seen);omega
variable{N ks:Nat}{S s0:St}{H:List a8}{pd qd:D}
theorem FB (hi:seen[i]?=some b) (aT:dM P Q seen) (hH:Has N S s0 (.box ks (.mem 0 false [pd,qd])::.aC pd 1 (P.map iJ)::.aC qd 2 (Q.map qY)::H)):
  ∃r ah,Ev pv 169 [.ptr ks 0 0,.int .i64 (i:Nat)] s0 r ah∧r=.bool b∧ah=s0:=by
 obtain⟨p,hp,rfl⟩:=aT.get hi;have hl:=bc hp;have oZ:=aT.len;have hsm:=aT.small;have fU:=A0 hp
 have gV:(⟨(ae .rw s0).bs.take s0.bs.length,s0.flr,s0.ro⟩:St)=s0:=by
  show(⟨s0.bs.take s0.bs.length,s0.flr,s0.ro⟩:St)=s0;rw[Qas]
 refine Qa1 rfl Sj rfl rfl rfl ?_;refine zE ?_;have bD:=hH;have hH:=hH.bf;have bA:(ae .rw s0).bs=s0.bs:=rfl;generalize ae .rw s0=S2 at*;refine zQ 4 ?_;have cj:decide (((i:Nat):Int)<0)=false:=by rw[decide_eq_false];omega
 refine zQ 2 ?_;refine ag.da 16 (.bool false) [] ?_ (fun ff tmp cI=>?_)
 ·refine zQ 8 ?_;refine qn ?_ (hR:=hH.rows bt) (hg:=wi cj);simp only[θ];refine zQ 2 ?_;refine Ψ (aO ?_ ?_)
  ·dsimp only[aI,IS,nth,u2,u1]
   all_goals(first|rfl|simp)
  ·refine zF ?_
   all_goals(simp_all;done)
 dsimp only[aI,IS,nth,u2,u1];refine zQ 9 ?_;refine qi hH bt fun Qh IG=>?_;refine zQ 3 ?_
 by_cases hq:p<Q.length
 ·obtain⟨q,Q3⟩:∃q,Q[p]?=some q:=⟨Q[p]'hq,δ _⟩
  have mB:=Ln Q3;have GQ:decide (((p:Nat):Int)<((Q.length:Nat):Int))=true:=by rw[decide_eq_true_eq];omega
  refine zQ 7 ?_;refine qn ?_ (hR:=hH.rows cU);simp only[θ];refine zQ 7 ?_;refine qi hH cU (fun Uq On=>?_) (hg:=wi GQ);refine ab.iq (fo:=0) (m:=0) (o2:=0) (aj rfl rfl rfl GQ) z3 z5 rfl rfl rfl (fun _=>(aa rfl _)) (fun p38 Vo=>?_);refine zQ 6 ?_;refine ag.ret ⟨rx,_,_,_,rfl,ai (rfl),?_⟩;refine⟨?_,gV⟩
  have hd:(((q:Nat):Int)==((i:Nat):Int))=decide (Q[p]?=some i):=by
   rw[Q3]
   by_cases h:q=i
   ·simp[h]
   ·simp[h];omega
  exact congrArg Qah hd
 ·have GQ:decide (((p:Nat):Int)<((Q.length:Nat):Int))=false:=by rw[decide_eq_false];omega
  refine zQ 7 ?_;refine qn ?_ (hR:=hH.rows cU);simp only[θ];refine zQ 15 ?_;refine ag.ret ⟨rx,_,_,_,rfl,ai (rfl),?_⟩;refine⟨?_,gV⟩;rw[BY z0];rfl
theorem FC (hF:S.flr≤N) (hi:seen[i]?=some b) (hH:Kf N S s0 ks seen H):
  ∃r ah,Ev pv 159 [.ptr ks 0 0,.int .i64 (i:Nat),.bool true] s0 r ah∧r=.bool (!b)∧Kf N S ah ks (seen.set i true) H:=by
 obtain⟨pd,qd,P,Q,hH,aT⟩:=hH;have hl:=bc hi;have oZ:=aT.len;have hsm:=aT.small;have GN:=aT.nb;obtain⟨p0,Y7,_⟩:=aT.get hi;have fU:=A0 Y7;refine Qa1 rfl Sp rfl rfl rfl ?_;refine zE ?_;change ag _ _ _ _ s0 _;refine zQ 4 ?_;have cj:decide (((i:Nat):Int)<0)=false:=by rw[decide_eq_false];omega
 have cG:decide (((i:Nat):Int)≥((P.length:Nat):Int))=false:=by rw[decide_eq_false];omega
 obtain⟨_,st,aA,rfl,rfl⟩:=FB hi aT hH;refine zQ 2 ?_;refine ag.da 22 (.bool b) [] ?_ (fun ff tmp cI=>?_)
 ·refine zQ 8 ?_;refine qn ?_ (hR:=hH.rows bt) (hg:=wi cj);simp only[θ];refine zQ 5 ?_;refine qv aA ?_ (hg:=wi cG);refine zQ 1 ?_;refine Ψ (aO ?_ ?_)
  ·dsimp only[aI,IS,nth,u2,u1]
   all_goals(first|rfl|simp)
  ·dsimp only[Fr.fN,GB,Fr.clean,Qad,Qa4,nth,look,u1,u2,v1,v2,v4]
   all_goals(rfl)
 dsimp only[aI,IS,nth,u2,u1]
 cases b with
 |true=>
  refine zQ 5 ?_;refine ag.ret ⟨rx,_,_,_,rfl,rfl,?_⟩;refine⟨rfl,pd,qd,P,Q,hH,?_⟩
  have:seen.set i true=seen:=by
   refine Qa5 fun j=>?_
   by_cases hj:j=i
   ·subst hj;rw[Ξ hl,hi]
   ·rw[Φ (fun e=>hj e.symm)]
  rw[this];exact aT
 |false=>
  refine zQ 13 ?_;refine qn ?_ (hR:=hH.rows cU);simp only[θ];refine qi hH bt fun p33 Vp=>?_;refine ab.il hH rfl z3 z3 z5 rfl rfl (by exact bt) z5 (ε rfl) (by exact .inl hF) (fun st hH=>?_);have hH:=zjrb hH;refine zQ 11 ?_;refine qh (s:=2) (vs:=[_]) hH fun k42 st aa3 hH=>?_;have hH:=zjrb hH;refine ab.ck (s:=2) hH rfl z3 z3 (by exact di) (by exact hH.rows (by exact aJ)) rfl rfl rfl rfl rfl rfl rfl ⟨(ε rfl),(ε rfl)⟩ (fun _=>(aa rfl _)) (by simp only[μ,Δ,θ]<;>omega) (by exact .inl hF) (fun ZO st hH=>?_);have hH:=zjrb hH;refine zQ 2 ?_;refine qT hH bt (fun st hH=>?_) (kh:=hH.eO di);have hH:=zjrb hH;refine zQ 5 ?_;refine ag.ret ⟨rx,_,_,_,rfl,rfl,?_⟩;refine⟨rfl,pd,ZO,P.set i Q.length,Q++[i],?_,aT.add hi⟩;rw[List.map_set,Qa9];exact hH.drop 1
theorem Am (hF:S.flr≤N) (hH:Kf N S s0 ks seen H):
  ∃r ah,Ev pv 157 [.ptr ks 0 0] s0 r ah∧r=.tup []∧Kf N S ah ks (ς seen.length false) H:=by
 obtain⟨pd,qd,P,Q,hH,aT⟩:=hH;have GN:=aT.nb;refine Qa1 rfl Sr rfl rfl rfl ?_;refine zE ?_;change ag _ _ _ _ s0 _;refine zQ 6 ?_;refine ab.NK hH rfl z3 cU rfl rfl rfl rfl (fun st hH=>?_);dsimp only[u1,u2] at hH;refine zQ 7 ?_;refine ab.yD hH rfl z3 (by exact cU) rfl rfl (lN (by simp only[θ,ο];omega)) ⟨z0,(by simp only[θ,ο];omega)⟩ (fun _=>(aa rfl _)) (fun ZG hH=>?_);refine zQ 2 ?_;refine qT hH aJ (fun st hH=>?_) (kh:=hH.eO cU);have hH:=zjrb hH;refine zQ 1 ?_;refine⟨fun i h=>(by cases h),_,_,_,rfl,rfl,?_⟩;exact⟨rfl,pd,_,P,[],hH,aT.clear⟩
variable{n:Nat}
theorem FA (hF:S.flr≤N) (hn:n≤4096) (hH:Has N S s0 H):
  ∃r ah,Ev pv 122 [.int .i64 (n:Nat)] s0 r ah∧∃ks,r=.tup [.ptr ks 0 0,.int .i64 0]∧Kf N S ah ks (ς n false) H:=by
 refine Qa1 rfl SU rfl rfl rfl ?_;refine zE ?_;change ag _ _ _ _ s0 _;refine zQ 5 ?_;have cj:decide (((n:Nat):Int)<0)=false:=by rw[decide_eq_false];omega
 refine zQ 2 ?_;refine ag.da 9 (.bool false) [] ?_ (fun ff tmp cI=>?_)
 ·refine zQ 6 ?_;refine Ψ (aO ?_ ?_)
  ·dsimp only[aI,IS,nth,u2,u1]
   all_goals(first|rfl|simp)
  ·refine zF ?_
   all_goals(simp[cj];omega)
 dsimp only[aI,IS,nth,u2,u1];refine zQ 5 ?_;refine ab.xD (s:=1) hH rfl rfl rfl rfl rfl rfl rfl rfl (ε rfl) z0 (fun _=>(aa rfl _)) (fun k11 st LU hH=>?_);refine ab.hU (qs:=[(0,_)]) rfl rfl rfl rfl ⟨rfl,z3,(by rfl),trivial⟩ (by intro q hq;simp only[Qav,Qar,or_false] at hq;rcases hq with rfl<;>exact⟨rfl,by exact ε rfl⟩) (by show IS _ [_,_] _=_;dsimp only[List.foldl_cons,List.foldl_nil,u2,u1]<;>rfl) (aa rfl _) ?_;refine qb hH fun k13 st OM hH=>?_;refine zQ 3 ?_;refine ag.ret ⟨rx,_,_,_,rfl,rfl,?_⟩;refine⟨k13,rfl,.win k11 0 0 n 1,.nul,ς n 0,[],?_,?_⟩
 ·rw[List.map_replicate];exact Has.ki [_] [_,_] (hH.fG 2)
 ·refine⟨by simp,fun i p hi=>?_,by rw[Qam];simp,by simpa using hn⟩;have:=bc hi;rw[ο] at this;rw[Qai,if_pos this];simp
abbrev kq:=Nat→Int
def aE (f:kq):List D:=[.int .i64 (f 0),.int .i64 (f 1),.int .i64 (f 2),.int .i64 (f 3),.int .i64 (f 4),.int .i64 (f 5),.int .i64 (f 6),.int .i64 (f 7),.int .i64 (f 8),.int .i64 (f 9)]
def bN:kq:=fun _=>-1
def bQ:kq:=fun _=>0
def wB (f:kq) (x:Nat) (v:Int):kq:=fun j=>if j=x then v else f j
theorem pg {ns pc:Nat} {i:aL} (h:cE n ns pc i=true):
  i.op=7∨(i.op=2∧(0≤i.x∧i.x<(n:Int))∧0≤i.y∧i.y<(n:Int))∨(i.op=3∧0≤i.x∧i.x<(n:Int))∨(i.op=4∧pc+1<n∧0≤i.x∧i.x<10)∨(i.op=5∧pc+1<n)∨(i.op=6∧pc+1<n)∨(i.op=1∧pc+1<n):=by
 unfold cE at h
 split at h
 ·rename_i h1;simp only[Θ,decide_eq_true_eq] at h;refine .inr (.inr (.inr (.inr (.inr (.inr ⟨h1,?_⟩)))));omega
 ·simp only[Θ] at h;obtain⟨_,h⟩:=h
  split at h
  ·rename_i h2;simp only[Θ] at h;exact .inr (.inl ⟨h2,ek.1 h.1,ek.1 h.2⟩)
  ·simp only[Θ] at h;obtain⟨_,h⟩:=h
   split at h
   ·rename_i h3;exact .inr (.inr (.inl ⟨h3,ek.1 h⟩))
   ·split at h
    ·rename_i h4;simp only[Θ,decide_eq_true_eq] at h;exact .inr (.inr (.inr (.inl ⟨h4,by omega,ek.1 h.2⟩)))
    ·split at h
     ·rename_i h5;simp only[Θ,decide_eq_true_eq] at h
      rcases h5 with h5|h5
      ·exact .inr (.inr (.inr (.inr (.inl ⟨h5,by omega⟩))))
      ·exact .inr (.inr (.inr (.inr (.inr (.inl ⟨h5,by omega⟩)))))
     ·split at h
      ·rename_i h7;exact .inl h7
      ·cases h
def cT (fr:Go.V.Fr) (k:Nat):Go.V.D:=Go.V.nth .bo fr.loc k
structure gH where
 pc:Nat
 c:kq
def bM (t:gH):List D:=[.int .i64 (t.pc:Nat),.int .i64 (t.c 0),.int .i64 (t.c 1),.int .i64 (t.c 2),.int .i64 (t.c 3),.int .i64 (t.c 4),.int .i64 (t.c 5),.int .i64 (t.c 6),.int .i64 (t.c 7),.int .i64 (t.c 8),.int .i64 (t.c 9)]
def aV (dn:Bool) (f:kq) (d:D):List D:=[.bool dn,.int .i64 (f 0),.int .i64 (f 1),.int .i64 (f 2),.int .i64 (f 3),.int .i64 (f 4),.int .i64 (f 5),.int .i64 (f 6),.int .i64 (f 7),.int .i64 (f 8),.int .i64 (f 9),d]
theorem KQ {a:D} {f:kq} {x:Nat} {v:Int} (hx:x<10):setMany (a::aE f) (1+x) [.int .i64 v]=a::aE (wB f x v):=by
 match x,hx with
 |0,_=>rfl
 |1,_=>rfl
 |2,_=>rfl
 |3,_=>rfl
 |4,_=>rfl
 |5,_=>rfl
 |6,_=>rfl
 |7,_=>rfl
 |8,_=>rfl
 |9,_=>rfl
structure Wk where
 seen:List Bool
 dn:Bool
 aY:kq
 rdy:List gH
def dh (code:List aL) (pl:Nat) (e:Bool):Nat→Wk→gH→Wk×Bool
 |0,w,_=>(w,false)
 |f+1,w,t=>
  if w.seen.getD t.pc true=true then(w,false) else
  match code[t.pc]? with
  |none=>(w,false)
  |some i=>
   if i.op=7 then(⟨w.seen.set t.pc true,true,t.c,w.rdy⟩,true)
   else if i.op=2 then
    if(dh code pl e f ⟨w.seen.set t.pc true,w.dn,w.aY,w.rdy⟩ ⟨i.x.toNat,t.c⟩).2=true then dh code pl e f ⟨w.seen.set t.pc true,w.dn,w.aY,w.rdy⟩ ⟨i.x.toNat,t.c⟩
    else dh code pl e f (dh code pl e f ⟨w.seen.set t.pc true,w.dn,w.aY,w.rdy⟩ ⟨i.x.toNat,t.c⟩).1 ⟨i.y.toNat,t.c⟩
   else if i.op=1 then(⟨w.seen.set t.pc true,w.dn,w.aY,w.rdy++[t]⟩,false)
   else if i.op=3 then dh code pl e f ⟨w.seen.set t.pc true,w.dn,w.aY,w.rdy⟩ ⟨i.x.toNat,t.c⟩
   else if i.op=4 then dh code pl e f ⟨w.seen.set t.pc true,w.dn,w.aY,w.rdy⟩ ⟨t.pc+1,wB t.c i.x.toNat (pl:Nat)⟩
   else if i.op=5 then if pl=0 then dh code pl e f ⟨w.seen.set t.pc true,w.dn,w.aY,w.rdy⟩ ⟨t.pc+1,t.c⟩ else(⟨w.seen.set t.pc true,w.dn,w.aY,w.rdy⟩,false)
   else if e=true then dh code pl e f ⟨w.seen.set t.pc true,w.dn,w.aY,w.rdy⟩ ⟨t.pc+1,t.c⟩ else(⟨w.seen.set t.pc true,w.dn,w.aY,w.rdy⟩,false)
def Good (code:List aL) (w w':Wk):Prop:=
 w'.seen.length=w.seen.length∧w'.seen.count false≤w.seen.count false∧w'.rdy.length+w'.seen.count false≤w.rdy.length+w.seen.count false∧∀t∈w'.rdy,t∈w.rdy∨∃i,code[t.pc]?=some i∧i.op=1
variable{code:List aL}{w:Wk}
theorem Good.refl:Good code w w:=⟨rfl,κ _,κ _,fun t h=>.inl h⟩
theorem Good.trans {a b c:Wk} (h:Good code a b) (k:Good code b c):Good code a c:=
 ⟨k.1.trans h.1,Qay k.2.1 h.2.1,Qay k.2.2.1 h.2.2.1,fun t ht=>by
  rcases k.2.2.2 t ht with q|q
  ·exact h.2.2.2 t q
  ·exact .inr q⟩
variable{j:Nat}
theorem Good.step {w':Wk} (hj:w.seen[j]?=some false) (k:Good code ⟨w.seen.set j true,w.dn,w.aY,w.rdy⟩ w'):Good code w w':=by
 have hc:=count_set hj;refine Good.trans (b:=⟨w.seen.set j true,w.dn,w.aY,w.rdy⟩) ⟨?_,?_,?_,fun t h=>.inl h⟩ k
 ·simp
 ·show(w.seen.set j true).count false≤_;omega
 ·show w.rdy.length+(w.seen.set j true).count false≤_;omega
theorem Cp {l:List Bool} (h:¬l.getD j true=true):l[j]?=some false:=by
 rw[Qab] at h
 cases hq:l[j]? with
 |none=>rw[hq] at h;exact absurd rfl h
 |some b=>rw[hq] at h;cases b with
  |false=>rfl
  |true=>exact absurd rfl h
theorem FD {l:List Bool} (h:l[j]?=some b):l.getD j true=b:=by
 rw[Qab,h];rfl
theorem dC (code:List aL) (pl:Nat) (e:Bool):∀(f:Nat) (w:Wk) (t:gH),Good code w (dh code pl e f w t).1
 |0,w,t=>.refl
 |f+1,w,t=>by
  unfold dh
  split
  ·exact .refl
  ·rename_i hs;have hs:=Cp hs;have hc:=count_set hs
   split
   ·exact .refl
   ·rename_i i hi
    split
    ·exact Good.step hs ⟨rfl,κ _,κ _,fun t h=>.inl h⟩
    ·split
     ·split
      ·exact Good.step hs (dC code pl e f _ _)
      ·exact Good.step hs ((dC code pl e f _ _).trans (dC code pl e f _ _))
     ·split
      ·rename_i h1;refine⟨by simp,by show(w.seen.set t.pc true).count false≤_;omega,by show(w.rdy++[t]).length+(w.seen.set t.pc true).count false≤_;rw[η];simp only[μ,Δ];omega,fun t' h=>?_⟩
       rcases List.mem_append.1 h with h|h
       ·exact .inl h
       ·simp only[Qav,Qar,or_false] at h;subst h;exact .inr ⟨i,hi,h1⟩
      ·split
       ·exact Good.step hs (dC code pl e f _ _)
       ·split
        ·exact Good.step hs (dC code pl e f _ _)
        ·split
         ·split
          ·exact Good.step hs (dC code pl e f _ _)
          ·exact Good.step hs .refl
         ·split
          ·exact Good.step hs (dC code pl e f _ _)
          ·exact Good.step hs .refl
theorem rk (A:List a8) (hF:S.flr≤N) (hi:seen[i]?=some b) (aT:dM P Q seen) (hH:Has N S s0 (A++(.box ks (.mem 0 false [pd,qd])::.aC pd 1 (P.map iJ)::.aC qd 2 (Q.map qY)::H))):
  ∃r ah,Ev pv 159 [.ptr ks 0 0,.int .i64 (i:Nat),.bool true] s0 r ah∧r=.bool (!b)∧∃pd qd P Q,Has N S ah (A++(.box ks (.mem 0 false [pd,qd])::.aC pd 1 (P.map iJ)::.aC qd 2 (Q.map qY)::H))∧dM P Q (seen.set i true):=by
 obtain⟨r,ah,h1,h2,Kt,Kq,P',Q',h3,h4⟩:=FC (H:=A++H) hF hi ⟨pd,qd,P,Q,Has.ki A [_,_,_] hH,aT⟩;exact⟨r,ah,h1,h2,Kt,Kq,P',Q',Has.ki [_,_,_] A h3,h4⟩
theorem sJ (A:List a8) (hF:S.flr≤N) (aT:dM P Q seen) (hH:Has N S s0 (A++(.box ks (.mem 0 false [pd,qd])::.aC pd 1 (P.map iJ)::.aC qd 2 (Q.map qY)::H))):
  ∃r ah,Ev pv 157 [.ptr ks 0 0] s0 r ah∧r=.tup []∧∃pd qd P Q,Has N S ah (A++(.box ks (.mem 0 false [pd,qd])::.aC pd 1 (P.map iJ)::.aC qd 2 (Q.map qY)::H))∧dM P Q (ς seen.length false):=by
 obtain⟨r,ah,h1,h2,Kt,Kq,P',Q',h3,h4⟩:=Am (H:=A++H) hF ⟨pd,qd,P,Q,Has.ki A [_,_,_] hH,aT⟩;exact⟨r,ah,h1,h2,Kt,Kq,P',Q',Has.ki [_,_,_] A h3,h4⟩
def ZF (N:Nat) (S st:St) (ks kv kw kl:Nat) (p:Pg) (pl:Nat) (ld:D) (e:Bool) (w:Wk) (H:List a8):Prop:=
 ∃rd pd qd P Q,Has N S st (.box kv (.mem 0 false [p.cd,p.sd,.int .i64 (pl:Nat),ld,.ptr ks 0 0])::.box kw (.mem 0 false [.ptr kl 0 0,rd,.bool e])::.box kl (.mem 0 false (aV w.dn w.aY .nul))::.aC rd 11 (w.rdy.map bM)::.box ks (.mem 0 false [pd,qd])::.aC pd 1 (P.map iJ)::.aC qd 2 (Q.map qY)::H)∧dM P Q w.seen
theorem MJ {N ks kv kw kl:Nat} {S:St} {H:List a8} {p:Pg} {pl:Nat} {ld:D} {e:Bool} (hF:S.flr≤N) (hp:p.ok) (hR:a7 p) (ia:pl≤4000000000000):∀(f:Nat) (w:Wk) (t:gH) (s0:St) (H:List a8),t.pc<p.code.length→w.seen.length=p.code.length→w.seen.count false<f→w.rdy.length+w.seen.count false≤1048576→ZF N S s0 ks kv kw kl p pl ld e w H→
  ∃r ah,Ev pv 168 [.ptr kv 0 0,.ptr kw 0 0,.agg (bM t)] s0 r ah∧r=.bool (dh p.code pl e f w t).2∧ZF N S ah ks kv kw kl p pl ld e (dh p.code pl e f w t).1 H
 |0,_,_,_,_,_,_,h,_,_=>absurd h (Nat.not_lt_zero _)
 |f+1,w,t,s0,H,B',jS,fm,wv,hT=>by
  have ih:=MJ (ks:=ks) (kv:=kv) (kw:=kw) (kl:=kl) (S:=S) (H:=H) (ld:=ld) (e:=e) hF hp hR ia f;obtain⟨rd,pd,qd,P,Q,hH,aT⟩:=hT;have hc:=hp.c.arg N S;have hlen:=hp.cl
  obtain⟨i,hi⟩:∃i,p.code[t.pc]?=some i:=⟨p.code[t.pc]'B',δ _⟩
  obtain⟨b,hb⟩:∃b,w.seen[t.pc]?=some b:=⟨w.seen[t.pc]' z0,δ _⟩
  have hr:=fy hi;have C7:=(hp.i i (IN hi)).1;have Di:=pg (hR.sh t.pc i hi);have PU:=FD hb;have mE:dh p.code pl e (f+1) w t=dh p.code pl e (f+1) w t:=rfl
  conv at mE=>rhs;unfold dh
  rw[PU] at mE;simp only[hi] at mE;generalize dh p.code pl e (f+1) w t=R at*;obtain⟨op,x,y,ZZ,rs⟩:=i;obtain⟨pc,c⟩:=t;simp only at*;refine Qa1 rfl Sk rfl rfl rfl ?_;refine zE ?_;change ag _ _ _ _ s0 _;refine qq<|qj fun K hK=>qb hH fun k5 st LS hH=>?_;have hH:=zjra hH;refine qm ?_;refine qe hK<|qq<|qq<|qj fun K hK=>qm ?_;refine qg ?_;refine qp (o:=4) ?_;refine ql hH bt ?_;refine qp (o:=0) ?_;refine ql hH aJ ?_;obtain⟨_,st,aA,rfl,pd,qd,P,Q,hH,aT⟩:=rk [_,_,_,_,_] hF hb aT hH;dsimp only[u3,u4] at hH;refine qv aA ?_;refine qg ?_;refine qe hK ?_
  cases b with
  |true=>
   rw[if_pos rfl] at mE;subst mE;refine qB ?_;refine qq<|qj fun K hK=>qm ?_;refine qe hK<|ag.ret ⟨rx,_,_,_,rfl,rfl,?_⟩;refine⟨rfl,rd,pd,qd,P,Q,hH.drop 1,?_⟩
   have:w.seen.set pc true=w.seen:=by
    refine Qa5 fun j=>?_
    by_cases hj:j=pc
    ·subst hj;rw[Ξ z0,hb]
    ·rw[Φ (fun e=>hj e.symm)]
   rw[←this];exact aT
  |false=>
   rw[if_neg (by decide)] at mE;have Gf:=count_set hb;have Iw:(w.seen.set pc true).length=p.code.length:=by rw[Qa8];exact jS
   have RT:(w.seen.set pc true).count false<f:=by omega
   have QX:w.rdy.length+(w.seen.set pc true).count false≤1048576:=by omega
   generalize w.seen.set pc true=sn at*;clear hb PU Gf jS fm wv;refine qC ?_;refine ag.skip<|qq<|qj fun K hK=>qm ?_;refine qg ?_;refine qp (o:=0) ?_;refine qp (o:=0) ?_;refine ql hH bt ?_;refine qp (o:=0) ?_;refine ql hH aJ ?_;refine qr fun NA C9=>?_;refine Qb3 rfl z3 z5 rfl (by dsimp only[GB,u1,u2]<;>rfl) ?_;refine qa hH fun k7 st Rz hH=>?_;refine qS hH aJ fun st hH=>?_;have hH:=zjra hH;refine qe hK<|qq<|qj fun K hK=>?_;refine Qaf (m:=11) hH rfl z3 (by exact bt) (by dsimp only[ν,ρ,ξ,τ,aK,bM,aV,aE]<;>rfl) rfl rfl (by dsimp only[GB,u1,u2]<;>rfl) ?_;refine qa hH fun k8 st LQ hH=>?_;refine qS hH aJ fun st hH=>?_;have hH:=zjra hH;refine qe hK<|qq<|qj fun K hK=>qp (o:=0) ?_;refine ql hH aJ ?_;refine qA ?_;refine qp (o:=0) ?_;refine qT hH aJ fun st hH=>?_;have hH:=zjra hH;refine qe hK<|qq<|qq<|qj fun K hK=>qp (o:=0) ?_;refine ql hH bt ?_;refine qe hK<|ag.merge (fun fr st=>∃(t':gH) (tmp:List (Nat×D)),fr=⟨33,[.ptr kv 0 0,.ptr kw 0 0,cT fr 2,cT fr 3,cT fr 4,.ptr k5 0 0,.bool false,.ptr k7 0 0,.ptr k8 0 0,cT fr 9,cT fr 10,cT fr 11,cT fr 12,cT fr 13,cT fr 14,cT fr 15,cT fr 16,cT fr 17,cT fr 18,cT fr 19,cT fr 20,cT fr 21,cT fr 22,cT fr 23,cT fr 24,cT fr 25,cT fr 26,cT fr 27,cT fr 28,cT fr 29,cT fr 30,cT fr 31,cT fr 32],tmp⟩∧Has N S st (.box k8 (.mem 0 false (bM t'))::.box k7 (.mem 0 false [.int .i64 op,.int .i64 x,.int .i64 y,ZZ])::.box k5 (.mem 0 false (bM ⟨pc,c⟩))::.box kv (.mem 0 false [p.cd,p.sd,.int .i64 (pl:Nat),ld,.ptr ks 0 0])::.box kw (.mem 0 false [.ptr kl 0 0,rd,.bool e])::.box kl (.mem 0 false (aV w.dn w.aY .nul))::.aC rd 11 (w.rdy.map bM)::.box ks (.mem 0 false [pd,qd])::.aC pd 1 (P.map iJ)::.aC qd 2 (Q.map qY)::H)∧(R=dh p.code pl e f ⟨sn,w.dn,w.aY,w.rdy⟩ t')∧(t'.pc<p.code.length)) ?_ ?_
   ·refine ag.block<|qq<|qj fun K hK=>qg ?_;refine qm ?_;refine qe hK<|zI (fun h7=>?_) fun h7=>?_
    ·rw[if_pos h7] at mE;subst mE;have zg:=hH;change ag _ _ _ _ _ _;refine qq ?_;generalize hK:bS _ _ _ _=K;refine ag.yx rfl ?_;refine dg.cons ?_;refine qm ?_;refine Ψ ⟨rfl,?_⟩;refine dg.cons ?_;refine qg ?_;refine Ψ ⟨rfl,?_⟩;refine dg.cons ?_;refine qp (o:=0) ?_;refine Ψ ⟨rfl,?_⟩;refine dg.cons ?_;refine ql hH ie ?_;refine Ψ ⟨rfl,?_⟩;refine dg.cons ?_;refine qm ?_;refine Ψ ⟨rfl,?_⟩;refine dg.cons ?_;refine qg ?_;refine Ψ ⟨rfl,?_⟩;refine dg.cons ?_;refine qp (o:=0) ?_;refine Ψ ⟨rfl,?_⟩;refine dg.cons ?_;refine ql hH ie ?_;refine Ψ ⟨rfl,?_⟩;refine dg.cons ?_;refine qp (o:=1) ?_;refine Ψ ⟨rfl,?_⟩;refine dg.cons ?_;refine Qaf (m:=10) hH rfl z3 (by exact cU) (by dsimp only[ν,ρ,ξ,τ,aK,bM,aV,aE]<;>rfl) rfl rfl (aa rfl _) ?_;refine Ψ ⟨rfl,?_⟩;refine dg.cons ?_;refine qg ?_;refine Ψ ⟨rfl,?_⟩;refine dg.cons ?_;refine qp (o:=0) ?_;refine Ψ ⟨rfl,?_⟩;refine dg.cons ?_;refine qT hH ke fun st hH=>?_;have hH:=zjra hH;refine Ψ ⟨by exact Bool.and_eq_true_iff.2 ⟨xZ rfl rfl rfl (zg.at cU) (hH.at cU) (zg.at cU) rfl,rfl⟩,?_⟩;refine dg.cons ?_;refine qg ?_;refine Ψ ⟨rfl,?_⟩;refine dg.cons ?_;refine qp (o:=1) ?_;refine Ψ ⟨rfl,?_⟩;refine dg.cons ?_;refine qT hH ke fun st hH=>?_;have hH:=zjra hH;refine Ψ ⟨rfl,?_⟩;refine dg.nil ?_;subst hK;refine qq<|qj fun K hK=>qm ?_;refine qe hK<|ag.ret ⟨rx,_,_,_,rfl,rfl,?_⟩;exact⟨rfl,rd,pd,qd,P,Q,hH.drop 3,aT⟩
    ·rw[if_neg h7] at mE;refine qq<|qj fun K hK=>qg ?_;refine qm ?_;refine qe hK<|zI (fun h2=>?_) fun h2=>?_
     ·rw[if_pos h2] at mE;obtain⟨_,⟨hx0,hx1⟩,hy0,hy1⟩:=(Di.resolve_left h7).resolve_right z0;obtain⟨xn,rfl⟩:=v8 hx0;obtain⟨yn,rfl⟩:=v8 hy0;have V3:=dC p.code pl e f ⟨sn,w.dn,w.aY,w.rdy⟩ ⟨xn,c⟩;have M_:=Has.ki [_,_,_] [_,_,_,_,_,_,_] hH;obtain⟨_,st1,aA,rfl,hT⟩:=ih ⟨sn,w.dn,w.aY,w.rdy⟩ ⟨xn,c⟩ _ _ (by show xn<_;omega) Iw RT QX ⟨rd,pd,qd,P,Q,M_,aT⟩;clear M_;have mE:R=if(dh p.code pl e f ⟨sn,w.dn,w.aY,w.rdy⟩ ⟨xn,c⟩).2=true then dh p.code pl e f ⟨sn,w.dn,w.aY,w.rdy⟩ ⟨xn,c⟩ else dh p.code pl e f (dh p.code pl e f ⟨sn,w.dn,w.aY,w.rdy⟩ ⟨xn,c⟩).1 ⟨yn,c⟩:=mE;generalize dh p.code pl e f ⟨sn,w.dn,w.aY,w.rdy⟩ ⟨xn,c⟩=R1 at*;obtain⟨w1,b1⟩:=R1;obtain⟨lS,cj,bB,lR⟩:=V3;simp only at lS cj bB lR aA hT mE;obtain⟨Yq,Yt,Yr,P1,Q1,M_,pL⟩:=hT;have M_:=Has.ki [_,_,_,_,_,_,_] [_,_,_] M_;dsimp only[u3,u4] at M_
      cases b1 with
      |true=>
       rw[if_pos rfl] at mE;subst mE;have gv:true=true:=rfl;refine qq<|qj fun K hK=>qm ?_;refine qm ?_;refine qp (o:=1) ?_;refine ql hH bt ?_;refine qp (o:=1) ?_;refine Qaf (m:=10) hH rfl z3 (by exact cU) (by dsimp only[ν,ρ,ξ,τ,aK,bM,aV,aE]<;>rfl) rfl rfl (aa rfl _) ?_;refine χ (d:=.agg (bM ⟨xn,c⟩)) (st1:=_) rfl rfl rfl (aa rfl _) ?_;refine qv aA ?_;refine qm ?_;refine qs ?_ (hg:=wn gv);refine qs ?_ (hg:=wn gv);refine qs ?_ (hg:=wn gv);refine qs ?_ (hg:=wn gv);refine qs ?_ (hg:=wn gv);refine qs ?_ (hg:=wn gv);refine qs ?_ (hg:=wn gv);refine qs ?_ (hg:=wn gv);refine qt gv ?_;refine qm ?_;refine qe hK<|ag.ret ⟨rx,_,_,_,rfl,rfl,?_⟩;exact⟨rfl,Yq,Yt,Yr,P1,Q1,M_.drop 3,pL⟩
      |false=>
       rw[if_neg (by decide)] at mE;have gv:false=false:=rfl;refine qq<|qj fun K hK=>qm ?_;refine qm ?_;refine qp (o:=1) ?_;refine ql hH bt ?_;refine qp (o:=1) ?_;refine Qaf (m:=10) hH rfl z3 (by exact cU) (by dsimp only[ν,ρ,ξ,τ,aK,bM,aV,aE]<;>rfl) rfl rfl (aa rfl _) ?_;refine χ (d:=.agg (bM ⟨xn,c⟩)) (st1:=_) rfl rfl rfl (aa rfl _) ?_;have hH:=M_;refine qv aA ?_;refine qm ?_;refine qm ?_ (hg:=wi gv);refine qm ?_ (hg:=wi gv);refine qp (o:=2) ?_ (hg:=wi gv);refine ql hH bt ?_ (hg:=wi gv);refine qp (o:=1) ?_ (hg:=wi gv);refine Qaf (m:=10) hH (aj rfl rfl rfl gv) z3 (by exact cU) (by dsimp only[ν,ρ,ξ,τ,aK,bM,aV,aE]<;>rfl) rfl rfl (aa rfl _) ?_;refine χ (d:=.agg (bM ⟨yn,c⟩)) (st1:=_) (aj rfl rfl rfl gv) rfl rfl (aa rfl _) ?_;obtain⟨_,st,aA,rfl,hT⟩:=ih w1 ⟨yn,c⟩ _ _ (by show yn<_;omega) z0 z0 z0 ⟨Yq,Yt,Yr,P1,Q1,hH.drop 3,pL⟩;refine qv aA ?_ (hg:=wi gv);refine qu gv ?_;refine qm ?_;refine qe hK<|ag.ret ⟨rx,_,_,_,rfl,rfl,?_⟩;rw[mE];exact⟨rfl,hT⟩
     ·rw[if_neg h2] at mE;refine qq<|qj fun K hK=>qg ?_;refine qm ?_;refine qe hK<|zI (fun h1=>?_) fun h1=>?_
      ·rw[if_pos h1] at mE;subst mE;refine qq<|qj fun K hK=>qm ?_;refine qm ?_;refine qg ?_;refine qp (o:=1) ?_;refine ql hH ie ?_;refine Qaf (m:=11) hH rfl z3 (by exact cU) (by dsimp only[ν,ρ,ξ,τ,aK,bM,aV,aE]<;>rfl) rfl rfl (aa rfl _) ?_;refine qh (s:=11) (vs:=[_]) hH fun k77 st Ry hH=>?_;refine ab.ck (s:=11) hH rfl z3 z3 (by exact oX) (by exact hH.rows (by exact aJ)) rfl rfl rfl rfl rfl rfl rfl ⟨(ε rfl),(ε rfl)⟩ (fun _=>(aa rfl _)) (by simp only[μ,Δ,θ]<;>omega) (by exact .inl hF) (fun ZK st hH=>?_);have hH:=zjra hH;refine qg ?_;refine qp (o:=1) ?_;refine qT hH ke (fun st hH=>?_) (kh:=hH.eO oX);have hH:=zjra hH;refine qe hK<|qq<|qj fun K hK=>qm ?_;refine qe hK<|ag.ret ⟨rx,_,_,_,rfl,rfl,?_⟩;refine⟨rfl,ZK,pd,qd,P,Q,?_,aT⟩;rw[Qa9];exact hH.drop 4
      ·rw[if_neg h1] at mE;refine qq<|qj fun K hK=>qg ?_;refine qm ?_;refine qe hK<|zI (fun h3=>?_) fun h3=>?_
       ·rw[if_pos h3] at mE;obtain⟨_,hx0,hx1⟩:=((Di.resolve_left h7).resolve_left z0).resolve_right z0;obtain⟨xn,rfl⟩:=v8 hx0;refine qj fun K hK=>qp (o:=1) ?_;refine ql hH bt ?_;refine qp (o:=0) ?_;refine qT hH aJ fun st hH=>?_;have hH:=zjra hH;refine qe hK ?_;exact⟨⟨xn,c⟩,_,rfl,hH,mE,by show xn<_;omega⟩
       ·rw[if_neg h3] at mE;refine qq<|qj fun K hK=>qg ?_;refine qm ?_;refine qe hK<|zI (fun h4=>?_) fun h4=>?_
        ·rw[if_pos h4] at mE;obtain⟨_,IC,hx0,hx1⟩:=(((Di.resolve_left h7).resolve_left z0).resolve_left z0).resolve_right z0;obtain⟨xn,rfl⟩:=v8 hx0;refine qj fun K hK=>qp (o:=1) ?_;refine ql hH bt ?_;refine qm ?_;refine qg ?_;refine qp (o:=2) ?_;refine ql hH di ?_;refine qp (o:=1) ?_;refine ab.Jh (m:=10) (s:=1) (i:=xn) (o:=1+xn) rfl z3 z3 rfl rfl z0 z0 (aa rfl _) ?_;refine ab.fk hH rfl z3 z3 rfl (by exact rfl) aJ (by show 1+xn+1≤11;omega) (.inl hF) (fun st hH=>?_);change Has _ _ _ (.box k8 (.mem 0 false (setMany (_::aE c) (1+xn) [.int .i64 (pl:Nat)]))::_) at hH;rw[KQ z0] at hH;refine qe hK ?_;exact⟨⟨pc+1,wB c xn (pl:Nat)⟩,_,rfl,hH,mE,IC⟩
        ·rw[if_neg h4] at mE;refine qq<|qj fun K hK=>qg ?_;refine qm ?_;refine qe hK<|zI (fun h5=>?_) fun h5=>?_
         ·rw[if_pos h5] at mE;have IC:pc+1<p.code.length:=by omega
          refine qq<|qj fun K hK=>qm ?_;refine qg ?_;refine qp (o:=2) ?_;refine ql hH di ?_;refine qg ?_;refine qe hK ?_
          by_cases ha:pl=0
          ·rw[if_pos ha] at mE;subst ha;refine ag.cond (v:=false) (by dsimp only[Qad,Qa4,nth,Qaa];rfl) (fun h=>by cases h) (fun _=>?_);refine ag.skip ?_;exact⟨⟨pc+1,c⟩,_,rfl,hH,mE,IC⟩
          ·rw[if_neg ha] at mE;subst mE;refine qD rfl (by simp;omega) ?_;refine qq<|qj fun K hK=>qm ?_;refine qe hK<|ag.ret ⟨rx,_,_,_,rfl,rfl,?_⟩;exact⟨rfl,rd,pd,qd,P,Q,hH.drop 3,aT⟩
         ·rw[if_neg h5] at mE;have h6:op=6:=by omega
          have IC:pc+1<p.code.length:=by omega
          refine qq<|qj fun K hK=>qg ?_;refine qm ?_;refine qe hK<|qD rfl (by simp[h6]) ?_;refine qq<|qj fun K hK=>qm ?_;refine qg ?_;refine qp (o:=2) ?_;refine ql hH ie ?_;refine qg ?_;refine qe hK ?_
          cases e with
          |true=>
           rw[if_pos rfl] at mE;refine qC ?_;refine ag.skip ?_;exact⟨⟨pc+1,c⟩,_,rfl,hH,mE,IC⟩
          |false=>
           rw[if_neg (by decide)] at mE;subst mE;refine qB ?_;refine qq<|qj fun K hK=>qm ?_;refine qe hK<|ag.ret ⟨rx,_,_,_,rfl,rfl,?_⟩;exact⟨rfl,rd,pd,qd,P,Q,hH.drop 3,aT⟩
   ·rintro fr st ⟨t',tmp,hfr,hH,hR2,Ve⟩;rw[hfr];clear hfr;generalize cT fr=ee;clear fr;obtain⟨Z9,c'⟩:=t';dsimp only[bM] at hH;refine qq<|qj fun K hK=>qm ?_;refine qm ?_;refine Qaf (m:=11) hH rfl z3 (by exact aJ) (by dsimp only[ν,ρ,ξ,τ,aK,bM,aV,aE]<;>rfl) rfl rfl (aa rfl _) ?_;have hH:=hH.drop 3;obtain⟨_,st,aA,rfl,hT⟩:=ih ⟨sn,w.dn,w.aY,w.rdy⟩ ⟨Z9,c'⟩ _ _ Ve Iw RT QX ⟨rd,pd,qd,P,Q,hH,aT⟩;refine qv aA ?_;refine qm ?_;refine qe hK<|ag.ret ⟨rx,_,_,_,rfl,rfl,?_⟩;rw[hR2];exact⟨rfl,hT⟩
end Go.Proofs.YtkbacjpologjbaaGreat
