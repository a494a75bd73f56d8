/-
 Are nodes a pattern? syntax.Right, walked.
-/
import Derived.Test.YtbdnabmmlbiomaaGreatXGPi
import Derived.Test.YtbdnabmmlbiomaaGreatXGKa
import Derived.Test.YtbdnabmmlbiomaaGreatXGQa
set_option maxRecDepth 100000
set_option maxHeartbeats 4000000
set_option linter.unusedSimpArgs false
set_option linter.unusedVariables false
open Nat renaming reduceAdd→γ,reduceSub→δ,le_of_ble_eq_true→θ,mul_le_mul→QC
open List renaming length→ε,foldl→ζ,length_map→η,map→ι,length_append→μ,length_cons→ν,append_assoc→ο,getElem?_eq_getElem→τ,not_mem_nil→Γ,length_nil→Δ,getElem?_set_self→Ξ,mem_cons→Ψ,mem_of_getElem?→Ω,length_set→QQ,length_take→QX,map_set→QJ,nil_append→Qq,drop_succ_cons→Qx,take_succ_cons→Qz,cons_append→Qv,drop_zero→Qk,take_zero→Qy,set_set→QK,append_nil→QF,map_append→QD
open Go.V.Fr renaming clean→κ,put→ξ,get→π,ev→υ,aj→ψ
open Go.V renaming look→ρ
open Go.V.aa renaming nil→ς,two→φ,de→Qj,dI→QW,lZ→QY,Fq→QP,fS→QL,ji→QM,sX→QN,zz→QR,CS→QS,aF→QT
open Go.V.ab renaming skip→χ,ret→ω,block→Θ,cond→Qw,exit→QU,loop→QG,SG→QA,dz→QE,merge→QI
open Go.V.D renaming cells→Φ
open Int renaming eq_ofNat_of_zero_le→QZ,toNat_natCast→QH
open Bool renaming or_eq_false_iff→QV,or_eq_true→QB
namespace Go.Proofs.YtbdnabmmlbiomaaGreat
open Go.V Go
def o0 (fr:Go.V.Fr) (k:Nat):Go.V.D:=Go.V.nth .bD fr.loc k
variable{s0 S:St}{n:ej}{l:List ej}{d cd nd zd ed:D}{x y:Int}{es M E Z:List Int}{a N k at_:Nat}{H:List bJ}{ks:Nat→Prop}{code:List aQ}{t:Tr}
theorem D1 (hn:n.ok):Ev pv 150 [.agg (bH n)] s0 (.bool (vx n)) s0:=by
 refine Ev.h_ rfl VV rfl rfl rfl ?_;dsimp only[u3,u4,ε,δ,γ,w1,w2];obtain⟨bt,hF,hH⟩:=ri s0;generalize ah .ro s0=S at*;have vV:=hn.1.arg s0.bs.length S;have ni:=hn.2.1;refine qq<|qj fun K hK=>qb hH fun k1 st qY hH=>?_;dsimp only[u2,u1,u3,u4,setMany,u5,u6,Φ,γ,bH] at hH;refine qm ?_;refine qe hK<|qq<|qj fun K hK=>qp (o:=0) ?_;refine ql hH av ?_;refine qg ?_;refine qm ?_;refine qe hK<|qq<|ab.lV 2 (.bool (((n.op==2)||((n.rs.length:Nat):Int)==0) &&((n.op==5)||((n.mn==0) &&(n.mx==0) &&!n.lz)) &&((n.op==6)||(n.cap==0)))) [] ?_ (fun ff tmp=>?_)
 ·refine qp (o:=0) ?_;refine ql hH av ?_;refine qg ?_;refine qm ?_;refine φ 10 rfl (fun aR=>?_) (fun aR=>?_)
  ·refine qs ?_ (hg:=wn aR);refine qs ?_ (hg:=wn aR);refine qs ?_ (hg:=wn aR);refine qs ?_ (hg:=wn aR);refine qt aR ?_;refine qm ?_;refine qm ?_;refine qm ?_;refine φ 18 rfl (fun aT=>?_) (fun aT=>?_)
   ·refine qs ?_ (hg:=wn aT);refine qs ?_ (hg:=wn aT);refine qs ?_ (hg:=wn aT);refine qs ?_ (hg:=wn aT);refine qs ?_;refine qs ?_;refine qs ?_;refine qs ?_ (hg:=wn aT);refine qs ?_ (hg:=wn aT);refine qs ?_;refine qs ?_;refine qs ?_;refine qs ?_ (hg:=wn aT);refine qt aT ?_;refine qg ?_;refine qm ?_;refine qp (o:=0) ?_;refine ql hH av ?_;refine qg ?_;refine qm ?_;refine φ 38 rfl (fun dv=>?_) (fun dv=>?_)
    ·refine qs ?_ (hg:=wn dv);refine qs ?_ (hg:=wn dv);refine qs ?_ (hg:=wn dv);refine qt dv ?_;refine qg ?_;refine qm ?_;refine ς (bp ?_);dsimp only[aB,ζ,nth,u2,u1];dsimp only[ψ,ξ,κ,υ,π,nth,ρ,u1,u2,v1,v2,v3,v4,v5,v6,v7,ε,u3,u4,δ,γ,ι]
     all_goals(simp[aR,aT,dv];done)
    ·refine qp (o:=5) ?_ (hg:=wi dv);refine ql hH av ?_ (hg:=wi dv);refine qg ?_ (hg:=wi dv);refine qu dv ?_;refine qg ?_;refine qm ?_;refine ς (bp ?_);dsimp only[aB,ζ,nth,u2,u1];dsimp only[ψ,ξ,κ,υ,π,nth,ρ,u1,u2,v1,v2,v3,v4,v5,v6,v7,ε,u3,u4,δ,γ,ι]
     all_goals(simp[aR,aT,dv];done)
   ·refine qp (o:=2) ?_ (hg:=wi aT);refine ql hH av ?_ (hg:=wi aT);refine qg ?_ (hg:=wi aT);refine qm ?_ (hg:=wi aT);refine φ 22 rfl (fun gD=>?_) (fun gD=>?_)
    ·refine qp (o:=3) ?_ (hg:=wi gD);refine ql hH av ?_ (hg:=wi gD);refine qg ?_ (hg:=wi gD);refine QW (aq rfl rfl rfl aT) rfl gD (ae rfl _) ?_;refine qm ?_ (hg:=wi aT);refine φ 27 rfl (fun gq=>?_) (fun gq=>?_)
     ·refine qp (o:=4) ?_ (hg:=wi gq);refine ql hH av ?_ (hg:=wi gq);refine qg ?_ (hg:=wi gq);refine QW (aq rfl rfl rfl aT) rfl gq (ae rfl _) ?_;refine qu aT ?_;refine qg ?_;refine qm ?_;refine φ 34 rfl (fun eK=>?_) (fun eK=>?_)
      ·refine qp (o:=0) ?_ (hg:=wi eK);refine ql hH av ?_ (hg:=wi eK);refine qg ?_ (hg:=wi eK);refine qm ?_ (hg:=wi eK);refine φ 38 rfl (fun dv=>?_) (fun dv=>?_)
       ·refine qs ?_ (hg:=wn dv);refine qs ?_ (hg:=wn dv);refine qs ?_ (hg:=wn dv);refine QW (aq rfl rfl rfl eK) rfl dv (ae rfl _) ?_;refine qt eK ?_;refine qm ?_;refine ς (bp ?_);dsimp only[aB,ζ,nth,u2,u1];dsimp only[ψ,ξ,κ,υ,π,nth,ρ,u1,u2,v1,v2,v3,v4,v5,v6,v7,ε,u3,u4,δ,γ,ι]
        all_goals(simp[aR,aT,gD,gq,eK,dv];done)
       ·refine qp (o:=5) ?_ (hg:=wi dv);refine ql hH av ?_ (hg:=wi dv);refine qg ?_ (hg:=wi dv);refine Qj (aq rfl rfl rfl eK) rfl dv (ae rfl _) ?_;refine qt eK ?_;refine qm ?_;refine ς (bp ?_);dsimp only[aB,ζ,nth,u2,u1];dsimp only[ψ,ξ,κ,υ,π,nth,ρ,u1,u2,v1,v2,v3,v4,v5,v6,v7,ε,u3,u4,δ,γ,ι]
        all_goals(simp[aR,aT,gD,gq,eK,dv];done)
      ·refine qs ?_ (hg:=wn eK);refine qs ?_ (hg:=wn eK);refine qs ?_ (hg:=wn eK);refine qs ?_ (hg:=wn eK);refine qs ?_;refine qs ?_;refine qs ?_;refine qs ?_ (hg:=wn eK);refine qu eK ?_;refine qm ?_;refine ς (bp ?_);dsimp only[aB,ζ,nth,u2,u1];dsimp only[ψ,ξ,κ,υ,π,nth,ρ,u1,u2,v1,v2,v3,v4,v5,v6,v7,ε,u3,u4,δ,γ,ι]
       all_goals(simp[aR,aT,gD,gq,eK];done)
     ·refine qs ?_ (hg:=wn gq);refine qs ?_ (hg:=wn gq);refine qs ?_ (hg:=wn gq);refine Qj (aq rfl rfl rfl aT) rfl gq (ae rfl _) ?_;refine qu aT ?_;refine qg ?_;refine qm ?_;refine qs ?_;refine qs ?_;refine qs ?_;refine qs ?_;refine qs ?_;refine qs ?_;refine qs ?_;refine qs ?_;refine qg ?_;refine qm ?_;refine ς (bp ?_);dsimp only[aB,ζ,nth,u2,u1];dsimp only[ψ,ξ,κ,υ,π,nth,ρ,u1,u2,v1,v2,v3,v4,v5,v6,v7,ε,u3,u4,δ,γ,ι]
      all_goals(simp[aR,aT,gD,gq];done)
    ·refine qs ?_ (hg:=wn gD);refine qs ?_ (hg:=wn gD);refine qs ?_ (hg:=wn gD);refine Qj (aq rfl rfl rfl aT) rfl gD (ae rfl _) ?_;refine qm ?_ (hg:=wi aT);refine qs ?_;refine qs ?_;refine qs ?_;refine qg ?_ (hg:=wi aT);refine qu aT ?_;refine qg ?_;refine qm ?_;refine qs ?_;refine qs ?_;refine qs ?_;refine qs ?_;refine qs ?_;refine qs ?_;refine qs ?_;refine qs ?_;refine qg ?_;refine qm ?_;refine ς (bp ?_);dsimp only[aB,ζ,nth,u2,u1];dsimp only[ψ,ξ,κ,υ,π,nth,ρ,u1,u2,v1,v2,v3,v4,v5,v6,v7,ε,u3,u4,δ,γ,ι]
     all_goals(simp[aR,aT,gD];done)
  ·refine qp (o:=1) ?_ (hg:=wi aR);refine ql hH av ?_ (hg:=wi aR);refine qn ?_ (hg:=wi aR);simp only[η];refine qg ?_ (hg:=wi aR);refine qu aR ?_;refine qm ?_;refine φ 16 rfl (fun bV=>?_) (fun bV=>?_)
   ·refine qm ?_ (hg:=wi bV);refine qm ?_ (hg:=wi bV);refine φ 18 rfl (fun aT=>?_) (fun aT=>?_)
    ·refine qs ?_ (hg:=wn aT);refine qs ?_ (hg:=wn aT);refine qs ?_ (hg:=wn aT);refine qs ?_ (hg:=wn aT);refine qs ?_;refine qs ?_;refine qs ?_;refine qs ?_ (hg:=wn aT);refine qs ?_ (hg:=wn aT);refine qs ?_;refine qs ?_;refine qs ?_;refine qs ?_ (hg:=wn aT);refine QW (aq rfl rfl rfl bV) rfl aT (ae rfl _) ?_;refine qt bV ?_;refine qm ?_;refine qp (o:=0) ?_;refine ql hH av ?_;refine qg ?_;refine qm ?_;refine φ 38 rfl (fun dv=>?_) (fun dv=>?_)
     ·refine qs ?_ (hg:=wn dv);refine qs ?_ (hg:=wn dv);refine qs ?_ (hg:=wn dv);refine qt dv ?_;refine qg ?_;refine qm ?_;refine ς (bp ?_);dsimp only[aB,ζ,nth,u2,u1];dsimp only[ψ,ξ,κ,υ,π,nth,ρ,u1,u2,v1,v2,v3,v4,v5,v6,v7,ε,u3,u4,δ,γ,ι]
      all_goals(simp[aR,bV,aT,dv];done)
     ·refine qp (o:=5) ?_ (hg:=wi dv);refine ql hH av ?_ (hg:=wi dv);refine qg ?_ (hg:=wi dv);refine qu dv ?_;refine qg ?_;refine qm ?_;refine ς (bp ?_);dsimp only[aB,ζ,nth,u2,u1];dsimp only[ψ,ξ,κ,υ,π,nth,ρ,u1,u2,v1,v2,v3,v4,v5,v6,v7,ε,u3,u4,δ,γ,ι]
      all_goals(simp[aR,bV,aT,dv];done)
    ·refine qp (o:=2) ?_ (hg:=wi aT);refine ql hH av ?_ (hg:=wi aT);refine qg ?_ (hg:=wi aT);refine qm ?_ (hg:=wi aT);refine φ 22 rfl (fun gD=>?_) (fun gD=>?_)
     ·refine qp (o:=3) ?_ (hg:=wi gD);refine ql hH av ?_ (hg:=wi gD);refine qg ?_ (hg:=wi gD);refine QW (aq rfl rfl rfl aT) rfl gD (ae rfl _) ?_;refine qm ?_ (hg:=wi aT);refine φ 27 rfl (fun gq=>?_) (fun gq=>?_)
      ·refine qp (o:=4) ?_ (hg:=wi gq);refine ql hH av ?_ (hg:=wi gq);refine qg ?_ (hg:=wi gq);refine QW (aq rfl rfl rfl aT) rfl gq (ae rfl _) ?_;refine Qj (aq rfl rfl rfl bV) rfl aT (ae rfl _) ?_;refine qt bV ?_;refine qm ?_;refine φ 34 rfl (fun eK=>?_) (fun eK=>?_)
       ·refine qp (o:=0) ?_ (hg:=wi eK);refine ql hH av ?_ (hg:=wi eK);refine qg ?_ (hg:=wi eK);refine qm ?_ (hg:=wi eK);refine φ 38 rfl (fun dv=>?_) (fun dv=>?_)
        ·refine qs ?_ (hg:=wn dv);refine qs ?_ (hg:=wn dv);refine qs ?_ (hg:=wn dv);refine QW (aq rfl rfl rfl eK) rfl dv (ae rfl _) ?_;refine qt eK ?_;refine qm ?_;refine ς (bp ?_);dsimp only[aB,ζ,nth,u2,u1];dsimp only[ψ,ξ,κ,υ,π,nth,ρ,u1,u2,v1,v2,v3,v4,v5,v6,v7,ε,u3,u4,δ,γ,ι]
         all_goals(simp[aR,bV,aT,gD,gq,eK,dv];done)
        ·refine qp (o:=5) ?_ (hg:=wi dv);refine ql hH av ?_ (hg:=wi dv);refine qg ?_ (hg:=wi dv);refine Qj (aq rfl rfl rfl eK) rfl dv (ae rfl _) ?_;refine qt eK ?_;refine qm ?_;refine ς (bp ?_);dsimp only[aB,ζ,nth,u2,u1];dsimp only[ψ,ξ,κ,υ,π,nth,ρ,u1,u2,v1,v2,v3,v4,v5,v6,v7,ε,u3,u4,δ,γ,ι]
         all_goals(simp[aR,bV,aT,gD,gq,eK,dv];done)
       ·refine qs ?_ (hg:=wn eK);refine qs ?_ (hg:=wn eK);refine qs ?_ (hg:=wn eK);refine qs ?_ (hg:=wn eK);refine qs ?_;refine qs ?_;refine qs ?_;refine qs ?_ (hg:=wn eK);refine qu eK ?_;refine qm ?_;refine ς (bp ?_);dsimp only[aB,ζ,nth,u2,u1];dsimp only[ψ,ξ,κ,υ,π,nth,ρ,u1,u2,v1,v2,v3,v4,v5,v6,v7,ε,u3,u4,δ,γ,ι]
        all_goals(simp[aR,bV,aT,gD,gq,eK];done)
      ·refine qs ?_ (hg:=wn gq);refine qs ?_ (hg:=wn gq);refine qs ?_ (hg:=wn gq);refine Qj (aq rfl rfl rfl aT) rfl gq (ae rfl _) ?_;refine Qj (aq rfl rfl rfl bV) rfl aT (ae rfl _) ?_;refine qt bV ?_;refine qm ?_;refine qs ?_;refine qs ?_;refine qs ?_;refine qs ?_;refine qs ?_;refine qs ?_;refine qs ?_;refine qs ?_;refine qg ?_;refine qm ?_;refine ς (bp ?_);dsimp only[aB,ζ,nth,u2,u1];dsimp only[ψ,ξ,κ,υ,π,nth,ρ,u1,u2,v1,v2,v3,v4,v5,v6,v7,ε,u3,u4,δ,γ,ι]
       all_goals(simp[aR,bV,aT,gD,gq];done)
     ·refine qs ?_ (hg:=wn gD);refine qs ?_ (hg:=wn gD);refine qs ?_ (hg:=wn gD);refine Qj (aq rfl rfl rfl aT) rfl gD (ae rfl _) ?_;refine qm ?_ (hg:=wi aT);refine qs ?_;refine qs ?_;refine qs ?_;refine qg ?_ (hg:=wi aT);refine Qj (aq rfl rfl rfl bV) rfl aT (ae rfl _) ?_;refine qt bV ?_;refine qm ?_;refine qs ?_;refine qs ?_;refine qs ?_;refine qs ?_;refine qs ?_;refine qs ?_;refine qs ?_;refine qs ?_;refine qg ?_;refine qm ?_;refine ς (bp ?_);dsimp only[aB,ζ,nth,u2,u1];dsimp only[ψ,ξ,κ,υ,π,nth,ρ,u1,u2,v1,v2,v3,v4,v5,v6,v7,ε,u3,u4,δ,γ,ι]
      all_goals(simp[aR,bV,aT,gD];done)
   ·refine qs ?_ (hg:=wn bV);refine qs ?_ (hg:=wn bV);refine qs ?_;refine qs ?_;refine qs ?_;refine qs ?_;refine qs ?_;refine qs ?_;refine qs ?_;refine qs ?_;refine qs ?_;refine qs ?_;refine qs ?_;refine qs ?_;refine qs ?_;refine qs ?_ (hg:=wn bV);refine qu bV ?_;refine qm ?_;refine qs ?_;refine qs ?_;refine qs ?_;refine qs ?_;refine qs ?_;refine qs ?_;refine qs ?_;refine qs ?_;refine qg ?_;refine qm ?_;refine ς (bp ?_);dsimp only[aB,ζ,nth,u2,u1];dsimp only[ψ,ξ,κ,υ,π,nth,ρ,u1,u2,v1,v2,v3,v4,v5,v6,v7,ε,u3,u4,δ,γ,ι]
    all_goals(simp[aR,bV];done)
 dsimp only[aB,ζ,nth,u2,u1];refine ω ⟨rx,_,rfl,rl bt hH (rfl)⟩
theorem y_ (hn:n.ok) {g:Nat} (hg:g≤1048576):Ev pv 138 [.agg (bH n),.int .i64 (g:Nat)] s0 (.tup [.int .i64 (fW n (g:Nat)).1,.bool (fW n (g:Nat)).2]) s0:=by
 refine Ev.h_ rfl V2 rfl rfl rfl ?_;dsimp only[u3,u4,ε,δ,γ,w1,w2];obtain⟨bt,hF,hH⟩:=ri s0;generalize ah .ro s0=S at*;have vV:=hn.1.arg s0.bs.length S;have ni:=hn.2.1;refine qq<|qj fun K hK=>qb hH fun k2 st hk2 hH=>?_;dsimp only[u2,u1,u3,u4,setMany,u5,u6,Φ,γ,bH] at hH;refine qm ?_;refine qm ?_;refine qe hK<|qq<|qq<|qj fun K hK=>?_;refine QT (m:=7) hH rfl (ev rfl) (by exact av) (by dsimp only[Qx,Qk,Qz,Qy,bH]<;>rfl) rfl rfl (by dsimp only[ξ,u1,u2]<;>rfl) ?_;refine qv (D1 hn) ?_;refine qg ?_;refine qe hK ?_;unfold fW
 cases hp:vx n with
 |false=>
  rw[if_pos rfl];refine qB ?_;refine qq<|qj fun K hK=>qm ?_;refine qm ?_;refine qe hK<|ω ⟨rx,_,rfl,rl bt hH (rfl)⟩
 |true=>
  rw[if_neg (by simp)];refine qC ?_;refine χ<|qq<|qq<|qj fun K hK=>qp (o:=0) ?_;refine ql hH av ?_;refine qe hK<|Θ<|qq<|qq<|qj fun K hK=>qg ?_;refine qm ?_;refine qe hK ?_
  by_cases q1:n.op=1
  ·rw[if_pos (.inl q1)];refine qD rfl (by simp[q1]) ?_;refine χ<|qD rfl (by simp[q1]) ?_;refine qq<|qj fun K hK=>qp (o:=6) ?_;refine ql hH av ?_;refine qg ?_;refine qm ?_;refine qm ?_;refine qe hK<|ω ⟨rx,_,rfl,rl bt hH (rfl)⟩
  refine qE rfl (by simp[q1]) ?_;refine qq<|qj fun K hK=>qg ?_;refine qm ?_;refine qe hK ?_
  by_cases q7:n.op=7
  ·rw[if_pos (.inr (.inl q7))];refine qD rfl (by simp[q7]) ?_;refine χ<|qD rfl (by simp[q7]) ?_;refine qq<|qj fun K hK=>qp (o:=6) ?_;refine ql hH av ?_;refine qg ?_;refine qm ?_;refine qm ?_;refine qe hK<|ω ⟨rx,_,rfl,rl bt hH (rfl)⟩
  refine qE rfl (by simp[q7]) ?_;refine qj fun K hK=>qg ?_;refine qm ?_;refine qe hK ?_
  by_cases q8:n.op=8
  ·rw[if_pos (.inr (.inr q8))];refine qD rfl (by simp[q8]) ?_;refine qq<|qj fun K hK=>qp (o:=6) ?_;refine ql hH av ?_;refine qg ?_;refine qm ?_;refine qm ?_;refine qe hK<|ω ⟨rx,_,rfl,rl bt hH (rfl)⟩
  refine qE rfl (by simp[q8]) ?_;rw[if_neg (by omega)];refine qq<|qj fun K hK=>qg ?_;refine qm ?_;refine qe hK ?_;refine Qw (by rfl) (fun q2=>?_) (fun q2=>?_)<;>try simp only[beq_iff_eq,beq_eq_false_iff_ne,ne_eq] at q2
  ·rw[if_pos q2];refine qq<|QA [4,5] (fun ff=>ff 4=.int .i64 0∧ff 5=.bool ((n.kids==0) &&eI n.rs)) ?_ (fun ff tmp CD=>?_)
   ·refine qp (o:=6) ?_;refine ql hH av ?_;refine qg ?_;refine qm ?_;refine φ 23 rfl (fun aR=>?_) (fun aR=>?_)
    ·refine qp (o:=1) ?_ (hg:=wi aR);refine ql hH av ?_ (hg:=wi aR);refine qv (xf (vV.rows hH) ni) ?_ (hg:=wi aR);refine qt aR ?_;refine qm ?_;refine qm ?_;refine ς (lN ?_ ?_)
     ·dsimp only[aB,ζ,nth,u2,u1]
     ·dsimp only[nth];dsimp only[ψ,ξ,κ,υ,π,nth,ρ,u1,u2,v1,v2,v3,v4,v5,v6,v7,ε,u3,u4,δ,γ,ι];refine⟨?_,?_⟩<;>(first|rfl|(simp[aR];done))
    ·refine qs ?_ (hg:=wn aR);refine qs ?_ (hg:=wn aR);refine qs ?_ (hg:=wn aR);refine qu aR ?_;refine qm ?_;refine qm ?_;refine ς (lN ?_ ?_)
     ·dsimp only[aB,ζ,nth,u2,u1]
     ·dsimp only[nth];dsimp only[ψ,ξ,κ,υ,π,nth,ρ,u1,u2,v1,v2,v3,v4,v5,v6,v7,ε,u3,u4,δ,γ,ι];refine⟨?_,?_⟩<;>(first|rfl|(simp[aR];done))
   dsimp only[aB,ζ,nth,u2,u1];obtain⟨E2,E1⟩:=CD;rw[E2,E1];refine ω ⟨rx,_,rfl,rl bt hH (rfl)⟩
  rw[if_neg q2];refine qq<|qq<|qj fun K hK=>qg ?_;refine qm ?_;refine qe hK ?_
  by_cases q3:n.op=3
  ·rw[if_pos (.inl q3)];refine qD rfl (by simp[q3]) ?_;refine χ<|qD rfl (by simp[q3]) ?_;refine qq<|qj fun K hK=>qp (o:=6) ?_;refine ql hH av ?_;refine qp (o:=6) ?_;refine ql hH av ?_;refine qg ?_;refine qm ?_;refine qm ?_;refine qe hK<|ω ⟨rx,_,rfl,rl bt hH (rfl)⟩
  refine qE rfl (by simp[q3]) ?_;refine qj fun K hK=>qg ?_;refine qm ?_;refine qe hK ?_
  by_cases q4:n.op=4
  ·rw[if_pos (.inr q4)];refine qD rfl (by simp[q4]) ?_;refine qq<|qj fun K hK=>qp (o:=6) ?_;refine ql hH av ?_;refine qp (o:=6) ?_;refine ql hH av ?_;refine qg ?_;refine qm ?_;refine qm ?_;refine qe hK<|ω ⟨rx,_,rfl,rl bt hH (rfl)⟩
  rw[if_neg (by omega)];refine qE rfl (by simp[q4]) ?_;refine qq<|qj fun K hK=>qg ?_;refine qm ?_;refine qe hK ?_;refine Qw (by rfl) (fun q5=>?_) (fun q5=>?_)<;>try simp only[beq_iff_eq,beq_eq_false_iff_ne,ne_eq] at q5
  ·rw[if_pos q5];refine qq<|QA [4,5] (fun ff=>ff 4=.int .i64 1∧ff 5=.bool ((n.kids==1) &&decide (n.mn≥0) &&decide (n.mn≤30) &&((n.mx==-1)||(decide (n.mx≥n.mn) &&decide (n.mx≤30))))) ?_ (fun ff tmp CD=>?_)
   ·refine qp (o:=6) ?_;refine ql hH av ?_;refine qg ?_;refine qm ?_;refine φ 41 rfl (fun aR=>?_) (fun aR=>?_)
    ·refine qp (o:=2) ?_ (hg:=wi aR);refine ql hH av ?_ (hg:=wi aR);refine qg ?_ (hg:=wi aR);refine qt aR ?_;refine qm ?_;refine φ 46 rfl (fun cV=>?_) (fun cV=>?_)
     ·refine qp (o:=2) ?_ (hg:=wi cV);refine ql hH av ?_ (hg:=wi cV);refine qg ?_ (hg:=wi cV);refine qt cV ?_;refine qm ?_;refine φ 51 rfl (fun bu=>?_) (fun bu=>?_)
      ·refine qp (o:=3) ?_ (hg:=wi bu);refine ql hH av ?_ (hg:=wi bu);refine qg ?_ (hg:=wi bu);refine qm ?_ (hg:=wi bu);refine φ 55 rfl (fun aW=>?_) (fun aW=>?_)
       ·refine qs ?_ (hg:=wn aW);refine qs ?_ (hg:=wn aW);refine qs ?_ (hg:=wn aW);refine qs ?_ (hg:=wn aW);refine qs ?_ (hg:=wn aW);refine qs ?_ (hg:=wn aW);refine qs ?_;refine qs ?_;refine qs ?_;refine qs ?_ (hg:=wn aW);refine QW (aq rfl rfl rfl bu) rfl aW (ae rfl _) ?_;refine qt bu ?_;refine qm ?_;refine qm ?_;refine ς (lN ?_ ?_)
        ·dsimp only[aB,ζ,nth,u2,u1]
        ·dsimp only[nth];dsimp only[ψ,ξ,κ,υ,π,nth,ρ,u1,u2,v1,v2,v3,v4,v5,v6,v7,ε,u3,u4,δ,γ,ι];refine⟨?_,?_⟩<;>(first|rfl|(simp[aR,cV,bu,aW];done))
       ·refine qp (o:=3) ?_ (hg:=wi aW);refine ql hH av ?_ (hg:=wi aW);refine qp (o:=2) ?_ (hg:=wi aW);refine ql hH av ?_ (hg:=wi aW);refine qg ?_ (hg:=wi aW);refine qm ?_ (hg:=wi aW);refine φ 61 rfl (fun o8=>?_) (fun o8=>?_)
        ·refine qp (o:=3) ?_ (hg:=wi o8);refine ql hH av ?_ (hg:=wi o8);refine qg ?_ (hg:=wi o8);refine QW (aq rfl rfl rfl aW) rfl o8 (ae rfl _) ?_;refine Qj (aq rfl rfl rfl bu) rfl aW (ae rfl _) ?_;refine qt bu ?_;refine qm ?_;refine qm ?_;refine ς (lN ?_ ?_)
         ·dsimp only[aB,ζ,nth,u2,u1]
         ·dsimp only[nth];dsimp only[ψ,ξ,κ,υ,π,nth,ρ,u1,u2,v1,v2,v3,v4,v5,v6,v7,ε,u3,u4,δ,γ,ι];refine⟨?_,?_⟩<;>(first|rfl|(simp[aR,cV,bu,aW,o8];done))
        ·refine qs ?_ (hg:=wn o8);refine qs ?_ (hg:=wn o8);refine qs ?_ (hg:=wn o8);refine Qj (aq rfl rfl rfl aW) rfl o8 (ae rfl _) ?_;refine Qj (aq rfl rfl rfl bu) rfl aW (ae rfl _) ?_;refine qt bu ?_;refine qm ?_;refine qm ?_;refine ς (lN ?_ ?_)
         ·dsimp only[aB,ζ,nth,u2,u1]
         ·dsimp only[nth];dsimp only[ψ,ξ,κ,υ,π,nth,ρ,u1,u2,v1,v2,v3,v4,v5,v6,v7,ε,u3,u4,δ,γ,ι];refine⟨?_,?_⟩<;>(first|rfl|(simp[aR,cV,bu,aW,o8];done))
      ·refine qs ?_ (hg:=wn bu);refine qs ?_ (hg:=wn bu);refine qs ?_ (hg:=wn bu);refine qs ?_ (hg:=wn bu);refine qs ?_;refine qs ?_;refine qs ?_;refine qs ?_;refine qs ?_;refine qs ?_;refine qs ?_;refine qs ?_;refine qs ?_;refine qs ?_;refine qs ?_ (hg:=wn bu);refine qu bu ?_;refine qm ?_;refine qm ?_;refine ς (lN ?_ ?_)
       ·dsimp only[aB,ζ,nth,u2,u1]
       ·dsimp only[nth];dsimp only[ψ,ξ,κ,υ,π,nth,ρ,u1,u2,v1,v2,v3,v4,v5,v6,v7,ε,u3,u4,δ,γ,ι];refine⟨?_,?_⟩<;>(first|rfl|(simp[aR,cV,bu];done))
     ·refine qs ?_ (hg:=wn cV);refine qs ?_ (hg:=wn cV);refine qs ?_ (hg:=wn cV);refine qu cV ?_;refine qm ?_;refine qs ?_;refine qs ?_;refine qs ?_;refine qs ?_;refine qs ?_;refine qs ?_;refine qs ?_;refine qs ?_;refine qs ?_;refine qs ?_;refine qs ?_;refine qs ?_;refine qs ?_;refine qs ?_;refine qs ?_;refine qg ?_;refine qm ?_;refine qm ?_;refine ς (lN ?_ ?_)
      ·dsimp only[aB,ζ,nth,u2,u1]
      ·dsimp only[nth];dsimp only[ψ,ξ,κ,υ,π,nth,ρ,u1,u2,v1,v2,v3,v4,v5,v6,v7,ε,u3,u4,δ,γ,ι];refine⟨?_,?_⟩<;>(first|rfl|(simp[aR,cV];done))
    ·refine qs ?_ (hg:=wn aR);refine qs ?_ (hg:=wn aR);refine qs ?_ (hg:=wn aR);refine qu aR ?_;refine qm ?_;refine qs ?_;refine qs ?_;refine qs ?_;refine qg ?_;refine qm ?_;refine qs ?_;refine qs ?_;refine qs ?_;refine qs ?_;refine qs ?_;refine qs ?_;refine qs ?_;refine qs ?_;refine qs ?_;refine qs ?_;refine qs ?_;refine qs ?_;refine qs ?_;refine qs ?_;refine qs ?_;refine qg ?_;refine qm ?_;refine qm ?_;refine ς (lN ?_ ?_)
     ·dsimp only[aB,ζ,nth,u2,u1]
     ·dsimp only[nth];dsimp only[ψ,ξ,κ,υ,π,nth,ρ,u1,u2,v1,v2,v3,v4,v5,v6,v7,ε,u3,u4,δ,γ,ι];refine⟨?_,?_⟩<;>(first|rfl|(simp[aR];done))
   dsimp only[aB,ζ,nth,u2,u1];obtain⟨E2,E1⟩:=CD;rw[E2,E1];refine ω ⟨rx,_,rfl,rl bt hH (rfl)⟩
  rw[if_neg q5];refine qq<|qj fun K hK=>qg ?_;refine qm ?_;refine qe hK ?_;refine Qw (by rfl) (fun q6=>?_) (fun q6=>?_)<;>try simp only[beq_iff_eq,beq_eq_false_iff_ne,ne_eq] at q6
  ·rw[if_pos q6];refine qq<|QA [4,5] (fun ff=>ff 4=.int .i64 1∧ff 5=.bool ((n.kids==1) &&(n.cap==((g+1:Nat):Int)) &&decide (n.cap≤4))) ?_ (fun ff tmp CD=>?_)
   ·refine qp (o:=6) ?_;refine ql hH av ?_;refine qg ?_;refine qm ?_;refine φ 73 rfl (fun aR=>?_) (fun aR=>?_)
    ·refine qp (o:=5) ?_ (hg:=wi aR);refine ql hH av ?_ (hg:=wi aR);refine qm ?_ (hg:=wi aR);refine qA ?_ (hg:=wi aR);refine qg ?_ (hg:=wi aR);refine qt aR ?_;refine qm ?_;refine φ 80 rfl (fun aX=>?_) (fun aX=>?_)
     ·refine qp (o:=5) ?_ (hg:=wi aX);refine ql hH av ?_ (hg:=wi aX);refine qg ?_ (hg:=wi aX);refine qt aX ?_;refine qm ?_;refine qm ?_;refine ς (lN ?_ ?_)
      ·dsimp only[aB,ζ,nth,u2,u1]
      ·dsimp only[nth];dsimp only[ψ,ξ,κ,υ,π,nth,ρ,u1,u2,v1,v2,v3,v4,v5,v6,v7,ε,u3,u4,δ,γ,ι];refine⟨?_,?_⟩<;>(first|rfl|(simp[aR,aX];done))
     ·refine qs ?_ (hg:=wn aX);refine qs ?_ (hg:=wn aX);refine qs ?_ (hg:=wn aX);refine qu aX ?_;refine qm ?_;refine qm ?_;refine ς (lN ?_ ?_)
      ·dsimp only[aB,ζ,nth,u2,u1]
      ·dsimp only[nth];dsimp only[ψ,ξ,κ,υ,π,nth,ρ,u1,u2,v1,v2,v3,v4,v5,v6,v7,ε,u3,u4,δ,γ,ι];refine⟨?_,?_⟩<;>(first|rfl|(simp[aR,aX];done))
    ·refine qs ?_ (hg:=wn aR);refine qs ?_ (hg:=wn aR);refine qs ?_ (hg:=wn aR);refine qs ?_ (hg:=wn aR);refine qs ?_ (hg:=wn aR);refine qu aR ?_;refine qm ?_;refine qs ?_;refine qs ?_;refine qs ?_;refine qg ?_;refine qm ?_;refine qm ?_;refine ς (lN ?_ ?_)
     ·dsimp only[aB,ζ,nth,u2,u1]
     ·dsimp only[nth];dsimp only[ψ,ξ,κ,υ,π,nth,ρ,u1,u2,v1,v2,v3,v4,v5,v6,v7,ε,u3,u4,δ,γ,ι];refine⟨?_,?_⟩<;>(first|rfl|(simp[aR];done))
   dsimp only[aB,ζ,nth,u2,u1];obtain⟨E2,E1⟩:=CD;rw[E2,E1];refine ω ⟨rx,_,rfl,rl bt hH (rfl)⟩
  ·rw[if_neg q6];refine χ<|qq<|qj fun K hK=>qm ?_;refine qm ?_;refine qe hK<|ω ⟨rx,_,rfl,rl bt hH (rfl)⟩
theorem xE (h:n.ok):refs (bH n)=0:=by
 have:=h.1.ref;simp only[bH,refs,D.ref,this,Nat.max_self]
def px (d:D) (at_ g:Nat):List D:=[d,.int .i64 (at_:Nat),.int .i64 (g:Nat)]
theorem Ec (hl:l.length≤1048576) (hi:∀n∈l,n.ok) (hd:dr d 7 (l.map bH)):∀(f:Nat) {N k:Nat} {S s0:St} {H:List bJ} {at_ g:Nat},f≤241→g≤4→Has N S s0 (.box k (.mem 0 false (px d at_ g))::H)→
  ∃r ai,Ev pv 123 [.ptr k 0 0,.int .i64 ((241-f:Nat):Int)] s0 r ai∧r=.bool (iX l f at_ g).isSome∧∃a' g',Has N S ai (.box k (.mem 0 false (px d a' g'))::H)∧g'≤4∧∀q,iX l f at_ g=some q→a'=q.1∧g'=q.2:=by
 intro f
 induction f with
 |zero=>
  intro N k S s0 H at_ g hf hg hH;refine Ev.iD rfl NP rfl rfl rfl ?_;dsimp only[u3,u4,ε,δ,γ,w1,w2];have cX:=hH;have hH:=hH.c8;have cL:(ah .rw s0).bs=s0.bs:=rfl;generalize ah .rw s0=S2 at*;have hc:=hd.arg N S2;refine qq<|qj fun K hK=>qm ?_;refine qe hK<|qq<|qq<|QE 21 (.bool (decide ((at_:Int)≥(l.length:Nat))||decide (((241-0:Nat):Int)>240))) [] ?_ (fun ff tmp cY=>?_)
  ·refine qm ?_;refine qg ?_;refine qp (o:=1) ?_;refine ql hH av ?_;refine qm ?_;refine qg ?_;refine qp (o:=0) ?_;refine ql hH av ?_;refine qn ?_;simp only[η];refine qg ?_;refine qm ?_;refine φ 18 rfl (fun aX=>?_) (fun aX=>?_)
   ·refine qs ?_ (hg:=wn aX);refine qs ?_ (hg:=wn aX);refine qt aX ?_;refine ς (aY ?_ ?_)
    ·dsimp only[aB,ζ,nth,u2,u1]
     all_goals(first|rfl|simp)
    ·dsimp only[ψ,ξ,κ,υ,π,nth,ρ,u1,u2,v1,v2,v3,v4,v5,v6,v7,ε,u3,u4,δ,γ,ι]
     all_goals(simp[aX];done)
   ·refine qm ?_ (hg:=wi aX);refine qg ?_ (hg:=wi aX);refine qu aX ?_;refine ς (aY ?_ ?_)
    ·dsimp only[aB,ζ,nth,u2,u1]
     all_goals(first|rfl|simp)
    ·dsimp only[ψ,ξ,κ,υ,π,nth,ρ,u1,u2,v1,v2,v3,v4,v5,v6,v7,ε,u3,u4,δ,γ,ι]
     all_goals(simp[aX];done)
  dsimp only[aB,ζ,nth,u2,u1];have hT:(decide ((at_:Int)≥(l.length:Nat))||decide (((241-0:Nat):Int)>240))=true:=by simp
  rw[hT] at cY;refine qB ?_;refine qq<|qj fun K hK=>qm ?_;refine qe hK<|ω ⟨rx,_,_,_,rfl,au (rfl),?_⟩;exact⟨rfl,_,_,cX.aD cL hH,hg,fun q hq=>by simp[iX] at hq⟩
 |succ f ih=>
  intro N k S s0 H at_ g hf hg hH;refine Ev.iD rfl NP rfl rfl rfl ?_;dsimp only[u3,u4,ε,δ,γ,w1,w2];have cX:=hH;have hH:=hH.c8;have cL:(ah .rw s0).bs=s0.bs:=rfl;generalize ah .rw s0=S2 at*;have hc:=hd.arg N S2;refine qq<|qj fun K hK=>qm ?_;refine qe hK<|qq<|qq<|QE 21 (.bool (decide ((at_:Int)≥(l.length:Nat))||decide (((241-(f+1):Nat):Int)>240))) [] ?_ (fun ff tmp cY=>?_)
  ·refine qm ?_;refine qg ?_;refine qp (o:=1) ?_;refine ql hH av ?_;refine qm ?_;refine qg ?_;refine qp (o:=0) ?_;refine ql hH av ?_;refine qn ?_;simp only[η];refine qg ?_;refine qm ?_;refine φ 18 rfl (fun aX=>?_) (fun aX=>?_)
   ·refine qs ?_ (hg:=wn aX);refine qs ?_ (hg:=wn aX);refine qt aX ?_;refine ς (aY ?_ ?_)
    ·dsimp only[aB,ζ,nth,u2,u1]
     all_goals(first|rfl|simp)
    ·dsimp only[ψ,ξ,κ,υ,π,nth,ρ,u1,u2,v1,v2,v3,v4,v5,v6,v7,ε,u3,u4,δ,γ,ι]
     all_goals(simp_all;done)
   ·refine qm ?_ (hg:=wi aX);refine qg ?_ (hg:=wi aX);refine qu aX ?_;refine ς (aY ?_ ?_)
    ·dsimp only[aB,ζ,nth,u2,u1]
     all_goals(first|rfl|simp)
    ·dsimp only[ψ,ξ,κ,υ,π,nth,ρ,u1,u2,v1,v2,v3,v4,v5,v6,v7,ε,u3,u4,δ,γ,ι]
     all_goals(simp_all;omega)
  dsimp only[aB,ζ,nth,u2,u1]
  by_cases ha:l.length≤at_
  ·have hT:(decide ((at_:Int)≥(l.length:Nat))||decide (((241-(f+1):Nat):Int)>240))=true:=by
    rw[QB];exact .inl (by rw[decide_eq_true_eq];omega)
   rw[hT] at cY;have hn:iX l (f+1) at_ g=none:=by unfold iX;rw[List.getElem?_eq_none ha]
   rw[hn];refine qB ?_;refine qq<|qj fun K hK=>qm ?_;refine qe hK<|ω ⟨rx,_,_,_,rfl,au (rfl),?_⟩;exact⟨rfl,_,_,cX.aD cL hH,hg,fun q hq=>by cases hq⟩
  ·have hT:(decide ((at_:Int)≥(l.length:Nat))||decide (((241-(f+1):Nat):Int)>240))=false:=by
    rw[QV];exact⟨by rw[decide_eq_false_iff_not];omega,by rw[decide_eq_false_iff_not];omega⟩
   rw[hT] at cY
   obtain⟨n,hn⟩:∃n,l[at_]?=some n:=⟨l[at_]'(by omega),τ _⟩
   have kh:=hi n (Ω hn);have gB:=mg hn;have Mu:=xE kh
   have kK:iX l (f+1) at_ g=if(fW n (g:Nat)).2=true then j6 (iX l f) (fW n (g:Nat)).1.toNat (at_+1) (if n.op=6 then g+1 else g) else none:=by
    rw[iX,hn]
   rw[kK];clear kK;refine qC ?_;refine χ<|qq<|qj fun K hK=>qm ?_;refine qg ?_;refine qp (o:=0) ?_;refine ql hH av ?_;refine qm ?_;refine qg ?_;refine qp (o:=1) ?_;refine ql hH av ?_;refine qr fun p30 UG=>?_;refine aa.cA rfl (ev rfl) (by assumption) rfl (ae rfl _) ?_;refine qa hH fun k5 st yh hH=>?_;dsimp only[u2,u1,u3,u4,setMany,u5,u6,Φ,γ,px,bH] at hH;refine aa.vT hH rfl (ev rfl) (ev rfl) (by rfl) (by exact rfl) (by exact av) (by exact rfl) (by exact .inr (by assumption)) (fun st hH=>?_);dsimp only[u2,u1,u3,u4,setMany,u5,u6,Φ,γ,px,bH] at hH;refine qe hK<|qq<|qj fun K hK=>?_;refine QT (m:=7) hH rfl (ev rfl) (by exact av) (by dsimp only[Qx,Qk,Qz,Qy,px,bH]<;>rfl) rfl rfl (ae rfl _) ?_;refine qm ?_;refine qg ?_;refine qp (o:=2) ?_;refine ql hH bh ?_;refine qv (y_ kh (by omega)) ?_;refine qm ?_;refine qg ?_;refine qg ?_;refine qm ?_;refine qm ?_;refine qe hK<|qq<|qq<|qj fun K hK=>qm ?_;refine qg ?_;refine qe hK ?_
   cases hsh:(fW n (g:Nat)).2 with
   |false=>
    rw[if_neg (by simp)];refine qB ?_;refine qq<|qj fun K hK=>qm ?_;refine qe hK<|ω ⟨rx,_,_,_,rfl,au (rfl),?_⟩;exact⟨rfl,_,_,cX.aD cL (hH.drop 1),hg,fun q hq=>by cases hq⟩
   |true=>
    rw[if_pos rfl];obtain⟨⟨qY,_⟩,hk2,qX⟩:=wX hsh;have Tf:=kh.2.2;obtain⟨kd,Tb⟩:∃kd:Nat,(fW n (g:Nat)).1=(kd:Int):=QZ hk2;rw[Tb,QH];rw[Tb,QH] at qY;refine qC ?_;refine χ<|qq<|qj fun K hK=>qm ?_;refine qg ?_;refine qp (o:=1) ?_;refine ql hH bh ?_;refine qA ?_;refine qg ?_;refine qp (o:=1) ?_;refine qT hH bh fun st hH=>?_;dsimp only[u2,u1,u3,u4,setMany,u5,u6,Φ,γ,px,bH] at hH;refine qe hK<|qq<|qq<|qj fun K hK=>qp (o:=0) ?_;refine ql hH av ?_;refine qg ?_;refine qe hK<|QI (fun fr st=>∃(g2:Nat) (tmp:List (Nat×D)),fr=⟨8,[.ptr k 0 0,.int .i64 ((241-(f+1):Nat):Int),o0 fr 2,o0 fr 3,.bool false,.ptr k5 0 0,.int .i64 (kd:Nat),.bool true],tmp⟩∧Has N S2 st (.box k (.mem 0 false [d,.int .i64 ((at_+1:Nat):Int),.int .i64 (g2:Nat)])::.box k5 (.mem 0 false (bH n))::H)∧(g2=if n.op=6 then g+1 else g)∧(g2≤4)) ?_ ?_
    ·refine Qw (by rfl) (fun q6=>?_) (fun q6=>?_)<;>try simp only[beq_iff_eq,beq_eq_false_iff_ne,ne_eq] at q6
     ·have:=qX q6;refine qj fun K hK=>qm ?_;refine qg ?_;refine qp (o:=2) ?_;refine ql hH bh ?_;refine qA ?_;refine qg ?_;refine qp (o:=2) ?_;refine qT hH bh fun st hH=>?_;dsimp only[u2,u1,u3,u4,setMany,u5,u6,Φ,γ,px,bH] at hH;refine qe hK ?_;exact⟨g+1,_,rfl,(by have:=hH.front bh;exact this),by rw[if_pos q6],by omega⟩
     ·refine χ ?_;exact⟨g,_,rfl,(by have:=hH.front bh;exact this),by rw[if_neg q6],hg⟩
    ·rintro fr st ⟨g2,tmp,hfr,hH,aZ,aR⟩;rw[hfr];clear hfr;generalize o0 fr=ee;clear fr;rw[←aZ];refine qq<|Θ<|QG (fun mm fr st=>∃(kk a2 g4:Nat),fr.clean=⟨8,[.ptr k 0 0,.int .i64 ((241-(f+1):Nat):Int),o0 fr 2,o0 fr 3,.bool false,.ptr k5 0 0,.int .i64 (kk:Nat),.bool true],[]⟩∧Has N S2 st (.box k (.mem 0 false [d,.int .i64 (a2:Nat),.int .i64 (g4:Nat)])::.box k5 (.mem 0 false (bH n))::H)∧(j6 (iX l f) kk a2 g4=j6 (iX l f) kd (at_+1) g2)∧(g4≤4)∧(kk=mm)∧(kk≤9223372036854775807)) (kd) ?_ ?_
     ·exact⟨kd,at_+1,g2,rfl,hH,rfl,aR,rfl,by omega⟩
     rintro mm fr st ⟨kk,a2,g4,hfr,hH,hX,bk,F8,hkk⟩;rw[hfr];clear hfr;generalize o0 fr=ee;clear fr;refine qq<|qq<|qj fun K hK=>qm ?_;refine qg ?_;refine qe hK ?_
     cases kk with
     |zero=>
      refine Qw (v:=false) (by dsimp only[υ,π,nth,ρ];rfl) (fun h=>by cases h) (fun _=>?_);refine QU<|qq<|qj fun K hK=>qm ?_;refine qe hK<|ω ⟨rx,_,_,_,rfl,au (rfl),?_⟩;exact⟨by rw[←hX];rfl,_,_,cX.aD cL (hH.erase 1),bk,fun q hq=>by rw[←hX] at hq;simp only[j6,Option.some.injEq] at hq;subst hq;exact⟨rfl,rfl⟩⟩
     |succ kk=>
      rw[j6] at hX;refine qD rfl (by simp) ?_;refine χ<|qq<|Θ<|qq<|qj fun K hK=>qm ?_;refine qm ?_;refine QY (z:=((241-f:Nat):Int)) rfl (ev rfl) (ev rfl) (by rw[wrap_i64 (by omega) (by omega)]<;>omega) (ae rfl _) ?_;obtain⟨_,st,aL,rfl,a',g',hH,cM,hq⟩:=ih (at_:=a2) (g:=g4) (by omega) bk hH;refine qv aL ?_;refine qg ?_;refine qe hK ?_
      cases ho:iX l f a2 g4 with
      |none=>
       rw[ho] at hX;refine qB ?_;refine qq<|qj fun K hK=>qm ?_;refine qe hK<|ω ⟨rx,_,_,_,rfl,au (rfl),?_⟩;exact⟨by rw[←hX];rfl,_,_,cX.aD cL (hH.erase 1),cM,fun q hq=>by rw[←hX] at hq;cases hq⟩
      |some q=>
       rw[ho] at hX;obtain⟨rfl,rfl⟩:=hq q ho;refine qC ?_;refine χ<|qj fun K hK=>qm ?_;refine QM (z:=((kk:Nat):Int)) rfl (ev rfl) (ev rfl) (by rw[wrap_i64 (by omega) (by omega)]<;>omega) (ae rfl _) ?_;refine qm ?_;refine qe hK ?_;exact⟨mm-1,by omega,⟨kk,q.1,q.2,rfl,hH,hX,cM,by omega,by omega⟩⟩
theorem B7 {x:Nl} (hx:x.ok):Ev pv 87 [x.d] s0 (.bool (gV x.l)) s0:=by
 refine Ev.h_ rfl ZB rfl rfl rfl ?_;dsimp only[u3,u4,ε,δ,γ,w1,w2];obtain⟨bt,hF,hH⟩:=ri s0;generalize ah .ro s0=S at*;have hc:=hx.c.arg s0.bs.length S;have hl:=hx.nl;have tA:=hx.c;refine qq<|qj fun K hK=>qm ?_;refine qe hK<|qq<|qq<|QE 11 (.bool (decide (((x.l.length:Nat):Int)<1)||decide (((x.l.length:Nat):Int)>480))) [] ?_ (fun ff tmp cY=>?_)
 ·refine qm ?_;refine qn ?_;simp only[η];refine qg ?_;refine qm ?_;refine φ 7 rfl (fun aR=>?_) (fun aR=>?_)
  ·refine qs ?_ (hg:=wn aR);refine qs ?_ (hg:=wn aR);refine qs ?_ (hg:=wn aR);refine qt aR ?_;refine ς (aY ?_ ?_)
   ·dsimp only[aB,ζ,nth,u2,u1]
    all_goals(first|rfl|simp)
   ·dsimp only[ψ,ξ,κ,υ,π,nth,ρ,u1,u2,v1,v2,v3,v4,v5,v6,v7,ε,u3,u4,δ,γ,ι]
    all_goals(simp[aR];done)
  ·refine qm ?_ (hg:=wi aR);refine qn ?_ (hg:=wi aR);simp only[η];refine qg ?_ (hg:=wi aR);refine qu aR ?_;refine ς (aY ?_ ?_)
   ·dsimp only[aB,ζ,nth,u2,u1]
    all_goals(first|rfl|simp)
   ·dsimp only[ψ,ξ,κ,υ,π,nth,ρ,u1,u2,v1,v2,v3,v4,v5,v6,v7,ε,u3,u4,δ,γ,ι]
    all_goals(simp[aR];done)
 dsimp only[aB,ζ,nth,u2,u1]
 by_cases hlen:1≤x.l.length∧x.l.length≤480
 ·have hT:(decide (((x.l.length:Nat):Int)<1)||decide (((x.l.length:Nat):Int)>480))=false:=by
   rw[QV];exact⟨by rw[decide_eq_false_iff_not];omega,by rw[decide_eq_false_iff_not];omega⟩
  rw[hT] at cY
  have hR:gV x.l=(match iX x.l 241 0 0 with|some r=>decide (r.1=x.l.length)|none=>false):=by
   unfold gV;rw[decide_eq_true hlen.1,decide_eq_true hlen.2];rfl
  rw[hR];clear hR;refine qC ?_;refine χ<|qq<|qj fun K hK=>qm ?_;refine aa.gK (qs:=[(0,_)]) rfl rfl rfl rfl ⟨rfl,(ev rfl),(by exact(dr.cells (by assumption)).1),trivial⟩ (by intro q hq;simp only[Ψ,Γ,or_false] at hq;rcases hq with rfl<;>exact⟨rfl,by exact θ rfl⟩) (by show ζ _ [_,_,_] _=_;dsimp only[List.foldl_cons,List.foldl_nil,u2,u1]<;>rfl) (ae rfl _) ?_;refine qb hH fun k14 st Sa hH=>?_;refine qm ?_;refine qe hK ?_;have hH:Has s0.bs.length S st (.box k14 (.mem 0 false (px x.d 0 0))::[]):=hH
  cases aZ:(iX x.l 241 0 0).isSome with
  |true=>
   obtain⟨q,hq⟩:=Option.isSome_iff_exists.1 aZ;refine qq<|qj fun K hK=>qm ?_;obtain⟨_,st,aL,rfl,a',g',hH,cM,UA⟩:=Ec hl hx.i hx.c 241 (by omega) (by omega) hH;refine qv aL ?_;refine qm ?_;refine qm ?_ (hg:=wi aZ);refine qg ?_ (hg:=wi aZ);refine qp (o:=1) ?_ (hg:=wi aZ);refine ql hH av ?_ (hg:=wi aZ);refine qm ?_ (hg:=wi aZ);refine qn ?_ (hg:=wi aZ);simp only[η];refine qg ?_ (hg:=wi aZ);refine qt aZ ?_;refine qm ?_;refine qe hK ?_;obtain⟨rfl,rfl⟩:=UA q hq;rw[hq]
   have he:decide (q.1=x.l.length)=(((q.1:Nat):Int)==((x.l.length:Nat):Int)):=by
    rw[Bool.eq_iff_iff];simp only[decide_eq_true_eq,beq_iff_eq];omega
   simp only[he];refine ω ⟨rx,_,rfl,rl bt hH (rfl)⟩
  |false=>
   have hq:iX x.l 241 0 0=none:=by
    cases hq:iX x.l 241 0 0 with
    |none=>rfl
    |some q=>rw[hq] at aZ;cases aZ
   refine qq<|qj fun K hK=>qm ?_;obtain⟨_,st,aL,rfl,a',g',hH,cM,UA⟩:=Ec hl hx.i hx.c 241 (by omega) (by omega) hH;refine qv aL ?_;refine qm ?_;refine qs ?_ (hg:=wn aZ);refine qs ?_ (hg:=wn aZ);refine qs ?_ (hg:=wn aZ);refine qs ?_ (hg:=wn aZ);refine qs ?_ (hg:=wn aZ);refine qs ?_ (hg:=wn aZ);refine qs ?_ (hg:=wn aZ);refine qu aZ ?_;refine qm ?_;refine qe hK ?_;rw[hq];refine ω ⟨rx,_,rfl,rl bt hH (rfl)⟩
 ·have hT:(decide (((x.l.length:Nat):Int)<1)||decide (((x.l.length:Nat):Int)>480))=true:=by
   rw[QB,decide_eq_true_eq,decide_eq_true_eq];omega
  rw[hT] at cY
  have hR:gV x.l=false:=by
   unfold gV
   by_cases h1:1≤x.l.length
   ·rw[decide_eq_true h1,decide_eq_false (fun h2=>hlen ⟨h1,h2⟩)];rfl
   ·rw[decide_eq_false h1];rfl
  rw[hR];refine qB ?_;refine qq<|qj fun K hK=>qm ?_;refine qe hK<|ω ⟨rx,_,rfl,rl bt hH (rfl)⟩
def aV (fr:Go.V.Fr) (k:Nat):Go.V.D:=Go.V.nth .bD fr.loc k
def ou (es:List Int) (a:Nat) (M:List Int):List Int:=es.take a++M++es.drop (a+M.length)
theorem AW (h:a+M.length≤es.length):(ou es a M).length=es.length:=by
 unfold ou;simp only[μ,QX,List.length_drop];omega
theorem AV:ou es a []=es:=by
 unfold ou;simp
theorem Gm (h:a≤es.length):(ou es a (x::M))[a]?=some x:=by
 unfold ou;rw[ο,List.getElem?_append_right (by simp only[QX];omega)];simp[Nat.min_eq_left h]
theorem AR {M':List Int} (h:a+M.length+M'.length≤es.length):ou (ou es a M) (a+M.length) M'=ou es a (M++M'):=by
 unfold ou;have h1:(es.take a++M).length=a+M.length:=by simp only[μ,QX];omega
 rw[List.take_append_of_le_length (by omega),List.take_of_length_le (by omega)];rw[←h1,List.drop_append,List.drop_eq_nil_of_le (by omega),Qq,h1,List.drop_drop];simp only[ο,μ]
 congr 4
 omega
theorem AU {v:Int} (h:a+1+M.length≤es.length):(ou es (a+1) M).set a v=ou es a (v::M):=by
 unfold ou;have h1:(es.take a).length=a:=by simp only[QX];omega
 rw[ο,List.take_add_one,τ (by omega)];simp only[Option.toList_some,ο,Qv,Qq,ν];rw[List.set_append_right _ _ (by omega),h1,Nat.sub_self,List.set_cons_zero]
 congr 4
 omega
theorem DE (hl:l.length≤1048576) (hi:∀n∈l,n.ok) (hd:dr d 7 (l.map bH)):∀(m:Nat) (t:Tr),t.flat.length≤m→t.ok→∀{N:Nat} {S s0:St} {H:List bJ} {out:D} {es:List Int} {at_:Nat},gu l at_ t.flat→es.length=l.length→Has N S s0 (.aO out 1 (es.map aw)::H)→
  ∃r ai,Ev pv 88 [d,out,.int .i64 (at_:Nat)] s0 r ai∧r=.int .i64 ((at_+t.flat.length:Nat):Int)∧Has N S ai (.aO out 1 ((ou es at_ t.zs).map aw)::H):=by
 intro m
 induction m with
 |zero=>intro t h;have:=t.jb;omega
 |succ m ih=>
  rintro⟨n,ks⟩ hm bA N S s0 H out es at_ kJ tz hH;simp only[Tr.ok] at bA;obtain⟨kh,lj⟩:=bA;simp only[Tr.flat,ν] at hm;have hle:=kJ.le (by simp[Tr.flat]);simp only[Tr.flat] at kJ hle;simp only[ν] at hle;have hn:=kJ.head;have kJ:=kJ.tail;have UR:=hi n (Ω hn);have gB:=mg hn;have Mu:=xE UR;have Tb:=kh.1;have nT:=bW.lM ks;refine Ev.iD rfl ZA rfl rfl rfl ?_;dsimp only[u3,u4,ε,δ,γ,w1,w2];have cX:=hH;have hH:=hH.c8;have cL:(ah .rw s0).bs=s0.bs:=rfl;generalize ah .rw s0=S2 at*;have hc:=hd.arg N S2;refine qq<|qj fun K hK=>qm ?_;refine qe hK<|qq<|qj fun K hK=>qm ?_;refine qm ?_;refine qr fun p13 UN=>?_;refine aa.cA rfl (ev rfl) (by assumption) rfl (by dsimp only[ξ,u1,u2]<;>rfl) ?_;refine qa hH fun k7 st Te hH=>?_;refine aa.vT hH rfl (ev rfl) (ev rfl) (by rfl) (by exact rfl) (by exact av) (by exact rfl) (by exact .inr (by assumption)) (fun st hH=>?_);dsimp only[u2,u1,u3,u4,setMany,u5,u6,Φ,γ,bH,aw] at hH;refine qe hK<|qq<|qj fun K hK=>qm ?_;refine qA ?_;refine qm ?_;refine qe hK<|qq<|qj fun K hK=>qm ?_;refine qe hK<|qq<|qq<|qj fun K hK=>qp (o:=6) ?_;refine ql hH av ?_;refine qm ?_;refine qe hK<|Θ<|QG (fun mm fr st=>∃(i j ss:Nat) (rest:bW) (qF:List Int),fr.clean=⟨36,[d,out,.int .i64 (at_:Nat),aV fr 3,aV fr 4,aV fr 5,.int .i64 0,.ptr k7 0 0,.int .i64 (j:Nat),.int .i64 ((min ss 401:Nat):Int),aV fr 10,aV fr 11,aV fr 12,aV fr 13,aV fr 14,aV fr 15,aV fr 16,aV fr 17,.int .i64 n.kids,.int .i64 (i:Nat),aV fr 20,aV fr 21,aV fr 22,aV fr 23,aV fr 24,aV fr 25,aV fr 26,aV fr 27,aV fr 28,aV fr 29,aV fr 30,aV fr 31,aV fr 32,aV fr 33,aV fr 34,aV fr 35],[]⟩∧Has N S2 st (.aO out 1 (qF.map aw)::.box k7 (.mem 0 false (bH n))::H)∧(mm=rest.len)∧(i+rest.len=ks.len)∧(gu l j rest.flat)∧(rest.ok)∧(ss+rest.sz=ks.sz)∧(qF.length=l.length)∧(ou qF j rest.zs=ou es (at_+1) ks.zs)∧(j+rest.flat.length=at_+1+ks.flat.length)∧(rest.flat.length≤m)) (ks.len) ?_ ?_
  ·exact⟨0,at_+1,0,ks,es,rfl,(by have:=hH.front bh;exact this),rfl,by omega,kJ,lj,by omega,tz,rfl,rfl,by omega⟩
  rintro mm fr st ⟨i,j,ss,rest,qF,hfr,hH,yX,wH,p_,jH,Bm,z7,vU,hj,RH⟩;rw[hfr];clear hfr;generalize aV fr=ee;clear fr;refine qq<|qj fun K hK=>qg ?_;refine qe hK ?_
  cases rest with
  |nil=>
   simp only[bW.len] at wH;simp only[bW.sz] at Bm;simp only[bW.flat,Δ] at hj;simp only[bW.zs,AV] at vU;have jm:decide ((i:Int)<n.kids)=false:=by rw[decide_eq_false_iff_not];omega
   refine qq<|qE rfl (by rw[jm]) ?_;refine QU ?_;obtain rfl:ss=ks.sz:=by omega
   have kJ:=p_;refine qq<|qq<|qj fun K hK=>qp (o:=0) ?_;refine ql hH bh ?_;refine qe hK<|QI (fun fr st=>∃(tmp:List (Nat×D)),fr=⟨36,[d,out,.int .i64 (at_:Nat),aV fr 3,aV fr 4,aV fr 5,.int .i64 0,.ptr k7 0 0,.int .i64 (j:Nat),.int .i64 ((bY n (min ks.sz 401) ks.len:Nat):Int),aV fr 10,aV fr 11,aV fr 12,aV fr 13,aV fr 14,aV fr 15,aV fr 16,aV fr 17,aV fr 18,aV fr 19,aV fr 20,aV fr 21,aV fr 22,aV fr 23,aV fr 24,aV fr 25,aV fr 26,aV fr 27,aV fr 28,aV fr 29,aV fr 30,aV fr 31,aV fr 32,aV fr 33,aV fr 34,aV fr 35],tmp⟩∧Has N S2 st (.aO out 1 (qF.map aw)::.box k7 (.mem 0 false (bH n))::H)) ?_ ?_
   ·refine Θ<|qq<|qq<|qj fun K hK=>qg ?_;refine qm ?_;refine qe hK ?_;generalize hw:min ks.sz 401=w;have XQ:w≤401:=by omega
    have iL:ks.len≤9223372036854775→True:=fun _=>trivial
    by_cases q2:n.op=2
    ·have hz:bY n w ks.len=1:=by unfold bY;rw[if_pos (.inl q2)]
     rw[hz];refine qD rfl (by simp[q2]) ?_;refine χ<|qD rfl (by simp[q2]) ?_;refine qj fun K hK=>qm ?_;refine qe hK ?_;exact⟨_,rfl,hH⟩
    refine qE rfl (by simp[q2]) ?_;refine qq<|qj fun K hK=>qg ?_;refine qm ?_;refine qe hK ?_
    by_cases q7:n.op=7
    ·have hz:bY n w ks.len=1:=by unfold bY;rw[if_pos (.inr (.inl q7))]
     rw[hz];refine qD rfl (by simp[q7]) ?_;refine χ<|qD rfl (by simp[q7]) ?_;refine qj fun K hK=>qm ?_;refine qe hK ?_;exact⟨_,rfl,hH⟩
    refine qE rfl (by simp[q7]) ?_;refine qj fun K hK=>qg ?_;refine qm ?_;refine qe hK ?_
    by_cases q8:n.op=8
    ·have hz:bY n w ks.len=1:=by unfold bY;rw[if_pos (.inr (.inr q8))]
     rw[hz];refine qD rfl (by simp[q8]) ?_;refine qj fun K hK=>qm ?_;refine qe hK ?_;exact⟨_,rfl,hH⟩
    refine qE rfl (by simp[q8]) ?_
    have hz0:bY n w ks.len=if n.op=4 then w+2*(ks.len-1) else if n.op=6 then w+2 else if n.op=5 then(if n.mx=-1 then n.mn.toNat*w+w+2 else n.mn.toNat*w+(n.mx.toNat-n.mn.toNat)*(w+1)) else w:=by
     unfold bY;rw[if_neg (by omega)]
    rw[hz0];clear hz0;obtain⟨_,iy⟩:=kh;have hq:(n.op=1∧ks.len=0)∨((n.op=3∨n.op=4)∧2≤ks.len)∨(n.op=5∧ks.len=1∧0≤n.mn∧n.mn≤30∧(n.mx=-1∨(n.mn≤n.mx∧n.mx≤30)))∨(n.op=6∧ks.len=1∧1≤n.cap∧n.cap≤4):=by omega
    refine qq<|qj fun K hK=>qg ?_;refine qm ?_;refine qe hK ?_
    by_cases q4:n.op=4
    ·rw[if_pos q4];have hk2:2≤ks.len:=by omega
     refine qD rfl (by simp[q4]) ?_;refine qj fun K hK=>qm ?_;refine qp (o:=6) ?_;refine ql hH bh ?_;refine QM (z:=((ks.len-1:Nat):Int)) rfl (ev rfl) (ev rfl) (by rw[wrap_i64 (by omega) (by omega)]<;>omega) (ae rfl _) ?_;refine QR (z:=((2*(ks.len-1):Nat):Int)) rfl (ev rfl) (ev rfl) (by rw[wrap_i64 (by omega) (by omega)]<;>omega) (ae rfl _) ?_;refine QY (z:=((w+2*(ks.len-1):Nat):Int)) rfl (ev rfl) (ev rfl) (by rw[wrap_i64 (by omega) (by omega)]<;>omega) (ae rfl _) ?_;refine qm ?_;refine qe hK ?_;exact⟨_,rfl,hH⟩
    rw[if_neg q4];refine qE rfl (by simp[q4]) ?_;refine qq<|qj fun K hK=>qg ?_;refine qm ?_;refine qe hK ?_
    by_cases q6:n.op=6
    ·rw[if_pos q6];refine qD rfl (by simp[q6]) ?_;refine qj fun K hK=>qm ?_;refine qA ?_;refine qm ?_;refine qe hK ?_;exact⟨_,rfl,hH⟩
    rw[if_neg q6];refine qE rfl (by simp[q6]) ?_;refine qq<|qj fun K hK=>qg ?_;refine qm ?_;refine qe hK ?_
    by_cases q5:n.op=5
    ·rw[if_pos q5];refine qD rfl (by simp[q5]) ?_;refine qq<|qj fun K hK=>qp (o:=3) ?_;refine ql hH bh ?_;refine qg ?_;refine qe hK ?_;have Dh:0≤n.mn∧n.mn≤30∧(n.mx=-1∨(n.mn≤n.mx∧n.mx≤30)):=by omega
     obtain⟨a,ha⟩:∃a:Nat,n.mn=(a:Int):=QZ Dh.1;have F6:n.mn.toNat=a:=by omega
     have h1:a*w≤30*401:=QC (by omega) XQ;have hmul:n.mn*(w:Int)=((a*w:Nat):Int):=by rw[ha];push_cast;rfl
     rw[F6]
     by_cases DW:n.mx=-1
     ·rw[if_pos DW];refine qD rfl (by simp[DW]) ?_;refine qj fun K hK=>qp (o:=2) ?_;refine ql hH bh ?_;refine qm ?_;refine QR (z:=((a*w:Nat):Int)) rfl (ev rfl) (ev rfl) (by rw[wrap_i64 (by omega) (by omega)]<;>omega) (ae rfl _) ?_;refine qm ?_;refine QY (z:=((a*w+w:Nat):Int)) rfl (ev rfl) (ev rfl) (by rw[wrap_i64 (by omega) (by omega)]<;>omega) (ae rfl _) ?_;refine QY (z:=((a*w+w+2:Nat):Int)) rfl (ev rfl) (ev rfl) (by rw[wrap_i64 (by omega) (by omega)]<;>omega) (ae rfl _) ?_;refine qm ?_;refine qe hK ?_;exact⟨_,rfl,hH⟩
     ·rw[if_neg DW];obtain⟨b,hb⟩:∃b:Nat,n.mx=(b:Int):=QZ (by omega);have htb:n.mx.toNat=b:=by omega
      have h2:(b-a)*(w+1)≤30*402:=QC (by omega) (by omega);rw[htb];refine qE rfl (by simp[DW]) ?_;refine qj fun K hK=>qp (o:=2) ?_;refine ql hH bh ?_;refine qm ?_;refine QR (z:=((a*w:Nat):Int)) rfl (ev rfl) (ev rfl) (by rw[wrap_i64 (by omega) (by omega)]<;>omega) (ae rfl _) ?_;refine qp (o:=3) ?_;refine ql hH bh ?_;refine qp (o:=2) ?_;refine ql hH bh ?_;refine QM (z:=((b-a:Nat):Int)) rfl (ev rfl) (ev rfl) (by rw[wrap_i64 (by omega) (by omega)]<;>omega) (ae rfl _) ?_;refine qm ?_;refine QY (z:=((w+1:Nat):Int)) rfl (ev rfl) (ev rfl) (by rw[wrap_i64 (by omega) (by omega)]<;>omega) (ae rfl _) ?_;refine QR (z:=(((b-a)*(w+1):Nat):Int)) rfl (ev rfl) (ev rfl) (by rw[wrap_i64 (by omega) (by omega)]<;>omega) (ae rfl _) ?_;refine QY (z:=((a*w+(b-a)*(w+1):Nat):Int)) rfl (ev rfl) (ev rfl) (by rw[wrap_i64 (by omega) (by omega)]<;>omega) (ae rfl _) ?_;refine qm ?_;refine qe hK ?_;exact⟨_,rfl,hH⟩
    ·rw[if_neg q5];refine qE rfl (by simp[q5]) ?_;refine χ ?_;exact⟨_,rfl,hH⟩
   ·rintro fr st ⟨tmp,hfr,hH⟩;rw[hfr];clear hfr;generalize aV fr=ee;clear fr;have mC:=M_ (n:=n) (k:=ks.len) (s:=ks.sz);have jv:at_<qF.length:=by omega
    obtain⟨w,hw⟩:∃w,qF[at_]?=some w:=⟨qF[at_]'jv,τ _⟩
    have hr9:=eA hw;refine qq<|qj fun K hK=>qm ?_;refine qm ?_;refine qm ?_;refine aa.T6 (z:=((min (bY n ks.sz ks.len) 401:Nat):Int)) (t1:=_) (t2:=_) rfl (ev rfl) (ev rfl) (by omega) (ae rfl _) ?_;refine qi hH av fun p81 Yg=>?_;refine aa.gX hH rfl (ev rfl) (ev rfl) (by assumption) rfl rfl (by exact av) (by assumption) (θ rfl) (by exact .inr rfl) (fun st hH=>?_);dsimp only[u2,u1,u3,u4,setMany,u5,u6,Φ,γ,bH,aw] at hH;refine qe hK<|qq<|qj fun K hK=>qm ?_;refine qm ?_;refine qe hK<|ω ⟨rx,_,_,_,rfl,au (rfl),?_⟩;have YP:j=at_+(Tr.mk n ks).flat.length:=by simp only[Tr.flat,ν];omega
    refine⟨by rw[YP];rfl,?_⟩
    have gb:ou es at_ (Tr.zs (.mk n ks))=qF.set at_ ((min (bY n ks.sz ks.len) 401:Nat):Int):=by
     rw[vU,AU (by rw[bW.jB];omega)];rfl
    rw[gb,QJ];exact cX.xQ cL (hH.erase 1)
  |cons t ts=>
   simp only[bW.len] at wH yX;simp only[bW.sz] at Bm;simp only[bW.flat,μ] at hj p_ RH;simp only[bW.zs] at vU;simp only[bW.ok] at jH;have jm:decide ((i:Int)<n.kids)=true:=by rw[decide_eq_true_eq];omega
   have Up:=t.jb;have Rw:=t.jB;have Ug:=ts.jB;have Sg:(ou qF j t.zs).length=l.length:=by rw[AW (by omega)];exact z7
   have hz8:(ou qF j t.zs)[j]?=some ((min t.sz 401:Nat):Int):=by
    obtain⟨n',Uc⟩:=t;simp only[Tr.zs,Tr.sz];exact Gm (by omega)
   have hr8:=eA hz8;refine qq<|qD rfl (by rw[jm]) ?_;refine χ<|qq<|Θ<|qq<|qj fun K hK=>qm ?_;refine qm ?_;refine qe hK<|qq<|qj fun K hK=>qm ?_;refine qm ?_;refine qm ?_;obtain⟨_,st,aL,rfl,hH⟩:=ih t (by omega) jH.1 p_.left z7 hH;refine qv aL ?_;refine qm ?_;refine qe hK<|qj fun K hK=>qm ?_;refine qm ?_;refine qm ?_;refine qi hH av fun p29 UH=>?_;refine qo hH av ?_;refine QY (z:=((min ss 401+min t.sz 401:Nat):Int)) rfl (ev rfl) (ev rfl) (by rw[wrap_i64 (by omega) (by omega)]<;>omega) (by dsimp only[ξ,u1,u2]<;>rfl) ?_;refine aa.T6 (z:=((min (ss+t.sz) 401:Nat):Int)) (t1:=_) (t2:=_) rfl (ev rfl) (ev rfl) (by omega) (by dsimp only[ξ,u1,u2]<;>rfl) ?_;refine qm ?_;refine qe hK<|qj fun K hK=>qA ?_;refine qm ?_;refine qe hK ?_;exact⟨mm-1,by omega,⟨i+1,j+t.flat.length,ss+t.sz,ts,ou qF j t.zs,rfl,hH,by omega,by omega,p_.right,jH.2,by omega,Sg,by rw[←vU];have:=AR (es:=qF) (a:=j) (M:=t.zs) (M':=ts.zs) (by omega);rw[Rw] at this;exact this,by omega,by omega⟩⟩
theorem M1 (hl:l.length≤1048576) (hi:∀n∈l,n.ok) (hd:dr d 7 (l.map bH)):∀(m:Nat) (t:Tr),t.flat.length≤m→t.ok→∀{N:Nat} {S s0:St} {H:List bJ} {out:D} {es:List Int} {at_:Nat},gu l at_ t.flat→es.length=l.length→Has N S s0 (.aO out 1 (es.map aw)::H)→
  ∃r ai,Ev pv 89 [d,out,.int .i64 (at_:Nat)] s0 r ai∧r=.int .i64 ((at_+t.flat.length:Nat):Int)∧Has N S ai (.aO out 1 ((ou es at_ (t.es at_)).map aw)::H):=by
 intro m
 induction m with
 |zero=>intro t h;have:=t.jb;omega
 |succ m ih=>
  rintro⟨n,ks⟩ hm bA N S s0 H out es at_ kJ tz hH;simp only[Tr.ok] at bA;obtain⟨kh,lj⟩:=bA;simp only[Tr.flat,ν] at hm;have hle:=kJ.le (by simp[Tr.flat]);simp only[Tr.flat] at kJ hle;simp only[ν] at hle;have hn:=kJ.head;have kJ:=kJ.tail;have UR:=hi n (Ω hn);have gB:=mg hn;have Tb:=kh.1;have nT:=bW.lM ks;refine Ev.iD rfl Zz rfl rfl rfl ?_;dsimp only[u3,u4,ε,δ,γ,w1,w2];have cX:=hH;have hH:=hH.c8;have cL:(ah .rw s0).bs=s0.bs:=rfl;generalize ah .rw s0=S2 at*;have hc:=hd.arg N S2;refine qq<|qj fun K hK=>qm ?_;refine qe hK<|qq<|qj fun K hK=>qm ?_;refine qA ?_;refine qm ?_;refine qe hK<|qq<|qq<|qj fun K hK=>qm ?_;refine qm ?_;refine qr fun p12 UO=>?_;refine qf (fo:=6) fun p13 UN=>?_;refine qR ?_;refine qm ?_;refine qe hK<|Θ<|QG (fun mm fr st=>∃(i j:Nat) (rest:bW) (qF:List Int),fr.clean=⟨16,[d,out,.int .i64 (at_:Nat),aV fr 3,aV fr 4,aV fr 5,.int .i64 0,.int .i64 (j:Nat),aV fr 8,aV fr 9,aV fr 10,aV fr 11,aV fr 12,aV fr 13,.int .i64 n.kids,.int .i64 (i:Nat)],[]⟩∧Has N S2 st (.aO out 1 (qF.map aw)::H)∧(mm=rest.len)∧(i+rest.len=ks.len)∧(gu l j rest.flat)∧(rest.ok)∧(qF.length=l.length)∧(ou qF j (rest.es j)=ou es (at_+1) (ks.es (at_+1)))∧(j+rest.flat.length=at_+1+ks.flat.length)∧(rest.flat.length≤m)) (ks.len) ?_ ?_
  ·exact⟨0,at_+1,ks,es,rfl,hH,rfl,by omega,kJ,lj,tz,rfl,rfl,by omega⟩
  rintro mm fr st ⟨i,j,rest,qF,hfr,hH,yX,wH,p_,jH,z7,vU,hj,RH⟩;rw[hfr];clear hfr;generalize aV fr=ee;clear fr;refine qq<|qj fun K hK=>qg ?_;refine qe hK ?_
  cases rest with
  |nil=>
   simp only[bW.len] at wH;simp only[bW.flat,Δ] at hj;simp only[bW.es,AV] at vU;have jm:decide ((i:Int)<n.kids)=false:=by rw[decide_eq_false_iff_not];omega
   have jv:at_<qF.length:=by omega
   obtain⟨w,hw⟩:∃w,qF[at_]?=some w:=⟨qF[at_]'jv,τ _⟩
   have hr9:=eA hw;refine qq<|qE rfl (by rw[jm]) ?_;refine QU<|qq<|qj fun K hK=>qm ?_;refine qm ?_;refine qm ?_;refine qi hH av fun S3 CC=>?_;refine aa.gX hH rfl (ev rfl) (ev rfl) (by assumption) rfl rfl (by exact av) (by assumption) (θ rfl) (by exact .inr rfl) (fun st hH=>?_);dsimp only[u2,u1,u3,u4,setMany,u5,u6,Φ,γ,bH,aw] at hH;refine qe hK<|qq<|qj fun K hK=>qm ?_;refine qm ?_;refine qe hK<|ω ⟨rx,_,_,_,rfl,au (rfl),?_⟩;have YP:j=at_+(Tr.mk n ks).flat.length:=by simp only[Tr.flat,ν];omega
   refine⟨by rw[YP];rfl,?_⟩
   have gb:ou es at_ (Tr.es (.mk n ks) at_)=qF.set at_ ((j:Nat):Int):=by
    rw[vU,AU (by rw[bW.jK];omega)];have:j=at_+1+ks.flat.length:=by omega
    rw[this];rfl
   rw[gb,QJ];exact cX.xQ cL hH
  |cons t ts=>
   simp only[bW.len] at wH yX;simp only[bW.flat,μ] at hj p_ RH;simp only[bW.es] at vU;simp only[bW.ok] at jH;have jm:decide ((i:Int)<n.kids)=true:=by rw[decide_eq_true_eq];omega
   have Up:=t.jb;have Rw:=t.jK j;have Ug:=ts.jK (j+t.flat.length);have Sg:(ou qF j (t.es j)).length=l.length:=by rw[AW (by omega)];exact z7
   refine qq<|qD rfl (by rw[jm]) ?_;refine χ<|qq<|Θ<|qj fun K hK=>qm ?_;refine qm ?_;refine qm ?_;obtain⟨_,st,aL,rfl,hH⟩:=ih t (by omega) jH.1 p_.left z7 hH;refine qv aL ?_;refine qm ?_;refine qe hK<|qj fun K hK=>qA ?_;refine qm ?_;refine qe hK ?_;exact⟨mm-1,by omega,⟨i+1,j+t.flat.length,ts,ou qF j (t.es j),rfl,hH,by omega,by omega,p_.right,jH.2,Sg,by rw[←vU];have:=AR (es:=qF) (a:=j) (M:=t.es j) (M':=ts.es (j+t.flat.length)) (by omega);rw[Rw] at this;exact this,by omega,by omega⟩⟩
theorem hY {w:D} {op:Int} {rs:List Rg} (hF:S.flr≤N) (hl:code.length≤1048576) (hH:Has N S s0 (.aO w 2 (rs.map ax)::.box k (.mem 0 false [cd,nd,zd,ed])::.deep ks cd 4 (code.map aC)::H)):
  ∃r ai,Ev pv 90 [.ptr k 0 0,.agg [.int .i64 op,.int .i64 x,.int .i64 y,w]] s0 r ai∧r=.int .i64 (code.length:Nat)∧∃cd' Uc,Has N S ai (.box k (.mem 0 false [cd',nd,zd,ed])::.deep Uc cd' 4 ((code++[dx op x y rs]).map aC)::H):=by
 refine Ev.iD rfl Zy rfl rfl rfl ?_;dsimp only[u3,u4,ε,δ,γ,w1,w2];change ab _ _ _ _ s0 _;refine qq<|qj fun K hK=>qb hH fun k3 st qX hH=>?_;refine qm ?_;refine qe hK<|qq<|qj fun K hK=>qm ?_;refine qm ?_;refine qg ?_;refine qp (o:=0) ?_;refine ql hH dF ?_;refine QT (m:=4) hH rfl (ev rfl) (by exact av) (by dsimp only[Qx,Qk,Qz,Qy,aC]<;>rfl) rfl rfl (ae rfl _) ?_;refine qh (s:=4) (vs:=[_]) hH fun k11 st MN hH=>?_;obtain⟨hH,MU⟩:=hH.tm (i:=2) (j:=4) (by decide) dF gH (eo _);dsimp only[u1,u2] at hH;refine aa.kN hH rfl (ev rfl) (ev rfl) gH (hH.rows av) (.cons (.cons (.plain _ rfl) (.cons (.plain _ rfl) (.cons (.plain _ rfl) (.cons MU .nil)))) .nil) rfl rfl rfl rfl rfl rfl rfl ⟨(θ rfl),(θ rfl)⟩ (fun _=>(ae rfl _)) (by simp only[η,ν,Δ];omega) (.inl hF) (fun x12 st hH=>?_);dsimp only[u1,u2] at hH;refine qg ?_;refine qp (o:=0) ?_;refine aa.mU hH rfl (ev rfl) (ev rfl) (by exact hH.sZ (by exact gH)) (by exact rfl) (by exact fm) (by exact θ rfl) (by exact .inl hF) (fun st hH=>?_);dsimp only[u2,u1,u3,u4,setMany,u5,u6,Φ,γ,aC] at hH;refine qe hK<|qq<|qj fun K hK=>qm ?_;refine qg ?_;refine qp (o:=0) ?_;refine ql hH fm ?_;refine QS hH rfl (ev rfl) (by exact gH) rfl (ae rfl _) ?_;simp only[η,μ,ν,Δ];refine QM (z:=((code.length:Nat):Int)) rfl (ev rfl) (ev rfl) (by rw[wrap_i64 (by omega) (by omega)]<;>omega) (ae rfl _) ?_;refine qm ?_;refine qe hK<|ω ⟨rx,_,_,_,rfl,rfl,?_⟩;exact⟨rfl,_,_,by rw[QD];exact hH.drop 3⟩
theorem rn {over:Nat} {lz:Bool} (jv:code[at_]?=some (dx 2 x y [])) (hl:code.length≤1048576) (hH:Has N S s0 (.box k (.mem 0 false [cd,nd,zd,ed])::.deep ks cd 4 (code.map aC)::H)):
  ∃r ai,Ev pv 139 [.ptr k 0 0,.int .i64 (at_:Nat),.int .i64 (over:Nat),.bool lz] s0 r ai∧r=.tup []∧Has N S ai (.box k (.mem 0 false [cd,nd,zd,ed])::.deep ks cd 4 ((code.set at_ (oC at_ over lz)).map aC)::H):=by
 have hlt:=bC jv;have gB:(code.map aC)[at_]?=some [.int .i64 2,.int .i64 x,.int .i64 y,.sl []]:=eB jv;have gb:∀a b:List D,(code.map aC).set at_ a=(code.map aC).set at_ a:=fun _ _=>rfl;refine Ev.iD rfl V1 rfl rfl rfl ?_;dsimp only[u3,u4,ε,δ,γ,w1,w2];have cX:=hH;have hH:=hH.c8;have cL:(ah .rw s0).bs=s0.bs:=rfl;generalize ah .rw s0=S2 at*;refine qq<|qj fun K hK=>qm ?_;refine qg ?_;refine qp (o:=0) ?_;refine ql hH av ?_;refine qm ?_;refine qm ?_;refine qg ?_;refine qp (o:=0) ?_;refine ql hH av ?_;refine qm ?_;refine qm ?_;refine QY (z:=((at_+1:Nat):Int)) rfl (ev rfl) (ev rfl) (by rw[wrap_i64 (by omega) (by omega)]<;>omega) (ae rfl _) ?_;refine qm ?_;refine QP (s:=4) hH rfl (ev rfl) (ev rfl) (by exact bh) rfl rfl (by exact bC (by assumption)) (fun _=>(ae rfl _)) (fun T0 ES=>?_);refine QL (fo:=1) (m:=0) (o2:=1) rfl (ev rfl) (by assumption) rfl rfl rfl (fun _=>(ae rfl _)) (fun TZ ER=>?_);refine QN hH rfl (ev rfl) (ev rfl) (by assumption) rfl rfl (by exact bh) (by assumption) (θ rfl) (by intro d hd;simp only[Ψ,Γ,or_false] at hd;subst hd;rfl) (by exact .inr rfl) (fun st hH=>?_);dsimp only[u2,u1,u3,u4,setMany,u5,u6,Φ,γ,aC] at hH;refine QP (s:=4) hH rfl (ev rfl) (ev rfl) (by exact bh) rfl rfl (by simp only[η,QQ]<;>omega) (fun _=>(ae rfl _)) (fun Xz RW=>?_);refine QL (fo:=2) (m:=0) (o2:=2) rfl (ev rfl) (by assumption) rfl rfl rfl (fun _=>(ae rfl _)) (fun Q9 zS=>?_);refine QN hH rfl (ev rfl) (ev rfl) (by assumption) rfl rfl (by exact bh) (Ξ (by simp only[η];omega)) (θ rfl) (by intro d hd;simp only[Ψ,Γ,or_false] at hd;subst hd;rfl) (by exact .inr rfl) (fun st hH=>?_);dsimp only[u1,u2,setMany] at hH;rw[QK] at hH;refine qe hK<|qq<|qj fun K hK=>qm ?_;refine qe hK ?_
 cases lz with
 |false=>
  refine qC ?_;refine χ ?_;refine⟨fun i h=>(by cases h),_,_,_,rfl,au rfl,?_⟩;exact⟨rfl,by rw[QJ];exact cX.xR cL hH⟩
 |true=>
  refine qB ?_;refine qj fun K hK=>qm ?_;refine qg ?_;refine qp (o:=0) ?_;refine ql hH av ?_;refine qm ?_;refine qm ?_;refine qg ?_;refine qp (o:=0) ?_;refine ql hH av ?_;refine qm ?_;refine qm ?_;refine qm ?_;refine QY (z:=((at_+1:Nat):Int)) rfl (ev rfl) (ev rfl) (by rw[wrap_i64 (by omega) (by omega)]<;>omega) (ae rfl _) ?_;refine QP (s:=4) hH rfl (ev rfl) (ev rfl) (by exact bh) rfl rfl (by simp only[η,QQ]<;>omega) (fun _=>(ae rfl _)) (fun Xu RR=>?_);refine QL (fo:=1) (m:=0) (o2:=1) rfl (ev rfl) (by assumption) rfl rfl rfl (fun _=>(ae rfl _)) (fun p40 Yn=>?_);refine QN hH rfl (ev rfl) (ev rfl) (by assumption) rfl rfl (by exact bh) (Ξ (by simp only[η];omega)) (θ rfl) (by intro d hd;simp only[Ψ,Γ,or_false] at hd;subst hd;rfl) (by exact .inr rfl) (fun st hH=>?_);dsimp only[u1,u2,setMany] at hH;rw[QK] at hH;refine QP (s:=4) hH rfl (ev rfl) (ev rfl) (by exact bh) rfl rfl (by simp only[η,QQ]<;>omega) (fun _=>(ae rfl _)) (fun p41 abl=>?_);refine QL (fo:=2) (m:=0) (o2:=2) rfl (ev rfl) (by assumption) rfl rfl rfl (fun _=>(ae rfl _)) (fun p42 Ym=>?_);refine QN hH rfl (ev rfl) (ev rfl) (by assumption) rfl rfl (by exact bh) (Ξ (by simp only[η];omega)) (θ rfl) (by intro d hd;simp only[Ψ,Γ,or_false] at hd;subst hd;rfl) (by exact .inr rfl) (fun st hH=>?_);dsimp only[u1,u2,setMany] at hH;rw[QK] at hH;refine qe hK ?_;refine⟨fun i h=>(by cases h),_,_,_,rfl,au rfl,?_⟩;exact⟨rfl,by rw[QJ];exact cX.xR cL hH⟩
def aA (fr:Go.V.Fr) (k:Nat):Go.V.D:=Go.V.nth .bD fr.loc k
def lH (n:Nat):List D:=[.int .i64 (n:Nat)]
theorem xH {l:List Nat} {i q:Nat} (h:l[i]?=some q):(l.map lH)[i]?=some (lH q):=by rw[List.getElem?_map,h];rfl
def Tp (N:Nat) (S st:St) (k:Nat) (nd zd ed:D) (Z E:List Int) (H:List bJ) (code:List aQ):Prop:=
 ∃cd ks,Has N S st (.box k (.mem 0 false [cd,nd,zd,ed])::.deep ks cd 4 (code.map aC)::.aO zd 1 (Z.map aw)::.aO ed 1 (E.map aw)::H)
def tp (l:List ej) (t:Tr):Prop:=∀{N k:Nat} {S s0:St} {H:List bJ} {nd zd ed:D} {code:List aQ} {Z E:List Int} {at_:Nat},S.flr≤N→dr nd 7 (l.map bH)→gu l at_ t.flat→gu Z at_ t.zs→gu E at_ (t.es at_)→t.ok→code.length+t.sz≤1000000→Tp N S s0 k nd zd ed Z E H code→
 ∃r ai,Ev pv 91 [.ptr k 0 0,.int .i64 (at_:Nat)] s0 r ai∧r=.tup []∧Tp N S ai k nd zd ed Z E H (code++bc t code.length)
theorem BD (h:gu E a (t.es a)):E[a]?=some ((a+t.flat.length:Nat):Int):=by
 obtain⟨n,ks⟩:=t;simp only[Tr.es] at h;rw[h.head];simp only[Tr.flat,ν]
 congr 2;omega
theorem AH (h:gu Z a t.zs):Z[a]?=some ((min t.sz 401:Nat):Int):=by
 obtain⟨n,ks⟩:=t;simp only[Tr.zs] at h;rw[h.head];rfl
theorem SO (wG:l.length≤1048576) {m:Nat} (ih:∀t:Tr,t.flat.length≤m→tp l t) {ks:bW} (gv:n.op=4) (Yz:ks.flat.length≤m) (kh:xF n ks.len) (lj:ks.ok) (hF:S.flr≤N) (zV:dr nd 7 (l.map bH)) (iE:gu l at_ (n::ks.flat)) (hsz:gu Z (at_+1) ks.zs) (sy:gu E (at_+1) (ks.es (at_+1))) (hb:code.length+bY n ks.sz ks.len≤1000000) (hM:Tp N S s0 k nd zd ed Z E H code):
  ∃r ai,Ev pv 124 [.ptr k 0 0,.int .i64 (at_:Nat)] s0 r ai∧r=.tup []∧Tp N S ai k nd zd ed Z E H (code++fp (nO (code.length+bY n ks.sz ks.len)) ks code.length):=by
 obtain⟨cd,dk,hH⟩:=hM;have hle:=iE.le (by simp);simp only[ν] at hle;have hn:=iE.head;have iE:=iE.tail;have gB:=mg hn;have Tb:=kh.1;have iL:=bW.lM ks
 have hk2:2≤ks.len:=by
  obtain⟨_,hq⟩:=kh;omega
 have MC:bY n ks.sz ks.len=ks.sz+2*(ks.len-1):=by unfold bY;rw[if_neg (by omega),if_pos gv]
 rw[MC] at hb⊢;clear MC;refine Ev.iD rfl Wb rfl rfl rfl ?_;dsimp only[u3,u4,ε,δ,γ,w1,w2];change ab _ _ _ _ s0 _;have hc:=zV.arg N S;refine qq<|qj fun K hK=>qm ?_;refine qe hK<|qq<|qj fun K hK=>qm ?_;refine qA ?_;refine qm ?_;refine qe hK<|qq<|qq<|qj fun K hK=>qm ?_;refine qg ?_;refine qp (o:=1) ?_;refine ql hH av ?_;refine qm ?_;refine qr fun XA RX=>?_;refine qf (fo:=6) fun p18 UJ=>?_;refine qR ?_;refine qm ?_;refine qe hK ?_;have hH:Has N S s0 (.box k (.mem 0 false [cd,nd,zd,ed])::.deep dk cd 4 (code.map aC)::.aO zd 1 (Z.map aw)::.aO ed 1 (E.map aw)::.aO .nul 1 (([]:List Nat).map lH)::H):=(hH.ew 1).LK;refine Θ<|QG (fun mm fr st=>∃(i j:Nat) (rest:bW) (cd jd:D) (dk:Nat→Prop) (bw:List aQ) (js:List Nat),fr.clean=⟨68,[.ptr k 0 0,.int .i64 (at_:Nat),aA fr 2,aA fr 3,jd,.int .i64 (j:Nat),aA fr 6,aA fr 7,aA fr 8,aA fr 9,aA fr 10,aA fr 11,aA fr 12,aA fr 13,aA fr 14,aA fr 15,aA fr 16,aA fr 17,aA fr 18,.int .i64 n.kids,.int .i64 (i:Nat),aA fr 21,aA fr 22,aA fr 23,aA fr 24,aA fr 25,aA fr 26,aA fr 27,aA fr 28,aA fr 29,aA fr 30,aA fr 31,aA fr 32,aA fr 33,aA fr 34,aA fr 35,aA fr 36,aA fr 37,aA fr 38,aA fr 39,aA fr 40,aA fr 41,aA fr 42,aA fr 43,aA fr 44,aA fr 45,aA fr 46,aA fr 47,aA fr 48,aA fr 49,aA fr 50,aA fr 51,aA fr 52,aA fr 53,aA fr 54,aA fr 55,aA fr 56,aA fr 57,aA fr 58,aA fr 59,aA fr 60,aA fr 61,aA fr 62,aA fr 63,aA fr 64,aA fr 65,aA fr 66,aA fr 67],[]⟩∧Has N S st (.box k (.mem 0 false [cd,nd,zd,ed])::.deep dk cd 4 (bw.map aC)::.aO zd 1 (Z.map aw)::.aO ed 1 (E.map aw)::.aO jd 1 (js.map lH)::H)∧(mm=rest.len)∧(i+rest.len=ks.len)∧(0<rest.len)∧(gu l j rest.flat)∧(gu Z j rest.zs)∧(gu E j (rest.es j))∧(rest.ok)∧(bw++fp (nO 0) rest bw.length=code++fp (nO 0) ks code.length)∧(js++ti rest bw.length=ti ks code.length)∧(bw.length+(rest.sz+2*(rest.len-1))=code.length+(ks.sz+2*(ks.len-1)))∧(rest.flat.length≤m)∧(js.length≤i)) (ks.len) ?_ ?_
 ·exact⟨0,at_+1,ks,cd,.nul,dk,code,[],rfl,hH,rfl,by omega,by omega,iE,hsz,sy,lj,rfl,rfl,rfl,Yz,by simp⟩
 rintro mm fr st ⟨i,j,rest,cd,jd,dk,bw,js,hfr,hH,yX,wH,S_,p_,xY,pZ,jH,ja,hjs,hcl,RH,jI⟩;rw[hfr];clear hfr;generalize aA fr=ee;clear fr;refine qq<|qj fun K hK=>qg ?_;refine qe hK ?_
 cases rest with
 |nil=>simp[bW.len] at S_
 |cons t ts=>
  simp only[bW.len] at wH yX hcl;simp only[bW.sz] at hcl;simp only[bW.flat,μ] at p_ RH;simp only[bW.zs] at xY;simp only[bW.es] at pZ;simp only[bW.ok] at jH;have Rw:=t.jB;have Ur:=t.jK j;have Cx:=cS t (bw.length+1) jH.1;have X9:=eA (BD pZ.left);have jm:decide ((i:Int)<n.kids)=true:=by rw[decide_eq_true_eq];omega
  refine qq<|qD rfl (by rw[jm]) ?_;refine χ<|qq<|Θ<|qq<|qj fun K hK=>qm ?_;refine qm ?_;refine qe hK<|qq<|qq<|qj fun K hK=>qm ?_;refine qm ?_;refine qg ?_;refine qp (o:=1) ?_;refine ql hH av ?_;refine qm ?_;refine qr fun p29 UH=>?_;refine qf (fo:=6) fun p30 UG=>?_;refine qR ?_;refine QM (z:=((ks.len-1:Nat):Int)) rfl (ev rfl) (ev rfl) (by rw[wrap_i64 (by omega) (by omega)]<;>omega) (by dsimp only[ξ,u1,u2]<;>rfl) ?_;refine qg ?_;refine qe hK ?_
  by_cases pO:ts.len=0
  ·simp only[fp,ti,if_pos pO,QF] at ja hjs;have htn:=bW.len_nil pO;subst htn;simp only[bW.sz,bW.len] at hcl wH;have Si:(((i:Nat):Int)==((ks.len-1:Nat):Int))=true:=by rw[beq_iff_eq];omega
   refine qD rfl (by rw[Si]) ?_;refine qq<|qj fun K hK=>qm ?_;refine qm ?_;obtain⟨_,st,aL,rfl,cd,dk,hH⟩:=ih t (by omega) hF zV p_.left xY.left pZ.left jH.1 (by omega) ⟨cd,dk,hH⟩;refine qv aL ?_;refine qe hK<|QU<|qq<|qj fun K hK=>qm ?_;refine qn ?_ (hR:=hH.rows gH);simp only[η];refine qm ?_;refine qe hK ?_;rw[ja] at hH;have hal:=tg (nO 0) ks code.length lj;obtain⟨zU,Df⟩:=pr (jp:=nO (code.length+(ks.sz+2*(ks.len-1)))) (i0:=nO 0) ks code.length code [] lj rfl;simp only[QF] at zU Df;have Zr:(code++fp (nO 0) ks code.length).length=code.length+(ks.sz+2*(ks.len-1)):=by rw[μ,hal]
   rw[←hjs] at zU Df;rw[←zU];clear zU ja;generalize code++fp (nO 0) ks code.length=C0 at*;generalize code.length+(ks.sz+2*(ks.len-1))=e at*;refine Θ<|QG (fun mm fr st=>∃(q:Nat) (C:List aQ),fr.clean=⟨68,[.ptr k 0 0,aA fr 1,aA fr 2,aA fr 3,aA fr 4,aA fr 5,aA fr 6,aA fr 7,aA fr 8,aA fr 9,aA fr 10,aA fr 11,aA fr 12,aA fr 13,aA fr 14,aA fr 15,aA fr 16,aA fr 17,aA fr 18,aA fr 19,aA fr 20,aA fr 21,aA fr 22,aA fr 23,aA fr 24,aA fr 25,aA fr 26,aA fr 27,aA fr 28,aA fr 29,aA fr 30,aA fr 31,aA fr 32,aA fr 33,aA fr 34,aA fr 35,aA fr 36,aA fr 37,aA fr 38,aA fr 39,aA fr 40,aA fr 41,aA fr 42,aA fr 43,aA fr 44,aA fr 45,aA fr 46,aA fr 47,aA fr 48,aA fr 49,aA fr 50,aA fr 51,aA fr 52,aA fr 53,aA fr 54,aA fr 55,aA fr 56,aA fr 57,aA fr 58,aA fr 59,aA fr 60,aA fr 61,aA fr 62,aA fr 63,aA fr 64,jd,.int .i64 (js.length:Nat),.int .i64 (q:Nat)],[]⟩∧Has N S st (.box k (.mem 0 false [cd,nd,zd,ed])::.deep dk cd 4 (C.map aC)::.aO zd 1 (Z.map aw)::.aO ed 1 (E.map aw)::.aO jd 1 (js.map lH)::H)∧(q+mm=js.length)∧(iU (fun _=>nO e) C (js.drop q)=iU (fun _=>nO e) C0 js)∧(∀p∈js,∃v:Int,C[p]?=some (dx 3 v 0 []))∧(C.length=e)) (js.length) ?_ ?_
   ·exact⟨0,C0,rfl,hH,by omega,rfl,fun p hp=>⟨_,Df p hp⟩,Zr⟩
   rintro mm fr st ⟨q,C,hfr,hH,hq,fO,nU,Tm⟩;rw[hfr];clear hfr;generalize aA fr=ee;clear fr;refine qq<|qj fun K hK=>qg ?_;refine qe hK<|qq ?_;refine Qw (by rfl) (fun hlt=>?_) (fun hlt=>?_)<;>try simp only[decide_eq_true_eq,decide_eq_false_iff_not] at hlt
   ·refine χ ?_;have NC:q<js.length:=by omega
    obtain⟨p,hp⟩:∃p,js[q]?=some p:=⟨js[q]'NC,τ _⟩
    obtain⟨v,hv⟩:=nU p (Ω hp);have gB:=xH hp;have mV:=eB hv;have ib:=bC hv;refine qq<|Θ<|qq<|qj fun K hK=>qi hH gH fun p69 aa7=>?_;refine qo hH gH ?_;refine qm ?_;refine qe hK<|qj fun K hK=>qm ?_;refine qg ?_;refine qp (o:=0) ?_;refine ql hH av ?_;refine qm ?_;refine qm ?_;refine qg ?_;refine qp (o:=0) ?_;refine ql hH av ?_;refine QS hH rfl (ev rfl) (by exact bh) rfl (ae rfl _) ?_;simp only[η];refine QP (s:=4) hH rfl (ev rfl) (ev rfl) (by exact bh) rfl rfl (by exact bC (by assumption)) (fun _=>(ae rfl _)) (fun p81 Yg=>?_);refine QL (fo:=1) (m:=0) (o2:=1) rfl (ev rfl) (by assumption) rfl rfl rfl (fun _=>(ae rfl _)) (fun p82 aa3=>?_);refine QN hH rfl (ev rfl) (ev rfl) (by assumption) rfl rfl (by exact bh) (by assumption) (θ rfl) (by intro d hd;simp only[Ψ,Γ,or_false] at hd;subst hd;rfl) (by exact .inl hF) (fun st hH=>?_);dsimp only[u2,u1,u3,u4,setMany,u5,u6,Φ,γ,aC,bH,aw,lH] at hH;refine qe hK<|qj fun K hK=>qA ?_;refine qm ?_;refine qe hK ?_
    have tI:js.drop q=p::js.drop (q+1):=by
     rw[List.drop_eq_getElem_cons NC]
     congr 1
     exact Option.some.inj ((τ _).symm.trans hp)
    refine⟨mm-1,by omega,⟨q+1,C.set p (nO e),rfl,(by rw[QJ,←Tm];exact hH),by omega,by rw[tI] at fO;exact fO,?_,by rw[QQ];exact Tm⟩⟩;intro p' vW
    by_cases hpp:p'=p
    ·subst hpp;exact⟨_,Ξ ib⟩
    ·rw[List.getElem?_set_ne (fun e=>hpp e.symm)];exact nU p' vW
   ·refine QU ?_;refine⟨fun i h=>(by cases h),_,_,_,rfl,rfl,?_⟩;have Mv:q=js.length:=by omega
    rw[Mv,List.drop_length] at fO;have fO:C=iU (fun _=>nO e) C0 js:=fO;rw[←fO];exact⟨rfl,cd,dk,hH.erase 4⟩
  ·simp only[fp,ti,if_neg pO] at ja hjs;have Si:(((i:Nat):Int)==((ks.len-1:Nat):Int))=false:=by rw[beq_eq_false_iff_ne];omega
   refine qE rfl (by rw[Si]) ?_;refine χ<|qq<|qj fun K hK=>qm ?_;refine aa.go (d:=.agg [.int .i64 2,.int .i64 0,.int .i64 0,.nul]) (st1:=_) rfl rfl rfl (by dsimp only[ξ,u1,u2]<;>rfl) ?_;have hH:=hH.ew 2;obtain⟨_,st,aL,rfl,cd,dk,hH⟩:=hY (rs:=[]) hF (by omega) hH;refine qv aL ?_;refine qm ?_;refine qe hK ?_;have mW:(bw++[dx 2 0 0 []]).length=bw.length+1:=by simp
   refine qq<|qj fun K hK=>qm ?_;refine qm ?_;obtain⟨_,st,aL,rfl,cd,dk,hH⟩:=ih t (by omega) hF zV p_.left xY.left pZ.left jH.1 (by omega) ⟨cd,dk,hH⟩;refine qv aL ?_;refine qe hK ?_;rw[mW] at hH;have jJ:(bw++[dx 2 0 0 []]++bc t (bw.length+1)).length=bw.length+1+t.sz:=by rw[μ,mW,Cx]
   refine qq<|qj fun K hK=>qm ?_;refine qm ?_;refine aa.go (d:=.agg [.int .i64 3,.int .i64 0,.int .i64 0,.nul]) (st1:=_) rfl rfl rfl (by dsimp only[ξ,u1,u2]<;>rfl) ?_;have hH:=hH.ew 2;obtain⟨_,st,aL,rfl,cd,dk,hH⟩:=hY (rs:=[]) hF (by omega) hH;refine qv aL ?_;refine qh (s:=1) (vs:=[_]) hH fun k47 st YD hH=>?_;refine qP hH qG (hH.rows av) fun Tq st hH=>?_;dsimp only[u2,u1,u3,u4,setMany,u5,u6,Φ,γ,aC,bH,aw,lH] at hH;refine qm ?_;refine qe hK ?_;have hH:=hH.drop 1
   have Sp:(bw++[dx 2 0 0 []]++bc t (bw.length+1)++[dx 3 0 0 []])[bw.length]?=some (dx 2 0 0 []):=by
    rw[ο,ο];exact q_ _ _ _
   have CG:(bw++[dx 2 0 0 []]++bc t (bw.length+1)++[dx 3 0 0 []]).length=bw.length+1+t.sz+1:=by rw[μ,jJ];rfl
   have Ml:(bw++[dx 2 0 0 []]++bc t (bw.length+1)++[dx 3 0 0 []]).set bw.length (oC bw.length (bw.length+1+t.sz+1) false)=bw++(oC bw.length (bw.length+1+t.sz+1) false::(bc t (bw.length+1)++[nO 0])):=by
    rw[ο,ο];exact qO _ _ _ _
   have E6:(bw++(oC bw.length (bw.length+1+t.sz+1) false::(bc t (bw.length+1)++[nO 0]))).length=bw.length+t.sz+2:=by rw[←Ml,QQ,CG];omega
   generalize bw++[dx 2 0 0 []]++bc t (bw.length+1)++[dx 3 0 0 []]=Fv at*;refine qq<|qj fun K hK=>qm ?_;refine qm ?_;refine qm ?_;refine qg ?_;refine qp (o:=0) ?_;refine ql hH av ?_;refine QS hH rfl (ev rfl) (by exact bh) rfl (by dsimp only[ξ,u1,u2]<;>rfl) ?_;simp only[η,μ,ν,Δ];obtain⟨_,st,aL,rfl,hH⟩:=rn (at_:=bw.length) (over:=Fv.length) (lz:=false) Sp (by omega) hH;refine qv aL ?_;refine qe hK ?_;rw[CG,Ml] at hH;refine qj fun K hK=>qm ?_;refine qg ?_;refine qp (o:=3) ?_;refine ql hH av ?_;refine qm ?_;refine qi hH fm fun p62 abb=>?_;refine qo hH fm ?_;refine qm ?_;refine qe hK<|qj fun K hK=>qA ?_;refine qm ?_;refine qe hK ?_;exact⟨mm-1,by omega,⟨i+1,j+t.flat.length,ts,cd,Tq,dk,bw++(oC bw.length (bw.length+1+t.sz+1) false::(bc t (bw.length+1)++[nO 0])),js++[bw.length+1+t.sz],rfl,(by rw[QD (f:=lH)];rw[jJ] at hH;exact hH),by omega,by omega,by omega,p_.right,by rw[←Rw];exact xY.right,by rw[←Ur];rw[←Ur] at pZ;exact pZ.right,jH.2,by rw[E6,←ja];simp only[ο,Qv,Qq],by rw[E6,←hjs];simp only[ο,Qv,Qq],by rw[E6];omega,by omega,by rw[μ];simp only[ν,Δ];omega⟩⟩
end Go.Proofs.YtbdnabmmlbiomaaGreat
