/-
 A machine of given lists.
-/
import Derived.Test.YtecjacicdpejaaaGreatWGHr
import Derived.Test.YtecjacicdpejaaaGreatWGUp
import Derived.Test.YtecjacicdpejaaaGreatWGYv
import Derived.Test.YtecjacicdpejaaaGreatWM2
import Derived.DataReads
import Derived.ChangeOld
import GoSem.ClaimChange
import Derived.Below
import Derived.Test.YtecjacicdpejaaaGreatRows
import Derived.Test.YtecjacicdpejaaaGreatWGQe
import Derived.Test.YtecjacicdpejaaaGreatWGUo
set_option maxRecDepth 100000
set_option maxHeartbeats 4000000
set_option linter.unusedSimpArgs false
set_option linter.unusedVariables false
set_option linter.unusedSectionVars false
set_option linter.unnecessarySimpa false
open List renaming drop_succ_cons→δ,take_succ_cons→ε,drop_zero→ζ,take_zero→η,getElem?_of_mem→ν,getElem?_eq_getElem→ξ,mem_map→ς,map_cons→φ,mem_cons→χ,getElem?_eq_none→ω,mem_cons_of_mem→Γ,mem_cons_self→Θ,length_map→Ψ,mapM_cons→Q5,map_map→Zt,mem_of_getElem?→Y',foldl→JS,take_length→wt,headD_cons→xw,mem_append→v8,drop_drop→ki,take_add→Ut,range'→VQ
open Go.DataW renaming trod→θ,Trod→YH
open Bool renaming and_eq_true→ι
open Option renaming map_eq_some_iff→κ,bind_eq_some_iff→π
open Nat renaming reduceAdd→μ,le_refl→ψ,lt_or_ge→YQ,le_trans→VM,add_mul→GB
open Go.V.ab renaming av→ο,nil→τ
open Go.V.D renaming cells→ρ
open Go.World renaming cells?_some→υ
open Go.V.Fr renaming get→Δ,ev→Ω
open Go.V renaming look→Ξ
open Go.IntKind renaming signed→Φ,bits→Wh,max→Z5,min→ZD
open Int renaming eq_ofNat_of_zero_le→Zn,le_refl→VT
namespace Go.Proofs.YtecjacicdpejaaaGreat
open Go.V Go
def GT.J9 (t:GT):hU:=⟨t.pc.toNat,t.c⟩
def GV.v (l:GV):VL:=⟨l.dn,l.bf,l.td,l.bn.map GT.J9⟩
theorem II {l:List GT} (h:∀t∈l,0≤t.pc):(l.map GT.J9).map bw=l.map dA:=by
 rw[Zt];refine List.map_congr_left fun t ht=>?_;obtain⟨k,hk⟩:=Zn (h t ht);obtain⟨pc,c⟩:=t;simp only at hk;subst hk
 rfl
variable{l:GV}{p:Pg}{place:Int}{L:List GV}
theorem dr.J9 (h:dr p place L) (hl:l∈L) {t:GT} (ht:t∈l.bn):0≤t.pc∧t.pc<(p.code.length:Int):=by
 obtain⟨r,hr⟩:=ν hl;obtain⟨j,hj⟩:=ν ht;have sQ:=bp hr;have hlen:=h.len
 obtain⟨s,hs⟩:∃s,p.ak[r]?=some s:=⟨p.ak[r]'(by omega),ξ _⟩
 exact yt h.right (h.right.st s (Y' hs)) ((h.each r l s sQ hr hs).2.2 j t (bp hj) hj).1.1
theorem dr.cells (h:dr p place L) (hl:l∈L):l.v.bn.map bw=l.bn.map dA:=II fun t ht=>(h.J9 hl ht).1
theorem dr.ok (h:dr p place L) (ht:∀l∈L,l.bn.length≤1000):∀l∈(L.map GV.v).map VL.pl,l.ok p.code.length:=by
 intro q hq;obtain⟨v,hv,rfl⟩:=ς.1 hq;obtain⟨l,hl,rfl⟩:=ς.1 hv;refine⟨fun t h'=>?_,by show(l.bn.map GT.J9).length≤1000;rw[Ψ];exact ht l hl⟩;obtain⟨u,hu,rfl⟩:=ς.1 (show t∈l.bn.map GT.J9 from h');have:=h.J9 hl hu;show u.pc.toNat<_;omega
variable{N:Nat}{S s0:St}{H:List bo}{x:D}{h:List UInt8}
theorem Ku (hx:Arg N S 1 x (byteCells h)) (AB:h.length≤1048576) (hb:bO h=false) (hne:h≠[]) (hH:Has N S s0 H):
  ∃d ai,Ev pv 95 [x] s0 d ai∧d=.tup [.pnil,.int .i64 4]∧Has N S ai H:=by
 have uN:=au h
 have Fa:0<h.length:=by cases h with
  |nil=>exact absurd rfl hne
  |cons a b=>simp
 have gx:(ef h).2.2=false:=hb;have hfi:=fun{st:St} (hb:Bytes st x h)=>tg hb;rw[gx] at hfi;generalize(ef h).1=r0 at*;generalize(ef h).2.1=n0 at*;refine Ev.eN rfl Wq rfl rfl rfl ?_;refine zE ?_;change ag _ _ _ _ s0 _;refine zQ 8 ?_;refine qv ((hfi (hx.rows hH))) ?_;refine zQ 8 ?_;have br:(!false)=true:=rfl;refine zQ 2 ?_;refine ag.dM 20 (.bool (decide (((byteCells h).length:Int)>0))) [] ?_ (fun ff tmp dj=>?_)
 ·refine zQ 4 ?_;refine qn ?_ (hg:=wi br);refine zQ 2 ?_;refine τ (aR ?_ ?_)
  ·dsimp only[aK,JS,nth,u2,u1]
   all_goals(first|rfl|simp)
  ·dsimp only[Fr.eH,Fr.put,Fr.clean,Ω,Δ,nth,look,u1,u2,v1,v2,v4]
   all_goals(first|rfl|(simp[br];done)|(simp_all;done)|(simp[br];omega)|(simp_all;omega))
 dsimp only[aK,JS,nth,u2,u1];refine ag.cond (v:=true) (by dsimp only[Ω,Δ,nth,Ξ];exact dj.trans (congrArg D.bool (decide_eq_true (by omega)))) (fun _=>?_) (fun h=>by cases h);refine zQ 5 ?_;refine ag.ret ⟨rx,_,_,_,rfl,rfl,?_⟩;exact⟨rfl,hH⟩
theorem Kt (hx:Arg N S 1 x (byteCells h)) (hb:bO h=true∨h=[]) (h3:h.length≤3) (hH:Has N S s0 H):
  ∃kd ai,Ev pv 95 [x] s0 (.tup [.ptr kd 0 0,.int .i64 0]) ai∧Has N S ai (.box kd (.mem 0 false (dw h (([0,0,0,0]:List UInt8).drop h.length)))::H):=
 ⟨_,_,Qz (hx.rows hH) hb h3 (by rw[hH.ex.ro];exact VM hH.du (VM hH.hN hH.len)),hH.p_ _⟩
theorem Ng {p q:Prop} (h:p↔q):dec p=dec q:=by rw[show p=q from propext h]
structure CD (x:D) (L:List GV):Prop where
 sl:dg x 12 (L.map eo)
 ln:L.length≤12
 th:∀l∈L,dg l.td 11 (l.bn.map dA)∧l.bn.length≤500
theorem CD.arg (h:CD x L) (st:St):G8 st x L:=⟨h.sl.rows st,by have:=h.ln;omega,fun l hl=>⟨(h.th l hl).1.rows st,by have:=(h.th l hl).2;omega⟩⟩
variable{y:D}
theorem C8 (dE:∀st,Ev pv 149 [] st (.agg (aA bK)) st) (hp:p.ok) (hx:CD x L) (hy:dg y 1 (byteCells h)) (AB:h.length≤1048576):
  Ev pv 32 [p.d,.agg [y,.int .i64 place,x]] s0 (.bool (dec (dr p place L∧(bO h=true∨h=[])))) s0:=by
 have zk:=fun(st:St)=>CN dE hp (hx.arg st) place;have hcl:=hx.sl.cells;have mj:=hy.cells
 by_cases hb:bO h=true∨h=[]
 ·have h3:h.length≤3:=by
   rcases hb with hb|rfl
   ·exact ES hb
   ·simp
  rw[Ng (q:=dr p place L) ⟨fun h=>h.1,fun h=>⟨h,hb⟩⟩];unfold Pg.d at*;refine Ev.gP rfl Ws rfl rfl rfl ?_;refine zE ?_;obtain⟨aN,hF,hH⟩:=ri s0;generalize ae .ro s0=S at*;have J':=hy.arg s0.bs.length S;refine zQ 2 ?_;refine qb hH fun k2 st hk2 hH=>?_;dsimp only[u2,u1,u3,u4,setMany,u5,u6,ρ,μ,Pg.cs] at hH;refine qb hH fun k3 st oC hH=>?_;refine zQ 6 ?_;obtain⟨kd,st,ax,hH⟩:=Kt J' hb h3 hH;refine qv ax ?_;refine zQ 6 ?_;have br:true=true:=rfl;refine zQ 5 ?_;refine ο (m:=2) hH (af rfl rfl rfl br) (ev rfl) (by exact a_) (by dsimp only[δ,ζ,ε,η,Pg.cs]<;>rfl) rfl rfl (aa rfl _) ?_;refine zQ 1 ?_;refine ο (m:=2) hH (af rfl rfl rfl br) (ev rfl) (by exact aO) (by dsimp only[δ,ζ,ε,η,Pg.cs]<;>rfl) rfl rfl (aa rfl _) ?_;refine qv ((zk _)) ?_ (hg:=wi br);refine zQ 3 ?_;refine ag.ret ⟨rx,_,rfl,rl aN hH (rfl)⟩
 ·rw[dp (fun h=>hb h.2)]
  have hb1:bO h=false:=by
   cases hb1:bO h with
   |false=>rfl
   |true=>exact absurd (.inl hb1) hb
  have hne:h≠[]:=fun e=>hb (.inr e);unfold Pg.d at*;refine Ev.gP rfl Ws rfl rfl rfl ?_;refine zE ?_;obtain⟨aN,hF,hH⟩:=ri s0;generalize ae .ro s0=S at*;have J':=hy.arg s0.bs.length S;refine zQ 2 ?_;refine qb hH fun k2 st hk2 hH=>?_;dsimp only[u2,u1,u3,u4,setMany,u5,u6,ρ,μ,Pg.cs] at hH;refine qb hH fun k3 st oC hH=>?_;refine zQ 6 ?_;obtain⟨_,st,ax,rfl,hH⟩:=Ku J' AB hb1 hne hH;refine qv ax ?_;refine zQ 6 ?_;have br:false=false:=rfl;refine zQ 12 ?_;refine ag.ret ⟨rx,_,rfl,rl aN hH (rfl)⟩
theorem nW (dE:∀st,Ev pv 193 [] st (.agg (aA bK)) st) (hp:p.ok) (hx:CD x L) (hy:dg y 1 (byteCells h)) (AB:h.length≤1048576):
  Ev pv 80 [p.d,.agg [y,.int .i64 place,x]] s0 (.bool (dec (dr p place L∧(bO h=true∨h=[])))) s0:=by
 have zk:=fun(st:St)=>K4 dE hp (hx.arg st) place;have hbg:=fun{st:St} (hb:Bytes st y h)=>NF hb AB;have hcl:=hx.sl.cells;have mj:=hy.cells;have uN:=au h
 by_cases hW:dr p place L
 ·rw[b_ hW] at zk;have iN:true=true:=rfl
  by_cases hh:h=[]
  ·rw[b_ ⟨hW,.inr hh⟩];subst hh;have gk:((((byteCells []).length:Nat):Int)==0)=true:=rfl;unfold Pg.d at*;refine Ev.gP rfl Tc rfl rfl rfl ?_;refine zE ?_;obtain⟨aN,hF,hH⟩:=ri s0;generalize ae .ro s0=S at*;have J':=hy.arg s0.bs.length S;refine zQ 2 ?_;refine qb hH fun k2 st hk2 hH=>?_;dsimp only[u2,u1,u3,u4,setMany,u5,u6,ρ,μ,Pg.cs] at hH;refine qb hH fun k3 st oC hH=>?_;refine zQ 4 ?_;refine ο (m:=2) hH rfl (ev rfl) (by exact aO) (by dsimp only[δ,ζ,ε,η,Pg.cs]<;>rfl) rfl rfl (aa rfl _) ?_;refine zQ 1 ?_;refine ο (m:=2) hH rfl (ev rfl) (by exact aB) (by dsimp only[δ,ζ,ε,η,Pg.cs]<;>rfl) rfl rfl (aa rfl _) ?_;refine qv ((zk _)) ?_;refine zQ 3 ?_;refine qn ?_ (hg:=wi iN);refine zQ 5 ?_;refine ab.bN (af rfl rfl rfl iN) rfl gk (aa rfl _) ?_;refine zQ 3 ?_;refine ag.ret ⟨rx,_,rfl,rl aN hH (rfl)⟩
  ·have Fa:h.length≠0:=fun e=>hh (List.eq_nil_of_length_eq_zero e);have gk:((((byteCells h).length:Nat):Int)==0)=false:=by rw[uN];simp;exact hh
   rw[show dec (dr p place L∧(bO h=true∨h=[]))=bO h by
    cases hb:bO h with
    |true=>exact b_ ⟨hW,.inl rfl⟩
    |false=>exact dp (fun h=>by rcases h.2 with h|h;cases h;exact hh h)]
   unfold Pg.d at*;refine Ev.gP rfl Tc rfl rfl rfl ?_;refine zE ?_;obtain⟨aN,hF,hH⟩:=ri s0;generalize ae .ro s0=S at*;have J':=hy.arg s0.bs.length S;refine zQ 2 ?_;refine qb hH fun k2 st hk2 hH=>?_;dsimp only[u2,u1,u3,u4,setMany,u5,u6,ρ,μ,Pg.cs] at hH;refine qb hH fun k3 st oC hH=>?_;refine zQ 4 ?_;refine ο (m:=2) hH rfl (ev rfl) (by exact aO) (by dsimp only[δ,ζ,ε,η,Pg.cs]<;>rfl) rfl rfl (aa rfl _) ?_;refine zQ 1 ?_;refine ο (m:=2) hH rfl (ev rfl) (by exact aB) (by dsimp only[δ,ζ,ε,η,Pg.cs]<;>rfl) rfl rfl (aa rfl _) ?_;refine qv ((zk _)) ?_;refine zQ 3 ?_;refine qn ?_ (hg:=wi iN);refine zQ 4 ?_;refine qv ((hbg (J'.rows hH))) ?_ (hg:=wi gk);refine ab.cA (af rfl rfl rfl iN) rfl gk (aa rfl _) ?_;refine zQ 3 ?_;refine ag.ret ⟨rx,_,rfl,rl aN hH (rfl)⟩
 ·rw[dp hW] at zk;rw[dp (fun h=>hW h.1)];have iN:false=false:=rfl;unfold Pg.d at*;refine Ev.gP rfl Tc rfl rfl rfl ?_;refine zE ?_;obtain⟨aN,hF,hH⟩:=ri s0;generalize ae .ro s0=S at*;refine zQ 2 ?_;refine qb hH fun k2 st hk2 hH=>?_;dsimp only[u2,u1,u3,u4,setMany,u5,u6,ρ,μ,Pg.cs] at hH;refine qb hH fun k3 st oC hH=>?_;refine zQ 4 ?_;refine ο (m:=2) hH rfl (ev rfl) (by exact aO) (by dsimp only[δ,ζ,ε,η,Pg.cs]<;>rfl) rfl rfl (aa rfl _) ?_;refine zQ 1 ?_;refine ο (m:=2) hH rfl (ev rfl) (by exact aB) (by dsimp only[δ,ζ,ε,η,Pg.cs]<;>rfl) rfl rfl (aa rfl _) ?_;refine qv ((zk _)) ?_;refine zQ 13 ?_;refine ag.ret ⟨rx,_,rfl,rl aN hH (rfl)⟩
theorem ka (h:bm p):p.fit:=by
 have hcl:=h.cl;have kX:=h.sl;refine⟨fun i hi=>?_,fun v hv=>by have:=(h.st v hv).2;omega,by omega⟩;obtain⟨pc,E8⟩:=ν hi;have hs:=h.sh pc i E8
 have rz:∀{v n:Int},my v n=true→n≤1000→v<9223372036854775808:=fun{v n} h1 h2=>by
  unfold my at h1;simp only[ι,decide_eq_true_eq] at h1;omega
 unfold dv at hs
 by_cases h1:i.op=1
 ·rw[if_pos h1] at hs;simp only[ι,decide_eq_true_eq,beq_iff_eq] at hs;obtain⟨hy,⟨_,hx⟩,hr⟩:=hs;refine⟨by omega,by omega,by omega,fun g hg=>?_⟩
  have hm:iF i.rs i.rs:=by
   unfold gh at hr;exact(@decide_eq_true_iff _ (Classical.propDecidable _)).1 hr
  have hle:=hm.1.1 g hg;have a1:=((hm.2 g.1).1 ⟨g,hg,VT _,hle⟩).1;have a2:=((hm.2 g.2).1 ⟨g,hg,hle,VT _⟩).1;unfold kj at a1 a2;omega
 ·rw[if_neg h1,ι] at hs;obtain⟨he,hs⟩:=hs
  have sS:∀g∈i.rs,-2147483648≤g.1∧g.1≤2147483647∧-2147483648≤g.2∧g.2≤2147483647:=fun g hg=>by
   rw[List.isEmpty_iff.1 he] at hg;cases hg
  by_cases h2:i.op=2
  ·rw[if_pos h2,ι] at hs;exact⟨by omega,rz hs.1 (by omega),rz hs.2 (by omega),sS⟩
  ·rw[if_neg h2,ι,beq_iff_eq] at hs;obtain⟨hy,hs⟩:=hs
   by_cases h3:i.op=3
   ·rw[if_pos h3] at hs;exact⟨by omega,rz hs (by omega),by omega,sS⟩
   ·rw[if_neg h3] at hs
    by_cases h4:i.op=4
    ·rw[if_pos h4,ι] at hs;exact⟨by omega,rz hs.2 (by omega),by omega,sS⟩
    ·rw[if_neg h4] at hs
     by_cases h5:i.op=5∨i.op=6
     ·rw[if_pos h5] at hs;simp only[ι,beq_iff_eq] at hs;exact⟨by omega,by omega,by omega,sS⟩
     ·rw[if_neg h5] at hs
      by_cases h7:i.op=7
      ·rw[if_pos h7] at hs;exact⟨by omega,rz hs (by omega),by omega,sS⟩
      ·rw[if_neg h7] at hs;cases hs
theorem xl {f:j4} {pl:Int} (h:cz f pl) (hp:pl≤1099511627776):j4.fit f:=fun i hi=>by have:=(h i hi).2;omega
theorem rY (h:dr p place L):∀l∈L,l.fit:=by
 intro l hl;have zn:=h.le;have hcl:=h.right.cl;obtain⟨r,hr⟩:=ν hl;have hlen:=h.len;have sQ:=bp hr
 obtain⟨s,hs⟩:∃s,p.ak[r]?=some s:=⟨p.ak[r]'(by omega),ξ _⟩
 obtain⟨_,h2,h3⟩:=h.each r l s sQ hr hs;refine⟨xl h2 zn,fun t ht=>?_⟩;obtain⟨j,hj⟩:=ν ht;have h4:=h.J9 hl ht;exact⟨by omega,xl (h3 j t (bp hj) hj).2 zn⟩
theorem CD.F2 {st:St} (h:CD x L) (hf:∀l∈L,l.fit):NS st x L:=
 ⟨h.sl.rows st,by have:=h.ln;omega,fun l hl=>⟨(h.th l hl).1.rows st,by have:=(h.th l hl).2;omega⟩,hf⟩
noncomputable def l9 (p:Pg) (h:List UInt8) (place:Int) (L:List GV):List UInt8:=aQ (cx p)++kV h place L
theorem nG (dE:∀st,Ev pv 149 [] st (.agg (aA bK)) st) (hp:p.ok) (hx:CD x L) (hy:dg y 1 (byteCells h)) (AB:h.length≤1048576):
  Ev pv 22 [p.d,.agg [y,.int .i64 place,x]] s0 (bF (if dec (dr p place L∧(bO h=true∨h=[]))=true then l9 p h place L else[])) s0:=by
 have zk:=fun(st:St)=>C8 (s0:=st) (place:=place) dE hp hx hy AB;have nM:=hp.c;have hsd:=hp.s;have hcl:=hx.sl.cells.1;have mj:=hy.cells.1;unfold Pg.d at*
 by_cases hW:dr p place L∧(bO h=true∨h=[])
 ·rw[b_ hW] at zk⊢;rw[if_pos rfl];have N9:=ka hW.1.right;have Ke:=rY hW.1;have zn:=hW.1.le;have H3:=fun(st:St)=>qH (s0:=st) hp N9;have SK:=s8 (k_ 0#32 (gy p.code p.ak)) (k_ 1#32 (gy p.code p.ak));have jX:=aV (cx p);change 0≤cx p∧cx p<_ at SK;unfold Pg.d at H3;refine Ev.gP rfl W0 rfl rfl rfl ?_;refine zE ?_;obtain⟨aN,hF,hH⟩:=ri s0;generalize ae .ro s0=S at*;refine zQ 2 ?_;refine qb hH fun k2 st hk2 hH=>?_;dsimp only[u2,u1,u3,u4,setMany,u5,u6,ρ,μ,Pg.cs] at hH;refine qb hH fun k3 st oC hH=>?_;refine zQ 5 ?_;refine ο (m:=2) hH rfl (ev rfl) (by exact aO) (by dsimp only[δ,ζ,ε,η,Pg.cs]<;>rfl) rfl rfl (aa rfl _) ?_;refine ο (m:=3) hH rfl (ev rfl) (by exact aB) (by dsimp only[δ,ζ,ε,η,Pg.cs]<;>rfl) rfl rfl (aa rfl _) ?_;refine qv ((zk _)) ?_;refine zQ 2 ?_;refine ag.cond (v:=false) (by dsimp only[Ω,Δ,nth,Ξ];rfl) (fun h=>by cases h) (fun _=>?_);refine zQ 3 ?_;refine ο (m:=2) hH rfl (ev rfl) (by exact aO) (by dsimp only[δ,ζ,ε,η,Pg.cs]<;>rfl) rfl rfl (aa rfl _) ?_;refine qv ((H3 _)) ?_;obtain⟨cO,cM⟩:=hH.de hF;obtain⟨d11,st,ax,ho⟩:=eR (x:=.nul) (b:=[]) cO cM (ng _) (by simp) (cx p) (by omega);have hH:=hH.hY ho
  (try dsimp only[u3,u4] at hH)
  refine qv ax ?_;refine ο (m:=3) hH rfl (ev rfl) (by exact aO) (by dsimp only[δ,ζ,ε,η,Pg.cs]<;>rfl) rfl rfl (aa rfl _) ?_;obtain⟨cO,cM⟩:=hH.de hF;obtain⟨d13,st,ax,ho⟩:=xg (x:=d11) (b:=aQ (cx p)) (place:=place) cO cM (hH.rows aB) (by omega) hy AB (by omega) (hx.F2 Ke);have hH:=hH.hY ho
  (try dsimp only[u3,u4] at hH)
  refine qv ax ?_;refine zQ 2 ?_;refine ag.ret ⟨rx,_,rfl,rl aN hH ?_⟩;exact hH.kE aB (cq _) (by decide)
 ·rw[dp hW] at zk⊢;rw[if_neg (by simp)];refine Ev.gP rfl W0 rfl rfl rfl ?_;refine zE ?_;obtain⟨aN,hF,hH⟩:=ri s0;generalize ae .ro s0=S at*;refine zQ 2 ?_;refine qb hH fun k2 st hk2 hH=>?_;dsimp only[u2,u1,u3,u4,setMany,u5,u6,ρ,μ,Pg.cs] at hH;refine qb hH fun k3 st oC hH=>?_;refine zQ 5 ?_;refine ο (m:=2) hH rfl (ev rfl) (by exact aO) (by dsimp only[δ,ζ,ε,η,Pg.cs]<;>rfl) rfl rfl (aa rfl _) ?_;refine ο (m:=3) hH rfl (ev rfl) (by exact aB) (by dsimp only[δ,ζ,ε,η,Pg.cs]<;>rfl) rfl rfl (aa rfl _) ?_;refine qv ((zk _)) ?_;refine zQ 2 ?_;refine ag.cond (v:=true) (by dsimp only[Ω,Δ,nth,Ξ];rfl) (fun _=>?_) (fun h=>by cases h);refine zQ 4 ?_;refine ag.ret ⟨rx,_,rfl,rl aN hH (rfl)⟩
theorem rH (dE:∀st,Ev pv 193 [] st (.agg (aA bK)) st) (hF:s0.flr≤s0.bs.length) (du:s0.ro≤s0.bs.length) (hp:p.ok) (hx:CD x L) (hy:dg y 1 (byteCells h)) (AB:h.length≤1048576) (hW:dr p place L∧(bO h=true∨h=[])):
  ∃d ai,Ev pv 23 [p.d,.agg [y,.int .i64 place,x]] s0 d ai∧kC s0 ai d (l9 p h place L):=by
 have zk:=fun(st:St)=>nW (s0:=st) (place:=place) dE hp hx hy AB;rw[b_ hW] at zk;have nM:=hp.c;have hsd:=hp.s;have hcl:=hx.sl.cells.1;have mj:=hy.cells.1;have N9:=ka hW.1.right;have Ke:=rY hW.1;have zn:=hW.1.le;have H3:=fun(st:St)=>sA (s0:=st) hp N9;have SK:=s8 (k_ 0#32 (gy p.code p.ak)) (k_ 1#32 (gy p.code p.ak));have jX:=aV (cx p);change 0≤cx p∧cx p<_ at SK;unfold Pg.d at*;refine Ev.eN rfl WO rfl rfl rfl ?_;refine zE ?_;have aN:(ae .nw s0).bs=s0.bs:=rfl;have hF:(ae .nw s0).flr≤s0.bs.length:=hF;have hH:Has s0.bs.length (ae .nw s0) (ae .nw s0) []:=Has.start (ψ _) (ψ _);generalize ae .nw s0=S at*;refine zQ 2 ?_;refine qb hH fun k2 st hk2 hH=>?_;dsimp only[u2,u1,u3,u4,setMany,u5,u6,ρ,μ,Pg.cs] at hH;refine qb hH fun k3 st oC hH=>?_;refine zQ 5 ?_;refine ο (m:=2) hH rfl (ev rfl) (by exact aO) (by dsimp only[δ,ζ,ε,η,Pg.cs]<;>rfl) rfl rfl (aa rfl _) ?_;refine ο (m:=3) hH rfl (ev rfl) (by exact aB) (by dsimp only[δ,ζ,ε,η,Pg.cs]<;>rfl) rfl rfl (aa rfl _) ?_;refine qv ((zk _)) ?_;refine zQ 2 ?_;refine ag.cond (v:=false) (by dsimp only[Ω,Δ,nth,Ξ];rfl) (fun h=>by cases h) (fun _=>?_);refine zQ 3 ?_;refine ο (m:=2) hH rfl (ev rfl) (by exact aO) (by dsimp only[δ,ζ,ε,η,Pg.cs]<;>rfl) rfl rfl (aa rfl _) ?_;refine qv ((H3 _)) ?_;obtain⟨cO,cM⟩:=hH.de hF;obtain⟨d11,st,ax,ho⟩:=eG (x:=.nul) (b:=[]) cO cM (ng _) (by simp) (cx p) (by omega);have hH:=hH.hY ho
 (try dsimp only[u3,u4] at hH)
 refine qv ax ?_;refine ο (m:=3) hH rfl (ev rfl) (by exact aO) (by dsimp only[δ,ζ,ε,η,Pg.cs]<;>rfl) rfl rfl (aa rfl _) ?_;obtain⟨cO,cM⟩:=hH.de hF;obtain⟨d13,st,ax,ho⟩:=oY (x:=d11) (b:=aQ (cx p)) (place:=place) cO cM (hH.rows aB) (by omega) hy AB (by omega) (hx.F2 Ke);have hH:=hH.hY ho
 (try dsimp only[u3,u4] at hH)
 refine qv ax ?_;refine zQ 2 ?_;refine ag.ret ⟨rx,_,_,_,rfl,rfl,?_⟩;exact(hH.take 1).dU aN du
end Go.Proofs.YtecjacicdpejaaaGreat
namespace Go.V
open Go.RowKit
def uI {H:Type}:DataW H→Bool
 | .agg _=>true
 |_=>false
mutual
def ou {H:Type}:DataW H→List D
 | .lit (.bool b)=>[.bool b]
 | .lit (.int k n)=>[.int k n]
 | .lit (.string l)=>[.str l]
 | .lit _=>[.bI]
 | .nil=>[.nul]
 | .slice elems _=>[.sl (Cj elems)]
 | .agg parts=>pI parts
 | .ptr _=>[.bI]
 | .iface _ _=>[.bI]
 | .map _=>[.bI]
 | .held _=>[.bI]
def Cj {H:Type}:List (DataW H)→List D
 |[]=>[]
 |d::r=>(if uI d then .agg (ou d) else(ou d).headD .bI)::Cj r
def pI {H:Type}:List (DataW H)→List D
 |[]=>[]
 |d::r=>ou d++pI r
end
def bY {H:Type} (d:DataW H):D:=if uI d then .agg (ou d) else(ou d).headD .bI
theorem yF {H:Type}:∀l:List (DataW H),Cj l=l.map bY
 |[]=>rfl
 |d::r=>by simp only[Cj,φ,yF r];rfl
def yI (P:Program):Nat→List Field→Option Nat
 |o,[]=>some o
 |o,f::fs=>if f.offset=o then yI P (o+P.cellsOf f.type) fs else none
def OP (P:Program):Nat→TypeId→Bool
 |0,_=>false
 |n+1,t=>match P.underlying t with
  |some .bool=>true
  |some (.int _)=>true
  |some .string=>true
  |some (.slice e)=>OP P n e &&decide (0<P.cellsOf e)
  |some (.struct fs)=>(yI P 0 fs.toList==some (P.cellsOf t)) &&fs.toList.all fun f=>OP P n f.type
  |some (.array m e)=>OP P n e &&(P.cellsOf t==m*P.cellsOf e)
  |_=>false
structure CR (w:World) (Z:Nat→Prop) (cs:List D) (vs:List Value):Prop where
 len:cs.length=vs.length
 one:∀v∈vs,v.oneCell'=true
 onec:∀c∈cs,c.cells?=some [c]
 rel:∀(i:Nat) c v,cs[i]?=some c→vs[i]?=some v→IR w Z c v
variable{w:World}{Z:Nat→Prop}
theorem CR.nil:CR w Z [] []:=⟨rfl,by simp,by simp,by simp⟩
variable{c:D}
theorem CR.single {v:Value} (h:IR w Z c v) (h1:v.oneCell'=true) (h2:c.cells?=some [c]):CR w Z [c] [v]:=
 ⟨rfl,by simpa using h1,by simpa using h2,fun i c' v' hc hv=>by
  cases i with
  |zero=>simp at hc hv;subst hc;subst hv;exact h
  |succ i=>simp at hc⟩
theorem CR.append {cs cs':List D} {vs T4:List Value} (h:CR w Z cs vs) (g:CR w Z cs' T4):CR w Z (cs++cs') (vs++T4):=by
 refine⟨by simp[h.len,g.len],fun v hv=>?_,fun c hc=>?_,fun i c v hc hv=>?_⟩
 ·rcases v8.1 hv with hv|hv
  ·exact h.one v hv
  ·exact g.one v hv
 ·rcases v8.1 hc with hc|hc
  ·exact h.onec c hc
  ·exact g.onec c hc
 ·rw[List.getElem?_append] at hc hv;have:=h.len
  split at hc
  ·rw[if_pos (by omega)] at hv;exact h.rel i c v hc hv
  ·rw[if_neg (by omega)] at hv;rw[←this] at hv;exact g.rel _ c v hc hv
theorem Dp {H:Type} {P:Program} {w:World} {Z:Nat→Prop} {f:Field→Option (DataW H×List MemPlace)} {cs:List Value}:∀{fs:List Field} {o e:Nat} {xs:List (DataW H×List MemPlace)},yI P o fs=some e→e≤cs.length→fs.mapM f=some xs→
  (∀g∈fs,∀x,f g=some x→CR w Z (ou x.1) ((cs.drop g.offset).take (P.cellsOf g.type)))→CR w Z (pI (xs.map (·.1))) ((cs.drop o).take (e-o))∧o≤e
 |[],o,e,xs,hc,_,hm,_=>by
  simp[yI] at hc;subst hc;simp at hm;subst hm;simp[pI];exact CR.nil
 |g::fs,o,e,xs,hc,he,hm,hx=>by
  simp only[yI] at hc
  split at hc
  ·rename_i ho;rw[Q5] at hm
   cases h1:f g with
   |none=>rw[h1] at hm;simp at hm
   |some x=>
    rw[h1] at hm
    cases h2:fs.mapM f with
    |none=>rw[h2] at hm;simp at hm
    |some ys=>
     rw[h2] at hm;simp at hm;subst hm;obtain⟨ih,hle⟩:=Dp hc he h2 fun g' YL=>hx g' (Γ _ YL);have hg:=hx g (Θ ..) x h1;rw[ho] at hg;refine⟨?_,by omega⟩;simp only[φ,pI]
     have:(cs.drop o).take (e-o)=(cs.drop o).take (P.cellsOf g.type)++(cs.drop (o+P.cellsOf g.type)).take (e-(o+P.cellsOf g.type)):=by
      rw[←ki,show e-o=P.cellsOf g.type+(e-(o+P.cellsOf g.type)) by omega,Ut]
     rw[this];exact hg.append ih
  ·cases hc
theorem Ey {H:Type} {w:World} {Z:Nat→Prop} {s:Nat} {f:Nat→Option (DataW H×List MemPlace)} {cs:List Value}:∀{m k:Nat} {xs:List (DataW H×List MemPlace)},(VQ k m).mapM f=some xs→(k+m)*s≤cs.length→
  (∀i x,f i=some x→CR w Z (ou x.1) ((cs.drop (i*s)).take s))→CR w Z (pI (xs.map (·.1))) ((cs.drop (k*s)).take (m*s))
 |0,k,xs,hm,_,_=>by simp at hm;subst hm;simp[pI];exact CR.nil
 |m+1,k,xs,hm,hl,hx=>by
  rw[List.range'_succ,Q5] at hm
  cases h1:f k with
  |none=>rw[h1] at hm;simp at hm
  |some x=>
   rw[h1] at hm
   cases h2:(VQ (k+1) m).mapM f with
   |none=>rw[h2] at hm;simp at hm
   |some ys=>
    rw[h2] at hm;simp at hm;subst hm;have ih:=Ey h2 (by rw[show k+1+m=k+(m+1) by omega];exact hl) hx;simp only[φ,pI];rw[show(m+1)*s=s+m*s by rw[GB];omega,Ut,ki,show k*s+s=(k+1)*s by rw[GB];omega];exact(hx k x h1).append ih
theorem cells_one (h:c.cells?=some [c]):c.cells=[c]:=by
 cases c<;>first|rfl|cases h|(simp only[D.cells?,Option.some.injEq] at h;simpa only[ρ] using h)
theorem EX (b off n:Nat):(⟨b,off,none⟩:Addr).add n=⟨b,off+n,none⟩:=by
 cases n<;>simp[Addr.add]
theorem vW {H:Type} {enc:TypeId×Value→H} {P:Program} {w:World} {spare:Nat→Bool} {held:Bool}:∀(fuel:Nat) (t:TypeId) (cs:List Value) (d:DataW H) (ps:List MemPlace) (n:Nat),θ enc P w 0 spare held fuel t cs=some (d,ps)→OP P n t=true→
  CR w (fun b=>b<w.heap.size) (ou d) cs∧cs.length=(match P.underlying t with|some (.struct _)|some (.array _ _)=>P.cellsOf t|_=>1)∧(uI d=(match P.underlying t with|some (.struct _)|some (.array _ _)=>true|_=>false))
 |0,t,cs,d,ps,n,h,_=>by simp[θ] at h
 |fuel+1,t,cs,d,ps,0,h,ht=>by simp[OP] at ht
 |fuel+1,t,cs,d,ps,n+1,h,ht=>by
  simp only[OP] at ht;unfold θ at h
  cases hu:P.underlying t with
  |none=>rw[hu] at ht;simp at ht
  |some u=>
   rw[hu] at h ht
   cases u with
   |bool=>
    rcases cs with _|⟨v,_|⟨v2,cs⟩⟩<;>try(simp at h;done)
    cases v<;>simp at h
    obtain⟨rfl,rfl⟩:=h;exact⟨CR.single (.bool _) rfl rfl,rfl,rfl⟩
   |int k=>
    rcases cs with _|⟨v,_|⟨v2,cs⟩⟩<;>try(simp at h;done)
    cases v<;>simp at h
    obtain⟨⟨rfl,_⟩,rfl,rfl⟩:=h;exact⟨CR.single (.int _ _) rfl rfl,rfl,rfl⟩
   |string=>
    rcases cs with _|⟨v,_|⟨v2,cs⟩⟩<;>try(simp at h;done)
    cases v<;>simp at h
    rename_i b;obtain⟨_,rfl,rfl⟩:=h;refine⟨CR.single ?_ rfl rfl,rfl,rfl⟩;have:=IR.str (w:=w) (Z:=fun b=>b<w.heap.size) b.data.toList
    simpa using this
   |slice e=>
    simp only[ι,decide_eq_true_eq] at ht
    rcases cs with _|⟨v,_|⟨v2,cs⟩⟩<;>try(simp at h;done)
    cases v<;>try(simp at h;done)
    rename_i a len cap
    cases a with
    |none=>
     cases len<;>cases cap<;>simp at h
     obtain⟨rfl,rfl⟩:=h;exact⟨CR.single .nul rfl rfl,rfl,rfl⟩
    |some a=>
     simp only at h
     split at h
     ·rename_i hc;simp only[π,κ] at h;obtain⟨elems,he,rest,hr,hd⟩:=h;cases hd;refine⟨?_,rfl,rfl⟩;have hlen:elems.length=len:=by simpa using mapM_some_length he
      have hget:=mapM_some_get he
      have each:∀(i:Nat),i<len→∃x cs,elems[i]?=some x∧w.cells? 0 (a.add (i*P.cellsOf e)) (P.cellsOf e)=some cs∧CR w (fun b=>b<w.heap.size) (ou x.1) cs∧cs.length=P.cellsOf e∧(uI x.1=(match P.underlying e with|some (.struct _)|some (.array _ _)=>true|_=>false))∧cs.length=(match P.underlying e with|some (.struct _)|some (.array _ _)=>P.cellsOf e|_=>1):=by
       intro i hi;have h1:=hget i i (by simp[hi]);have h2:elems[i]?=some (elems[i]'(by omega)):=ξ _;rw[h2] at h1;obtain⟨cs,kZ,hx⟩:=π.1 h1;obtain⟨q1,q2,q3⟩:=vW fuel e cs _ _ n hx ht.1;exact⟨_,cs,h2,kZ,q1,(υ kZ).2.1,q3,q2⟩
      refine CR.single ?_ rfl rfl
      cases len with
      |zero=>
       have:elems=[]:=by cases elems with|nil=>rfl|cons _ _=>simp at hlen
       subst this;exact .emp _ _
      |succ m=>
       have rW:a.spot=none∧a.block<w.heap.size:=by
        obtain⟨x,cs,_,h2,_,_⟩:=each 0 (by omega);refine⟨?_,?_⟩
        ·have:=(υ h2).2.2 0 ht.2;have hl:=(υ h2).2.1
         obtain⟨c0,JD⟩:∃c0,cs[0]?=some c0:=⟨cs[0]'(by omega),ξ _⟩
         rw[JD] at this
         simpa[Addr.add] using World.cell?_spot this
        ·simpa[Addr.add] using World.cells?_block h2 ht.2
       obtain⟨b,off,spot⟩:=a;simp only at rW;obtain⟨rfl,hb⟩:=rW
       have hcell:∀(i j:Nat),i<m+1→j<P.cellsOf e→∃x cs v,elems[i]?=some x∧cs[j]?=some v∧w.cell? ⟨b,off+(i*P.cellsOf e+j),none⟩=some v∧CR w (fun b=>b<w.heap.size) (ou x.1) cs:=by
        intro i j hi hj;obtain⟨x,cs,h1,h2,h3,h4,_⟩:=each i hi;have:=(υ h2).2.2 j hj
        obtain⟨v,hv⟩:∃v,cs[j]?=some v:=⟨cs[j]'(by omega),ξ _⟩
        rw[hv] at this;refine⟨x,cs,v,h1,hv,?_,h3⟩;rw[←this,EX,EX,Nat.add_assoc]
       have vN:(Cj (elems.map (·.1)))=elems.map fun x=>bY x.1:=by rw[yF,Zt];rfl
       have hE:∀(i:Nat) q,(Cj (elems.map (·.1)))[i]?=some q→∃x cs,i<m+1∧elems[i]?=some x∧q.cells?=some q.cells∧q.cells=ou x.1∧CR w (fun b=>b<w.heap.size) (ou x.1) cs∧cs.length=P.cellsOf e:=by
        intro i q hq;rw[vN,List.getElem?_map] at hq;obtain⟨x,hx,rfl⟩:=κ.1 hq
        have hi:i<m+1:=by
         rcases YQ i (m+1) with h'|h'
         ·exact h'
         ·rw[ω (by omega)] at hx;cases hx
        obtain⟨x',cs,h1,h2,h3,h4,h5,h6⟩:=each i hi;rw[hx] at h1;cases h1;refine⟨x,cs,hi,hx,?_,?_,h3,h4⟩
        ·unfold bY
         split
         ·rfl
         ·rename_i QM
          have B4:(ou x.1).length=1:=by
           rw[h3.len,h6];rw[h5] at QM
           revert QM
           split<;>simp
          match hd:ou x.1,B4 with
          |[c],_=>have:=h3.onec c (by rw[hd];simp);simp only[xw];rw[cells_one this];exact this
        ·unfold bY
         split
         ·rfl
         ·rename_i QM
          have B4:(ou x.1).length=1:=by
           rw[h3.len,h6];rw[h5] at QM
           revert QM
           split<;>simp
          match hd:ou x.1,B4 with
          |[c],_=>have:=h3.onec c (by rw[hd];simp);simp only[xw];exact cells_one this
       have hL:(Cj (elems.map (·.1))).length=m+1:=by rw[vN];simp[hlen]
       have hf:=fun(i j:Nat) (hi:i<m+1) (hj:j<P.cellsOf e)=>hcell i j hi hj;have:=IR.sl (w:=w) (Z:=fun b=>b<w.heap.size) (Cj (elems.map (·.1))) b off cap (P.cellsOf e) (fun i j=>(w.cell? ⟨b,off+(i*P.cellsOf e+j),none⟩).getD undef) hb (by rw[hL];exact hc.2.1)
        (fun i q hq=>by
         obtain⟨x,cs,h1,h2,h3,h4,h5,h6⟩:=hE i q hq
         exact⟨h3,by rw[h4,h5.len,h6]⟩)
        (fun i q j c hq hj=>by
         obtain⟨x,cs,h1,h2,h3,h4,h5,h6⟩:=hE i q hq
         have oH:j<P.cellsOf e:=by
          rcases YQ j (P.cellsOf e) with h'|h'
          ·exact h'
          ·rw[h4,ω (by rw[h5.len,h6];exact h')] at hj;cases hj
         obtain⟨x',cs',v,g1,g2,g3,g4⟩:=hf i j h1 oH;rw[g3]
         exact⟨rfl,g4.one v (Y' g2)⟩)
        (fun i q j c hq hj=>by
         obtain⟨x,cs,h1,h2,h3,h4,h5,h6⟩:=hE i q hq
         have oH:j<P.cellsOf e:=by
          rcases YQ j (P.cellsOf e) with h'|h'
          ·exact h'
          ·rw[h4,ω (by rw[h5.len,h6];exact h')] at hj;cases hj
         obtain⟨x',cs',v,g1,g2,g3,g4⟩:=hf i j h1 oH;rw[g3];rw[h2] at g1;cases g1
         exact g4.rel j c v (by rw[←h4];exact hj) g2)
       rw[hL] at this;exact this
     ·cases h
   |struct fs=>
    simp only[ι,beq_iff_eq,List.all_eq_true] at ht;simp only at h
    split at h
    ·rename_i hl;obtain⟨xs,hx,hd⟩:=κ.1 h;cases hd;refine⟨?_,hl,rfl⟩;obtain⟨h1,_⟩:=Dp (w:=w) (Z:=fun b=>b<w.heap.size) (cs:=cs) ht.1 (by omega) hx fun g hg x hgx=>(vW fuel g.type _ _ _ n hgx (ht.2 g hg)).1;rw[ζ,Nat.sub_zero,←hl,wt] at h1;exact h1
    ·cases h
   |array m e=>
    simp only[ι,beq_iff_eq] at ht;simp only at h
    split at h
    ·rename_i hl;obtain⟨xs,hx,hd⟩:=κ.1 h;cases hd;refine⟨?_,hl,rfl⟩;rw[List.range_eq_range'] at hx;have h1:=Ey (w:=w) (Z:=fun b=>b<w.heap.size) (s:=P.cellsOf e) (cs:=cs) hx (by rw[Nat.zero_add,←ht.2,hl];exact ψ _) fun i x hix=>(vW fuel e _ _ _ n hix ht.1).1;rw[Nat.zero_mul,ζ,←ht.2,←hl,wt] at h1;exact h1
    ·cases h
   |_=>simp at ht
variable{P:Program}{spare:Nat→Bool}{held:Bool}{ps:List MemPlace}
theorem dG {H:Type} {enc:TypeId×Value→H} {r:Reach} {base:Nat} {t:TypeId} {v:Value} {d:DataW H} {n:Nat} (h:YH enc P w 0 spare held t v d ps) (ht:OP P n t=true) (hv:Value.okWide P w r base t v):
  IR w (fun b=>b<w.heap.size) (bY d) v:=by
 obtain⟨fuel,hf⟩:=h;obtain⟨h1,h2,h3⟩:=vW fuel t _ d ps n hf ht
 have hu:∃u,P.underlying t=some u:=by
  cases n with
  |zero=>simp[OP] at ht
  |succ n=>
   simp only[OP] at ht
   cases hu:P.underlying t with
   |none=>rw[hu] at ht;simp at ht
   |some u=>exact⟨u,rfl⟩
 obtain⟨u,hu⟩:=hu;unfold Value.okWide at hv;rw[hu] at hv h2 h3
 have V':(∃cs:Array Value,v=.agg cs)→uI d=true→IR w (fun b=>b<w.heap.size) (bY d) v:=by
  rintro⟨cs,rfl⟩ hd;unfold bY;rw[if_pos hd];have:=IR.agg (w:=w) (Z:=fun b=>b<w.heap.size) (ou d) cs.toList (by simpa[Value.cells] using h1.len) (by simpa[Value.cells] using h1.one) (by simpa[Value.cells] using h1.rel)
  simpa using this
 have oc:uI d=false→v.cells.toList.length=1→(∀cs,v≠.agg cs)→IR w (fun b=>b<w.heap.size) (bY d) v:=by
  intro hd hl QM;unfold bY;rw[if_neg (by rw[hd];simp)]
  have hc:v.cells.toList=[v]:=by cases v<;>first|rfl|exact absurd rfl (QM _)
  rw[hc] at h1
  match hq:ou d,h1.len with
  |[c],_=>exact h1.rel 0 c v (by rw[hq];rfl) rfl
 have hcell:Cell.okWide P w r base t v→∀cs,v≠.agg cs:=by
  rintro hc cs rfl;unfold Cell.okWide at hc;rw[hu] at hc;cases u<;>simp[Cell.ok,hu] at hc
 cases u with
 |struct fs=>obtain⟨cs,h,_⟩:=hv;exact V' ⟨cs,h⟩ h3
 |array m e=>obtain⟨cs,h,_⟩:=hv;exact V' ⟨cs,h⟩ h3
 |_=>exact oc h3 h2 (hcell hv)
theorem wf_u8 {n:Int} (h:(Lit.int .u8 n).wf=true):∃y:UInt8,n=(y.toNat:Nat):=by
 have:0≤n∧n≤255:=by simpa[Lit.wf,ZD,Z5,Φ,Wh] using h
 refine⟨UInt8.ofNat n.toNat,?_⟩;rw[show(UInt8.ofNat n.toNat).toNat=n.toNat %256 from rfl];omega
theorem lN {pv:Pv} (h:pv.Ok P∧pv.l_∧lb P pv (gK pv)) {f:Nat} {ds:List D} {ai:St} (hs:Ev pv f ds ⟨[],0,0⟩ (.bool true) ai) {us:List Value} (hl:ds.length=us.length) (hr:∀(i:Nat) c v,ds[i]?=some c→us[i]?=some v→IR w (fun b=>b<w.heap.size) c v):Calls P f us.toArray w fun e w'=>e=.returned (.bool true)∧Below w.heap.size w w':=by
 obtain⟨N,hN⟩:=Ev.out hs;refine(sound h (hN N (ψ _)) (w:=w) (Z:=fun b=>b<w.heap.size) (fun _ h=>h) hl hr).mono fun e w'=>?_;rintro⟨v,β',Z',rfl,he,hv⟩;rw[gG hv];exact⟨rfl,⟨he.os,he.tape,he.output,he.size,fun k hk=>he.block k hk fun f=>f⟩⟩
def Rd {H:Type} (enc:TypeId×Value→H) (P:Program) (w:World) (spare:Nat→Bool) (held:Bool) (t:TypeId) (d:DataW H):Prop:=
 ∃fuel cs ps,θ enc P w 0 spare held fuel t cs=some (d,ps)
section
variable{H:Type} {enc:TypeId×Value→H} {P:Program} {w:World} {spare:Nat→Bool} {held:Bool} {t e:TypeId} {d:DataW H}
theorem Rd.of {v:Value} {ps:List MemPlace} (h:YH enc P w 0 spare held t v d ps):Rd enc P w spare held t d:=by
 obtain⟨fuel,h⟩:=h;exact⟨fuel,_,_,h⟩
theorem Rd.int {k:IntKind} (h:Rd enc P w spare held t d) (ht:P.underlying t=some (.int k)):∃n:Int,d=.lit (.int k n)∧(Lit.int k n).wf=true:=by
 obtain⟨fuel,cs,ps,h⟩:=h
 cases fuel with
 |zero=>simp[θ] at h
 |succ fuel=>
  unfold θ at h;rw[ht] at h
  rcases cs with _|⟨v,_|⟨v2,cs⟩⟩<;>try(simp at h;done)
  cases v<;>simp at h
  obtain⟨⟨rfl,hw⟩,rfl,_⟩:=h;exact⟨_,rfl,hw⟩
theorem Rd.bool (h:Rd enc P w spare held t d) (ht:P.underlying t=some .bool):∃b:Bool,d=.lit (.bool b):=by
 obtain⟨fuel,cs,ps,h⟩:=h
 cases fuel with
 |zero=>simp[θ] at h
 |succ fuel=>
  unfold θ at h;rw[ht] at h
  rcases cs with _|⟨v,_|⟨v2,cs⟩⟩<;>try(simp at h;done)
  cases v<;>simp at h
  obtain⟨rfl,_⟩:=h;exact⟨_,rfl⟩
theorem Rd.string (h:Rd enc P w spare held t d) (ht:P.underlying t=some .string):∃l:List UInt8,d=.lit (.string l):=by
 obtain⟨fuel,cs,ps,h⟩:=h
 cases fuel with
 |zero=>simp[θ] at h
 |succ fuel=>
  unfold θ at h;rw[ht] at h
  rcases cs with _|⟨v,_|⟨v2,cs⟩⟩<;>try(simp at h;done)
  cases v<;>simp at h
  obtain⟨_,rfl,_⟩:=h;exact⟨_,rfl⟩
theorem Rd.slice (h:Rd enc P w spare held t d) (ht:P.underlying t=some (.slice e)):d=.nil∨∃elems rest,d=.slice elems rest∧∀x∈elems,Rd enc P w spare held e x:=by
 obtain⟨fuel,cs,ps,h⟩:=h
 cases fuel with
 |zero=>simp[θ] at h
 |succ fuel=>
  unfold θ at h;rw[ht] at h
  rcases cs with _|⟨v,_|⟨v2,cs⟩⟩<;>try(simp at h;done)
  cases v<;>try(simp at h;done)
  rename_i a len cap
  cases a with
  |none=>
   cases len<;>cases cap<;>simp at h
   obtain⟨rfl,rfl⟩:=h;exact .inl rfl
  |some a=>
   simp only at h
   split at h
   ·simp only[π,κ] at h;obtain⟨elems,hm,rest,hr,hd⟩:=h;cases hd;refine .inr ⟨_,_,rfl,fun x hx=>?_⟩;obtain⟨y,hy,rfl⟩:=ς.1 hx;have hlen:elems.length=len:=by simpa using mapM_some_length hm
    have hget:=mapM_some_get hm;obtain⟨i,hi⟩:=ν hy;have hil:i<len:=by have:=bp hi;omega
    have h1:=hget i i (by simp[hil]);rw[hi] at h1;obtain⟨cs,_,hx⟩:=π.1 h1;exact⟨fuel,cs,y.2,hx⟩
   ·cases h
theorem ux {α β:Type} {f:α→Option β}:∀{l:List α} {m:List β},l.mapM f=some m→dN (fun a b=>f a=some b) l m
 |[],m,h=>by simp at h;subst h;exact .nil
 |a::l,m,h=>by
  rw[Q5] at h
  cases h1:f a with
  |none=>rw[h1] at h;simp at h
  |some b=>
   rw[h1] at h
   cases h2:l.mapM f with
   |none=>rw[h2] at h;simp at h
   |some ys=>rw[h2] at h;simp at h;subst h;exact .cons h1 (ux h2)
theorem dN.Us {α β γ:Type} {R:α→γ→Prop} {f:β→γ}:∀{l:List α} {m:List β},dN (fun a b=>R a (f b)) l m→dN R l (m.map f)
 |_,_,.nil=>.nil
 |_,_,.cons a t=>.cons a t.Us
theorem Rd.struct {fs:Array Field} (h:Rd enc P w spare held t d) (ht:P.underlying t=some (.struct fs)):∃parts,d=.agg parts∧dN (fun(f:Field) x=>Rd enc P w spare held f.type x) fs.toList parts:=by
 obtain⟨fuel,cs,ps,h⟩:=h
 cases fuel with
 |zero=>simp[θ] at h
 |succ fuel=>
  unfold θ at h;rw[ht] at h;simp only at h
  split at h
  ·obtain⟨xs,hx,hd⟩:=κ.1 h;cases hd;refine⟨_,rfl,?_⟩;exact((ux hx).mono fun f x hfx=>(⟨fuel,_,_,hfx⟩:Rd enc P w spare held f.type x.1)).Us
  ·cases h
theorem Rd.array {n:Nat} (h:Rd enc P w spare held t d) (ht:P.underlying t=some (.array n e)):∃parts,d=.agg parts∧parts.length=n∧∀x∈parts,Rd enc P w spare held e x:=by
 obtain⟨fuel,cs,ps,h⟩:=h
 cases fuel with
 |zero=>simp[θ] at h
 |succ fuel=>
  unfold θ at h;rw[ht] at h;simp only at h
  split at h
  ·obtain⟨xs,hx,hd⟩:=κ.1 h;cases hd;have h1:=ux hx;refine⟨_,rfl,by have:=h1.len;simp at this;simp[←this],fun x ZB=>?_⟩;obtain⟨y,hy,rfl⟩:=ς.1 ZB
   have key:∀{l:List Nat} {m:List (DataW H×List MemPlace)},dN (fun i x=>θ enc P w 0 spare held fuel e ((cs.drop (i*P.cellsOf e)).take (P.cellsOf e))=some x) l m→∀y∈m,Rd enc P w spare held e y.1:=by
    intro l m h
    induction h with
    |nil=>intro y hy;cases hy
    |cons a t ih=>
     intro y hy
     rcases χ.1 hy with rfl|hy
     ·exact⟨fuel,_,_,a⟩
     ·exact ih y hy
   exact key h1 y hy
  ·cases h
end
theorem wP {H α:Type} {s:Nat} {f:α→List D} {Q:α→DataW H→Prop} {elems rest:List (DataW H)} (h:∀x∈elems,∃a,(bY x).cells?=some (bY x).cells∧(bY x).cells=f a∧(f a).length=s∧Q a x):
  ∃ws:List α,dg (bY (.slice elems rest)) s (ws.map f)∧ws.length=elems.length∧∀a∈ws,∃x∈elems,Q a x:=by
 have key:∃ws:List α,(elems.map bY).map ρ=ws.map f∧(∀d∈elems.map bY,d.cells?=some d.cells∧d.cells.length=s)∧ws.length=elems.length∧∀a∈ws,∃x∈elems,Q a x:=by
  induction elems with
  |nil=>exact⟨[],rfl,fun d hd=>(by cases hd),rfl,fun a ha=>by cases ha⟩
  |cons x l ih=>
   obtain⟨ws,h1,h2,h3,h4⟩:=ih fun y hy=>h y (Γ _ hy);obtain⟨a,g1,g2,g3,g4⟩:=h x (Θ ..);refine⟨a::ws,by simp only[φ,h1,g2],fun d hd=>?_,by simp[h3],fun b hb=>?_⟩
   ·simp only[φ,χ] at hd
    rcases hd with rfl|hd
    ·exact⟨g1,by rw[g2];exact g3⟩
    ·exact h2 d hd
   ·rcases χ.1 hb with rfl|hb
    ·exact⟨x,Θ ..,g4⟩
    ·obtain⟨y,hy,hq⟩:=h4 b hb;exact⟨y,Γ _ hy,hq⟩
 obtain⟨ws,h1,h2,h3,h4⟩:=key;refine⟨ws,.inr ⟨elems.map bY,?_,h1,h2⟩,h3,h4⟩;show D.sl (Cj elems)=_;rw[yF]
end Go.V
namespace Go.Proofs.YtecjacicdpejaaaGreat
theorem NB {H:Type} (d:DataW H):1≤Rows.uptoBulk d:=by
 cases d with
 |lit l=>cases l<;>simp[Rows.uptoBulk]
 |_=>simp[Rows.uptoBulk]
theorem ma {H:Type} (l:List (DataW H)):l.length≤Rows.uptoBulkAll l:=by
 induction l with
 |nil=>simp[Rows.uptoBulkAll]
 |cons x r ih=>have:=NB x;simp only[Rows.uptoBulkAll,List.length_cons];omega
end Go.Proofs.YtecjacicdpejaaaGreat
namespace Go.Proofs.YtecjacicdpejaaaGreat
open Go.V Go Go.RowKit
variable{H:Type} {enc:TypeId×Value→H} {w:World} {spare:Nat→Bool} {held:Bool} {d:DataW H}
theorem yR {H:Type} {l:List (DataW H)} {x:DataW H} (h:x∈l):Rows.uptoBulk x≤Rows.uptoBulkAll l:=by
 induction l with
 |nil=>cases h
 |cons y l ih=>
  simp only[Rows.uptoBulkAll]
  rcases χ.1 h with rfl|h
  ·omega
  ·have:=ih h;omega
end Go.Proofs.YtecjacicdpejaaaGreat
namespace Go.Proofs.YtecjacicdpejaaaGreat
open Go.V Go Go.RowKit
variable{H:Type} {enc:TypeId×Value→H} {w:World} {spare:Nat→Bool} {held:Bool} {d:DataW H}
def Rg.fit (g:Rg):Prop:=-2147483648≤g.1∧g.1≤2147483647∧-2147483648≤g.2∧g.2≤2147483647
end Go.Proofs.YtecjacicdpejaaaGreat
namespace Go.Proofs.YtecjacicdpejaaaGreat
open Go.V Go Go.RowKit
variable{H:Type} {enc:TypeId×Value→H} {w:World} {spare:Nat→Bool} {held:Bool} {d:DataW H}
theorem me (h:Rd enc Tryz.prog w spare held 22 d):∃(y:D) (ps:List (List UInt8)),bY d=y∧dg y 1 (ps.map tQ)∧(Rows.uptoBulk d≤1048576→ps.length≤1048576∧∀b∈ps,b.length≤1048576):=by
 rcases h.slice Tryz.underlying22 with rfl|⟨elems,rest,rfl,he⟩
 ·exact⟨_,[],rfl,.inl ⟨rfl,rfl⟩,fun _=>⟨by simp,fun b hb=>(by cases hb)⟩⟩
 ·obtain⟨l,h1,h2,h3⟩:=wP (s:=1) (f:=tQ) (Q:=fun(b:List UInt8) x=>b.length≤Rows.uptoBulk x) (rest:=rest) fun x hx=>by
   obtain⟨b,rfl⟩:=(he x hx).string Tryz.underlying9;refine⟨b,rfl,rfl,rfl,?_⟩;simp only[Rows.uptoBulk];omega
  refine⟨_,l,rfl,h1,fun hb=>⟨?_,fun b gx=>?_⟩⟩
  ·have:=ma elems;simp only[Rows.uptoBulk] at hb;omega
  ·obtain⟨x,hx,h4⟩:=h3 b gx;have:=yR hx;simp only[Rows.uptoBulk] at hb;omega
end Go.Proofs.YtecjacicdpejaaaGreat
namespace Go.Proofs.YtecjacicdpejaaaGreat
open Go.V Go Go.RowKit
variable{H:Type} {enc:TypeId×Value→H} {w:World} {spare:Nat→Bool} {held:Bool} {d:DataW H}
theorem lJ (h:Rd enc Tryz.prog w spare held 23 d):∃(y:D) (b:List UInt8),bY d=y∧dg y 1 (byteCells b)∧(Rows.uptoBulk d≤1048576→b.length≤1048576):=by
 rcases h.slice Tryz.underlying23 with rfl|⟨elems,rest,rfl,he⟩
 ·exact⟨_,[],rfl,.inl ⟨rfl,rfl⟩,fun _=>by simp⟩
 ·obtain⟨l,h1,h2,_⟩:=wP (s:=1) (f:=fun c:UInt8=>[.int .u8 (c.toNat:Nat)]) (Q:=fun _ _=>True) (rest:=rest) fun x hx=>by
   obtain⟨n,rfl,hw⟩:=(he x hx).int Tryz.underlying5;obtain⟨c,rfl⟩:=wf_u8 hw;exact⟨c,rfl,rfl,rfl,trivial⟩
  refine⟨_,l,rfl,h1,fun hb=>?_⟩;have:=ma elems;simp only[Rows.uptoBulk] at hb;omega
end Go.Proofs.YtecjacicdpejaaaGreat
namespace Go.Proofs.YtecjacicdpejaaaGreat
open Go.V Go Go.RowKit
structure Sc where
 y:D
 h:List UInt8
 place:Int
 x:D
 L:List GV
def Sc.d (s:Sc):D:=.agg [s.y,.int .i64 s.place,s.x]
structure Sc.ok (s:Sc):Prop where
 hy:dg s.y 1 (byteCells s.h)
 hl:s.h.length≤1048576
 hx:dg s.x 12 (s.L.map eo)
 ln:s.L.length≤1048576
 th:∀l∈s.L,dg l.td 11 (l.bn.map dA)∧l.bn.length≤1048576
variable{H:Type} {enc:TypeId×Value→H} {w:World} {spare:Nat→Bool} {held:Bool} {d:DataW H}
end Go.Proofs.YtecjacicdpejaaaGreat
