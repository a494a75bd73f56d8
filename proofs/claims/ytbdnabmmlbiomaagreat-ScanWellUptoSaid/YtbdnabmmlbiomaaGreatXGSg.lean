/-
 A machine of given lists.
-/
import Derived.Test.YtbdnabmmlbiomaaGreatXGSd
import Derived.Test.YtbdnabmmlbiomaaGreatXGYn
import Derived.Test.YtbdnabmmlbiomaaGreatXM2
import Derived.DataReads
import Derived.ChangeOld
import GoSem.ClaimChange
import Derived.Below
import Derived.Test.YtbdnabmmlbiomaaGreatRows
import Derived.Test.YtbdnabmmlbiomaaGreatXGQh
set_option maxRecDepth 100000
set_option maxHeartbeats 4000000
set_option linter.unusedSimpArgs false
set_option linter.unusedVariables false
set_option linter.unusedSectionVars false
set_option linter.unnecessarySimpa false
open List renaming drop_succ_cons→δ,take_succ_cons→ε,drop_zero→η,take_zero→θ,mem_map→ξ,length→ο,length_map→ρ,getElem?_eq_getElem→ς,mem_cons→υ,getElem?_map→Δ,map_cons→Θ,getElem?_eq_none→Φ,getElem?_of_mem→Ω,mem_cons_of_mem→QQ,mem_of_getElem?→QX,mem_cons_self→QJ,not_mem_nil→Qz,mapM_cons→Qv,map_map→Qk,foldl→Qw,take_length→QW,headD_cons→QY,length_nil→QK,mem_append→QV,drop_drop→QU,take_add→QG,range'→QB
open Nat renaming reduceAdd→ζ,reduceSub→κ,le_of_ble_eq_true→ν,lt_or_ge→Qy,le_trans→QF,add_mul→QD,le_refl→QC
open Option renaming map_eq_some_iff→ι,bind_eq_some_iff→φ
open Go.DataW renaming trod→μ,Trod→QH
open Go.V.aa renaming nil→π,aF→χ
open Go.V.D renaming cells→τ
open Go.V.ab renaming cond→ψ,ret→Γ,skip→Qj,block→QP
open Go.World renaming cells?_some→ω
open Go.V.Fr renaming get→Ξ,ev→Qx
open Bool renaming and_eq_true_iff→Ψ,and_eq_true→Qq
open Go.V renaming look→QZ
namespace Go.Proofs.YtbdnabmmlbiomaaGreat
open Go.V Go
def GT.Nn (t:GT):iS:=⟨t.pc.toNat,t.c⟩
def GV.v (l:GV):VL:=⟨l.dn,l.aU,l.td,l.bB.map GT.Nn⟩
theorem yq (L:List GV):(L.map GV.v).map dP=L.map gr:=by rw[Qk];rfl
theorem BS {l:List GT} (h:∀t∈l,0≤t.pc):(l.map GT.Nn).map aK=l.map fe:=by
 rw[Qk];refine List.map_congr_left fun t ht=>?_;obtain⟨k,hk⟩:=Int.eq_ofNat_of_zero_le (h t ht);obtain⟨pc,c⟩:=t;simp only at hk;subst hk
 rfl
variable{l:GV}{p:Pg}{place:Int}{L:List GV}{N:Nat}{S s0:St}{H:List bJ}{x y:D}{h:List UInt8}
theorem dJ.Nn (h:dJ p place L) (hl:l∈L) {t:GT} (ht:t∈l.bB):0≤t.pc∧t.pc<(p.code.length:Int):=by
 obtain⟨r,hr⟩:=Ω hl;obtain⟨j,hj⟩:=Ω ht;have ni:=bC hr;have hlen:=h.len
 obtain⟨s,hs⟩:∃s,p.ak[r]?=some s:=⟨p.ak[r]'(by omega),ς _⟩
 exact sL h.right (h.right.st s (QX hs)) ((h.each r l s ni hr hs).2.2 j t (bC hj) hj).1.1
theorem dJ.cells (h:dJ p place L) (hl:l∈L):l.v.bB.map aK=l.bB.map fe:=BS fun t ht=>(h.Nn hl ht).1
theorem dJ.ok (h:dJ p place L) (ht:∀l∈L,l.bB.length≤1000):∀l∈(L.map GV.v).map VL.pl,l.ok p.code.length:=by
 intro q hq;obtain⟨v,hv,rfl⟩:=ξ.1 hq;obtain⟨l,hl,rfl⟩:=ξ.1 hv;refine⟨fun t h'=>?_,by show(l.bB.map GT.Nn).length≤1000;rw[ρ];exact ht l hl⟩;obtain⟨u,hu,rfl⟩:=ξ.1 (show t∈l.bB.map GT.Nn from h');have:=h.Nn hl hu;show u.pc.toNat<_;omega
theorem wP (hx:Arg N S 1 x (byteCells h)) (z6:h.length≤1048576) (hb:cF h=false) (hne:h≠[]) (hH:Has N S s0 H):
  ∃d ai,Ev pv 78 [x] s0 d ai∧d=.tup [.pnil,.int .i64 4]∧Has N S ai H:=by
 have Tk:=bI h
 have MK:0<h.length:=by cases h with
  |nil=>exact absurd rfl hne
  |cons a b=>simp
 have eF:(dN h).2.2=false:=hb;have hfi:=fun{st:St} (hb:Bytes st x h)=>sQ hb;rw[eF] at hfi;generalize(dN h).1=r0 at*;generalize(dN h).2.1=n0 at*;refine Ev.iD rfl Vy rfl rfl rfl ?_;dsimp only[u3,u4,ο,κ,ζ,w1,w2];change ab _ _ _ _ s0 _;refine qq<|qj fun K hK=>qm ?_;refine qm ?_;refine qe hK<|qq<|qj fun K hK=>qm ?_;refine qv ((hfi (hx.rows hH))) ?_;refine qm ?_;refine qg ?_;refine qg ?_;refine qg ?_;refine qm ?_;refine qm ?_;refine qm ?_;refine qe hK ?_;have aZ:(!false)=true:=rfl;refine qq<|qq<|ab.dz 20 (.bool (decide (((byteCells h).length:Int)>0))) [] ?_ (fun ff tmp cY=>?_)
 ·refine qm ?_;refine qg ?_;refine qm ?_;refine qm ?_ (hg:=wi aZ);refine qn ?_ (hg:=wi aZ);refine qg ?_ (hg:=wi aZ);refine qt aZ ?_;refine π (aY ?_ ?_)
  ·dsimp only[aB,Qw,nth,u2,u1]
   all_goals(first|rfl|simp)
  ·dsimp only[Fr.aj,Fr.put,Fr.clean,Qx,Ξ,nth,look,u1,u2,v1,v2,v4]
   all_goals(rfl)
 dsimp only[aB,Qw,nth,u2,u1];refine ψ (v:=true) (by dsimp only[Qx,Ξ,nth,QZ];exact cY.trans (congrArg D.bool (decide_eq_true (by omega)))) (fun _=>?_) (fun h=>by cases h);refine qq<|qj fun K hK=>qm ?_;refine qm ?_;refine qe hK<|Γ ⟨rx,_,_,_,rfl,rfl,?_⟩;exact⟨rfl,hH⟩
theorem Dr (dB:∀st,Ev pv 59 [] st (.agg (ay bX)) st) (hF:S.flr≤N) (hp:p.ok) (hR:bE p) (hW:¬dJ p place L) (hx:Arg N S 12 x (L.map gr)) (pR:L.length≤1048576) (ht:∀l∈L,Arg N S 11 l.td (l.bB.map fe)∧l.bB.length≤1048576) (hH:Has N S s0 H):
  ∃r ai,Ev pv 17 [p.d,.agg [.int .i64 place,x]] s0 r ai∧r=.tup [.pnil,.int .i64 4]∧Has N S ai H:=by
 have F8:=fun{st:St} {H:List bJ} (hH:Has N S st H)=>wO hF hp hR hH;have Cu:=fun{st:St} (hx:FU st x L)=>rk dB hp hx place;rw[cQ hW] at Cu;unfold Pg.d at*;refine Ev.iD rfl VJ rfl rfl rfl ?_;dsimp only[u3,u4,ο,κ,ζ,w1,w2];change ab _ _ _ _ s0 _;refine qq<|qj fun K hK=>qb hH fun k2 st hk2 hH=>?_;dsimp only[u2,u1,u3,u4,setMany,u5,u6,τ,ζ,Pg.cs] at hH;refine qb hH fun k3 st qX hH=>?_;refine qm ?_;refine qm ?_;refine qe hK<|qq<|qj fun K hK=>?_;refine χ (m:=2) hH rfl (ev rfl) (by exact bh) (by dsimp only[δ,η,ε,θ,Pg.cs]<;>rfl) rfl rfl (ae rfl _) ?_;obtain⟨_,st,aL,kv,ks,q,rfl,hq,hM⟩:=F8 hH;refine qv aL ?_;refine qm ?_;refine qg ?_;refine qg ?_;refine qm ?_;refine qm ?_;refine qe hK ?_;obtain⟨pd,qd,P,Q,sn,hH,bA,gj⟩:=hM;dsimp only[u4,u6] at hH;refine qq<|qq<|qj fun K hK=>qm ?_;refine qg ?_;refine qe hK<|ψ (v:=false) (by dsimp only[Qx,Ξ,nth,QZ];rfl) (fun h=>by cases h) (fun _=>?_);refine Qj<|qq<|qq<|qj fun K hK=>?_;refine χ (m:=2) hH rfl (ev rfl) (by exact Tn) (by dsimp only[δ,η,ε,θ,Pg.cs]<;>rfl) rfl rfl (ae rfl _) ?_;refine χ (m:=2) hH rfl (ev rfl) (by exact qG) (by dsimp only[δ,η,ε,θ,Pg.cs]<;>rfl) rfl rfl (ae rfl _) ?_;refine qv ((Cu ⟨hx.rows hH,pR,fun l hl=>⟨(ht l hl).1.rows hH,(ht l hl).2⟩⟩)) ?_;refine qg ?_;refine qe hK<|ψ (v:=true) (by dsimp only[Qx,Ξ,nth,QZ];rfl) (fun _=>?_) (fun h=>by cases h);refine qq<|qj fun K hK=>qm ?_;refine qm ?_;refine qe hK<|Γ ⟨rx,_,_,_,rfl,rfl,?_⟩;exact⟨rfl,hH.drop 7⟩
theorem Dq (dB:∀st,Ev pv 59 [] st (.agg (ay bX)) st) (hF:S.flr≤N) (hp:p.ok) (hW:dJ p place L) (hx:Arg N S 12 x (L.map gr)) (ht:∀l∈L,Arg N S 11 l.td (l.bB.map fe)∧l.bB.length≤1000) (hH:Has N S s0 H):
  ∃r ai,Ev pv 17 [p.d,.agg [.int .i64 place,x]] s0 r ai∧∃kv ks q ld L',r=.tup [.ptr kv 0 0,.int .i64 0]∧wB p q∧L'.map VL.pl=(L.map GV.v).map VL.pl∧MH [] N S ai ks kv q place.toNat ld L' H:=by
 have hR:=hW.right;have RD:=hR.sl;have pR:=hW.len;obtain⟨pn,rfl⟩:=Int.eq_ofNat_of_zero_le hW.ge;have F8:=fun{st:St} {H:List bJ} (hH:Has N S st H)=>wO hF hp hR hH;have Cu:=fun{st:St} (hx:FU st x L)=>rk dB hp hx ((pn:Nat):Int);rw[cD hW] at Cu;have hrx:=hx.2
 have hco:=fun{st:St} {H:List bJ} (hH:Has N S st H)=>s9 (L:=L.map GV.v) (x:=x) hF (by rw[ρ];omega) (by rw[yq];exact hx) (fun l hl=>by
  obtain⟨g,hg,rfl⟩:=ξ.1 hl;refine⟨?_,by show(g.bB.map GT.Nn).length≤1000;rw[ρ];exact(ht g hg).2⟩
  rw[hW.cells hg];exact(ht g hg).1) hH
 unfold Pg.d at*;refine Ev.iD rfl VJ rfl rfl rfl ?_;dsimp only[u3,u4,ο,κ,ζ,w1,w2];change ab _ _ _ _ s0 _;refine qq<|qj fun K hK=>qb hH fun k2 st hk2 hH=>?_;dsimp only[u2,u1,u3,u4,setMany,u5,u6,τ,ζ,Pg.cs] at hH;refine qb hH fun k3 st qX hH=>?_;refine qm ?_;refine qm ?_;refine qe hK<|qq<|qj fun K hK=>?_;refine χ (m:=2) hH rfl (ev rfl) (by exact bh) (by dsimp only[δ,η,ε,θ,Pg.cs]<;>rfl) rfl rfl (ae rfl _) ?_;obtain⟨_,st,aL,kv,ks,q,rfl,hq,hM⟩:=F8 hH;refine qv aL ?_;refine qm ?_;refine qg ?_;refine qg ?_;refine qm ?_;refine qm ?_;refine qe hK ?_;obtain⟨pd,qd,P,Q,sn,hH,bA,gj⟩:=hM;dsimp only[u4,u6] at hH;refine qq<|qq<|qj fun K hK=>qm ?_;refine qg ?_;refine qe hK<|ψ (v:=false) (by dsimp only[Qx,Ξ,nth,QZ];rfl) (fun h=>by cases h) (fun _=>?_);refine Qj<|qq<|qq<|qj fun K hK=>?_;refine χ (m:=2) hH rfl (ev rfl) (by exact Tn) (by dsimp only[δ,η,ε,θ,Pg.cs]<;>rfl) rfl rfl (ae rfl _) ?_;refine χ (m:=2) hH rfl (ev rfl) (by exact qG) (by dsimp only[δ,η,ε,θ,Pg.cs]<;>rfl) rfl rfl (ae rfl _) ?_;refine qv ((Cu ⟨hx.rows hH,by omega,fun l hl=>⟨(ht l hl).1.rows hH,by have:=(ht l hl).2;omega⟩⟩)) ?_;refine qg ?_;refine qe hK<|ψ (v:=false) (by dsimp only[Qx,Ξ,nth,QZ];rfl) (fun h=>by cases h) (fun _=>?_);refine Qj ?_;have hH:=Has.lA [_,_,_,_,_] [_,_] hH;dsimp only[u3,u4] at hH;have tK:=hH;have qX:=hH.ge av;change ab _ _ _ _ _ _;refine qq ?_;generalize hK:bj _ _ _ _=K;refine ab.oK rfl ?_;refine bP.cons ?_;refine qm ?_;refine π ⟨rfl,?_⟩;refine bP.cons ?_;refine qm ?_;refine π ⟨rfl,?_⟩;refine bP.cons ?_;refine qp (o:=0) ?_;refine π ⟨rfl,?_⟩;refine bP.cons ?_;refine ql hH av ?_;refine π ⟨rfl,?_⟩;refine bP.cons ?_;refine qp (o:=1) ?_;refine π ⟨rfl,?_⟩;refine bP.cons ?_;refine ql hH av ?_;refine π ⟨rfl,?_⟩;refine bP.cons ?_;obtain⟨_,st,aL,L2,Ac,hH⟩:=hco hH;have hH:=Has.lA (_::L2.map pX) [_,_,_,_,_,_,_] hH;dsimp only[u3,u4] at hH;have NO:=hH;refine qv aL ?_;refine π ⟨by exact Ψ.2 ⟨gk rfl rfl rfl (tK.at av) (NO.at av) (tK.at av) (by simp only[refs,D.ref];omega),rfl⟩,?_⟩;refine bP.cons ?_;refine qg ?_;refine π ⟨rfl,?_⟩;refine bP.cons ?_;refine qp (o:=2) ?_;refine π ⟨rfl,?_⟩;refine bP.cons ?_;refine qT hH dF fun st hH=>?_;dsimp only[u2,u1,u3,u4,setMany,u5,u6,τ,ζ,Pg.cs] at hH;refine π ⟨rfl,?_⟩;refine bP.cons ?_;refine qg ?_;refine π ⟨rfl,?_⟩;refine bP.cons ?_;refine qp (o:=3) ?_;refine π ⟨rfl,?_⟩;refine bP.cons ?_;refine qT hH dF (fun st hH=>?_) (iy:=hH.eJ W8);dsimp only[u2,u1,u3,u4,setMany,u5,u6,τ,ζ,Pg.cs] at hH;refine π ⟨rfl,?_⟩;refine bP.nil ?_;subst hK;refine qq<|qj fun K hK=>qm ?_;refine qm ?_;refine qm ?_;refine qe hK<|Γ ⟨rx,_,_,_,rfl,rfl,?_⟩;rw[Int.toNat_natCast];exact⟨kv,ks,q,_,L2,rfl,hq,Ac,pd,qd,P,Q,sn,(hH.drop 2).erase 4,bA,gj⟩
theorem Ds (hx:Arg N S 1 x (byteCells h)) (hb:cF h=true∨h=[]) (h3:h.length≤3) (hH:Has N S s0 H):
  ∃kd ai,Ev pv 78 [x] s0 (.tup [.ptr kd 0 0,.int .i64 0]) ai∧Has N S ai (.box kd (.mem 0 false (fG h (([0,0,0,0]:List UInt8).drop h.length)))::H):=
 ⟨_,_,Nu (hx.rows hH) hb h3 (by rw[hH.ex.ro];exact QF hH.eT (QF hH.hN hH.len)),hH.nD _⟩
theorem Fs {p q:Prop} (h:p↔q):dec p=dec q:=by rw[show p=q from propext h]
structure C9 (x:D) (L:List GV):Prop where
 sl:dr x 12 (L.map gr)
 ln:L.length≤12
 th:∀l∈L,dr l.td 11 (l.bB.map fe)∧l.bB.length≤500
theorem C9.arg (h:C9 x L) (st:St):FU st x L:=⟨h.sl.rows st,by have:=h.ln;omega,fun l hl=>⟨(h.th l hl).1.rows st,by have:=(h.th l hl).2;omega⟩⟩
theorem NW (dB:∀st,Ev pv 59 [] st (.agg (ay bX)) st) (hF:S.flr≤N) (hp:p.ok) (hW:dJ p place L) (hx:C9 x L) (hy:dr y 1 (byteCells h)) (hb:cF h=true∨h=[]) (h3:h.length≤3) (hH:Has N S s0 H):
  ∃r ai,Ev pv 41 [p.d,.agg [y,.int .i64 place,x]] s0 r ai∧∃kS kd kv ks q ld L',r=.tup [.ptr kS 0 0,.int .i64 0]∧wB p q∧L'.map VL.pl=(L.map GV.v).map VL.pl∧SH [] N S ai kS kd kv ks q place.toNat ld L' h H:=by
 have Un:=fun{st:St} {H:List bJ} (hH:Has N S st H)=>Dq (N:=N) (S:=S) dB hF hp hW (hx.sl.arg N S) (fun l hl=>⟨(hx.th l hl).1.arg N S,by have:=(hx.th l hl).2;omega⟩) hH;have hcl:=hx.sl.cells;have jJ:=hy.cells;have Dc:=hy.arg N S;unfold Pg.d at*;refine Ev.iD rfl SD rfl rfl rfl ?_;dsimp only[u3,u4,ο,κ,ζ,w1,w2];change ab _ _ _ _ s0 _;refine qq<|qj fun K hK=>qb hH fun k2 st hk2 hH=>?_;dsimp only[u2,u1,u3,u4,setMany,u5,u6,τ,ζ,Pg.cs] at hH;refine qb hH fun k3 st qX hH=>?_;refine qm ?_;refine qm ?_;refine qe hK<|qq<|qj fun K hK=>?_;refine χ (m:=2) hH rfl (ev rfl) (by exact bh) (by dsimp only[δ,η,ε,θ,Pg.cs]<;>rfl) rfl rfl (ae rfl _) ?_;refine qp (o:=1) ?_;refine χ (m:=2) hH rfl (ev rfl) (by exact av) (by dsimp only[δ,η,ε,θ,Pg.cs]<;>rfl) rfl rfl (ae rfl _) ?_;obtain⟨_,st,aL,kv,ks,q,ld,L2,rfl,hq,Ac,hM⟩:=Un hH;refine qv aL ?_;refine qm ?_;refine qg ?_;refine qg ?_;refine qm ?_;refine qm ?_;refine qe hK ?_;obtain⟨pd,qd,P,Q,sn,hH,bA,gj⟩:=ur (MH.pull [_,_] [] (H:=H) hM);dsimp only[u3,u4] at hH;refine qq<|qq<|qj fun K hK=>qm ?_;refine qg ?_;refine qe hK<|ψ (v:=false) (by dsimp only[Qx,Ξ,nth,QZ];rfl) (fun h=>by cases h) (fun _=>?_);refine Qj<|qq<|qj fun K hK=>qp (o:=0) ?_;refine ql hH av ?_;obtain⟨kd,st,aL,hH⟩:=Ds Dc hb h3 hH;refine qv aL ?_;refine qm ?_;refine qg ?_;refine qg ?_;refine qm ?_;refine qm ?_;refine qe hK<|qq<|qq<|qj fun K hK=>qm ?_;refine qg ?_;refine qe hK<|ψ (v:=false) (by dsimp only[Qx,Ξ,nth,QZ];rfl) (fun h=>by cases h) (fun _=>?_);refine Qj<|qq<|qj fun K hK=>qm ?_;refine qm ?_;refine aa.gK (qs:=[(0,_),(1,_)]) rfl rfl rfl rfl ⟨rfl,(ev rfl),(by rfl),rfl,(ev rfl),(by rfl),trivial⟩ (by intro q hq;simp only[υ,Qz,or_false] at hq;rcases hq with rfl|rfl<;>exact⟨rfl,by exact ν rfl⟩) (by show Qw _ [_,_] _=_;dsimp only[List.foldl_cons,List.foldl_nil,u2,u1]<;>rfl) (ae rfl _) ?_;refine qb hH fun k31 st abJ hH=>?_;refine qm ?_;refine qm ?_;refine qe hK<|Γ ⟨rx,_,_,_,rfl,rfl,?_⟩;refine⟨k31,kd,kv,ks,q,ld,L2,rfl,hq,Ac,pd,qd,P,Q,sn,([0,0,0,0]:List UInt8).drop h.length,?_,bA,gj,by simp;omega⟩;exact(hH.erase 2).erase 2
theorem DL (dB:∀st,Ev pv 59 [] st (.agg (ay bX)) st) (hF:S.flr≤N) (hp:p.ok) (hR:bE p) (hx:C9 x L) (hy:dr y 1 (byteCells h)) (z6:h.length≤1048576) (kh:¬(dJ p place L∧(cF h=true∨h=[]))) (hH:Has N S s0 H):
  ∃r ai,Ev pv 41 [p.d,.agg [y,.int .i64 place,x]] s0 r ai∧r=.tup [.pnil,.int .i64 4]∧Has N S ai H:=by
 have hcl:=hx.sl.cells;have jJ:=hy.cells;have Dc:=hy.arg N S
 by_cases hW:dJ p place L
 ·have Un:=fun{st:St} {H:List bJ} (hH:Has N S st H)=>Dq (N:=N) (S:=S) dB hF hp hW (hx.sl.arg N S) (fun l hl=>⟨(hx.th l hl).1.arg N S,by have:=(hx.th l hl).2;omega⟩) hH
  have hb:cF h=false:=by
   cases hb:cF h with
   |false=>rfl
   |true=>exact absurd ⟨hW,.inl hb⟩ kh
  have hne:h≠[]:=fun e=>kh ⟨hW,.inr e⟩;unfold Pg.d at*;refine Ev.iD rfl SD rfl rfl rfl ?_;dsimp only[u3,u4,ο,κ,ζ,w1,w2];change ab _ _ _ _ s0 _;refine qq<|qj fun K hK=>qb hH fun k2 st hk2 hH=>?_;dsimp only[u2,u1,u3,u4,setMany,u5,u6,τ,ζ,Pg.cs] at hH;refine qb hH fun k3 st qX hH=>?_;refine qm ?_;refine qm ?_;refine qe hK<|qq<|qj fun K hK=>?_;refine χ (m:=2) hH rfl (ev rfl) (by exact bh) (by dsimp only[δ,η,ε,θ,Pg.cs]<;>rfl) rfl rfl (ae rfl _) ?_;refine qp (o:=1) ?_;refine χ (m:=2) hH rfl (ev rfl) (by exact av) (by dsimp only[δ,η,ε,θ,Pg.cs]<;>rfl) rfl rfl (ae rfl _) ?_;obtain⟨_,st,aL,kv,ks,q,ld,L2,rfl,hq,Ac,hM⟩:=Un hH;refine qv aL ?_;refine qm ?_;refine qg ?_;refine qg ?_;refine qm ?_;refine qm ?_;refine qe hK ?_;obtain⟨pd,qd,P,Q,sn,hH,bA,gj⟩:=ur (MH.pull [_,_] [] (H:=H) hM);dsimp only[u3,u4] at hH;refine qq<|qq<|qj fun K hK=>qm ?_;refine qg ?_;refine qe hK<|ψ (v:=false) (by dsimp only[Qx,Ξ,nth,QZ];rfl) (fun h=>by cases h) (fun _=>?_);refine Qj<|qq<|qj fun K hK=>qp (o:=0) ?_;refine ql hH av ?_;obtain⟨_,st,aL,rfl,hH⟩:=wP Dc z6 hb hne hH;refine qv aL ?_;refine qm ?_;refine qg ?_;refine qg ?_;refine qm ?_;refine qm ?_;refine qe hK<|qq<|qq<|qj fun K hK=>qm ?_;refine qg ?_;refine qe hK<|ψ (v:=true) (by dsimp only[Qx,Ξ,nth,QZ];rfl) (fun _=>?_) (fun h=>by cases h);refine qq<|qj fun K hK=>qm ?_;refine qm ?_;refine qm ?_;refine qe hK<|Γ ⟨rx,_,_,_,rfl,rfl,?_⟩;refine⟨rfl,?_⟩;have h2:=(hH.drop 2).drop (gh ks kv q place.toNat ld pd qd P Q L2).length;simp only[δ,η,List.drop_left] at h2;exact h2
 ·have Un:=fun{st:St} {H:List bJ} (hH:Has N S st H)=>Dr (N:=N) (S:=S) dB hF hp hR hW (hx.sl.arg N S) (by have:=hx.ln;omega) (fun l hl=>⟨(hx.th l hl).1.arg N S,by have:=(hx.th l hl).2;omega⟩) hH;unfold Pg.d at*;refine Ev.iD rfl SD rfl rfl rfl ?_;dsimp only[u3,u4,ο,κ,ζ,w1,w2];change ab _ _ _ _ s0 _;refine qq<|qj fun K hK=>qb hH fun k2 st hk2 hH=>?_;dsimp only[u2,u1,u3,u4,setMany,u5,u6,τ,ζ,Pg.cs] at hH;refine qb hH fun k3 st qX hH=>?_;refine qm ?_;refine qm ?_;refine qe hK<|qq<|qj fun K hK=>?_;refine χ (m:=2) hH rfl (ev rfl) (by exact bh) (by dsimp only[δ,η,ε,θ,Pg.cs]<;>rfl) rfl rfl (ae rfl _) ?_;refine qp (o:=1) ?_;refine χ (m:=2) hH rfl (ev rfl) (by exact av) (by dsimp only[δ,η,ε,θ,Pg.cs]<;>rfl) rfl rfl (ae rfl _) ?_;obtain⟨_,st,aL,rfl,hH⟩:=Un hH;refine qv aL ?_;refine qm ?_;refine qg ?_;refine qg ?_;refine qm ?_;refine qm ?_;refine qe hK<|qq<|qq<|qj fun K hK=>qm ?_;refine qg ?_;refine qe hK<|ψ (v:=true) (by dsimp only[Qx,Ξ,nth,QZ];rfl) (fun _=>?_) (fun h=>by cases h);refine qq<|qj fun K hK=>qm ?_;refine qm ?_;refine qm ?_;refine qe hK<|Γ ⟨rx,_,_,_,rfl,rfl,?_⟩;exact⟨rfl,hH.drop 2⟩
theorem DJ (dB:∀st,Ev pv 59 [] st (.agg (ay bX)) st) (hp:p.ok) (hx:C9 x L) (hy:dr y 1 (byteCells h)) (z6:h.length≤1048576):
  Ev pv 40 [p.d,.agg [y,.int .i64 place,x]] s0 (.bool (dec (dJ p place L∧(cF h=true∨h=[])))) s0:=by
 have Cu:=fun(st:St)=>rk dB hp (hx.arg st) place;have hcl:=hx.sl.cells;have jJ:=hy.cells
 by_cases hb:cF h=true∨h=[]
 ·have h3:h.length≤3:=by
   rcases hb with hb|rfl
   ·exact yN hb
   ·simp
  rw[Fs (q:=dJ p place L) ⟨fun h=>h.1,fun h=>⟨h,hb⟩⟩];unfold Pg.d at*;refine Ev.h_ rfl VA rfl rfl rfl ?_;dsimp only[u3,u4,ο,κ,ζ,w1,w2];obtain⟨bt,hF,hH⟩:=ri s0;generalize ah .ro s0=S at*;have Dc:=hy.arg s0.bs.length S;refine qq<|qj fun K hK=>qb hH fun k2 st hk2 hH=>?_;dsimp only[u2,u1,u3,u4,setMany,u5,u6,τ,ζ,Pg.cs] at hH;refine qb hH fun k3 st qX hH=>?_;refine qm ?_;refine qe hK<|qq<|qj fun K hK=>qp (o:=0) ?_;refine ql hH av ?_;obtain⟨kd,st,aL,hH⟩:=Ds Dc hb h3 hH;refine qv aL ?_;refine qm ?_;refine qg ?_;refine qg ?_;refine qm ?_;refine qm ?_;refine qe hK ?_;have aZ:true=true:=rfl;refine qq<|qj fun K hK=>qm ?_;refine qg ?_;refine qm ?_;refine χ (m:=2) hH (aq rfl rfl rfl aZ) (ev rfl) (by exact dF) (by dsimp only[δ,η,ε,θ,Pg.cs]<;>rfl) rfl rfl (ae rfl _) ?_;refine qp (o:=1) ?_ (hg:=wi aZ);refine χ (m:=2) hH (aq rfl rfl rfl aZ) (ev rfl) (by exact bh) (by dsimp only[δ,η,ε,θ,Pg.cs]<;>rfl) rfl rfl (ae rfl _) ?_;refine qv ((Cu _)) ?_ (hg:=wi aZ);refine qt aZ ?_;refine qm ?_;refine qe hK<|Γ ⟨rx,_,rfl,rl bt hH (rfl)⟩
 ·rw[cQ (fun h=>hb h.2)]
  have hb1:cF h=false:=by
   cases hb1:cF h with
   |false=>rfl
   |true=>exact absurd (.inl hb1) hb
  have hne:h≠[]:=fun e=>hb (.inr e);unfold Pg.d at*;refine Ev.h_ rfl VA rfl rfl rfl ?_;dsimp only[u3,u4,ο,κ,ζ,w1,w2];obtain⟨bt,hF,hH⟩:=ri s0;generalize ah .ro s0=S at*;have Dc:=hy.arg s0.bs.length S;refine qq<|qj fun K hK=>qb hH fun k2 st hk2 hH=>?_;dsimp only[u2,u1,u3,u4,setMany,u5,u6,τ,ζ,Pg.cs] at hH;refine qb hH fun k3 st qX hH=>?_;refine qm ?_;refine qe hK<|qq<|qj fun K hK=>qp (o:=0) ?_;refine ql hH av ?_;obtain⟨_,st,aL,rfl,hH⟩:=wP Dc z6 hb1 hne hH;refine qv aL ?_;refine qm ?_;refine qg ?_;refine qg ?_;refine qm ?_;refine qm ?_;refine qe hK ?_;have aZ:false=false:=rfl;refine qq<|qj fun K hK=>qm ?_;refine qg ?_;refine qm ?_;refine qs ?_ (hg:=wn aZ);refine qs ?_ (hg:=wn aZ);refine qs ?_ (hg:=wn aZ);refine qs ?_ (hg:=wn aZ);refine qu aZ ?_;refine qm ?_;refine qe hK<|Γ ⟨rx,_,rfl,rl bt hH (rfl)⟩
theorem vt (dB:∀st,Ev pv 67 [] st (.agg (ay bX)) st) (hp:p.ok) (hx:C9 x L) (hy:dr y 1 (byteCells h)) (z6:h.length≤1048576):
  Ev pv 43 [p.d,.agg [y,.int .i64 place,x]] s0 (.bool (dec (dJ p place L∧(cF h=true∨h=[])))) s0:=by
 have Cu:=fun(st:St)=>DV dB hp (hx.arg st) place;have Sl:=fun{st:St} (hb:Bytes st y h)=>FI hb z6;have hcl:=hx.sl.cells;have jJ:=hy.cells;have Tk:=bI h
 by_cases hW:dJ p place L
 ·rw[cD hW] at Cu;have cx:true=true:=rfl
  by_cases hh:h=[]
  ·rw[cD ⟨hW,.inr hh⟩];subst hh;have bV:((((byteCells []).length:Nat):Int)==0)=true:=rfl;unfold Pg.d at*;refine Ev.h_ rfl SC rfl rfl rfl ?_;dsimp only[u3,u4,ο,κ,ζ,w1,w2];obtain⟨bt,hF,hH⟩:=ri s0;generalize ah .ro s0=S at*;have Dc:=hy.arg s0.bs.length S;refine qq<|qj fun K hK=>qb hH fun k2 st hk2 hH=>?_;dsimp only[u2,u1,u3,u4,setMany,u5,u6,τ,ζ,Pg.cs] at hH;refine qb hH fun k3 st qX hH=>?_;refine qm ?_;refine qe hK<|qq<|qj fun K hK=>?_;refine χ (m:=2) hH rfl (ev rfl) (by exact bh) (by dsimp only[δ,η,ε,θ,Pg.cs]<;>rfl) rfl rfl (ae rfl _) ?_;refine qp (o:=1) ?_;refine χ (m:=2) hH rfl (ev rfl) (by exact av) (by dsimp only[δ,η,ε,θ,Pg.cs]<;>rfl) rfl rfl (ae rfl _) ?_;refine qv ((Cu _)) ?_;refine qm ?_;refine qp (o:=0) ?_ (hg:=wi cx);refine ql hH av ?_ (hg:=wi cx);refine qn ?_ (hg:=wi cx);refine qg ?_ (hg:=wi cx);refine qm ?_ (hg:=wi cx);refine qs ?_ (hg:=wn bV);refine qs ?_ (hg:=wn bV);refine qs ?_ (hg:=wn bV);refine aa.dI (aq rfl rfl rfl cx) rfl bV (ae rfl _) ?_;refine qt cx ?_;refine qm ?_;refine qe hK<|Γ ⟨rx,_,rfl,rl bt hH (rfl)⟩
  ·have MK:h.length≠0:=fun e=>hh (List.eq_nil_of_length_eq_zero e);have bV:((((byteCells h).length:Nat):Int)==0)=false:=by rw[Tk];simp;exact hh
   rw[show dec (dJ p place L∧(cF h=true∨h=[]))=cF h by
    cases hb:cF h with
    |true=>exact cD ⟨hW,.inl rfl⟩
    |false=>exact cQ (fun h=>by rcases h.2 with h|h;cases h;exact hh h)]
   unfold Pg.d at*;refine Ev.h_ rfl SC rfl rfl rfl ?_;dsimp only[u3,u4,ο,κ,ζ,w1,w2];obtain⟨bt,hF,hH⟩:=ri s0;generalize ah .ro s0=S at*;have Dc:=hy.arg s0.bs.length S;refine qq<|qj fun K hK=>qb hH fun k2 st hk2 hH=>?_;dsimp only[u2,u1,u3,u4,setMany,u5,u6,τ,ζ,Pg.cs] at hH;refine qb hH fun k3 st qX hH=>?_;refine qm ?_;refine qe hK<|qq<|qj fun K hK=>?_;refine χ (m:=2) hH rfl (ev rfl) (by exact bh) (by dsimp only[δ,η,ε,θ,Pg.cs]<;>rfl) rfl rfl (ae rfl _) ?_;refine qp (o:=1) ?_;refine χ (m:=2) hH rfl (ev rfl) (by exact av) (by dsimp only[δ,η,ε,θ,Pg.cs]<;>rfl) rfl rfl (ae rfl _) ?_;refine qv ((Cu _)) ?_;refine qm ?_;refine qp (o:=0) ?_ (hg:=wi cx);refine ql hH av ?_ (hg:=wi cx);refine qn ?_ (hg:=wi cx);refine qg ?_ (hg:=wi cx);refine qm ?_ (hg:=wi cx);refine qp (o:=0) ?_ (hg:=wi bV);refine ql hH av ?_ (hg:=wi bV);refine qv ((Sl (Dc.rows hH))) ?_ (hg:=wi bV);refine aa.de (aq rfl rfl rfl cx) rfl bV (ae rfl _) ?_;refine qt cx ?_;refine qm ?_;refine qe hK<|Γ ⟨rx,_,rfl,rl bt hH (rfl)⟩
 ·rw[cQ hW] at Cu;rw[cQ (fun h=>hW h.1)];have cx:false=false:=rfl;unfold Pg.d at*;refine Ev.h_ rfl SC rfl rfl rfl ?_;dsimp only[u3,u4,ο,κ,ζ,w1,w2];obtain⟨bt,hF,hH⟩:=ri s0;generalize ah .ro s0=S at*;refine qq<|qj fun K hK=>qb hH fun k2 st hk2 hH=>?_;dsimp only[u2,u1,u3,u4,setMany,u5,u6,τ,ζ,Pg.cs] at hH;refine qb hH fun k3 st qX hH=>?_;refine qm ?_;refine qe hK<|qq<|qj fun K hK=>?_;refine χ (m:=2) hH rfl (ev rfl) (by exact bh) (by dsimp only[δ,η,ε,θ,Pg.cs]<;>rfl) rfl rfl (ae rfl _) ?_;refine qp (o:=1) ?_;refine χ (m:=2) hH rfl (ev rfl) (by exact av) (by dsimp only[δ,η,ε,θ,Pg.cs]<;>rfl) rfl rfl (ae rfl _) ?_;refine qv ((Cu _)) ?_;refine qm ?_;refine qs ?_ (hg:=wn cx);refine qs ?_ (hg:=wn cx);refine qs ?_ (hg:=wn cx);refine qs ?_ (hg:=wn cx);refine qs ?_ (hg:=wn cx);refine qs ?_;refine qs ?_;refine qs ?_;refine qs ?_ (hg:=wn cx);refine qu cx ?_;refine qm ?_;refine qe hK<|Γ ⟨rx,_,rfl,rl bt hH (rfl)⟩
def vP (fr:Go.V.Fr) (k:Nat):Go.V.D:=Go.V.nth .bD fr.loc k
theorem yr (l:List GT):∀e∈l.map fe,∀d∈e,cv d=true:=by
 intro e he d hd;obtain⟨q,_,rfl⟩:=ξ.1 he;simp only[fe,υ,Qz,or_false] at hd
 rcases hd with rfl|rfl|rfl|rfl|rfl|rfl|rfl|rfl|rfl|rfl|rfl<;>rfl
theorem Sy (l:List GT):∀e∈l.map fe,e.length=11:=by
 intro e he;obtain⟨q,_,rfl⟩:=ξ.1 he;rfl
def Zt (l:List GT):D:=.sl ((l.map fe).map (jR 11))
theorem Vv (l:List GT):dr (Zt l) 11 (l.map fe):=dr.frozen (Sy l) (yr l)
def GV.told (l:GV):GV:=⟨l.dn,l.aU,Zt l.bB,l.bB⟩
def lL (L:List GV):D:=.sl (((L.map GV.told).map gr).map (jR 12))
theorem Sx (L:List GV):∀e∈L.map gr,e.length=12:=by
 intro e he;obtain⟨q,_,rfl⟩:=ξ.1 he;rfl
theorem told_plain (L:List GV):∀e∈(L.map GV.told).map gr,∀d∈e,cv d=true:=by
 intro e he d hd;obtain⟨q,hq,rfl⟩:=ξ.1 he;obtain⟨g,_,rfl⟩:=ξ.1 hq;simp only[gr,aJ,GV.told,Zt,υ,Qz,or_false] at hd
 rcases hd with rfl|rfl|rfl|rfl|rfl|rfl|rfl|rfl|rfl|rfl|rfl|rfl<;>rfl
theorem C9.told (h:C9 x L):C9 (lL L) (L.map GV.told):=by
 refine⟨dr.frozen (Sx _) (told_plain L),by rw[ρ];exact h.ln,fun l hl=>?_⟩;obtain⟨g,hg,rfl⟩:=ξ.1 hl;exact⟨Vv _,(h.th g hg).2⟩
theorem tS:dJ p place (L.map GV.told)↔dJ p place L:=by
 constructor
 ·rintro⟨h1,h2,h3,h4,h5⟩;refine⟨h1,h2,h3,by simpa using h4,fun r l s hr hl hs=>?_⟩;have:=h5 r l.told s (by simpa using hr) (by rw[Δ,hl];rfl) hs;exact this
 ·rintro⟨h1,h2,h3,h4,h5⟩;refine⟨h1,h2,h3,by simpa using h4,fun r l s hr hl hs=>?_⟩;rw[Δ] at hl;obtain⟨g,hg,rfl⟩:=ι.1 hl;exact h5 r g s (by simpa using hr) hg hs
theorem wz (hx:C9 x L):Ev pv 22 [x] s0 (lL L) s0:=by
 have pR:=hx.ln;refine Ev.h_ rfl aab rfl rfl rfl ?_;dsimp only[u3,u4,ο,κ,ζ,w1,w2];obtain⟨bt,hF,hH⟩:=ri s0;generalize ah .ro s0=S at*;have hla:=hx.sl.arg s0.bs.length S;refine qq<|qj fun K hK=>qm ?_;refine qe hK<|qq<|qj fun K hK=>qm ?_;refine qe hK<|qq<|qq<|qj fun K hK=>qm ?_;refine qe hK<|QP<|ab.loop (fun mm fr st=>∃(i:Nat) (y:D) (ks:Nat→Prop),fr.clean=⟨6,[x,vP fr 1,vP fr 2,y,.int .i64 (i:Nat),vP fr 5],[]⟩∧Has s0.bs.length S st [.deep ks y 12 (((L.map GV.told).take i).map gr)]∧(i+mm=L.length)) (L.length) ?_ ?_
 ·exact⟨0,.nul,_,rfl,(hH.Eg 12),by omega⟩
 rintro mm fr st ⟨i,y,ks,hfr,hH,hi⟩;rw[hfr];clear hfr;generalize vP fr=ee;clear fr;refine qq<|qq<|qj fun K hK=>qm ?_;refine qm ?_;refine qn ?_;simp only[ρ];refine qg ?_;refine qe hK ?_;refine ψ (by rfl) (fun hlt=>?_) (fun hlt=>?_)<;>try simp only[decide_eq_true_eq,decide_eq_false_iff_not] at hlt
 ·refine Qj ?_
  obtain⟨l,hl⟩:∃l,L[i]?=some l:=⟨L[i]'(by omega),ς _⟩
  obtain⟨Cw,ng⟩:=hx.th l (QX hl);have F6:=Cw.arg s0.bs.length S;have gB:=sI hl;have MJ:(L.map GV.told)[i]?=some l.told:=by rw[Δ,hl];rfl
  have XW:(((L.map GV.told).take i).map gr).length≤1048576:=by rw[ρ,List.length_take,ρ];omega
  refine qq<|QP<|qq<|qj fun K hK=>qm ?_;refine qm ?_;refine qr fun p14 UM=>?_;refine aa.cA rfl (ev rfl) (by assumption) rfl (ae rfl _) ?_;refine qa hH fun k5 st yh hH=>?_;refine qS hH av fun st hH=>?_;dsimp only[u2,u1,u3,u4,setMany,u5,u6,τ,ζ,aC,fe,aJ,ay,gr] at hH;refine qe hK<|qq<|qj fun K hK=>aa.EV (s:=11) hH rfl rfl rfl rfl rfl (fun _=>(ae rfl _)) (fun k16 st abN hH=>?_);refine qm ?_;refine qm ?_;refine qr fun p19 UI=>?_;refine qf (fo:=11) fun Q_ zT=>?_;refine qR ?_;refine aa.bL (s:=11) hH rfl (ev rfl) (ev rfl) (by exact av) (by exact Arg.rows (by assumption) hH) rfl rfl rfl rfl rfl rfl rfl ⟨(ν rfl),(ν rfl)⟩ (fun _=>(ae rfl _)) (by simp only[QK,ρ]<;>omega) (by exact .inl hF) (fun x22 st hH=>?_);dsimp only[u2,u1,u3,u4,setMany,u5,u6,τ,ζ,aC,fe,aJ,ay,gr] at hH;refine qp (o:=11) ?_;refine qT hH bh (fun st hH=>?_) (iy:=hH.eJ av);dsimp only[u2,u1,u3,u4,setMany,u5,u6,τ,ζ,aC,fe,aJ,ay,gr] at hH;refine qe hK<|qj fun K hK=>qm ?_;refine χ (m:=12) hH rfl (ev rfl) (by exact bh) (by dsimp only[δ,η,ε,θ,aC,fe,aJ,ay,gr]<;>rfl) rfl rfl (ae rfl _) ?_;refine qh (s:=12) (vs:=[_]) hH fun k26 st YI hH=>?_;obtain⟨hH,MU⟩:=hH.tm (i:=1) (j:=3) (by decide) bh fm (yr _);dsimp only[u1,u2] at hH;refine aa.kN hH rfl rfl rfl fm (hH.rows av) (.cons (wx (dn:=l.dn) (f:=l.aU) MU) .nil) rfl rfl rfl rfl rfl rfl rfl ⟨(ν rfl),(ν rfl)⟩ (fun _=>(ae rfl _)) (by show _+1≤_;omega) (.inl hF) (fun x27 st hH=>?_);dsimp only[u1,u2] at hH;refine qm ?_;refine qe hK<|qj fun K hK=>qm ?_;refine qA ?_;refine qm ?_;refine qe hK ?_;exact⟨mm-1,by omega,⟨i+1,x27,_,rfl,(by rw[List.take_add_one,MJ,Option.toList_some,List.map_append];exact hH.drop 3),by omega⟩⟩
 ·refine ab.exit<|qq<|qj fun K hK=>qm ?_;refine qm ?_;refine qe hK ?_;rw[List.take_of_length_le (by rw[ρ];omega)] at hH;have h1:=hH.kb av (n:=15) (by decide);refine Γ ⟨rx,_,rfl,rl bt hH ?_⟩;exact h1
theorem Aw {l:D} {st:St} (hx:x.cells?=some [x]):(po pv 68 [(0,x),(1,.agg [.int .i64 place,l])]).map (fun d=>(d,st))=some (.agg [x,.int .i64 place,l],st):=by
 unfold po;simp only[ie,hx]
 rfl
theorem yC (hx:C9 x L) (hy:dr y 1 (byteCells h)) (z6:h.length≤1048576):Ev pv 44 [.agg [y,.int .i64 place,x]] s0 (.agg [je h,.int .i64 place,lL L]) s0:=by
 have hcl:=hx.sl.cells;have jJ:=hy.cells;have Tk:=bI h;have hcp:=fun(st:St)=>wz (s0:=st) hx;refine Ev.h_ rfl ZZ rfl rfl rfl ?_;dsimp only[u3,u4,ο,κ,ζ,w1,w2];obtain⟨bt,hF,hH⟩:=ri s0;generalize ah .ro s0=S at*;have Dc:=hy.arg s0.bs.length S;refine qq<|qj fun K hK=>qb hH fun k1 st qY hH=>qa hH fun k2 st hk2 hH=>qe hK ?_;change ab _ _ _ _ _ _;refine qq ?_;generalize hK:bj _ _ _ _=K;refine ab.oK rfl<|bP.cons<|aa.EV (s:=1) hH rfl rfl rfl rfl rfl (fun _=>(ae rfl _)) (fun k3 st qX hH=>?_);refine π ⟨rfl,?_⟩;refine bP.cons<|qp (o:=0)<|π ⟨rfl,?_⟩;refine bP.cons ?_;have hHa:=hH;refine aa.uG hH rfl rfl dF rfl (ae rfl _)<|π ⟨rfl,?_⟩;refine bP.cons ?_;refine aa.bL (s:=1) hH rfl (ev rfl) (ev rfl) (by exact av) (by exact Arg.rows (by assumption) hH) rfl rfl rfl rfl rfl rfl rfl ⟨(ν rfl),(ν rfl)⟩ (fun _=>(ae rfl _)) (by simp only[QK]<;>omega) (by exact .inl hF) (fun x6 st hH=>?_);dsimp only[u2,u1,u3,u4,setMany,u5,u6,τ,ζ,aC,fe,aJ,ay,gr] at hH;refine π ⟨rfl,?_⟩;refine bP.cons<|qp (o:=1)<|π ⟨rfl,?_⟩;refine bP.cons<|qp (o:=1)<|π ⟨rfl,?_⟩;refine bP.cons ?_;have hHb:=hH;refine aa.uG hH rfl rfl dF rfl (ae rfl _)<|π ⟨by exact Ψ.2 ⟨pf rfl rfl (hHa.at dF) (hHb.at dF),rfl⟩,?_⟩;refine bP.cons<|qp (o:=1)<|π ⟨rfl,?_⟩;refine bP.cons<|qp (o:=2)<|π ⟨rfl,?_⟩;refine bP.cons<|ql hH dF<|π ⟨by exact Ψ.2 ⟨pf rfl rfl (hHa.at dF) (hHb.at dF),rfl⟩,?_⟩;refine bP.cons<|qv ((hcp _))<|π ⟨rfl,?_⟩;refine bP.cons<|aa.go (d:=.agg [.int .i64 place,lL L]) (st1:=_) rfl rfl rfl (ae rfl _)<|π ⟨rfl,?_⟩;refine bP.cons ?_;have hc6:=(hH.own av).cells;refine aa.go (d:=.agg [x6,.int .i64 place,lL L]) (st1:=_) rfl rfl (Aw hc6) (ae rfl _)<|π ⟨rfl,?_⟩;refine bP.cons<|qS hH bh fun st hH=>?_;dsimp only[u2,u1,u3,u4,setMany,u5,u6,τ,ζ,aC,fe,aJ,ay,gr] at hH;refine π ⟨rfl,?_⟩;refine bP.nil ?_;subst hK;have h1:=hH.ra av (fT h) (n:=15) (by decide)
 have h3:bn st s0.bs.length false 16 (.agg [x6,.int .i64 place,lL L])=some (.agg [je h,.int .i64 place,lL L]):=by
  show(fN (bn st s0.bs.length false 15) [x6,.int .i64 place,lL L]).map D.agg=_;simp only[fN,h1];rfl
 refine Γ ⟨rx,_,hH.l_ rfl bh rfl,rl bt hH h3⟩
end Go.Proofs.YtbdnabmmlbiomaaGreat
namespace Go.V
open Go.RowKit
def o4 {H:Type}:DataW H→Bool
 | .agg _=>true
 |_=>false
mutual
def nj {H:Type}:DataW H→List D
 | .lit (.bool b)=>[.bool b]
 | .lit (.int k n)=>[.int k n]
 | .lit (.string l)=>[.str l]
 | .lit _=>[.bD]
 | .nil=>[.nul]
 | .slice elems _=>[.sl (wv elems)]
 | .agg parts=>lU parts
 | .ptr _=>[.bD]
 | .iface _ _=>[.bD]
 | .map _=>[.bD]
 | .held _=>[.bD]
def wv {H:Type}:List (DataW H)→List D
 |[]=>[]
 |d::r=>(if o4 d then .agg (nj d) else(nj d).headD .bD)::wv r
def lU {H:Type}:List (DataW H)→List D
 |[]=>[]
 |d::r=>nj d++lU r
end
def eM {H:Type} (d:DataW H):D:=if o4 d then .agg (nj d) else(nj d).headD .bD
theorem sY {H:Type}:∀l:List (DataW H),wv l=l.map eM
 |[]=>rfl
 |d::r=>by simp only[wv,Θ,sY r];rfl
def s_ (P:Program):Nat→List Field→Option Nat
 |o,[]=>some o
 |o,f::fs=>if f.offset=o then s_ P (o+P.cellsOf f.type) fs else none
def LP (P:Program):Nat→TypeId→Bool
 |0,_=>false
 |n+1,t=>match P.underlying t with
  |some .bool=>true
  |some (.int _)=>true
  |some .string=>true
  |some (.slice e)=>LP P n e &&decide (0<P.cellsOf e)
  |some (.struct fs)=>(s_ P 0 fs.toList==some (P.cellsOf t)) &&fs.toList.all fun f=>LP P n f.type
  |some (.array m e)=>LP P n e &&(P.cellsOf t==m*P.cellsOf e)
  |_=>false
structure CR (w:World) (Z:Nat→Prop) (cs:List D) (vs:List Value):Prop where
 len:cs.length=vs.length
 one:∀v∈vs,v.oneCell'=true
 onec:∀c∈cs,c.cells?=some [c]
 rel:∀(i:Nat) c v,cs[i]?=some c→vs[i]?=some v→IR w Z c v
variable{w:World}{Z:Nat→Prop}{c:D}{P:Program}
theorem CR.nil:CR w Z [] []:=⟨rfl,by simp,by simp,by simp⟩
theorem CR.single {v:Value} (h:IR w Z c v) (h1:v.oneCell'=true) (h2:c.cells?=some [c]):CR w Z [c] [v]:=
 ⟨rfl,by simpa using h1,by simpa using h2,fun i c' v' hc hv=>by
  cases i with
  |zero=>simp at hc hv;subst hc;subst hv;exact h
  |succ i=>simp at hc⟩
theorem CR.append {cs cs':List D} {vs Tx:List Value} (h:CR w Z cs vs) (g:CR w Z cs' Tx):CR w Z (cs++cs') (vs++Tx):=by
 refine⟨by simp[h.len,g.len],fun v hv=>?_,fun c hc=>?_,fun i c v hc hv=>?_⟩
 ·rcases QV.1 hv with hv|hv
  ·exact h.one v hv
  ·exact g.one v hv
 ·rcases QV.1 hc with hc|hc
  ·exact h.onec c hc
  ·exact g.onec c hc
 ·rw[List.getElem?_append] at hc hv;have:=h.len
  split at hc
  ·rw[if_pos (by omega)] at hv;exact h.rel i c v hc hv
  ·rw[if_neg (by omega)] at hv;rw[←this] at hv;exact g.rel _ c v hc hv
theorem xv {H:Type} {P:Program} {w:World} {Z:Nat→Prop} {f:Field→Option (DataW H×List MemPlace)} {cs:List Value}:∀{fs:List Field} {o e:Nat} {xs:List (DataW H×List MemPlace)},s_ P o fs=some e→e≤cs.length→fs.mapM f=some xs→
  (∀g∈fs,∀x,f g=some x→CR w Z (nj x.1) ((cs.drop g.offset).take (P.cellsOf g.type)))→CR w Z (lU (xs.map (·.1))) ((cs.drop o).take (e-o))∧o≤e
 |[],o,e,xs,hc,_,hm,_=>by
  simp[s_] at hc;subst hc;simp at hm;subst hm;simp[lU];exact CR.nil
 |g::fs,o,e,xs,hc,he,hm,hx=>by
  simp only[s_] at hc
  split at hc
  ·rename_i ho;rw[Qv] at hm
   cases h1:f g with
   |none=>rw[h1] at hm;simp at hm
   |some x=>
    rw[h1] at hm
    cases h2:fs.mapM f with
    |none=>rw[h2] at hm;simp at hm
    |some ys=>
     rw[h2] at hm;simp at hm;subst hm;obtain⟨ih,hle⟩:=xv hc he h2 fun g' hg'=>hx g' (QQ _ hg');have hg:=hx g (QJ ..) x h1;rw[ho] at hg;refine⟨?_,by omega⟩;simp only[Θ,lU]
     have:(cs.drop o).take (e-o)=(cs.drop o).take (P.cellsOf g.type)++(cs.drop (o+P.cellsOf g.type)).take (e-(o+P.cellsOf g.type)):=by
      rw[←QU,show e-o=P.cellsOf g.type+(e-(o+P.cellsOf g.type)) by omega,QG]
     rw[this];exact hg.append ih
  ·cases hc
theorem yx {H:Type} {w:World} {Z:Nat→Prop} {s:Nat} {f:Nat→Option (DataW H×List MemPlace)} {cs:List Value}:∀{m k:Nat} {xs:List (DataW H×List MemPlace)},(QB k m).mapM f=some xs→(k+m)*s≤cs.length→
  (∀i x,f i=some x→CR w Z (nj x.1) ((cs.drop (i*s)).take s))→CR w Z (lU (xs.map (·.1))) ((cs.drop (k*s)).take (m*s))
 |0,k,xs,hm,_,_=>by simp at hm;subst hm;simp[lU];exact CR.nil
 |m+1,k,xs,hm,hl,hx=>by
  rw[List.range'_succ,Qv] at hm
  cases h1:f k with
  |none=>rw[h1] at hm;simp at hm
  |some x=>
   rw[h1] at hm
   cases h2:(QB (k+1) m).mapM f with
   |none=>rw[h2] at hm;simp at hm
   |some ys=>
    rw[h2] at hm;simp at hm;subst hm;have ih:=yx h2 (by rw[show k+1+m=k+(m+1) by omega];exact hl) hx;simp only[Θ,lU];rw[show(m+1)*s=s+m*s by rw[QD];omega,QG,QU,show k*s+s=(k+1)*s by rw[QD];omega];exact(hx k x h1).append ih
theorem cells_one (h:c.cells?=some [c]):c.cells=[c]:=by
 cases c<;>first|rfl|cases h|(simp only[D.cells?,Option.some.injEq] at h;simpa only[τ] using h)
theorem yR (b off n:Nat):(⟨b,off,none⟩:Addr).add n=⟨b,off+n,none⟩:=by
 cases n<;>simp[Addr.add]
theorem qK {H:Type} {enc:TypeId×Value→H} {P:Program} {w:World} {spare:Nat→Bool} {held:Bool}:∀(fuel:Nat) (t:TypeId) (cs:List Value) (d:DataW H) (ps:List MemPlace) (n:Nat),μ enc P w 0 spare held fuel t cs=some (d,ps)→LP P n t=true→
  CR w (fun b=>b<w.heap.size) (nj d) cs∧cs.length=(match P.underlying t with|some (.struct _)|some (.array _ _)=>P.cellsOf t|_=>1)∧(o4 d=(match P.underlying t with|some (.struct _)|some (.array _ _)=>true|_=>false))
 |0,t,cs,d,ps,n,h,_=>by simp[μ] at h
 |fuel+1,t,cs,d,ps,0,h,ht=>by simp[LP] at ht
 |fuel+1,t,cs,d,ps,n+1,h,ht=>by
  simp only[LP] at ht;unfold μ at h
  cases hu:P.underlying t with
  |none=>rw[hu] at ht;simp at ht
  |some u=>
   rw[hu] at h ht
   cases u with
   |bool=>
    rcases cs with _|⟨v,_|⟨v2,cs⟩⟩<;>try(simp at h;done)
    cases v<;>simp at h
    obtain⟨rfl,rfl⟩:=h;exact⟨CR.single (.bool _) rfl rfl,rfl,rfl⟩
   |int k=>
    rcases cs with _|⟨v,_|⟨v2,cs⟩⟩<;>try(simp at h;done)
    cases v<;>simp at h
    obtain⟨⟨rfl,_⟩,rfl,rfl⟩:=h;exact⟨CR.single (.int _ _) rfl rfl,rfl,rfl⟩
   |string=>
    rcases cs with _|⟨v,_|⟨v2,cs⟩⟩<;>try(simp at h;done)
    cases v<;>simp at h
    rename_i b;obtain⟨_,rfl,rfl⟩:=h;refine⟨CR.single ?_ rfl rfl,rfl,rfl⟩;have:=IR.str (w:=w) (Z:=fun b=>b<w.heap.size) b.data.toList
    simpa using this
   |slice e=>
    simp only[Qq,decide_eq_true_eq] at ht
    rcases cs with _|⟨v,_|⟨v2,cs⟩⟩<;>try(simp at h;done)
    cases v<;>try(simp at h;done)
    rename_i a len cap
    cases a with
    |none=>
     cases len<;>cases cap<;>simp at h
     obtain⟨rfl,rfl⟩:=h;exact⟨CR.single .nul rfl rfl,rfl,rfl⟩
    |some a=>
     simp only at h
     split at h
     ·rename_i hc;simp only[φ,ι] at h;obtain⟨elems,he,rest,hr,hd⟩:=h;cases hd;refine⟨?_,rfl,rfl⟩;have hlen:elems.length=len:=by simpa using mapM_some_length he
      have hget:=mapM_some_get he
      have each:∀(i:Nat),i<len→∃x cs,elems[i]?=some x∧w.cells? 0 (a.add (i*P.cellsOf e)) (P.cellsOf e)=some cs∧CR w (fun b=>b<w.heap.size) (nj x.1) cs∧cs.length=P.cellsOf e∧(o4 x.1=(match P.underlying e with|some (.struct _)|some (.array _ _)=>true|_=>false))∧cs.length=(match P.underlying e with|some (.struct _)|some (.array _ _)=>P.cellsOf e|_=>1):=by
       intro i hi;have h1:=hget i i (by simp[hi]);have h2:elems[i]?=some (elems[i]'(by omega)):=ς _;rw[h2] at h1;obtain⟨cs,iy,hx⟩:=φ.1 h1;obtain⟨q1,q2,q3⟩:=qK fuel e cs _ _ n hx ht.1;exact⟨_,cs,h2,iy,q1,(ω iy).2.1,q3,q2⟩
      refine CR.single ?_ rfl rfl
      cases len with
      |zero=>
       have:elems=[]:=by cases elems with|nil=>rfl|cons _ _=>simp at hlen
       subst this;exact .emp _ _
      |succ m=>
       have nh:a.spot=none∧a.block<w.heap.size:=by
        obtain⟨x,cs,_,h2,_,_⟩:=each 0 (by omega);refine⟨?_,?_⟩
        ·have:=(ω h2).2.2 0 ht.2;have hl:=(ω h2).2.1
         obtain⟨c0,Y9⟩:∃c0,cs[0]?=some c0:=⟨cs[0]'(by omega),ς _⟩
         rw[Y9] at this
         simpa[Addr.add] using World.cell?_spot this
        ·simpa[Addr.add] using World.cells?_block h2 ht.2
       obtain⟨b,off,spot⟩:=a;simp only at nh;obtain⟨rfl,hb⟩:=nh
       have hcell:∀(i j:Nat),i<m+1→j<P.cellsOf e→∃x cs v,elems[i]?=some x∧cs[j]?=some v∧w.cell? ⟨b,off+(i*P.cellsOf e+j),none⟩=some v∧CR w (fun b=>b<w.heap.size) (nj x.1) cs:=by
        intro i j hi hj;obtain⟨x,cs,h1,h2,h3,h4,_⟩:=each i hi;have:=(ω h2).2.2 j hj
        obtain⟨v,hv⟩:∃v,cs[j]?=some v:=⟨cs[j]'(by omega),ς _⟩
        rw[hv] at this;refine⟨x,cs,v,h1,hv,?_,h3⟩;rw[←this,yR,yR,Nat.add_assoc]
       have o9:(wv (elems.map (·.1)))=elems.map fun x=>eM x.1:=by rw[sY,Qk];rfl
       have hE:∀(i:Nat) q,(wv (elems.map (·.1)))[i]?=some q→∃x cs,i<m+1∧elems[i]?=some x∧q.cells?=some q.cells∧q.cells=nj x.1∧CR w (fun b=>b<w.heap.size) (nj x.1) cs∧cs.length=P.cellsOf e:=by
        intro i q hq;rw[o9,Δ] at hq;obtain⟨x,hx,rfl⟩:=ι.1 hq
        have hi:i<m+1:=by
         rcases Qy i (m+1) with h'|h'
         ·exact h'
         ·rw[Φ (by omega)] at hx;cases hx
        obtain⟨x',cs,h1,h2,h3,h4,h5,h6⟩:=each i hi;rw[hx] at h1;cases h1;refine⟨x,cs,hi,hx,?_,?_,h3,h4⟩
        ·unfold eM
         split
         ·rfl
         ·rename_i NH
          have wb:(nj x.1).length=1:=by
           rw[h3.len,h6];rw[h5] at NH
           revert NH
           split<;>simp
          match hd:nj x.1,wb with
          |[c],_=>have:=h3.onec c (by rw[hd];simp);simp only[QY];rw[cells_one this];exact this
        ·unfold eM
         split
         ·rfl
         ·rename_i NH
          have wb:(nj x.1).length=1:=by
           rw[h3.len,h6];rw[h5] at NH
           revert NH
           split<;>simp
          match hd:nj x.1,wb with
          |[c],_=>have:=h3.onec c (by rw[hd];simp);simp only[QY];exact cells_one this
       have hL:(wv (elems.map (·.1))).length=m+1:=by rw[o9];simp[hlen]
       have hf:=fun(i j:Nat) (hi:i<m+1) (hj:j<P.cellsOf e)=>hcell i j hi hj;have:=IR.sl (w:=w) (Z:=fun b=>b<w.heap.size) (wv (elems.map (·.1))) b off cap (P.cellsOf e) (fun i j=>(w.cell? ⟨b,off+(i*P.cellsOf e+j),none⟩).getD undef) hb (by rw[hL];exact hc.2.1)
        (fun i q hq=>by
         obtain⟨x,cs,h1,h2,h3,h4,h5,h6⟩:=hE i q hq
         exact⟨h3,by rw[h4,h5.len,h6]⟩)
        (fun i q j c hq hj=>by
         obtain⟨x,cs,h1,h2,h3,h4,h5,h6⟩:=hE i q hq
         have jI:j<P.cellsOf e:=by
          rcases Qy j (P.cellsOf e) with h'|h'
          ·exact h'
          ·rw[h4,Φ (by rw[h5.len,h6];exact h')] at hj;cases hj
         obtain⟨x',cs',v,g1,g2,g3,g4⟩:=hf i j h1 jI;rw[g3]
         exact⟨rfl,g4.one v (QX g2)⟩)
        (fun i q j c hq hj=>by
         obtain⟨x,cs,h1,h2,h3,h4,h5,h6⟩:=hE i q hq
         have jI:j<P.cellsOf e:=by
          rcases Qy j (P.cellsOf e) with h'|h'
          ·exact h'
          ·rw[h4,Φ (by rw[h5.len,h6];exact h')] at hj;cases hj
         obtain⟨x',cs',v,g1,g2,g3,g4⟩:=hf i j h1 jI;rw[g3];rw[h2] at g1;cases g1
         exact g4.rel j c v (by rw[←h4];exact hj) g2)
       rw[hL] at this;exact this
     ·cases h
   |struct fs=>
    simp only[Qq,beq_iff_eq,List.all_eq_true] at ht;simp only at h
    split at h
    ·rename_i hl;obtain⟨xs,hx,hd⟩:=ι.1 h;cases hd;refine⟨?_,hl,rfl⟩;obtain⟨h1,_⟩:=xv (w:=w) (Z:=fun b=>b<w.heap.size) (cs:=cs) ht.1 (by omega) hx fun g hg x hgx=>(qK fuel g.type _ _ _ n hgx (ht.2 g hg)).1;rw[η,Nat.sub_zero,←hl,QW] at h1;exact h1
    ·cases h
   |array m e=>
    simp only[Qq,beq_iff_eq] at ht;simp only at h
    split at h
    ·rename_i hl;obtain⟨xs,hx,hd⟩:=ι.1 h;cases hd;refine⟨?_,hl,rfl⟩;rw[List.range_eq_range'] at hx;have h1:=yx (w:=w) (Z:=fun b=>b<w.heap.size) (s:=P.cellsOf e) (cs:=cs) hx (by rw[Nat.zero_add,←ht.2,hl];exact QC _) fun i x hix=>(qK fuel e _ _ _ n hix ht.1).1;rw[Nat.zero_mul,η,←ht.2,←hl,QW] at h1;exact h1
    ·cases h
   |_=>simp at ht
theorem AO {H:Type} {enc:TypeId×Value→H} {spare:Nat→Bool} {held:Bool} {r:Reach} {base:Nat} {t:TypeId} {v:Value} {d:DataW H} {ps:List MemPlace} {n:Nat} (h:QH enc P w 0 spare held t v d ps) (ht:LP P n t=true) (hv:Value.okWide P w r base t v):
  IR w (fun b=>b<w.heap.size) (eM d) v:=by
 obtain⟨fuel,hf⟩:=h;obtain⟨h1,h2,h3⟩:=qK fuel t _ d ps n hf ht
 have hu:∃u,P.underlying t=some u:=by
  cases n with
  |zero=>simp[LP] at ht
  |succ n=>
   simp only[LP] at ht
   cases hu:P.underlying t with
   |none=>rw[hu] at ht;simp at ht
   |some u=>exact⟨u,rfl⟩
 obtain⟨u,hu⟩:=hu;unfold Value.okWide at hv;rw[hu] at hv h2 h3
 have Vm:(∃cs:Array Value,v=.agg cs)→o4 d=true→IR w (fun b=>b<w.heap.size) (eM d) v:=by
  rintro⟨cs,rfl⟩ hd;unfold eM;rw[if_pos hd];have:=IR.agg (w:=w) (Z:=fun b=>b<w.heap.size) (nj d) cs.toList (by simpa[Value.cells] using h1.len) (by simpa[Value.cells] using h1.one) (by simpa[Value.cells] using h1.rel)
  simpa using this
 have kK:o4 d=false→v.cells.toList.length=1→(∀cs,v≠.agg cs)→IR w (fun b=>b<w.heap.size) (eM d) v:=by
  intro hd hl NH;unfold eM;rw[if_neg (by rw[hd];simp)]
  have hc:v.cells.toList=[v]:=by cases v<;>first|rfl|exact absurd rfl (NH _)
  rw[hc] at h1
  match hq:nj d,h1.len with
  |[c],_=>exact h1.rel 0 c v (by rw[hq];rfl) rfl
 have hcell:Cell.okWide P w r base t v→∀cs,v≠.agg cs:=by
  rintro hc cs rfl;unfold Cell.okWide at hc;rw[hu] at hc;cases u<;>simp[Cell.ok,hu] at hc
 cases u with
 |struct fs=>obtain⟨cs,h,_⟩:=hv;exact Vm ⟨cs,h⟩ h3
 |array m e=>obtain⟨cs,h,_⟩:=hv;exact Vm ⟨cs,h⟩ h3
 |_=>exact kK h3 h2 (hcell hv)
theorem wf_u8 {n:Int} (h:(Lit.int .u8 n).wf=true):∃y:UInt8,n=(y.toNat:Nat):=by
 have:0≤n∧n≤255:=by simpa[Lit.wf,IntKind.min,IntKind.max,IntKind.signed,IntKind.bits] using h
 refine⟨UInt8.ofNat n.toNat,?_⟩;rw[show(UInt8.ofNat n.toNat).toNat=n.toNat %256 from rfl];omega
theorem Cr {pv:Pv} (h:pv.Ok P∧pv.jA∧iP P pv (eZ pv)) {f:Nat} {ds:List D} {ai:St} (hs:Ev pv f ds ⟨[],0,0⟩ (.bool true) ai) {us:List Value} (hl:ds.length=us.length) (hr:∀(i:Nat) c v,ds[i]?=some c→us[i]?=some v→IR w (fun b=>b<w.heap.size) c v):Calls P f us.toArray w fun e w'=>e=.returned (.bool true)∧Below w.heap.size w w':=by
 obtain⟨N,hN⟩:=Ev.out hs;refine(sound h (hN N (QC _)) (w:=w) (Z:=fun b=>b<w.heap.size) (fun _ h=>h) hl hr).mono fun e w'=>?_;rintro⟨v,β',Z',rfl,he,hv⟩;rw[eN hv];exact⟨rfl,⟨he.os,he.tape,he.output,he.size,fun k hk=>he.block k hk fun f=>f⟩⟩
def Rd {H:Type} (enc:TypeId×Value→H) (P:Program) (w:World) (spare:Nat→Bool) (held:Bool) (t:TypeId) (d:DataW H):Prop:=
 ∃fuel cs ps,μ enc P w 0 spare held fuel t cs=some (d,ps)
section
variable{H:Type} {enc:TypeId×Value→H} {P:Program} {w:World} {spare:Nat→Bool} {held:Bool} {t e:TypeId} {d:DataW H}
theorem Rd.of {v:Value} {ps:List MemPlace} (h:QH enc P w 0 spare held t v d ps):Rd enc P w spare held t d:=by
 obtain⟨fuel,h⟩:=h;exact⟨fuel,_,_,h⟩
theorem Rd.int {k:IntKind} (h:Rd enc P w spare held t d) (ht:P.underlying t=some (.int k)):∃n:Int,d=.lit (.int k n)∧(Lit.int k n).wf=true:=by
 obtain⟨fuel,cs,ps,h⟩:=h
 cases fuel with
 |zero=>simp[μ] at h
 |succ fuel=>
  unfold μ at h;rw[ht] at h
  rcases cs with _|⟨v,_|⟨v2,cs⟩⟩<;>try(simp at h;done)
  cases v<;>simp at h
  obtain⟨⟨rfl,hw⟩,rfl,_⟩:=h;exact⟨_,rfl,hw⟩
theorem Rd.bool (h:Rd enc P w spare held t d) (ht:P.underlying t=some .bool):∃b:Bool,d=.lit (.bool b):=by
 obtain⟨fuel,cs,ps,h⟩:=h
 cases fuel with
 |zero=>simp[μ] at h
 |succ fuel=>
  unfold μ at h;rw[ht] at h
  rcases cs with _|⟨v,_|⟨v2,cs⟩⟩<;>try(simp at h;done)
  cases v<;>simp at h
  obtain⟨rfl,_⟩:=h;exact⟨_,rfl⟩
theorem Rd.string (h:Rd enc P w spare held t d) (ht:P.underlying t=some .string):∃l:List UInt8,d=.lit (.string l):=by
 obtain⟨fuel,cs,ps,h⟩:=h
 cases fuel with
 |zero=>simp[μ] at h
 |succ fuel=>
  unfold μ at h;rw[ht] at h
  rcases cs with _|⟨v,_|⟨v2,cs⟩⟩<;>try(simp at h;done)
  cases v<;>simp at h
  obtain⟨_,rfl,_⟩:=h;exact⟨_,rfl⟩
theorem Rd.slice (h:Rd enc P w spare held t d) (ht:P.underlying t=some (.slice e)):d=.nil∨∃elems rest,d=.slice elems rest∧∀x∈elems,Rd enc P w spare held e x:=by
 obtain⟨fuel,cs,ps,h⟩:=h
 cases fuel with
 |zero=>simp[μ] at h
 |succ fuel=>
  unfold μ at h;rw[ht] at h
  rcases cs with _|⟨v,_|⟨v2,cs⟩⟩<;>try(simp at h;done)
  cases v<;>try(simp at h;done)
  rename_i a len cap
  cases a with
  |none=>
   cases len<;>cases cap<;>simp at h
   obtain⟨rfl,rfl⟩:=h;exact .inl rfl
  |some a=>
   simp only at h
   split at h
   ·simp only[φ,ι] at h;obtain⟨elems,hm,rest,hr,hd⟩:=h;cases hd;refine .inr ⟨_,_,rfl,fun x hx=>?_⟩;obtain⟨y,hy,rfl⟩:=ξ.1 hx;have hlen:elems.length=len:=by simpa using mapM_some_length hm
    have hget:=mapM_some_get hm;obtain⟨i,hi⟩:=Ω hy;have hil:i<len:=by have:=bC hi;omega
    have h1:=hget i i (by simp[hil]);rw[hi] at h1;obtain⟨cs,_,hx⟩:=φ.1 h1;exact⟨fuel,cs,y.2,hx⟩
   ·cases h
theorem oV {α β:Type} {f:α→Option β}:∀{l:List α} {m:List β},l.mapM f=some m→c7 (fun a b=>f a=some b) l m
 |[],m,h=>by simp at h;subst h;exact .nil
 |a::l,m,h=>by
  rw[Qv] at h
  cases h1:f a with
  |none=>rw[h1] at h;simp at h
  |some b=>
   rw[h1] at h
   cases h2:l.mapM f with
   |none=>rw[h2] at h;simp at h
   |some ys=>rw[h2] at h;simp at h;subst h;exact .cons h1 (oV h2)
theorem c7.T9 {α β γ:Type} {R:α→γ→Prop} {f:β→γ}:∀{l:List α} {m:List β},c7 (fun a b=>R a (f b)) l m→c7 R l (m.map f)
 |_,_,.nil=>.nil
 |_,_,.cons a t=>.cons a t.T9
theorem Rd.struct {fs:Array Field} (h:Rd enc P w spare held t d) (ht:P.underlying t=some (.struct fs)):∃parts,d=.agg parts∧c7 (fun(f:Field) x=>Rd enc P w spare held f.type x) fs.toList parts:=by
 obtain⟨fuel,cs,ps,h⟩:=h
 cases fuel with
 |zero=>simp[μ] at h
 |succ fuel=>
  unfold μ at h;rw[ht] at h;simp only at h
  split at h
  ·obtain⟨xs,hx,hd⟩:=ι.1 h;cases hd;refine⟨_,rfl,?_⟩;exact((oV hx).mono fun f x hfx=>(⟨fuel,_,_,hfx⟩:Rd enc P w spare held f.type x.1)).T9
  ·cases h
theorem Rd.array {n:Nat} (h:Rd enc P w spare held t d) (ht:P.underlying t=some (.array n e)):∃parts,d=.agg parts∧parts.length=n∧∀x∈parts,Rd enc P w spare held e x:=by
 obtain⟨fuel,cs,ps,h⟩:=h
 cases fuel with
 |zero=>simp[μ] at h
 |succ fuel=>
  unfold μ at h;rw[ht] at h;simp only at h
  split at h
  ·obtain⟨xs,hx,hd⟩:=ι.1 h;cases hd;have h1:=oV hx;refine⟨_,rfl,by have:=h1.len;simp at this;simp[←this],fun x XP=>?_⟩;obtain⟨y,hy,rfl⟩:=ξ.1 XP
   have key:∀{l:List Nat} {m:List (DataW H×List MemPlace)},c7 (fun i x=>μ enc P w 0 spare held fuel e ((cs.drop (i*P.cellsOf e)).take (P.cellsOf e))=some x) l m→∀y∈m,Rd enc P w spare held e y.1:=by
    intro l m h
    induction h with
    |nil=>intro y hy;cases hy
    |cons a t ih=>
     intro y hy
     rcases υ.1 hy with rfl|hy
     ·exact⟨fuel,_,_,a⟩
     ·exact ih y hy
   exact key h1 y hy
  ·cases h
end
theorem AY {H α:Type} {s:Nat} {f:α→List D} {Q:α→DataW H→Prop} {elems rest:List (DataW H)} (h:∀x∈elems,∃a,(eM x).cells?=some (eM x).cells∧(eM x).cells=f a∧(f a).length=s∧Q a x):
  ∃ws:List α,dr (eM (.slice elems rest)) s (ws.map f)∧ws.length=elems.length∧∀a∈ws,∃x∈elems,Q a x:=by
 have key:∃ws:List α,(elems.map eM).map τ=ws.map f∧(∀d∈elems.map eM,d.cells?=some d.cells∧d.cells.length=s)∧ws.length=elems.length∧∀a∈ws,∃x∈elems,Q a x:=by
  induction elems with
  |nil=>exact⟨[],rfl,fun d hd=>(by cases hd),rfl,fun a ha=>by cases ha⟩
  |cons x l ih=>
   obtain⟨ws,h1,h2,h3,h4⟩:=ih fun y hy=>h y (QQ _ hy);obtain⟨a,g1,g2,g3,g4⟩:=h x (QJ ..);refine⟨a::ws,by simp only[Θ,h1,g2],fun d hd=>?_,by simp[h3],fun b hb=>?_⟩
   ·simp only[Θ,υ] at hd
    rcases hd with rfl|hd
    ·exact⟨g1,by rw[g2];exact g3⟩
    ·exact h2 d hd
   ·rcases υ.1 hb with rfl|hb
    ·exact⟨x,QJ ..,g4⟩
    ·obtain⟨y,hy,hq⟩:=h4 b hb;exact⟨y,QQ _ hy,hq⟩
 obtain⟨ws,h1,h2,h3,h4⟩:=key;refine⟨ws,.inr ⟨elems.map eM,?_,h1,h2⟩,h3,h4⟩;show D.sl (wv elems)=_;rw[sY]
theorem DD {H α:Type} {s:Nat} {f:α→List D}:dr (eM (.nil:DataW H)) s (([]:List α).map f):=.inl ⟨rfl,rfl⟩
end Go.V
namespace Go.Proofs.YtbdnabmmlbiomaaGreat
theorem FF {H:Type} (d:DataW H):1≤Rows.uptoBulk d:=by
 cases d with
 |lit l=>cases l<;>simp[Rows.uptoBulk]
 |_=>simp[Rows.uptoBulk]
theorem oi {H:Type} (l:List (DataW H)):l.length≤Rows.uptoBulkAll l:=by
 induction l with
 |nil=>simp[Rows.uptoBulkAll]
 |cons x r ih=>have:=FF x;simp only[Rows.uptoBulkAll,List.length_cons];omega
end Go.Proofs.YtbdnabmmlbiomaaGreat
namespace Go.Proofs.YtbdnabmmlbiomaaGreat
open Go.V Go Go.RowKit
variable{H:Type} {enc:TypeId×Value→H} {w:World} {spare:Nat→Bool} {held:Bool} {d:DataW H}
theorem yK {H:Type} {l:List (DataW H)} {x:DataW H} (h:x∈l):Rows.uptoBulk x≤Rows.uptoBulkAll l:=by
 induction l with
 |nil=>cases h
 |cons y l ih=>
  simp only[Rows.uptoBulkAll]
  rcases υ.1 h with rfl|h
  ·omega
  ·have:=ih h;omega
end Go.Proofs.YtbdnabmmlbiomaaGreat
namespace Go.Proofs.YtbdnabmmlbiomaaGreat
open Go.V Go Go.RowKit
variable{H:Type} {enc:TypeId×Value→H} {w:World} {spare:Nat→Bool} {held:Bool} {d:DataW H}
theorem FJ (h:Rd enc Tryz.prog w spare held 22 d):∃(y:D) (ps:List (List UInt8)),eM d=y∧dr y 1 (ps.map y6)∧(Rows.uptoBulk d≤1048576→ps.length≤1048576∧∀b∈ps,b.length≤1048576):=by
 rcases h.slice Tryz.underlying22 with rfl|⟨elems,rest,rfl,he⟩
 ·exact⟨_,[],rfl,.inl ⟨rfl,rfl⟩,fun _=>⟨by simp,fun b hb=>(by cases hb)⟩⟩
 ·obtain⟨l,h1,h2,h3⟩:=AY (s:=1) (f:=y6) (Q:=fun(b:List UInt8) x=>b.length≤Rows.uptoBulk x) (rest:=rest) fun x hx=>by
   obtain⟨b,rfl⟩:=(he x hx).string Tryz.underlying9;refine⟨b,rfl,rfl,rfl,?_⟩;simp only[Rows.uptoBulk];omega
  refine⟨_,l,rfl,h1,fun hb=>⟨?_,fun b eF=>?_⟩⟩
  ·have:=oi elems;simp only[Rows.uptoBulk] at hb;omega
  ·obtain⟨x,hx,h4⟩:=h3 b eF;have:=yK hx;simp only[Rows.uptoBulk] at hb;omega
end Go.Proofs.YtbdnabmmlbiomaaGreat
namespace Go.Proofs.YtbdnabmmlbiomaaGreat
open Go.V Go Go.RowKit
variable{H:Type} {enc:TypeId×Value→H} {w:World} {spare:Nat→Bool} {held:Bool} {d:DataW H}
theorem Nc (h:Rd enc Tryz.prog w spare held 36 d):∃(y:D) (b:List UInt8),eM d=y∧dr y 1 (byteCells b)∧(Rows.uptoBulk d≤1048576→b.length≤1048576):=by
 rcases h.slice Tryz.underlying36 with rfl|⟨elems,rest,rfl,he⟩
 ·exact⟨_,[],rfl,.inl ⟨rfl,rfl⟩,fun _=>by simp⟩
 ·obtain⟨l,h1,h2,_⟩:=AY (s:=1) (f:=fun c:UInt8=>[.int .u8 (c.toNat:Nat)]) (Q:=fun _ _=>True) (rest:=rest) fun x hx=>by
   obtain⟨n,rfl,hw⟩:=(he x hx).int Tryz.underlying5;obtain⟨c,rfl⟩:=wf_u8 hw;exact⟨c,rfl,rfl,rfl,trivial⟩
  refine⟨_,l,rfl,h1,fun hb=>?_⟩;have:=oi elems;simp only[Rows.uptoBulk] at hb;omega
end Go.Proofs.YtbdnabmmlbiomaaGreat
namespace Go.Proofs.YtbdnabmmlbiomaaGreat
open Go.V Go Go.RowKit
structure Sc where
 y:D
 h:List UInt8
 place:Int
 x:D
 L:List GV
def Sc.d (s:Sc):D:=.agg [s.y,.int .i64 s.place,s.x]
structure Sc.ok (s:Sc):Prop where
 hy:dr s.y 1 (byteCells s.h)
 hl:s.h.length≤1048576
 hx:dr s.x 12 (s.L.map gr)
 ln:s.L.length≤1048576
 th:∀l∈s.L,dr l.td 11 (l.bB.map fe)∧l.bB.length≤1048576
variable{H:Type} {enc:TypeId×Value→H} {w:World} {spare:Nat→Bool} {held:Bool} {d:DataW H}
theorem yO (h:Rd enc Tryz.prog w spare held 45 d):∃f:nc,nj d=ay f:=by
 obtain⟨parts,rfl,hl,he⟩:=h.array Tryz.underlying45
 match parts,hl,he with
 |[a0,a1,a2,a3,a4,a5,a6,a7,a8,a9],_,he=>
  obtain⟨n0,rfl,_⟩:=(he a0 (by simp)).int Tryz.underlying3;obtain⟨n1,rfl,_⟩:=(he a1 (by simp)).int Tryz.underlying3;obtain⟨n2,rfl,_⟩:=(he a2 (by simp)).int Tryz.underlying3;obtain⟨n3,rfl,_⟩:=(he a3 (by simp)).int Tryz.underlying3;obtain⟨n4,rfl,_⟩:=(he a4 (by simp)).int Tryz.underlying3;obtain⟨n5,rfl,_⟩:=(he a5 (by simp)).int Tryz.underlying3;obtain⟨n6,rfl,_⟩:=(he a6 (by simp)).int Tryz.underlying3;obtain⟨n7,rfl,_⟩:=(he a7 (by simp)).int Tryz.underlying3;obtain⟨n8,rfl,_⟩:=(he a8 (by simp)).int Tryz.underlying3;obtain⟨n9,rfl,_⟩:=(he a9 (by simp)).int Tryz.underlying3;exact⟨fun i=>([n0,n1,n2,n3,n4,n5,n6,n7,n8,n9]:List Int).getD i 0,rfl⟩
theorem FL (h:Rd enc Tryz.prog w spare held 50 d):∃t:GT,(eM d).cells?=some (eM d).cells∧(eM d).cells=fe t:=by
 obtain⟨parts,rfl,hp⟩:=h.struct Tryz.underlying50
 cases hp with
 |cons a hp=>cases hp with
  |cons b hp=>cases hp with
   |nil=>
    rename_i d1 d2;obtain⟨x,rfl,_⟩:=a.int Tryz.underlying3;obtain⟨f,hf⟩:=yO b;refine⟨⟨x,f⟩,rfl,?_⟩;show nj _++(nj d2++[])=_;rw[hf];rfl
theorem C5 (h:Rd enc Tryz.prog w spare held 46 d):∃l:List GT,dr (eM d) 11 (l.map fe)∧l.length≤Rows.uptoBulk d:=by
 rcases h.slice Tryz.underlying46 with rfl|⟨elems,rest,rfl,he⟩
 ·exact⟨[],DD,by simp⟩
 ·obtain⟨rs,h1,h2,_⟩:=AY (s:=11) (f:=fe) (Q:=fun _ _=>True) (rest:=rest) fun x hx=>by
   obtain⟨a,h1,h2⟩:=FL (he x hx);exact⟨a,h1,h2,rfl,trivial⟩
  refine⟨rs,h1,?_⟩;have:=oi elems;simp only[Rows.uptoBulk];omega
theorem C6 (h:Rd enc Tryz.prog w spare held 48 d):∃l:GV,(eM d).cells?=some (eM d).cells∧(eM d).cells=gr l∧dr l.td 11 (l.bB.map fe)∧l.bB.length≤Rows.uptoBulk d:=by
 obtain⟨parts,rfl,hp⟩:=h.struct Tryz.underlying48
 cases hp with
 |cons a hp=>cases hp with
  |cons b hp=>cases hp with
   |cons c hp=>cases hp with
    |nil=>
     rename_i d1 d2 d3;obtain⟨x,rfl⟩:=a.bool Tryz.underlying4;obtain⟨f,hf⟩:=yO b;obtain⟨bB,h1,h2⟩:=C5 c
     have h3:nj d3=[eM d3]:=by
      rcases c.slice Tryz.underlying46 with rfl|⟨elems,rest,rfl,he⟩<;>rfl
     refine⟨⟨x,f,eM d3,bB⟩,rfl,?_,h1,?_⟩
     ·show nj _++(nj d2++(nj d3++[]))=_;rw[hf,h3];rfl
     ·simp only[Rows.uptoBulk,Rows.uptoBulkAll];omega
theorem Ay (h:Rd enc Tryz.prog w spare held 38 d):∃L:List GV,dr (eM d) 12 (L.map gr)∧L.length≤Rows.uptoBulk d∧∀l∈L,dr l.td 11 (l.bB.map fe)∧l.bB.length≤Rows.uptoBulk d:=by
 rcases h.slice Tryz.underlying38 with rfl|⟨elems,rest,rfl,he⟩
 ·exact⟨[],DD,by simp,fun i hi=>by cases hi⟩
 ·obtain⟨L,h1,h2,h3⟩:=AY (s:=12) (f:=gr) (Q:=fun(l:GV) x=>dr l.td 11 (l.bB.map fe)∧l.bB.length≤Rows.uptoBulk x) (rest:=rest) fun x hx=>by
   obtain⟨a,h1,h2,h3,h4⟩:=C6 (he x hx);exact⟨a,h1,h2,rfl,h3,h4⟩
  refine⟨L,h1,?_,fun i hi=>?_⟩
  ·have:=oi elems;simp only[Rows.uptoBulk];omega
  ·obtain⟨x,hx,h4,h5⟩:=h3 i hi;have:=yK hx;exact⟨h4,by simp only[Rows.uptoBulk];omega⟩
theorem FK (h:Rd enc Tryz.prog w spare held 68 d):∃s:Sc,eM d=s.d∧(Rows.uptoBulk d≤1048576→s.ok):=by
 obtain⟨parts,rfl,hp⟩:=h.struct Tryz.underlying68
 cases hp with
 |cons a hp=>cases hp with
  |cons b hp=>cases hp with
   |nil=>
    rename_i d1 d2;obtain⟨y,b1,h1,h2,h3⟩:=Nc a
    have e1:nj d1=[eM d1]:=by
     rcases a.slice Tryz.underlying36 with rfl|⟨elems,rest,rfl,he⟩<;>rfl
    obtain⟨parts,rfl,hp⟩:=b.struct Tryz.underlying40
    cases hp with
    |cons a2 hp=>cases hp with
     |cons b2 hp=>cases hp with
      |nil=>
       rename_i d3 d4;obtain⟨n,rfl,_⟩:=a2.int Tryz.underlying3;obtain⟨L,g1,g2,g3⟩:=Ay b2
       have e2:nj d4=[eM d4]:=by
        rcases b2.slice Tryz.underlying38 with rfl|⟨elems,rest,rfl,he⟩<;>rfl
       refine⟨⟨y,b1,n,eM d4,L⟩,?_,fun hb=>?_⟩
       ·show D.agg (nj d1++((nj _++(nj d4++[]))++[]))=_;rw[e1,e2,h1];rfl
       ·simp only[Rows.uptoBulk,Rows.uptoBulkAll] at hb;exact⟨h2,h3 (by omega),g1,by show L.length≤_;omega,fun l hl=>⟨(g3 l hl).1,by have:=(g3 l hl).2;omega⟩⟩
end Go.Proofs.YtbdnabmmlbiomaaGreat
