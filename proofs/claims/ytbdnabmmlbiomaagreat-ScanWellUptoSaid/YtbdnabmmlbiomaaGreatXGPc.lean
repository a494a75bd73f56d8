/-
 The parser of patterns: digits; what a backslash says; a part of a class's item.
-/
import Derived.Test.YtbdnabmmlbiomaaGreatXGJf
import Derived.Test.YtbdnabmmlbiomaaGreatXDgp
import Derived.Test.YtbdnabmmlbiomaaGreatXM2
set_option maxRecDepth 100000
set_option maxHeartbeats 4000000
set_option linter.unusedSimpArgs false
set_option linter.unusedVariables false
open Nat renaming reduceAdd→γ,reduceSub→ε,le_of_ble_eq_true→η
open List renaming length_map→δ,foldl→ζ,length→θ,getElem?_eq_getElem→ι,length_reverse→κ,length_cons→μ,not_mem_nil→ν,map→ξ,mem_cons→τ,foldl_cons→Φ,foldl_nil→Ω,mem_of_getElem?→QQ,length_nil→QZ,mem_cons_self→Qq,replicate→Qj,drop_succ_cons→Qv,take_succ_cons→Qk,drop_zero→Qy,take_zero→QU,map_replicate→QH,getElem?_map→QD,mem_map→QC,map_append→QP,getD_eq_getElem?_getD→QM,getElem?_of_mem→QR,mem_cons_of_mem→QS,reverse_reverse→QT,reverse_append→QA,length_append→QE,reverse_cons→QI,mem_reverse→QO,length_set→Qa,mem_append→Qb,map_set→Qc
open Go.V.Fr renaming clean→ο,put→ρ,get→χ,ev→Θ,aj→Ξ
open Go.V.ab renaming skip→π,cond→ς,ret→ω,block→Γ,exit→Qw,loop→QK,dz→QL,merge→Qh
open Go.V.aa renaming nil→υ,two→QX,gK→QN,aF→Qd,bL→Qe,ji→Qf,cA→Qg
open Bool renaming and_eq_true→φ,not_eq_false'→QJ,and_false→Qx,not_eq_true'→Qz,not_or→QV,not_true→QG
open Go.V renaming look→ψ
open Go.V.D renaming cells→Δ
open Int renaming toNat_natCast→Ψ,eq_ofNat_of_zero_le→QY,not_le→QB,not_lt→QF
open Classical renaming propDecidable→QW
namespace Go.Proofs.YtbdnabmmlbiomaaGreat
open Go.V Go
theorem pD:∀gs:List (Nat×Nat),kr ((gs.map bo).map (jR 2))=some (gs.map fun g=>((g.1:Nat):Int))
 |[]=>rfl
 |g::gs=>by
  have ih:=pD gs;simp only[List.map_cons];show(match kr ((gs.map bo).map (jR 2)) with|some rs=>some (((g.1:Nat):Int)::rs)|none=>none)=_;rw[ih]
theorem yz:∀(rs:List Int) (acc:List UInt8),(digS rs acc).2≤rs.length∧(digS rs acc).1.length≤acc.length+(digS rs acc).2
 |[],acc=>by simp[digS]
 |r::rs,acc=>by
  unfold digS
  split
  ·have h:=yz rs (if 48<r∨acc≠[] then acc++[UInt8.ofNat r.toNat] else acc);simp only[μ]
   have hl:(if 48<r∨acc≠[] then acc++[UInt8.ofNat r.toNat] else acc).length≤acc.length+1:=by
    split<;>simp
   omega
  ·simp
structure l0 (gs:List (Nat×Nat)) (cw:List Int):Prop where
 gl:gs.length≤120
 pl:cw.length=gs.length
variable{N k pc:Nat}{S s0:St}{H:List bJ}{gs:List (Nat×Nat)}{bZ:D}{s:fU}{cw:List Int}{i:aQ}{p:Pg}{q:Prop}
theorem uS (uH:gs.length≤120) (hi:s.i≤gs.length) (hne:gs≠[]) (hH:Has N S s0 (.box k (.mem 0 false (bm gs bZ s))::H)):
  ∃d ai,Ev pv 172 [.ptr k 0 0] s0 d ai∧∃(t:List UInt8) (v:Bool) (m:Nat),d=.tup [.str t,.bool v]∧t.length≤120∧s.i+m≤gs.length∧Has N S ai (.box k (.mem 0 false (bm gs bZ {s with i:=s.i+m}))::H):=by
 have hb:=hH.at av;have hw:=ig (cs:=[.int .i64 0]) hH (hH.ge av).1 (.inr rfl);have hl:=yz ((gs.map fun g=>((g.1:Nat):Int)).drop s.i) [];obtain⟨h1,h2⟩:=hl;simp only[List.length_drop,δ,QZ] at h1 h2;refine⟨_,_,Ev.jj rfl ?_,(digS ((gs.map fun g=>((g.1:Nat):Int)).drop s.i) []).1,decide (0<(digS ((gs.map fun g=>((g.1:Nat):Int)).drop s.i) []).2),(digS ((gs.map fun g=>((g.1:Nat):Int)).drop s.i) []).2,rfl,by omega,by omega,hH.ry (aG:=0) av⟩
 have hd:decide ((gs.map fun g=>((g.1:Nat):Int))≠[]∧(0:Int)≤(s.i:Nat)∧((s.i:Nat):Int).toNat≤(gs.map fun g=>((g.1:Nat):Int)).length∧(gs.map fun g=>((g.1:Nat):Int)).length<1099511627776)=true:=by
  rw[decide_eq_true];refine⟨by simpa using hne,by omega,by simp;omega,by simp;omega⟩
 show CT [.ptr k 0 0] s0=_;simp only[CT,St.mem_of hb];show(match kr ((gs.map bo).map (jR 2)) with|some rs=>M4 s0 k 0 0 rs (s.i:Nat)|none=>none)=_;rw[pD];simp only[M4,hd];have hwr:=mK (cs:=[.int .i64 ((s.i+(digS ((gs.map fun g=>((g.1:Nat):Int)).drop s.i) []).2:Nat))]) (off:=2) hb (by show 2+1≤7;omega) hw;simp only[Ψ,Nat.zero_add];rw[hwr]
 rfl
def FR (gs:List (Nat×Nat)) (s s':fU) (d1:D) (b:Bool):Prop:=
 s'.o=s.o∧s'.g=s.g∧s.i≤s'.i∧s'.i≤gs.length∧(d1=.nul∨∃a,d1=bS a∧a.length≤8)∧(s'.e≠0∨s'.e=0∧s.i<s'.i∧∃a,d1=bS a∧a.length≤8∧a≠[])
theorem dV {i:Nat} {e:Int} (he:s.e=0) (h:e≠0):(jC cw s i e).e≠0∧(jC cw s i e).i=s.i∧(jC cw s i e).o=s.o∧(jC cw s i e).g=s.g:=by
 unfold jC;rw[if_pos he];exact⟨h,rfl,rfl,rfl⟩
theorem AZ (bA:l0 gs cw) (he:s.e=0) (hi:s.i<gs.length) (hH:Has N S s0 (.box k (.mem 0 false (bm gs bZ s))::.aO bZ 1 (cw.map aw)::H)):
  ∃d ai,Ev pv 169 [.ptr k 0 0] s0 d ai∧∃(d1:D) (b:Bool) (s':fU),d=.tup [d1,.bool b]∧FR gs s s' d1 b∧Has N S ai (.box k (.mem 0 false (bm gs bZ s'))::.aO bZ 1 (cw.map aw)::H):=by
 have uH:=bA.gl;have ib:=bA.pl;refine Ev.iD rfl VK rfl rfl rfl ?_;dsimp only[u3,u4,θ,ε,γ,w1,w2];have cX:=hH;have hH:=hH.c8;have cL:(ah .rw s0).bs=s0.bs:=rfl;generalize ah .rw s0=S2 at*;have MO:Arg N S2 2 (fP gs) (gs.map bo):=Arg.pure (fun st=>eH st gs);refine qq<|qj fun K hK=>qm ?_;refine qm ?_;refine qe hK<|qq<|qj fun K hK=>qm ?_;refine qg ?_;refine qp (o:=2) ?_;refine ql hH av ?_;refine qm ?_;refine qe hK<|qq<|qj fun K hK=>qm ?_;refine qg ?_;refine qp (o:=2) ?_;refine ql hH av ?_;refine qA ?_;refine qg ?_;refine qp (o:=2) ?_;refine qT hH av fun st hH=>?_;dsimp only[u2,u1,u3,u4,setMany,u5,u6,Δ,γ,bm,bo,aw,ax] at hH;refine qe hK<|qq<|qq<|qj fun K hK=>qm ?_;refine qg ?_;refine qp (o:=2) ?_;refine ql hH av ?_;refine qm ?_;refine qg ?_;refine qp (o:=0) ?_;refine ql hH av ?_;refine qn ?_;simp only[δ];refine qg ?_;refine qe hK ?_;refine ς (by rfl) (fun h0=>?_) (fun h0=>?_)<;>try simp only[decide_eq_true_eq,decide_eq_false_iff_not] at h0
 ·refine qq<|qj fun K hK=>qm ?_;refine qm ?_;obtain⟨_,st,aL,rfl,hH⟩:=dH (s:={s with i:=s.i+1}) s.i 4 (by omega) hH;refine qv aL ?_;refine qe hK<|qq<|qj fun K hK=>qm ?_;refine qm ?_;refine qe hK ?_;obtain⟨h1,h2,h3,h4⟩:=dV (cw:=cw) (s:={s with i:=s.i+1}) (i:=s.i) (e:=4) he (by decide);refine ω ⟨rx,_,_,_,rfl,au (rfl),?_⟩;exact⟨_,_,_,rfl,⟨h3,h4,by rw[h2];simp,by rw[h2];exact hi,.inl rfl,.inl h1⟩,cX.aD cL hH⟩
 ·obtain⟨g,hg⟩:∃g,gs[s.i+1]?=some g:=⟨gs[s.i+1]'(by omega),ι _⟩
  have gB:(gs.map bo)[s.i+1]?=some (bo g):=by rw[QD,hg];rfl
  have hlt:=bC hg;refine π<|qq<|qq<|qj fun K hK=>qm ?_;refine qm ?_;refine qg ?_;refine qp (o:=2) ?_;refine ql hH av ?_;obtain⟨_,st,aL,rfl,hH⟩:=Ax (s:={s with i:=s.i+1}) (s.i+1) hlt hH;refine qv aL ?_;refine qe hK ?_;dsimp only[bm] at hH;refine qc (fun hb=>?_) (fun hb=>?_)<;>try simp only[cs] at hb
  ·refine qq<|qj fun K hK=>qm ?_;refine qm ?_;refine qg ?_;refine qp (o:=2) ?_;refine ql hH av ?_;obtain⟨_,st,aL,rfl,hH⟩:=dH (s:={s with i:=s.i+1}) (s.i+1) 4 (by omega) hH;refine qv aL ?_;refine qe hK<|qq<|qj fun K hK=>qm ?_;refine qm ?_;refine qe hK ?_;obtain⟨h1,h2,h3,h4⟩:=dV (cw:=cw) (s:={s with i:=s.i+1}) (i:=s.i+1) (e:=4) he (by decide);refine ω ⟨rx,_,_,_,rfl,au (rfl),?_⟩;exact⟨_,_,_,rfl,⟨h3,h4,by rw[h2];simp,by rw[h2];exact hi,.inl rfl,.inl h1⟩,cX.aD cL hH⟩
  ·refine π<|qq<|qj fun K hK=>qm ?_;refine qg ?_;refine qp (o:=0) ?_;refine ql hH av ?_;refine qm ?_;refine qg ?_;refine qp (o:=2) ?_;refine ql hH av ?_;refine qr fun Xr RO=>?_;refine qf (fo:=0) fun p51 UD=>?_;refine qR ?_;refine qm ?_;refine qe hK<|qq<|qj fun K hK=>qm ?_;refine qg ?_;refine qp (o:=2) ?_;refine ql hH av ?_;refine qA ?_;refine qg ?_;refine qp (o:=2) ?_;refine qT hH av fun st hH=>?_;dsimp only[u2,u1,u3,u4,setMany,u5,u6,Δ,γ,bm,bo,aw,ax] at hH;refine qe hK<|qq<|qq<|qj fun K hK=>qm ?_;refine qe hK ?_
   have gb:∀(a:List Rg) (b:Bool),a.length≤8→a≠[]→FR gs s {s with i:=s.i+1+1} (bS a) b:=fun a b h1 h2=>⟨rfl,rfl,by show s.i≤s.i+1+1;omega,by show s.i+1+1≤_;omega,.inr ⟨a,rfl,h1⟩,.inr ⟨he,by show s.i<s.i+1+1;omega,a,rfl,h1,h2⟩⟩
   have kK:∀(r:Int),0≤r→r<55296→(lJ [(r,r)]).length≤8∧lJ [(r,r)]≠[]:=by
    intro r h1 h2;obtain⟨_,h3,h4⟩:=nG (s0:=s0) (x:=bS [(r,r)]) (l:=[(r,r)]) (fh _ _) (by simp);exact⟨by simp at h3;omega,xM h1 h2 h4⟩
   refine Γ<|qq<|qj fun K hK=>qg ?_;refine qm ?_;refine qe hK ?_;refine ς (by rfl) (fun q1=>?_) (fun q1=>?_)<;>try simp only[beq_iff_eq,beq_eq_false_iff_ne,ne_eq] at q1
   ·refine qq<|qj fun K hK=>qv (jV 10) ?_;refine qm ?_;refine qm ?_;refine qe hK<|ω ⟨rx,_,_,_,rfl,au (rfl),?_⟩;exact⟨_,_,_,rfl,gb _ _ (kK 10 (by decide) (by decide)).1 (kK 10 (by decide) (by decide)).2,cX.aD cL hH⟩
   ·refine qq<|qj fun K hK=>qg ?_;refine qm ?_;refine qe hK ?_;refine ς (by rfl) (fun q2=>?_) (fun q2=>?_)<;>try simp only[beq_iff_eq,beq_eq_false_iff_ne,ne_eq] at q2
    ·refine qq<|qj fun K hK=>qv (jV 9) ?_;refine qm ?_;refine qm ?_;refine qe hK<|ω ⟨rx,_,_,_,rfl,au (rfl),?_⟩;exact⟨_,_,_,rfl,gb _ _ (kK 9 (by decide) (by decide)).1 (kK 9 (by decide) (by decide)).2,cX.aD cL hH⟩
    ·refine qq<|qj fun K hK=>qg ?_;refine qm ?_;refine qe hK ?_;refine ς (by rfl) (fun q3=>?_) (fun q3=>?_)<;>try simp only[beq_iff_eq,beq_eq_false_iff_ne,ne_eq] at q3
     ·refine qq<|qj fun K hK=>qv (jV 13) ?_;refine qm ?_;refine qm ?_;refine qe hK<|ω ⟨rx,_,_,_,rfl,au (rfl),?_⟩;exact⟨_,_,_,rfl,gb _ _ (kK 13 (by decide) (by decide)).1 (kK 13 (by decide) (by decide)).2,cX.aD cL hH⟩
     ·refine qq<|qj fun K hK=>qg ?_;refine qm ?_;refine qe hK ?_;refine ς (by rfl) (fun q4=>?_) (fun q4=>?_)<;>try simp only[beq_iff_eq,beq_eq_false_iff_ne,ne_eq] at q4
      ·refine qq<|qj fun K hK=>?_;refine QN (qs:=[(0,_),(1,_)]) rfl rfl rfl rfl ⟨rfl,(ev rfl),(by rfl),rfl,(ev rfl),(by rfl),trivial⟩ (by intro q hq;simp only[τ,ν,or_false] at hq;rcases hq with rfl|rfl<;>exact⟨rfl,by exact η rfl⟩) (by show ζ _ [_,_] _=_;dsimp only[Φ,Ω,u2,u1]<;>rfl) (ae rfl _) ?_;refine qh (s:=2) (vs:=[_]) hH fun k73 st aby hH=>?_;obtain⟨aL,hl,F8⟩:=nG (l:=[(48,57)]) (hH.rows av) (by simp);refine qv aL ?_;refine qm ?_;refine qm ?_;refine qe hK<|ω ⟨rx,_,_,_,rfl,au (rfl),?_⟩;exact⟨_,_,_,rfl,gb _ _ (by simp at hl;omega) (vI (r:=48) (by decide) (by decide) ⟨_,Qq ..,by decide,by decide⟩ F8),cX.aD cL (hH.drop 1)⟩
      ·refine qq<|qj fun K hK=>qg ?_;refine qm ?_;refine qe hK ?_;refine ς (by rfl) (fun q5=>?_) (fun q5=>?_)<;>try simp only[beq_iff_eq,beq_eq_false_iff_ne,ne_eq] at q5
       ·refine qq<|qj fun K hK=>?_;refine QN (qs:=[(0,_),(1,_)]) rfl rfl rfl rfl ⟨rfl,(ev rfl),(by rfl),rfl,(ev rfl),(by rfl),trivial⟩ (by intro q hq;simp only[τ,ν,or_false] at hq;rcases hq with rfl|rfl<;>exact⟨rfl,by exact η rfl⟩) (by show ζ _ [_,_] _=_;dsimp only[Φ,Ω,u2,u1]<;>rfl) (ae rfl _) ?_;refine QN (qs:=[(0,_),(1,_)]) rfl rfl rfl rfl ⟨rfl,(ev rfl),(by rfl),rfl,(ev rfl),(by rfl),trivial⟩ (by intro q hq;simp only[τ,ν,or_false] at hq;rcases hq with rfl|rfl<;>exact⟨rfl,by exact η rfl⟩) (by show ζ _ [_,_] _=_;dsimp only[Φ,Ω,u2,u1]<;>rfl) (ae rfl _) ?_;refine QN (qs:=[(0,_),(1,_)]) rfl rfl rfl rfl ⟨rfl,(ev rfl),(by rfl),rfl,(ev rfl),(by rfl),trivial⟩ (by intro q hq;simp only[τ,ν,or_false] at hq;rcases hq with rfl|rfl<;>exact⟨rfl,by exact η rfl⟩) (by show ζ _ [_,_] _=_;dsimp only[Φ,Ω,u2,u1]<;>rfl) (ae rfl _) ?_;refine qh (s:=2) (vs:=[_,_,_]) hH fun k80 st abw hH=>?_;obtain⟨aL,hl,F8⟩:=nG (l:=[(9,10),(13,13),(32,32)]) (hH.rows av) (by simp);refine qv aL ?_;refine qm ?_;refine qm ?_;refine qe hK<|ω ⟨rx,_,_,_,rfl,au (rfl),?_⟩;exact⟨_,_,_,rfl,gb _ _ (by simp at hl;omega) (vI (r:=9) (by decide) (by decide) ⟨_,Qq ..,by decide,by decide⟩ F8),cX.aD cL (hH.drop 1)⟩
       ·refine qq<|qj fun K hK=>qg ?_;refine qm ?_;refine qe hK ?_;refine ς (by rfl) (fun q6=>?_) (fun q6=>?_)<;>try simp only[beq_iff_eq,beq_eq_false_iff_ne,ne_eq] at q6
        ·refine qq<|qj fun K hK=>?_;refine QN (qs:=[(0,_),(1,_)]) rfl rfl rfl rfl ⟨rfl,(ev rfl),(by rfl),rfl,(ev rfl),(by rfl),trivial⟩ (by intro q hq;simp only[τ,ν,or_false] at hq;rcases hq with rfl|rfl<;>exact⟨rfl,by exact η rfl⟩) (by show ζ _ [_,_] _=_;dsimp only[Φ,Ω,u2,u1]<;>rfl) (ae rfl _) ?_;refine QN (qs:=[(0,_),(1,_)]) rfl rfl rfl rfl ⟨rfl,(ev rfl),(by rfl),rfl,(ev rfl),(by rfl),trivial⟩ (by intro q hq;simp only[τ,ν,or_false] at hq;rcases hq with rfl|rfl<;>exact⟨rfl,by exact η rfl⟩) (by show ζ _ [_,_] _=_;dsimp only[Φ,Ω,u2,u1]<;>rfl) (ae rfl _) ?_;refine QN (qs:=[(0,_),(1,_)]) rfl rfl rfl rfl ⟨rfl,(ev rfl),(by rfl),rfl,(ev rfl),(by rfl),trivial⟩ (by intro q hq;simp only[τ,ν,or_false] at hq;rcases hq with rfl|rfl<;>exact⟨rfl,by exact η rfl⟩) (by show ζ _ [_,_] _=_;dsimp only[Φ,Ω,u2,u1]<;>rfl) (ae rfl _) ?_;refine QN (qs:=[(0,_),(1,_)]) rfl rfl rfl rfl ⟨rfl,(ev rfl),(by rfl),rfl,(ev rfl),(by rfl),trivial⟩ (by intro q hq;simp only[τ,ν,or_false] at hq;rcases hq with rfl|rfl<;>exact⟨rfl,by exact η rfl⟩) (by show ζ _ [_,_] _=_;dsimp only[Φ,Ω,u2,u1]<;>rfl) (ae rfl _) ?_;refine qh (s:=2) (vs:=[_,_,_,_]) hH fun k88 st UY hH=>?_;obtain⟨aL,hl,F8⟩:=nG (l:=[(48,57),(65,90),(95,95),(97,122)]) (hH.rows av) (by simp);refine qv aL ?_;refine qm ?_;refine qm ?_;refine qe hK<|ω ⟨rx,_,_,_,rfl,au (rfl),?_⟩;exact⟨_,_,_,rfl,gb _ _ (by simp at hl;omega) (vI (r:=48) (by decide) (by decide) ⟨_,Qq ..,by decide,by decide⟩ F8),cX.aD cL (hH.drop 1)⟩
        ·refine π<|qq<|qq<|qj fun K hK=>qm ?_;refine qv (L9 _) ?_;refine qg ?_;refine qe hK ?_;refine ς (by rfl) (fun q7=>?_) (fun q7=>?_)<;>try simp only[decide_eq_true_eq,decide_eq_false_iff_not,Qz,QJ] at q7
         ·refine qq<|qj fun K hK=>qm ?_;refine qm ?_;obtain⟨_,st,aL,rfl,hH⟩:=dH (s:={s with i:=s.i+1+1}) s.i 4 (by omega) hH;refine qv aL ?_;refine qe hK<|qq<|qj fun K hK=>qm ?_;refine qm ?_;refine qe hK ?_;obtain⟨h1,h2,h3,h4⟩:=dV (cw:=cw) (s:={s with i:=s.i+1+1}) (i:=s.i) (e:=4) he (by decide);refine ω ⟨rx,_,_,_,rfl,au (rfl),?_⟩;exact⟨_,_,_,rfl,⟨h3,h4,by rw[h2];show s.i≤s.i+1+1;omega,by rw[h2];show s.i+1+1≤_;omega,.inl rfl,.inl h1⟩,cX.aD cL hH⟩
         ·refine π<|qq<|qj fun K hK=>qm ?_;refine qv (jV _) ?_;refine qm ?_;refine qm ?_;refine qe hK ?_;have hm:=kK ((g.1:Nat):Int) (by omega) (by omega);refine ω ⟨rx,_,_,_,rfl,au (rfl),?_⟩;exact⟨_,_,_,rfl,gb _ _ hm.1 hm.2,cX.aD cL hH⟩
def fz (fr:Go.V.Fr) (k:Nat):Go.V.D:=Go.V.nth .bD fr.loc k
theorem Rn (hp:p.ok) (hi:p.code[pc]?=some i):Ev pv 111 [p.d,.int .i64 (pc:Nat)] s0 (.bool (cC p.code.length p.ak.length pc i)) s0:=by
 refine Ev.h_ rfl Wg rfl rfl rfl ?_;dsimp only[u3,u4,θ,ε,γ,w1,w2];obtain⟨bt,hF,hH⟩:=ri s0;generalize ah .ro s0=S at*;have hc:=hp.c.arg s0.bs.length S;have hs:=hp.s.arg s0.bs.length S;have Di:=hp.i i (QQ hi);have vV:=Di.1;have U5:=Di.1.arg s0.bs.length S;have hil:=Di.2;have hcl:=hp.cl;have iE:=hp.sl;have hr:=eB hi;have hlt:=bC hi;unfold Pg.d;refine qq<|qj fun K hK=>qb hH fun k2 st hk2 hH=>?_;dsimp only[u2,u1,u3,u4,setMany,u5,u6,Δ,γ,Pg.cs,aC,aw] at hH;refine qm ?_;refine qe hK<|qq<|qj fun K hK=>qp (o:=0) ?_;refine ql hH av ?_;refine qm ?_;refine qr fun p12 UO=>?_;refine Qg rfl (ev rfl) (by assumption) rfl (by dsimp only[ρ,u1,u2]<;>rfl) ?_;refine qa hH fun k5 st yh hH=>?_;refine qS hH av fun st hH=>?_;dsimp only[u2,u1,u3,u4,setMany,u5,u6,Δ,γ,Pg.cs,aC,aw] at hH;refine qe hK<|qq<|qj fun K hK=>qp (o:=0) ?_;refine ql hH bh ?_;refine qn ?_;simp only[δ];refine qm ?_;refine qe hK<|qq<|qj fun K hK=>qp (o:=0) ?_;refine ql hH av ?_;refine aa.go (d:=.agg [.int .i64 i.op,.int .i64 0,.int .i64 0,.nul]) (st1:=_) rfl rfl rfl (by dsimp only[ρ,u1,u2]<;>rfl) ?_;refine qa hH fun k7 st Te hH=>?_;refine qS hH av fun st hH=>?_;dsimp only[u2,u1,u3,u4,setMany,u5,u6,Δ,γ,Pg.cs,aC,aw] at hH;refine qe hK<|qq<|qj fun K hK=>qm ?_;refine qe hK<|qq<|qq<|qj fun K hK=>qp (o:=0) ?_;refine ql hH bh ?_;refine qe hK<|Qh (fun fr st=>∃(bx bz:Int) (brd:D) (fl:Bool) (W7:List Rg) (tmp:List (Nat×D)),fr=⟨22,[fz fr 0,.int .i64 (pc:Nat),.ptr k2 0 0,fz fr 3,.bool false,.ptr k5 0 0,.int .i64 (p.code.length:Nat),.ptr k7 0 0,.bool fl,fz fr 9,fz fr 10,fz fr 11,fz fr 12,fz fr 13,fz fr 14,fz fr 15,fz fr 16,fz fr 17,fz fr 18,fz fr 19,fz fr 20,fz fr 21],tmp⟩∧Has s0.bs.length S st [.box k7 (.mem 0 false [.int .i64 i.op,.int .i64 bx,.int .i64 bz,brd]),.box k5 (.mem 0 false [.int .i64 i.op,.int .i64 i.x,.int .i64 i.y,i.rd]),.box k2 (.mem 0 false [p.cd,p.sd])]∧(dr brd 2 (W7.map ax))∧(cC p.code.length p.ak.length pc i=(((i.x==bx) &&(i.y==bz)) &&((i.rs.length:Int)==W7.length) &&(!fl||decide (((pc+1:Nat):Int)<p.code.length))))) ?_ ?_
 ·refine Γ<|qq<|qj fun K hK=>qg ?_;refine qm ?_;refine qe hK ?_;refine ς (by rfl) (fun h1=>?_) (fun h1=>?_)<;>try simp only[beq_iff_eq,beq_eq_false_iff_ne,ne_eq] at h1
  ·have nh:cC p.code.length p.ak.length pc i=(i.y==0 &&(decide (((pc+1:Nat):Int)<p.code.length) &&i.x==0 &&eI i.rs)):=by unfold cC;rw[if_pos h1]
   refine qq<|qj fun K hK=>qp (o:=3) ?_;refine ql hH bh ?_;refine qp (o:=3) ?_;refine qT hH av fun st hH=>?_;dsimp only[u2,u1,u3,u4,setMany,u5,u6,Δ,γ,Pg.cs,aC,aw] at hH;refine qe hK<|qq<|QL 30 (.bool (!eI i.rs)) [] ?_ (fun ff tmp cY=>?_)
   ·refine qp (o:=3) ?_;refine ql hH bh ?_;refine qv (xk (U5.rows hH) hil) ?_;refine qg ?_;refine υ (aY ?_ ?_)
    ·dsimp only[aB,ζ,nth,u2,u1]
     all_goals(first|rfl|simp)
    ·dsimp only[Ξ,ρ,ο,Θ,χ,nth,ψ,u1,u2,v1,v2,v3,v4,v5,v6,v7,θ,u3,u4,ε,γ,ξ]
     all_goals(first|rfl|(simp[];done)|(simp_all;done)|(simp[];omega)|(simp_all;omega))
   dsimp only[aB,ζ,nth,u2,u1];refine ς (by assumption) (fun h2=>?_) (fun h2=>?_)<;>try simp only[Qz,QJ] at h2
   ·refine qq<|qj fun K hK=>qm ?_;refine qe hK ?_;rw[nh,h2];simp only[Qx];refine ω ⟨rx,_,rfl,rl bt hH (rfl)⟩
   ·refine π ?_;refine⟨0,0,i.rd,true,i.rs,_,rfl,hH,vV,?_⟩;rw[nh,h2];cases hx:(i.x==0)<;>cases hy:(i.y==0)<;>simp
  ·have nh:cC p.code.length p.ak.length pc i=(i.rs.isEmpty &&(if i.op=2 then jQ i.x p.code.length &&jQ i.y p.code.length
  else i.y==0 &&
   (if i.op=3 then jQ i.x p.code.length
   else if i.op=4 then decide (((pc+1:Nat):Int)<p.code.length) &&jQ i.x 10
   else if i.op=5∨i.op=6 then decide (((pc+1:Nat):Int)<p.code.length) &&i.x==0
   else if i.op=7 then jQ i.x p.ak.length
   else false))):=by unfold cC;rw[if_neg h1]
   have MT:i.rs.isEmpty=((i.rs.length:Int)==(([]:List Rg).length:Int)):=by cases i.rs<;>simp<;>omega
   have Dg:dr .nul 2 (([]:List Rg).map ax):=.inl ⟨rfl,rfl⟩;refine qq<|qj fun K hK=>qg ?_;refine qm ?_;refine qe hK ?_;refine ς (by rfl) (fun h2=>?_) (fun h2=>?_)<;>try simp only[beq_iff_eq,beq_eq_false_iff_ne,ne_eq] at h2
   ·rw[if_pos h2] at nh;refine qq<|qj fun K hK=>qm ?_;refine qe hK ?_;have cX:=hH;change ab _ _ _ _ _ _;refine qq ?_;generalize hK:bj _ _ _ _=K;refine ab.oK rfl ?_;refine bP.cons ?_;refine qp (o:=1) ?_;refine υ ⟨rfl,?_⟩;refine bP.cons ?_;refine ql hH bh ?_;refine υ ⟨rfl,?_⟩;refine bP.cons ?_;refine qp (o:=2) ?_;refine υ ⟨rfl,?_⟩;refine bP.cons ?_;refine ql hH bh ?_;refine υ ⟨rfl,?_⟩;refine bP.cons ?_;refine qp (o:=1) ?_;refine υ ⟨rfl,?_⟩;refine bP.cons ?_;refine qT hH av fun st hH=>?_;dsimp only[u2,u1,u3,u4,setMany,u5,u6,Δ,γ,Pg.cs,aC,aw] at hH;refine υ ⟨by exact Bool.and_eq_true_iff.2 ⟨uY rfl rfl rfl (cX.at bh) (hH.at bh) (cX.at bh) (by simp[refs,D.ref,vV.ref]),rfl⟩,?_⟩;refine bP.cons ?_;refine qp (o:=2) ?_;refine υ ⟨rfl,?_⟩;refine bP.cons ?_;refine qT hH av fun st hH=>?_;dsimp only[u2,u1,u3,u4,setMany,u5,u6,Δ,γ,Pg.cs,aC,aw] at hH;refine υ ⟨rfl,?_⟩;refine bP.nil ?_;subst hK;refine qq<|QL 58 (.bool (((decide (i.x<0)||decide (i.x≥p.code.length))||decide (i.y<0))||decide (i.y≥p.code.length))) [] ?_ (fun ff tmp cY=>?_)
    ·refine qp (o:=1) ?_;refine ql hH bh ?_;refine qg ?_;refine qm ?_;refine QX 42 rfl (fun aR=>?_) (fun aR=>?_)
     ·refine qs ?_ (hg:=wn aR);refine qs ?_ (hg:=wn aR);refine qs ?_ (hg:=wn aR);refine qs ?_ (hg:=wn aR);refine qt aR ?_;refine qm ?_;refine qs ?_;refine qs ?_;refine qs ?_;refine qg ?_;refine qm ?_;refine qs ?_;refine qs ?_;refine qs ?_;refine qs ?_;refine qg ?_;refine υ (aY ?_ ?_)
      ·dsimp only[aB,ζ,nth,u2,u1]
       all_goals(first|rfl|simp)
      ·dsimp only[Ξ,ρ,ο,Θ,χ,nth,ψ,u1,u2,v1,v2,v3,v4,v5,v6,v7,θ,u3,u4,ε,γ,ξ]
       all_goals(simp[aR];done)
     ·refine qp (o:=1) ?_ (hg:=wi aR);refine ql hH bh ?_ (hg:=wi aR);refine qm ?_ (hg:=wi aR);refine qg ?_ (hg:=wi aR);refine qu aR ?_;refine qm ?_;refine QX 48 rfl (fun bV=>?_) (fun bV=>?_)
      ·refine qs ?_ (hg:=wn bV);refine qs ?_ (hg:=wn bV);refine qs ?_ (hg:=wn bV);refine qt bV ?_;refine qm ?_;refine qs ?_;refine qs ?_;refine qs ?_;refine qs ?_;refine qg ?_;refine υ (aY ?_ ?_)
       ·dsimp only[aB,ζ,nth,u2,u1]
        all_goals(first|rfl|simp)
       ·dsimp only[Ξ,ρ,ο,Θ,χ,nth,ψ,u1,u2,v1,v2,v3,v4,v5,v6,v7,θ,u3,u4,ε,γ,ξ]
        all_goals(simp[aR,bV];done)
      ·refine qp (o:=2) ?_ (hg:=wi bV);refine ql hH bh ?_ (hg:=wi bV);refine qg ?_ (hg:=wi bV);refine qu bV ?_;refine qm ?_;refine QX 53 rfl (fun cZ=>?_) (fun cZ=>?_)
       ·refine qs ?_ (hg:=wn cZ);refine qs ?_ (hg:=wn cZ);refine qs ?_ (hg:=wn cZ);refine qs ?_ (hg:=wn cZ);refine qt cZ ?_;refine υ (aY ?_ ?_)
        ·dsimp only[aB,ζ,nth,u2,u1]
         all_goals(first|rfl|simp)
        ·dsimp only[Ξ,ρ,ο,Θ,χ,nth,ψ,u1,u2,v1,v2,v3,v4,v5,v6,v7,θ,u3,u4,ε,γ,ξ]
         all_goals(simp[aR,bV,cZ];done)
       ·refine qp (o:=2) ?_ (hg:=wi cZ);refine ql hH bh ?_ (hg:=wi cZ);refine qm ?_ (hg:=wi cZ);refine qg ?_ (hg:=wi cZ);refine qu cZ ?_;refine υ (aY ?_ ?_)
        ·dsimp only[aB,ζ,nth,u2,u1]
         all_goals(first|rfl|simp)
        ·dsimp only[Ξ,ρ,ο,Θ,χ,nth,ψ,u1,u2,v1,v2,v3,v4,v5,v6,v7,θ,u3,u4,ε,γ,ξ]
         all_goals(simp[aR,bV,cZ];done)
    dsimp only[aB,ζ,nth,u2,u1]
    have qw:(jQ i.x p.code.length &&jQ i.y p.code.length)=!(((decide (i.x<0)||decide (i.x≥p.code.length))||decide (i.y<0))||decide (i.y≥p.code.length)):=by
     unfold jQ;simp only[QV,←decide_not,QF,QB,ge_iff_le,Bool.and_assoc]
    refine qc (fun h3=>?_) (fun h3=>?_)<;>try simp only[cs] at h3
    ·refine qq<|qj fun K hK=>qm ?_;refine qe hK ?_;rw[nh,qw,h3];simp only[QG,Qx];refine ω ⟨rx,_,rfl,rl bt hH (rfl)⟩
    ·refine π ?_;exact⟨i.x,i.y,.nul,false,[],_,rfl,hH,Dg,by rw[nh,qw,h3,MT];simp⟩
   ·rw[if_neg h2] at nh;refine qq<|qj fun K hK=>qg ?_;refine qm ?_;refine qe hK ?_;refine ς (by rfl) (fun h3=>?_) (fun h3=>?_)<;>try simp only[beq_iff_eq,beq_eq_false_iff_ne,ne_eq] at h3
    ·rw[if_pos h3] at nh;refine qq<|qj fun K hK=>qm ?_;refine qe hK<|qq<|qj fun K hK=>qp (o:=1) ?_;refine ql hH bh ?_;refine qp (o:=1) ?_;refine qT hH av fun st hH=>?_;dsimp only[u2,u1,u3,u4,setMany,u5,u6,Δ,γ,Pg.cs,aC,aw] at hH;refine qe hK<|qq<|QL 72 (.bool (decide (i.x<0)||decide (i.x≥p.code.length))) [] ?_ (fun ff tmp cY=>?_)
     ·refine qp (o:=1) ?_;refine ql hH bh ?_;refine qg ?_;refine qm ?_;refine QX 67 rfl (fun aR=>?_) (fun aR=>?_)
      ·refine qs ?_ (hg:=wn aR);refine qs ?_ (hg:=wn aR);refine qs ?_ (hg:=wn aR);refine qs ?_ (hg:=wn aR);refine qt aR ?_;refine υ (aY ?_ ?_)
       ·dsimp only[aB,ζ,nth,u2,u1]
        all_goals(first|rfl|simp)
       ·dsimp only[Ξ,ρ,ο,Θ,χ,nth,ψ,u1,u2,v1,v2,v3,v4,v5,v6,v7,θ,u3,u4,ε,γ,ξ]
        all_goals(simp[aR];done)
      ·refine qp (o:=1) ?_ (hg:=wi aR);refine ql hH bh ?_ (hg:=wi aR);refine qm ?_ (hg:=wi aR);refine qg ?_ (hg:=wi aR);refine qu aR ?_;refine υ (aY ?_ ?_)
       ·dsimp only[aB,ζ,nth,u2,u1]
        all_goals(first|rfl|simp)
       ·dsimp only[Ξ,ρ,ο,Θ,χ,nth,ψ,u1,u2,v1,v2,v3,v4,v5,v6,v7,θ,u3,u4,ε,γ,ξ]
        all_goals(simp[aR];done)
     dsimp only[aB,ζ,nth,u2,u1]
     have qw:jQ i.x p.code.length=!(decide (i.x<0)||decide (i.x≥p.code.length)):=by
      unfold jQ;simp only[QV,←decide_not,QF,QB,ge_iff_le]
     refine qc (fun h4=>?_) (fun h4=>?_)<;>try simp only[cs] at h4
     ·refine qq<|qj fun K hK=>qm ?_;refine qe hK ?_;rw[nh,qw,h4];simp only[QG,Qx];refine ω ⟨rx,_,rfl,rl bt hH (rfl)⟩
     ·refine π ?_;exact⟨i.x,0,.nul,false,[],_,rfl,hH,Dg,by rw[nh,qw,h4,MT];cases(i.y==0)<;>simp⟩
    ·rw[if_neg h3] at nh;refine qq<|qj fun K hK=>qg ?_;refine qm ?_;refine qe hK ?_;refine ς (by rfl) (fun h4=>?_) (fun h4=>?_)<;>try simp only[beq_iff_eq,beq_eq_false_iff_ne,ne_eq] at h4
     ·rw[if_pos h4] at nh;refine qq<|qj fun K hK=>qp (o:=1) ?_;refine ql hH bh ?_;refine qp (o:=1) ?_;refine qT hH av fun st hH=>?_;dsimp only[u2,u1,u3,u4,setMany,u5,u6,Δ,γ,Pg.cs,aC,aw] at hH;refine qe hK<|qq<|QL 85 (.bool (decide (i.x<0)||decide (i.x≥10))) [] ?_ (fun ff tmp cY=>?_)
      ·refine qp (o:=1) ?_;refine ql hH bh ?_;refine qg ?_;refine qm ?_;refine QX 81 rfl (fun aR=>?_) (fun aR=>?_)
       ·refine qs ?_ (hg:=wn aR);refine qs ?_ (hg:=wn aR);refine qs ?_ (hg:=wn aR);refine qt aR ?_;refine υ (aY ?_ ?_)
        ·dsimp only[aB,ζ,nth,u2,u1]
         all_goals(first|rfl|simp)
        ·dsimp only[Ξ,ρ,ο,Θ,χ,nth,ψ,u1,u2,v1,v2,v3,v4,v5,v6,v7,θ,u3,u4,ε,γ,ξ]
         all_goals(simp[aR];done)
       ·refine qp (o:=1) ?_ (hg:=wi aR);refine ql hH bh ?_ (hg:=wi aR);refine qg ?_ (hg:=wi aR);refine qu aR ?_;refine υ (aY ?_ ?_)
        ·dsimp only[aB,ζ,nth,u2,u1]
         all_goals(first|rfl|simp)
        ·dsimp only[Ξ,ρ,ο,Θ,χ,nth,ψ,u1,u2,v1,v2,v3,v4,v5,v6,v7,θ,u3,u4,ε,γ,ξ]
         all_goals(simp[aR];done)
      dsimp only[aB,ζ,nth,u2,u1]
      have qw:jQ i.x 10=!(decide (i.x<0)||decide (i.x≥10)):=by
       unfold jQ;simp only[QV,←decide_not,QF,QB,ge_iff_le]
      refine qc (fun h5=>?_) (fun h5=>?_)<;>try simp only[cs] at h5
      ·refine qq<|qj fun K hK=>qm ?_;refine qe hK ?_;rw[nh,qw,h5];simp only[QG,Qx];refine ω ⟨rx,_,rfl,rl bt hH (rfl)⟩
      ·refine π ?_;exact⟨i.x,0,.nul,true,[],_,rfl,hH,Dg,by rw[nh,qw,h5,MT];cases(i.y==0)<;>simp⟩
     ·rw[if_neg h4] at nh;refine qq<|qq<|qj fun K hK=>qg ?_;refine qm ?_;refine qe hK ?_
      by_cases h5:i.op=5
      ·rw[if_pos (.inl h5)] at nh;refine qD rfl (by simp[h5]) ?_;refine π<|qD rfl (by simp[h5]) ?_;refine π ?_;exact⟨0,0,.nul,true,[],_,rfl,hH,Dg,by rw[nh,MT];cases(i.y==0)<;>cases(i.x==0)<;>simp⟩
      ·refine qE rfl (by simp[h5]) ?_;refine qj fun K hK=>qg ?_;refine qm ?_;refine qe hK ?_;refine ς (by rfl) (fun h6=>?_) (fun h6=>?_)<;>try simp only[beq_iff_eq,beq_eq_false_iff_ne,ne_eq] at h6
       ·rw[if_pos (.inr h6)] at nh;refine π ?_;exact⟨0,0,.nul,true,[],_,rfl,hH,Dg,by rw[nh,MT];cases(i.y==0)<;>cases(i.x==0)<;>simp⟩
       ·rw[if_neg (by omega)] at nh;refine qq<|qj fun K hK=>qg ?_;refine qm ?_;refine qe hK ?_;refine ς (by rfl) (fun h7=>?_) (fun h7=>?_)<;>try simp only[beq_iff_eq,beq_eq_false_iff_ne,ne_eq] at h7
        ·rw[if_pos h7] at nh;refine qq<|qj fun K hK=>qm ?_;refine qe hK<|qq<|qj fun K hK=>qp (o:=1) ?_;refine ql hH bh ?_;refine qp (o:=1) ?_;refine qT hH av fun st hH=>?_;dsimp only[u2,u1,u3,u4,setMany,u5,u6,Δ,γ,Pg.cs,aC,aw] at hH;refine qe hK<|qq<|QL 104 (.bool (decide (i.x<0)||decide (i.x≥p.ak.length))) [] ?_ (fun ff tmp cY=>?_)
         ·refine qp (o:=1) ?_;refine ql hH bh ?_;refine qg ?_;refine qm ?_;refine QX 97 rfl (fun aR=>?_) (fun aR=>?_)
          ·refine qs ?_ (hg:=wn aR);refine qs ?_ (hg:=wn aR);refine qs ?_ (hg:=wn aR);refine qs ?_ (hg:=wn aR);refine qs ?_ (hg:=wn aR);refine qs ?_ (hg:=wn aR);refine qt aR ?_;refine υ (aY ?_ ?_)
           ·dsimp only[aB,ζ,nth,u2,u1]
            all_goals(first|rfl|simp)
           ·dsimp only[Ξ,ρ,ο,Θ,χ,nth,ψ,u1,u2,v1,v2,v3,v4,v5,v6,v7,θ,u3,u4,ε,γ,ξ]
            all_goals(simp[aR];done)
          ·refine qp (o:=1) ?_ (hg:=wi aR);refine ql hH bh ?_ (hg:=wi aR);refine qp (o:=1) ?_ (hg:=wi aR);refine ql hH dF ?_ (hg:=wi aR);refine qn ?_ (hg:=wi aR);simp only[δ];refine qg ?_ (hg:=wi aR);refine qu aR ?_;refine υ (aY ?_ ?_)
           ·dsimp only[aB,ζ,nth,u2,u1]
            all_goals(first|rfl|simp)
           ·dsimp only[Ξ,ρ,ο,Θ,χ,nth,ψ,u1,u2,v1,v2,v3,v4,v5,v6,v7,θ,u3,u4,ε,γ,ξ]
            all_goals(simp[aR];done)
         dsimp only[aB,ζ,nth,u2,u1]
         have qw:jQ i.x p.ak.length=!(decide (i.x<0)||decide (i.x≥p.ak.length)):=by
          unfold jQ;simp only[QV,←decide_not,QF,QB,ge_iff_le]
         refine qc (fun h8=>?_) (fun h8=>?_)<;>try simp only[cs] at h8
         ·refine qq<|qj fun K hK=>qm ?_;refine qe hK ?_;rw[nh,qw,h8];simp only[QG,Qx];refine ω ⟨rx,_,rfl,rl bt hH (rfl)⟩
         ·refine π ?_;exact⟨i.x,0,.nul,false,[],_,rfl,hH,Dg,by rw[nh,qw,h8,MT];cases(i.y==0)<;>simp⟩
        ·rw[if_neg h7] at nh;refine qq<|qj fun K hK=>qm ?_;refine qe hK ?_;rw[nh];simp only[Qx];refine ω ⟨rx,_,rfl,rl bt hH (rfl)⟩
 ·rintro fr st ⟨bx,bz,brd,fl,W7,tmp,hfr,hH,hbr,hsh⟩;rw[hfr];clear hfr;generalize fz fr=ee;clear fr;have abT:=hbr.arg s0.bs.length S;refine qq<|ab.lV 4 (.bool ((((i.x==bx) &&(i.y==bz)) &&((i.rs.length:Int)==W7.length)) &&(!fl||decide (((pc+1:Nat):Int)<p.code.length)))) [] ?_ (fun ff tmp=>?_)
  ·refine qp (o:=1) ?_;refine ql hH bh ?_;refine qp (o:=1) ?_;refine ql hH av ?_;refine qg ?_;refine qm ?_;refine QX 110 rfl (fun bk=>?_) (fun bk=>?_)
   ·refine qp (o:=2) ?_ (hg:=wi bk);refine ql hH bh ?_ (hg:=wi bk);refine qp (o:=2) ?_ (hg:=wi bk);refine ql hH av ?_ (hg:=wi bk);refine qg ?_ (hg:=wi bk);refine qt bk ?_;refine qm ?_;refine QX 117 rfl (fun bG=>?_) (fun bG=>?_)
    ·refine qp (o:=3) ?_ (hg:=wi bG);refine ql hH bh ?_ (hg:=wi bG);refine qn ?_ (hg:=wi bG);simp only[δ];refine qp (o:=3) ?_ (hg:=wi bG);refine ql hH av ?_ (hg:=wi bG);refine qn ?_ (hg:=wi bG);simp only[δ];refine qg ?_ (hg:=wi bG);refine qt bG ?_;refine qm ?_;refine QX 126 rfl (fun ei=>?_) (fun ei=>?_)
     ·refine qm ?_ (hg:=wi ei);refine qg ?_ (hg:=wi ei);refine qm ?_ (hg:=wi ei);refine QX 129 rfl (fun dE=>?_) (fun dE=>?_)
      ·refine qs ?_ (hg:=wn dE);refine qs ?_ (hg:=wn dE);refine qs ?_ (hg:=wn dE);refine qs ?_ (hg:=wn dE);refine aa.dI (aq rfl rfl rfl ei) rfl dE (ae rfl _) ?_;refine qt ei ?_;refine qm ?_;refine υ (bp ?_);dsimp only[aB,ζ,nth,u2,u1];dsimp only[Ξ,ρ,ο,Θ,χ,nth,ψ,u1,u2,v1,v2,v3,v4,v5,v6,v7,θ,u3,u4,ε,γ,ξ]
       all_goals(simp[bk,bG,ei,dE];done)
      ·refine qm ?_ (hg:=wi dE);refine qA ?_ (hg:=wi dE);refine qm ?_ (hg:=wi dE);refine qg ?_ (hg:=wi dE);refine aa.de (aq rfl rfl rfl ei) rfl dE (ae rfl _) ?_;refine qt ei ?_;refine qm ?_;refine υ (bp ?_);dsimp only[aB,ζ,nth,u2,u1];dsimp only[Ξ,ρ,ο,Θ,χ,nth,ψ,u1,u2,v1,v2,v3,v4,v5,v6,v7,θ,u3,u4,ε,γ,ξ]
       all_goals(simp[bk,bG,ei,dE];done)
     ·refine qs ?_ (hg:=wn ei);refine qs ?_ (hg:=wn ei);refine qs ?_ (hg:=wn ei);refine qs ?_;refine qs ?_;refine qs ?_;refine qs ?_;refine qs ?_ (hg:=wn ei);refine qu ei ?_;refine qm ?_;refine υ (bp ?_);dsimp only[aB,ζ,nth,u2,u1];dsimp only[Ξ,ρ,ο,Θ,χ,nth,ψ,u1,u2,v1,v2,v3,v4,v5,v6,v7,θ,u3,u4,ε,γ,ξ]
      all_goals(simp[bk,bG,ei];done)
    ·refine qs ?_ (hg:=wn bG);refine qs ?_ (hg:=wn bG);refine qs ?_ (hg:=wn bG);refine qs ?_ (hg:=wn bG);refine qs ?_ (hg:=wn bG);refine qs ?_ (hg:=wn bG);refine qs ?_ (hg:=wn bG);refine qu bG ?_;refine qm ?_;refine qs ?_;refine qs ?_;refine qs ?_;refine qs ?_;refine qs ?_;refine qs ?_;refine qs ?_;refine qs ?_;refine qg ?_;refine qm ?_;refine υ (bp ?_);dsimp only[aB,ζ,nth,u2,u1];dsimp only[Ξ,ρ,ο,Θ,χ,nth,ψ,u1,u2,v1,v2,v3,v4,v5,v6,v7,θ,u3,u4,ε,γ,ξ]
     all_goals(simp[bk,bG];done)
   ·refine qs ?_ (hg:=wn bk);refine qs ?_ (hg:=wn bk);refine qs ?_ (hg:=wn bk);refine qs ?_ (hg:=wn bk);refine qs ?_ (hg:=wn bk);refine qu bk ?_;refine qm ?_;refine qs ?_;refine qs ?_;refine qs ?_;refine qs ?_;refine qs ?_;refine qs ?_;refine qs ?_;refine qg ?_;refine qm ?_;refine qs ?_;refine qs ?_;refine qs ?_;refine qs ?_;refine qs ?_;refine qs ?_;refine qs ?_;refine qs ?_;refine qg ?_;refine qm ?_;refine υ (bp ?_);dsimp only[aB,ζ,nth,u2,u1];dsimp only[Ξ,ρ,ο,Θ,χ,nth,ψ,u1,u2,v1,v2,v3,v4,v5,v6,v7,θ,u3,u4,ε,γ,ξ]
    all_goals(simp[bk];done)
  dsimp only[aB,ζ,nth,u2,u1];rw[hsh];refine ω ⟨rx,_,rfl,rl bt hH (rfl)⟩
def aS (fr:Go.V.Fr) (k:Nat):Go.V.D:=Go.V.nth .bD fr.loc k
def bf (b:Bool):List D:=[.bool b]
theorem il {l:List Bool} {i:Nat} {q:Bool} (h:l[i]?=some q):(l.map bf)[i]?=some (bf q):=by rw[QD,h];rfl
theorem kQ (l:List Bool):∀e∈l.map bf,∀d∈e,cv d=true:=by
 intro e he d hd;obtain⟨x,_,rfl⟩:=QC.1 he;simp only[bf,τ,ν,or_false] at hd;subst hd;rfl
theorem FH (l:List Bool):∀e∈l.map bf,e.length=1:=by
 intro e he;obtain⟨x,_,rfl⟩:=QC.1 he;rfl
def nb (l:List Bool):D:=.sl ((l.map bf).map (jR 1))
theorem mr (l:List Bool):dr (nb l) 1 (l.map bf):=dr.frozen (FH l) (kQ l)
theorem iR (l:List Int):∀e∈l.map aw,∀d∈e,cv d=true:=by
 intro e he d hd;obtain⟨x,_,rfl⟩:=QC.1 he;simp only[aw,τ,ν,or_false] at hd;subst hd;rfl
theorem Mg (l:List Int):∀e∈l.map aw,e.length=1:=by
 intro e he;obtain⟨x,_,rfl⟩:=QC.1 he;rfl
def Bj (l:List Int):D:=.sl ((l.map aw).map (jR 1))
theorem sr (l:List Int):dr (Bj l) 1 (l.map aw):=dr.frozen (Mg l) (iR l)
def cj (pc:Nat) (i:aQ):List Int:=
 if i.op=2 then[i.x,i.y] else if i.op=3 then[i.x] else if i.op=7 then[] else[((pc+1:Nat):Int)]
def iM (code:List aQ):Prop:=∀pc i,code[pc]?=some i→∀v∈cj pc i,0≤v∧v<code.length
theorem wW {n ns:Nat} (h:cC n ns pc i=true):∀v∈cj pc i,0≤v∧v<n:=by
 intro v hv
 have dS:∀a b:Int,jQ a b=true→0≤a∧a<b:=fun a b h=>by
  unfold jQ at h;simp only[φ,decide_eq_true_eq] at h;exact⟨h.1,h.2⟩
 unfold cC at h;unfold cj at hv
 split at h
 ·rename_i h1;rw[if_neg (by omega),if_neg (by omega),if_neg (by omega)] at hv;simp only[φ,decide_eq_true_eq] at h;simp only[τ,ν,or_false] at hv;subst hv;omega
 ·simp only[φ] at h;obtain⟨_,h⟩:=h
  split at h
  ·rename_i h2;rw[if_pos h2] at hv;simp only[φ] at h;simp only[τ,ν,or_false] at hv
   rcases hv with rfl|rfl
   ·exact dS _ _ h.1
   ·exact dS _ _ h.2
  ·rename_i h2;rw[if_neg h2] at hv;simp only[φ] at h;obtain⟨_,h⟩:=h
   split at h
   ·rename_i h3;rw[if_pos h3] at hv;simp only[τ,ν,or_false] at hv;subst hv;exact dS _ _ h
   ·rename_i h3;rw[if_neg h3] at hv
    split at h
    ·rename_i h4;rw[if_neg (by omega)] at hv;simp only[φ,decide_eq_true_eq] at h;simp only[τ,ν,or_false] at hv;subst hv;omega
    ·split at h
     ·rename_i h5;rw[if_neg (by omega)] at hv;simp only[φ,decide_eq_true_eq] at h;simp only[τ,ν,or_false] at hv;subst hv;omega
     ·split at h
      ·rename_i h7;rw[if_pos h7] at hv;cases hv
      ·cases h
def wK (code:List aQ):Nat→List Bool→List Int→List Bool
 |0,seen,_=>seen
 |_+1,seen,[]=>seen
 |f+1,seen,v::fq=>match seen[v.toNat]? with
  |some false=>match code[v.toNat]? with
   |some i=>wK code f (seen.set v.toNat true) ((cj v.toNat i).reverse++fq)
   |none=>seen
  |_=>wK code f seen fq
def bF (code:List aQ) (start:Int):List Bool:=wK code (3*code.length+1) (Qj code.length false) [start]
theorem wu (code:List aQ):∀(f:Nat) (seen:List Bool) (fq:List Int),(wK code f seen fq).length=seen.length
 |0,_,_=>rfl
 |_+1,_,[]=>rfl
 |f+1,seen,v::fq=>by
  unfold wK
  split
  ·split
   ·rw[wu code f];simp
   ·rfl
  ·exact wu code f seen fq
theorem kA (code:List aQ) (s:Int):(bF code s).length=code.length:=by
 unfold bF;rw[wu];simp
theorem count_set {seen:List Bool} (h:seen[k]?=some false):(seen.set k true).count false+1=seen.count false:=by
 induction seen generalizing k with
 |nil=>simp at h
 |cons b l ih=>
  cases k with
  |zero=>simp at h;subst h;simp
  |succ k=>
   have:=ih (k:=k) (by simpa using h);simp only[List.set_cons_succ,List.count_cons];omega
theorem rR (pc:Nat) (i:aQ):(cj pc i).length≤2:=by
 unfold cj;split
 ·simp
 ·split
  ·simp
  ·split<;>simp
theorem wR (v:Int) (r:List Int):((v::r).reverse.map aw)[r.length]?=some (aw v):=by
 rw[QD,QI,List.getElem?_append_right (by simp)];simp
theorem AP (v:Int) (r:List Int):(((v::r).reverse.map aw).take r.length).drop 0=r.reverse.map aw:=by
 rw[QI,QP,Qy,List.take_left' (by simp)]
theorem BB {cd:D} {code:List aQ} {start:Int} (tA:dr cd 4 (code.map aC)) (hlen:code.length≤1048576) (hcl:iM code) (gi:0≤start∧start<code.length):Ev pv 106 [cd,.int .i64 start] s0 (nb (bF code start)) s0:=by
 refine Ev.h_ rfl Wm rfl rfl rfl ?_;dsimp only[u3,u4,θ,ε,γ,w1,w2];obtain⟨bt,hF,hH⟩:=ri s0;generalize ah .ro s0=S at*;have hc:=tA.arg s0.bs.length S;refine qq<|qj fun K hK=>qm ?_;refine qe hK<|qq<|qj fun K hK=>qm ?_;refine qn ?_;simp only[δ];refine aa.sB (s:=1) hH rfl rfl rfl rfl rfl rfl rfl rfl (η rfl) (by omega) (fun _=>by dsimp only[ρ,u1,u2]<;>rfl) (fun k11 st MN hH=>?_);refine qm ?_;refine qe hK<|qq<|qj fun K hK=>qm ?_;refine qh (s:=1) (vs:=[_]) hH fun k13 st U3 hH=>?_;refine qm ?_;refine qe hK<|qq<|Γ<|QK (fun mm fr st=>∃(y z:D) (seen:List Bool) (fq:List Int),fr.clean=⟨41,[cd,aS fr 1,aS fr 2,aS fr 3,.nul,y,z,aS fr 7,aS fr 8,aS fr 9,aS fr 10,aS fr 11,aS fr 12,aS fr 13,aS fr 14,aS fr 15,aS fr 16,aS fr 17,aS fr 18,aS fr 19,aS fr 20,aS fr 21,aS fr 22,aS fr 23,aS fr 24,aS fr 25,aS fr 26,aS fr 27,aS fr 28,aS fr 29,aS fr 30,aS fr 31,aS fr 32,aS fr 33,aS fr 34,aS fr 35,aS fr 36,aS fr 37,aS fr 38,aS fr 39,aS fr 40],[]⟩∧Has s0.bs.length S st [.aO z 1 (fq.reverse.map aw),.aO y 1 (seen.map bf)]∧(wK code mm seen fq=bF code start)∧(3*seen.count false+fq.length≤mm)∧(seen.length=code.length)∧(∀v∈fq,0≤v∧v<(code.length:Int))∧(mm≤3*code.length+1)) (3*code.length+1) ?_ ?_
 ·exact⟨_,_,Qj code.length false,[start],rfl,(by rw[QH];exact hH),rfl,by simp,by simp,by simpa using gi,by omega⟩
 rintro mm fr st ⟨y,z,seen,fq,hfr,hH,hd,hm,iE,hsk,yX⟩;rw[hfr];clear hfr;generalize aS fr=ee;clear fr
 rcases fq with _|⟨v,fq⟩
 ·refine qq<|qq<|qj fun K hK=>qm ?_;refine qn ?_ (hR:=hH.rows av);simp only[δ,QZ,κ];refine qg ?_;refine qe hK<|ς (v:=false) (by dsimp only[Θ,χ,nth,ψ];rfl) (fun h=>by cases h) (fun _=>?_);refine Qw<|qq<|qj fun K hK=>qm ?_;refine qm ?_;refine qe hK ?_;have gb:seen=bF code start:=by rw[←hd];cases mm<;>rfl
  rw[←gb];refine ω ⟨rx,_,rfl,rl bt hH ?_⟩;exact hH.freeze bh (kQ _) (n:=15) (by decide)
 ·have hv:=hsk v (Qq ..);obtain⟨k,rfl⟩:=QY hv.1;have hk:k<code.length:=by omega
  simp only[μ] at hm
  obtain⟨mm,rfl⟩:∃m',mm=m'+1:=⟨mm-1,by omega⟩
  obtain⟨b,hb⟩:∃b,seen[k]?=some b:=⟨seen[k]'(by omega),ι _⟩
  obtain⟨i,hi⟩:∃i,code[k]?=some i:=⟨code[k]'(by omega),ι _⟩
  have gB:=wR (k:Int) fq;have mV:=il hb;have WQ:=eB hi;refine qq<|qq<|qj fun K hK=>qm ?_;refine qn ?_ (hR:=hH.rows av);simp only[δ,μ,κ];refine qg ?_;refine qe hK<|qD rfl (by simp) ?_;refine π<|Γ<|qq<|qj fun K hK=>qm ?_;refine qm ?_;refine qn ?_ (hR:=hH.rows av);simp only[δ,μ,κ];refine Qf (z:=((fq.length:Nat):Int)) rfl (ev rfl) (ev rfl) (by rw[wrap_i64 (by omega) (by omega)]<;>omega) (by dsimp only[ρ,u1,u2]<;>rfl) ?_;refine qi hH av fun T0 ES=>?_;refine qo hH av ?_;refine qm ?_;refine qe hK<|qq<|qj fun K hK=>qm ?_;refine qm ?_;refine qn ?_ (hR:=hH.rows av);simp only[δ,μ,κ];refine Qf (z:=((fq.length:Nat):Int)) rfl (ev rfl) (ev rfl) (by rw[wrap_i64 (by omega) (by omega)]<;>omega) (by dsimp only[ρ,u1,u2]<;>rfl) ?_;refine aa.zt hH rfl (ev rfl) (by exact av) rfl rfl (pq (by simp only[δ,κ,μ];omega)) ⟨(by omega),(by simp only[δ,κ,μ];omega)⟩ (fun _=>by dsimp only[ρ,u1,u2]<;>rfl) (fun y27 hH=>?_);refine qm ?_;refine qe hK ?_;dsimp only[u2] at hH;rw[AP] at hH;have gi:∀w∈fq,0≤w∧w<(code.length:Int):=fun w hw=>hsk w (QS _ hw);refine qq<|qq<|qj fun K hK=>qm ?_;refine qm ?_;refine qi hH bh fun p30 UG=>?_;refine qo hH bh ?_;refine qe hK ?_
  cases b with
  |true=>
   refine qB ?_;refine Qw ?_;simp only[wK,Ψ,hb] at hd;exact⟨mm,by omega,⟨_,_,seen,fq,rfl,hH,hd,by omega,iE,gi,by omega⟩⟩
  |false=>
   have wc:=count_set hb;have fO:(seen.set k true).map bf=(seen.map bf).set k [.bool true]:=by rw[Qc];rfl
   simp only[wK,Ψ,hb,hi] at hd;have Yt:=hcl k i hi;have Dg:=rR k i
   have RB:∀w∈(cj k i).reverse++fq,0≤w∧w<(code.length:Int):=fun w hw=>by
    rcases Qb.1 hw with hw|hw
    ·exact Yt w (QO.1 hw)
    ·exact gi w hw
   have RK:(((cj k i).reverse++fq).reverse).map aw=fq.reverse.map aw++(cj k i).map aw:=by
    rw[QA,QT,QP]
   refine qC ?_;refine π<|qq<|qj fun K hK=>qm ?_;refine qm ?_;refine qi hH bh fun p34 Yo=>?_;refine aa.gX hH rfl (ev rfl) (ev rfl) (by assumption) rfl rfl (by exact bh) (by assumption) (η rfl) (by exact .inl hF) (fun st hH=>?_);dsimp only[u2,u1,u3,u4,setMany,u5,u6,Δ,γ,aC,aw,bf] at hH;refine qe hK<|qq<|qj fun K hK=>qm ?_;refine qm ?_;refine qr fun Xv RS=>?_;refine Qg rfl (ev rfl) (by assumption) rfl (by dsimp only[ρ,u1,u2]<;>rfl) ?_;refine qa hH fun k8 st Td hH=>?_;refine qS hH av fun st hH=>?_;dsimp only[u2,u1,u3,u4,setMany,u5,u6,Δ,γ,aC,aw,bf] at hH;refine qe hK<|qq<|qj fun K hK=>qp (o:=0) ?_;refine ql hH av ?_;refine qe hK<|Qh (fun fr st=>∃(z:D) (tmp:List (Nat×D)),fr=⟨41,[cd,aS fr 1,aS fr 2,aS fr 3,.nul,y,z,aS fr 7,aS fr 8,aS fr 9,aS fr 10,aS fr 11,aS fr 12,aS fr 13,aS fr 14,aS fr 15,aS fr 16,aS fr 17,aS fr 18,aS fr 19,aS fr 20,aS fr 21,aS fr 22,aS fr 23,aS fr 24,aS fr 25,aS fr 26,aS fr 27,aS fr 28,aS fr 29,aS fr 30,aS fr 31,aS fr 32,aS fr 33,aS fr 34,aS fr 35,aS fr 36,aS fr 37,aS fr 38,aS fr 39,aS fr 40],tmp⟩∧Has s0.bs.length S st [.aO z 1 (fq.reverse.map aw++(cj k i).map aw),.aO y 1 ((seen.map bf).set k [.bool true])]) ?_ ?_
   ·refine Γ<|qq<|qj fun K hK=>qg ?_;refine qm ?_;refine qe hK ?_;refine ς (by rfl) (fun h2=>?_) (fun h2=>?_)<;>try simp only[beq_iff_eq,beq_eq_false_iff_ne,ne_eq] at h2
    ·have:cj k i=[i.x,i.y]:=by unfold cj;rw[if_pos h2]
     rw[this];refine qj fun K hK=>qm ?_;refine qp (o:=1) ?_;refine ql hH av ?_;refine qp (o:=2) ?_;refine ql hH av ?_;refine qh (s:=1) (vs:=[_,_]) hH fun k53 st abD hH=>?_;refine Qe (s:=1) hH rfl (ev rfl) (ev rfl) (by exact dF) (by exact hH.rows (by exact av)) rfl rfl rfl rfl rfl rfl rfl ⟨(η rfl),(η rfl)⟩ (fun _=>(ae rfl _)) (by simp only[μ,QZ,δ,κ]<;>omega) (by exact .inl hF) (fun x54 st hH=>?_);dsimp only[u2,u1,u3,u4,setMany,u5,u6,Δ,γ,aC,aw,bf] at hH;refine qm ?_;refine qe hK ?_;exact⟨_,_,rfl,(by have:=hH.drop 2;exact this)⟩
    ·refine qq<|qj fun K hK=>qg ?_;refine qm ?_;refine qe hK ?_;refine ς (by rfl) (fun h3=>?_) (fun h3=>?_)<;>try simp only[beq_iff_eq,beq_eq_false_iff_ne,ne_eq] at h3
     ·have:cj k i=[i.x]:=by unfold cj;rw[if_neg h2,if_pos h3]
      rw[this];refine qj fun K hK=>qm ?_;refine qp (o:=1) ?_;refine ql hH av ?_;refine qh (s:=1) (vs:=[_]) hH fun k60 st abB hH=>?_;refine Qe (s:=1) hH rfl (ev rfl) (ev rfl) (by exact dF) (by exact hH.rows (by exact av)) rfl rfl rfl rfl rfl rfl rfl ⟨(η rfl),(η rfl)⟩ (fun _=>(ae rfl _)) (by simp only[μ,QZ,δ,κ]<;>omega) (by exact .inl hF) (fun x61 st hH=>?_);dsimp only[u2,u1,u3,u4,setMany,u5,u6,Δ,γ,aC,aw,bf] at hH;refine qm ?_;refine qe hK ?_;exact⟨_,_,rfl,(by have:=hH.drop 2;exact this)⟩
     ·refine qq<|qj fun K hK=>qg ?_;refine qm ?_;refine qe hK ?_;refine ς (by rfl) (fun h7=>?_) (fun h7=>?_)<;>try simp only[beq_iff_eq,beq_eq_false_iff_ne,ne_eq] at h7
      ·have:cj k i=[]:=by unfold cj;rw[if_neg h2,if_neg h3,if_pos h7]
       rw[this,List.map_nil,List.append_nil];refine π ?_;exact⟨_,_,rfl,(by have:=hH.drop 1;exact this)⟩
      ·have:cj k i=[((k+1:Nat):Int)]:=by unfold cj;rw[if_neg h2,if_neg h3,if_neg h7]
       rw[this];refine qj fun K hK=>qm ?_;refine qm ?_;refine qA ?_;refine qh (s:=1) (vs:=[_]) hH fun k44 st abF hH=>?_;refine Qe (s:=1) hH rfl (ev rfl) (ev rfl) (by exact dF) (by exact hH.rows (by exact av)) rfl rfl rfl rfl rfl rfl rfl ⟨(η rfl),(η rfl)⟩ (fun _=>(ae rfl _)) (by simp only[μ,QZ,δ,κ]<;>omega) (by exact .inl hF) (fun x45 st hH=>?_);dsimp only[u2,u1,u3,u4,setMany,u5,u6,Δ,γ,aC,aw,bf] at hH;refine qm ?_;refine qe hK ?_;exact⟨_,_,rfl,(by have:=hH.drop 2;exact this)⟩
   ·rintro fr st ⟨z,tmp,hfr,hH⟩;rw[hfr];clear hfr;generalize aS fr=ee;clear fr;exact⟨mm,by omega,⟨y,z,seen.set k true,(cj k i).reverse++fq,rfl,(by rw[RK,fO];exact hH),hd,by simp only[QE,κ];omega,by simp only[Qa];exact iE,RB,by omega⟩⟩
def sk (fr:Go.V.Fr) (k:Nat):Go.V.D:=Go.V.nth .bD fr.loc k
theorem L0 (hp:p.ok) (hi:p.code[pc]?=some i):Ev pv 112 [p.d,.int .i64 (pc:Nat)] s0 (Bj (cj pc i)) s0:=by
 refine Ev.h_ rfl Wf rfl rfl rfl ?_;dsimp only[u3,u4,θ,ε,γ,w1,w2];obtain⟨bt,hF,hH⟩:=ri s0;generalize ah .ro s0=S at*;have hc:=hp.c.arg s0.bs.length S;have vV:=(hp.i i (QQ hi)).1;have hcl:=hp.cl;have hr:=eB hi;have hlt:=bC hi;unfold Pg.d;refine qq<|qj fun K hK=>qb hH fun k2 st hk2 hH=>?_;dsimp only[u2,u1,u3,u4,setMany,u5,u6,Δ,γ,Pg.cs,aC,aw,bf] at hH;refine qm ?_;refine qe hK<|qq<|qj fun K hK=>qp (o:=0) ?_;refine ql hH av ?_;refine qm ?_;refine qr fun p9 hp9=>?_;refine Qg rfl (ev rfl) (by assumption) rfl (by dsimp only[ρ,u1,u2]<;>rfl) ?_;refine qa hH fun k5 st yh hH=>?_;refine qS hH av fun st hH=>?_;dsimp only[u2,u1,u3,u4,setMany,u5,u6,Δ,γ,Pg.cs,aC,aw,bf] at hH;refine qe hK<|qq<|qq<|qj fun K hK=>qp (o:=0) ?_;refine ql hH av ?_;refine qe hK<|Γ<|qq<|qj fun K hK=>qg ?_;refine qm ?_;refine qe hK ?_;refine ς (by rfl) (fun h2=>?_) (fun h2=>?_)<;>try simp only[beq_iff_eq,beq_eq_false_iff_ne,ne_eq] at h2
 ·have:cj pc i=[i.x,i.y]:=by unfold cj;rw[if_pos h2]
  rw[this];refine qq<|qj fun K hK=>qp (o:=1) ?_;refine ql hH av ?_;refine qp (o:=2) ?_;refine ql hH av ?_;refine qh (s:=1) (vs:=[_,_]) hH fun k19 st YL hH=>?_;refine qm ?_;refine qe hK<|ω ⟨rx,_,rfl,rl bt hH ?_⟩;exact hH.freeze av (iR [i.x,i.y]) (n:=15) (by decide)
 ·refine qq<|qj fun K hK=>qg ?_;refine qm ?_;refine qe hK ?_;refine ς (by rfl) (fun h3=>?_) (fun h3=>?_)<;>try simp only[beq_iff_eq,beq_eq_false_iff_ne,ne_eq] at h3
  ·have:cj pc i=[i.x]:=by unfold cj;rw[if_neg h2,if_pos h3]
   rw[this];refine qq<|qj fun K hK=>qp (o:=1) ?_;refine ql hH av ?_;refine qh (s:=1) (vs:=[_]) hH fun k24 st YJ hH=>?_;refine qm ?_;refine qe hK<|ω ⟨rx,_,rfl,rl bt hH ?_⟩;exact hH.freeze av (iR [i.x]) (n:=15) (by decide)
  ·refine qq<|qj fun K hK=>qg ?_;refine qm ?_;refine qe hK ?_;refine ς (by rfl) (fun h7=>?_) (fun h7=>?_)<;>try simp only[beq_iff_eq,beq_eq_false_iff_ne,ne_eq] at h7
   ·have:cj pc i=[]:=by unfold cj;rw[if_neg h2,if_neg h3,if_pos h7]
    rw[this];refine qq<|qj fun K hK=>qm ?_;refine qe hK<|ω ⟨rx,_,rfl,rl bt hH (rfl)⟩
   ·have:cj pc i=[((pc+1:Nat):Int)]:=by unfold cj;rw[if_neg h2,if_neg h3,if_neg h7]
    rw[this];refine π<|qq<|qj fun K hK=>qm ?_;refine qA ?_;refine qh (s:=1) (vs:=[_]) hH fun k29 st YG hH=>?_;refine qm ?_;refine qe hK<|ω ⟨rx,_,rfl,rl bt hH ?_⟩;exact hH.freeze av (iR [((pc+1:Nat):Int)]) (n:=15) (by decide)
def kB (p:Pg) (ky:Int):List Bool:=if jQ ky p.ak.length then bF p.code (p.ak.getD ky.toNat 0) else Qj p.code.length false
theorem pG {ky:Int} (hp:p.ok) (hcl:iM p.code) (gi:∀v∈p.ak,0≤v∧v<p.code.length):Ev pv 68 [p.d,.int .i64 ky] s0 (nb (kB p ky)) s0:=by
 refine Ev.h_ rfl ZM rfl rfl rfl ?_;dsimp only[u3,u4,θ,ε,γ,w1,w2];obtain⟨bt,hF,hH⟩:=ri s0;generalize ah .ro s0=S at*;have hc:=hp.c.arg s0.bs.length S;have hs:=hp.s.arg s0.bs.length S;have tA:=hp.c;have hlen:=hp.cl;have Mm:=hp.sl;unfold Pg.d;refine qq<|qj fun K hK=>qb hH fun k2 st hk2 hH=>?_;dsimp only[u2,u1,u3,u4,setMany,u5,u6,Δ,γ,Pg.cs,aC,aw,bf] at hH;refine qm ?_;refine qe hK<|qq<|qj fun K hK=>qp (o:=0) ?_;refine ql hH av ?_;refine qn ?_;simp only[δ];refine aa.sB (s:=1) hH rfl rfl rfl rfl rfl rfl rfl rfl (η rfl) (by omega) (fun _=>(ae rfl _)) (fun k11 st MN hH=>?_);refine qm ?_;refine qe hK ?_
 have hnot:jQ ky p.ak.length=!(decide (ky<0)||decide (ky≥p.ak.length)):=by
  unfold jQ;simp only[QV,←decide_not,QF,QB,ge_iff_le]
 refine qq<|qq<|QL 20 (.bool (decide (ky<0)||decide (ky≥p.ak.length))) [] ?_ (fun ff tmp cY=>?_)
 ·refine qm ?_;refine qg ?_;refine qm ?_;refine QX 14 rfl (fun aZ=>?_) (fun aZ=>?_)
  ·refine qs ?_ (hg:=wn aZ);refine qs ?_ (hg:=wn aZ);refine qs ?_ (hg:=wn aZ);refine qs ?_ (hg:=wn aZ);refine qs ?_ (hg:=wn aZ);refine qt aZ ?_;refine υ (aY ?_ ?_)
   ·dsimp only[aB,ζ,nth,u2,u1]
    all_goals(first|rfl|simp)
   ·dsimp only[Ξ,ρ,ο,Θ,χ,nth,ψ,u1,u2,v1,v2,v3,v4,v5,v6,v7,θ,u3,u4,ε,γ,ξ]
    all_goals(simp[aZ];done)
  ·refine qm ?_ (hg:=wi aZ);refine qp (o:=1) ?_ (hg:=wi aZ);refine ql hH bh ?_ (hg:=wi aZ);refine qn ?_ (hg:=wi aZ);simp only[δ];refine qg ?_ (hg:=wi aZ);refine qu aZ ?_;refine υ (aY ?_ ?_)
   ·dsimp only[aB,ζ,nth,u2,u1]
    all_goals(first|rfl|simp)
   ·dsimp only[Ξ,ρ,ο,Θ,χ,nth,ψ,u1,u2,v1,v2,v3,v4,v5,v6,v7,θ,u3,u4,ε,γ,ξ]
    all_goals(simp[aZ];done)
 dsimp only[aB,ζ,nth,u2,u1];refine qc (fun h0=>?_) (fun h0=>?_)<;>try simp only[cs] at h0
 ·have hR:kB p ky=Qj p.code.length false:=by unfold kB;rw[hnot,h0];rfl
  rw[hR];refine qq<|qj fun K hK=>qm ?_;refine qm ?_;refine qe hK ?_;have hH:Has s0.bs.length S st [.aO (.win k11 0 0 p.code.length 1) 1 ((Qj p.code.length false).map bf),.box k2 (.mem 0 false [p.cd,p.sd])]:=by rw[QH];exact hH
  refine ω ⟨rx,_,rfl,rl bt hH ?_⟩;exact hH.freeze av (kQ _) (n:=15) (by decide)
 ·have qw:jQ ky p.ak.length=true:=by rw[hnot,h0];rfl
  have hR:kB p ky=bF p.code (p.ak.getD ky.toNat 0):=by unfold kB;rw[if_pos qw]
  rw[hR];unfold jQ at qw;simp only[φ,decide_eq_true_eq] at qw;obtain⟨ru,rfl⟩:=QY qw.1
  obtain⟨start,j9⟩:∃v,p.ak[ru]?=some v:=⟨p.ak[ru]'(by omega),ι _⟩
  have S_:=eA j9;have gi:=gi start (QQ j9);rw[show p.ak.getD (ru:Int).toNat 0=start by rw[Ψ,QM,j9];rfl];refine π<|qq<|qj fun K hK=>qp (o:=1) ?_;refine ql hH bh ?_;refine qm ?_;refine qr fun S3 CC=>?_;refine qR ?_;refine qh (s:=1) (vs:=[_]) hH fun k27 st YH hH=>?_;refine qm ?_;refine qe hK<|qq<|Γ<|QK (fun mm fr st=>∃(y z:D) (seen:List Bool) (fq:List Int),fr.clean=⟨8,[sk fr 0,sk fr 1,.ptr k2 0 0,sk fr 3,.nul,y,z,sk fr 7],[]⟩∧Has s0.bs.length S st [.aO z 1 (fq.reverse.map aw),.aO y 1 (seen.map bf),.box k2 (.mem 0 false [p.cd,p.sd])]∧(wK p.code mm seen fq=bF p.code start)∧(3*seen.count false+fq.length≤mm)∧(seen.length=p.code.length)∧(∀v∈fq,0≤v∧v<(p.code.length:Int))∧(mm≤3*p.code.length+1)) (3*p.code.length+1) ?_ ?_
  ·exact⟨_,_,Qj p.code.length false,[start],rfl,(by rw[QH];exact hH),rfl,by simp,by simp,by simpa using gi,by omega⟩
  rintro mm fr st ⟨y,z,seen,fq,hfr,hH,hd,hm,iE,hsk,yX⟩;rw[hfr];clear hfr;generalize sk fr=ee;clear fr
  rcases fq with _|⟨v,fq⟩
  ·refine qq<|qq<|qj fun K hK=>qm ?_;refine qn ?_ (hR:=hH.rows av);simp only[δ,QZ,κ];refine qg ?_;refine qe hK<|ς (v:=false) (by dsimp only[Θ,χ,nth,ψ];rfl) (fun h=>by cases h) (fun _=>?_);refine Qw<|qq<|qj fun K hK=>qm ?_;refine qm ?_;refine qe hK ?_;have gb:seen=bF p.code start:=by rw[←hd];cases mm<;>rfl
   rw[←gb];refine ω ⟨rx,_,rfl,rl bt hH ?_⟩;exact hH.freeze bh (kQ _) (n:=15) (by decide)
  ·have hv:=hsk v (Qq ..);obtain⟨k,rfl⟩:=QY hv.1;have hk:k<p.code.length:=by omega
   simp only[μ] at hm
   obtain⟨mm,rfl⟩:∃m',mm=m'+1:=⟨mm-1,by omega⟩
   obtain⟨b,hb⟩:∃b,seen[k]?=some b:=⟨seen[k]'(by omega),ι _⟩
   obtain⟨i,hi⟩:∃i,p.code[k]?=some i:=⟨p.code[k]'(by omega),ι _⟩
   have gB:=wR (k:Int) fq;have mV:=il hb;refine qq<|qq<|qj fun K hK=>qm ?_;refine qn ?_ (hR:=hH.rows av);simp only[δ,μ,κ];refine qg ?_;refine qe hK<|qD rfl (by simp) ?_;refine π<|Γ<|qq<|qj fun K hK=>qm ?_;refine qm ?_;refine qn ?_ (hR:=hH.rows av);simp only[δ,μ,κ];refine Qf (z:=((fq.length:Nat):Int)) rfl (ev rfl) (ev rfl) (by rw[wrap_i64 (by omega) (by omega)]<;>omega) (ae rfl _) ?_;refine qi hH av fun S1 CB=>?_;refine qo hH av ?_;refine qm ?_;refine qe hK<|qq<|qj fun K hK=>qm ?_;refine qm ?_;refine qn ?_ (hR:=hH.rows av);simp only[δ,μ,κ];refine Qf (z:=((fq.length:Nat):Int)) rfl (ev rfl) (ev rfl) (by rw[wrap_i64 (by omega) (by omega)]<;>omega) (ae rfl _) ?_;refine aa.zt hH rfl (ev rfl) (by exact av) rfl rfl (pq (by simp only[δ,κ,μ];omega)) ⟨(by omega),(by simp only[δ,κ,μ];omega)⟩ (fun _=>(ae rfl _)) (fun y41 hH=>?_);refine qm ?_;refine qe hK ?_;dsimp only[u2] at hH;rw[AP] at hH;have gi:∀w∈fq,0≤w∧w<(p.code.length:Int):=fun w hw=>hsk w (QS _ hw);refine qq<|qq<|qj fun K hK=>qm ?_;refine qm ?_;refine qi hH bh fun WI My=>?_;refine qo hH bh ?_;refine qe hK ?_
   cases b with
   |true=>
    refine qB ?_;refine Qw ?_;simp only[wK,Ψ,hb] at hd;exact⟨mm,by omega,⟨_,_,seen,fq,rfl,hH,hd,by omega,iE,gi,by omega⟩⟩
   |false=>
    have wc:=count_set hb;have fO:(seen.set k true).map bf=(seen.map bf).set k [.bool true]:=by rw[Qc];rfl
    simp only[wK,Ψ,hb,hi] at hd;have Yt:=hcl k i hi;have Dg:=rR k i
    have RB:∀w∈(cj k i).reverse++fq,0≤w∧w<(p.code.length:Int):=fun w hw=>by
     rcases Qb.1 hw with hw|hw
     ·exact Yt w (QO.1 hw)
     ·exact gi w hw
    have RK:(((cj k i).reverse++fq).reverse).map aw=fq.reverse.map aw++(cj k i).map aw:=by
     rw[QA,QT,QP]
    have NH:=(sr (cj k i)).arg s0.bs.length S;refine qC ?_;refine π<|qq<|qj fun K hK=>qm ?_;refine qm ?_;refine qi hH bh fun p48 abj=>?_;refine aa.gX hH rfl (ev rfl) (ev rfl) (by assumption) rfl rfl (by exact bh) (by assumption) (η rfl) (by exact .inl hF) (fun st hH=>?_);dsimp only[u2,u1,u3,u4,setMany,u5,u6,Δ,γ,Pg.cs,aC,aw,bf] at hH;refine qe hK<|qj fun K hK=>qm ?_;refine Qd (m:=2) hH rfl (ev rfl) (by exact dF) (by dsimp only[Qv,Qy,Qk,QU,Pg.cs,aC,aw,bf]<;>rfl) rfl rfl (ae rfl _) ?_;refine qm ?_;refine qv (L0 hp hi) ?_;refine Qe (s:=1) hH rfl (ev rfl) (ev rfl) (by exact av) (by exact Arg.rows (by assumption) hH) rfl rfl rfl rfl rfl rfl rfl ⟨(η rfl),(η rfl)⟩ (fun _=>(ae rfl _)) (by simp only[δ,κ]<;>omega) (by exact .inl hF) (fun x53 st hH=>?_);dsimp only[u2,u1,u3,u4,setMany,u5,u6,Δ,γ,Pg.cs,aC,aw,bf] at hH;refine qm ?_;refine qe hK ?_;exact⟨mm,by omega,⟨y,_,seen.set k true,(cj k i).reverse++fq,rfl,(by rw[RK,fO];exact hH),hd,by simp only[QE,κ];omega,by simp only[Qa];exact iE,RB,by omega⟩⟩
def az (fr:Go.V.Fr) (k:Nat):Go.V.D:=Go.V.nth .bD fr.loc k
noncomputable def dec (q:Prop):Bool:=@decide q (QW q)
theorem cD (h:q):dec q=true:=@decide_eq_true q (QW q) h
theorem cQ (h:¬q):dec q=false:=@decide_eq_false q (QW q) h
def lF (p:Pg) (r:Nat) (s:Int) (n:Nat):Prop:=∀pc i,pc<n→(bF p.code s)[pc]?=some true→p.code[pc]?=some i→i.op=7→i.x=(r:Int)
structure bE (p:Pg):Prop where
 cl:p.code.length≤400
 sl:p.ak.length≤8
 sh:∀pc i,p.code[pc]?=some i→cC p.code.length p.ak.length pc i=true
 st:∀v∈p.ak,0≤v∧v<(p.code.length:Int)
 fo:∀r s,p.ak[r]?=some s→lF p r s p.code.length
theorem mq (h:∀pc i,p.code[pc]?=some i→cC p.code.length p.ak.length pc i=true):iM p.code:=
 fun pc i hi=>wW (h pc i hi)
theorem bE.closed (h:bE p):iM p.code:=mq h.sh
theorem dS {a b:Int}:jQ a b=true↔0≤a∧a<b:=by
 unfold jQ;simp only[φ,decide_eq_true_eq,ge_iff_le]
theorem mH (hp:p.ok):Ev pv 58 [p.d] s0 (.bool (dec (bE p))) s0:=by
 refine Ev.h_ rfl ZU rfl rfl rfl ?_;dsimp only[u3,u4,θ,ε,γ,w1,w2];obtain⟨bt,hF,hH⟩:=ri s0;generalize ah .ro s0=S at*;have hc:=hp.c.arg s0.bs.length S;have hs:=hp.s.arg s0.bs.length S;have tA:=hp.c;have hlen:=hp.cl;have Mm:=hp.sl;unfold Pg.d;refine qq<|qj fun K hK=>qb hH fun k1 st qY hH=>?_;dsimp only[u2,u1,u3,u4,setMany,u5,u6,Δ,γ,Pg.cs,aC,aw,bf] at hH;refine qm ?_;refine qe hK<|qq<|qq<|ab.lV 17 (.bool (decide ((p.code.length:Int)>400)||decide ((p.ak.length:Int)>8))) [8,9,10,11,12,13,14,15,16] ?_ (fun ff tmp=>?_)
 ·refine qp (o:=0) ?_;refine ql hH av ?_;refine qn ?_;simp only[δ];refine qg ?_;refine qm ?_;refine QX 12 rfl (fun cx=>?_) (fun cx=>?_)
  ·refine qs ?_ (hg:=wn cx);refine qs ?_ (hg:=wn cx);refine qs ?_ (hg:=wn cx);refine qs ?_ (hg:=wn cx);refine qt cx ?_;refine υ (bp ?_);dsimp only[aB,ζ,nth,u2,u1];dsimp only[Ξ,ρ,ο,Θ,χ,nth,ψ,u1,u2,v1,v2,v3,v4,v5,v6,v7,θ,u3,u4,ε,γ,ξ]
   all_goals(simp[cx];done)
  ·refine qp (o:=1) ?_ (hg:=wi cx);refine ql hH av ?_ (hg:=wi cx);refine qn ?_ (hg:=wi cx);simp only[δ];refine qg ?_ (hg:=wi cx);refine qu cx ?_;refine υ (bp ?_);dsimp only[aB,ζ,nth,u2,u1];dsimp only[Ξ,ρ,ο,Θ,χ,nth,ψ,u1,u2,v1,v2,v3,v4,v5,v6,v7,θ,u3,u4,ε,γ,ξ]
   all_goals(simp[cx];done)
 dsimp only[aB,ζ,nth,u2,u1];generalize ff 8=e8;generalize ff 9=e9;generalize ff 10=e10;generalize ff 11=e11;generalize ff 12=e12;generalize ff 13=e13;generalize ff 14=e14;generalize ff 15=e15;generalize ff 16=e16;refine qc (fun h0=>?_) (fun h0=>?_)<;>try simp only[cs] at h0
 ·rw[cQ (fun h=>by have:=h.cl;have:=h.sl;simp at h0;omega)];refine qq<|qj fun K hK=>qm ?_;refine qe hK<|ω ⟨rx,_,rfl,rl bt hH (rfl)⟩
 ·have h0:p.code.length≤400∧p.ak.length≤8:=by simp at h0;omega
  refine π<|qq<|qq<|qj fun K hK=>qp (o:=0) ?_;refine ql hH av ?_;refine qn ?_;simp only[δ];refine qm ?_;refine qe hK<|Γ<|QK (fun mm fr st=>∃(i:Nat),fr.clean=⟨49,[az fr 0,.ptr k1 0 0,.bool false,az fr 3,az fr 4,az fr 5,az fr 6,az fr 7,az fr 8,az fr 9,az fr 10,az fr 11,az fr 12,az fr 13,az fr 14,az fr 15,az fr 16,az fr 17,az fr 18,az fr 19,.int .i64 (p.code.length:Nat),.int .i64 (i:Nat),az fr 22,az fr 23,az fr 24,az fr 25,az fr 26,az fr 27,az fr 28,az fr 29,az fr 30,az fr 31,az fr 32,az fr 33,az fr 34,az fr 35,az fr 36,az fr 37,az fr 38,az fr 39,az fr 40,az fr 41,az fr 42,az fr 43,az fr 44,az fr 45,az fr 46,az fr 47,az fr 48],[]⟩∧Has s0.bs.length S st [.box k1 (.mem 0 false [p.cd,p.sd])]∧(i+mm=p.code.length)∧(∀pc q,pc<i→p.code[pc]?=some q→cC p.code.length p.ak.length pc q=true)) (p.code.length) ?_ ?_
  ·exact⟨0,rfl,hH,by omega,by intro pc q h;omega⟩
  rintro mm fr st ⟨i,hfr,hH,hi,hsh⟩;rw[hfr];clear hfr;generalize az fr=ee;clear fr;refine qq<|qj fun K hK=>qg ?_;refine qe hK<|qq ?_;refine ς (by rfl) (fun h1=>?_) (fun h1=>?_)<;>try simp only[decide_eq_true_eq,decide_eq_false_iff_not] at h1
  ·refine π ?_
   obtain⟨q,hq⟩:∃q,p.code[i]?=some q:=⟨p.code[i]'(by omega),ι _⟩
   refine qq<|Γ<|qq<|qj fun K hK=>qm ?_;refine qm ?_;refine qe hK<|qq<|qj fun K hK=>?_;refine Qd (m:=2) hH rfl (ev rfl) (by exact av) (by dsimp only[Qv,Qy,Qk,QU,Pg.cs,aC,aw,bf]<;>rfl) rfl rfl (by dsimp only[ρ,u1,u2]<;>rfl) ?_;refine qm ?_;refine qv (BW (p:=p) hp hq) ?_;refine qg ?_;refine qe hK ?_;refine ς (by rfl) (fun h2=>?_) (fun h2=>?_)<;>try simp only[Qz,QJ] at h2
   ·rw[cQ (fun h=>by have:=h.sh i q hq;rw[this] at h2;cases h2)];refine qq<|qj fun K hK=>qm ?_;refine qe hK<|ω ⟨rx,_,rfl,rl bt hH (rfl)⟩
   ·refine π<|qj fun K hK=>qA ?_;refine qm ?_;refine qe hK ?_;refine⟨mm-1,by omega,⟨i+1,rfl,hH,by omega,?_⟩⟩;intro pc q' yW nS
    by_cases he:pc=i
    ·subst he;rw[hq] at nS;cases nS;simpa using h2
    ·exact hsh pc q' (by omega) nS
  ·refine Qw ?_;have hsh:∀pc q,p.code[pc]?=some q→cC p.code.length p.ak.length pc q=true:=fun pc q hq=>hsh pc q (by have:=bC hq;omega) hq;have hcl:=mq hsh;refine qq<|qq<|qj fun K hK=>qp (o:=1) ?_;refine ql hH av ?_;refine qn ?_;simp only[δ];refine qm ?_;refine qe hK<|Γ<|QK (fun mm fr st=>∃(r:Nat),fr.clean=⟨49,[az fr 0,.ptr k1 0 0,.bool false,az fr 3,az fr 4,az fr 5,az fr 6,az fr 7,az fr 8,az fr 9,az fr 10,az fr 11,az fr 12,az fr 13,az fr 14,az fr 15,az fr 16,az fr 17,az fr 18,az fr 19,az fr 20,az fr 21,az fr 22,az fr 23,az fr 24,az fr 25,az fr 26,az fr 27,az fr 28,az fr 29,p.sd,.int .i64 (p.ak.length:Nat),.int .i64 (r:Nat),az fr 33,az fr 34,az fr 35,az fr 36,az fr 37,az fr 38,az fr 39,az fr 40,az fr 41,az fr 42,az fr 43,az fr 44,az fr 45,az fr 46,az fr 47,az fr 48],[]⟩∧Has s0.bs.length S st [.box k1 (.mem 0 false [p.cd,p.sd])]∧(r+mm=p.ak.length)∧(∀r' s,r'<r→p.ak[r']?=some s→(0≤s∧s<(p.code.length:Int))∧lF p r' s p.code.length)) (p.ak.length) ?_ ?_
   ·exact⟨0,rfl,hH,by omega,by intro pc q h;omega⟩
   rintro mm fr st ⟨r,hfr,hH,hi,bA⟩;rw[hfr];clear hfr;generalize az fr=ee;clear fr;refine qq<|qj fun K hK=>qg ?_;refine qe hK<|qq ?_;refine ς (by rfl) (fun h3=>?_) (fun h3=>?_)<;>try simp only[decide_eq_true_eq,decide_eq_false_iff_not] at h3
   ·refine π ?_
    obtain⟨s,j9⟩:∃s,p.ak[r]?=some s:=⟨p.ak[r]'(by omega),ι _⟩
    have S_:=eA j9;refine qq<|Γ<|qq<|qj fun K hK=>qm ?_;refine qr fun S1 CB=>?_;refine qR ?_;refine qm ?_;refine qm ?_;refine qe hK<|qq<|qq<|qj fun K hK=>qm ?_;refine qp (o:=0) ?_;refine ql hH av ?_;refine qn ?_;simp only[δ];refine qv (iQ _ _) ?_;refine qg ?_;refine qe hK ?_;refine ς (by rfl) (fun h4=>?_) (fun h4=>?_)<;>try simp only[Qz,QJ] at h4
    ·rw[cQ (fun h=>by have:=dS.2 (h.st s (QQ j9));rw[this] at h4;cases h4)];refine qq<|qj fun K hK=>qm ?_;refine qe hK<|ω ⟨rx,_,rfl,rl bt hH (rfl)⟩
    ·have Mn:=dS.1 (show jQ s p.code.length=true by simpa using h4);refine π ?_;have ni:=kA p.code s;have S9:=(mr (bF p.code s)).arg s0.bs.length S;refine qq<|qj fun K hK=>qp (o:=0) ?_;refine ql hH av ?_;refine qm ?_;refine qv (BB tA hlen hcl Mn) ?_;refine qn ?_;simp only[δ];refine qm ?_;refine qe hK<|Γ<|QK (fun mm fr st=>∃(i:Nat),fr.clean=⟨49,[az fr 0,.ptr k1 0 0,.bool false,az fr 3,.int .i64 (r:Nat),az fr 5,az fr 6,az fr 7,az fr 8,az fr 9,az fr 10,az fr 11,az fr 12,az fr 13,az fr 14,az fr 15,az fr 16,az fr 17,az fr 18,az fr 19,az fr 20,az fr 21,az fr 22,az fr 23,az fr 24,az fr 25,az fr 26,az fr 27,az fr 28,az fr 29,p.sd,.int .i64 (p.ak.length:Nat),.int .i64 (r:Nat),az fr 33,az fr 34,az fr 35,az fr 36,az fr 37,az fr 38,az fr 39,az fr 40,az fr 41,az fr 42,az fr 43,az fr 44,az fr 45,nb (bF p.code s),.int .i64 ((bF p.code s).length:Nat),.int .i64 (i:Nat)],[]⟩∧Has s0.bs.length S st [.box k1 (.mem 0 false [p.cd,p.sd])]∧(i+mm=p.code.length)∧(lF p r s i)) (p.code.length) ?_ ?_
     ·exact⟨0,rfl,hH,by omega,by intro pc q h;omega⟩
     rintro mm fr st ⟨i,hfr,hH,hj,hom⟩;rw[hfr];clear hfr;generalize az fr=ee;clear fr;refine qq<|qj fun K hK=>qg ?_;refine qe hK<|qq ?_;refine ς (by rfl) (fun h5=>?_) (fun h5=>?_)<;>try simp only[decide_eq_true_eq,decide_eq_false_iff_not] at h5
     ·refine π ?_
      obtain⟨b,hb⟩:∃b,(bF p.code s)[i]?=some b:=⟨(bF p.code s)[i]'(by omega),ι _⟩
      obtain⟨q,hq⟩:∃q,p.code[i]?=some q:=⟨p.code[i]'(by omega),ι _⟩
      have gB:=il hb;have mV:=eB hq;refine qq<|Γ<|qq<|qj fun K hK=>qm ?_;refine qr fun p51 UD=>?_;refine qR ?_;refine qm ?_;refine qm ?_;refine qe hK<|qq<|QL 72 (.bool ((b &&(q.op==7)) &&(q.x !=(r:Int)))) [] ?_ (fun ff tmp cY=>?_)
      ·refine qm ?_;refine qm ?_;refine QX 54 rfl (fun cW=>?_) (fun cW=>?_)
       ·refine qp (o:=0) ?_ (hg:=wi cW);refine ql hH av ?_ (hg:=wi cW);refine qm ?_ (hg:=wi cW);refine qr (fun p58 abf=>?_) (hg:=wi cW);refine qf (fo:=0) (fun p59 abe=>?_) (hg:=wi cW);refine qR ?_ (hg:=wi cW);refine qg ?_ (hg:=wi cW);refine qt cW ?_;refine qm ?_;refine QX 63 rfl (fun aX=>?_) (fun aX=>?_)
        ·refine qp (o:=0) ?_ (hg:=wi aX);refine ql hH av ?_ (hg:=wi aX);refine qm ?_ (hg:=wi aX);refine qr (fun p67 aa9=>?_) (hg:=wi aX);refine qf (fo:=1) (fun p68 aa8=>?_) (hg:=wi aX);refine qR ?_ (hg:=wi aX);refine qm ?_ (hg:=wi aX);refine qg ?_ (hg:=wi aX);refine qt aX ?_;refine υ (aY ?_ ?_)
         ·dsimp only[aB,ζ,nth,u2,u1]
          all_goals(first|rfl|simp)
         ·dsimp only[Ξ,ρ,ο,Θ,χ,nth,ψ,u1,u2,v1,v2,v3,v4,v5,v6,v7,θ,u3,u4,ε,γ,ξ]
          all_goals(simp[cW,aX];done)
        ·refine qs ?_ (hg:=wn aX);refine qs ?_ (hg:=wn aX);refine qs ?_ (hg:=wn aX);refine qs ?_ (hg:=wn aX);refine qs ?_ (hg:=wn aX);refine qs ?_ (hg:=wn aX);refine qs ?_ (hg:=wn aX);refine qs ?_ (hg:=wn aX);refine qu aX ?_;refine υ (aY ?_ ?_)
         ·dsimp only[aB,ζ,nth,u2,u1]
          all_goals(first|rfl|simp)
         ·dsimp only[Ξ,ρ,ο,Θ,χ,nth,ψ,u1,u2,v1,v2,v3,v4,v5,v6,v7,θ,u3,u4,ε,γ,ξ]
          all_goals(simp[cW,aX];done)
       ·refine qs ?_ (hg:=wn cW);refine qs ?_ (hg:=wn cW);refine qs ?_ (hg:=wn cW);refine qs ?_ (hg:=wn cW);refine qs ?_ (hg:=wn cW);refine qs ?_ (hg:=wn cW);refine qs ?_ (hg:=wn cW);refine qu cW ?_;refine qm ?_;refine qs ?_;refine qs ?_;refine qs ?_;refine qs ?_;refine qs ?_;refine qs ?_;refine qs ?_;refine qs ?_;refine qg ?_;refine υ (aY ?_ ?_)
        ·dsimp only[aB,ζ,nth,u2,u1]
         all_goals(first|rfl|simp)
        ·dsimp only[Ξ,ρ,ο,Θ,χ,nth,ψ,u1,u2,v1,v2,v3,v4,v5,v6,v7,θ,u3,u4,ε,γ,ξ]
         all_goals(simp[cW];done)
      dsimp only[aB,ζ,nth,u2,u1];dsimp only[Ξ,ρ,ο,Θ,χ,nth,ψ,u1,u2,v1,v2,v3,v4,v5,v6,v7,θ,u3,u4,ε,γ,ξ];refine qc (fun h6=>?_) (fun h6=>?_)<;>try simp only[cs] at h6
      ·rw[cQ (fun h=>by
        have h7:=h.fo r s j9 i q (by omega);simp only[φ,beq_iff_eq,bne_iff_ne,ne_eq] at h6;obtain⟨⟨rfl,h8⟩,h9⟩:=h6
        exact h9 (h7 hb hq h8))]
       refine qq<|qj fun K hK=>qm ?_;refine qe hK<|ω ⟨rx,_,rfl,rl bt hH (rfl)⟩
      ·refine π<|qj fun K hK=>qA ?_;refine qm ?_;refine qe hK ?_;refine⟨mm-1,by omega,⟨i+1,rfl,hH,by omega,?_⟩⟩;intro pc q' yW yV nS gv
       by_cases he:pc=i
       ·subst he;rw[hq] at nS;cases nS;rw[hb] at yV;cases yV;simp[gv] at h6;exact h6
       ·exact hom pc q' (by omega) yV nS gv
     ·refine Qw<|qj fun K hK=>qA ?_;refine qm ?_;refine qe hK ?_;refine⟨p.ak.length-(r+1),by omega,⟨r+1,rfl,hH,by omega,?_⟩⟩;intro r' s' Bn mh
      by_cases he:r'=r
      ·subst he;rw[j9] at mh;cases mh;exact⟨Mn,fun pc q yW=>hom pc q (by omega)⟩
      ·exact bA r' s' (by omega) mh
   ·refine Qw ?_
    rw[cD ⟨h0.1,h0.2,hsh,fun v hv=>by
     obtain⟨r',Bn⟩:=QR hv
     exact(bA r' v (by have:=bC Bn;omega) Bn).1,fun r' s' mh=>(bA r' s' (by have:=bC mh;omega) mh).2⟩]
    refine qq<|qj fun K hK=>qm ?_;refine qe hK<|ω ⟨rx,_,rfl,rl bt hH (rfl)⟩
def dD (fr:Go.V.Fr) (k:Nat):Go.V.D:=Go.V.nth .bD fr.loc k
theorem vp (hp:p.ok):Ev pv 65 [p.d] s0 (.bool (dec (bE p))) s0:=by
 refine Ev.h_ rfl ZO rfl rfl rfl ?_;dsimp only[u3,u4,θ,ε,γ,w1,w2];obtain⟨bt,hF,hH⟩:=ri s0;generalize ah .ro s0=S at*;have hc:=hp.c.arg s0.bs.length S;have hs:=hp.s.arg s0.bs.length S;have tA:=hp.c;have hlen:=hp.cl;have Mm:=hp.sl;unfold Pg.d;refine qq<|qj fun K hK=>qb hH fun k1 st qY hH=>?_;dsimp only[u2,u1,u3,u4,setMany,u5,u6,Δ,γ,Pg.cs,aC,aw,bf] at hH;refine qm ?_;refine qe hK<|qq<|qq<|QL 17 (.bool (decide ((p.code.length:Int)>400)||decide ((p.ak.length:Int)>8))) [] ?_ (fun ff tmp cY=>?_)
 ·refine qp (o:=0) ?_;refine ql hH av ?_;refine qn ?_;simp only[δ];refine qg ?_;refine qm ?_;refine QX 12 rfl (fun cx=>?_) (fun cx=>?_)
  ·refine qs ?_ (hg:=wn cx);refine qs ?_ (hg:=wn cx);refine qs ?_ (hg:=wn cx);refine qs ?_ (hg:=wn cx);refine qt cx ?_;refine υ (aY ?_ ?_)
   ·dsimp only[aB,ζ,nth,u2,u1]
    all_goals(first|rfl|simp)
   ·dsimp only[Ξ,ρ,ο,Θ,χ,nth,ψ,u1,u2,v1,v2,v3,v4,v5,v6,v7,θ,u3,u4,ε,γ,ξ]
    all_goals(simp[cx];done)
  ·refine qp (o:=1) ?_ (hg:=wi cx);refine ql hH av ?_ (hg:=wi cx);refine qn ?_ (hg:=wi cx);simp only[δ];refine qg ?_ (hg:=wi cx);refine qu cx ?_;refine υ (aY ?_ ?_)
   ·dsimp only[aB,ζ,nth,u2,u1]
    all_goals(first|rfl|simp)
   ·dsimp only[Ξ,ρ,ο,Θ,χ,nth,ψ,u1,u2,v1,v2,v3,v4,v5,v6,v7,θ,u3,u4,ε,γ,ξ]
    all_goals(simp[cx];done)
 dsimp only[aB,ζ,nth,u2,u1];refine qc (fun h0=>?_) (fun h0=>?_)<;>try simp only[cs] at h0
 ·rw[cQ (fun h=>by have:=h.cl;have:=h.sl;simp at h0;omega)];refine qq<|qj fun K hK=>qm ?_;refine qe hK<|ω ⟨rx,_,rfl,rl bt hH (rfl)⟩
 ·have h0:p.code.length≤400∧p.ak.length≤8:=by simp at h0;omega
  refine π<|qq<|qq<|qj fun K hK=>qm ?_;refine qe hK<|Γ<|QK (fun mm fr st=>∃(i:Nat),fr.clean=⟨8,[dD fr 0,.ptr k1 0 0,.bool false,.int .i64 (i:Nat),dD fr 4,dD fr 5,dD fr 6,dD fr 7],[]⟩∧Has s0.bs.length S st [.box k1 (.mem 0 false [p.cd,p.sd])]∧(i+mm=p.code.length)∧(∀pc q,pc<i→p.code[pc]?=some q→cC p.code.length p.ak.length pc q=true)) (p.code.length) ?_ ?_
  ·exact⟨0,rfl,hH,by omega,by intro pc q h;omega⟩
  rintro mm fr st ⟨i,hfr,hH,hi,hsh⟩;rw[hfr];clear hfr;generalize dD fr=ee;clear fr;refine qq<|qq<|qj fun K hK=>qm ?_;refine qp (o:=0) ?_;refine ql hH av ?_;refine qn ?_;simp only[δ];refine qg ?_;refine qe hK ?_;refine ς (by rfl) (fun h1=>?_) (fun h1=>?_)<;>try simp only[decide_eq_true_eq,decide_eq_false_iff_not] at h1
  ·refine π ?_
   obtain⟨q,hq⟩:∃q,p.code[i]?=some q:=⟨p.code[i]'(by omega),ι _⟩
   refine qq<|Γ<|qq<|qj fun K hK=>?_;refine Qd (m:=2) hH rfl (ev rfl) (by exact av) (by dsimp only[Qv,Qy,Qk,QU,Pg.cs,aC,aw,bf]<;>rfl) rfl rfl (ae rfl _) ?_;refine qm ?_;refine qv (Rn (p:=p) hp hq) ?_;refine qg ?_;refine qe hK ?_;refine ς (by rfl) (fun h2=>?_) (fun h2=>?_)<;>try simp only[Qz,QJ] at h2
   ·rw[cQ (fun h=>by have:=h.sh i q hq;rw[this] at h2;cases h2)];refine qq<|qj fun K hK=>qm ?_;refine qe hK<|ω ⟨rx,_,rfl,rl bt hH (rfl)⟩
   ·refine π<|qj fun K hK=>qm ?_;refine qA ?_;refine qm ?_;refine qe hK ?_;refine⟨mm-1,by omega,⟨i+1,rfl,hH,by omega,?_⟩⟩;intro pc q' yW nS
    by_cases he:pc=i
    ·subst he;rw[hq] at nS;cases nS;simpa using h2
    ·exact hsh pc q' (by omega) nS
  ·refine Qw ?_;have hsh:∀pc q,p.code[pc]?=some q→cC p.code.length p.ak.length pc q=true:=fun pc q hq=>hsh pc q (by have:=bC hq;omega) hq;have hcl:=mq hsh;refine qq<|qq<|qj fun K hK=>qm ?_;refine qe hK<|Γ<|QK (fun mm fr st=>∃(r:Nat),fr.clean=⟨8,[dD fr 0,.ptr k1 0 0,.bool false,dD fr 3,.int .i64 (r:Nat),dD fr 5,dD fr 6,dD fr 7],[]⟩∧Has s0.bs.length S st [.box k1 (.mem 0 false [p.cd,p.sd])]∧(r+mm=p.ak.length)∧(∀r' s,r'<r→p.ak[r']?=some s→0≤s∧s<(p.code.length:Int))) (p.ak.length) ?_ ?_
   ·exact⟨0,rfl,hH,by omega,by intro pc q h;omega⟩
   rintro mm fr st ⟨r,hfr,hH,hi,bA⟩;rw[hfr];clear hfr;generalize dD fr=ee;clear fr;refine qq<|qq<|qj fun K hK=>qm ?_;refine qp (o:=1) ?_;refine ql hH av ?_;refine qn ?_;simp only[δ];refine qg ?_;refine qe hK ?_;refine ς (by rfl) (fun h3=>?_) (fun h3=>?_)<;>try simp only[decide_eq_true_eq,decide_eq_false_iff_not] at h3
   ·refine π ?_
    obtain⟨s,j9⟩:∃s,p.ak[r]?=some s:=⟨p.ak[r]'(by omega),ι _⟩
    have S_:=eA j9;refine qq<|Γ<|qq<|QL 52 (.bool (decide (s<0)||decide (s≥p.code.length))) [] ?_ (fun ff tmp cY=>?_)
    ·refine qp (o:=1) ?_;refine ql hH av ?_;refine qm ?_;refine qr fun Xu RR=>?_;refine qR ?_;refine qg ?_;refine qm ?_;refine QX 42 rfl (fun cM=>?_) (fun cM=>?_)
     ·refine qs ?_ (hg:=wn cM);refine qs ?_ (hg:=wn cM);refine qs ?_ (hg:=wn cM);refine qs ?_ (hg:=wn cM);refine qs ?_ (hg:=wn cM);refine qs ?_ (hg:=wn cM);refine qs ?_ (hg:=wn cM);refine qs ?_ (hg:=wn cM);refine qs ?_ (hg:=wn cM);refine qt cM ?_;refine υ (aY ?_ ?_)
      ·dsimp only[aB,ζ,nth,u2,u1]
       all_goals(first|rfl|simp)
      ·dsimp only[Ξ,ρ,ο,Θ,χ,nth,ψ,u1,u2,v1,v2,v3,v4,v5,v6,v7,θ,u3,u4,ε,γ,ξ]
       all_goals(simp[cM];done)
     ·refine qp (o:=1) ?_ (hg:=wi cM);refine ql hH av ?_ (hg:=wi cM);refine qm ?_ (hg:=wi cM);refine qr (fun p46 abk=>?_) (hg:=wi cM);refine qR ?_ (hg:=wi cM);refine qp (o:=0) ?_ (hg:=wi cM);refine ql hH av ?_ (hg:=wi cM);refine qn ?_ (hg:=wi cM);simp only[δ];refine qg ?_ (hg:=wi cM);refine qu cM ?_;refine υ (aY ?_ ?_)
      ·dsimp only[aB,ζ,nth,u2,u1]
       all_goals(first|rfl|simp)
      ·dsimp only[Ξ,ρ,ο,Θ,χ,nth,ψ,u1,u2,v1,v2,v3,v4,v5,v6,v7,θ,u3,u4,ε,γ,ξ]
       all_goals(simp[cM];done)
    dsimp only[aB,ζ,nth,u2,u1];dsimp only[Ξ,ρ,ο,Θ,χ,nth,ψ,u1,u2,v1,v2,v3,v4,v5,v6,v7,θ,u3,u4,ε,γ,ξ];refine qc (fun h4=>?_) (fun h4=>?_)<;>try simp only[cs] at h4
    ·rw[cQ (fun h=>by have:=h.st s (QQ j9);simp at h4;omega)];refine qq<|qj fun K hK=>qm ?_;refine qe hK<|ω ⟨rx,_,rfl,rl bt hH (rfl)⟩
    ·have Mn:0≤s∧s<(p.code.length:Int):=by simp at h4;omega
     refine π<|qj fun K hK=>qm ?_;refine qA ?_;refine qm ?_;refine qe hK ?_;refine⟨mm-1,by omega,⟨r+1,rfl,hH,by omega,?_⟩⟩;intro r' s' Bn mh
     by_cases he:r'=r
     ·subst he;rw[j9] at mh;cases mh;exact Mn
     ·exact bA r' s' (by omega) mh
   ·refine Qw ?_
    have bA:∀v∈p.ak,0≤v∧v<(p.code.length:Int):=fun v hv=>by
     obtain⟨r',Bn⟩:=QR hv;exact bA r' v (by have:=bC Bn;omega) Bn
    refine qq<|qq<|qj fun K hK=>qm ?_;refine qe hK<|Γ<|QK (fun mm fr st=>∃(r:Nat),fr.clean=⟨8,[dD fr 0,.ptr k1 0 0,.bool false,dD fr 3,dD fr 4,.int .i64 (r:Nat),dD fr 6,dD fr 7],[]⟩∧Has s0.bs.length S st [.box k1 (.mem 0 false [p.cd,p.sd])]∧(r+mm=p.ak.length)∧(∀r' s,r'<r→p.ak[r']?=some s→lF p r' s p.code.length)) (p.ak.length) ?_ ?_
    ·exact⟨0,rfl,hH,by omega,by intro pc q h;omega⟩
    rintro mm fr st ⟨r,hfr,hH,hi,hfo⟩;rw[hfr];clear hfr;generalize dD fr=ee;clear fr;refine qq<|qq<|qj fun K hK=>qm ?_;refine qp (o:=1) ?_;refine ql hH av ?_;refine qn ?_;simp only[δ];refine qg ?_;refine qe hK ?_;refine ς (by rfl) (fun h5=>?_) (fun h5=>?_)<;>try simp only[decide_eq_true_eq,decide_eq_false_iff_not] at h5
    ·refine π ?_
     obtain⟨s,j9⟩:∃s,p.ak[r]?=some s:=⟨p.ak[r]'(by omega),ι _⟩
     have hR:kB p (r:Nat)=bF p.code s:=by
      unfold kB;rw[if_pos (dS.2 ⟨by omega,by omega⟩),Ψ,QM,j9];rfl
     have ni:=kA p.code s;have S9:=(mr (bF p.code s)).arg s0.bs.length S;refine qq<|Γ<|qq<|qj fun K hK=>?_;refine Qd (m:=2) hH rfl (ev rfl) (by exact av) (by dsimp only[Qv,Qy,Qk,QU,Pg.cs,aC,aw,bf]<;>rfl) rfl rfl (ae rfl _) ?_;refine qm ?_;refine qv ((hR▸pG (p:=p) (ky:=(r:Nat)) hp hcl bA)) ?_;refine qm ?_;refine qe hK<|qq<|qj fun K hK=>qm ?_;refine qe hK<|Γ<|QK (fun mm fr st=>∃(i:Nat),fr.clean=⟨8,[dD fr 0,.ptr k1 0 0,.bool false,dD fr 3,dD fr 4,.int .i64 (r:Nat),nb (bF p.code s),.int .i64 (i:Nat)],[]⟩∧Has s0.bs.length S st [.box k1 (.mem 0 false [p.cd,p.sd])]∧(i+mm=p.code.length)∧(lF p r s i)) (p.code.length) ?_ ?_
     ·exact⟨0,rfl,hH,by omega,by intro pc q h;omega⟩
     rintro mm fr st ⟨i,hfr,hH,hj,hom⟩;rw[hfr];clear hfr;generalize dD fr=ee;clear fr;refine qq<|qq<|qj fun K hK=>qm ?_;refine qp (o:=0) ?_;refine ql hH av ?_;refine qn ?_;simp only[δ];refine qg ?_;refine qe hK ?_;refine ς (by rfl) (fun h7=>?_) (fun h7=>?_)<;>try simp only[decide_eq_true_eq,decide_eq_false_iff_not] at h7
     ·refine π ?_
      obtain⟨b,hb⟩:∃b,(bF p.code s)[i]?=some b:=⟨(bF p.code s)[i]'(by omega),ι _⟩
      obtain⟨q,hq⟩:∃q,p.code[i]?=some q:=⟨p.code[i]'(by omega),ι _⟩
      have gB:=il hb;have mV:=eB hq;refine qq<|Γ<|qq<|QL 92 (.bool ((b &&(q.op==7)) &&(q.x !=(r:Int)))) [] ?_ (fun ff tmp cY=>?_)
      ·refine qm ?_;refine qm ?_;refine qr fun p72 Yi=>?_;refine qR ?_;refine qm ?_;refine QX 74 rfl (fun cx=>?_) (fun cx=>?_)
       ·refine qp (o:=0) ?_ (hg:=wi cx);refine ql hH av ?_ (hg:=wi cx);refine qm ?_ (hg:=wi cx);refine qr (fun p78 aa4=>?_) (hg:=wi cx);refine qf (fo:=0) (fun WH Mx=>?_) (hg:=wi cx);refine qR ?_ (hg:=wi cx);refine qg ?_ (hg:=wi cx);refine qt cx ?_;refine qm ?_;refine QX 83 rfl (fun bu=>?_) (fun bu=>?_)
        ·refine qp (o:=0) ?_ (hg:=wi bu);refine ql hH av ?_ (hg:=wi bu);refine qm ?_ (hg:=wi bu);refine qr (fun p87 Ye=>?_) (hg:=wi bu);refine qf (fo:=1) (fun p88 aa1=>?_) (hg:=wi bu);refine qR ?_ (hg:=wi bu);refine qm ?_ (hg:=wi bu);refine qg ?_ (hg:=wi bu);refine qt bu ?_;refine υ (aY ?_ ?_)
         ·dsimp only[aB,ζ,nth,u2,u1]
          all_goals(first|rfl|simp)
         ·dsimp only[Ξ,ρ,ο,Θ,χ,nth,ψ,u1,u2,v1,v2,v3,v4,v5,v6,v7,θ,u3,u4,ε,γ,ξ]
          all_goals(simp[cx,bu];done)
        ·refine qs ?_ (hg:=wn bu);refine qs ?_ (hg:=wn bu);refine qs ?_ (hg:=wn bu);refine qs ?_ (hg:=wn bu);refine qs ?_ (hg:=wn bu);refine qs ?_ (hg:=wn bu);refine qs ?_ (hg:=wn bu);refine qs ?_ (hg:=wn bu);refine qu bu ?_;refine υ (aY ?_ ?_)
         ·dsimp only[aB,ζ,nth,u2,u1]
          all_goals(first|rfl|simp)
         ·dsimp only[Ξ,ρ,ο,Θ,χ,nth,ψ,u1,u2,v1,v2,v3,v4,v5,v6,v7,θ,u3,u4,ε,γ,ξ]
          all_goals(simp[cx,bu];done)
       ·refine qs ?_ (hg:=wn cx);refine qs ?_ (hg:=wn cx);refine qs ?_ (hg:=wn cx);refine qs ?_ (hg:=wn cx);refine qs ?_ (hg:=wn cx);refine qs ?_ (hg:=wn cx);refine qs ?_ (hg:=wn cx);refine qu cx ?_;refine qm ?_;refine qs ?_;refine qs ?_;refine qs ?_;refine qs ?_;refine qs ?_;refine qs ?_;refine qs ?_;refine qs ?_;refine qg ?_;refine υ (aY ?_ ?_)
        ·dsimp only[aB,ζ,nth,u2,u1]
         all_goals(first|rfl|simp)
        ·dsimp only[Ξ,ρ,ο,Θ,χ,nth,ψ,u1,u2,v1,v2,v3,v4,v5,v6,v7,θ,u3,u4,ε,γ,ξ]
         all_goals(simp[cx];done)
      dsimp only[aB,ζ,nth,u2,u1];dsimp only[Ξ,ρ,ο,Θ,χ,nth,ψ,u1,u2,v1,v2,v3,v4,v5,v6,v7,θ,u3,u4,ε,γ,ξ];refine qc (fun h6=>?_) (fun h6=>?_)<;>try simp only[cs] at h6
      ·rw[cQ (fun h=>by
        have h7:=h.fo r s j9 i q (by omega);simp only[φ,beq_iff_eq,bne_iff_ne,ne_eq] at h6;obtain⟨⟨rfl,h8⟩,h9⟩:=h6
        exact h9 (h7 hb hq h8))]
       refine qq<|qj fun K hK=>qm ?_;refine qe hK<|ω ⟨rx,_,rfl,rl bt hH (rfl)⟩
      ·refine π<|qj fun K hK=>qm ?_;refine qA ?_;refine qm ?_;refine qe hK ?_;refine⟨mm-1,by omega,⟨i+1,rfl,hH,by omega,?_⟩⟩;intro pc q' yW yV nS gv
       by_cases he:pc=i
       ·subst he;rw[hq] at nS;cases nS;rw[hb] at yV;cases yV;simp[gv] at h6;exact h6
       ·exact hom pc q' (by omega) yV nS gv
     ·refine Qw<|qj fun K hK=>qm ?_;refine qA ?_;refine qm ?_;refine qe hK ?_;refine⟨p.ak.length-(r+1),by omega,⟨r+1,rfl,hH,by omega,?_⟩⟩;intro r' s' Bn mh
      by_cases he:r'=r
      ·subst he;rw[j9] at mh;cases mh;exact fun pc q yW=>hom pc q (by omega)
      ·exact hfo r' s' (by omega) mh
    ·refine Qw ?_;rw[cD ⟨h0.1,h0.2,hsh,bA,fun r' s' mh=>hfo r' s' (by have:=bC mh;omega) mh⟩];refine qq<|qj fun K hK=>qm ?_;refine qe hK<|ω ⟨rx,_,rfl,rl bt hH (rfl)⟩
def rP:Nat→List Bool→List Int
 |_,[]=>[]
 |i,b::l=>(if b then[(i:Int)] else[])++rP (i+1) l
noncomputable def rI (p:Pg) (ky:Int):List Int:=if dec (bE p) &&jQ ky p.ak.length then rP 0 (bF p.code (p.ak.getD ky.toNat 0)) else[]
def eQ (i:aQ):aQ:=⟨i.op,i.x,i.y,.sl ((i.rs.map ax).map (jR 2)),i.rs⟩
theorem Fu (h:i.ok):(eQ i).ok:=⟨dr.frozen (ma _) (eo _),h.2⟩
def s8 (q:aQ):List D:=aC (eQ q)
end Go.Proofs.YtbdnabmmlbiomaaGreat
