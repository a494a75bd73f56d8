/-
 The parser of patterns: groups, one thing, how often, one behind the other, one or the other.
-/
import Derived.Test.YtecjacicdpejaaaGreatWGHr
import Derived.Test.YtecjacicdpejaaaGreatWGJi
import Derived.Test.YtecjacicdpejaaaGreatWGUa
set_option maxRecDepth 100000
set_option maxHeartbeats 4000000
set_option linter.unusedSimpArgs false
set_option linter.unusedVariables false
open Nat renaming reduceAdd→γ,le_of_ble_eq_true→ζ,le_mul_of_pos_left→ς,le_refl→Q5
open List renaming length_cons→δ,mem_cons→ε,length_map→η,not_mem_nil→θ,foldl→ι,length_nil→κ,length_append→μ,mem_append→ξ,getElem?_eq_getElem→ρ,foldl_cons→τ,drop_succ_cons→υ,take_succ_cons→φ,drop_zero→χ,foldl_nil→ψ,length_eq_zero_iff→Γ,map_append→Δ,take_zero→Θ,length_reverse→Ξ,length_set→Ω,mem_append_right→Z5,mem_append_left→Zn,mem_of_getElem?→Zt,getElem?_map→YQ,length_drop→Y',map_cons→YH,mem_map→JS
open Go.V.D renaming cells→ν
open Go.V.ab renaming nil→ο,two→π,cA→Φ,bN→Wh,go→wt,jc→xw,av→v8,cL→ki
open Bool renaming and_eq_true→ω,or_eq_true→Ψ,or_eq_false_iff→ZD
namespace Go.Proofs.YtecjacicdpejaaaGreat
open Go.V Go
def kg (fr:Go.V.Fr) (k:Nat):Go.V.D:=Go.V.nth .bI fr.loc k
variable{N:Nat}{S:St}{H:List bo}
theorem tD {st:St} {a b c:bo} (h:Has N S st (a::b::c::H)):Has N S st (b::c::a::H):=by
 have h1:=h.front aO;have h2:=h1.front a_;exact h2.front aO
def ra (m:Nat):Prop:=∀{N k:Nat} {S s0:St} {H:List bo} {gs:List (Nat×Nat)} {cU:D} {dt:List Int} {s:iV},pP gs dt→s.e=0→s.i≤gs.length→s.g≤4→s.o+m=20→Has N S s0 (.box k (.mem 0 false (bt gs cU s))::.aF cU 1 (dt.map az)::H)→
 ∃d ai,Ev pv 133 [.ptr k 0 0] s0 d ai∧∃(s':iV),Cv gs s s' d∧Has N S ai (.box k (.mem 0 false (bt gs cU s'))::.aF cU 1 (dt.map az)::H)
variable{m k:Nat}{s0:St}{gs:List (Nat×Nat)}{cU:D}{dt:List Int}{s:iV}
theorem MY (hA:∀m',m'+1=m→ra m') (ba:pP gs dt) (he:s.e=0) (hi:s.i<gs.length) (hg:s.g≤4) (ho:s.o+m=20) (hH:Has N S s0 (.box k (.mem 0 false (bt gs cU s))::.aF cU 1 (dt.map az)::H)):
  ∃d ai,Ev pv 266 [.ptr k 0 0] s0 d ai∧∃(s':iV),mW gs s s' d 2∧Has N S ai (.box k (.mem 0 false (bt gs cU s'))::.aF cU 1 (dt.map az)::H):=by
 have yh:=ba.gl;have fT:=ba.pl;refine Ev.eN rfl WD rfl rfl rfl ?_;refine zE ?_;have cj:=hH;have hH:=hH.bE;have bV:(ae .rw s0).bs=s0.bs:=rfl;generalize ae .rw s0=S2 at*
 have hwr:∀(st:St) (s3:iV) (e:Int) (H2:List bo),e≠0→s3.e=0→s3.o=s.o→s3.g≤4→s.i≤s3.i→s3.i≤gs.length→Has N S2 st (.box k (.mem 0 false (bt gs cU s3))::.aF cU 1 (dt.map az)::H2)→∃d ai,Ev pv 134 [.ptr k 0 0,.int .i64 (s.i:Nat),.int .i64 e] st d ai∧d=.sl []∧∃s4,mW gs s s4 (.sl []) 2∧Has N S2 ai (.box k (.mem 0 false (bt gs cU s4))::.aF cU 1 (dt.map az)::H2):=by
  intro st s3 e H2 h0 h1 h2 h3 h4 h5 hH;obtain⟨d,ai,ax,h6,hH⟩:=fk (s:=s3) s.i e (by omega) hH;obtain⟨w1,w2,w3,w4⟩:=fL (dt:=dt) (s:=s3) (i:=s.i) (e:=e) h1 h0;exact⟨d,ai,ax,h6,_,ke (w3.trans h2) (by omega) (by omega) (by omega) w1,hH⟩
 refine zQ 21 ?_;refine qT hH aB fun st hH=>?_;dsimp only[u2,u1,u3,u4,setMany,u5,u6,ν,γ,bt,bD,az,aw,ch] at hH;refine zQ 1 ?_;have hH:Has N S2 st (.box k (.mem 0 false (bt gs cU {s with i:=s.i+1}))::.aF cU 1 (dt.map az)::H):=hH
 obtain⟨s1,nA⟩:∃s1:iV,({s with i:=s.i+1}:iV)=s1:=⟨_,rfl⟩
 have ZR:s1.e=0∧s1.o=s.o∧s1.g=s.g∧s1.i=s.i+1:=by rw[←nA];exact⟨he,rfl,rfl,rfl⟩
 rw[nA] at hH;clear nA;obtain⟨f1,f2,f3,f4⟩:=ZR;refine zQ 6 ?_;refine ag.jI (fun fr st=>∃(free:Bool) (s2:iV) (tmp:List (Nat×D)),fr=⟨7,[.ptr k 0 0,kg fr 1,kg fr 2,.int .i64 (s.i:Nat),.bool free,kg fr 5,kg fr 6],tmp⟩∧Has N S2 st (.box k (.mem 0 false (bt gs cU s2))::.aF cU 1 (dt.map az)::H)∧(s2.e=0)∧(s2.o=s.o)∧(s2.g=s.g)∧(s.i+1≤s2.i)∧(s2.i≤gs.length)) ?_ ?_
 ·obtain⟨k1,k2,k3,k4,k5⟩:=kU (gs:=gs) (s:=s1) (r:=63);have k5:=k5 (by omega);refine zQ 2 ?_;obtain⟨_,st,ax,rfl,hH⟩:=gI (s:=s1) (by omega) 63 hH;refine qv ax ?_;refine zQ 1 ?_;generalize eW gs s1 63=s2 at*
  cases hb:nL gs s1.i 63 with
  |false=>
   refine zQ 2 ?_;exact⟨false,s2,_,rfl,hH,by omega,by omega,by omega,by omega,by omega⟩
  |true=>
   refine zQ 5 ?_;obtain⟨r1,r2,r3,r4,r5⟩:=kU (gs:=gs) (s:=s2) (r:=58);have r5:=r5 k5;refine zQ 3 ?_;obtain⟨_,st,ax,rfl,hH⟩:=gI (s:=s2) (by omega) 58 hH;refine qv ax ?_;refine zQ 2 ?_;generalize eW gs s2 58=s3 at*
   cases hb2:nL gs s2.i 58 with
   |false=>
    refine zQ 5 ?_;obtain⟨_,st,ax,rfl,s4,hN,hH⟩:=hwr _ s3 4 _ (by decide) (by omega) (by omega) (by omega) (by omega) (by omega) hH;refine qv ax ?_;refine zQ 2 ?_;refine ag.ret ⟨rx,_,_,_,rfl,aj (rfl),?_⟩;exact⟨s4,hN,cj.aq bV hH⟩
   |true=>
    refine zQ 2 ?_;exact⟨true,s3,_,rfl,hH,by omega,by omega,by omega,by omega,by omega⟩
 ·rintro fr st ⟨free,s2,tmp,hfr,hH,h1,h2,h3,h4,h5⟩;rw[hfr];clear hfr;generalize kg fr=ee;clear fr;refine zQ 9 ?_
  by_cases acw:20≤s2.o
  ·have lh:decide (((s2.o:Nat):Int)≥20)=true:=by rw[decide_eq_true_eq];omega
   refine qD rfl (by rw[lh]) ?_;refine zQ 4 ?_;obtain⟨_,st,ax,rfl,s4,hN,hH⟩:=hwr _ s2 10 _ (by decide) h1 h2 (by omega) (by omega) h5 hH;refine qv ax ?_;refine zQ 2 ?_;refine ag.ret ⟨rx,_,_,_,rfl,aj (rfl),?_⟩;exact⟨s4,hN,cj.aq bV hH⟩
  have lh:decide (((s2.o:Nat):Int)≥20)=false:=by rw[decide_eq_false_iff_not];omega
  refine qE rfl (by rw[lh]) ?_;refine zQ 3 ?_;refine wt (d:=.agg [.int .i64 6,.nul,.int .i64 0,.int .i64 0,.bool false,.int .i64 0,.int .i64 1]) (st1:=_) rfl rfl rfl (aa rfl _) ?_;refine qa hH fun k5 st Kf hH=>?_;dsimp only[u2,u1,u3,u4,setMany,u5,u6,ν,γ,bt,bD,az,aw,ch] at hH;refine qS hH aB fun st hH=>?_;dsimp only[u2,u1,u3,u4,setMany,u5,u6,ν,γ,bt,bD,az,aw,ch] at hH;refine zQ 1 ?_;have hH:Has N S2 st (.box k (.mem 0 false (bt gs cU s2))::.aF cU 1 (dt.map az)::.box k5 (.mem 0 false [.int .i64 6,.nul,.int .i64 0,.int .i64 0,.bool false,.int .i64 0,.int .i64 1])::H):=tD hH;refine zQ 2 ?_;refine ag.jI (fun fr st=>∃(cap:Int) (s3:iV) (tmp:List (Nat×D)),fr=⟨7,[.ptr k 0 0,kg fr 1,kg fr 2,.int .i64 (s.i:Nat),.bool free,.ptr k5 0 0,kg fr 6],tmp⟩∧Has N S2 st (.box k (.mem 0 false (bt gs cU s3))::.aF cU 1 (dt.map az)::.box k5 (.mem 0 false [.int .i64 6,.nul,.int .i64 0,.int .i64 0,.bool false,.int .i64 cap,.int .i64 1])::H)∧(s3.e=0)∧(s3.o=s.o)∧(s3.g≤4)∧(s3.i=s2.i)) ?_ ?_
  ·refine zQ 4 ?_
   cases free with
   |true=>
    refine zQ 2 ?_;exact⟨0,s2,_,rfl,hH,h1,h2,by omega,rfl⟩
   |false=>
    refine zQ 10 ?_
    by_cases acu:4≤s2.g
    ·have lh:decide (((s2.g:Nat):Int)≥4)=true:=by rw[decide_eq_true_eq];omega
     refine qD rfl (by rw[lh]) ?_;refine zQ 4 ?_;obtain⟨_,st,ax,rfl,s4,hN,hH⟩:=hwr _ s2 13 _ (by decide) h1 h2 (by omega) (by omega) h5 hH;refine qv ax ?_;refine zQ 2 ?_;refine ag.ret ⟨rx,_,_,_,rfl,aj (rfl),?_⟩;exact⟨s4,hN,cj.aq bV (hH.erase 2)⟩
    ·have lh:decide (((s2.g:Nat):Int)≥4)=false:=by rw[decide_eq_false_iff_not];omega
     refine qE rfl (by rw[lh]) ?_;refine zQ 10 ?_;refine qT hH aB fun st hH=>?_;dsimp only[u2,u1,u3,u4,setMany,u5,u6,ν,γ,bt,bD,az,aw,ch] at hH;refine zQ 7 ?_;refine qT hH a_ fun st hH=>?_;dsimp only[u2,u1,u3,u4,setMany,u5,u6,ν,γ,bt,bD,az,aw,ch] at hH;refine zQ 1 ?_;exact⟨((s2.g+1:Nat):Int),{s2 with g:=s2.g+1},_,rfl,hH,h1,h2,by show s2.g+1≤4;omega,rfl⟩
  ·rintro fr st ⟨cap,s3,tmp,hfr,hH,e1,e2,e3,e4⟩;rw[hfr];clear hfr;generalize kg fr=ee;clear fr;refine zQ 9 ?_;refine qT hH aB fun st hH=>?_;dsimp only[u2,u1,u3,u4,setMany,u5,u6,ν,γ,bt,bD,az,aw,ch] at hH;refine zQ 1 ?_;have hH:Has N S2 st (.box k (.mem 0 false (bt gs cU {s3 with o:=s3.o+1}))::.aF cU 1 (dt.map az)::.box k5 (.mem 0 false [.int .i64 6,.nul,.int .i64 0,.int .i64 0,.bool false,.int .i64 cap,.int .i64 1])::H):=hH;refine zQ 3 ?_;obtain⟨_,st,ax,s4,⟨a1,a2,a3,a4,l,rfl,a5,a6⟩,hH⟩:=hA (m-1) (by omega) (s:={s3 with o:=s3.o+1}) ba e1 (by show s3.i≤_;omega) e3 (by show s3.o+1+(m-1)=20;omega) hH;refine qv ax ?_;refine zQ 2 ?_;have a1:s4.o=s3.o+1:=a1;have a3:s3.i≤s4.i:=a3;have a6:l.length≤4*(s4.i-s3.i)+1:=a6;have hla:=(Ac a5).arg N S2;refine zQ 6 ?_;refine ab.gd (z:=((s.o:Nat):Int)) rfl (ev rfl) (ev rfl) (by(try simp only[Ξ,δ,κ,μ,η,Ω]);rw[wrap_i64 (by omega) (by omega)]<;>omega) (aa rfl _) ?_;refine zQ 2 ?_;refine qT hH aB fun st hH=>?_;dsimp only[u2,u1,u3,u4,setMany,u5,u6,ν,γ,bt,bD,az,aw,ch] at hH;refine zQ 1 ?_
   obtain⟨s5,ZQ⟩:∃s5:iV,({s4 with o:=s.o}:iV)=s5:=⟨_,rfl⟩
   have hH:Has N S2 st (.box k (.mem 0 false (bt gs cU s5))::.aF cU 1 (dt.map az)::.box k5 (.mem 0 false [.int .i64 6,.nul,.int .i64 0,.int .i64 0,.bool false,.int .i64 cap,.int .i64 1])::H):=by rw[←ZQ];exact hH
   have ZP:s5.o=s.o∧s5.g=s4.g∧s5.i=s4.i:=by rw[←ZQ];exact⟨rfl,rfl,rfl⟩
   clear ZQ;obtain⟨b1,b2,b3⟩:=ZP;refine zQ 2 ?_;refine ag.jI (fun fr st=>∃(s6:iV) (tmp:List (Nat×D)),fr=⟨7,[.ptr k 0 0,kg fr 1,kg fr 2,kg fr 3,.bool free,.ptr k5 0 0,Cw l],tmp⟩∧Has N S2 st (.box k (.mem 0 false (bt gs cU s6))::.aF cU 1 (dt.map az)::.box k5 (.mem 0 false [.int .i64 6,.nul,.int .i64 0,.int .i64 0,.bool false,.int .i64 cap,.int .i64 1])::H)∧(s6.o=s.o)∧(s6.g≤4)∧(s4.i≤s6.i)∧(s6.i≤gs.length)∧(s6.e≠0∨s6.e=0∧s4.i<s6.i)) ?_ ?_
   ·by_cases he5:s5.e=0
    ·have cK:(s5.e==0)=true:=by simpa using he5
     obtain⟨k1,k2,k3,k4,k5'⟩:=kU (gs:=gs) (s:=s5) (r:=41);have k5':=k5' (by omega);have hsk:nL gs s5.i 41=true→(eW gs s5 41).i=s5.i+1:=fun h=>by unfold eW;rw[if_pos h]
     refine zQ 8 ?_;obtain⟨_,st,ax,rfl,hH⟩:=gI (s:=s5) (by omega) 41 hH;refine qv ax ?_ (hg:=wi cK);refine zQ 3 ?_;generalize eW gs s5 41=s6 at*
     cases hb:nL gs s5.i 41 with
     |false=>
      refine zQ 5 ?_;obtain⟨_,st,ax,rfl,s7,hN,hH⟩:=hwr _ s6 4 _ (by decide) (by omega) (by omega) (by omega) (by omega) (by omega) hH;refine qv ax ?_;refine zQ 2 ?_;refine ag.ret ⟨rx,_,_,_,rfl,aj (rfl),?_⟩;exact⟨s7,hN,cj.aq bV (hH.erase 2)⟩
     |true=>
      have hsk:=hsk hb;refine zQ 2 ?_;exact⟨s6,_,rfl,hH,by omega,by omega,by omega,by omega,.inr ⟨by omega,by omega⟩⟩
    ·have cK:(s5.e==0)=false:=by simpa using he5
     refine zQ 14 ?_;exact⟨s5,_,rfl,hH,b1,by omega,by omega,by omega,.inl he5⟩
   ·rintro fr st ⟨s6,tmp,hfr,hH,c1,c2,c3,c4,c5⟩;rw[hfr];clear hfr;generalize kg fr=ee;clear fr;refine zQ 5 ?_
    cases free with
    |true=>
     refine zQ 6 ?_;refine ag.ret ⟨rx,_,_,_,rfl,aj (rfl),?_⟩;refine⟨s6,⟨c1,c2,by omega,c4,l,rfl,a5,by omega,?_⟩,cj.aq bV (hH.erase 2)⟩
     rcases c5 with c5|⟨c5,c6⟩
     ·exact .inl c5
     ·exact .inr ⟨c5,by omega⟩
    |false=>
     refine zQ 4 ?_;refine v8 (m:=7) hH rfl (ev rfl) (by exact a_) (by dsimp only[υ,χ,φ,Θ,bt,bD,az,aw,ch]<;>rfl) rfl rfl (aa rfl _) ?_;refine qh (s:=7) (vs:=[_]) hH fun k89 st adj hH=>?_;dsimp only[u2,u1,u3,u4,setMany,u5,u6,ν,γ,bt,bD,az,aw,ch] at hH;refine qm ?_;refine ab.nF (s:=7) hH rfl (ev rfl) (ev rfl) aB ((Ac a5).rows st) rfl rfl rfl rfl rfl rfl rfl ⟨(ζ rfl),(ζ rfl)⟩ (fun _=>(aa rfl _)) (by simp only[η,δ,κ];omega) (.inr (Ab a5)) (fun k hk=>by have og:k89+1=k+1:=hk;omega) (fun x91 st ye hH=>?_);dsimp only[u2] at hH;refine zQ 2 ?_;have hH:Has N S2 st (.aF x91 7 ([.int .i64 6,.nul,.int .i64 0,.int .i64 0,.bool false,.int .i64 cap,.int .i64 1]::l.map ch)::.box k (.mem 0 false (bt gs cU s6))::.aF cU 1 (dt.map az)::.box k5 (.mem 0 false [.int .i64 6,.nul,.int .i64 0,.int .i64 0,.bool false,.int .i64 cap,.int .i64 1])::H):=hH
     have hfz:=mC (L:=s0.bs.length) (l:=BF 6 0 0 false cap 1 []::l) hH aB (by rw[YH,BD a5];rfl) (fun e he d hd=>by
      rcases ε.1 he with rfl|he
      ·simp only[ε,θ,or_false] at hd
       rcases hd with rfl|rfl|rfl|rfl|rfl|rfl|rfl<;>rfl
      ·exact xC a5 e he d hd) (fun k hk=>by rw[←bV];exact ye k hk) (n:=16) (by decide)
     refine ag.ret ⟨rx,_,_,_,rfl,aj hfz,⟨s6,⟨c1,c2,by omega,c4,_,rfl,?_,by simp only[δ];omega,?_⟩,cj.aq bV ((hH.drop 1).erase 2)⟩⟩
     ·intro n hn
      rcases ε.1 hn with rfl|hn
      ·exact⟨rfl,by simp[BF],by simp[BF]⟩
      ·exact a5 n hn
     ·rcases c5 with c5|⟨c5,c6⟩
      ·exact .inl c5
      ·exact .inr ⟨c5,by simp only[δ];omega⟩
def F5 (fr:Go.V.Fr) (k:Nat):Go.V.D:=Go.V.nth .bI fr.loc k
variable{r:Int}
theorem v_ (h:nL gs s.i r=false):eW gs s r=s:=by
 unfold eW;rw[if_neg (by rw[h];simp)]
theorem sk (h:nL gs s.i r=true):(eW gs s r).i=s.i+1:=by
 unfold eW;rw[if_pos h]
theorem Qm (hA:∀m',m'+1=m→ra m') (ba:pP gs dt) (he:s.e=0) (hi:s.i<gs.length) (hg:s.g≤4) (ho:s.o+m=20) (hH:Has N S s0 (.box k (.mem 0 false (bt gs cU s))::.aF cU 1 (dt.map az)::H)):
  ∃d ai,Ev pv 247 [.ptr k 0 0] s0 d ai∧∃(s':iV),mW gs s s' d 2∧Has N S ai (.box k (.mem 0 false (bt gs cU s'))::.aF cU 1 (dt.map az)::H):=by
 have yh:=ba.gl;have fT:=ba.pl;refine Ev.eN rfl WN rfl rfl rfl ?_;refine zE ?_;have cj:=hH;have hH:=hH.bE;have bV:(ae .rw s0).bs=s0.bs:=rfl;generalize ae .rw s0=S2 at*;have PE:Arg N S2 2 (gY gs) (gs.map bD):=Arg.pure (fun st=>gC st gs)
 obtain⟨g,YJ⟩:∃g,gs[s.i]?=some g:=⟨gs[s.i]'hi,ρ _⟩
 have gw:(gs.map bD)[s.i]?=some (bD g):=by rw[YQ,YJ];rfl
 have hwr:∀(st:St),Has N S2 st (.box k (.mem 0 false (bt gs cU s))::.aF cU 1 (dt.map az)::H)→∃d ai,Ev pv 134 [.ptr k 0 0,.int .i64 (s.i:Nat),.int .i64 4] st d ai∧d=.sl []∧∃s4,mW gs s s4 (.sl []) 2∧Has N S2 ai (.box k (.mem 0 false (bt gs cU s4))::.aF cU 1 (dt.map az)::H):=by
  intro st hH;obtain⟨d,ai,ax,h6,hH⟩:=fk (s:=s) s.i 4 (by omega) hH;obtain⟨w1,w2,w3,w4⟩:=fL (dt:=dt) (s:=s) (i:=s.i) (e:=4) he (by decide);exact⟨d,ai,ax,h6,_,ke w3 (by omega) (by omega) (by omega) w1,hH⟩
 have oc:∀(st:St) (s1:iV) (op:Int) (w:D) (a:List Rg) (kk:Nat),(w=cC a∨w=.nul∧a=[])→a.length≤1048576→s1.o=s.o→s1.g≤4→s.i<s1.i→s1.i≤gs.length→S2.bs.length≤kk→Has N S2 st (.aF (.win kk 0 0 1 7) 7 [[.int .i64 op,w,.int .i64 0,.int .i64 0,.bool false,.int .i64 0,.int .i64 0]]::.box k (.mem 0 false (bt gs cU s1))::.aF cU 1 (dt.map az)::H)→
   ∃d ai,ez .rw false s0 st (.win kk 0 0 1 7)=some (d,ai)∧∃(s':iV),mW gs s s' d 2∧Has N S ai (.box k (.mem 0 false (bt gs cU s'))::.aF cU 1 (dt.map az)::H):=by
  intro st s1 op w a kk hw ha h1 h2 h3 h4 hk hH;have hfz:=mD hH aB (L:=s0.bs.length) hw (fun k hk=>by simp only[D.ref] at hk;rw[←bV];omega);refine⟨_,_,aj hfz,s1,⟨h1,h2,by omega,h4,_,rfl,LD ha (by omega),by simp,?_⟩,cj.aq bV (hH.drop 1)⟩
  by_cases he:s1.e=0
  ·exact .inr ⟨he,by simp only[δ,κ];omega⟩
  ·exact .inl he
 refine zQ 17 ?_;obtain⟨_,st,ax,rfl,hH⟩:=GZ (s:=s) s.i hi hH;refine qv ax ?_;refine zQ 1 ?_;refine qc (fun hb=>?_) (fun hb=>?_)<;>try simp only[cs] at hb
 ·refine zQ 4 ?_;obtain⟨_,st,ax,rfl,s4,hN,hH⟩:=hwr _ hH;refine qv ax ?_;refine zQ 2 ?_;refine ag.ret ⟨rx,_,_,_,rfl,aj (rfl),?_⟩;exact⟨s4,hN,cj.aq bV hH⟩
 refine zQ 8 ?_;refine qr fun Ui Mh=>?_;refine qf (fo:=0) fun Uh Mg=>?_;refine zQ 13 ?_;refine zI (fun q40=>?_) fun q40=>?_
 ·refine zQ 3 ?_;obtain⟨_,st,ax,s4,⟨p1,p2,p3,p4,l,rfl,p5,p6,p7⟩,hH⟩:=MY hA ba he hi hg ho hH;refine qv ax ?_;refine zQ 2 ?_;refine ag.ret ⟨rx,_,_,_,rfl,aj (rfl),?_⟩;exact⟨s4,⟨p1,p2,p3,p4,l,rfl,p5,p6,p7⟩,cj.aq bV hH⟩
 refine zQ 5 ?_;refine zI (fun T_=>?_) fun T_=>?_
 ·refine zQ 3 ?_;obtain⟨_,st,ax,s4,⟨p1,p2,p3,p4,l,rfl,p5,p6,p7⟩,hH⟩:=Ns ba he hi hg hH;refine qv ax ?_;refine zQ 2 ?_;refine ag.ret ⟨rx,_,_,_,rfl,aj (rfl),?_⟩;exact⟨s4,⟨p1,p2,p3,p4,l,rfl,p5,p6,p7⟩,cj.aq bV hH⟩
 refine zQ 5 ?_;refine zI (fun q92=>?_) fun q92=>?_
 ·refine zQ 3 ?_;obtain⟨_,st,ax,d1,b,s4,rfl,⟨p1,p2,p3,p4,p5,p6⟩,hH⟩:=Hm (s:=s) ba he hi hH;refine qv ax ?_;refine zQ 6 ?_
  have zp:∀(st:St) (w:D) (a:List Rg) (kk:Nat),(w=cC a∨w=.nul∧a=[])→a.length≤8→S2.bs.length≤kk→Has N S2 st (.aF (.win kk 0 0 1 7) 7 [[.int .i64 2,w,.int .i64 0,.int .i64 0,.bool false,.int .i64 0,.int .i64 0]]::.box k (.mem 0 false (bt gs cU s4))::.aF cU 1 (dt.map az)::H)→∃d ai,ez .rw false s0 st (.win kk 0 0 1 7)=some (d,ai)∧∃(s':iV),mW gs s s' d 2∧Has N S ai (.box k (.mem 0 false (bt gs cU s'))::.aF cU 1 (dt.map az)::H):=by
   intro st w a kk hw ha hk hH;have hfz:=mD hH aB (L:=s0.bs.length) hw (fun k hk=>by simp only[D.ref] at hk;rw[←bV];omega);refine⟨_,_,aj hfz,s4,⟨p1,by omega,by omega,p4,_,rfl,LD (by omega) (by omega),by simp,?_⟩,cj.aq bV (hH.drop 1)⟩
   rcases p6 with p6|⟨p6,p7,_⟩
   ·exact .inl p6
   ·exact .inr ⟨p6,by simp only[δ,κ];omega⟩
  rcases p5 with rfl|⟨a,rfl,ha⟩
  ·refine zQ 3 ?_;refine xw (qs:=[(0,_),(1,_)]) rfl rfl rfl rfl ⟨rfl,(ev rfl),(by rfl),rfl,(ev rfl),(by rfl),trivial⟩ (by intro q hq;simp only[ε,θ,or_false] at hq;rcases hq with rfl|rfl<;>exact⟨rfl,by exact ζ rfl⟩) (by show ι _ [_,_,_,_,_,_,_] _=_;dsimp only[τ,ψ,u2,u1]<;>rfl) (aa rfl _) ?_;refine qh (s:=7) (vs:=[_]) hH fun k54 st SC hH=>?_;dsimp only[u2,u1,u3,u4,setMany,u5,u6,ν,γ,bt,bD,az,aw,ch] at hH;refine zQ 2 ?_;obtain⟨d',ai,B3,f_⟩:=zp _ .nul [] k54 (.inr ⟨rfl,rfl⟩) (by simp) SC hH;refine ag.ret ⟨rx,_,d',ai,rfl,B3,f_⟩
  ·refine zQ 3 ?_;refine xw (qs:=[(0,_),(1,_)]) rfl rfl rfl rfl ⟨rfl,(ev rfl),(by rfl),rfl,(ev rfl),(by rfl),trivial⟩ (by intro q hq;simp only[ε,θ,or_false] at hq;rcases hq with rfl|rfl<;>exact⟨rfl,by exact ζ rfl⟩) (by show ι _ [_,_,_,_,_,_,_] _=_;dsimp only[τ,ψ,u2,u1]<;>rfl) (aa rfl _) ?_;refine qh (s:=7) (vs:=[_]) hH fun k54 st SC hH=>?_;dsimp only[u2,u1,u3,u4,setMany,u5,u6,ν,γ,bt,bD,az,aw,ch] at hH;refine zQ 2 ?_;obtain⟨d',ai,B3,f_⟩:=zp _ (cC a) a k54 (.inl rfl) ha SC hH;refine ag.ret ⟨rx,_,d',ai,rfl,B3,f_⟩
 refine zQ 5 ?_;refine zI (fun q46=>?_) fun q46=>?_
 ·refine zQ 9 ?_;refine qT hH aB fun st hH=>?_;dsimp only[u2,u1,u3,u4,setMany,u5,u6,ν,γ,bt,bD,az,aw,ch] at hH;refine zQ 1 ?_;obtain⟨_,aaW,a,rfl,hla⟩:=Te (s0:=st);refine zQ 2 ?_;refine qv (aaW) ?_;refine xw (qs:=[(0,_),(1,_)]) rfl rfl rfl rfl ⟨rfl,(ev rfl),(by rfl),rfl,(ev rfl),(by rfl),trivial⟩ (by intro q hq;simp only[ε,θ,or_false] at hq;rcases hq with rfl|rfl<;>exact⟨rfl,by exact ζ rfl⟩) (by show ι _ [_,_,_,_,_,_,_] _=_;dsimp only[τ,ψ,u2,u1]<;>rfl) (aa rfl _) ?_;refine qh (s:=7) (vs:=[_]) hH fun k66 st aaw hH=>?_;refine zQ 2 ?_;obtain⟨d',ai,B3,f_⟩:=oc _ {s with i:=s.i+1} 2 (cC a) a k66 (.inl rfl) (by omega) rfl hg (by show s.i<s.i+1;omega) (by show s.i+1≤_;omega) aaw hH;refine ag.ret ⟨rx,_,d',ai,rfl,B3,f_⟩
 refine zQ 5 ?_;refine zI (fun q94=>?_) fun q94=>?_
 ·refine zQ 9 ?_;refine qT hH aB fun st hH=>?_;dsimp only[u2,u1,u3,u4,setMany,u5,u6,ν,γ,bt,bD,az,aw,ch] at hH;refine zQ 3 ?_;refine wt (d:=.agg [.int .i64 7,.nul,.int .i64 0,.int .i64 0,.bool false,.int .i64 0,.int .i64 0]) (st1:=_) rfl rfl rfl (aa rfl _) ?_;refine qh (s:=7) (vs:=[_]) hH fun k77 st VB hH=>?_;refine zQ 2 ?_;obtain⟨d',ai,B3,f_⟩:=oc _ {s with i:=s.i+1} 7 .nul [] k77 (.inr ⟨rfl,rfl⟩) (by simp) rfl hg (by show s.i<s.i+1;omega) (by show s.i+1≤_;omega) VB hH;refine ag.ret ⟨rx,_,d',ai,rfl,B3,f_⟩
 refine zQ 5 ?_;refine zI (fun q36=>?_) fun q36=>?_
 ·refine zQ 9 ?_;refine qT hH aB fun st hH=>?_;dsimp only[u2,u1,u3,u4,setMany,u5,u6,ν,γ,bt,bD,az,aw,ch] at hH;refine zQ 3 ?_;refine wt (d:=.agg [.int .i64 8,.nul,.int .i64 0,.int .i64 0,.bool false,.int .i64 0,.int .i64 0]) (st1:=_) rfl rfl rfl (aa rfl _) ?_;refine qh (s:=7) (vs:=[_]) hH fun k88 st VA hH=>?_;refine zQ 2 ?_;obtain⟨d',ai,B3,f_⟩:=oc _ {s with i:=s.i+1} 8 .nul [] k88 (.inr ⟨rfl,rfl⟩) (by simp) rfl hg (by show s.i<s.i+1;omega) (by show s.i+1≤_;omega) VA hH;refine ag.ret ⟨rx,_,d',ai,rfl,B3,f_⟩
 refine zQ 6 ?_
 by_cases c42:((g.1:Nat):Int)=42
 ·refine qD rfl (by simp[c42]) ?_;refine zQ 1 ?_;refine qD rfl (by simp[c42]) ?_;refine zQ 4 ?_;obtain⟨_,st,ax,rfl,s4,hN,hH⟩:=hwr _ hH;refine qv ax ?_;refine zQ 2 ?_;refine ag.ret ⟨rx,_,_,_,rfl,aj (rfl),?_⟩;exact⟨s4,hN,cj.aq bV hH⟩
 refine qE rfl (by simp[c42]) ?_;refine zQ 5 ?_
 by_cases c43:((g.1:Nat):Int)=43
 ·refine qD rfl (by simp[c43]) ?_;refine zQ 1 ?_;refine qD rfl (by simp[c43]) ?_;refine zQ 4 ?_;obtain⟨_,st,ax,rfl,s4,hN,hH⟩:=hwr _ hH;refine qv ax ?_;refine zQ 2 ?_;refine ag.ret ⟨rx,_,_,_,rfl,aj (rfl),?_⟩;exact⟨s4,hN,cj.aq bV hH⟩
 refine qE rfl (by simp[c43]) ?_;refine zQ 5 ?_
 by_cases c63:((g.1:Nat):Int)=63
 ·refine qD rfl (by simp[c63]) ?_;refine zQ 1 ?_;refine qD rfl (by simp[c63]) ?_;refine zQ 4 ?_;obtain⟨_,st,ax,rfl,s4,hN,hH⟩:=hwr _ hH;refine qv ax ?_;refine zQ 2 ?_;refine ag.ret ⟨rx,_,_,_,rfl,aj (rfl),?_⟩;exact⟨s4,hN,cj.aq bV hH⟩
 refine qE rfl (by simp[c63]) ?_;refine zQ 5 ?_
 by_cases c41:((g.1:Nat):Int)=41
 ·refine qD rfl (by simp[c41]) ?_;refine zQ 1 ?_;refine qD rfl (by simp[c41]) ?_;refine zQ 4 ?_;obtain⟨_,st,ax,rfl,s4,hN,hH⟩:=hwr _ hH;refine qv ax ?_;refine zQ 2 ?_;refine ag.ret ⟨rx,_,_,_,rfl,aj (rfl),?_⟩;exact⟨s4,hN,cj.aq bV hH⟩
 refine qE rfl (by simp[c41]) ?_;refine zQ 5 ?_
 by_cases c93:((g.1:Nat):Int)=93
 ·refine qD rfl (by simp[c93]) ?_;refine zQ 1 ?_;refine qD rfl (by simp[c93]) ?_;refine zQ 4 ?_;obtain⟨_,st,ax,rfl,s4,hN,hH⟩:=hwr _ hH;refine qv ax ?_;refine zQ 2 ?_;refine ag.ret ⟨rx,_,_,_,rfl,aj (rfl),?_⟩;exact⟨s4,hN,cj.aq bV hH⟩
 refine qE rfl (by simp[c93]) ?_;refine zQ 5 ?_
 by_cases Tm:((g.1:Nat):Int)=123
 ·refine qD rfl (by simp[Tm]) ?_;refine zQ 1 ?_;refine qD rfl (by simp[Tm]) ?_;refine zQ 4 ?_;obtain⟨_,st,ax,rfl,s4,hN,hH⟩:=hwr _ hH;refine qv ax ?_;refine zQ 2 ?_;refine ag.ret ⟨rx,_,_,_,rfl,aj (rfl),?_⟩;exact⟨s4,hN,cj.aq bV hH⟩
 refine qE rfl (by simp[Tm]) ?_;refine zQ 5 ?_
 by_cases Tk:((g.1:Nat):Int)=125
 ·refine qD rfl (by simp[Tk]) ?_;refine zQ 1 ?_;refine qD rfl (by simp[Tk]) ?_;refine zQ 4 ?_;obtain⟨_,st,ax,rfl,s4,hN,hH⟩:=hwr _ hH;refine qv ax ?_;refine zQ 2 ?_;refine ag.ret ⟨rx,_,_,_,rfl,aj (rfl),?_⟩;exact⟨s4,hN,cj.aq bV hH⟩
 refine qE rfl (by simp[Tk]) ?_;refine zQ 4 ?_
 by_cases X':((g.1:Nat):Int)=124
 ·refine qD rfl (by simp[X']) ?_;refine zQ 4 ?_;obtain⟨_,st,ax,rfl,s4,hN,hH⟩:=hwr _ hH;refine qv ax ?_;refine zQ 2 ?_;refine ag.ret ⟨rx,_,_,_,rfl,aj (rfl),?_⟩;exact⟨s4,hN,cj.aq bV hH⟩
 refine qE rfl (by simp[X']) ?_;refine zQ 9 ?_;refine qT hH aB fun st hH=>?_;dsimp only[u2,u1,u3,u4,setMany,u5,u6,ν,γ,bt,bD,az,aw,ch] at hH;refine zQ 1 ?_;obtain⟨_,D7,_⟩:=sE (s0:=s0) (x:=cC [(((g.1:Nat):Int),((g.1:Nat):Int))]) (l:=[(((g.1:Nat):Int),((g.1:Nat):Int))]) (h_ _ _) (by simp);simp only[δ,κ] at D7;refine zQ 3 ?_;refine qv (nc _) ?_;refine xw (qs:=[(0,_),(1,_)]) rfl rfl rfl rfl ⟨rfl,(ev rfl),(by rfl),rfl,(ev rfl),(by rfl),trivial⟩ (by intro q hq;simp only[ε,θ,or_false] at hq;rcases hq with rfl|rfl<;>exact⟨rfl,by exact ζ rfl⟩) (by show ι _ [_,_,_,_,_,_,_] _=_;dsimp only[τ,ψ,u2,u1]<;>rfl) (aa rfl _) ?_;refine qh (s:=7) (vs:=[_]) hH fun k36 st VD hH=>?_;refine zQ 2 ?_;obtain⟨d',ai,B3,f_⟩:=oc _ {s with i:=s.i+1} 2 _ _ k36 (.inl rfl) (by omega) rfl hg (by show s.i<s.i+1;omega) (by show s.i+1≤_;omega) VD hH;refine ag.ret ⟨rx,_,d',ai,rfl,B3,f_⟩
theorem K1 (hA:∀m',m'+1=m→ra m') (ba:pP gs dt) (he:s.e=0) (hi:s.i<gs.length) (hg:s.g≤4) (ho:s.o+m=20) (hH:Has N S s0 (.box k (.mem 0 false (bt gs cU s))::.aF cU 1 (dt.map az)::H)):
  ∃d ai,Ev pv 220 [.ptr k 0 0] s0 d ai∧∃(s':iV),mW gs s s' d 1∧Has N S ai (.box k (.mem 0 false (bt gs cU s'))::.aF cU 1 (dt.map az)::H):=by
 have yh:=ba.gl;have fT:=ba.pl;refine Ev.eN rfl WZ rfl rfl rfl ?_;refine zE ?_;have cj:=hH;have hH:=hH.bE;have bV:(ae .rw s0).bs=s0.bs:=rfl;generalize ae .rw s0=S2 at*;refine zQ 7 ?_;obtain⟨_,st,ax,s1,⟨p1,p2,p3,p4,l,rfl,p5,p6,p7⟩,hH⟩:=Qm hA ba he hi hg ho hH;refine qv ax ?_;refine zQ 11 ?_
 rcases p7 with p7|⟨p7,p8⟩
 ·refine qD rfl (by simp[p7]) ?_;refine zQ 4 ?_;refine ag.ret ⟨rx,_,_,_,rfl,aj (rfl),?_⟩;exact⟨s1,ke p1 p2 p3 p4 p7,cj.aq bV hH⟩
 refine qE rfl (by simp[p7]) ?_;refine zQ 3 ?_;refine wt (d:=.agg [.int .i64 5,.nul,.int .i64 0,.int .i64 0,.bool false,.int .i64 0,.int .i64 1]) (st1:=_) rfl rfl rfl (aa rfl _) ?_;refine qa hH fun k4 st QQ hH=>?_;dsimp only[u2,u1,u3,u4,setMany,u5,u6,ν,γ,bt,bD,az,aw,ch] at hH;refine qS hH aB fun st hH=>?_;dsimp only[u2,u1,u3,u4,setMany,u5,u6,ν,γ,bt,bD,az,aw,ch] at hH;refine zQ 1 ?_;have hH:Has N S2 st (.box k (.mem 0 false (bt gs cU s1))::.aF cU 1 (dt.map az)::.box k4 (.mem 0 false [.int .i64 5,.nul,.int .i64 0,.int .i64 0,.bool false,.int .i64 0,.int .i64 1])::H):=tD hH;refine qq<|ag.merge (fun fr st=>∃(mn mx:Int) (s2:iV) (tmp:List (Nat×D)),fr=⟨5,[.ptr k 0 0,F5 fr 1,F5 fr 2,Cw l,.ptr k4 0 0],tmp⟩∧Has N S2 st (.box k (.mem 0 false (bt gs cU s2))::.aF cU 1 (dt.map az)::.box k4 (.mem 0 false [.int .i64 5,.nul,.int .i64 mn,.int .i64 mx,.bool false,.int .i64 0,.int .i64 1])::H)∧(s2.o=s.o)∧(s2.g≤4)∧(s1.i<s2.i)∧(s2.i≤gs.length)) ?_ ?_
 ·refine zQ 4 ?_;obtain⟨_,st,ax,rfl,hH⟩:=gI (s:=s1) (by omega) 42 hH;refine qv ax ?_;refine zQ 2 ?_
  cases hb1:nL gs s1.i 42 with
  |true=>
   obtain⟨k1,k2,k3,Zw,k5⟩:=kU (gs:=gs) (s:=s1) (r:=42);have k6:=sk hb1;have k7:=k5 p4;generalize eW gs s1 42=s2 at*;refine zQ 3 ?_;refine qT hH a_ fun st hH=>?_;dsimp only[u2,u1,u3,u4,setMany,u5,u6,ν,γ,bt,bD,az,aw,ch] at hH;refine zQ 1 ?_;exact⟨0,-1,s2,_,rfl,hH,by omega,by omega,by omega,k7⟩
  |false=>
   rw[v_ hb1] at hH;refine zQ 4 ?_;obtain⟨_,st,ax,rfl,hH⟩:=gI (s:=s1) (by omega) 43 hH;refine qv ax ?_;refine zQ 2 ?_
   cases hb2:nL gs s1.i 43 with
   |true=>
    obtain⟨k1,k2,k3,Zw,k5⟩:=kU (gs:=gs) (s:=s1) (r:=43);have k6:=sk hb2;have k7:=k5 p4;generalize eW gs s1 43=s2 at*;refine zQ 3 ?_;refine qT hH a_ fun st hH=>?_;dsimp only[u2,u1,u3,u4,setMany,u5,u6,ν,γ,bt,bD,az,aw,ch] at hH;refine zQ 1 ?_;refine qT hH a_ fun st hH=>?_;dsimp only[u2,u1,u3,u4,setMany,u5,u6,ν,γ,bt,bD,az,aw,ch] at hH;refine zQ 1 ?_;exact⟨1,-1,s2,_,rfl,hH,by omega,by omega,by omega,k7⟩
   |false=>
    rw[v_ hb2] at hH;refine zQ 4 ?_;obtain⟨_,st,ax,rfl,hH⟩:=gI (s:=s1) (by omega) 63 hH;refine qv ax ?_;refine zQ 2 ?_
    cases B6:nL gs s1.i 63 with
    |true=>
     obtain⟨k1,k2,k3,Zw,k5⟩:=kU (gs:=gs) (s:=s1) (r:=63);have k6:=sk B6;have k7:=k5 p4;generalize eW gs s1 63=s2 at*;refine zQ 3 ?_;refine qT hH a_ fun st hH=>?_;dsimp only[u2,u1,u3,u4,setMany,u5,u6,ν,γ,bt,bD,az,aw,ch] at hH;refine zQ 1 ?_;exact⟨0,1,s2,_,rfl,hH,by omega,by omega,by omega,k7⟩
    |false=>
     rw[v_ B6] at hH;refine zQ 4 ?_;obtain⟨_,st,ax,rfl,hH⟩:=vw (s:=s1) (by omega) 123 hH;refine qv ax ?_;refine zQ 2 ?_
     cases V_:nL gs s1.i 123 with
     |true=>
      have hlt:=x0 V_;refine zQ 3 ?_;obtain⟨_,st,ax,n1,n2,s2,rfl,⟨m1,m2,m3,m4⟩,hH⟩:=Ls ba p7 hlt hH;refine qv ax ?_;refine zQ 4 ?_;refine qT hH a_ fun st hH=>?_;dsimp only[u2,u1,u3,u4,setMany,u5,u6,ν,γ,bt,bD,az,aw,ch] at hH;refine zQ 1 ?_;refine qT hH a_ fun st hH=>?_;dsimp only[u2,u1,u3,u4,setMany,u5,u6,ν,γ,bt,bD,az,aw,ch] at hH;refine zQ 1 ?_;exact⟨n1,n2,s2,_,rfl,hH,by omega,by omega,m3,m4⟩
     |false=>
      refine zQ 6 ?_;refine ag.ret ⟨rx,_,_,_,rfl,aj (rfl),?_⟩;exact⟨s1,⟨p1,p2,p3,p4,l,rfl,p5,p6,.inr ⟨p7,by omega⟩⟩,cj.aq bV (hH.erase 2)⟩
 ·rintro fr st ⟨mn,mx,s2,tmp,hfr,hH,h1,h2,h3,h4⟩;rw[hfr];clear hfr;generalize F5 fr=ee;clear fr;refine zQ 9 ?_
  by_cases y_:s2.e=0
  ·refine qE rfl (by simp[y_]) ?_;refine zQ 1 ?_;obtain⟨k1,k2,k3,Zw,k5⟩:=kU (gs:=gs) (s:=s2) (r:=63);have k7:=k5 h4;refine zQ 3 ?_;obtain⟨_,st,ax,rfl,hH⟩:=gI (s:=s2) (by omega) 63 hH;refine qv ax ?_;refine zQ 1 ?_;refine qT hH a_ fun st hH=>?_;dsimp only[u2,u1,u3,u4,setMany,u5,u6,ν,γ,bt,bD,az,aw,ch] at hH;refine zQ 1 ?_;generalize eW gs s2 63=s3 at*;generalize nL gs s2.i 63=lz at*;have hla:=(Ac p5).arg N S2;refine zQ 2 ?_;refine v8 (m:=7) hH rfl (ev rfl) (by exact a_) (by dsimp only[υ,χ,φ,Θ,bt,bD,az,aw,ch]<;>rfl) rfl rfl (aa rfl _) ?_;refine qh (s:=7) (vs:=[_]) hH fun k46 st adt hH=>?_;refine qm ?_;refine ab.nF (s:=7) hH rfl (ev rfl) (ev rfl) aB ((Ac p5).rows st) rfl rfl rfl rfl rfl rfl rfl ⟨(ζ rfl),(ζ rfl)⟩ (fun _=>(aa rfl _)) (by simp only[η,δ,κ];omega) (.inr (Ab p5)) (fun k hk=>by have og:k46+1=k+1:=hk;omega) (fun NV st ye hH=>?_);dsimp only[u2] at hH;refine zQ 2 ?_;have hH:Has N S2 st (.aF NV 7 ([.int .i64 5,.nul,.int .i64 mn,.int .i64 mx,.bool lz,.int .i64 0,.int .i64 1]::l.map ch)::.box k (.mem 0 false (bt gs cU s3))::.aF cU 1 (dt.map az)::.box k4 (.mem 0 false [.int .i64 5,.nul,.int .i64 mn,.int .i64 mx,.bool lz,.int .i64 0,.int .i64 1])::H):=hH
   have hfz:=mC (L:=s0.bs.length) (l:=BF 5 mn mx lz 0 1 []::l) hH aB (by rw[YH,BD p5];rfl) (fun e he d hd=>by
    rcases ε.1 he with rfl|he
    ·simp only[ε,θ,or_false] at hd
     rcases hd with rfl|rfl|rfl|rfl|rfl|rfl|rfl<;>rfl
    ·exact xC p5 e he d hd) (fun k hk=>by rw[←bV];exact ye k hk) (n:=16) (by decide)
   refine ag.ret ⟨rx,_,_,_,rfl,aj hfz,⟨s3,⟨by omega,by omega,by omega,k7,_,rfl,?_,by simp only[δ];omega,.inr ⟨by omega,by simp only[δ];omega⟩⟩,cj.aq bV ((hH.drop 1).erase 2)⟩⟩;intro n hn
   rcases ε.1 hn with rfl|hn
   ·exact⟨rfl,by simp[BF],by simp[BF]⟩
   ·exact p5 n hn
  ·refine qD rfl (by simp[y_]) ?_;refine zQ 4 ?_;refine ag.ret ⟨rx,_,_,_,rfl,aj (rfl),?_⟩;exact⟨s2,ke h1 h2 (by omega) h4 y_,cj.aq bV (hH.erase 2)⟩
def uF (fr:Go.V.Fr) (k:Nat):Go.V.D:=Go.V.nth .bI fr.loc k
theorem Ny (hA:∀m',m'+1=m→ra m') (ba:pP gs dt) (he:s.e=0) (hi:s.i≤gs.length) (hg:s.g≤4) (ho:s.o+m=20) (hH:Has N S s0 (.box k (.mem 0 false (bt gs cU s))::.aF cU 1 (dt.map az)::H)):
  ∃d ai,Ev pv 186 [.ptr k 0 0] s0 d ai∧∃(s':iV),Cv gs s s' d∧Has N S ai (.box k (.mem 0 false (bt gs cU s'))::.aF cU 1 (dt.map az)::H):=by
 have yh:=ba.gl;have fT:=ba.pl;refine Ev.eN rfl Xi rfl rfl rfl ?_;refine zE ?_;have cj:=hH;have hH:=hH.bE;have bV:(ae .rw s0).bs=s0.bs:=rfl;generalize ae .rw s0=S2 at*;have PE:Arg N S2 2 (gY gs) (gs.map bD):=Arg.pure (fun st=>gC st gs);refine zQ 8 ?_;have hH:Has N S2 S2 (.box k (.mem 0 false (bt gs cU s))::.aF cU 1 (dt.map az)::.aF .nul 1 (([]:List (List fX)).map gL)::H):=tD (hH.fW 1);refine zQ 2 ?_;refine ag.loop (fun mm fr st=>∃(s1:iV) (pd:D) (parts:List (List fX)),fr.clean=⟨4,[.ptr k 0 0,uF fr 1,uF fr 2,pd],[]⟩∧Has N S2 st (.box k (.mem 0 false (bt gs cU s1))::.aF cU 1 (dt.map az)::.aF pd 1 (parts.map gL)::H)∧(s1.o=s.o)∧(s1.g≤4)∧(s.i≤s1.i)∧(s1.i≤gs.length)∧(∀l∈parts,∀n∈l,CC n)∧(jz parts+parts.length≤4*(s1.i-s.i)+2)∧(s1.e=0→jz parts+parts.length≤4*(s1.i-s.i))∧(gs.length-s1.i+(if s1.e=0 then 1 else 0)≤mm)) (gs.length+1) ?_ ?_
 ·exact⟨s,.nul,[],rfl,hH,rfl,hg,Q5 _,hi,fun l hl=>(by cases hl),by simp[jz],fun _=>by simp[jz],by split<;>omega⟩
 rintro mm fr st ⟨s1,pd,parts,hfr,hH,h1,h2,h3,h4,h5,h6,h7,E9⟩;rw[hfr];clear hfr;generalize uF fr=ee;clear fr
 have yi:∀st:St,Has N S2 st (.box k (.mem 0 false (bt gs cU s1))::.aF cU 1 (dt.map az)::.aF pd 1 (parts.map gL)::H)→∃d,Ev pv 188 [.int .i64 3,pd] st d st∧Cv gs s s1 d∧∃l,d=Cw l:=by
  intro st hH;obtain⟨_,ax,l,rfl,j1,j2,j3⟩:=Aq 3 (hH.rows a_) h5 (by omega) (by omega);refine⟨_,ax,⟨h1,h2,h3,h4,l,rfl,j1,?_⟩,l,rfl⟩
  by_cases q1:parts.length=1
  ·have:=j2 q1;omega
  ·by_cases q0:parts.length=0
   ·have:parts=[]:=Γ.1 q0;rw[this] at j3 h6;simp[jz] at j3 h6;omega
   ·omega
 by_cases jY:s1.e=0
 ·rw[if_pos jY] at E9;have h7:=h7 jY;have cK:(s1.e==0)=true:=by simpa using jY
  by_cases hlt:s1.i<gs.length
  ·have dz:decide (((s1.i:Nat):Int)<((gs.length:Nat):Int))=true:=by rw[decide_eq_true_eq];omega
   cases fI:(!nL gs s1.i 124) with
   |false=>
    refine zQ 17 ?_;refine qn ?_ (hg:=wi cK);simp only[η];refine zQ 4 ?_;obtain⟨_,st,ax,rfl,hH⟩:=vw (s:=s1) (by omega) 124 hH;refine qv ax ?_ (hg:=wi dz);refine zQ 17 ?_;obtain⟨_,Mt,hQ,l,rfl⟩:=yi _ hH;refine zQ 3 ?_;refine qv (Mt) ?_;refine zQ 2 ?_;refine ag.ret ⟨rx,_,_,_,rfl,aj (rfl),?_⟩;exact⟨s1,hQ,cj.aq bV (hH.erase 2)⟩
   |true=>
    cases fH:nL gs s1.i 41 with
    |false=>
     refine zQ 17 ?_;refine qn ?_ (hg:=wi cK);simp only[η];refine zQ 4 ?_;obtain⟨_,st,ax,rfl,hH⟩:=vw (s:=s1) (by omega) 124 hH;refine qv ax ?_ (hg:=wi dz);refine zQ 4 ?_;obtain⟨_,st,ax,rfl,hH⟩:=vw (s:=s1) (by omega) 41 hH;refine qv ax ?_ (hg:=wi fI);refine zQ 6 ?_;refine Φ (af rfl rfl rfl fI) rfl fH (aa rfl _) ?_;refine zQ 9 ?_;obtain⟨_,st,ax,s2,⟨r1,r2,r3,r4,l,rfl,r5,r6,r7⟩,hH⟩:=K1 hA ba (s:=s1) jY hlt h2 (by omega) hH;refine qv ax ?_;refine qh (s:=1) (vs:=[_]) hH fun k41 st VC hH=>?_;dsimp only[u2,u1,u3,u4,setMany,u5,u6,ν,γ,bt,bD,az,aw,gL] at hH;refine ki (s:=1) hH rfl (ev rfl) (ev rfl) (by exact bh) (by exact hH.rows (by exact aB)) rfl rfl rfl rfl rfl rfl rfl ⟨(ζ rfl),(ζ rfl)⟩ (fun _=>(aa rfl _)) (by simp only[δ,κ,η]<;>omega) (by exact .inr rfl) (fun TY st hH=>?_);dsimp only[u2,u1,u3,u4,setMany,u5,u6,ν,γ,bt,bD,az,aw,gL] at hH;refine zQ 2 ?_;have hH:=hH.drop 1;refine⟨mm-1,by omega,⟨s2,TY,parts++[l],rfl,(by rw[Δ];exact hH),by omega,r2,by omega,r4,?_,by rw[fY,μ];simp only[jz,δ,κ];omega,(fun e=>by rw[fY,μ];simp only[jz,δ,κ];omega),by split<;>omega⟩⟩;intro l' j7
     rcases ξ.1 j7 with j7|j7
     ·exact h5 l' j7
     ·simp only[ε,θ,or_false] at j7;subst j7;exact r5
    |true=>
     refine zQ 17 ?_;refine qn ?_ (hg:=wi cK);simp only[η];refine zQ 4 ?_;obtain⟨_,st,ax,rfl,hH⟩:=vw (s:=s1) (by omega) 124 hH;refine qv ax ?_ (hg:=wi dz);refine zQ 4 ?_;obtain⟨_,st,ax,rfl,hH⟩:=vw (s:=s1) (by omega) 41 hH;refine qv ax ?_ (hg:=wi fI);refine zQ 6 ?_;refine Wh (af rfl rfl rfl fI) rfl fH (aa rfl _) ?_;refine zQ 3 ?_
     by_cases jD:0<s1.o
     ·have lh:(!decide (((s1.o:Nat):Int)>0))=false:=by rw[decide_eq_true (by omega)];rfl
      refine qE rfl (by rw[lh]) ?_;refine zQ 1 ?_;obtain⟨_,Mt,hQ,l,rfl⟩:=yi _ hH;refine zQ 3 ?_;refine qv (Mt) ?_;refine zQ 2 ?_;refine ag.ret ⟨rx,_,_,_,rfl,aj (rfl),?_⟩;exact⟨s1,hQ,cj.aq bV (hH.erase 2)⟩
     ·have lh:(!decide (((s1.o:Nat):Int)>0))=true:=by rw[decide_eq_false (by omega)];rfl
      refine qD rfl (by rw[lh]) ?_;refine zQ 5 ?_;obtain⟨_,st,ax,s2,⟨r1,r2,r3,r4,l,rfl,r5,r6,r7⟩,hH⟩:=K1 hA ba (s:=s1) jY hlt h2 (by omega) hH;refine qv ax ?_;refine qh (s:=1) (vs:=[_]) hH fun k41 st VC hH=>?_;dsimp only[u2,u1,u3,u4,setMany,u5,u6,ν,γ,bt,bD,az,aw,gL] at hH;refine ki (s:=1) hH rfl (ev rfl) (ev rfl) (by exact bh) (by exact hH.rows (by exact aB)) rfl rfl rfl rfl rfl rfl rfl ⟨(ζ rfl),(ζ rfl)⟩ (fun _=>(aa rfl _)) (by simp only[δ,κ,η]<;>omega) (by exact .inr rfl) (fun TY st hH=>?_);dsimp only[u2,u1,u3,u4,setMany,u5,u6,ν,γ,bt,bD,az,aw,gL] at hH;refine zQ 2 ?_;have hH:=hH.drop 1;refine⟨mm-1,by omega,⟨s2,TY,parts++[l],rfl,(by rw[Δ];exact hH),by omega,r2,by omega,r4,?_,by rw[fY,μ];simp only[jz,δ,κ];omega,(fun e=>by rw[fY,μ];simp only[jz,δ,κ];omega),by split<;>omega⟩⟩;intro l' j7
      rcases ξ.1 j7 with j7|j7
      ·exact h5 l' j7
      ·simp only[ε,θ,or_false] at j7;subst j7;exact r5
  ·have dz:decide (((s1.i:Nat):Int)<((gs.length:Nat):Int))=false:=by rw[decide_eq_false_iff_not];omega
   refine zQ 17 ?_;refine qn ?_ (hg:=wi cK);simp only[η];refine zQ 22 ?_;obtain⟨_,Mt,hQ,l,rfl⟩:=yi _ hH;refine zQ 3 ?_;refine qv (Mt) ?_;refine zQ 2 ?_;refine ag.ret ⟨rx,_,_,_,rfl,aj (rfl),?_⟩;exact⟨s1,hQ,cj.aq bV (hH.erase 2)⟩
 ·have cK:(s1.e==0)=false:=by simpa using jY
  refine zQ 40 ?_;obtain⟨_,Mt,hQ,l,rfl⟩:=yi _ hH;refine zQ 3 ?_;refine qv (Mt) ?_;refine zQ 2 ?_;refine ag.ret ⟨rx,_,_,_,rfl,aj (rfl),?_⟩;exact⟨s1,hQ,cj.aq bV (hH.erase 2)⟩
theorem Qo:∀m:Nat,ra m:=by
 intro m
 induction m using Nat.strongRecOn with
 |ind m ih0=>
 have hA:∀m',m'+1=m→ra m':=fun m' h=>ih0 m' (by omega);intro N k S s0 H gs cU dt s ba he hi hg ho hH;have yh:=ba.gl;have fT:=ba.pl;refine Ev.eN rfl XR rfl rfl rfl ?_;refine zE ?_;have cj:=hH;have hH:=hH.bE;have bV:(ae .rw s0).bs=s0.bs:=rfl;generalize ae .rw s0=S2 at*;refine zQ 7 ?_;obtain⟨_,st,ax,s1,⟨p1,p2,p3,p4,l,rfl,p5,p6⟩,hH⟩:=Ny hA ba he hi hg ho hH;refine qv ax ?_;refine qh (s:=1) (vs:=[_]) hH fun k6 st Gj hH=>?_;dsimp only[u2,u1,u3,u4,setMany,u5,u6,ν,γ,bt,bD,az,aw,gL] at hH;refine zQ 2 ?_;have hH:Has N S2 st (.box k (.mem 0 false (bt gs cU s1))::.aF cU 1 (dt.map az)::.aF (.win k6 0 0 1 1) 1 ([l].map gL)::H):=tD hH;refine zQ 2 ?_;refine ag.loop (fun mm fr st=>∃(s1:iV) (pd:D) (parts:List (List fX)),fr.clean=⟨4,[.ptr k 0 0,uF fr 1,uF fr 2,pd],[]⟩∧Has N S2 st (.box k (.mem 0 false (bt gs cU s1))::.aF cU 1 (dt.map az)::.aF pd 1 (parts.map gL)::H)∧(s1.o=s.o)∧(s1.g≤4)∧(s.i≤s1.i)∧(s1.i≤gs.length)∧(∀l∈parts,∀n∈l,CC n)∧(jz parts+3*parts.length≤4*(s1.i-s.i)+4)∧(1≤parts.length)∧(gs.length-s1.i≤mm)) (gs.length) ?_ ?_
 ·exact⟨s1,.win k6 0 0 1 1,[l],rfl,hH,p1,p2,p3,p4,(fun l' j7=>by simp only[ε,θ,or_false] at j7;subst j7;exact p5),by simp only[jz,δ,κ];omega,by simp,by omega⟩
 rintro mm fr st ⟨s1,pd,parts,hfr,hH,h1,h2,h3,h4,h5,h6,h8,E9⟩;rw[hfr];clear hfr;generalize uF fr=ee;clear fr
 have yi:∀st:St,Has N S2 st (.box k (.mem 0 false (bt gs cU s1))::.aF cU 1 (dt.map az)::.aF pd 1 (parts.map gL)::H)→∃d,Ev pv 188 [.int .i64 4,pd] st d st∧Cv gs s s1 d∧∃l,d=Cw l:=by
  intro st hH;obtain⟨_,ax,l,rfl,j1,j2,j3⟩:=Aq 4 (hH.rows a_) h5 (by omega) (by omega);refine⟨_,ax,⟨h1,h2,h3,h4,l,rfl,j1,?_⟩,l,rfl⟩
  by_cases q1:parts.length=1
  ·have:=j2 q1;omega
  ·omega
 by_cases jY:s1.e=0
 ·have cK:(s1.e==0)=true:=by simpa using jY
  obtain⟨k1,k2,k3,k4,k5⟩:=kU (gs:=gs) (s:=s1) (r:=124);have k5:=k5 h4;refine zQ 10 ?_;obtain⟨_,st,ax,rfl,hH⟩:=gI (s:=s1) (by omega) 124 hH;refine qv ax ?_ (hg:=wi cK);refine zQ 2 ?_
  cases hb:nL gs s1.i 124 with
  |false=>
   rw[v_ hb] at hH;refine zQ 2 ?_;obtain⟨_,Mt,hQ,l,rfl⟩:=yi _ hH;refine zQ 3 ?_;refine qv (Mt) ?_;refine zQ 2 ?_;refine ag.ret ⟨rx,_,_,_,rfl,aj (rfl),?_⟩;exact⟨s1,hQ,cj.aq bV (hH.erase 2)⟩
  |true=>
   have k6:=sk hb;generalize eW gs s1 124=s2 at*;refine zQ 6 ?_;obtain⟨_,st,ax,s3,⟨r1,r2,r3,r4,l,rfl,r5,r6⟩,hH⟩:=Ny hA ba (s:=s2) (by omega) k5 (by omega) (by omega) hH;refine qv ax ?_;refine qh (s:=1) (vs:=[_]) hH fun k19 st SD hH=>?_;dsimp only[u2,u1,u3,u4,setMany,u5,u6,ν,γ,bt,bD,az,aw,gL] at hH;refine ki (s:=1) hH rfl (ev rfl) (ev rfl) (by exact bh) (by exact hH.rows (by exact aB)) rfl rfl rfl rfl rfl rfl rfl ⟨(ζ rfl),(ζ rfl)⟩ (fun _=>(aa rfl _)) (by simp only[δ,κ,η]<;>omega) (by exact .inr rfl) (fun x20 st hH=>?_);dsimp only[u2,u1,u3,u4,setMany,u5,u6,ν,γ,bt,bD,az,aw,gL] at hH;refine zQ 2 ?_;have hH:=hH.drop 1;refine⟨mm-1,by omega,⟨s3,x20,parts++[l],rfl,(by rw[Δ];exact hH),by omega,r2,by omega,r4,?_,by rw[fY,μ];simp only[jz,δ,κ];omega,by rw[μ];omega,by omega⟩⟩;intro l' j7
   rcases ξ.1 j7 with j7|j7
   ·exact h5 l' j7
   ·simp only[ε,θ,or_false] at j7;subst j7;exact r5
 ·have cK:(s1.e==0)=false:=by simpa using jY
  refine zQ 15 ?_;obtain⟨_,Mt,hQ,l,rfl⟩:=yi _ hH;refine zQ 3 ?_;refine qv (Mt) ?_;refine zQ 2 ?_;refine ag.ret ⟨rx,_,_,_,rfl,aj (rfl),?_⟩;exact⟨s1,hQ,cj.aq bV (hH.erase 2)⟩
theorem NM:∀(n:Nat) (b:List UInt8),b.length≤n→(yW b).length≤b.length∧∀g∈yW b,g.2≤b.length:=by
 intro n
 induction n with
 |zero=>
  intro b hb;have:b=[]:=Γ.1 (by omega);subst this;rw[yV];exact⟨Q5 _,fun g hg=>by cases hg⟩
 |succ n ih=>
  intro b hb
  by_cases h:b=[]
  ·subst h;rw[yV];exact⟨Q5 _,fun g hg=>by cases hg⟩
  ·have hp:=kK b;have hl:=wm h;obtain⟨h1,h2⟩:=ih (b.drop (fF b).2) (by rw[Y'];omega);rw[Y'] at h1 h2;rw[A9 h];refine⟨by rw[δ];omega,fun g hg=>?_⟩
   rcases ε.1 hg with rfl|hg
   ·exact hl
   ·have:=h2 g hg;omega
def cy (fr:Go.V.Fr) (k:Nat):Go.V.D:=Go.V.nth .bI fr.loc k
def Ty (d:D):Prop:=∃(l:List fX) (e w:Int),d=.tup [Cw l,.int .i64 e,.int .i64 w]∧(∀n∈l,CC n)∧l.length≤500
theorem Lf {b:List UInt8} (hbl:b.length≤1048576):∃d,Ev pv 68 [.str b] s0 d s0∧Ty d:=by
 obtain⟨yh,hgs⟩:=NM _ b (Q5 _);have ax:∀(st:St) (x:D),Bytes st x b→Ev pv 132 [x] st (gY (yW b)) st:=fun st x h=>Tq h hbl;generalize yW b=gs at*;refine Ev.FP rfl abF rfl rfl rfl ?_;refine zE ?_;obtain⟨aN,hF,hH⟩:=ri s0;generalize ae .ro s0=S at*;have PE:Arg s0.bs.length S 2 (gY gs) (gs.map bD):=Arg.pure (fun st=>gC st gs);refine zQ 10 ?_;refine ab.oV rfl rfl rfl (by dsimp only[Fr.put,u1,u2]<;>rfl) ?_;refine zQ 2 ?_
 by_cases acv:120<b.length
 ·have lh:decide (((b.length:Nat):Int)>120)=true:=by rw[decide_eq_true_eq];omega
  refine qD rfl (by rw[lh]) ?_;refine zQ 6 ?_;refine ag.ret ⟨rx,_,_,rfl,rl aN hH (rfl),?_⟩;exact⟨[],2,0,rfl,fun n hn=>(by cases hn),by simp⟩
 have lh:decide (((b.length:Nat):Int)>120)=false:=by rw[decide_eq_false_iff_not];omega
 refine qE rfl (by rw[lh]) ?_;refine zQ 4 ?_;refine ab.Gs hH rfl rfl rfl rfl rfl (by omega) (fun _=>by dsimp only[Fr.put,u1,u2]<;>rfl) (fun k14 st PC hH=>?_);refine qv ((ax _ _ (hH.rows aB))) ?_;refine wt (d:=.agg [gY gs,.nul,.int .i64 0,.int .i64 0,.int .i64 0,.int .i64 0,.int .i64 0]) (st1:=_) rfl rfl rfl (by dsimp only[Fr.put,u1,u2]<;>rfl) ?_;refine qb hH fun k17 st SF hH=>?_;refine zQ 13 ?_;refine qn ?_;simp only[η];refine zQ 2 ?_;have hH:Has s0.bs.length S st (.box k17 (.mem 0 false [gY gs,.nul,.int .i64 0,.int .i64 0,.int .i64 0,.int .i64 0,.int .i64 0])::.aF .nul 1 (([]:List Int).map az)::[]):=((hH.erase 1).fW 1).front aO;refine zQ 1 ?_;refine ag.loop (fun mm fr st=>∃(i a:Nat) (pd:D) (dt:List Int),fr.clean=⟨24,[cy fr 0,cy fr 1,cy fr 2,cy fr 3,cy fr 4,.ptr k17 0 0,.int .i64 (a:Nat),cy fr 7,cy fr 8,cy fr 9,cy fr 10,cy fr 11,cy fr 12,cy fr 13,cy fr 14,cy fr 15,cy fr 16,cy fr 17,cy fr 18,cy fr 19,cy fr 20,gY gs,.int .i64 (gs.length:Nat),.int .i64 (i:Nat)],[]⟩∧Has s0.bs.length S st [.box k17 (.mem 0 false [gY gs,pd,.int .i64 0,.int .i64 0,.int .i64 0,.int .i64 0,.int .i64 0]),.aF pd 1 (dt.map az)]∧(i+mm=gs.length)∧(dt.length=i)∧(a≤120*i)) (gs.length) ?_ ?_
 ·exact⟨0,0,.nul,[],rfl,hH,by omega,rfl,by omega⟩
 rintro mm fr st ⟨i,a,pd,dt,hfr,hH,hi,fT,ha⟩;rw[hfr];clear hfr;generalize cy fr=ee;clear fr;refine zQ 4 ?_
 by_cases hlt:i<gs.length
 ·obtain⟨g,hg⟩:∃g,gs[i]?=some g:=⟨gs[i]'hlt,ρ _⟩
  have gw:(gs.map bD)[i]?=some (bD g):=by rw[YQ,hg];rfl
  have br:=hgs g (Zt hg);have oK:decide (((i:Nat):Int)<((gs.length:Nat):Int))=true:=by rw[decide_eq_true_eq];omega
  refine qq<|qD rfl (by rw[oK]) ?_;refine zQ 5 ?_;refine qr fun Ro Gd=>?_;refine ab.c_ rfl (ev rfl) (by assumption) rfl (aa rfl _) ?_;refine qa hH fun k8 st N' hH=>?_;refine qS hH aB fun st hH=>?_;dsimp only[u2,u1,u3,u4,setMany,u5,u6,ν,γ,bt,bD,az] at hH;refine zQ 9 ?_;refine qh (s:=1) (vs:=[_]) hH fun k33 st aaD hH=>?_;refine ki (s:=1) hH rfl (ev rfl) (ev rfl) (by exact bh) (by exact hH.rows (by exact aB)) rfl rfl rfl rfl rfl rfl rfl ⟨(ζ rfl),(ζ rfl)⟩ (fun _=>(aa rfl _)) (by simp only[δ,κ,η]<;>omega) (by exact .inl hF) (fun x34 st hH=>?_);dsimp only[u2,u1,u3,u4,setMany,u5,u6,ν,γ,bt,bD,az] at hH;refine zQ 2 ?_;refine qT hH a_ (fun st hH=>?_) (kZ:=hH.cX bh);dsimp only[u2,u1,u3,u4,setMany,u5,u6,ν,γ,bt,bD,az] at hH;refine zQ 5 ?_;refine ab.Yb rfl (ev rfl) (ev rfl) (by omega) (aa rfl _) ?_;refine zQ 6 ?_;exact⟨mm-1,by omega,⟨i+1,a+g.2,x34,dt++[((a:Nat):Int)],rfl,(by rw[Δ];exact hH.drop 2),by omega,by rw[μ,fT];rfl,by omega⟩⟩
 ·have oK:decide (((i:Nat):Int)<((gs.length:Nat):Int))=false:=by rw[decide_eq_false_iff_not];omega
  refine qq<|qE rfl (by rw[oK]) ?_;refine zQ 1 ?_
  have ba:pP gs dt:=⟨by omega,by omega⟩
  have hH:Has s0.bs.length S st (.box k17 (.mem 0 false (bt gs pd ⟨0,0,0,0,0⟩))::.aF pd 1 (dt.map az)::[]):=hH;refine zQ 3 ?_;obtain⟨_,st,ax,s1,⟨p1,p2,p3,p4,l,rfl,p5,p6⟩,hH⟩:=Qo 20 (s:=⟨0,0,0,0,0⟩) ba rfl (by simp) (by simp) rfl hH;refine qv ax ?_;refine zQ 2 ?_;have p6:l.length≤4*(s1.i-0)+1:=p6;refine zQ 2 ?_;refine ag.jI (fun fr st=>∃(s2:iV) (tmp:List (Nat×D)),fr=⟨24,[cy fr 0,cy fr 1,cy fr 2,cy fr 3,cy fr 4,.ptr k17 0 0,cy fr 6,cy fr 7,cy fr 8,Cw l,cy fr 10,cy fr 11,cy fr 12,cy fr 13,cy fr 14,cy fr 15,cy fr 16,cy fr 17,cy fr 18,cy fr 19,cy fr 20,cy fr 21,cy fr 22,cy fr 23],tmp⟩∧Has s0.bs.length S st (.box k17 (.mem 0 false (bt gs pd s2))::.aF pd 1 (dt.map az)::[])∧(True)) ?_ ?_
  ·by_cases jY:s1.e=0
   ·have cK:(s1.e==0)=true:=by simpa using jY
    refine zQ 15 ?_;refine qn ?_ (hg:=wi cK);simp only[η];refine zQ 3 ?_;refine zP (fun rz=>?_) fun rz=>?_
    ·refine zQ 6 ?_;obtain⟨_,st,ax,rfl,hH⟩:=fk (s:=s1) s1.i 4 (by omega) hH;refine qv ax ?_;refine zQ 1 ?_;exact⟨_,_,rfl,hH,trivial⟩
    ·refine zQ 1 ?_;exact⟨s1,_,rfl,hH,trivial⟩
   ·have cK:(s1.e==0)=false:=by simpa using jY
    refine zQ 21 ?_;exact⟨s1,_,rfl,hH,trivial⟩
  ·rintro fr st ⟨s2,tmp,hfr,hH,ht⟩;rw[hfr];clear hfr;generalize cy fr=ee;clear fr;refine zQ 9 ?_;refine ag.cond (by rfl) (fun hne=>?_) (fun hne=>?_)<;>try simp only[bne_iff_ne,bne_eq_false_iff_eq,ne_eq] at hne
   ·refine zQ 14 ?_;refine ag.ret ⟨rx,_,_,rfl,rl aN hH (rfl),?_⟩;exact⟨[],_,_,rfl,fun n hn=>(by cases hn),by simp⟩
   ·refine zQ 8 ?_;refine ag.ret ⟨rx,_,_,rfl,rl aN hH (rfl),?_⟩;exact⟨l,0,0,rfl,p5,by omega⟩
def Bx (n:fX):Bool:=((n.op==2)||((n.rs.length:Nat):Int)==0) &&((n.op==5)||((n.mn==0) &&(n.mx==0) &&!n.lz)) &&((n.op==6)||(n.cap==0))
noncomputable def iY (n:fX) (g:Int):Int×Bool:=
 if Bx n=false then(0,false)
 else if n.op=1∨n.op=7∨n.op=8 then(0,n.kids==0)
 else if n.op=2 then(0,(n.kids==0) &&gh n.rs)
 else if n.op=3∨n.op=4 then(n.kids,decide (n.kids≥2))
 else if n.op=5 then(1,(n.kids==1) &&decide (n.mn≥0) &&decide (n.mn≤30) &&((n.mx==-1)||(decide (n.mx≥n.mn) &&decide (n.mx≤30))))
 else if n.op=6 then(1,(n.kids==1) &&(n.cap==g+1) &&decide (n.cap≤4))
 else(0,false)
def nv (h:Nat→Nat→Option (Nat×Nat)):Nat→Nat→Nat→Option (Nat×Nat)
 |0,at_,g=>some (at_,g)
 |k+1,at_,g=>match h at_ g with
  |some r=>nv h k r.1 r.2
  |none=>none
noncomputable def lV (l:List fX):Nat→Nat→Nat→Option (Nat×Nat)
 |0,_,_=>none
 |f+1,at_,g=>match l[at_]? with
  |none=>none
  |some n=>if(iY n (g:Nat)).2=true then nv (lV l f) (iY n (g:Nat)).1.toNat (at_+1) (if n.op=6 then g+1 else g) else none
variable{n:fX}{g:Nat}
theorem CY (h:(iY n (g:Nat)).2=true):DA n (iY n (g:Nat)).1.toNat∧0≤(iY n (g:Nat)).1∧(n.op=6→n.cap=g+1∧n.cap≤4):=by
 unfold iY at h⊢;unfold DA
 by_cases h0:Bx n=false
 ·rw[if_pos h0] at h;cases h
 rw[if_neg h0] at h⊢
 by_cases h1:n.op=1∨n.op=7∨n.op=8
 ·rw[if_pos h1] at h⊢;simp only[beq_iff_eq] at h;exact⟨⟨h,.inl ⟨h1,rfl⟩⟩,Int.le_refl _,fun h6=>by omega⟩
 rw[if_neg h1] at h⊢
 by_cases h2:n.op=2
 ·rw[if_pos h2] at h⊢;simp only[ω,beq_iff_eq] at h;exact⟨⟨h.1,.inr (.inl ⟨h2,rfl⟩)⟩,Int.le_refl _,fun h6=>by omega⟩
 rw[if_neg h2] at h⊢
 by_cases h3:n.op=3∨n.op=4
 ·rw[if_pos h3] at h⊢;simp only[decide_eq_true_eq] at h;exact⟨⟨by simp only;omega,.inr (.inr (.inl ⟨h3,by simp only;omega⟩))⟩,by simp only;omega,fun h6=>by omega⟩
 rw[if_neg h3] at h⊢
 by_cases h5:n.op=5
 ·rw[if_pos h5] at h⊢;simp only[ω,Ψ,beq_iff_eq,decide_eq_true_eq] at h;exact⟨⟨by simp only;omega,.inr (.inr (.inr (.inl ⟨h5,by simp only;rfl,by omega,by omega,by omega⟩)))⟩,by simp only;omega,fun h6=>by omega⟩
 rw[if_neg h5] at h⊢
 by_cases h6:n.op=6
 ·rw[if_pos h6] at h⊢;simp only[ω,beq_iff_eq,decide_eq_true_eq] at h;exact⟨⟨by simp only;omega,.inr (.inr (.inr (.inr ⟨h6,by simp only;rfl,by omega,by omega⟩)))⟩,by simp only;omega,fun _=>⟨h.1.2,h.2⟩⟩
 rw[if_neg h6] at h;cases h
variable{at_:Nat}
theorem jC.cons {α:Type} {L M:List α} {a:α} (h:L[at_]?=some a) (h2:jC L (at_+1) M):jC L at_ (a::M):=by
 obtain⟨post,h2⟩:=h2;refine⟨post,?_⟩;have h3:L[at_]'(bp h)=a:=Option.some.inj ((ρ _).symm.trans h);rw[List.drop_eq_getElem_cons (bp h),h2,h3];rfl
theorem jC.append {α:Type} {L M M':List α} (h:jC L at_ M) (h2:jC L (at_+M.length) M'):jC L at_ (M++M'):=by
 obtain⟨post,h⟩:=h;obtain⟨xk,h2⟩:=h2;refine⟨xk,?_⟩;rw[←List.drop_drop,h,List.drop_left] at h2;rw[h,h2,List.append_assoc]
theorem jC.none {α:Type} (L:List α) (at_:Nat):jC L at_ []:=⟨_,rfl⟩
theorem Ap {l:List fX} {h:Nat→Nat→Option (Nat×Nat)} (ih:∀at_ g r,h at_ g=some r→∃t:Tr,t.ok∧jC l at_ t.flat∧r.1=at_+t.flat.length):∀k at_ g r,nv h k at_ g=some r→∃ts:cN,ts.len=k∧ts.ok∧jC l at_ ts.flat∧r.1=at_+ts.flat.length
 |0,at_,g,r,e=>by
  simp only[nv,Option.some.injEq] at e;subst e;exact⟨.nil,rfl,trivial,jC.none _ _,by simp[cN.flat]⟩
 |k+1,at_,g,r,e=>by
  unfold nv at e
  cases hq:h at_ g with
  |none=>rw[hq] at e;cases e
  |some q=>
   rw[hq] at e;obtain⟨t,t1,t2,t3⟩:=ih _ _ _ hq;obtain⟨ts,u1,u2,u3,u4⟩:=Ap ih k _ _ _ e;rw[t3] at u3 u4;exact⟨.cons t ts,by simp[cN.len,u1],by simp only[cN.ok];exact⟨t1,u2⟩,by simp only[cN.flat];exact t2.append u3,by rw[u4];simp only[cN.flat,μ];omega⟩
theorem Du {l:List fX}:∀f at_ g r,lV l f at_ g=some r→∃t:Tr,t.ok∧jC l at_ t.flat∧r.1=at_+t.flat.length
 |0,_,_,_,e=>by simp[lV] at e
 |f+1,at_,g,r,e=>by
  unfold lV at e
  cases hn:l[at_]? with
  |none=>rw[hn] at e;cases e
  |some n=>
   rw[hn] at e;simp only at e
   split at e
   ·rename_i hs;obtain⟨ts,u1,u2,u3,u4⟩:=Ap (Du f) _ _ _ _ e;have:=(CY hs).1;rw[←u1] at this;exact⟨.mk n ts,by simp only[Tr.ok];exact⟨this,u2⟩,by simp only[Tr.flat];exact jC.cons hn u3,by rw[u4];simp only[Tr.flat,δ];omega⟩
   ·cases e
noncomputable def kb (l:List fX):Bool:=(decide (1≤l.length) &&decide (l.length≤480)) &&(match lV l 241 0 0 with|some r=>decide (r.1=l.length)|none=>false)
variable{l:List fX}
theorem w8 (h:kb l=true):∃t:Tr,t.ok∧t.flat=l:=by
 unfold kb at h;simp only[ω] at h;obtain⟨_,h⟩:=h
 split at h
 ·rename_i r hr;obtain⟨t,h1,⟨post,h2⟩,h3⟩:=Du _ _ _ _ hr;rw[decide_eq_true_eq] at h;refine⟨t,h1,?_⟩;rw[χ] at h2;have h4:=congrArg List.length h2;rw[μ] at h4;have h5:post=[]:=Γ.1 (by omega);rw[h2,h5,List.append_nil]
 ·cases h
noncomputable def eC (l:List fX):Tr:=@dite _ (∃t:Tr,t.ok∧t.flat=l) (Classical.propDecidable _) (fun h=>Classical.choose h) (fun _=>.mk ⟨0,.nul,[],0,0,false,0,0⟩ .nil)
theorem Bg (h:kb l=true):(eC l).ok∧(eC l).flat=l:=by
 unfold eC;rw[dif_pos (w8 h)];exact Classical.choose_spec (w8 h)
theorem Qj {s:Nat}:min (cS n (min s 401) k) 401=min (cS n s k) 401:=by
 by_cases hs:s≤401
 ·rw[Nat.min_eq_left hs]
 ·have hx:min s 401=401:=by omega
  rw[hx];unfold cS
  split
  ·rfl
  ·split
   ·omega
   ·split
    ·omega
    ·split
     ·split
      ·omega
      ·by_cases h0:n.mn.toNat=0
       ·rw[h0]
        by_cases hd:n.mx.toNat-0=0
        ·rw[hd];simp
        ·have h1:=ς (401+1) (show 0<n.mx.toNat-0 by omega);have h2:=ς (s+1) (show 0<n.mx.toNat-0 by omega);omega
       ·have h1:=ς 401 (show 0<n.mn.toNat by omega);have h2:=ς s (show 0<n.mn.toNat by omega);omega
     ·omega
def iq (t:Tr) (b r:Nat):List aP:=eU 4 0 0 []::(bk t (b+1)++[eU 4 1 0 [],eU 7 (r:Nat) 0 []])
variable{b:Nat}{t:Tr}
theorem pW {r:Nat} (h:t.ok):(iq t b r).length=t.sz+3:=by
 unfold iq;rw[δ,μ,dZ t _ h];rfl
structure y7 where
 code:List aP
 ak:List Int
 e:Int
 w:Int
noncomputable def iy:List (List fX)→Nat→List aP→List Int→y7
 |[],_,c,s=>⟨c,s,0,0⟩
 |l::ls,r,c,s=>if kb l=false then⟨[],[],1,(r:Nat)⟩ else if 400<c.length+min (eC l).sz 401+3 then⟨[],[],12,(r:Nat)⟩ else iy ls (r+1) (c++iq (eC l) c.length r) (s++[((c.length:Nat):Int)])
noncomputable def cv (rules:List (List fX)):y7:=if 8<rules.length then⟨[],[],13,8⟩ else iy rules 0 [] []
def ui (code:List aP) (ak:List Int):Pg:=⟨.sl ((code.map aJ).map (ml 4)),code,HR ak,ak⟩
def nK (i:aP):Prop:=i.rd=.sl ((i.rs.map aw).map (ml 2))∧i.rs.length≤1048576
theorem sF (op x y:Int):nK (eU op x y []):=⟨rfl,by simp[eU]⟩
theorem Up (op x y:Int) {rs:List Rg} (h:rs.length≤1048576):nK (eU op x y rs):=⟨rfl,h⟩
theorem KG (s o:Nat) (lz:Bool):nK (tU s o lz):=by unfold tU;split<;>exact sF _ _ _
theorem QD (e:Nat):nK (sK e):=sF _ _ _
variable{code:List aP}
theorem F8 (h:∀i∈code,nK i):∀e∈code.map aJ,∀d∈e,dh d=true:=by
 intro e he d hd;obtain⟨q,hq,rfl⟩:=JS.1 he;have hr:=(h q hq).1;simp only[aJ,hr,ε,θ,or_false] at hd
 rcases hd with rfl|rfl|rfl|rfl<;>rfl
theorem O_ (code:List aP):∀e∈code.map aJ,e.length=4:=by
 intro e he;obtain⟨q,_,rfl⟩:=JS.1 he;rfl
theorem Le {ak:List Int} (h:∀i∈code,nK i) (h1:code.length≤1048576) (h2:ak.length≤1048576):(ui code ak).ok:=by
 refine⟨dg.frozen (O_ code) (F8 h),x9 _,fun i hi=>?_,h1,h2⟩;obtain⟨h3,h4⟩:=h i hi;refine⟨?_,h4⟩;rw[h3];exact dg.frozen (pY _) (fZ _)
theorem FB {c:Nat→List aP} {z:Nat} (hc:∀b,∀i∈c b,nK i):∀k b,∀i∈i_ c z k b,nK i
 |0,b,i,hi=>by cases hi
 |k+1,b,i,hi=>by
  simp only[i_] at hi
  rcases ξ.1 hi with hi|hi
  ·exact hc b i hi
  ·exact FB hc k _ i hi
theorem Lj {sp:Nat→aP} {c:Nat→List aP} {z:Nat} (hs:∀s,nK (sp s)) (hc:∀b,∀i∈c b,nK i):∀k b,∀i∈iL sp c z k b,nK i
 |0,b,i,hi=>by cases hi
 |k+1,b,i,hi=>by
  simp only[iL] at hi
  rcases ε.1 hi with rfl|hi
  ·exact hs _
  ·rcases ξ.1 hi with hi|hi
   ·exact hc _ i hi
   ·exact Lj hs hc k _ i hi
mutual
theorem wB:∀(t:Tr) (b:Nat),(∀n∈t.flat,n.rs.length≤1048576)→∀i∈bk t b,nK i
 | .mk n ks,b,h,i,hi=>by
  simp only[Tr.flat] at h;have hn:=h n (List.mem_cons_self ..);have hk:∀n∈ks.flat,n.rs.length≤1048576:=fun m hm=>h m (List.mem_cons_of_mem _ hm);have hc:=fun b=>Nz ks b hk;have ha:=fun jp (hj:nK jp) b=>NK jp hj ks b hk;simp only[bk] at hi
  split at hi
  ·simp only[ε,θ,or_false] at hi;subst hi;exact Up _ _ _ hn
  split at hi
  ·simp only[ε,θ,or_false] at hi;subst hi;exact sF _ _ _
  split at hi
  ·simp only[ε,θ,or_false] at hi;subst hi;exact sF _ _ _
  split at hi
  ·exact hc b i hi
  split at hi
  ·exact ha _ (QD _) b i hi
  split at hi
  ·unfold t_ at hi
   split at hi
   ·rcases ξ.1 hi with hi|hi
    ·exact FB hc _ _ i hi
    ·rcases ε.1 hi with rfl|hi
     ·exact KG _ _ _
     ·rcases ξ.1 hi with hi|hi
      ·exact hc _ i hi
      ·simp only[ε,θ,or_false] at hi;subst hi;exact QD _
   ·rcases ξ.1 hi with hi|hi
    ·exact FB hc _ _ i hi
    ·exact Lj (fun s=>KG _ _ _) hc _ _ i hi
  split at hi
  ·rcases ε.1 hi with rfl|hi
   ·exact sF _ _ _
   ·rcases ξ.1 hi with hi|hi
    ·exact hc _ i hi
    ·simp only[ε,θ,or_false] at hi;subst hi;exact sF _ _ _
  ·cases hi
theorem Nz:∀(ts:cN) (b:Nat),(∀n∈ts.flat,n.rs.length≤1048576)→∀i∈jR ts b,nK i
 | .nil,b,_,i,hi=>by simp[jR] at hi
 | .cons t ts,b,h,i,hi=>by
  simp only[cN.flat] at h;simp only[jR] at hi
  rcases ξ.1 hi with hi|hi
  ·exact wB t b (fun n hn=>h n (Zn _ hn)) i hi
  ·exact Nz ts _ (fun n hn=>h n (Z5 _ hn)) i hi
theorem NK (jp:aP) (hj:nK jp):∀(ts:cN) (b:Nat),(∀n∈ts.flat,n.rs.length≤1048576)→∀i∈ij jp ts b,nK i
 | .nil,b,_,i,hi=>by simp[ij] at hi
 | .cons t ts,b,h,i,hi=>by
  simp only[cN.flat] at h;have h1:∀n∈t.flat,n.rs.length≤1048576:=fun n hn=>h n (Zn _ hn);have h2:∀n∈ts.flat,n.rs.length≤1048576:=fun n hn=>h n (Z5 _ hn);simp only[ij] at hi
  split at hi
  ·exact wB t b h1 i hi
  ·rcases ε.1 hi with rfl|hi
   ·exact KG _ _ _
   ·rcases ξ.1 hi with hi|hi
    ·exact wB t _ h1 i hi
    ·rcases ε.1 hi with rfl|hi
     ·exact hj
     ·exact NK jp hj ts _ h2 i hi
end
theorem OI {r:Nat} (h:∀n∈t.flat,n.rs.length≤1048576):∀i∈iq t b r,nK i:=by
 intro i hi;unfold iq at hi
 rcases ε.1 hi with rfl|hi
 ·exact sF _ _ _
 ·rcases ξ.1 hi with hi|hi
  ·exact wB t _ h i hi
  ·simp only[ε,θ,or_false] at hi
   rcases hi with rfl|rfl
   ·exact sF _ _ _
   ·exact sF _ _ _
def uE (fr:Go.V.Fr) (k:Nat):Go.V.D:=Go.V.nth .bI fr.loc k
theorem La (hn:n.ok):Ev pv 249 [.agg (ch n)] s0 (.bool (Bx n)) s0:=by
 refine Ev.gP rfl WL rfl rfl rfl ?_;refine zE ?_;obtain⟨aN,hF,hH⟩:=ri s0;generalize ae .ro s0=S at*;have Gb:=hn.1.arg s0.bs.length S;have sQ:=hn.2.1;refine zQ 2 ?_;refine qb hH fun k1 st rj hH=>?_;dsimp only[u2,u1,u3,u4,setMany,u5,u6,ν,γ,ch] at hH;refine zQ 10 ?_;refine ag.oM 2 (.bool (((n.op==2)||((n.rs.length:Nat):Int)==0) &&((n.op==5)||((n.mn==0) &&(n.mx==0) &&!n.lz)) &&((n.op==6)||(n.cap==0)))) [] ?_ (fun ff tmp=>?_)
 ·refine zQ 4 ?_;refine π 10 rfl (fun bZ=>?_) (fun bZ=>?_)
  ·refine zQ 8 ?_;refine π 18 rfl (fun ck=>?_) (fun ck=>?_)
   ·refine zQ 20 ?_;refine π 38 rfl (fun oh=>?_) (fun oh=>?_)
    ·refine zQ 6 ?_;refine ο (bu ?_);refine zG ?_
     all_goals(simp[bZ,ck,oh];done)
    ·refine zQ 6 ?_;refine ο (bu ?_);refine zG ?_
     all_goals(simp[bZ,ck,oh];done)
   ·refine zQ 4 ?_;refine π 22 rfl (fun py=>?_) (fun py=>?_)
    ·refine zQ 3 ?_;refine Wh (af rfl rfl rfl ck) rfl py (aa rfl _) ?_;refine zQ 1 ?_;refine π 27 rfl (fun rQ=>?_) (fun rQ=>?_)
     ·refine zQ 3 ?_;refine Wh (af rfl rfl rfl ck) rfl rQ (aa rfl _) ?_;refine zQ 3 ?_;refine π 34 rfl (fun uL=>?_) (fun uL=>?_)
      ·refine zQ 4 ?_;refine π 38 rfl (fun oh=>?_) (fun oh=>?_)
       ·refine zQ 3 ?_;refine Wh (af rfl rfl rfl uL) rfl oh (aa rfl _) ?_;refine zQ 2 ?_;refine ο (bu ?_);refine zG ?_
        all_goals(simp[bZ,ck,py,rQ,uL,oh];done)
       ·refine zQ 3 ?_;refine Φ (af rfl rfl rfl uL) rfl oh (aa rfl _) ?_;refine zQ 2 ?_;refine ο (bu ?_);refine zG ?_
        all_goals(simp[bZ,ck,py,rQ,uL,oh];done)
      ·refine zQ 10 ?_;refine ο (bu ?_);refine zG ?_
       all_goals(simp[bZ,ck,py,rQ,uL];done)
     ·refine zQ 3 ?_;refine Φ (af rfl rfl rfl ck) rfl rQ (aa rfl _) ?_;refine zQ 13 ?_;refine ο (bu ?_);refine zG ?_
      all_goals(simp[bZ,ck,py,rQ];done)
    ·refine zQ 3 ?_;refine Φ (af rfl rfl rfl ck) rfl py (aa rfl _) ?_;refine zQ 18 ?_;refine ο (bu ?_);refine zG ?_
     all_goals(simp[bZ,ck,py];done)
  ·refine zQ 2 ?_;refine qn ?_ (hg:=wi bZ);simp only[η];refine zQ 3 ?_;refine π 16 rfl (fun gk=>?_) (fun gk=>?_)
   ·refine zQ 2 ?_;refine π 18 rfl (fun ck=>?_) (fun ck=>?_)
    ·refine zQ 13 ?_;refine Wh (af rfl rfl rfl gk) rfl ck (aa rfl _) ?_;refine zQ 6 ?_;refine π 38 rfl (fun oh=>?_) (fun oh=>?_)
     ·refine zQ 6 ?_;refine ο (bu ?_);refine zG ?_
      all_goals(simp[bZ,gk,ck,oh];done)
     ·refine zQ 6 ?_;refine ο (bu ?_);refine zG ?_
      all_goals(simp[bZ,gk,ck,oh];done)
    ·refine zQ 4 ?_;refine π 22 rfl (fun py=>?_) (fun py=>?_)
     ·refine zQ 3 ?_;refine Wh (af rfl rfl rfl ck) rfl py (aa rfl _) ?_;refine zQ 1 ?_;refine π 27 rfl (fun rQ=>?_) (fun rQ=>?_)
      ·refine zQ 3 ?_;refine Wh (af rfl rfl rfl ck) rfl rQ (aa rfl _) ?_;refine Φ (af rfl rfl rfl gk) rfl ck (aa rfl _) ?_;refine zQ 2 ?_;refine π 34 rfl (fun uL=>?_) (fun uL=>?_)
       ·refine zQ 4 ?_;refine π 38 rfl (fun oh=>?_) (fun oh=>?_)
        ·refine zQ 3 ?_;refine Wh (af rfl rfl rfl uL) rfl oh (aa rfl _) ?_;refine zQ 2 ?_;refine ο (bu ?_);refine zG ?_
         all_goals(simp[bZ,gk,ck,py,rQ,uL,oh];done)
        ·refine zQ 3 ?_;refine Φ (af rfl rfl rfl uL) rfl oh (aa rfl _) ?_;refine zQ 2 ?_;refine ο (bu ?_);refine zG ?_
         all_goals(simp[bZ,gk,ck,py,rQ,uL,oh];done)
       ·refine zQ 10 ?_;refine ο (bu ?_);refine zG ?_
        all_goals(simp[bZ,gk,ck,py,rQ,uL];done)
      ·refine zQ 3 ?_;refine Φ (af rfl rfl rfl ck) rfl rQ (aa rfl _) ?_;refine Φ (af rfl rfl rfl gk) rfl ck (aa rfl _) ?_;refine zQ 12 ?_;refine ο (bu ?_);refine zG ?_
       all_goals(simp[bZ,gk,ck,py,rQ];done)
     ·refine zQ 3 ?_;refine Φ (af rfl rfl rfl ck) rfl py (aa rfl _) ?_;refine zQ 5 ?_;refine Φ (af rfl rfl rfl gk) rfl ck (aa rfl _) ?_;refine zQ 12 ?_;refine ο (bu ?_);refine zG ?_
      all_goals(simp[bZ,gk,ck,py];done)
   ·refine zQ 28 ?_;refine ο (bu ?_);refine zG ?_
    all_goals(simp[bZ,gk];done)
 dsimp only[aK,ι,nth,u2,u1];refine ag.ret ⟨rx,_,rfl,rl aN hH (rfl)⟩
theorem Fp (hn:n.ok) (hg:g≤1048576):Ev pv 221 [.agg (ch n),.int .i64 (g:Nat)] s0 (.tup [.int .i64 (iY n (g:Nat)).1,.bool (iY n (g:Nat)).2]) s0:=by
 refine Ev.gP rfl WY rfl rfl rfl ?_;refine zE ?_;obtain⟨aN,hF,hH⟩:=ri s0;generalize ae .ro s0=S at*;have Gb:=hn.1.arg s0.bs.length S;have sQ:=hn.2.1;refine zQ 2 ?_;refine qb hH fun k2 st hk2 hH=>?_;dsimp only[u2,u1,u3,u4,setMany,u5,u6,ν,γ,ch] at hH;refine zQ 6 ?_;refine v8 (m:=7) hH rfl (ev rfl) (by exact aB) (by dsimp only[υ,χ,φ,Θ,ch]<;>rfl) rfl rfl (by dsimp only[Fr.put,u1,u2]<;>rfl) ?_;refine qv (La hn) ?_;refine zQ 2 ?_;unfold iY
 cases hp:Bx n with
 |false=>
  rw[if_pos rfl];refine zQ 6 ?_;refine ag.ret ⟨rx,_,rfl,rl aN hH (rfl)⟩
 |true=>
  rw[if_neg (by simp)];refine zQ 15 ?_
  by_cases q1:n.op=1
  ·rw[if_pos (.inl q1)];refine qD rfl (by simp[q1]) ?_;refine zQ 1 ?_;refine qD rfl (by simp[q1]) ?_;refine zQ 8 ?_;refine ag.ret ⟨rx,_,rfl,rl aN hH (rfl)⟩
  refine qE rfl (by simp[q1]) ?_;refine zQ 5 ?_
  by_cases q7:n.op=7
  ·rw[if_pos (.inr (.inl q7))];refine qD rfl (by simp[q7]) ?_;refine zQ 1 ?_;refine qD rfl (by simp[q7]) ?_;refine zQ 8 ?_;refine ag.ret ⟨rx,_,rfl,rl aN hH (rfl)⟩
  refine qE rfl (by simp[q7]) ?_;refine zQ 4 ?_
  by_cases q8:n.op=8
  ·rw[if_pos (.inr (.inr q8))];refine qD rfl (by simp[q8]) ?_;refine zQ 8 ?_;refine ag.ret ⟨rx,_,rfl,rl aN hH (rfl)⟩
  refine qE rfl (by simp[q8]) ?_;rw[if_neg (by omega)];refine zQ 5 ?_;refine zI (fun q2=>?_) fun q2=>?_
  ·rw[if_pos q2];refine qq<|ag.Th [4,5] (fun ff=>ff 4=.int .i64 0∧ff 5=.bool ((n.kids==0) &&gh n.rs)) ?_ (fun ff tmp Jw=>?_)
   ·refine zQ 4 ?_;refine π 23 rfl (fun bZ=>?_) (fun bZ=>?_)
    ·refine zQ 2 ?_;refine qv (Dc (Gb.rows hH) sQ) ?_ (hg:=wi bZ);refine zQ 3 ?_;refine ο (pk ?_ ?_)
     ·dsimp only[aK,ι,nth,u2,u1]
     ·dsimp only[nth];refine zF ?_;refine⟨?_,?_⟩<;>(first|rfl|(simp[bZ];done)|(simp_all;done)|(simp[bZ];omega)|(simp_all;omega))
    ·refine zQ 6 ?_;refine ο (pk ?_ ?_)
     ·dsimp only[aK,ι,nth,u2,u1]
     ·dsimp only[nth];refine zF ?_;refine⟨?_,?_⟩<;>(first|rfl|(simp[bZ];done)|(simp_all;done)|(simp[bZ];omega)|(simp_all;omega))
   dsimp only[aK,ι,nth,u2,u1];obtain⟨MA,Mz⟩:=Jw;rw[MA,Mz];refine ag.ret ⟨rx,_,rfl,rl aN hH (rfl)⟩
  rw[if_neg q2];refine zQ 6 ?_
  by_cases q3:n.op=3
  ·rw[if_pos (.inl q3)];refine qD rfl (by simp[q3]) ?_;refine zQ 1 ?_;refine qD rfl (by simp[q3]) ?_;refine zQ 10 ?_;refine ag.ret ⟨rx,_,rfl,rl aN hH (rfl)⟩
  refine qE rfl (by simp[q3]) ?_;refine zQ 4 ?_
  by_cases q4:n.op=4
  ·rw[if_pos (.inr q4)];refine qD rfl (by simp[q4]) ?_;refine zQ 10 ?_;refine ag.ret ⟨rx,_,rfl,rl aN hH (rfl)⟩
  rw[if_neg (by omega)];refine qE rfl (by simp[q4]) ?_;refine zQ 5 ?_;refine zI (fun q5=>?_) fun q5=>?_
  ·rw[if_pos q5];refine qq<|ag.Th [4,5] (fun ff=>ff 4=.int .i64 1∧ff 5=.bool ((n.kids==1) &&decide (n.mn≥0) &&decide (n.mn≤30) &&((n.mx==-1)||(decide (n.mx≥n.mn) &&decide (n.mx≤30))))) ?_ (fun ff tmp Jw=>?_)
   ·refine zQ 4 ?_;refine π 41 rfl (fun bZ=>?_) (fun bZ=>?_)
    ·refine zQ 5 ?_;refine π 46 rfl (fun dL=>?_) (fun dL=>?_)
     ·refine zQ 5 ?_;refine π 51 rfl (fun gA=>?_) (fun gA=>?_)
      ·refine zQ 4 ?_;refine π 55 rfl (fun dz=>?_) (fun dz=>?_)
       ·refine zQ 10 ?_;refine Wh (af rfl rfl rfl gA) rfl dz (aa rfl _) ?_;refine zQ 3 ?_;refine ο (pk ?_ ?_)
        ·dsimp only[aK,ι,nth,u2,u1]
        ·dsimp only[nth];refine zF ?_;refine⟨?_,?_⟩<;>(first|rfl|(simp[bZ,dL,gA,dz];done)|(simp_all;done)|(simp[bZ,dL,gA,dz];omega)|(simp_all;omega))
       ·refine zQ 6 ?_;refine π 61 rfl (fun Gm=>?_) (fun Gm=>?_)
        ·refine zQ 3 ?_;refine Wh (af rfl rfl rfl dz) rfl Gm (aa rfl _) ?_;refine Φ (af rfl rfl rfl gA) rfl dz (aa rfl _) ?_;refine zQ 3 ?_;refine ο (pk ?_ ?_)
         ·dsimp only[aK,ι,nth,u2,u1]
         ·dsimp only[nth];refine zF ?_;refine⟨?_,?_⟩<;>(first|rfl|(simp[bZ,dL,gA,dz,Gm];done)|(simp_all;done)|(simp[bZ,dL,gA,dz,Gm];omega)|(simp_all;omega))
        ·refine zQ 3 ?_;refine Φ (af rfl rfl rfl dz) rfl Gm (aa rfl _) ?_;refine Φ (af rfl rfl rfl gA) rfl dz (aa rfl _) ?_;refine zQ 3 ?_;refine ο (pk ?_ ?_)
         ·dsimp only[aK,ι,nth,u2,u1]
         ·dsimp only[nth];refine zF ?_;refine⟨?_,?_⟩<;>(first|rfl|(simp[bZ,dL,gA,dz,Gm];done)|(simp_all;done)|(simp[bZ,dL,gA,dz,Gm];omega)|(simp_all;omega))
      ·refine zQ 18 ?_;refine ο (pk ?_ ?_)
       ·dsimp only[aK,ι,nth,u2,u1]
       ·dsimp only[nth];refine zF ?_;refine⟨?_,?_⟩<;>(first|rfl|(simp[bZ,dL,gA];done)|(simp_all;done)|(simp[bZ,dL,gA];omega)|(simp_all;omega))
     ·refine zQ 23 ?_;refine ο (pk ?_ ?_)
      ·dsimp only[aK,ι,nth,u2,u1]
      ·dsimp only[nth];refine zF ?_;refine⟨?_,?_⟩<;>(first|rfl|(simp[bZ,dL];done)|(simp_all;done)|(simp[bZ,dL];omega)|(simp_all;omega))
    ·refine zQ 28 ?_;refine ο (pk ?_ ?_)
     ·dsimp only[aK,ι,nth,u2,u1]
     ·dsimp only[nth];refine zF ?_;refine⟨?_,?_⟩<;>(first|rfl|(simp[bZ];done)|(simp_all;done)|(simp[bZ];omega)|(simp_all;omega))
   dsimp only[aK,ι,nth,u2,u1];obtain⟨MA,Mz⟩:=Jw;rw[MA,Mz];refine ag.ret ⟨rx,_,rfl,rl aN hH (rfl)⟩
  rw[if_neg q5];refine zQ 5 ?_;refine zI (fun q6=>?_) fun q6=>?_
  ·rw[if_pos q6];refine qq<|ag.Th [4,5] (fun ff=>ff 4=.int .i64 1∧ff 5=.bool ((n.kids==1) &&(n.cap==((g+1:Nat):Int)) &&decide (n.cap≤4))) ?_ (fun ff tmp Jw=>?_)
   ·refine zQ 4 ?_;refine π 73 rfl (fun bZ=>?_) (fun bZ=>?_)
    ·refine zQ 7 ?_;refine π 80 rfl (fun ek=>?_) (fun ek=>?_)
     ·refine zQ 6 ?_;refine ο (pk ?_ ?_)
      ·dsimp only[aK,ι,nth,u2,u1]
      ·dsimp only[nth];refine zF ?_;refine⟨?_,?_⟩<;>(first|rfl|(simp[bZ,ek];done)|(simp_all;done)|(simp[bZ,ek];omega)|(simp_all;omega))
     ·refine zQ 6 ?_;refine ο (pk ?_ ?_)
      ·dsimp only[aK,ι,nth,u2,u1]
      ·dsimp only[nth];refine zF ?_;refine⟨?_,?_⟩<;>(first|rfl|(simp[bZ,ek];done)|(simp_all;done)|(simp[bZ,ek];omega)|(simp_all;omega))
    ·refine zQ 13 ?_;refine ο (pk ?_ ?_)
     ·dsimp only[aK,ι,nth,u2,u1]
     ·dsimp only[nth];refine zF ?_;refine⟨?_,?_⟩<;>(first|rfl|(simp[bZ];done)|(simp_all;done)|(simp[bZ];omega)|(simp_all;omega))
   dsimp only[aK,ι,nth,u2,u1];obtain⟨MA,Mz⟩:=Jw;rw[MA,Mz];refine ag.ret ⟨rx,_,rfl,rl aN hH (rfl)⟩
  ·rw[if_neg q6];refine zQ 6 ?_;refine ag.ret ⟨rx,_,rfl,rl aN hH (rfl)⟩
theorem Dz (h:n.ok):refs (ch n)=0:=by
 have:=h.1.ref;simp only[ch,refs,D.ref,this,Nat.max_self]
def u9 (d:D) (at_ g:Nat):List D:=[d,.int .i64 (at_:Nat),.int .i64 (g:Nat)]
theorem Lo {d:D} (hl:l.length≤1048576) (hi:∀n∈l,n.ok) (hd:dg d 7 (l.map ch)):∀(f:Nat) {N k:Nat} {S s0:St} {H:List bo} {at_ g:Nat},f≤241→g≤4→Has N S s0 (.box k (.mem 0 false (u9 d at_ g))::H)→
  ∃r ai,Ev pv 189 [.ptr k 0 0,.int .i64 ((241-f:Nat):Int)] s0 r ai∧r=.bool (lV l f at_ g).isSome∧∃a' g',Has N S ai (.box k (.mem 0 false (u9 d a' g'))::H)∧g'≤4∧∀q,lV l f at_ g=some q→a'=q.1∧g'=q.2:=by
 intro f
 induction f with
 |zero=>
  intro N k S s0 H at_ g hf hg hH;refine Ev.eN rfl QY rfl rfl rfl ?_;refine zE ?_;have cj:=hH;have hH:=hH.bE;have bV:(ae .rw s0).bs=s0.bs:=rfl;generalize ae .rw s0=S2 at*;have hc:=hd.arg N S2;refine zQ 6 ?_;refine ag.dM 21 (.bool (decide ((at_:Int)≥(l.length:Nat))||decide (((241-0:Nat):Int)>240))) [] ?_ (fun ff tmp dj=>?_)
  ·refine zQ 8 ?_;refine qn ?_;simp only[η];refine zQ 2 ?_;refine π 18 rfl (fun ek=>?_) (fun ek=>?_)
   ·refine zQ 3 ?_;refine ο (aR ?_ ?_)
    ·dsimp only[aK,ι,nth,u2,u1]
     all_goals(first|rfl|simp)
    ·refine zF ?_
     all_goals(simp[ek];done)
   ·refine zQ 3 ?_;refine ο (aR ?_ ?_)
    ·dsimp only[aK,ι,nth,u2,u1]
     all_goals(first|rfl|simp)
    ·refine zF ?_
     all_goals(simp[ek];done)
  dsimp only[aK,ι,nth,u2,u1];have hT:(decide ((at_:Int)≥(l.length:Nat))||decide (((241-0:Nat):Int)>240))=true:=by simp
  rw[hT] at dj;refine zQ 5 ?_;refine ag.ret ⟨rx,_,_,_,rfl,aj (rfl),?_⟩;exact⟨rfl,_,_,cj.aq bV hH,hg,fun q hq=>by simp[lV] at hq⟩
 |succ f ih=>
  intro N k S s0 H at_ g hf hg hH;refine Ev.eN rfl QY rfl rfl rfl ?_;refine zE ?_;have cj:=hH;have hH:=hH.bE;have bV:(ae .rw s0).bs=s0.bs:=rfl;generalize ae .rw s0=S2 at*;have hc:=hd.arg N S2;refine zQ 6 ?_;refine ag.dM 21 (.bool (decide ((at_:Int)≥(l.length:Nat))||decide (((241-(f+1):Nat):Int)>240))) [] ?_ (fun ff tmp dj=>?_)
  ·refine zQ 8 ?_;refine qn ?_;simp only[η];refine zQ 2 ?_;refine π 18 rfl (fun ek=>?_) (fun ek=>?_)
   ·refine zQ 3 ?_;refine ο (aR ?_ ?_)
    ·dsimp only[aK,ι,nth,u2,u1]
     all_goals(first|rfl|simp)
    ·refine zF ?_
     all_goals(simp_all;done)
   ·refine zQ 3 ?_;refine ο (aR ?_ ?_)
    ·dsimp only[aK,ι,nth,u2,u1]
     all_goals(first|rfl|simp)
    ·refine zF ?_
     all_goals(simp_all;omega)
  dsimp only[aK,ι,nth,u2,u1]
  by_cases ha:l.length≤at_
  ·have hT:(decide ((at_:Int)≥(l.length:Nat))||decide (((241-(f+1):Nat):Int)>240))=true:=by
    rw[Ψ];exact .inl (by rw[decide_eq_true_eq];omega)
   rw[hT] at dj;have hn:lV l (f+1) at_ g=none:=by unfold lV;rw[List.getElem?_eq_none ha]
   rw[hn];refine zQ 5 ?_;refine ag.ret ⟨rx,_,_,_,rfl,aj (rfl),?_⟩;exact⟨rfl,_,_,cj.aq bV hH,hg,fun q hq=>by cases hq⟩
  ·have hT:(decide ((at_:Int)≥(l.length:Nat))||decide (((241-(f+1):Nat):Int)>240))=false:=by
    rw[ZD];exact⟨by rw[decide_eq_false_iff_not];omega,by rw[decide_eq_false_iff_not];omega⟩
   rw[hT] at dj
   obtain⟨n,hn⟩:∃n,l[at_]?=some n:=⟨l[at_]'(by omega),ρ _⟩
   have oQ:=hi n (Zt hn);have gw:=qF hn;have Jr:=Dz oQ
   have oc:lV l (f+1) at_ g=if(iY n (g:Nat)).2=true then nv (lV l f) (iY n (g:Nat)).1.toNat (at_+1) (if n.op=6 then g+1 else g) else none:=by
    rw[lV,hn]
   rw[oc];clear oc;refine zQ 12 ?_;refine qr fun p30 Vk=>?_;refine ab.c_ rfl (ev rfl) (by assumption) rfl (aa rfl _) ?_;refine qa hH fun k5 st Kf hH=>?_;dsimp only[u2,u1,u3,u4,setMany,u5,u6,ν,γ,u9,ch] at hH;refine ab.bQ hH rfl (ev rfl) (ev rfl) (by rfl) (by exact rfl) (by exact aB) (by exact rfl) (by exact .inr (by assumption)) (fun st hH=>?_);dsimp only[u2,u1,u3,u4,setMany,u5,u6,ν,γ,u9,ch] at hH;refine zQ 3 ?_;refine v8 (m:=7) hH rfl (ev rfl) (by exact aB) (by dsimp only[υ,χ,φ,Θ,u9,ch]<;>rfl) rfl rfl (aa rfl _) ?_;refine zQ 4 ?_;refine qv (Fp oQ (by omega)) ?_;refine zQ 12 ?_
   cases hsh:(iY n (g:Nat)).2 with
   |false=>
    rw[if_neg (by simp)];refine zQ 5 ?_;refine ag.ret ⟨rx,_,_,_,rfl,aj (rfl),?_⟩;exact⟨rfl,_,_,cj.aq bV (hH.drop 1),hg,fun q hq=>by cases hq⟩
   |true=>
    rw[if_pos rfl];obtain⟨⟨rj,_⟩,hk2,oC⟩:=CY hsh;have QQ:=oQ.2.2;obtain⟨kd,Sz⟩:∃kd:Nat,(iY n (g:Nat)).1=(kd:Int):=Int.eq_ofNat_of_zero_le hk2;rw[Sz,Int.toNat_natCast];rw[Sz,Int.toNat_natCast] at rj;refine zQ 11 ?_;refine qT hH aO fun st hH=>?_;dsimp only[u2,u1,u3,u4,setMany,u5,u6,ν,γ,u9,ch] at hH;refine zQ 8 ?_;refine ag.merge (fun fr st=>∃(g2:Nat) (tmp:List (Nat×D)),fr=⟨8,[.ptr k 0 0,.int .i64 ((241-(f+1):Nat):Int),uE fr 2,uE fr 3,.bool false,.ptr k5 0 0,.int .i64 (kd:Nat),.bool true],tmp⟩∧Has N S2 st (.box k (.mem 0 false [d,.int .i64 ((at_+1:Nat):Int),.int .i64 (g2:Nat)])::.box k5 (.mem 0 false (ch n))::H)∧(g2=if n.op=6 then g+1 else g)∧(g2≤4)) ?_ ?_
    ·refine zI (fun q6=>?_) fun q6=>?_
     ·have:=oC q6;refine zQ 8 ?_;refine qT hH aO fun st hH=>?_;dsimp only[u2,u1,u3,u4,setMany,u5,u6,ν,γ,u9,ch] at hH;refine zQ 1 ?_;exact⟨g+1,_,rfl,(by have:=hH.front aO;exact this),by rw[if_pos q6],by omega⟩
     ·refine zQ 1 ?_;exact⟨g,_,rfl,(by have:=hH.front aO;exact this),by rw[if_neg q6],hg⟩
    ·rintro fr st ⟨g2,tmp,hfr,hH,br,bZ⟩;rw[hfr];clear hfr;generalize uE fr=ee;clear fr;rw[←br];refine zQ 2 ?_;refine ag.loop (fun mm fr st=>∃(kk a2 g4:Nat),fr.clean=⟨8,[.ptr k 0 0,.int .i64 ((241-(f+1):Nat):Int),uE fr 2,uE fr 3,.bool false,.ptr k5 0 0,.int .i64 (kk:Nat),.bool true],[]⟩∧Has N S2 st (.box k (.mem 0 false [d,.int .i64 (a2:Nat),.int .i64 (g4:Nat)])::.box k5 (.mem 0 false (ch n))::H)∧(nv (lV l f) kk a2 g4=nv (lV l f) kd (at_+1) g2)∧(g4≤4)∧(kk=mm)∧(kk≤9223372036854775807)) (kd) ?_ ?_
     ·exact⟨kd,at_+1,g2,rfl,hH,rfl,bZ,rfl,by omega⟩
     rintro mm fr st ⟨kk,a2,g4,hfr,hH,hX,cK,N_,hkk⟩;rw[hfr];clear hfr;generalize uE fr=ee;clear fr;refine zQ 6 ?_
     cases kk with
     |zero=>
      refine ag.cond (v:=false) (by dsimp only[Fr.ev,Fr.get,nth,V.look];rfl) (fun h=>by cases h) (fun _=>?_);refine zQ 5 ?_;refine ag.ret ⟨rx,_,_,_,rfl,aj (rfl),?_⟩;exact⟨by rw[←hX];rfl,_,_,cj.aq bV (hH.erase 1),cK,fun q hq=>by rw[←hX] at hq;simp only[nv,Option.some.injEq] at hq;subst hq;exact⟨rfl,rfl⟩⟩
     |succ kk=>
      rw[nv] at hX;refine qD rfl (by simp) ?_;refine zQ 7 ?_;refine ab.e_ (z:=((241-f:Nat):Int)) rfl (ev rfl) (ev rfl) (by(try simp only[Ξ,δ,κ,μ,η,Ω]);rw[wrap_i64 (by omega) (by omega)]<;>omega) (aa rfl _) ?_;obtain⟨_,st,ax,rfl,a',g',hH,gR,hq⟩:=ih (at_:=a2) (g:=g4) (by omega) cK hH;refine qv ax ?_;refine zQ 2 ?_
      cases ho:lV l f a2 g4 with
      |none=>
       rw[ho] at hX;refine zQ 5 ?_;refine ag.ret ⟨rx,_,_,_,rfl,aj (rfl),?_⟩;exact⟨by rw[←hX];rfl,_,_,cj.aq bV (hH.erase 1),gR,fun q hq=>by rw[←hX] at hq;cases hq⟩
      |some q=>
       rw[ho] at hX;obtain⟨rfl,rfl⟩:=hq q ho;refine zQ 4 ?_;refine ab.gd (z:=((kk:Nat):Int)) rfl (ev rfl) (ev rfl) (by(try simp only[Ξ,δ,κ,μ,η,Ω]);rw[wrap_i64 (by omega) (by omega)]<;>omega) (aa rfl _) ?_;refine zQ 2 ?_;exact⟨mm-1,by omega,⟨kk,q.1,q.2,rfl,hH,hX,gR,by omega,by omega⟩⟩
theorem I4 {x:Nl} (hx:x.ok):Ev pv 135 [x.d] s0 (.bool (kb x.l)) s0:=by
 refine Ev.gP rfl XP rfl rfl rfl ?_;refine zE ?_;obtain⟨aN,hF,hH⟩:=ri s0;generalize ae .ro s0=S at*;have hc:=hx.c.arg s0.bs.length S;have hl:=hx.nl;have nM:=hx.c;refine zQ 6 ?_;refine ag.dM 11 (.bool (decide (((x.l.length:Nat):Int)<1)||decide (((x.l.length:Nat):Int)>480))) [] ?_ (fun ff tmp dj=>?_)
 ·refine qm ?_;refine qn ?_;simp only[η];refine zQ 2 ?_;refine π 7 rfl (fun bZ=>?_) (fun bZ=>?_)
  ·refine zQ 4 ?_;refine ο (aR ?_ ?_)
   ·dsimp only[aK,ι,nth,u2,u1]
    all_goals(first|rfl|simp)
   ·refine zF ?_
    all_goals(simp[bZ];done)
  ·refine zQ 1 ?_;refine qn ?_ (hg:=wi bZ);simp only[η];refine zQ 2 ?_;refine ο (aR ?_ ?_)
   ·dsimp only[aK,ι,nth,u2,u1]
    all_goals(first|rfl|simp)
   ·refine zF ?_
    all_goals(simp[bZ];done)
 dsimp only[aK,ι,nth,u2,u1]
 by_cases hlen:1≤x.l.length∧x.l.length≤480
 ·have hT:(decide (((x.l.length:Nat):Int)<1)||decide (((x.l.length:Nat):Int)>480))=false:=by
   rw[ZD];exact⟨by rw[decide_eq_false_iff_not];omega,by rw[decide_eq_false_iff_not];omega⟩
  rw[hT] at dj
  have hR:kb x.l=(match lV x.l 241 0 0 with|some r=>decide (r.1=x.l.length)|none=>false):=by
   unfold kb;rw[decide_eq_true hlen.1,decide_eq_true hlen.2];rfl
  rw[hR];clear hR;refine zQ 5 ?_;refine xw (qs:=[(0,_)]) rfl rfl rfl rfl ⟨rfl,(ev rfl),(by exact(dg.cells (by assumption)).1),trivial⟩ (by intro q hq;simp only[ε,θ,or_false] at hq;rcases hq with rfl<;>exact⟨rfl,by exact ζ rfl⟩) (by show ι _ [_,_,_] _=_;dsimp only[τ,ψ,u2,u1]<;>rfl) (aa rfl _) ?_;refine qb hH fun k14 st PC hH=>?_;refine zQ 2 ?_;have hH:Has s0.bs.length S st (.box k14 (.mem 0 false (u9 x.d 0 0))::[]):=hH
  cases br:(lV x.l 241 0 0).isSome with
  |true=>
   obtain⟨q,hq⟩:=Option.isSome_iff_exists.1 br;refine zQ 3 ?_;obtain⟨_,st,ax,rfl,a',g',hH,gR,Va⟩:=Lo hl hx.i hx.c 241 (by omega) (by omega) hH;refine qv ax ?_;refine zQ 6 ?_;refine qn ?_ (hg:=wi br);simp only[η];refine zQ 4 ?_;obtain⟨rfl,rfl⟩:=Va q hq;rw[hq]
   have he:decide (q.1=x.l.length)=(((q.1:Nat):Int)==((x.l.length:Nat):Int)):=by
    rw[Bool.eq_iff_iff];simp only[decide_eq_true_eq,beq_iff_eq];omega
   simp only[he];refine ag.ret ⟨rx,_,rfl,rl aN hH (rfl)⟩
  |false=>
   have hq:lV x.l 241 0 0=none:=by
    cases hq:lV x.l 241 0 0 with
    |none=>rfl
    |some q=>rw[hq] at br;cases br
   refine zQ 3 ?_;obtain⟨_,st,ax,rfl,a',g',hH,gR,Va⟩:=Lo hl hx.i hx.c 241 (by omega) (by omega) hH;refine qv ax ?_;refine zQ 11 ?_;rw[hq];refine ag.ret ⟨rx,_,rfl,rl aN hH (rfl)⟩
 ·have hT:(decide (((x.l.length:Nat):Int)<1)||decide (((x.l.length:Nat):Int)>480))=true:=by
   rw[Ψ,decide_eq_true_eq,decide_eq_true_eq];omega
  rw[hT] at dj
  have hR:kb x.l=false:=by
   unfold kb
   by_cases h1:1≤x.l.length
   ·rw[decide_eq_true h1,decide_eq_false (fun h2=>hlen ⟨h1,h2⟩)];rfl
   ·rw[decide_eq_false h1];rfl
  rw[hR];refine zQ 5 ?_;refine ag.ret ⟨rx,_,rfl,rl aN hH (rfl)⟩
end Go.Proofs.YtecjacicdpejaaaGreat
