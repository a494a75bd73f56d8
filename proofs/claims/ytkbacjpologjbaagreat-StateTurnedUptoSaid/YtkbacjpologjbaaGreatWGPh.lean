/-
 The parser of patterns: groups, one thing, how often, one behind the other, one or the other.
-/
import Derived.Test.YtkbacjpologjbaaGreatWGHr
import Derived.Test.YtkbacjpologjbaaGreatWGJi
import Derived.Test.YtkbacjpologjbaaGreatWGUa
set_option maxRecDepth 100000
set_option maxHeartbeats 4000000
set_option linter.unusedSimpArgs false
set_option linter.unusedVariables false
open Nat renaming reduceAdd→γ,le_of_ble_eq_true→ε,le_mul_of_pos_left→ς,le_refl→Ψ
open List renaming mem_cons→δ,length_cons→ζ,not_mem_nil→η,foldl→θ,length_map→ι,length_nil→μ,length_append→ν,mem_append→ξ,getElem?_eq_getElem→ρ,foldl_cons→τ,drop_succ_cons→υ,take_succ_cons→φ,drop_zero→χ,foldl_nil→ψ,length_eq_zero_iff→Γ,map_append→Δ,take_zero→Θ,mem_append_right→wt,mem_append_left→GB,mem_of_getElem?→BY,getElem?_map→IN,length_drop→IS,map_cons→IT,mem_map→OF
open Go.V.D renaming cells→κ
open Go.V.ab renaming nil→ο,two→π,c_→Ξ,c9→Ω,go→Pd,hU→Pe,aH→AN,ck→AT
open Bool renaming and_eq_true→ω,or_eq_true→Φ,or_eq_false_iff→v8
namespace Go.Proofs.YtkbacjpologjbaaGreat
open Go.V Go
theorem zjoa {A B:Prop} (h:A) (e:A→B:=by intro h;dsimp only[u2,u1,u3,u4,setMany,u5,u6,κ,γ,aW,bF,ax,au,bC] at h;exact h):B:=e h
theorem zjob {A B:Prop} (h:A) (e:A→B:=by intro h;dsimp only[u2,u1,u3,u4,setMany,u5,u6,κ,γ,aW,bF,ax,au,fw] at h;exact h):B:=e h
theorem zjoc {A B:Prop} (h:A) (e:A→B:=by intro h;dsimp only[u2,u1,u3,u4,setMany,u5,u6,κ,γ,sF,bC] at h;exact h):B:=e h
def iV (fr:Go.V.Fr) (k:Nat):Go.V.D:=Go.V.nth .bo fr.loc k
variable{N:Nat}{S:St}{H:List a8}
theorem qM {st:St} {a b c:a8} (h:Has N S st (a::b::c::H)):Has N S st (b::c::a::H):=by
 have h1:=h.front bt;have h2:=h1.front cU;exact h2.front bt
def om (m:Nat):Prop:=∀{N k:Nat} {S s0:St} {H:List a8} {gs:List (Nat×Nat)} {ch:D} {cC:List Int} {s:gJ},nG gs cC→s.e=0→s.i≤gs.length→s.g≤4→s.o+m=20→Has N S s0 (.box k (.mem 0 false (aW gs ch s))::.aC ch 1 (cC.map ax)::H)→
 ∃d ah,Ev pv 41 [.ptr k 0 0] s0 d ah∧∃(s':gJ),zD gs s s' d∧Has N S ah (.box k (.mem 0 false (aW gs ch s'))::.aC ch 1 (cC.map ax)::H)
variable{m k:Nat}{s0:St}{gs:List (Nat×Nat)}{ch:D}{cC:List Int}{s:gJ}
theorem Jt (hA:∀m',m'+1=m→om m') (aT:nG gs cC) (he:s.e=0) (hi:s.i<gs.length) (hg:s.g≤4) (ho:s.o+m=20) (hH:Has N S s0 (.box k (.mem 0 false (aW gs ch s))::.aC ch 1 (cC.map ax)::H)):
  ∃d ah,Ev pv 148 [.ptr k 0 0] s0 d ah∧∃(s':gJ),lp gs s s' d 2∧Has N S ah (.box k (.mem 0 false (aW gs ch s'))::.aC ch 1 (cC.map ax)::H):=by
 have vw:=aT.gl;have ia:=aT.pl;refine Ev.eH rfl SA rfl rfl rfl ?_;refine zE ?_;have bD:=hH;have hH:=hH.bf;have bA:(ae .rw s0).bs=s0.bs:=rfl;generalize ae .rw s0=S2 at*
 have hwr:∀(st:St) (s3:gJ) (e:Int) (H2:List a8),e≠0→s3.e=0→s3.o=s.o→s3.g≤4→s.i≤s3.i→s3.i≤gs.length→Has N S2 st (.box k (.mem 0 false (aW gs ch s3))::.aC ch 1 (cC.map ax)::H2)→∃d ah,Ev pv 42 [.ptr k 0 0,.int .i64 (s.i:Nat),.int .i64 e] st d ah∧d=.sl []∧∃s4,lp gs s s4 (.sl []) 2∧Has N S2 ah (.box k (.mem 0 false (aW gs ch s4))::.aC ch 1 (cC.map ax)::H2):=by
  intro st s3 e H2 h0 h1 h2 h3 h4 h5 hH;obtain⟨d,ah,aA,h6,hH⟩:=dQ (s:=s3) s.i e z0 hH;obtain⟨w1,w2,w3,w4⟩:=et (cC:=cC) (s:=s3) (i:=s.i) (e:=e) h1 h0;exact⟨d,ah,aA,h6,_,iT (w3.trans h2) z0 z0 z0 w1,hH⟩
 refine zQ 21 ?_;refine qT hH aJ fun st hH=>?_;have hH:=zjoa hH;refine zQ 1 ?_;have hH:Has N S2 st (.box k (.mem 0 false (aW gs ch {s with i:=s.i+1}))::.aC ch 1 (cC.map ax)::H):=hH
 obtain⟨s1,lL⟩:∃s1:gJ,({s with i:=s.i+1}:gJ)=s1:=⟨_,rfl⟩
 have U0:s1.e=0∧s1.o=s.o∧s1.g=s.g∧s1.i=s.i+1:=by rw[←lL];exact⟨he,rfl,rfl,rfl⟩
 rw[lL] at hH;clear lL;obtain⟨f1,f2,f3,f4⟩:=U0;refine zQ 6 ?_;refine ag.jn (fun fr st=>∃(free:Bool) (s2:gJ) (tmp:List (Nat×D)),fr=⟨7,[.ptr k 0 0,iV fr 1,iV fr 2,.int .i64 (s.i:Nat),.bool free,iV fr 5,iV fr 6],tmp⟩∧Has N S2 st (.box k (.mem 0 false (aW gs ch s2))::.aC ch 1 (cC.map ax)::H)∧(s2.e=0)∧(s2.o=s.o)∧(s2.g=s.g)∧(s.i+1≤s2.i)∧(s2.i≤gs.length)) ?_ ?_
 ·obtain⟨k1,k2,k3,k4,k5⟩:=jm (gs:=gs) (s:=s1) (r:=63);have k5:=k5 z0;refine zQ 2 ?_;obtain⟨_,st,aA,rfl,hH⟩:=ft (s:=s1) z0 63 hH;refine qv aA ?_;refine zQ 1 ?_;generalize dK gs s1 63=s2 at*
  cases hb:lQ gs s1.i 63 with
  |false=>
   refine zQ 2 ?_;exact⟨false,s2,_,rfl,hH,by omega,by omega,by omega,by omega,by omega⟩
  |true=>
   refine zQ 5 ?_;obtain⟨r1,r2,r3,r4,r5⟩:=jm (gs:=gs) (s:=s2) (r:=58);have r5:=r5 k5;refine zQ 3 ?_;obtain⟨_,st,aA,rfl,hH⟩:=ft (s:=s2) z0 58 hH;refine qv aA ?_;refine zQ 2 ?_;generalize dK gs s2 58=s3 at*
   cases hb2:lQ gs s2.i 58 with
   |false=>
    refine zQ 5 ?_;obtain⟨_,st,aA,rfl,s4,hN,hH⟩:=hwr _ s3 4 _ (by decide) z0 z0 z0 z0 z0 hH;refine qv aA ?_;refine zQ 2 ?_;refine ag.ret ⟨rx,_,_,_,rfl,ai (rfl),?_⟩;exact⟨s4,hN,bD.aq bA hH⟩
   |true=>
    refine zQ 2 ?_;exact⟨true,s3,_,rfl,hH,by omega,by omega,by omega,by omega,by omega⟩
 ·rintro fr st ⟨free,s2,tmp,hfr,hH,h1,h2,h3,h4,h5⟩;rw[hfr];clear hfr;generalize iV fr=ee;clear fr;refine zQ 9 ?_
  by_cases Zn:20≤s2.o
  ·have jy:decide (((s2.o:Nat):Int)≥20)=true:=by rw[decide_eq_true_eq];omega
   refine qD rfl (by rw[jy]) ?_;refine zQ 4 ?_;obtain⟨_,st,aA,rfl,s4,hN,hH⟩:=hwr _ s2 10 _ (by decide) h1 h2 z0 z0 h5 hH;refine qv aA ?_;refine zQ 2 ?_;refine ag.ret ⟨rx,_,_,_,rfl,ai (rfl),?_⟩;exact⟨s4,hN,bD.aq bA hH⟩
  have jy:decide (((s2.o:Nat):Int)≥20)=false:=by rw[decide_eq_false_iff_not];omega
  refine qE rfl (by rw[jy]) ?_;refine zQ 3 ?_;refine Pd (d:=.agg [.int .i64 6,.nul,.int .i64 0,.int .i64 0,.bool false,.int .i64 0,.int .i64 1]) (st1:=_) rfl rfl rfl (aa rfl _) ?_;refine qa hH fun k5 st LS hH=>?_;have hH:=zjoa hH;refine qS hH aJ fun st hH=>?_;have hH:=zjoa hH;refine zQ 1 ?_;have hH:Has N S2 st (.box k (.mem 0 false (aW gs ch s2))::.aC ch 1 (cC.map ax)::.box k5 (.mem 0 false [.int .i64 6,.nul,.int .i64 0,.int .i64 0,.bool false,.int .i64 0,.int .i64 1])::H):=qM hH;refine zQ 2 ?_;refine ag.jn (fun fr st=>∃(cap:Int) (s3:gJ) (tmp:List (Nat×D)),fr=⟨7,[.ptr k 0 0,iV fr 1,iV fr 2,.int .i64 (s.i:Nat),.bool free,.ptr k5 0 0,iV fr 6],tmp⟩∧Has N S2 st (.box k (.mem 0 false (aW gs ch s3))::.aC ch 1 (cC.map ax)::.box k5 (.mem 0 false [.int .i64 6,.nul,.int .i64 0,.int .i64 0,.bool false,.int .i64 cap,.int .i64 1])::H)∧(s3.e=0)∧(s3.o=s.o)∧(s3.g≤4)∧(s3.i=s2.i)) ?_ ?_
  ·refine zQ 4 ?_
   cases free with
   |true=>
    refine zQ 2 ?_;exact⟨0,s2,_,rfl,hH,h1,h2,by omega,rfl⟩
   |false=>
    refine zQ 10 ?_
    by_cases Y':4≤s2.g
    ·have jy:decide (((s2.g:Nat):Int)≥4)=true:=by rw[decide_eq_true_eq];omega
     refine qD rfl (by rw[jy]) ?_;refine zQ 4 ?_;obtain⟨_,st,aA,rfl,s4,hN,hH⟩:=hwr _ s2 13 _ (by decide) h1 h2 z0 z0 h5 hH;refine qv aA ?_;refine zQ 2 ?_;refine ag.ret ⟨rx,_,_,_,rfl,ai (rfl),?_⟩;exact⟨s4,hN,bD.aq bA (hH.erase 2)⟩
    ·have jy:decide (((s2.g:Nat):Int)≥4)=false:=by rw[decide_eq_false_iff_not];omega
     refine qE rfl (by rw[jy]) ?_;refine zQ 10 ?_;refine qT hH aJ fun st hH=>?_;have hH:=zjoa hH;refine zQ 7 ?_;refine qT hH cU fun st hH=>?_;have hH:=zjoa hH;refine zQ 1 ?_;exact⟨((s2.g+1:Nat):Int),{s2 with g:=s2.g+1},_,rfl,hH,h1,h2,by show s2.g+1≤4;omega,rfl⟩
  ·rintro fr st ⟨cap,s3,tmp,hfr,hH,e1,e2,e3,e4⟩;rw[hfr];clear hfr;generalize iV fr=ee;clear fr;refine zQ 9 ?_;refine qT hH aJ fun st hH=>?_;have hH:=zjoa hH;refine zQ 1 ?_;have hH:Has N S2 st (.box k (.mem 0 false (aW gs ch {s3 with o:=s3.o+1}))::.aC ch 1 (cC.map ax)::.box k5 (.mem 0 false [.int .i64 6,.nul,.int .i64 0,.int .i64 0,.bool false,.int .i64 cap,.int .i64 1])::H):=hH;refine zQ 3 ?_;obtain⟨_,st,aA,s4,⟨a1,a2,a3,a4,l,rfl,a5,a6⟩,hH⟩:=hA (m-1) z0 (s:={s3 with o:=s3.o+1}) aT e1 (by show s3.i≤_;omega) e3 (by show s3.o+1+(m-1)=20;omega) hH;refine qv aA ?_;refine zQ 2 ?_;have a1:s4.o=s3.o+1:=a1;have a3:s3.i≤s4.i:=a3;have a6:l.length≤4*(s4.i-s3.i)+1:=a6;have hla:=(xh a5).arg N S2;refine zQ 6 ?_;refine ab.eK (z:=((s.o:Nat):Int)) rfl z3 z3 (by rw[wrap_i64 z0 z0]<;>omega) (aa rfl _) ?_;refine zQ 2 ?_;refine qT hH aJ fun st hH=>?_;have hH:=zjoa hH;refine zQ 1 ?_
   obtain⟨s5,UZ⟩:∃s5:gJ,({s4 with o:=s.o}:gJ)=s5:=⟨_,rfl⟩
   have hH:Has N S2 st (.box k (.mem 0 false (aW gs ch s5))::.aC ch 1 (cC.map ax)::.box k5 (.mem 0 false [.int .i64 6,.nul,.int .i64 0,.int .i64 0,.bool false,.int .i64 cap,.int .i64 1])::H):=by rw[←UZ];exact hH
   have UY:s5.o=s.o∧s5.g=s4.g∧s5.i=s4.i:=by rw[←UZ];exact⟨rfl,rfl,rfl⟩
   clear UZ;obtain⟨b1,b2,b3⟩:=UY;refine zQ 2 ?_;refine ag.jn (fun fr st=>∃(s6:gJ) (tmp:List (Nat×D)),fr=⟨7,[.ptr k 0 0,iV fr 1,iV fr 2,iV fr 3,.bool free,.ptr k5 0 0,zJ l],tmp⟩∧Has N S2 st (.box k (.mem 0 false (aW gs ch s6))::.aC ch 1 (cC.map ax)::.box k5 (.mem 0 false [.int .i64 6,.nul,.int .i64 0,.int .i64 0,.bool false,.int .i64 cap,.int .i64 1])::H)∧(s6.o=s.o)∧(s6.g≤4)∧(s4.i≤s6.i)∧(s6.i≤gs.length)∧(s6.e≠0∨s6.e=0∧s4.i<s6.i)) ?_ ?_
   ·by_cases Wa:s5.e=0
    ·have de:(s5.e==0)=true:=by simpa using Wa
     obtain⟨k1,k2,k3,k4,YN⟩:=jm (gs:=gs) (s:=s5) (r:=41);have YN:=YN z0;have hsk:lQ gs s5.i 41=true→(dK gs s5 41).i=s5.i+1:=fun h=>by unfold dK;rw[if_pos h]
     refine zQ 8 ?_;obtain⟨_,st,aA,rfl,hH⟩:=ft (s:=s5) z0 41 hH;refine qv aA ?_ (hg:=wi de);refine zQ 3 ?_;generalize dK gs s5 41=s6 at*
     cases hb:lQ gs s5.i 41 with
     |false=>
      refine zQ 5 ?_;obtain⟨_,st,aA,rfl,s7,hN,hH⟩:=hwr _ s6 4 _ (by decide) z0 z0 z0 z0 z0 hH;refine qv aA ?_;refine zQ 2 ?_;refine ag.ret ⟨rx,_,_,_,rfl,ai (rfl),?_⟩;exact⟨s7,hN,bD.aq bA (hH.erase 2)⟩
     |true=>
      have hsk:=hsk hb;refine zQ 2 ?_;exact⟨s6,_,rfl,hH,by omega,by omega,by omega,by omega,.inr ⟨by omega,by omega⟩⟩
    ·have de:(s5.e==0)=false:=by simpa using Wa
     refine zQ 14 ?_;exact⟨s5,_,rfl,hH,b1,by omega,by omega,by omega,.inl Wa⟩
   ·rintro fr st ⟨s6,tmp,hfr,hH,c1,c2,c3,c4,c5⟩;rw[hfr];clear hfr;generalize iV fr=ee;clear fr;refine zQ 5 ?_
    cases free with
    |true=>
     refine zQ 6 ?_;refine ag.ret ⟨rx,_,_,_,rfl,ai (rfl),?_⟩;refine⟨s6,⟨c1,c2,by omega,c4,l,rfl,a5,by omega,?_⟩,bD.aq bA (hH.erase 2)⟩
     rcases c5 with c5|⟨c5,c6⟩
     ·exact .inl c5
     ·exact .inr ⟨c5,by omega⟩
    |false=>
     refine zQ 4 ?_;refine AN (m:=7) hH rfl z3 (by exact cU) (by dsimp only[υ,χ,φ,Θ,aW,bF,ax,au,bC]<;>rfl) rfl rfl (aa rfl _) ?_;refine qh (s:=7) (vs:=[_]) hH fun k89 st aaS hH=>?_;have hH:=zjoa hH;refine qm ?_;refine ab.lM (s:=7) hH rfl z3 z3 aJ ((xh a5).rows st) rfl rfl rfl rfl rfl rfl rfl ⟨(ε rfl),(ε rfl)⟩ (fun _=>(aa rfl _)) (by simp only[ι,ζ,μ];omega) (.inr (xg a5)) (fun k hk=>by have mg:k89+1=k+1:=hk;omega) (fun ZI st vq hH=>?_);dsimp only[u2] at hH;refine zQ 2 ?_;have hH:Has N S2 st (.aC ZI 7 ([.int .i64 6,.nul,.int .i64 0,.int .i64 0,.bool false,.int .i64 cap,.int .i64 1]::l.map bC)::.box k (.mem 0 false (aW gs ch s6))::.aC ch 1 (cC.map ax)::.box k5 (.mem 0 false [.int .i64 6,.nul,.int .i64 0,.int .i64 0,.bool false,.int .i64 cap,.int .i64 1])::H):=hH
     have hfz:=kI (L:=s0.bs.length) (l:=yK 6 0 0 false cap 1 []::l) hH aJ (by rw[IT,yI a5];rfl) (fun e he d hd=>by
      rcases δ.1 he with rfl|he
      ·simp only[δ,η,or_false] at hd
       rcases hd with rfl|rfl|rfl|rfl|rfl|rfl|rfl<;>rfl
      ·exact uT a5 e he d hd) (fun k hk=>by rw[←bA];exact vq k hk) (n:=16) (by decide)
     refine ag.ret ⟨rx,_,_,_,rfl,ai hfz,⟨s6,⟨c1,c2,by omega,c4,_,rfl,?_,by simp only[ζ];omega,?_⟩,bD.aq bA ((hH.drop 1).erase 2)⟩⟩
     ·intro n hn
      rcases δ.1 hn with rfl|hn
      ·exact⟨rfl,by simp[yK],by simp[yK]⟩
      ·exact a5 n hn
     ·rcases c5 with c5|⟨c5,c6⟩
      ·exact .inl c5
      ·exact .inr ⟨c5,by simp only[ζ];omega⟩
def CY (fr:Go.V.Fr) (k:Nat):Go.V.D:=Go.V.nth .bo fr.loc k
variable{r:Int}
theorem tI (h:lQ gs s.i r=false):dK gs s r=s:=by
 unfold dK;rw[if_neg (by rw[h];simp)]
theorem pf (h:lQ gs s.i r=true):(dK gs s r).i=s.i+1:=by
 unfold dK;rw[if_pos h]
theorem MC (hA:∀m',m'+1=m→om m') (aT:nG gs cC) (he:s.e=0) (hi:s.i<gs.length) (hg:s.g≤4) (ho:s.o+m=20) (hH:Has N S s0 (.box k (.mem 0 false (aW gs ch s))::.aC ch 1 (cC.map ax)::H)):
  ∃d ah,Ev pv 137 [.ptr k 0 0] s0 d ah∧∃(s':gJ),lp gs s s' d 2∧Has N S ah (.box k (.mem 0 false (aW gs ch s'))::.aC ch 1 (cC.map ax)::H):=by
 have vw:=aT.gl;have ia:=aT.pl;refine Ev.eH rfl SK rfl rfl rfl ?_;refine zE ?_;have bD:=hH;have hH:=hH.bf;have bA:(ae .rw s0).bs=s0.bs:=rfl;generalize ae .rw s0=S2 at*;have LW:Arg N S2 2 (gf gs) (gs.map bF):=Arg.pure (fun st=>fe st gs)
 obtain⟨g,TV⟩:∃g,gs[s.i]?=some g:=⟨gs[s.i]'hi,ρ _⟩
 have fU:(gs.map bF)[s.i]?=some (bF g):=by rw[IN,TV];rfl
 have hwr:∀(st:St),Has N S2 st (.box k (.mem 0 false (aW gs ch s))::.aC ch 1 (cC.map ax)::H)→∃d ah,Ev pv 42 [.ptr k 0 0,.int .i64 (s.i:Nat),.int .i64 4] st d ah∧d=.sl []∧∃s4,lp gs s s4 (.sl []) 2∧Has N S2 ah (.box k (.mem 0 false (aW gs ch s4))::.aC ch 1 (cC.map ax)::H):=by
  intro st hH;obtain⟨d,ah,aA,h6,hH⟩:=dQ (s:=s) s.i 4 z0 hH;obtain⟨w1,w2,w3,w4⟩:=et (cC:=cC) (s:=s) (i:=s.i) (e:=4) he (by decide);exact⟨d,ah,aA,h6,_,iT w3 z0 z0 z0 w1,hH⟩
 have me:∀(st:St) (s1:gJ) (op:Int) (w:D) (a:List Rg) (kk:Nat),(w=bK a∨w=.nul∧a=[])→a.length≤1048576→s1.o=s.o→s1.g≤4→s.i<s1.i→s1.i≤gs.length→S2.bs.length≤kk→Has N S2 st (.aC (.win kk 0 0 1 7) 7 [[.int .i64 op,w,.int .i64 0,.int .i64 0,.bool false,.int .i64 0,.int .i64 0]]::.box k (.mem 0 false (aW gs ch s1))::.aC ch 1 (cC.map ax)::H)→
   ∃d ah,dj .rw false s0 st (.win kk 0 0 1 7)=some (d,ah)∧∃(s':gJ),lp gs s s' d 2∧Has N S ah (.box k (.mem 0 false (aW gs ch s'))::.aC ch 1 (cC.map ax)::H):=by
  intro st s1 op w a kk hw ha h1 h2 h3 h4 hk hH;have hfz:=kJ hH aJ (L:=s0.bs.length) hw (fun k hk=>by simp only[D.ref] at hk;rw[←bA];omega);refine⟨_,_,ai hfz,s1,⟨h1,h2,by omega,h4,_,rfl,Ib ha z0,by simp,?_⟩,bD.aq bA (hH.drop 1)⟩
  by_cases he:s1.e=0
  ·exact .inr ⟨he,by simp only[ζ,μ];omega⟩
  ·exact .inl he
 refine zQ 17 ?_;obtain⟨_,st,aA,rfl,hH⟩:=DQ (s:=s) s.i hi hH;refine qv aA ?_;refine zQ 1 ?_;refine qc (fun hb=>?_) (fun hb=>?_)<;>try simp only[cs] at hb
 ·refine zQ 4 ?_;obtain⟨_,st,aA,rfl,s4,hN,hH⟩:=hwr _ hH;refine qv aA ?_;refine zQ 2 ?_;refine ag.ret ⟨rx,_,_,_,rfl,ai (rfl),?_⟩;exact⟨s4,hN,bD.aq bA hH⟩
 refine zQ 8 ?_;refine qr fun Qh IG=>?_;refine qf (fo:=0) fun TG LH=>?_;refine zQ 13 ?_;refine zI (fun Z7=>?_) fun Z7=>?_
 ·refine zQ 3 ?_;obtain⟨_,st,aA,s4,⟨p1,p2,p3,p4,l,rfl,p5,p6,p7⟩,hH⟩:=Jt hA aT he hi hg ho hH;refine qv aA ?_;refine zQ 2 ?_;refine ag.ret ⟨rx,_,_,_,rfl,ai (rfl),?_⟩;exact⟨s4,⟨p1,p2,p3,p4,l,rfl,p5,p6,p7⟩,bD.aq bA hH⟩
 refine zQ 5 ?_;refine zI (fun Qa=>?_) fun Qa=>?_
 ·refine zQ 3 ?_;obtain⟨_,st,aA,s4,⟨p1,p2,p3,p4,l,rfl,p5,p6,p7⟩,hH⟩:=JW aT he hi hg hH;refine qv aA ?_;refine zQ 2 ?_;refine ag.ret ⟨rx,_,_,_,rfl,ai (rfl),?_⟩;exact⟨s4,⟨p1,p2,p3,p4,l,rfl,p5,p6,p7⟩,bD.aq bA hH⟩
 refine zQ 5 ?_;refine zI (fun Z5=>?_) fun Z5=>?_
 ·refine zQ 3 ?_;obtain⟨_,st,aA,d1,b,s4,rfl,⟨p1,p2,p3,p4,p5,p6⟩,hH⟩:=Eb (s:=s) aT he hi hH;refine qv aA ?_;refine zQ 6 ?_
  have wK:∀(st:St) (w:D) (a:List Rg) (kk:Nat),(w=bK a∨w=.nul∧a=[])→a.length≤8→S2.bs.length≤kk→Has N S2 st (.aC (.win kk 0 0 1 7) 7 [[.int .i64 2,w,.int .i64 0,.int .i64 0,.bool false,.int .i64 0,.int .i64 0]]::.box k (.mem 0 false (aW gs ch s4))::.aC ch 1 (cC.map ax)::H)→∃d ah,dj .rw false s0 st (.win kk 0 0 1 7)=some (d,ah)∧∃(s':gJ),lp gs s s' d 2∧Has N S ah (.box k (.mem 0 false (aW gs ch s'))::.aC ch 1 (cC.map ax)::H):=by
   intro st w a kk hw ha hk hH;have hfz:=kJ hH aJ (L:=s0.bs.length) hw (fun k hk=>by simp only[D.ref] at hk;rw[←bA];omega);refine⟨_,_,ai hfz,s4,⟨p1,by omega,by omega,p4,_,rfl,Ib z0 z0,by simp,?_⟩,bD.aq bA (hH.drop 1)⟩
   rcases p6 with p6|⟨p6,p7,_⟩
   ·exact .inl p6
   ·exact .inr ⟨p6,by simp only[ζ,μ];omega⟩
  rcases p5 with rfl|⟨a,rfl,ha⟩
  ·refine zQ 3 ?_;refine Pe (qs:=[(0,_),(1,_)]) rfl rfl rfl rfl ⟨rfl,z3,(by rfl),rfl,z3,(by rfl),trivial⟩ (by intro q hq;simp only[δ,η,or_false] at hq;rcases hq with rfl|rfl<;>exact⟨rfl,by exact ε rfl⟩) (by show θ _ [_,_,_,_,_,_,_] _=_;dsimp only[τ,ψ,u2,u1]<;>rfl) (aa rfl _) ?_;refine qh (s:=7) (vs:=[_]) hH fun k54 st OI hH=>?_;have hH:=zjoa hH;refine zQ 2 ?_;obtain⟨d',ah,y_,eJ⟩:=wK _ .nul [] k54 (.inr ⟨rfl,rfl⟩) (by simp) OI hH;refine ag.ret ⟨rx,_,d',ah,rfl,y_,eJ⟩
  ·refine zQ 3 ?_;refine Pe (qs:=[(0,_),(1,_)]) rfl rfl rfl rfl ⟨rfl,z3,(by rfl),rfl,z3,(by rfl),trivial⟩ (by intro q hq;simp only[δ,η,or_false] at hq;rcases hq with rfl|rfl<;>exact⟨rfl,by exact ε rfl⟩) (by show θ _ [_,_,_,_,_,_,_] _=_;dsimp only[τ,ψ,u2,u1]<;>rfl) (aa rfl _) ?_;refine qh (s:=7) (vs:=[_]) hH fun k54 st OI hH=>?_;have hH:=zjoa hH;refine zQ 2 ?_;obtain⟨d',ah,y_,eJ⟩:=wK _ (bK a) a k54 (.inl rfl) ha OI hH;refine ag.ret ⟨rx,_,d',ah,rfl,y_,eJ⟩
 refine zQ 5 ?_;refine zI (fun Z6=>?_) fun Z6=>?_
 ·refine zQ 9 ?_;refine qT hH aJ fun st hH=>?_;have hH:=zjoa hH;refine zQ 1 ?_;obtain⟨_,Wc,a,rfl,hla⟩:=Pa (s0:=st);refine zQ 2 ?_;refine qv (Wc) ?_;refine Pe (qs:=[(0,_),(1,_)]) rfl rfl rfl rfl ⟨rfl,z3,(by rfl),rfl,z3,(by rfl),trivial⟩ (by intro q hq;simp only[δ,η,or_false] at hq;rcases hq with rfl|rfl<;>exact⟨rfl,by exact ε rfl⟩) (by show θ _ [_,_,_,_,_,_,_] _=_;dsimp only[τ,ψ,u2,u1]<;>rfl) (aa rfl _) ?_;refine qh (s:=7) (vs:=[_]) hH fun k66 st VI hH=>?_;refine zQ 2 ?_;obtain⟨d',ah,y_,eJ⟩:=me _ {s with i:=s.i+1} 2 (bK a) a k66 (.inl rfl) z0 rfl hg (by show s.i<s.i+1;omega) (by show s.i+1≤_;omega) VI hH;refine ag.ret ⟨rx,_,d',ah,rfl,y_,eJ⟩
 refine zQ 5 ?_;refine zI (fun Z4=>?_) fun Z4=>?_
 ·refine zQ 9 ?_;refine qT hH aJ fun st hH=>?_;have hH:=zjoa hH;refine zQ 3 ?_;refine Pd (d:=.agg [.int .i64 7,.nul,.int .i64 0,.int .i64 0,.bool false,.int .i64 0,.int .i64 0]) (st1:=_) rfl rfl rfl (aa rfl _) ?_;refine qh (s:=7) (vs:=[_]) hH fun k77 st Ry hH=>?_;refine zQ 2 ?_;obtain⟨d',ah,y_,eJ⟩:=me _ {s with i:=s.i+1} 7 .nul [] k77 (.inr ⟨rfl,rfl⟩) (by simp) rfl hg (by show s.i<s.i+1;omega) (by show s.i+1≤_;omega) Ry hH;refine ag.ret ⟨rx,_,d',ah,rfl,y_,eJ⟩
 refine zQ 5 ?_;refine zI (fun Z8=>?_) fun Z8=>?_
 ·refine zQ 9 ?_;refine qT hH aJ fun st hH=>?_;have hH:=zjoa hH;refine zQ 3 ?_;refine Pd (d:=.agg [.int .i64 8,.nul,.int .i64 0,.int .i64 0,.bool false,.int .i64 0,.int .i64 0]) (st1:=_) rfl rfl rfl (aa rfl _) ?_;refine qh (s:=7) (vs:=[_]) hH fun k88 st Rx hH=>?_;refine zQ 2 ?_;obtain⟨d',ah,y_,eJ⟩:=me _ {s with i:=s.i+1} 8 .nul [] k88 (.inr ⟨rfl,rfl⟩) (by simp) rfl hg (by show s.i<s.i+1;omega) (by show s.i+1≤_;omega) Rx hH;refine ag.ret ⟨rx,_,d',ah,rfl,y_,eJ⟩
 refine zQ 6 ?_
 by_cases Yb:((g.1:Nat):Int)=42
 ·refine qD rfl (by simp[Yb]) ?_;refine zQ 1 ?_;refine qD rfl (by simp[Yb]) ?_;refine zQ 4 ?_;obtain⟨_,st,aA,rfl,s4,hN,hH⟩:=hwr _ hH;refine qv aA ?_;refine zQ 2 ?_;refine ag.ret ⟨rx,_,_,_,rfl,ai (rfl),?_⟩;exact⟨s4,hN,bD.aq bA hH⟩
 refine qE rfl (by simp[Yb]) ?_;refine zQ 5 ?_
 by_cases Ya:((g.1:Nat):Int)=43
 ·refine qD rfl (by simp[Ya]) ?_;refine zQ 1 ?_;refine qD rfl (by simp[Ya]) ?_;refine zQ 4 ?_;obtain⟨_,st,aA,rfl,s4,hN,hH⟩:=hwr _ hH;refine qv aA ?_;refine zQ 2 ?_;refine ag.ret ⟨rx,_,_,_,rfl,ai (rfl),?_⟩;exact⟨s4,hN,bD.aq bA hH⟩
 refine qE rfl (by simp[Ya]) ?_;refine zQ 5 ?_
 by_cases X':((g.1:Nat):Int)=63
 ·refine qD rfl (by simp[X']) ?_;refine zQ 1 ?_;refine qD rfl (by simp[X']) ?_;refine zQ 4 ?_;obtain⟨_,st,aA,rfl,s4,hN,hH⟩:=hwr _ hH;refine qv aA ?_;refine zQ 2 ?_;refine ag.ret ⟨rx,_,_,_,rfl,ai (rfl),?_⟩;exact⟨s4,hN,bD.aq bA hH⟩
 refine qE rfl (by simp[X']) ?_;refine zQ 5 ?_
 by_cases Yc:((g.1:Nat):Int)=41
 ·refine qD rfl (by simp[Yc]) ?_;refine zQ 1 ?_;refine qD rfl (by simp[Yc]) ?_;refine zQ 4 ?_;obtain⟨_,st,aA,rfl,s4,hN,hH⟩:=hwr _ hH;refine qv aA ?_;refine zQ 2 ?_;refine ag.ret ⟨rx,_,_,_,rfl,ai (rfl),?_⟩;exact⟨s4,hN,bD.aq bA hH⟩
 refine qE rfl (by simp[Yc]) ?_;refine zQ 5 ?_
 by_cases X_:((g.1:Nat):Int)=93
 ·refine qD rfl (by simp[X_]) ?_;refine zQ 1 ?_;refine qD rfl (by simp[X_]) ?_;refine zQ 4 ?_;obtain⟨_,st,aA,rfl,s4,hN,hH⟩:=hwr _ hH;refine qv aA ?_;refine zQ 2 ?_;refine ag.ret ⟨rx,_,_,_,rfl,ai (rfl),?_⟩;exact⟨s4,hN,bD.aq bA hH⟩
 refine qE rfl (by simp[X_]) ?_;refine zQ 5 ?_
 by_cases Pl:((g.1:Nat):Int)=123
 ·refine qD rfl (by simp[Pl]) ?_;refine zQ 1 ?_;refine qD rfl (by simp[Pl]) ?_;refine zQ 4 ?_;obtain⟨_,st,aA,rfl,s4,hN,hH⟩:=hwr _ hH;refine qv aA ?_;refine zQ 2 ?_;refine ag.ret ⟨rx,_,_,_,rfl,ai (rfl),?_⟩;exact⟨s4,hN,bD.aq bA hH⟩
 refine qE rfl (by simp[Pl]) ?_;refine zQ 5 ?_
 by_cases Pk:((g.1:Nat):Int)=125
 ·refine qD rfl (by simp[Pk]) ?_;refine zQ 1 ?_;refine qD rfl (by simp[Pk]) ?_;refine zQ 4 ?_;obtain⟨_,st,aA,rfl,s4,hN,hH⟩:=hwr _ hH;refine qv aA ?_;refine zQ 2 ?_;refine ag.ret ⟨rx,_,_,_,rfl,ai (rfl),?_⟩;exact⟨s4,hN,bD.aq bA hH⟩
 refine qE rfl (by simp[Pk]) ?_;refine zQ 4 ?_
 by_cases Tp:((g.1:Nat):Int)=124
 ·refine qD rfl (by simp[Tp]) ?_;refine zQ 4 ?_;obtain⟨_,st,aA,rfl,s4,hN,hH⟩:=hwr _ hH;refine qv aA ?_;refine zQ 2 ?_;refine ag.ret ⟨rx,_,_,_,rfl,ai (rfl),?_⟩;exact⟨s4,hN,bD.aq bA hH⟩
 refine qE rfl (by simp[Tp]) ?_;refine zQ 9 ?_;refine qT hH aJ fun st hH=>?_;have hH:=zjoa hH;refine zQ 1 ?_;obtain⟨_,Db,_⟩:=py (s0:=s0) (x:=bK [(((g.1:Nat):Int),((g.1:Nat):Int))]) (l:=[(((g.1:Nat):Int),((g.1:Nat):Int))]) (fW _ _) (by simp);simp only[ζ,μ] at Db;refine zQ 3 ?_;refine qv (lx _) ?_;refine Pe (qs:=[(0,_),(1,_)]) rfl rfl rfl rfl ⟨rfl,z3,(by rfl),rfl,z3,(by rfl),trivial⟩ (by intro q hq;simp only[δ,η,or_false] at hq;rcases hq with rfl|rfl<;>exact⟨rfl,by exact ε rfl⟩) (by show θ _ [_,_,_,_,_,_,_] _=_;dsimp only[τ,ψ,u2,u1]<;>rfl) (aa rfl _) ?_;refine qh (s:=7) (vs:=[_]) hH fun k36 st RB hH=>?_;refine zQ 2 ?_;obtain⟨d',ah,y_,eJ⟩:=me _ {s with i:=s.i+1} 2 _ _ k36 (.inl rfl) z0 rfl hg (by show s.i<s.i+1;omega) (by show s.i+1≤_;omega) RB hH;refine ag.ret ⟨rx,_,d',ah,rfl,y_,eJ⟩
theorem HA (hA:∀m',m'+1=m→om m') (aT:nG gs cC) (he:s.e=0) (hi:s.i<gs.length) (hg:s.g≤4) (ho:s.o+m=20) (hH:Has N S s0 (.box k (.mem 0 false (aW gs ch s))::.aC ch 1 (cC.map ax)::H)):
  ∃d ah,Ev pv 119 [.ptr k 0 0] s0 d ah∧∃(s':gJ),lp gs s s' d 1∧Has N S ah (.box k (.mem 0 false (aW gs ch s'))::.aC ch 1 (cC.map ax)::H):=by
 have vw:=aT.gl;have ia:=aT.pl;refine Ev.eH rfl SY rfl rfl rfl ?_;refine zE ?_;have bD:=hH;have hH:=hH.bf;have bA:(ae .rw s0).bs=s0.bs:=rfl;generalize ae .rw s0=S2 at*;refine zQ 7 ?_;obtain⟨_,st,aA,s1,⟨p1,p2,p3,p4,l,rfl,p5,p6,p7⟩,hH⟩:=MC hA aT he hi hg ho hH;refine qv aA ?_;refine zQ 11 ?_
 rcases p7 with p7|⟨p7,p8⟩
 ·refine qD rfl (by simp[p7]) ?_;refine zQ 4 ?_;refine ag.ret ⟨rx,_,_,_,rfl,ai (rfl),?_⟩;exact⟨s1,iT p1 p2 p3 p4 p7,bD.aq bA hH⟩
 refine qE rfl (by simp[p7]) ?_;refine zQ 3 ?_;refine Pd (d:=.agg [.int .i64 5,.nul,.int .i64 0,.int .i64 0,.bool false,.int .i64 0,.int .i64 1]) (st1:=_) rfl rfl rfl (aa rfl _) ?_;refine qa hH fun k4 st OJ hH=>?_;have hH:=zjoa hH;refine qS hH aJ fun st hH=>?_;have hH:=zjoa hH;refine zQ 1 ?_;have hH:Has N S2 st (.box k (.mem 0 false (aW gs ch s1))::.aC ch 1 (cC.map ax)::.box k4 (.mem 0 false [.int .i64 5,.nul,.int .i64 0,.int .i64 0,.bool false,.int .i64 0,.int .i64 1])::H):=qM hH;refine qq<|ag.merge (fun fr st=>∃(mn mx:Int) (s2:gJ) (tmp:List (Nat×D)),fr=⟨5,[.ptr k 0 0,CY fr 1,CY fr 2,zJ l,.ptr k4 0 0],tmp⟩∧Has N S2 st (.box k (.mem 0 false (aW gs ch s2))::.aC ch 1 (cC.map ax)::.box k4 (.mem 0 false [.int .i64 5,.nul,.int .i64 mn,.int .i64 mx,.bool false,.int .i64 0,.int .i64 1])::H)∧(s2.o=s.o)∧(s2.g≤4)∧(s1.i<s2.i)∧(s2.i≤gs.length)) ?_ ?_
 ·refine zQ 4 ?_;obtain⟨_,st,aA,rfl,hH⟩:=ft (s:=s1) z0 42 hH;refine qv aA ?_;refine zQ 2 ?_
  cases hb1:lQ gs s1.i 42 with
  |true=>
   obtain⟨k1,k2,k3,UE,k5⟩:=jm (gs:=gs) (s:=s1) (r:=42);have k6:=pf hb1;have k7:=k5 p4;generalize dK gs s1 42=s2 at*;refine zQ 3 ?_;refine qT hH cU fun st hH=>?_;have hH:=zjoa hH;refine zQ 1 ?_;exact⟨0,-1,s2,_,rfl,hH,by omega,by omega,by omega,k7⟩
  |false=>
   rw[tI hb1] at hH;refine zQ 4 ?_;obtain⟨_,st,aA,rfl,hH⟩:=ft (s:=s1) z0 43 hH;refine qv aA ?_;refine zQ 2 ?_
   cases hb2:lQ gs s1.i 43 with
   |true=>
    obtain⟨k1,k2,k3,UE,k5⟩:=jm (gs:=gs) (s:=s1) (r:=43);have k6:=pf hb2;have k7:=k5 p4;generalize dK gs s1 43=s2 at*;refine zQ 3 ?_;refine qT hH cU fun st hH=>?_;have hH:=zjoa hH;refine zQ 1 ?_;refine qT hH cU fun st hH=>?_;have hH:=zjoa hH;refine zQ 1 ?_;exact⟨1,-1,s2,_,rfl,hH,by omega,by omega,by omega,k7⟩
   |false=>
    rw[tI hb2] at hH;refine zQ 4 ?_;obtain⟨_,st,aA,rfl,hH⟩:=ft (s:=s1) z0 63 hH;refine qv aA ?_;refine zQ 2 ?_
    cases O0:lQ gs s1.i 63 with
    |true=>
     obtain⟨k1,k2,k3,UE,k5⟩:=jm (gs:=gs) (s:=s1) (r:=63);have k6:=pf O0;have k7:=k5 p4;generalize dK gs s1 63=s2 at*;refine zQ 3 ?_;refine qT hH cU fun st hH=>?_;have hH:=zjoa hH;refine zQ 1 ?_;exact⟨0,1,s2,_,rfl,hH,by omega,by omega,by omega,k7⟩
    |false=>
     rw[tI O0] at hH;refine zQ 4 ?_;obtain⟨_,st,aA,rfl,hH⟩:=sX (s:=s1) z0 123 hH;refine qv aA ?_;refine zQ 2 ?_
     cases Wm:lQ gs s1.i 123 with
     |true=>
      have hlt:=vh Wm;refine zQ 3 ?_;obtain⟨_,st,aA,n1,n2,s2,rfl,⟨m1,m2,m3,m4⟩,hH⟩:=HZ aT p7 hlt hH;refine qv aA ?_;refine zQ 4 ?_;refine qT hH cU fun st hH=>?_;have hH:=zjoa hH;refine zQ 1 ?_;refine qT hH cU fun st hH=>?_;have hH:=zjoa hH;refine zQ 1 ?_;exact⟨n1,n2,s2,_,rfl,hH,by omega,by omega,m3,m4⟩
     |false=>
      refine zQ 6 ?_;refine ag.ret ⟨rx,_,_,_,rfl,ai (rfl),?_⟩;exact⟨s1,⟨p1,p2,p3,p4,l,rfl,p5,p6,.inr ⟨p7,by omega⟩⟩,bD.aq bA (hH.erase 2)⟩
 ·rintro fr st ⟨mn,mx,s2,tmp,hfr,hH,h1,h2,h3,h4⟩;rw[hfr];clear hfr;generalize CY fr=ee;clear fr;refine zQ 9 ?_
  by_cases wy:s2.e=0
  ·refine qE rfl (by simp[wy]) ?_;refine zQ 1 ?_;obtain⟨k1,k2,k3,UE,k5⟩:=jm (gs:=gs) (s:=s2) (r:=63);have k7:=k5 h4;refine zQ 3 ?_;obtain⟨_,st,aA,rfl,hH⟩:=ft (s:=s2) z0 63 hH;refine qv aA ?_;refine zQ 1 ?_;refine qT hH cU fun st hH=>?_;have hH:=zjoa hH;refine zQ 1 ?_;generalize dK gs s2 63=s3 at*;generalize lQ gs s2.i 63=lz at*;have hla:=(xh p5).arg N S2;refine zQ 2 ?_;refine AN (m:=7) hH rfl z3 (by exact cU) (by dsimp only[υ,χ,φ,Θ,aW,bF,ax,au,bC]<;>rfl) rfl rfl (aa rfl _) ?_;refine qh (s:=7) (vs:=[_]) hH fun k46 st aa2 hH=>?_;refine qm ?_;refine ab.lM (s:=7) hH rfl z3 z3 aJ ((xh p5).rows st) rfl rfl rfl rfl rfl rfl rfl ⟨(ε rfl),(ε rfl)⟩ (fun _=>(aa rfl _)) (by simp only[ι,ζ,μ];omega) (.inr (xg p5)) (fun k hk=>by have mg:k46+1=k+1:=hk;omega) (fun P3 st vq hH=>?_);dsimp only[u2] at hH;refine zQ 2 ?_;have hH:Has N S2 st (.aC P3 7 ([.int .i64 5,.nul,.int .i64 mn,.int .i64 mx,.bool lz,.int .i64 0,.int .i64 1]::l.map bC)::.box k (.mem 0 false (aW gs ch s3))::.aC ch 1 (cC.map ax)::.box k4 (.mem 0 false [.int .i64 5,.nul,.int .i64 mn,.int .i64 mx,.bool lz,.int .i64 0,.int .i64 1])::H):=hH
   have hfz:=kI (L:=s0.bs.length) (l:=yK 5 mn mx lz 0 1 []::l) hH aJ (by rw[IT,yI p5];rfl) (fun e he d hd=>by
    rcases δ.1 he with rfl|he
    ·simp only[δ,η,or_false] at hd
     rcases hd with rfl|rfl|rfl|rfl|rfl|rfl|rfl<;>rfl
    ·exact uT p5 e he d hd) (fun k hk=>by rw[←bA];exact vq k hk) (n:=16) (by decide)
   refine ag.ret ⟨rx,_,_,_,rfl,ai hfz,⟨s3,⟨by omega,by omega,by omega,k7,_,rfl,?_,by simp only[ζ];omega,.inr ⟨by omega,by simp only[ζ];omega⟩⟩,bD.aq bA ((hH.drop 1).erase 2)⟩⟩;intro n hn
   rcases δ.1 hn with rfl|hn
   ·exact⟨rfl,by simp[yK],by simp[yK]⟩
   ·exact p5 n hn
  ·refine qD rfl (by simp[wy]) ?_;refine zQ 4 ?_;refine ag.ret ⟨rx,_,_,_,rfl,ai (rfl),?_⟩;exact⟨s2,iT h1 h2 z0 h4 wy,bD.aq bA (hH.erase 2)⟩
def rR (fr:Go.V.Fr) (k:Nat):Go.V.D:=Go.V.nth .bo fr.loc k
theorem J1 (hA:∀m',m'+1=m→om m') (aT:nG gs cC) (he:s.e=0) (hi:s.i≤gs.length) (hg:s.g≤4) (ho:s.o+m=20) (hH:Has N S s0 (.box k (.mem 0 false (aW gs ch s))::.aC ch 1 (cC.map ax)::H)):
  ∃d ah,Ev pv 80 [.ptr k 0 0] s0 d ah∧∃(s':gJ),zD gs s s' d∧Has N S ah (.box k (.mem 0 false (aW gs ch s'))::.aC ch 1 (cC.map ax)::H):=by
 have vw:=aT.gl;have ia:=aT.pl;refine Ev.eH rfl WW rfl rfl rfl ?_;refine zE ?_;have bD:=hH;have hH:=hH.bf;have bA:(ae .rw s0).bs=s0.bs:=rfl;generalize ae .rw s0=S2 at*;have LW:Arg N S2 2 (gf gs) (gs.map bF):=Arg.pure (fun st=>fe st gs);refine zQ 8 ?_;have hH:Has N S2 S2 (.box k (.mem 0 false (aW gs ch s))::.aC ch 1 (cC.map ax)::.aC .nul 1 (([]:List (List eE)).map fw)::H):=qM (hH.fG 1);refine zQ 2 ?_;refine ag.loop (fun mm fr st=>∃(s1:gJ) (pd:D) (parts:List (List eE)),fr.clean=⟨4,[.ptr k 0 0,rR fr 1,rR fr 2,pd],[]⟩∧Has N S2 st (.box k (.mem 0 false (aW gs ch s1))::.aC ch 1 (cC.map ax)::.aC pd 1 (parts.map fw)::H)∧(s1.o=s.o)∧(s1.g≤4)∧(s.i≤s1.i)∧(s1.i≤gs.length)∧(∀l∈parts,∀n∈l,zT n)∧(hO parts+parts.length≤4*(s1.i-s.i)+2)∧(s1.e=0→hO parts+parts.length≤4*(s1.i-s.i))∧(gs.length-s1.i+(if s1.e=0 then 1 else 0)≤mm)) (gs.length+1) ?_ ?_
 ·exact⟨s,.nul,[],rfl,hH,rfl,hg,Ψ _,hi,fun l hl=>(by cases hl),by simp[hO],fun _=>by simp[hO],by split<;>omega⟩
 rintro mm fr st ⟨s1,pd,parts,hfr,hH,h1,h2,h3,h4,h5,h6,h7,Ca⟩;rw[hfr];clear hfr;generalize rR fr=ee;clear fr
 have vx:∀st:St,Has N S2 st (.box k (.mem 0 false (aW gs ch s1))::.aC ch 1 (cC.map ax)::.aC pd 1 (parts.map fw)::H)→∃d,Ev pv 82 [.int .i64 3,pd] st d st∧zD gs s s1 d∧∃l,d=zJ l:=by
  intro st hH;obtain⟨_,aA,l,rfl,j1,j2,j3⟩:=xA 3 (hH.rows cU) h5 z0 z0;refine⟨_,aA,⟨h1,h2,h3,h4,l,rfl,j1,?_⟩,l,rfl⟩
  by_cases q1:parts.length=1
  ·have:=j2 q1;omega
  ·by_cases q0:parts.length=0
   ·have:parts=[]:=Γ.1 q0;rw[this] at j3 h6;simp[hO] at j3 h6;omega
   ·omega
 by_cases iI:s1.e=0
 ·rw[if_pos iI] at Ca;have h7:=h7 iI;have de:(s1.e==0)=true:=by simpa using iI
  by_cases hlt:s1.i<gs.length
  ·have cJ:decide (((s1.i:Nat):Int)<((gs.length:Nat):Int))=true:=by rw[decide_eq_true_eq];omega
   cases gE:(!lQ gs s1.i 124) with
   |false=>
    refine zQ 17 ?_;refine qn ?_ (hg:=wi de);simp only[ι];refine zQ 4 ?_;obtain⟨_,st,aA,rfl,hH⟩:=sX (s:=s1) z0 124 hH;refine qv aA ?_ (hg:=wi cJ);refine zQ 17 ?_;obtain⟨_,I0,hQ,l,rfl⟩:=vx _ hH;refine zQ 3 ?_;refine qv (I0) ?_;refine zQ 2 ?_;refine ag.ret ⟨rx,_,_,_,rfl,ai (rfl),?_⟩;exact⟨s1,hQ,bD.aq bA (hH.erase 2)⟩
   |true=>
    cases ef:lQ gs s1.i 41 with
    |false=>
     refine zQ 17 ?_;refine qn ?_ (hg:=wi de);simp only[ι];refine zQ 4 ?_;obtain⟨_,st,aA,rfl,hH⟩:=sX (s:=s1) z0 124 hH;refine qv aA ?_ (hg:=wi cJ);refine zQ 4 ?_;obtain⟨_,st,aA,rfl,hH⟩:=sX (s:=s1) z0 41 hH;refine qv aA ?_ (hg:=wi gE);refine zQ 6 ?_;refine Ξ (aj rfl rfl rfl gE) rfl ef (aa rfl _) ?_;refine zQ 9 ?_;obtain⟨_,st,aA,s2,⟨r1,r2,r3,r4,l,rfl,r5,r6,r7⟩,hH⟩:=HA hA aT (s:=s1) iI hlt h2 z0 hH;refine qv aA ?_;refine qh (s:=1) (vs:=[_]) hH fun k41 st RA hH=>?_;have hH:=zjob hH;refine AT (s:=1) hH rfl z3 z3 (by exact di) (by exact hH.rows (by exact aJ)) rfl rfl rfl rfl rfl rfl rfl ⟨(ε rfl),(ε rfl)⟩ (fun _=>(aa rfl _)) (by simp only[ζ,μ,ι]<;>omega) (by exact .inr rfl) (fun P4 st hH=>?_);have hH:=zjob hH;refine zQ 2 ?_;have hH:=hH.drop 1;refine⟨mm-1,by omega,⟨s2,P4,parts++[l],rfl,(by rw[Δ];exact hH),by omega,r2,by omega,r4,?_,by rw[eF,ν];simp only[hO,ζ,μ];omega,(fun e=>by rw[eF,ν];simp only[hO,ζ,μ];omega),by split<;>omega⟩⟩;intro l' ji
     rcases ξ.1 ji with ji|ji
     ·exact h5 l' ji
     ·simp only[δ,η,or_false] at ji;subst ji;exact r5
    |true=>
     refine zQ 17 ?_;refine qn ?_ (hg:=wi de);simp only[ι];refine zQ 4 ?_;obtain⟨_,st,aA,rfl,hH⟩:=sX (s:=s1) z0 124 hH;refine qv aA ?_ (hg:=wi cJ);refine zQ 4 ?_;obtain⟨_,st,aA,rfl,hH⟩:=sX (s:=s1) z0 41 hH;refine qv aA ?_ (hg:=wi gE);refine zQ 6 ?_;refine Ω (aj rfl rfl rfl gE) rfl ef (aa rfl _) ?_;refine zQ 3 ?_
     by_cases ib:0<s1.o
     ·have jy:(!decide (((s1.o:Nat):Int)>0))=false:=by rw[decide_eq_true z0];rfl
      refine qE rfl (by rw[jy]) ?_;refine zQ 1 ?_;obtain⟨_,I0,hQ,l,rfl⟩:=vx _ hH;refine zQ 3 ?_;refine qv (I0) ?_;refine zQ 2 ?_;refine ag.ret ⟨rx,_,_,_,rfl,ai (rfl),?_⟩;exact⟨s1,hQ,bD.aq bA (hH.erase 2)⟩
     ·have jy:(!decide (((s1.o:Nat):Int)>0))=true:=by rw[decide_eq_false z0];rfl
      refine qD rfl (by rw[jy]) ?_;refine zQ 5 ?_;obtain⟨_,st,aA,s2,⟨r1,r2,r3,r4,l,rfl,r5,r6,r7⟩,hH⟩:=HA hA aT (s:=s1) iI hlt h2 z0 hH;refine qv aA ?_;refine qh (s:=1) (vs:=[_]) hH fun k41 st RA hH=>?_;have hH:=zjob hH;refine AT (s:=1) hH rfl z3 z3 (by exact di) (by exact hH.rows (by exact aJ)) rfl rfl rfl rfl rfl rfl rfl ⟨(ε rfl),(ε rfl)⟩ (fun _=>(aa rfl _)) (by simp only[ζ,μ,ι]<;>omega) (by exact .inr rfl) (fun P4 st hH=>?_);have hH:=zjob hH;refine zQ 2 ?_;have hH:=hH.drop 1;refine⟨mm-1,by omega,⟨s2,P4,parts++[l],rfl,(by rw[Δ];exact hH),by omega,r2,by omega,r4,?_,by rw[eF,ν];simp only[hO,ζ,μ];omega,(fun e=>by rw[eF,ν];simp only[hO,ζ,μ];omega),by split<;>omega⟩⟩;intro l' ji
      rcases ξ.1 ji with ji|ji
      ·exact h5 l' ji
      ·simp only[δ,η,or_false] at ji;subst ji;exact r5
  ·have cJ:decide (((s1.i:Nat):Int)<((gs.length:Nat):Int))=false:=by rw[decide_eq_false_iff_not];omega
   refine zQ 17 ?_;refine qn ?_ (hg:=wi de);simp only[ι];refine zQ 22 ?_;obtain⟨_,I0,hQ,l,rfl⟩:=vx _ hH;refine zQ 3 ?_;refine qv (I0) ?_;refine zQ 2 ?_;refine ag.ret ⟨rx,_,_,_,rfl,ai (rfl),?_⟩;exact⟨s1,hQ,bD.aq bA (hH.erase 2)⟩
 ·have de:(s1.e==0)=false:=by simpa using iI
  refine zQ 40 ?_;obtain⟨_,I0,hQ,l,rfl⟩:=vx _ hH;refine zQ 3 ?_;refine qv (I0) ?_;refine zQ 2 ?_;refine ag.ret ⟨rx,_,_,_,rfl,ai (rfl),?_⟩;exact⟨s1,hQ,bD.aq bA (hH.erase 2)⟩
theorem MF:∀m:Nat,om m:=by
 intro m
 induction m using Nat.strongRecOn with
 |ind m ih0=>
 have hA:∀m',m'+1=m→om m':=fun m' h=>ih0 m' z0;intro N k S s0 H gs ch cC s aT he hi hg ho hH;have vw:=aT.gl;have ia:=aT.pl;refine Ev.eH rfl Xy rfl rfl rfl ?_;refine zE ?_;have bD:=hH;have hH:=hH.bf;have bA:(ae .rw s0).bs=s0.bs:=rfl;generalize ae .rw s0=S2 at*;refine zQ 7 ?_;obtain⟨_,st,aA,s1,⟨p1,p2,p3,p4,l,rfl,p5,p6⟩,hH⟩:=J1 hA aT he hi hg ho hH;refine qv aA ?_;refine qh (s:=1) (vs:=[_]) hH fun k6 st De hH=>?_;have hH:=zjob hH;refine zQ 2 ?_;have hH:Has N S2 st (.box k (.mem 0 false (aW gs ch s1))::.aC ch 1 (cC.map ax)::.aC (.win k6 0 0 1 1) 1 ([l].map fw)::H):=qM hH;refine zQ 2 ?_;refine ag.loop (fun mm fr st=>∃(s1:gJ) (pd:D) (parts:List (List eE)),fr.clean=⟨4,[.ptr k 0 0,rR fr 1,rR fr 2,pd],[]⟩∧Has N S2 st (.box k (.mem 0 false (aW gs ch s1))::.aC ch 1 (cC.map ax)::.aC pd 1 (parts.map fw)::H)∧(s1.o=s.o)∧(s1.g≤4)∧(s.i≤s1.i)∧(s1.i≤gs.length)∧(∀l∈parts,∀n∈l,zT n)∧(hO parts+3*parts.length≤4*(s1.i-s.i)+4)∧(1≤parts.length)∧(gs.length-s1.i≤mm)) (gs.length) ?_ ?_
 ·exact⟨s1,.win k6 0 0 1 1,[l],rfl,hH,p1,p2,p3,p4,(fun l' ji=>by simp only[δ,η,or_false] at ji;subst ji;exact p5),by simp only[hO,ζ,μ];omega,by simp,by omega⟩
 rintro mm fr st ⟨s1,pd,parts,hfr,hH,h1,h2,h3,h4,h5,h6,h8,Ca⟩;rw[hfr];clear hfr;generalize rR fr=ee;clear fr
 have vx:∀st:St,Has N S2 st (.box k (.mem 0 false (aW gs ch s1))::.aC ch 1 (cC.map ax)::.aC pd 1 (parts.map fw)::H)→∃d,Ev pv 82 [.int .i64 4,pd] st d st∧zD gs s s1 d∧∃l,d=zJ l:=by
  intro st hH;obtain⟨_,aA,l,rfl,j1,j2,j3⟩:=xA 4 (hH.rows cU) h5 z0 z0;refine⟨_,aA,⟨h1,h2,h3,h4,l,rfl,j1,?_⟩,l,rfl⟩
  by_cases q1:parts.length=1
  ·have:=j2 q1;omega
  ·omega
 by_cases iI:s1.e=0
 ·have de:(s1.e==0)=true:=by simpa using iI
  obtain⟨k1,k2,k3,k4,k5⟩:=jm (gs:=gs) (s:=s1) (r:=124);have k5:=k5 h4;refine zQ 10 ?_;obtain⟨_,st,aA,rfl,hH⟩:=ft (s:=s1) z0 124 hH;refine qv aA ?_ (hg:=wi de);refine zQ 2 ?_
  cases hb:lQ gs s1.i 124 with
  |false=>
   rw[tI hb] at hH;refine zQ 2 ?_;obtain⟨_,I0,hQ,l,rfl⟩:=vx _ hH;refine zQ 3 ?_;refine qv (I0) ?_;refine zQ 2 ?_;refine ag.ret ⟨rx,_,_,_,rfl,ai (rfl),?_⟩;exact⟨s1,hQ,bD.aq bA (hH.erase 2)⟩
  |true=>
   have k6:=pf hb;generalize dK gs s1 124=s2 at*;refine zQ 6 ?_;obtain⟨_,st,aA,s3,⟨r1,r2,r3,r4,l,rfl,r5,r6⟩,hH⟩:=J1 hA aT (s:=s2) z0 k5 z0 z0 hH;refine qv aA ?_;refine qh (s:=1) (vs:=[_]) hH fun k19 st RE hH=>?_;have hH:=zjob hH;refine AT (s:=1) hH rfl z3 z3 (by exact di) (by exact hH.rows (by exact aJ)) rfl rfl rfl rfl rfl rfl rfl ⟨(ε rfl),(ε rfl)⟩ (fun _=>(aa rfl _)) (by simp only[ζ,μ,ι]<;>omega) (by exact .inr rfl) (fun Yk st hH=>?_);have hH:=zjob hH;refine zQ 2 ?_;have hH:=hH.drop 1;refine⟨mm-1,by omega,⟨s3,Yk,parts++[l],rfl,(by rw[Δ];exact hH),by omega,r2,by omega,r4,?_,by rw[eF,ν];simp only[hO,ζ,μ];omega,by rw[ν];omega,by omega⟩⟩;intro l' ji
   rcases ξ.1 ji with ji|ji
   ·exact h5 l' ji
   ·simp only[δ,η,or_false] at ji;subst ji;exact r5
 ·have de:(s1.e==0)=false:=by simpa using iI
  refine zQ 15 ?_;obtain⟨_,I0,hQ,l,rfl⟩:=vx _ hH;refine zQ 3 ?_;refine qv (I0) ?_;refine zQ 2 ?_;refine ag.ret ⟨rx,_,_,_,rfl,ai (rfl),?_⟩;exact⟨s1,hQ,bD.aq bA (hH.erase 2)⟩
theorem Ke:∀(n:Nat) (b:List UInt8),b.length≤n→(wb b).length≤b.length∧∀g∈wb b,g.2≤b.length:=by
 intro n
 induction n with
 |zero=>
  intro b hb;have:b=[]:=Γ.1 z0;subst this;rw[wa];exact⟨Ψ _,fun g hg=>by cases hg⟩
 |succ n ih=>
  intro b hb
  by_cases h:b=[]
  ·subst h;rw[wa];exact⟨Ψ _,fun g hg=>by cases hg⟩
  ·have hp:=jc b;have hl:=tP h;obtain⟨h1,h2⟩:=ih (b.drop (d_ b).2) (by rw[IS];omega);rw[IS] at h1 h2;rw[ya h];refine⟨by rw[ζ];omega,fun g hg=>?_⟩
   rcases δ.1 hg with rfl|hg
   ·exact hl
   ·have:=h2 g hg;omega
def bG (fr:Go.V.Fr) (k:Nat):Go.V.D:=Go.V.nth .bo fr.loc k
def Pw (d:D):Prop:=∃(l:List eE) (e w:Int),d=.tup [zJ l,.int .i64 e,.int .i64 w]∧(∀n∈l,zT n)∧l.length≤500
theorem HQ {b:List UInt8} (hbl:b.length≤1048576):∃d,Ev pv 13 [.str b] s0 d s0∧Pw d:=by
 obtain⟨vw,hgs⟩:=Ke _ b (Ψ _);have aA:∀(st:St) (x:D),Bytes st x b→Ev pv 40 [x] st (gf (wb b)) st:=fun st x h=>Pp h hbl;generalize wb b=gs at*;refine Ev.CL rfl XX rfl rfl rfl ?_;refine zE ?_;obtain⟨aR,hF,hH⟩:=ri s0;generalize ae .ro s0=S at*;have LW:Arg s0.bs.length S 2 (gf gs) (gs.map bF):=Arg.pure (fun st=>fe st gs);refine zQ 10 ?_;refine ab.Ag rfl rfl rfl (by dsimp only[Fr.put,u1,u2]<;>rfl) ?_;refine zQ 2 ?_
 by_cases Zb:120<b.length
 ·have jy:decide (((b.length:Nat):Int)>120)=true:=by rw[decide_eq_true_eq];omega
  refine qD rfl (by rw[jy]) ?_;refine zQ 6 ?_;refine ag.ret ⟨rx,_,_,rfl,rl aR hH (rfl),?_⟩;exact⟨[],2,0,rfl,fun n hn=>(by cases hn),by simp⟩
 have jy:decide (((b.length:Nat):Int)>120)=false:=by rw[decide_eq_false_iff_not];omega
 refine qE rfl (by rw[jy]) ?_;refine zQ 4 ?_;refine ab.Dl hH rfl rfl rfl rfl rfl z0 (fun _=>by dsimp only[Fr.put,u1,u2]<;>rfl) (fun k14 st OL hH=>?_);refine qv ((aA _ _ (hH.rows aJ))) ?_;refine Pd (d:=.agg [gf gs,.nul,.int .i64 0,.int .i64 0,.int .i64 0,.int .i64 0,.int .i64 0]) (st1:=_) rfl rfl rfl (by dsimp only[Fr.put,u1,u2]<;>rfl) ?_;refine qb hH fun k17 st OK hH=>?_;refine zQ 13 ?_;refine qn ?_;simp only[ι];refine zQ 2 ?_;have hH:Has s0.bs.length S st (.box k17 (.mem 0 false [gf gs,.nul,.int .i64 0,.int .i64 0,.int .i64 0,.int .i64 0,.int .i64 0])::.aC .nul 1 (([]:List Int).map ax)::[]):=((hH.erase 1).fG 1).front bt;refine zQ 1 ?_;refine ag.loop (fun mm fr st=>∃(i a:Nat) (pd:D) (cC:List Int),fr.clean=⟨24,[bG fr 0,bG fr 1,bG fr 2,bG fr 3,bG fr 4,.ptr k17 0 0,.int .i64 (a:Nat),bG fr 7,bG fr 8,bG fr 9,bG fr 10,bG fr 11,bG fr 12,bG fr 13,bG fr 14,bG fr 15,bG fr 16,bG fr 17,bG fr 18,bG fr 19,bG fr 20,gf gs,.int .i64 (gs.length:Nat),.int .i64 (i:Nat)],[]⟩∧Has s0.bs.length S st [.box k17 (.mem 0 false [gf gs,pd,.int .i64 0,.int .i64 0,.int .i64 0,.int .i64 0,.int .i64 0]),.aC pd 1 (cC.map ax)]∧(i+mm=gs.length)∧(cC.length=i)∧(a≤120*i)) (gs.length) ?_ ?_
 ·exact⟨0,0,.nul,[],rfl,hH,by omega,rfl,by omega⟩
 rintro mm fr st ⟨i,a,pd,cC,hfr,hH,hi,ia,ha⟩;rw[hfr];clear hfr;generalize bG fr=ee;clear fr;refine zQ 4 ?_
 by_cases hlt:i<gs.length
 ·obtain⟨g,hg⟩:∃g,gs[i]?=some g:=⟨gs[i]'hlt,ρ _⟩
  have fU:(gs.map bF)[i]?=some (bF g):=by rw[IN,hg];rfl
  have cj:=hgs g (BY hg);have nu:decide (((i:Nat):Int)<((gs.length:Nat):Int))=true:=by rw[decide_eq_true_eq];omega
  refine qq<|qD rfl (by rw[nu]) ?_;refine zQ 5 ?_;refine qr fun PB Ga=>?_;refine ab.cM rfl z3 z5 rfl (aa rfl _) ?_;refine qa hH fun k8 st LQ hH=>?_;refine qS hH aJ fun st hH=>?_;dsimp only[u2,u1,u3,u4,setMany,u5,u6,κ,γ,aW,bF,ax] at hH;refine zQ 9 ?_;refine qh (s:=1) (vs:=[_]) hH fun k33 st VQ hH=>?_;refine AT (s:=1) hH rfl z3 z3 (by exact di) (by exact hH.rows (by exact aJ)) rfl rfl rfl rfl rfl rfl rfl ⟨(ε rfl),(ε rfl)⟩ (fun _=>(aa rfl _)) (by simp only[ζ,μ,ι]<;>omega) (by exact .inl hF) (fun ZR st hH=>?_);dsimp only[u2,u1,u3,u4,setMany,u5,u6,κ,γ,aW,bF,ax] at hH;refine zQ 2 ?_;refine qT hH cU (fun st hH=>?_) (kh:=hH.eO di);dsimp only[u2,u1,u3,u4,setMany,u5,u6,κ,γ,aW,bF,ax] at hH;refine zQ 5 ?_;refine ab.Ye rfl z3 z3 z0 (aa rfl _) ?_;refine zQ 6 ?_;exact⟨mm-1,by omega,⟨i+1,a+g.2,ZR,cC++[((a:Nat):Int)],rfl,(by rw[Δ];exact hH.drop 2),by omega,by rw[ν,ia];rfl,by omega⟩⟩
 ·have nu:decide (((i:Nat):Int)<((gs.length:Nat):Int))=false:=by rw[decide_eq_false_iff_not];omega
  refine qq<|qE rfl (by rw[nu]) ?_;refine zQ 1 ?_
  have aT:nG gs cC:=⟨by omega,by omega⟩
  have hH:Has s0.bs.length S st (.box k17 (.mem 0 false (aW gs pd ⟨0,0,0,0,0⟩))::.aC pd 1 (cC.map ax)::[]):=hH;refine zQ 3 ?_;obtain⟨_,st,aA,s1,⟨p1,p2,p3,p4,l,rfl,p5,p6⟩,hH⟩:=MF 20 (s:=⟨0,0,0,0,0⟩) aT rfl (by simp) (by simp) rfl hH;refine qv aA ?_;refine zQ 2 ?_;have p6:l.length≤4*(s1.i-0)+1:=p6;refine zQ 2 ?_;refine ag.jn (fun fr st=>∃(s2:gJ) (tmp:List (Nat×D)),fr=⟨24,[bG fr 0,bG fr 1,bG fr 2,bG fr 3,bG fr 4,.ptr k17 0 0,bG fr 6,bG fr 7,bG fr 8,zJ l,bG fr 10,bG fr 11,bG fr 12,bG fr 13,bG fr 14,bG fr 15,bG fr 16,bG fr 17,bG fr 18,bG fr 19,bG fr 20,bG fr 21,bG fr 22,bG fr 23],tmp⟩∧Has s0.bs.length S st (.box k17 (.mem 0 false (aW gs pd s2))::.aC pd 1 (cC.map ax)::[])∧(True)) ?_ ?_
  ·by_cases iI:s1.e=0
   ·have de:(s1.e==0)=true:=by simpa using iI
    refine zQ 15 ?_;refine qn ?_ (hg:=wi de);simp only[ι];refine zQ 3 ?_;refine zP (fun o0=>?_) fun o0=>?_
    ·refine zQ 6 ?_;obtain⟨_,st,aA,rfl,hH⟩:=dQ (s:=s1) s1.i 4 z0 hH;refine qv aA ?_;refine zQ 1 ?_;exact⟨_,_,rfl,hH,trivial⟩
    ·refine zQ 1 ?_;exact⟨s1,_,rfl,hH,trivial⟩
   ·have de:(s1.e==0)=false:=by simpa using iI
    refine zQ 21 ?_;exact⟨s1,_,rfl,hH,trivial⟩
  ·rintro fr st ⟨s2,tmp,hfr,hH,ht⟩;rw[hfr];clear hfr;generalize bG fr=ee;clear fr;refine zQ 9 ?_;refine ag.cond (by rfl) (fun hne=>?_) (fun hne=>?_)<;>try simp only[bne_iff_ne,bne_eq_false_iff_eq,ne_eq] at hne
   ·refine zQ 14 ?_;refine ag.ret ⟨rx,_,_,rfl,rl aR hH (rfl),?_⟩;exact⟨[],_,_,rfl,fun n hn=>(by cases hn),by simp⟩
   ·refine zQ 8 ?_;refine ag.ret ⟨rx,_,_,rfl,rl aR hH (rfl),?_⟩;exact⟨l,0,0,rfl,p5,by omega⟩
def yC (n:eE):Bool:=((n.op==2)||((n.rs.length:Nat):Int)==0) &&((n.op==5)||((n.mn==0) &&(n.mx==0) &&!n.lz)) &&((n.op==6)||(n.cap==0))
noncomputable def gM (n:eE) (g:Int):Int×Bool:=
 if yC n=false then(0,false)
 else if n.op=1∨n.op=7∨n.op=8 then(0,n.kids==0)
 else if n.op=2 then(0,(n.kids==0) &&eN n.rs)
 else if n.op=3∨n.op=4 then(n.kids,decide (n.kids≥2))
 else if n.op=5 then(1,(n.kids==1) &&decide (n.mn≥0) &&decide (n.mn≤30) &&((n.mx==-1)||(decide (n.mx≥n.mn) &&decide (n.mx≤30))))
 else if n.op=6 then(1,(n.kids==1) &&(n.cap==g+1) &&decide (n.cap≤4))
 else(0,false)
def lI (h:Nat→Nat→Option (Nat×Nat)):Nat→Nat→Nat→Option (Nat×Nat)
 |0,at_,g=>some (at_,g)
 |k+1,at_,g=>match h at_ g with
  |some r=>lI h k r.1 r.2
  |none=>none
noncomputable def jX (l:List eE):Nat→Nat→Nat→Option (Nat×Nat)
 |0,_,_=>none
 |f+1,at_,g=>match l[at_]? with
  |none=>none
  |some n=>if(gM n (g:Nat)).2=true then lI (jX l f) (gM n (g:Nat)).1.toNat (at_+1) (if n.op=6 then g+1 else g) else none
variable{n:eE}{g:Nat}
theorem Ak (h:(gM n (g:Nat)).2=true):A3 n (gM n (g:Nat)).1.toNat∧0≤(gM n (g:Nat)).1∧(n.op=6→n.cap=g+1∧n.cap≤4):=by
 unfold gM at h⊢;unfold A3
 by_cases h0:yC n=false
 ·rw[if_pos h0] at h;cases h
 rw[if_neg h0] at h⊢
 by_cases h1:n.op=1∨n.op=7∨n.op=8
 ·rw[if_pos h1] at h⊢;simp only[beq_iff_eq] at h;exact⟨⟨h,.inl ⟨h1,rfl⟩⟩,Int.le_refl _,fun h6=>by omega⟩
 rw[if_neg h1] at h⊢
 by_cases h2:n.op=2
 ·rw[if_pos h2] at h⊢;simp only[ω,beq_iff_eq] at h;exact⟨⟨h.1,.inr (.inl ⟨h2,rfl⟩)⟩,Int.le_refl _,fun h6=>by omega⟩
 rw[if_neg h2] at h⊢
 by_cases h3:n.op=3∨n.op=4
 ·rw[if_pos h3] at h⊢;simp only[decide_eq_true_eq] at h;exact⟨⟨by simp only;omega,.inr (.inr (.inl ⟨h3,by simp only;omega⟩))⟩,by simp only;omega,fun h6=>by omega⟩
 rw[if_neg h3] at h⊢
 by_cases h5:n.op=5
 ·rw[if_pos h5] at h⊢;simp only[ω,Φ,beq_iff_eq,decide_eq_true_eq] at h;exact⟨⟨by simp only;omega,.inr (.inr (.inr (.inl ⟨h5,by simp only;rfl,by omega,by omega,by omega⟩)))⟩,by simp only;omega,fun h6=>by omega⟩
 rw[if_neg h5] at h⊢
 by_cases h6:n.op=6
 ·rw[if_pos h6] at h⊢;simp only[ω,beq_iff_eq,decide_eq_true_eq] at h;exact⟨⟨by simp only;omega,.inr (.inr (.inr (.inr ⟨h6,by simp only;rfl,by omega,by omega⟩)))⟩,by simp only;omega,fun _=>⟨h.1.2,h.2⟩⟩
 rw[if_neg h6] at h;cases h
variable{at_:Nat}
theorem h_.cons {α:Type} {L M:List α} {a:α} (h:L[at_]?=some a) (h2:h_ L (at_+1) M):h_ L at_ (a::M):=by
 obtain⟨post,h2⟩:=h2;refine⟨post,?_⟩;have h3:L[at_]'(bc h)=a:=Option.some.inj ((ρ _).symm.trans h);rw[List.drop_eq_getElem_cons (bc h),h2,h3];rfl
theorem h_.append {α:Type} {L M M':List α} (h:h_ L at_ M) (h2:h_ L (at_+M.length) M'):h_ L at_ (M++M'):=by
 obtain⟨post,h⟩:=h;obtain⟨Qd,h2⟩:=h2;refine⟨Qd,?_⟩;rw[←List.drop_drop,h,List.drop_left] at h2;rw[h,h2,List.append_assoc]
theorem h_.none {α:Type} (L:List α) (at_:Nat):h_ L at_ []:=⟨_,rfl⟩
theorem xz {l:List eE} {h:Nat→Nat→Option (Nat×Nat)} (ih:∀at_ g r,h at_ g=some r→∃t:Tr,t.ok∧h_ l at_ t.flat∧r.1=at_+t.flat.length):∀k at_ g r,lI h k at_ g=some r→∃ts:bU,ts.len=k∧ts.ok∧h_ l at_ ts.flat∧r.1=at_+ts.flat.length
 |0,at_,g,r,e=>by
  simp only[lI,Option.some.injEq] at e;subst e;exact⟨.nil,rfl,trivial,h_.none _ _,by simp[bU.flat]⟩
 |k+1,at_,g,r,e=>by
  unfold lI at e
  cases hq:h at_ g with
  |none=>rw[hq] at e;cases e
  |some q=>
   rw[hq] at e;obtain⟨t,t1,t2,t3⟩:=ih _ _ _ hq;obtain⟨ts,u1,u2,u3,u4⟩:=xz ih k _ _ _ e;rw[t3] at u3 u4;exact⟨.cons t ts,by simp[bU.len,u1],by simp only[bU.ok];exact⟨t1,u2⟩,by simp only[bU.flat];exact t2.append u3,by rw[u4];simp only[bU.flat,ν];omega⟩
theorem AW {l:List eE}:∀f at_ g r,jX l f at_ g=some r→∃t:Tr,t.ok∧h_ l at_ t.flat∧r.1=at_+t.flat.length
 |0,_,_,_,e=>by simp[jX] at e
 |f+1,at_,g,r,e=>by
  unfold jX at e
  cases hn:l[at_]? with
  |none=>rw[hn] at e;cases e
  |some n=>
   rw[hn] at e;simp only at e
   split at e
   ·rename_i hs;obtain⟨ts,u1,u2,u3,u4⟩:=xz (AW f) _ _ _ _ e;have:=(Ak hs).1;rw[←u1] at this;exact⟨.mk n ts,by simp only[Tr.ok];exact⟨this,u2⟩,by simp only[Tr.flat];exact h_.cons hn u3,by rw[u4];simp only[Tr.flat,ζ];omega⟩
   ·cases e
noncomputable def iR (l:List eE):Bool:=(decide (1≤l.length) &&decide (l.length≤480)) &&(match jX l 241 0 0 with|some r=>decide (r.1=l.length)|none=>false)
variable{l:List eE}
theorem uA (h:iR l=true):∃t:Tr,t.ok∧t.flat=l:=by
 unfold iR at h;simp only[ω] at h;obtain⟨_,h⟩:=h
 split at h
 ·rename_i r hr;obtain⟨t,h1,⟨post,h2⟩,h3⟩:=AW _ _ _ _ hr;rw[decide_eq_true_eq] at h;refine⟨t,h1,?_⟩;rw[χ] at h2;have h4:=congrArg List.length h2;rw[ν] at h4;have h5:post=[]:=Γ.1 z0;rw[h2,h5,List.append_nil]
 ·cases h
noncomputable def dq (l:List eE):Tr:=@dite _ (∃t:Tr,t.ok∧t.flat=l) (Classical.propDecidable _) (fun h=>Classical.choose h) (fun _=>.mk ⟨0,.nul,[],0,0,false,0,0⟩ .nil)
theorem yl (h:iR l=true):(dq l).ok∧(dq l).flat=l:=by
 unfold dq;rw[dif_pos (uA h)];exact Classical.choose_spec (uA h)
theorem My {s:Nat}:min (cg n (min s 401) k) 401=min (cg n s k) 401:=by
 by_cases hs:s≤401
 ·rw[Nat.min_eq_left hs]
 ·have hx:min s 401=401:=by omega
  rw[hx];unfold cg
  split
  ·rfl
  ·split
   ·omega
   ·split
    ·omega
    ·split
     ·split
      ·omega
      ·by_cases h0:n.mn.toNat=0
       ·rw[h0]
        by_cases hd:n.mx.toNat-0=0
        ·rw[hd];simp
        ·have h1:=ς (401+1) (show 0<n.mx.toNat-0 by omega);have h2:=ς (s+1) (show 0<n.mx.toNat-0 by omega);omega
       ·have h1:=ς 401 (show 0<n.mn.toNat by omega);have h2:=ς s (show 0<n.mn.toNat by omega);omega
     ·omega
def gb (t:Tr) (b r:Nat):List aL:=dJ 4 0 0 []::(aU t (b+1)++[dJ 4 1 0 [],dJ 7 (r:Nat) 0 []])
variable{b:Nat}{t:Tr}
theorem nN {r:Nat} (h:t.ok):(gb t b r).length=t.sz+3:=by
 unfold gb;rw[ζ,ν,c8 t _ h];rfl
structure wm where
 code:List aL
 ak:List Int
 e:Int
 w:Int
noncomputable def gg:List (List eE)→Nat→List aL→List Int→wm
 |[],_,c,s=>⟨c,s,0,0⟩
 |l::ls,r,c,s=>if iR l=false then⟨[],[],1,(r:Nat)⟩ else if 400<c.length+min (dq l).sz 401+3 then⟨[],[],12,(r:Nat)⟩ else gg ls (r+1) (c++gb (dq l) c.length r) (s++[((c.length:Nat):Int)])
noncomputable def bE (rules:List (List eE)):wm:=if 8<rules.length then⟨[],[],13,8⟩ else gg rules 0 [] []
def sQ (code:List aL) (ak:List Int):Pg:=⟨.sl ((code.map aK).map (kO 4)),code,EJ ak,ak⟩
def lP (i:aL):Prop:=i.rd=.sl ((i.rs.map au).map (kO 2))∧i.rs.length≤1048576
theorem pz (op x y:Int):lP (dJ op x y []):=⟨rfl,by simp[dJ]⟩
theorem Qr (op x y:Int) {rs:List Rg} (h:rs.length≤1048576):lP (dJ op x y rs):=⟨rfl,h⟩
theorem Hi (s o:Nat) (lz:Bool):lP (rh s o lz):=by unfold rh;split<;>exact pz _ _ _
theorem MT (e:Nat):lP (pF e):=pz _ _ _
variable{code:List aL}
theorem C4 (h:∀i∈code,lP i):∀e∈code.map aK,∀d∈e,cD d=true:=by
 intro e he d hd;obtain⟨q,hq,rfl⟩:=OF.1 he;have hr:=(h q hq).1;simp only[aK,hr,δ,η,or_false] at hd
 rcases hd with rfl|rfl|rfl|rfl<;>rfl
theorem Lp (code:List aL):∀e∈code.map aK,e.length=4:=by
 intro e he;obtain⟨q,_,rfl⟩:=OF.1 he;rfl
theorem HO {ak:List Int} (h:∀i∈code,lP i) (h1:code.length≤1048576) (h2:ak.length≤1048576):(sQ code ak).ok:=by
 refine⟨fg.frozen (Lp code) (C4 h),vl _,fun i hi=>?_,h1,h2⟩;obtain⟨h3,h4⟩:=h i hi;refine⟨?_,h4⟩;rw[h3];exact fg.frozen (nP _) (eG _)
theorem Cx {c:Nat→List aL} {z:Nat} (hc:∀b,∀i∈c b,lP i):∀k b,∀i∈gO c z k b,lP i
 |0,b,i,hi=>by cases hi
 |k+1,b,i,hi=>by
  simp only[gO] at hi
  rcases ξ.1 hi with hi|hi
  ·exact hc b i hi
  ·exact Cx hc k _ i hi
theorem HT {sp:Nat→aL} {c:Nat→List aL} {z:Nat} (hs:∀s,lP (sp s)) (hc:∀b,∀i∈c b,lP i):∀k b,∀i∈gA sp c z k b,lP i
 |0,b,i,hi=>by cases hi
 |k+1,b,i,hi=>by
  simp only[gA] at hi
  rcases δ.1 hi with rfl|hi
  ·exact hs _
  ·rcases ξ.1 hi with hi|hi
   ·exact hc _ i hi
   ·exact HT hs hc k _ i hi
mutual
theorem tV:∀(t:Tr) (b:Nat),(∀n∈t.flat,n.rs.length≤1048576)→∀i∈aU t b,lP i
 | .mk n ks,b,h,i,hi=>by
  simp only[Tr.flat] at h;have hn:=h n (List.mem_cons_self ..);have hk:∀n∈ks.flat,n.rs.length≤1048576:=fun m hm=>h m (List.mem_cons_of_mem _ hm);have hc:=fun b=>J2 ks b hk;have ha:=fun jp (hj:lP jp) b=>Kc jp hj ks b hk;simp only[aU] at hi
  split at hi
  ·simp only[δ,η,or_false] at hi;subst hi;exact Qr _ _ _ hn
  split at hi
  ·simp only[δ,η,or_false] at hi;subst hi;exact pz _ _ _
  split at hi
  ·simp only[δ,η,or_false] at hi;subst hi;exact pz _ _ _
  split at hi
  ·exact hc b i hi
  split at hi
  ·exact ha _ (MT _) b i hi
  split at hi
  ·unfold rr at hi
   split at hi
   ·rcases ξ.1 hi with hi|hi
    ·exact Cx hc _ _ i hi
    ·rcases δ.1 hi with rfl|hi
     ·exact Hi _ _ _
     ·rcases ξ.1 hi with hi|hi
      ·exact hc _ i hi
      ·simp only[δ,η,or_false] at hi;subst hi;exact MT _
   ·rcases ξ.1 hi with hi|hi
    ·exact Cx hc _ _ i hi
    ·exact HT (fun s=>Hi _ _ _) hc _ _ i hi
  split at hi
  ·rcases δ.1 hi with rfl|hi
   ·exact pz _ _ _
   ·rcases ξ.1 hi with hi|hi
    ·exact hc _ i hi
    ·simp only[δ,η,or_false] at hi;subst hi;exact pz _ _ _
  ·cases hi
theorem J2:∀(ts:bU) (b:Nat),(∀n∈ts.flat,n.rs.length≤1048576)→∀i∈iD ts b,lP i
 | .nil,b,_,i,hi=>by simp[iD] at hi
 | .cons t ts,b,h,i,hi=>by
  simp only[bU.flat] at h;simp only[iD] at hi
  rcases ξ.1 hi with hi|hi
  ·exact tV t b (fun n hn=>h n (GB _ hn)) i hi
  ·exact J2 ts _ (fun n hn=>h n (wt _ hn)) i hi
theorem Kc (jp:aL) (hj:lP jp):∀(ts:bU) (b:Nat),(∀n∈ts.flat,n.rs.length≤1048576)→∀i∈f_ jp ts b,lP i
 | .nil,b,_,i,hi=>by simp[f_] at hi
 | .cons t ts,b,h,i,hi=>by
  simp only[bU.flat] at h;have h1:∀n∈t.flat,n.rs.length≤1048576:=fun n hn=>h n (GB _ hn);have h2:∀n∈ts.flat,n.rs.length≤1048576:=fun n hn=>h n (wt _ hn);simp only[f_] at hi
  split at hi
  ·exact tV t b h1 i hi
  ·rcases δ.1 hi with rfl|hi
   ·exact Hi _ _ _
   ·rcases ξ.1 hi with hi|hi
    ·exact tV t _ h1 i hi
    ·rcases δ.1 hi with rfl|hi
     ·exact hj
     ·exact Kc jp hj ts _ h2 i hi
end
theorem KW {r:Nat} (h:∀n∈t.flat,n.rs.length≤1048576):∀i∈gb t b r,lP i:=by
 intro i hi;unfold gb at hi
 rcases δ.1 hi with rfl|hi
 ·exact pz _ _ _
 ·rcases ξ.1 hi with hi|hi
  ·exact tV t _ h i hi
  ·simp only[δ,η,or_false] at hi
   rcases hi with rfl|rfl
   ·exact pz _ _ _
   ·exact pz _ _ _
def rQ (fr:Go.V.Fr) (k:Nat):Go.V.D:=Go.V.nth .bo fr.loc k
theorem HL (hn:n.ok):Ev pv 139 [.agg (bC n)] s0 (.bool (yC n)) s0:=by
 refine Ev.iu rfl SI rfl rfl rfl ?_;refine zE ?_;obtain⟨aR,hF,hH⟩:=ri s0;generalize ae .ro s0=S at*;have C7:=hn.1.arg s0.bs.length S;have wv:=hn.2.1;refine zQ 2 ?_;refine qb hH fun k1 st oO hH=>?_;dsimp only[u2,u1,u3,u4,setMany,u5,u6,κ,γ,bC] at hH;refine zQ 10 ?_;refine ag.mH 2 (.bool (((n.op==2)||((n.rs.length:Nat):Int)==0) &&((n.op==5)||((n.mn==0) &&(n.mx==0) &&!n.lz)) &&((n.op==6)||(n.cap==0)))) [] ?_ (fun ff tmp=>?_)
 ·refine zQ 4 ?_;refine π 10 rfl (fun bB=>?_) (fun bB=>?_)
  ·refine zQ 8 ?_;refine π 18 rfl (fun cG=>?_) (fun cG=>?_)
   ·refine zQ 20 ?_;refine π 38 rfl (fun mh=>?_) (fun mh=>?_)
    ·refine zQ 6 ?_;refine ο (aX ?_);refine zG ?_
     all_goals(simp[bB,cG,mh];done)
    ·refine zQ 6 ?_;refine ο (aX ?_);refine zG ?_
     all_goals(simp[bB,cG,mh];done)
   ·refine zQ 4 ?_;refine π 22 rfl (fun nj=>?_) (fun nj=>?_)
    ·refine zQ 3 ?_;refine Ω (aj rfl rfl rfl cG) rfl nj (aa rfl _) ?_;refine zQ 1 ?_;refine π 27 rfl (fun oP=>?_) (fun oP=>?_)
     ·refine zQ 3 ?_;refine Ω (aj rfl rfl rfl cG) rfl oP (aa rfl _) ?_;refine zQ 3 ?_;refine π 34 rfl (fun r_=>?_) (fun r_=>?_)
      ·refine zQ 4 ?_;refine π 38 rfl (fun mh=>?_) (fun mh=>?_)
       ·refine zQ 3 ?_;refine Ω (aj rfl rfl rfl r_) rfl mh (aa rfl _) ?_;refine zQ 2 ?_;refine ο (aX ?_);refine zG ?_
        all_goals(simp[bB,cG,nj,oP,r_,mh];done)
       ·refine zQ 3 ?_;refine Ξ (aj rfl rfl rfl r_) rfl mh (aa rfl _) ?_;refine zQ 2 ?_;refine ο (aX ?_);refine zG ?_
        all_goals(simp[bB,cG,nj,oP,r_,mh];done)
      ·refine zQ 10 ?_;refine ο (aX ?_);refine zG ?_
       all_goals(simp[bB,cG,nj,oP,r_];done)
     ·refine zQ 3 ?_;refine Ξ (aj rfl rfl rfl cG) rfl oP (aa rfl _) ?_;refine zQ 13 ?_;refine ο (aX ?_);refine zG ?_
      all_goals(simp[bB,cG,nj,oP];done)
    ·refine zQ 3 ?_;refine Ξ (aj rfl rfl rfl cG) rfl nj (aa rfl _) ?_;refine zQ 18 ?_;refine ο (aX ?_);refine zG ?_
     all_goals(simp[bB,cG,nj];done)
  ·refine zQ 2 ?_;refine qn ?_ (hg:=wi bB);simp only[ι];refine zQ 3 ?_;refine π 16 rfl (fun fc=>?_) (fun fc=>?_)
   ·refine zQ 2 ?_;refine π 18 rfl (fun cG=>?_) (fun cG=>?_)
    ·refine zQ 13 ?_;refine Ω (aj rfl rfl rfl fc) rfl cG (aa rfl _) ?_;refine zQ 6 ?_;refine π 38 rfl (fun mh=>?_) (fun mh=>?_)
     ·refine zQ 6 ?_;refine ο (aX ?_);refine zG ?_
      all_goals(simp[bB,fc,cG,mh];done)
     ·refine zQ 6 ?_;refine ο (aX ?_);refine zG ?_
      all_goals(simp[bB,fc,cG,mh];done)
    ·refine zQ 4 ?_;refine π 22 rfl (fun nj=>?_) (fun nj=>?_)
     ·refine zQ 3 ?_;refine Ω (aj rfl rfl rfl cG) rfl nj (aa rfl _) ?_;refine zQ 1 ?_;refine π 27 rfl (fun oP=>?_) (fun oP=>?_)
      ·refine zQ 3 ?_;refine Ω (aj rfl rfl rfl cG) rfl oP (aa rfl _) ?_;refine Ξ (aj rfl rfl rfl fc) rfl cG (aa rfl _) ?_;refine zQ 2 ?_;refine π 34 rfl (fun r_=>?_) (fun r_=>?_)
       ·refine zQ 4 ?_;refine π 38 rfl (fun mh=>?_) (fun mh=>?_)
        ·refine zQ 3 ?_;refine Ω (aj rfl rfl rfl r_) rfl mh (aa rfl _) ?_;refine zQ 2 ?_;refine ο (aX ?_);refine zG ?_
         all_goals(simp[bB,fc,cG,nj,oP,r_,mh];done)
        ·refine zQ 3 ?_;refine Ξ (aj rfl rfl rfl r_) rfl mh (aa rfl _) ?_;refine zQ 2 ?_;refine ο (aX ?_);refine zG ?_
         all_goals(simp[bB,fc,cG,nj,oP,r_,mh];done)
       ·refine zQ 10 ?_;refine ο (aX ?_);refine zG ?_
        all_goals(simp[bB,fc,cG,nj,oP,r_];done)
      ·refine zQ 3 ?_;refine Ξ (aj rfl rfl rfl cG) rfl oP (aa rfl _) ?_;refine Ξ (aj rfl rfl rfl fc) rfl cG (aa rfl _) ?_;refine zQ 12 ?_;refine ο (aX ?_);refine zG ?_
       all_goals(simp[bB,fc,cG,nj,oP];done)
     ·refine zQ 3 ?_;refine Ξ (aj rfl rfl rfl cG) rfl nj (aa rfl _) ?_;refine zQ 5 ?_;refine Ξ (aj rfl rfl rfl fc) rfl cG (aa rfl _) ?_;refine zQ 12 ?_;refine ο (aX ?_);refine zG ?_
      all_goals(simp[bB,fc,cG,nj];done)
   ·refine zQ 28 ?_;refine ο (aX ?_);refine zG ?_
    all_goals(simp[bB,fc];done)
 dsimp only[aI,θ,nth,u2,u1];refine ag.ret ⟨rx,_,rfl,rl aR hH (rfl)⟩
theorem Cn (hn:n.ok) (hg:g≤1048576):Ev pv 120 [.agg (bC n),.int .i64 (g:Nat)] s0 (.tup [.int .i64 (gM n (g:Nat)).1,.bool (gM n (g:Nat)).2]) s0:=by
 refine Ev.iu rfl SX rfl rfl rfl ?_;refine zE ?_;obtain⟨aR,hF,hH⟩:=ri s0;generalize ae .ro s0=S at*;have C7:=hn.1.arg s0.bs.length S;have wv:=hn.2.1;refine zQ 2 ?_;refine qb hH fun k2 st hk2 hH=>?_;dsimp only[u2,u1,u3,u4,setMany,u5,u6,κ,γ,bC] at hH;refine zQ 6 ?_;refine AN (m:=7) hH rfl z3 (by exact aJ) (by dsimp only[υ,χ,φ,Θ,bC]<;>rfl) rfl rfl (by dsimp only[Fr.put,u1,u2]<;>rfl) ?_;refine qv (HL hn) ?_;refine zQ 2 ?_;unfold gM
 cases hp:yC n with
 |false=>
  rw[if_pos rfl];refine zQ 6 ?_;refine ag.ret ⟨rx,_,rfl,rl aR hH (rfl)⟩
 |true=>
  rw[if_neg (by simp)];refine zQ 15 ?_
  by_cases q1:n.op=1
  ·rw[if_pos (.inl q1)];refine qD rfl (by simp[q1]) ?_;refine zQ 1 ?_;refine qD rfl (by simp[q1]) ?_;refine zQ 8 ?_;refine ag.ret ⟨rx,_,rfl,rl aR hH (rfl)⟩
  refine qE rfl (by simp[q1]) ?_;refine zQ 5 ?_
  by_cases q7:n.op=7
  ·rw[if_pos (.inr (.inl q7))];refine qD rfl (by simp[q7]) ?_;refine zQ 1 ?_;refine qD rfl (by simp[q7]) ?_;refine zQ 8 ?_;refine ag.ret ⟨rx,_,rfl,rl aR hH (rfl)⟩
  refine qE rfl (by simp[q7]) ?_;refine zQ 4 ?_
  by_cases q8:n.op=8
  ·rw[if_pos (.inr (.inr q8))];refine qD rfl (by simp[q8]) ?_;refine zQ 8 ?_;refine ag.ret ⟨rx,_,rfl,rl aR hH (rfl)⟩
  refine qE rfl (by simp[q8]) ?_;rw[if_neg z0];refine zQ 5 ?_;refine zI (fun q2=>?_) fun q2=>?_
  ·rw[if_pos q2];refine qq<|ag.Pc [4,5] (fun ff=>ff 4=.int .i64 0∧ff 5=.bool ((n.kids==0) &&eN n.rs)) ?_ (fun ff tmp Gc=>?_)
   ·refine zQ 4 ?_;refine π 23 rfl (fun bB=>?_) (fun bB=>?_)
    ·refine zQ 2 ?_;refine qv (Ax (C7.rows hH) wv) ?_ (hg:=wi bB);refine zQ 3 ?_;refine ο (nc ?_ ?_)
     ·dsimp only[aI,θ,nth,u2,u1]
     ·dsimp only[nth];refine zF ?_;refine⟨?_,?_⟩<;>(first|rfl|(simp[bB];done))
    ·refine zQ 6 ?_;refine ο (nc ?_ ?_)
     ·dsimp only[aI,θ,nth,u2,u1]
     ·dsimp only[nth];refine zF ?_;refine⟨?_,?_⟩<;>(first|rfl|(simp[bB];done))
   dsimp only[aI,θ,nth,u2,u1];obtain⟨I6,I5⟩:=Gc;rw[I6,I5];refine ag.ret ⟨rx,_,rfl,rl aR hH (rfl)⟩
  rw[if_neg q2];refine zQ 6 ?_
  by_cases q3:n.op=3
  ·rw[if_pos (.inl q3)];refine qD rfl (by simp[q3]) ?_;refine zQ 1 ?_;refine qD rfl (by simp[q3]) ?_;refine zQ 10 ?_;refine ag.ret ⟨rx,_,rfl,rl aR hH (rfl)⟩
  refine qE rfl (by simp[q3]) ?_;refine zQ 4 ?_
  by_cases q4:n.op=4
  ·rw[if_pos (.inr q4)];refine qD rfl (by simp[q4]) ?_;refine zQ 10 ?_;refine ag.ret ⟨rx,_,rfl,rl aR hH (rfl)⟩
  rw[if_neg z0];refine qE rfl (by simp[q4]) ?_;refine zQ 5 ?_;refine zI (fun q5=>?_) fun q5=>?_
  ·rw[if_pos q5];refine qq<|ag.Pc [4,5] (fun ff=>ff 4=.int .i64 1∧ff 5=.bool ((n.kids==1) &&decide (n.mn≥0) &&decide (n.mn≤30) &&((n.mx==-1)||(decide (n.mx≥n.mn) &&decide (n.mx≤30))))) ?_ (fun ff tmp Gc=>?_)
   ·refine zQ 4 ?_;refine π 41 rfl (fun bB=>?_) (fun bB=>?_)
    ·refine zQ 5 ?_;refine π 46 rfl (fun gv=>?_) (fun gv=>?_)
     ·refine zQ 5 ?_;refine π 51 rfl (fun e6=>?_) (fun e6=>?_)
      ·refine zQ 4 ?_;refine π 55 rfl (fun cJ=>?_) (fun cJ=>?_)
       ·refine zQ 10 ?_;refine Ω (aj rfl rfl rfl e6) rfl cJ (aa rfl _) ?_;refine zQ 3 ?_;refine ο (nc ?_ ?_)
        ·dsimp only[aI,θ,nth,u2,u1]
        ·dsimp only[nth];refine zF ?_;refine⟨?_,?_⟩<;>(first|rfl|(simp[bB,gv,e6,cJ];done))
       ·refine zQ 6 ?_;refine π 61 rfl (fun Dg=>?_) (fun Dg=>?_)
        ·refine zQ 3 ?_;refine Ω (aj rfl rfl rfl cJ) rfl Dg (aa rfl _) ?_;refine Ξ (aj rfl rfl rfl e6) rfl cJ (aa rfl _) ?_;refine zQ 3 ?_;refine ο (nc ?_ ?_)
         ·dsimp only[aI,θ,nth,u2,u1]
         ·dsimp only[nth];refine zF ?_;refine⟨?_,?_⟩<;>(first|rfl|(simp[bB,gv,e6,cJ,Dg];done))
        ·refine zQ 3 ?_;refine Ξ (aj rfl rfl rfl cJ) rfl Dg (aa rfl _) ?_;refine Ξ (aj rfl rfl rfl e6) rfl cJ (aa rfl _) ?_;refine zQ 3 ?_;refine ο (nc ?_ ?_)
         ·dsimp only[aI,θ,nth,u2,u1]
         ·dsimp only[nth];refine zF ?_;refine⟨?_,?_⟩<;>(first|rfl|(simp[bB,gv,e6,cJ,Dg];done))
      ·refine zQ 18 ?_;refine ο (nc ?_ ?_)
       ·dsimp only[aI,θ,nth,u2,u1]
       ·dsimp only[nth];refine zF ?_;refine⟨?_,?_⟩<;>(first|rfl|(simp[bB,gv,e6];done))
     ·refine zQ 23 ?_;refine ο (nc ?_ ?_)
      ·dsimp only[aI,θ,nth,u2,u1]
      ·dsimp only[nth];refine zF ?_;refine⟨?_,?_⟩<;>(first|rfl|(simp[bB,gv];done))
    ·refine zQ 28 ?_;refine ο (nc ?_ ?_)
     ·dsimp only[aI,θ,nth,u2,u1]
     ·dsimp only[nth];refine zF ?_;refine⟨?_,?_⟩<;>(first|rfl|(simp[bB];done))
   dsimp only[aI,θ,nth,u2,u1];obtain⟨I6,I5⟩:=Gc;rw[I6,I5];refine ag.ret ⟨rx,_,rfl,rl aR hH (rfl)⟩
  rw[if_neg q5];refine zQ 5 ?_;refine zI (fun q6=>?_) fun q6=>?_
  ·rw[if_pos q6];refine qq<|ag.Pc [4,5] (fun ff=>ff 4=.int .i64 1∧ff 5=.bool ((n.kids==1) &&(n.cap==((g+1:Nat):Int)) &&decide (n.cap≤4))) ?_ (fun ff tmp Gc=>?_)
   ·refine zQ 4 ?_;refine π 73 rfl (fun bB=>?_) (fun bB=>?_)
    ·refine zQ 7 ?_;refine π 80 rfl (fun dA=>?_) (fun dA=>?_)
     ·refine zQ 6 ?_;refine ο (nc ?_ ?_)
      ·dsimp only[aI,θ,nth,u2,u1]
      ·dsimp only[nth];refine zF ?_;refine⟨?_,?_⟩<;>(first|rfl|(simp[bB,dA];done))
     ·refine zQ 6 ?_;refine ο (nc ?_ ?_)
      ·dsimp only[aI,θ,nth,u2,u1]
      ·dsimp only[nth];refine zF ?_;refine⟨?_,?_⟩<;>(first|rfl|(simp[bB,dA];done))
    ·refine zQ 13 ?_;refine ο (nc ?_ ?_)
     ·dsimp only[aI,θ,nth,u2,u1]
     ·dsimp only[nth];refine zF ?_;refine⟨?_,?_⟩<;>(first|rfl|(simp[bB];done))
   dsimp only[aI,θ,nth,u2,u1];obtain⟨I6,I5⟩:=Gc;rw[I6,I5];refine ag.ret ⟨rx,_,rfl,rl aR hH (rfl)⟩
  ·rw[if_neg q6];refine zQ 6 ?_;refine ag.ret ⟨rx,_,rfl,rl aR hH (rfl)⟩
theorem A2 (h:n.ok):refs (bC n)=0:=by
 have:=h.1.ref;simp only[bC,refs,D.ref,this,Nat.max_self]
def sF (d:D) (at_ g:Nat):List D:=[d,.int .i64 (at_:Nat),.int .i64 (g:Nat)]
theorem HY {d:D} (hl:l.length≤1048576) (hi:∀n∈l,n.ok) (hd:fg d 7 (l.map bC)):∀(f:Nat) {N k:Nat} {S s0:St} {H:List a8} {at_ g:Nat},f≤241→g≤4→Has N S s0 (.box k (.mem 0 false (sF d at_ g))::H)→
  ∃r ah,Ev pv 83 [.ptr k 0 0,.int .i64 ((241-f:Nat):Int)] s0 r ah∧r=.bool (jX l f at_ g).isSome∧∃a' g',Has N S ah (.box k (.mem 0 false (sF d a' g'))::H)∧g'≤4∧∀q,jX l f at_ g=some q→a'=q.1∧g'=q.2:=by
 intro f
 induction f with
 |zero=>
  intro N k S s0 H at_ g hf hg hH;refine Ev.eH rfl Sf rfl rfl rfl ?_;refine zE ?_;have bD:=hH;have hH:=hH.bf;have bA:(ae .rw s0).bs=s0.bs:=rfl;generalize ae .rw s0=S2 at*;have hc:=hd.arg N S2;refine zQ 6 ?_;refine ag.da 21 (.bool (decide ((at_:Int)≥(l.length:Nat))||decide (((241-0:Nat):Int)>240))) [] ?_ (fun ff tmp cI=>?_)
  ·refine zQ 8 ?_;refine qn ?_;simp only[ι];refine zQ 2 ?_;refine π 18 rfl (fun dA=>?_) (fun dA=>?_)
   ·refine zQ 3 ?_;refine ο (aO ?_ ?_)
    ·dsimp only[aI,θ,nth,u2,u1]
     all_goals(first|rfl|simp)
    ·refine zF ?_
     all_goals(simp[dA];done)
   ·refine zQ 3 ?_;refine ο (aO ?_ ?_)
    ·dsimp only[aI,θ,nth,u2,u1]
     all_goals(first|rfl|simp)
    ·refine zF ?_
     all_goals(simp[dA];done)
  dsimp only[aI,θ,nth,u2,u1];have hT:(decide ((at_:Int)≥(l.length:Nat))||decide (((241-0:Nat):Int)>240))=true:=by simp
  rw[hT] at cI;refine zQ 5 ?_;refine ag.ret ⟨rx,_,_,_,rfl,ai (rfl),?_⟩;exact⟨rfl,_,_,bD.aq bA hH,hg,fun q hq=>by simp[jX] at hq⟩
 |succ f ih=>
  intro N k S s0 H at_ g hf hg hH;refine Ev.eH rfl Sf rfl rfl rfl ?_;refine zE ?_;have bD:=hH;have hH:=hH.bf;have bA:(ae .rw s0).bs=s0.bs:=rfl;generalize ae .rw s0=S2 at*;have hc:=hd.arg N S2;refine zQ 6 ?_;refine ag.da 21 (.bool (decide ((at_:Int)≥(l.length:Nat))||decide (((241-(f+1):Nat):Int)>240))) [] ?_ (fun ff tmp cI=>?_)
  ·refine zQ 8 ?_;refine qn ?_;simp only[ι];refine zQ 2 ?_;refine π 18 rfl (fun dA=>?_) (fun dA=>?_)
   ·refine zQ 3 ?_;refine ο (aO ?_ ?_)
    ·dsimp only[aI,θ,nth,u2,u1]
     all_goals(first|rfl|simp)
    ·refine zF ?_
     all_goals(simp_all;done)
   ·refine zQ 3 ?_;refine ο (aO ?_ ?_)
    ·dsimp only[aI,θ,nth,u2,u1]
     all_goals(first|rfl|simp)
    ·refine zF ?_
     all_goals(simp_all;omega)
  dsimp only[aI,θ,nth,u2,u1]
  by_cases ha:l.length≤at_
  ·have hT:(decide ((at_:Int)≥(l.length:Nat))||decide (((241-(f+1):Nat):Int)>240))=true:=by
    rw[Φ];exact .inl (by rw[decide_eq_true_eq];omega)
   rw[hT] at cI;have hn:jX l (f+1) at_ g=none:=by unfold jX;rw[List.getElem?_eq_none ha]
   rw[hn];refine zQ 5 ?_;refine ag.ret ⟨rx,_,_,_,rfl,ai (rfl),?_⟩;exact⟨rfl,_,_,bD.aq bA hH,hg,fun q hq=>by cases hq⟩
  ·have hT:(decide ((at_:Int)≥(l.length:Nat))||decide (((241-(f+1):Nat):Int)>240))=false:=by
    rw[v8];exact⟨by rw[decide_eq_false_iff_not];omega,by rw[decide_eq_false_iff_not];omega⟩
   rw[hT] at cI
   obtain⟨n,hn⟩:∃n,l[at_]?=some n:=⟨l[at_]' z0,ρ _⟩
   have mK:=hi n (BY hn);have fU:=nV hn;have Iz:=A2 mK
   have me:jX l (f+1) at_ g=if(gM n (g:Nat)).2=true then lI (jX l f) (gM n (g:Nat)).1.toNat (at_+1) (if n.op=6 then g+1 else g) else none:=by
    rw[jX,hn]
   rw[me];clear me;refine zQ 12 ?_;refine qr fun YG Rf=>?_;refine ab.cM rfl z3 z5 rfl (aa rfl _) ?_;refine qa hH fun k5 st LS hH=>?_;have hH:=zjoc hH;refine ab.cF hH rfl z3 z3 (by rfl) (by exact rfl) (by exact aJ) (by exact rfl) (by exact .inr z5) (fun st hH=>?_);have hH:=zjoc hH;refine zQ 3 ?_;refine AN (m:=7) hH rfl z3 (by exact aJ) (by dsimp only[υ,χ,φ,Θ,sF,bC]<;>rfl) rfl rfl (aa rfl _) ?_;refine zQ 4 ?_;refine qv (Cn mK z0) ?_;refine zQ 12 ?_
   cases hsh:(gM n (g:Nat)).2 with
   |false=>
    rw[if_neg (by simp)];refine zQ 5 ?_;refine ag.ret ⟨rx,_,_,_,rfl,ai (rfl),?_⟩;exact⟨rfl,_,_,bD.aq bA (hH.drop 1),hg,fun q hq=>by cases hq⟩
   |true=>
    rw[if_pos rfl];obtain⟨⟨oO,_⟩,hk2,tt⟩:=Ak hsh;have OJ:=mK.2.2;obtain⟨kd,OG⟩:∃kd:Nat,(gM n (g:Nat)).1=(kd:Int):=Int.eq_ofNat_of_zero_le hk2;rw[OG,Int.toNat_natCast];rw[OG,Int.toNat_natCast] at oO;refine zQ 11 ?_;refine qT hH bt fun st hH=>?_;have hH:=zjoc hH;refine zQ 8 ?_;refine ag.merge (fun fr st=>∃(g2:Nat) (tmp:List (Nat×D)),fr=⟨8,[.ptr k 0 0,.int .i64 ((241-(f+1):Nat):Int),rQ fr 2,rQ fr 3,.bool false,.ptr k5 0 0,.int .i64 (kd:Nat),.bool true],tmp⟩∧Has N S2 st (.box k (.mem 0 false [d,.int .i64 ((at_+1:Nat):Int),.int .i64 (g2:Nat)])::.box k5 (.mem 0 false (bC n))::H)∧(g2=if n.op=6 then g+1 else g)∧(g2≤4)) ?_ ?_
    ·refine zI (fun q6=>?_) fun q6=>?_
     ·have:=tt q6;refine zQ 8 ?_;refine qT hH bt fun st hH=>?_;have hH:=zjoc hH;refine zQ 1 ?_;exact⟨g+1,_,rfl,(by have:=hH.front bt;exact this),by rw[if_pos q6],by omega⟩
     ·refine zQ 1 ?_;exact⟨g,_,rfl,(by have:=hH.front bt;exact this),by rw[if_neg q6],hg⟩
    ·rintro fr st ⟨g2,tmp,hfr,hH,cj,bB⟩;rw[hfr];clear hfr;generalize rQ fr=ee;clear fr;rw[←cj];refine zQ 2 ?_;refine ag.loop (fun mm fr st=>∃(kk a2 g4:Nat),fr.clean=⟨8,[.ptr k 0 0,.int .i64 ((241-(f+1):Nat):Int),rQ fr 2,rQ fr 3,.bool false,.ptr k5 0 0,.int .i64 (kk:Nat),.bool true],[]⟩∧Has N S2 st (.box k (.mem 0 false [d,.int .i64 (a2:Nat),.int .i64 (g4:Nat)])::.box k5 (.mem 0 false (bC n))::H)∧(lI (jX l f) kk a2 g4=lI (jX l f) kd (at_+1) g2)∧(g4≤4)∧(kk=mm)∧(kk≤9223372036854775807)) (kd) ?_ ?_
     ·exact⟨kd,at_+1,g2,rfl,hH,rfl,bB,rfl,by omega⟩
     rintro mm fr st ⟨kk,a2,g4,hfr,hH,hX,de,M5,hkk⟩;rw[hfr];clear hfr;generalize rQ fr=ee;clear fr;refine zQ 6 ?_
     cases kk with
     |zero=>
      refine ag.cond (v:=false) (by dsimp only[Fr.ev,Fr.get,nth,V.look];rfl) (fun h=>by cases h) (fun _=>?_);refine zQ 5 ?_;refine ag.ret ⟨rx,_,_,_,rfl,ai (rfl),?_⟩;exact⟨by rw[←hX];rfl,_,_,bD.aq bA (hH.erase 1),de,fun q hq=>by rw[←hX] at hq;simp only[lI,Option.some.injEq] at hq;subst hq;exact⟨rfl,rfl⟩⟩
     |succ kk=>
      rw[lI] at hX;refine qD rfl (by simp) ?_;refine zQ 7 ?_;refine ab.dX (z:=((241-f:Nat):Int)) rfl z3 z3 (by rw[wrap_i64 z0 z0]<;>omega) (aa rfl _) ?_;obtain⟨_,st,aA,rfl,a',g',hH,kG,hq⟩:=ih (at_:=a2) (g:=g4) z0 de hH;refine qv aA ?_;refine zQ 2 ?_
      cases ho:jX l f a2 g4 with
      |none=>
       rw[ho] at hX;refine zQ 5 ?_;refine ag.ret ⟨rx,_,_,_,rfl,ai (rfl),?_⟩;exact⟨by rw[←hX];rfl,_,_,bD.aq bA (hH.erase 1),kG,fun q hq=>by rw[←hX] at hq;cases hq⟩
      |some q=>
       rw[ho] at hX;obtain⟨rfl,rfl⟩:=hq q ho;refine zQ 4 ?_;refine ab.eK (z:=((kk:Nat):Int)) rfl z3 z3 (by rw[wrap_i64 z0 z0]<;>omega) (aa rfl _) ?_;refine zQ 2 ?_;exact⟨mm-1,by omega,⟨kk,q.1,q.2,rfl,hH,hX,kG,by omega,by omega⟩⟩
theorem FO {x:Nl} (hx:x.ok):Ev pv 43 [x.d] s0 (.bool (iR x.l)) s0:=by
 refine Ev.iu rfl Xw rfl rfl rfl ?_;refine zE ?_;obtain⟨aR,hF,hH⟩:=ri s0;generalize ae .ro s0=S at*;have hc:=hx.c.arg s0.bs.length S;have hl:=hx.nl;have nY:=hx.c;refine zQ 6 ?_;refine ag.da 11 (.bool (decide (((x.l.length:Nat):Int)<1)||decide (((x.l.length:Nat):Int)>480))) [] ?_ (fun ff tmp cI=>?_)
 ·refine qm ?_;refine qn ?_;simp only[ι];refine zQ 2 ?_;refine π 7 rfl (fun bB=>?_) (fun bB=>?_)
  ·refine zQ 4 ?_;refine ο (aO ?_ ?_)
   ·dsimp only[aI,θ,nth,u2,u1]
    all_goals(first|rfl|simp)
   ·refine zF ?_
    all_goals(simp[bB];done)
  ·refine zQ 1 ?_;refine qn ?_ (hg:=wi bB);simp only[ι];refine zQ 2 ?_;refine ο (aO ?_ ?_)
   ·dsimp only[aI,θ,nth,u2,u1]
    all_goals(first|rfl|simp)
   ·refine zF ?_
    all_goals(simp[bB];done)
 dsimp only[aI,θ,nth,u2,u1]
 by_cases hlen:1≤x.l.length∧x.l.length≤480
 ·have hT:(decide (((x.l.length:Nat):Int)<1)||decide (((x.l.length:Nat):Int)>480))=false:=by
   rw[v8];exact⟨by rw[decide_eq_false_iff_not];omega,by rw[decide_eq_false_iff_not];omega⟩
  rw[hT] at cI
  have hR:iR x.l=(match jX x.l 241 0 0 with|some r=>decide (r.1=x.l.length)|none=>false):=by
   unfold iR;rw[decide_eq_true hlen.1,decide_eq_true hlen.2];rfl
  rw[hR];clear hR;refine zQ 5 ?_;refine Pe (qs:=[(0,_)]) rfl rfl rfl rfl ⟨rfl,z3,(by exact(fg.cells z5).1),trivial⟩ (by intro q hq;simp only[δ,η,or_false] at hq;rcases hq with rfl<;>exact⟨rfl,by exact ε rfl⟩) (by show θ _ [_,_,_] _=_;dsimp only[τ,ψ,u2,u1]<;>rfl) (aa rfl _) ?_;refine qb hH fun k14 st OL hH=>?_;refine zQ 2 ?_;have hH:Has s0.bs.length S st (.box k14 (.mem 0 false (sF x.d 0 0))::[]):=hH
  cases cj:(jX x.l 241 0 0).isSome with
  |true=>
   obtain⟨q,hq⟩:=Option.isSome_iff_exists.1 cj;refine zQ 3 ?_;obtain⟨_,st,aA,rfl,a',g',hH,kG,Q3⟩:=HY hl hx.i hx.c 241 z0 z0 hH;refine qv aA ?_;refine zQ 6 ?_;refine qn ?_ (hg:=wi cj);simp only[ι];refine zQ 4 ?_;obtain⟨rfl,rfl⟩:=Q3 q hq;rw[hq]
   have he:decide (q.1=x.l.length)=(((q.1:Nat):Int)==((x.l.length:Nat):Int)):=by
    rw[Bool.eq_iff_iff];simp only[decide_eq_true_eq,beq_iff_eq];omega
   simp only[he];refine ag.ret ⟨rx,_,rfl,rl aR hH (rfl)⟩
  |false=>
   have hq:jX x.l 241 0 0=none:=by
    cases hq:jX x.l 241 0 0 with
    |none=>rfl
    |some q=>rw[hq] at cj;cases cj
   refine zQ 3 ?_;obtain⟨_,st,aA,rfl,a',g',hH,kG,Q3⟩:=HY hl hx.i hx.c 241 z0 z0 hH;refine qv aA ?_;refine zQ 11 ?_;rw[hq];refine ag.ret ⟨rx,_,rfl,rl aR hH (rfl)⟩
 ·have hT:(decide (((x.l.length:Nat):Int)<1)||decide (((x.l.length:Nat):Int)>480))=true:=by
   rw[Φ,decide_eq_true_eq,decide_eq_true_eq];omega
  rw[hT] at cI
  have hR:iR x.l=false:=by
   unfold iR
   by_cases h1:1≤x.l.length
   ·rw[decide_eq_true h1,decide_eq_false (fun h2=>hlen ⟨h1,h2⟩)];rfl
   ·rw[decide_eq_false h1];rfl
  rw[hR];refine zQ 5 ?_;refine ag.ret ⟨rx,_,rfl,rl aR hH (rfl)⟩
end Go.Proofs.YtkbacjpologjbaaGreat
