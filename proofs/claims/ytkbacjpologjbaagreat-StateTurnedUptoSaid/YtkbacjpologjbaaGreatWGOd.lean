/-
 The program's reader: places, threads, lists.
-/
import Derived.Test.YtkbacjpologjbaaGreatWGHr
import Derived.Test.YtkbacjpologjbaaGreatWGNg
import Derived.Test.YtkbacjpologjbaaGreatWGUp
import Derived.Test.YtkbacjpologjbaaGreatWGYd
import Derived.Test.YtkbacjpologjbaaGreatWGJp
set_option maxRecDepth 100000
set_option maxHeartbeats 4000000
set_option linter.unusedSimpArgs false
set_option linter.unusedVariables false
open Go.V renaming byteCells→γ,look→Qa0,Rows→Qa8
open Nat renaming le_of_ble_eq_true→δ,reduceAdd→ε,eq_zero_or_pos→υ,zero_le→OF,le_refl→AI
open List renaming length_cons→ζ,not_mem_nil→η,getElem?_map→θ,length_map→ι,length_nil→κ,drop_succ_cons→μ,take_succ_cons→ν,mem_cons→ξ,length_append→π,drop_zero→ρ,take_zero→ς,foldl→φ,map_append→ψ,append_assoc→Δ,mem_map→Ψ,append_nil→Ω,mem_cons_self→v8,map_map→GB,mem_append→IT,getElem?_cons_zero→Pd,mem_cons_of_mem→AN,mem_of_getElem?→AT,map_cons→Qa3,map_nil→Qa5
open Go.V.D renaming cells→ο,ref→IS
open Go.V.Has renaming ki→τ
open Go.V.ab renaming nil→χ,aH→ω,cF→Γ,fk→wt,go→IN,eK→Qa6,two→Qa7,lM→Qa9
open Int renaming toNat_natCast→Θ
open Bool renaming and_eq_true→Ξ
open Option renaming map_eq_some_iff→Φ,bind_some→Qa1,some→Qa4
open Go.V.Ev renaming eH→BY
open Go.V.Fr renaming get→Pe,ev→Qa2
namespace Go.Proofs.YtkbacjpologjbaaGreat
open Go.V Go
theorem zjva {A B:Prop} (h:A) (e:A→B:=by intro h;dsimp only[u1,u2] at h;exact h):B:=e h
theorem zjvb {A B:Prop} (h:A) (e:A→B:=by intro h;dsimp only[u2,u1,u3,u4,setMany,u5,u6,ο,ε,b_] at h;exact h):B:=e h
def ct (fr:Go.V.Fr) (k:Nat):Go.V.D:=Go.V.nth .bo fr.loc k
def jM (b:List UInt8):Nat→dB→dB
 |0,s=>s
 |n+1,s=>(bk b (jM b n s)).2
def ou (b:List UInt8) (s:dB):kq:=fun i=>(bk b (jM b i s)).1-1
def eX (b:List UInt8) (s:dB):GT×dB:=(⟨(bk b s).1,ou b (bk b s).2⟩,jM b 10 (bk b s).2)
def bm {α:Type} (one:dB→α×dB):Nat→dB→List α×dB
 |0,s=>([],s)
 |n+1,s=>if s.e≠0 then([],s) else((one s).1::(bm one n (one s).2).1,(bm one n (one s).2).2)
def pb (b:List UInt8) (s:dB):List GT×dB:=bm (eX b) (bW b 400 s).1.toNat (bW b 400 s).2
def cW (b:List UInt8) (s:dB):GV×dB:=(⟨(dG b s).1,ou b (dG b s).2,ta (pb b (jM b 10 (dG b s).2)).1,(pb b (jM b 10 (dG b s).2)).1⟩,(pb b (jM b 10 (dG b s).2)).2)
def dF (b:List UInt8) (s:dB):List GV×dB:=bm (cW b) (bW b 8 s).1.toNat (bW b 8 s).2
variable{s:dB}
theorem eP {α:Type} (one:dB→α×dB) (h:s.e≠0):∀n,bm one n s=([],s)
 |0=>rfl
 |n+1=>by unfold bm;rw[if_pos h]
theorem kP {b:List UInt8} {s:dB} (h:s.at_≤b.length):∀n,(jM b n s).at_≤b.length
 |0=>h
 |n+1=>(dI (kP h n)).1
variable{b:List UInt8}{m:Int}
theorem mN (h:s.at_≤b.length):(bJ b m s).2.at_≤b.length∧0≤(bJ b m s).1∧(bJ b m s).1<9223372036854775808∧((bJ b m s).2.e=0→(bJ b m s).1≤max m 0):=by
 obtain⟨o1,o2,o3,o4,o5⟩:=dI (b:=b) (s:=s) h;unfold bJ
 split
 ·exact⟨h,by simp,by simp,fun h=>by simp at h⟩
 ·rename_i hn
  exact⟨o1,o3,o4,fun h=>by
   by_cases h':m<(bk b s).1
   ·exact absurd ⟨h,h'⟩ hn
   ·omega⟩
theorem fY (h:s.at_≤b.length):(bW b m s).2.at_≤b.length∧0≤(bW b m s).1∧(bW b m s).1<9223372036854775808∧((bW b m s).2.e=0→(bW b m s).1≤max m 0):=by
 obtain⟨o1,o2,o3,o4⟩:=mN (m:=m) h;unfold bW
 split
 ·exact⟨h,o2,o3,fun h=>by simp at h⟩
 ·exact⟨o1,o2,o3,o4⟩
theorem pU (h:s.at_≤b.length):(dG b s).2.at_≤b.length:=by
 unfold dG
 split
 ·exact h
 ·exact(dI h).1
theorem rT {α:Type} {b:List UInt8} {one:dB→α×dB} (ho:∀s:dB,s.at_≤b.length→(one s).2.at_≤b.length):∀n (s:dB),s.at_≤b.length→(bm one n s).2.at_≤b.length
 |0,s,h=>h
 |n+1,s,h=>by
  unfold bm
  split
  ·exact h
  ·exact rT ho n _ (ho s h)
theorem yp (h:s.at_≤b.length):(eX b s).2.at_≤b.length:=kP (dI h).1 10
theorem KI (h:s.at_≤b.length):(pb b s).2.at_≤b.length:=rT (fun _ h=>yp h) _ _ (fY h).1
theorem pE (h:s.at_≤b.length):(cW b s).2.at_≤b.length:=KI (kP (pU h) 10)
theorem F4 (h:s.at_≤b.length):(dF b s).2.at_≤b.length:=rT (fun _ h=>pE h) _ _ (fY h).1
variable{f:kq}
theorem BW {g:kq} (h:∀j,j<10→f j=g j):aE f=aE g:=by
 unfold aE;rw[h 0 (by decide),h 1 (by decide),h 2 (by decide),h 3 (by decide),h 4 (by decide),h 5 (by decide),h 6 (by decide),h 7 (by decide),h 8 (by decide),h 9 (by decide)]
variable{L:List GV}
theorem Me (h:∀g∈L,g.td=ta g.bn):(∀e∈L.map gW,∀d∈e,mO d=true)∧(L.map gW).map (·.map oS)=L.map gW:=by
 constructor
 ·intro e he d hd;obtain⟨q,hq,rfl⟩:=Ψ.1 he;have:=h q hq;simp only[gW,aV,this,ta,ξ,η,or_false] at hd
  rcases hd with rfl|rfl|rfl|rfl|rfl|rfl|rfl|rfl|rfl|rfl|rfl|rfl<;>rfl
 ·rw[GB];refine List.map_congr_left fun q hq=>?_;have:=h q hq;simp only[Function.comp,gW,aV,this,ta];rfl
theorem Mf (l:List GT):(∀e∈l.map fI,∀d∈e,mO d=true)∧(l.map fI).map (·.map oS)=l.map fI:=by
 constructor
 ·intro e he d hd;obtain⟨q,hq,rfl⟩:=Ψ.1 he;simp only[fI,ξ,η,or_false] at hd
  rcases hd with rfl|rfl|rfl|rfl|rfl|rfl|rfl|rfl|rfl|rfl|rfl<;>rfl
 ·rw[GB];rfl
def tx (L:List GV):D:=.sl ((L.map gW).map (kO 12))
variable{N k:Nat}{S s0:St}{H:List a8}{x:D}
theorem BF (hbl:b.length≤1099511627776) (aT:s.at_≤b.length) (hH:Has N S s0 (.box k (.mem 0 false (b_ x s))::.aC x 1 (γ b)::H)):
  ∃d ah,Ev pv 104 [.ptr k 0 0] s0 d ah∧d=.agg (aE (ou b s))∧Has N S ah (.box k (.mem 0 false (b_ x (jM b 10 s)))::.aC x 1 (γ b)::H):=by
 refine BY rfl Tc rfl rfl rfl ?_;refine zE ?_;have bD:=hH;have hH:=hH.bf;have bA:(ae .rw s0).bs=s0.bs:=rfl;generalize ae .rw s0=S2 at*;refine zQ 2 ?_;refine qa hH fun k2 st hk2 hH=>?_;have hH:=zjvb hH;refine zQ 3 ?_;refine qa hH fun k3 st tt hH=>?_;refine zQ 6 ?_;have hH:Has N S2 st (.box k (.mem 0 false (b_ x s))::.aC x 1 (γ b)::.box k3 (.mem 0 false (aE bQ))::.box k2 (.mem 0 false (aE bQ))::H):=τ [_,_] [_,_] hH;refine zQ 1 ?_;refine ag.loop (fun mm fr st=>∃(i:Nat) (f:kq),fr.clean=⟨6,[.ptr k 0 0,ct fr 1,.ptr k2 0 0,.ptr k3 0 0,ct fr 4,.int .i64 (i:Nat)],[]⟩∧Has N S2 st (.box k (.mem 0 false (b_ x (jM b i s)))::.aC x 1 (γ b)::.box k3 (.mem 0 false (aE f))::.box k2 (.mem 0 false (aE bQ))::H)∧(i+mm=10)∧(∀j,j<i→f j=ou b s j)) (10) ?_ ?_
 ·exact⟨0,bQ,rfl,hH,by omega,fun j h=>by omega⟩
 rintro mm fr st ⟨i,f,hfr,hH,hi,hf⟩;rw[hfr];clear hfr;generalize ct fr=ee;clear fr;have IK:=kP aT i;obtain⟨_,_,o3,o4,_⟩:=dI (b:=b) (s:=jM b i s) IK;refine zQ 5 ?_;refine zP (fun h1=>?_) fun h1=>?_
 ·refine zQ 1 ?_;have pP:i<10:=by omega
  refine zQ 10 ?_;obtain⟨_,st,aA,rfl,hH⟩:=n5 hbl IK hH;refine qv aA ?_;refine Qa6 (z:=((bk b (jM b i s)).1-1)) rfl z3 z3 (by rw[wrap_i64 z0 z0]<;>omega) (aa rfl _) ?_;refine ab.Jh (m:=10) (s:=1) (i:=i) (o:=i) rfl z3 z3 rfl rfl z0 z0 (aa rfl _) ?_;refine wt hH rfl z3 z3 rfl (by exact rfl) cU (by show i+1≤10;omega) (.inr rfl) (fun st hH=>?_);change Has _ _ _ (_::_::.box k3 (.mem 0 false (setMany (aE f) i [.int .i64 ((bk b (jM b i s)).1-1)]))::_) at hH;rw[wX pP] at hH;refine zQ 5 ?_;refine⟨mm-1,by omega,⟨i+1,wB f i ((bk b (jM b i s)).1-1),rfl,hH,by omega,?_⟩⟩;intro j hj;unfold wB
  split
  ·rename_i h;subst h;rfl
  ·exact hf j z0
 ·refine zQ 1 ?_;have pP:i=10:=by omega
  subst pP;have LY:=BW hf;rw[LY] at hH;refine zQ 2 ?_;refine ω (m:=10) (r:=aE (ou b s)) hH rfl z3 cU rfl rfl rfl (aa rfl _) ?_;refine Γ hH rfl z3 z3 rfl (by exact rfl) di (by exact rfl) (.inr rfl) (fun st hH=>?_);have hH:=zjva hH;refine zQ 1 ?_;refine ag.ret ⟨rx,_,_,_,hH.i_ rfl di rfl,ai (show ba st s0.bs.length false 16 (.agg (aE (ou b s)))=some (.agg (aE (ou b s))) from rfl),?_⟩;exact⟨rfl,bD.aq bA ((hH.erase 2).erase 2)⟩
theorem Mi (hbl:b.length≤1099511627776) (aT:s.at_≤b.length) (hH:Has N S s0 (.box k (.mem 0 false (b_ x s))::.aC x 1 (γ b)::H)):
  ∃d ah,Ev pv 106 [.ptr k 0 0] s0 d ah∧d=.agg (fI (eX b s).1)∧Has N S ah (.box k (.mem 0 false (b_ x (eX b s).2))::.aC x 1 (γ b)::H):=by
 refine BY rfl Ta rfl rfl rfl ?_;refine zE ?_;have bD:=hH;have hH:=hH.bf;have bA:(ae .rw s0).bs=s0.bs:=rfl;generalize ae .rw s0=S2 at*;refine zQ 2 ?_;refine qa hH fun k2 st hk2 hH=>?_;have hH:=zjvb hH;refine zQ 3 ?_;refine qa hH fun k3 st tt hH=>?_;refine zQ 1 ?_;have hH:Has N S2 st (.box k (.mem 0 false (b_ x s))::.aC x 1 (γ b)::.box k3 (.mem 0 false (fI ⟨0,bQ⟩))::.box k2 (.mem 0 false (fI ⟨0,bQ⟩))::H):=τ [_,_] [_,_] hH;refine zQ 3 ?_;obtain⟨_,st,aA,rfl,hH⟩:=n5 hbl aT hH;refine qv aA ?_;refine zQ 1 ?_;refine wt hH rfl z3 z3 rfl (by exact rfl) cU (by exact δ rfl) (.inr rfl) (fun st hH=>?_);have hH:=zjva hH;refine zQ 1 ?_;have hH:Has N S2 st (.box k (.mem 0 false (b_ x (bk b s).2))::.aC x 1 (γ b)::.box k3 (.mem 0 false (fI ⟨(bk b s).1,bQ⟩))::.box k2 (.mem 0 false (fI ⟨0,bQ⟩))::H):=hH;have pL:=(dI (b:=b) aT).1;refine zQ 3 ?_;obtain⟨_,st,aA,rfl,hH⟩:=BF hbl pL hH;refine qv aA ?_;refine zQ 1 ?_;refine wt hH rfl z3 z3 rfl (by exact rfl) cU (by exact δ rfl) (.inr rfl) (fun st hH=>?_);have hH:=zjva hH;refine zQ 1 ?_;have hH:Has N S2 st (.box k (.mem 0 false (b_ x (eX b s).2))::.aC x 1 (γ b)::.box k3 (.mem 0 false (fI (eX b s).1))::.box k2 (.mem 0 false (fI ⟨0,bQ⟩))::H):=hH;generalize(eX b s).1=t at*;refine zQ 2 ?_;refine ω (m:=11) (r:=fI t) hH rfl z3 cU rfl rfl rfl (aa rfl _) ?_;refine Γ hH rfl z3 z3 rfl (by exact rfl) di (by exact rfl) (.inr rfl) (fun st hH=>?_);have hH:=zjva hH;refine zQ 1 ?_;refine ag.ret ⟨rx,_,_,_,hH.i_ rfl di rfl,ai (show ba st s0.bs.length false 16 (.agg (fI t))=some (.agg (fI t)) from rfl),?_⟩;exact⟨rfl,bD.aq bA ((hH.erase 2).erase 2)⟩
theorem Mh (hbl:b.length≤1099511627776) (aT:s.at_≤b.length) (hH:Has N S s0 (.box k (.mem 0 false (b_ x s))::.aC x 1 (γ b)::H)):
  ∃d ah,Ev pv 105 [.ptr k 0 0,.int .i64 400,.fn 106 []] s0 d ah∧(∃L:List GT,d=ta L∧L.length≤400∧True∧((pb b s).2.e=0→L=(pb b s).1))∧Has N S ah (.box k (.mem 0 false (b_ x (pb b s).2))::.aC x 1 (γ b)::H):=by
 have tS:=aw b;obtain⟨u1,u2,u3,u4⟩:=mN (m:=400) aT;obtain⟨i1,i2,i3,i4⟩:=fY (m:=400) aT;have rZ:bW b 400 s=if(bJ b 400 s).2.e=0∧(bJ b 400 s).1>(b.length:Int)-(bJ b 400 s).2.at_ then((bJ b 400 s).1,⟨s.at_,3⟩) else bJ b 400 s:=rfl;unfold pb;refine BY rfl Tb rfl rfl rfl ?_;refine zE ?_;have bD:=hH;have hH:=hH.bf;have bA:(ae .rw s0).bs=s0.bs:=rfl;generalize ae .rw s0=S2 at*;refine zQ 16 ?_;obtain⟨_,st,aA,rfl,hH⟩:=vD hbl aT 400 hH;refine qv aA ?_;refine zQ 2 ?_;generalize bJ b 400 s=R at*;obtain⟨n,s1⟩:=R;dsimp only at u1 u2 u3 u4 rZ hH⊢;refine zQ 2 ?_;refine ag.jn (fun fr st=>∃(tmp:List (Nat×D)),fr=⟨11,[.ptr k 0 0,ct fr 1,.fn 106 [],ct fr 3,ct fr 4,ct fr 5,ct fr 6,ct fr 7,.int .i64 (bW b 400 s).1,ct fr 9,ct fr 10],tmp⟩∧Has N S2 st (.box k (.mem 0 false (b_ x (bW b 400 s).2))::.aC x 1 (γ b)::H)∧(True)) ?_ ?_
 ·by_cases he:s1.e=0
  ·have de:(s1.e==0)=true:=by simpa using he
   refine zQ 12 ?_;refine qn ?_ (hR:=hH.rows bt) (hg:=wi de);refine zQ 4 ?_;refine Qa6 (z:=(((b.length:Nat):Int)-(s1.at_:Nat))) (aj rfl rfl rfl de) z3 z3 (by rw[wrap_i64 z0 z0]<;>omega) (aa rfl _) ?_;refine zQ 3 ?_
   by_cases hlt:n>(b.length:Int)-s1.at_
   ·rw[if_pos ⟨he,hlt⟩] at rZ;rw[rZ];have hc:decide (n>(b.length:Int)-s1.at_)=true:=by rw[decide_eq_true_eq];exact hlt
    refine qD rfl (by rw[hc]) ?_;refine zQ 3 ?_;obtain⟨_,st,aA,rfl,hH⟩:=fZ s.at_ 3 hH;refine qv aA ?_;refine zQ 1 ?_;exact⟨_,rfl,hH,trivial⟩
   ·rw[if_neg (fun h=>hlt h.2)] at rZ;rw[rZ];have hc:decide (n>(b.length:Int)-s1.at_)=false:=by rw[decide_eq_false_iff_not];exact hlt
    refine qE rfl (by rw[hc]) ?_;refine zQ 1 ?_;exact⟨_,rfl,hH,trivial⟩
  ·rw[if_neg (fun h=>he h.1)] at rZ;rw[rZ];have de:(s1.e==0)=false:=by simpa using he
   refine zQ 23 ?_;exact⟨_,rfl,hH,trivial⟩
 rintro fr st ⟨tmp,hfr,hH,ht⟩;rw[hfr];clear hfr;generalize ct fr=ee;clear fr;clear rZ u1 u2 u3 u4;generalize bW b 400 s=R at*;obtain⟨n,s2⟩:=R;dsimp only at i1 i2 i3 i4 hH⊢
 obtain⟨m,rfl⟩:∃m:Nat,n=(m:Nat):=⟨n.toNat,by omega⟩
 rw[Θ];refine zQ 9 ?_;have hH:Has N S2 st (.box k (.mem 0 false (b_ x s2))::.aC x 1 (γ b)::.aC .nul 11 (([]:List GT).map fI)::H):=τ [_] [_,_] (hH.fG 11);refine zQ 1 ?_;refine ag.loop (fun mm fr st=>∃(i:Nat) (sr:dB) (od:D) (acc:List GT),fr.clean=⟨11,[.ptr k 0 0,ct fr 1,.fn 106 [],ct fr 3,ct fr 4,ct fr 5,ct fr 6,ct fr 7,.int .i64 (m:Nat),od,.int .i64 (i:Nat)],[]⟩∧Has N S2 st (.box k (.mem 0 false (b_ x sr))::.aC x 1 (γ b)::.aC od 11 (acc.map fI)::H)∧(i+mm=m)∧(acc.length=i)∧(sr.at_≤b.length)∧(sr.e=0→s2.e=0)∧(∀k,od.ref=k+1→S2.bs.length≤k)∧((bm (eX b) m s2).2=(bm (eX b) mm sr).2)∧((bm (eX b) mm sr).2.e=0→(bm (eX b) m s2).1=acc++(bm (eX b) mm sr).1)∧(acc.length≤400)∧(True)) (m) ?_ ?_
 ·exact⟨0,s2,.nul,[],rfl,hH,by omega,rfl,i1,fun h=>h,fun k hk=>by simp only[IS] at hk;omega,rfl,fun _=>rfl,by simp,trivial⟩
 rintro mm fr st ⟨i,sr,od,acc,hfr,hH,hi,hal,Lu,pH,vq,Mc,Jo,hab,hval⟩;rw[hfr];clear hfr;generalize ct fr=ee;clear fr;refine zQ 2 ?_;refine ag.da 49 (.bool (decide (((i:Nat):Int)<(m:Nat)) &&(sr.e==0))) [] ?_ (fun ff tmp cI=>?_)
 ·refine zQ 4 ?_;refine Qa7 43 rfl (fun bB=>?_) (fun bB=>?_)
  ·refine zQ 6 ?_;refine χ (aO ?_ ?_)
   ·dsimp only[aI,φ,nth,u2,u1]
    all_goals(first|rfl|simp)
   ·refine zF ?_
    all_goals(simp_all;done)
  ·refine zQ 6 ?_;refine χ (aO ?_ ?_)
   ·dsimp only[aI,φ,nth,u2,u1]
    all_goals(first|rfl|simp)
   ·refine zF ?_
    all_goals(simp_all;omega)
 refine zG ?_;refine qc (fun hc=>?_) (fun hc=>?_)<;>try simp only[cs] at hc
 ·have hc:i<m∧sr.e=0:=by
   rw[Ξ,decide_eq_true_eq] at hc;exact⟨by omega,by simpa using hc.2⟩
  obtain⟨hlt,he⟩:=hc
  obtain⟨mm,rfl⟩:∃q,mm=q+1:=⟨mm-1,by omega⟩
  have TS:=i4 (pH he)
  have Bm:bm (eX b) (mm+1) sr=((eX b sr).1::(bm (eX b) mm (eX b sr).2).1,(bm (eX b) mm (eX b sr).2).2):=by
   conv=>lhs;unfold bm
   rw[if_neg (by simpa using he)]
  rw[Bm] at Jo Mc;have pL:(eX b sr).2.at_≤b.length:=yp Lu;refine zQ 7 ?_;obtain⟨_,st,aA,rfl,hH⟩:=Mi hbl Lu hH;refine qv aA ?_;refine qh (s:=11) (vs:=[_]) hH fun k56 st VK hH=>?_;have hH:=zjvb hH;refine Qa9 (s:=11) hH rfl z3 z3 di (hH.rows aJ) rfl rfl rfl rfl rfl rfl rfl ⟨(δ rfl),(δ rfl)⟩ (fun _=>(aa rfl _)) (by simp only[ι,ζ,κ];omega) (.inr rfl) vq (fun Ub st vq hH=>?_);have hH:=zjva hH;refine zQ 2 ?_;have hH:=hH.drop 1;refine zQ 5 ?_;refine⟨mm,by omega,⟨i+1,(eX b sr).2,Ub,acc++[(eX b sr).1],rfl,(by rw[ψ];exact hH),by omega,(by rw[π];simp only[ζ,κ];omega),pL,fun _=>pH he,vq,Mc,?_,(by rw[π];simp only[ζ,κ];omega),trivial⟩⟩;intro h0;rw[Jo h0];rw[Δ];rfl
 ·refine zQ 1 ?_
  have wK:bm (eX b) mm sr=([],sr):=by
   by_cases he:sr.e=0
   ·have:mm=0:=by
     rcases υ mm with h|h
     ·exact h
     ·exfalso
      have h1:decide (((i:Nat):Int)<(m:Nat))=true:=by rw[decide_eq_true_eq];omega
      rw[h1,he] at hc;simp at hc
    rw[this];rfl
   ·exact eP _ he mm
  rw[wK] at Jo Mc;simp only[Ω] at Jo;rw[Mc];refine zQ 9 ?_;refine ag.cond (by rfl) (fun hne=>?_) (fun hne=>?_)<;>try simp only[bne_iff_ne,bne_eq_false_iff_eq,ne_eq] at hne
  ·refine zQ 4 ?_;refine ag.ret ⟨rx,_,_,_,rfl,ai (rfl),?_⟩;exact⟨⟨[],rfl,by simp,trivial,fun h=>absurd h (by simpa using hne)⟩,bD.aq bA (hH.erase 2)⟩
  ·refine zQ 6 ?_;have mA:=Mf acc;have hfz:=hH.n9 (L:=s0.bs.length) (n:=16) cU (fun k hk=>by rw[←bA];exact vq k hk) mA.1 (by decide);rw[mA.2] at hfz;refine ag.ret ⟨rx,_,_,_,rfl,ai hfz,?_⟩;exact⟨⟨acc,rfl,hab,hval,fun h=>(Jo h).symm⟩,bD.aq bA (hH.erase 2)⟩
theorem Jy (hbl:b.length≤1099511627776) (aT:s.at_≤b.length) (hH:Has N S s0 (.box k (.mem 0 false (b_ x s))::.aC x 1 (γ b)::H)):
  ∃d ah,Ev pv 102 [.ptr k 0 0] s0 d ah∧(∃g:GV,d=.agg (gW g)∧(g.td=ta g.bn∧g.bn.length≤400)∧((cW b s).2.e=0→g=(cW b s).1))∧Has N S ah (.box k (.mem 0 false (b_ x (cW b s).2))::.aC x 1 (γ b)::H):=by
 refine BY rfl Te rfl rfl rfl ?_;refine zE ?_;have bD:=hH;have hH:=hH.bf;have bA:(ae .rw s0).bs=s0.bs:=rfl;generalize ae .rw s0=S2 at*;refine zQ 2 ?_;refine qa hH fun k2 st hk2 hH=>?_;have hH:=zjvb hH;refine zQ 3 ?_;refine qa hH fun k3 st tt hH=>?_;refine zQ 1 ?_;have hH:Has N S2 st (.box k (.mem 0 false (b_ x s))::.aC x 1 (γ b)::.box k3 (.mem 0 false (aV false bQ .nul))::.box k2 (.mem 0 false (aV false bQ .nul))::H):=τ [_,_] [_,_] hH;refine zQ 3 ?_;obtain⟨_,st,aA,rfl,hH⟩:=Jz hbl aT hH;refine qv aA ?_;refine zQ 1 ?_;refine wt hH rfl z3 z3 rfl (by exact rfl) cU (by exact δ rfl) (.inr rfl) (fun st hH=>?_);have hH:=zjva hH;refine zQ 1 ?_;have hH:Has N S2 st (.box k (.mem 0 false (b_ x (dG b s).2))::.aC x 1 (γ b)::.box k3 (.mem 0 false (aV (dG b s).1 bQ .nul))::.box k2 (.mem 0 false (aV false bQ .nul))::H):=hH;have pL:=pU aT;refine zQ 3 ?_;obtain⟨_,st,aA,rfl,hH⟩:=BF hbl pL hH;refine qv aA ?_;refine zQ 1 ?_;refine wt hH rfl z3 z3 rfl (by exact rfl) cU (by exact δ rfl) (.inr rfl) (fun st hH=>?_);have hH:=zjva hH;refine zQ 1 ?_;have hH:Has N S2 st (.box k (.mem 0 false (b_ x (jM b 10 (dG b s).2)))::.aC x 1 (γ b)::.box k3 (.mem 0 false (aV (dG b s).1 (ou b (dG b s).2) .nul))::.box k2 (.mem 0 false (aV false bQ .nul))::H):=hH;have kX:=kP pL 10;refine zQ 3 ?_;obtain⟨_,st,aA,⟨ts,rfl,TO,_,YV⟩,hH⟩:=Mh hbl kX hH;refine qv aA ?_;refine zQ 1 ?_;refine wt hH rfl z3 z3 rfl (by exact rfl) cU (by exact δ rfl) (.inr rfl) (fun st hH=>?_);have hH:=zjva hH;refine zQ 1 ?_
 obtain⟨g,hg⟩:∃g:GV,g=⟨(dG b s).1,ou b (dG b s).2,ta ts,ts⟩:=⟨_,rfl⟩
 have hH:Has N S2 st (.box k (.mem 0 false (b_ x (cW b s).2))::.aC x 1 (γ b)::.box k3 (.mem 0 false (gW g))::.box k2 (.mem 0 false (aV false bQ .nul))::H):=by rw[hg];exact hH
 have zK:g.td=ta g.bn:=by rw[hg]
 have vw:g.bn.length≤400:=by rw[hg];exact TO
 have V2:(cW b s).2.e=0→g=(cW b s).1:=fun h=>by
  rw[hg,YV h];rfl
 clear hg YV;have Iz:refs (gW g)=0:=by unfold gW;rw[zK];rfl
 refine zQ 2 ?_;refine ω (m:=12) (r:=gW g) hH rfl z3 cU rfl rfl rfl (aa rfl _) ?_;refine Γ hH rfl z3 z3 rfl (by exact rfl) di (by exact rfl) (.inr Iz) (fun st hH=>?_);have hH:=zjva hH;refine zQ 1 ?_;refine ag.ret ⟨rx,_,_,_,hH.i_ rfl di rfl,ai (show ba st s0.bs.length false 16 (.agg (gW g))=some (.agg (gW g)) by unfold gW;rw[zK];rfl),?_⟩;exact⟨⟨g,rfl,⟨zK,vw⟩,V2⟩,bD.aq bA ((hH.erase 2).erase 2)⟩
theorem Gk (hbl:b.length≤1099511627776) (aT:s.at_≤b.length) (hH:Has N S s0 (.box k (.mem 0 false (b_ x s))::.aC x 1 (γ b)::H)):
  ∃d ah,Ev pv 101 [.ptr k 0 0,.int .i64 8,.fn 102 []] s0 d ah∧(∃L:List GV,d=tx L∧L.length≤8∧(∀g∈L,g.td=ta g.bn∧g.bn.length≤400)∧((dF b s).2.e=0→L=(dF b s).1))∧Has N S ah (.box k (.mem 0 false (b_ x (dF b s).2))::.aC x 1 (γ b)::H):=by
 have tS:=aw b;obtain⟨u1,u2,u3,u4⟩:=mN (m:=8) aT;obtain⟨i1,i2,i3,i4⟩:=fY (m:=8) aT;have rZ:bW b 8 s=if(bJ b 8 s).2.e=0∧(bJ b 8 s).1>(b.length:Int)-(bJ b 8 s).2.at_ then((bJ b 8 s).1,⟨s.at_,3⟩) else bJ b 8 s:=rfl;unfold dF;refine BY rfl Tf rfl rfl rfl ?_;refine zE ?_;have bD:=hH;have hH:=hH.bf;have bA:(ae .rw s0).bs=s0.bs:=rfl;generalize ae .rw s0=S2 at*;refine zQ 16 ?_;obtain⟨_,st,aA,rfl,hH⟩:=vD hbl aT 8 hH;refine qv aA ?_;refine zQ 2 ?_;generalize bJ b 8 s=R at*;obtain⟨n,s1⟩:=R;dsimp only at u1 u2 u3 u4 rZ hH⊢;refine zQ 2 ?_;refine ag.jn (fun fr st=>∃(tmp:List (Nat×D)),fr=⟨11,[.ptr k 0 0,ct fr 1,.fn 102 [],ct fr 3,ct fr 4,ct fr 5,ct fr 6,ct fr 7,.int .i64 (bW b 8 s).1,ct fr 9,ct fr 10],tmp⟩∧Has N S2 st (.box k (.mem 0 false (b_ x (bW b 8 s).2))::.aC x 1 (γ b)::H)∧(True)) ?_ ?_
 ·by_cases he:s1.e=0
  ·have de:(s1.e==0)=true:=by simpa using he
   refine zQ 12 ?_;refine qn ?_ (hR:=hH.rows bt) (hg:=wi de);refine zQ 4 ?_;refine Qa6 (z:=(((b.length:Nat):Int)-(s1.at_:Nat))) (aj rfl rfl rfl de) z3 z3 (by rw[wrap_i64 z0 z0]<;>omega) (aa rfl _) ?_;refine zQ 3 ?_
   by_cases hlt:n>(b.length:Int)-s1.at_
   ·rw[if_pos ⟨he,hlt⟩] at rZ;rw[rZ];have hc:decide (n>(b.length:Int)-s1.at_)=true:=by rw[decide_eq_true_eq];exact hlt
    refine qD rfl (by rw[hc]) ?_;refine zQ 3 ?_;obtain⟨_,st,aA,rfl,hH⟩:=fZ s.at_ 3 hH;refine qv aA ?_;refine zQ 1 ?_;exact⟨_,rfl,hH,trivial⟩
   ·rw[if_neg (fun h=>hlt h.2)] at rZ;rw[rZ];have hc:decide (n>(b.length:Int)-s1.at_)=false:=by rw[decide_eq_false_iff_not];exact hlt
    refine qE rfl (by rw[hc]) ?_;refine zQ 1 ?_;exact⟨_,rfl,hH,trivial⟩
  ·rw[if_neg (fun h=>he h.1)] at rZ;rw[rZ];have de:(s1.e==0)=false:=by simpa using he
   refine zQ 23 ?_;exact⟨_,rfl,hH,trivial⟩
 rintro fr st ⟨tmp,hfr,hH,ht⟩;rw[hfr];clear hfr;generalize ct fr=ee;clear fr;clear rZ u1 u2 u3 u4;generalize bW b 8 s=R at*;obtain⟨n,s2⟩:=R;dsimp only at i1 i2 i3 i4 hH⊢
 obtain⟨m,rfl⟩:∃m:Nat,n=(m:Nat):=⟨n.toNat,by omega⟩
 rw[Θ];refine zQ 9 ?_;have hH:Has N S2 st (.box k (.mem 0 false (b_ x s2))::.aC x 1 (γ b)::.aC .nul 12 (([]:List GV).map gW)::H):=τ [_] [_,_] (hH.fG 12);refine zQ 1 ?_;refine ag.loop (fun mm fr st=>∃(i:Nat) (sr:dB) (od:D) (acc:List GV),fr.clean=⟨11,[.ptr k 0 0,ct fr 1,.fn 102 [],ct fr 3,ct fr 4,ct fr 5,ct fr 6,ct fr 7,.int .i64 (m:Nat),od,.int .i64 (i:Nat)],[]⟩∧Has N S2 st (.box k (.mem 0 false (b_ x sr))::.aC x 1 (γ b)::.aC od 12 (acc.map gW)::H)∧(i+mm=m)∧(acc.length=i)∧(sr.at_≤b.length)∧(sr.e=0→s2.e=0)∧(∀k,od.ref=k+1→S2.bs.length≤k)∧((bm (cW b) m s2).2=(bm (cW b) mm sr).2)∧((bm (cW b) mm sr).2.e=0→(bm (cW b) m s2).1=acc++(bm (cW b) mm sr).1)∧(acc.length≤8)∧(∀g∈acc,g.td=ta g.bn∧g.bn.length≤400)) (m) ?_ ?_
 ·exact⟨0,s2,.nul,[],rfl,hH,by omega,rfl,i1,fun h=>h,fun k hk=>by simp only[IS] at hk;omega,rfl,fun _=>rfl,by simp,(fun g hg=>by cases hg)⟩
 rintro mm fr st ⟨i,sr,od,acc,hfr,hH,hi,hal,Lu,pH,vq,Mc,Jo,hab,hval⟩;rw[hfr];clear hfr;generalize ct fr=ee;clear fr;refine zQ 2 ?_;refine ag.da 49 (.bool (decide (((i:Nat):Int)<(m:Nat)) &&(sr.e==0))) [] ?_ (fun ff tmp cI=>?_)
 ·refine zQ 4 ?_;refine Qa7 43 rfl (fun bB=>?_) (fun bB=>?_)
  ·refine zQ 6 ?_;refine χ (aO ?_ ?_)
   ·dsimp only[aI,φ,nth,u2,u1]
    all_goals(first|rfl|simp)
   ·refine zF ?_
    all_goals(simp_all;done)
  ·refine zQ 6 ?_;refine χ (aO ?_ ?_)
   ·dsimp only[aI,φ,nth,u2,u1]
    all_goals(first|rfl|simp)
   ·refine zF ?_
    all_goals(simp_all;omega)
 refine zG ?_;refine qc (fun hc=>?_) (fun hc=>?_)<;>try simp only[cs] at hc
 ·have hc:i<m∧sr.e=0:=by
   rw[Ξ,decide_eq_true_eq] at hc;exact⟨by omega,by simpa using hc.2⟩
  obtain⟨hlt,he⟩:=hc
  obtain⟨mm,rfl⟩:∃q,mm=q+1:=⟨mm-1,by omega⟩
  have TS:=i4 (pH he)
  have Bm:bm (cW b) (mm+1) sr=((cW b sr).1::(bm (cW b) mm (cW b sr).2).1,(bm (cW b) mm (cW b sr).2).2):=by
   conv=>lhs;unfold bm
   rw[if_neg (by simpa using he)]
  rw[Bm] at Jo Mc;have pL:(cW b sr).2.at_≤b.length:=pE Lu;refine zQ 7 ?_;obtain⟨_,st,aA,⟨g,rfl,Zi,V2⟩,hH⟩:=Jy hbl Lu hH
  have Iz:refs ([gW g]:List (List D)).flatten=0:=(by unfold gW;rw[Zi.1];rfl)
  refine qv aA ?_;refine qh (s:=12) (vs:=[_]) hH fun k56 st VK hH=>?_;have hH:=zjvb hH;refine Qa9 (s:=12) hH rfl z3 z3 di (hH.rows aJ) rfl rfl rfl rfl rfl rfl rfl ⟨(δ rfl),(δ rfl)⟩ (fun _=>(aa rfl _)) (by simp only[ι,ζ,κ];omega) (.inr Iz) vq (fun Ub st vq hH=>?_);have hH:=zjva hH;refine zQ 2 ?_;have hH:=hH.drop 1;refine zQ 5 ?_;refine⟨mm,by omega,⟨i+1,(cW b sr).2,Ub,acc++[g],rfl,(by rw[ψ];exact hH),by omega,(by rw[π];simp only[ζ,κ];omega),pL,fun _=>pH he,vq,Mc,?_,(by rw[π];simp only[ζ,κ];omega),(fun g2 cj=>by rcases IT.1 cj with h|h;exact hval g2 h;simp only[ξ,η,or_false] at h;rw[h];exact Zi)⟩⟩;intro h0;rw[Jo h0]
  have iI:(cW b sr).2.e=0:=by
   rcases Classical.em ((cW b sr).2.e=0) with h|h
   ·exact h
   ·rw[eP _ h] at h0;exact absurd h0 h
  rw[V2 iI,Δ];rfl
 ·refine zQ 1 ?_
  have wK:bm (cW b) mm sr=([],sr):=by
   by_cases he:sr.e=0
   ·have:mm=0:=by
     rcases υ mm with h|h
     ·exact h
     ·exfalso
      have h1:decide (((i:Nat):Int)<(m:Nat))=true:=by rw[decide_eq_true_eq];omega
      rw[h1,he] at hc;simp at hc
    rw[this];rfl
   ·exact eP _ he mm
  rw[wK] at Jo Mc;simp only[Ω] at Jo;rw[Mc];refine zQ 9 ?_;refine ag.cond (by rfl) (fun hne=>?_) (fun hne=>?_)<;>try simp only[bne_iff_ne,bne_eq_false_iff_eq,ne_eq] at hne
  ·refine zQ 4 ?_;refine ag.ret ⟨rx,_,_,_,rfl,ai (rfl),?_⟩;exact⟨⟨[],rfl,by simp,(fun g hg=>by cases hg),fun h=>absurd h (by simpa using hne)⟩,bD.aq bA (hH.erase 2)⟩
  ·refine zQ 6 ?_;have mA:=Me fun g hg=>(hval g hg).1;have hfz:=hH.n9 (L:=s0.bs.length) (n:=16) cU (fun k hk=>by rw[←bA];exact vq k hk) mA.1 (by decide);rw[mA.2] at hfz;refine ag.ret ⟨rx,_,_,_,rfl,ai hfz,?_⟩;exact⟨⟨acc,rfl,hab,hval,fun h=>(Jo h).symm⟩,bD.aq bA (hH.erase 2)⟩
theorem Gj (hbl:b.length≤1099511627776) (aT:s.at_≤b.length) (hH:Has N S s0 (.box k (.mem 0 false (b_ x s))::.aC x 1 (γ b)::H)):
  ∃d ah,Ev pv 71 [.ptr k 0 0] s0 d ah∧(∃L:List GV,d=tx L∧L.length≤8∧(∀g∈L,g.td=ta g.bn∧g.bn.length≤400)∧((dF b s).2.e=0→L=(dF b s).1))∧Has N S ah (.box k (.mem 0 false (b_ x (dF b s).2))::.aC x 1 (γ b)::H):=by
 refine BY rfl W5 rfl rfl rfl ?_;refine zE ?_;have bD:=hH;have hH:=hH.bf;have bA:(ae .rw s0).bs=s0.bs:=rfl;generalize ae .rw s0=S2 at*;refine zQ 7 ?_;obtain⟨_,st,aA,⟨L,rfl,h1,h2,h3⟩,hH⟩:=Gk hbl aT hH;refine qv aA ?_;refine zQ 2 ?_;refine ag.ret ⟨rx,_,_,_,rfl,ai (rfl),?_⟩;exact⟨⟨L,rfl,h1,h2,h3⟩,bD.aq bA hH⟩
def iW (fr:Go.V.Fr) (k:Nat):Go.V.D:=Go.V.nth .bo fr.loc k
variable{st:St}{j:Nat}{ks:Nat→Prop}{vs:List (List D)}
theorem Jg {s:Nat} (hH:Has N S st H) (hj:H[j]?=some (.deep ks x s vs)):∃es,Has N S st [.aC x s es]:=by
 obtain⟨⟨es,iI,wy⟩,he3⟩:=(hH.ok j _ hj).1;have hK:=(hH.ok j _ hj).2;refine⟨es,hH.ex,hH.hN,hH.db,fun i e hi=>?_,fun i i' a b hii ha hb k pO jj=>?_⟩
 ·cases i with
  |zero=>simp only[Pd,Qa4.injEq] at hi;subst hi;exact⟨iI,fun k hk=>hK k (.inl hk)⟩
  |succ i=>simp at hi
 ·cases i with
  |zero=>cases i' with
   |zero=>exact hii rfl
   |succ i'=>simp at hb
  |succ i=>simp at ha
variable{P:Pv}{y:D}{ys G2:List (List D)}{z:List D}
theorem zc {s:Nat} (hH:Has N S st H) (hj:H[j]?=some (.deep ks x s vs)) (hy:Qa8 st s y ys) (hd:cO (cO (mD st ks)) ys G2) {t1 t2 e:TypeId} {td:TypeDesc} {inf:TypeInfo} (h1:P.cy t1=some (.slice e)) (h2:P.cy t2=some td) (h3:fh td=false) (h4:P.info e=some inf) (h5:dc P e=some z) (h6:inf.size=s) (h7:z.length=s) (h8:0<inf.bytes∧inf.bytes≤1024) (o6:vs.length+ys.length≤1073741824) (hw:S.flr≤S.bs.length∨refs ys.flatten=0) (h0:∀k,x.ref=k+1→S.bs.length≤k):
  ∃x' ah,bu P .append [t1,t2] [x,y] st=some (x',ah)∧Has N S ah (H.set j (.deep ks x' s (vs++G2))):=by
 obtain⟨⟨es,iI,wy⟩,he3⟩:=(hH.ok j _ hj).1;have hK:=(hH.ok j _ hj).2;have hlen:=wy.len
 have zg:Has S.bs.length st st [.aC x s es]:=by
  refine⟨Ex.refl _ _,hH.ex.len,by rw[hH.ex.ro];exact Nat.le_trans hH.db hH.hN,fun i e hi=>?_,fun i i' a b hii ha hb k pO jj=>?_⟩
  ·cases i with
   |zero=>simp only[Pd,Qa4.injEq] at hi;subst hi;exact⟨iI,fun k hk=>⟨h0 k hk,(hK k (.inl hk)).2⟩⟩
   |succ i=>simp at hi
  ·cases i with
   |zero=>cases i' with
    |zero=>exact hii rfl
    |succ i'=>simp at hb
   |succ i=>simp at ha
 obtain⟨x',ah,q1,q2,q3⟩:=zg.append (j:=0) aJ hy h1 h2 h3 h4 h5 h6 h7 h8 z0 (by rw[hH.ex.flr];exact hw);refine⟨x',ah,q1,?_⟩;have hown:=q2.own (j:=0) aJ
 have RR:(∀k,k<st.bs.length→x.ref≠k+1→ah.bs[k]?=st.bs[k]?)∧st.bs.length≤ah.bs.length∧ah.flr=st.flr∧ah.ro=st.ro∧(∀k,x'.ref=k+1→x.ref=k+1∨st.bs.length≤k):=by
  have jI:=hy.row
  have B_:∀e∈ys,e.length=s:=fun e he=>by
   obtain⟨i,hi⟩:=List.getElem?_of_mem he;exact hy.vO i e hi
  simp only[bu,iG,h1,h2,h3,Bool.false_eq_true,if_false,h4,h5,jI,Qa1] at q1
  split at q1
  ·cases q1
  ·cases iI with
   |nul=>
    simp only at q1
    split at q1
    ·cases q1;exact⟨fun _ _ _=>rfl,AI _,rfl,rfl,fun k hk=>.inl hk⟩
    ·split at q1
     ·cases q1;exact⟨fun k hk _=>by simp only[St.push];rw[List.getElem?_append_left hk],by simp[St.push],rfl,rfl,fun k hk=>.inr (by simp only[IS] at hk;omega)⟩
     ·cases q1
   |win k aB off es c hm hl hc he=>
    simp only[St.mem_of hm] at q1
    split at q1
    ·cases q1
    ·split at q1
     ·cases q1;exact⟨fun _ _ _=>rfl,AI _,rfl,rfl,fun k hk=>.inl hk⟩
     ·split at q1
      ·cases q1;exact⟨fun n hn hne=>by simp only;rw[List.getElem?_set_ne (fun e=>hne (by simp only[IS];omega))],by simp,rfl,rfl,fun n hn=>.inl (by simp only[IS] at hn⊢;exact hn)⟩
      ·cases q1
 obtain⟨c1,c2,c3,c4,c5⟩:=RR;have QK:=(q2.ok 0 _ aJ).2;have s8:∀k,ks k→ah.bs[k]?=st.bs[k]?:=fun k hk=>c1 k (hK k (.inr hk)).2 fun e=>he3 k e hk;refine hH.D2 hj (fun k hk hne=>c1 k hk fun e=>hne (.inl e)) c2 c3 c4 ⟨⟨es++ys,hown,?_⟩,fun k hk kE=>?_⟩ (fun k hk=>?_) fun k hk=>?_
 ·exact(wy.mono fun a b=>cO.mono fun c d=>mD.move s8).append (hd.mono fun a b=>cO.mono fun c d=>mD.move s8)
 ·rcases c5 k hk with h|h
  ·exact he3 k h kE
  ·have:=(hK k (.inr kE)).2;omega
 ·rcases hk with hk|hk
  ·rcases c5 k hk with h|h
   ·exact .inl (.inl h)
   ·exact .inr h
  ·exact .inl (.inr hk)
 ·rcases hk with hk|hk
  ·exact(QK k hk).2
  ·exact Nat.lt_of_lt_of_le (hK k (.inr hk)).2 c2
variable{ops:Array Oper}{rest:List Oper}{fr:Fr}{Q:Fr→St→Prop}{pp:String}{a:Array Edge}
theorem jg {ty:TypeId} {g:Option (Nat×Bool)} {aB off:Nat} {ar:Bool} {c cs:List D} {v:D} {t:TypeId} {ao vo:Operand} (hH:Has N S st H) (hg:aD ops fr ⟨none,.store t ao vo,ty,pp,a,g⟩=some true) (ha:fr.ev ao=.ptr k aB off) (hv:fr.ev vo=v) (kh:v.cells?=some cs) (hs:cz P t=some cs.length) (hj:H[j]?=some (.box k (.mem aB ar c))) (hl:off+cs.length≤c.length) (hw:S.flr≤k) (h:∀ah,Has N S ah (H.set j (.box k (.mem aB ar (setMany c off cs))))→ab P ops rest fr ah Q):ab P ops (⟨none,.store t ao vo,ty,pp,a,g⟩::rest) fr st Q:=by
 have h1:=hH.ex.flr;have h2:=hH.ex.ro;have h3:=hH.db;have h4:=(hH.ge hj).1;refine ab.N hg rfl (d:=.tup []) (st1:=⟨st.bs.set k (.mem aB ar (setMany c off cs)),st.flr,st.ro⟩) ?_ (h _ (hH.rj (aB:=aB) hj));simp only[dN,ha,hv,lU,kh,hs,if_pos trivial];rw[mL (hH.at hj) hl (J5 (N:=k) (AI _) z0 z0),gN _ _ _ hl];rfl
theorem ze {ty:TypeId} {g:Option (Nat×Bool)} {dst:Nat} {s:Nat} {t1 t2 e:TypeId} {td:TypeDesc} {inf:TypeInfo} {xo yo:Operand} {aG:D→Fr} (hH:Has N S st H) (hg:aD ops fr ⟨some dst,.call ⟨.builtin .append,#[xo,yo],#[t1,t2]⟩,ty,pp,a,g⟩=some true) (hx:fr.ev xo=x) (hy:fr.ev yo=y) (hj:H[j]?=some (.deep ks x s vs)) (kD:Qa8 st s y ys) (hd:cO (cO (mD st ks)) ys G2) (h1:P.cy t1=some (.slice e)) (h2:P.cy t2=some td) (h3:fh td=false) (h4:P.info e=some inf) (h5:dc P e=some z) (h6:inf.size=s) (h7:z.length=s) (h8:0<inf.bytes∧inf.bytes≤1024) (hp:∀x',fr.put dst x'=aG x') (hb:vs.length+ys.length≤1073741824) (hw:S.flr≤S.bs.length∨refs ys.flatten=0) (h0:∀k,x.ref=k+1→S.bs.length≤k) (h:∀x' ah,(∀k,x'.ref=k+1→S.bs.length≤k)→Has N S ah (H.set j (.deep ks x' s (vs++G2)))→ab P ops rest (aG x') ah Q):
  ab P ops (⟨some dst,.call ⟨.builtin .append,#[xo,yo],#[t1,t2]⟩,ty,pp,a,g⟩::rest) fr st Q:=by
 obtain⟨x',ah,q1,q2⟩:=zc hH hj kD hd h1 h2 h3 h4 h5 h6 h7 h8 hb hw h0;obtain⟨es,zg⟩:=Jg hH hj;have WB:=zg.Fk (j:=0) aJ kD h1 h2 h3 h4 h5 q1;refine IN hg rfl (d:=x') (st1:=ah) ?_ (hp _) (h x' ah (fun k hk=>?_) q2)
 ·simp only[dN,Qa3,Qa5,hx,hy];exact q1
 ·rcases WB k hk with h|h
  ·exact h0 k h
  ·exact h
theorem zb {L:Nat} {s:Nat} (hH:Has N S st H) (hj:H[j]?=some (.deep ks x s vs)) (hx:∀k,x.ref=k+1→L≤k) (kE:∀k,ks k→L≤k) {n:Nat} (hn:4≤n):ba st L false (n+1) x=some (.sl (vs.map (kO s))):=by
 obtain⟨n,rfl⟩:∃m,n=m+4:=⟨n-4,by omega⟩
 obtain⟨⟨es,h1,h2⟩,h3⟩:=(hH.ok j _ hj).1
 cases h1 with
 |nul=>cases h2;rfl
 |win k aB off es c hm hl hc he=>
  have hk:=hx k (by simp only[IS]);show(if k<L then some (D.win k aB off es.length s) else fu st L (n+4) (.win k aB off es.length s))=_;rw[if_neg (show¬k<L by omega),fu];simp only[if_neg (show¬k<L by omega),St.mem_of hm,Qa1];rw[if_pos hl,hc,rK (fun a b hab=>hab.pure (fun k hk=>kE k hk) (n+1)) h2.flat];simp only[Option.map_some];rw[h2.len,gX (h2.each he)]
def j4 (b:List UInt8) (most:Int) (s:dB):Int:=if(bW b most s).2.e≠0 then 0 else(bW b most s).1
theorem xC (h:s.at_≤b.length):0≤j4 b m s∧j4 b m s≤max m 0:=by
 obtain⟨o1,o2,o3,o4⟩:=fY (m:=m) h;unfold j4
 split
 ·exact⟨by simp,by omega⟩
 ·rename_i hn;exact⟨o2,o4 (by simpa using hn)⟩
theorem Bj {α:Type} (one:dB→α×dB) (b:List UInt8) (m:Int) (s:dB):bm one (j4 b m s).toNat (bW b m s).2=bm one (bW b m s).1.toNat (bW b m s).2:=by
 unfold j4
 split
 ·rename_i h;rw[eP _ h,eP _ h]
 ·rfl
theorem BB (hbl:b.length≤1099511627776) (aT:s.at_≤b.length) (hH:Has N S s0 (.box k (.mem 0 false (b_ x s))::.aC x 1 (γ b)::H)):
  ∃d ah,Ev pv 115 [.ptr k 0 0] s0 d ah∧d=.agg (aE (ou b s))∧Has N S ah (.box k (.mem 0 false (b_ x (jM b 10 s)))::.aC x 1 (γ b)::H):=by
 refine BY rfl S4 rfl rfl rfl ?_;refine zE ?_;have bD:=hH;have hH:=hH.bf;have bA:(ae .rw s0).bs=s0.bs:=rfl;generalize ae .rw s0=S2 at*;refine zQ 2 ?_;refine qa hH fun k2 st hk2 hH=>?_;have hH:=zjvb hH;refine zQ 3 ?_;refine qa hH fun k3 st tt hH=>?_;refine zQ 6 ?_;have hH:Has N S2 st (.box k (.mem 0 false (b_ x s))::.aC x 1 (γ b)::.box k3 (.mem 0 false (aE bQ))::.box k2 (.mem 0 false (aE bQ))::H):=τ [_,_] [_,_] hH;refine zQ 1 ?_;refine ag.loop (fun mm fr st=>∃(i:Nat) (f:kq),fr.clean=⟨5,[.ptr k 0 0,iW fr 1,.ptr k2 0 0,.ptr k3 0 0,.int .i64 (i:Nat)],[]⟩∧Has N S2 st (.box k (.mem 0 false (b_ x (jM b i s)))::.aC x 1 (γ b)::.box k3 (.mem 0 false (aE f))::.box k2 (.mem 0 false (aE bQ))::H)∧(i+mm=10)∧(∀j,j<i→f j=ou b s j)) (10) ?_ ?_
 ·exact⟨0,bQ,rfl,hH,by omega,fun j h=>by omega⟩
 rintro mm fr st ⟨i,f,hfr,hH,hi,hf⟩;rw[hfr];clear hfr;generalize iW fr=ee;clear fr;have IK:=kP aT i;obtain⟨_,_,o3,o4,_⟩:=dI (b:=b) (s:=jM b i s) IK;refine zQ 6 ?_;refine zP (fun h1=>?_) fun h1=>?_
 ·refine zQ 1 ?_;have pP:i<10:=by omega
  refine zQ 5 ?_;obtain⟨_,st,aA,rfl,hH⟩:=nZ hbl IK hH;refine qv aA ?_;refine Qa6 (z:=((bk b (jM b i s)).1-1)) rfl z3 z3 (by rw[wrap_i64 z0 z0]<;>omega) (aa rfl _) ?_;refine ab.Jh (m:=10) (s:=1) (i:=i) (o:=i) rfl z3 z3 rfl rfl z0 z0 (aa rfl _) ?_;refine wt hH rfl z3 z3 rfl (by exact rfl) cU (by show i+1≤10;omega) (.inr rfl) (fun st hH=>?_);change Has _ _ _ (_::_::.box k3 (.mem 0 false (setMany (aE f) i [.int .i64 ((bk b (jM b i s)).1-1)]))::_) at hH;rw[wX pP] at hH;refine zQ 6 ?_;refine⟨mm-1,by omega,⟨i+1,wB f i ((bk b (jM b i s)).1-1),rfl,hH,by omega,?_⟩⟩;intro j hj;unfold wB
  split
  ·rename_i h;subst h;rfl
  ·exact hf j z0
 ·refine zQ 1 ?_;have pP:i=10:=by omega
  subst pP;have LY:=BW hf;rw[LY] at hH;refine zQ 2 ?_;refine ω (m:=10) (r:=aE (ou b s)) hH rfl z3 cU rfl rfl rfl (aa rfl _) ?_;refine Γ hH rfl z3 z3 rfl (by exact rfl) di (by exact rfl) (.inr rfl) (fun st hH=>?_);have hH:=zjva hH;refine zQ 1 ?_;refine ag.ret ⟨rx,_,_,_,hH.i_ rfl di rfl,ai (show ba st s0.bs.length false 16 (.agg (aE (ou b s)))=some (.agg (aE (ou b s))) from rfl),?_⟩;exact⟨rfl,bD.aq bA ((hH.erase 2).erase 2)⟩
theorem xH (hbl:b.length≤1099511627776) (aT:s.at_≤b.length) (most:Int) (hH:Has N S s0 (.box k (.mem 0 false (b_ x s))::.aC x 1 (γ b)::H)):
  ∃d ah,Ev pv 113 [.ptr k 0 0,.int .i64 most] s0 d ah∧d=.int .i64 (j4 b most s)∧Has N S ah (.box k (.mem 0 false (b_ x (bW b most s).2))::.aC x 1 (γ b)::H):=by
 have tS:=aw b;obtain⟨u1,u2,u3,u4⟩:=mN (m:=most) aT;have rZ:bW b most s=if(bJ b most s).2.e=0∧(bJ b most s).1>(b.length:Int)-(bJ b most s).2.at_ then((bJ b most s).1,⟨s.at_,3⟩) else bJ b most s:=rfl;unfold j4;refine BY rfl S6 rfl rfl rfl ?_;refine zE ?_;have bD:=hH;have hH:=hH.bf;have bA:(ae .rw s0).bs=s0.bs:=rfl;generalize ae .rw s0=S2 at*;refine zQ 16 ?_;obtain⟨_,st,aA,rfl,hH⟩:=BA hbl aT most hH;refine qv aA ?_;refine zQ 2 ?_;generalize bJ b most s=R at*;obtain⟨n,s1⟩:=R;dsimp only at u1 u2 u3 u4 rZ hH⊢
 by_cases he:s1.e=0
 ·have de:(s1.e==0)=true:=by simpa using he
  refine zQ 14 ?_;refine qn ?_ (hR:=hH.rows bt) (hg:=wi de);refine zQ 4 ?_;refine Qa6 (z:=(((b.length:Nat):Int)-(s1.at_:Nat))) (aj rfl rfl rfl de) z3 z3 (by rw[wrap_i64 z0 z0]<;>omega) (aa rfl _) ?_;refine zQ 3 ?_
  by_cases hlt:n>(b.length:Int)-s1.at_
  ·rw[if_pos ⟨he,hlt⟩] at rZ;rw[rZ];have hc:decide (n>(b.length:Int)-s1.at_)=true:=by rw[decide_eq_true_eq];exact hlt
   refine qD rfl (by rw[hc]) ?_;refine zQ 5 ?_;refine qT hH aJ fun st hH=>?_;have hH:=zjvb hH;refine zQ 6 ?_;refine qT hH aJ fun st hH=>?_;have hH:=zjvb hH;refine zQ 15 ?_;refine ag.ret ⟨rx,_,_,_,rfl,ai (rfl),?_⟩;exact⟨rfl,bD.aq bA hH⟩
  ·rw[if_neg (fun h=>hlt h.2)] at rZ;rw[rZ];have hc:decide (n>(b.length:Int)-s1.at_)=false:=by rw[decide_eq_false_iff_not];exact hlt
   refine qE rfl (by rw[hc]) ?_;refine zQ 10 ?_;refine qE rfl (by simp[he]) ?_;refine zQ 6 ?_;refine ag.ret ⟨rx,_,_,_,rfl,ai (rfl),?_⟩;exact⟨by dsimp only;rw[if_neg (by simpa using he)];rfl,bD.aq bA hH⟩
 ·rw[if_neg (fun h=>he h.1)] at rZ;rw[rZ];have de:(s1.e==0)=false:=by simpa using he
  refine zQ 34 ?_;refine qD rfl (by simp[he]) ?_;refine zQ 4 ?_;refine ag.ret ⟨rx,_,_,_,rfl,ai (rfl),?_⟩;exact⟨by dsimp only;rw[if_pos he];rfl,bD.aq bA hH⟩
theorem Gh (hbl:b.length≤1099511627776) (aT:s.at_≤b.length) (hH:Has N S s0 (.box k (.mem 0 false (b_ x s))::.aC x 1 (γ b)::H)):
  ∃d ah,Ev pv 77 [.ptr k 0 0] s0 d ah∧(∃L:List GV,d=tx L∧L.length≤8∧(∀g∈L,g.td=ta g.bn∧g.bn.length≤400)∧((dF b s).2.e=0→L=(dF b s).1))∧Has N S ah (.box k (.mem 0 false (b_ x (dF b s).2))::.aC x 1 (γ b)::H):=by
 obtain⟨i1,i2,i3,i4⟩:=fY (m:=8) aT;obtain⟨n1,n2⟩:=xC (m:=8) aT;have IV:dF b s=bm (cW b) (j4 b 8 s).toNat (bW b 8 s).2:=(Bj _ _ _ _).symm;rw[IV];clear IV;have Wy:(ae .rw s0).flr=(ae .rw s0).bs.length:=rfl;refine BY rfl WZ rfl rfl rfl ?_;refine zE ?_;have bD:=hH;have hH:=hH.bf;have bA:(ae .rw s0).bs=s0.bs:=rfl;generalize ae .rw s0=S2 at*;refine zQ 11 ?_;obtain⟨_,st,aA,rfl,hH⟩:=xH hbl aT 8 hH;refine qv aA ?_;refine zQ 2 ?_;generalize j4 b 8 s=n at*;generalize(bW b 8 s).2=s2 at*
 obtain⟨m,rfl⟩:∃m:Nat,n=(m:Nat):=⟨n.toNat,by omega⟩
 rw[Θ];refine zQ 5 ?_;have hH:Has N S2 st (.box k (.mem 0 false (b_ x s2))::.aC x 1 (γ b)::.deep (fun _=>False) .nul 12 (([]:List GV).map gW)::H):=τ [_] [_,_] (hH.K_ 12);refine zQ 1 ?_;refine ag.loop (fun mm fr st=>∃(i:Nat) (sr:dB) (y:D) (ks:Nat→Prop) (acc:List GV),fr.clean=⟨10,[.ptr k 0 0,iW fr 1,iW fr 2,y,.int .i64 (m:Nat),.int .i64 (i:Nat),iW fr 6,iW fr 7,iW fr 8,iW fr 9],[]⟩∧Has N S2 st (.box k (.mem 0 false (b_ x sr))::.aC x 1 (γ b)::.deep ks y 12 (acc.map gW)::H)∧(i+mm=m)∧(acc.length=i)∧(sr.at_≤b.length)∧(∀k,y.ref=k+1→S2.bs.length≤k)∧(∀k,ks k→S2.bs.length≤k)∧(bm (cW b) m s2=(acc++(bm (cW b) mm sr).1,(bm (cW b) mm sr).2))∧(∀g∈acc,g.td=ta g.bn∧g.bn.length≤400)) (m) ?_ ?_
 ·exact⟨0,s2,.nul,(fun _=>False),[],rfl,hH,by omega,rfl,i1,(fun k hk=>by simp only[IS] at hk;omega),(fun k hk=>hk.elim),rfl,(fun g hg=>by cases hg)⟩
 rintro mm fr st ⟨i,sr,y,ks,acc,hfr,hH,hi,hal,Lu,vq,kE,hI,hval⟩;rw[hfr];clear hfr;generalize iW fr=ee;clear fr;refine zQ 2 ?_;refine ag.da 21 (.bool (decide (((i:Nat):Int)<(m:Nat)) &&(sr.e==0))) [] ?_ (fun ff tmp cI=>?_)
 ·refine zQ 4 ?_;refine Qa7 15 rfl (fun bB=>?_) (fun bB=>?_)
  ·refine zQ 6 ?_;refine χ (aO ?_ ?_)
   ·dsimp only[aI,φ,nth,u2,u1]
    all_goals(first|rfl|simp)
   ·refine zF ?_
    all_goals(simp_all;done)
  ·refine zQ 6 ?_;refine χ (aO ?_ ?_)
   ·dsimp only[aI,φ,nth,u2,u1]
    all_goals(first|rfl|simp)
   ·refine zF ?_
    all_goals(simp_all;omega)
 refine zG ?_;refine qc (fun hc=>?_) (fun hc=>?_)<;>try simp only[cs] at hc
 ·have hc:i<m∧sr.e=0:=by
   rw[Ξ,decide_eq_true_eq] at hc;exact⟨by omega,by simpa using hc.2⟩
  obtain⟨hlt,he⟩:=hc
  obtain⟨TI,rfl⟩:∃q,mm=q+1:=⟨mm-1,by omega⟩
  have Bm:bm (cW b) (TI+1) sr=((cW b sr).1::(bm (cW b) TI (cW b sr).2).1,(bm (cW b) TI (cW b sr).2).2):=by
   conv=>lhs;unfold bm
   rw[if_neg (by simpa using he)]
  rw[Bm] at hI;have pL:=pU (b:=b) Lu;have kX:=kP pL 10;have Ox:=pE (b:=b) Lu;refine zQ 6 ?_;obtain⟨_,st,aA,rfl,hH⟩:=Jp hbl Lu hH;refine qv aA ?_;refine IN (d:=.agg (aV (dG b sr).1 bQ .nul)) (st1:=_) rfl rfl rfl (aa rfl _) ?_;refine qa hH fun k6 st De hH=>?_;have hH:=zjvb hH;refine qS hH aJ fun st hH=>?_;have hH:=zjvb hH;refine zQ 1 ?_;have hH:Has N S2 st (.box k (.mem 0 false (b_ x (dG b sr).2))::.aC x 1 (γ b)::.deep ks y 12 (acc.map gW)::.box k6 (.mem 0 false (aV (dG b sr).1 bQ .nul))::H):=τ [_] [_,_,_] hH;refine zQ 3 ?_;obtain⟨_,st,aA,rfl,hH⟩:=BB hbl pL hH;refine qv aA ?_;refine zQ 1 ?_;refine wt hH rfl z3 z3 rfl (by exact rfl) di (by exact δ rfl) (.inr rfl) (fun st hH=>?_);have hH:=zjva hH;refine zQ 1 ?_;have rX:cW b sr=(⟨(dG b sr).1,ou b (dG b sr).2,ta (pb b (jM b 10 (dG b sr).2)).1,(pb b (jM b 10 (dG b sr).2)).1⟩,(pb b (jM b 10 (dG b sr).2)).2):=rfl;generalize mi:(dG b sr).1=fl at*;generalize hcp:ou b (dG b sr).2=cp at*;generalize hsc:jM b 10 (dG b sr).2=sc at*;have hH:Has N S2 st (.box k (.mem 0 false (b_ x sc))::.aC x 1 (γ b)::.deep ks y 12 (acc.map gW)::.box k6 (.mem 0 false (aV fl cp .nul))::H):=hH;obtain⟨q1,q2,q3,q4⟩:=fY (m:=400) kX;obtain⟨p1,p2⟩:=xC (m:=400) kX;have YU:pb b sc=bm (eX b) (j4 b 400 sc).toNat (bW b 400 sc).2:=(Bj _ _ _ _).symm;rw[YU] at rX;refine zQ 3 ?_;obtain⟨_,st,aA,rfl,hH⟩:=xH hbl kX 400 hH;refine qv aA ?_;refine zQ 2 ?_;generalize j4 b 400 sc=n at*;generalize(bW b 400 sc).2=s3 at*
  obtain⟨m2,rfl⟩:∃m:Nat,n=(m:Nat):=⟨n.toNat,by omega⟩
  rw[Θ] at rX;clear YU;refine zQ 5 ?_;have hH:Has N S2 st (.box k (.mem 0 false (b_ x s3))::.aC x 1 (γ b)::.deep ks y 12 (acc.map gW)::.box k6 (.mem 0 false (aV fl cp .nul))::.aC .nul 11 (([]:List GT).map fI)::H):=τ [_] [_,_,_,_] (hH.fG 11);refine zQ 1 ?_;refine ag.loop (fun mm fr st=>∃(j:Nat) (mP:dB) (td:D) (bn:List GT),fr.clean=⟨10,[.ptr k 0 0,iW fr 1,iW fr 2,y,.int .i64 (m:Nat),.int .i64 (i:Nat),.ptr k6 0 0,.int .i64 (m2:Nat),.int .i64 (j:Nat),iW fr 9],[]⟩∧Has N S2 st (.box k (.mem 0 false (b_ x mP))::.aC x 1 (γ b)::.deep ks y 12 (acc.map gW)::.box k6 (.mem 0 false (aV fl cp td))::.aC td 11 (bn.map fI)::H)∧(j+mm=m2)∧(bn.length=j)∧(mP.at_≤b.length)∧(∀k,td.ref=k+1→S2.bs.length≤k)∧(bm (eX b) m2 s3=(bn++(bm (eX b) mm mP).1,(bm (eX b) mm mP).2))) (m2) ?_ ?_
  ·exact⟨0,s3,.nul,[],rfl,hH,by omega,rfl,q1,(fun k hk=>by simp only[IS] at hk;omega),rfl⟩
  rintro mm fr st ⟨j,mP,td,bn,hfr,hH,hj,mA,PJ,zK,hT⟩;rw[hfr];clear hfr;generalize iW fr=ee;clear fr;refine zQ 2 ?_;refine ag.da 41 (.bool (decide (((j:Nat):Int)<(m2:Nat)) &&(mP.e==0))) [] ?_ (fun ff tmp cI=>?_)
  ·refine zQ 4 ?_;refine Qa7 35 rfl (fun bB=>?_) (fun bB=>?_)
   ·refine zQ 6 ?_;refine χ (aO ?_ ?_)
    ·dsimp only[aI,φ,nth,u2,u1]
     all_goals(first|rfl|simp)
    ·refine zF ?_
     all_goals(simp_all;done)
   ·refine zQ 6 ?_;refine χ (aO ?_ ?_)
    ·dsimp only[aI,φ,nth,u2,u1]
     all_goals(first|rfl|simp)
    ·refine zF ?_
     all_goals(simp_all;omega)
  refine zG ?_;refine qc (fun hd=>?_) (fun hd=>?_)<;>try simp only[cs] at hd
  ·have hd:j<m2∧mP.e=0:=by
    rw[Ξ,decide_eq_true_eq] at hd;exact⟨by omega,by simpa using hd.2⟩
   obtain⟨aa9,he3⟩:=hd
   obtain⟨mm,rfl⟩:∃q,mm=q+1:=⟨mm-1,by omega⟩
   have N4:bm (eX b) (mm+1) mP=((eX b mP).1::(bm (eX b) mm (eX b mP).2).1,(bm (eX b) mm (eX b mP).2).2):=by
    conv=>lhs;unfold bm
    rw[if_neg (by simpa using he3)]
   rw[N4] at hT;have Vu:=(dI (b:=b) PJ).1;have Vt:=yp (b:=b) PJ;refine zQ 6 ?_;obtain⟨_,st,aA,rfl,hH⟩:=nZ hbl PJ hH;refine qv aA ?_;refine IN (d:=.agg (fI ⟨(bk b mP).1,bQ⟩)) (st1:=_) rfl rfl rfl (aa rfl _) ?_;refine qa hH fun k9 st Rw hH=>?_;have hH:=zjvb hH;refine qS hH aJ fun st hH=>?_;have hH:=zjvb hH;refine zQ 1 ?_;have hH:Has N S2 st (.box k (.mem 0 false (b_ x (bk b mP).2))::.aC x 1 (γ b)::.deep ks y 12 (acc.map gW)::.box k6 (.mem 0 false (aV fl cp td))::.aC td 11 (bn.map fI)::.box k9 (.mem 0 false (fI ⟨(bk b mP).1,bQ⟩))::H):=τ [_] [_,_,_,_,_] hH;refine zQ 3 ?_;obtain⟨_,st,aA,rfl,hH⟩:=BB hbl Vu hH;refine qv aA ?_;refine zQ 1 ?_;refine wt hH rfl z3 z3 rfl (by exact rfl) ke (by exact δ rfl) (.inr rfl) (fun st hH=>?_);have hH:=zjva hH;refine zQ 1 ?_;have hH:Has N S2 st (.box k (.mem 0 false (b_ x (eX b mP).2))::.aC x 1 (γ b)::.deep ks y 12 (acc.map gW)::.box k6 (.mem 0 false (aV fl cp td))::.aC td 11 (bn.map fI)::.box k9 (.mem 0 false (fI (eX b mP).1))::H):=hH;generalize(eX b mP).1=t at*;generalize(eX b mP).2=s5 at*;refine zQ 2 ?_;refine ab.vu hH rfl z3 di rfl (aa rfl _) ?_;refine ω (m:=11) (r:=fI t) hH rfl z3 ke rfl rfl rfl (aa rfl _) ?_;refine qh (s:=11) (vs:=[_]) hH fun k53 st VM hH=>?_;have hH:=zjvb hH;refine Qa9 (s:=11) hH rfl z3 z3 ke (hH.rows aJ) rfl rfl rfl rfl rfl rfl rfl ⟨(δ rfl),(δ rfl)⟩ (fun _=>(aa rfl _)) (by simp only[ι,ζ,κ];omega) (.inr rfl) zK (fun TA st zK hH=>?_);have hH:=zjva hH;refine zQ 1 ?_;refine jg hH rfl z3 z3 (hH.eO ke) (by exact rfl) ie (by exact δ rfl) z0 (fun st hH=>?_);have hH:=zjva hH;refine zQ 1 ?_
   have hH:Has N S2 st (.box k (.mem 0 false (b_ x s5))::.aC x 1 (γ b)::.deep ks y 12 (acc.map gW)::.box k6 (.mem 0 false (aV fl cp TA))::.aC TA 11 ((bn++[t]).map fI)::H):=by
    rw[ψ];exact(hH.drop 1).erase 5
   refine zQ 5 ?_;exact⟨mm,by omega,⟨j+1,s5,TA,bn++[t],rfl,hH,by omega,(by rw[π];simp only[ζ,κ];omega),Vt,zK,(by rw[hT,Δ];rfl)⟩⟩
  ·refine zQ 1 ?_
   have wK:bm (eX b) mm mP=([],mP):=by
    by_cases he:mP.e=0
    ·have:mm=0:=by
      rcases υ mm with h|h
      ·exact h
      ·exfalso
       have h1:decide (((j:Nat):Int)<(m2:Nat))=true:=by rw[decide_eq_true_eq];omega
       rw[h1,he] at hd;simp at hd
     rw[this];rfl
    ·exact eP _ he mm
   rw[wK,Ω] at hT;rw[hT] at rX;dsimp only at rX;have Zr:acc.length≤8:=by omega
   refine zQ 2 ?_;refine ω (m:=12) (r:=aV fl cp td) hH rfl z3 di rfl rfl rfl (aa rfl _) ?_;refine qh (s:=12) (vs:=[_]) hH fun k58 st aa0 hH=>?_;have hH:=zjvb hH;obtain⟨hH,OV⟩:=hH.zC (i:=5) (j:=3) (by decide) ke di (BC _);have hH:=zjva hH;refine ze hH rfl rfl rfl di (hH.rows aJ) (.cons (JM (dn:=fl) (f:=cp) OV) .nil) rfl rfl rfl rfl rfl rfl rfl ⟨(δ rfl),(δ rfl)⟩ (fun _=>(aa rfl _)) (by rw[ι];show _+1≤_;omega) (.inl (Nat.le_of_eq Wy)) vq (fun Yi st vq hH=>?_);have hH:=zjva hH;refine zQ 2 ?_
   have hH:Has N S2 st (.box k (.mem 0 false (b_ x mP))::.aC x 1 (γ b)::.deep (fun k=>ks k∨td.ref=k+1) Yi 12 ((acc++[(⟨fl,cp,ta bn,bn⟩:GV)]).map gW)::H):=by
    rw[ψ];exact((hH.drop 1).erase 3).erase 3
   refine zQ 5 ?_;rw[rX] at hI Ox;dsimp only at hI Ox;refine⟨TI,by omega,⟨i+1,mP,Yi,(fun k=>ks k∨td.ref=k+1),acc++[(⟨fl,cp,ta bn,bn⟩:GV)],rfl,hH,by omega,(by rw[π];simp only[ζ,κ];omega),Ox,vq,(fun k hk=>by rcases hk with h|h;exact kE k h;exact zK k h),(by rw[hI,Δ];rfl),?_⟩⟩;intro g2 cj
   rcases IT.1 cj with h|h
   ·exact hval g2 h
   ·simp only[ξ,η,or_false] at h;rw[h];exact⟨rfl,by show bn.length≤400;omega⟩
 ·refine zQ 1 ?_
  have wK:bm (cW b) mm sr=([],sr):=by
   by_cases he:sr.e=0
   ·have:mm=0:=by
     rcases υ mm with h|h
     ·exact h
     ·exfalso
      have h1:decide (((i:Nat):Int)<(m:Nat))=true:=by rw[decide_eq_true_eq];omega
      rw[h1,he] at hc;simp at hc
    rw[this];rfl
   ·exact eP _ he mm
  rw[wK,Ω] at hI;rw[hI];refine zQ 5 ?_;have hfz:=zb hH (L:=s0.bs.length) (n:=15) cU (fun k hk=>by rw[←bA];exact vq k hk) (fun k hk=>by rw[←bA];exact kE k hk) (by decide);refine ag.ret ⟨rx,_,_,_,rfl,ai hfz,?_⟩;exact⟨⟨acc,rfl,by omega,hval,fun _=>rfl⟩,bD.aq bA (hH.erase 2)⟩
def cB (b:List UInt8) (s:dB):(List UInt8×Int×List GV)×dB:=
 (((eY b 3 s).1,(bk b (eY b 3 s).2).1,(dF b (bk b (eY b 3 s).2).2).1),(dF b (bk b (eY b 3 s).2).2).2)
theorem lu (h:s.at_≤b.length):(eY b m s).2.at_≤b.length∧((eY b m s).1.length:Int)≤max m 0:=by
 obtain⟨u1,u2,u3,u4⟩:=mN (m:=m) h;unfold eY
 split
 ·exact⟨u1,by simp;omega⟩
 ·split
  ·exact⟨h,by simp;omega⟩
  ·rename_i h1 h2;have h1:=u4 (by simpa using h1);refine⟨?_,?_⟩
   ·show(bJ b m s).2.at_+(bJ b m s).1.toNat≤_;omega
   ·rw[List.length_take];omega
theorem Aq (h:s.at_≤b.length):(cB b s).2.at_≤b.length:=F4 (dI (lu h).1).1
theorem AZ (h:s.e≠0):bk b s=(0,s):=by unfold bk;rw[if_pos h]
theorem wT (h:s.e≠0):bJ b m s=(0,s):=by
 unfold bJ;rw[AZ h,if_neg (fun h'=>h h'.1)]
theorem FH (h:s.e≠0):(cB b s).2=s:=by
 have h1:(eY b 3 s).2=s:=by unfold eY;rw[wT h,if_pos h]
 have h2:bW b 8 s=(0,s):=by unfold bW;rw[wT h,if_neg (fun h'=>h h'.1)]
 unfold cB dF;rw[h1,AZ h,h2];rfl
theorem tY (b:List UInt8):(∀e∈γ b,∀d∈e,mO d=true)∧(γ b).map (·.map oS)=γ b:=by
 constructor
 ·intro e he d hd;obtain⟨q,hq,rfl⟩:=Ψ.1 he;simp only[ξ,η,or_false] at hd;subst hd;rfl
 ·unfold γ;rw[GB];rfl
structure Ng (L:List GV):Prop where
 n:L.length≤8
 t:∀g∈L,g.td=ta g.bn∧g.bn.length≤400
theorem Jq (h:∀g∈L,g.td=ta g.bn):∀e∈L.map gW,∀d∈e,cD d=true:=by
 intro e he d hd;obtain⟨q,hq,rfl⟩:=Ψ.1 he;have:=h q hq;simp only[gW,aV,this,ta,ξ,η,or_false] at hd
 rcases hd with rfl|rfl|rfl|rfl|rfl|rfl|rfl|rfl|rfl|rfl|rfl|rfl<;>rfl
theorem Ng.T8 (h:Ng L):GS (tx L) L:=
 ⟨fg.frozen (Jr L) (Jq fun g hg=>(h.t g hg).1),by have:=h.n;omega,fun g hg=>⟨by rw[(h.t g hg).1];exact Na _,by have:=(h.t g hg).2;omega⟩⟩
theorem E3:Ng []:=⟨by simp,fun g hg=>by cases hg⟩
def rm (q:List UInt8×Int×List GV):D:=.agg [cA q.1,.int .i64 q.2.1,tx q.2.2]
def GH (b:List UInt8) (s:dB) (d:D):Prop:=∃L:List GV,d=rm ((cB b s).1.1,(cB b s).1.2.1,L)∧Ng L∧((cB b s).2.e=0→L=(cB b s).1.2.2)
theorem Jw (hbl:b.length≤1099511627776) (aT:s.at_≤b.length) (hH:Has N S s0 (.box k (.mem 0 false (b_ x s))::.aC x 1 (γ b)::H)):
  ∃d ah,Ev pv 30 [.ptr k 0 0] s0 d ah∧GH b s d∧Has N S ah (.box k (.mem 0 false (b_ x (cB b s).2))::.aC x 1 (γ b)::H):=by
 obtain⟨t1,t2⟩:=lu (m:=3) aT;have n1:=(dI (b:=b) t1).1;have Wy:(ae .rw s0).flr=(ae .rw s0).bs.length:=rfl;refine BY rfl XI rfl rfl rfl ?_;refine zE ?_;have bD:=hH;have hH:=hH.bf;have bA:(ae .rw s0).bs=s0.bs:=rfl;generalize ae .rw s0=S2 at*;refine zQ 2 ?_;refine qa hH fun k2 st hk2 hH=>?_;have hH:=zjvb hH;refine zQ 3 ?_;refine qa hH fun k3 st tt hH=>?_;refine zQ 1 ?_;have hH:Has N S2 st (.box k (.mem 0 false (b_ x s))::.aC x 1 (γ b)::.box k3 (.mem 0 false [.nul,.int .i64 0,.nul])::.box k2 (.mem 0 false [.nul,.int .i64 0,.nul])::H):=τ [_,_] [_,_] hH;refine zQ 3 ?_;obtain⟨_,st,aA,rfl,hH⟩:=Jv hbl aT 3 hH;refine qv aA ?_;refine ab.Dl hH rfl z3 rfl rfl rfl z0 (fun _=>(aa rfl _)) (fun k6 st De hH=>?_);refine zQ 1 ?_;refine jg hH rfl z3 z3 rfl (by exact rfl) di (by exact δ rfl) z0 (fun st hH=>?_);have hH:=zjva hH;refine zQ 1 ?_
 obtain⟨h,hh⟩:∃h,(eY b 3 s).1=h:=⟨_,rfl⟩
 have QQ:cB b s=((h,(bk b (eY b 3 s).2).1,(dF b (bk b (eY b 3 s).2).2).1),(dF b (bk b (eY b 3 s).2).2).2):=by rw[←hh];rfl
 rw[hh] at t2 hH⊢;generalize(eY b 3 s).2=s1 at*;have hH:Has N S2 st (.box k (.mem 0 false (b_ x s1))::.aC x 1 (γ b)::.box k3 (.mem 0 false [.win k6 0 0 h.length 1,.int .i64 0,.nul])::.box k2 (.mem 0 false [.nul,.int .i64 0,.nul])::.aC (.win k6 0 0 h.length 1) 1 (γ h)::H):=τ [_] [_,_,_,_] hH;refine zQ 3 ?_;obtain⟨_,st,aA,rfl,hH⟩:=n5 hbl t1 hH;refine qv aA ?_;refine zQ 2 ?_;refine wt hH rfl z3 z3 rfl (by exact rfl) cU (by exact δ rfl) (.inr rfl) (fun st hH=>?_);have hH:=zjva hH;refine zQ 1 ?_
 obtain⟨pl,ia⟩:∃pl,(bk b s1).1=pl:=⟨_,rfl⟩
 rw[ia] at QQ hH⊢;generalize(bk b s1).2=s2 at*;have hH:Has N S2 st (.box k (.mem 0 false (b_ x s2))::.aC x 1 (γ b)::.box k3 (.mem 0 false [.win k6 0 0 h.length 1,.int .i64 pl,.nul])::.box k2 (.mem 0 false [.nul,.int .i64 0,.nul])::.aC (.win k6 0 0 h.length 1) 1 (γ h)::H):=hH;refine zQ 3 ?_;obtain⟨_,st,aA,⟨L,rfl,l1,l2,l3⟩,hH⟩:=Gj hbl n1 hH;refine qv aA ?_;refine zQ 2 ?_;refine wt hH rfl z3 z3 rfl (by exact rfl) cU (by exact δ rfl) (.inr rfl) (fun st hH=>?_);have hH:=zjva hH;refine zQ 1 ?_;have hH:Has N S2 st (.box k (.mem 0 false (b_ x (dF b s2).2))::.aC x 1 (γ b)::.box k3 (.mem 0 false [.win k6 0 0 h.length 1,.int .i64 pl,tx L])::.box k2 (.mem 0 false [.nul,.int .i64 0,.nul])::.aC (.win k6 0 0 h.length 1) 1 (γ h)::H):=hH;refine zQ 2 ?_;refine ω (m:=3) (r:=[.win k6 0 0 h.length 1,.int .i64 pl,tx L]) hH rfl z3 cU rfl rfl rfl (aa rfl _) ?_;refine jg hH rfl z3 z3 rfl (by exact rfl) di (by exact δ rfl) z0 (fun st hH=>?_);dsimp only[u1,u2,setMany] at hH;refine zQ 1 ?_;have hfz:=hH.n9 (L:=s0.bs.length) (n:=15) ie (fun k hk=>by simp only[IS] at hk;rw[←bA];omega) (tY h).1 (by decide);rw[(tY h).2] at hfz
 have er:ba st s0.bs.length false 16 (.agg [.win k6 0 0 h.length 1,.int .i64 pl,tx L])=some (rm (h,pl,L)):=by
  show(iK (ba st s0.bs.length false 15) [.win k6 0 0 h.length 1,.int .i64 pl,tx L]).map D.agg=_;simp only[iK,hfz];rfl
 refine ag.ret ⟨rx,_,_,_,hH.i_ rfl di rfl,ai er,?_⟩;rw[GH,QQ];exact⟨⟨L,rfl,⟨l1,l2⟩,l3⟩,bD.aq bA (((hH.erase 2).erase 2).erase 2)⟩
theorem Jm (hbl:b.length≤1099511627776) (aT:s.at_≤b.length) (hH:Has N S s0 (.box k (.mem 0 false (b_ x s))::.aC x 1 (γ b)::H)):
  ∃d ah,Ev pv 36 [.ptr k 0 0] s0 d ah∧GH b s d∧Has N S ah (.box k (.mem 0 false (b_ x (cB b s).2))::.aC x 1 (γ b)::H):=by
 obtain⟨t1,t2⟩:=lu (m:=3) aT;have n1:=(dI (b:=b) t1).1;have Wy:(ae .rw s0).flr=(ae .rw s0).bs.length:=rfl;refine BY rfl XD rfl rfl rfl ?_;refine zE ?_;have bD:=hH;have hH:=hH.bf;have bA:(ae .rw s0).bs=s0.bs:=rfl;generalize ae .rw s0=S2 at*;refine zQ 2 ?_;refine qa hH fun k2 st hk2 hH=>?_;have hH:=zjvb hH;refine zQ 3 ?_;refine qa hH fun k3 st tt hH=>?_;refine zQ 1 ?_;have hH:Has N S2 st (.box k (.mem 0 false (b_ x s))::.aC x 1 (γ b)::.box k3 (.mem 0 false [.nul,.int .i64 0,.nul])::.box k2 (.mem 0 false [.nul,.int .i64 0,.nul])::H):=τ [_,_] [_,_] hH;refine zQ 3 ?_;obtain⟨_,st,aA,rfl,hH⟩:=Jl hbl aT 3 hH;refine qv aA ?_;refine ab.Dl hH rfl z3 rfl rfl rfl z0 (fun _=>(aa rfl _)) (fun k6 st De hH=>?_);refine zQ 1 ?_;refine jg hH rfl z3 z3 rfl (by exact rfl) di (by exact δ rfl) z0 (fun st hH=>?_);have hH:=zjva hH;refine zQ 1 ?_
 obtain⟨h,hh⟩:∃h,(eY b 3 s).1=h:=⟨_,rfl⟩
 have QQ:cB b s=((h,(bk b (eY b 3 s).2).1,(dF b (bk b (eY b 3 s).2).2).1),(dF b (bk b (eY b 3 s).2).2).2):=by rw[←hh];rfl
 rw[hh] at t2 hH⊢;generalize(eY b 3 s).2=s1 at*;have hH:Has N S2 st (.box k (.mem 0 false (b_ x s1))::.aC x 1 (γ b)::.box k3 (.mem 0 false [.win k6 0 0 h.length 1,.int .i64 0,.nul])::.box k2 (.mem 0 false [.nul,.int .i64 0,.nul])::.aC (.win k6 0 0 h.length 1) 1 (γ h)::H):=τ [_] [_,_,_,_] hH;refine zQ 3 ?_;obtain⟨_,st,aA,rfl,hH⟩:=nZ hbl t1 hH;refine qv aA ?_;refine zQ 2 ?_;refine wt hH rfl z3 z3 rfl (by exact rfl) cU (by exact δ rfl) (.inr rfl) (fun st hH=>?_);have hH:=zjva hH;refine zQ 1 ?_
 obtain⟨pl,ia⟩:∃pl,(bk b s1).1=pl:=⟨_,rfl⟩
 rw[ia] at QQ hH⊢;generalize(bk b s1).2=s2 at*;have hH:Has N S2 st (.box k (.mem 0 false (b_ x s2))::.aC x 1 (γ b)::.box k3 (.mem 0 false [.win k6 0 0 h.length 1,.int .i64 pl,.nul])::.box k2 (.mem 0 false [.nul,.int .i64 0,.nul])::.aC (.win k6 0 0 h.length 1) 1 (γ h)::H):=hH;refine zQ 3 ?_;obtain⟨_,st,aA,⟨L,rfl,l1,l2,l3⟩,hH⟩:=Gh hbl n1 hH;refine qv aA ?_;refine zQ 2 ?_;refine wt hH rfl z3 z3 rfl (by exact rfl) cU (by exact δ rfl) (.inr rfl) (fun st hH=>?_);have hH:=zjva hH;refine zQ 1 ?_;have hH:Has N S2 st (.box k (.mem 0 false (b_ x (dF b s2).2))::.aC x 1 (γ b)::.box k3 (.mem 0 false [.win k6 0 0 h.length 1,.int .i64 pl,tx L])::.box k2 (.mem 0 false [.nul,.int .i64 0,.nul])::.aC (.win k6 0 0 h.length 1) 1 (γ h)::H):=hH;refine zQ 2 ?_;refine ω (m:=3) (r:=[.win k6 0 0 h.length 1,.int .i64 pl,tx L]) hH rfl z3 cU rfl rfl rfl (aa rfl _) ?_;refine jg hH rfl z3 z3 rfl (by exact rfl) di (by exact δ rfl) z0 (fun st hH=>?_);dsimp only[u1,u2,setMany] at hH;refine zQ 1 ?_;have hfz:=hH.n9 (L:=s0.bs.length) (n:=15) ie (fun k hk=>by simp only[IS] at hk;rw[←bA];omega) (tY h).1 (by decide);rw[(tY h).2] at hfz
 have er:ba st s0.bs.length false 16 (.agg [.win k6 0 0 h.length 1,.int .i64 pl,tx L])=some (rm (h,pl,L)):=by
  show(iK (ba st s0.bs.length false 15) [.win k6 0 0 h.length 1,.int .i64 pl,tx L]).map D.agg=_;simp only[iK,hfz];rfl
 refine ag.ret ⟨rx,_,_,_,hH.i_ rfl di rfl,ai er,?_⟩;rw[GH,QQ];exact⟨⟨L,rfl,⟨l1,l2⟩,l3⟩,bD.aq bA (((hH.erase 2).erase 2).erase 2)⟩
noncomputable def pY (p:Pg) (b:List UInt8):Int×List UInt8×Int×List GV:=
 if(bk b ⟨0,0⟩).2.e≠0 then((bk b ⟨0,0⟩).2.e,[],0,[])
 else if(bk b ⟨0,0⟩).1≠gF p then(11,[],0,[])
 else if(mG b (cB b (bk b ⟨0,0⟩).2).2).e≠0 then((mG b (cB b (bk b ⟨0,0⟩).2).2).e,[],0,[])
 else if dec (dz p (cB b (bk b ⟨0,0⟩).2).1.2.1 (cB b (bk b ⟨0,0⟩).2).1.2.2∧(bH (cB b (bk b ⟨0,0⟩).2).1.1=true∨(cB b (bk b ⟨0,0⟩).2).1.1=[]))=true then(0,(cB b (bk b ⟨0,0⟩).2).1)
 else(4,[],0,[])
def oU (r:Int×List UInt8×Int×List GV):D:=.tup [rm r.2,.int .i64 r.1]
theorem JI (h:s.e≠0):mG b s=s:=by unfold mG;rw[if_neg (fun h'=>h h'.1)]
theorem JJ (h:(mG b s).e=0):s.e=0:=by
 unfold mG at h
 split at h
 ·rename_i h';exact h'.1
 ·exact h
variable{p:Pg}
theorem Dq (dL:∀st,Ev pv 107 [] st (.agg (aE bN)) st) (hp:p.ok) (hR:a7 p) (hx:Qa8 s0 1 x (γ b)) (hl:b.length≤68719476736):
  Ev pv 10 [p.d,x] s0 (oU (pY p b)) s0:=by
 have Q4:=rv hR;have tR:=fun(st:St)=>lb (s0:=st) hp;have PS:=fun(st:St)=>L9 (s0:=st) hp Q4;have NY:=fun(st:St) (h:List UInt8) (pl:Int) (L:List GV) (h3:h.length≤1048576) (hL:Ng L)=>Hq (s0:=st) (p:=p) (place:=pl) dL hp hL.T8 (sx h) h3;rw[bY hR] at tR;have nY:=hp.c;have hsd:=hp.s;have hbl:b.length≤1099511627776:=by omega
 obtain⟨o1,o2,o3,o4,o5⟩:=dI (b:=b) (s:=⟨0,0⟩) (OF _);have so:=Aq o1;have mP:=(lu (m:=3) o1).2;unfold Pg.d at*
 suffices I2:∃d,Ev pv 10 [.agg [p.cd,p.sd],x] s0 d s0∧d=oU (pY p b) by
  obtain⟨d,h1,rfl⟩:=I2;exact h1
 refine Ev.CL rfl X0 rfl rfl rfl ?_;refine zE ?_;obtain⟨aR,hF,hH⟩:=ri s0;generalize ae .ro s0=S at*;have hx:=Arg.of hx aR;refine zQ 2 ?_;refine qb hH fun k2 st hk2 hH=>?_;refine qa hH fun k4 st OJ hH=>?_;refine zQ 5 ?_;refine ω (m:=2) hH rfl z3 (by exact bt) (by dsimp only[μ,ρ,ν,ς,b_,Pg.cs]<;>rfl) rfl rfl (aa rfl _) ?_;refine qv ((tR _)) ?_;refine zQ 2 ?_;refine ag.cond (v:=false) (by dsimp only[Qa2,Pe,nth,Qa0];rfl) (fun h=>by cases h) (fun _=>?_);refine zQ 4 ?_;obtain⟨eC,er⟩:=hH.eQ hF;obtain⟨_,st,aA,kr,xr,rfl,ho⟩:=Jx eC er (hx.rows hH) hl;have hH:=hH.lD ho
 (dsimp only[u3,u4] at hH)
 refine qv aA ?_;refine zQ 5 ?_;obtain⟨_,st,aA,rfl,hH⟩:=n5 hbl (OF _) hH;refine qv aA ?_;refine zQ 2 ?_
 have hv:pY p b=if(bk b ⟨0,0⟩).2.e≠0 then((bk b ⟨0,0⟩).2.e,[],0,[])
  else if(bk b ⟨0,0⟩).1≠gF p then(11,[],0,[])
  else if(mG b (cB b (bk b ⟨0,0⟩).2).2).e≠0 then((mG b (cB b (bk b ⟨0,0⟩).2).2).e,[],0,[])
  else if dec (dz p (cB b (bk b ⟨0,0⟩).2).1.2.1 (cB b (bk b ⟨0,0⟩).2).1.2.2∧(bH (cB b (bk b ⟨0,0⟩).2).1.1=true∨(cB b (bk b ⟨0,0⟩).2).1.1=[]))=true then(0,(cB b (bk b ⟨0,0⟩).2).1)
  else(4,[],0,[]):=rfl
 have KS:=FH (b:=b) (s:=(bk b ⟨0,0⟩).2)
 have Ns:(cB b (bk b ⟨0,0⟩).2).1.1.length≤3:=by
  have:(((cB b (bk b ⟨0,0⟩).2).1.1.length:Nat):Int)≤max 3 0:=mP;omega
 obtain⟨Bl,rV⟩:∃n s1,bk b ⟨0,0⟩=(n,s1):=⟨_,_,rfl⟩
 obtain⟨s1,rV⟩:=rV;rw[rV] at hv so o1 KS Ns;simp only[rV] at hH⊢;dsimp only at hv so o1 KS Ns;have sZ:∀(st:St) {H:List a8},Has s0.bs.length S st (.box kr (.mem 0 false (b_ xr s1))::.aC xr 1 (γ b)::H)→_:=fun st {H} h=>Jw (s:=s1) hbl o1 h;unfold GH at sZ;generalize cB b s1=Q at*;obtain⟨⟨h,pl,L0⟩,s2⟩:=Q;dsimp only at so KS Ns sZ
 by_cases iI:s1.e=0
 ·have bB:(s1.e==0)=true:=by simpa using iI
  rw[if_neg (by simpa using iI)] at hv
  by_cases hh:Bl=gF p
  ·rw[if_neg (by simpa using hh)] at hv;have hc:(Bl !=gF p)=false:=by simpa using hh
   refine zQ 4 ?_;obtain⟨_,st,aA,rfl,hH⟩:=zk hH;refine qv aA ?_;refine zQ 3 ?_;refine ω (m:=2) hH (aj rfl rfl rfl bB) z3 (by exact di) (by dsimp only[μ,ρ,ν,ς,b_,Pg.cs]<;>rfl) rfl rfl (aa rfl _) ?_;refine qv ((PS _)) ?_ (hg:=wi bB);refine zQ 3 ?_;refine qE rfl (by rw[hc]) ?_;refine zQ 4 ?_;obtain⟨_,st,aA,⟨L,rfl,hL,T4⟩,hH⟩:=sZ _ hH;refine qv aA ?_;refine qa hH fun k8 st LQ hH=>?_;dsimp only[u2,u1,u3,u4,setMany,u5,u6,ο,ε,b_,Pg.cs] at hH;refine Γ hH rfl z3 z3 rfl (by exact rfl) aJ (by exact rfl) (.inr rfl) (fun st hH=>?_);have hH:=zjva hH;refine zQ 1 ?_;have hH:Has s0.bs.length S st (.box kr (.mem 0 false (b_ xr s2))::.aC xr 1 (γ b)::.box k8 (.mem 0 false [cA h,.int .i64 pl,tx L])::.box k4 (.mem 0 false [.nul,.int .i64 0,.nul])::.box k2 (.mem 0 false [p.cd,p.sd])::[]):=τ [_] [_,_] hH;refine zQ 4 ?_;obtain⟨_,st,aA,rfl,hH⟩:=E6 hbl hH;refine qv aA ?_;refine zQ 2 ?_;have L6:=JJ (b:=b) (s:=s2);generalize mG b s2=s3 at*;refine zQ 5 ?_
   by_cases he3:s3.e=0
   ·rw[if_neg (by simpa using he3)] at hv;have Wv:=T4 (L6 he3);subst Wv;refine qE rfl (by simp[he3]) ?_;refine zQ 4 ?_;refine ω (m:=2) hH rfl z3 (by exact ie) (by dsimp only[μ,ρ,ν,ς,b_,Pg.cs]<;>rfl) rfl rfl (aa rfl _) ?_;refine ω (m:=3) (r:=[cA h,.int .i64 pl,tx L]) hH rfl z3 cU rfl rfl rfl (aa rfl _) ?_;refine qv ((NY _ h pl L z0 hL)) ?_;refine zQ 2 ?_
    by_cases hW:dz p pl L∧(bH h=true∨h=[])
    ·rw[bY hW,if_pos rfl] at hv;rw[bY hW,hv];refine ag.cond (v:=false) (by dsimp only[Qa2,Pe,nth,Qa0];rfl) (fun h=>by cases h) (fun _=>?_);refine zQ 3 ?_;refine ω (m:=3) (r:=[cA h,.int .i64 pl,tx L]) hH rfl z3 cU rfl rfl rfl (aa rfl _) ?_;refine Γ hH rfl z3 z3 rfl (by exact rfl) di (by exact rfl) (.inr rfl) (fun st hH=>?_);have hH:=zjva hH;refine zQ 2 ?_;refine ag.ret ⟨rx,_,_,hH.dR rfl di rfl rfl,rl aR hH (show _=some (oU (0,h,pl,L)) from rfl),rfl⟩
    ·rw[cL hW,if_neg (by simp)] at hv;rw[cL hW,hv];refine ag.cond (v:=true) (by dsimp only[Qa2,Pe,nth,Qa0];rfl) (fun _=>?_) (fun h=>by cases h);refine zQ 2 ?_;refine IN (d:=.agg [.nul,.int .i64 0,.nul]) (st1:=_) rfl rfl rfl (aa rfl _) ?_;refine Γ hH rfl z3 z3 rfl (by exact rfl) di (by exact rfl) (.inr rfl) (fun st hH=>?_);have hH:=zjva hH;refine zQ 2 ?_;refine ag.ret ⟨rx,_,_,hH.dR rfl di rfl rfl,rl aR hH (show _=some (oU (4,[],0,[])) from rfl),rfl⟩
   ·rw[if_pos he3] at hv;rw[hv];refine qD rfl (by simp[he3]) ?_;refine zQ 2 ?_;refine IN (d:=.agg [.nul,.int .i64 0,.nul]) (st1:=_) rfl rfl rfl (aa rfl _) ?_;refine qm ?_;refine Γ hH rfl z3 z3 rfl (by exact rfl) di (by exact rfl) (.inr rfl) (fun st hH=>?_);have hH:=zjva hH;refine zQ 2 ?_;refine ag.ret ⟨rx,_,_,hH.dR rfl di rfl rfl,rl aR hH (show _=some (oU (s3.e,[],0,[])) from rfl),rfl⟩
  ·rw[if_pos hh] at hv;rw[hv];have hc:(Bl !=gF p)=true:=by simpa using hh
   refine zQ 4 ?_;obtain⟨_,st,aA,rfl,hH⟩:=zk hH;refine qv aA ?_;refine zQ 3 ?_;refine ω (m:=2) hH (aj rfl rfl rfl bB) z3 (by exact di) (by dsimp only[μ,ρ,ν,ς,b_,Pg.cs]<;>rfl) rfl rfl (aa rfl _) ?_;refine qv ((PS _)) ?_ (hg:=wi bB);refine zQ 3 ?_;refine qD rfl (by rw[hc]) ?_;refine zQ 2 ?_;refine IN (d:=.agg [.nul,.int .i64 0,.nul]) (st1:=_) rfl rfl rfl (aa rfl _) ?_;refine Γ hH rfl z3 z3 rfl (by exact rfl) cU (by exact rfl) (.inr rfl) (fun st hH=>?_);have hH:=zjva hH;refine zQ 2 ?_;refine ag.ret ⟨rx,_,_,hH.dR rfl cU rfl rfl,rl aR hH (show _=some (oU (11,[],0,[])) from rfl),rfl⟩
 ·have bB:(s1.e==0)=false:=by simpa using iI
  rw[if_pos iI] at hv;have U1:=KS iI;subst U1;rw[hv];refine zQ 4 ?_;obtain⟨_,st,aA,rfl,hH⟩:=zk hH;refine qv aA ?_;refine zQ 13 ?_;obtain⟨_,st,aA,⟨L,rfl,hL,T4⟩,hH⟩:=sZ _ hH;refine qv aA ?_;refine qa hH fun k8 st LQ hH=>?_;dsimp only[u2,u1,u3,u4,setMany,u5,u6,ο,ε,b_,Pg.cs] at hH;refine Γ hH rfl z3 z3 rfl (by exact rfl) aJ (by exact rfl) (.inr rfl) (fun st hH=>?_);have hH:=zjva hH;refine zQ 1 ?_;have hH:Has s0.bs.length S st (.box kr (.mem 0 false (b_ xr s2))::.aC xr 1 (γ b)::.box k8 (.mem 0 false [cA h,.int .i64 pl,tx L])::.box k4 (.mem 0 false [.nul,.int .i64 0,.nul])::.box k2 (.mem 0 false [p.cd,p.sd])::[]):=τ [_] [_,_] hH;refine zQ 4 ?_;obtain⟨_,st,aA,rfl,hH⟩:=E6 hbl hH;refine qv aA ?_;refine zQ 2 ?_;rw[JI iI] at hH;simp only[JI iI];refine zQ 5 ?_;refine qD rfl (by simp[iI]) ?_;refine zQ 2 ?_;refine IN (d:=.agg [.nul,.int .i64 0,.nul]) (st1:=_) rfl rfl rfl (aa rfl _) ?_;refine qm ?_;refine Γ hH rfl z3 z3 rfl (by exact rfl) di (by exact rfl) (.inr rfl) (fun st hH=>?_);have hH:=zjva hH;refine zQ 2 ?_;refine ag.ret ⟨rx,_,_,hH.dR rfl di rfl rfl,rl aR hH (show _=some (oU (s2.e,[],0,[])) from rfl),rfl⟩
theorem Dp (dL:∀st,Ev pv 95 [] st (.agg (aE bN)) st) (hp:p.ok) (hR:a7 p) (hx:Qa8 s0 1 x (γ b)) (hl:b.length≤68719476736):
  Ev pv 11 [p.d,x] s0 (oU (pY p b)) s0:=by
 have Q4:=rv hR;have tR:=fun(st:St)=>po (s0:=st) hp;have PS:=fun(st:St)=>AJ (s0:=st) hp Q4;have NY:=fun(st:St) (h:List UInt8) (pl:Int) (L:List GV) (h3:h.length≤1048576) (hL:Ng L)=>pr (s0:=st) (p:=p) (place:=pl) dL hp hL.T8 (sx h) h3;rw[bY hR] at tR;have nY:=hp.c;have hsd:=hp.s;have hbl:b.length≤1099511627776:=by omega
 obtain⟨o1,o2,o3,o4,o5⟩:=dI (b:=b) (s:=⟨0,0⟩) (OF _);have so:=Aq o1;have mP:=(lu (m:=3) o1).2;unfold Pg.d at*
 suffices I2:∃d,Ev pv 11 [.agg [p.cd,p.sd],x] s0 d s0∧d=oU (pY p b) by
  obtain⟨d,h1,rfl⟩:=I2;exact h1
 refine Ev.CL rfl XZ rfl rfl rfl ?_;refine zE ?_;obtain⟨aR,hF,hH⟩:=ri s0;generalize ae .ro s0=S at*;have hx:=Arg.of hx aR;refine qq<|qj fun K hK=>qb hH fun k2 st hk2 hH=>?_;refine qa hH fun k4 st OJ hH=>?_;refine qm ?_;refine qe hK<|qq<|qq<|qj fun K hK=>?_;refine ω (m:=2) hH rfl z3 (by exact bt) (by dsimp only[μ,ρ,ν,ς,b_,Pg.cs]<;>rfl) rfl rfl (aa rfl _) ?_;refine qv ((tR _)) ?_;refine qg ?_;refine qe hK<|ag.cond (v:=false) (by dsimp only[Qa2,Pe,nth,Qa0];rfl) (fun h=>by cases h) (fun _=>?_);refine ag.skip<|qq<|qj fun K hK=>qm ?_;obtain⟨eC,er⟩:=hH.eQ hF;obtain⟨_,st,aA,kr,xr,rfl,ho⟩:=Jn eC er (hx.rows hH) hl;have hH:=hH.lD ho
 (dsimp only[u3,u4] at hH)
 refine qv aA ?_;refine qm ?_;refine qe hK<|qq<|qj fun K hK=>qm ?_;obtain⟨_,st,aA,rfl,hH⟩:=nZ hbl (OF _) hH;refine qv aA ?_;refine qm ?_;refine qe hK ?_
 have hv:pY p b=if(bk b ⟨0,0⟩).2.e≠0 then((bk b ⟨0,0⟩).2.e,[],0,[])
  else if(bk b ⟨0,0⟩).1≠gF p then(11,[],0,[])
  else if(mG b (cB b (bk b ⟨0,0⟩).2).2).e≠0 then((mG b (cB b (bk b ⟨0,0⟩).2).2).e,[],0,[])
  else if dec (dz p (cB b (bk b ⟨0,0⟩).2).1.2.1 (cB b (bk b ⟨0,0⟩).2).1.2.2∧(bH (cB b (bk b ⟨0,0⟩).2).1.1=true∨(cB b (bk b ⟨0,0⟩).2).1.1=[]))=true then(0,(cB b (bk b ⟨0,0⟩).2).1)
  else(4,[],0,[]):=rfl
 have Ns:(cB b (bk b ⟨0,0⟩).2).1.1.length≤3:=by
  have:(((cB b (bk b ⟨0,0⟩).2).1.1.length:Nat):Int)≤max 3 0:=mP;omega
 obtain⟨Bl,rV⟩:∃n s1,bk b ⟨0,0⟩=(n,s1):=⟨_,_,rfl⟩
 obtain⟨s1,rV⟩:=rV;rw[rV] at hv so o1 Ns;simp only[rV] at hH⊢;dsimp only at hv so o1 Ns;have sZ:∀(st:St) {H:List a8},Has s0.bs.length S st (.box kr (.mem 0 false (b_ xr s1))::.aC xr 1 (γ b)::H)→_:=fun st {H} h=>Jm (s:=s1) hbl o1 h;unfold GH at sZ;generalize cB b s1=Q at*;obtain⟨⟨h,pl,L0⟩,s2⟩:=Q;dsimp only at so Ns sZ;refine qq<|qq<|qj fun K hK=>qm ?_;refine qg ?_;refine qp (o:=2) ?_;refine ql hH aJ ?_;refine qg ?_;refine qe hK ?_
 by_cases iI:s1.e=0
 ·rw[if_neg (by simpa using iI)] at hv;refine qE rfl (by simp[iI]) ?_;refine ag.skip<|qq<|qq<|qj fun K hK=>qm ?_;refine ω (m:=2) hH rfl z3 (by exact di) (by dsimp only[μ,ρ,ν,ς,b_,Pg.cs]<;>rfl) rfl rfl (aa rfl _) ?_;refine qv ((PS _)) ?_;refine qg ?_;refine qe hK ?_
  by_cases hh:Bl=gF p
  ·rw[if_neg (by simpa using hh)] at hv;have hc:(Bl !=gF p)=false:=by simpa using hh
   refine qE rfl (by rw[hc]) ?_;refine ag.skip<|qq<|qj fun K hK=>qm ?_;obtain⟨_,st,aA,⟨L,rfl,hL,T4⟩,hH⟩:=sZ _ hH;refine qv aA ?_;refine qa hH fun k8 st LQ hH=>?_;dsimp only[u2,u1,u3,u4,setMany,u5,u6,ο,ε,b_,Pg.cs] at hH;refine Γ hH rfl z3 z3 rfl (by exact rfl) aJ (by exact rfl) (.inr rfl) (fun st hH=>?_);have hH:=zjva hH;refine qe hK ?_;have hH:Has s0.bs.length S st (.box kr (.mem 0 false (b_ xr s2))::.aC xr 1 (γ b)::.box k8 (.mem 0 false [cA h,.int .i64 pl,tx L])::.box k4 (.mem 0 false [.nul,.int .i64 0,.nul])::.box k2 (.mem 0 false [p.cd,p.sd])::[]):=τ [_] [_,_] hH;refine qq<|qq<|qj fun K hK=>qm ?_;obtain⟨_,st,aA,rfl,hH⟩:=Md hbl hH;refine qv aA ?_;refine qm ?_;refine qe hK ?_;have L6:=JJ (b:=b) (s:=s2);generalize mG b s2=s3 at*;refine qq<|qj fun K hK=>qm ?_;refine qg ?_;refine qe hK ?_
   by_cases he3:s3.e=0
   ·rw[if_neg (by simpa using he3)] at hv;have Wv:=T4 (L6 he3);subst Wv;refine qE rfl (by simp[he3]) ?_;refine ag.skip<|qq<|qq<|qj fun K hK=>?_;refine ω (m:=2) hH rfl z3 (by exact ie) (by dsimp only[μ,ρ,ν,ς,b_,Pg.cs]<;>rfl) rfl rfl (aa rfl _) ?_;refine ω (m:=3) (r:=[cA h,.int .i64 pl,tx L]) hH rfl z3 cU rfl rfl rfl (aa rfl _) ?_;refine qv ((NY _ h pl L z0 hL)) ?_;refine qg ?_;refine qe hK ?_
    by_cases hW:dz p pl L∧(bH h=true∨h=[])
    ·rw[bY hW,if_pos rfl] at hv;rw[bY hW,hv];refine ag.cond (v:=false) (by dsimp only[Qa2,Pe,nth,Qa0];rfl) (fun h=>by cases h) (fun _=>?_);refine ag.skip<|qq<|qj fun K hK=>ω (m:=3) (r:=[cA h,.int .i64 pl,tx L]) hH rfl z3 cU rfl rfl rfl (aa rfl _) ?_;refine Γ hH rfl z3 z3 rfl (by exact rfl) di (by exact rfl) (.inr rfl) (fun st hH=>?_);have hH:=zjva hH;refine qm ?_;refine qe hK<|ag.ret ⟨rx,_,_,hH.dR rfl di rfl rfl,rl aR hH (show _=some (oU (0,h,pl,L)) from rfl),rfl⟩
    ·rw[cL hW,if_neg (by simp)] at hv;rw[cL hW,hv];refine ag.cond (v:=true) (by dsimp only[Qa2,Pe,nth,Qa0];rfl) (fun _=>?_) (fun h=>by cases h);refine qq<|qj fun K hK=>IN (d:=.agg [.nul,.int .i64 0,.nul]) (st1:=_) rfl rfl rfl (aa rfl _) ?_;refine Γ hH rfl z3 z3 rfl (by exact rfl) di (by exact rfl) (.inr rfl) (fun st hH=>?_);have hH:=zjva hH;refine qm ?_;refine qe hK<|ag.ret ⟨rx,_,_,hH.dR rfl di rfl rfl,rl aR hH (show _=some (oU (4,[],0,[])) from rfl),rfl⟩
   ·rw[if_pos he3] at hv;rw[hv];refine qD rfl (by simp[he3]) ?_;refine qq<|qj fun K hK=>IN (d:=.agg [.nul,.int .i64 0,.nul]) (st1:=_) rfl rfl rfl (aa rfl _) ?_;refine qm ?_;refine Γ hH rfl z3 z3 rfl (by exact rfl) di (by exact rfl) (.inr rfl) (fun st hH=>?_);have hH:=zjva hH;refine qm ?_;refine qe hK<|ag.ret ⟨rx,_,_,hH.dR rfl di rfl rfl,rl aR hH (show _=some (oU (s3.e,[],0,[])) from rfl),rfl⟩
  ·rw[if_pos hh] at hv;rw[hv];have hc:(Bl !=gF p)=true:=by simpa using hh
   refine qD rfl (by rw[hc]) ?_;refine qq<|qj fun K hK=>IN (d:=.agg [.nul,.int .i64 0,.nul]) (st1:=_) rfl rfl rfl (aa rfl _) ?_;refine Γ hH rfl z3 z3 rfl (by exact rfl) cU (by exact rfl) (.inr rfl) (fun st hH=>?_);have hH:=zjva hH;refine qm ?_;refine qe hK<|ag.ret ⟨rx,_,_,hH.dR rfl cU rfl rfl,rl aR hH (show _=some (oU (11,[],0,[])) from rfl),rfl⟩
 ·rw[if_pos iI] at hv;rw[hv];refine qD rfl (by simp[iI]) ?_;have hB:=hH
  have YX:refs (b_ xr s1)≤st.bs.length:=by
   have h1:∀k,xr.ref=k+1→k+1≤st.bs.length:=fun k hk=>hH.vd (j:=1) bt hk;have h2:refs (b_ xr s1)=xr.ref:=by simp only[b_,refs,IS,Nat.max_zero,Nat.max_self]
   rw[h2]
   rcases υ xr.ref with h|h
   ·omega
   ·have:=h1 (xr.ref-1) z0;omega
  unfold b_ at YX;change ag _ _ _ _ _ _;refine qq ?_;generalize hK:bS _ _ _ _=K;refine ag.yx rfl ?_;refine dg.cons ?_;refine IN (d:=.agg [.nul,.int .i64 0,.nul]) (st1:=_) rfl rfl rfl (aa rfl _) ?_;refine χ ⟨rfl,?_⟩;refine dg.cons ?_;refine qm ?_;refine χ ⟨rfl,?_⟩;refine dg.cons ?_;refine qg ?_;refine χ ⟨rfl,?_⟩;refine dg.cons ?_;refine qp (o:=2) ?_;refine χ ⟨rfl,?_⟩;refine dg.cons ?_;refine ql hH aJ ?_;refine χ ⟨rfl,?_⟩;refine dg.cons ?_;refine Γ hH rfl z3 z3 rfl (by exact rfl) cU (by exact rfl) (.inr rfl) (fun st hH=>?_);have hH:=zjva hH;refine χ ⟨by exact Bool.and_eq_true_iff.2 ⟨jT rfl rfl rfl (hB.at aJ) (hH.at aJ) (hB.at aJ) YX,rfl⟩,?_⟩;refine dg.cons ?_;refine qm ?_;refine χ ⟨rfl,?_⟩;refine dg.nil ?_;subst hK;refine ag.ret ⟨rx,_,_,hH.dR rfl cU rfl rfl,rl aR hH (show _=some (oU (s1.e,[],0,[])) from rfl),rfl⟩
def nI (code:List aL) (R:List Bool):Prop:=∀(u:Nat) i,R[u]?=some true→code[u]?=some i→∀w∈bR u i,R[w.toNat]?=some true
structure DW (code:List aL) (R:List Bool) (pl:Int) (w:Wk):Prop where
 b:w.dn=true∨oy w.aY
 p:bL w.aY pl
 r:∀t∈w.rdy,R[t.pc]?=some true∧(∃i,code[t.pc]?=some i∧i.op=1)∧bL t.c pl
variable{pl:Int}
theorem DW.seen {code:List aL} {R:List Bool} {w:Wk} (h:DW code R pl w) (s:List Bool):DW code R pl ⟨s,w.dn,w.aY,w.rdy⟩:=⟨h.b,h.p,h.r⟩
theorem CF {x:Nat} {pl:Nat} (h:bL f (pl:Int)):bL (wB f x (pl:Nat)) (pl:Int):=by
 intro i hi;unfold wB
 split
 ·omega
 ·exact h i hi
theorem mU (h:0≤pl):bL bN pl:=fun i _=>⟨by show(-1:Int)≤-1;omega,by show(-1:Int)≤pl;omega⟩
variable{wu:Int}
theorem xb (h:bL f pl) (hp:pl≤wu):bL f wu:=fun i hi=>⟨(h i hi).1,by have:=(h i hi).2;omega⟩
theorem z8 {code:List aL} {R:List Bool} (hc:nI code R) (pl:Nat) (e:Bool):∀(f:Nat) (w:Wk) (t:gH),DW code R (pl:Int) w→R[t.pc]?=some true→bL t.c (pl:Int)→DW code R (pl:Int) (dh code pl e f w t).1
 |0,w,t,h,_,_=>h
 |f+1,w,t,h,hr,hp=>by
  have ih:=z8 hc pl e f;unfold dh
  split
  ·exact h
  ·split
   ·exact h
   ·rename_i i hi;have PV:=hc t.pc i hr hi;have hs:=h.seen (w.seen.set t.pc true)
    have hn:¬i.op=2→¬i.op=3→¬i.op=7→R[t.pc+1]?=some true:=fun h1 h2 h3=>by
     have:=PV ((t.pc+1:Nat):Int) (by unfold bR;rw[if_neg h1,if_neg h2,if_neg h3];simp)
     simpa using this
    split
    ·exact⟨.inl rfl,hp,h.r⟩
    ·rename_i h7
     split
     ·rename_i h2;have hx:=PV i.x (by unfold bR;rw[if_pos h2];simp);have hy:=PV i.y (by unfold bR;rw[if_pos h2];simp)
      split
      ·exact ih _ _ hs hx hp
      ·exact ih _ _ (ih _ _ hs hx hp) hy hp
     ·rename_i h2
      split
      ·rename_i h1;refine⟨h.b,h.p,fun t' ht=>?_⟩
       rcases IT.1 ht with ht|ht
       ·exact h.r t' ht
       ·simp only[ξ,η,or_false] at ht;subst ht;exact⟨hr,⟨i,hi,h1⟩,hp⟩
      ·split
       ·rename_i h3;exact ih _ _ hs (PV i.x (by unfold bR;rw[if_neg h2,if_pos h3];simp)) hp
       ·rename_i h3;have pM:=hn h2 h3 h7
        split
        ·exact ih _ _ hs pM (CF hp)
        ·split
         ·split
          ·exact ih _ _ hs pM hp
          ·exact hs
         ·split
          ·exact ih _ _ hs pM hp
          ·exact hs
theorem JC {code:List aL} {R:List Bool} (hc:nI code R) (pl:Nat) (e:Bool):∀(l:List gH) (w:Wk),DW code R (pl:Int) w→(∀t∈l,R[t.pc]?=some true∧bL t.c (pl:Int))→DW code R (pl:Int) (tU code pl e l w)
 |[],w,h,_=>h
 |t::ts,w,h,ht=>by
  have h1:=z8 hc pl e (code.length+1) w t h (ht t (v8 ..)).1 (ht t (v8 ..)).2;unfold tU
  split
  ·exact h1
  ·exact JC hc pl e ts _ h1 fun t' h'=>ht t' (AN _ h')
structure yf (p:Pg) (s:Int) (pl:Int) (l:PL):Prop where
 b:l.dn=true∨oy l.aY
 c:bL l.aY pl
 t:∀t∈l.bn,kL p s p.code.length (t.pc:Int)∧bL t.c pl
 d:(l.bn.map gH.pc).Nodup
theorem qo (hR:a7 p) {s:Int} (hs:0≤s∧s<(p.code.length:Int)):nI p.code (br p.code s):=by
 intro u i hu hi w hw
 rcases(pq hR.closed hs).a u i hu hi w hw with h|h
 ·exact h.2
 ·cases h
theorem Dr (hR:a7 p) {s:Int} (hs:0≤s∧s<(p.code.length:Int)) (h:kL p s p.code.length (k:Int)):(br p.code s)[k]?=some true:=by
 rcases h with rfl|⟨i,q,_,h2,h3,h4,h5⟩
 ·rcases(pq hR.closed hs).d with h|h
  ·simpa using h.2
  ·cases h
 ·have hk:k=i+1:=by omega
  subst hk;have:=qo hR hs i q h3 h4 ((i+1:Nat):Int) (by unfold bR;rw[if_neg z0,if_neg z0,if_neg z0];simp)
  simpa using this
variable{l:List gH}
theorem yc {s:Int} {x:gH} (h:∀t∈l,kL p s p.code.length (t.pc:Int)∧bL t.c pl) (hx:kL p s p.code.length (x.pc:Int)∧bL x.c pl):∀t∈sC l x,kL p s p.code.length (t.pc:Int)∧bL t.c pl:=by
 intro t ht
 rcases we ht with ht|ht
 ·exact h t ht
 ·subst ht;exact hx
theorem wc {x:gH} (h:(l.map gH.pc).Nodup):((sC l x).map gH.pc).Nodup:=by
 unfold sC
 split
 ·exact h
 ·rename_i hn;rw[ψ,List.nodup_append];refine⟨h,by simp,fun a ha b hb=>?_⟩;simp only[Qa3,Qa5,ξ,η,or_false] at hb;subst hb;rintro rfl;obtain⟨y,hy,he⟩:=Ψ.1 ha;exact hn (List.any_eq_true.2 ⟨y,hy,by simpa using he⟩)
theorem oI {p:Pg} {s pl r:Int}:∀(l a:List gH),(∀t∈l,(br p.code s)[t.pc]?=some true∧(∃i,p.code[t.pc]?=some i∧i.op=1)∧bL t.c pl)→(∀t∈a,kL p s p.code.length (t.pc:Int)∧bL t.c pl)→(a.map gH.pc).Nodup→
  (∀t∈ir p.code r l a,kL p s p.code.length (t.pc:Int)∧bL t.c pl)∧((ir p.code r l a).map gH.pc).Nodup
 |[],a,_,h2,h3=>⟨h2,h3⟩
 |t::ts,a,h1,h2,h3=>by
  unfold ir;obtain⟨g1,⟨i,g2,g3⟩,g4⟩:=h1 t (v8 ..);have TO:=fun t' h'=>h1 t' (AN _ h')
  split
  ·refine oI ts _ TO (yc h2 ⟨.inr ⟨t.pc,i,bc g2,rfl,g1,g2,g3⟩,g4⟩) (wc h3)
  ·exact oI ts _ TO h2 h3
variable{r:Int}
theorem Cj (hR:a7 p) {s:Nat} (hs:s<p.code.length) {pl:Nat} {l:PL} (h:yf p (s:Int) (pl:Int) l):yf p (s:Int) (pl:Int) (hD p.code pl s r l):=by
 have LA:0≤(s:Int)∧(s:Int)<(p.code.length:Int):=⟨by omega,by omega⟩
 have hw:=JC (qo hR LA) pl false l.bn (tk p.code.length l.dn l.aY) ⟨h.b,h.c,fun t ht=>by cases ht⟩ fun t ht=>⟨Dr hR LA (h.t t ht).1,(h.t t ht).2⟩
 obtain⟨n1,n2⟩:=oI (r:=r) (tU p.code pl false l.bn (tk p.code.length l.dn l.aY)).rdy [] hw.r (fun t ht=>by cases ht) (by simp);unfold hD;refine⟨hw.b,hw.p,?_,?_⟩
 ·dsimp only
  split
  ·exact n1
  ·exact yc n1 ⟨.inl rfl,mU z0⟩
 ·dsimp only
  split
  ·exact n2
  ·exact wc n2
theorem yf.up {s:Int} {l:PL} (h:yf p s pl l) (hp:pl≤wu):yf p s wu l:=⟨h.b,xb h.c hp,fun t ht=>⟨(h.t t ht).1,xb (h.t t ht).2 hp⟩,h.d⟩
def qK (p:Pg) (pl:Nat) (ls:List PL):Prop:=ls.length=p.ak.length∧∀(i:Nat) l s,ls[i]?=some l→p.ak[i]?=some s→yf p s (pl:Int) l
theorem uf (hR:a7 p) {i:Nat} {s:Int} (h:p.ak[i]?=some s):∃k:Nat,s=(k:Int)∧k<p.code.length∧(aM p)[i]?=some k:=by
 obtain⟨h1,h2⟩:=hR.st s (AT h);obtain⟨k,rfl⟩:=Int.eq_ofNat_of_zero_le h1;exact⟨k,rfl,by omega,by unfold aM;rw[θ,h];rfl⟩
theorem t_ (hR:a7 p):qK p 0 ((aM p).map je):=by
 refine⟨by unfold aM;simp,fun i l s hl hs=>?_⟩;obtain⟨k,rfl,hk,eI⟩:=uf hR hs;rw[θ,eI] at hl;cases hl;refine⟨.inr fun i _=>rfl,mU z0,fun t ht=>?_,by simp[je]⟩;simp only[je,ξ,η,or_false] at ht;subst ht;exact⟨.inl rfl,mU z0⟩
theorem z6 (hR:a7 p) {pl:Nat} {n:Int} {ls:List PL} (h:qK p pl ls):qK p (pl+k_ n) (ig p.code pl r (aM p) ls):=by
 have hl:(aM p).length=ls.length:=by unfold aM;rw[ι,h.1]
 refine⟨by rw[jU _ _ _ _ _ hl];exact h.1,fun i l s hi hs=>?_⟩;obtain⟨k,rfl,hk,eI⟩:=uf hR hs;have hil:i<ls.length:=by have:=bc hs;have:=h.1;omega
 obtain⟨l0,Cc⟩:∃l,ls[i]?=some l:=⟨ls[i]'hil,List.getElem?_eq_getElem _⟩
 rw[oE p.code pl r (aM p) ls i k l0 eI Cc] at hi;cases hi;exact(Cj hR hk (h.2 i l0 _ Cc hs)).up z0
def gH.g (t:gH):GT:=⟨(t.pc:Int),t.c⟩
def VL.g (l:VL):GV:=⟨l.dn,l.aY,l.td,l.bn.map gH.g⟩
theorem Mg (l:List gH):(l.map gH.g).map fI=l.map bM:=by rw[GB];rfl
theorem zZ (hR:a7 p) {pl:Nat} {V:List VL} (h:qK p pl (V.map VL.pl)) (ia:pl≤1099511627776):dz p (pl:Int) (V.map VL.g):=by
 have hlen:=h.1;rw[ι] at hlen;refine⟨hR,by omega,by omega,by rw[ι,hlen],fun r l s hr hl hs=>?_⟩;rw[θ] at hl;obtain⟨v,hv,rfl⟩:=Φ.1 hl;have hw:=h.2 r v.pl s (by rw[θ,hv];rfl) hs;refine⟨hw.b,hw.c,fun j t hj ht=>?_⟩;change(v.bn.map gH.g)[j]?=some t at ht;rw[θ] at ht;obtain⟨u,hu,rfl⟩:=Φ.1 ht;have jH:=hw.t u (AT hu);refine⟨⟨jH.1,fun j' t' Df Iu he=>?_⟩,jH.2⟩;change(v.bn.map gH.g)[j']?=some t' at Iu;rw[θ] at Iu;obtain⟨u',QM,rfl⟩:=Φ.1 Iu;have hd:(v.bn.map gH.pc).Nodup:=hw.d;have hpp:=List.pairwise_iff_getElem.1 hd j' j (by rw[ι];exact bc QM) (by rw[ι];exact bc hu) Df;have e1:(v.bn.map gH.pc)[j']?=some u'.pc:=by rw[θ,QM];rfl
 have e2:(v.bn.map gH.pc)[j]?=some u.pc:=by rw[θ,hu];rfl
 rw[List.getElem?_eq_some_iff] at e1 e2;obtain⟨_,e1⟩:=e1;obtain⟨_,e2⟩:=e2;rw[e1,e2] at hpp;have tv:((u'.pc:Nat):Int)=((u.pc:Nat):Int):=he;exact hpp z0
end Go.Proofs.YtkbacjpologjbaaGreat
