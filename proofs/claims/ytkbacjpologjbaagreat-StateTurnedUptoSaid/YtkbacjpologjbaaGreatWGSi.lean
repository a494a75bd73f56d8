/-
 What a machine has, lists that are copied: in memory of one's own (keep).
-/
import Derived.Test.YtkbacjpologjbaaGreatWGHr
import Derived.Test.YtkbacjpologjbaaGreatWGUp
import Derived.Test.YtkbacjpologjbaaGreatWGOd
import Derived.Test.YtkbacjpologjbaaGreatWM2
import Derived.DataReads
import Derived.ChangeOld
import GoSem.ClaimChange
import Derived.Below
import Derived.Test.YtkbacjpologjbaaGreatRows
import Derived.Test.YtkbacjpologjbaaGreatWGQe
import Derived.Test.YtkbacjpologjbaaGreatWGJp
import Derived.Test.YtkbacjpologjbaaGreatWGNg
set_option maxRecDepth 100000
set_option maxHeartbeats 4000000
set_option linter.unusedSimpArgs false
set_option linter.unusedVariables false
set_option linter.unusedSectionVars false
set_option linter.unnecessarySimpa false
open Go.DataW renaming trod→δ,Trod→wt
open Option renaming map_eq_some_iff→ε,bind_eq_some_iff→θ,map→AT
open List renaming length_map→ζ,getElem?_eq_getElem→η,drop_zero→ι,mem_cons_self→κ,map_cons→ν,mem_cons→ξ,getElem?_eq_none→π,mem_cons_of_mem→ρ,mem_of_getElem?→ς,drop_succ_cons→τ,take_succ_cons→υ,foldl→φ,getElem?_map→ψ,map_map→ω,mem_map→Γ,mapM_cons→Ξ,take_zero→Φ,getElem?_of_mem→Ω,length_cons→IS,take_length→IT,headD_cons→OF,mem_append→Pd,drop_drop→Pe,take_add→AN,length→AI,range'→Qa0
open Go.World renaming cells?_some→μ
open Go.V renaming byteCells→ο,Rows→Δ
open Go.V.Arg renaming of→χ
open Bool renaming and_eq_true→Θ
open Nat renaming lt_or_ge→Ψ,le_refl→v8,add_mul→Qa1
open Int renaming toNat_of_nonneg→GB,lt_tmod_of_pos→BY,tmod_lt_of_pos→IN
namespace Go.Proofs.YtkbacjpologjbaaGreat
open Go.V Go
def rN (fr:Go.V.Fr) (k:Nat):Go.V.D:=Go.V.nth .bo fr.loc k
variable{S st:St}{p:Pg}{pl:Nat}{H:List a8}
theorem MH.over {A H2:List a8} {N:Nat} {ah:St} {ks kv:Nat} {ld:D} {L:List VL} (hM:MH A N S st ks kv p pl ld L H) (h2:Has st.bs.length st ah H2):MH (H2++A) N S ah ks kv p pl ld L H:=by
 obtain⟨pd,qd,P,Q,sn,hH,h3,h4⟩:=A8 hM;exact Ey (by simpa only[List.append_assoc] using Has.over hH h2) h3 h4
def kg (st:St) (es:List (List D)) (L:List GV):Prop:=es.length=L.length∧∀(i:Nat) l,L[i]?=some l→∃d,Δ st 11 d (l.bn.map fI)∧es[i]?=some (aV l.dn l.aY d)
variable{L L':List GV}
theorem KH (h:L'.map GV.told=L.map GV.told):L'.length=L.length∧∀(i:Nat) l,L[i]?=some l→∃l',L'[i]?=some l'∧l'.dn=l.dn∧l'.aY=l.aY∧l'.bn=l.bn:=by
 refine⟨by have:=congrArg AI h;simpa using this,fun i l hl=>?_⟩;have h1:(L'.map GV.told)[i]?=some l.told:=by rw[h,ψ,hl];rfl
 rw[ψ] at h1;obtain⟨l',h2,h3⟩:=ε.1 h1;refine⟨l',h2,?_⟩;simp only[GV.told,GV.mk.injEq] at h3;exact⟨h3.1,h3.2.1,h3.2.2.2⟩
variable{x:D}
theorem GI.Qv (hx:GI st x L') (h:L'.map GV.told=L.map GV.told):kg st (L'.map gW) L:=by
 obtain⟨h1,h2⟩:=KH h;refine⟨by rw[ζ];exact h1,fun i l hl=>?_⟩;obtain⟨l',h3,h4,h5,h6⟩:=h2 i l hl;refine⟨l'.td,by rw[←h6];exact(hx.2.2 l' (ς h3)).1,?_⟩;rw[zi h3,←h4,←h5];rfl
variable{s0:St}{es:List (List D)}
theorem kg.ex (h:kg s0 es L) (hS:S.bs=s0.bs) (hH:Has s0.bs.length S st H):kg st es L:=⟨h.1,fun i l hl=>by
 obtain⟨d,h1,h2⟩:=h.2 i l hl
 exact⟨d,(χ h1 hS).rows hH,h2⟩⟩
theorem NO (t:GT):fp pv .neq 163 (.agg (fI t)) (.agg (fI t))=some (.bool false):=by
 have h:∀a b c d e g i j k l m:Int,fp pv .neq 163 (.agg [.int .i64 a,.int .i64 b,.int .i64 c,.int .i64 d,.int .i64 e,.int .i64 g,.int .i64 i,.int .i64 j,.int .i64 k,.int .i64 l,.int .i64 m]) (.agg [.int .i64 a,.int .i64 b,.int .i64 c,.int .i64 d,.int .i64 e,.int .i64 g,.int .i64 i,.int .i64 j,.int .i64 k,.int .i64 l,.int .i64 m])=AT (fun b=>D.bool !b) (match some (a==a) with|some true=>(match(match some (b==b) with|some true=>(match some (c==c) with|some true=>(match some (d==d) with|some true=>(match some (e==e) with|some true=>(match some (g==g) with|some true=>(match some (i==i) with|some true=>(match some (j==j) with|some true=>(match some (k==k) with|some true=>(match some (l==l) with|some true=>(match some (m==m) with|some true=>some true|some false=>some false|none=>none)|some false=>some false|none=>none)|some false=>some false|none=>none)|some false=>some false|none=>none)|some false=>some false|none=>none)|some false=>some false|none=>none)|some false=>some false|none=>none)|some false=>some false|none=>none)|some false=>some false|none=>none)|some false=>some false|none=>none) with|some true=>some true|some false=>some false|none=>none)|some false=>some false|none=>none):=fun _ _ _ _ _ _ _ _ _ _ _=>rfl;unfold fI;rw[h];simp only[beq_self_eq_true,Option.map_some,Bool.not_true]
variable{y:D}
theorem FJ {l:List GT} (hx:Δ s0 11 x (l.map fI)) (hy:Δ s0 11 y (l.map fI)) (hl:l.length≤1073741824):Ev pv 116 [x,y] s0 (.bool true) s0:=by
 refine Ev.iu rfl S3 rfl rfl rfl ?_;refine zE ?_;obtain⟨aR,hF,hH⟩:=ri s0;generalize ae .ro s0=S at*;have hx:=χ hx aR;have hy:=χ hy aR;refine zQ 8 ?_;refine qn ?_;simp only[ζ];refine qm ?_;refine qn ?_;simp only[ζ];refine zQ 2 ?_;refine qE rfl (by simp) ?_;refine zQ 7 ?_;refine ag.loop (fun mm fr st=>∃(i:Nat),fr.clean=⟨6,[x,y,rN fr 2,rN fr 3,.bool false,.int .i64 (i:Nat)],[]⟩∧Has s0.bs.length S st []∧(i+mm=l.length)) (l.length) ?_ ?_
 ·exact⟨0,rfl,hH,by omega⟩
 rintro mm fr st ⟨i,hfr,hH,hi⟩;rw[hfr];clear hfr;generalize rN fr=ee;clear fr;refine zQ 5 ?_;refine qn ?_;simp only[ζ];refine zQ 2 ?_;refine zP (fun h1=>?_) fun h1=>?_
 ·refine zQ 1 ?_
  obtain⟨p,hp⟩:∃p,l[i]?=some p:=⟨l[i]' z0,η _⟩
  have fU:=zj hp;refine zQ 6 ?_;refine qr fun YJ Rj=>?_;refine ab.cM rfl z3 z5 rfl (aa rfl _) ?_;refine zQ 2 ?_;refine qr fun TG LH=>?_;refine ab.cM rfl z3 z5 rfl (aa rfl _) ?_;refine ab.PE rfl z3 z3 (NO p) (aa rfl _) ?_;refine zQ 8 ?_;exact⟨mm-1,by omega,⟨i+1,rfl,hH,by omega⟩⟩
 ·refine zQ 5 ?_;refine ag.ret ⟨rx,_,rfl,rl aR hH (rfl)⟩
variable{fs:List (List D)}
theorem F5 (hx:Δ s0 12 x es) (hy:Δ s0 12 y fs) (wJ:kg s0 es L) (RL:kg s0 fs L) (hl:L.length≤1073741824) (MW:∀l∈L,l.bn.length≤1000):Ev pv 78 [x,y] s0 (.bool true) s0:=by
 obtain⟨tQ,heg⟩:=wJ;obtain⟨mi,hfg⟩:=RL;refine Ev.iu rfl WY rfl rfl rfl ?_;refine zE ?_;obtain⟨aR,hF,hH⟩:=ri s0;generalize ae .ro s0=S at*;have hx:=χ hx aR;have hy:=χ hy aR;refine zQ 8 ?_;refine qn ?_;refine qm ?_;refine qn ?_;refine zQ 2 ?_;refine qE rfl (by rw[tQ,mi];simp) ?_;refine zQ 7 ?_;refine ag.loop (fun mm fr st=>∃(i:Nat),fr.clean=⟨6,[x,y,rN fr 2,rN fr 3,.bool false,.int .i64 (i:Nat)],[]⟩∧Has s0.bs.length S st []∧(i+mm=es.length)) (es.length) ?_ ?_
 ·exact⟨0,rfl,hH,by omega⟩
 rintro mm fr st ⟨i,hfr,hH,hi⟩;rw[hfr];clear hfr;generalize rN fr=ee;clear fr;refine zQ 5 ?_;refine qn ?_;refine zQ 2 ?_;refine zP (fun h1=>?_) fun h1=>?_
 ·refine zQ 1 ?_
  obtain⟨l,rY⟩:∃l,L[i]?=some l:=⟨L[i]' z0,η _⟩
  obtain⟨d1,hd1,fU⟩:=heg i l rY;obtain⟨d2,hd2,mB⟩:=hfg i l rY;have mA:=MW l (ς rY);have cG:(l.dn !=l.dn)=false:=by simp
  have jo:false=false:=rfl;refine zQ 3 ?_;refine ag.da 54 (.bool false) [] ?_ (fun ff tmp cI=>?_)
  ·refine zQ 2 ?_;refine qr fun YJ Rj=>?_;refine qf (fo:=0) fun PC Gb=>?_;refine zQ 3 ?_;refine qr fun NA C9=>?_;refine qf (fo:=0) fun PB Ga=>?_;refine zQ 5 ?_;refine qr (fun p31 aaO=>?_) (hg:=wi cG);refine qf (fo:=1) (fun YF LG=>?_) (hg:=wi cG);refine zQ 3 ?_;refine qr (fun Ur Oo=>?_) (hg:=wi cG);refine qf (fo:=1) (fun Uq On=>?_) (hg:=wi cG);refine zQ 1 ?_;refine ab.PE (aj rfl rfl rfl cG) z3 z3 (Ia l.aY) (aa rfl _) ?_;refine zQ 4 ?_;refine qr (fun YA Q_=>?_) (hg:=wi jo);refine qf (fo:=11) (fun p45 Vm=>?_) (hg:=wi jo);refine zQ 3 ?_;refine qr (fun Yz Q9=>?_) (hg:=wi jo);refine qf (fo:=11) (fun Uo Ol=>?_) (hg:=wi jo);refine zQ 1 ?_;refine qv (FJ ((χ hd1 aR).rows hH) ((χ hd2 aR).rows hH) z0) ?_ (hg:=wi jo);refine zQ 2 ?_;refine ab.nil (aO ?_ ?_)
   ·dsimp only[aI,φ,nth,u2,u1]
    all_goals(first|rfl|simp)
   ·dsimp only[Fr.fN,Fr.put,Fr.clean,Fr.ev,Fr.get,nth,look,u1,u2,v1,v2,v4]
    all_goals(rfl)
  dsimp only[aI,φ,nth,u2,u1];dsimp only[Fr.fN,Fr.put,Fr.clean,Fr.ev,Fr.get,nth,look,u1,u2,v1,v2,v4];refine zQ 7 ?_;exact⟨mm-1,by omega,⟨i+1,rfl,hH,by omega⟩⟩
 ·refine zQ 5 ?_;refine ag.ret ⟨rx,_,rfl,rl aR hH (rfl)⟩
theorem yW {pl:Int} (hx:Δ s0 12 x es) (hy:Δ s0 12 y fs) (wJ:kg s0 es L) (RL:kg s0 fs L) (hl:L.length≤1000) (MW:∀l∈L,l.bn.length≤1000):Ev pv 39 [.agg [.int .i64 pl,x],.agg [.int .i64 pl,y]] s0 (.bool true) s0:=by
 have VB:=fun{st:St} (hx:Δ st 12 x es) (hy:Δ st 12 y fs) (wJ:kg st es L) (RL:kg st fs L)=>F5 (s0:=st) hx hy wJ RL z0 MW;have hcx:=lZ hx;have hcy:=lZ hy;refine Ev.iu rfl XA rfl rfl rfl ?_;refine zE ?_;obtain⟨aR,hF,hH⟩:=ri s0;generalize ae .ro s0=S at*;have de:(pl==pl)=true:=by simp
 have hx:=χ hx aR;have hy:=χ hy aR;refine zQ 2 ?_;refine qb hH fun k2 st hk2 hH=>?_;refine qb hH fun k3 st tt hH=>?_;refine zQ 14 ?_;refine qv (VB (hx.rows hH) (hy.rows hH) (wJ.ex aR hH) (RL.ex aR hH)) ?_ (hg:=wi de);refine zQ 3 ?_;refine ag.ret ⟨rx,_,rfl,rl aR hH (rfl)⟩
theorem oM {α:Type} (one:dB→α×dB):∀n s,(bm one n s).1.length≤n
 |0,s=>v8 _
 |n+1,s=>by
  unfold bm
  split
  ·simp
  ·simp only[IS];have:=oM one n (one s).2;omega
theorem vg {α:Type} {one:dB→α×dB} {R:dB→Prop} {Q:α→Prop} (hR:∀s,R s→R (one s).2∧Q (one s).1):∀n s,R s→∀a∈(bm one n s).1,Q a
 |0,s,_,a,ha=>by cases ha
 |n+1,s,hs,a,ha=>by
  unfold bm at ha
  split at ha
  ·cases ha
  ·rcases ξ.1 ha with rfl|ha
   ·exact(hR s hs).2
   ·exact vg hR n _ (hR s hs).1 a ha
variable{b:List UInt8}{s:dB}
theorem G_ (h:s.at_≤b.length):(pb b s).1.length≤400:=by
 obtain⟨i1,i2,i3,i4⟩:=fY (m:=400) h;unfold pb
 by_cases he:(bW b 400 s).2.e=0
 ·have:=oM (eX b) (bW b 400 s).1.toNat (bW b 400 s).2;have:=i4 he;omega
 ·rw[eP _ he];simp
theorem CV (h:s.at_≤b.length):Ng (dF b s).1:=by
 obtain⟨i1,i2,i3,i4⟩:=fY (m:=8) h;unfold dF
 by_cases he:(bW b 8 s).2.e=0
 ·refine⟨?_,vg (R:=fun s=>s.at_≤b.length) (fun s hs=>⟨pE hs,rfl,G_ (kP (pU hs) 10)⟩) _ _ i1⟩;have:=oM (cW b) (bW b 8 s).1.toNat (bW b 8 s).2;have:=i4 he;omega
 ·rw[eP _ he];exact E3
structure Tu (q:List UInt8×Int×List GV):Prop where
 h:q.1.length≤3
 g:Ng q.2.2
theorem FG (h:s.at_≤b.length):Tu (cB b s).1:=by
 have h1:=(lu (m:=3) h)
 refine⟨?_,CV (dI h1.1).1⟩;have:((cB b s).1.1.length:Int)≤max 3 0:=h1.2;omega
theorem Mq:Tu (pY p b).2∧((pY p b).1=0→dz p (pY p b).2.2.1 (pY p b).2.2.2∧(bH (pY p b).2.1=true∨(pY p b).2.1=[])):=by
 have o1:=(dI (b:=b) (s:=⟨0,0⟩) (Nat.zero_le _)).1
 have hn:Tu (([]:List UInt8),(0:Int),([]:List GV)):=⟨by simp,E3⟩
 unfold pY
 split
 ·rename_i h;exact⟨hn,fun h'=>absurd h' h⟩
 ·split
  ·exact⟨hn,fun h=>by simp at h⟩
  ·split
   ·rename_i h;exact⟨hn,fun h'=>absurd h' h⟩
   ·split
    ·rename_i h;refine⟨FG o1,fun _=>?_⟩
     by_cases hW:dz p (cB b (bk b ⟨0,0⟩).2).1.2.1 (cB b (bk b ⟨0,0⟩).2).1.2.2∧(bH (cB b (bk b ⟨0,0⟩).2).1.1=true∨(cB b (bk b ⟨0,0⟩).2).1.1=[])
     ·exact hW
     ·rw[cL hW] at h;cases h
    ·exact⟨hn,fun h=>by simp at h⟩
theorem xI (h:GS x L):kg st (L.map gW) L:=GI.Qv (h.arg st) rfl
theorem FF {q:List UInt8×Int×List GV} (hq:Tu q):Ev pv 12 [rm q,rm q] s0 (.bool true) s0:=by
 obtain⟨h,pl,L⟩:=q;obtain⟨h3,hg⟩:=hq;dsimp only at h3 hg;have PT:=hg.T8;have vw:=hg.n;have hsb:=fun st=>FI (st:=st) (x:=cA h) (y:=cA h) (l:=h) (x7 st h) (x7 st h) z0;have hm:=fun st=>yW (s0:=st) (pl:=pl) (PT.sl.rows st) (PT.sl.rows st) (xI PT) (xI PT) z0 (fun l hl=>by have:=(hg.t l hl).2;omega);unfold rm;refine Ev.iu rfl XY rfl rfl rfl ?_;refine zE ?_;obtain⟨aR,hF,hH⟩:=ri s0;generalize ae .ro s0=S at*;refine zQ 2 ?_;refine qb hH fun k2 st hk2 hH=>?_;refine qb hH fun k3 st tt hH=>?_;refine zQ 2 ?_;have de:true=true:=rfl;refine zQ 6 ?_;refine qv ((hsb _)) ?_;refine zQ 2 ?_;refine ab.aH (m:=2) hH (aj rfl rfl rfl de) z3 (by exact bt) (by dsimp only[τ,ι,υ,Φ]<;>rfl) rfl rfl (aa rfl _) ?_;refine zQ 1 ?_;refine ab.aH (m:=2) hH (aj rfl rfl rfl de) z3 (by exact aJ) (by dsimp only[τ,ι,υ,Φ]<;>rfl) rfl rfl (aa rfl _) ?_;refine qv ((hm _)) ?_ (hg:=wi de);refine zQ 3 ?_;refine ag.ret ⟨rx,_,rfl,rl aR hH (rfl)⟩
def PL.gt (l:PL):GV:=⟨l.dn,l.aY,ta (l.bn.map gH.g),l.bn.map gH.g⟩
theorem Js (ls:List PL):(ls.map PL.gt).map gW=ls.map Kr:=by
 rw[ω];refine List.map_congr_left fun l _=>?_;show aV l.dn l.aY (ta (l.bn.map gH.g))=aV l.dn l.aY (TE l.bn);unfold ta TE;rw[Mg]
theorem O6 (h:List UInt8) (pl:Nat) (ls:List PL):Km (cA h) pl ls=rm (h,(pl:Int),ls.map PL.gt):=by
 unfold Km rm yX tx;rw[Js]
theorem wS {p:Pg} (hR:a7 p):∀(gs:List (Nat×Nat)) (pl:Nat) (ls:List PL),qK p pl ls→qK p (kV p.code (aM p) gs pl ls).1 (kV p.code (aM p) gs pl ls).2
 |[],_,_,h=>h
 |g::gs,pl,ls,h=>by
  simp only[kV];exact wS hR gs _ _ (z6 hR h)
theorem oD {p:Pg} (hR:a7 p):∀(b:List UInt8) (x:List UInt8×Nat×List PL),qK p x.2.1 x.2.2→qK p (dD p.code (aM p) b x).2.1 (dD p.code (aM p) b x).2.2
 |[],x,h=>h
 |c::b,x,h=>oD hR b _ (wS hR _ _ _ h)
theorem DP {code:List aL} {ss:List Nat} (b:List UInt8) {x:List UInt8×Nat×List PL} (hx:bH x.1=true∨x.1=[]):bH (dD code ss b x).1=true∨(dD code ss b x).1=[]:=by
 induction b generalizing x with
 |nil=>exact hx
 |cons c b ih=>exact ih (Ar code ss x c)
theorem KA (hR:a7 p) {ls:List PL} (h:qK p pl ls) (ia:pl≤1099511627776):dz p (pl:Int) (ls.map PL.gt):=by
 have h1:=zZ hR (V:=ls.map fun l=>(⟨l.dn,l.aY,ta (l.bn.map gH.g),l.bn⟩:VL)) (pl:=pl) (by rw[ω];exact(List.map_id ls).symm▸h) ia;rw[ω] at h1;exact h1
def tB (p:Pg) (b:List UInt8):List UInt8×Nat×List PL:=dD p.code (aM p) b ([],0,(aM p).map je)
def zz (p:Pg) (b:List UInt8):List UInt8×Int×List GV:=((tB p b).1,((tB p b).2.1:Nat),(tB p b).2.2.map PL.gt)
theorem DO (hR:a7 p) (hb:b.length≤100):(tB p b).1.length≤3∧(tB p b).2.1≤1600∧(tB p b).2.2.length=p.ak.length∧(∀l∈(tB p b).2.2,l.ok p.code.length)∧dz p (zz p b).2.1 (zz p b).2.2∧(bH (zz p b).1=true∨(zz p b).1=[]):=by
 obtain⟨g1,g2,g3,g4⟩:=ur hR b ([],0,(aM p).map je) (by simp) (by unfold aM;simp) (w9 hR);refine⟨g1,by unfold tB;simp only at g2;omega,g3,g4,KA hR (oD hR b ([],0,(aM p).map je) (t_ hR)) (by unfold tB;simp only at g2;omega),DP b (.inr rfl)⟩
theorem uS:∀(n:Nat) (l:List Nat),l.Nodup→(∀x∈l,x<n)→l.length≤n
 |0,l,_,h=>by
  cases l with
  |nil=>simp
  |cons a l=>exact absurd (h a (κ ..)) z0
 |n+1,l,hd,h=>by
  by_cases hm:n∈l
  ·have h1:=uS n (l.erase n) (hd.erase n) fun x hx=>by
    have h2:=(hd.mem_erase_iff).1 hx;have:=h x h2.2;have:=h2.1;omega
   rw[List.length_erase_of_mem hm] at h1;omega
  ·have:=uS n l hd fun x hx=>by
    have:=h x hx;have:x≠n:=fun e=>hm (e▸hx);omega
   omega
theorem MB (hR:a7 p) (hb:b.length≤100):Tu (zz p b):=by
 obtain⟨g1,g2,g3,g4,_,_⟩:=DO hR hb;obtain⟨w1,w2⟩:=oD hR b ([],0,(aM p).map je) (t_ hR);have hcl:=hR.cl;have jS:=hR.sl;refine⟨g1,by show((tB p b).2.2.map PL.gt).length≤8;rw[ζ];omega,fun g hg=>?_⟩;obtain⟨l,hl,rfl⟩:=Γ.1 hg;refine⟨rfl,?_⟩;show(l.bn.map gH.g).length≤400;rw[ζ];obtain⟨i,hi⟩:=Ω hl;have hil:=bc hi
 obtain⟨s,hs⟩:∃s,p.ak[i]?=some s:=⟨p.ak[i]' z0,η _⟩
 have hd:=(w2 i l s hi hs).d
 have h1:=uS p.code.length (l.bn.map gH.pc) hd fun x hx=>by
  obtain⟨t,ht,rfl⟩:=Γ.1 hx;exact(g4 l hl).1 t ht
 rw[ζ] at h1;omega
theorem GD (pM:∀st,Ev pv 107 [] st (.agg (aE bN)) st) (hp:p.ok) (hR:a7 p) (hx:fg x 1 (ο b)) (hbl:b.length≤100):
  Ev pv 5 [p.d,x] s0 (.tup [rm (zz p b),.bool true]) s0:=by
 obtain⟨g1,g2,g3,g4,_,_⟩:=DO hR hbl;have I':=hR.cl;have UX:=hR.sl;have WC:∀l∈(aM p).map je,l.ok p.code.length:=w9 hR;have h0l:((aM p).map je).length=p.ak.length:=by unfold aM;simp
 have Vx:∀{N S st H},S.flr≤N→Has N S st H→_:=fun{N S st H} hF hH=>KV (N:=N) (S:=S) (s0:=st) (H:=H) pM hF hp hR hH
 obtain⟨h,pl,ls,hX⟩:∃h pl ls,tB p b=(h,pl,ls):=⟨_,_,_,rfl⟩
 have hQ:rm (zz p b)=Km (cA h) pl ls:=by
  unfold zz;rw[hX];exact(O6 h pl ls).symm
 rw[hX] at g1 g2 g3 g4;unfold tB at hX;dsimp only at g1 g2 g3 g4;rw[hQ];have nY:=hp.c;have hsd:=hp.s;unfold Pg.d at*;refine Ev.iu rfl fi5 rfl rfl rfl ?_;refine zE ?_;obtain⟨aR,hF,hH⟩:=ri s0;generalize ae .ro s0=S at*;have QF:=hx.arg s0.bs.length S;refine zQ 2 ?_;refine qb hH fun k2 st hk2 hH=>?_;dsimp only[u2,u1,u3,u4,setMany,u5,u6,D.cells,Nat.reduceAdd,Pg.cs] at hH;refine qa hH fun k4 st OJ hH=>?_;refine zQ 4 ?_;refine ab.aH (m:=2) hH rfl z3 (by exact bt) (by dsimp only[τ,ι,υ,Φ,Pg.cs]<;>rfl) rfl rfl (aa rfl _) ?_;obtain⟨_,st,aA,kS,kd,kv,ks,q,ld,L,rfl,hq,hL,hM⟩:=Vx hF hH;refine qv aA ?_;refine zQ 6 ?_;obtain⟨pd,qd,P,Q,sn,js,hH,aT,eI,hl⟩:=SH.pull [_,_] (H:=[]) hM;dsimp only[u3,u4] at hH
 have hM:SH [_,_] s0.bs.length S st kS kd kv ks q 0 ld L [] []:=⟨pd,qd,P,Q,sn,js,hH,aT,eI,hl⟩
 have hM:=SH.push (A:=[_,_]) (H:=[]) hM;refine zQ 2 ?_;refine ag.da 18 (.bool false) [] ?_ (fun ff tmp cI=>?_)
 ·refine zQ 3 ?_;refine ab.two 15 rfl (fun cj=>?_) (fun cj=>?_)
  ·refine zQ 3 ?_;refine ab.nil (aO ?_ ?_)
   ·dsimp only[aI,φ,nth,u2,u1]
    all_goals(first|rfl|simp)
   ·refine zF ?_
    all_goals(simp[cj];done)
  ·refine zQ 3 ?_;refine ab.nil (aO ?_ ?_)
   ·dsimp only[aI,φ,nth,u2,u1]
    all_goals(first|rfl|simp)
   ·refine zF ?_
    all_goals(rfl)
 dsimp only[aI,φ,nth,u2,u1];refine zQ 2 ?_;have hqR:=hq.right hR;have hcq:q.code.length=p.code.length:=by rw[hq.code,ζ]
 have Zw:L.length=q.ak.length:=by
  have:=congrArg AI hL;rw[ζ,h0l] at this;rw[hq.ak];exact this
 have Dn:∀l∈L,l.pl.ok q.code.length:=by rw[hcq];exact rD (by rw[hL];exact WC)
 have UW:∀b x,dD q.code (aM q) b x=dD p.code (aM p) b x:=fun b x=>by rw[hq.code,hq.aM,Cr]
 refine zQ 4 ?_;obtain⟨_,st,aA,rfl,ld3,L3,R9,T3⟩:=Ht (b:=b) pM hF hq.ok hqR QF z0 z0 (by simp) Zw Dn hM;rw[UW,hL,hX] at R9 T3;have hH:=(SH.pull [_,_] (H:=_) T3).has;refine qv aA ?_;refine zQ 1 ?_;dsimp only at R9 T3;obtain⟨js2,hAS⟩:=T3.as;have abd:L3.length=p.ak.length:=by rw[←g3,←R9,ζ]
 have R8:∀l∈L3,l.pl.ok p.code.length:=rD (by rw[R9];exact g4);obtain⟨_,st2,RO,rfl,QR⟩:=Hr hq.ok z0 (Qe R8) hAS;rw[QR,R9] at RO;clear QR st2;have kh:(Km (cA h) pl ls).cells?=some [cA h,.int .i64 (pl:Nat),yX ls]:=rfl;refine zQ 3 ?_;refine ab.iN rfl rfl RO (aa rfl _) ?_;refine ab.cF hH rfl z3 z3 kh (by exact rfl) aJ (by exact rfl) (.inr rfl) (fun st hH=>?_);dsimp only[u1,u2] at hH;refine zQ 2 ?_;refine ag.ret ⟨rx,_,hH.dR rfl aJ rfl rfl,rl aR hH (show ba st s0.bs.length false 16 (D.tup [Km (cA h) pl ls,D.bool true])=some (D.tup [Km (cA h) pl ls,D.bool true]) from rfl)⟩
theorem Gd (hx:fg x 1 (ο b)) (n:Nat):∃d,Ev pv 6 [x,.int .i64 (n:Nat)] s0 d s0∧fg d 1 (ο (b.take n)):=by
 have tS:=aw b;refine Ev.CL rfl fi6 rfl rfl rfl ?_;refine zE ?_;obtain⟨aR,hF,hH⟩:=ri s0;generalize ae .ro s0=S at*;have QF:=hx.arg s0.bs.length S;refine zQ 8 ?_;refine qn ?_;refine zQ 3 ?_;rw[tS];refine zP (fun h0=>?_) fun h0=>?_
 ·have PN:n≤(ο b).length:=by omega
  refine zQ 4 ?_;refine ab.Ny rfl z3 z5 rfl rfl (lN z0) (fun _=>(aa rfl _)) (fun ZG UJ=>?_);refine zQ 2 ?_;obtain⟨z,hz1,hz2⟩:=UJ.freeze S s0.bs.length 15;refine ag.ret ⟨rx,_,_,rfl,rl aR hH (hz1),?_⟩;rw[ι] at hz2;unfold ο at hz2⊢;rw[List.map_take];exact hz2
 ·refine zQ 6 ?_;obtain⟨z,hz1,hz2⟩:=hx.freeze S s0.bs.length 15;refine ag.ret ⟨rx,_,_,rfl,rl aR hH (hz1),?_⟩;rw[List.take_of_length_le z0];exact hz2
theorem Nw (a:Int) (n:Nat) (hn:n≤100000000) (st:St):(fp pv .rem 3 (.int .i64 a) (.int .i64 (((n:Nat):Int)+1))).map (fun d=>(d,st))=some (.int .i64 (a.tmod ((n:Nat)+1)),st):=by
 have h1:a.tmod ((n:Nat)+1)<(n:Nat)+1:=IN a z0;have h2:-((n:Nat)+1:Int)<a.tmod ((n:Nat)+1):=BY a z0;show AT _ (if((n:Nat):Int)+1=0 then none else some (D.int .i64 (a.tmod ((n:Nat)+1))))=_;rw[if_neg z0];rfl
theorem sE (a:Int) (n:Nat) (hn:n≤100000000):∃d,Ev pv 9 [.int .i64 a,.int .i64 0,.int .i64 (n:Nat)] s0 d s0∧∃k:Nat,d=.int .i64 (k:Nat)∧k≤n:=by
 have h1:a.tmod ((n:Nat)+1)<(n:Nat)+1:=IN a z0;have h2:-((n:Nat)+1:Int)<a.tmod ((n:Nat)+1):=BY a z0;refine Ev.CL rfl fi9 rfl rfl rfl ?_;refine zE ?_;obtain⟨aR,hF,hH⟩:=ri s0;generalize ae .ro s0=S at*;refine zQ 9 ?_;refine ab.eK (z:=((n:Nat):Int)) rfl z3 z3 (by rw[wrap_i64 z0 z0]<;>omega) (aa rfl _) ?_;refine ab.dX (z:=(((n:Nat):Int)+1)) rfl z3 z3 (by rw[wrap_i64 z0 z0]<;>omega) (aa rfl _) ?_;refine ab.go (d:=.int .i64 (a.tmod ((n:Nat)+1))) (st1:=_) rfl rfl (by exact Nw a n hn _) (aa rfl _) ?_;refine zQ 2 ?_;generalize a.tmod ((n:Nat)+1)=m at*;refine zQ 6 ?_;refine zP (fun hc=>?_) fun hc=>?_
 ·refine zQ 3 ?_;refine ab.dX (z:=(m+(n:Nat))) rfl z3 z3 (by rw[wrap_i64 z0 z0]<;>omega) (aa rfl _) ?_;refine qm ?_;refine ab.eK (z:=(m+(n:Nat))) rfl z3 z3 (by rw[wrap_i64 z0 z0]<;>omega) (aa rfl _) ?_;refine ab.dX (z:=(m+(n:Nat)+1)) rfl z3 z3 (by rw[wrap_i64 z0 z0]<;>omega) (aa rfl _) ?_;refine zQ 6 ?_;refine ab.dX (z:=(m+(n:Nat)+1)) rfl z3 z3 (by rw[wrap_i64 z0 z0]<;>omega) (aa rfl _) ?_;refine zQ 2 ?_;refine ag.ret ⟨rx,_,_,rfl,rl aR hH (rfl),?_⟩;exact⟨(m+(n:Nat)+1).toNat,by rw[GB z0];rfl,by omega⟩
 ·refine zQ 5 ?_;refine ab.dX (z:=m) rfl z3 z3 (by rw[wrap_i64 z0 z0]<;>omega) (aa rfl _) ?_;refine zQ 2 ?_;refine ag.ret ⟨rx,_,_,rfl,rl aR hH (rfl),?_⟩;exact⟨m.toNat,by rw[GB z0];rfl,by omega⟩
end Go.Proofs.YtkbacjpologjbaaGreat
namespace Go.V
open Go.RowKit
def rU {H:Type}:DataW H→Bool
 | .agg _=>true
 |_=>false
mutual
def zO {H:Type}:DataW H→List D
 | .lit (.bool b)=>[.bool b]
 | .lit (.int k n)=>[.int k n]
 | .lit (.string l)=>[.str l]
 | .lit _=>[.bo]
 | .nil=>[.nul]
 | .slice elems _=>[.sl (zr elems)]
 | .agg parts=>nA parts
 | .ptr _=>[.bo]
 | .iface _ _=>[.bo]
 | .map _=>[.bo]
 | .held _=>[.bo]
def zr {H:Type}:List (DataW H)→List D
 |[]=>[]
 |d::r=>(if rU d then .agg (zO d) else(zO d).headD .bo)::zr r
def nA {H:Type}:List (DataW H)→List D
 |[]=>[]
 |d::r=>zO d++nA r
end
def iC {H:Type} (d:DataW H):D:=if rU d then .agg (zO d) else(zO d).headD .bo
theorem vQ {H:Type}:∀l:List (DataW H),zr l=l.map iC
 |[]=>rfl
 |d::r=>by simp only[zr,ν,vQ r];rfl
def vS (P:Program):Nat→List Field→Option Nat
 |o,[]=>some o
 |o,f::fs=>if f.offset=o then vS P (o+P.cellsOf f.type) fs else none
def K7 (P:Program):Nat→TypeId→Bool
 |0,_=>false
 |n+1,t=>match P.underlying t with
  |some .bool=>true
  |some (.int _)=>true
  |some .string=>true
  |some (.slice e)=>K7 P n e &&decide (0<P.cellsOf e)
  |some (.struct fs)=>(vS P 0 fs.toList==some (P.cellsOf t)) &&fs.toList.all fun f=>K7 P n f.type
  |some (.array m e)=>K7 P n e &&(P.cellsOf t==m*P.cellsOf e)
  |_=>false
structure CR (w:World) (Z:Nat→Prop) (cs:List D) (vs:List Value):Prop where
 len:cs.length=vs.length
 one:∀v∈vs,v.oneCell'=true
 onec:∀c∈cs,c.cells?=some [c]
 rel:∀(i:Nat) c v,cs[i]?=some c→vs[i]?=some v→IR w Z c v
variable{w:World}{Z:Nat→Prop}
theorem CR.nil:CR w Z [] []:=⟨rfl,by simp,by simp,by simp⟩
variable{c:D}{v:Value}
theorem CR.single (h:IR w Z c v) (h1:v.oneCell'=true) (h2:c.cells?=some [c]):CR w Z [c] [v]:=
 ⟨rfl,by simpa using h1,by simpa using h2,fun i c' v' hc hv=>by
  cases i with
  |zero=>simp at hc hv;subst hc;subst hv;exact h
  |succ i=>simp at hc⟩
theorem CR.append {cs cs':List D} {vs P7:List Value} (h:CR w Z cs vs) (g:CR w Z cs' P7):CR w Z (cs++cs') (vs++P7):=by
 refine⟨by simp[h.len,g.len],fun v hv=>?_,fun c hc=>?_,fun i c v hc hv=>?_⟩
 ·rcases Pd.1 hv with hv|hv
  ·exact h.one v hv
  ·exact g.one v hv
 ·rcases Pd.1 hc with hc|hc
  ·exact h.onec c hc
  ·exact g.onec c hc
 ·rw[List.getElem?_append] at hc hv;have:=h.len
  split at hc
  ·rw[if_pos z0] at hv;exact h.rel i c v hc hv
  ·rw[if_neg z0] at hv;rw[←this] at hv;exact g.rel _ c v hc hv
theorem AP {H:Type} {P:Program} {w:World} {Z:Nat→Prop} {f:Field→Option (DataW H×List MemPlace)} {cs:List Value}:∀{fs:List Field} {o e:Nat} {xs:List (DataW H×List MemPlace)},vS P o fs=some e→e≤cs.length→fs.mapM f=some xs→
  (∀g∈fs,∀x,f g=some x→CR w Z (zO x.1) ((cs.drop g.offset).take (P.cellsOf g.type)))→CR w Z (nA (xs.map (·.1))) ((cs.drop o).take (e-o))∧o≤e
 |[],o,e,xs,hc,_,hm,_=>by
  simp[vS] at hc;subst hc;simp at hm;subst hm;simp[nA];exact CR.nil
 |g::fs,o,e,xs,hc,he,hm,hx=>by
  simp only[vS] at hc
  split at hc
  ·rename_i ho;rw[Ξ] at hm
   cases h1:f g with
   |none=>rw[h1] at hm;simp at hm
   |some x=>
    rw[h1] at hm
    cases h2:fs.mapM f with
    |none=>rw[h2] at hm;simp at hm
    |some ys=>
     rw[h2] at hm;simp at hm;subst hm;obtain⟨ih,hle⟩:=AP hc he h2 fun g' hg'=>hx g' (ρ _ hg');have hg:=hx g (κ ..) x h1;rw[ho] at hg;refine⟨?_,by omega⟩;simp only[ν,nA]
     have:(cs.drop o).take (e-o)=(cs.drop o).take (P.cellsOf g.type)++(cs.drop (o+P.cellsOf g.type)).take (e-(o+P.cellsOf g.type)):=by
      rw[←Pe,show e-o=P.cellsOf g.type+(e-(o+P.cellsOf g.type)) by omega,AN]
     rw[this];exact hg.append ih
  ·cases hc
theorem BK {H:Type} {w:World} {Z:Nat→Prop} {s:Nat} {f:Nat→Option (DataW H×List MemPlace)} {cs:List Value}:∀{m k:Nat} {xs:List (DataW H×List MemPlace)},(Qa0 k m).mapM f=some xs→(k+m)*s≤cs.length→
  (∀i x,f i=some x→CR w Z (zO x.1) ((cs.drop (i*s)).take s))→CR w Z (nA (xs.map (·.1))) ((cs.drop (k*s)).take (m*s))
 |0,k,xs,hm,_,_=>by simp at hm;subst hm;simp[nA];exact CR.nil
 |m+1,k,xs,hm,hl,hx=>by
  rw[List.range'_succ,Ξ] at hm
  cases h1:f k with
  |none=>rw[h1] at hm;simp at hm
  |some x=>
   rw[h1] at hm
   cases h2:(Qa0 (k+1) m).mapM f with
   |none=>rw[h2] at hm;simp at hm
   |some ys=>
    rw[h2] at hm;simp at hm;subst hm;have ih:=BK h2 (by rw[show k+1+m=k+(m+1) by omega];exact hl) hx;simp only[ν,nA];rw[show(m+1)*s=s+m*s by rw[Qa1];omega,AN,Pe,show k*s+s=(k+1)*s by rw[Qa1];omega];exact(hx k x h1).append ih
theorem cells_one (h:c.cells?=some [c]):c.cells=[c]:=by
 cases c<;>first|rfl|cases h|(simp only[D.cells?,Option.some.injEq] at h;simpa only[D.cells] using h)
theorem B6 (b off n:Nat):(⟨b,off,none⟩:Addr).add n=⟨b,off+n,none⟩:=by
 cases n<;>simp[Addr.add]
theorem tF {H:Type} {enc:TypeId×Value→H} {P:Program} {w:World} {spare:Nat→Bool} {held:Bool}:∀(fuel:Nat) (t:TypeId) (cs:List Value) (d:DataW H) (ps:List MemPlace) (n:Nat),δ enc P w 0 spare held fuel t cs=some (d,ps)→K7 P n t=true→
  CR w (fun b=>b<w.heap.size) (zO d) cs∧cs.length=(match P.underlying t with|some (.struct _)|some (.array _ _)=>P.cellsOf t|_=>1)∧(rU d=(match P.underlying t with|some (.struct _)|some (.array _ _)=>true|_=>false))
 |0,t,cs,d,ps,n,h,_=>by simp[δ] at h
 |fuel+1,t,cs,d,ps,0,h,ht=>by simp[K7] at ht
 |fuel+1,t,cs,d,ps,n+1,h,ht=>by
  simp only[K7] at ht;unfold δ at h
  cases hu:P.underlying t with
  |none=>rw[hu] at ht;simp at ht
  |some u=>
   rw[hu] at h ht
   cases u with
   |bool=>
    rcases cs with _|⟨v,_|⟨v2,cs⟩⟩<;>try(simp at h;done)
    cases v<;>simp at h
    obtain⟨rfl,rfl⟩:=h;exact⟨CR.single (.bool _) rfl rfl,rfl,rfl⟩
   |int k=>
    rcases cs with _|⟨v,_|⟨v2,cs⟩⟩<;>try(simp at h;done)
    cases v<;>simp at h
    obtain⟨⟨rfl,_⟩,rfl,rfl⟩:=h;exact⟨CR.single (.int _ _) rfl rfl,rfl,rfl⟩
   |string=>
    rcases cs with _|⟨v,_|⟨v2,cs⟩⟩<;>try(simp at h;done)
    cases v<;>simp at h
    rename_i b;obtain⟨_,rfl,rfl⟩:=h;refine⟨CR.single ?_ rfl rfl,rfl,rfl⟩;have:=IR.str (w:=w) (Z:=fun b=>b<w.heap.size) b.data.toList
    simpa using this
   |slice e=>
    simp only[Θ,decide_eq_true_eq] at ht
    rcases cs with _|⟨v,_|⟨v2,cs⟩⟩<;>try(simp at h;done)
    cases v<;>try(simp at h;done)
    rename_i a len cap
    cases a with
    |none=>
     cases len<;>cases cap<;>simp at h
     obtain⟨rfl,rfl⟩:=h;exact⟨CR.single .nul rfl rfl,rfl,rfl⟩
    |some a=>
     simp only at h
     split at h
     ·rename_i hc;simp only[θ,ε] at h;obtain⟨elems,he,rest,hr,hd⟩:=h;cases hd;refine⟨?_,rfl,rfl⟩;have hlen:elems.length=len:=by simpa using mapM_some_length he
      have hget:=mapM_some_get he
      have each:∀(i:Nat),i<len→∃x cs,elems[i]?=some x∧w.cells? 0 (a.add (i*P.cellsOf e)) (P.cellsOf e)=some cs∧CR w (fun b=>b<w.heap.size) (zO x.1) cs∧cs.length=P.cellsOf e∧(rU x.1=(match P.underlying e with|some (.struct _)|some (.array _ _)=>true|_=>false))∧cs.length=(match P.underlying e with|some (.struct _)|some (.array _ _)=>P.cellsOf e|_=>1):=by
       intro i hi;have h1:=hget i i (by simp[hi]);have h2:elems[i]?=some (elems[i]' z0):=η _;rw[h2] at h1;obtain⟨cs,kh,hx⟩:=θ.1 h1;obtain⟨q1,q2,q3⟩:=tF fuel e cs _ _ n hx ht.1;exact⟨_,cs,h2,kh,q1,(μ kh).2.1,q3,q2⟩
      refine CR.single ?_ rfl rfl
      cases len with
      |zero=>
       have:elems=[]:=by cases elems with|nil=>rfl|cons _ _=>simp at hlen
       subst this;exact .emp _ _
      |succ m=>
       have oY:a.spot=none∧a.block<w.heap.size:=by
        obtain⟨x,cs,_,h2,_,_⟩:=each 0 z0;refine⟨?_,?_⟩
        ·have:=(μ h2).2.2 0 ht.2;have hl:=(μ h2).2.1
         obtain⟨c0,RU⟩:∃c0,cs[0]?=some c0:=⟨cs[0]' z0,η _⟩
         rw[RU] at this
         simpa[Addr.add] using World.cell?_spot this
        ·simpa[Addr.add] using World.cells?_block h2 ht.2
       obtain⟨b,off,spot⟩:=a;simp only at oY;obtain⟨rfl,hb⟩:=oY
       have hcell:∀(i j:Nat),i<m+1→j<P.cellsOf e→∃x cs v,elems[i]?=some x∧cs[j]?=some v∧w.cell? ⟨b,off+(i*P.cellsOf e+j),none⟩=some v∧CR w (fun b=>b<w.heap.size) (zO x.1) cs:=by
        intro i j hi hj;obtain⟨x,cs,h1,h2,h3,h4,_⟩:=each i hi;have:=(μ h2).2.2 j hj
        obtain⟨v,hv⟩:∃v,cs[j]?=some v:=⟨cs[j]' z0,η _⟩
        rw[hv] at this;refine⟨x,cs,v,h1,hv,?_,h3⟩;rw[←this,B6,B6,Nat.add_assoc]
       have wJ:(zr (elems.map (·.1)))=elems.map fun x=>iC x.1:=by rw[vQ,ω];rfl
       have hE:∀(i:Nat) q,(zr (elems.map (·.1)))[i]?=some q→∃x cs,i<m+1∧elems[i]?=some x∧q.cells?=some q.cells∧q.cells=zO x.1∧CR w (fun b=>b<w.heap.size) (zO x.1) cs∧cs.length=P.cellsOf e:=by
        intro i q hq;rw[wJ,ψ] at hq;obtain⟨x,hx,rfl⟩:=ε.1 hq
        have hi:i<m+1:=by
         rcases Ψ i (m+1) with h'|h'
         ·exact h'
         ·rw[π z0] at hx;cases hx
        obtain⟨x',cs,h1,h2,h3,h4,h5,h6⟩:=each i hi;rw[hx] at h1;cases h1;refine⟨x,cs,hi,hx,?_,?_,h3,h4⟩
        ·unfold iC
         split
         ·rfl
         ·rename_i M4
          have za:(zO x.1).length=1:=by
           rw[h3.len,h6];rw[h5] at M4
           revert M4
           split<;>simp
          match hd:zO x.1,za with
          |[c],_=>have:=h3.onec c (by rw[hd];simp);simp only[OF];rw[cells_one this];exact this
        ·unfold iC
         split
         ·rfl
         ·rename_i M4
          have za:(zO x.1).length=1:=by
           rw[h3.len,h6];rw[h5] at M4
           revert M4
           split<;>simp
          match hd:zO x.1,za with
          |[c],_=>have:=h3.onec c (by rw[hd];simp);simp only[OF];exact cells_one this
       have hL:(zr (elems.map (·.1))).length=m+1:=by rw[wJ];simp[hlen]
       have hf:=fun(i j:Nat) (hi:i<m+1) (hj:j<P.cellsOf e)=>hcell i j hi hj;have:=IR.sl (w:=w) (Z:=fun b=>b<w.heap.size) (zr (elems.map (·.1))) b off cap (P.cellsOf e) (fun i j=>(w.cell? ⟨b,off+(i*P.cellsOf e+j),none⟩).getD undef) hb (by rw[hL];exact hc.2.1)
        (fun i q hq=>by
         obtain⟨x,cs,h1,h2,h3,h4,h5,h6⟩:=hE i q hq
         exact⟨h3,by rw[h4,h5.len,h6]⟩)
        (fun i q j c hq hj=>by
         obtain⟨x,cs,h1,h2,h3,h4,h5,h6⟩:=hE i q hq
         have nX:j<P.cellsOf e:=by
          rcases Ψ j (P.cellsOf e) with h'|h'
          ·exact h'
          ·rw[h4,π (by rw[h5.len,h6];exact h')] at hj;cases hj
         obtain⟨x',cs',v,g1,g2,g3,g4⟩:=hf i j h1 nX;rw[g3]
         exact⟨rfl,g4.one v (ς g2)⟩)
        (fun i q j c hq hj=>by
         obtain⟨x,cs,h1,h2,h3,h4,h5,h6⟩:=hE i q hq
         have nX:j<P.cellsOf e:=by
          rcases Ψ j (P.cellsOf e) with h'|h'
          ·exact h'
          ·rw[h4,π (by rw[h5.len,h6];exact h')] at hj;cases hj
         obtain⟨x',cs',v,g1,g2,g3,g4⟩:=hf i j h1 nX;rw[g3];rw[h2] at g1;cases g1
         exact g4.rel j c v (by rw[←h4];exact hj) g2)
       rw[hL] at this;exact this
     ·cases h
   |struct fs=>
    simp only[Θ,beq_iff_eq,List.all_eq_true] at ht;simp only at h
    split at h
    ·rename_i hl;obtain⟨xs,hx,hd⟩:=ε.1 h;cases hd;refine⟨?_,hl,rfl⟩;obtain⟨h1,_⟩:=AP (w:=w) (Z:=fun b=>b<w.heap.size) (cs:=cs) ht.1 z0 hx fun g hg x hgx=>(tF fuel g.type _ _ _ n hgx (ht.2 g hg)).1;rw[ι,Nat.sub_zero,←hl,IT] at h1;exact h1
    ·cases h
   |array m e=>
    simp only[Θ,beq_iff_eq] at ht;simp only at h
    split at h
    ·rename_i hl;obtain⟨xs,hx,hd⟩:=ε.1 h;cases hd;refine⟨?_,hl,rfl⟩;rw[List.range_eq_range'] at hx;have h1:=BK (w:=w) (Z:=fun b=>b<w.heap.size) (s:=P.cellsOf e) (cs:=cs) hx (by rw[Nat.zero_add,←ht.2,hl];exact v8 _) fun i x Zg=>(tF fuel e _ _ _ n Zg ht.1).1;rw[Nat.zero_mul,ι,←ht.2,←hl,IT] at h1;exact h1
    ·cases h
   |_=>simp at ht
variable{P:Program}{spare:Nat→Bool}{held:Bool}{ps:List MemPlace}
theorem o_ {H:Type} {enc:TypeId×Value→H} {r:Reach} {base:Nat} {t:TypeId} {d:DataW H} {n:Nat} (h:wt enc P w 0 spare held t v d ps) (ht:K7 P n t=true) (hv:Value.okWide P w r base t v):
  IR w (fun b=>b<w.heap.size) (iC d) v:=by
 obtain⟨fuel,hf⟩:=h;obtain⟨h1,h2,h3⟩:=tF fuel t _ d ps n hf ht
 have hu:∃u,P.underlying t=some u:=by
  cases n with
  |zero=>simp[K7] at ht
  |succ n=>
   simp only[K7] at ht
   cases hu:P.underlying t with
   |none=>rw[hu] at ht;simp at ht
   |some u=>exact⟨u,rfl⟩
 obtain⟨u,hu⟩:=hu;unfold Value.okWide at hv;rw[hu] at hv h2 h3
 have R0:(∃cs:Array Value,v=.agg cs)→rU d=true→IR w (fun b=>b<w.heap.size) (iC d) v:=by
  rintro⟨cs,rfl⟩ hd;unfold iC;rw[if_pos hd];have:=IR.agg (w:=w) (Z:=fun b=>b<w.heap.size) (zO d) cs.toList (by simpa[Value.cells] using h1.len) (by simpa[Value.cells] using h1.one) (by simpa[Value.cells] using h1.rel)
  simpa using this
 have me:rU d=false→v.cells.toList.length=1→(∀cs,v≠.agg cs)→IR w (fun b=>b<w.heap.size) (iC d) v:=by
  intro hd hl M4;unfold iC;rw[if_neg (by rw[hd];simp)]
  have hc:v.cells.toList=[v]:=by cases v<;>first|rfl|exact absurd rfl (M4 _)
  rw[hc] at h1
  match hq:zO d,h1.len with
  |[c],_=>exact h1.rel 0 c v (by rw[hq];rfl) rfl
 have hcell:Cell.okWide P w r base t v→∀cs,v≠.agg cs:=by
  rintro hc cs rfl;unfold Cell.okWide at hc;rw[hu] at hc;cases u<;>simp[Cell.ok,hu] at hc
 cases u with
 |struct fs=>obtain⟨cs,h,_⟩:=hv;exact R0 ⟨cs,h⟩ h3
 |array m e=>obtain⟨cs,h,_⟩:=hv;exact R0 ⟨cs,h⟩ h3
 |_=>exact me h3 h2 (hcell hv)
theorem wf_u8 {n:Int} (h:(Lit.int .u8 n).wf=true):∃y:UInt8,n=(y.toNat:Nat):=by
 have:0≤n∧n≤255:=by simpa[Lit.wf,IntKind.min,IntKind.max,IntKind.signed,IntKind.bits] using h
 refine⟨UInt8.ofNat n.toNat,?_⟩;rw[show(UInt8.ofNat n.toNat).toNat=n.toNat %256 from rfl];omega
theorem zA {H:Type} {enc:TypeId×Value→H} {t:TypeId} {d:DataW H} {k:IntKind} (h:wt enc P w 0 spare held t v d ps) (ht:P.underlying t=some (.int k)):
  ∃n:Int,iC d=.int k n∧d=.lit (.int k n)∧(Lit.int k n).wf=true:=by
 obtain⟨fuel,h⟩:=h
 cases fuel with
 |zero=>simp[δ] at h
 |succ fuel=>
  unfold δ at h;rw[ht] at h;generalize v.cells.toList=cs at h
  rcases cs with _|⟨v,_|⟨v2,cs⟩⟩<;>try(simp at h;done)
  cases v<;>simp at h
  obtain⟨⟨rfl,hw⟩,rfl,_⟩:=h;exact⟨_,rfl,rfl,hw⟩
theorem F7 {pv:Pv} (h:pv.Ok P∧pv.ka∧ju P pv (fv pv)) {f:Nat} {ds:List D} {ah:St} (hs:Ev pv f ds ⟨[],0,0⟩ (.bool true) ah) {us:List Value} (hl:ds.length=us.length) (hr:∀(i:Nat) c v,ds[i]?=some c→us[i]?=some v→IR w (fun b=>b<w.heap.size) c v):Calls P f us.toArray w fun e w'=>e=.returned (.bool true)∧Below w.heap.size w w':=by
 obtain⟨N,hN⟩:=Ev.out hs;refine(sound h (hN N (v8 _)) (w:=w) (Z:=fun b=>b<w.heap.size) (fun _ h=>h) hl hr).mono fun e w'=>?_;rintro⟨v,β',Z',rfl,he,hv⟩;rw[fq hv];exact⟨rfl,⟨he.os,he.tape,he.output,he.size,fun k hk=>he.block k hk fun f=>f⟩⟩
def Rd {H:Type} (enc:TypeId×Value→H) (P:Program) (w:World) (spare:Nat→Bool) (held:Bool) (t:TypeId) (d:DataW H):Prop:=
 ∃fuel cs ps,δ enc P w 0 spare held fuel t cs=some (d,ps)
section
variable{H:Type} {enc:TypeId×Value→H} {P:Program} {w:World} {spare:Nat→Bool} {held:Bool} {t e:TypeId} {d:DataW H}
theorem Rd.of {v:Value} {ps:List MemPlace} (h:wt enc P w 0 spare held t v d ps):Rd enc P w spare held t d:=by
 obtain⟨fuel,h⟩:=h;exact⟨fuel,_,_,h⟩
theorem Rd.int {k:IntKind} (h:Rd enc P w spare held t d) (ht:P.underlying t=some (.int k)):∃n:Int,d=.lit (.int k n)∧(Lit.int k n).wf=true:=by
 obtain⟨fuel,cs,ps,h⟩:=h
 cases fuel with
 |zero=>simp[δ] at h
 |succ fuel=>
  unfold δ at h;rw[ht] at h
  rcases cs with _|⟨v,_|⟨v2,cs⟩⟩<;>try(simp at h;done)
  cases v<;>simp at h
  obtain⟨⟨rfl,hw⟩,rfl,_⟩:=h;exact⟨_,rfl,hw⟩
theorem Rd.bool (h:Rd enc P w spare held t d) (ht:P.underlying t=some .bool):∃b:Bool,d=.lit (.bool b):=by
 obtain⟨fuel,cs,ps,h⟩:=h
 cases fuel with
 |zero=>simp[δ] at h
 |succ fuel=>
  unfold δ at h;rw[ht] at h
  rcases cs with _|⟨v,_|⟨v2,cs⟩⟩<;>try(simp at h;done)
  cases v<;>simp at h
  obtain⟨rfl,_⟩:=h;exact⟨_,rfl⟩
theorem Rd.string (h:Rd enc P w spare held t d) (ht:P.underlying t=some .string):∃l:List UInt8,d=.lit (.string l):=by
 obtain⟨fuel,cs,ps,h⟩:=h
 cases fuel with
 |zero=>simp[δ] at h
 |succ fuel=>
  unfold δ at h;rw[ht] at h
  rcases cs with _|⟨v,_|⟨v2,cs⟩⟩<;>try(simp at h;done)
  cases v<;>simp at h
  obtain⟨_,rfl,_⟩:=h;exact⟨_,rfl⟩
theorem Rd.slice (h:Rd enc P w spare held t d) (ht:P.underlying t=some (.slice e)):d=.nil∨∃elems rest,d=.slice elems rest∧∀x∈elems,Rd enc P w spare held e x:=by
 obtain⟨fuel,cs,ps,h⟩:=h
 cases fuel with
 |zero=>simp[δ] at h
 |succ fuel=>
  unfold δ at h;rw[ht] at h
  rcases cs with _|⟨v,_|⟨v2,cs⟩⟩<;>try(simp at h;done)
  cases v<;>try(simp at h;done)
  rename_i a len cap
  cases a with
  |none=>
   cases len<;>cases cap<;>simp at h
   obtain⟨rfl,rfl⟩:=h;exact .inl rfl
  |some a=>
   simp only at h
   split at h
   ·simp only[θ,ε] at h;obtain⟨elems,hm,rest,hr,hd⟩:=h;cases hd;refine .inr ⟨_,_,rfl,fun x hx=>?_⟩;obtain⟨y,hy,rfl⟩:=Γ.1 hx;have hlen:elems.length=len:=by simpa using mapM_some_length hm
    have hget:=mapM_some_get hm;obtain⟨i,hi⟩:=Ω hy;have hil:i<len:=by have:=bc hi;omega
    have h1:=hget i i (by simp[hil]);rw[hi] at h1;obtain⟨cs,_,hx⟩:=θ.1 h1;exact⟨fuel,cs,y.2,hx⟩
   ·cases h
theorem rL {α β:Type} {f:α→Option β}:∀{l:List α} {m:List β},l.mapM f=some m→cO (fun a b=>f a=some b) l m
 |[],m,h=>by simp at h;subst h;exact .nil
 |a::l,m,h=>by
  rw[Ξ] at h
  cases h1:f a with
  |none=>rw[h1] at h;simp at h
  |some b=>
   rw[h1] at h
   cases h2:l.mapM f with
   |none=>rw[h2] at h;simp at h
   |some ys=>rw[h2] at h;simp at h;subst h;exact .cons h1 (rL h2)
theorem cO.Qu {α β γ:Type} {R:α→γ→Prop} {f:β→γ}:∀{l:List α} {m:List β},cO (fun a b=>R a (f b)) l m→cO R l (m.map f)
 |_,_,.nil=>.nil
 |_,_,.cons a t=>.cons a t.Qu
theorem Rd.struct {fs:Array Field} (h:Rd enc P w spare held t d) (ht:P.underlying t=some (.struct fs)):∃parts,d=.agg parts∧cO (fun(f:Field) x=>Rd enc P w spare held f.type x) fs.toList parts:=by
 obtain⟨fuel,cs,ps,h⟩:=h
 cases fuel with
 |zero=>simp[δ] at h
 |succ fuel=>
  unfold δ at h;rw[ht] at h;simp only at h
  split at h
  ·obtain⟨xs,hx,hd⟩:=ε.1 h;cases hd;refine⟨_,rfl,?_⟩;exact((rL hx).mono fun f x hfx=>(⟨fuel,_,_,hfx⟩:Rd enc P w spare held f.type x.1)).Qu
  ·cases h
theorem Rd.array {n:Nat} (h:Rd enc P w spare held t d) (ht:P.underlying t=some (.array n e)):∃parts,d=.agg parts∧parts.length=n∧∀x∈parts,Rd enc P w spare held e x:=by
 obtain⟨fuel,cs,ps,h⟩:=h
 cases fuel with
 |zero=>simp[δ] at h
 |succ fuel=>
  unfold δ at h;rw[ht] at h;simp only at h
  split at h
  ·obtain⟨xs,hx,hd⟩:=ε.1 h;cases hd;have h1:=rL hx;refine⟨_,rfl,by have:=h1.len;simp at this;simp[←this],fun x UK=>?_⟩;obtain⟨y,hy,rfl⟩:=Γ.1 UK
   have key:∀{l:List Nat} {m:List (DataW H×List MemPlace)},cO (fun i x=>δ enc P w 0 spare held fuel e ((cs.drop (i*P.cellsOf e)).take (P.cellsOf e))=some x) l m→∀y∈m,Rd enc P w spare held e y.1:=by
    intro l m h
    induction h with
    |nil=>intro y hy;cases hy
    |cons a t ih=>
     intro y hy
     rcases ξ.1 hy with rfl|hy
     ·exact⟨fuel,_,_,a⟩
     ·exact ih y hy
   exact key h1 y hy
  ·cases h
end
theorem ML {H α:Type} {s:Nat} {f:α→List D} {Q:α→DataW H→Prop} {elems rest:List (DataW H)} (h:∀x∈elems,∃a,(iC x).cells?=some (iC x).cells∧(iC x).cells=f a∧(f a).length=s∧Q a x):
  ∃ws:List α,fg (iC (.slice elems rest)) s (ws.map f)∧ws.length=elems.length∧∀a∈ws,∃x∈elems,Q a x:=by
 have key:∃ws:List α,(elems.map iC).map D.cells=ws.map f∧(∀d∈elems.map iC,d.cells?=some d.cells∧d.cells.length=s)∧ws.length=elems.length∧∀a∈ws,∃x∈elems,Q a x:=by
  induction elems with
  |nil=>exact⟨[],rfl,fun d hd=>(by cases hd),rfl,fun a ha=>by cases ha⟩
  |cons x l ih=>
   obtain⟨ws,h1,h2,h3,h4⟩:=ih fun y hy=>h y (ρ _ hy);obtain⟨a,g1,g2,g3,g4⟩:=h x (κ ..);refine⟨a::ws,by simp only[ν,h1,g2],fun d hd=>?_,by simp[h3],fun b hb=>?_⟩
   ·simp only[ν,ξ] at hd
    rcases hd with rfl|hd
    ·exact⟨g1,by rw[g2];exact g3⟩
    ·exact h2 d hd
   ·rcases ξ.1 hb with rfl|hb
    ·exact⟨x,κ ..,g4⟩
    ·obtain⟨y,hy,hq⟩:=h4 b hb;exact⟨y,ρ _ hy,hq⟩
 obtain⟨ws,h1,h2,h3,h4⟩:=key;refine⟨ws,.inr ⟨elems.map iC,?_,h1,h2⟩,h3,h4⟩;show D.sl (zr elems)=_;rw[vQ]
end Go.V
namespace Go.Proofs.YtkbacjpologjbaaGreat
theorem J6 {H:Type} (d:DataW H):1≤Rows.uptoBulk d:=by
 cases d with
 |lit l=>cases l<;>simp[Rows.uptoBulk]
 |_=>simp[Rows.uptoBulk]
theorem BZ {H:Type} (l:List (DataW H)):l.length≤Rows.uptoBulkAll l:=by
 induction l with
 |nil=>simp[Rows.uptoBulkAll]
 |cons x r ih=>have:=J6 x;simp only[Rows.uptoBulkAll,IS];omega
end Go.Proofs.YtkbacjpologjbaaGreat
namespace Go.Proofs.YtkbacjpologjbaaGreat
open Go.V Go Go.RowKit
variable{H:Type} {enc:TypeId×Value→H} {w:World} {spare:Nat→Bool} {held:Bool} {d:DataW H}
theorem J7 {H:Type} {l:List (DataW H)} {x:DataW H} (h:x∈l):Rows.uptoBulk x≤Rows.uptoBulkAll l:=by
 induction l with
 |nil=>cases h
 |cons y l ih=>
  simp only[Rows.uptoBulkAll]
  rcases ξ.1 h with rfl|h
  ·omega
  ·have:=ih h;omega
end Go.Proofs.YtkbacjpologjbaaGreat
namespace Go.Proofs.YtkbacjpologjbaaGreat
open Go.V Go Go.RowKit
variable{H:Type} {enc:TypeId×Value→H} {w:World} {spare:Nat→Bool} {held:Bool} {d:DataW H}
theorem Kb (h:Rd enc Tryz.prog w spare held 22 d):∃(y:D) (ps:List (List UInt8)),iC d=y∧fg y 1 (ps.map Ci)∧(Rows.uptoBulk d≤1048576→ps.length≤1048576∧∀b∈ps,b.length≤1048576):=by
 rcases h.slice Tryz.underlying22 with rfl|⟨elems,rest,rfl,he⟩
 ·exact⟨_,[],rfl,.inl ⟨rfl,rfl⟩,fun _=>⟨by simp,fun b hb=>(by cases hb)⟩⟩
 ·obtain⟨l,h1,h2,h3⟩:=ML (s:=1) (f:=Ci) (Q:=fun(b:List UInt8) x=>b.length≤Rows.uptoBulk x) (rest:=rest) fun x hx=>by
   obtain⟨b,rfl⟩:=(he x hx).string Tryz.underlying9;refine⟨b,rfl,rfl,rfl,?_⟩;simp only[Rows.uptoBulk];omega
  refine⟨_,l,rfl,h1,fun hb=>⟨?_,fun b eW=>?_⟩⟩
  ·have:=BZ elems;simp only[Rows.uptoBulk] at hb;omega
  ·obtain⟨x,hx,h4⟩:=h3 b eW;have:=J7 hx;simp only[Rows.uptoBulk] at hb;omega
end Go.Proofs.YtkbacjpologjbaaGreat
namespace Go.Proofs.YtkbacjpologjbaaGreat
open Go.V Go Go.RowKit
variable{H:Type} {enc:TypeId×Value→H} {w:World} {spare:Nat→Bool} {held:Bool} {d:DataW H}
theorem MD (h:Rd enc Tryz.prog w spare held 23 d):∃(y:D) (b:List UInt8),iC d=y∧fg y 1 (ο b)∧(Rows.uptoBulk d≤1048576→b.length≤1048576):=by
 rcases h.slice Tryz.underlying23 with rfl|⟨elems,rest,rfl,he⟩
 ·exact⟨_,[],rfl,.inl ⟨rfl,rfl⟩,fun _=>by simp⟩
 ·obtain⟨l,h1,h2,_⟩:=ML (s:=1) (f:=fun c:UInt8=>[.int .u8 (c.toNat:Nat)]) (Q:=fun _ _=>True) (rest:=rest) fun x hx=>by
   obtain⟨n,rfl,hw⟩:=(he x hx).int Tryz.underlying5;obtain⟨c,rfl⟩:=wf_u8 hw;exact⟨c,rfl,rfl,rfl,trivial⟩
  refine⟨_,l,rfl,h1,fun hb=>?_⟩;have:=BZ elems;simp only[Rows.uptoBulk] at hb;omega
end Go.Proofs.YtkbacjpologjbaaGreat
namespace Go.Proofs.YtkbacjpologjbaaGreat
open Go.V Go Go.RowKit
variable{H:Type} {enc:TypeId×Value→H} {w:World} {spare:Nat→Bool} {held:Bool} {d:DataW H}
def Rg.fit (g:Rg):Prop:=-2147483648≤g.1∧g.1≤2147483647∧-2147483648≤g.2∧g.2≤2147483647
end Go.Proofs.YtkbacjpologjbaaGreat
