/-
 May a machine of a program have these lists?
-/
import Derived.Test.YtecjacicdpejaaaGreatWGHr
import Derived.Test.YtecjacicdpejaaaGreatWGYd
import Derived.Test.YtecjacicdpejaaaGreatWGUo
import Derived.Test.YtecjacicdpejaaaGreatWGJi
set_option maxRecDepth 100000
set_option maxHeartbeats 4000000
set_option linter.unusedSimpArgs false
set_option linter.unusedVariables false
open List renaming length_append→γ,append_assoc→δ,length_map→ε,getElem?_eq_getElem→ζ,drop_succ_cons→η,take_succ_cons→θ,mem_of_getElem?→μ,drop_zero→ν,take_zero→ξ,take_of_length_le→ο,range→ρ,length_take→τ,getElem?_append_right→υ,getElem?_append_left→χ,append_nil→Δ,getElem?_map→Ξ,foldl→Φ,map_cons→Ψ,length_nil→Z5,map_append→ZD,mem_of_mem_take→Zn,length_range→Y',length_cons→YH,nil_append→JS,singleton_append→ki,flatten_cons→Bv,cons_append→BY,mem_cons→IT
open Nat renaming le_refl→ι,reduceAdd→κ,le_of_ble_eq_true→ω,or_lt_two_pow→Cf,mod_eq_of_lt→Cr,sub_self→OF
open Go.V renaming Rows→π
open Go.V.Arg renaming of→ς
open Go.V.ab renaming nil→φ,go→Ω,av→Wh,two→xw,c_→GB,bB→P8,QA→Pd
open Go.V.D renaming cells→ψ,int→LL,bool→PR
open Classical renaming propDecidable→Γ
open Go.V.Has renaming start→Θ,jA→wt
open Option renaming map_some→Q5,map→YQ
open Go.V.Ev renaming eN→Zt,gP→VT
open BitVec renaming ofInt_natCast→v8,toNat_ofNat→Ut,ofInt→IN
open Bool renaming or_eq_false_iff→VQ,not_eq_false'→VM,not_true→IS
namespace Go.Proofs.YtecjacicdpejaaaGreat
open Go.V Go
def dJ (fr:Go.V.Fr) (k:Nat):Go.V.D:=Go.V.nth .bI fr.loc k
structure GV where
 dn:Bool
 bf:j4
 td:D
 bn:List GT
def eo (l:GV):List D:=aX l.dn l.bf l.td
variable{i:Nat}
theorem yp {l:List GV} {q:GV} (h:l[i]?=some q):(l.map eo)[i]?=some (eo q):=by rw[Ξ,h];rfl
def rq (f:j4):Prop:=∀i,i<10→f i=-1
theorem Ly (f:j4):dec (rq f)=(f 0==-1 &&(f 1==-1 &&(f 2==-1 &&(f 3==-1 &&(f 4==-1 &&(f 5==-1 &&(f 6==-1 &&(f 7==-1 &&(f 8==-1 &&f 9==-1))))))))):=by
 by_cases h:rq f
 ·rw[b_ h,h 0 (by decide),h 1 (by decide),h 2 (by decide),h 3 (by decide),h 4 (by decide),h 5 (by decide),h 6 (by decide),h 7 (by decide),h 8 (by decide),h 9 (by decide)];rfl
 ·rw[dp h];refine(Bool.eq_false_iff.2 fun h2=>h ?_).symm;simp only[Bool.and_eq_true,beq_iff_eq] at h2;intro i hi
  match i,hi with
  |0,_=>exact h2.1
  |1,_=>exact h2.2.1
  |2,_=>exact h2.2.2.1
  |3,_=>exact h2.2.2.2.1
  |4,_=>exact h2.2.2.2.2.1
  |5,_=>exact h2.2.2.2.2.2.1
  |6,_=>exact h2.2.2.2.2.2.2.1
  |7,_=>exact h2.2.2.2.2.2.2.2.1
  |8,_=>exact h2.2.2.2.2.2.2.2.2.1
  |9,_=>exact h2.2.2.2.2.2.2.2.2.2
theorem DB (f:j4):fw pv .neq 48 (.agg (aA f)) (.agg (aA bK))=some (.bool (!dec (rq f))):=by
 have h:∀a b c d e g i j k l n:Int,fw pv .neq 48 (.agg [.int .i64 a,.int .i64 b,.int .i64 c,.int .i64 d,.int .i64 e,.int .i64 g,.int .i64 i,.int .i64 j,.int .i64 k,.int .i64 l]) (.agg [.int .i64 n,.int .i64 n,.int .i64 n,.int .i64 n,.int .i64 n,.int .i64 n,.int .i64 n,.int .i64 n,.int .i64 n,.int .i64 n])=YQ (fun b=>PR !b) (match some (a==n) with|some true=>(match some (b==n) with|some true=>(match some (c==n) with|some true=>(match some (d==n) with|some true=>(match some (e==n) with|some true=>(match some (g==n) with|some true=>(match some (i==n) with|some true=>(match some (j==n) with|some true=>(match some (k==n) with|some true=>(match some (l==n) with|some true=>some true|some false=>some false|none=>none)|some false=>some false|none=>none)|some false=>some false|none=>none)|some false=>some false|none=>none)|some false=>some false|none=>none)|some false=>some false|none=>none)|some false=>some false|none=>none)|some false=>some false|none=>none)|some false=>some false|none=>none)|some false=>some false|none=>none):=fun _ _ _ _ _ _ _ _ _ _ _=>rfl;rw[Ly];unfold aA;rw[show bK 0=-1 from rfl,show bK 1=-1 from rfl,show bK 2=-1 from rfl,show bK 3=-1 from rfl,show bK 4=-1 from rfl,show bK 5=-1 from rfl,show bK 6=-1 from rfl,show bK 7=-1 from rfl,show bK 8=-1 from rfl,show bK 9=-1 from rfl];rw[h];generalize(f 0==-1)=b0;generalize(f 1==-1)=b1;generalize(f 2==-1)=b2;generalize(f 3==-1)=b3;generalize(f 4==-1)=b4;generalize(f 5==-1)=b5;generalize(f 6==-1)=b6;generalize(f 7==-1)=b7;generalize(f 8==-1)=b8;generalize(f 9==-1)=b9;cases b0
 ·rfl
 cases b1
 ·rfl
 cases b2
 ·rfl
 cases b3
 ·rfl
 cases b4
 ·rfl
 cases b5
 ·rfl
 cases b6
 ·rfl
 cases b7
 ·rfl
 cases b8
 ·rfl
 cases b9<;>rfl
def A' (p:Pg) (place:Int) (L:List GV) (m:Nat):Prop:=∀r l s,r<m→L[r]?=some l→p.ak[r]?=some s→(l.dn=true∨rq l.bf)∧cz l.bf place∧lP p s l.bn place l.bn.length
structure dr (p:Pg) (place:Int) (L:List GV):Prop where
 right:bm p
 ge:0≤place
 le:place≤1099511627776
 len:L.length=p.ak.length
 each:A' p place L L.length
variable{l:GV}{p:Pg}{place:Int}{L:List GV}
theorem A'.succ {m:Nat} {s:Int} (h:A' p place L m) (hl:L[m]?=some l) (hs:p.ak[m]?=some s) (h1:(l.dn=true∨rq l.bf)∧cz l.bf place∧lP p s l.bn place l.bn.length):A' p place L (m+1):=by
 intro r l' s' hr j7 qG
 by_cases he:r=m
 ·subst he;rw[hl] at j7;cases j7;rw[hs] at qG;cases qG;exact h1
 ·exact h r l' s' (by omega) j7 qG
def G8 (st:St) (x:D) (L:List GV):Prop:=π st 12 x (L.map eo)∧L.length≤1048576∧∀l∈L,π st 11 l.td (l.bn.map dA)∧l.bn.length≤1048576
variable{s0:St}{x:D}
theorem CN (dE:∀st,Ev pv 149 [] st (.agg (aA bK)) st) (hp:p.ok) (hx:G8 s0 x L) (place:Int):
  Ev pv 96 [p.d,.agg [.int .i64 place,x]] s0 (.bool (dec (dr p place L))) s0:=by
 obtain⟨hx,zq,LY⟩:=hx;have kX:=hp.sl;refine VT rfl abd rfl rfl rfl ?_;refine zE ?_;obtain⟨aN,hF,hH⟩:=ri s0;generalize ae .ro s0=S at*;have hs:=hp.s.arg s0.bs.length S;have hla:=ς hx aN;have hcr:=fun st=>mT (s0:=st) hp;have UN:=fun{st:St} (hR:bm p) {r:Nat} {s:Int} (hr:p.ak[r]?=some s) {dn:Bool} {b:j4} {td:D} {bn:List GT} (Au:π st 11 td (bn.map dA)) (hl:bn.length≤1048576)=>Km (s0:=st) hp hR hr (dn:=dn) (b:=b) Au hl place;unfold Pg.d at*;refine zQ 2 ?_;refine qb hH fun k2 st hk2 hH=>?_;dsimp only[u2,u1,u3,u4,setMany,u5,u6,ψ,κ,aJ,aX,aA,az,Pg.cs,dA,eo] at hH;refine qb hH fun k3 st oC hH=>?_;refine zQ 4 ?_;refine ag.oM 28 (.bool (((!dec (bm p)||decide (place<0))||decide (place>1099511627776))||(((L.length:Nat):Int) !=((p.ak.length:Nat):Int)))) [7,8,9,10,11,12,13,14,15,16,17,18,19,20,21,22,23,24,25,26,27] ?_ (fun ff tmp=>?_)
 ·refine Wh (m:=2) hH rfl (ev rfl) (by exact aO) (by dsimp only[η,ν,θ,ξ,aJ,aX,aA,az,Pg.cs,dA,eo]<;>rfl) rfl rfl (by dsimp only[Fr.put,u1,u2]<;>rfl) ?_;refine qv ((hcr _)) ?_;refine zQ 2 ?_;refine xw 10 rfl (fun bZ=>?_) (fun bZ=>?_)
  ·refine zQ 18 ?_;refine φ (bu ?_);refine zG ?_
   all_goals(simp[bZ];done)
  ·refine zQ 5 ?_;refine xw 15 rfl (fun dL=>?_) (fun dL=>?_)
   ·refine zQ 13 ?_;refine φ (bu ?_);refine zG ?_
    all_goals(simp[bZ,dL];done)
   ·refine zQ 5 ?_;refine xw 20 rfl (fun gA=>?_) (fun gA=>?_)
    ·refine zQ 8 ?_;refine φ (bu ?_);refine zG ?_
     all_goals(simp[bZ,dL,gA];done)
    ·refine zQ 2 ?_;refine qn ?_ (hg:=wi gA);simp only[ε];refine zQ 2 ?_;refine qn ?_ (hg:=wi gA);simp only[ε];refine zQ 2 ?_;refine φ (bu ?_);refine zG ?_
     all_goals(simp[bZ,dL,gA];done)
 dsimp only[aK,Φ,nth,u2,u1];generalize ff 7=e7;generalize ff 8=e8;generalize ff 9=e9;generalize ff 10=e10;generalize ff 11=e11;generalize ff 12=e12;generalize ff 13=e13;generalize ff 14=e14;generalize ff 15=e15;generalize ff 16=e16;generalize ff 17=e17;generalize ff 18=e18;generalize ff 19=e19;generalize ff 20=e20;generalize ff 21=e21;generalize ff 22=e22;generalize ff 23=e23;generalize ff 24=e24;generalize ff 25=e25;generalize ff 26=e26;generalize ff 27=e27;refine qc (fun h0=>?_) (fun h0=>?_)<;>try simp only[cs] at h0
 ·rw[dp (q:=dr p place L) (fun h=>by
   rw[b_ h.right] at h0;have h1:=h.ge;have h2:=h.le;have h3:=h.len
   simp at h0;omega)]
  refine zQ 4 ?_;refine ag.ret ⟨rx,_,rfl,rl aN hH (rfl)⟩
 ·refine zQ 1 ?_
  have h0:bm p∧0≤place∧place≤1099511627776∧L.length=p.ak.length:=by
   simp only[VQ,decide_eq_false_iff_not,VM] at h0;obtain⟨⟨⟨h1,h2⟩,h3⟩,h4⟩:=h0;refine⟨@of_decide_eq_true _ (Γ _) h1,by omega,by omega,?_⟩;simp at h4;omega
  obtain⟨hR,hge,hle,hLs⟩:=h0;refine zQ 5 ?_;refine qn ?_;simp only[ε];refine zQ 3 ?_;refine ag.loop (fun mm fr st=>∃(r:Nat),fr.clean=⟨33,[dJ fr 0,dJ fr 1,.ptr k2 0 0,.ptr k3 0 0,dJ fr 4,dJ fr 5,dJ fr 6,dJ fr 7,dJ fr 8,dJ fr 9,dJ fr 10,dJ fr 11,dJ fr 12,dJ fr 13,dJ fr 14,dJ fr 15,dJ fr 16,dJ fr 17,dJ fr 18,dJ fr 19,dJ fr 20,dJ fr 21,dJ fr 22,dJ fr 23,dJ fr 24,dJ fr 25,dJ fr 26,dJ fr 27,dJ fr 28,dJ fr 29,x,.int .i64 (L.length:Nat),.int .i64 (r:Nat)],[]⟩∧Has s0.bs.length S st [.box k3 (.mem 0 false [.int .i64 place,x]),.box k2 (.mem 0 false [p.cd,p.sd])]∧(r+mm=L.length)∧(A' p place L r)) (L.length) ?_ ?_
  ·exact⟨0,rfl,hH,by omega,by intro r l s h;omega⟩
  rintro mm fr st ⟨r,hfr,hH,hi,hw⟩;rw[hfr];clear hfr;generalize dJ fr=ee;clear fr;refine zQ 5 ?_;refine zP (fun h1=>?_) fun h1=>?_
  ·refine zQ 1 ?_
   obtain⟨l,hl⟩:∃l,L[r]?=some l:=⟨L[r]'(by omega),ζ _⟩
   obtain⟨s,nA⟩:∃s,p.ak[r]?=some s:=⟨p.ak[r]'(by omega),ζ _⟩
   obtain⟨Au,mO⟩:=LY l (μ hl);have N6:=ς Au aN;have gw:=yp hl;refine zQ 5 ?_;refine qr fun Ug Me=>?_;refine GB rfl (ev rfl) (by assumption) rfl (aa rfl _) ?_;refine qa hH fun k6 st Gj hH=>?_;refine qm ?_;refine qS hH aB fun st hH=>?_;dsimp only[u2,u1,u3,u4,setMany,u5,u6,ψ,κ,aJ,aX,aA,az,Pg.cs,dA,eo] at hH;refine zQ 2 ?_;refine ag.dM 62 (.bool (((!l.dn &&!dec (rq l.bf))||!dec (cz l.bf place))||!dec (lP p s l.bn place l.bn.length))) [] ?_ (fun ff tmp dj=>?_)
   ·refine zQ 4 ?_;refine xw 40 rfl (fun bZ=>?_) (fun bZ=>?_)
    ·refine zQ 1 ?_;refine Wh (m:=10) hH (af rfl rfl rfl bZ) (ev rfl) (by exact aB) (by dsimp only[η,ν,θ,ξ,aJ,aX,aA,az,Pg.cs,dA,eo]<;>rfl) rfl rfl (aa rfl _) ?_;refine qv (dE _) ?_ (hg:=wi bZ);refine Pd (af rfl rfl rfl bZ) (ev rfl) (ev rfl) (DB l.bf) (aa rfl _) ?_;refine zQ 2 ?_;refine xw 46 rfl (fun gk=>?_) (fun gk=>?_)
     ·refine zQ 16 ?_;refine φ (aR ?_ ?_)
      ·dsimp only[aK,Φ,nth,u2,u1]
       all_goals(first|rfl|simp)
      ·refine zF ?_
       all_goals(simp[bZ,gk];done)
     ·refine zQ 1 ?_;refine Wh (m:=10) hH (af rfl rfl rfl gk) (ev rfl) (by exact aB) (by dsimp only[η,ν,θ,ξ,aJ,aX,aA,az,Pg.cs,dA,eo]<;>rfl) rfl rfl (aa rfl _) ?_;refine zQ 2 ?_;refine qv (ug l.bf place) ?_ (hg:=wi gk);refine zQ 3 ?_;refine xw 54 rfl (fun dz=>?_) (fun dz=>?_)
      ·refine zQ 8 ?_;refine φ (aR ?_ ?_)
       ·dsimp only[aK,Φ,nth,u2,u1]
        all_goals(first|rfl|simp)
       ·refine zF ?_
        all_goals(simp[bZ,gk,dz];done)
      ·refine Wh (m:=2) hH (af rfl rfl rfl dz) (ev rfl) (by exact a_) (by dsimp only[η,ν,θ,ξ,aJ,aX,aA,az,Pg.cs,dA,eo]<;>rfl) rfl rfl (aa rfl _) ?_;refine zQ 1 ?_;refine Wh (m:=12) hH (af rfl rfl rfl dz) (ev rfl) (by exact aB) (by dsimp only[η,ν,θ,ξ,aJ,aX,aA,az,Pg.cs,dA,eo]<;>rfl) rfl rfl (aa rfl _) ?_;refine zQ 2 ?_;refine qv ((UN hR nA (N6.rows hH) mO)) ?_ (hg:=wi dz);refine zQ 2 ?_;refine φ (aR ?_ ?_)
       ·dsimp only[aK,Φ,nth,u2,u1]
        all_goals(first|rfl|simp)
       ·refine zF ?_
        all_goals(simp[bZ,gk,dz];done)
    ·refine zQ 7 ?_;refine Wh (m:=10) hH rfl (ev rfl) (by exact aB) (by dsimp only[η,ν,θ,ξ,aJ,aX,aA,az,Pg.cs,dA,eo]<;>rfl) rfl rfl (aa rfl _) ?_;refine zQ 2 ?_;refine qv (ug l.bf place) ?_;refine zQ 3 ?_;refine xw 54 rfl (fun dz=>?_) (fun dz=>?_)
     ·refine zQ 8 ?_;refine φ (aR ?_ ?_)
      ·dsimp only[aK,Φ,nth,u2,u1]
       all_goals(first|rfl|simp)
      ·refine zF ?_
       all_goals(simp[bZ,dz];done)
     ·refine Wh (m:=2) hH (af rfl rfl rfl dz) (ev rfl) (by exact a_) (by dsimp only[η,ν,θ,ξ,aJ,aX,aA,az,Pg.cs,dA,eo]<;>rfl) rfl rfl (aa rfl _) ?_;refine zQ 1 ?_;refine Wh (m:=12) hH (af rfl rfl rfl dz) (ev rfl) (by exact aB) (by dsimp only[η,ν,θ,ξ,aJ,aX,aA,az,Pg.cs,dA,eo]<;>rfl) rfl rfl (aa rfl _) ?_;refine zQ 2 ?_;refine qv ((UN hR nA (N6.rows hH) mO)) ?_ (hg:=wi dz);refine zQ 2 ?_;refine φ (aR ?_ ?_)
      ·dsimp only[aK,Φ,nth,u2,u1]
       all_goals(first|rfl|simp)
      ·refine zF ?_
       all_goals(simp[bZ,dz];done)
   refine zG ?_;refine qc (fun h2=>?_) (fun h2=>?_)<;>try simp only[cs] at h2
   ·rw[dp (q:=dr p place L) (fun h=>by
     obtain⟨h3,h4,h5⟩:=h.each r l s (by omega) hl nA;rw[b_ h4,b_ h5] at h2
     rcases h3 with h3|h3
     ·simp[h3] at h2
     ·simp[b_ h3] at h2)]
    refine zQ 4 ?_;refine ag.ret ⟨rx,_,rfl,rl aN hH (rfl)⟩
   ·refine zQ 5 ?_;refine⟨mm-1,by omega,⟨r+1,rfl,hH.drop 1,by omega,?_⟩⟩;simp only[VQ,Bool.and_eq_false_iff,VM] at h2;obtain⟨⟨h3,h4⟩,h5⟩:=h2;refine hw.succ hl nA ⟨?_,@of_decide_eq_true _ (Γ _) h4,@of_decide_eq_true _ (Γ _) h5⟩
    rcases h3 with h3|h3
    ·exact .inl h3
    ·exact .inr (@of_decide_eq_true _ (Γ _) h3)
  ·refine zQ 1 ?_;rw[b_ (q:=dr p place L) ⟨hR,hge,hle,hLs,by rw[show L.length=r by omega];exact hw⟩];refine zQ 4 ?_;refine ag.ret ⟨rx,_,rfl,rl aN hH (rfl)⟩
def di (fr:Go.V.Fr) (k:Nat):Go.V.D:=Go.V.nth .bI fr.loc k
def ei (n:Int):Int:=min (max n (-1)) 9223372036854775806
def pK (f:j4):List UInt8:=((ρ 10).map fun i=>aQ (ei (f i)+1)).flatten
def iX (t:GT):List UInt8:=aQ t.pc++pK t.c
def eX (l:GV):List UInt8:=iw l.dn++(pK l.bf++(aQ (l.bn.length:Nat)++(l.bn.map iX).flatten))
def mM (L:List GV):List UInt8:=aQ (L.length:Nat)++(L.map eX).flatten
def kV (h:List UInt8) (place:Int) (L:List GV):List UInt8:=eK h++(aQ place++mM L)
theorem tv (f:j4):(pK f).length≤90:=by
 have:=kO (f:=fun i=>aQ (ei (f i)+1)) (n:=9) (l:=ρ 10) fun i _=>aV _;rw[Y'] at this;exact this
theorem Bj (t:GT):(iX t).length≤99:=by unfold iX;have:=aV t.pc;have:=tv t.c;rw[γ];omega
theorem yw (f:Bool):(iw f).length≤9:=aV _
theorem xQ (h:l.bn.length≤1000):(eX l).length≤99108:=by
 unfold eX;have:=yw l.dn;have:=tv l.bf;have:=aV (l.bn.length:Nat);have:=kO (f:=iX) (n:=99) (l:=l.bn) fun t _=>Bj t;simp only[γ];omega
def j4.fit (f:j4):Prop:=∀i,i<10→f i≤9223372036854775807
def GT.fit (t:GT):Prop:=t.pc<9223372036854775808∧j4.fit t.c
def GV.fit (l:GV):Prop:=j4.fit l.bf∧∀t∈l.bn,t.fit
theorem A5 (f:j4) (h:i<10):((((ρ 10).take (i+1)).map fun i=>aQ (ei (f i)+1)).flatten)=(((ρ 10).take i).map fun i=>aQ (ei (f i)+1)).flatten++aQ (ei (f i)+1):=
 jQ (f:=fun i=>aQ (ei (f i)+1)) (l:=ρ 10) (by rw[List.getElem?_range h])
variable{b:List UInt8}
theorem xh (hF:s0.flr≤s0.bs.length) (du:s0.ro≤s0.bs.length) (hx:π s0 1 x (byteCells b)) (hl:b.length≤50000000000) (f:j4) (hf:j4.fit f):
  ∃d ai,Ev pv 85 [x,.agg (aA f)] s0 d ai∧kC s0 ai d (b++pK f):=by
 refine Zt rfl abo rfl rfl rfl ?_;refine zE ?_;have aN:(ae .nw s0).bs=s0.bs:=rfl;have hF:(ae .nw s0).flr≤s0.bs.length:=hF;have hH:Has s0.bs.length (ae .nw s0) (ae .nw s0) []:=Θ (ι _) (ι _);generalize ae .nw s0=S at*;have hx:=ς hx aN;refine zQ 2 ?_;refine qb hH fun k3 st oC hH=>?_;dsimp only[u2,u1,u3,u4,setMany,u5,u6,ψ,κ,aA] at hH;refine zQ 5 ?_;refine Wh (m:=10) hH rfl (ev rfl) (by exact aB) (by dsimp only[η,ν,θ,ξ,aA]<;>rfl) rfl rfl (by dsimp only[Fr.put,u1,u2]<;>rfl) ?_;refine zQ 3 ?_;refine ag.loop (fun mm fr st=>∃(i:Nat) (y:D) (E:List bo),fr.clean=⟨9,[y,di fr 1,di fr 2,di fr 3,di fr 4,di fr 5,di fr 6,.agg (aA f),.int .i64 (i:Nat)],[]⟩∧Has s0.bs.length S st (E++[.box k3 (.mem 0 false (aA f))])∧(i+mm=10)∧(π st 1 y (byteCells (b++(((ρ 10).take i).map fun i=>aQ (ei (f i)+1)).flatten)))∧(i=0∨∃E',E=.aF y 1 (byteCells (b++(((ρ 10).take i).map fun i=>aQ (ei (f i)+1)).flatten))::E')) (10) ?_ ?_
 ·exact⟨0,x,[],rfl,hH,by omega,(by simpa using hx.rows hH),.inl rfl⟩
 rintro mm fr st ⟨i,y,E,hfr,hH,hi,hy,hE⟩;rw[hfr];clear hfr;generalize di fr=ee;clear fr;refine zQ 5 ?_;refine zP (fun hlt=>?_) fun hlt=>?_
 ·refine zQ 1 ?_;have nD:i<10:=by omega
  have hfi:=hf i nD;have ej:=A5 f nD;have fT:=kO (f:=fun i=>aQ (ei (f i)+1)) (n:=9) (l:=(ρ 10).take i) fun i _=>aV _;have Ma:((ρ 10).take i).length≤10:=by rw[τ,Y'];omega
  have hb:(E++[bo.box k3 (.mem 0 false (aA f))])[E.length]?=some (.box k3 (.mem 0 false (aA f))):=by rw[υ (ι _),OF];rfl
  have oJ:-1≤ei (f i)∧ei (f i)≤9223372036854775806:=by unfold ei;omega
  have S4:(b++(((ρ 10).take i).map fun i=>aQ (ei (f i)+1)).flatten).length≤60000000000:=by rw[γ];omega
  generalize hP:b++(((ρ 10).take i).map fun i=>aQ (ei (f i)+1)).flatten=P at*;refine zQ 4 ?_;refine Ω (d:=.int .i64 (f i)) (st1:=_) rfl rfl (EM nD) (aa rfl _) ?_;refine zQ 5 ?_;refine ab.Je (t1:=0) (t2:=0) rfl (ev rfl) (ev rfl) (aa rfl _) ?_;refine ab.LG (t1:=0) (t2:=0) rfl (ev rfl) (ev rfl) (aa rfl _) ?_;refine ab.e_ (z:=ei (f i)+1) rfl (ev rfl) (ev rfl) (by show bJ .i64 (ei (f i)+1)=_;exact wrap_i64 (by omega) (by omega)) (aa rfl _) ?_;obtain⟨dn,st,ax,ho⟩:=eR (x:=y) (b:=P) (hH.de hF).1 (hH.de hF).2 hy S4 (ei (f i)+1) (by omega);have hH:=hH.hY ho;refine qv ax ?_;refine zQ 2 ?_;have hH:Has s0.bs.length S st ((.aF dn 1 (byteCells (P++aQ (ei (f i)+1)))::E)++[.box k3 (.mem 0 false (aA f))]):=hH;have kL:π st 1 dn (byteCells (P++aQ (ei (f i)+1))):=hH.rows (j:=0) rfl;refine zQ 4 ?_;exact⟨mm-1,by omega,⟨i+1,dn,_,rfl,hH,by omega,(by rw[ej,←δ,hP];exact kL),.inr ⟨E,by rw[ej,←δ,hP]⟩⟩⟩
 ·refine zQ 1 ?_;have nD:i=10:=by omega
  subst nD
  rcases hE with h|⟨E',rfl⟩
  ·omega
  refine zQ 5 ?_;refine ag.ret ⟨rx,_,_,_,rfl,rfl,?_⟩;exact(hH.take 1).dU aN du
theorem xf (hF:s0.flr≤s0.bs.length) (du:s0.ro≤s0.bs.length) (hx:π s0 1 x (byteCells b)) (hl:b.length≤50000000000) (f:j4) (hf:j4.fit f):
  ∃d ai,Ev pv 89 [x,.agg (aA f)] s0 d ai∧kC s0 ai d (b++pK f):=by
 refine Zt rfl abk rfl rfl rfl ?_;refine zE ?_;have aN:(ae .nw s0).bs=s0.bs:=rfl;have hF:(ae .nw s0).flr≤s0.bs.length:=hF;have hH:Has s0.bs.length (ae .nw s0) (ae .nw s0) []:=Θ (ι _) (ι _);generalize ae .nw s0=S at*;have hx:=ς hx aN;refine zQ 2 ?_;refine qb hH fun k3 st oC hH=>?_;dsimp only[u2,u1,u3,u4,setMany,u5,u6,ψ,κ,aA] at hH;refine zQ 8 ?_;refine ag.loop (fun mm fr st=>∃(i:Nat) (y:D) (E:List bo),fr.clean=⟨7,[y,di fr 1,di fr 2,.ptr k3 0 0,di fr 4,.int .i64 (i:Nat),di fr 6],[]⟩∧Has s0.bs.length S st (E++[.box k3 (.mem 0 false (aA f))])∧(i+mm=10)∧(π st 1 y (byteCells (b++(((ρ 10).take i).map fun i=>aQ (ei (f i)+1)).flatten)))∧(i=0∨∃E',E=.aF y 1 (byteCells (b++(((ρ 10).take i).map fun i=>aQ (ei (f i)+1)).flatten))::E')) (10) ?_ ?_
 ·exact⟨0,x,[],rfl,hH,by omega,(by simpa using hx.rows hH),.inl rfl⟩
 rintro mm fr st ⟨i,y,E,hfr,hH,hi,hy,hE⟩;rw[hfr];clear hfr;generalize di fr=ee;clear fr;refine zQ 6 ?_;refine zP (fun hlt=>?_) fun hlt=>?_
 ·refine zQ 1 ?_;have nD:i<10:=by omega
  have hfi:=hf i nD;have ej:=A5 f nD;have fT:=kO (f:=fun i=>aQ (ei (f i)+1)) (n:=9) (l:=(ρ 10).take i) fun i _=>aV _;have Ma:((ρ 10).take i).length≤10:=by rw[τ,Y'];omega
  have hb:(E++[bo.box k3 (.mem 0 false (aA f))])[E.length]?=some (.box k3 (.mem 0 false (aA f))):=by rw[υ (ι _),OF];rfl
  have oJ:-1≤ei (f i)∧ei (f i)≤9223372036854775806:=by unfold ei;omega
  have S4:(b++(((ρ 10).take i).map fun i=>aQ (ei (f i)+1)).flatten).length≤60000000000:=by rw[γ];omega
  generalize hP:b++(((ρ 10).take i).map fun i=>aQ (ei (f i)+1)).flatten=P at*;refine zQ 5 ?_;refine Ω (d:=.ptr k3 0 (0+i*1)) (st1:=_) rfl rfl (Cn nD) (aa rfl _) ?_;refine ab.iv hH rfl rfl hb (uS nD) (aa rfl _) ?_;refine zQ 2 ?_
  obtain⟨mx,TN⟩:∃mx,max (f i) (-1)=mx:=⟨_,rfl⟩
  refine zQ 2 ?_;refine ag.jI (fun fr st=>∃(tmp:List (Nat×D)),fr=⟨7,[y,di fr 1,di fr 2,.ptr k3 0 0,di fr 4,.int .i64 (i:Nat),.int .i64 mx],tmp⟩∧Has s0.bs.length S st (E++[.box k3 (.mem 0 false (aA f))])∧(π st 1 y (byteCells P))) ?_ ?_
  ·refine zQ 4 ?_;refine zP (fun h1=>?_) fun h1=>?_
   ·refine zQ 3 ?_;obtain rfl:mx=-1:=by omega
    exact⟨_,rfl,hH,hy⟩
   ·refine zQ 1 ?_;obtain rfl:mx=f i:=by omega
    exact⟨_,rfl,hH,hy⟩
  ·rintro fr st ⟨tmp,hfr,hH,hy⟩;rw[hfr];clear hfr;generalize di fr=ee;clear fr;refine zQ 2 ?_;refine ag.jI (fun fr st=>∃(tmp:List (Nat×D)),fr=⟨7,[y,di fr 1,di fr 2,.ptr k3 0 0,di fr 4,.int .i64 (i:Nat),.int .i64 (ei (f i))],tmp⟩∧Has s0.bs.length S st (E++[.box k3 (.mem 0 false (aA f))])∧(π st 1 y (byteCells P))) ?_ ?_
   ·refine zQ 4 ?_;refine zI (fun h2=>?_) fun h2=>?_
    ·have e8:mx-1=ei (f i):=by unfold ei;omega
     refine zQ 2 ?_;refine ab.gd (z:=ei (f i)) rfl (ev rfl) (ev rfl) (by rw[e8];exact wrap_i64 (by omega) (by omega)) (aa rfl _) ?_;refine zQ 2 ?_;exact⟨_,rfl,hH,hy⟩
    ·refine zQ 1 ?_;have e:mx=ei (f i):=by unfold ei;omega
     subst e;exact⟨_,rfl,hH,hy⟩
   ·rintro fr st ⟨tmp,hfr,hH,hy⟩;rw[hfr];clear hfr;generalize di fr=ee;clear fr;refine zQ 3 ?_;refine ab.e_ (z:=ei (f i)+1) rfl (ev rfl) (ev rfl) (by(try simp only[List.length_reverse,YH,Z5,γ,ε,List.length_set]);rw[wrap_i64 (by omega) (by omega)]<;>omega) (aa rfl _) ?_;obtain⟨dn,st,ax,ho⟩:=eG (x:=y) (b:=P) (hH.de hF).1 (hH.de hF).2 hy S4 (ei (f i)+1) (by omega);have hH:=hH.hY ho;refine qv ax ?_;refine zQ 2 ?_;have hH:Has s0.bs.length S st ((.aF dn 1 (byteCells (P++aQ (ei (f i)+1)))::E)++[.box k3 (.mem 0 false (aA f))]):=hH;have kL:π st 1 dn (byteCells (P++aQ (ei (f i)+1))):=hH.rows (j:=0) rfl;refine zQ 5 ?_;exact⟨mm-1,by omega,⟨i+1,dn,_,rfl,hH,by omega,(by rw[ej,←δ,hP];exact kL),.inr ⟨E,by rw[ej,←δ,hP]⟩⟩⟩
 ·refine zQ 1 ?_;have nD:i=10:=by omega
  subst nD
  rcases hE with h|⟨E',rfl⟩
  ·omega
  refine zQ 5 ?_;refine ag.ret ⟨rx,_,_,_,rfl,rfl,?_⟩;exact(hH.take 1).dU aN du
theorem Ud (hF:s0.flr≤s0.bs.length) (du:s0.ro≤s0.bs.length) (hx:π s0 1 x (byteCells b)) (hl:b.length≤40000000000) {t:GT} (ht:t.fit):
  ∃d ai,Ev pv 88 [x,.agg (dA t)] s0 d ai∧kC s0 ai d (b++iX t):=by
 have jX:=aV t.pc;refine Zt rfl abl rfl rfl rfl ?_;refine zE ?_;have aN:(ae .nw s0).bs=s0.bs:=rfl;have hF:(ae .nw s0).flr≤s0.bs.length:=hF;have hH:Has s0.bs.length (ae .nw s0) (ae .nw s0) []:=Θ (ι _) (ι _);generalize ae .nw s0=S at*;have hx:=ς hx aN;refine zQ 2 ?_;refine qb hH fun k3 st oC hH=>?_;dsimp only[u2,u1,u3,u4,setMany,u5,u6,ψ,κ,dA] at hH;refine zQ 7 ?_;obtain⟨cO,cM⟩:=hH.de hF;obtain⟨d8,st,ax,ho⟩:=eR (x:=x) (b:=b) cO cM (hx.rows hH) (by omega) t.pc ht.1;have hH:=hH.hY ho
 (try dsimp only[u3,u4] at hH)
 refine qv ax ?_;refine zQ 1 ?_;refine Wh (m:=10) hH rfl (ev rfl) aO (by dsimp only[η,ν,θ,ξ]<;>rfl) rfl rfl (aa rfl _) ?_;obtain⟨cO,cM⟩:=hH.de hF;obtain⟨d11,st,ax,ho⟩:=xh (x:=d8) (b:=b++aQ t.pc) cO cM (hH.rows aB) (by rw[γ];omega) t.c ht.2;have hH:=hH.hY ho
 (try dsimp only[u3,u4] at hH)
 refine qv ax ?_;refine zQ 2 ?_;refine ag.ret ⟨rx,_,_,_,rfl,rfl,?_⟩;have h1:=(hH.take 1).dU aN du;unfold kC iX;rw[←δ];exact h1
variable{y:D}
theorem IC {l:List GT} (hF:s0.flr≤s0.bs.length) (du:s0.ro≤s0.bs.length) (hx:π s0 1 x (byteCells b)) (hy:π s0 11 y (l.map dA)) (hl:b.length≤30000000000) (px:l.length≤1000) (rO:∀t∈l,t.fit):
  ∃d ai,Ev pv 87 [x,y,.fn 88 []] s0 d ai∧kC s0 ai d (b++(aQ (l.length:Nat)++((l.map iX).flatten))):=by
 have jX:=aV (l.length:Nat);refine Zt rfl abm rfl rfl rfl ?_;refine zE ?_;have aN:(ae .nw s0).bs=s0.bs:=rfl;have hF:(ae .nw s0).flr≤s0.bs.length:=hF;have hH:Has s0.bs.length (ae .nw s0) (ae .nw s0) []:=Θ (ι _) (ι _);generalize ae .nw s0=S at*;have hx:=ς hx aN;have hy:=ς hy aN;refine zQ 8 ?_;refine qn ?_;simp only[ε];obtain⟨cO,cM⟩:=hH.de hF;obtain⟨d13,st,ax,ho⟩:=eR (x:=x) (b:=b) cO cM (hx.rows hH) (by omega) (l.length:Nat) (by omega);have hH:=hH.hY ho
 (try dsimp only[u3,u4] at hH)
 refine qv ax ?_;refine zQ 6 ?_;refine qn ?_;simp only[ε];refine zQ 3 ?_;refine ag.loop (fun mm fr st=>∃(i:Nat) (o:D),fr.clean=⟨17,[di fr 0,di fr 1,.fn 88 [],di fr 3,di fr 4,di fr 5,di fr 6,o,di fr 8,di fr 9,di fr 10,di fr 11,di fr 12,di fr 13,y,.int .i64 (l.length:Nat),.int .i64 (i:Nat)],[]⟩∧Has s0.bs.length S st [.aF o 1 (byteCells (b++(aQ (l.length:Nat)++(((l.take i).map iX).flatten))))]∧(i+mm=l.length)) (l.length) ?_ ?_
 ·exact⟨0,d13,rfl,(by simpa using hH),by omega⟩
 rintro mm fr st ⟨i,o,hfr,hH,hi⟩;rw[hfr];clear hfr;generalize di fr=ee;clear fr;refine zQ 5 ?_;refine zP (fun hlt=>?_) fun hlt=>?_
 ·refine zQ 1 ?_
  obtain⟨v,hv⟩:∃v,l[i]?=some v:=⟨l[i]'(by omega),ζ _⟩
  have E7:=μ hv;have gw:(l.map dA)[i]?=some (dA v):=by rw[Ξ,hv];rfl
  have ej:=jQ (f:=iX) hv;have Gh:=kO (f:=iX) (n:=99) (l:=l.take i) (fun x hx=>Bj x);have mO:(l.take i).length=i:=by rw[τ];omega
  have fT:(b++(aQ (l.length:Nat)++(((l.take i).map iX).flatten))).length≤40000000000:=by simp only[γ];omega
  generalize hP:b++(aQ (l.length:Nat)++(((l.take i).map iX).flatten))=P at*;refine zQ 4 ?_;refine qr fun Rq Gf=>?_;refine GB rfl (ev rfl) (by assumption) rfl (aa rfl _) ?_;refine qa hH fun k9 st PB hH=>?_;refine qS hH aB fun st hH=>?_;dsimp only[u2,u1,u3,u4,setMany,u5,u6,ψ,κ,dA] at hH;refine zQ 4 ?_;refine Wh (m:=11) hH rfl (ev rfl) (by exact aB) (by dsimp only[η,ν,θ,ξ,dA]<;>rfl) rfl rfl (aa rfl _) ?_;obtain⟨cO,cM⟩:=hH.de hF;obtain⟨d23,st,ax,ho⟩:=Ud (x:=o) (b:=P) cO cM (hH.rows aO) (by omega) (t:=v) (rO v E7);have hH:=hH.hY ho
  (try dsimp only[u3,u4] at hH)
  refine qv ax ?_;refine zQ 6 ?_;exact⟨mm-1,by omega,⟨i+1,d23,rfl,(by rw[ej,←δ (aQ _),←δ b,hP];exact hH.take 1),by omega⟩⟩
 ·refine zQ 1 ?_;rw[ο (by omega)] at hH;refine zQ 5 ?_;refine ag.ret ⟨rx,_,_,_,rfl,rfl,?_⟩;exact hH.dU aN du
theorem Ue (hF:s0.flr≤s0.bs.length) (du:s0.ro≤s0.bs.length) (hx:π s0 1 x (byteCells b)) (hl:b.length≤20000000000) (hr:π s0 11 l.td (l.bn.map dA)) (px:l.bn.length≤1000) (hf:l.fit):
  ∃d ai,Ev pv 84 [x,.agg (eo l)] s0 d ai∧kC s0 ai d (b++eX l):=by
 have jX:=yw l.dn;have CA:=tv l.bf;have hcl:=i7 hr;refine Zt rfl abp rfl rfl rfl ?_;refine zE ?_;have aN:(ae .nw s0).bs=s0.bs:=rfl;have hF:(ae .nw s0).flr≤s0.bs.length:=hF;have hH:Has s0.bs.length (ae .nw s0) (ae .nw s0) []:=Θ (ι _) (ι _);generalize ae .nw s0=S at*;have hx:=ς hx aN;have hr:=ς hr aN;refine zQ 2 ?_;refine qb hH fun k3 st oC hH=>?_;dsimp only[u2,u1,u3,u4,setMany,u5,u6,ψ,κ,eo,aX,aA] at hH;refine zQ 7 ?_;refine qv ((Ko (hx.rows hH) (by omega) l.dn)) ?_;refine zQ 1 ?_;refine Wh (m:=10) hH rfl (ev rfl) aB (by dsimp only[η,ν,θ,ξ]<;>rfl) rfl rfl (aa rfl _) ?_;obtain⟨cO,cM⟩:=hH.de hF;obtain⟨d11,st,ax,ho⟩:=xh (x:=bF (b++iw l.dn)) (b:=b++iw l.dn) cO cM (g_ _ _) (by rw[γ];omega) l.bf hf.1;have hH:=hH.hY ho
 (try dsimp only[u3,u4] at hH)
 refine qv ax ?_;refine zQ 7 ?_;obtain⟨cO,cM⟩:=hH.de hF;obtain⟨d15,st,ax,ho⟩:=IC (x:=d11) (b:=(b++iw l.dn)++pK l.bf) cO cM (hH.rows aB) (hr.rows hH) (by simp only[γ];omega) px hf.2;have hH:=hH.hY ho
 (try dsimp only[u3,u4] at hH)
 refine qv ax ?_;refine zQ 2 ?_;refine ag.ret ⟨rx,_,_,_,rfl,rfl,?_⟩;have h1:=(hH.take 1).dU aN du;unfold kC eX;simp only[δ] at h1⊢;exact h1
def uG (fr:Go.V.Fr) (k:Nat):Go.V.D:=Go.V.nth .bI fr.loc k
variable{st:St}{es:List (List D)}
theorem vh {s:Nat} (h:π st s x es):x.cells=[x]:=by cases h<;>rfl
theorem ng (st:St):π st 1 .nul (byteCells []):=.nul
theorem KA {d:D} (hx:π s0 1 x [[d]]) (hd:π s0 1 d (byteCells b)) (hl:b.length≤1000000000000):Ev pv 70 [x] s0 (nf (k_ 0#32 b)) s0:=by
 refine VT rfl abD rfl rfl rfl ?_;refine zE ?_;obtain⟨aN,hF,hH⟩:=ri s0;generalize ae .ro s0=S at*;have hx:=ς hx aN;have hd:=ς hd aN;refine zQ 12 ?_;refine qn ?_;simp only[YH,Z5];refine zQ 3 ?_;refine ag.loop (fun mm fr st=>∃(i:Nat) (c:BitVec 32),fr.clean=⟨9,[uG fr 0,uG fr 1,uG fr 2,nf c,uG fr 4,uG fr 5,x,.int .i64 1,.int .i64 (i:Nat)],[]⟩∧Has s0.bs.length S st []∧(i+mm=1)∧(c=if i=0 then 0#32 else k_ 0#32 b)) (1) ?_ ?_
 ·exact⟨0,0#32,rfl,hH,by omega,rfl⟩
 rintro mm fr st ⟨i,c,hfr,hH,hi,hc⟩;rw[hfr];clear hfr;generalize uG fr=ee;clear fr;refine zQ 5 ?_;refine zP (fun hlt=>?_) fun hlt=>?_
 ·refine zQ 1 ?_;have hi0:i=0:=by omega
  subst hi0;have gw:([[d]]:List (List D))[0]?=some [d]:=rfl;refine zQ 4 ?_;refine qr fun TE Jt=>?_;refine zQ 3 ?_;have hc:c=0#32:=hc;subst hc;refine zQ 3 ?_;refine qv (Qy (hd.rows hH) hl _) ?_;refine zQ 6 ?_;exact⟨0,by omega,⟨1,k_ 0#32 b,rfl,hH,by omega,rfl⟩⟩
 ·refine zQ 1 ?_;rw[if_neg (by omega)] at hc;subst hc;refine zQ 5 ?_;refine ag.ret ⟨rx,_,rfl,rl aN hH (rfl)⟩
def Ed (u v:BitVec 32):Int:=(((u.toNat*65536)|||(v &&&65535#32).toNat:Nat):Int)
theorem s8 (u v:BitVec 32):0≤Ed u v∧Ed u v<281474976710656:=by
 have h1:u.toNat*65536<2^48:=by have:=u.isLt;omega
 have h2:(v &&&65535#32).toNat<2^48:=by have:=(v &&&65535#32).isLt;omega
 have:=Cf h1 h2;unfold Ed;omega
theorem Bf (u:BitVec 32) (st:St):j8 pv 121 3 (nf u) st=some (.int .i64 (u.toNat:Nat),st):=by
 show some (LL .i64 (bJ .i64 (u.toNat:Nat)),st)=_;rw[ct (by simp only[ic];have:=u.isLt;omega)]
theorem CV (u:BitVec 32) (st:St):(fw pv .shl 3 (.int .i64 (u.toNat:Nat)) (.int .u64 16)).map (fun d=>(d,st))=some (.int .i64 ((u.toNat*65536:Nat):Int),st):=by
 show YQ _ (some (LL .i64 (bJ .i64 ((u.toNat:Nat)*2^16))))=_;rw[show((u.toNat:Nat):Int)*2^16=((u.toNat*65536:Nat):Int) by omega,ct (by simp only[ic];have:=u.isLt;omega)];rfl
theorem Ul (a b:Nat) (ha:a<2^48) (hb:b<2^48) (st:St):(fw pv .or 3 (.int .i64 (a:Nat)) (.int .i64 (b:Nat))).map (fun d=>(d,st))=some (.int .i64 ((a|||b:Nat):Int),st):=by
 show YQ _ (some (LL .i64 (bJ .i64 ((IN 64 (a:Nat)|||IN 64 (b:Nat)).toNat:Nat))))=_;have hlt:=Cf ha hb;rw[v8,v8,BitVec.toNat_or,Ut,Ut,Cr (by omega),Cr (by omega),ct (by simp only[ic];omega)];rfl
theorem H6 (u v:BitVec 32) (st:St):(fw pv .or 3 (.int .i64 ((u.toNat*65536:Nat):Int)) (.int .i64 ((v &&&65535#32).toNat:Nat))).map (fun d=>(d,st))=some (.int .i64 (Ed u v),st):=
 Ul _ _ (by have:=u.isLt;omega) (by have:=(v &&&65535#32).isLt;omega) st
structure Pg.fit (p:Pg):Prop where
 c:∀i∈p.code,i.fit
 s:∀v∈p.ak,v<9223372036854775808
 cl:p.code.length≤1000
noncomputable def cx (p:Pg):Int:=Ed (k_ 0#32 (gy p.code p.ak)) (k_ 1#32 (gy p.code p.ak))
theorem EJ {l:List aP} (h:∀i∈l,i.ok) (hl:l.length≤1000):(rA l).length≤18874404000:=by
 have:=kO (f:=rf) (n:=18874404) (l:=l) fun i hi=>HS (h i hi).2;exact Nat.le_trans this (by omega)
theorem xj (hp:p.ok) (hf:p.fit):(gy p.code p.ak).length≤20000000000:=by
 unfold gy;have h1:=aV (p.ak.length:Nat);have h2:=aV (p.code.length:Nat);have h3:=xz p.ak;have h4:=hp.sl;have h5:=EJ hp.i hf.cl;simp only[γ];omega
theorem qH (hp:p.ok) (hf:p.fit):Ev pv 19 [p.d] s0 (.int .i64 (cx p)) s0:=by
 have fT:=xj hp hf;have nM:=hp.c;have hsd:=hp.s;have kX:=hp.sl;refine VT rfl ab6 rfl rfl rfl ?_;refine zE ?_;obtain⟨aN,hF,hH⟩:=ri s0;generalize ae .ro s0=S at*;have hc:=hp.c.arg s0.bs.length S;have hs:=hp.s.arg s0.bs.length S;unfold Pg.d;have jX:=aV (p.ak.length:Nat);have CA:=xz p.ak;refine zQ 2 ?_;refine qb hH fun k1 st rj hH=>?_;dsimp only[u2,u1,u3,u4,setMany,u5,u6,ψ,κ,Pg.cs] at hH;refine zQ 6 ?_;obtain⟨cO,cM⟩:=hH.de hF;obtain⟨d6,st,ax,ho⟩:=IF (x:=.nul) (b:=[]) cO cM (ng _) (hs.rows hH) (by simp) hp.sl hf.s;have hH:=hH.hY ho
 (try dsimp only[u3,u4] at hH)
 refine qv ax ?_;refine zQ 7 ?_;obtain⟨cO,cM⟩:=hH.de hF;obtain⟨d10,st,ax,ho⟩:=CK (x:=d6) (b:=[]++(aQ (p.ak.length:Nat)++((p.ak.map aQ).flatten))) cO cM (hH.rows aB) (hc.rows hH) (by unfold xA at CA;simp only[γ,JS];omega) hf.cl hp.i hf.c;have hH:=hH.hY ho
 (try dsimp only[u3,u4] at hH)
 refine qv ax ?_;refine zQ 2 ?_
 have hH:Has s0.bs.length S st (.aF d10 1 (byteCells (gy p.code p.ak))::.aF d6 1 (byteCells ([]++(aQ (p.ak.length:Nat)++((p.ak.map aQ).flatten))))::[.box k1 (.mem 0 false [p.cd,p.sd])]):=by
  unfold gy xA rA;simp only[JS,δ] at hH⊢;exact hH
 have hcell:d10.cells?=some d10.cells∧d10.cells.length=1:=by
  rw[vh (hH.rows aB)];exact⟨i7 (hH.rows aB),rfl⟩
 have oK:=vh (hH.rows aB);refine zQ 3 ?_;refine ab.HX (s:=1) (vs:=[d10]) hH rfl rfl rfl rfl rfl (ω rfl) ⟨rfl,(ev rfl),trivial⟩ rfl (by intro v hv;simp only[IT,List.not_mem_nil,or_false] at hv;subst hv;exact hcell) (fun _=>(aa rfl _)) (fun k12 st VH hH=>?_);rw[show List.map ψ [d10]=[[d10]] by rw[Ψ,List.map_nil,oK]] at hH;refine qv (KA (hH.rows aB) (hH.rows aO) (by omega)) ?_;refine Ω (d:=.int .i64 ((k_ 0#32 (gy p.code p.ak)).toNat:Nat)) (st1:=_) rfl rfl (by exact Bf _ _) (aa rfl _) ?_;refine Ω (d:=.int .i64 (((k_ 0#32 (gy p.code p.ak)).toNat*65536:Nat):Int)) (st1:=_) rfl rfl (by exact CV _ _) (aa rfl _) ?_;refine qm ?_;refine qv (Qy (hH.rows aO) (by omega) 1#32) ?_;refine Ω (d:=nf (k_ 1#32 (gy p.code p.ak) &&&65535#32)) (st1:=_) rfl rfl (by exact Cs _ 65535#32 _) (aa rfl _) ?_;refine Ω (d:=.int .i64 ((k_ 1#32 (gy p.code p.ak) &&&65535#32).toNat:Nat)) (st1:=_) rfl rfl (by exact Bf _ _) (aa rfl _) ?_;refine Ω (d:=.int .i64 (cx p)) (st1:=_) rfl rfl (by exact H6 _ _ _) (aa rfl _) ?_;refine zQ 2 ?_;refine ag.ret ⟨rx,_,rfl,rl aN hH (rfl)⟩
def iA (fr:Go.V.Fr) (k:Nat):Go.V.D:=Go.V.nth .bI fr.loc k
theorem I7 (hp:p.ok) (hf:p.fit):Ev pv 78 [p.d] s0 (bF (gy p.code p.ak)) s0:=by
 have fT:=xj hp hf;have nM:=hp.c;have hsd:=hp.s;have kX:=hp.sl;have oI:=hf.cl;refine VT rfl abv rfl rfl rfl ?_;refine zE ?_;obtain⟨aN,hF,hH⟩:=ri s0;generalize ae .ro s0=S at*;have hc:=hp.c.arg s0.bs.length S;have hs:=hp.s.arg s0.bs.length S;unfold Pg.d;have jX:=aV (p.ak.length:Nat);have CA:=xz p.ak;refine zQ 2 ?_;refine qb hH fun k1 st rj hH=>?_;dsimp only[u2,u1,u3,u4,setMany,u5,u6,ψ,κ,Pg.cs,aJ,aw,az] at hH;refine zQ 6 ?_;refine qn ?_;simp only[ε];obtain⟨cO,cM⟩:=hH.de hF;obtain⟨d11,st,ax,ho⟩:=eG (x:=.nul) (b:=[]) cO cM (ng _) (by simp) (p.ak.length:Nat) (by omega);have hH:=hH.hY ho
 (try dsimp only[u3,u4] at hH)
 refine qv ax ?_;refine zQ 8 ?_;refine ag.loop (fun mm fr st=>∃(i:Nat) (y:D),fr.clean=⟨8,[iA fr 0,.ptr k1 0 0,iA fr 2,y,.int .i64 (i:Nat),iA fr 5,iA fr 6,iA fr 7],[]⟩∧Has s0.bs.length S st [.aF y 1 (byteCells (aQ (p.ak.length:Nat)++(((p.ak.take i).map aQ).flatten))),.box k1 (.mem 0 false [p.cd,p.sd])]∧(i+mm=p.ak.length)) (p.ak.length) ?_ ?_
 ·exact⟨0,d11,rfl,(by simpa using hH),by omega⟩
 rintro mm fr st ⟨i,y,hfr,hH,hi⟩;rw[hfr];clear hfr;generalize iA fr=ee;clear fr;refine zQ 6 ?_;refine qn ?_;simp only[ε];refine zQ 2 ?_;refine zP (fun hlt=>?_) fun hlt=>?_
 ·refine zQ 1 ?_
  obtain⟨v,hv⟩:∃v,p.ak[i]?=some v:=⟨p.ak[i]'(by omega),ζ _⟩
  have gw:=fJ hv;have TJ:=hf.s v (μ hv);have ej:=jQ (f:=aQ) hv;have Gh:=kO (f:=aQ) (n:=9) (l:=p.ak.take i) (fun x hx=>aV x);have mO:(p.ak.take i).length=i:=by rw[τ];omega
  have S4:(aQ (p.ak.length:Nat)++(((p.ak.take i).map aQ).flatten)).length≤60000000000:=by rw[γ];omega
  generalize hP:aQ (p.ak.length:Nat)++(((p.ak.take i).map aQ).flatten)=P at*;refine zQ 7 ?_;refine qr fun Uh Mg=>?_;refine qR ?_;obtain⟨cO,cM⟩:=hH.de hF;obtain⟨d25,st,ax,ho⟩:=eG (x:=y) (b:=P) cO cM (hH.rows aB) S4 v TJ;have hH:=hH.hY ho
  (try dsimp only[u3,u4] at hH)
  refine qv ax ?_;refine zQ 7 ?_;exact⟨mm-1,by omega,⟨i+1,d25,rfl,(by rw[ej,←δ,hP];exact hH.erase 1),by omega⟩⟩
 ·refine zQ 1 ?_;rw[ο (by omega)] at hH;change Has _ _ _ [.aF y 1 (byteCells (aQ (p.ak.length:Nat)++xA p.ak)),_] at hH;have hQl:(aQ (p.ak.length:Nat)++xA p.ak).length≤10000000:=by rw[γ];omega
  generalize hQ:aQ (p.ak.length:Nat)++xA p.ak=Q at*;have hn3:=aV (p.code.length:Nat);refine zQ 5 ?_;refine qn ?_;simp only[ε];obtain⟨cO,cM⟩:=hH.de hF;obtain⟨d30,st,ax,ho⟩:=eG (x:=y) (b:=Q) cO cM (hH.rows aB) (by omega) (p.code.length:Nat) (by omega);have hH:=hH.hY ho
  (try dsimp only[u3,u4] at hH)
  refine qv ax ?_;refine zQ 8 ?_;refine ag.loop (fun mm fr st=>∃(i:Nat) (y:D),fr.clean=⟨8,[iA fr 0,.ptr k1 0 0,iA fr 2,y,iA fr 4,.int .i64 (i:Nat),iA fr 6,iA fr 7],[]⟩∧Has s0.bs.length S st [.aF y 1 (byteCells (Q++(aQ (p.code.length:Nat)++rA (p.code.take i)))),.box k1 (.mem 0 false [p.cd,p.sd])]∧(i+mm=p.code.length)) (p.code.length) ?_ ?_
  ·exact⟨0,d30,rfl,(by have:=hH.erase 1;simpa[rA] using this),by omega⟩
  rintro mm fr st ⟨i,y,hfr,hH,hi⟩;rw[hfr];clear hfr;generalize iA fr=ee;clear fr;refine zQ 6 ?_;refine qn ?_;simp only[ε];refine zQ 2 ?_;refine zP (fun hlt=>?_) fun hlt=>?_
  ·refine zQ 1 ?_
   obtain⟨v,hv⟩:∃v,p.code[i]?=some v:=⟨p.code[i]'(by omega),ζ _⟩
   have gw:=gM hv;have TJ:=hf.c v (μ hv);obtain⟨UP,acI⟩:=hp.i v (μ hv);have ZG:=UP.cells.1;have L9:=UP.arg s0.bs.length S;have ej:rA (p.code.take (i+1))=rA (p.code.take i)++rf v:=jQ (f:=rf) hv;have Gh:(rA (p.code.take i)).length≤18874404000:=EJ (fun x hx=>hp.i x (Zn hx)) (by rw[τ];omega);have S4:(Q++(aQ (p.code.length:Nat)++rA (p.code.take i))).length≤20000000000:=by simp only[γ];omega
   generalize hP:Q++(aQ (p.code.length:Nat)++rA (p.code.take i))=P at*;have yf:=aV v.op;have D9:=aV v.x;have B2:=aV v.y;have Ss:=aV (v.rs.length:Nat);refine zQ 7 ?_;refine qr fun Yo Po=>?_;refine GB rfl (ev rfl) (by assumption) rfl (aa rfl _) ?_;refine qa hH fun k6 st Gj hH=>?_;refine qS hH aB fun st hH=>?_;dsimp only[u2,u1,u3,u4,setMany,u5,u6,ψ,κ,Pg.cs,aJ,aw,az] at hH;refine zQ 6 ?_;obtain⟨cO,cM⟩:=hH.de hF;obtain⟨d46,st,ax,ho⟩:=eG (x:=y) (b:=P) cO cM (hH.rows aO) (by omega) v.op TJ.op;have hH:=hH.hY ho
   (try dsimp only[u3,u4] at hH)
   refine qv ax ?_;refine zQ 2 ?_;obtain⟨cO,cM⟩:=hH.de hF;obtain⟨d49,st,ax,ho⟩:=eG (x:=d46) (b:=P++aQ v.op) cO cM (hH.rows aB) (by rw[γ];omega) v.x TJ.x;have hH:=hH.hY ho
   (try dsimp only[u3,u4] at hH)
   refine qv ax ?_;refine zQ 2 ?_;obtain⟨cO,cM⟩:=hH.de hF;obtain⟨d52,st,ax,ho⟩:=eG (x:=d49) (b:=(P++aQ v.op)++aQ v.x) cO cM (hH.rows aB) (by simp only[γ];omega) v.y TJ.y;have hH:=hH.hY ho
   (try dsimp only[u3,u4] at hH)
   refine qv ax ?_;refine zQ 2 ?_;refine qn ?_;simp only[ε];obtain⟨cO,cM⟩:=hH.de hF;obtain⟨d56,st,ax,ho⟩:=eG (x:=d52) (b:=((P++aQ v.op)++aQ v.x)++aQ v.y) cO cM (hH.rows aB) (by simp only[γ];omega) (v.rs.length:Nat) (by omega);have hH:=hH.hY ho
   (try dsimp only[u3,u4] at hH)
   refine qv ax ?_;refine zQ 2 ?_;have hRl:((((P++aQ v.op)++aQ v.x)++aQ v.y)++aQ (v.rs.length:Nat)).length≤30000000000:=by simp only[γ];omega
   have hRe:P++rf v=((((P++aQ v.op)++aQ v.x)++aQ v.y)++aQ (v.rs.length:Nat))++w9 v.rs:=by unfold rf;simp only[δ]
   generalize(((P++aQ v.op)++aQ v.x)++aQ v.y)++aQ (v.rs.length:Nat)=R at*;have hH:Has s0.bs.length S st [.aF d56 1 (byteCells R),.box k6 (.mem 0 false (aJ v)),.box k1 (.mem 0 false [p.cd,p.sd])]:=(((hH.erase 1).erase 1).erase 1).erase 2;refine zQ 5 ?_;refine ag.loop (fun mm fr st=>∃(j:Nat) (y:D),fr.clean=⟨8,[iA fr 0,.ptr k1 0 0,iA fr 2,y,iA fr 4,.int .i64 (i:Nat),.ptr k6 0 0,.int .i64 (j:Nat)],[]⟩∧Has s0.bs.length S st [.aF y 1 (byteCells (R++w9 (v.rs.take j))),.box k6 (.mem 0 false (aJ v)),.box k1 (.mem 0 false [p.cd,p.sd])]∧(j+mm=v.rs.length)) (v.rs.length) ?_ ?_
   ·exact⟨0,d56,rfl,(by simpa[w9] using hH),by omega⟩
   rintro mm fr st ⟨j,y,hfr,hH,hj⟩;rw[hfr];clear hfr;generalize iA fr=ee;clear fr;refine zQ 6 ?_;refine qn ?_;simp only[ε];refine zQ 2 ?_;refine zP (fun Su=>?_) fun Su=>?_
   ·refine zQ 1 ?_
    obtain⟨g,hg⟩:∃g,v.rs[j]?=some g:=⟨v.rs[j]'(by omega),ζ _⟩
    have nB:=fc hg;have YK:=TJ.r g (μ hg);have RT:w9 (v.rs.take (j+1))=w9 (v.rs.take j)++Hw g:=jQ (f:=Hw) hg;have hl3:(w9 (v.rs.take j)).length≤18*(v.rs.take j).length:=Hu _;have QP:(v.rs.take j).length≤1048576:=by rw[τ];omega
    have Wc:(R++w9 (v.rs.take j)).length≤40000000000:=by rw[γ];omega
    generalize hT:R++w9 (v.rs.take j)=T at*;have Mn:=aV g.1;refine zQ 7 ?_;refine qr fun Uf BX=>?_;refine qf (fo:=0) fun p69 aae=>?_;refine qR ?_;refine Ω (d:=.int .i64 g.1) (st1:=_) rfl rfl (by exact Qe YK.1 YK.2.1 _) (aa rfl _) ?_;obtain⟨cO,cM⟩:=hH.de hF;obtain⟨d72,st,ax,ho⟩:=eG (x:=y) (b:=T) cO cM (hH.rows aB) (by omega) g.1 (by omega);have hH:=hH.hY ho
    (try dsimp only[u3,u4] at hH)
    refine qv ax ?_;refine zQ 3 ?_;refine qr fun p76 ac3=>?_;refine qf (fo:=1) fun p77 ac2=>?_;refine qR ?_;refine Ω (d:=.int .i64 g.2) (st1:=_) rfl rfl (by exact Qe YK.2.2.1 YK.2.2.2 _) (aa rfl _) ?_;obtain⟨cO,cM⟩:=hH.de hF;obtain⟨d80,st,ax,ho⟩:=eG (x:=d72) (b:=T++aQ g.1) cO cM (hH.rows aB) (by rw[γ];omega) g.2 (by omega);have hH:=hH.hY ho
    (try dsimp only[u3,u4] at hH)
    refine qv ax ?_;refine zQ 7 ?_;exact⟨v.rs.length-(j+1),by omega,⟨j+1,d80,rfl,(by rw[RT,←δ,hT];unfold Hw;rw[←δ];exact(hH.erase 1).erase 1),by omega⟩⟩
   ·refine zQ 1 ?_;rw[ο (by omega),←hRe] at hH;refine zQ 5 ?_;exact⟨p.code.length-(i+1),by omega,⟨i+1,y,rfl,(by rw[ej,←δ (aQ _),←δ Q,hP];exact hH.erase 1),by omega⟩⟩
  ·refine zQ 1 ?_;rw[ο (by omega)] at hH
   have hH:Has s0.bs.length S st [.aF y 1 (byteCells (gy p.code p.ak)),.box k1 (.mem 0 false [p.cd,p.sd])]:=by
    unfold gy;rw[←δ,hQ];exact hH
   refine zQ 5 ?_;refine ag.ret ⟨rx,_,rfl,rl aN hH ?_⟩;exact hH.kE aB (cq _) (by decide)
theorem sA (hp:p.ok) (hf:p.fit):Ev pv 20 [p.d] s0 (.int .i64 (cx p)) s0:=by
 have fT:=xj hp hf;have nM:=hp.c;have hsd:=hp.s;have tK:=fun(st:St)=>I7 (s0:=st) hp hf;unfold Pg.d at*;refine VT rfl ab5 rfl rfl rfl ?_;refine zE ?_;obtain⟨aN,hF,hH⟩:=ri s0;generalize ae .ro s0=S at*;refine zQ 2 ?_;refine qb hH fun k1 st rj hH=>?_;dsimp only[u2,u1,u3,u4,setMany,u5,u6,ψ,κ,Pg.cs] at hH;refine zQ 4 ?_;refine Wh (m:=2) hH rfl (ev rfl) (by exact aB) (by dsimp only[η,ν,θ,ξ,Pg.cs]<;>rfl) rfl rfl (aa rfl _) ?_;refine qv ((tK _)) ?_;refine zQ 5 ?_;refine qv (K6 (g_ _ _) (by omega) 0#32) ?_;refine Ω (d:=.int .i64 ((k_ 0#32 (gy p.code p.ak)).toNat:Nat)) (st1:=_) rfl rfl (by exact Bf _ _) (aa rfl _) ?_;refine Ω (d:=.int .i64 (((k_ 0#32 (gy p.code p.ak)).toNat*65536:Nat):Int)) (st1:=_) rfl rfl (by exact CV _ _) (aa rfl _) ?_;refine qm ?_;refine qv (K6 (g_ _ _) (by omega) 1#32) ?_;refine Ω (d:=nf (k_ 1#32 (gy p.code p.ak) &&&65535#32)) (st1:=_) rfl rfl (by exact Cs _ 65535#32 _) (aa rfl _) ?_;refine Ω (d:=.int .i64 ((k_ 1#32 (gy p.code p.ak) &&&65535#32).toNat:Nat)) (st1:=_) rfl rfl (by exact Bf _ _) (aa rfl _) ?_;refine Ω (d:=.int .i64 (cx p)) (st1:=_) rfl rfl (by exact H6 _ _ _) (aa rfl _) ?_;refine zQ 2 ?_;refine ag.ret ⟨rx,_,rfl,rl aN hH (rfl)⟩
def eZ (fr:Go.V.Fr) (k:Nat):Go.V.D:=Go.V.nth .bI fr.loc k
theorem lI:∀(b:List UInt8),oy (b.map fun y=>LL .u8 (y.toNat:Nat))=some b
 |[]=>rfl
 |c::b=>by
  simp only[Ψ,oy,lI b,Q5,Option.some.injEq,List.cons.injEq,and_true];show UInt8.ofNat (((c.toNat:Nat):Int).toNat)=c;rw[Int.toNat_natCast];exact UInt8.ofNat_toNat
theorem EF (hx:dg x 1 (byteCells b)):j8 pv 23 9 x st=some (.str b,st):=by
 have hr:=(hx.rows st).row
 have mZ:(byteCells b).flatten=b.map fun y=>LL .u8 (y.toNat:Nat):=by
  unfold byteCells
  induction b with
  |nil=>rfl
  |cons c b ih=>rw[Ψ,Bv,Ψ,ki];congr 1;clear ih hr hx;induction b with
   |nil=>rfl
   |cons c b ih=>rw[Ψ,Bv,Ψ,ki,ih]
 rw[mZ,au] at hr;have h1:pv.db 23=some (.slice 5):=rfl;have h2:pv.db 9=some .string:=rfl;have h3:pv.db 5=some (.int .u8):=rfl
 rcases hx with⟨rfl,hb⟩|⟨ds,rfl,hd,_⟩
 ·have hb:b=[]:=List.map_eq_nil_iff.1 hb;subst hb;rfl
 ·simp only[j8,h1,h2,h3,hr,ε,if_true,lI,Q5]
structure NS (st:St) (y:D) (L:List GV):Prop where
 r:π st 12 y (L.map eo)
 n:L.length≤100
 t:∀l∈L,π st 11 l.td (l.bn.map dA)∧l.bn.length≤1000
 f:∀l∈L,l.fit
theorem lM (h:L.length≤100) (ht:∀l∈L,l.bn.length≤1000):(mM L).length≤10000000:=by
 unfold mM;have h1:=aV (L.length:Nat);have h2:=kO (f:=eX) (n:=99108) (l:=L) fun l hl=>xQ (ht l hl);rw[γ];omega
theorem IE {l:List GV} (hF:s0.flr≤s0.bs.length) (du:s0.ro≤s0.bs.length) (hx:π s0 1 x (byteCells b)) (hy:π s0 12 y (l.map eo)) (hl:b.length≤10000000000) (px:l.length≤100) (ht:∀g∈l,π s0 11 g.td (g.bn.map dA)∧g.bn.length≤1000) (rO:∀g∈l,g.fit):
  ∃d ai,Ev pv 83 [x,y,.fn 84 []] s0 d ai∧kC s0 ai d (b++(aQ (l.length:Nat)++((l.map eX).flatten))):=by
 have jX:=aV (l.length:Nat);refine Zt rfl abq rfl rfl rfl ?_;refine zE ?_;have aN:(ae .nw s0).bs=s0.bs:=rfl;have hF:(ae .nw s0).flr≤s0.bs.length:=hF;have hH:Has s0.bs.length (ae .nw s0) (ae .nw s0) []:=Θ (ι _) (ι _);generalize ae .nw s0=S at*;have hx:=ς hx aN;have hy:=ς hy aN;refine zQ 8 ?_;refine qn ?_;simp only[ε];obtain⟨cO,cM⟩:=hH.de hF;obtain⟨d13,st,ax,ho⟩:=eR (x:=x) (b:=b) cO cM (hx.rows hH) (by omega) (l.length:Nat) (by omega);have hH:=hH.hY ho
 (try dsimp only[u3,u4] at hH)
 refine qv ax ?_;refine zQ 6 ?_;refine qn ?_;simp only[ε];refine zQ 3 ?_;refine ag.loop (fun mm fr st=>∃(i:Nat) (o:D),fr.clean=⟨17,[eZ fr 0,eZ fr 1,.fn 84 [],eZ fr 3,eZ fr 4,eZ fr 5,eZ fr 6,o,eZ fr 8,eZ fr 9,eZ fr 10,eZ fr 11,eZ fr 12,eZ fr 13,y,.int .i64 (l.length:Nat),.int .i64 (i:Nat)],[]⟩∧Has s0.bs.length S st [.aF o 1 (byteCells (b++(aQ (l.length:Nat)++(((l.take i).map eX).flatten))))]∧(i+mm=l.length)) (l.length) ?_ ?_
 ·exact⟨0,d13,rfl,(by simpa using hH),by omega⟩
 rintro mm fr st ⟨i,o,hfr,hH,hi⟩;rw[hfr];clear hfr;generalize eZ fr=ee;clear fr;refine zQ 5 ?_;refine zP (fun hlt=>?_) fun hlt=>?_
 ·refine zQ 1 ?_
  obtain⟨v,hv⟩:∃v,l[i]?=some v:=⟨l[i]'(by omega),ζ _⟩
  have E7:=μ hv;have gw:(l.map eo)[i]?=some (eo v):=by rw[Ξ,hv];rfl
  have ej:=jQ (f:=eX) hv;have Gh:=kO (f:=eX) (n:=99108) (l:=l.take i) (fun x hx=>xQ (ht x (Zn hx)).2);have mO:(l.take i).length=i:=by rw[τ];omega
  have fT:(b++(aQ (l.length:Nat)++(((l.take i).map eX).flatten))).length≤20000000000:=by simp only[γ];omega
  generalize hP:b++(aQ (l.length:Nat)++(((l.take i).map eX).flatten))=P at*;have ZG:=i7 (ht v E7).1;refine zQ 4 ?_;refine qr fun Rq Gf=>?_;refine GB rfl (ev rfl) (by assumption) rfl (aa rfl _) ?_;refine qa hH fun k9 st PB hH=>?_;refine qS hH aB fun st hH=>?_;dsimp only[u2,u1,u3,u4,setMany,u5,u6,ψ,κ,eo,aX] at hH;refine zQ 4 ?_;refine Wh (m:=12) hH rfl (ev rfl) (by exact aB) (by dsimp only[η,ν,θ,ξ,eo,aX]<;>rfl) rfl rfl (aa rfl _) ?_;obtain⟨cO,cM⟩:=hH.de hF;obtain⟨d23,st,ax,ho⟩:=Ue (x:=o) (b:=P) cO cM (hH.rows aO) (by omega) (l:=v) ((ς (ht v E7).1 aN).rows hH) (ht v E7).2 (rO v E7);have hH:=hH.hY ho
  (try dsimp only[u3,u4] at hH)
  refine qv ax ?_;refine zQ 6 ?_;exact⟨mm-1,by omega,⟨i+1,d23,rfl,(by rw[ej,←δ (aQ _),←δ b,hP];exact hH.take 1),by omega⟩⟩
 ·refine zQ 1 ?_;rw[ο (by omega)] at hH;refine zQ 5 ?_;refine ag.ret ⟨rx,_,_,_,rfl,rfl,?_⟩;exact hH.dU aN du
theorem vj (hF:s0.flr≤s0.bs.length) (du:s0.ro≤s0.bs.length) (hx:π s0 1 x (byteCells b)) (hl:b.length≤10000000000) (hL:NS s0 y L):
  ∃d ai,Ev pv 26 [x,y] s0 d ai∧kC s0 ai d (b++mM L):=by
 have TH:=hL.r;refine Zt rfl ab1 rfl rfl rfl ?_;refine zE ?_;have aN:(ae .nw s0).bs=s0.bs:=rfl;have hF:(ae .nw s0).flr≤s0.bs.length:=hF;have hH:Has s0.bs.length (ae .nw s0) (ae .nw s0) []:=Θ (ι _) (ι _);generalize ae .nw s0=S at*;have hx:=ς hx aN;have hy:=ς TH aN;refine zQ 8 ?_;obtain⟨cO,cM⟩:=hH.de hF;obtain⟨d7,st,ax,ho⟩:=IE (x:=x) (b:=b) cO cM (hx.rows hH) (hy.rows hH) hl hL.n (fun l hm=>⟨(ς (hL.t l hm).1 aN).rows hH,(hL.t l hm).2⟩) hL.f;have hH:=hH.hY ho
 (try dsimp only[u3,u4] at hH)
 refine qv ax ?_;refine zQ 2 ?_;refine ag.ret ⟨rx,_,_,_,rfl,rfl,?_⟩;exact(hH.take 1).dU aN du
theorem sy (hF:s0.flr≤s0.bs.length) (du:s0.ro≤s0.bs.length) (hx:π s0 1 x (byteCells b)) (hl:b.length≤10000000000) (hL:NS s0 y L):
  ∃d ai,Ev pv 27 [x,y] s0 d ai∧kC s0 ai d (b++mM L):=by
 have TH:=hL.r;have TS:=hL.n;have jX:=aV (L.length:Nat);refine Zt rfl ab0 rfl rfl rfl ?_;refine zE ?_;have aN:(ae .nw s0).bs=s0.bs:=rfl;have hF:(ae .nw s0).flr≤s0.bs.length:=hF;have hH:Has s0.bs.length (ae .nw s0) (ae .nw s0) []:=Θ (ι _) (ι _);generalize ae .nw s0=S at*;have hx:=ς hx aN;have hy:=ς TH aN;refine zQ 8 ?_;refine qn ?_;simp only[ε];obtain⟨cO,cM⟩:=hH.de hF;obtain⟨d10,st,ax,ho⟩:=eG (x:=x) (b:=b) cO cM (hx.rows hH) (by omega) (L.length:Nat) (by omega);have hH:=hH.hY ho
 (try dsimp only[u3,u4] at hH)
 refine qv ax ?_;refine zQ 8 ?_;refine ag.loop (fun mm fr st=>∃(i:Nat) (o:D),fr.clean=⟨7,[o,y,eZ fr 2,eZ fr 3,eZ fr 4,.int .i64 (i:Nat),eZ fr 6],[]⟩∧Has s0.bs.length S st [.aF o 1 (byteCells (b++(aQ (L.length:Nat)++((L.take i).map eX).flatten)))]∧(i+mm=L.length)) (L.length) ?_ ?_
 ·exact⟨0,d10,rfl,(by simpa using hH),by omega⟩
 rintro mm fr st ⟨i,o,hfr,hH,hi⟩;rw[hfr];clear hfr;generalize eZ fr=ee;clear fr;refine zQ 5 ?_;refine qn ?_;simp only[ε];refine zQ 2 ?_;refine zP (fun hlt=>?_) fun hlt=>?_
 ·refine zQ 1 ?_
  obtain⟨v,hv⟩:∃v,L[i]?=some v:=⟨L[i]'(by omega),ζ _⟩
  have E7:=μ hv;obtain⟨htr,Yz⟩:=hL.t v E7;obtain⟨aaK,aaJ⟩:=hL.f v E7;have gw:=yp hv;have N6:=ς htr aN;have ej:=jQ (f:=eX) hv;have Gh:=kO (f:=eX) (n:=99108) (l:=L.take i) (fun x hx=>xQ (hL.t x (Zn hx)).2);have mO:(L.take i).length=i:=by rw[τ];omega
  have S4:(b++(aQ (L.length:Nat)++((L.take i).map eX).flatten)).length≤20000000000:=by simp only[γ];omega
  generalize hP:b++(aQ (L.length:Nat)++((L.take i).map eX).flatten)=P at*;have yf:=yw v.dn;have D9:=tv v.bf;have B2:=aV (v.bn.length:Nat);refine zQ 7 ?_;refine qr fun Rp Ge=>?_;refine qf (fo:=0) fun Uj Mi=>?_;refine qR ?_;refine qv ((K7 (hH.rows aB) (by omega) v.dn)) ?_;refine zQ 2 ?_;refine qr fun p26 Vm=>?_;refine qf (fo:=1) fun Zi Sk=>?_;refine P8 (d:=.agg (aA v.bf)) rfl (ev rfl) (by assumption) rfl (aa rfl _) ?_;obtain⟨cO,cM⟩:=hH.de hF;obtain⟨d29,st,ax,ho⟩:=xf (x:=bF (P++iw v.dn)) (b:=P++iw v.dn) cO cM (g_ _ _) (by rw[γ];omega) v.bf aaK;have hH:=hH.hY ho
  (try dsimp only[u3,u4] at hH)
  refine qv ax ?_;refine zQ 7 ?_;refine qr fun p33 aak=>?_;refine qf (fo:=11) fun p34 Vj=>?_;refine qR ?_;refine qn ?_;simp only[ε];obtain⟨cO,cM⟩:=hH.de hF;obtain⟨d37,st,ax,ho⟩:=eG (x:=d29) (b:=(P++iw v.dn)++pK v.bf) cO cM (hH.rows aB) (by simp only[γ];omega) (v.bn.length:Nat) (by omega);have hH:=hH.hY ho
  (try dsimp only[u3,u4] at hH)
  refine qv ax ?_;refine zQ 2 ?_;have hQl:(((P++iw v.dn)++pK v.bf)++aQ (v.bn.length:Nat)).length≤30000000000:=by simp only[γ];omega
  have hQe:P++eX v=(((P++iw v.dn)++pK v.bf)++aQ (v.bn.length:Nat))++(v.bn.map iX).flatten:=by unfold eX;simp only[δ]
  generalize((P++iw v.dn)++pK v.bf)++aQ (v.bn.length:Nat)=Q at*;have hH:=hH.take 1;refine zQ 5 ?_;refine ag.loop (fun mm fr st=>∃(j:Nat) (o2:D),fr.clean=⟨7,[o2,y,eZ fr 2,eZ fr 3,eZ fr 4,.int .i64 (i:Nat),.int .i64 (j:Nat)],[]⟩∧Has s0.bs.length S st [.aF o2 1 (byteCells (Q++((v.bn.take j).map iX).flatten))]∧(j+mm=v.bn.length)) (v.bn.length) ?_ ?_
  ·exact⟨0,d37,rfl,(by simpa using hH),by omega⟩
  rintro mm fr st ⟨j,o2,hfr,hH,hj⟩;rw[hfr];clear hfr;generalize eZ fr=ee;clear fr;refine zQ 6 ?_;refine qr fun Yo Po=>?_;refine qf (fo:=11) fun p42 Vh=>?_;refine qR ?_;refine qn ?_;simp only[ε];refine zQ 2 ?_;refine zP (fun Su=>?_) fun Su=>?_
  ·refine zQ 1 ?_
   obtain⟨t,ht⟩:∃t,v.bn[j]?=some t:=⟨v.bn[j]'(by omega),ζ _⟩
   obtain⟨Pa,RQ⟩:=aaJ t (μ ht);have nB:=Ca ht;have RT:=jQ (f:=iX) ht;have adh:=kO (f:=iX) (n:=99) (l:=v.bn.take j) (fun x _=>Bj x);have ZI:(v.bn.take j).length=j:=by rw[τ];omega
   have Wc:(Q++((v.bn.take j).map iX).flatten).length≤40000000000:=by rw[γ];omega
   generalize hT:Q++((v.bn.take j).map iX).flatten=T at*;have Mn:=aV t.pc;refine zQ 6 ?_;refine qr fun Zb Se=>?_;refine qf (fo:=11) fun p52 aai=>?_;refine zQ 2 ?_;refine qr fun p55 Vf=>?_;refine qf (fo:=0) fun Za Sd=>?_;refine P8 (d:=.int .i64 t.pc) rfl (ev rfl) (by assumption) rfl (aa rfl _) ?_;obtain⟨cO,cM⟩:=hH.de hF;obtain⟨d58,st,ax,ho⟩:=eG (x:=o2) (b:=T) cO cM (hH.rows aB) (by omega) t.pc Pa;have hH:=hH.hY ho
   (try dsimp only[u3,u4] at hH)
   refine qv ax ?_;refine zQ 2 ?_;refine qr fun p61 Sb=>?_;refine qf (fo:=11) fun p62 aag=>?_;refine zQ 2 ?_;refine qr fun p65 aaf=>?_;refine qf (fo:=1) fun p66 ac7=>?_;refine P8 (d:=.agg (aA t.c)) rfl (ev rfl) (by assumption) rfl (aa rfl _) ?_;obtain⟨cO,cM⟩:=hH.de hF;obtain⟨d68,st,ax,ho⟩:=xf (x:=d58) (b:=T++aQ t.pc) cO cM (hH.rows aB) (by rw[γ];omega) t.c RQ;have hH:=hH.hY ho
   (try dsimp only[u3,u4] at hH)
   refine qv ax ?_;refine zQ 7 ?_;exact⟨v.bn.length-(j+1),by omega,⟨j+1,d68,rfl,(by rw[RT,←δ,hT];unfold iX;rw[←δ];exact hH.take 1),by omega⟩⟩
  ·refine zQ 1 ?_;rw[ο (by omega),←hQe] at hH;refine zQ 5 ?_;exact⟨L.length-(i+1),by omega,⟨i+1,o2,rfl,(by rw[ej,←δ (aQ _),←δ b,hP];exact hH),by omega⟩⟩
 ·refine zQ 1 ?_;rw[ο (by omega)] at hH;refine zQ 5 ?_;refine ag.ret ⟨rx,_,_,_,rfl,rfl,?_⟩;exact hH.dU aN du
variable{ly:D}{h:List UInt8}
theorem xg (hF:s0.flr≤s0.bs.length) (du:s0.ro≤s0.bs.length) (hx:π s0 1 x (byteCells b)) (hl:b.length≤1000000000) (hy:dg y 1 (byteCells h)) (hh:h.length≤1048576) (fT:place<9223372036854775808) (hL:NS s0 ly L):
  ∃d ai,Ev pv 24 [x,.agg [y,.int .i64 place,ly]] s0 d ai∧kC s0 ai d (b++kV h place L):=by
 have oI:=hy.cells.1;have mj:=i7 hL.r;have Jy:=fun st=>EF (st:=st) hy;have jX:=aV (h.length:Nat);have CA:=aV place;have htx:(eK h).length≤1048600:=by unfold eK;rw[γ];omega
 refine Zt rfl ab3 rfl rfl rfl ?_;refine zE ?_;have aN:(ae .nw s0).bs=s0.bs:=rfl;have hF:(ae .nw s0).flr≤s0.bs.length:=hF;have hH:Has s0.bs.length (ae .nw s0) (ae .nw s0) []:=Θ (ι _) (ι _);generalize ae .nw s0=S at*;have hx:=ς hx aN;refine zQ 2 ?_;refine qb hH fun k3 st oC hH=>?_;refine zQ 7 ?_;refine Ω (d:=.str h) (st1:=_) rfl rfl (by exact Jy _) (aa rfl _) ?_;refine qv ((Kn (hx.rows hH) (by omega) hh)) ?_;refine zQ 3 ?_;obtain⟨cO,cM⟩:=hH.de hF;obtain⟨d13,st,ax,ho⟩:=eR (x:=bF (b++eK h)) (b:=b++eK h) cO cM (g_ _ _) (by rw[γ];omega) place fT;have hH:=hH.hY ho
 (try dsimp only[u3,u4] at hH)
 refine qv ax ?_;refine zQ 3 ?_;obtain⟨cO,cM⟩:=hH.de hF;obtain⟨d17,st,ax,ho⟩:=vj (x:=d13) (b:=(b++eK h)++aQ place) cO cM (hH.rows aB) (by simp only[γ];omega) ⟨(ς hL.r aN).rows hH,hL.n,fun l hm=>⟨(ς (hL.t l hm).1 aN).rows hH,(hL.t l hm).2⟩,hL.f⟩;have hH:=hH.hY ho
 (try dsimp only[u3,u4] at hH)
 refine qv ax ?_;refine zQ 2 ?_;refine ag.ret ⟨rx,_,_,_,rfl,rfl,?_⟩;have h1:=(hH.take 1).dU aN du;unfold kC kV;simp only[δ] at h1⊢;exact h1
theorem oY (hF:s0.flr≤s0.bs.length) (du:s0.ro≤s0.bs.length) (hx:π s0 1 x (byteCells b)) (hl:b.length≤1000000000) (hy:dg y 1 (byteCells h)) (hh:h.length≤1048576) (fT:place<9223372036854775808) (hL:NS s0 ly L):
  ∃d ai,Ev pv 25 [x,.agg [y,.int .i64 place,ly]] s0 d ai∧kC s0 ai d (b++kV h place L):=by
 have oI:=hy.cells.1;have mj:=i7 hL.r;have Jy:=fun st=>EF (st:=st) hy;have jX:=aV (h.length:Nat);have CA:=aV place;have htx:(eK h).length≤1048600:=by unfold eK;rw[γ];omega
 refine Zt rfl ab2 rfl rfl rfl ?_;refine zE ?_;have aN:(ae .nw s0).bs=s0.bs:=rfl;have hF:(ae .nw s0).flr≤s0.bs.length:=hF;have hH:Has s0.bs.length (ae .nw s0) (ae .nw s0) []:=Θ (ι _) (ι _);generalize ae .nw s0=S at*;have hx:=ς hx aN;refine zQ 2 ?_;refine qb hH fun k3 st oC hH=>?_;refine zQ 7 ?_;refine Ω (d:=.str h) (st1:=_) rfl rfl (by exact Jy _) (aa rfl _) ?_;refine qv ((K5 (hx.rows hH) (by omega) hh)) ?_;refine zQ 3 ?_;obtain⟨cO,cM⟩:=hH.de hF;obtain⟨d13,st,ax,ho⟩:=eG (x:=bF (b++eK h)) (b:=b++eK h) cO cM (g_ _ _) (by rw[γ];omega) place fT;have hH:=hH.hY ho
 (try dsimp only[u3,u4] at hH)
 refine qv ax ?_;refine zQ 3 ?_;obtain⟨cO,cM⟩:=hH.de hF;obtain⟨d17,st,ax,ho⟩:=sy (x:=d13) (b:=(b++eK h)++aQ place) cO cM (hH.rows aB) (by simp only[γ];omega) ⟨(ς hL.r aN).rows hH,hL.n,fun l hm=>⟨(ς (hL.t l hm).1 aN).rows hH,(hL.t l hm).2⟩,hL.f⟩;have hH:=hH.hY ho
 (try dsimp only[u3,u4] at hH)
 refine qv ax ?_;refine zQ 2 ?_;refine ag.ret ⟨rx,_,_,_,rfl,rfl,?_⟩;have h1:=(hH.take 1).dU aN du;unfold kC kV;simp only[δ] at h1⊢;exact h1
def E0 (es:List (List D)) (L:List PL):Prop:=es.length=L.length∧∀(i:Nat) l,L[i]?=some l→∃d,dg d 11 (l.bn.map bw)∧es[i]?=some (aX l.dn l.bf d)
def uZ (st:St) (es:List (List D)) (L:List PL):Prop:=es.length=L.length∧∀(i:Nat) l,L[i]?=some l→∃d,π st 11 d (l.bn.map bw)∧es[i]?=some (aX l.dn l.bf d)
theorem E0.any {L:List PL} (h:E0 es L) (st:St):uZ st es L:=⟨h.1,fun i l hl=>by
 obtain⟨d,h1,h2⟩:=h.2 i l hl
 exact⟨d,h1.rows st,h2⟩⟩
variable{fs:List (List D)}
variable{S:St}{H:List bo}
theorem uZ.ex {L:List PL} (h:uZ s0 es L) (hS:S.bs=s0.bs) (hH:Has s0.bs.length S st H):uZ st es L:=⟨h.1,fun i l hl=>by
 obtain⟨d,h1,h2⟩:=h.2 i l hl
 exact⟨d,(ς h1 hS).rows hH,h2⟩⟩
def PL.v (l:PL):VL:=⟨l.dn,l.bf,TA l.bn,l.bn⟩
open Go.V Go Go.RowKit
theorem wG (code:List aP) (pl:Nat) (e:Bool):∀(f:Nat) (w:Wk) (t:hU),er (code.map ga) pl e f w t=er code pl e f w t
 |0,_,_=>rfl
 |f+1,w,t=>by
  unfold er;simp only[wG code pl e f,Ξ]
  cases code[t.pc]? with
  |none=>rfl
  |some i=>rfl
theorem yA (code:List aP) (pl:Nat) (e:Bool):∀(l:List hU) (w:Wk),vE (code.map ga) pl e l w=vE code pl e l w
 |[],_=>rfl
 |t::ts,w=>by
  unfold vE;simp only[wG,ε,yA code pl e ts]
theorem I1 (code:List aP) (k:Nat):I2 (code.map ga) k=I2 code k:=by
 unfold I2;rw[Ξ];cases code[k]?<;>rfl
theorem xF (code:List aP) (r:Int):∀(l a:List hU),jH (code.map ga) r l a=jH code r l a
 |[],_=>rfl
 |t::ts,a=>by unfold jH;simp only[I1,xF code r ts]
theorem Fl (code:List aP) (pl s:Nat) (r:Int) (l:PL):ju (code.map ga) pl s r l=ju code pl s r l:=by
 unfold ju;simp only[yA,xF,ε]
theorem va (code:List aP) (pl:Nat) (r:Int):∀(ss:List Nat) (ls:List PL),jE (code.map ga) pl r ss ls=jE code pl r ss ls
 |[],_=>rfl
 |_::_,[]=>rfl
 |s::ss,l::ls=>by simp only[jE,Fl,va code pl r ss ls]
theorem uY.aG {q:Pg} (h:uY p q):aG q=aG p:=by unfold Go.Proofs.YtecjacicdpejaaaGreat.aG;rw[h.ak]
theorem tT {p:Pg} (hR:bm p) {pl:Nat} {r:Int}:∀{ss:List Nat} {ls:List PL},(∀s∈ss,s<p.code.length)→∀l∈jE p.code pl r ss ls,l.ok p.code.length
 |[],_,_,l,hl=>by cases hl
 |_::_,[],_,l,hl=>by cases hl
 |s::ss,x::ls,hs,l,hl=>by
  simp only[jE,IT] at hl
  rcases hl with rfl|hl
  ·exact KF hR (hs s (List.mem_cons_self ..))
  ·exact tT hR (fun s h=>hs s (List.mem_cons_of_mem _ h)) l hl
theorem wK (hR:bm p):∀s∈aG p,s<p.code.length:=by
 intro s hs;obtain⟨v,hv,rfl⟩:=List.mem_map.1 hs;have:=hR.st v hv;omega
theorem yM {x y:Oper} {fi fj:Fr} {si wb sj NW:St} {a:Operand} {k aE off v:Nat} {ar:Bool} {c:List D} (hy:kJ y.op=some a) (ha:fj.ev a=.ptr k aE off) (h1:si.bs[k]?=some (.mem v ar c)) (h2:wb.bs[k]?=some (.mem v ar c)):lU x fi si wb y fj sj NW=true:=by
 unfold lU;simp only[hy,ha,D.rU];exact tR h1 h2
def iu (ks kv:Nat) (p:Pg) (pl:Nat) (ld pd qd:D) (P Q:List Nat) (L:List VL):List bo:=
 .box kv (.mem 0 false [p.cd,p.sd,.int .i64 (pl:Nat),ld,.ptr ks 0 0])::.box ks (.mem 0 false [pd,qd])::.aF pd 1 (P.map jG)::.aF qd 2 (Q.map sN)::.aF ld 12 (L.map iR)::L.map tG
variable{A:List bo}{N ks kv pl:Nat}{ld:D}
theorem vm {L:List VL} (h:MH A N S st ks kv p pl ld L H):∃pd qd P Q sn,Has N S st (A++(iu ks kv p pl ld pd qd P Q L++H))∧eQ P Q sn∧sn.length=p.code.length:=by
 obtain⟨pd,qd,P,Q,sn,hH,h1,h2⟩:=h;exact⟨pd,qd,P,Q,sn,by simpa only[iu,BY] using hH,h1,h2⟩
theorem DG {L:List VL} {pd qd:D} {P Q:List Nat} {sn:List Bool} (hH:Has N S st (A++(iu ks kv p pl ld pd qd P Q L++H))) (h1:eQ P Q sn) (h2:sn.length=p.code.length):MH A N S st ks kv p pl ld L H:=
 ⟨pd,qd,P,Q,sn,by simpa only[iu,BY] using hH,h1,h2⟩
def MM (A:List bo) (N:Nat) (S st:St) (ks kv:Nat) (p:Pg) (pl:Nat) (ld:D) (L:List VL) (vJ wo:Nat) (p2:Pg) (E5:Nat) (Cx:D) (L2:List VL):Prop:=
 ∃pd qd P Q sn N1 NZ P2 Q2 Rc,Has N S st (A++(iu ks kv p pl ld pd qd P Q L++iu vJ wo p2 E5 Cx N1 NZ P2 Q2 L2))∧eQ P Q sn∧sn.length=p.code.length∧eQ P2 Q2 Rc∧Rc.length=p2.code.length
section
variable{A:List bo} {N:Nat} {S st:St} {ks kv vJ wo:Nat} {p p2:Pg} {pl E5:Nat} {ld Cx:D} {L L2:List VL}
theorem MM.one (h:MM A N S st ks kv p pl ld L vJ wo p2 E5 Cx L2):∃H,MH [] N S st ks kv p pl ld L H∧∀(B:List bo) (ai:St) (y8:Nat) (F3:D) (L':List VL),MH B N S ai ks kv p y8 F3 L' H→MM (B++A) N S ai ks kv p y8 F3 L' vJ wo p2 E5 Cx L2:=by
 obtain⟨pd,qd,P,Q,sn,N1,NZ,P2,Q2,Rc,hH,h1,h2,h3,h4⟩:=h
 refine⟨iu vJ wo p2 E5 Cx N1 NZ P2 Q2 L2++A,DG (by
  have a:=wt A (iu ks kv p pl ld pd qd P Q L++iu vJ wo p2 E5 Cx N1 NZ P2 Q2 L2) (H:=[]) (by rw[Δ];exact hH);rw[Δ,δ] at a
  exact a) h1 h2,fun B ai y8 F3 L' hM=>?_⟩
 obtain⟨N2,N0,P',Q',Y3,hH',Wm,TW⟩:=vm hM;refine⟨N2,N0,P',Q',Y3,N1,NZ,P2,Q2,Rc,?_,Wm,TW,h3,h4⟩
 have a:=wt (B++(iu ks kv p y8 F3 N2 N0 P' Q' L'++iu vJ wo p2 E5 Cx N1 NZ P2 Q2 L2)) A (H:=[]) (by rw[Δ];simpa only[δ] using hH');have b:Has N S ai (A++(B++((iu ks kv p y8 F3 N2 N0 P' Q' L'++iu vJ wo p2 E5 Cx N1 NZ P2 Q2 L2)++[]))):=by simpa only[δ] using a
 have c:=wt _ _ b;rw[Δ] at c
 simpa only[δ] using c
theorem MM.drop (n:Nat) (h:MM A N S st ks kv p pl ld L vJ wo p2 E5 Cx L2) (hn:n≤A.length):MM (A.drop n) N S st ks kv p pl ld L vJ wo p2 E5 Cx L2:=by
 obtain⟨pd,qd,P,Q,sn,N1,NZ,P2,Q2,Rc,hH,h1,h2,h3,h4⟩:=h;refine⟨pd,qd,P,Q,sn,N1,NZ,P2,Q2,Rc,?_,h1,h2,h3,h4⟩;have:=hH.drop n
 rwa [List.drop_append_of_le_length hn] at this
theorem MM.has (h:MM A N S st ks kv p pl ld L vJ wo p2 E5 Cx L2):Has N S st A:=by
 obtain⟨pd,qd,P,Q,sn,N1,NZ,P2,Q2,Rc,hH,_⟩:=h;have:=hH.take A.length
 rwa [List.take_left] at this
end
end Go.Proofs.YtecjacicdpejaaaGreat
namespace Go.Proofs.YtecjacicdpejaaaGreat
open Go.V Go
variable{N:Nat}{S:St}{H:List bo}
theorem Has.over {st ai:St} {H2:List bo} (h:Has N S st H) (h2:Has st.bs.length st ai H2):Has N S ai (H2++H):=by
 have hN:=h.hN;have hl:=h.ex.len;have ry:=h2.ex.len;refine⟨⟨fun k hk=>?_,by omega,h2.ex.flr.trans h.ex.flr,h2.ex.ro.trans h.ex.ro⟩,hN,h.du,fun i e hi=>?_,fun i j a b hij ha hb k sX kQ=>?_⟩
 ·rw[h2.ex.low k (by omega)];exact h.ex.low k hk
 ·by_cases hlt:i<H2.length
  ·rw[χ hlt] at hi;obtain⟨h3,h4⟩:=h2.ok i e hi;exact⟨h3,fun k hk=>⟨by have:=(h4 k hk).1;omega,(h4 k hk).2⟩⟩
  ·rw[υ (by omega)] at hi;obtain⟨h3,h4⟩:=h.ok _ e hi;exact⟨e.loc (fun k hk=>h2.ex.low k (h4 k hk).2) h3,fun k hk=>⟨(h4 k hk).1,by have:=(h4 k hk).2;omega⟩⟩
 ·by_cases h1:i<H2.length<;>by_cases h3:j<H2.length
  ·rw[χ h1] at ha;rw[χ h3] at hb;exact h2.dis i j a b hij ha hb k sX kQ
  ·rw[χ h1] at ha;rw[υ (by omega)] at hb;have:=((h2.ok _ a ha).2 k sX).1;have:=((h.ok _ b hb).2 k kQ).2;omega
  ·rw[υ (by omega)] at ha;rw[χ h3] at hb;have:=((h2.ok _ b hb).2 k kQ).1;have:=((h.ok _ a ha).2 k sX).2;omega
  ·rw[υ (by omega)] at ha hb;exact h.dis _ _ a b (by omega) ha hb k sX kQ
variable{s0:St}{L:List VL}
variable{ks kv pl:Nat}{p:Pg}{ld:D}
end Go.Proofs.YtecjacicdpejaaaGreat
