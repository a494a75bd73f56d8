/-
 What a rule reaches: the document's search.
-/
import Derived.Test.YtkbacjpologjbaaGreatWGHr
import Derived.Test.YtkbacjpologjbaaGreatWGUa
import Derived.Test.YtkbacjpologjbaaGreatWM2
set_option maxRecDepth 100000
set_option maxHeartbeats 4000000
set_option linter.unusedSimpArgs false
set_option linter.unusedVariables false
set_option linter.unusedSectionVars false
open List renaming length_map→γ,getElem?_eq_getElem→δ,length_append→ε,length_cons→ζ,foldl→θ,not_mem_nil→ι,mem_cons→κ,length_reverse→ν,mem_of_getElem?→ξ,getElem?_cons_zero→ο,foldl_cons→ρ,drop_succ_cons→υ,take_succ_cons→φ,append_assoc→ψ,length_nil→Δ,map_append→Θ,drop_zero→Φ,foldl_nil→Ψ,mem_cons_of_mem→Ω,replicate→wt,take_zero→v8,mem_cons_self→IN,getElem?_map→IT,cons_append→OF,mem_append→Pd,exists_cons_of_ne_nil→Pe,getD_eq_getElem?_getD→AN,getElem?_cons_succ→AT,mem_map→Qa0,getElem?_of_mem→Qa1,map_replicate→Qa2,nil_append→Qa5,drop_drop→Qa6,map_map→Qa7,length→Qa9
open Nat renaming le_of_ble_eq_true→η,reduceAdd→μ,le_refl→τ,sub_self→Qaa,add_mul→Qab
open Go.V.ab renaming nil→π,two→GB,go→Qa8,aH→Qac,c_→Qad,hU→Qae,c9→Qaf
open Go.V.D renaming cells→ς,ref→Qa4
open Classical renaming propDecidable→χ
open Int renaming toNat_natCast→ω,eq_ofNat_of_zero_le→AI
open Bool renaming and_eq_true→Γ,not_eq_false'→BY,not_eq_true'→IS
open Option renaming some→Ξ,bind_some→Qa3
namespace Go.Proofs.YtkbacjpologjbaaGreat
open Go.V Go
theorem zjna {A B:Prop} (h:A) (e:A→B:=by intro h;dsimp only[u2,u1,u3,u4,setMany,u5,u6,ς,μ,Pg.cs,aK,ax,bV] at h;exact h):B:=e h
theorem zjnb {A B:Prop} (h:A) (e:A→B:=by intro h;dsimp only[u2,u1,u3,u4,setMany,u5,u6,ς,μ,aW,bF,ax,au] at h;exact h):B:=e h
def vf (fr:Go.V.Fr) (k:Nat):Go.V.D:=Go.V.nth .bo fr.loc k
variable{s0:St}{p:Pg}{i:aL}
theorem Le {pc:Nat} (hp:p.ok) (hi:p.code[pc]?=some i):Ev pv 111 [p.d,.int .i64 (pc:Nat)] s0 (EJ (bR pc i)) s0:=by
 refine Ev.iu rfl S8 rfl rfl rfl ?_;refine zE ?_;obtain⟨aR,hF,hH⟩:=ri s0;generalize ae .ro s0=S at*;have hc:=hp.c.arg s0.bs.length S;have C7:=(hp.i i (ξ hi)).1;have hcl:=hp.cl;have hr:=fy hi;have hlt:=bc hi;unfold Pg.d;refine zQ 2 ?_;refine qb hH fun k2 st hk2 hH=>?_;have hH:=zjna hH;refine zQ 7 ?_;refine qr fun p9 hp9=>?_;refine ab.cM rfl z3 z5 rfl (by dsimp only[Fr.put,u1,u2]<;>rfl) ?_;refine qa hH fun k5 st LS hH=>?_;refine qS hH aJ fun st hH=>?_;have hH:=zjna hH;refine zQ 13 ?_;refine zI (fun h2=>?_) fun h2=>?_
 ·have:bR pc i=[i.x,i.y]:=by unfold bR;rw[if_pos h2]
  rw[this];refine zQ 6 ?_;refine qh (s:=1) (vs:=[_,_]) hH fun k19 st RE hH=>?_;refine zQ 2 ?_;refine ag.ret ⟨rx,_,rfl,rl aR hH ?_⟩;exact hH.freeze aJ (jR [i.x,i.y]) (n:=15) (by decide)
 ·refine zQ 5 ?_;refine zI (fun h3=>?_) fun h3=>?_
  ·have:bR pc i=[i.x]:=by unfold bR;rw[if_neg h2,if_pos h3]
   rw[this];refine zQ 4 ?_;refine qh (s:=1) (vs:=[_]) hH fun k24 st RD hH=>?_;refine zQ 2 ?_;refine ag.ret ⟨rx,_,rfl,rl aR hH ?_⟩;exact hH.freeze aJ (jR [i.x]) (n:=15) (by decide)
  ·refine zQ 5 ?_;refine zI (fun h7=>?_) fun h7=>?_
   ·have:bR pc i=[]:=by unfold bR;rw[if_neg h2,if_neg h3,if_pos h7]
    rw[this];refine zQ 4 ?_;refine ag.ret ⟨rx,_,rfl,rl aR hH (rfl)⟩
   ·have:bR pc i=[((pc+1:Nat):Int)]:=by unfold bR;rw[if_neg h2,if_neg h3,if_neg h7]
    rw[this];refine zQ 5 ?_;refine qh (s:=1) (vs:=[_]) hH fun k29 st RC hH=>?_;refine zQ 2 ?_;refine ag.ret ⟨rx,_,rfl,rl aR hH ?_⟩;exact hH.freeze aJ (jR [((pc+1:Nat):Int)]) (n:=15) (by decide)
def l6 (p:Pg) (lY:Int):List Bool:=if kC lY p.ak.length then br p.code (p.ak.getD lY.toNat 0) else wt p.code.length false
theorem sP {lY:Int} (hp:p.ok) (hcl:jL p.code) (iA:∀v∈p.ak,0≤v∧v<p.code.length):Ev pv 75 [p.d,.int .i64 lY] s0 (oW (l6 p lY)) s0:=by
 refine Ev.iu rfl W2 rfl rfl rfl ?_;refine zE ?_;obtain⟨aR,hF,hH⟩:=ri s0;generalize ae .ro s0=S at*;have hc:=hp.c.arg s0.bs.length S;have hs:=hp.s.arg s0.bs.length S;have nY:=hp.c;have hlen:=hp.cl;have Lv:=hp.sl;unfold Pg.d;refine zQ 2 ?_;refine qb hH fun k2 st hk2 hH=>?_;have hH:=zjna hH;refine zQ 6 ?_;refine qn ?_;simp only[γ];refine ab.xD (s:=1) hH rfl rfl rfl rfl rfl rfl rfl rfl (η rfl) z0 (fun _=>(aa rfl _)) (fun k11 st LU hH=>?_);refine zQ 2 ?_
 have hnot:kC lY p.ak.length=!(decide (lY<0)||decide (lY≥p.ak.length)):=by
  unfold kC;simp only[Bool.not_or,←decide_not,Int.not_lt,Int.not_le,ge_iff_le]
 refine zQ 2 ?_;refine ag.da 20 (.bool (decide (lY<0)||decide (lY≥p.ak.length))) [] ?_ (fun ff tmp cI=>?_)
 ·refine zQ 3 ?_;refine GB 14 rfl (fun cj=>?_) (fun cj=>?_)
  ·refine zQ 6 ?_;refine π (aO ?_ ?_)
   ·dsimp only[aI,θ,nth,u2,u1]
    all_goals(first|rfl|simp)
   ·refine zF ?_
    all_goals(simp[cj];done)
  ·refine zQ 3 ?_;refine qn ?_ (hg:=wi cj);simp only[γ];refine zQ 2 ?_;refine π (aO ?_ ?_)
   ·dsimp only[aI,θ,nth,u2,u1]
    all_goals(first|rfl|simp)
   ·refine zF ?_
    all_goals(simp[cj];done)
 dsimp only[aI,θ,nth,u2,u1];refine qc (fun h0=>?_) (fun h0=>?_)<;>try simp only[cs] at h0
 ·have hR:l6 p lY=wt p.code.length false:=by unfold l6;rw[hnot,h0];rfl
  rw[hR];refine zQ 5 ?_;have hH:Has s0.bs.length S st [.aC (.win k11 0 0 p.code.length 1) 1 ((wt p.code.length false).map bV),.box k2 (.mem 0 false [p.cd,p.sd])]:=by rw[Qa2];exact hH
  refine ag.ret ⟨rx,_,rfl,rl aR hH ?_⟩;exact hH.freeze aJ (mw _) (n:=15) (by decide)
 ·have o0:kC lY p.ak.length=true:=by rw[hnot,h0];rfl
  have hR:l6 p lY=br p.code (p.ak.getD lY.toNat 0):=by unfold l6;rw[if_pos o0]
  rw[hR];unfold kC at o0;simp only[Γ,decide_eq_true_eq] at o0;obtain⟨ru,rfl⟩:=AI o0.1
  obtain⟨start,lL⟩:∃v,p.ak[ru]?=some v:=⟨p.ak[ru]' z0,δ _⟩
  have PK:=ej lL;have iA:=iA start (ξ lL);rw[show p.ak.getD (ru:Int).toNat 0=start by rw[ω,AN,lL];rfl];refine zQ 6 ?_;refine qr fun PB Ga=>?_;refine qR ?_;refine qh (s:=1) (vs:=[_]) hH fun k27 st VS hH=>?_;refine zQ 4 ?_;refine ag.loop (fun mm fr st=>∃(y z:D) (seen:List Bool) (ga:List Int),fr.clean=⟨8,[vf fr 0,vf fr 1,.ptr k2 0 0,vf fr 3,.nul,y,z,vf fr 7],[]⟩∧Has s0.bs.length S st [.aC z 1 (ga.reverse.map ax),.aC y 1 (seen.map bV),.box k2 (.mem 0 false [p.cd,p.sd])]∧(zM p.code mm seen ga=br p.code start)∧(3*seen.count false+ga.length≤mm)∧(seen.length=p.code.length)∧(∀v∈ga,0≤v∧v<(p.code.length:Int))∧(mm≤3*p.code.length+1)) (3*p.code.length+1) ?_ ?_
  ·exact⟨_,_,wt p.code.length false,[start],rfl,(by rw[Qa2];exact hH),rfl,by simp,by simp,by simpa using iA,by omega⟩
  rintro mm fr st ⟨y,z,seen,ga,hfr,hH,hd,hm,jS,hsk,Ca⟩;rw[hfr];clear hfr;generalize vf fr=ee;clear fr
  rcases ga with _|⟨v,ga⟩
  ·refine zQ 4 ?_;refine qn ?_ (hR:=hH.rows aJ);simp only[γ,Δ,ν];refine zQ 2 ?_;refine ag.cond (v:=false) (by dsimp only[Fr.ev,Fr.get,nth,V.look];rfl) (fun h=>by cases h) (fun _=>?_);refine zQ 6 ?_;have gV:seen=br p.code start:=by rw[←hd];cases mm<;>rfl
   rw[←gV];refine ag.ret ⟨rx,_,rfl,rl aR hH ?_⟩;exact hH.freeze bt (mw _) (n:=15) (by decide)
  ·have hv:=hsk v (IN ..);obtain⟨k,rfl⟩:=AI hv.1;have hk:k<p.code.length:=by omega
   simp only[ζ] at hm
   obtain⟨mm,rfl⟩:∃m',mm=m'+1:=⟨mm-1,by omega⟩
   obtain⟨b,hb⟩:∃b,seen[k]?=some b:=⟨seen[k]' z0,δ _⟩
   obtain⟨i,hi⟩:∃i,p.code[k]?=some i:=⟨p.code[k]' z0,δ _⟩
   have fU:=Ac (k:Int) ga;have mB:=kb hb;refine zQ 4 ?_;refine qn ?_ (hR:=hH.rows aJ);simp only[γ,ζ,ν];refine zQ 2 ?_;refine qD rfl (by simp) ?_;refine zQ 6 ?_;refine qn ?_ (hR:=hH.rows aJ);simp only[γ,ζ,ν];refine ab.eK (z:=((ga.length:Nat):Int)) rfl z3 z3 (by rw[wrap_i64 z0 z0]<;>omega) (aa rfl _) ?_;refine qi hH aJ fun Qg IF=>?_;refine zQ 7 ?_;refine qn ?_ (hR:=hH.rows aJ);simp only[γ,ζ,ν];refine ab.eK (z:=((ga.length:Nat):Int)) rfl z3 z3 (by rw[wrap_i64 z0 z0]<;>omega) (aa rfl _) ?_;refine ab.yD hH rfl z3 (by exact aJ) rfl rfl (lN (by simp only[γ,ν,ζ];omega)) ⟨z0,(by simp only[γ,ν,ζ];omega)⟩ (fun _=>(aa rfl _)) (fun y41 hH=>?_);refine zQ 2 ?_;dsimp only[u2] at hH;rw[D7] at hH;have iA:∀w∈ga,0≤w∧w<(p.code.length:Int):=fun w hw=>hsk w (Ω _ hw);refine zQ 5 ?_;refine qi hH bt fun YA Q_=>?_;refine zQ 2 ?_
   cases b with
   |true=>
    refine zQ 2 ?_;simp only[zM,ω,hb] at hd;exact⟨mm,by omega,⟨_,_,seen,ga,rfl,hH,hd,by omega,jS,iA,by omega⟩⟩
   |false=>
    have Gf:=count_set hb;have gD:(seen.set k true).map bV=(seen.map bV).set k [.bool true]:=by rw[List.map_set];rfl
    simp only[zM,ω,hb,hi] at hd;have Vw:=hcl k i hi;have C_:=uU k i
    have N7:∀w∈(bR k i).reverse++ga,0≤w∧w<(p.code.length:Int):=fun w hw=>by
     rcases Pd.1 hw with hw|hw
     ·exact Vw w (List.mem_reverse.1 hw)
     ·exact iA w hw
    have Ob:(((bR k i).reverse++ga).reverse).map ax=ga.reverse.map ax++(bR k i).map ax:=by
     rw[List.reverse_append,List.reverse_reverse,Θ]
    have M4:=(vl (bR k i)).arg s0.bs.length S;refine zQ 6 ?_;refine qi hH bt fun p48 aaM=>?_;refine ab.il hH rfl z3 z3 z5 rfl rfl (by exact bt) z5 (η rfl) (by exact .inl hF) (fun st hH=>?_);have hH:=zjna hH;refine zQ 3 ?_;refine Qac (m:=2) hH rfl z3 (by exact cU) (by dsimp only[υ,Φ,φ,v8,Pg.cs,aK,ax,bV]<;>rfl) rfl rfl (aa rfl _) ?_;refine qm ?_;refine qv (Le hp hi) ?_;refine ab.ck (s:=1) hH rfl z3 z3 (by exact aJ) (by exact Arg.rows z5 hH) rfl rfl rfl rfl rfl rfl rfl ⟨(η rfl),(η rfl)⟩ (fun _=>(aa rfl _)) (by simp only[γ,ν]<;>omega) (by exact .inl hF) (fun x53 st hH=>?_);have hH:=zjna hH;refine zQ 2 ?_;exact⟨mm,by omega,⟨y,_,seen.set k true,(bR k i).reverse++ga,rfl,(by rw[Ob,gD];exact hH),hd,by simp only[ε,ν];omega,by simp only[List.length_set];exact jS,N7,by omega⟩⟩
def ay (fr:Go.V.Fr) (k:Nat):Go.V.D:=Go.V.nth .bo fr.loc k
noncomputable def dec (q:Prop):Bool:=@decide q (χ q)
variable{q:Prop}
theorem bY (h:q):dec q=true:=@decide_eq_true q (χ q) h
theorem cL (h:¬q):dec q=false:=@decide_eq_false q (χ q) h
def mV (p:Pg) (r:Nat) (s:Int) (n:Nat):Prop:=∀pc i,pc<n→(br p.code s)[pc]?=some true→p.code[pc]?=some i→i.op=7→i.x=(r:Int)
structure a7 (p:Pg):Prop where
 cl:p.code.length≤400
 sl:p.ak.length≤8
 sh:∀pc i,p.code[pc]?=some i→cE p.code.length p.ak.length pc i=true
 st:∀v∈p.ak,0≤v∧v<(p.code.length:Int)
 fo:∀r s,p.ak[r]?=some s→mV p r s p.code.length
theorem oh (h:∀pc i,p.code[pc]?=some i→cE p.code.length p.ak.length pc i=true):jL p.code:=
 fun pc i hi=>Aj (h pc i hi)
theorem a7.closed (h:a7 p):jL p.code:=oh h.sh
theorem ek {a b:Int}:kC a b=true↔0≤a∧a<b:=by
 unfold kC;simp only[Γ,decide_eq_true_eq,ge_iff_le]
theorem lb (hp:p.ok):Ev pv 26 [p.d] s0 (.bool (dec (a7 p))) s0:=by
 refine Ev.iu rfl XM rfl rfl rfl ?_;refine zE ?_;obtain⟨aR,hF,hH⟩:=ri s0;generalize ae .ro s0=S at*;have hc:=hp.c.arg s0.bs.length S;have hs:=hp.s.arg s0.bs.length S;have nY:=hp.c;have hlen:=hp.cl;have Lv:=hp.sl;unfold Pg.d;refine zQ 2 ?_;refine qb hH fun k1 st oO hH=>?_;have hH:=zjna hH;refine zQ 4 ?_;refine ag.mH 17 (.bool (decide ((p.code.length:Int)>400)||decide ((p.ak.length:Int)>8))) [8,9,10,11,12,13,14,15,16] ?_ (fun ff tmp=>?_)
 ·refine zQ 2 ?_;refine qn ?_;simp only[γ];refine zQ 2 ?_;refine GB 12 rfl (fun lR=>?_) (fun lR=>?_)
  ·refine zQ 5 ?_;refine π (aX ?_);refine zG ?_
   all_goals(simp[lR];done)
  ·refine zQ 2 ?_;refine qn ?_ (hg:=wi lR);simp only[γ];refine zQ 2 ?_;refine π (aX ?_);refine zG ?_
   all_goals(simp[lR];done)
 dsimp only[aI,θ,nth,u2,u1];generalize ff 8=e8;generalize ff 9=e9;generalize ff 10=e10;generalize ff 11=e11;generalize ff 12=e12;generalize ff 13=e13;generalize ff 14=e14;generalize ff 15=e15;generalize ff 16=e16;refine qc (fun h0=>?_) (fun h0=>?_)<;>try simp only[cs] at h0
 ·rw[cL (fun h=>by have:=h.cl;have:=h.sl;simp at h0;omega)];refine zQ 4 ?_;refine ag.ret ⟨rx,_,rfl,rl aR hH (rfl)⟩
 ·have h0:p.code.length≤400∧p.ak.length≤8:=by simp at h0;omega
  refine zQ 6 ?_;refine qn ?_;simp only[γ];refine zQ 3 ?_;refine ag.loop (fun mm fr st=>∃(i:Nat),fr.clean=⟨49,[ay fr 0,.ptr k1 0 0,.bool false,ay fr 3,ay fr 4,ay fr 5,ay fr 6,ay fr 7,ay fr 8,ay fr 9,ay fr 10,ay fr 11,ay fr 12,ay fr 13,ay fr 14,ay fr 15,ay fr 16,ay fr 17,ay fr 18,ay fr 19,.int .i64 (p.code.length:Nat),.int .i64 (i:Nat),ay fr 22,ay fr 23,ay fr 24,ay fr 25,ay fr 26,ay fr 27,ay fr 28,ay fr 29,ay fr 30,ay fr 31,ay fr 32,ay fr 33,ay fr 34,ay fr 35,ay fr 36,ay fr 37,ay fr 38,ay fr 39,ay fr 40,ay fr 41,ay fr 42,ay fr 43,ay fr 44,ay fr 45,ay fr 46,ay fr 47,ay fr 48],[]⟩∧Has s0.bs.length S st [.box k1 (.mem 0 false [p.cd,p.sd])]∧(i+mm=p.code.length)∧(∀pc q,pc<i→p.code[pc]?=some q→cE p.code.length p.ak.length pc q=true)) (p.code.length) ?_ ?_
  ·exact⟨0,rfl,hH,by omega,by intro pc q h;omega⟩
  rintro mm fr st ⟨i,hfr,hH,hi,hsh⟩;rw[hfr];clear hfr;generalize ay fr=ee;clear fr;refine zQ 5 ?_;refine zP (fun h1=>?_) fun h1=>?_
  ·refine zQ 1 ?_
   obtain⟨q,hq⟩:∃q,p.code[i]?=some q:=⟨p.code[i]' z0,δ _⟩
   refine zQ 9 ?_;refine Qac (m:=2) hH rfl z3 (by exact aJ) (by dsimp only[υ,Φ,φ,v8,Pg.cs,aK,ax,bV]<;>rfl) rfl rfl (by dsimp only[Fr.put,u1,u2]<;>rfl) ?_;refine qm ?_;refine qv (Fz (p:=p) hp hq) ?_;refine zQ 2 ?_;refine ag.cond (by rfl) (fun h2=>?_) (fun h2=>?_)<;>try simp only[IS,BY] at h2
   ·rw[cL (fun h=>by have:=h.sh i q hq;rw[this] at h2;cases h2)];refine zQ 4 ?_;refine ag.ret ⟨rx,_,rfl,rl aR hH (rfl)⟩
   ·refine zQ 5 ?_;refine⟨mm-1,by omega,⟨i+1,rfl,hH,by omega,?_⟩⟩;intro pc q' B' pK
    by_cases he:pc=i
    ·subst he;rw[hq] at pK;cases pK;simpa using h2
    ·exact hsh pc q' z0 pK
  ·refine zQ 1 ?_;have hsh:∀pc q,p.code[pc]?=some q→cE p.code.length p.ak.length pc q=true:=fun pc q hq=>hsh pc q (by have:=bc hq;omega) hq;have hcl:=oh hsh;refine zQ 5 ?_;refine qn ?_;simp only[γ];refine zQ 3 ?_;refine ag.loop (fun mm fr st=>∃(r:Nat),fr.clean=⟨49,[ay fr 0,.ptr k1 0 0,.bool false,ay fr 3,ay fr 4,ay fr 5,ay fr 6,ay fr 7,ay fr 8,ay fr 9,ay fr 10,ay fr 11,ay fr 12,ay fr 13,ay fr 14,ay fr 15,ay fr 16,ay fr 17,ay fr 18,ay fr 19,ay fr 20,ay fr 21,ay fr 22,ay fr 23,ay fr 24,ay fr 25,ay fr 26,ay fr 27,ay fr 28,ay fr 29,p.sd,.int .i64 (p.ak.length:Nat),.int .i64 (r:Nat),ay fr 33,ay fr 34,ay fr 35,ay fr 36,ay fr 37,ay fr 38,ay fr 39,ay fr 40,ay fr 41,ay fr 42,ay fr 43,ay fr 44,ay fr 45,ay fr 46,ay fr 47,ay fr 48],[]⟩∧Has s0.bs.length S st [.box k1 (.mem 0 false [p.cd,p.sd])]∧(r+mm=p.ak.length)∧(∀r' s,r'<r→p.ak[r']?=some s→(0≤s∧s<(p.code.length:Int))∧mV p r' s p.code.length)) (p.ak.length) ?_ ?_
   ·exact⟨0,rfl,hH,by omega,by intro pc q h;omega⟩
   rintro mm fr st ⟨r,hfr,hH,hi,aT⟩;rw[hfr];clear hfr;generalize ay fr=ee;clear fr;refine zQ 5 ?_;refine zP (fun h3=>?_) fun h3=>?_
   ·refine zQ 1 ?_
    obtain⟨s,lL⟩:∃s,p.ak[r]?=some s:=⟨p.ak[r]' z0,δ _⟩
    have PK:=ej lL;refine zQ 5 ?_;refine qr fun Qg IF=>?_;refine zQ 10 ?_;refine qn ?_;simp only[γ];refine qv (jQ _ _) ?_;refine zQ 2 ?_;refine ag.cond (by rfl) (fun h4=>?_) (fun h4=>?_)<;>try simp only[IS,BY] at h4
    ·rw[cL (fun h=>by have:=ek.2 (h.st s (ξ lL));rw[this] at h4;cases h4)];refine zQ 4 ?_;refine ag.ret ⟨rx,_,rfl,rl aR hH (rfl)⟩
    ·have Lw:=ek.1 (show kC s p.code.length=true by simpa using h4);refine zQ 1 ?_;have wv:=l5 p.code s;have LB:=(oj (br p.code s)).arg s0.bs.length S;refine zQ 5 ?_;refine qv (E7 nY hlen hcl Lw) ?_;refine qn ?_;simp only[γ];refine zQ 3 ?_;refine ag.loop (fun mm fr st=>∃(i:Nat),fr.clean=⟨49,[ay fr 0,.ptr k1 0 0,.bool false,ay fr 3,.int .i64 (r:Nat),ay fr 5,ay fr 6,ay fr 7,ay fr 8,ay fr 9,ay fr 10,ay fr 11,ay fr 12,ay fr 13,ay fr 14,ay fr 15,ay fr 16,ay fr 17,ay fr 18,ay fr 19,ay fr 20,ay fr 21,ay fr 22,ay fr 23,ay fr 24,ay fr 25,ay fr 26,ay fr 27,ay fr 28,ay fr 29,p.sd,.int .i64 (p.ak.length:Nat),.int .i64 (r:Nat),ay fr 33,ay fr 34,ay fr 35,ay fr 36,ay fr 37,ay fr 38,ay fr 39,ay fr 40,ay fr 41,ay fr 42,ay fr 43,ay fr 44,ay fr 45,oW (br p.code s),.int .i64 ((br p.code s).length:Nat),.int .i64 (i:Nat)],[]⟩∧Has s0.bs.length S st [.box k1 (.mem 0 false [p.cd,p.sd])]∧(i+mm=p.code.length)∧(mV p r s i)) (p.code.length) ?_ ?_
     ·exact⟨0,rfl,hH,by omega,by intro pc q h;omega⟩
     rintro mm fr st ⟨i,hfr,hH,hj,hom⟩;rw[hfr];clear hfr;generalize ay fr=ee;clear fr;refine zQ 5 ?_;refine zP (fun h5=>?_) fun h5=>?_
     ·refine zQ 1 ?_
      obtain⟨b,hb⟩:∃b,(br p.code s)[i]?=some b:=⟨(br p.code s)[i]' z0,δ _⟩
      obtain⟨q,hq⟩:∃q,p.code[i]?=some q:=⟨p.code[i]' z0,δ _⟩
      have fU:=kb hb;have mB:=fy hq;refine zQ 5 ?_;refine qr fun Un Oj=>?_;refine zQ 5 ?_;refine ag.da 72 (.bool ((b &&(q.op==7)) &&(q.x !=(r:Int)))) [] ?_ (fun ff tmp cI=>?_)
      ·refine zQ 2 ?_;refine GB 54 rfl (fun lS=>?_) (fun lS=>?_)
       ·refine zQ 3 ?_;refine qr (fun p58 aaK=>?_) (hg:=wi lS);refine qf (fo:=0) (fun p59 Q7=>?_) (hg:=wi lS);refine zQ 4 ?_;refine GB 63 rfl (fun dA=>?_) (fun dA=>?_)
        ·refine zQ 3 ?_;refine qr (fun p67 aaG=>?_) (hg:=wi dA);refine qf (fo:=1) (fun Qf y6=>?_) (hg:=wi dA);refine zQ 4 ?_;refine π (aO ?_ ?_)
         ·dsimp only[aI,θ,nth,u2,u1]
          all_goals(first|rfl|simp)
         ·refine zF ?_
          all_goals(simp[lS,dA];done)
        ·refine zQ 9 ?_;refine π (aO ?_ ?_)
         ·dsimp only[aI,θ,nth,u2,u1]
          all_goals(first|rfl|simp)
         ·refine zF ?_
          all_goals(simp[lS,dA];done)
       ·refine zQ 18 ?_;refine π (aO ?_ ?_)
        ·dsimp only[aI,θ,nth,u2,u1]
         all_goals(first|rfl|simp)
        ·refine zF ?_
         all_goals(simp[lS];done)
      refine zG ?_;refine qc (fun h6=>?_) (fun h6=>?_)<;>try simp only[cs] at h6
      ·rw[cL (fun h=>by
        have h7:=h.fo r s lL i q z0;simp only[Γ,beq_iff_eq,bne_iff_ne,ne_eq] at h6;obtain⟨⟨rfl,h8⟩,h9⟩:=h6
        exact h9 (h7 hb hq h8))]
       refine zQ 4 ?_;refine ag.ret ⟨rx,_,rfl,rl aR hH (rfl)⟩
      ·refine zQ 5 ?_;refine⟨mm-1,by omega,⟨i+1,rfl,hH,by omega,?_⟩⟩;intro pc q' B' wH pK ib
       by_cases he:pc=i
       ·subst he;rw[hq] at pK;cases pK;rw[hb] at wH;cases wH;simp[ib] at h6;exact h6
       ·exact hom pc q' z0 wH pK ib
     ·refine zQ 5 ?_;refine⟨p.ak.length-(r+1),by omega,⟨r+1,rfl,hH,by omega,?_⟩⟩;intro r' s' EN nW
      by_cases he:r'=r
      ·subst he;rw[lL] at nW;cases nW;exact⟨Lw,fun pc q B'=>hom pc q z0⟩
      ·exact aT r' s' z0 nW
   ·refine zQ 1 ?_
    rw[bY ⟨h0.1,h0.2,hsh,fun v hv=>by
     obtain⟨r',EN⟩:=Qa1 hv
     exact(aT r' v (by have:=bc EN;omega) EN).1,fun r' s' nW=>(aT r' s' (by have:=bc nW;omega) nW).2⟩]
    refine zQ 4 ?_;refine ag.ret ⟨rx,_,rfl,rl aR hH (rfl)⟩
def dO (fr:Go.V.Fr) (k:Nat):Go.V.D:=Go.V.nth .bo fr.loc k
theorem po (hp:p.ok):Ev pv 33 [p.d] s0 (.bool (dec (a7 p))) s0:=by
 refine Ev.iu rfl XG rfl rfl rfl ?_;refine zE ?_;obtain⟨aR,hF,hH⟩:=ri s0;generalize ae .ro s0=S at*;have hc:=hp.c.arg s0.bs.length S;have hs:=hp.s.arg s0.bs.length S;have nY:=hp.c;have hlen:=hp.cl;have Lv:=hp.sl;unfold Pg.d;refine zQ 2 ?_;refine qb hH fun k1 st oO hH=>?_;have hH:=zjna hH;refine zQ 4 ?_;refine ag.da 17 (.bool (decide ((p.code.length:Int)>400)||decide ((p.ak.length:Int)>8))) [] ?_ (fun ff tmp cI=>?_)
 ·refine zQ 2 ?_;refine qn ?_;simp only[γ];refine zQ 2 ?_;refine GB 12 rfl (fun lR=>?_) (fun lR=>?_)
  ·refine zQ 5 ?_;refine π (aO ?_ ?_)
   ·dsimp only[aI,θ,nth,u2,u1]
    all_goals(first|rfl|simp)
   ·refine zF ?_
    all_goals(simp[lR];done)
  ·refine zQ 2 ?_;refine qn ?_ (hg:=wi lR);simp only[γ];refine zQ 2 ?_;refine π (aO ?_ ?_)
   ·dsimp only[aI,θ,nth,u2,u1]
    all_goals(first|rfl|simp)
   ·refine zF ?_
    all_goals(simp[lR];done)
 dsimp only[aI,θ,nth,u2,u1];refine qc (fun h0=>?_) (fun h0=>?_)<;>try simp only[cs] at h0
 ·rw[cL (fun h=>by have:=h.cl;have:=h.sl;simp at h0;omega)];refine zQ 4 ?_;refine ag.ret ⟨rx,_,rfl,rl aR hH (rfl)⟩
 ·have h0:p.code.length≤400∧p.ak.length≤8:=by simp at h0;omega
  refine zQ 7 ?_;refine ag.loop (fun mm fr st=>∃(i:Nat),fr.clean=⟨8,[dO fr 0,.ptr k1 0 0,.bool false,.int .i64 (i:Nat),dO fr 4,dO fr 5,dO fr 6,dO fr 7],[]⟩∧Has s0.bs.length S st [.box k1 (.mem 0 false [p.cd,p.sd])]∧(i+mm=p.code.length)∧(∀pc q,pc<i→p.code[pc]?=some q→cE p.code.length p.ak.length pc q=true)) (p.code.length) ?_ ?_
  ·exact⟨0,rfl,hH,by omega,by intro pc q h;omega⟩
  rintro mm fr st ⟨i,hfr,hH,hi,hsh⟩;rw[hfr];clear hfr;generalize dO fr=ee;clear fr;refine zQ 6 ?_;refine qn ?_;simp only[γ];refine zQ 2 ?_;refine zP (fun h1=>?_) fun h1=>?_
  ·refine zQ 1 ?_
   obtain⟨q,hq⟩:∃q,p.code[i]?=some q:=⟨p.code[i]' z0,δ _⟩
   refine zQ 4 ?_;refine Qac (m:=2) hH rfl z3 (by exact aJ) (by dsimp only[υ,Φ,φ,v8,Pg.cs,aK,ax,bV]<;>rfl) rfl rfl (aa rfl _) ?_;refine qm ?_;refine qv (NR (p:=p) hp hq) ?_;refine zQ 2 ?_;refine ag.cond (by rfl) (fun h2=>?_) (fun h2=>?_)<;>try simp only[IS,BY] at h2
   ·rw[cL (fun h=>by have:=h.sh i q hq;rw[this] at h2;cases h2)];refine zQ 4 ?_;refine ag.ret ⟨rx,_,rfl,rl aR hH (rfl)⟩
   ·refine zQ 6 ?_;refine⟨mm-1,by omega,⟨i+1,rfl,hH,by omega,?_⟩⟩;intro pc q' B' pK
    by_cases he:pc=i
    ·subst he;rw[hq] at pK;cases pK;simpa using h2
    ·exact hsh pc q' z0 pK
  ·refine zQ 1 ?_;have hsh:∀pc q,p.code[pc]?=some q→cE p.code.length p.ak.length pc q=true:=fun pc q hq=>hsh pc q (by have:=bc hq;omega) hq;have hcl:=oh hsh;refine zQ 6 ?_;refine ag.loop (fun mm fr st=>∃(r:Nat),fr.clean=⟨8,[dO fr 0,.ptr k1 0 0,.bool false,dO fr 3,.int .i64 (r:Nat),dO fr 5,dO fr 6,dO fr 7],[]⟩∧Has s0.bs.length S st [.box k1 (.mem 0 false [p.cd,p.sd])]∧(r+mm=p.ak.length)∧(∀r' s,r'<r→p.ak[r']?=some s→0≤s∧s<(p.code.length:Int))) (p.ak.length) ?_ ?_
   ·exact⟨0,rfl,hH,by omega,by intro pc q h;omega⟩
   rintro mm fr st ⟨r,hfr,hH,hi,aT⟩;rw[hfr];clear hfr;generalize dO fr=ee;clear fr;refine zQ 6 ?_;refine qn ?_;simp only[γ];refine zQ 2 ?_;refine zP (fun h3=>?_) fun h3=>?_
   ·refine zQ 1 ?_
    obtain⟨s,lL⟩:∃s,p.ak[r]?=some s:=⟨p.ak[r]' z0,δ _⟩
    have PK:=ej lL;refine zQ 3 ?_;refine ag.da 52 (.bool (decide (s<0)||decide (s≥p.code.length))) [] ?_ (fun ff tmp cI=>?_)
    ·refine zQ 3 ?_;refine qr fun YD Rc=>?_;refine zQ 3 ?_;refine GB 42 rfl (fun kG=>?_) (fun kG=>?_)
     ·refine zQ 10 ?_;refine π (aO ?_ ?_)
      ·dsimp only[aI,θ,nth,u2,u1]
       all_goals(first|rfl|simp)
      ·refine zF ?_
       all_goals(simp[kG];done)
     ·refine zQ 3 ?_;refine qr (fun p46 aaN=>?_) (hg:=wi kG);refine zQ 3 ?_;refine qn ?_ (hg:=wi kG);simp only[γ];refine zQ 2 ?_;refine π (aO ?_ ?_)
      ·dsimp only[aI,θ,nth,u2,u1]
       all_goals(first|rfl|simp)
      ·refine zF ?_
       all_goals(simp[kG];done)
    refine zG ?_;refine qc (fun h4=>?_) (fun h4=>?_)<;>try simp only[cs] at h4
    ·rw[cL (fun h=>by have:=h.st s (ξ lL);simp at h4;omega)];refine zQ 4 ?_;refine ag.ret ⟨rx,_,rfl,rl aR hH (rfl)⟩
    ·have Lw:0≤s∧s<(p.code.length:Int):=by simp at h4;omega
     refine zQ 6 ?_;refine⟨mm-1,by omega,⟨r+1,rfl,hH,by omega,?_⟩⟩;intro r' s' EN nW
     by_cases he:r'=r
     ·subst he;rw[lL] at nW;cases nW;exact Lw
     ·exact aT r' s' z0 nW
   ·refine zQ 1 ?_
    have aT:∀v∈p.ak,0≤v∧v<(p.code.length:Int):=fun v hv=>by
     obtain⟨r',EN⟩:=Qa1 hv;exact aT r' v (by have:=bc EN;omega) EN
    refine zQ 6 ?_;refine ag.loop (fun mm fr st=>∃(r:Nat),fr.clean=⟨8,[dO fr 0,.ptr k1 0 0,.bool false,dO fr 3,dO fr 4,.int .i64 (r:Nat),dO fr 6,dO fr 7],[]⟩∧Has s0.bs.length S st [.box k1 (.mem 0 false [p.cd,p.sd])]∧(r+mm=p.ak.length)∧(∀r' s,r'<r→p.ak[r']?=some s→mV p r' s p.code.length)) (p.ak.length) ?_ ?_
    ·exact⟨0,rfl,hH,by omega,by intro pc q h;omega⟩
    rintro mm fr st ⟨r,hfr,hH,hi,hfo⟩;rw[hfr];clear hfr;generalize dO fr=ee;clear fr;refine zQ 6 ?_;refine qn ?_;simp only[γ];refine zQ 2 ?_;refine zP (fun h5=>?_) fun h5=>?_
    ·refine zQ 1 ?_
     obtain⟨s,lL⟩:∃s,p.ak[r]?=some s:=⟨p.ak[r]' z0,δ _⟩
     have hR:l6 p (r:Nat)=br p.code s:=by
      unfold l6;rw[if_pos (ek.2 ⟨by omega,by omega⟩),ω,AN,lL];rfl
     have wv:=l5 p.code s;have LB:=(oj (br p.code s)).arg s0.bs.length S;refine zQ 4 ?_;refine Qac (m:=2) hH rfl z3 (by exact aJ) (by dsimp only[υ,Φ,φ,v8,Pg.cs,aK,ax,bV]<;>rfl) rfl rfl (aa rfl _) ?_;refine qm ?_;refine qv ((hR▸sP (p:=p) (lY:=(r:Nat)) hp hcl aT)) ?_;refine zQ 7 ?_;refine ag.loop (fun mm fr st=>∃(i:Nat),fr.clean=⟨8,[dO fr 0,.ptr k1 0 0,.bool false,dO fr 3,dO fr 4,.int .i64 (r:Nat),oW (br p.code s),.int .i64 (i:Nat)],[]⟩∧Has s0.bs.length S st [.box k1 (.mem 0 false [p.cd,p.sd])]∧(i+mm=p.code.length)∧(mV p r s i)) (p.code.length) ?_ ?_
     ·exact⟨0,rfl,hH,by omega,by intro pc q h;omega⟩
     rintro mm fr st ⟨i,hfr,hH,hj,hom⟩;rw[hfr];clear hfr;generalize dO fr=ee;clear fr;refine zQ 6 ?_;refine qn ?_;simp only[γ];refine zQ 2 ?_;refine zP (fun h7=>?_) fun h7=>?_
     ·refine zQ 1 ?_
      obtain⟨b,hb⟩:∃b,(br p.code s)[i]?=some b:=⟨(br p.code s)[i]' z0,δ _⟩
      obtain⟨q,hq⟩:∃q,p.code[i]?=some q:=⟨p.code[i]' z0,δ _⟩
      have fU:=kb hb;have mB:=fy hq;refine zQ 3 ?_;refine ag.da 92 (.bool ((b &&(q.op==7)) &&(q.x !=(r:Int)))) [] ?_ (fun ff tmp cI=>?_)
      ·refine zQ 2 ?_;refine qr fun p72 Vh=>?_;refine zQ 2 ?_;refine GB 74 rfl (fun lR=>?_) (fun lR=>?_)
       ·refine zQ 3 ?_;refine qr (fun p78 aaB=>?_) (hg:=wi lR);refine qf (fo:=0) (fun TF LF=>?_) (hg:=wi lR);refine zQ 4 ?_;refine GB 83 rfl (fun e6=>?_) (fun e6=>?_)
        ·refine zQ 3 ?_;refine qr (fun Z_ Vf=>?_) (hg:=wi e6);refine qf (fo:=1) (fun p88 aax=>?_) (hg:=wi e6);refine zQ 4 ?_;refine π (aO ?_ ?_)
         ·dsimp only[aI,θ,nth,u2,u1]
          all_goals(first|rfl|simp)
         ·refine zF ?_
          all_goals(simp[lR,e6];done)
        ·refine zQ 9 ?_;refine π (aO ?_ ?_)
         ·dsimp only[aI,θ,nth,u2,u1]
          all_goals(first|rfl|simp)
         ·refine zF ?_
          all_goals(simp[lR,e6];done)
       ·refine zQ 18 ?_;refine π (aO ?_ ?_)
        ·dsimp only[aI,θ,nth,u2,u1]
         all_goals(first|rfl|simp)
        ·refine zF ?_
         all_goals(simp[lR];done)
      refine zG ?_;refine qc (fun h6=>?_) (fun h6=>?_)<;>try simp only[cs] at h6
      ·rw[cL (fun h=>by
        have h7:=h.fo r s lL i q z0;simp only[Γ,beq_iff_eq,bne_iff_ne,ne_eq] at h6;obtain⟨⟨rfl,h8⟩,h9⟩:=h6
        exact h9 (h7 hb hq h8))]
       refine zQ 4 ?_;refine ag.ret ⟨rx,_,rfl,rl aR hH (rfl)⟩
      ·refine zQ 6 ?_;refine⟨mm-1,by omega,⟨i+1,rfl,hH,by omega,?_⟩⟩;intro pc q' B' wH pK ib
       by_cases he:pc=i
       ·subst he;rw[hq] at pK;cases pK;rw[hb] at wH;cases wH;simp[ib] at h6;exact h6
       ·exact hom pc q' z0 wH pK ib
     ·refine zQ 6 ?_;refine⟨p.ak.length-(r+1),by omega,⟨r+1,rfl,hH,by omega,?_⟩⟩;intro r' s' EN nW
      by_cases he:r'=r
      ·subst he;rw[lL] at nW;cases nW;exact fun pc q B'=>hom pc q z0
      ·exact hfo r' s' z0 nW
    ·refine zQ 1 ?_;rw[bY ⟨h0.1,h0.2,hsh,aT,fun r' s' nW=>hfo r' s' (by have:=bc nW;omega) nW⟩];refine zQ 4 ?_;refine ag.ret ⟨rx,_,rfl,rl aR hH (rfl)⟩
def uP:Nat→List Bool→List Int
 |_,[]=>[]
 |i,b::l=>(if b then[(i:Int)] else[])++uP (i+1) l
noncomputable def uF (p:Pg) (lY:Int):List Int:=if dec (a7 p) &&kC lY p.ak.length then uP 0 (br p.code (p.ak.getD lY.toNat 0)) else[]
def e_ (i:aL):aL:=⟨i.op,i.x,i.y,.sl ((i.rs.map au).map (kO 2)),i.rs⟩
theorem JS (h:i.ok):(e_ i).ok:=⟨fg.frozen (nP _) (eG _),h.2⟩
def vR (q:aL):List D:=aK (e_ q)
structure eE where
 op:Int
 rd:D
 rs:List Rg
 mn:Int
 mx:Int
 lz:Bool
 cap:Int
 kids:Int
def bC (n:eE):List D:=[.int .i64 n.op,n.rd,.int .i64 n.mn,.int .i64 n.mx,.bool n.lz,.int .i64 n.cap,.int .i64 n.kids]
def eE.ok (n:eE):Prop:=fg n.rd 2 (n.rs.map au)∧n.rs.length≤1048576∧n.kids≤9223372036854775807
structure Nl where
 d:D
 l:List eE
structure Nl.ok (x:Nl):Prop where
 c:fg x.d 7 (x.l.map bC)
 i:∀n∈x.l,n.ok
 nl:x.l.length≤1048576
theorem nV {l:List eE} {i:Nat} {q:eE} (h:l[i]?=some q):(l.map bC)[i]?=some (bC q):=by rw[IT,h];rfl
mutual
inductive Tr where
 |mk (n:eE) (ks:bU)
inductive bU where
 |nil
 |cons (t:Tr) (ts:bU)
end
def bU.len:bU→Nat
 | .nil=>0
 | .cons _ ts=>ts.len+1
mutual
def Tr.flat:Tr→List eE
 | .mk n ks=>n::ks.flat
def bU.flat:bU→List eE
 | .nil=>[]
 | .cons t ts=>t.flat++ts.flat
end
def A3 (n:eE) (nk:Nat):Prop:=
 n.kids=(nk:Int)∧(((n.op=1∨n.op=7∨n.op=8)∧nk=0)∨(n.op=2∧nk=0)∨((n.op=3∨n.op=4)∧2≤nk)∨
  (n.op=5∧nk=1∧0≤n.mn∧n.mn≤30∧(n.mx=-1∨(n.mn≤n.mx∧n.mx≤30)))∨(n.op=6∧nk=1∧1≤n.cap∧n.cap≤4))
mutual
def Tr.ok:Tr→Prop
 | .mk n ks=>A3 n ks.len∧ks.ok
def bU.ok:bU→Prop
 | .nil=>True
 | .cons t ts=>t.ok∧ts.ok
end
def cg (n:eE) (s k:Nat):Nat:=
 if n.op=2∨n.op=7∨n.op=8 then 1
 else if n.op=4 then s+2*(k-1)
 else if n.op=6 then s+2
 else if n.op=5 then(if n.mx=-1 then n.mn.toNat*s+s+2 else n.mn.toNat*s+(n.mx.toNat-n.mn.toNat)*(s+1))
 else s
mutual
def Tr.sz:Tr→Nat
 | .mk n ks=>cg n ks.sz ks.len
def bU.sz:bU→Nat
 | .nil=>0
 | .cons t ts=>t.sz+ts.sz
end
def dJ (op x y:Int) (rs:List Rg):aL:=⟨op,x,y,.sl ((rs.map au).map (kO 2)),rs⟩
def rh (s o:Nat) (lz:Bool):aL:=if lz=true then dJ 2 (o:Nat) ((s+1:Nat):Int) [] else dJ 2 ((s+1:Nat):Int) (o:Nat) []
def pF (e:Nat):aL:=dJ 3 (e:Nat) 0 []
def gO (c:Nat→List aL) (z:Nat):Nat→Nat→List aL
 |0,_=>[]
 |k+1,b=>c b++gO c z k (b+z)
def gA (sp:Nat→aL) (c:Nat→List aL) (z:Nat):Nat→Nat→List aL
 |0,_=>[]
 |k+1,b=>sp b::(c (b+1)++gA sp c z k (b+1+z))
def AU (z:Nat):Nat→Nat→List Nat
 |0,_=>[]
 |k+1,b=>b::AU z k (b+1+z)
def rr (n:eE) (c:Nat→List aL) (z b:Nat):List aL:=
 if n.mx=-1 then gO c z n.mn.toNat b++(rh (b+n.mn.toNat*z) (b+n.mn.toNat*z+z+2) n.lz::(c (b+n.mn.toNat*z+1)++[pF (b+n.mn.toNat*z)]))
 else gO c z n.mn.toNat b++gA (fun s=>rh s (b+n.mn.toNat*z+(n.mx.toNat-n.mn.toNat)*(z+1)) n.lz) c z (n.mx.toNat-n.mn.toNat) (b+n.mn.toNat*z)
mutual
def aU:Tr→Nat→List aL
 | .mk n ks,b=>
  if n.op=2 then[dJ 1 0 0 n.rs]
  else if n.op=7 then[dJ 5 0 0 []]
  else if n.op=8 then[dJ 6 0 0 []]
  else if n.op=3 then iD ks b
  else if n.op=4 then f_ (pF (b+cg n ks.sz ks.len)) ks b
  else if n.op=5 then rr n (iD ks) ks.sz b
  else if n.op=6 then dJ 4 (2*n.cap) 0 []::(iD ks (b+1)++[dJ 4 (2*n.cap+1) 0 []])
  else[]
def iD:bU→Nat→List aL
 | .nil,_=>[]
 | .cons t ts,b=>aU t b++iD ts (b+t.sz)
def f_ (jp:aL):bU→Nat→List aL
 | .nil,_=>[]
 | .cons t ts,b=>if ts.len=0 then aU t b else rh b (b+1+t.sz+1) false::(aU t (b+1)++jp::f_ jp ts (b+t.sz+2))
end
def v_:bU→Nat→List Nat
 | .nil,_=>[]
 | .cons t ts,b=>if ts.len=0 then[] else(b+1+t.sz)::v_ ts (b+t.sz+2)
theorem lB {c:Nat→List aL} {z:Nat} (hc:∀b,(c b).length=z):∀k b,(gO c z k b).length=k*z
 |0,b=>by simp[gO]
 |k+1,b=>by rw[gO,ε,hc,lB hc k,Qab];omega
theorem uK {sp:Nat→aL} {c:Nat→List aL} {z:Nat} (hc:∀b,(c b).length=z):∀k b,(gA sp c z k b).length=k*(z+1)
 |0,b=>by simp[gA]
 |k+1,b=>by rw[gA,ζ,ε,hc,uK hc k,Qab];omega
theorem Hx {n:eE} {c:Nat→List aL} {z b:Nat} (hc:∀b,(c b).length=z) (h:n.op=5):(rr n c z b).length=cg n z 1:=by
 unfold rr cg;rw[if_neg (show¬(n.op=2∨n.op=7∨n.op=8) by omega),if_neg (show¬n.op=4 by omega),if_neg (show¬n.op=6 by omega),if_pos h]
 split
 ·rw[ε,lB hc,ζ,ε,hc];simp only[ζ,Δ];omega
 ·rw[ε,lB hc,uK hc]
variable{ks:bU}
theorem bU.EC (h:ks.len=1):∃t,ks=.cons t .nil:=by
 cases ks with
 |nil=>simp[bU.len] at h
 |cons t ts=>cases ts with
  |nil=>exact⟨t,rfl⟩
  |cons u us=>simp[bU.len] at h
theorem bU.len_nil (h:ks.len=0):ks=.nil:=by
 cases ks with
 |nil=>rfl
 |cons t ts=>simp[bU.len] at h
mutual
theorem c8:∀(t:Tr) (b:Nat),t.ok→(aU t b).length=t.sz
 | .mk n ks,b,h=>by
  simp only[Tr.ok] at h;obtain⟨h1,h2⟩:=h;have hc:=fun b=>qG ks b h2;have ha:=fun jp b=>vZ jp ks b h2;simp only[aU,Tr.sz];obtain⟨_,⟨h3,h4⟩|⟨h3,h4⟩|⟨h3,h4⟩|⟨h3,h4,h5⟩|⟨h3,h4,h5⟩⟩:=h1
  ·have hk:=bU.len_nil h4;subst hk
   by_cases q7:n.op=7
   ·simp[q7,cg]
   ·by_cases q8:n.op=8
    ·simp[q8,cg]
    ·have q1:n.op=1:=by omega
     simp[q1,cg,bU.sz]
  ·simp[h3,cg]
  ·rcases h3 with h3|h3
   ·simp[h3,cg,hc]
   ·simp[h3,cg,ha]
  ·have:=Hx (n:=n) (b:=b) hc h3;simp only[h3] at this⊢;simp only[show¬((5:Int)=2) by decide,show¬((5:Int)=7) by decide,show¬((5:Int)=8) by decide,show¬((5:Int)=3) by decide,show¬((5:Int)=4) by decide,if_false,if_true];rw[this,h4]
  ·simp[h3,cg,hc]
theorem qG:∀(ts:bU) (b:Nat),ts.ok→(iD ts b).length=ts.sz
 | .nil,b,_=>by simp[iD,bU.sz]
 | .cons t ts,b,h=>by
  simp only[bU.ok] at h;simp only[iD,bU.sz,ε];rw[c8 t b h.1,qG ts _ h.2]
theorem vZ (jp:aL):∀(ts:bU) (b:Nat),ts.ok→(f_ jp ts b).length=ts.sz+2*(ts.len-1)
 | .nil,b,_=>by simp[f_,bU.sz,bU.len]
 | .cons t ts,b,h=>by
  simp only[bU.ok] at h;have h1:=vZ jp ts (b+t.sz+2) h.2;simp only[f_,bU.sz,bU.len]
  by_cases q:ts.len=0
  ·rw[if_pos q,c8 t b h.1,q];have:=bU.len_nil q;subst this;simp[bU.sz]
  ·rw[if_neg q,ζ,ε,ζ,c8 t _ h.1,h1];omega
end
def jV (f:Nat→aL) (c:List aL) (l:List Nat):List aL:=l.foldl (fun c j=>c.set j (f j)) c
theorem tK {α:Type} (pre post:List α) (x y:α):(pre++x::post).set pre.length y=pre++y::post:=by
 rw[List.set_append_right _ _ (τ _),Qaa];rfl
theorem tT {α:Type} (pre post:List α) (x:α):(pre++x::post)[pre.length]?=some x:=by
 rw[List.getElem?_append_right (τ _),Qaa];rfl
theorem rF {sp:Nat→aL} {c:Nat→List aL} {z:Nat} (hc:∀b,(c b).length=z) {i0:aL}:∀(k b:Nat) (pre post:List aL),pre.length=b→jV sp (pre++gA (fun _=>i0) c z k b++post) (AU z k b)=pre++gA sp c z k b++post∧∀j∈AU z k b,(pre++gA (fun _=>i0) c z k b++post)[j]?=some i0
 |0,b,pre,post,_=>⟨rfl,fun j hj=>by cases hj⟩
 |k+1,b,pre,post,h=>by
  have ih:=rF (sp:=sp) hc (i0:=i0) k (b+1+z) (pre++i0::c (b+1)) post (by rw[ε,ζ,hc];omega);have EL:=rF (sp:=sp) hc (i0:=i0) k (b+1+z) (pre++sp b::c (b+1)) post (by rw[ε,ζ,hc];omega);simp only[gA,AU];have e:pre++i0::(c (b+1)++gA (fun _=>i0) c z k (b+1+z))++post=pre++i0::(c (b+1)++gA (fun _=>i0) c z k (b+1+z)++post):=by simp
  have e2:pre++i0::c (b+1)++gA (fun _=>i0) c z k (b+1+z)++post=pre++i0::(c (b+1)++gA (fun _=>i0) c z k (b+1+z)++post):=by simp
  refine⟨?_,fun j hj=>?_⟩
  ·unfold jV at EL⊢;rw[ρ,e]
   have hs:(pre++i0::(c (b+1)++gA (fun _=>i0) c z k (b+1+z)++post)).set b (sp b)=pre++sp b::c (b+1)++gA (fun _=>i0) c z k (b+1+z)++post:=by
    rw[←h,tK];simp
   rw[hs,EL.1];simp
  ·rw[e]
   rcases κ.1 hj with rfl|hj
   ·rw[←h];exact tT _ _ _
   ·rw[←e2];exact ih.2 j hj
theorem sA {jp i0:aL}:∀(ts:bU) (b:Nat) (pre post:List aL),ts.ok→pre.length=b→jV (fun _=>jp) (pre++f_ i0 ts b++post) (v_ ts b)=pre++f_ jp ts b++post∧∀j∈v_ ts b,(pre++f_ i0 ts b++post)[j]?=some i0
 | .nil,b,pre,post,_,_=>⟨by simp[f_,v_,jV],fun j hj=>by simp[v_] at hj⟩
 | .cons t ts,b,pre,post,aT,h=>by
  simp only[bU.ok] at aT
  by_cases q:ts.len=0
  ·simp only[f_,v_,if_pos q];exact⟨rfl,fun j hj=>by cases hj⟩
  ·simp only[f_,v_,if_neg q];generalize rh b (b+1+t.sz+1) false=sp;have hcl:=c8 t (b+1) aT.1;have ih:=sA (jp:=jp) (i0:=i0) ts (b+t.sz+2) (pre++sp::(aU t (b+1)++[i0])) post aT.2 (by simp only[ε,ζ,Δ,hcl];omega);have EL:=sA (jp:=jp) (i0:=i0) ts (b+t.sz+2) (pre++sp::(aU t (b+1)++[jp])) post aT.2 (by simp only[ε,ζ,Δ,hcl];omega);generalize f_ i0 ts (b+t.sz+2)=A at*;have e:pre++sp::(aU t (b+1)++i0::A)++post=(pre++sp::aU t (b+1))++i0::(A++post):=by simp
   have hl:(pre++sp::aU t (b+1)).length=b+1+t.sz:=by simp only[ε,ζ,hcl];omega
   refine⟨?_,fun j hj=>?_⟩
   ·unfold jV at EL⊢;rw[ρ,e,←hl,tK];have:=EL.1;simp only[ψ,OF,Qa5] at this⊢;exact this
   ·rw[e]
    rcases κ.1 hj with rfl|hj
    ·rw[←hl];exact tT _ _ _
    ·have:=ih.2 j hj;simp only[ψ,OF,Qa5] at this⊢;exact this
def h_ {α:Type} (L:List α) (at_:Nat) (M:List α):Prop:=∃post,L.drop at_=M++post
theorem h_.head {α:Type} {L M:List α} {a:α} {at_:Nat} (h:h_ L at_ (a::M)):L[at_]?=some a:=by
 obtain⟨post,h⟩:=h;have:=congrArg (·[0]?) h
 simpa using this
theorem h_.tail {α:Type} {L M:List α} {a:α} {at_:Nat} (h:h_ L at_ (a::M)):h_ L (at_+1) M:=by
 obtain⟨post,h⟩:=h;refine⟨post,?_⟩;rw[←Qa6,h];rfl
theorem h_.left {α:Type} {L M M':List α} {at_:Nat} (h:h_ L at_ (M++M')):h_ L at_ M:=by
 obtain⟨post,h⟩:=h;exact⟨M'++post,by rw[h,ψ]⟩
theorem h_.right {α:Type} {L M M':List α} {at_:Nat} (h:h_ L at_ (M++M')):h_ L (at_+M.length) M':=by
 obtain⟨post,h⟩:=h;refine⟨post,?_⟩;rw[←Qa6,h,ψ,List.drop_left]
theorem h_.le {α:Type} {L M:List α} {at_:Nat} (h:h_ L at_ M) (hM:M≠[]):at_+M.length≤L.length:=by
 obtain⟨post,h⟩:=h;have:=congrArg Qa9 h;simp only[List.length_drop,ε] at this
 have:0<M.length:=by cases M with|nil=>exact absurd rfl hM|cons _ _=>simp
 omega
theorem h_.all {α:Type} (L:List α):h_ L 0 L:=⟨[],by simp⟩
mutual
def Tr.zs:Tr→List Int
 | .mk n ks=>((min (cg n ks.sz ks.len) 401:Nat):Int)::ks.zs
def bU.zs:bU→List Int
 | .nil=>[]
 | .cons t ts=>t.zs++ts.zs
end
mutual
def Tr.es:Tr→Nat→List Int
 | .mk n ks,at_=>((at_+1+ks.flat.length:Nat):Int)::ks.es (at_+1)
def bU.es:bU→Nat→List Int
 | .nil,_=>[]
 | .cons t ts,at_=>t.es at_++ts.es (at_+t.flat.length)
end
mutual
theorem Tr.kR:∀t:Tr,t.zs.length=t.flat.length
 | .mk n ks=>by simp[Tr.zs,Tr.flat,bU.kR ks]
theorem bU.kR:∀ts:bU,ts.zs.length=ts.flat.length
 | .nil=>rfl
 | .cons t ts=>by simp[bU.zs,bU.flat,Tr.kR t,bU.kR ts]
end
mutual
theorem Tr.kZ:∀(t:Tr) (a:Nat),(t.es a).length=t.flat.length
 | .mk n ks,a=>by simp[Tr.es,Tr.flat,bU.kZ ks]
theorem bU.kZ:∀(ts:bU) (a:Nat),(ts.es a).length=ts.flat.length
 | .nil,_=>rfl
 | .cons t ts,a=>by simp[bU.es,bU.flat,Tr.kZ t,bU.kZ ts]
end
theorem Tr.j_ (t:Tr):0<t.flat.length:=by cases t;simp[Tr.flat]
theorem bU.nb:∀ts:bU,ts.len≤ts.flat.length
 | .nil=>τ _
 | .cons t ts=>by
  have h1:=bU.nb ts;have h2:=t.j_;simp only[bU.len,bU.flat,ε];omega
end Go.Proofs.YtkbacjpologjbaaGreat
namespace Go.V
variable{N:Nat} {S st:St} {H:List a8}
theorem cO.at_ {α β:Type} {R:α→β→Prop}:∀{l:List α} {m:List β} {i:Nat} {b:β},cO R l m→m[i]?=some b→∃a,l[i]?=some a∧R a b
 |_,_,_,_,.nil,h=>by simp at h
 |_,_,0,_,.cons a t,h=>by simp only[ο,Ξ.injEq] at h;subst h;exact⟨_,rfl,a⟩
 |_,_,i+1,_,.cons a t,h=>by simp only[AT] at h⊢;exact t.at_ h
theorem cO.set {α β:Type} {R:α→β→Prop} {a:α} {b:β} (r:R a b):∀{l:List α} {m:List β} (i:Nat),cO R l m→cO R (l.set i a) (m.set i b)
 |_,_,_,.nil=>.nil
 |_,_,0,.cons _ t=>.cons r t
 |_,_,i+1,.cons h t=>.cons h (t.set r i)
theorem cO.setMany {R:D→D→Prop}:∀{xs ys:List D} {c d:List D} (o:Nat),cO R xs ys→cO R c d→cO R (setMany c o xs) (setMany d o ys)
 |_,_,_,_,_,.nil,h=>h
 |_,_,_,_,o,.cons r t,h=>by simp only[Go.V.setMany];exact t.setMany (o+1) (h.set r o)
theorem cO.same {R:D→D→Prop}:∀{l:List D},(∀d∈l,R d d)→cO R l l
 |[],_=>.nil
 |d::l,h=>.cons (h d (IN ..)) (cO.same fun x hx=>h x (Ω _ hx))
variable{j s:Nat}{x:D}{bb:Bool}{ks:Nat→Prop}{vs:List (List D)}
theorem Has.To (hH:Has N S st H) (hj:H[j]?=some (.cP bb ks x s vs)):∃es,Rows st s x es∧es.length=vs.length:=by
 obtain⟨⟨es,h1,h2⟩,_⟩:=(hH.ok j _ hj).1;exact⟨es,h1.rows,h2.len⟩
variable{k aB off i o:Nat}{cs:List D}
theorem Has.X4 {len:Nat} {v:List D} (h:Has N S st H) (hj:H[j]?=some (.cP bb ks (.win k aB off len s) s vs)) (hi:vs[i]?=some v) (hl:o+cs.length≤s) (hp:∀d∈cs,cD d=true) (hw:S.flr≤N∨refs cs=0) (EP:(cs.all (fun d=>!(Ip d))||bb)=true):
  ∃ah,st.wr k aB (off+i*s+o) cs=some ah∧Has N S ah (H.set j (.cP bb ks (.win k aB off len s) s (vs.set i (setMany v o cs)))):=by
 obtain⟨⟨es,iI,wy⟩,he3⟩:=(h.ok j _ hj).1;have hK:=(h.ok j _ hj).2;obtain⟨e,hei,aA⟩:=wy.at_ hi
 have zg:Has N S st [.aC (.win k aB off len s) s es]:=by
  refine⟨h.ex,h.hN,h.db,fun i e hi=>?_,fun i i' a b hii ha hb k pO jj=>?_⟩
  ·cases i with
   |zero=>simp only[ο,Ξ.injEq] at hi;subst hi;exact⟨iI,fun k hk=>hK k (.inl hk)⟩
   |succ i=>simp at hi
  ·cases i with
   |zero=>cases i' with
    |zero=>exact hii rfl
    |succ i'=>simp at hb
   |succ i=>simp at ha
 obtain⟨ah,q1,q2⟩:=zg.Ee (j:=0) aJ hei hl hw;refine⟨ah,q1,?_⟩;have hown:=q2.own (j:=0) aJ
 have RR:(∀n,n≠k→ah.bs[n]?=st.bs[n]?)∧st.bs.length=ah.bs.length∧ah.flr=st.flr∧ah.ro=st.ro:=by
  unfold St.wr at q1
  split at q1
  ·split at q1
   ·cases q1;exact⟨fun n hn=>by simp only;rw[List.getElem?_set_ne (fun e=>hn e.symm)],by simp,rfl,rfl⟩
   ·cases q1
  ·cases q1
 obtain⟨c1,c2,c3,c4⟩:=RR;have hkk:=hK k (.inl (by simp only[Qa4]));have hne:∀n,ks n→n≠k:=fun n hn e=>he3 k (by simp only[Qa4]) (e▸hn);have s8:∀n,ks n→ah.bs[n]?=st.bs[n]?:=fun n hn=>c1 n (hne n hn);refine h.D2 hj (fun n hn hnot=>c1 n fun e=>hnot (.inl (by simp only[Qa4];omega))) (Nat.le_of_eq c2) c3 c4 ⟨⟨_,hown,?_⟩,he3⟩ (fun n hn=>.inl hn) fun n hn=>?_
 ·refine cO.set ?_ i (wy.mono fun a b=>cO.mono fun c d=>fT.move s8);exact(cO.same fun d hd=>.plain d (hp d hd) (by cases bb with|true=>simp|false=>simp only[Bool.or_false,List.all_eq_true] at EP⊢;exact EP d hd)).setMany o (aA.mono fun c d=>fT.move s8)
 ·rw[←c2];exact(hK n hn).2
variable{P:Pv} {ops:Array Oper} {rest:List Oper} {fr aG:Fr} {Q:Fr→St→Prop} {ty:TypeId} {pp:String} {a:Array Edge} {g:Option (Nat×Bool)} {dst:Nat}
variable{xo:Operand}
theorem ab.Gt {t e:TypeId} (hH:Has N S st H) (hg:aD ops fr ⟨some dst,.call ⟨.builtin .len,#[xo],#[t]⟩,ty,pp,a,g⟩=some true) (hx:fr.ev xo=x) (hj:H[j]?=some (.cP bb ks x s vs)) (ht:P.cy t=some (.slice e)) (hp:fr.put dst (.int .i64 (vs.length:Nat))=aG) (h:ab P ops rest aG st Q):ab P ops (⟨some dst,.call ⟨.builtin .len,#[xo],#[t]⟩,ty,pp,a,g⟩::rest) fr st Q:=by
 obtain⟨es,h1,h2⟩:=hH.To hj;exact ab.Aw hg hx h1 ht (by rw[h2];exact hp) h
theorem ab.JL {t e:TypeId} {io:Operand} {kk:IntKind} {aG:D→Fr} (hH:Has N S st H) (hg:aD ops fr ⟨some dst,.indexAddr t xo io,ty,pp,a,g⟩=some true) (hx:fr.ev xo=x) (hi:fr.ev io=.int kk (i:Nat)) (hj:H[j]?=some (.cP bb ks x s vs)) (ht:P.cy t=some (.slice e)) (hs:cz P e=some s) (hr:i<vs.length) (hp:∀p,fr.put dst p=aG p) (h:∀p,tD x s i 0 p→ab P ops rest (aG p) st Q):ab P ops (⟨some dst,.indexAddr t xo io,ty,pp,a,g⟩::rest) fr st Q:=by
 obtain⟨⟨es,iI,wy⟩,he3⟩:=(hH.ok j _ hj).1;have hlen:=wy.len
 cases iI with
 |nul=>simp at hlen;omega
 |win k aB off es c hm hl hc he=>
  refine Qa8 hg rfl (d:=.ptr k aB (off+i*s)) (st1:=st) ?_ (hp _) (h _ ⟨k,aB,off,_,rfl,rfl⟩);simp only[dN,hx,hi,bX,ht,hs,Qa3,St.mem_of hm,Option.isSome_some];rw[if_pos ⟨trivial,by omega,by omega,trivial⟩];rfl
theorem ab.vP {t:TypeId} {ao vo:Operand} {y v:D} {r:List D} (hH:Has N S st H) (hg:aD ops fr ⟨none,.store t ao vo,ty,pp,a,g⟩=some true) (ha:fr.ev ao=y) (hv:fr.ev vo=v) (hR:tD x s i o y) (kh:v.cells?=some cs) (hs:cz P t=some cs.length) (hj:H[j]?=some (.cP bb ks x s vs)) (hr:vs[i]?=some r) (hl:o+cs.length≤s) (hq:∀d∈cs,cD d=true) (hw:S.flr≤N∨refs cs=0) (h:∀ah,Has N S ah (H.set j (.cP bb ks x s (vs.set i (setMany r o cs))))→ab P ops rest fr ah Q) (IA:(cs.all (fun d=>!(Ip d))||bb)=true:=by rfl):ab P ops (⟨none,.store t ao vo,ty,pp,a,g⟩::rest) fr st Q:=by
 obtain⟨k,aB,off,len,rfl,rfl⟩:=hR;obtain⟨ah,h1,h2⟩:=hH.X4 hj hr hl hq hw IA;refine ab.N hg rfl (d:=.tup []) (st1:=ah) ?_ (h _ h2);simp only[dN,ha,hv,lU,kh,hs,if_pos trivial,h1];rfl
variable{dy:Dy}
theorem ag.Pc {l:List Oper} {d n loc tmp st} {Q:Out→Fr→St→Prop} (ws:List Nat) (F:(Nat→D)→Prop) (h1:ab P l.toArray l ⟨n,loc,[]⟩ st fun aG ah=>∃f tmp,aG=⟨n,aI loc ws f,tmp⟩∧ah=st∧F f) (h2:∀f tmp,F f→Q .next ⟨n,aI loc ws f,tmp⟩ st) (h0:iU i dy=[]:=by rfl):ag P dy (.region i l.toArray d) ⟨n,loc,tmp⟩ st Q:=by
 refine ag.ei ?_ h0;unfold ab at h1⊢;obtain⟨aG,ah,h3,f,Nk,rfl,rfl,h4⟩:=h1;exact⟨_,_,h3,h2 _ _ h4⟩
theorem nc {n:Nat} {L loc:List D} {ym:List (Nat×D)} {ws:List Nat} {F:(Nat→D)→Prop} {st:St} (h:L=aI loc ws (fun k=>nth .bo L k)) (h2:F (fun k=>nth .bo L k)):∃(f:Nat→D) (tmp:List (Nat×D)),(⟨n,L,ym⟩:Fr)=⟨n,aI loc ws f,tmp⟩∧st=st∧F f:=⟨_,ym,by rw[←h],rfl,h2⟩
theorem ab.Qs {t1 t2:TypeId} {yo:Operand} {x y z:Int} (hg:aD ops fr ⟨some dst,.call ⟨.builtin .min,#[xo,yo],#[t1,t2]⟩,ty,pp,a,g⟩=some true) (hx:fr.ev xo=.int .i64 x) (hy:fr.ev yo=.int .i64 y) (hz:min x y=z) (hp:fr.put dst (.int .i64 z)=aG) (h:ab P ops rest aG st Q):ab P ops (⟨some dst,.call ⟨.builtin .min,#[xo,yo],#[t1,t2]⟩,ty,pp,a,g⟩::rest) fr st Q:=
 ab.Lg (t1:=t1) (t2:=t2) hg hx hy (by rw[hz];exact hp) h
variable{s0 S2 st2:St}
theorem Has.Bf {N:Nat} {S:St} {H:List a8} {es X1:List (List D)} (h:Has N S s0 (.aC x s es::H)) (hS:S2.bs=s0.bs) (h2:Has N S2 st2 (.aC x s X1::H)):Has N S ⟨st2.bs.take s0.bs.length,s0.flr,s0.ro⟩ (.aC x s X1::H):=by
 refine h.yZ hS h2 fun i e hi=>?_
 cases i with
 |zero=>simp only[ο,Ξ.injEq] at hi;subst hi;exact⟨_,rfl,fun k hk=>hk⟩
 |succ i=>exact⟨e,hi,fun k hk=>hk⟩
theorem Has.Bg {N:Nat} {S:St} {H:List a8} {b b':jC} {P7:List (List D)} (h:Has N S s0 (.box k b::.cP bb ks x s vs::H)) (hS:S2.bs=s0.bs) (h2:Has N S2 st2 (.box k b'::.cP bb ks x s P7::H)):Has N S ⟨st2.bs.take s0.bs.length,s0.flr,s0.ro⟩ (.box k b'::.cP bb ks x s P7::H):=by
 refine h.yZ hS h2 fun i e hi=>?_
 match i with
 |0=>simp only[ο,Ξ.injEq] at hi;subst hi;exact⟨_,rfl,fun k hk=>hk⟩
 |1=>simp only[AT,ο,Ξ.injEq] at hi;subst hi;exact⟨_,rfl,fun k hk=>hk⟩
 |i+2=>exact⟨e,hi,fun k hk=>hk⟩
theorem Has.KZ {N:Nat} {S st:St} {H:List a8} {a b c d e:a8} (h:Has N S st (a::b::c::d::e::H)):Has N S st (b::c::d::e::a::H):=by
 refine h.sub (fun i=>if i=4 then 0 else if i<4 then i+1 else i) (fun i j hij=>?_) (fun i x hi=>?_)
 ·skip
  split at hij<;>split at hij<;>(try split at hij)<;>(try split at hij)<;>omega
 ·match i,hi with
  |0,hi=>exact hi
  |1,hi=>exact hi
  |2,hi=>exact hi
  |3,hi=>exact hi
  |4,hi=>exact hi
  |i+5,hi=>
   have h1:¬(i+5=4):=by omega
   have h2:¬(i+5<4):=by omega
   simp only[if_neg h1,if_neg h2];exact hi
theorem Has.nO {fr:Fr} {a u u2:Nat} {t:TypeId} {ar:Bool} {c:List D} {d e e2:D} (hH:Has N S st H) (ha:fr.get a=.ptr k aB off) (hj:H[j]?=some (.box k (.mem aB ar c))) (hd:dY P t (c.drop off)=some d) (he:fr.get u=e) (wy:fr.get u2=e2):l4 P fr st [.cell a t,.tmp u,.tmp u2]=some [d,e,e2]:=by
 simp only[l4,iM,ha,St.mem_of (hH.at hj),Qa3,hd,Option.map_some,he,wy]
theorem ag.jn {c1 c2:Code} {fr:Fr} {st:St} {Q:Out→Fr→St→Prop} (M:Fr→St→Prop) (h1:ag P dy c1 fr st (bS P dy c2 (Ki M Q))) (h2:∀aG ah,M aG ah→Q .next aG ah):ag P dy c1 fr st (bS P dy c2 Q):=
 h1.mono fun o aG ah h=>by
  cases o with
  |next=>exact ag.merge M h h2
  |exit i=>exact h
  |ret=>exact h
end Go.V
namespace Go.Proofs.YtkbacjpologjbaaGreat
open Go.V Go
def C3 (fr:Go.V.Fr) (k:Nat):Go.V.D:=Go.V.nth .bo fr.loc k
variable{st:St}{L n k:Nat}
theorem Gn {kn:Bool} {aB off len s:Nat}:ba st L kn n (.win k aB off len s)=ba st L false n (.win k aB off len s):=by
 cases n<;>rfl
theorem Gl (l:List Rg):(l.map au).map (·.map oS)=l.map au:=by
 rw[Qa7];rfl
theorem Cf (l:List Rg):∀e∈l.map au,∀d∈e,mO d=true:=by
 intro e he d hd;obtain⟨x,_,rfl⟩:=Qa0.1 he;simp only[au,κ,ι,or_false] at hd
 rcases hd with rfl|rfl<;>rfl
variable{N j:Nat}{S:St}{H:List a8}{x:D}
theorem s_ {l:List Rg} (hH:Has N S st H) (hj:H[j]?=some (.aC x 2 (l.map au))) (hx:∀k,x.ref=k+1→L≤k) (hn:3≤n):ba st L false n x=some (bK l):=by
 rw[hH.n9 hj hx (Cf l) hn,Gl,iS]
def Tw (gs:List (Nat×Nat)) (s s':gJ) (d1:D) (b:Bool):Prop:=
 Kh gs s s' d1 b∨(s'=s∧d1=.nul∧b=false)
variable{s:gJ}{s0:St}{gs:List (Nat×Nat)}{ch:D}{cC:List Int}
theorem En (aT:nG gs cC) (he:s.e=0) (hi:s.i<gs.length) (hH:Has N S s0 (.box k (.mem 0 false (aW gs ch s))::.aC ch 1 (cC.map ax)::H)):
  ∃d ah,Ev pv 180 [.ptr k 0 0] s0 d ah∧∃(d1:D) (b:Bool) (s':gJ),d=.tup [d1,.bool b]∧Tw gs s s' d1 b∧Has N S ah (.box k (.mem 0 false (aW gs ch s'))::.aC ch 1 (cC.map ax)::H):=by
 have vw:=aT.gl;have ia:=aT.pl;refine Ev.eH rfl Si rfl rfl rfl ?_;refine zE ?_;have bD:=hH;have hH:=hH.bf;have bA:(ae .rw s0).bs=s0.bs:=rfl;generalize ae .rw s0=S2 at*;have LW:Arg N S2 2 (gf gs) (gs.map bF):=Arg.pure (fun st=>fe st gs)
 obtain⟨g,hg⟩:∃g,gs[s.i]?=some g:=⟨gs[s.i]'hi,δ _⟩
 have fU:(gs.map bF)[s.i]?=some (bF g):=by rw[IT,hg];rfl
 refine zQ 13 ?_;obtain⟨_,st,aA,rfl,hH⟩:=DQ (s:=s) s.i hi hH;refine qv aA ?_;refine zQ 1 ?_;refine qc (fun hb=>?_) (fun hb=>?_)<;>try simp only[cs] at hb
 ·refine zQ 7 ?_;obtain⟨_,st,aA,rfl,hH⟩:=dQ (s:=s) s.i 4 z0 hH;refine qv aA ?_;refine zQ 6 ?_;obtain⟨h1,h2,h3,h4⟩:=et (cC:=cC) (s:=s) (i:=s.i) (e:=4) he (by decide);refine ag.ret ⟨rx,_,_,_,rfl,ai (rfl),?_⟩;exact⟨_,_,_,rfl,.inl ⟨h3,h4,by rw[h2];exact τ _,by rw[h2];omega,.inl rfl,.inl h1⟩,bD.aq bA hH⟩
 ·refine zQ 11 ?_;refine qr fun PB Ga=>?_;refine qf (fo:=0) fun YI Ri=>?_;refine zQ 13 ?_;refine zI (fun q1=>?_) fun q1=>?_
  ·refine zQ 3 ?_;obtain⟨_,st,aA,d1,b,s',rfl,hP,hH⟩:=Eb (s:=s) aT he hi hH;refine qv aA ?_;refine zQ 5 ?_
   rcases hP.2.2.2.2.1 with rfl|⟨a,rfl,_⟩
   ·refine ag.ret ⟨rx,_,_,_,rfl,ai (rfl),?_⟩;exact⟨_,_,_,rfl,.inl hP,bD.aq bA hH⟩
   ·refine ag.ret ⟨rx,_,_,_,rfl,ai (rfl),?_⟩;exact⟨_,_,_,rfl,.inl hP,bD.aq bA hH⟩
  ·refine zQ 6 ?_
   by_cases Qa:((g.1:Nat):Int)=91
   ·refine qD rfl (by simp[Qa]) ?_;refine zQ 1 ?_;refine qD rfl (by simp[Qa]) ?_;refine zQ 5 ?_;refine ag.ret ⟨rx,_,_,_,rfl,ai (rfl),?_⟩;exact⟨_,_,_,rfl,.inr ⟨rfl,rfl,rfl⟩,bD.aq bA hH⟩
   refine qE rfl (by simp[Qa]) ?_;refine zQ 5 ?_
   by_cases Uk:((g.1:Nat):Int)=93
   ·refine qD rfl (by simp[Uk]) ?_;refine zQ 1 ?_;refine qD rfl (by simp[Uk]) ?_;refine zQ 5 ?_;refine ag.ret ⟨rx,_,_,_,rfl,ai (rfl),?_⟩;exact⟨_,_,_,rfl,.inr ⟨rfl,rfl,rfl⟩,bD.aq bA hH⟩
   refine qE rfl (by simp[Uk]) ?_;refine zQ 4 ?_
   by_cases Ys:((g.1:Nat):Int)=45
   ·refine qD rfl (by simp[Ys]) ?_;refine zQ 5 ?_;refine ag.ret ⟨rx,_,_,_,rfl,ai (rfl),?_⟩;exact⟨_,_,_,rfl,.inr ⟨rfl,rfl,rfl⟩,bD.aq bA hH⟩
   refine qE rfl (by simp[Ys]) ?_;refine zQ 9 ?_;refine qT hH aJ fun st hH=>?_;have hH:=zjnb hH;refine zQ 5 ?_;refine Qae (qs:=[(0,_),(1,_)]) rfl rfl rfl rfl ⟨rfl,z3,(by rfl),rfl,z3,(by rfl),trivial⟩ (by intro q hq;simp only[κ,ι,or_false] at hq;rcases hq with rfl|rfl<;>exact⟨rfl,by exact η rfl⟩) (by show θ _ [_,_] _=_;dsimp only[ρ,Ψ,u2,u1]<;>rfl) (aa rfl _) ?_;refine qh (s:=2) (vs:=[_]) hH fun k39 st aa4 hH=>?_;refine zQ 3 ?_;have hH:Has N S2 st (.aC (.win k39 0 0 1 2) 2 (([((g.1:Nat),(g.1:Nat))]:List Rg).map au)::.box k (.mem 0 false (aW gs ch {s with i:=s.i+1}))::.aC ch 1 (cC.map ax)::H):=hH;have hfz:=s_ hH aJ (L:=s0.bs.length) (n:=15) (fun k hk=>by simp only[Qa4] at hk;rw[←bA];omega) (by decide)
   have V4:ba st s0.bs.length true 16 (wA [.win k39 0 0 1 2,.bool true])=some (.tup [bK [(((g.1:Nat):Int),((g.1:Nat):Int))],.bool true]):=by
    show(iK (ba st s0.bs.length true 15) [.win k39 0 0 1 2,.bool true]).map D.tup=_;simp only[iK,Gn,hfz];rfl
   refine ag.ret ⟨rx,_,_,_,rfl,ai V4,⟨_,_,{s with i:=s.i+1},rfl,.inl ⟨rfl,rfl,?_,?_,.inr ⟨_,rfl,by simp⟩,.inr ⟨he,?_,_,rfl,?_,?_⟩⟩,bD.aq bA (hH.drop 1)⟩⟩
   ·show s.i≤s.i+1;omega
   ·show s.i+1≤_;omega
   ·show s.i<s.i+1;omega
   ·simp
   ·simp
def Ty (gs:List (Nat×Nat)) (s s':gJ) (d:D):Prop:=
 s'.o=s.o∧s'.g=s.g∧s.i≤s'.i∧s'.i≤gs.length∧∃a:List Rg,d=bK a∧a.length≤8∧(s'.e≠0∨s'.e=0∧s.i<s'.i)
theorem jm {r:Int}:(dK gs s r).o=s.o∧(dK gs s r).g=s.g∧(dK gs s r).e=s.e∧s.i≤(dK gs s r).i∧(s.i≤gs.length→(dK gs s r).i≤gs.length):=by
 unfold dK
 split
 ·rename_i h;have:=vh h;exact⟨rfl,rfl,rfl,by show s.i≤s.i+1;omega,fun _=>by show s.i+1≤_;omega⟩
 ·exact⟨rfl,rfl,rfl,τ _,fun h=>h⟩
theorem Lm (aT:nG gs cC) (he:s.e=0) (hi:s.i<gs.length) (hH:Has N S s0 (.box k (.mem 0 false (aW gs ch s))::.aC ch 1 (cC.map ax)::H)):
  ∃d ah,Ev pv 162 [.ptr k 0 0] s0 d ah∧∃(s':gJ),Ty gs s s' d∧Has N S ah (.box k (.mem 0 false (aW gs ch s'))::.aC ch 1 (cC.map ax)::H):=by
 have vw:=aT.gl;have ia:=aT.pl;refine Ev.eH rfl Sn rfl rfl rfl ?_;refine zE ?_;have bD:=hH;have hH:=hH.bf;have bA:(ae .rw s0).bs=s0.bs:=rfl;generalize ae .rw s0=S2 at*;have LW:Arg N S2 2 (gf gs) (gs.map bF):=Arg.pure (fun st=>fe st gs);refine zQ 15 ?_;obtain⟨_,st,aA,d1,b,s1,rfl,hP,hH⟩:=En (s:=s) aT he hi hH;refine qv aA ?_;refine zQ 15 ?_
 rcases hP with hP|⟨e1,rfl,rfl⟩
 ·obtain⟨p1,p2,p3,p4,p5,p6⟩:=hP
  rcases p6 with p6|⟨p6,p7,a,rfl,p8,p9⟩
  ·refine qD rfl (by simp[p6]) ?_;refine zQ 4 ?_;refine ag.ret ⟨rx,_,_,_,rfl,ai (rfl),?_⟩;exact⟨s1,⟨p1,p2,p3,p4,[],rfl,by simp,.inl p6⟩,bD.aq bA hH⟩
  ·obtain⟨q,a',rfl⟩:∃q a',a=q::a':=Pe p9;refine qE rfl (by simp[p6]) ?_;refine zQ 5 ?_;refine Qa8 (d:=.bool false) (st1:=_) rfl rfl rfl (aa rfl _) ?_;refine zQ 3 ?_;obtain⟨k1,k2,k3,k4,k5⟩:=jm (gs:=gs) (s:=s1) (r:=45);have k5:=k5 p4;refine zQ 4 ?_;obtain⟨_,st,aA,rfl,hH⟩:=ft (s:=s1) z0 45 hH;refine qv aA ?_;refine zQ 2 ?_;generalize dK gs s1 45=s2 at*
   cases hb:lQ gs s1.i 45 with
   |false=>
    refine zQ 6 ?_;refine ag.ret ⟨rx,_,_,_,rfl,ai (rfl),?_⟩;exact⟨s2,⟨k1.trans p1,k2.trans p2,by omega,k5,q::a',rfl,p8,.inr ⟨k3.trans p6,by omega⟩⟩,bD.aq bA hH⟩
   |true=>
    refine zQ 21 ?_;refine qn ?_;simp only[γ];refine zQ 2 ?_;refine ag.merge (fun fr st=>∃(d2:D) (two:Bool) (s3:gJ) (tmp:List (Nat×D)),fr=⟨8,[.ptr k 0 0,C3 fr 1,C3 fr 2,.int .i64 (s.i:Nat),bK (q::a'),.bool b,d2,.bool two],tmp⟩∧Has N S2 st (.box k (.mem 0 false (aW gs ch s3))::.aC ch 1 (cC.map ax)::H)∧(s3.o=s.o)∧(s3.g=s.g)∧(s2.i≤s3.i)∧(s3.i≤gs.length)∧(s3.e≠0∨s3.e=0∧(two=false∨∃a2:List Rg,d2=bK a2∧a2≠[]))) ?_ ?_
    ·refine zP (fun hlt=>?_) fun hlt=>?_
     ·refine zQ 2 ?_;obtain⟨_,st,aA,d2,two,s3,rfl,hP2,hH⟩:=En (s:=s2) aT (k3.trans p6) z0 hH;refine qv aA ?_;refine zQ 6 ?_
      rcases hP2 with⟨r1,r2,r3,r4,r5,r6⟩|⟨e1,rfl,rfl⟩
      ·refine⟨d2,two,s3,_,rfl,hH,r1.trans (k1.trans p1),r2.trans (k2.trans p2),r3,r4,?_⟩
       rcases r6 with r6|⟨r6,r7,a2,rfl,r8,r9⟩
       ·exact .inl r6
       ·refine .inr ⟨r6,?_⟩
        cases two with
        |false=>exact .inl rfl
        |true=>exact .inr ⟨a2,rfl,r9⟩
      ·exact⟨.nul,false,s3,_,rfl,hH,by rw[e1];exact k1.trans p1,by rw[e1];exact k2.trans p2,by rw[e1];exact τ _,by rw[e1];exact k5,.inr ⟨by rw[e1];exact k3.trans p6,.inl rfl⟩⟩
     ·refine zQ 1 ?_;exact⟨.nul,false,s2,_,rfl,hH,k1.trans p1,k2.trans p2,τ _,k5,.inr ⟨k3.trans p6,.inl rfl⟩⟩
    ·rintro fr st ⟨d2,two,s3,tmp,hfr,hH,h1,h2,h3,h4,h5⟩;rw[hfr];clear hfr;generalize C3 fr=ee;clear fr
     rcases h5 with h5|⟨h5,h6⟩
     ·have de:(s3.e==0)=false:=by simpa using h5
      refine zQ 39 ?_;refine qD rfl (by simp[h5]) ?_;refine zQ 4 ?_;refine ag.ret ⟨rx,_,_,_,rfl,ai (rfl),?_⟩;exact⟨s3,⟨h1,h2,by omega,h4,[],rfl,by simp,.inl h5⟩,bD.aq bA hH⟩
     ·have de:(s3.e==0)=true:=by simpa using h5
      cases b with
      |false=>
       have gv:(!false)=true:=rfl;refine zQ 14 ?_;refine Qaf (aj rfl rfl rfl de) rfl gv (aa rfl _) ?_;refine zQ 17 ?_;obtain⟨_,st,aA,rfl,hH⟩:=dQ (s:=s3) s.i 4 z0 hH;refine qv aA ?_;refine zQ 1 ?_;obtain⟨w1,w2,w3,w4⟩:=et (cC:=cC) (s:=s3) (i:=s.i) (e:=4) h5 (by decide);generalize kT cC s3 s.i 4=s4 at*;refine zQ 9 ?_;refine qD rfl (by simp[w1]) ?_;refine zQ 4 ?_;refine ag.ret ⟨rx,_,_,_,rfl,ai (rfl),?_⟩;exact⟨s4,⟨w3.trans h1,w4.trans h2,by omega,by omega,[],rfl,by simp,.inl w1⟩,bD.aq bA hH⟩
      |true=>
       have gv:(!true)=false:=rfl
       cases two with
       |false=>
        have dV:(!false)=true:=rfl;refine zQ 14 ?_;refine Qad (aj rfl rfl rfl de) rfl gv (aa rfl _) ?_;refine zQ 10 ?_;refine Qaf (aj rfl rfl rfl de) rfl dV (aa rfl _) ?_;refine zQ 6 ?_;obtain⟨_,st,aA,rfl,hH⟩:=dQ (s:=s3) s.i 4 z0 hH;refine qv aA ?_;refine zQ 1 ?_;obtain⟨w1,w2,w3,w4⟩:=et (cC:=cC) (s:=s3) (i:=s.i) (e:=4) h5 (by decide);generalize kT cC s3 s.i 4=s4 at*;refine zQ 9 ?_;refine qD rfl (by simp[w1]) ?_;refine zQ 4 ?_;refine ag.ret ⟨rx,_,_,_,rfl,ai (rfl),?_⟩;exact⟨s4,⟨w3.trans h1,w4.trans h2,by omega,by omega,[],rfl,by simp,.inl w1⟩,bD.aq bA hH⟩
       |true=>
        have dV:(!true)=false:=rfl
        obtain⟨a2,rfl,h7⟩:∃a2:List Rg,d2=bK a2∧a2≠[]:=by
         rcases h6 with h6|h6
         ·cases h6
         ·exact h6
        obtain⟨q2,ZD,rfl⟩:∃q a',a2=q::a':=Pe h7;have LB:=(lC (q::a')).arg N S2;have Oe:=(lC (q2::ZD)).arg N S2;have PK:((q::a').map au)[0]?=some (au q):=rfl;have fU:((q2::ZD).map au)[0]?=some (au q2):=rfl;refine zQ 14 ?_;refine Qad (aj rfl rfl rfl de) rfl gv (aa rfl _) ?_;refine zQ 2 ?_;refine qr (fun p60 aaJ=>?_) (hg:=wi dV);refine qf (fo:=0) (fun Yx Oh=>?_) (hg:=wi dV);refine zQ 2 ?_;refine qr (fun Yw Q6=>?_) (hg:=wi dV);refine qf (fo:=0) (fun p65 Vj=>?_) (hg:=wi dV);refine zQ 2 ?_;refine Qad (aj rfl rfl rfl de) rfl dV (aa rfl _) ?_;refine zQ 2 ?_;refine zP (fun RJ=>?_) fun RJ=>?_
        ·refine zQ 3 ?_;obtain⟨_,st,aA,rfl,hH⟩:=dQ (s:=s3) s.i 4 z0 hH;refine qv aA ?_;refine zQ 1 ?_;obtain⟨w1,w2,w3,w4⟩:=et (cC:=cC) (s:=s3) (i:=s.i) (e:=4) h5 (by decide);generalize kT cC s3 s.i 4=s4 at*;refine zQ 9 ?_;refine qD rfl (by simp[w1]) ?_;refine zQ 4 ?_;refine ag.ret ⟨rx,_,_,_,rfl,ai (rfl),?_⟩;exact⟨s4,⟨w3.trans h1,w4.trans h2,by omega,by omega,[],rfl,by simp,.inl w1⟩,bD.aq bA hH⟩
        ·refine zQ 10 ?_;refine qE rfl (by simp[h5]) ?_;refine zQ 4 ?_;refine qr fun TF LF=>?_;refine qf (fo:=0) fun p80 Vg=>?_;refine zQ 2 ?_;refine qr fun p83 aaz=>?_;refine qf (fo:=0) fun p84 aay=>?_;refine qR ?_;refine Qae (qs:=[(0,_),(1,_)]) rfl rfl rfl rfl ⟨rfl,z3,(by rfl),rfl,z3,(by rfl),trivial⟩ (by intro q hq;simp only[κ,ι,or_false] at hq;rcases hq with rfl|rfl<;>exact⟨rfl,by exact η rfl⟩) (by show θ _ [_,_] _=_;dsimp only[ρ,Ψ,u2,u1]<;>rfl) (aa rfl _) ?_;refine qh (s:=2) (vs:=[_]) hH fun k87 st aaT hH=>?_;have hH:=zjnb hH;refine zQ 2 ?_;have hH:Has N S2 st (.aC (.win k87 0 0 1 2) 2 (([(q.1,q2.1)]:List Rg).map au)::.box k (.mem 0 false (aW gs ch s3))::.aC ch 1 (cC.map ax)::H):=hH;have hfz:=s_ hH aJ (L:=s0.bs.length) (n:=16) (fun k hk=>by simp only[Qa4] at hk;rw[←bA];omega) (by decide);refine ag.ret ⟨rx,_,_,_,rfl,ai hfz,⟨s3,⟨h1,h2,by omega,h4,[(q.1,q2.1)],rfl,by simp,.inr ⟨h5,by omega⟩⟩,bD.aq bA (hH.drop 1)⟩⟩
 ·have e2:s1.e=0:=by rw[e1];exact he
  have e3:s1.i=s.i∧s1.o=s.o∧s1.g=s.g:=by rw[e1];exact⟨rfl,rfl,rfl⟩
  clear e1;refine qE rfl (by simp[e2]) ?_;refine zQ 5 ?_;refine Qa8 (d:=.bool true) (st1:=_) rfl rfl rfl (aa rfl _) ?_;refine zQ 6 ?_;obtain⟨_,st,aA,rfl,hH⟩:=dQ (s:=s1) s.i 4 z0 hH;refine qv aA ?_;refine zQ 1 ?_;obtain⟨w1,w2,w3,w4⟩:=et (cC:=cC) (s:=s1) (i:=s.i) (e:=4) e2 (by decide);refine zQ 4 ?_;refine ag.ret ⟨rx,_,_,_,rfl,ai (rfl),?_⟩;exact⟨_,⟨by omega,by omega,by omega,by omega,[],rfl,by simp,.inl w1⟩,bD.aq bA hH⟩
def CZ (fr:Go.V.Fr) (k:Nat):Go.V.D:=Go.V.nth .bo fr.loc k
def zT (n:eE):Prop:=n.rd=bK n.rs∧n.rs.length≤1048576∧n.kids≤1048576
def yK (op mn mx:Int) (lz:Bool) (cap kids:Int) (a:List Rg):eE:=⟨op,bK a,a,mn,mx,lz,cap,kids⟩
def zJ (l:List eE):D:=.sl ((l.map bC).map (kO 7))
theorem Lb (l:List eE):∀e∈l.map bC,e.length=7:=by
 intro e he;obtain⟨x,_,rfl⟩:=Qa0.1 he;rfl
variable{l:List eE}
theorem rH (h:∀n∈l,zT n):∀e∈l.map bC,∀d∈e,cD d=true:=by
 intro e he d hd;obtain⟨n,hn,rfl⟩:=Qa0.1 he;have hr:=(h n hn).1;simp only[bC,hr,κ,ι,or_false] at hd
 rcases hd with rfl|rfl|rfl|rfl|rfl|rfl|rfl<;>rfl
theorem xh (h:∀n∈l,zT n):fg (zJ l) 7 (l.map bC):=fg.frozen (Lb l) (rH h)
theorem Qp (h:∀n∈l,zT n) (hl:l.length≤1048576):(⟨zJ l,l⟩:Nl).ok:=by
 refine⟨xh h,fun n hn=>?_,hl⟩;obtain⟨h1,h2,h3⟩:=h n hn;exact⟨by rw[h1];exact lC _,h2,by omega⟩
theorem yI (h:∀n∈l,zT n):(l.map bC).map (·.map oS)=l.map bC:=by
 rw[Qa7];refine List.map_congr_left fun n hn=>?_;have hr:=(h n hn).1;show(bC n).map oS=bC n;unfold bC;rw[hr];rfl
theorem uT (h:∀n∈l,zT n):∀e∈l.map bC,∀d∈e,mO d=true:=by
 intro e he d hd;have:=rH h e he d hd
 cases d<;>first|rfl|exact this
theorem kI {es:List (List D)} (hH:Has N S st H) (hj:H[j]?=some (.aC x 7 es)) (he:es.map (·.map oS)=l.map bC) (ht:∀e∈es,∀d∈e,mO d=true) (hx:∀k,x.ref=k+1→L≤k) (hn:3≤n):ba st L false n x=some (zJ l):=by
 rw[hH.n9 hj hx ht hn,he];rfl
variable{op mn mx cap kids:Int}{lz:Bool}{a:List Rg}
theorem kJ {w:D} (hH:Has N S st H) (hj:H[j]?=some (.aC x 7 [[.int .i64 op,w,.int .i64 mn,.int .i64 mx,.bool lz,.int .i64 cap,.int .i64 kids]])) (hw:w=bK a∨w=.nul∧a=[]) (hx:∀k,x.ref=k+1→L≤k):ba st L false 16 x=some (zJ [yK op mn mx lz cap kids a]):=by
 refine kI hH hj ?_ (fun e he d hd=>?_) hx (by decide)
 ·rcases hw with rfl|⟨rfl,rfl⟩<;>rfl
 ·simp only[κ,ι,or_false] at he;subst he;simp only[κ,ι,or_false] at hd
  rcases hw with rfl|⟨rfl,rfl⟩<;>rcases hd with rfl|rfl|rfl|rfl|rfl|rfl|rfl<;>rfl
theorem Ib (h:a.length≤1048576) (hk:kids≤1048576):∀n∈[yK op mn mx lz cap kids a],zT n:=by
 intro n hn;simp only[κ,ι,or_false] at hn;subst hn;exact⟨rfl,h,hk⟩
def zD (gs:List (Nat×Nat)) (s s':gJ) (d:D):Prop:=
 s'.o=s.o∧s'.g≤4∧s.i≤s'.i∧s'.i≤gs.length∧∃l:List eE,d=zJ l∧(∀n∈l,zT n)∧l.length≤4*(s'.i-s.i)+1
def lp (gs:List (Nat×Nat)) (s s':gJ) (d:D) (c:Nat):Prop:=
 s'.o=s.o∧s'.g≤4∧s.i≤s'.i∧s'.i≤gs.length∧∃l:List eE,d=zJ l∧(∀n∈l,zT n)∧l.length≤4*(s'.i-s.i)+1∧(s'.e≠0∨s'.e=0∧l.length+c≤4*(s'.i-s.i))
theorem iT {s':gJ} {c:Nat} (h1:s'.o=s.o) (h2:s'.g≤4) (h3:s.i≤s'.i) (h4:s'.i≤gs.length) (h5:s'.e≠0):lp gs s s' (.sl []) c:=
 ⟨h1,h2,h3,h4,[],rfl,fun n hn=>(by cases hn),by simp,.inl h5⟩
theorem JW (aT:nG gs cC) (he:s.e=0) (hi:s.i<gs.length) (hg:s.g≤4) (hH:Has N S s0 (.box k (.mem 0 false (aW gs ch s))::.aC ch 1 (cC.map ax)::H)):
  ∃d ah,Ev pv 149 [.ptr k 0 0] s0 d ah∧∃(s':gJ),lp gs s s' d 2∧Has N S ah (.box k (.mem 0 false (aW gs ch s'))::.aC ch 1 (cC.map ax)::H):=by
 have vw:=aT.gl;have ia:=aT.pl;refine Ev.eH rfl Sz rfl rfl rfl ?_;refine zE ?_;have bD:=hH;have hH:=hH.bf;have bA:(ae .rw s0).bs=s0.bs:=rfl;generalize ae .rw s0=S2 at*;have LW:Arg N S2 2 (gf gs) (gs.map bF):=Arg.pure (fun st=>fe st gs);refine zQ 21 ?_;refine qT hH aJ fun st hH=>?_;have hH:=zjnb hH;refine zQ 1 ?_;have hH:Has N S2 st (.box k (.mem 0 false (aW gs ch {s with i:=s.i+1}))::.aC ch 1 (cC.map ax)::H):=hH;obtain⟨k1,k2,k3,k4,k5⟩:=jm (gs:=gs) (s:={s with i:=s.i+1}) (r:=94);have k5:=k5 (by show s.i+1≤_;omega);simp only at k1 k2 k3 k4;refine zQ 3 ?_;obtain⟨_,st,aA,rfl,hH⟩:=ft (s:={s with i:=s.i+1}) z0 94 hH;refine qv aA ?_;refine zQ 2 ?_;generalize dK gs {s with i:=s.i+1} 94=s1 at*;generalize lQ gs ({s with i:=s.i+1}:gJ).i 94=nt at*;refine zQ 8 ?_
 have hH:Has N S2 st (.box k (.mem 0 false (aW gs ch s1))::.aC ch 1 (cC.map ax)::.aC .nul 2 (([]:List Rg).map au)::H):=((hH.fG 2).front bt|>.front cU|>fun h=>(h.front bt))
 refine zQ 2 ?_;refine ag.loop (fun mm fr st=>∃(s1:gJ) (ld:D) (lr:List Rg) (nn:Bool),fr.clean=⟨7,[.ptr k 0 0,CZ fr 1,CZ fr 2,.int .i64 (s.i:Nat),.bool nt,ld,.bool nn],[]⟩∧Has N S2 st (.box k (.mem 0 false (aW gs ch s1))::.aC ch 1 (cC.map ax)::.aC ld 2 (lr.map au)::H)∧(s1.o=s.o)∧(s1.g=s.g)∧(s.i<s1.i)∧(s1.i≤gs.length)∧(lr.length≤8*s1.i+8)∧(s1.e=0→lr.length≤8*s1.i)∧(gs.length-s1.i+(if s1.e=0 then 1 else 0)≤mm)) (gs.length+1) ?_ ?_
 ·exact⟨s1,.nul,[],true,rfl,hH,k1,k2,by omega,k5,by simp,fun _=>by simp,by split<;>omega⟩
 rintro mm fr st ⟨s1,ld,lr,nn,hfr,hH,h1,h2,h3,h4,h5,h6,Ca⟩;rw[hfr];clear hfr;generalize CZ fr=ee;clear fr
 by_cases iI:s1.e=0
 ·rw[if_pos iI] at Ca;have h6:=h6 iI;have de:(s1.e==0)=true:=by simpa using iI
  refine zQ 10 ?_;obtain⟨_,st,aA,rfl,hH⟩:=sX (s:=s1) z0 93 hH;refine qv aA ?_ (hg:=wi de);refine zQ 3 ?_
  cases hb:lQ gs s1.i 93 with
  |true=>
   have hlt:=vh hb;refine zQ 11 ?_;refine qE rfl (by simp[iI]) ?_;refine zQ 6 ?_
   cases nn with
   |true=>
    refine zQ 5 ?_;obtain⟨_,st,aA,rfl,hH⟩:=dQ (s:=s1) s.i 4 z0 hH;refine qv aA ?_;refine zQ 2 ?_;obtain⟨w1,w2,w3,w4⟩:=et (cC:=cC) (s:=s1) (i:=s.i) (e:=4) iI (by decide);refine ag.ret ⟨rx,_,_,_,rfl,ai (rfl),?_⟩;exact⟨_,iT z0 z0 z0 z0 w1,bD.aq bA (hH.erase 2)⟩
   |false=>
    refine zQ 11 ?_;refine qT hH aJ fun st hH=>?_;have hH:=zjnb hH;refine zQ 4 ?_;obtain⟨aA,Db,_⟩:=py (l:=lr) (hH.rows cU) z0;refine qv aA ?_;refine zQ 2 ?_;generalize mZ lr=m at*;refine zQ 5 ?_
    have gV:∀(st:St) (a:List Rg) (k70:Nat),a.length≤1048576→S2.bs.length≤k70→Has N S2 st (.aC (.win k70 0 0 1 7) 7 [[.int .i64 2,bK a,.int .i64 0,.int .i64 0,.bool false,.int .i64 0,.int .i64 0]]::.box k (.mem 0 false (aW gs ch {s1 with i:=s1.i+1}))::.aC ch 1 (cC.map ax)::.aC ld 2 (lr.map au)::H)→
      ∃d ah,dj .rw false s0 st (.win k70 0 0 1 7)=some (d,ah)∧∃(s':gJ),lp gs s s' d 2∧Has N S ah (.box k (.mem 0 false (aW gs ch s'))::.aC ch 1 (cC.map ax)::H):=by
     intro st a k70 ha hk hH;have hfz:=kJ hH aJ (L:=s0.bs.length) (.inl rfl) (fun k hk=>by simp only[Qa4] at hk;rw[←bA];omega);exact⟨_,_,ai hfz,{s1 with i:=s1.i+1},⟨h1,by show s1.g≤4;omega,by show s.i≤s1.i+1;omega,by show s1.i+1≤_;omega,_,rfl,Ib ha z0,by simp,.inr ⟨iI,by show 1+2≤4*(s1.i+1-s.i);omega⟩⟩,bD.aq bA ((hH.drop 1).erase 2)⟩
    cases nt with
    |true=>
     refine zQ 3 ?_;obtain⟨_,aA,a,rfl,hla⟩:=H6 (l:=m) (fW _ _) z0;refine qv aA ?_;refine zQ 5 ?_;refine Qae (qs:=[(0,_),(1,_)]) rfl rfl rfl rfl ⟨rfl,z3,(by rfl),rfl,z3,(by rfl),trivial⟩ (by intro q hq;simp only[κ,ι,or_false] at hq;rcases hq with rfl|rfl<;>exact⟨rfl,by exact η rfl⟩) (by show θ _ [_,_,_,_,_,_,_] _=_;dsimp only[ρ,Ψ,u2,u1]<;>rfl) (aa rfl _) ?_;refine qh (s:=7) (vs:=[_]) hH fun k70 st OH hH=>?_;refine zQ 2 ?_;obtain⟨d',ah,y_,eJ⟩:=gV _ a k70 z0 OH hH;refine ag.ret ⟨rx,_,d',ah,rfl,y_,eJ⟩
    |false=>
     refine zQ 5 ?_;refine Qae (qs:=[(0,_),(1,_)]) rfl rfl rfl rfl ⟨rfl,z3,(by rfl),rfl,z3,(by rfl),trivial⟩ (by intro q hq;simp only[κ,ι,or_false] at hq;rcases hq with rfl|rfl<;>exact⟨rfl,by exact η rfl⟩) (by show θ _ [_,_,_,_,_,_,_] _=_;dsimp only[ρ,Ψ,u2,u1]<;>rfl) (aa rfl _) ?_;refine qh (s:=7) (vs:=[_]) hH fun k70 st OH hH=>?_;refine zQ 2 ?_;obtain⟨d',ah,y_,eJ⟩:=gV _ m k70 z0 OH hH;refine ag.ret ⟨rx,_,d',ah,rfl,y_,eJ⟩
  |false=>
   refine zQ 14 ?_;refine qn ?_;simp only[γ];refine zQ 2 ?_;refine zP (fun hge=>?_) fun hge=>?_
   ·refine zQ 4 ?_;obtain⟨_,st,aA,rfl,hH⟩:=dQ (s:=s1) s.i 4 z0 hH;refine qv aA ?_;refine zQ 2 ?_;obtain⟨w1,w2,w3,w4⟩:=et (cC:=cC) (s:=s1) (i:=s.i) (e:=4) iI (by decide);refine ag.ret ⟨rx,_,_,_,rfl,ai (rfl),?_⟩;exact⟨_,iT z0 z0 z0 z0 w1,bD.aq bA (hH.erase 2)⟩
   ·refine zQ 5 ?_;obtain⟨_,st,aA,s2,⟨i1,i2,i3,i4,a,rfl,i5,i6⟩,hH⟩:=Lm (s:=s1) aT iI z0 hH;have LB:=(lC a).arg N S2;have Iz:=Cz a;refine qv aA ?_;refine ab.ck (s:=2) hH rfl z3 z3 (by exact cU) (by exact Arg.rows z5 hH) rfl rfl rfl rfl rfl rfl rfl ⟨(η rfl),(η rfl)⟩ (fun _=>(aa rfl _)) (by simp only[γ]<;>omega) (by exact .inr z5) (fun ZN st hH=>?_);have hH:=zjnb hH;refine zQ 5 ?_;exact⟨mm-1,by omega,⟨s2,ZN,lr++a,false,rfl,(by rw[Θ];exact hH),i1.trans h1,i2.trans h2,by omega,i4,by rw[ε];omega,fun e=>by rw[ε];omega,by split<;>omega⟩⟩
 ·have de:(s1.e==0)=false:=by simpa using iI
  refine zQ 25 ?_;refine qD rfl (by simp[iI]) ?_;refine zQ 4 ?_;refine ag.ret ⟨rx,_,_,_,rfl,ai (rfl),?_⟩;exact⟨_,iT h1 z0 z0 h4 iI,bD.aq bA (hH.erase 2)⟩
def ma (fr:Go.V.Fr) (k:Nat):Go.V.D:=Go.V.nth .bo fr.loc k
def wk (gs:List (Nat×Nat)) (s s':gJ):Prop:=s'.o=s.o∧s'.g=s.g∧s.i<s'.i∧s'.i≤gs.length
theorem HZ (aT:nG gs cC) (he:s.e=0) (hi:s.i<gs.length) (hH:Has N S s0 (.box k (.mem 0 false (aW gs ch s))::.aC ch 1 (cC.map ax)::H)):
  ∃d ah,Ev pv 138 [.ptr k 0 0] s0 d ah∧∃(n1 n2:Int) (s':gJ),d=.tup [.int .i64 n1,.int .i64 n2]∧wk gs s s'∧Has N S ah (.box k (.mem 0 false (aW gs ch s'))::.aC ch 1 (cC.map ax)::H):=by
 have vw:=aT.gl;have ia:=aT.pl;have hne:gs≠[]:=by rintro rfl;simp at hi
 refine Ev.eH rfl SJ rfl rfl rfl ?_;refine zE ?_;have bD:=hH;have hH:=hH.bf;have bA:(ae .rw s0).bs=s0.bs:=rfl;generalize ae .rw s0=S2 at*;refine zQ 22 ?_;refine qT hH aJ fun st hH=>?_;have hH:=zjnb hH;refine zQ 1 ?_;have hH:Has N S2 st (.box k (.mem 0 false (aW gs ch {s with i:=s.i+1}))::.aC ch 1 (cC.map ax)::H):=hH
 have I8:∀(st:St) (s3:gJ) (e:Int),e≠0→s3.e=0→wk gs s s3→Has N S2 st (.box k (.mem 0 false (aW gs ch s3))::.aC ch 1 (cC.map ax)::H)→∃d ah,Ev pv 42 [.ptr k 0 0,.int .i64 (s.i:Nat),.int .i64 e] st d ah∧d=.sl []∧∃s4,wk gs s s4∧Has N S2 ah (.box k (.mem 0 false (aW gs ch s4))::.aC ch 1 (cC.map ax)::H):=by
  intro st s3 e h0 h1 h2 hH;obtain⟨d,ah,aA,h4,hH⟩:=dQ (s:=s3) s.i e z0 hH;obtain⟨w1,w2,w3,w4⟩:=et (cC:=cC) (s:=s3) (i:=s.i) (e:=e) h1 h0;exact⟨d,ah,aA,h4,_,⟨w3.trans h2.1,w4.trans h2.2.1,by rw[w2];exact h2.2.2.1,by rw[w2];exact h2.2.2.2⟩,hH⟩
 refine zQ 3 ?_;obtain⟨_,st,aA,m,ok,mm,rfl,Db,hmi,hH⟩:=xR (s:={s with i:=s.i+1}) vw (by show s.i+1≤_;omega) hne hH;refine qv aA ?_;refine zQ 6 ?_
 obtain⟨s1,lL⟩:∃s1:gJ,({s with i:=s.i+1+mm}:gJ)=s1:=⟨_,rfl⟩
 have N9:s1.e=0:=by rw[←lL];exact he
 have Ix:wk gs s s1:=by rw[←lL];exact⟨rfl,rfl,by show s.i<s.i+1+mm;omega,hmi⟩
 have hH:Has N S2 st (.box k (.mem 0 false (aW gs ch s1))::.aC ch 1 (cC.map ax)::H):=by rw[←lL];exact hH
 clear lL;refine zQ 8 ?_;refine ag.jn (fun fr st=>∃(n:List UInt8) (en:Bool) (s3:gJ) (tmp:List (Nat×D)),fr=⟨14,[.ptr k 0 0,ma fr 1,ma fr 2,ma fr 3,.int .i64 (s.i:Nat),.str m,.bool ok,.str n,.bool en,ma fr 9,ma fr 10,ma fr 11,ma fr 12,ma fr 13],tmp⟩∧Has N S2 st (.box k (.mem 0 false (aW gs ch s3))::.aC ch 1 (cC.map ax)::H)∧(s3.e=0)∧(wk gs s s3)∧(n.length≤120)) ?_ ?_
 ·cases ok with
  |false=>
   have lS:false=false:=rfl;refine zQ 9 ?_;exact⟨m,false,s1,_,rfl,hH,N9,Ix,Db⟩
  |true=>
   have lS:true=true:=rfl;obtain⟨k1,k2,k3,k4,k5⟩:=jm (gs:=gs) (s:=s1) (r:=44);have k5:=k5 Ix.2.2.2;refine zQ 4 ?_;obtain⟨_,st,aA,rfl,hH⟩:=ft (s:=s1) z0 44 hH;refine qv aA ?_ (hg:=wi lS);refine zQ 2 ?_;generalize dK gs s1 44=s2 at*
   have Lz:wk gs s s2:=⟨k1.trans Ix.1,k2.trans Ix.2.1,by have:=Ix.2.2.1;omega,k5⟩
   cases hb:lQ gs s1.i 44 with
   |false=>
    refine zQ 2 ?_;exact⟨m,false,s2,_,rfl,hH,k3.trans N9,Lz,Db⟩
   |true=>
    refine zQ 8 ?_;obtain⟨_,st,aA,n,there,YM,rfl,C_,hni,hH⟩:=xR (s:=s2) vw k5 hne hH;refine qv aA ?_;refine zQ 11 ?_;exact⟨n,!there,{s2 with i:=s2.i+YM},_,rfl,hH,k3.trans N9,⟨Lz.1,Lz.2.1,by have:=Lz.2.2.1;show s.i<s2.i+YM;omega,hni⟩,C_⟩
 ·rintro fr st ⟨n,en,s3,tmp,hfr,hH,h1,h2,h3⟩;rw[hfr];clear hfr;generalize ma fr=ee;clear fr;obtain⟨k1,k2,k3,k4,k5⟩:=jm (gs:=gs) (s:=s3) (r:=125);have k5:=k5 h2.2.2.2
  have F':wk gs s (dK gs s3 125):=⟨k1.trans h2.1,k2.trans h2.2.1,by have:=h2.2.2.1;omega,k5⟩
  have Ly:(dK gs s3 125).e=0:=k3.trans h1
  cases ok with
  |false=>
   have cj:(!false)=true:=rfl;refine zQ 25 ?_;obtain⟨_,st,aA,rfl,s4,TT,hH⟩:=I8 _ s3 4 (by decide) h1 h2 hH;refine qv aA ?_;refine zQ 6 ?_;refine ag.ret ⟨rx,_,_,_,rfl,ai (rfl),?_⟩;exact⟨_,_,s4,rfl,TT,bD.aq bA hH⟩
  |true=>
   have cj:(!true)=false:=rfl
   cases GQ:(!lQ gs s3.i 125) with
   |true=>
    refine zQ 7 ?_;obtain⟨_,st,aA,rfl,hH⟩:=ft (s:=s3) z0 125 hH;refine qv aA ?_ (hg:=wi cj);refine zQ 12 ?_;generalize dK gs s3 125=s4 at*;refine zQ 5 ?_;obtain⟨_,st,aA,rfl,s5,IU,hH⟩:=I8 _ s4 4 (by decide) Ly F' hH;refine qv aA ?_;refine zQ 6 ?_;refine ag.ret ⟨rx,_,_,_,rfl,ai (rfl),?_⟩;exact⟨_,_,s5,rfl,IU,bD.aq bA hH⟩
   |false=>
    have eJ:True:=trivial
    cases en with
    |true=>
     have dA:(!true)=false:=rfl;refine zQ 7 ?_;obtain⟨_,st,aA,rfl,hH⟩:=ft (s:=s3) z0 125 hH;refine qv aA ?_ (hg:=wi cj);refine zQ 9 ?_;refine Qad (aj rfl rfl rfl GQ) rfl dA (aa rfl _) ?_;refine zQ 2 ?_;generalize dK gs s3 125=s4 at*;refine zQ 2 ?_;obtain⟨_,Bl,a1,f1,rfl⟩:=o9 (s0:=st) m z0;refine zQ 3 ?_;refine qv (Bl) ?_;refine zQ 15 ?_;obtain⟨_,rV,a2,f2,rfl⟩:=o9 (s0:=st) [] (by simp);refine zQ 3 ?_;refine qv (rV) ?_;refine zQ 8 ?_;refine ag.da 78 (.bool (!f1||!f2)) [] ?_ (fun ff tmp cI=>?_)
     ·refine zQ 3 ?_;refine GB 75 rfl (fun cj=>?_) (fun cj=>?_)
      ·refine zQ 3 ?_;refine π (aO ?_ ?_)
       ·dsimp only[aI,θ,nth,u2,u1]
        all_goals(first|rfl|simp)
       ·refine zF ?_
        all_goals(simp[cj];done)
      ·refine zQ 3 ?_;refine π (aO ?_ ?_)
       ·dsimp only[aI,θ,nth,u2,u1]
        all_goals(first|rfl|simp)
       ·refine zF ?_
        all_goals(simp[cj];done)
     dsimp only[aI,θ,nth,u2,u1];refine qc (fun Gc=>?_) (fun Gc=>?_)<;>try simp only[cs] at Gc
     ·refine zQ 4 ?_;obtain⟨_,st,aA,rfl,s5,IU,hH⟩:=I8 _ s4 2 (by decide) Ly F' hH;refine qv aA ?_;refine zQ 6 ?_;refine ag.ret ⟨rx,_,_,_,rfl,ai (rfl),?_⟩;exact⟨_,_,s5,rfl,IU,bD.aq bA hH⟩
     ·refine zQ 17 ?_;refine ag.ret ⟨rx,_,_,_,rfl,ai (rfl),?_⟩;exact⟨_,_,s4,rfl,F',bD.aq bA hH⟩
    |false=>
     have dA:(!false)=true:=rfl;refine zQ 7 ?_;obtain⟨_,st,aA,rfl,hH⟩:=ft (s:=s3) z0 125 hH;refine qv aA ?_ (hg:=wi cj);refine zQ 8 ?_;obtain⟨_,hle,v,rfl⟩:=Lj (s0:=st) n m;refine ab.iN (aj rfl rfl rfl dA) rfl hle (aa rfl _) ?_;refine Qaf (aj rfl rfl rfl GQ) rfl dA (aa rfl _) ?_;refine zQ 2 ?_;generalize dK gs s3 125=s4 at*
     cases v with
     |true=>
      refine zQ 5 ?_;obtain⟨_,st,aA,rfl,s5,IU,hH⟩:=I8 _ s4 4 (by decide) Ly F' hH;refine qv aA ?_;refine zQ 6 ?_;refine ag.ret ⟨rx,_,_,_,rfl,ai (rfl),?_⟩;exact⟨_,_,s5,rfl,IU,bD.aq bA hH⟩
     |false=>
      refine zQ 2 ?_;obtain⟨_,Bl,a1,f1,rfl⟩:=o9 (s0:=st) m z0;refine zQ 3 ?_;refine qv (Bl) ?_;refine zQ 13 ?_;obtain⟨_,rV,a2,f2,rfl⟩:=o9 (s0:=st) n z0;refine zQ 3 ?_;refine qv (rV) ?_;refine zQ 8 ?_;refine ag.da 78 (.bool (!f1||!f2)) [] ?_ (fun ff tmp cI=>?_)
      ·refine zQ 3 ?_;refine GB 75 rfl (fun cj=>?_) (fun cj=>?_)
       ·refine zQ 3 ?_;refine π (aO ?_ ?_)
        ·dsimp only[aI,θ,nth,u2,u1]
         all_goals(first|rfl|simp)
        ·refine zF ?_
         all_goals(simp[cj];done)
       ·refine zQ 3 ?_;refine π (aO ?_ ?_)
        ·dsimp only[aI,θ,nth,u2,u1]
         all_goals(first|rfl|simp)
        ·refine zF ?_
         all_goals(simp[cj];done)
      dsimp only[aI,θ,nth,u2,u1];refine qc (fun Gc=>?_) (fun Gc=>?_)<;>try simp only[cs] at Gc
      ·refine zQ 4 ?_;obtain⟨_,st,aA,rfl,s5,IU,hH⟩:=I8 _ s4 2 (by decide) Ly F' hH;refine qv aA ?_;refine zQ 6 ?_;refine ag.ret ⟨rx,_,_,_,rfl,ai (rfl),?_⟩;exact⟨_,_,s5,rfl,IU,bD.aq bA hH⟩
      ·refine zQ 15 ?_;refine ag.ret ⟨rx,_,_,_,rfl,ai (rfl),?_⟩;exact⟨_,_,s4,rfl,F',bD.aq bA hH⟩
def dv (fr:Go.V.Fr) (k:Nat):Go.V.D:=Go.V.nth .bo fr.loc k
theorem uC:∀{l:List D},(∀d∈l,cD d=true)→refs l=0
 |[],_=>rfl
 |d::l,h=>by
  have h1:=uC (l:=l) fun d hd=>h d (Ω _ hd);have h2:=h d (IN ..)
  have h3:d.ref=0:=by cases d<;>first|rfl|(simp[cD] at h2)
  simp only[refs,h1,h3,Nat.max_self]
theorem xg (h:∀n∈l,zT n):refs (l.map bC).flatten=0:=
 uC fun d hd=>by
  obtain⟨e,he,EY⟩:=List.mem_flatten.1 hd;exact rH h e he d EY
def fw (l:List eE):List D:=[zJ l]
theorem AQ {l:List (List eE)} {i:Nat} {q:List eE} (h:l[i]?=some q):(l.map fw)[i]?=some (fw q):=by rw[IT,h];rfl
def hO:List (List eE)→Nat
 |[]=>0
 |l::ls=>l.length+hO ls
theorem eF:∀a b:List (List eE),hO (a++b)=hO a+hO b
 |[],b=>by simp[hO]
 |l::a,b=>by rw[OF,hO,hO,eF a b];omega
theorem xA {parts:List (List eE)} (op:Int) (hx:V.Rows s0 1 x (parts.map fw)) (hv:∀l∈parts,∀n∈l,zT n) (hp:parts.length≤100000) (hs:hO parts≤100000):∃d,Ev pv 82 [.int .i64 op,x] s0 d s0∧∃l,d=zJ l∧(∀n∈l,zT n)∧(parts.length=1→l.length≤hO parts)∧l.length≤hO parts+1:=by
 refine Ev.CL rfl WU rfl rfl rfl ?_;refine zE ?_;obtain⟨aR,hF,hH⟩:=ri s0;generalize ae .ro s0=S at*;have hx:=Arg.of hx aR;refine zQ 8 ?_;refine qn ?_;simp only[γ];refine zQ 7 ?_
 by_cases h0:parts.length=0
 ·refine qD rfl (by simp[h0]) ?_;refine zQ 2 ?_;refine Qa8 (d:=.agg [.int .i64 1,.nul,.int .i64 0,.int .i64 0,.bool false,.int .i64 0,.int .i64 0]) (st1:=_) rfl rfl rfl (by dsimp only[Fr.put,u1,u2]<;>rfl) ?_;refine qh (s:=7) (vs:=[_]) hH fun k13 st OM hH=>?_;refine zQ 2 ?_;have hfz:=kJ (L:=s0.bs.length) (a:=[]) hH aJ (.inr ⟨rfl,rfl⟩) (fun k hk=>by have mg:k13+1=k+1:=hk;rw[←aR];omega);refine ag.ret ⟨rx,_,_,rfl,rl aR hH (hfz),?_⟩;exact⟨_,rfl,Ib (by simp) z0,by omega,by simp⟩
 have RU:(((parts.length:Nat):Int)==0)=false:=by rw[beq_eq_false_iff_ne];omega
 refine qE rfl (by rw[RU]) ?_;refine zQ 5 ?_
 by_cases h1:parts.length=1
 ·obtain⟨q,hq⟩:∃q,parts[0]?=some q:=⟨parts[0]' z0,δ _⟩
  have fU:=AQ hq
  have LC:parts=[q]:=by
   match parts,h1,hq with
   |[a],_,hq=>simp at hq;rw[hq]
  refine qD rfl (by simp[h1]) ?_;refine zQ 3 ?_;refine qr fun Uu Ou=>?_;refine zQ 3 ?_;refine ag.ret ⟨rx,_,_,rfl,rl aR hH (rfl),?_⟩;refine⟨q,rfl,hv q (ξ hq),fun _=>?_,?_⟩<;>rw[LC]<;>simp[hO]
 have OX:(((parts.length:Nat):Int)==1)=false:=by rw[beq_eq_false_iff_ne];omega
 refine qE rfl (by rw[OX]) ?_;refine zQ 5 ?_;refine qn ?_;simp only[γ];refine Qa8 (d:=.agg [.int .i64 op,.nul,.int .i64 0,.int .i64 0,.bool false,.int .i64 0,.int .i64 (parts.length:Nat)]) (st1:=_) rfl rfl rfl (by dsimp only[Fr.put,u1,u2]<;>rfl) ?_;refine qh (s:=7) (vs:=[_]) hH fun k23 st VT hH=>?_;refine zQ 6 ?_;refine qn ?_;simp only[γ];refine zQ 2 ?_;have hH:Has s0.bs.length S st (.aC (.win k23 0 0 1 7) 7 [[.int .i64 op,.nul,.int .i64 0,.int .i64 0,.bool false,.int .i64 0,.int .i64 (parts.length:Nat)]]::[]):=hH;refine zQ 1 ?_;refine ag.loop (fun mm fr st=>∃(i:Nat) (od:D) (es:List (List D)) (lo:List eE),fr.clean=⟨27,[dv fr 0,dv fr 1,dv fr 2,dv fr 3,dv fr 4,od,dv fr 6,dv fr 7,dv fr 8,dv fr 9,dv fr 10,dv fr 11,dv fr 12,dv fr 13,dv fr 14,dv fr 15,dv fr 16,dv fr 17,dv fr 18,dv fr 19,dv fr 20,dv fr 21,dv fr 22,dv fr 23,x,.int .i64 (parts.length:Nat),.int .i64 (i:Nat)],[]⟩∧Has s0.bs.length S st [.aC od 7 es]∧(i+mm=parts.length)∧(es.map (·.map oS)=lo.map bC)∧(∀e∈es,∀d∈e,mO d=true)∧(∀n∈lo,zT n)∧(lo.length=1+hO (parts.take i))∧(∀k,od.ref=k+1→S.bs.length≤k)) (parts.length) ?_ ?_
 ·refine⟨0,.win k23 0 0 1 7,[[.int .i64 op,.nul,.int .i64 0,.int .i64 0,.bool false,.int .i64 0,.int .i64 (parts.length:Nat)]],[yK op 0 0 false 0 (parts.length:Nat) []],rfl,hH,by omega,rfl,?_,Ib (by simp) z0,by simp[hO],fun k hk=>by simp only[Qa4] at hk;omega⟩;intro e he d hd;simp only[κ,ι,or_false] at he;subst he;simp only[κ,ι,or_false] at hd
  rcases hd with rfl|rfl|rfl|rfl|rfl|rfl|rfl<;>rfl
 rintro mm fr st ⟨i,od,es,lo,hfr,hH,hi,wJ,ht,IV,hlen,vq⟩;rw[hfr];clear hfr;generalize dv fr=ee;clear fr;refine zQ 4 ?_
 by_cases hlt:i<parts.length
 ·obtain⟨q,hq⟩:∃q,parts[i]?=some q:=⟨parts[i]'hlt,δ _⟩
  have fU:=AQ hq;have TQ:=hv q (ξ hq);have tQ:es.length=lo.length:=by have:=congrArg Qa9 wJ;simpa using this
  have QN:parts.take (i+1)=parts.take i++[q]:=by rw[List.take_add_one,hq];rfl
  have UR:hO (parts.take (i+1))=hO (parts.take i)+q.length:=by rw[QN,eF];simp[hO]
  have aap:hO (parts.take (i+1))≤hO parts:=by
   have:=eF (parts.take (i+1)) (parts.drop (i+1));rw[List.take_append_drop] at this;omega
  refine qq<|qD rfl (by simp;omega) ?_;refine zQ 5 ?_;refine qr fun Us Oq=>?_;refine zQ 6 ?_;refine ab.lM (s:=7) hH rfl z3 z3 aJ ((xh TQ).rows st) rfl rfl rfl rfl rfl rfl rfl ⟨(η rfl),(η rfl)⟩ (fun _=>(aa rfl _)) (by rw[γ];omega) (.inl hF) vq (fun ZS st vq hH=>?_);dsimp only[u2] at hH;refine zQ 6 ?_;refine⟨mm-1,by omega,⟨i+1,ZS,es++q.map bC,lo++q,rfl,hH,by omega,by rw[Θ,Θ,wJ,yI TQ],?_,?_,by rw[ε,hlen,UR];omega,vq⟩⟩
  ·intro e he
   rcases Pd.1 he with he|he
   ·exact ht e he
   ·exact uT TQ e he
  ·intro n hn
   rcases Pd.1 hn with hn|hn
   ·exact IV n hn
   ·exact TQ n hn
 ·refine qq<|qE rfl (by simp;omega) ?_;refine zQ 6 ?_;have hik:i=parts.length:=by omega
  rw[hik,List.take_length] at hlen;refine ag.ret ⟨rx,_,_,rfl,rl aR hH (kI hH aJ wJ ht (fun k hk=>by have:=vq k hk;rw[←aR];exact this) (by decide)),?_⟩;exact⟨_,rfl,IV,by omega,by omega⟩
end Go.Proofs.YtkbacjpologjbaaGreat
