/-
 What a rule reaches: the document's search.
-/
import Derived.Test.YtecjacicdpejaaaGreatWGHr
import Derived.Test.YtecjacicdpejaaaGreatWGUa
import Derived.Test.YtecjacicdpejaaaGreatWM2
set_option maxRecDepth 100000
set_option maxHeartbeats 4000000
set_option linter.unusedSimpArgs false
set_option linter.unusedVariables false
set_option linter.unusedSectionVars false
open List renaming length_map→γ,length_append→δ,getElem?_eq_getElem→ε,length_cons→ζ,foldl→θ,length_reverse→ι,not_mem_nil→κ,mem_cons→μ,length_nil→ξ,mem_of_getElem?→ο,getElem?_cons_zero→π,foldl_cons→ς,length_set→φ,drop_succ_cons→χ,take_succ_cons→ψ,append_assoc→Γ,map_append→Ξ,drop_zero→Ψ,foldl_nil→Ω,mem_cons_of_mem→Q5,replicate→Wh,take_zero→Z5,mem_cons_self→Zt,getElem?_map→Y',cons_append→YH,length_drop→JS,mem_append→wt,exists_cons_of_ne_nil→xw,getD_eq_getElem?_getD→v8,getElem?_cons_succ→ki,mem_map→VQ,length_replicate→VM,getElem?_of_mem→VT,map_replicate→GB,length_take→Cf,nil_append→Cr,drop_drop→IN,map_map→IS,length→LL
open Nat renaming le_of_ble_eq_true→η,reduceAdd→ν,le_refl→υ,sub_self→OF,add_mul→P8
open Go.V.ab renaming nil→ρ,two→ZD,go→IT,av→PR,cA→Pd,jc→Pe,bN→R2
open Go.V.D renaming cells→τ,ref→BY
open Classical renaming propDecidable→ω
open Int renaming toNat_natCast→Δ,eq_ofNat_of_zero_le→Ut
open Bool renaming and_eq_true→Θ,not_eq_false'→Zn,not_eq_true'→YQ
open Option renaming some→Φ,bind_some→Bv
namespace Go.Proofs.YtecjacicdpejaaaGreat
open Go.V Go
def xX (fr:Go.V.Fr) (k:Nat):Go.V.D:=Go.V.nth .bI fr.loc k
variable{s0:St}{p:Pg}{i:aP}
theorem OX {pc:Nat} (hp:p.ok) (hi:p.code[pc]?=some i):Ev pv 197 [p.d,.int .i64 (pc:Nat)] s0 (HR (cH pc i)) s0:=by
 refine Ev.gP rfl W_ rfl rfl rfl ?_;refine zE ?_;obtain⟨aN,hF,hH⟩:=ri s0;generalize ae .ro s0=S at*;have hc:=hp.c.arg s0.bs.length S;have Gb:=(hp.i i (ο hi)).1;have hcl:=hp.cl;have hr:=gM hi;have hlt:=bp hi;unfold Pg.d;refine zQ 2 ?_;refine qb hH fun k2 st hk2 hH=>?_;dsimp only[u2,u1,u3,u4,setMany,u5,u6,τ,ν,Pg.cs,aJ,az,cQ] at hH;refine zQ 7 ?_;refine qr fun p9 hp9=>?_;refine ab.c_ rfl (ev rfl) (by assumption) rfl (by dsimp only[Fr.put,u1,u2]<;>rfl) ?_;refine qa hH fun k5 st Kf hH=>?_;refine qS hH aB fun st hH=>?_;dsimp only[u2,u1,u3,u4,setMany,u5,u6,τ,ν,Pg.cs,aJ,az,cQ] at hH;refine zQ 13 ?_;refine zI (fun h2=>?_) fun h2=>?_
 ·have:cH pc i=[i.x,i.y]:=by unfold cH;rw[if_pos h2]
  rw[this];refine zQ 6 ?_;refine qh (s:=1) (vs:=[_,_]) hH fun k19 st SD hH=>?_;refine zQ 2 ?_;refine ag.ret ⟨rx,_,rfl,rl aN hH ?_⟩;exact hH.freeze aB (lO [i.x,i.y]) (n:=15) (by decide)
 ·refine zQ 5 ?_;refine zI (fun h3=>?_) fun h3=>?_
  ·have:cH pc i=[i.x]:=by unfold cH;rw[if_neg h2,if_pos h3]
   rw[this];refine zQ 4 ?_;refine qh (s:=1) (vs:=[_]) hH fun k24 st VF hH=>?_;refine zQ 2 ?_;refine ag.ret ⟨rx,_,rfl,rl aN hH ?_⟩;exact hH.freeze aB (lO [i.x]) (n:=15) (by decide)
  ·refine zQ 5 ?_;refine zI (fun h7=>?_) fun h7=>?_
   ·have:cH pc i=[]:=by unfold cH;rw[if_neg h2,if_neg h3,if_pos h7]
    rw[this];refine zQ 4 ?_;refine ag.ret ⟨rx,_,rfl,rl aN hH (rfl)⟩
   ·have:cH pc i=[((pc+1:Nat):Int)]:=by unfold cH;rw[if_neg h2,if_neg h3,if_neg h7]
    rw[this];refine zQ 5 ?_;refine qh (s:=1) (vs:=[_]) hH fun k29 st VE hH=>?_;refine zQ 2 ?_;refine ag.ret ⟨rx,_,rfl,rl aN hH ?_⟩;exact hH.freeze aB (lO [((pc+1:Nat):Int)]) (n:=15) (by decide)
def nV (p:Pg) (nS:Int):List Bool:=if my nS p.ak.length then bR p.code (p.ak.getD nS.toNat 0) else Wh p.code.length false
theorem vi {nS:Int} (hp:p.ok) (hcl:lF p.code) (jO:∀v∈p.ak,0≤v∧v<p.code.length):Ev pv 147 [p.d,.int .i64 nS] s0 (rV (nV p nS)) s0:=by
 refine Ev.gP rfl XD rfl rfl rfl ?_;refine zE ?_;obtain⟨aN,hF,hH⟩:=ri s0;generalize ae .ro s0=S at*;have hc:=hp.c.arg s0.bs.length S;have hs:=hp.s.arg s0.bs.length S;have nM:=hp.c;have hlen:=hp.cl;have Pf:=hp.sl;unfold Pg.d;refine zQ 2 ?_;refine qb hH fun k2 st hk2 hH=>?_;dsimp only[u2,u1,u3,u4,setMany,u5,u6,τ,ν,Pg.cs,aJ,az,cQ] at hH;refine zQ 6 ?_;refine qn ?_;simp only[γ];refine ab.Az (s:=1) hH rfl rfl rfl rfl rfl rfl rfl rfl (η rfl) (by omega) (fun _=>(aa rfl _)) (fun k11 st Jv hH=>?_);refine zQ 2 ?_
 have hnot:my nS p.ak.length=!(decide (nS<0)||decide (nS≥p.ak.length)):=by
  unfold my;simp only[Bool.not_or,←decide_not,Int.not_lt,Int.not_le,ge_iff_le]
 refine zQ 2 ?_;refine ag.dM 20 (.bool (decide (nS<0)||decide (nS≥p.ak.length))) [] ?_ (fun ff tmp dj=>?_)
 ·refine zQ 3 ?_;refine ZD 14 rfl (fun br=>?_) (fun br=>?_)
  ·refine zQ 6 ?_;refine ρ (aR ?_ ?_)
   ·dsimp only[aK,θ,nth,u2,u1]
    all_goals(first|rfl|simp)
   ·refine zF ?_
    all_goals(simp[br];done)
  ·refine zQ 3 ?_;refine qn ?_ (hg:=wi br);simp only[γ];refine zQ 2 ?_;refine ρ (aR ?_ ?_)
   ·dsimp only[aK,θ,nth,u2,u1]
    all_goals(first|rfl|simp)
   ·refine zF ?_
    all_goals(simp[br];done)
 dsimp only[aK,θ,nth,u2,u1];refine qc (fun h0=>?_) (fun h0=>?_)<;>try simp only[cs] at h0
 ·have hR:nV p nS=Wh p.code.length false:=by unfold nV;rw[hnot,h0];rfl
  rw[hR];refine zQ 5 ?_;have hH:Has s0.bs.length S st [.aF (.win k11 0 0 p.code.length 1) 1 ((Wh p.code.length false).map cQ),.box k2 (.mem 0 false [p.cd,p.sd])]:=by rw[GB];exact hH
  refine ag.ret ⟨rx,_,rfl,rl aN hH ?_⟩;exact hH.freeze aB (oz _) (n:=15) (by decide)
 ·have rz:my nS p.ak.length=true:=by rw[hnot,h0];rfl
  have hR:nV p nS=bR p.code (p.ak.getD nS.toNat 0):=by unfold nV;rw[if_pos rz]
  rw[hR];unfold my at rz;simp only[Θ,decide_eq_true_eq] at rz;obtain⟨ru,rfl⟩:=Ut rz.1
  obtain⟨start,nA⟩:∃v,p.ak[ru]?=some v:=⟨p.ak[ru]'(by omega),ε _⟩
  have hr0:=fJ nA;have jO:=jO start (ο nA);rw[show p.ak.getD (ru:Int).toNat 0=start by rw[Δ,v8,nA];rfl];refine zQ 6 ?_;refine qr fun Ro Gd=>?_;refine qR ?_;refine qh (s:=1) (vs:=[_]) hH fun k27 st aaE hH=>?_;refine zQ 4 ?_;refine ag.loop (fun mm fr st=>∃(y z:D) (seen:List Bool) (il:List Int),fr.clean=⟨8,[xX fr 0,xX fr 1,.ptr k2 0 0,xX fr 3,.nul,y,z,xX fr 7],[]⟩∧Has s0.bs.length S st [.aF z 1 (il.reverse.map az),.aF y 1 (seen.map cQ),.box k2 (.mem 0 false [p.cd,p.sd])]∧(CB p.code mm seen il=bR p.code start)∧(3*seen.count false+il.length≤mm)∧(seen.length=p.code.length)∧(∀v∈il,0≤v∧v<(p.code.length:Int))∧(mm≤3*p.code.length+1)) (3*p.code.length+1) ?_ ?_
  ·exact⟨_,_,Wh p.code.length false,[start],rfl,(by rw[GB];exact hH),rfl,by simp,by simp,by simpa using jO,by omega⟩
  rintro mm fr st ⟨y,z,seen,il,hfr,hH,hd,hm,kX,hsk,E9⟩;rw[hfr];clear hfr;generalize xX fr=ee;clear fr
  rcases il with _|⟨v,il⟩
  ·refine zQ 4 ?_;refine qn ?_ (hR:=hH.rows aB);simp only[γ,ξ,ι];refine zQ 2 ?_;refine ag.cond (v:=false) (by dsimp only[Fr.ev,Fr.get,nth,V.look];rfl) (fun h=>by cases h) (fun _=>?_);refine zQ 6 ?_;have jl:seen=bR p.code start:=by rw[←hd];cases mm<;>rfl
   rw[←jl];refine ag.ret ⟨rx,_,rfl,rl aN hH ?_⟩;exact hH.freeze aO (oz _) (n:=15) (by decide)
  ·have hv:=hsk v (Zt ..);obtain⟨k,rfl⟩:=Ut hv.1;have hk:k<p.code.length:=by omega
   simp only[ζ] at hm
   obtain⟨mm,rfl⟩:∃m',mm=m'+1:=⟨mm-1,by omega⟩
   obtain⟨b,hb⟩:∃b,seen[k]?=some b:=⟨seen[k]'(by omega),ε _⟩
   obtain⟨i,hi⟩:∃i,p.code[k]?=some i:=⟨p.code[k]'(by omega),ε _⟩
   have gw:=CP (k:Int) il;have nB:=mb hb;refine zQ 4 ?_;refine qn ?_ (hR:=hH.rows aB);simp only[γ,ζ,ι];refine zQ 2 ?_;refine qD rfl (by simp) ?_;refine zQ 6 ?_;refine qn ?_ (hR:=hH.rows aB);simp only[γ,ζ,ι];refine ab.gd (z:=((il.length:Nat):Int)) rfl (ev rfl) (ev rfl) (by(try simp only[ι,ζ,ξ,δ,γ,φ]);rw[wrap_i64 (by omega) (by omega)]<;>omega) (aa rfl _) ?_;refine qi hH aB fun Ug Me=>?_;refine zQ 7 ?_;refine qn ?_ (hR:=hH.rows aB);simp only[γ,ζ,ι];refine ab.gd (z:=((il.length:Nat):Int)) rfl (ev rfl) (ev rfl) (by(try simp only[ι,ζ,ξ,δ,γ,φ]);rw[wrap_i64 (by omega) (by omega)]<;>omega) (aa rfl _) ?_;refine ab.o8 hH rfl (ev rfl) (by exact aB) rfl rfl (et (by simp only[γ,ι,ζ,δ,ξ,Cf,JS,φ,VM];omega)) ⟨(by omega),(by simp only[γ,ι,ζ,δ,ξ,Cf,JS,φ,VM];omega)⟩ (fun _=>(aa rfl _)) (fun y41 hH=>?_);refine zQ 2 ?_;dsimp only[u2] at hH;rw[Hg] at hH;have jO:∀w∈il,0≤w∧w<(p.code.length:Int):=fun w hw=>hsk w (Q5 _ hw);refine zQ 5 ?_;refine qi hH aO fun Zd Sg=>?_;refine zQ 2 ?_
   cases b with
   |true=>
    refine zQ 2 ?_;simp only[CB,Δ,hb] at hd;exact⟨mm,by omega,⟨_,_,seen,il,rfl,hH,hd,by omega,kX,jO,by omega⟩⟩
   |false=>
    have JB:=count_set hb;have iM:(seen.set k true).map cQ=(seen.map cQ).set k [.bool true]:=by rw[List.map_set];rfl
    simp only[CB,Δ,hb,hi] at hd;have hnx:=hcl k i hi;have Ax:=xD k i
    have RU:∀w∈(cH k i).reverse++il,0≤w∧w<(p.code.length:Int):=fun w hw=>by
     rcases wt.1 hw with hw|hw
     ·exact hnx w (List.mem_reverse.1 hw)
     ·exact jO w hw
    have R6:(((cH k i).reverse++il).reverse).map az=il.reverse.map az++(cH k i).map az:=by
     rw[List.reverse_append,List.reverse_reverse,Ξ]
    have QM:=(x9 (cH k i)).arg s0.bs.length S;refine zQ 6 ?_;refine qi hH aO fun p48 ade=>?_;refine ab.jb hH rfl (ev rfl) (ev rfl) (by assumption) rfl rfl (by exact aO) (by assumption) (η rfl) (by exact .inl hF) (fun st hH=>?_);dsimp only[u2,u1,u3,u4,setMany,u5,u6,τ,ν,Pg.cs,aJ,az,cQ] at hH;refine zQ 3 ?_;refine PR (m:=2) hH rfl (ev rfl) (by exact a_) (by dsimp only[χ,Ψ,ψ,Z5,Pg.cs,aJ,az,cQ]<;>rfl) rfl rfl (aa rfl _) ?_;refine qm ?_;refine qv (OX hp hi) ?_;refine ab.cL (s:=1) hH rfl (ev rfl) (ev rfl) (by exact aB) (by exact Arg.rows (by assumption) hH) rfl rfl rfl rfl rfl rfl rfl ⟨(η rfl),(η rfl)⟩ (fun _=>(aa rfl _)) (by simp only[γ,ι]<;>omega) (by exact .inl hF) (fun x53 st hH=>?_);dsimp only[u2,u1,u3,u4,setMany,u5,u6,τ,ν,Pg.cs,aJ,az,cQ] at hH;refine zQ 2 ?_;exact⟨mm,by omega,⟨y,_,seen.set k true,(cH k i).reverse++il,rfl,(by rw[R6,iM];exact hH),hd,by simp only[δ,ι];omega,by simp only[φ];exact kX,RU,by omega⟩⟩
def aC (fr:Go.V.Fr) (k:Nat):Go.V.D:=Go.V.nth .bI fr.loc k
noncomputable def dec (q:Prop):Bool:=@decide q (ω q)
variable{q:Prop}
theorem b_ (h:q):dec q=true:=@decide_eq_true q (ω q) h
theorem dp (h:¬q):dec q=false:=@decide_eq_false q (ω q) h
def o7 (p:Pg) (r:Nat) (s:Int) (n:Nat):Prop:=∀pc i,pc<n→(bR p.code s)[pc]?=some true→p.code[pc]?=some i→i.op=7→i.x=(r:Int)
structure bm (p:Pg):Prop where
 cl:p.code.length≤400
 sl:p.ak.length≤8
 sh:∀pc i,p.code[pc]?=some i→dv p.code.length p.ak.length pc i=true
 st:∀v∈p.ak,0≤v∧v<(p.code.length:Int)
 fo:∀r s,p.ak[r]?=some s→o7 p r s p.code.length
theorem qQ (h:∀pc i,p.code[pc]?=some i→dv p.code.length p.ak.length pc i=true):lF p.code:=
 fun pc i hi=>CX (h pc i hi)
theorem bm.closed (h:bm p):lF p.code:=qQ h.sh
theorem fK {a b:Int}:my a b=true↔0≤a∧a<b:=by
 unfold my;simp only[Θ,decide_eq_true_eq,ge_iff_le]
theorem mT (hp:p.ok):Ev pv 91 [p.d] s0 (.bool (dec (bm p))) s0:=by
 refine Ev.gP rfl abh rfl rfl rfl ?_;refine zE ?_;obtain⟨aN,hF,hH⟩:=ri s0;generalize ae .ro s0=S at*;have hc:=hp.c.arg s0.bs.length S;have hs:=hp.s.arg s0.bs.length S;have nM:=hp.c;have hlen:=hp.cl;have Pf:=hp.sl;unfold Pg.d;refine zQ 2 ?_;refine qb hH fun k1 st rj hH=>?_;dsimp only[u2,u1,u3,u4,setMany,u5,u6,τ,ν,Pg.cs,aJ,az,cQ] at hH;refine zQ 4 ?_;refine ag.oM 17 (.bool (decide ((p.code.length:Int)>400)||decide ((p.ak.length:Int)>8))) [8,9,10,11,12,13,14,15,16] ?_ (fun ff tmp=>?_)
 ·refine zQ 2 ?_;refine qn ?_;simp only[γ];refine zQ 2 ?_;refine ZD 12 rfl (fun iN=>?_) (fun iN=>?_)
  ·refine zQ 5 ?_;refine ρ (bu ?_);refine zG ?_
   all_goals(simp[iN];done)
  ·refine zQ 2 ?_;refine qn ?_ (hg:=wi iN);simp only[γ];refine zQ 2 ?_;refine ρ (bu ?_);refine zG ?_
   all_goals(simp[iN];done)
 dsimp only[aK,θ,nth,u2,u1];generalize ff 8=e8;generalize ff 9=e9;generalize ff 10=e10;generalize ff 11=e11;generalize ff 12=e12;generalize ff 13=e13;generalize ff 14=e14;generalize ff 15=e15;generalize ff 16=e16;refine qc (fun h0=>?_) (fun h0=>?_)<;>try simp only[cs] at h0
 ·rw[dp (fun h=>by have:=h.cl;have:=h.sl;simp at h0;omega)];refine zQ 4 ?_;refine ag.ret ⟨rx,_,rfl,rl aN hH (rfl)⟩
 ·have h0:p.code.length≤400∧p.ak.length≤8:=by simp at h0;omega
  refine zQ 6 ?_;refine qn ?_;simp only[γ];refine zQ 3 ?_;refine ag.loop (fun mm fr st=>∃(i:Nat),fr.clean=⟨49,[aC fr 0,.ptr k1 0 0,.bool false,aC fr 3,aC fr 4,aC fr 5,aC fr 6,aC fr 7,aC fr 8,aC fr 9,aC fr 10,aC fr 11,aC fr 12,aC fr 13,aC fr 14,aC fr 15,aC fr 16,aC fr 17,aC fr 18,aC fr 19,.int .i64 (p.code.length:Nat),.int .i64 (i:Nat),aC fr 22,aC fr 23,aC fr 24,aC fr 25,aC fr 26,aC fr 27,aC fr 28,aC fr 29,aC fr 30,aC fr 31,aC fr 32,aC fr 33,aC fr 34,aC fr 35,aC fr 36,aC fr 37,aC fr 38,aC fr 39,aC fr 40,aC fr 41,aC fr 42,aC fr 43,aC fr 44,aC fr 45,aC fr 46,aC fr 47,aC fr 48],[]⟩∧Has s0.bs.length S st [.box k1 (.mem 0 false [p.cd,p.sd])]∧(i+mm=p.code.length)∧(∀pc q,pc<i→p.code[pc]?=some q→dv p.code.length p.ak.length pc q=true)) (p.code.length) ?_ ?_
  ·exact⟨0,rfl,hH,by omega,by intro pc q h;omega⟩
  rintro mm fr st ⟨i,hfr,hH,hi,hsh⟩;rw[hfr];clear hfr;generalize aC fr=ee;clear fr;refine zQ 5 ?_;refine zP (fun h1=>?_) fun h1=>?_
  ·refine zQ 1 ?_
   obtain⟨q,hq⟩:∃q,p.code[i]?=some q:=⟨p.code[i]'(by omega),ε _⟩
   refine zQ 9 ?_;refine PR (m:=2) hH rfl (ev rfl) (by exact aB) (by dsimp only[χ,Ψ,ψ,Z5,Pg.cs,aJ,az,cQ]<;>rfl) rfl rfl (by dsimp only[Fr.put,u1,u2]<;>rfl) ?_;refine qm ?_;refine qv (IP (p:=p) hp hq) ?_;refine zQ 2 ?_;refine ag.cond (by rfl) (fun h2=>?_) (fun h2=>?_)<;>try simp only[YQ,Zn] at h2
   ·rw[dp (fun h=>by have:=h.sh i q hq;rw[this] at h2;cases h2)];refine zQ 4 ?_;refine ag.ret ⟨rx,_,rfl,rl aN hH (rfl)⟩
   ·refine zQ 5 ?_;refine⟨mm-1,by omega,⟨i+1,rfl,hH,by omega,?_⟩⟩;intro pc q' E8 sU
    by_cases he:pc=i
    ·subst he;rw[hq] at sU;cases sU;simpa using h2
    ·exact hsh pc q' (by omega) sU
  ·refine zQ 1 ?_;have hsh:∀pc q,p.code[pc]?=some q→dv p.code.length p.ak.length pc q=true:=fun pc q hq=>hsh pc q (by have:=bp hq;omega) hq;have hcl:=qQ hsh;refine zQ 5 ?_;refine qn ?_;simp only[γ];refine zQ 3 ?_;refine ag.loop (fun mm fr st=>∃(r:Nat),fr.clean=⟨49,[aC fr 0,.ptr k1 0 0,.bool false,aC fr 3,aC fr 4,aC fr 5,aC fr 6,aC fr 7,aC fr 8,aC fr 9,aC fr 10,aC fr 11,aC fr 12,aC fr 13,aC fr 14,aC fr 15,aC fr 16,aC fr 17,aC fr 18,aC fr 19,aC fr 20,aC fr 21,aC fr 22,aC fr 23,aC fr 24,aC fr 25,aC fr 26,aC fr 27,aC fr 28,aC fr 29,p.sd,.int .i64 (p.ak.length:Nat),.int .i64 (r:Nat),aC fr 33,aC fr 34,aC fr 35,aC fr 36,aC fr 37,aC fr 38,aC fr 39,aC fr 40,aC fr 41,aC fr 42,aC fr 43,aC fr 44,aC fr 45,aC fr 46,aC fr 47,aC fr 48],[]⟩∧Has s0.bs.length S st [.box k1 (.mem 0 false [p.cd,p.sd])]∧(r+mm=p.ak.length)∧(∀r' s,r'<r→p.ak[r']?=some s→(0≤s∧s<(p.code.length:Int))∧o7 p r' s p.code.length)) (p.ak.length) ?_ ?_
   ·exact⟨0,rfl,hH,by omega,by intro pc q h;omega⟩
   rintro mm fr st ⟨r,hfr,hH,hi,ba⟩;rw[hfr];clear hfr;generalize aC fr=ee;clear fr;refine zQ 5 ?_;refine zP (fun h3=>?_) fun h3=>?_
   ·refine zQ 1 ?_
    obtain⟨s,nA⟩:∃s,p.ak[r]?=some s:=⟨p.ak[r]'(by omega),ε _⟩
    have hr0:=fJ nA;refine zQ 5 ?_;refine qr fun Ug Me=>?_;refine zQ 10 ?_;refine qn ?_;simp only[γ];refine qv (lK _ _) ?_;refine zQ 2 ?_;refine ag.cond (by rfl) (fun h4=>?_) (fun h4=>?_)<;>try simp only[YQ,Zn] at h4
    ·rw[dp (fun h=>by have:=fK.2 (h.st s (ο nA));rw[this] at h4;cases h4)];refine zQ 4 ?_;refine ag.ret ⟨rx,_,rfl,rl aN hH (rfl)⟩
    ·have Ph:=fK.1 (show my s p.code.length=true by simpa using h4);refine zQ 1 ?_;have sQ:=nU p.code s;have L9:=(qX (bR p.code s)).arg s0.bs.length S;refine zQ 5 ?_;refine qv (Ig nM hlen hcl Ph) ?_;refine qn ?_;simp only[γ];refine zQ 3 ?_;refine ag.loop (fun mm fr st=>∃(i:Nat),fr.clean=⟨49,[aC fr 0,.ptr k1 0 0,.bool false,aC fr 3,.int .i64 (r:Nat),aC fr 5,aC fr 6,aC fr 7,aC fr 8,aC fr 9,aC fr 10,aC fr 11,aC fr 12,aC fr 13,aC fr 14,aC fr 15,aC fr 16,aC fr 17,aC fr 18,aC fr 19,aC fr 20,aC fr 21,aC fr 22,aC fr 23,aC fr 24,aC fr 25,aC fr 26,aC fr 27,aC fr 28,aC fr 29,p.sd,.int .i64 (p.ak.length:Nat),.int .i64 (r:Nat),aC fr 33,aC fr 34,aC fr 35,aC fr 36,aC fr 37,aC fr 38,aC fr 39,aC fr 40,aC fr 41,aC fr 42,aC fr 43,aC fr 44,aC fr 45,rV (bR p.code s),.int .i64 ((bR p.code s).length:Nat),.int .i64 (i:Nat)],[]⟩∧Has s0.bs.length S st [.box k1 (.mem 0 false [p.cd,p.sd])]∧(i+mm=p.code.length)∧(o7 p r s i)) (p.code.length) ?_ ?_
     ·exact⟨0,rfl,hH,by omega,by intro pc q h;omega⟩
     rintro mm fr st ⟨i,hfr,hH,hj,hom⟩;rw[hfr];clear hfr;generalize aC fr=ee;clear fr;refine zQ 5 ?_;refine zP (fun h5=>?_) fun h5=>?_
     ·refine zQ 1 ?_
      obtain⟨b,hb⟩:∃b,(bR p.code s)[i]?=some b:=⟨(bR p.code s)[i]'(by omega),ε _⟩
      obtain⟨q,hq⟩:∃q,p.code[i]?=some q:=⟨p.code[i]'(by omega),ε _⟩
      have gw:=mb hb;have nB:=gM hq;refine zQ 5 ?_;refine qr fun Zb Se=>?_;refine zQ 5 ?_;refine ag.dM 72 (.bool ((b &&(q.op==7)) &&(q.x !=(r:Int)))) [] ?_ (fun ff tmp dj=>?_)
      ·refine zQ 2 ?_;refine ZD 54 rfl (fun mY=>?_) (fun mY=>?_)
       ·refine zQ 3 ?_;refine qr (fun p58 ada=>?_) (hg:=wi mY);refine qf (fo:=0) (fun p59 Ve=>?_) (hg:=wi mY);refine zQ 4 ?_;refine ZD 63 rfl (fun ek=>?_) (fun ek=>?_)
        ·refine zQ 3 ?_;refine qr (fun p67 ac6=>?_) (hg:=wi ek);refine qf (fo:=1) (fun Uf BX=>?_) (hg:=wi ek);refine zQ 4 ?_;refine ρ (aR ?_ ?_)
         ·dsimp only[aK,θ,nth,u2,u1]
          all_goals(first|rfl|simp)
         ·refine zF ?_
          all_goals(simp[mY,ek];done)
        ·refine zQ 9 ?_;refine ρ (aR ?_ ?_)
         ·dsimp only[aK,θ,nth,u2,u1]
          all_goals(first|rfl|simp)
         ·refine zF ?_
          all_goals(simp[mY,ek];done)
       ·refine zQ 18 ?_;refine ρ (aR ?_ ?_)
        ·dsimp only[aK,θ,nth,u2,u1]
         all_goals(first|rfl|simp)
        ·refine zF ?_
         all_goals(simp[mY];done)
      refine zG ?_;refine qc (fun h6=>?_) (fun h6=>?_)<;>try simp only[cs] at h6
      ·rw[dp (fun h=>by
        have h7:=h.fo r s nA i q (by omega);simp only[Θ,beq_iff_eq,bne_iff_ne,ne_eq] at h6;obtain⟨⟨rfl,h8⟩,h9⟩:=h6
        exact h9 (h7 hb hq h8))]
       refine zQ 4 ?_;refine ag.ret ⟨rx,_,rfl,rl aN hH (rfl)⟩
      ·refine zQ 5 ?_;refine⟨mm-1,by omega,⟨i+1,rfl,hH,by omega,?_⟩⟩;intro pc q' E8 sS sU jD
       by_cases he:pc=i
       ·subst he;rw[hq] at sU;cases sU;rw[hb] at sS;cases sS;simp[jD] at h6;exact h6
       ·exact hom pc q' (by omega) sS sU jD
     ·refine zQ 5 ?_;refine⟨p.ak.length-(r+1),by omega,⟨r+1,rfl,hH,by omega,?_⟩⟩;intro r' s' HV qG
      by_cases he:r'=r
      ·subst he;rw[nA] at qG;cases qG;exact⟨Ph,fun pc q E8=>hom pc q (by omega)⟩
      ·exact ba r' s' (by omega) qG
   ·refine zQ 1 ?_
    rw[b_ ⟨h0.1,h0.2,hsh,fun v hv=>by
     obtain⟨r',HV⟩:=VT hv
     exact(ba r' v (by have:=bp HV;omega) HV).1,fun r' s' qG=>(ba r' s' (by have:=bp qG;omega) qG).2⟩]
    refine zQ 4 ?_;refine ag.ret ⟨rx,_,rfl,rl aN hH (rfl)⟩
def e6 (fr:Go.V.Fr) (k:Nat):Go.V.D:=Go.V.nth .bI fr.loc k
theorem sv (hp:p.ok):Ev pv 92 [p.d] s0 (.bool (dec (bm p))) s0:=by
 refine Ev.gP rfl abg rfl rfl rfl ?_;refine zE ?_;obtain⟨aN,hF,hH⟩:=ri s0;generalize ae .ro s0=S at*;have hc:=hp.c.arg s0.bs.length S;have hs:=hp.s.arg s0.bs.length S;have nM:=hp.c;have hlen:=hp.cl;have Pf:=hp.sl;unfold Pg.d;refine zQ 2 ?_;refine qb hH fun k1 st rj hH=>?_;dsimp only[u2,u1,u3,u4,setMany,u5,u6,τ,ν,Pg.cs,aJ,az,cQ] at hH;refine zQ 4 ?_;refine ag.dM 17 (.bool (decide ((p.code.length:Int)>400)||decide ((p.ak.length:Int)>8))) [] ?_ (fun ff tmp dj=>?_)
 ·refine zQ 2 ?_;refine qn ?_;simp only[γ];refine zQ 2 ?_;refine ZD 12 rfl (fun iN=>?_) (fun iN=>?_)
  ·refine zQ 5 ?_;refine ρ (aR ?_ ?_)
   ·dsimp only[aK,θ,nth,u2,u1]
    all_goals(first|rfl|simp)
   ·refine zF ?_
    all_goals(simp[iN];done)
  ·refine zQ 2 ?_;refine qn ?_ (hg:=wi iN);simp only[γ];refine zQ 2 ?_;refine ρ (aR ?_ ?_)
   ·dsimp only[aK,θ,nth,u2,u1]
    all_goals(first|rfl|simp)
   ·refine zF ?_
    all_goals(simp[iN];done)
 dsimp only[aK,θ,nth,u2,u1];refine qc (fun h0=>?_) (fun h0=>?_)<;>try simp only[cs] at h0
 ·rw[dp (fun h=>by have:=h.cl;have:=h.sl;simp at h0;omega)];refine zQ 4 ?_;refine ag.ret ⟨rx,_,rfl,rl aN hH (rfl)⟩
 ·have h0:p.code.length≤400∧p.ak.length≤8:=by simp at h0;omega
  refine zQ 7 ?_;refine ag.loop (fun mm fr st=>∃(i:Nat),fr.clean=⟨8,[e6 fr 0,.ptr k1 0 0,.bool false,.int .i64 (i:Nat),e6 fr 4,e6 fr 5,e6 fr 6,e6 fr 7],[]⟩∧Has s0.bs.length S st [.box k1 (.mem 0 false [p.cd,p.sd])]∧(i+mm=p.code.length)∧(∀pc q,pc<i→p.code[pc]?=some q→dv p.code.length p.ak.length pc q=true)) (p.code.length) ?_ ?_
  ·exact⟨0,rfl,hH,by omega,by intro pc q h;omega⟩
  rintro mm fr st ⟨i,hfr,hH,hi,hsh⟩;rw[hfr];clear hfr;generalize e6 fr=ee;clear fr;refine zQ 6 ?_;refine qn ?_;simp only[γ];refine zQ 2 ?_;refine zP (fun h1=>?_) fun h1=>?_
  ·refine zQ 1 ?_
   obtain⟨q,hq⟩:∃q,p.code[i]?=some q:=⟨p.code[i]'(by omega),ε _⟩
   refine zQ 4 ?_;refine PR (m:=2) hH rfl (ev rfl) (by exact aB) (by dsimp only[χ,Ψ,ψ,Z5,Pg.cs,aJ,az,cQ]<;>rfl) rfl rfl (aa rfl _) ?_;refine qm ?_;refine qv (RG (p:=p) hp hq) ?_;refine zQ 2 ?_;refine ag.cond (by rfl) (fun h2=>?_) (fun h2=>?_)<;>try simp only[YQ,Zn] at h2
   ·rw[dp (fun h=>by have:=h.sh i q hq;rw[this] at h2;cases h2)];refine zQ 4 ?_;refine ag.ret ⟨rx,_,rfl,rl aN hH (rfl)⟩
   ·refine zQ 6 ?_;refine⟨mm-1,by omega,⟨i+1,rfl,hH,by omega,?_⟩⟩;intro pc q' E8 sU
    by_cases he:pc=i
    ·subst he;rw[hq] at sU;cases sU;simpa using h2
    ·exact hsh pc q' (by omega) sU
  ·refine zQ 1 ?_;have hsh:∀pc q,p.code[pc]?=some q→dv p.code.length p.ak.length pc q=true:=fun pc q hq=>hsh pc q (by have:=bp hq;omega) hq;have hcl:=qQ hsh;refine zQ 6 ?_;refine ag.loop (fun mm fr st=>∃(r:Nat),fr.clean=⟨8,[e6 fr 0,.ptr k1 0 0,.bool false,e6 fr 3,.int .i64 (r:Nat),e6 fr 5,e6 fr 6,e6 fr 7],[]⟩∧Has s0.bs.length S st [.box k1 (.mem 0 false [p.cd,p.sd])]∧(r+mm=p.ak.length)∧(∀r' s,r'<r→p.ak[r']?=some s→0≤s∧s<(p.code.length:Int))) (p.ak.length) ?_ ?_
   ·exact⟨0,rfl,hH,by omega,by intro pc q h;omega⟩
   rintro mm fr st ⟨r,hfr,hH,hi,ba⟩;rw[hfr];clear hfr;generalize e6 fr=ee;clear fr;refine zQ 6 ?_;refine qn ?_;simp only[γ];refine zQ 2 ?_;refine zP (fun h3=>?_) fun h3=>?_
   ·refine zQ 1 ?_
    obtain⟨s,nA⟩:∃s,p.ak[r]?=some s:=⟨p.ak[r]'(by omega),ε _⟩
    have hr0:=fJ nA;refine zQ 3 ?_;refine ag.dM 52 (.bool (decide (s<0)||decide (s≥p.code.length))) [] ?_ (fun ff tmp dj=>?_)
    ·refine zQ 3 ?_;refine qr fun p39 Vi=>?_;refine zQ 3 ?_;refine ZD 42 rfl (fun gR=>?_) (fun gR=>?_)
     ·refine zQ 10 ?_;refine ρ (aR ?_ ?_)
      ·dsimp only[aK,θ,nth,u2,u1]
       all_goals(first|rfl|simp)
      ·refine zF ?_
       all_goals(simp[gR];done)
     ·refine zQ 3 ?_;refine qr (fun p46 adf=>?_) (hg:=wi gR);refine zQ 3 ?_;refine qn ?_ (hg:=wi gR);simp only[γ];refine zQ 2 ?_;refine ρ (aR ?_ ?_)
      ·dsimp only[aK,θ,nth,u2,u1]
       all_goals(first|rfl|simp)
      ·refine zF ?_
       all_goals(simp[gR];done)
    refine zG ?_;refine qc (fun h4=>?_) (fun h4=>?_)<;>try simp only[cs] at h4
    ·rw[dp (fun h=>by have:=h.st s (ο nA);simp at h4;omega)];refine zQ 4 ?_;refine ag.ret ⟨rx,_,rfl,rl aN hH (rfl)⟩
    ·have Ph:0≤s∧s<(p.code.length:Int):=by simp at h4;omega
     refine zQ 6 ?_;refine⟨mm-1,by omega,⟨r+1,rfl,hH,by omega,?_⟩⟩;intro r' s' HV qG
     by_cases he:r'=r
     ·subst he;rw[nA] at qG;cases qG;exact Ph
     ·exact ba r' s' (by omega) qG
   ·refine zQ 1 ?_
    have ba:∀v∈p.ak,0≤v∧v<(p.code.length:Int):=fun v hv=>by
     obtain⟨r',HV⟩:=VT hv;exact ba r' v (by have:=bp HV;omega) HV
    refine zQ 6 ?_;refine ag.loop (fun mm fr st=>∃(r:Nat),fr.clean=⟨8,[e6 fr 0,.ptr k1 0 0,.bool false,e6 fr 3,e6 fr 4,.int .i64 (r:Nat),e6 fr 6,e6 fr 7],[]⟩∧Has s0.bs.length S st [.box k1 (.mem 0 false [p.cd,p.sd])]∧(r+mm=p.ak.length)∧(∀r' s,r'<r→p.ak[r']?=some s→o7 p r' s p.code.length)) (p.ak.length) ?_ ?_
    ·exact⟨0,rfl,hH,by omega,by intro pc q h;omega⟩
    rintro mm fr st ⟨r,hfr,hH,hi,hfo⟩;rw[hfr];clear hfr;generalize e6 fr=ee;clear fr;refine zQ 6 ?_;refine qn ?_;simp only[γ];refine zQ 2 ?_;refine zP (fun h5=>?_) fun h5=>?_
    ·refine zQ 1 ?_
     obtain⟨s,nA⟩:∃s,p.ak[r]?=some s:=⟨p.ak[r]'(by omega),ε _⟩
     have hR:nV p (r:Nat)=bR p.code s:=by
      unfold nV;rw[if_pos (fK.2 ⟨by omega,by omega⟩),Δ,v8,nA];rfl
     have sQ:=nU p.code s;have L9:=(qX (bR p.code s)).arg s0.bs.length S;refine zQ 4 ?_;refine PR (m:=2) hH rfl (ev rfl) (by exact aB) (by dsimp only[χ,Ψ,ψ,Z5,Pg.cs,aJ,az,cQ]<;>rfl) rfl rfl (aa rfl _) ?_;refine qm ?_;refine qv ((hR▸vi (p:=p) (nS:=(r:Nat)) hp hcl ba)) ?_;refine zQ 7 ?_;refine ag.loop (fun mm fr st=>∃(i:Nat),fr.clean=⟨8,[e6 fr 0,.ptr k1 0 0,.bool false,e6 fr 3,e6 fr 4,.int .i64 (r:Nat),rV (bR p.code s),.int .i64 (i:Nat)],[]⟩∧Has s0.bs.length S st [.box k1 (.mem 0 false [p.cd,p.sd])]∧(i+mm=p.code.length)∧(o7 p r s i)) (p.code.length) ?_ ?_
     ·exact⟨0,rfl,hH,by omega,by intro pc q h;omega⟩
     rintro mm fr st ⟨i,hfr,hH,hj,hom⟩;rw[hfr];clear hfr;generalize e6 fr=ee;clear fr;refine zQ 6 ?_;refine qn ?_;simp only[γ];refine zQ 2 ?_;refine zP (fun h7=>?_) fun h7=>?_
     ·refine zQ 1 ?_
      obtain⟨b,hb⟩:∃b,(bR p.code s)[i]?=some b:=⟨(bR p.code s)[i]'(by omega),ε _⟩
      obtain⟨q,hq⟩:∃q,p.code[i]?=some q:=⟨p.code[i]'(by omega),ε _⟩
      have gw:=mb hb;have nB:=gM hq;refine zQ 3 ?_;refine ag.dM 92 (.bool ((b &&(q.op==7)) &&(q.x !=(r:Int)))) [] ?_ (fun ff tmp dj=>?_)
      ·refine zQ 2 ?_;refine qr fun p72 aad=>?_;refine zQ 2 ?_;refine ZD 74 rfl (fun iN=>?_) (fun iN=>?_)
       ·refine zQ 3 ?_;refine qr (fun p78 ac1=>?_) (hg:=wi iN);refine qf (fo:=0) (fun Ym Pm=>?_) (hg:=wi iN);refine zQ 4 ?_;refine ZD 83 rfl (fun gA=>?_) (fun gA=>?_)
        ·refine zQ 3 ?_;refine qr (fun p87 aab=>?_) (hg:=wi gA);refine qf (fo:=1) (fun p88 acX=>?_) (hg:=wi gA);refine zQ 4 ?_;refine ρ (aR ?_ ?_)
         ·dsimp only[aK,θ,nth,u2,u1]
          all_goals(first|rfl|simp)
         ·refine zF ?_
          all_goals(simp[iN,gA];done)
        ·refine zQ 9 ?_;refine ρ (aR ?_ ?_)
         ·dsimp only[aK,θ,nth,u2,u1]
          all_goals(first|rfl|simp)
         ·refine zF ?_
          all_goals(simp[iN,gA];done)
       ·refine zQ 18 ?_;refine ρ (aR ?_ ?_)
        ·dsimp only[aK,θ,nth,u2,u1]
         all_goals(first|rfl|simp)
        ·refine zF ?_
         all_goals(simp[iN];done)
      refine zG ?_;refine qc (fun h6=>?_) (fun h6=>?_)<;>try simp only[cs] at h6
      ·rw[dp (fun h=>by
        have h7:=h.fo r s nA i q (by omega);simp only[Θ,beq_iff_eq,bne_iff_ne,ne_eq] at h6;obtain⟨⟨rfl,h8⟩,h9⟩:=h6
        exact h9 (h7 hb hq h8))]
       refine zQ 4 ?_;refine ag.ret ⟨rx,_,rfl,rl aN hH (rfl)⟩
      ·refine zQ 6 ?_;refine⟨mm-1,by omega,⟨i+1,rfl,hH,by omega,?_⟩⟩;intro pc q' E8 sS sU jD
       by_cases he:pc=i
       ·subst he;rw[hq] at sU;cases sU;rw[hb] at sS;cases sS;simp[jD] at h6;exact h6
       ·exact hom pc q' (by omega) sS sU jD
     ·refine zQ 6 ?_;refine⟨p.ak.length-(r+1),by omega,⟨r+1,rfl,hH,by omega,?_⟩⟩;intro r' s' HV qG
      by_cases he:r'=r
      ·subst he;rw[nA] at qG;cases qG;exact fun pc q E8=>hom pc q (by omega)
      ·exact hfo r' s' (by omega) qG
    ·refine zQ 1 ?_;rw[b_ ⟨h0.1,h0.2,hsh,ba,fun r' s' qG=>hfo r' s' (by have:=bp qG;omega) qG⟩];refine zQ 4 ?_;refine ag.ret ⟨rx,_,rfl,rl aN hH (rfl)⟩
def xy:Nat→List Bool→List Int
 |_,[]=>[]
 |i,b::l=>(if b then[(i:Int)] else[])++xy (i+1) l
noncomputable def xe (p:Pg) (nS:Int):List Int:=if dec (bm p) &&my nS p.ak.length then xy 0 (bR p.code (p.ak.getD nS.toNat 0)) else[]
def ga (i:aP):aP:=⟨i.op,i.x,i.y,.sl ((i.rs.map aw).map (ml 2)),i.rs⟩
theorem Np (h:i.ok):(ga i).ok:=⟨dg.frozen (pY _) (fZ _),h.2⟩
def yG (q:aP):List D:=aJ (ga q)
structure fX where
 op:Int
 rd:D
 rs:List Rg
 mn:Int
 mx:Int
 lz:Bool
 cap:Int
 kids:Int
def ch (n:fX):List D:=[.int .i64 n.op,n.rd,.int .i64 n.mn,.int .i64 n.mx,.bool n.lz,.int .i64 n.cap,.int .i64 n.kids]
def fX.ok (n:fX):Prop:=dg n.rd 2 (n.rs.map aw)∧n.rs.length≤1048576∧n.kids≤9223372036854775807
structure Nl where
 d:D
 l:List fX
structure Nl.ok (x:Nl):Prop where
 c:dg x.d 7 (x.l.map ch)
 i:∀n∈x.l,n.ok
 nl:x.l.length≤1048576
theorem qF {l:List fX} {i:Nat} {q:fX} (h:l[i]?=some q):(l.map ch)[i]?=some (ch q):=by rw[Y',h];rfl
mutual
inductive Tr where
 |mk (n:fX) (ks:cN)
inductive cN where
 |nil
 |cons (t:Tr) (ts:cN)
end
def cN.len:cN→Nat
 | .nil=>0
 | .cons _ ts=>ts.len+1
mutual
def Tr.flat:Tr→List fX
 | .mk n ks=>n::ks.flat
def cN.flat:cN→List fX
 | .nil=>[]
 | .cons t ts=>t.flat++ts.flat
end
def DA (n:fX) (nk:Nat):Prop:=
 n.kids=(nk:Int)∧(((n.op=1∨n.op=7∨n.op=8)∧nk=0)∨(n.op=2∧nk=0)∨((n.op=3∨n.op=4)∧2≤nk)∨
  (n.op=5∧nk=1∧0≤n.mn∧n.mn≤30∧(n.mx=-1∨(n.mn≤n.mx∧n.mx≤30)))∨(n.op=6∧nk=1∧1≤n.cap∧n.cap≤4))
mutual
def Tr.ok:Tr→Prop
 | .mk n ks=>DA n ks.len∧ks.ok
def cN.ok:cN→Prop
 | .nil=>True
 | .cons t ts=>t.ok∧ts.ok
end
def cS (n:fX) (s k:Nat):Nat:=
 if n.op=2∨n.op=7∨n.op=8 then 1
 else if n.op=4 then s+2*(k-1)
 else if n.op=6 then s+2
 else if n.op=5 then(if n.mx=-1 then n.mn.toNat*s+s+2 else n.mn.toNat*s+(n.mx.toNat-n.mn.toNat)*(s+1))
 else s
mutual
def Tr.sz:Tr→Nat
 | .mk n ks=>cS n ks.sz ks.len
def cN.sz:cN→Nat
 | .nil=>0
 | .cons t ts=>t.sz+ts.sz
end
def eU (op x y:Int) (rs:List Rg):aP:=⟨op,x,y,.sl ((rs.map aw).map (ml 2)),rs⟩
def tU (s o:Nat) (lz:Bool):aP:=if lz=true then eU 2 (o:Nat) ((s+1:Nat):Int) [] else eU 2 ((s+1:Nat):Int) (o:Nat) []
def sK (e:Nat):aP:=eU 3 (e:Nat) 0 []
def i_ (c:Nat→List aP) (z:Nat):Nat→Nat→List aP
 |0,_=>[]
 |k+1,b=>c b++i_ c z k (b+z)
def iL (sp:Nat→aP) (c:Nat→List aP) (z:Nat):Nat→Nat→List aP
 |0,_=>[]
 |k+1,b=>sp b::(c (b+1)++iL sp c z k (b+1+z))
def Ds (z:Nat):Nat→Nat→List Nat
 |0,_=>[]
 |k+1,b=>b::Ds z k (b+1+z)
def t_ (n:fX) (c:Nat→List aP) (z b:Nat):List aP:=
 if n.mx=-1 then i_ c z n.mn.toNat b++(tU (b+n.mn.toNat*z) (b+n.mn.toNat*z+z+2) n.lz::(c (b+n.mn.toNat*z+1)++[sK (b+n.mn.toNat*z)]))
 else i_ c z n.mn.toNat b++iL (fun s=>tU s (b+n.mn.toNat*z+(n.mx.toNat-n.mn.toNat)*(z+1)) n.lz) c z (n.mx.toNat-n.mn.toNat) (b+n.mn.toNat*z)
mutual
def bk:Tr→Nat→List aP
 | .mk n ks,b=>
  if n.op=2 then[eU 1 0 0 n.rs]
  else if n.op=7 then[eU 5 0 0 []]
  else if n.op=8 then[eU 6 0 0 []]
  else if n.op=3 then jR ks b
  else if n.op=4 then ij (sK (b+cS n ks.sz ks.len)) ks b
  else if n.op=5 then t_ n (jR ks) ks.sz b
  else if n.op=6 then eU 4 (2*n.cap) 0 []::(jR ks (b+1)++[eU 4 (2*n.cap+1) 0 []])
  else[]
def jR:cN→Nat→List aP
 | .nil,_=>[]
 | .cons t ts,b=>bk t b++jR ts (b+t.sz)
def ij (jp:aP):cN→Nat→List aP
 | .nil,_=>[]
 | .cons t ts,b=>if ts.len=0 then bk t b else tU b (b+1+t.sz+1) false::(bk t (b+1)++jp::ij jp ts (b+t.sz+2))
end
def yU:cN→Nat→List Nat
 | .nil,_=>[]
 | .cons t ts,b=>if ts.len=0 then[] else(b+1+t.sz)::yU ts (b+t.sz+2)
theorem nh {c:Nat→List aP} {z:Nat} (hc:∀b,(c b).length=z):∀k b,(i_ c z k b).length=k*z
 |0,b=>by simp[i_]
 |k+1,b=>by rw[i_,δ,hc,nh hc k,P8];omega
theorem xq {sp:Nat→aP} {c:Nat→List aP} {z:Nat} (hc:∀b,(c b).length=z):∀k b,(iL sp c z k b).length=k*(z+1)
 |0,b=>by simp[iL]
 |k+1,b=>by rw[iL,ζ,δ,hc,xq hc k,P8];omega
theorem KV {n:fX} {c:Nat→List aP} {z b:Nat} (hc:∀b,(c b).length=z) (h:n.op=5):(t_ n c z b).length=cS n z 1:=by
 unfold t_ cS;rw[if_neg (show¬(n.op=2∨n.op=7∨n.op=8) by omega),if_neg (show¬n.op=4 by omega),if_neg (show¬n.op=6 by omega),if_pos h]
 split
 ·rw[δ,nh hc,ζ,δ,hc];simp only[ζ,ξ];omega
 ·rw[δ,nh hc,xq hc]
variable{ks:cN}
theorem cN.HN (h:ks.len=1):∃t,ks=.cons t .nil:=by
 cases ks with
 |nil=>simp[cN.len] at h
 |cons t ts=>cases ts with
  |nil=>exact⟨t,rfl⟩
  |cons u us=>simp[cN.len] at h
theorem cN.len_nil (h:ks.len=0):ks=.nil:=by
 cases ks with
 |nil=>rfl
 |cons t ts=>simp[cN.len] at h
mutual
theorem dZ:∀(t:Tr) (b:Nat),t.ok→(bk t b).length=t.sz
 | .mk n ks,b,h=>by
  simp only[Tr.ok] at h;obtain⟨h1,h2⟩:=h;have hc:=fun b=>tu ks b h2;have ha:=fun jp b=>yT jp ks b h2;simp only[bk,Tr.sz];obtain⟨_,⟨h3,h4⟩|⟨h3,h4⟩|⟨h3,h4⟩|⟨h3,h4,h5⟩|⟨h3,h4,h5⟩⟩:=h1
  ·have hk:=cN.len_nil h4;subst hk
   by_cases q7:n.op=7
   ·simp[q7,cS]
   ·by_cases q8:n.op=8
    ·simp[q8,cS]
    ·have q1:n.op=1:=by omega
     simp[q1,cS,cN.sz]
  ·simp[h3,cS]
  ·rcases h3 with h3|h3
   ·simp[h3,cS,hc]
   ·simp[h3,cS,ha]
  ·have:=KV (n:=n) (b:=b) hc h3;simp only[h3] at this⊢;simp only[show¬((5:Int)=2) by decide,show¬((5:Int)=7) by decide,show¬((5:Int)=8) by decide,show¬((5:Int)=3) by decide,show¬((5:Int)=4) by decide,if_false,if_true];rw[this,h4]
  ·simp[h3,cS,hc]
theorem tu:∀(ts:cN) (b:Nat),ts.ok→(jR ts b).length=ts.sz
 | .nil,b,_=>by simp[jR,cN.sz]
 | .cons t ts,b,h=>by
  simp only[cN.ok] at h;simp only[jR,cN.sz,δ];rw[dZ t b h.1,tu ts _ h.2]
theorem yT (jp:aP):∀(ts:cN) (b:Nat),ts.ok→(ij jp ts b).length=ts.sz+2*(ts.len-1)
 | .nil,b,_=>by simp[ij,cN.sz,cN.len]
 | .cons t ts,b,h=>by
  simp only[cN.ok] at h;have h1:=yT jp ts (b+t.sz+2) h.2;simp only[ij,cN.sz,cN.len]
  by_cases q:ts.len=0
  ·rw[if_pos q,dZ t b h.1,q];have:=cN.len_nil q;subst this;simp[cN.sz]
  ·rw[if_neg q,ζ,δ,ζ,dZ t _ h.1,h1];omega
end
def lT (f:Nat→aP) (c:List aP) (l:List Nat):List aP:=l.foldl (fun c j=>c.set j (f j)) c
theorem wc {α:Type} (pre post:List α) (x y:α):(pre++x::post).set pre.length y=pre++y::post:=by
 rw[List.set_append_right _ _ (υ _),OF];rfl
theorem wA {α:Type} (pre post:List α) (x:α):(pre++x::post)[pre.length]?=some x:=by
 rw[List.getElem?_append_right (υ _),OF];rfl
theorem uj {sp:Nat→aP} {c:Nat→List aP} {z:Nat} (hc:∀b,(c b).length=z) {i0:aP}:∀(k b:Nat) (pre post:List aP),pre.length=b→lT sp (pre++iL (fun _=>i0) c z k b++post) (Ds z k b)=pre++iL sp c z k b++post∧∀j∈Ds z k b,(pre++iL (fun _=>i0) c z k b++post)[j]?=some i0
 |0,b,pre,post,_=>⟨rfl,fun j hj=>by cases hj⟩
 |k+1,b,pre,post,h=>by
  have ih:=uj (sp:=sp) hc (i0:=i0) k (b+1+z) (pre++i0::c (b+1)) post (by rw[δ,ζ,hc];omega);have HT:=uj (sp:=sp) hc (i0:=i0) k (b+1+z) (pre++sp b::c (b+1)) post (by rw[δ,ζ,hc];omega);simp only[iL,Ds];have e:pre++i0::(c (b+1)++iL (fun _=>i0) c z k (b+1+z))++post=pre++i0::(c (b+1)++iL (fun _=>i0) c z k (b+1+z)++post):=by simp
  have e2:pre++i0::c (b+1)++iL (fun _=>i0) c z k (b+1+z)++post=pre++i0::(c (b+1)++iL (fun _=>i0) c z k (b+1+z)++post):=by simp
  refine⟨?_,fun j hj=>?_⟩
  ·unfold lT at HT⊢;rw[ς,e]
   have hs:(pre++i0::(c (b+1)++iL (fun _=>i0) c z k (b+1+z)++post)).set b (sp b)=pre++sp b::c (b+1)++iL (fun _=>i0) c z k (b+1+z)++post:=by
    rw[←h,wc];simp
   rw[hs,HT.1];simp
  ·rw[e]
   rcases μ.1 hj with rfl|hj
   ·rw[←h];exact wA _ _ _
   ·rw[←e2];exact ih.2 j hj
theorem uV {jp i0:aP}:∀(ts:cN) (b:Nat) (pre post:List aP),ts.ok→pre.length=b→lT (fun _=>jp) (pre++ij i0 ts b++post) (yU ts b)=pre++ij jp ts b++post∧∀j∈yU ts b,(pre++ij i0 ts b++post)[j]?=some i0
 | .nil,b,pre,post,_,_=>⟨by simp[ij,yU,lT],fun j hj=>by simp[yU] at hj⟩
 | .cons t ts,b,pre,post,ba,h=>by
  simp only[cN.ok] at ba
  by_cases q:ts.len=0
  ·simp only[ij,yU,if_pos q];exact⟨rfl,fun j hj=>by cases hj⟩
  ·simp only[ij,yU,if_neg q];generalize tU b (b+1+t.sz+1) false=sp;have hcl:=dZ t (b+1) ba.1;have ih:=uV (jp:=jp) (i0:=i0) ts (b+t.sz+2) (pre++sp::(bk t (b+1)++[i0])) post ba.2 (by simp only[δ,ζ,ξ,hcl];omega);have HT:=uV (jp:=jp) (i0:=i0) ts (b+t.sz+2) (pre++sp::(bk t (b+1)++[jp])) post ba.2 (by simp only[δ,ζ,ξ,hcl];omega);generalize ij i0 ts (b+t.sz+2)=A at*;have e:pre++sp::(bk t (b+1)++i0::A)++post=(pre++sp::bk t (b+1))++i0::(A++post):=by simp
   have hl:(pre++sp::bk t (b+1)).length=b+1+t.sz:=by simp only[δ,ζ,hcl];omega
   refine⟨?_,fun j hj=>?_⟩
   ·unfold lT at HT⊢;rw[ς,e,←hl,wc];have:=HT.1;simp only[Γ,YH,Cr] at this⊢;exact this
   ·rw[e]
    rcases μ.1 hj with rfl|hj
    ·rw[←hl];exact wA _ _ _
    ·have:=ih.2 j hj;simp only[Γ,YH,Cr] at this⊢;exact this
def jC {α:Type} (L:List α) (at_:Nat) (M:List α):Prop:=∃post,L.drop at_=M++post
theorem jC.head {α:Type} {L M:List α} {a:α} {at_:Nat} (h:jC L at_ (a::M)):L[at_]?=some a:=by
 obtain⟨post,h⟩:=h;have:=congrArg (·[0]?) h
 simpa using this
theorem jC.tail {α:Type} {L M:List α} {a:α} {at_:Nat} (h:jC L at_ (a::M)):jC L (at_+1) M:=by
 obtain⟨post,h⟩:=h;refine⟨post,?_⟩;rw[←IN,h];rfl
theorem jC.left {α:Type} {L M M':List α} {at_:Nat} (h:jC L at_ (M++M')):jC L at_ M:=by
 obtain⟨post,h⟩:=h;exact⟨M'++post,by rw[h,Γ]⟩
theorem jC.right {α:Type} {L M M':List α} {at_:Nat} (h:jC L at_ (M++M')):jC L (at_+M.length) M':=by
 obtain⟨post,h⟩:=h;refine⟨post,?_⟩;rw[←IN,h,Γ,List.drop_left]
theorem jC.le {α:Type} {L M:List α} {at_:Nat} (h:jC L at_ M) (hM:M≠[]):at_+M.length≤L.length:=by
 obtain⟨post,h⟩:=h;have:=congrArg LL h;simp only[JS,δ] at this
 have:0<M.length:=by cases M with|nil=>exact absurd rfl hM|cons _ _=>simp
 omega
theorem jC.all {α:Type} (L:List α):jC L 0 L:=⟨[],by simp⟩
mutual
def Tr.zs:Tr→List Int
 | .mk n ks=>((min (cS n ks.sz ks.len) 401:Nat):Int)::ks.zs
def cN.zs:cN→List Int
 | .nil=>[]
 | .cons t ts=>t.zs++ts.zs
end
mutual
def Tr.es:Tr→Nat→List Int
 | .mk n ks,at_=>((at_+1+ks.flat.length:Nat):Int)::ks.es (at_+1)
def cN.es:cN→Nat→List Int
 | .nil,_=>[]
 | .cons t ts,at_=>t.es at_++ts.es (at_+t.flat.length)
end
mutual
theorem Tr.mI:∀t:Tr,t.zs.length=t.flat.length
 | .mk n ks=>by simp[Tr.zs,Tr.flat,cN.mI ks]
theorem cN.mI:∀ts:cN,ts.zs.length=ts.flat.length
 | .nil=>rfl
 | .cons t ts=>by simp[cN.zs,cN.flat,Tr.mI t,cN.mI ts]
end
mutual
theorem Tr.mR:∀(t:Tr) (a:Nat),(t.es a).length=t.flat.length
 | .mk n ks,a=>by simp[Tr.es,Tr.flat,cN.mR ks]
theorem cN.mR:∀(ts:cN) (a:Nat),(ts.es a).length=ts.flat.length
 | .nil,_=>rfl
 | .cons t ts,a=>by simp[cN.es,cN.flat,Tr.mR t,cN.mR ts]
end
theorem Tr.l7 (t:Tr):0<t.flat.length:=by cases t;simp[Tr.flat]
theorem cN.pj:∀ts:cN,ts.len≤ts.flat.length
 | .nil=>υ _
 | .cons t ts=>by
  have h1:=cN.pj ts;have h2:=t.l7;simp only[cN.len,cN.flat,δ];omega
end Go.Proofs.YtecjacicdpejaaaGreat
namespace Go.V
variable{N:Nat} {S st:St} {H:List bo}
theorem dN.at_ {α β:Type} {R:α→β→Prop}:∀{l:List α} {m:List β} {i:Nat} {b:β},dN R l m→m[i]?=some b→∃a,l[i]?=some a∧R a b
 |_,_,_,_,.nil,h=>by simp at h
 |_,_,0,_,.cons a t,h=>by simp only[π,Φ.injEq] at h;subst h;exact⟨_,rfl,a⟩
 |_,_,i+1,_,.cons a t,h=>by simp only[ki] at h⊢;exact t.at_ h
theorem dN.set {α β:Type} {R:α→β→Prop} {a:α} {b:β} (r:R a b):∀{l:List α} {m:List β} (i:Nat),dN R l m→dN R (l.set i a) (m.set i b)
 |_,_,_,.nil=>.nil
 |_,_,0,.cons _ t=>.cons r t
 |_,_,i+1,.cons h t=>.cons h (t.set r i)
theorem dN.setMany {R:D→D→Prop}:∀{xs ys:List D} {c d:List D} (o:Nat),dN R xs ys→dN R c d→dN R (setMany c o xs) (setMany d o ys)
 |_,_,_,_,_,.nil,h=>h
 |_,_,_,_,o,.cons r t,h=>by simp only[Go.V.setMany];exact t.setMany (o+1) (h.set r o)
theorem dN.same {R:D→D→Prop}:∀{l:List D},(∀d∈l,R d d)→dN R l l
 |[],_=>.nil
 |d::l,h=>.cons (h d (Zt ..)) (dN.same fun x hx=>h x (Q5 _ hx))
variable{j s:Nat}{x:D}{ks:Nat→Prop}{vs:List (List D)}
theorem Has.X_ (hH:Has N S st H) (hj:H[j]?=some (.deep ks x s vs)):∃es,Rows st s x es∧es.length=vs.length:=by
 obtain⟨⟨es,h1,h2⟩,_⟩:=(hH.ok j _ hj).1;exact⟨es,h1.rows,h2.len⟩
variable{k aE off i o:Nat}{cs:List D}
theorem Has.acd {len:Nat} {v:List D} (h:Has N S st H) (hj:H[j]?=some (.deep ks (.win k aE off len s) s vs)) (hi:vs[i]?=some v) (hl:o+cs.length≤s) (hp:∀d∈cs,dh d=true) (hw:S.flr≤N∨refs cs=0):
  ∃ai,st.wr k aE (off+i*s+o) cs=some ai∧Has N S ai (H.set j (.deep ks (.win k aE off len s) s (vs.set i (setMany v o cs)))):=by
 obtain⟨⟨es,jY,y_⟩,he3⟩:=(h.ok j _ hj).1;have hK:=(h.ok j _ hj).2;obtain⟨e,hei,ax⟩:=y_.at_ hi
 have za:Has N S st [.aF (.win k aE off len s) s es]:=by
  refine⟨h.ex,h.hN,h.du,fun i e hi=>?_,fun i i' a b hii ha hb k sX kQ=>?_⟩
  ·cases i with
   |zero=>simp only[π,Φ.injEq] at hi;subst hi;exact⟨jY,fun k hk=>hK k (.inl hk)⟩
   |succ i=>simp at hi
  ·cases i with
   |zero=>cases i' with
    |zero=>exact hii rfl
    |succ i'=>simp at hb
   |succ i=>simp at ha
 obtain⟨ai,q1,q2⟩:=za.Hq (j:=0) aB hei hl hw;refine⟨ai,q1,?_⟩;have hown:=q2.own (j:=0) aB
 have V2:(∀n,n≠k→ai.bs[n]?=st.bs[n]?)∧st.bs.length=ai.bs.length∧ai.flr=st.flr∧ai.ro=st.ro:=by
  unfold St.wr at q1
  split at q1
  ·split at q1
   ·cases q1;exact⟨fun n hn=>by simp only;rw[List.getElem?_set_ne (fun e=>hn e.symm)],by simp,rfl,rfl⟩
   ·cases q1
  ·cases q1
 obtain⟨c1,c2,c3,c4⟩:=V2;have hkk:=hK k (.inl (by simp only[BY]));have hne:∀n,ks n→n≠k:=fun n hn e=>he3 k (by simp only[BY]) (e▸hn);have vz:∀n,ks n→ai.bs[n]?=st.bs[n]?:=fun n hn=>c1 n (hne n hn);refine h.Fc hj (fun n hn hnot=>c1 n fun e=>hnot (.inl (by simp only[BY];omega))) (Nat.le_of_eq c2) c3 c4 ⟨⟨_,hown,?_⟩,he3⟩ (fun n hn=>.inl hn) fun n hn=>?_
 ·refine dN.set ?_ i (y_.mono fun a b=>dN.mono fun c d=>gb.move vz);exact(dN.same fun d hd=>.plain d (hp d hd)).setMany o (ax.mono fun c d=>gb.move vz)
 ·rw[←c2];exact(hK n hn).2
variable{P:Pv} {ops:Array Oper} {rest:List Oper} {fr aM:Fr} {Q:Fr→St→Prop} {ty:TypeId} {pp:String} {a:Array Edge} {g:Option (Nat×Bool)} {dst:Nat}
variable{xo:Operand}
theorem ab.JQ {t e:TypeId} (hH:Has N S st H) (hg:aH ops fr ⟨some dst,.call ⟨.builtin .len,#[xo],#[t]⟩,ty,pp,a,g⟩=some true) (hx:fr.ev xo=x) (hj:H[j]?=some (.deep ks x s vs)) (ht:P.db t=some (.slice e)) (hp:fr.put dst (.int .i64 (vs.length:Nat))=aM) (h:ab P ops rest aM st Q):ab P ops (⟨some dst,.call ⟨.builtin .len,#[xo],#[t]⟩,ty,pp,a,g⟩::rest) fr st Q:=by
 obtain⟨es,h1,h2⟩:=hH.X_ hj;exact ab.kW hg hx h1 ht (by rw[h2];exact hp) h
theorem ab.Nf {t e:TypeId} {io:Operand} {kk:IntKind} {aM:D→Fr} (hH:Has N S st H) (hg:aH ops fr ⟨some dst,.indexAddr t xo io,ty,pp,a,g⟩=some true) (hx:fr.ev xo=x) (hi:fr.ev io=.int kk (i:Nat)) (hj:H[j]?=some (.deep ks x s vs)) (ht:P.db t=some (.slice e)) (hs:c9 P e=some s) (hr:i<vs.length) (hp:∀p,fr.put dst p=aM p) (h:∀p,vU x s i 0 p→ab P ops rest (aM p) st Q):ab P ops (⟨some dst,.indexAddr t xo io,ty,pp,a,g⟩::rest) fr st Q:=by
 obtain⟨⟨es,jY,y_⟩,he3⟩:=(hH.ok j _ hj).1;have hlen:=y_.len
 cases jY with
 |nul=>simp at hlen;omega
 |win k aE off es c hm hl hc he=>
  refine IT hg rfl (d:=.ptr k aE (off+i*s)) (st1:=st) ?_ (hp _) (h _ ⟨k,aE,off,_,rfl,rfl⟩);simp only[eS,hx,hi,cJ,ht,hs,Bv,St.mem_of hm,Option.isSome_some];rw[if_pos ⟨trivial,by omega,by omega,trivial⟩];rfl
theorem ab.yE {t:TypeId} {ao vo:Operand} {y v:D} {r:List D} (hH:Has N S st H) (hg:aH ops fr ⟨none,.store t ao vo,ty,pp,a,g⟩=some true) (ha:fr.ev ao=y) (hv:fr.ev vo=v) (hR:vU x s i o y) (kZ:v.cells?=some cs) (hs:c9 P t=some cs.length) (hj:H[j]?=some (.deep ks x s vs)) (hr:vs[i]?=some r) (hl:o+cs.length≤s) (hq:∀d∈cs,dh d=true) (hw:S.flr≤N∨refs cs=0) (h:∀ai,Has N S ai (H.set j (.deep ks x s (vs.set i (setMany r o cs))))→ab P ops rest fr ai Q):ab P ops (⟨none,.store t ao vo,ty,pp,a,g⟩::rest) fr st Q:=by
 obtain⟨k,aE,off,len,rfl,rfl⟩:=hR;obtain⟨ai,h1,h2⟩:=hH.acd hj hr hl hq hw;refine ab.N hg rfl (d:=.tup []) (st1:=ai) ?_ (h _ h2);simp only[eS,ha,hv,mK,kZ,hs,if_pos trivial,h1];rfl
variable{dy:Dy}
theorem ag.Th {l:List Oper} {d n loc tmp st} {Q:Out→Fr→St→Prop} (ws:List Nat) (F:(Nat→D)→Prop) (h1:ab P l.toArray l ⟨n,loc,[]⟩ st fun aM ai=>∃f tmp,aM=⟨n,aK loc ws f,tmp⟩∧ai=st∧F f) (h2:∀f tmp,F f→Q .next ⟨n,aK loc ws f,tmp⟩ st) (h0:kf i dy=[]:=by rfl):ag P dy (.region i l.toArray d) ⟨n,loc,tmp⟩ st Q:=by
 refine ag.cT ?_ h0;unfold ab at h1⊢;obtain⟨aM,ai,h3,f,Q9,rfl,rfl,h4⟩:=h1;exact⟨_,_,h3,h2 _ _ h4⟩
theorem pk {n:Nat} {L loc:List D} {Bh:List (Nat×D)} {ws:List Nat} {F:(Nat→D)→Prop} {st:St} (h:L=aK loc ws (fun k=>nth .bI L k)) (h2:F (fun k=>nth .bI L k)):∃(f:Nat→D) (tmp:List (Nat×D)),(⟨n,L,Bh⟩:Fr)=⟨n,aK loc ws f,tmp⟩∧st=st∧F f:=⟨_,Bh,by rw[←h],rfl,h2⟩
theorem ab.Uq {t1 t2:TypeId} {yo:Operand} {x y z:Int} (hg:aH ops fr ⟨some dst,.call ⟨.builtin .min,#[xo,yo],#[t1,t2]⟩,ty,pp,a,g⟩=some true) (hx:fr.ev xo=.int .i64 x) (hy:fr.ev yo=.int .i64 y) (hz:min x y=z) (hp:fr.put dst (.int .i64 z)=aM) (h:ab P ops rest aM st Q):ab P ops (⟨some dst,.call ⟨.builtin .min,#[xo,yo],#[t1,t2]⟩,ty,pp,a,g⟩::rest) fr st Q:=
 ab.LG (t1:=t1) (t2:=t2) hg hx hy (by rw[hz];exact hp) h
variable{s0 S2 st2:St}
theorem Has.DQ {N:Nat} {S:St} {H:List bo} {es es':List (List D)} (h:Has N S s0 (.aF x s es::H)) (hS:S2.bs=s0.bs) (h2:Has N S2 st2 (.aF x s es'::H)):Has N S ⟨st2.bs.take s0.bs.length,s0.flr,s0.ro⟩ (.aF x s es'::H):=by
 refine h.BT hS h2 fun i e hi=>?_
 cases i with
 |zero=>simp only[π,Φ.injEq] at hi;subst hi;exact⟨_,rfl,fun k hk=>hk⟩
 |succ i=>exact⟨e,hi,fun k hk=>hk⟩
theorem Has.DR {N:Nat} {S:St} {H:List bo} {b b':lu} {T4:List (List D)} (h:Has N S s0 (.box k b::.deep ks x s vs::H)) (hS:S2.bs=s0.bs) (h2:Has N S2 st2 (.box k b'::.deep ks x s T4::H)):Has N S ⟨st2.bs.take s0.bs.length,s0.flr,s0.ro⟩ (.box k b'::.deep ks x s T4::H):=by
 refine h.BT hS h2 fun i e hi=>?_
 match i with
 |0=>simp only[π,Φ.injEq] at hi;subst hi;exact⟨_,rfl,fun k hk=>hk⟩
 |1=>simp only[ki,π,Φ.injEq] at hi;subst hi;exact⟨_,rfl,fun k hk=>hk⟩
 |i+2=>exact⟨e,hi,fun k hk=>hk⟩
theorem Has.OK {N:Nat} {S st:St} {H:List bo} {a b c d e:bo} (h:Has N S st (a::b::c::d::e::H)):Has N S st (b::c::d::e::a::H):=by
 refine h.sub (fun i=>if i=4 then 0 else if i<4 then i+1 else i) (fun i j hij=>?_) (fun i x hi=>?_)
 ·(try simp only at hij)
  split at hij<;>split at hij<;>(try split at hij)<;>(try split at hij)<;>omega
 ·match i,hi with
  |0,hi=>exact hi
  |1,hi=>exact hi
  |2,hi=>exact hi
  |3,hi=>exact hi
  |4,hi=>exact hi
  |i+5,hi=>
   have h1:¬(i+5=4):=by omega
   have h2:¬(i+5<4):=by omega
   simp only[if_neg h1,if_neg h2];exact hi
theorem Has.pX {fr:Fr} {a u u2:Nat} {t:TypeId} {ar:Bool} {c:List D} {d e e2:D} (hH:Has N S st H) (ha:fr.get a=.ptr k aE off) (hj:H[j]?=some (.box k (.mem aE ar c))) (hd:fx P t (c.drop off)=some d) (he:fr.get u=e) (y_:fr.get u2=e2):nT P fr st [.cell a t,.tmp u,.tmp u2]=some [d,e,e2]:=by
 simp only[nT,j6,ha,St.mem_of (hH.at hj),Bv,hd,Option.map_some,he,y_]
theorem ag.jI {c1 c2:Code} {fr:Fr} {st:St} {Q:Out→Fr→St→Prop} (M:Fr→St→Prop) (h1:ag P dy c1 fr st (aZ P dy c2 (NR M Q))) (h2:∀aM ai,M aM ai→Q .next aM ai):ag P dy c1 fr st (aZ P dy c2 Q):=
 h1.mono fun o aM ai h=>by
  cases o with
  |next=>exact ag.merge M h h2
  |exit i=>exact h
  |ret=>exact h
end Go.V
namespace Go.Proofs.YtecjacicdpejaaaGreat
open Go.V Go
def F7 (fr:Go.V.Fr) (k:Nat):Go.V.D:=Go.V.nth .bI fr.loc k
variable{st:St}{L n k:Nat}
theorem JK {kn:Bool} {aE off len s:Nat}:bA st L kn n (.win k aE off len s)=bA st L false n (.win k aE off len s):=by
 cases n<;>rfl
theorem JI (l:List Rg):(l.map aw).map (·.map rS)=l.map aw:=by
 rw[IS];rfl
theorem Fg (l:List Rg):∀e∈l.map aw,∀d∈e,oU d=true:=by
 intro e he d hd;obtain⟨x,_,rfl⟩:=VQ.1 he;simp only[aw,μ,κ,or_false] at hd
 rcases hd with rfl|rfl<;>rfl
variable{N j:Nat}{S:St}{H:List bo}{x:D}
theorem vB {l:List Rg} (hH:Has N S st H) (hj:H[j]?=some (.aF x 2 (l.map aw))) (hx:∀k,x.ref=k+1→L≤k) (hn:3≤n):bA st L false n x=some (cC l):=by
 rw[hH.qJ hj hx (Fg l) hn,JI,kc]
def Ye (gs:List (Nat×Nat)) (s s':iV) (d1:D) (b:Bool):Prop:=
 NQ gs s s' d1 b∨(s'=s∧d1=.nul∧b=false)
variable{s:iV}{s0:St}{gs:List (Nat×Nat)}{cU:D}{dt:List Int}
theorem HA (ba:pP gs dt) (he:s.e=0) (hi:s.i<gs.length) (hH:Has N S s0 (.box k (.mem 0 false (bt gs cU s))::.aF cU 1 (dt.map az)::H)):
  ∃d ai,Ev pv 306 [.ptr k 0 0] s0 d ai∧∃(d1:D) (b:Bool) (s':iV),d=.tup [d1,.bool b]∧Ye gs s s' d1 b∧Has N S ai (.box k (.mem 0 false (bt gs cU s'))::.aF cU 1 (dt.map az)::H):=by
 have yh:=ba.gl;have fT:=ba.pl;refine Ev.eN rfl Wt rfl rfl rfl ?_;refine zE ?_;have cj:=hH;have hH:=hH.bE;have bV:(ae .rw s0).bs=s0.bs:=rfl;generalize ae .rw s0=S2 at*;have PE:Arg N S2 2 (gY gs) (gs.map bD):=Arg.pure (fun st=>gC st gs)
 obtain⟨g,hg⟩:∃g,gs[s.i]?=some g:=⟨gs[s.i]'hi,ε _⟩
 have gw:(gs.map bD)[s.i]?=some (bD g):=by rw[Y',hg];rfl
 refine zQ 13 ?_;obtain⟨_,st,ax,rfl,hH⟩:=GZ (s:=s) s.i hi hH;refine qv ax ?_;refine zQ 1 ?_;refine qc (fun hb=>?_) (fun hb=>?_)<;>try simp only[cs] at hb
 ·refine zQ 7 ?_;obtain⟨_,st,ax,rfl,hH⟩:=fk (s:=s) s.i 4 (by omega) hH;refine qv ax ?_;refine zQ 6 ?_;obtain⟨h1,h2,h3,h4⟩:=fL (dt:=dt) (s:=s) (i:=s.i) (e:=4) he (by decide);refine ag.ret ⟨rx,_,_,_,rfl,aj (rfl),?_⟩;exact⟨_,_,_,rfl,.inl ⟨h3,h4,by rw[h2];exact υ _,by rw[h2];omega,.inl rfl,.inl h1⟩,cj.aq bV hH⟩
 ·refine zQ 11 ?_;refine qr fun Ro Gd=>?_;refine qf (fo:=0) fun p26 Vm=>?_;refine zQ 13 ?_;refine zI (fun q1=>?_) fun q1=>?_
  ·refine zQ 3 ?_;obtain⟨_,st,ax,d1,b,s',rfl,hP,hH⟩:=Hm (s:=s) ba he hi hH;refine qv ax ?_;refine zQ 5 ?_
   rcases hP.2.2.2.2.1 with rfl|⟨a,rfl,_⟩
   ·refine ag.ret ⟨rx,_,_,_,rfl,aj (rfl),?_⟩;exact⟨_,_,_,rfl,.inl hP,cj.aq bV hH⟩
   ·refine ag.ret ⟨rx,_,_,_,rfl,aj (rfl),?_⟩;exact⟨_,_,_,rfl,.inl hP,cj.aq bV hH⟩
  ·refine zQ 6 ?_
   by_cases T_:((g.1:Nat):Int)=91
   ·refine qD rfl (by simp[T_]) ?_;refine zQ 1 ?_;refine qD rfl (by simp[T_]) ?_;refine zQ 5 ?_;refine ag.ret ⟨rx,_,_,_,rfl,aj (rfl),?_⟩;exact⟨_,_,_,rfl,.inr ⟨rfl,rfl,rfl⟩,cj.aq bV hH⟩
   refine qE rfl (by simp[T_]) ?_;refine zQ 5 ?_
   by_cases Y9:((g.1:Nat):Int)=93
   ·refine qD rfl (by simp[Y9]) ?_;refine zQ 1 ?_;refine qD rfl (by simp[Y9]) ?_;refine zQ 5 ?_;refine ag.ret ⟨rx,_,_,_,rfl,aj (rfl),?_⟩;exact⟨_,_,_,rfl,.inr ⟨rfl,rfl,rfl⟩,cj.aq bV hH⟩
   refine qE rfl (by simp[Y9]) ?_;refine zQ 4 ?_
   by_cases q45:((g.1:Nat):Int)=45
   ·refine qD rfl (by simp[q45]) ?_;refine zQ 5 ?_;refine ag.ret ⟨rx,_,_,_,rfl,aj (rfl),?_⟩;exact⟨_,_,_,rfl,.inr ⟨rfl,rfl,rfl⟩,cj.aq bV hH⟩
   refine qE rfl (by simp[q45]) ?_;refine zQ 9 ?_;refine qT hH aB fun st hH=>?_;dsimp only[u2,u1,u3,u4,setMany,u5,u6,τ,ν,bt,bD,az,aw] at hH;refine zQ 5 ?_;refine Pe (qs:=[(0,_),(1,_)]) rfl rfl rfl rfl ⟨rfl,(ev rfl),(by rfl),rfl,(ev rfl),(by rfl),trivial⟩ (by intro q hq;simp only[μ,κ,or_false] at hq;rcases hq with rfl|rfl<;>exact⟨rfl,by exact η rfl⟩) (by show θ _ [_,_] _=_;dsimp only[ς,Ω,u2,u1]<;>rfl) (aa rfl _) ?_;refine qh (s:=2) (vs:=[_]) hH fun k39 st adv hH=>?_;refine zQ 3 ?_;have hH:Has N S2 st (.aF (.win k39 0 0 1 2) 2 (([((g.1:Nat),(g.1:Nat))]:List Rg).map aw)::.box k (.mem 0 false (bt gs cU {s with i:=s.i+1}))::.aF cU 1 (dt.map az)::H):=hH;have hfz:=vB hH aB (L:=s0.bs.length) (n:=15) (fun k hk=>by simp only[BY] at hk;rw[←bV];omega) (by decide)
   have aaI:bA st s0.bs.length true 16 (zc [.win k39 0 0 1 2,.bool true])=some (.tup [cC [(((g.1:Nat):Int),((g.1:Nat):Int))],.bool true]):=by
    show(jZ (bA st s0.bs.length true 15) [.win k39 0 0 1 2,.bool true]).map D.tup=_;simp only[jZ,JK,hfz];rfl
   refine ag.ret ⟨rx,_,_,_,rfl,aj aaI,⟨_,_,{s with i:=s.i+1},rfl,.inl ⟨rfl,rfl,?_,?_,.inr ⟨_,rfl,by simp⟩,.inr ⟨he,?_,_,rfl,?_,?_⟩⟩,cj.aq bV (hH.drop 1)⟩⟩
   ·show s.i≤s.i+1;omega
   ·show s.i+1≤_;omega
   ·show s.i<s.i+1;omega
   ·simp
   ·simp
def Yg (gs:List (Nat×Nat)) (s s':iV) (d:D):Prop:=
 s'.o=s.o∧s'.g=s.g∧s.i≤s'.i∧s'.i≤gs.length∧∃a:List Rg,d=cC a∧a.length≤8∧(s'.e≠0∨s'.e=0∧s.i<s'.i)
theorem kU {r:Int}:(eW gs s r).o=s.o∧(eW gs s r).g=s.g∧(eW gs s r).e=s.e∧s.i≤(eW gs s r).i∧(s.i≤gs.length→(eW gs s r).i≤gs.length):=by
 unfold eW
 split
 ·rename_i h;have:=x0 h;exact⟨rfl,rfl,rfl,by show s.i≤s.i+1;omega,fun _=>by show s.i+1≤_;omega⟩
 ·exact⟨rfl,rfl,rfl,υ _,fun h=>h⟩
theorem O7 (ba:pP gs dt) (he:s.e=0) (hi:s.i<gs.length) (hH:Has N S s0 (.box k (.mem 0 false (bt gs cU s))::.aF cU 1 (dt.map az)::H)):
  ∃d ai,Ev pv 286 [.ptr k 0 0] s0 d ai∧∃(s':iV),Yg gs s s' d∧Has N S ai (.box k (.mem 0 false (bt gs cU s'))::.aF cU 1 (dt.map az)::H):=by
 have yh:=ba.gl;have fT:=ba.pl;refine Ev.eN rfl Ww rfl rfl rfl ?_;refine zE ?_;have cj:=hH;have hH:=hH.bE;have bV:(ae .rw s0).bs=s0.bs:=rfl;generalize ae .rw s0=S2 at*;have PE:Arg N S2 2 (gY gs) (gs.map bD):=Arg.pure (fun st=>gC st gs);refine zQ 15 ?_;obtain⟨_,st,ax,d1,b,s1,rfl,hP,hH⟩:=HA (s:=s) ba he hi hH;refine qv ax ?_;refine zQ 15 ?_
 rcases hP with hP|⟨e1,rfl,rfl⟩
 ·obtain⟨p1,p2,p3,p4,p5,p6⟩:=hP
  rcases p6 with p6|⟨p6,p7,a,rfl,p8,p9⟩
  ·refine qD rfl (by simp[p6]) ?_;refine zQ 4 ?_;refine ag.ret ⟨rx,_,_,_,rfl,aj (rfl),?_⟩;exact⟨s1,⟨p1,p2,p3,p4,[],rfl,by simp,.inl p6⟩,cj.aq bV hH⟩
  ·obtain⟨q,a',rfl⟩:∃q a',a=q::a':=xw p9;refine qE rfl (by simp[p6]) ?_;refine zQ 5 ?_;refine IT (d:=.bool false) (st1:=_) rfl rfl rfl (aa rfl _) ?_;refine zQ 3 ?_;obtain⟨k1,k2,k3,k4,k5⟩:=kU (gs:=gs) (s:=s1) (r:=45);have k5:=k5 p4;refine zQ 4 ?_;obtain⟨_,st,ax,rfl,hH⟩:=gI (s:=s1) (by omega) 45 hH;refine qv ax ?_;refine zQ 2 ?_;generalize eW gs s1 45=s2 at*
   cases hb:nL gs s1.i 45 with
   |false=>
    refine zQ 6 ?_;refine ag.ret ⟨rx,_,_,_,rfl,aj (rfl),?_⟩;exact⟨s2,⟨k1.trans p1,k2.trans p2,by omega,k5,q::a',rfl,p8,.inr ⟨k3.trans p6,by omega⟩⟩,cj.aq bV hH⟩
   |true=>
    refine zQ 21 ?_;refine qn ?_;simp only[γ];refine zQ 2 ?_;refine ag.merge (fun fr st=>∃(d2:D) (two:Bool) (s3:iV) (tmp:List (Nat×D)),fr=⟨8,[.ptr k 0 0,F7 fr 1,F7 fr 2,.int .i64 (s.i:Nat),cC (q::a'),.bool b,d2,.bool two],tmp⟩∧Has N S2 st (.box k (.mem 0 false (bt gs cU s3))::.aF cU 1 (dt.map az)::H)∧(s3.o=s.o)∧(s3.g=s.g)∧(s2.i≤s3.i)∧(s3.i≤gs.length)∧(s3.e≠0∨s3.e=0∧(two=false∨∃a2:List Rg,d2=cC a2∧a2≠[]))) ?_ ?_
    ·refine zP (fun hlt=>?_) fun hlt=>?_
     ·refine zQ 2 ?_;obtain⟨_,st,ax,d2,two,s3,rfl,hP2,hH⟩:=HA (s:=s2) ba (k3.trans p6) (by omega) hH;refine qv ax ?_;refine zQ 6 ?_
      rcases hP2 with⟨r1,r2,r3,r4,r5,r6⟩|⟨e1,rfl,rfl⟩
      ·refine⟨d2,two,s3,_,rfl,hH,r1.trans (k1.trans p1),r2.trans (k2.trans p2),r3,r4,?_⟩
       rcases r6 with r6|⟨r6,r7,a2,rfl,r8,r9⟩
       ·exact .inl r6
       ·refine .inr ⟨r6,?_⟩
        cases two with
        |false=>exact .inl rfl
        |true=>exact .inr ⟨a2,rfl,r9⟩
      ·exact⟨.nul,false,s3,_,rfl,hH,by rw[e1];exact k1.trans p1,by rw[e1];exact k2.trans p2,by rw[e1];exact υ _,by rw[e1];exact k5,.inr ⟨by rw[e1];exact k3.trans p6,.inl rfl⟩⟩
     ·refine zQ 1 ?_;exact⟨.nul,false,s2,_,rfl,hH,k1.trans p1,k2.trans p2,υ _,k5,.inr ⟨k3.trans p6,.inl rfl⟩⟩
    ·rintro fr st ⟨d2,two,s3,tmp,hfr,hH,h1,h2,h3,h4,h5⟩;rw[hfr];clear hfr;generalize F7 fr=ee;clear fr
     rcases h5 with h5|⟨h5,h6⟩
     ·have cK:(s3.e==0)=false:=by simpa using h5
      refine zQ 39 ?_;refine qD rfl (by simp[h5]) ?_;refine zQ 4 ?_;refine ag.ret ⟨rx,_,_,_,rfl,aj (rfl),?_⟩;exact⟨s3,⟨h1,h2,by omega,h4,[],rfl,by simp,.inl h5⟩,cj.aq bV hH⟩
     ·have cK:(s3.e==0)=true:=by simpa using h5
      cases b with
      |false=>
       have dL:(!false)=true:=rfl;refine zQ 14 ?_;refine R2 (af rfl rfl rfl cK) rfl dL (aa rfl _) ?_;refine zQ 17 ?_;obtain⟨_,st,ax,rfl,hH⟩:=fk (s:=s3) s.i 4 (by omega) hH;refine qv ax ?_;refine zQ 1 ?_;obtain⟨w1,w2,w3,w4⟩:=fL (dt:=dt) (s:=s3) (i:=s.i) (e:=4) h5 (by decide);generalize mJ dt s3 s.i 4=s4 at*;refine zQ 9 ?_;refine qD rfl (by simp[w1]) ?_;refine zQ 4 ?_;refine ag.ret ⟨rx,_,_,_,rfl,aj (rfl),?_⟩;exact⟨s4,⟨w3.trans h1,w4.trans h2,by omega,by omega,[],rfl,by simp,.inl w1⟩,cj.aq bV hH⟩
      |true=>
       have dL:(!true)=false:=rfl
       cases two with
       |false=>
        have eV:(!false)=true:=rfl;refine zQ 14 ?_;refine Pd (af rfl rfl rfl cK) rfl dL (aa rfl _) ?_;refine zQ 10 ?_;refine R2 (af rfl rfl rfl cK) rfl eV (aa rfl _) ?_;refine zQ 6 ?_;obtain⟨_,st,ax,rfl,hH⟩:=fk (s:=s3) s.i 4 (by omega) hH;refine qv ax ?_;refine zQ 1 ?_;obtain⟨w1,w2,w3,w4⟩:=fL (dt:=dt) (s:=s3) (i:=s.i) (e:=4) h5 (by decide);generalize mJ dt s3 s.i 4=s4 at*;refine zQ 9 ?_;refine qD rfl (by simp[w1]) ?_;refine zQ 4 ?_;refine ag.ret ⟨rx,_,_,_,rfl,aj (rfl),?_⟩;exact⟨s4,⟨w3.trans h1,w4.trans h2,by omega,by omega,[],rfl,by simp,.inl w1⟩,cj.aq bV hH⟩
       |true=>
        have eV:(!true)=false:=rfl
        obtain⟨a2,rfl,h7⟩:∃a2:List Rg,d2=cC a2∧a2≠[]:=by
         rcases h6 with h6|h6
         ·cases h6
         ·exact h6
        obtain⟨q2,a2',rfl⟩:∃q a',a2=q::a':=xw h7;have L9:=(ni (q::a')).arg N S2;have R9:=(ni (q2::a2')).arg N S2;have hr0:((q::a').map aw)[0]?=some (aw q):=rfl;have gw:((q2::a2').map aw)[0]?=some (aw q2):=rfl;refine zQ 14 ?_;refine Pd (af rfl rfl rfl cK) rfl dL (aa rfl _) ?_;refine zQ 2 ?_;refine qr (fun p60 ac9=>?_) (hg:=wi eV);refine qf (fo:=0) (fun p61 Sb=>?_) (hg:=wi eV);refine zQ 2 ?_;refine qr (fun p64 Vd=>?_) (hg:=wi eV);refine qf (fo:=0) (fun p65 aaf=>?_) (hg:=wi eV);refine zQ 2 ?_;refine Pd (af rfl rfl rfl cK) rfl eV (aa rfl _) ?_;refine zQ 2 ?_;refine zP (fun VN=>?_) fun VN=>?_
        ·refine zQ 3 ?_;obtain⟨_,st,ax,rfl,hH⟩:=fk (s:=s3) s.i 4 (by omega) hH;refine qv ax ?_;refine zQ 1 ?_;obtain⟨w1,w2,w3,w4⟩:=fL (dt:=dt) (s:=s3) (i:=s.i) (e:=4) h5 (by decide);generalize mJ dt s3 s.i 4=s4 at*;refine zQ 9 ?_;refine qD rfl (by simp[w1]) ?_;refine zQ 4 ?_;refine ag.ret ⟨rx,_,_,_,rfl,aj (rfl),?_⟩;exact⟨s4,⟨w3.trans h1,w4.trans h2,by omega,by omega,[],rfl,by simp,.inl w1⟩,cj.aq bV hH⟩
        ·refine zQ 10 ?_;refine qE rfl (by simp[h5]) ?_;refine zQ 4 ?_;refine qr fun Ym Pm=>?_;refine qf (fo:=0) fun p80 aac=>?_;refine zQ 2 ?_;refine qr fun p83 acZ=>?_;refine qf (fo:=0) fun p84 acY=>?_;refine qR ?_;refine Pe (qs:=[(0,_),(1,_)]) rfl rfl rfl rfl ⟨rfl,(ev rfl),(by rfl),rfl,(ev rfl),(by rfl),trivial⟩ (by intro q hq;simp only[μ,κ,or_false] at hq;rcases hq with rfl|rfl<;>exact⟨rfl,by exact η rfl⟩) (by show θ _ [_,_] _=_;dsimp only[ς,Ω,u2,u1]<;>rfl) (aa rfl _) ?_;refine qh (s:=2) (vs:=[_]) hH fun k87 st adk hH=>?_;dsimp only[u2,u1,u3,u4,setMany,u5,u6,τ,ν,bt,bD,az,aw] at hH;refine zQ 2 ?_;have hH:Has N S2 st (.aF (.win k87 0 0 1 2) 2 (([(q.1,q2.1)]:List Rg).map aw)::.box k (.mem 0 false (bt gs cU s3))::.aF cU 1 (dt.map az)::H):=hH;have hfz:=vB hH aB (L:=s0.bs.length) (n:=16) (fun k hk=>by simp only[BY] at hk;rw[←bV];omega) (by decide);refine ag.ret ⟨rx,_,_,_,rfl,aj hfz,⟨s3,⟨h1,h2,by omega,h4,[(q.1,q2.1)],rfl,by simp,.inr ⟨h5,by omega⟩⟩,cj.aq bV (hH.drop 1)⟩⟩
 ·have e2:s1.e=0:=by rw[e1];exact he
  have e3:s1.i=s.i∧s1.o=s.o∧s1.g=s.g:=by rw[e1];exact⟨rfl,rfl,rfl⟩
  clear e1;refine qE rfl (by simp[e2]) ?_;refine zQ 5 ?_;refine IT (d:=.bool true) (st1:=_) rfl rfl rfl (aa rfl _) ?_;refine zQ 6 ?_;obtain⟨_,st,ax,rfl,hH⟩:=fk (s:=s1) s.i 4 (by omega) hH;refine qv ax ?_;refine zQ 1 ?_;obtain⟨w1,w2,w3,w4⟩:=fL (dt:=dt) (s:=s1) (i:=s.i) (e:=4) e2 (by decide);refine zQ 4 ?_;refine ag.ret ⟨rx,_,_,_,rfl,aj (rfl),?_⟩;exact⟨_,⟨by omega,by omega,by omega,by omega,[],rfl,by simp,.inl w1⟩,cj.aq bV hH⟩
def F6 (fr:Go.V.Fr) (k:Nat):Go.V.D:=Go.V.nth .bI fr.loc k
def CC (n:fX):Prop:=n.rd=cC n.rs∧n.rs.length≤1048576∧n.kids≤1048576
def BF (op mn mx:Int) (lz:Bool) (cap kids:Int) (a:List Rg):fX:=⟨op,cC a,a,mn,mx,lz,cap,kids⟩
def Cw (l:List fX):D:=.sl ((l.map ch).map (ml 7))
theorem OU (l:List fX):∀e∈l.map ch,e.length=7:=by
 intro e he;obtain⟨x,_,rfl⟩:=VQ.1 he;rfl
variable{l:List fX}
theorem uq (h:∀n∈l,CC n):∀e∈l.map ch,∀d∈e,dh d=true:=by
 intro e he d hd;obtain⟨n,hn,rfl⟩:=VQ.1 he;have hr:=(h n hn).1;simp only[ch,hr,μ,κ,or_false] at hd
 rcases hd with rfl|rfl|rfl|rfl|rfl|rfl|rfl<;>rfl
theorem Ac (h:∀n∈l,CC n):dg (Cw l) 7 (l.map ch):=dg.frozen (OU l) (uq h)
theorem Un (h:∀n∈l,CC n) (hl:l.length≤1048576):(⟨Cw l,l⟩:Nl).ok:=by
 refine⟨Ac h,fun n hn=>?_,hl⟩;obtain⟨h1,h2,h3⟩:=h n hn;exact⟨by rw[h1];exact ni _,h2,by omega⟩
theorem BD (h:∀n∈l,CC n):(l.map ch).map (·.map rS)=l.map ch:=by
 rw[IS];refine List.map_congr_left fun n hn=>?_;have hr:=(h n hn).1;show(ch n).map rS=ch n;unfold ch;rw[hr];rfl
theorem xC (h:∀n∈l,CC n):∀e∈l.map ch,∀d∈e,oU d=true:=by
 intro e he d hd;have:=uq h e he d hd
 cases d<;>first|rfl|exact this
theorem mC {es:List (List D)} (hH:Has N S st H) (hj:H[j]?=some (.aF x 7 es)) (he:es.map (·.map rS)=l.map ch) (ht:∀e∈es,∀d∈e,oU d=true) (hx:∀k,x.ref=k+1→L≤k) (hn:3≤n):bA st L false n x=some (Cw l):=by
 rw[hH.qJ hj hx ht hn,he];rfl
variable{op mn mx cap kids:Int}{lz:Bool}{a:List Rg}
theorem mD {w:D} (hH:Has N S st H) (hj:H[j]?=some (.aF x 7 [[.int .i64 op,w,.int .i64 mn,.int .i64 mx,.bool lz,.int .i64 cap,.int .i64 kids]])) (hw:w=cC a∨w=.nul∧a=[]) (hx:∀k,x.ref=k+1→L≤k):bA st L false 16 x=some (Cw [BF op mn mx lz cap kids a]):=by
 refine mC hH hj ?_ (fun e he d hd=>?_) hx (by decide)
 ·rcases hw with rfl|⟨rfl,rfl⟩<;>rfl
 ·simp only[μ,κ,or_false] at he;subst he;simp only[μ,κ,or_false] at hd
  rcases hw with rfl|⟨rfl,rfl⟩<;>rcases hd with rfl|rfl|rfl|rfl|rfl|rfl|rfl<;>rfl
theorem LD (h:a.length≤1048576) (hk:kids≤1048576):∀n∈[BF op mn mx lz cap kids a],CC n:=by
 intro n hn;simp only[μ,κ,or_false] at hn;subst hn;exact⟨rfl,h,hk⟩
def Cv (gs:List (Nat×Nat)) (s s':iV) (d:D):Prop:=
 s'.o=s.o∧s'.g≤4∧s.i≤s'.i∧s'.i≤gs.length∧∃l:List fX,d=Cw l∧(∀n∈l,CC n)∧l.length≤4*(s'.i-s.i)+1
def mW (gs:List (Nat×Nat)) (s s':iV) (d:D) (c:Nat):Prop:=
 s'.o=s.o∧s'.g≤4∧s.i≤s'.i∧s'.i≤gs.length∧∃l:List fX,d=Cw l∧(∀n∈l,CC n)∧l.length≤4*(s'.i-s.i)+1∧(s'.e≠0∨s'.e=0∧l.length+c≤4*(s'.i-s.i))
theorem ke {s':iV} {c:Nat} (h1:s'.o=s.o) (h2:s'.g≤4) (h3:s.i≤s'.i) (h4:s'.i≤gs.length) (h5:s'.e≠0):mW gs s s' (.sl []) c:=
 ⟨h1,h2,h3,h4,[],rfl,fun n hn=>(by cases hn),by simp,.inl h5⟩
theorem Ns (ba:pP gs dt) (he:s.e=0) (hi:s.i<gs.length) (hg:s.g≤4) (hH:Has N S s0 (.box k (.mem 0 false (bt gs cU s))::.aF cU 1 (dt.map az)::H)):
  ∃d ai,Ev pv 267 [.ptr k 0 0] s0 d ai∧∃(s':iV),mW gs s s' d 2∧Has N S ai (.box k (.mem 0 false (bt gs cU s'))::.aF cU 1 (dt.map az)::H):=by
 have yh:=ba.gl;have fT:=ba.pl;refine Ev.eN rfl WC rfl rfl rfl ?_;refine zE ?_;have cj:=hH;have hH:=hH.bE;have bV:(ae .rw s0).bs=s0.bs:=rfl;generalize ae .rw s0=S2 at*;have PE:Arg N S2 2 (gY gs) (gs.map bD):=Arg.pure (fun st=>gC st gs);refine zQ 21 ?_;refine qT hH aB fun st hH=>?_;dsimp only[u2,u1,u3,u4,setMany,u5,u6,τ,ν,bt,bD,az,aw] at hH;refine zQ 1 ?_;have hH:Has N S2 st (.box k (.mem 0 false (bt gs cU {s with i:=s.i+1}))::.aF cU 1 (dt.map az)::H):=hH;obtain⟨k1,k2,k3,k4,k5⟩:=kU (gs:=gs) (s:={s with i:=s.i+1}) (r:=94);have k5:=k5 (by show s.i+1≤_;omega);simp only at k1 k2 k3 k4;refine zQ 3 ?_;obtain⟨_,st,ax,rfl,hH⟩:=gI (s:={s with i:=s.i+1}) (by omega) 94 hH;refine qv ax ?_;refine zQ 2 ?_;generalize eW gs {s with i:=s.i+1} 94=s1 at*;generalize nL gs ({s with i:=s.i+1}:iV).i 94=nt at*;refine zQ 8 ?_
 have hH:Has N S2 st (.box k (.mem 0 false (bt gs cU s1))::.aF cU 1 (dt.map az)::.aF .nul 2 (([]:List Rg).map aw)::H):=((hH.fW 2).front aO|>.front a_|>fun h=>(h.front aO))
 refine zQ 2 ?_;refine ag.loop (fun mm fr st=>∃(s1:iV) (ld:D) (lr:List Rg) (nn:Bool),fr.clean=⟨7,[.ptr k 0 0,F6 fr 1,F6 fr 2,.int .i64 (s.i:Nat),.bool nt,ld,.bool nn],[]⟩∧Has N S2 st (.box k (.mem 0 false (bt gs cU s1))::.aF cU 1 (dt.map az)::.aF ld 2 (lr.map aw)::H)∧(s1.o=s.o)∧(s1.g=s.g)∧(s.i<s1.i)∧(s1.i≤gs.length)∧(lr.length≤8*s1.i+8)∧(s1.e=0→lr.length≤8*s1.i)∧(gs.length-s1.i+(if s1.e=0 then 1 else 0)≤mm)) (gs.length+1) ?_ ?_
 ·exact⟨s1,.nul,[],true,rfl,hH,k1,k2,by omega,k5,by simp,fun _=>by simp,by split<;>omega⟩
 rintro mm fr st ⟨s1,ld,lr,nn,hfr,hH,h1,h2,h3,h4,h5,h6,E9⟩;rw[hfr];clear hfr;generalize F6 fr=ee;clear fr
 by_cases jY:s1.e=0
 ·rw[if_pos jY] at E9;have h6:=h6 jY;have cK:(s1.e==0)=true:=by simpa using jY
  refine zQ 10 ?_;obtain⟨_,st,ax,rfl,hH⟩:=vw (s:=s1) (by omega) 93 hH;refine qv ax ?_ (hg:=wi cK);refine zQ 3 ?_
  cases hb:nL gs s1.i 93 with
  |true=>
   have hlt:=x0 hb;refine zQ 11 ?_;refine qE rfl (by simp[jY]) ?_;refine zQ 6 ?_
   cases nn with
   |true=>
    refine zQ 5 ?_;obtain⟨_,st,ax,rfl,hH⟩:=fk (s:=s1) s.i 4 (by omega) hH;refine qv ax ?_;refine zQ 2 ?_;obtain⟨w1,w2,w3,w4⟩:=fL (dt:=dt) (s:=s1) (i:=s.i) (e:=4) jY (by decide);refine ag.ret ⟨rx,_,_,_,rfl,aj (rfl),?_⟩;exact⟨_,ke (by omega) (by omega) (by omega) (by omega) w1,cj.aq bV (hH.erase 2)⟩
   |false=>
    refine zQ 11 ?_;refine qT hH aB fun st hH=>?_;dsimp only[u2,u1,u3,u4,setMany,u5,u6,τ,ν,bt,bD,az,aw] at hH;refine zQ 4 ?_;obtain⟨ax,D7,_⟩:=sE (l:=lr) (hH.rows a_) (by omega);refine qv ax ?_;refine zQ 2 ?_;generalize pe lr=m at*;refine zQ 5 ?_
    have jl:∀(st:St) (a:List Rg) (k70:Nat),a.length≤1048576→S2.bs.length≤k70→Has N S2 st (.aF (.win k70 0 0 1 7) 7 [[.int .i64 2,cC a,.int .i64 0,.int .i64 0,.bool false,.int .i64 0,.int .i64 0]]::.box k (.mem 0 false (bt gs cU {s1 with i:=s1.i+1}))::.aF cU 1 (dt.map az)::.aF ld 2 (lr.map aw)::H)→
      ∃d ai,ez .rw false s0 st (.win k70 0 0 1 7)=some (d,ai)∧∃(s':iV),mW gs s s' d 2∧Has N S ai (.box k (.mem 0 false (bt gs cU s'))::.aF cU 1 (dt.map az)::H):=by
     intro st a k70 ha hk hH;have hfz:=mD hH aB (L:=s0.bs.length) (.inl rfl) (fun k hk=>by simp only[BY] at hk;rw[←bV];omega);exact⟨_,_,aj hfz,{s1 with i:=s1.i+1},⟨h1,by show s1.g≤4;omega,by show s.i≤s1.i+1;omega,by show s1.i+1≤_;omega,_,rfl,LD ha (by omega),by simp,.inr ⟨jY,by show 1+2≤4*(s1.i+1-s.i);omega⟩⟩,cj.aq bV ((hH.drop 1).erase 2)⟩
    cases nt with
    |true=>
     refine zQ 3 ?_;obtain⟨_,ax,a,rfl,hla⟩:=Lx (l:=m) (h_ _ _) (by omega);refine qv ax ?_;refine zQ 5 ?_;refine Pe (qs:=[(0,_),(1,_)]) rfl rfl rfl rfl ⟨rfl,(ev rfl),(by rfl),rfl,(ev rfl),(by rfl),trivial⟩ (by intro q hq;simp only[μ,κ,or_false] at hq;rcases hq with rfl|rfl<;>exact⟨rfl,by exact η rfl⟩) (by show θ _ [_,_,_,_,_,_,_] _=_;dsimp only[ς,Ω,u2,u1]<;>rfl) (aa rfl _) ?_;refine qh (s:=7) (vs:=[_]) hH fun k70 st SA hH=>?_;refine zQ 2 ?_;obtain⟨d',ai,B3,f_⟩:=jl _ a k70 (by omega) SA hH;refine ag.ret ⟨rx,_,d',ai,rfl,B3,f_⟩
    |false=>
     refine zQ 5 ?_;refine Pe (qs:=[(0,_),(1,_)]) rfl rfl rfl rfl ⟨rfl,(ev rfl),(by rfl),rfl,(ev rfl),(by rfl),trivial⟩ (by intro q hq;simp only[μ,κ,or_false] at hq;rcases hq with rfl|rfl<;>exact⟨rfl,by exact η rfl⟩) (by show θ _ [_,_,_,_,_,_,_] _=_;dsimp only[ς,Ω,u2,u1]<;>rfl) (aa rfl _) ?_;refine qh (s:=7) (vs:=[_]) hH fun k70 st SA hH=>?_;refine zQ 2 ?_;obtain⟨d',ai,B3,f_⟩:=jl _ m k70 (by omega) SA hH;refine ag.ret ⟨rx,_,d',ai,rfl,B3,f_⟩
  |false=>
   refine zQ 14 ?_;refine qn ?_;simp only[γ];refine zQ 2 ?_;refine zP (fun hge=>?_) fun hge=>?_
   ·refine zQ 4 ?_;obtain⟨_,st,ax,rfl,hH⟩:=fk (s:=s1) s.i 4 (by omega) hH;refine qv ax ?_;refine zQ 2 ?_;obtain⟨w1,w2,w3,w4⟩:=fL (dt:=dt) (s:=s1) (i:=s.i) (e:=4) jY (by decide);refine ag.ret ⟨rx,_,_,_,rfl,aj (rfl),?_⟩;exact⟨_,ke (by omega) (by omega) (by omega) (by omega) w1,cj.aq bV (hH.erase 2)⟩
   ·refine zQ 5 ?_;obtain⟨_,st,ax,s2,⟨i1,i2,i3,i4,a,rfl,i5,i6⟩,hH⟩:=O7 (s:=s1) ba jY (by omega) hH;have L9:=(ni a).arg N S2;have Jr:=FD a;refine qv ax ?_;refine ab.cL (s:=2) hH rfl (ev rfl) (ev rfl) (by exact a_) (by exact Arg.rows (by assumption) hH) rfl rfl rfl rfl rfl rfl rfl ⟨(η rfl),(η rfl)⟩ (fun _=>(aa rfl _)) (by simp only[γ]<;>omega) (by exact .inr (by assumption)) (fun x46 st hH=>?_);dsimp only[u2,u1,u3,u4,setMany,u5,u6,τ,ν,bt,bD,az,aw] at hH;refine zQ 5 ?_;exact⟨mm-1,by omega,⟨s2,x46,lr++a,false,rfl,(by rw[Ξ];exact hH),i1.trans h1,i2.trans h2,by omega,i4,by rw[δ];omega,fun e=>by rw[δ];omega,by split<;>omega⟩⟩
 ·have cK:(s1.e==0)=false:=by simpa using jY
  refine zQ 25 ?_;refine qD rfl (by simp[jY]) ?_;refine zQ 4 ?_;refine ag.ret ⟨rx,_,_,_,rfl,aj (rfl),?_⟩;exact⟨_,ke h1 (by omega) (by omega) h4 jY,cj.aq bV (hH.erase 2)⟩
def nZ (fr:Go.V.Fr) (k:Nat):Go.V.D:=Go.V.nth .bI fr.loc k
def y6 (gs:List (Nat×Nat)) (s s':iV):Prop:=s'.o=s.o∧s'.g=s.g∧s.i<s'.i∧s'.i≤gs.length
theorem Ls (ba:pP gs dt) (he:s.e=0) (hi:s.i<gs.length) (hH:Has N S s0 (.box k (.mem 0 false (bt gs cU s))::.aF cU 1 (dt.map az)::H)):
  ∃d ai,Ev pv 248 [.ptr k 0 0] s0 d ai∧∃(n1 n2:Int) (s':iV),d=.tup [.int .i64 n1,.int .i64 n2]∧y6 gs s s'∧Has N S ai (.box k (.mem 0 false (bt gs cU s'))::.aF cU 1 (dt.map az)::H):=by
 have yh:=ba.gl;have fT:=ba.pl;have hne:gs≠[]:=by rintro rfl;simp at hi
 refine Ev.eN rfl WM rfl rfl rfl ?_;refine zE ?_;have cj:=hH;have hH:=hH.bE;have bV:(ae .rw s0).bs=s0.bs:=rfl;generalize ae .rw s0=S2 at*;refine zQ 22 ?_;refine qT hH aB fun st hH=>?_;dsimp only[u2,u1,u3,u4,setMany,u5,u6,τ,ν,bt,bD,az,aw] at hH;refine zQ 1 ?_;have hH:Has N S2 st (.box k (.mem 0 false (bt gs cU {s with i:=s.i+1}))::.aF cU 1 (dt.map az)::H):=hH
 have MC:∀(st:St) (s3:iV) (e:Int),e≠0→s3.e=0→y6 gs s s3→Has N S2 st (.box k (.mem 0 false (bt gs cU s3))::.aF cU 1 (dt.map az)::H)→∃d ai,Ev pv 134 [.ptr k 0 0,.int .i64 (s.i:Nat),.int .i64 e] st d ai∧d=.sl []∧∃s4,y6 gs s s4∧Has N S2 ai (.box k (.mem 0 false (bt gs cU s4))::.aF cU 1 (dt.map az)::H):=by
  intro st s3 e h0 h1 h2 hH;obtain⟨d,ai,ax,h4,hH⟩:=fk (s:=s3) s.i e (by omega) hH;obtain⟨w1,w2,w3,w4⟩:=fL (dt:=dt) (s:=s3) (i:=s.i) (e:=e) h1 h0;exact⟨d,ai,ax,h4,_,⟨w3.trans h2.1,w4.trans h2.2.1,by rw[w2];exact h2.2.2.1,by rw[w2];exact h2.2.2.2⟩,hH⟩
 refine zQ 3 ?_;obtain⟨_,st,ax,m,ok,mm,rfl,D7,hmi,hH⟩:=AW (s:={s with i:=s.i+1}) yh (by show s.i+1≤_;omega) hne hH;refine qv ax ?_;refine zQ 6 ?_
 obtain⟨s1,nA⟩:∃s1:iV,({s with i:=s.i+1+mm}:iV)=s1:=⟨_,rfl⟩
 have RZ:s1.e=0:=by rw[←nA];exact he
 have L7:y6 gs s s1:=by rw[←nA];exact⟨rfl,rfl,by show s.i<s.i+1+mm;omega,hmi⟩
 have hH:Has N S2 st (.box k (.mem 0 false (bt gs cU s1))::.aF cU 1 (dt.map az)::H):=by rw[←nA];exact hH
 clear nA;refine zQ 8 ?_;refine ag.jI (fun fr st=>∃(n:List UInt8) (en:Bool) (s3:iV) (tmp:List (Nat×D)),fr=⟨14,[.ptr k 0 0,nZ fr 1,nZ fr 2,nZ fr 3,.int .i64 (s.i:Nat),.str m,.bool ok,.str n,.bool en,nZ fr 9,nZ fr 10,nZ fr 11,nZ fr 12,nZ fr 13],tmp⟩∧Has N S2 st (.box k (.mem 0 false (bt gs cU s3))::.aF cU 1 (dt.map az)::H)∧(s3.e=0)∧(y6 gs s s3)∧(n.length≤120)) ?_ ?_
 ·cases ok with
  |false=>
   have mY:false=false:=rfl;refine zQ 9 ?_;exact⟨m,false,s1,_,rfl,hH,RZ,L7,D7⟩
  |true=>
   have mY:true=true:=rfl;obtain⟨k1,k2,k3,k4,k5⟩:=kU (gs:=gs) (s:=s1) (r:=44);have k5:=k5 L7.2.2.2;refine zQ 4 ?_;obtain⟨_,st,ax,rfl,hH⟩:=gI (s:=s1) (by omega) 44 hH;refine qv ax ?_ (hg:=wi mY);refine zQ 2 ?_;generalize eW gs s1 44=s2 at*
   have Pl:y6 gs s s2:=⟨k1.trans L7.1,k2.trans L7.2.1,by have:=L7.2.2.1;omega,k5⟩
   cases hb:nL gs s1.i 44 with
   |false=>
    refine zQ 2 ?_;exact⟨m,false,s2,_,rfl,hH,k3.trans RZ,Pl,D7⟩
   |true=>
    refine zQ 8 ?_;obtain⟨_,st,ax,n,there,mm2,rfl,Ax,hni,hH⟩:=AW (s:=s2) yh k5 hne hH;refine qv ax ?_;refine zQ 11 ?_;exact⟨n,!there,{s2 with i:=s2.i+mm2},_,rfl,hH,k3.trans RZ,⟨Pl.1,Pl.2.1,by have:=Pl.2.2.1;show s.i<s2.i+mm2;omega,hni⟩,Ax⟩
 ·rintro fr st ⟨n,en,s3,tmp,hfr,hH,h1,h2,h3⟩;rw[hfr];clear hfr;generalize nZ fr=ee;clear fr;obtain⟨k1,k2,k3,k4,k5⟩:=kU (gs:=gs) (s:=s3) (r:=125);have k5:=k5 h2.2.2.2
  have Jq:y6 gs s (eW gs s3 125):=⟨k1.trans h2.1,k2.trans h2.2.1,by have:=h2.2.2.1;omega,k5⟩
  have Pk:(eW gs s3 125).e=0:=k3.trans h1
  cases ok with
  |false=>
   have br:(!false)=true:=rfl;refine zQ 25 ?_;obtain⟨_,st,ax,rfl,s4,Ss,hH⟩:=MC _ s3 4 (by decide) h1 h2 hH;refine qv ax ?_;refine zQ 6 ?_;refine ag.ret ⟨rx,_,_,_,rfl,aj (rfl),?_⟩;exact⟨_,_,s4,rfl,Ss,cj.aq bV hH⟩
  |true=>
   have br:(!true)=false:=rfl
   cases sY:(!nL gs s3.i 125) with
   |true=>
    refine zQ 7 ?_;obtain⟨_,st,ax,rfl,hH⟩:=gI (s:=s3) (by omega) 125 hH;refine qv ax ?_ (hg:=wi br);refine zQ 12 ?_;generalize eW gs s3 125=s4 at*;refine zQ 5 ?_;obtain⟨_,st,ax,rfl,s5,Mn,hH⟩:=MC _ s4 4 (by decide) Pk Jq hH;refine qv ax ?_;refine zQ 6 ?_;refine ag.ret ⟨rx,_,_,_,rfl,aj (rfl),?_⟩;exact⟨_,_,s5,rfl,Mn,cj.aq bV hH⟩
   |false=>
    have f_:True:=trivial
    cases en with
    |true=>
     have ek:(!true)=false:=rfl;refine zQ 7 ?_;obtain⟨_,st,ax,rfl,hH⟩:=gI (s:=s3) (by omega) 125 hH;refine qv ax ?_ (hg:=wi br);refine zQ 9 ?_;refine Pd (af rfl rfl rfl sY) rfl ek (aa rfl _) ?_;refine zQ 2 ?_;generalize eW gs s3 125=s4 at*;refine zQ 2 ?_;obtain⟨_,DY,a1,f1,rfl⟩:=rZ (s0:=st) m (by omega);refine zQ 3 ?_;refine qv (DY) ?_;refine zQ 15 ?_;obtain⟨_,rO,a2,f2,rfl⟩:=rZ (s0:=st) [] (by simp);refine zQ 3 ?_;refine qv (rO) ?_;refine zQ 8 ?_;refine ag.dM 78 (.bool (!f1||!f2)) [] ?_ (fun ff tmp dj=>?_)
     ·refine zQ 3 ?_;refine ZD 75 rfl (fun br=>?_) (fun br=>?_)
      ·refine zQ 3 ?_;refine ρ (aR ?_ ?_)
       ·dsimp only[aK,θ,nth,u2,u1]
        all_goals(first|rfl|simp)
       ·refine zF ?_
        all_goals(simp[br];done)
      ·refine zQ 3 ?_;refine ρ (aR ?_ ?_)
       ·dsimp only[aK,θ,nth,u2,u1]
        all_goals(first|rfl|simp)
       ·refine zF ?_
        all_goals(simp[br];done)
     dsimp only[aK,θ,nth,u2,u1];refine qc (fun Jw=>?_) (fun Jw=>?_)<;>try simp only[cs] at Jw
     ·refine zQ 4 ?_;obtain⟨_,st,ax,rfl,s5,Mn,hH⟩:=MC _ s4 2 (by decide) Pk Jq hH;refine qv ax ?_;refine zQ 6 ?_;refine ag.ret ⟨rx,_,_,_,rfl,aj (rfl),?_⟩;exact⟨_,_,s5,rfl,Mn,cj.aq bV hH⟩
     ·refine zQ 17 ?_;refine ag.ret ⟨rx,_,_,_,rfl,aj (rfl),?_⟩;exact⟨_,_,s4,rfl,Jq,cj.aq bV hH⟩
    |false=>
     have ek:(!false)=true:=rfl;refine zQ 7 ?_;obtain⟨_,st,ax,rfl,hH⟩:=gI (s:=s3) (by omega) 125 hH;refine qv ax ?_ (hg:=wi br);refine zQ 8 ?_;obtain⟨_,hle,v,rfl⟩:=O4 (s0:=st) n m;refine ab.aS (af rfl rfl rfl ek) rfl hle (aa rfl _) ?_;refine R2 (af rfl rfl rfl sY) rfl ek (aa rfl _) ?_;refine zQ 2 ?_;generalize eW gs s3 125=s4 at*
     cases v with
     |true=>
      refine zQ 5 ?_;obtain⟨_,st,ax,rfl,s5,Mn,hH⟩:=MC _ s4 4 (by decide) Pk Jq hH;refine qv ax ?_;refine zQ 6 ?_;refine ag.ret ⟨rx,_,_,_,rfl,aj (rfl),?_⟩;exact⟨_,_,s5,rfl,Mn,cj.aq bV hH⟩
     |false=>
      refine zQ 2 ?_;obtain⟨_,DY,a1,f1,rfl⟩:=rZ (s0:=st) m (by omega);refine zQ 3 ?_;refine qv (DY) ?_;refine zQ 13 ?_;obtain⟨_,rO,a2,f2,rfl⟩:=rZ (s0:=st) n (by omega);refine zQ 3 ?_;refine qv (rO) ?_;refine zQ 8 ?_;refine ag.dM 78 (.bool (!f1||!f2)) [] ?_ (fun ff tmp dj=>?_)
      ·refine zQ 3 ?_;refine ZD 75 rfl (fun br=>?_) (fun br=>?_)
       ·refine zQ 3 ?_;refine ρ (aR ?_ ?_)
        ·dsimp only[aK,θ,nth,u2,u1]
         all_goals(first|rfl|simp)
        ·refine zF ?_
         all_goals(simp[br];done)
       ·refine zQ 3 ?_;refine ρ (aR ?_ ?_)
        ·dsimp only[aK,θ,nth,u2,u1]
         all_goals(first|rfl|simp)
        ·refine zF ?_
         all_goals(simp[br];done)
      dsimp only[aK,θ,nth,u2,u1];refine qc (fun Jw=>?_) (fun Jw=>?_)<;>try simp only[cs] at Jw
      ·refine zQ 4 ?_;obtain⟨_,st,ax,rfl,s5,Mn,hH⟩:=MC _ s4 2 (by decide) Pk Jq hH;refine qv ax ?_;refine zQ 6 ?_;refine ag.ret ⟨rx,_,_,_,rfl,aj (rfl),?_⟩;exact⟨_,_,s5,rfl,Mn,cj.aq bV hH⟩
      ·refine zQ 15 ?_;refine ag.ret ⟨rx,_,_,_,rfl,aj (rfl),?_⟩;exact⟨_,_,s4,rfl,Jq,cj.aq bV hH⟩
def eI (fr:Go.V.Fr) (k:Nat):Go.V.D:=Go.V.nth .bI fr.loc k
theorem w_:∀{l:List D},(∀d∈l,dh d=true)→refs l=0
 |[],_=>rfl
 |d::l,h=>by
  have h1:=w_ (l:=l) fun d hd=>h d (Q5 _ hd);have h2:=h d (Zt ..)
  have h3:d.ref=0:=by cases d<;>first|rfl|(simp[dh] at h2)
  simp only[refs,h1,h3,Nat.max_self]
theorem Ab (h:∀n∈l,CC n):refs (l.map ch).flatten=0:=
 w_ fun d hd=>by
  obtain⟨e,he,H5⟩:=List.mem_flatten.1 hd;exact uq h e he d H5
def gL (l:List fX):List D:=[Cw l]
theorem Dq {l:List (List fX)} {i:Nat} {q:List fX} (h:l[i]?=some q):(l.map gL)[i]?=some (gL q):=by rw[Y',h];rfl
def jz:List (List fX)→Nat
 |[]=>0
 |l::ls=>l.length+jz ls
theorem fY:∀a b:List (List fX),jz (a++b)=jz a+jz b
 |[],b=>by simp[jz]
 |l::a,b=>by rw[YH,jz,jz,fY a b];omega
theorem Aq {parts:List (List fX)} (op:Int) (hx:V.Rows s0 1 x (parts.map gL)) (hv:∀l∈parts,∀n∈l,CC n) (hp:parts.length≤100000) (hs:jz parts≤100000):∃d,Ev pv 188 [.int .i64 op,x] s0 d s0∧∃l,d=Cw l∧(∀n∈l,CC n)∧(parts.length=1→l.length≤jz parts)∧l.length≤jz parts+1:=by
 refine Ev.FP rfl Xg rfl rfl rfl ?_;refine zE ?_;obtain⟨aN,hF,hH⟩:=ri s0;generalize ae .ro s0=S at*;have hx:=Arg.of hx aN;refine zQ 8 ?_;refine qn ?_;simp only[γ];refine zQ 7 ?_
 by_cases h0:parts.length=0
 ·refine qD rfl (by simp[h0]) ?_;refine zQ 2 ?_;refine IT (d:=.agg [.int .i64 1,.nul,.int .i64 0,.int .i64 0,.bool false,.int .i64 0,.int .i64 0]) (st1:=_) rfl rfl rfl (by dsimp only[Fr.put,u1,u2]<;>rfl) ?_;refine qh (s:=7) (vs:=[_]) hH fun k13 st Ms hH=>?_;refine zQ 2 ?_;have hfz:=mD (L:=s0.bs.length) (a:=[]) hH aB (.inr ⟨rfl,rfl⟩) (fun k hk=>by have og:k13+1=k+1:=hk;rw[←aN];omega);refine ag.ret ⟨rx,_,_,rfl,rl aN hH (hfz),?_⟩;exact⟨_,rfl,LD (by simp) (by omega),by omega,by simp⟩
 have JD:(((parts.length:Nat):Int)==0)=false:=by rw[beq_eq_false_iff_ne];omega
 refine qE rfl (by rw[JD]) ?_;refine zQ 5 ?_
 by_cases h1:parts.length=1
 ·obtain⟨q,hq⟩:∃q,parts[0]?=some q:=⟨parts[0]'(by omega),ε _⟩
  have gw:=Dq hq
  have Kc:parts=[q]:=by
   match parts,h1,hq with
   |[a],_,hq=>simp at hq;rw[hq]
  refine qD rfl (by simp[h1]) ?_;refine zQ 3 ?_;refine qr fun Zj Sl=>?_;refine zQ 3 ?_;refine ag.ret ⟨rx,_,_,rfl,rl aN hH (rfl),?_⟩;refine⟨q,rfl,hv q (ο hq),fun _=>?_,?_⟩<;>rw[Kc]<;>simp[jz]
 have PM:(((parts.length:Nat):Int)==1)=false:=by rw[beq_eq_false_iff_ne];omega
 refine qE rfl (by rw[PM]) ?_;refine zQ 5 ?_;refine qn ?_;simp only[γ];refine IT (d:=.agg [.int .i64 op,.nul,.int .i64 0,.int .i64 0,.bool false,.int .i64 0,.int .i64 (parts.length:Nat)]) (st1:=_) rfl rfl rfl (by dsimp only[Fr.put,u1,u2]<;>rfl) ?_;refine qh (s:=7) (vs:=[_]) hH fun k23 st VG hH=>?_;refine zQ 6 ?_;refine qn ?_;simp only[γ];refine zQ 2 ?_;have hH:Has s0.bs.length S st (.aF (.win k23 0 0 1 7) 7 [[.int .i64 op,.nul,.int .i64 0,.int .i64 0,.bool false,.int .i64 0,.int .i64 (parts.length:Nat)]]::[]):=hH;refine zQ 1 ?_;refine ag.loop (fun mm fr st=>∃(i:Nat) (od:D) (es:List (List D)) (lo:List fX),fr.clean=⟨27,[eI fr 0,eI fr 1,eI fr 2,eI fr 3,eI fr 4,od,eI fr 6,eI fr 7,eI fr 8,eI fr 9,eI fr 10,eI fr 11,eI fr 12,eI fr 13,eI fr 14,eI fr 15,eI fr 16,eI fr 17,eI fr 18,eI fr 19,eI fr 20,eI fr 21,eI fr 22,eI fr 23,x,.int .i64 (parts.length:Nat),.int .i64 (i:Nat)],[]⟩∧Has s0.bs.length S st [.aF od 7 es]∧(i+mm=parts.length)∧(es.map (·.map rS)=lo.map ch)∧(∀e∈es,∀d∈e,oU d=true)∧(∀n∈lo,CC n)∧(lo.length=1+jz (parts.take i))∧(∀k,od.ref=k+1→S.bs.length≤k)) (parts.length) ?_ ?_
 ·refine⟨0,.win k23 0 0 1 7,[[.int .i64 op,.nul,.int .i64 0,.int .i64 0,.bool false,.int .i64 0,.int .i64 (parts.length:Nat)]],[BF op 0 0 false 0 (parts.length:Nat) []],rfl,hH,by omega,rfl,?_,LD (by simp) (by omega),by simp[jz],fun k hk=>by simp only[BY] at hk;omega⟩;intro e he d hd;simp only[μ,κ,or_false] at he;subst he;simp only[μ,κ,or_false] at hd
  rcases hd with rfl|rfl|rfl|rfl|rfl|rfl|rfl<;>rfl
 rintro mm fr st ⟨i,od,es,lo,hfr,hH,hi,vN,ht,Mo,hlen,ye⟩;rw[hfr];clear hfr;generalize eI fr=ee;clear fr;refine zQ 4 ?_
 by_cases hlt:i<parts.length
 ·obtain⟨q,hq⟩:∃q,parts[i]?=some q:=⟨parts[i]'hlt,ε _⟩
  have gw:=Dq hq;have YC:=hv q (ο hq);have tJ:es.length=lo.length:=by have:=congrArg LL vN;simpa using this
  have LX:parts.take (i+1)=parts.take i++[q]:=by rw[List.take_add_one,hq];rfl
  have ZL:jz (parts.take (i+1))=jz (parts.take i)+q.length:=by rw[LX,fY];simp[jz]
  have acO:jz (parts.take (i+1))≤jz parts:=by
   have:=fY (parts.take (i+1)) (parts.drop (i+1));rw[List.take_append_drop] at this;omega
  refine qq<|qD rfl (by simp;omega) ?_;refine zQ 5 ?_;refine qr fun Zh Sj=>?_;refine zQ 6 ?_;refine ab.nF (s:=7) hH rfl (ev rfl) (ev rfl) aB ((Ac YC).rows st) rfl rfl rfl rfl rfl rfl rfl ⟨(η rfl),(η rfl)⟩ (fun _=>(aa rfl _)) (by rw[γ];omega) (.inl hF) ye (fun x32 st ye hH=>?_);dsimp only[u2] at hH;refine zQ 6 ?_;refine⟨mm-1,by omega,⟨i+1,x32,es++q.map ch,lo++q,rfl,hH,by omega,by rw[Ξ,Ξ,vN,BD YC],?_,?_,by rw[δ,hlen,ZL];omega,ye⟩⟩
  ·intro e he
   rcases wt.1 he with he|he
   ·exact ht e he
   ·exact xC YC e he
  ·intro n hn
   rcases wt.1 hn with hn|hn
   ·exact Mo n hn
   ·exact YC n hn
 ·refine qq<|qE rfl (by simp;omega) ?_;refine zQ 6 ?_;have hik:i=parts.length:=by omega
  rw[hik,List.take_length] at hlen;refine ag.ret ⟨rx,_,_,rfl,rl aN hH (mC hH aB vN ht (fun k hk=>by have:=ye k hk;rw[←aN];exact this) (by decide)),?_⟩;exact⟨_,rfl,Mo,by omega,by omega⟩
end Go.Proofs.YtecjacicdpejaaaGreat
