/-
 What a rule reaches: the document's search.
-/
import Derived.Test.YtecjacicdpejaaaGreatXGHr
import Derived.Test.YtecjacicdpejaaaGreatXGUa
import Derived.Test.YtecjacicdpejaaaGreatXM2
set_option maxRecDepth 100000
set_option maxHeartbeats 4000000
set_option linter.unusedSimpArgs false
set_option linter.unusedVariables false
set_option linter.unusedSectionVars false
namespace Go.Proofs.YtecjacicdpejaaaGreat
open Go.V Go
def sm (fr:Go.V.Fr) (k:Nat):Go.V.D:=Go.V.nth .bj fr.loc k
theorem Hi {s0:St} {p:Pg} {pc:Nat} {i:aK} (hp:p.ok) (hi:p.code[pc]?=some i):Ev pv 197 [p.d,.int .i64 (pc:Nat)] s0 (EZ (bI pc i)) s0:=by
 refine Ev.ia rfl NS rfl rfl rfl ?_;refine zE ?_;obtain⟨aP,hF,hH⟩:=ri s0;generalize ae .ro s0=S at*;have hc:=hp.c.arg s0.bs.length S;have CQ:=(hp.i i (List.mem_of_getElem? hi)).1;have hcl:=hp.cl;have hr:=gk hi;have hlt:=bo hi;unfold Pg.d;refine zQ 2 ?_;refine qb hH fun k2 st hk2 hH=>?_;dsimp only[u2,u1,u3,u4,setMany,u5,u6,D.cells,Nat.reduceAdd,Pg.cs,aT,ax,bE] at hH;refine zQ 7 ?_;refine qr fun p9 X0=>?_;refine aa.cV rfl (ev rfl) (by assumption) rfl (by dsimp only[Fr.put,u1,u2]<;>rfl) ?_;refine qa hH fun k5 st K' hH=>?_;refine qS hH aN fun st hH=>?_;dsimp only[u2,u1,u3,u4,setMany,u5,u6,D.cells,Nat.reduceAdd,Pg.cs,aT,ax,bE] at hH;refine zQ 13 ?_;refine zI (fun h2=>?_) fun h2=>?_
 ·have:bI pc i=[i.x,i.y]:=by unfold bI;rw[if_pos h2]
  rw[this];refine zQ 6 ?_;refine qh (s:=1) (vs:=[_,_]) hH fun k19 st QW hH=>?_;refine zQ 2 ?_;refine ak.ret ⟨rx,_,rfl,rl aP hH ?_⟩;exact hH.freeze aN (jZ [i.x,i.y]) (n:=15) (by decide)
 ·refine zQ 5 ?_;refine zI (fun h3=>?_) fun h3=>?_
  ·have:bI pc i=[i.x]:=by unfold bI;rw[if_neg h2,if_pos h3]
   rw[this];refine zQ 4 ?_;refine qh (s:=1) (vs:=[_]) hH fun k24 st QV hH=>?_;refine zQ 2 ?_;refine ak.ret ⟨rx,_,rfl,rl aP hH ?_⟩;exact hH.freeze aN (jZ [i.x]) (n:=15) (by decide)
  ·refine zQ 5 ?_;refine zI (fun h7=>?_) fun h7=>?_
   ·have:bI pc i=[]:=by unfold bI;rw[if_neg h2,if_neg h3,if_pos h7]
    rw[this];refine zQ 4 ?_;refine ak.ret ⟨rx,_,rfl,rl aP hH (rfl)⟩
   ·have:bI pc i=[((pc+1:Nat):Int)]:=by unfold bI;rw[if_neg h2,if_neg h3,if_neg h7]
    rw[this];refine zQ 5 ?_;refine qh (s:=1) (vs:=[_]) hH fun k29 st MJ hH=>?_;refine zQ 2 ?_;refine ak.ret ⟨rx,_,rfl,rl aP hH ?_⟩;exact hH.freeze aN (jZ [((pc+1:Nat):Int)]) (n:=15) (by decide)
def kl (p:Pg) (kh:Int):List Bool:=if jq kh p.aq.length then ba p.code (p.aq.getD kh.toNat 0) else List.replicate p.code.length false
theorem px {s0:St} {p:Pg} {kh:Int} (hp:p.ok) (hcl:iI p.code) (gC:∀v∈p.aq,0≤v∧v<p.code.length):Ev pv 147 [p.d,.int .i64 kh] s0 (na (kl p kh)) s0:=by
 refine Ev.ia rfl Od rfl rfl rfl ?_;refine zE ?_;obtain⟨aP,hF,hH⟩:=ri s0;generalize ae .ro s0=S at*;have hc:=hp.c.arg s0.bs.length S;have hs:=hp.s.arg s0.bs.length S;have pK:=hp.c;have hlen:=hp.cl;have L7:=hp.sl;unfold Pg.d;refine zQ 2 ?_;refine qb hH fun k2 st hk2 hH=>?_;dsimp only[u2,u1,u3,u4,setMany,u5,u6,D.cells,Nat.reduceAdd,Pg.cs,aT,ax,bE] at hH;refine zQ 6 ?_;refine qn ?_;simp only[List.length_map];refine aa.yp (s:=1) hH rfl rfl rfl rfl rfl rfl rfl rfl (Nat.le_of_ble_eq_true rfl) (by omega) (fun _=>(ab rfl _)) (fun k11 st MK hH=>?_);refine zQ 2 ?_
 have hnot:jq kh p.aq.length=!(decide (kh<0)||decide (kh≥p.aq.length)):=by
  unfold jq;simp only[Bool.not_or,←decide_not,Int.not_lt,Int.not_le,ge_iff_le]
 refine zQ 2 ?_;refine ak.cY 20 (.bool (decide (kh<0)||decide (kh≥p.aq.length))) [] ?_ (fun ff tmp cx=>?_)
 ·refine zQ 3 ?_;refine aa.two 14 rfl (fun cu=>?_) (fun cu=>?_)
  ·refine zQ 6 ?_;refine aa.nil (aJ ?_ ?_)
   ·dsimp only[aF,List.foldl,nth,u2,u1]
    all_goals(first|rfl|simp)
   ·refine zF ?_
    all_goals(simp[cu];done)
  ·refine zQ 3 ?_;refine qn ?_ (hg:=wi cu);simp only[List.length_map];refine zQ 2 ?_;refine aa.nil (aJ ?_ ?_)
   ·dsimp only[aF,List.foldl,nth,u2,u1]
    all_goals(first|rfl|simp)
   ·refine zF ?_
    all_goals(simp[cu];done)
 dsimp only[aF,List.foldl,nth,u2,u1];refine qc (fun h0=>?_) (fun h0=>?_)<;>try simp only[cs] at h0
 ·have hR:kl p kh=List.replicate p.code.length false:=by unfold kl;rw[hnot,h0];rfl
  rw[hR];refine zQ 5 ?_;have hH:Has s0.bs.length S st [.aC (.win k11 0 0 p.code.length 1) 1 ((List.replicate p.code.length false).map bE),.box k2 (.mem 0 false [p.cd,p.sd])]:=by rw[List.map_replicate];exact hH
  refine ak.ret ⟨rx,_,rfl,rl aP hH ?_⟩;exact hH.freeze aN (kO _) (n:=15) (by decide)
 ·have nf:jq kh p.aq.length=true:=by rw[hnot,h0];rfl
  have hR:kl p kh=ba p.code (p.aq.getD kh.toNat 0):=by unfold kl;rw[if_pos nf]
  rw[hR];unfold jq at nf;simp only[Bool.and_eq_true,decide_eq_true_eq] at nf;obtain⟨ru,rfl⟩:=Int.eq_ofNat_of_zero_le nf.1
  obtain⟨start,kR⟩:∃v,p.aq[ru]?=some v:=⟨p.aq[ru]'(by omega),List.getElem?_eq_getElem _⟩
  have Md:=er kR;have gC:=gC start (List.mem_of_getElem? kR);rw[show p.aq.getD (ru:Int).toNat 0=start by rw[Int.toNat_natCast,List.getD_eq_getElem?_getD,kR];rfl];refine zQ 6 ?_;refine qr fun KW CT=>?_;refine qR ?_;refine qh (s:=1) (vs:=[_]) hH fun k27 st V6 hH=>?_;refine zQ 4 ?_;refine ak.loop (fun mm fr st=>∃(y z:D) (seen:List Bool) (eU:List Int),fr.clean=⟨8,[sm fr 0,sm fr 1,.ptr k2 0 0,sm fr 3,.nul,y,z,sm fr 7],[]⟩∧Has s0.bs.length S st [.aC z 1 (eU.reverse.map ax),.aC y 1 (seen.map bE),.box k2 (.mem 0 false [p.cd,p.sd])]∧(wV p.code mm seen eU=ba p.code start)∧(3*seen.count false+eU.length≤mm)∧(seen.length=p.code.length)∧(∀v∈eU,0≤v∧v<(p.code.length:Int))∧(mm≤3*p.code.length+1)) (3*p.code.length+1) ?_ ?_
  ·exact⟨_,_,List.replicate p.code.length false,[start],rfl,(by rw[List.map_replicate];exact hH),rfl,by simp,by simp,by simpa using gC,by omega⟩
  rintro mm fr st ⟨y,z,seen,eU,hfr,hH,hd,hm,ka,hsk,y5⟩;rw[hfr];clear hfr;generalize sm fr=ee;clear fr
  rcases eU with _|⟨v,eU⟩
  ·refine zQ 4 ?_;refine qn ?_ (hR:=hH.rows aN);simp only[List.length_map,List.length_nil,List.length_reverse];refine zQ 2 ?_;refine ak.cond (v:=false) (by dsimp only[Fr.ev,Fr.get,nth,V.look];rfl) (fun h=>by cases h) (fun _=>?_);refine zQ 6 ?_;have gD:seen=ba p.code start:=by rw[←hd];cases mm<;>rfl
   rw[←gD];refine ak.ret ⟨rx,_,rfl,rl aP hH ?_⟩;exact hH.freeze bV (kO _) (n:=15) (by decide)
  ·have hv:=hsk v (List.mem_cons_self ..);obtain⟨k,rfl⟩:=Int.eq_ofNat_of_zero_le hv.1;have hk:k<p.code.length:=by omega
   simp only[List.length_cons] at hm
   obtain⟨mm,rfl⟩:∃m',mm=m'+1:=⟨mm-1,by omega⟩
   obtain⟨b,hb⟩:∃b,seen[k]?=some b:=⟨seen[k]'(by omega),List.getElem?_eq_getElem _⟩
   obtain⟨i,hi⟩:∃i,p.code[k]?=some i:=⟨p.code[k]'(by omega),List.getElem?_eq_getElem _⟩
   have gm:=w7 (k:Int) eU;have mA:=jb hb;refine zQ 4 ?_;refine qn ?_ (hR:=hH.rows aN);simp only[List.length_map,List.length_cons,List.length_reverse];refine zQ 2 ?_;refine qD rfl (by simp) ?_;refine zQ 6 ?_;refine qn ?_ (hR:=hH.rows aN);simp only[List.length_map,List.length_cons,List.length_reverse];refine aa.eY (z:=((eU.length:Nat):Int)) rfl (ev rfl) (ev rfl) (by rw[wrap_i64 (by omega) (by omega)]<;>omega) (ab rfl _) ?_;refine qi hH aN fun PE JX=>?_;refine zQ 7 ?_;refine qn ?_ (hR:=hH.rows aN);simp only[List.length_map,List.length_cons,List.length_reverse];refine aa.eY (z:=((eU.length:Nat):Int)) rfl (ev rfl) (ev rfl) (by rw[wrap_i64 (by omega) (by omega)]<;>omega) (ab rfl _) ?_;refine aa.Em hH rfl (ev rfl) (by exact aN) rfl rfl (vd (by simp only[List.length_map,List.length_reverse,List.length_cons];omega)) ⟨(by omega),(by simp only[List.length_map,List.length_reverse,List.length_cons];omega)⟩ (fun _=>(ab rfl _)) (fun Xf hH=>?_);refine zQ 2 ?_;dsimp only[u2] at hH;rw[A5] at hH;have gC:∀w∈eU,0≤w∧w<(p.code.length:Int):=fun w hw=>hsk w (List.mem_cons_of_mem _ hw);refine zQ 5 ?_;refine qi hH bV fun SN Mk=>?_;refine zQ 2 ?_
   cases b with
   |true=>
    refine zQ 2 ?_;simp only[wV,Int.toNat_natCast,hb] at hd;exact⟨mm,by omega,⟨_,_,seen,eU,rfl,hH,hd,by omega,ka,gC,by omega⟩⟩
   |false=>
    have Kh:=count_set hb;have fy:(seen.set k true).map bE=(seen.map bE).set k [.bool true]:=by rw[List.map_set];rfl
    simp only[wV,Int.toNat_natCast,hb,hi] at hd;have QE:=hcl k i hi;have Dv:=rV k i
    have JN:∀w∈(bI k i).reverse++eU,0≤w∧w<(p.code.length:Int):=fun w hw=>by
     rcases List.mem_append.1 hw with hw|hw
     ·exact QE w (List.mem_reverse.1 hw)
     ·exact gC w hw
    have JS:(((bI k i).reverse++eU).reverse).map ax=eU.reverse.map ax++(bI k i).map ax:=by
     rw[List.reverse_append,List.reverse_reverse,List.map_append]
    have IW:=(yg (bI k i)).arg s0.bs.length S;refine zQ 6 ?_;refine qi hH bV fun XL VC=>?_;refine aa.jE hH rfl (ev rfl) (ev rfl) (by assumption) rfl rfl (by exact bV) (by assumption) (Nat.le_of_ble_eq_true rfl) (by exact .inl hF) (fun st hH=>?_);dsimp only[u2,u1,u3,u4,setMany,u5,u6,D.cells,Nat.reduceAdd,Pg.cs,aT,ax,bE] at hH;refine zQ 3 ?_;refine aa.aL (m:=2) hH rfl (ev rfl) (by exact fm) (by dsimp only[List.drop_succ_cons,List.drop_zero,List.take_succ_cons,List.take_zero,Pg.cs,aT,ax,bE]<;>rfl) rfl rfl (ab rfl _) ?_;refine qm ?_;refine qv (Hi hp hi) ?_;refine aa.cJ (s:=1) hH rfl (ev rfl) (ev rfl) (by exact aN) (by exact Arg.rows (by assumption) hH) rfl rfl rfl rfl rfl rfl rfl ⟨(Nat.le_of_ble_eq_true rfl),(Nat.le_of_ble_eq_true rfl)⟩ (fun _=>(ab rfl _)) (by simp only[List.length_map,List.length_reverse]<;>omega) (by exact .inl hF) (fun Xi st hH=>?_);dsimp only[u2,u1,u3,u4,setMany,u5,u6,D.cells,Nat.reduceAdd,Pg.cs,aT,ax,bE] at hH;refine zQ 2 ?_;exact⟨mm,by omega,⟨y,_,seen.set k true,(bI k i).reverse++eU,rfl,(by rw[JS,fy];exact hH),hd,by simp only[List.length_append,List.length_reverse];omega,by simp only[List.length_set];exact ka,JN,by omega⟩⟩
def av (fr:Go.V.Fr) (k:Nat):Go.V.D:=Go.V.nth .bj fr.loc k
noncomputable def dec (q:Prop):Bool:=@decide q (Classical.propDecidable q)
theorem bK {q:Prop} (h:q):dec q=true:=@decide_eq_true q (Classical.propDecidable q) h
theorem cq {q:Prop} (h:¬q):dec q=false:=@decide_eq_false q (Classical.propDecidable q) h
def lA (p:Pg) (r:Nat) (s:Int) (n:Nat):Prop:=∀pc i,pc<n→(ba p.code s)[pc]?=some true→p.code[pc]?=some i→i.op=7→i.x=(r:Int)
structure cL (p:Pg):Prop where
 cl:p.code.length≤400
 sl:p.aq.length≤8
 sh:∀pc i,p.code[pc]?=some i→cv p.code.length p.aq.length pc i=true
 st:∀v∈p.aq,0≤v∧v<(p.code.length:Int)
 fo:∀r s,p.aq[r]?=some s→lA p r s p.code.length
theorem ml {p:Pg} (h:∀pc i,p.code[pc]?=some i→cv p.code.length p.aq.length pc i=true):iI p.code:=
 fun pc i hi=>xf (h pc i hi)
theorem cL.closed {p:Pg} (h:cL p):iI p.code:=ml h.sh
theorem fH {a b:Int}:jq a b=true↔0≤a∧a<b:=by
 unfold jq;simp only[Bool.and_eq_true,decide_eq_true_eq,ge_iff_le]
theorem mM {s0:St} {p:Pg} (hp:p.ok):Ev pv 91 [p.d] s0 (.bool (dec (cL p))) s0:=by
 refine Ev.ia rfl RJ rfl rfl rfl ?_;refine zE ?_;obtain⟨aP,hF,hH⟩:=ri s0;generalize ae .ro s0=S at*;have hc:=hp.c.arg s0.bs.length S;have hs:=hp.s.arg s0.bs.length S;have pK:=hp.c;have hlen:=hp.cl;have L7:=hp.sl;unfold Pg.d;refine zQ 2 ?_;refine qb hH fun k1 st o6 hH=>?_;dsimp only[u2,u1,u3,u4,setMany,u5,u6,D.cells,Nat.reduceAdd,Pg.cs,aT,ax,bE] at hH;refine zQ 4 ?_;refine ak.kW 17 (.bool (decide ((p.code.length:Int)>400)||decide ((p.aq.length:Int)>8))) [8,9,10,11,12,13,14,15,16] ?_ (fun ff tmp=>?_)
 ·refine zQ 2 ?_;refine qn ?_;simp only[List.length_map];refine zQ 2 ?_;refine aa.two 12 rfl (fun ng=>?_) (fun ng=>?_)
  ·refine zQ 5 ?_;refine aa.nil (aR ?_);refine zG ?_
   all_goals(simp[ng];done)
  ·refine zQ 2 ?_;refine qn ?_ (hg:=wi ng);simp only[List.length_map];refine zQ 2 ?_;refine aa.nil (aR ?_);refine zG ?_
   all_goals(simp[ng];done)
 dsimp only[aF,List.foldl,nth,u2,u1];generalize ff 8=e8;generalize ff 9=e9;generalize ff 10=Xc;generalize ff 11=Xb;generalize ff 12=Xa;generalize ff 13=W_;generalize ff 14=W9;generalize ff 15=W8;generalize ff 16=W7;refine qc (fun h0=>?_) (fun h0=>?_)<;>try simp only[cs] at h0
 ·rw[cq (fun h=>by have:=h.cl;have:=h.sl;simp at h0;omega)];refine zQ 4 ?_;refine ak.ret ⟨rx,_,rfl,rl aP hH (rfl)⟩
 ·have h0:p.code.length≤400∧p.aq.length≤8:=by simp at h0;omega
  refine zQ 6 ?_;refine qn ?_;simp only[List.length_map];refine zQ 3 ?_;refine ak.loop (fun mm fr st=>∃(i:Nat),fr.clean=⟨49,[av fr 0,.ptr k1 0 0,.bool false,av fr 3,av fr 4,av fr 5,av fr 6,av fr 7,av fr 8,av fr 9,av fr 10,av fr 11,av fr 12,av fr 13,av fr 14,av fr 15,av fr 16,av fr 17,av fr 18,av fr 19,.int .i64 (p.code.length:Nat),.int .i64 (i:Nat),av fr 22,av fr 23,av fr 24,av fr 25,av fr 26,av fr 27,av fr 28,av fr 29,av fr 30,av fr 31,av fr 32,av fr 33,av fr 34,av fr 35,av fr 36,av fr 37,av fr 38,av fr 39,av fr 40,av fr 41,av fr 42,av fr 43,av fr 44,av fr 45,av fr 46,av fr 47,av fr 48],[]⟩∧Has s0.bs.length S st [.box k1 (.mem 0 false [p.cd,p.sd])]∧(i+mm=p.code.length)∧(∀pc q,pc<i→p.code[pc]?=some q→cv p.code.length p.aq.length pc q=true)) (p.code.length) ?_ ?_
  ·exact⟨0,rfl,hH,by omega,by intro pc q h;omega⟩
  rintro mm fr st ⟨i,hfr,hH,hi,hsh⟩;rw[hfr];clear hfr;generalize av fr=ee;clear fr;refine zQ 5 ?_;refine zP (fun h1=>?_) fun h1=>?_
  ·refine zQ 1 ?_
   obtain⟨q,hq⟩:∃q,p.code[i]?=some q:=⟨p.code[i]'(by omega),List.getElem?_eq_getElem _⟩
   refine zQ 9 ?_;refine aa.aL (m:=2) hH rfl (ev rfl) (by exact aN) (by dsimp only[List.drop_succ_cons,List.drop_zero,List.take_succ_cons,List.take_zero,Pg.cs,aT,ax,bE]<;>rfl) rfl rfl (by dsimp only[Fr.put,u1,u2]<;>rfl) ?_;refine qm ?_;refine qv (Cm (p:=p) hp hq) ?_;refine zQ 2 ?_;refine ak.cond (by rfl) (fun h2=>?_) (fun h2=>?_)<;>try simp only[Bool.not_eq_true',Bool.not_eq_false'] at h2
   ·rw[cq (fun h=>by have:=h.sh i q hq;rw[this] at h2;cases h2)];refine zQ 4 ?_;refine ak.ret ⟨rx,_,rfl,rl aP hH (rfl)⟩
   ·refine zQ 5 ?_;refine⟨mm-1,by omega,⟨i+1,rfl,hH,by omega,?_⟩⟩;intro pc q' BJ nO
    by_cases he:pc=i
    ·subst he;rw[hq] at nO;cases nO;simpa using h2
    ·exact hsh pc q' (by omega) nO
  ·refine zQ 1 ?_;have hsh:∀pc q,p.code[pc]?=some q→cv p.code.length p.aq.length pc q=true:=fun pc q hq=>hsh pc q (by have:=bo hq;omega) hq;have hcl:=ml hsh;refine zQ 5 ?_;refine qn ?_;simp only[List.length_map];refine zQ 3 ?_;refine ak.loop (fun mm fr st=>∃(r:Nat),fr.clean=⟨49,[av fr 0,.ptr k1 0 0,.bool false,av fr 3,av fr 4,av fr 5,av fr 6,av fr 7,av fr 8,av fr 9,av fr 10,av fr 11,av fr 12,av fr 13,av fr 14,av fr 15,av fr 16,av fr 17,av fr 18,av fr 19,av fr 20,av fr 21,av fr 22,av fr 23,av fr 24,av fr 25,av fr 26,av fr 27,av fr 28,av fr 29,p.sd,.int .i64 (p.aq.length:Nat),.int .i64 (r:Nat),av fr 33,av fr 34,av fr 35,av fr 36,av fr 37,av fr 38,av fr 39,av fr 40,av fr 41,av fr 42,av fr 43,av fr 44,av fr 45,av fr 46,av fr 47,av fr 48],[]⟩∧Has s0.bs.length S st [.box k1 (.mem 0 false [p.cd,p.sd])]∧(r+mm=p.aq.length)∧(∀r' s,r'<r→p.aq[r']?=some s→(0≤s∧s<(p.code.length:Int))∧lA p r' s p.code.length)) (p.aq.length) ?_ ?_
   ·exact⟨0,rfl,hH,by omega,by intro pc q h;omega⟩
   rintro mm fr st ⟨r,hfr,hH,hi,bq⟩;rw[hfr];clear hfr;generalize av fr=ee;clear fr;refine zQ 5 ?_;refine zP (fun h3=>?_) fun h3=>?_
   ·refine zQ 1 ?_
    obtain⟨s,kR⟩:∃s,p.aq[r]?=some s:=⟨p.aq[r]'(by omega),List.getElem?_eq_getElem _⟩
    have Md:=er kR;refine zQ 5 ?_;refine qr fun PE JX=>?_;refine zQ 10 ?_;refine qn ?_;simp only[List.length_map];refine qv (iL _ _) ?_;refine zQ 2 ?_;refine ak.cond (by rfl) (fun h4=>?_) (fun h4=>?_)<;>try simp only[Bool.not_eq_true',Bool.not_eq_false'] at h4
    ·rw[cq (fun h=>by have:=fH.2 (h.st s (List.mem_of_getElem? kR));rw[this] at h4;cases h4)];refine zQ 4 ?_;refine ak.ret ⟨rx,_,rfl,rl aP hH (rfl)⟩
    ·have Hy:=fH.1 (show jq s p.code.length=true by simpa using h4);refine zQ 1 ?_;have Ac:=kj p.code s;have IQ:=(mq (ba p.code s)).arg s0.bs.length S;refine zQ 5 ?_;refine qv (BZ pK hlen hcl Hy) ?_;refine qn ?_;simp only[List.length_map];refine zQ 3 ?_;refine ak.loop (fun mm fr st=>∃(i:Nat),fr.clean=⟨49,[av fr 0,.ptr k1 0 0,.bool false,av fr 3,.int .i64 (r:Nat),av fr 5,av fr 6,av fr 7,av fr 8,av fr 9,av fr 10,av fr 11,av fr 12,av fr 13,av fr 14,av fr 15,av fr 16,av fr 17,av fr 18,av fr 19,av fr 20,av fr 21,av fr 22,av fr 23,av fr 24,av fr 25,av fr 26,av fr 27,av fr 28,av fr 29,p.sd,.int .i64 (p.aq.length:Nat),.int .i64 (r:Nat),av fr 33,av fr 34,av fr 35,av fr 36,av fr 37,av fr 38,av fr 39,av fr 40,av fr 41,av fr 42,av fr 43,av fr 44,av fr 45,na (ba p.code s),.int .i64 ((ba p.code s).length:Nat),.int .i64 (i:Nat)],[]⟩∧Has s0.bs.length S st [.box k1 (.mem 0 false [p.cd,p.sd])]∧(i+mm=p.code.length)∧(lA p r s i)) (p.code.length) ?_ ?_
     ·exact⟨0,rfl,hH,by omega,by intro pc q h;omega⟩
     rintro mm fr st ⟨i,hfr,hH,hj,hom⟩;rw[hfr];clear hfr;generalize av fr=ee;clear fr;refine zQ 5 ?_;refine zP (fun h5=>?_) fun h5=>?_
     ·refine zQ 1 ?_
      obtain⟨b,hb⟩:∃b,(ba p.code s)[i]?=some b:=⟨(ba p.code s)[i]'(by omega),List.getElem?_eq_getElem _⟩
      obtain⟨q,hq⟩:∃q,p.code[i]?=some q:=⟨p.code[i]'(by omega),List.getElem?_eq_getElem _⟩
      have gm:=jb hb;have mA:=gk hq;refine zQ 5 ?_;refine qr fun SL Mi=>?_;refine zQ 5 ?_;refine ak.cY 72 (.bool ((b &&(q.op==7)) &&(q.x !=(r:Int)))) [] ?_ (fun ff tmp cx=>?_)
      ·refine zQ 2 ?_;refine aa.two 54 rfl (fun lM=>?_) (fun lM=>?_)
       ·refine zQ 3 ?_;refine qr (fun XI Vz=>?_) (hg:=wi lM);refine qf (fo:=0) (fun XH Vy=>?_) (hg:=wi lM);refine zQ 4 ?_;refine aa.two 63 rfl (fun c7=>?_) (fun c7=>?_)
        ·refine zQ 3 ?_;refine qr (fun XC Vt=>?_) (hg:=wi c7);refine qf (fo:=1) (fun Lu wc=>?_) (hg:=wi c7);refine zQ 4 ?_;refine aa.nil (aJ ?_ ?_)
         ·dsimp only[aF,List.foldl,nth,u2,u1]
          all_goals(first|rfl|simp)
         ·refine zF ?_
          all_goals(simp[lM,c7];done)
        ·refine zQ 9 ?_;refine aa.nil (aJ ?_ ?_)
         ·dsimp only[aF,List.foldl,nth,u2,u1]
          all_goals(first|rfl|simp)
         ·refine zF ?_
          all_goals(simp[lM,c7];done)
       ·refine zQ 18 ?_;refine aa.nil (aJ ?_ ?_)
        ·dsimp only[aF,List.foldl,nth,u2,u1]
         all_goals(first|rfl|simp)
        ·refine zF ?_
         all_goals(simp[lM];done)
      refine zG ?_;refine qc (fun h6=>?_) (fun h6=>?_)<;>try simp only[cs] at h6
      ·rw[cq (fun h=>by
        have h7:=h.fo r s kR i q (by omega);simp only[Bool.and_eq_true,beq_iff_eq,bne_iff_ne,ne_eq] at h6;obtain⟨⟨rfl,h8⟩,h9⟩:=h6
        exact h9 (h7 hb hq h8))]
       refine zQ 4 ?_;refine ak.ret ⟨rx,_,rfl,rl aP hH (rfl)⟩
      ·refine zQ 5 ?_;refine⟨mm-1,by omega,⟨i+1,rfl,hH,by omega,?_⟩⟩;intro pc q' BJ wb nO gb
       by_cases he:pc=i
       ·subst he;rw[hq] at nO;cases nO;rw[hb] at wb;cases wb;simp[gb] at h6;exact h6
       ·exact hom pc q' (by omega) wb nO gb
     ·refine zQ 5 ?_;refine⟨p.aq.length-(r+1),by omega,⟨r+1,rfl,hH,by omega,?_⟩⟩;intro r' s' BI nc
      by_cases he:r'=r
      ·subst he;rw[kR] at nc;cases nc;exact⟨Hy,fun pc q BJ=>hom pc q (by omega)⟩
      ·exact bq r' s' (by omega) nc
   ·refine zQ 1 ?_
    rw[bK ⟨h0.1,h0.2,hsh,fun v hv=>by
     obtain⟨r',BI⟩:=List.getElem?_of_mem hv
     exact(bq r' v (by have:=bo BI;omega) BI).1,fun r' s' nc=>(bq r' s' (by have:=bo nc;omega) nc).2⟩]
    refine zQ 4 ?_;refine ak.ret ⟨rx,_,rfl,rl aP hH (rfl)⟩
def dg (fr:Go.V.Fr) (k:Nat):Go.V.D:=Go.V.nth .bj fr.loc k
theorem nA {s0:St} {p:Pg} (hp:p.ok):Ev pv 92 [p.d] s0 (.bool (dec (cL p))) s0:=by
 refine Ev.ia rfl RI rfl rfl rfl ?_;refine zE ?_;obtain⟨aP,hF,hH⟩:=ri s0;generalize ae .ro s0=S at*;have hc:=hp.c.arg s0.bs.length S;have hs:=hp.s.arg s0.bs.length S;have pK:=hp.c;have hlen:=hp.cl;have L7:=hp.sl;unfold Pg.d;refine zQ 2 ?_;refine qb hH fun k1 st o6 hH=>?_;dsimp only[u2,u1,u3,u4,setMany,u5,u6,D.cells,Nat.reduceAdd,Pg.cs,aT,ax,bE] at hH;refine zQ 4 ?_;refine ak.cY 17 (.bool (decide ((p.code.length:Int)>400)||decide ((p.aq.length:Int)>8))) [] ?_ (fun ff tmp cx=>?_)
 ·refine zQ 2 ?_;refine qn ?_;simp only[List.length_map];refine zQ 2 ?_;refine aa.two 12 rfl (fun ng=>?_) (fun ng=>?_)
  ·refine zQ 5 ?_;refine aa.nil (aJ ?_ ?_)
   ·dsimp only[aF,List.foldl,nth,u2,u1]
    all_goals(first|rfl|simp)
   ·refine zF ?_
    all_goals(simp[ng];done)
  ·refine zQ 2 ?_;refine qn ?_ (hg:=wi ng);simp only[List.length_map];refine zQ 2 ?_;refine aa.nil (aJ ?_ ?_)
   ·dsimp only[aF,List.foldl,nth,u2,u1]
    all_goals(first|rfl|simp)
   ·refine zF ?_
    all_goals(simp[ng];done)
 dsimp only[aF,List.foldl,nth,u2,u1];refine qc (fun h0=>?_) (fun h0=>?_)<;>try simp only[cs] at h0
 ·rw[cq (fun h=>by have:=h.cl;have:=h.sl;simp at h0;omega)];refine zQ 4 ?_;refine ak.ret ⟨rx,_,rfl,rl aP hH (rfl)⟩
 ·have h0:p.code.length≤400∧p.aq.length≤8:=by simp at h0;omega
  refine zQ 7 ?_;refine ak.loop (fun mm fr st=>∃(i:Nat),fr.clean=⟨8,[dg fr 0,.ptr k1 0 0,.bool false,.int .i64 (i:Nat),dg fr 4,dg fr 5,dg fr 6,dg fr 7],[]⟩∧Has s0.bs.length S st [.box k1 (.mem 0 false [p.cd,p.sd])]∧(i+mm=p.code.length)∧(∀pc q,pc<i→p.code[pc]?=some q→cv p.code.length p.aq.length pc q=true)) (p.code.length) ?_ ?_
  ·exact⟨0,rfl,hH,by omega,by intro pc q h;omega⟩
  rintro mm fr st ⟨i,hfr,hH,hi,hsh⟩;rw[hfr];clear hfr;generalize dg fr=ee;clear fr;refine zQ 6 ?_;refine qn ?_;simp only[List.length_map];refine zQ 2 ?_;refine zP (fun h1=>?_) fun h1=>?_
  ·refine zQ 1 ?_
   obtain⟨q,hq⟩:∃q,p.code[i]?=some q:=⟨p.code[i]'(by omega),List.getElem?_eq_getElem _⟩
   refine zQ 4 ?_;refine aa.aL (m:=2) hH rfl (ev rfl) (by exact aN) (by dsimp only[List.drop_succ_cons,List.drop_zero,List.take_succ_cons,List.take_zero,Pg.cs,aT,ax,bE]<;>rfl) rfl rfl (ab rfl _) ?_;refine qm ?_;refine qv (JA (p:=p) hp hq) ?_;refine zQ 2 ?_;refine ak.cond (by rfl) (fun h2=>?_) (fun h2=>?_)<;>try simp only[Bool.not_eq_true',Bool.not_eq_false'] at h2
   ·rw[cq (fun h=>by have:=h.sh i q hq;rw[this] at h2;cases h2)];refine zQ 4 ?_;refine ak.ret ⟨rx,_,rfl,rl aP hH (rfl)⟩
   ·refine zQ 6 ?_;refine⟨mm-1,by omega,⟨i+1,rfl,hH,by omega,?_⟩⟩;intro pc q' BJ nO
    by_cases he:pc=i
    ·subst he;rw[hq] at nO;cases nO;simpa using h2
    ·exact hsh pc q' (by omega) nO
  ·refine zQ 1 ?_;have hsh:∀pc q,p.code[pc]?=some q→cv p.code.length p.aq.length pc q=true:=fun pc q hq=>hsh pc q (by have:=bo hq;omega) hq;have hcl:=ml hsh;refine zQ 6 ?_;refine ak.loop (fun mm fr st=>∃(r:Nat),fr.clean=⟨8,[dg fr 0,.ptr k1 0 0,.bool false,dg fr 3,.int .i64 (r:Nat),dg fr 5,dg fr 6,dg fr 7],[]⟩∧Has s0.bs.length S st [.box k1 (.mem 0 false [p.cd,p.sd])]∧(r+mm=p.aq.length)∧(∀r' s,r'<r→p.aq[r']?=some s→0≤s∧s<(p.code.length:Int))) (p.aq.length) ?_ ?_
   ·exact⟨0,rfl,hH,by omega,by intro pc q h;omega⟩
   rintro mm fr st ⟨r,hfr,hH,hi,bq⟩;rw[hfr];clear hfr;generalize dg fr=ee;clear fr;refine zQ 6 ?_;refine qn ?_;simp only[List.length_map];refine zQ 2 ?_;refine zP (fun h3=>?_) fun h3=>?_
   ·refine zQ 1 ?_
    obtain⟨s,kR⟩:∃s,p.aq[r]?=some s:=⟨p.aq[r]'(by omega),List.getElem?_eq_getElem _⟩
    have Md:=er kR;refine zQ 3 ?_;refine ak.cY 52 (.bool (decide (s<0)||decide (s≥p.code.length))) [] ?_ (fun ff tmp cx=>?_)
    ·refine zQ 3 ?_;refine qr fun SO Ml=>?_;refine zQ 3 ?_;refine aa.two 42 rfl (fun ju=>?_) (fun ju=>?_)
     ·refine zQ 10 ?_;refine aa.nil (aJ ?_ ?_)
      ·dsimp only[aF,List.foldl,nth,u2,u1]
       all_goals(first|rfl|simp)
      ·refine zF ?_
       all_goals(simp[ju];done)
     ·refine zQ 3 ?_;refine qr (fun XM VD=>?_) (hg:=wi ju);refine zQ 3 ?_;refine qn ?_ (hg:=wi ju);simp only[List.length_map];refine zQ 2 ?_;refine aa.nil (aJ ?_ ?_)
      ·dsimp only[aF,List.foldl,nth,u2,u1]
       all_goals(first|rfl|simp)
      ·refine zF ?_
       all_goals(simp[ju];done)
    refine zG ?_;refine qc (fun h4=>?_) (fun h4=>?_)<;>try simp only[cs] at h4
    ·rw[cq (fun h=>by have:=h.st s (List.mem_of_getElem? kR);simp at h4;omega)];refine zQ 4 ?_;refine ak.ret ⟨rx,_,rfl,rl aP hH (rfl)⟩
    ·have Hy:0≤s∧s<(p.code.length:Int):=by simp at h4;omega
     refine zQ 6 ?_;refine⟨mm-1,by omega,⟨r+1,rfl,hH,by omega,?_⟩⟩;intro r' s' BI nc
     by_cases he:r'=r
     ·subst he;rw[kR] at nc;cases nc;exact Hy
     ·exact bq r' s' (by omega) nc
   ·refine zQ 1 ?_
    have bq:∀v∈p.aq,0≤v∧v<(p.code.length:Int):=fun v hv=>by
     obtain⟨r',BI⟩:=List.getElem?_of_mem hv;exact bq r' v (by have:=bo BI;omega) BI
    refine zQ 6 ?_;refine ak.loop (fun mm fr st=>∃(r:Nat),fr.clean=⟨8,[dg fr 0,.ptr k1 0 0,.bool false,dg fr 3,dg fr 4,.int .i64 (r:Nat),dg fr 6,dg fr 7],[]⟩∧Has s0.bs.length S st [.box k1 (.mem 0 false [p.cd,p.sd])]∧(r+mm=p.aq.length)∧(∀r' s,r'<r→p.aq[r']?=some s→lA p r' s p.code.length)) (p.aq.length) ?_ ?_
    ·exact⟨0,rfl,hH,by omega,by intro pc q h;omega⟩
    rintro mm fr st ⟨r,hfr,hH,hi,hfo⟩;rw[hfr];clear hfr;generalize dg fr=ee;clear fr;refine zQ 6 ?_;refine qn ?_;simp only[List.length_map];refine zQ 2 ?_;refine zP (fun h5=>?_) fun h5=>?_
    ·refine zQ 1 ?_
     obtain⟨s,kR⟩:∃s,p.aq[r]?=some s:=⟨p.aq[r]'(by omega),List.getElem?_eq_getElem _⟩
     have hR:kl p (r:Nat)=ba p.code s:=by
      unfold kl;rw[if_pos (fH.2 ⟨by omega,by omega⟩),Int.toNat_natCast,List.getD_eq_getElem?_getD,kR];rfl
     have Ac:=kj p.code s;have IQ:=(mq (ba p.code s)).arg s0.bs.length S;refine zQ 4 ?_;refine aa.aL (m:=2) hH rfl (ev rfl) (by exact aN) (by dsimp only[List.drop_succ_cons,List.drop_zero,List.take_succ_cons,List.take_zero,Pg.cs,aT,ax,bE]<;>rfl) rfl rfl (ab rfl _) ?_;refine qm ?_;refine qv ((hR▸px (p:=p) (kh:=(r:Nat)) hp hcl bq)) ?_;refine zQ 7 ?_;refine ak.loop (fun mm fr st=>∃(i:Nat),fr.clean=⟨8,[dg fr 0,.ptr k1 0 0,.bool false,dg fr 3,dg fr 4,.int .i64 (r:Nat),na (ba p.code s),.int .i64 (i:Nat)],[]⟩∧Has s0.bs.length S st [.box k1 (.mem 0 false [p.cd,p.sd])]∧(i+mm=p.code.length)∧(lA p r s i)) (p.code.length) ?_ ?_
     ·exact⟨0,rfl,hH,by omega,by intro pc q h;omega⟩
     rintro mm fr st ⟨i,hfr,hH,hj,hom⟩;rw[hfr];clear hfr;generalize dg fr=ee;clear fr;refine zQ 6 ?_;refine qn ?_;simp only[List.length_map];refine zQ 2 ?_;refine zP (fun h7=>?_) fun h7=>?_
     ·refine zQ 1 ?_
      obtain⟨b,hb⟩:∃b,(ba p.code s)[i]?=some b:=⟨(ba p.code s)[i]'(by omega),List.getElem?_eq_getElem _⟩
      obtain⟨q,hq⟩:∃q,p.code[i]?=some q:=⟨p.code[i]'(by omega),List.getElem?_eq_getElem _⟩
      have gm:=jb hb;have mA:=gk hq;refine zQ 3 ?_;refine ak.cY 92 (.bool ((b &&(q.op==7)) &&(q.x !=(r:Int)))) [] ?_ (fun ff tmp cx=>?_)
      ·refine zQ 2 ?_;refine qr fun Uk Qo=>?_;refine zQ 2 ?_;refine aa.two 74 rfl (fun ng=>?_) (fun ng=>?_)
       ·refine zQ 3 ?_;refine qr (fun Xy Vp=>?_) (hg:=wi ng);refine qf (fo:=0) (fun OS HE=>?_) (hg:=wi ng);refine zQ 4 ?_;refine aa.two 83 rfl (fun d_=>?_) (fun d_=>?_)
        ·refine zQ 3 ?_;refine qr (fun Xu Vl=>?_) (hg:=wi d_);refine qf (fo:=1) (fun Xt Vk=>?_) (hg:=wi d_);refine zQ 4 ?_;refine aa.nil (aJ ?_ ?_)
         ·dsimp only[aF,List.foldl,nth,u2,u1]
          all_goals(first|rfl|simp)
         ·refine zF ?_
          all_goals(simp[ng,d_];done)
        ·refine zQ 9 ?_;refine aa.nil (aJ ?_ ?_)
         ·dsimp only[aF,List.foldl,nth,u2,u1]
          all_goals(first|rfl|simp)
         ·refine zF ?_
          all_goals(simp[ng,d_];done)
       ·refine zQ 18 ?_;refine aa.nil (aJ ?_ ?_)
        ·dsimp only[aF,List.foldl,nth,u2,u1]
         all_goals(first|rfl|simp)
        ·refine zF ?_
         all_goals(simp[ng];done)
      refine zG ?_;refine qc (fun h6=>?_) (fun h6=>?_)<;>try simp only[cs] at h6
      ·rw[cq (fun h=>by
        have h7:=h.fo r s kR i q (by omega);simp only[Bool.and_eq_true,beq_iff_eq,bne_iff_ne,ne_eq] at h6;obtain⟨⟨rfl,h8⟩,h9⟩:=h6
        exact h9 (h7 hb hq h8))]
       refine zQ 4 ?_;refine ak.ret ⟨rx,_,rfl,rl aP hH (rfl)⟩
      ·refine zQ 6 ?_;refine⟨mm-1,by omega,⟨i+1,rfl,hH,by omega,?_⟩⟩;intro pc q' BJ wb nO gb
       by_cases he:pc=i
       ·subst he;rw[hq] at nO;cases nO;rw[hb] at wb;cases wb;simp[gb] at h6;exact h6
       ·exact hom pc q' (by omega) wb nO gb
     ·refine zQ 6 ?_;refine⟨p.aq.length-(r+1),by omega,⟨r+1,rfl,hH,by omega,?_⟩⟩;intro r' s' BI nc
      by_cases he:r'=r
      ·subst he;rw[kR] at nc;cases nc;exact fun pc q BJ=>hom pc q (by omega)
      ·exact hfo r' s' (by omega) nc
    ·refine zQ 1 ?_;rw[bK ⟨h0.1,h0.2,hsh,bq,fun r' s' nc=>hfo r' s' (by have:=bo nc;omega) nc⟩];refine zQ 4 ?_;refine ak.ret ⟨rx,_,rfl,rl aP hH (rfl)⟩
def rR:Nat→List Bool→List Int
 |_,[]=>[]
 |i,b::l=>(if b then[(i:Int)] else[])++rR (i+1) l
noncomputable def rJ (p:Pg) (kh:Int):List Int:=if dec (cL p) &&jq kh p.aq.length then rR 0 (ba p.code (p.aq.getD kh.toNat 0)) else[]
def mK (i:aK):aK:=⟨i.op,i.x,i.y,.sl ((i.rs.map au).map (j7 2)),i.rs⟩
structure dI where
 op:Int
 rd:D
 rs:List Rg
 mn:Int
 mx:Int
 lz:Bool
 cap:Int
 kids:Int
def bf (n:dI):List D:=[.int .i64 n.op,n.rd,.int .i64 n.mn,.int .i64 n.mx,.bool n.lz,.int .i64 n.cap,.int .i64 n.kids]
def dI.ok (n:dI):Prop:=gd n.rd 2 (n.rs.map au)∧n.rs.length≤1048576∧n.kids≤9223372036854775807
structure Nl where
 d:D
 l:List dI
structure Nl.ok (x:Nl):Prop where
 c:gd x.d 7 (x.l.map bf)
 i:∀n∈x.l,n.ok
 nl:x.l.length≤1048576
theorem l_ {l:List dI} {i:Nat} {q:dI} (h:l[i]?=some q):(l.map bf)[i]?=some (bf q):=by rw[List.getElem?_map,h];rfl
mutual
inductive Tr where
 |mk (n:dI) (ks:bD)
inductive bD where
 |nil
 |cons (t:Tr) (ts:bD)
end
def bD.len:bD→Nat
 | .nil=>0
 | .cons _ ts=>ts.len+1
mutual
def Tr.flat:Tr→List dI
 | .mk n ks=>n::ks.flat
def bD.flat:bD→List dI
 | .nil=>[]
 | .cons t ts=>t.flat++ts.flat
end
def xV (n:dI) (nk:Nat):Prop:=
 n.kids=(nk:Int)∧(((n.op=1∨n.op=7∨n.op=8)∧nk=0)∨(n.op=2∧nk=0)∨((n.op=3∨n.op=4)∧2≤nk)∨
  (n.op=5∧nk=1∧0≤n.mn∧n.mn≤30∧(n.mx=-1∨(n.mn≤n.mx∧n.mx≤30)))∨(n.op=6∧nk=1∧1≤n.cap∧n.cap≤4))
mutual
def Tr.ok:Tr→Prop
 | .mk n ks=>xV n ks.len∧ks.ok
def bD.ok:bD→Prop
 | .nil=>True
 | .cons t ts=>t.ok∧ts.ok
end
def bH (n:dI) (s k:Nat):Nat:=
 if n.op=2∨n.op=7∨n.op=8 then 1
 else if n.op=4 then s+2*(k-1)
 else if n.op=6 then s+2
 else if n.op=5 then(if n.mx=-1 then n.mn.toNat*s+s+2 else n.mn.toNat*s+(n.mx.toNat-n.mn.toNat)*(s+1))
 else s
mutual
def Tr.sz:Tr→Nat
 | .mk n ks=>bH n ks.sz ks.len
def bD.sz:bD→Nat
 | .nil=>0
 | .cons t ts=>t.sz+ts.sz
end
def de (op x y:Int) (rs:List Rg):aK:=⟨op,x,y,.sl ((rs.map au).map (j7 2)),rs⟩
def ox (s o:Nat) (lz:Bool):aK:=if lz=true then de 2 (o:Nat) ((s+1:Nat):Int) [] else de 2 ((s+1:Nat):Int) (o:Nat) []
def nK (e:Nat):aK:=de 3 (e:Nat) 0 []
def fO (c:Nat→List aK) (z:Nat):Nat→Nat→List aK
 |0,_=>[]
 |k+1,b=>c b++fO c z k (b+z)
def fx (sp:Nat→aK) (c:Nat→List aK) (z:Nat):Nat→Nat→List aK
 |0,_=>[]
 |k+1,b=>sp b::(c (b+1)++fx sp c z k (b+1+z))
def xM (z:Nat):Nat→Nat→List Nat
 |0,_=>[]
 |k+1,b=>b::xM z k (b+1+z)
def oB (n:dI) (c:Nat→List aK) (z b:Nat):List aK:=
 if n.mx=-1 then fO c z n.mn.toNat b++(ox (b+n.mn.toNat*z) (b+n.mn.toNat*z+z+2) n.lz::(c (b+n.mn.toNat*z+1)++[nK (b+n.mn.toNat*z)]))
 else fO c z n.mn.toNat b++fx (fun s=>ox s (b+n.mn.toNat*z+(n.mx.toNat-n.mn.toNat)*(z+1)) n.lz) c z (n.mx.toNat-n.mn.toNat) (b+n.mn.toNat*z)
mutual
def aO:Tr→Nat→List aK
 | .mk n ks,b=>
  if n.op=2 then[de 1 0 0 n.rs]
  else if n.op=7 then[de 5 0 0 []]
  else if n.op=8 then[de 6 0 0 []]
  else if n.op=3 then gp ks b
  else if n.op=4 then eT (nK (b+bH n ks.sz ks.len)) ks b
  else if n.op=5 then oB n (gp ks) ks.sz b
  else if n.op=6 then de 4 (2*n.cap) 0 []::(gp ks (b+1)++[de 4 (2*n.cap+1) 0 []])
  else[]
def gp:bD→Nat→List aK
 | .nil,_=>[]
 | .cons t ts,b=>aO t b++gp ts (b+t.sz)
def eT (jp:aK):bD→Nat→List aK
 | .nil,_=>[]
 | .cons t ts,b=>if ts.len=0 then aO t b else ox b (b+1+t.sz+1) false::(aO t (b+1)++jp::eT jp ts (b+t.sz+2))
end
def te:bD→Nat→List Nat
 | .nil,_=>[]
 | .cons t ts,b=>if ts.len=0 then[] else(b+1+t.sz)::te ts (b+t.sz+2)
theorem jQ {c:Nat→List aK} {z:Nat} (hc:∀b,(c b).length=z):∀k b,(fO c z k b).length=k*z
 |0,b=>by simp[fO]
 |k+1,b=>by rw[fO,List.length_append,hc,jQ hc k,Nat.add_mul];omega
theorem rM {sp:Nat→aK} {c:Nat→List aK} {z:Nat} (hc:∀b,(c b).length=z):∀k b,(fx sp c z k b).length=k*(z+1)
 |0,b=>by simp[fx]
 |k+1,b=>by rw[fx,List.length_cons,List.length_append,hc,rM hc k,Nat.add_mul];omega
theorem D2 {n:dI} {c:Nat→List aK} {z b:Nat} (hc:∀b,(c b).length=z) (h:n.op=5):(oB n c z b).length=bH n z 1:=by
 unfold oB bH;rw[if_neg (show¬(n.op=2∨n.op=7∨n.op=8) by omega),if_neg (show¬n.op=4 by omega),if_neg (show¬n.op=6 by omega),if_pos h]
 split
 ·rw[List.length_append,jQ hc,List.length_cons,List.length_append,hc];simp only[List.length_cons,List.length_nil];omega
 ·rw[List.length_append,jQ hc,rM hc]
theorem bD.Bv {ks:bD} (h:ks.len=1):∃t,ks=.cons t .nil:=by
 cases ks with
 |nil=>simp[bD.len] at h
 |cons t ts=>cases ts with
  |nil=>exact⟨t,rfl⟩
  |cons u us=>simp[bD.len] at h
theorem bD.len_nil {ks:bD} (h:ks.len=0):ks=.nil:=by
 cases ks with
 |nil=>rfl
 |cons t ts=>simp[bD.len] at h
mutual
theorem cG:∀(t:Tr) (b:Nat),t.ok→(aO t b).length=t.sz
 | .mk n ks,b,h=>by
  simp only[Tr.ok] at h;obtain⟨h1,h2⟩:=h;have hc:=fun b=>n9 ks b h2;have ha:=fun jp b=>tb jp ks b h2;simp only[aO,Tr.sz];obtain⟨_,⟨h3,h4⟩|⟨h3,h4⟩|⟨h3,h4⟩|⟨h3,h4,h5⟩|⟨h3,h4,h5⟩⟩:=h1
  ·have hk:=bD.len_nil h4;subst hk
   by_cases q7:n.op=7
   ·simp[q7,bH]
   ·by_cases q8:n.op=8
    ·simp[q8,bH]
    ·have q1:n.op=1:=by omega
     simp[q1,bH,bD.sz]
  ·simp[h3,bH]
  ·rcases h3 with h3|h3
   ·simp[h3,bH,hc]
   ·simp[h3,bH,ha]
  ·have:=D2 (n:=n) (b:=b) hc h3;simp only[h3] at this⊢;simp only[show¬((5:Int)=2) by decide,show¬((5:Int)=7) by decide,show¬((5:Int)=8) by decide,show¬((5:Int)=3) by decide,show¬((5:Int)=4) by decide,if_false,if_true];rw[this,h4]
  ·simp[h3,bH,hc]
theorem n9:∀(ts:bD) (b:Nat),ts.ok→(gp ts b).length=ts.sz
 | .nil,b,_=>by simp[gp,bD.sz]
 | .cons t ts,b,h=>by
  simp only[bD.ok] at h;simp only[gp,bD.sz,List.length_append];rw[cG t b h.1,n9 ts _ h.2]
theorem tb (jp:aK):∀(ts:bD) (b:Nat),ts.ok→(eT jp ts b).length=ts.sz+2*(ts.len-1)
 | .nil,b,_=>by simp[eT,bD.sz,bD.len]
 | .cons t ts,b,h=>by
  simp only[bD.ok] at h;have h1:=tb jp ts (b+t.sz+2) h.2;simp only[eT,bD.sz,bD.len]
  by_cases q:ts.len=0
  ·rw[if_pos q,cG t b h.1,q];have:=bD.len_nil q;subst this;simp[bD.sz]
  ·rw[if_neg q,List.length_cons,List.length_append,List.length_cons,cG t _ h.1,h1];omega
end
def iO (f:Nat→aK) (c:List aK) (l:List Nat):List aK:=l.foldl (fun c j=>c.set j (f j)) c
theorem qK {α:Type} (pre post:List α) (x y:α):(pre++x::post).set pre.length y=pre++y::post:=by
 rw[List.set_append_right _ _ (Nat.le_refl _),Nat.sub_self];rfl
theorem ra {α:Type} (pre post:List α) (x:α):(pre++x::post)[pre.length]?=some x:=by
 rw[List.getElem?_append_right (Nat.le_refl _),Nat.sub_self];rfl
theorem oK {sp:Nat→aK} {c:Nat→List aK} {z:Nat} (hc:∀b,(c b).length=z) {i0:aK}:∀(k b:Nat) (pre post:List aK),pre.length=b→iO sp (pre++fx (fun _=>i0) c z k b++post) (xM z k b)=pre++fx sp c z k b++post∧∀j∈xM z k b,(pre++fx (fun _=>i0) c z k b++post)[j]?=some i0
 |0,b,pre,post,_=>⟨rfl,fun j hj=>by cases hj⟩
 |k+1,b,pre,post,h=>by
  have ih:=oK (sp:=sp) hc (i0:=i0) k (b+1+z) (pre++i0::c (b+1)) post (by rw[List.length_append,List.length_cons,hc];omega);have BE:=oK (sp:=sp) hc (i0:=i0) k (b+1+z) (pre++sp b::c (b+1)) post (by rw[List.length_append,List.length_cons,hc];omega);simp only[fx,xM];have e:pre++i0::(c (b+1)++fx (fun _=>i0) c z k (b+1+z))++post=pre++i0::(c (b+1)++fx (fun _=>i0) c z k (b+1+z)++post):=by simp
  have e2:pre++i0::c (b+1)++fx (fun _=>i0) c z k (b+1+z)++post=pre++i0::(c (b+1)++fx (fun _=>i0) c z k (b+1+z)++post):=by simp
  refine⟨?_,fun j hj=>?_⟩
  ·unfold iO at BE⊢;rw[List.foldl_cons,e]
   have hs:(pre++i0::(c (b+1)++fx (fun _=>i0) c z k (b+1+z)++post)).set b (sp b)=pre++sp b::c (b+1)++fx (fun _=>i0) c z k (b+1+z)++post:=by
    rw[←h,qK];simp
   rw[hs,BE.1];simp
  ·rw[e]
   rcases List.mem_cons.1 hj with rfl|hj
   ·rw[←h];exact ra _ _ _
   ·rw[←e2];exact ih.2 j hj
theorem pe {jp i0:aK}:∀(ts:bD) (b:Nat) (pre post:List aK),ts.ok→pre.length=b→iO (fun _=>jp) (pre++eT i0 ts b++post) (te ts b)=pre++eT jp ts b++post∧∀j∈te ts b,(pre++eT i0 ts b++post)[j]?=some i0
 | .nil,b,pre,post,_,_=>⟨by simp[eT,te,iO],fun j hj=>by simp[te] at hj⟩
 | .cons t ts,b,pre,post,bq,h=>by
  simp only[bD.ok] at bq
  by_cases q:ts.len=0
  ·simp only[eT,te,if_pos q];exact⟨rfl,fun j hj=>by cases hj⟩
  ·simp only[eT,te,if_neg q];generalize ox b (b+1+t.sz+1) false=sp;have hcl:=cG t (b+1) bq.1;have ih:=pe (jp:=jp) (i0:=i0) ts (b+t.sz+2) (pre++sp::(aO t (b+1)++[i0])) post bq.2 (by simp only[List.length_append,List.length_cons,List.length_nil,hcl];omega);have BE:=pe (jp:=jp) (i0:=i0) ts (b+t.sz+2) (pre++sp::(aO t (b+1)++[jp])) post bq.2 (by simp only[List.length_append,List.length_cons,List.length_nil,hcl];omega);generalize eT i0 ts (b+t.sz+2)=A at*;have e:pre++sp::(aO t (b+1)++i0::A)++post=(pre++sp::aO t (b+1))++i0::(A++post):=by simp
   have hl:(pre++sp::aO t (b+1)).length=b+1+t.sz:=by simp only[List.length_append,List.length_cons,hcl];omega
   refine⟨?_,fun j hj=>?_⟩
   ·unfold iO at BE⊢;rw[List.foldl_cons,e,←hl,qK];have:=BE.1;simp only[List.append_assoc,List.cons_append,List.nil_append] at this⊢;exact this
   ·rw[e]
    rcases List.mem_cons.1 hj with rfl|hj
    ·rw[←hl];exact ra _ _ _
    ·have:=ih.2 j hj;simp only[List.append_assoc,List.cons_append,List.nil_append] at this⊢;exact this
def ga {α:Type} (L:List α) (at_:Nat) (M:List α):Prop:=∃post,L.drop at_=M++post
theorem ga.head {α:Type} {L M:List α} {a:α} {at_:Nat} (h:ga L at_ (a::M)):L[at_]?=some a:=by
 obtain⟨post,h⟩:=h;have:=congrArg (·[0]?) h
 simpa using this
theorem ga.tail {α:Type} {L M:List α} {a:α} {at_:Nat} (h:ga L at_ (a::M)):ga L (at_+1) M:=by
 obtain⟨post,h⟩:=h;refine⟨post,?_⟩;rw[←List.drop_drop,h];rfl
theorem ga.left {α:Type} {L M M':List α} {at_:Nat} (h:ga L at_ (M++M')):ga L at_ M:=by
 obtain⟨post,h⟩:=h;exact⟨M'++post,by rw[h,List.append_assoc]⟩
theorem ga.right {α:Type} {L M M':List α} {at_:Nat} (h:ga L at_ (M++M')):ga L (at_+M.length) M':=by
 obtain⟨post,h⟩:=h;refine⟨post,?_⟩;rw[←List.drop_drop,h,List.append_assoc,List.drop_left]
theorem ga.le {α:Type} {L M:List α} {at_:Nat} (h:ga L at_ M) (hM:M≠[]):at_+M.length≤L.length:=by
 obtain⟨post,h⟩:=h;have:=congrArg List.length h;simp only[List.length_drop,List.length_append] at this
 have:0<M.length:=by cases M with|nil=>exact absurd rfl hM|cons _ _=>simp
 omega
theorem ga.all {α:Type} (L:List α):ga L 0 L:=⟨[],by simp⟩
mutual
def Tr.zs:Tr→List Int
 | .mk n ks=>((min (bH n ks.sz ks.len) 401:Nat):Int)::ks.zs
def bD.zs:bD→List Int
 | .nil=>[]
 | .cons t ts=>t.zs++ts.zs
end
mutual
def Tr.es:Tr→Nat→List Int
 | .mk n ks,at_=>((at_+1+ks.flat.length:Nat):Int)::ks.es (at_+1)
def bD.es:bD→Nat→List Int
 | .nil,_=>[]
 | .cons t ts,at_=>t.es at_++ts.es (at_+t.flat.length)
end
mutual
theorem Tr.jB:∀t:Tr,t.zs.length=t.flat.length
 | .mk n ks=>by simp[Tr.zs,Tr.flat,bD.jB ks]
theorem bD.jB:∀ts:bD,ts.zs.length=ts.flat.length
 | .nil=>rfl
 | .cons t ts=>by simp[bD.zs,bD.flat,Tr.jB t,bD.jB ts]
end
mutual
theorem Tr.jG:∀(t:Tr) (a:Nat),(t.es a).length=t.flat.length
 | .mk n ks,a=>by simp[Tr.es,Tr.flat,bD.jG ks]
theorem bD.jG:∀(ts:bD) (a:Nat),(ts.es a).length=ts.flat.length
 | .nil,_=>rfl
 | .cons t ts,a=>by simp[bD.es,bD.flat,Tr.jG t,bD.jG ts]
end
theorem Tr.i7 (t:Tr):0<t.flat.length:=by cases t;simp[Tr.flat]
theorem bD.oS:∀ts:bD,ts.len≤ts.flat.length
 | .nil=>Nat.le_refl _
 | .cons t ts=>by
  have h1:=bD.oS ts;have h2:=t.i7;simp only[bD.len,bD.flat,List.length_append];omega
end Go.Proofs.YtecjacicdpejaaaGreat
namespace Go.V
variable{N:Nat} {S st:St} {H:List a_}
theorem cy.at_ {α β:Type} {R:α→β→Prop}:∀{l:List α} {m:List β} {i:Nat} {b:β},cy R l m→m[i]?=some b→∃a,l[i]?=some a∧R a b
 |_,_,_,_,.nil,h=>by simp at h
 |_,_,0,_,.cons a t,h=>by simp only[List.getElem?_cons_zero,Option.some.injEq] at h;subst h;exact⟨_,rfl,a⟩
 |_,_,i+1,_,.cons a t,h=>by simp only[List.getElem?_cons_succ] at h⊢;exact t.at_ h
theorem cy.set {α β:Type} {R:α→β→Prop} {a:α} {b:β} (r:R a b):∀{l:List α} {m:List β} (i:Nat),cy R l m→cy R (l.set i a) (m.set i b)
 |_,_,_,.nil=>.nil
 |_,_,0,.cons _ t=>.cons r t
 |_,_,i+1,.cons h t=>.cons h (t.set r i)
theorem cy.setMany {R:D→D→Prop}:∀{xs ys:List D} {c d:List D} (o:Nat),cy R xs ys→cy R c d→cy R (setMany c o xs) (setMany d o ys)
 |_,_,_,_,_,.nil,h=>h
 |_,_,_,_,o,.cons r t,h=>by simp only[Go.V.setMany];exact t.setMany (o+1) (h.set r o)
theorem cy.same {R:D→D→Prop}:∀{l:List D},(∀d∈l,R d d)→cy R l l
 |[],_=>.nil
 |d::l,h=>.cons (h d (List.mem_cons_self ..)) (cy.same fun x hx=>h x (List.mem_cons_of_mem _ hx))
theorem Has.OI {j:Nat} {x:D} {s:Nat} {ks:Nat→Prop} {vs:List (List D)} (hH:Has N S st H) (hj:H[j]?=some (.deep ks x s vs)):∃es,Rows st s x es∧es.length=vs.length:=by
 obtain⟨⟨es,h1,h2⟩,_⟩:=(hH.ok j _ hj).1;exact⟨es,h1.rows,h2.len⟩
theorem Has.Sf {j k az off len s:Nat} {ks:Nat→Prop} {vs:List (List D)} {i o:Nat} {v cs:List D} (h:Has N S st H) (hj:H[j]?=some (.deep ks (.win k az off len s) s vs)) (hi:vs[i]?=some v) (hl:o+cs.length≤s) (hp:∀d∈cs,ck d=true) (hw:S.flr≤N∨refs cs=0):
  ∃ah,st.wr k az (off+i*s+o) cs=some ah∧Has N S ah (H.set j (.deep ks (.win k az off len s) s (vs.set i (setMany v o cs)))):=by
 obtain⟨⟨es,gB,tu⟩,he3⟩:=(h.ok j _ hj).1;have hK:=(h.ok j _ hj).2;obtain⟨e,Wr,aB⟩:=tu.at_ hi
 have Kr:Has N S st [.aC (.win k az off len s) s es]:=by
  refine⟨h.ex,h.hN,h.di,fun i e hi=>?_,fun i i' a b hii ha hb k nP ib=>?_⟩
  ·cases i with
   |zero=>simp only[List.getElem?_cons_zero,Option.some.injEq] at hi;subst hi;exact⟨gB,fun k hk=>hK k (.inl hk)⟩
   |succ i=>simp at hi
  ·cases i with
   |zero=>cases i' with
    |zero=>exact hii rfl
    |succ i'=>simp at hb
   |succ i=>simp at ha
 obtain⟨ah,q1,q2⟩:=Kr.Bc (j:=0) aN Wr hl hw;refine⟨ah,q1,?_⟩;have hown:=q2.own (j:=0) aN
 have MW:(∀n,n≠k→ah.bs[n]?=st.bs[n]?)∧st.bs.length=ah.bs.length∧ah.flr=st.flr∧ah.ro=st.ro:=by
  unfold St.wr at q1
  split at q1
  ·split at q1
   ·cases q1;exact⟨fun n hn=>by simp only;rw[List.getElem?_set_ne (fun e=>hn e.symm)],by simp,rfl,rfl⟩
   ·cases q1
  ·cases q1
 obtain⟨c1,c2,c3,c4⟩:=MW;have hkk:=hK k (.inl (by simp only[D.ref]));have hne:∀n,ks n→n≠k:=fun n hn e=>he3 k (by simp only[D.ref]) (e▸hn);have pH:∀n,ks n→ah.bs[n]?=st.bs[n]?:=fun n hn=>c1 n (hne n hn);refine h.A2 hj (fun n hn hnot=>c1 n fun e=>hnot (.inl (by simp only[D.ref];omega))) (Nat.le_of_eq c2) c3 c4 ⟨⟨_,hown,?_⟩,he3⟩ (fun n hn=>.inl hn) fun n hn=>?_
 ·refine cy.set ?_ i (tu.mono fun a b=>cy.mono fun c d=>dL.move pH);exact(cy.same fun d hd=>.plain d (hp d hd)).setMany o (aB.mono fun c d=>dL.move pH)
 ·rw[←c2];exact(hK n hn).2
variable{P:Pv} {ops:Array Oper} {rest:List Oper} {fr aE:Fr} {Q:Fr→St→Prop} {ty:TypeId} {pp:String} {a:Array Edge} {g:Option (Nat×Bool)} {dst:Nat}
theorem aa.Dc {t e:TypeId} {xo:Operand} {x:D} {s j:Nat} {ks:Nat→Prop} {vs:List (List D)} (hH:Has N S st H) (hg:aA ops fr ⟨some dst,.call ⟨.builtin .len,#[xo],#[t]⟩,ty,pp,a,g⟩=some true) (hx:fr.ev xo=x) (hj:H[j]?=some (.deep ks x s vs)) (ht:P.ch t=some (.slice e)) (hp:fr.put dst (.int .i64 (vs.length:Nat))=aE)
  (h:aa P ops rest aE st Q):aa P ops (⟨some dst,.call ⟨.builtin .len,#[xo],#[t]⟩,ty,pp,a,g⟩::rest) fr st Q:=by
 obtain⟨es,h1,h2⟩:=hH.OI hj;exact aa.D3 hg hx h1 ht (by rw[h2];exact hp) h
theorem aa.F1 {t e:TypeId} {xo io:Operand} {x:D} {s i j:Nat} {kk:IntKind} {ks:Nat→Prop} {vs:List (List D)} {aE:D→Fr} (hH:Has N S st H) (hg:aA ops fr ⟨some dst,.indexAddr t xo io,ty,pp,a,g⟩=some true) (hx:fr.ev xo=x) (hi:fr.ev io=.int kk (i:Nat)) (hj:H[j]?=some (.deep ks x s vs)) (ht:P.ch t=some (.slice e)) (hs:cg P e=some s) (hr:i<vs.length) (hp:∀p,fr.put dst p=aE p)
  (h:∀p,qz x s i 0 p→aa P ops rest (aE p) st Q):aa P ops (⟨some dst,.indexAddr t xo io,ty,pp,a,g⟩::rest) fr st Q:=by
 obtain⟨⟨es,gB,tu⟩,he3⟩:=(hH.ok j _ hj).1;have hlen:=tu.len
 cases gB with
 |nul=>simp at hlen;omega
 |win k az off es c hm hl hc he=>
  refine aa.go hg rfl (d:=.ptr k az (off+i*s)) (st1:=st) ?_ (hp _) (h _ ⟨k,az,off,_,rfl,rfl⟩);simp only[dq,hx,hi,bQ,ht,hs,Option.bind_some,St.mem_of hm,Option.isSome_some];rw[if_pos ⟨trivial,by omega,by omega,trivial⟩];rfl
theorem aa.sX {t:TypeId} {ao vo:Operand} {x y v:D} {s i o j:Nat} {ks:Nat→Prop} {vs:List (List D)} {r cs:List D} (hH:Has N S st H) (hg:aA ops fr ⟨none,.store t ao vo,ty,pp,a,g⟩=some true) (ha:fr.ev ao=y) (hv:fr.ev vo=v) (hR:qz x s i o y) (lf:v.cells?=some cs) (hs:cg P t=some cs.length) (hj:H[j]?=some (.deep ks x s vs)) (hr:vs[i]?=some r) (hl:o+cs.length≤s) (hq:∀d∈cs,ck d=true) (hw:S.flr≤N∨refs cs=0)
  (h:∀ah,Has N S ah (H.set j (.deep ks x s (vs.set i (setMany r o cs))))→aa P ops rest fr ah Q):aa P ops (⟨none,.store t ao vo,ty,pp,a,g⟩::rest) fr st Q:=by
 obtain⟨k,az,off,len,rfl,rfl⟩:=hR;obtain⟨ah,h1,h2⟩:=hH.Sf hj hr hl hq hw;refine aa.N hg rfl (d:=.tup []) (st1:=ah) ?_ (h _ h2);simp only[dq,ha,hv,kc,lf,hs,if_pos trivial,h1];rfl
theorem ak.KB {dy:Dy} {i:Nat} {l:List Oper} {d n loc tmp st} {Q:Out→Fr→St→Prop} (ws:List Nat) (F:(Nat→D)→Prop)
  (h1:aa P l.toArray l ⟨n,loc,[]⟩ st fun aE ah=>∃f tmp,aE=⟨n,aF loc ws f,tmp⟩∧ah=st∧F f) (h2:∀f tmp,F f→Q .next ⟨n,aF loc ws f,tmp⟩ st) (h0:gO i dy=[]:=by rfl):ak P dy (.region i l.toArray d) ⟨n,loc,tmp⟩ st Q:=by
 refine ak.jg ?_ h0;unfold aa at h1⊢;obtain⟨aE,ah,h3,f,Jc,rfl,rfl,h4⟩:=h1;exact⟨_,_,h3,h2 _ _ h4⟩
theorem lG {n:Nat} {L loc:List D} {vq:List (Nat×D)} {ws:List Nat} {F:(Nat→D)→Prop} {st:St} (h:L=aF loc ws (fun k=>nth .bj L k)) (h2:F (fun k=>nth .bj L k)):∃(f:Nat→D) (tmp:List (Nat×D)),(⟨n,L,vq⟩:Fr)=⟨n,aF loc ws f,tmp⟩∧st=st∧F f:=⟨_,vq,by rw[←h],rfl,h2⟩
theorem aa.LG {t1 t2:TypeId} {xo yo:Operand} {x y z:Int} (hg:aA ops fr ⟨some dst,.call ⟨.builtin .min,#[xo,yo],#[t1,t2]⟩,ty,pp,a,g⟩=some true) (hx:fr.ev xo=.int .i64 x) (hy:fr.ev yo=.int .i64 y) (hz:min x y=z) (hp:fr.put dst (.int .i64 z)=aE) (h:aa P ops rest aE st Q):aa P ops (⟨some dst,.call ⟨.builtin .min,#[xo,yo],#[t1,t2]⟩,ty,pp,a,g⟩::rest) fr st Q:=
 aa.Jx (t1:=t1) (t2:=t2) hg hx hy (by rw[hz];exact hp) h
theorem Has.ya {N:Nat} {S s0 S2 st2:St} {H:List a_} {x:D} {s:Nat} {es Sc:List (List D)} (h:Has N S s0 (.aC x s es::H)) (hS:S2.bs=s0.bs) (h2:Has N S2 st2 (.aC x s Sc::H)):Has N S ⟨st2.bs.take s0.bs.length,s0.flr,s0.ro⟩ (.aC x s Sc::H):=by
 refine h.vY hS h2 fun i e hi=>?_
 cases i with
 |zero=>simp only[List.getElem?_cons_zero,Option.some.injEq] at hi;subst hi;exact⟨_,rfl,fun k hk=>hk⟩
 |succ i=>exact⟨e,hi,fun k hk=>hk⟩
theorem Has.yc {N:Nat} {S s0 S2 st2:St} {H:List a_} {k:Nat} {b b':iN} {ks:Nat→Prop} {x:D} {s:Nat} {vs Li:List (List D)} (h:Has N S s0 (.box k b::.deep ks x s vs::H)) (hS:S2.bs=s0.bs) (h2:Has N S2 st2 (.box k b'::.deep ks x s Li::H)):Has N S ⟨st2.bs.take s0.bs.length,s0.flr,s0.ro⟩ (.box k b'::.deep ks x s Li::H):=by
 refine h.vY hS h2 fun i e hi=>?_
 match i with
 |0=>simp only[List.getElem?_cons_zero,Option.some.injEq] at hi;subst hi;exact⟨_,rfl,fun k hk=>hk⟩
 |1=>simp only[List.getElem?_cons_succ,List.getElem?_cons_zero,Option.some.injEq] at hi;subst hi;exact⟨_,rfl,fun k hk=>hk⟩
 |i+2=>exact⟨e,hi,fun k hk=>hk⟩
theorem Has.G5 {N:Nat} {S st:St} {H:List a_} {a b c d e:a_} (h:Has N S st (a::b::c::d::e::H)):Has N S st (b::c::d::e::a::H):=by
 refine h.sub (fun i=>if i=4 then 0 else if i<4 then i+1 else i) (fun i j hij=>?_) (fun i x hi=>?_)
 ·skip
  split at hij<;>split at hij<;>(try split at hij)<;>(try split at hij)<;>omega
 ·match i,hi with
  |0,hi=>exact hi
  |1,hi=>exact hi
  |2,hi=>exact hi
  |3,hi=>exact hi
  |4,hi=>exact hi
  |i+5,hi=>
   have h1:¬(i+5=4):=by omega
   have h2:¬(i+5<4):=by omega
   simp only[if_neg h1,if_neg h2];exact hi
theorem Has.l0 {fr:Fr} {a k az off j u u2:Nat} {t:TypeId} {ar:Bool} {c:List D} {d e e2:D} (hH:Has N S st H) (ha:fr.get a=.ptr k az off) (hj:H[j]?=some (.box k (.mem az ar c))) (hd:du P t (c.drop off)=some d) (he:fr.get u=e) (tu:fr.get u2=e2):ki P fr st [.cell a t,.tmp u,.tmp u2]=some [d,e,e2]:=by
 simp only[ki,gH,ha,St.mem_of (hH.at hj),Option.bind_some,hd,Option.map_some,he,tu]
theorem ak.ky {dy:Dy} {c1 c2:Code} {fr:Fr} {st:St} {Q:Out→Fr→St→Prop} (M:Fr→St→Prop) (h1:ak P dy c1 fr st (eD P dy c2 (Gv M Q))) (h2:∀aE ah,M aE ah→Q .next aE ah):ak P dy c1 fr st (eD P dy c2 Q):=
 h1.mono fun o aE ah h=>by
  cases o with
  |next=>exact ak.merge M h h2
  |exit i=>exact h
  |ret=>exact h
end Go.V
namespace Go.Proofs.YtecjacicdpejaaaGreat
open Go.V Go
def z8 (fr:Go.V.Fr) (k:Nat):Go.V.D:=Go.V.nth .bj fr.loc k
theorem C9 {st:St} {L n:Nat} {kn:Bool} {k az off len s:Nat}:bd st L kn n (.win k az off len s)=bd st L false n (.win k az off len s):=by
 cases n<;>rfl
theorem C7 (l:List Rg):(l.map au).map (·.map mY)=l.map au:=by
 rw[List.map_map];rfl
theorem y_ (l:List Rg):∀e∈l.map au,∀d∈e,lp d=true:=by
 intro e he d hd;obtain⟨x,_,rfl⟩:=List.mem_map.1 he;simp only[au,List.mem_cons,List.not_mem_nil,or_false] at hd
 rcases hd with rfl|rfl<;>rfl
theorem pL {N L j:Nat} {S st:St} {H:List a_} {x:D} {l:List Rg} (hH:Has N S st H) (hj:H[j]?=some (.aC x 2 (l.map au))) (hx:∀k,x.ref=k+1→L≤k) {n:Nat} (hn:3≤n):bd st L false n x=some (bt l):=by
 rw[hH.mf hj hx (y_ l) hn,C7,gM]
def OM (gs:List (Nat×Nat)) (s s':fJ) (d1:D) (b:Bool):Prop:=
 Gu gs s s' d1 b∨(s'=s∧d1=.nul∧b=false)
theorem Bj {N k:Nat} {S s0:St} {H:List a_} {gs:List (Nat×Nat)} {bJ:D} {b_:List Int} {s:fJ} (bq:lV gs b_) (he:s.e=0) (hi:s.i<gs.length) (hH:Has N S s0 (.box k (.mem 0 false (aQ gs bJ s))::.aC bJ 1 (b_.map ax)::H)):
  ∃d ah,Ev pv 306 [.ptr k 0 0] s0 d ah∧∃(d1:D) (b:Bool) (s':fJ),d=.tup [d1,.bool b]∧OM gs s s' d1 b∧Has N S ah (.box k (.mem 0 false (aQ gs bJ s'))::.aC bJ 1 (b_.map ax)::H):=by
 have tq:=bq.gl;have jL:=bq.pl;refine Ev.gA rfl Nk rfl rfl rfl ?_;refine zE ?_;have bn:=hH;have hH:=hH.aW;have bh:(ae .rw s0).bs=s0.bs:=rfl;generalize ae .rw s0=S2 at*;have IZ:Arg N S2 2 (hU gs) (gs.map bC):=Arg.pure (fun st=>eR st gs)
 obtain⟨g,hg⟩:∃g,gs[s.i]?=some g:=⟨gs[s.i]'hi,List.getElem?_eq_getElem _⟩
 have gm:(gs.map bC)[s.i]?=some (bC g):=by rw[List.getElem?_map,hg];rfl
 refine zQ 13 ?_;obtain⟨_,st,aB,rfl,hH⟩:=AQ (s:=s) s.i hi hH;refine qv aB ?_;refine zQ 1 ?_;refine qc (fun hb=>?_) (fun hb=>?_)<;>try simp only[cs] at hb
 ·refine zQ 7 ?_;obtain⟨_,st,aB,rfl,hH⟩:=dh (s:=s) s.i 4 (by omega) hH;refine qv aB ?_;refine zQ 6 ?_;obtain⟨h1,h2,h3,h4⟩:=dA (b_:=b_) (s:=s) (i:=s.i) (e:=4) he (by decide);refine ak.ret ⟨rx,_,_,_,rfl,ag (rfl),?_⟩;exact⟨_,_,_,rfl,.inl ⟨h3,h4,by rw[h2];exact Nat.le_refl _,by rw[h2];omega,.inl rfl,.inl h1⟩,bn.aj bh hH⟩
 ·refine zQ 11 ?_;refine qr fun KW CT=>?_;refine qf (fo:=0) fun XO VF=>?_;refine zQ 13 ?_;refine zI (fun q1=>?_) fun q1=>?_
  ·refine zQ 3 ?_;obtain⟨_,st,aB,d1,b,s',rfl,hP,hH⟩:=A' (s:=s) bq he hi hH;refine qv aB ?_;refine zQ 5 ?_
   rcases hP.2.2.2.2.1 with rfl|⟨a,rfl,_⟩
   ·refine ak.ret ⟨rx,_,_,_,rfl,ag (rfl),?_⟩;exact⟨_,_,_,rfl,.inl hP,bn.aj bh hH⟩
   ·refine ak.ret ⟨rx,_,_,_,rfl,ag (rfl),?_⟩;exact⟨_,_,_,rfl,.inl hP,bn.aj bh hH⟩
  ·refine zQ 6 ?_
   by_cases Lq:((g.1:Nat):Int)=91
   ·refine qD rfl (by simp[Lq]) ?_;refine zQ 1 ?_;refine qD rfl (by simp[Lq]) ?_;refine zQ 5 ?_;refine ak.ret ⟨rx,_,_,_,rfl,ag (rfl),?_⟩;exact⟨_,_,_,rfl,.inr ⟨rfl,rfl,rfl⟩,bn.aj bh hH⟩
   refine qE rfl (by simp[Lq]) ?_;refine zQ 5 ?_
   by_cases PA:((g.1:Nat):Int)=93
   ·refine qD rfl (by simp[PA]) ?_;refine zQ 1 ?_;refine qD rfl (by simp[PA]) ?_;refine zQ 5 ?_;refine ak.ret ⟨rx,_,_,_,rfl,ag (rfl),?_⟩;exact⟨_,_,_,rfl,.inr ⟨rfl,rfl,rfl⟩,bn.aj bh hH⟩
   refine qE rfl (by simp[PA]) ?_;refine zQ 4 ?_
   by_cases SG:((g.1:Nat):Int)=45
   ·refine qD rfl (by simp[SG]) ?_;refine zQ 5 ?_;refine ak.ret ⟨rx,_,_,_,rfl,ag (rfl),?_⟩;exact⟨_,_,_,rfl,.inr ⟨rfl,rfl,rfl⟩,bn.aj bh hH⟩
   refine qE rfl (by simp[SG]) ?_;refine zQ 9 ?_;refine qT hH aN fun st hH=>?_;dsimp only[u2,u1,u3,u4,setMany,u5,u6,D.cells,Nat.reduceAdd,aQ,bC,ax,au] at hH;refine zQ 5 ?_;refine aa.ij (qs:=[(0,_),(1,_)]) rfl rfl rfl rfl ⟨rfl,(ev rfl),(by rfl),rfl,(ev rfl),(by rfl),trivial⟩ (by intro q hq;simp only[List.mem_cons,List.not_mem_nil,or_false] at hq;rcases hq with rfl|rfl<;>exact⟨rfl,by exact Nat.le_of_ble_eq_true rfl⟩) (by show List.foldl _ [_,_] _=_;dsimp only[List.foldl_cons,List.foldl_nil,u2,u1]<;>rfl) (ab rfl _) ?_;refine qh (s:=2) (vs:=[_]) hH fun k39 st V3 hH=>?_;refine zQ 3 ?_;have hH:Has N S2 st (.aC (.win k39 0 0 1 2) 2 (([((g.1:Nat),(g.1:Nat))]:List Rg).map au)::.box k (.mem 0 false (aQ gs bJ {s with i:=s.i+1}))::.aC bJ 1 (b_.map ax)::H):=hH;have hfz:=pL hH aN (L:=s0.bs.length) (n:=15) (fun k hk=>by simp only[D.ref] at hk;rw[←bh];omega) (by decide)
   have Q7:bd st s0.bs.length true 16 (tz [.win k39 0 0 1 2,.bool true])=some (.tup [bt [(((g.1:Nat):Int),((g.1:Nat):Int))],.bool true]):=by
    show(iH (bd st s0.bs.length true 15) [.win k39 0 0 1 2,.bool true]).map D.tup=_;simp only[iH,C9,hfz];rfl
   refine ak.ret ⟨rx,_,_,_,rfl,ag Q7,⟨_,_,{s with i:=s.i+1},rfl,.inl ⟨rfl,rfl,?_,?_,.inr ⟨_,rfl,by simp⟩,.inr ⟨he,?_,_,rfl,?_,?_⟩⟩,bn.aj bh (hH.drop 1)⟩⟩
   ·show s.i≤s.i+1;omega
   ·show s.i+1≤_;omega
   ·show s.i<s.i+1;omega
   ·simp
   ·simp
def OP (gs:List (Nat×Nat)) (s s':fJ) (d:D):Prop:=
 s'.o=s.o∧s'.g=s.g∧s.i≤s'.i∧s'.i≤gs.length∧∃a:List Rg,d=bt a∧a.length≤8∧(s'.e≠0∨s'.e=0∧s.i<s'.i)
theorem ig {gs:List (Nat×Nat)} {s:fJ} {r:Int}:(df gs s r).o=s.o∧(df gs s r).g=s.g∧(df gs s r).e=s.e∧s.i≤(df gs s r).i∧(s.i≤gs.length→(df gs s r).i≤gs.length):=by
 unfold df
 split
 ·rename_i h;have:=su h;exact⟨rfl,rfl,rfl,by show s.i≤s.i+1;omega,fun _=>by show s.i+1≤_;omega⟩
 ·exact⟨rfl,rfl,rfl,Nat.le_refl _,fun h=>h⟩
theorem Hq {N k:Nat} {S s0:St} {H:List a_} {gs:List (Nat×Nat)} {bJ:D} {b_:List Int} {s:fJ} (bq:lV gs b_) (he:s.e=0) (hi:s.i<gs.length) (hH:Has N S s0 (.box k (.mem 0 false (aQ gs bJ s))::.aC bJ 1 (b_.map ax)::H)):
  ∃d ah,Ev pv 286 [.ptr k 0 0] s0 d ah∧∃(s':fJ),OP gs s s' d∧Has N S ah (.box k (.mem 0 false (aQ gs bJ s'))::.aC bJ 1 (b_.map ax)::H):=by
 have tq:=bq.gl;have jL:=bq.pl;refine Ev.gA rfl Nq rfl rfl rfl ?_;refine zE ?_;have bn:=hH;have hH:=hH.aW;have bh:(ae .rw s0).bs=s0.bs:=rfl;generalize ae .rw s0=S2 at*;have IZ:Arg N S2 2 (hU gs) (gs.map bC):=Arg.pure (fun st=>eR st gs);refine zQ 15 ?_;obtain⟨_,st,aB,d1,b,s1,rfl,hP,hH⟩:=Bj (s:=s) bq he hi hH;refine qv aB ?_;refine zQ 15 ?_
 rcases hP with hP|⟨e1,rfl,rfl⟩
 ·obtain⟨p1,p2,p3,p4,p5,p6⟩:=hP
  rcases p6 with p6|⟨p6,p7,a,rfl,p8,p9⟩
  ·refine qD rfl (by simp[p6]) ?_;refine zQ 4 ?_;refine ak.ret ⟨rx,_,_,_,rfl,ag (rfl),?_⟩;exact⟨s1,⟨p1,p2,p3,p4,[],rfl,by simp,.inl p6⟩,bn.aj bh hH⟩
  ·obtain⟨q,a',rfl⟩:∃q a',a=q::a':=List.exists_cons_of_ne_nil p9;refine qE rfl (by simp[p6]) ?_;refine zQ 5 ?_;refine aa.go (d:=.bool false) (st1:=_) rfl rfl rfl (ab rfl _) ?_;refine zQ 3 ?_;obtain⟨k1,k2,k3,k4,k5⟩:=ig (gs:=gs) (s:=s1) (r:=45);have k5:=k5 p4;refine zQ 4 ?_;obtain⟨_,st,aB,rfl,hH⟩:=ei (s:=s1) (by omega) 45 hH;refine qv aB ?_;refine zQ 2 ?_;generalize df gs s1 45=s2 at*
   cases hb:j_ gs s1.i 45 with
   |false=>
    refine zQ 6 ?_;refine ak.ret ⟨rx,_,_,_,rfl,ag (rfl),?_⟩;exact⟨s2,⟨k1.trans p1,k2.trans p2,by omega,k5,q::a',rfl,p8,.inr ⟨k3.trans p6,by omega⟩⟩,bn.aj bh hH⟩
   |true=>
    refine zQ 21 ?_;refine qn ?_;simp only[List.length_map];refine zQ 2 ?_;refine ak.merge (fun fr st=>∃(d2:D) (two:Bool) (s3:fJ) (tmp:List (Nat×D)),fr=⟨8,[.ptr k 0 0,z8 fr 1,z8 fr 2,.int .i64 (s.i:Nat),bt (q::a'),.bool b,d2,.bool two],tmp⟩∧Has N S2 st (.box k (.mem 0 false (aQ gs bJ s3))::.aC bJ 1 (b_.map ax)::H)∧(s3.o=s.o)∧(s3.g=s.g)∧(s2.i≤s3.i)∧(s3.i≤gs.length)∧(s3.e≠0∨s3.e=0∧(two=false∨∃a2:List Rg,d2=bt a2∧a2≠[]))) ?_ ?_
    ·refine zP (fun hlt=>?_) fun hlt=>?_
     ·refine zQ 2 ?_;obtain⟨_,st,aB,d2,two,s3,rfl,WI,hH⟩:=Bj (s:=s2) bq (k3.trans p6) (by omega) hH;refine qv aB ?_;refine zQ 6 ?_
      rcases WI with⟨r1,r2,r3,r4,r5,r6⟩|⟨e1,rfl,rfl⟩
      ·refine⟨d2,two,s3,_,rfl,hH,r1.trans (k1.trans p1),r2.trans (k2.trans p2),r3,r4,?_⟩
       rcases r6 with r6|⟨r6,r7,a2,rfl,r8,r9⟩
       ·exact .inl r6
       ·refine .inr ⟨r6,?_⟩
        cases two with
        |false=>exact .inl rfl
        |true=>exact .inr ⟨a2,rfl,r9⟩
      ·exact⟨.nul,false,s3,_,rfl,hH,by rw[e1];exact k1.trans p1,by rw[e1];exact k2.trans p2,by rw[e1];exact Nat.le_refl _,by rw[e1];exact k5,.inr ⟨by rw[e1];exact k3.trans p6,.inl rfl⟩⟩
     ·refine zQ 1 ?_;exact⟨.nul,false,s2,_,rfl,hH,k1.trans p1,k2.trans p2,Nat.le_refl _,k5,.inr ⟨k3.trans p6,.inl rfl⟩⟩
    ·rintro fr st ⟨d2,two,s3,tmp,hfr,hH,h1,h2,h3,h4,h5⟩;rw[hfr];clear hfr;generalize z8 fr=ee;clear fr
     rcases h5 with h5|⟨h5,h6⟩
     ·have cK:(s3.e==0)=false:=by simpa using h5
      refine zQ 39 ?_;refine qD rfl (by simp[h5]) ?_;refine zQ 4 ?_;refine ak.ret ⟨rx,_,_,_,rfl,ag (rfl),?_⟩;exact⟨s3,⟨h1,h2,by omega,h4,[],rfl,by simp,.inl h5⟩,bn.aj bh hH⟩
     ·have cK:(s3.e==0)=true:=by simpa using h5
      cases b with
      |false=>
       have gW:(!false)=true:=rfl;refine zQ 14 ?_;refine aa.cQ (ai rfl rfl rfl cK) rfl gW (ab rfl _) ?_;refine zQ 17 ?_;obtain⟨_,st,aB,rfl,hH⟩:=dh (s:=s3) s.i 4 (by omega) hH;refine qv aB ?_;refine zQ 1 ?_;obtain⟨w1,w2,w3,w4⟩:=dA (b_:=b_) (s:=s3) (i:=s.i) (e:=4) h5 (by decide);generalize jC b_ s3 s.i 4=s4 at*;refine zQ 9 ?_;refine qD rfl (by simp[w1]) ?_;refine zQ 4 ?_;refine ak.ret ⟨rx,_,_,_,rfl,ag (rfl),?_⟩;exact⟨s4,⟨w3.trans h1,w4.trans h2,by omega,by omega,[],rfl,by simp,.inl w1⟩,bn.aj bh hH⟩
      |true=>
       have gW:(!true)=false:=rfl
       cases two with
       |false=>
        have dR:(!false)=true:=rfl;refine zQ 14 ?_;refine aa.cH (ai rfl rfl rfl cK) rfl gW (ab rfl _) ?_;refine zQ 10 ?_;refine aa.cQ (ai rfl rfl rfl cK) rfl dR (ab rfl _) ?_;refine zQ 6 ?_;obtain⟨_,st,aB,rfl,hH⟩:=dh (s:=s3) s.i 4 (by omega) hH;refine qv aB ?_;refine zQ 1 ?_;obtain⟨w1,w2,w3,w4⟩:=dA (b_:=b_) (s:=s3) (i:=s.i) (e:=4) h5 (by decide);generalize jC b_ s3 s.i 4=s4 at*;refine zQ 9 ?_;refine qD rfl (by simp[w1]) ?_;refine zQ 4 ?_;refine ak.ret ⟨rx,_,_,_,rfl,ag (rfl),?_⟩;exact⟨s4,⟨w3.trans h1,w4.trans h2,by omega,by omega,[],rfl,by simp,.inl w1⟩,bn.aj bh hH⟩
       |true=>
        have dR:(!true)=false:=rfl
        obtain⟨a2,rfl,h7⟩:∃a2:List Rg,d2=bt a2∧a2≠[]:=by
         rcases h6 with h6|h6
         ·cases h6
         ·exact h6
        obtain⟨q2,TW,rfl⟩:∃q a',a2=q::a':=List.exists_cons_of_ne_nil h7;have IQ:=(jR (q::a')).arg N S2;have Va:=(jR (q2::TW)).arg N S2;have Md:((q::a').map au)[0]?=some (au q):=rfl;have gm:((q2::TW).map au)[0]?=some (au q2):=rfl;refine zQ 14 ?_;refine aa.cH (ai rfl rfl rfl cK) rfl gW (ab rfl _) ?_;refine zQ 2 ?_;refine qr (fun XG Vx=>?_) (hg:=wi dR);refine qf (fo:=0) (fun Um Mg=>?_) (hg:=wi dR);refine zQ 2 ?_;refine qr (fun SJ Mf=>?_) (hg:=wi dR);refine qf (fo:=0) (fun XD Vu=>?_) (hg:=wi dR);refine zQ 2 ?_;refine aa.cH (ai rfl rfl rfl cK) rfl dR (ab rfl _) ?_;refine zQ 2 ?_;refine zP (fun MQ=>?_) fun MQ=>?_
        ·refine zQ 3 ?_;obtain⟨_,st,aB,rfl,hH⟩:=dh (s:=s3) s.i 4 (by omega) hH;refine qv aB ?_;refine zQ 1 ?_;obtain⟨w1,w2,w3,w4⟩:=dA (b_:=b_) (s:=s3) (i:=s.i) (e:=4) h5 (by decide);generalize jC b_ s3 s.i 4=s4 at*;refine zQ 9 ?_;refine qD rfl (by simp[w1]) ?_;refine zQ 4 ?_;refine ak.ret ⟨rx,_,_,_,rfl,ag (rfl),?_⟩;exact⟨s4,⟨w3.trans h1,w4.trans h2,by omega,by omega,[],rfl,by simp,.inl w1⟩,bn.aj bh hH⟩
        ·refine zQ 10 ?_;refine qE rfl (by simp[h5]) ?_;refine zQ 4 ?_;refine qr fun OS HE=>?_;refine qf (fo:=0) fun Uj Qn=>?_;refine zQ 2 ?_;refine qr fun Xw Vn=>?_;refine qf (fo:=0) fun Xv Vm=>?_;refine qR ?_;refine aa.ij (qs:=[(0,_),(1,_)]) rfl rfl rfl rfl ⟨rfl,(ev rfl),(by rfl),rfl,(ev rfl),(by rfl),trivial⟩ (by intro q hq;simp only[List.mem_cons,List.not_mem_nil,or_false] at hq;rcases hq with rfl|rfl<;>exact⟨rfl,by exact Nat.le_of_ble_eq_true rfl⟩) (by show List.foldl _ [_,_] _=_;dsimp only[List.foldl_cons,List.foldl_nil,u2,u1]<;>rfl) (ab rfl _) ?_;refine qh (s:=2) (vs:=[_]) hH fun k87 st VT hH=>?_;dsimp only[u2,u1,u3,u4,setMany,u5,u6,D.cells,Nat.reduceAdd,aQ,bC,ax,au] at hH;refine zQ 2 ?_;have hH:Has N S2 st (.aC (.win k87 0 0 1 2) 2 (([(q.1,q2.1)]:List Rg).map au)::.box k (.mem 0 false (aQ gs bJ s3))::.aC bJ 1 (b_.map ax)::H):=hH;have hfz:=pL hH aN (L:=s0.bs.length) (n:=16) (fun k hk=>by simp only[D.ref] at hk;rw[←bh];omega) (by decide);refine ak.ret ⟨rx,_,_,_,rfl,ag hfz,⟨s3,⟨h1,h2,by omega,h4,[(q.1,q2.1)],rfl,by simp,.inr ⟨h5,by omega⟩⟩,bn.aj bh (hH.drop 1)⟩⟩
 ·have e2:s1.e=0:=by rw[e1];exact he
  have e3:s1.i=s.i∧s1.o=s.o∧s1.g=s.g:=by rw[e1];exact⟨rfl,rfl,rfl⟩
  clear e1;refine qE rfl (by simp[e2]) ?_;refine zQ 5 ?_;refine aa.go (d:=.bool true) (st1:=_) rfl rfl rfl (ab rfl _) ?_;refine zQ 6 ?_;obtain⟨_,st,aB,rfl,hH⟩:=dh (s:=s1) s.i 4 (by omega) hH;refine qv aB ?_;refine zQ 1 ?_;obtain⟨w1,w2,w3,w4⟩:=dA (b_:=b_) (s:=s1) (i:=s.i) (e:=4) e2 (by decide);refine zQ 4 ?_;refine ak.ret ⟨rx,_,_,_,rfl,ag (rfl),?_⟩;exact⟨_,⟨by omega,by omega,by omega,by omega,[],rfl,by simp,.inl w1⟩,bn.aj bh hH⟩
end Go.Proofs.YtecjacicdpejaaaGreat
namespace Go.Proofs.YtecjacicdpejaaaGreat
open Go.V Go
def z7 (fr:Go.V.Fr) (k:Nat):Go.V.D:=Go.V.nth .bj fr.loc k
def wX (n:dI):Prop:=n.rd=bt n.rs∧n.rs.length≤1048576∧n.kids≤1048576
def vL (op mn mx:Int) (lz:Bool) (cap kids:Int) (a:List Rg):dI:=⟨op,bt a,a,mn,mx,lz,cap,kids⟩
def wS (l:List dI):D:=.sl ((l.map bf).map (j7 7))
theorem Hf (l:List dI):∀e∈l.map bf,e.length=7:=by
 intro e he;obtain⟨x,_,rfl⟩:=List.mem_map.1 he;rfl
theorem oN {l:List dI} (h:∀n∈l,wX n):∀e∈l.map bf,∀d∈e,ck d=true:=by
 intro e he d hd;obtain⟨n,hn,rfl⟩:=List.mem_map.1 he;have hr:=(h n hn).1;simp only[bf,hr,List.mem_cons,List.not_mem_nil,or_false] at hd
 rcases hd with rfl|rfl|rfl|rfl|rfl|rfl|rfl<;>rfl
theorem uh {l:List dI} (h:∀n∈l,wX n):gd (wS l) 7 (l.map bf):=gd.frozen (Hf l) (oN h)
theorem LC {l:List dI} (h:∀n∈l,wX n) (hl:l.length≤1048576):(⟨wS l,l⟩:Nl).ok:=by
 refine⟨uh h,fun n hn=>?_,hl⟩;obtain⟨h1,h2,h3⟩:=h n hn;exact⟨by rw[h1];exact jR _,h2,by omega⟩
theorem vJ {l:List dI} (h:∀n∈l,wX n):(l.map bf).map (·.map mY)=l.map bf:=by
 rw[List.map_map];refine List.map_congr_left fun n hn=>?_;have hr:=(h n hn).1;show(bf n).map mY=bf n;unfold bf;rw[hr];rfl
theorem rU {l:List dI} (h:∀n∈l,wX n):∀e∈l.map bf,∀d∈e,lp d=true:=by
 intro e he d hd;have:=oN h e he d hd
 cases d<;>first|rfl|exact this
theorem jw {N L j:Nat} {S st:St} {H:List a_} {x:D} {es:List (List D)} {l:List dI} (hH:Has N S st H) (hj:H[j]?=some (.aC x 7 es)) (he:es.map (·.map mY)=l.map bf) (ht:∀e∈es,∀d∈e,lp d=true) (hx:∀k,x.ref=k+1→L≤k) {n:Nat} (hn:3≤n):bd st L false n x=some (wS l):=by
 rw[hH.mf hj hx ht hn,he];rfl
theorem jx {N L j:Nat} {S st:St} {H:List a_} {x w:D} {op mn mx cap kids:Int} {lz:Bool} {a:List Rg} (hH:Has N S st H) (hj:H[j]?=some (.aC x 7 [[.int .i64 op,w,.int .i64 mn,.int .i64 mx,.bool lz,.int .i64 cap,.int .i64 kids]])) (hw:w=bt a∨w=.nul∧a=[]) (hx:∀k,x.ref=k+1→L≤k):bd st L false 16 x=some (wS [vL op mn mx lz cap kids a]):=by
 refine jw hH hj ?_ (fun e he d hd=>?_) hx (by decide)
 ·rcases hw with rfl|⟨rfl,rfl⟩<;>rfl
 ·simp only[List.mem_cons,List.not_mem_nil,or_false] at he;subst he;simp only[List.mem_cons,List.not_mem_nil,or_false] at hd
  rcases hw with rfl|⟨rfl,rfl⟩<;>rcases hd with rfl|rfl|rfl|rfl|rfl|rfl|rfl<;>rfl
theorem EL {op mn mx cap kids:Int} {lz:Bool} {a:List Rg} (h:a.length≤1048576) (hk:kids≤1048576):∀n∈[vL op mn mx lz cap kids a],wX n:=by
 intro n hn;simp only[List.mem_cons,List.not_mem_nil,or_false] at hn;subst hn;exact⟨rfl,h,hk⟩
def wP (gs:List (Nat×Nat)) (s s':fJ) (d:D):Prop:=
 s'.o=s.o∧s'.g≤4∧s.i≤s'.i∧s'.i≤gs.length∧∃l:List dI,d=wS l∧(∀n∈l,wX n)∧l.length≤4*(s'.i-s.i)+1
def jK (gs:List (Nat×Nat)) (s s':fJ) (d:D) (c:Nat):Prop:=
 s'.o=s.o∧s'.g≤4∧s.i≤s'.i∧s'.i≤gs.length∧∃l:List dI,d=wS l∧(∀n∈l,wX n)∧l.length≤4*(s'.i-s.i)+1∧(s'.e≠0∨s'.e=0∧l.length+c≤4*(s'.i-s.i))
theorem gN {gs:List (Nat×Nat)} {s s':fJ} {c:Nat} (h1:s'.o=s.o) (h2:s'.g≤4) (h3:s.i≤s'.i) (h4:s'.i≤gs.length) (h5:s'.e≠0):jK gs s s' (.sl []) c:=
 ⟨h1,h2,h3,h4,[],rfl,fun n hn=>(by cases hn),by simp,.inl h5⟩
theorem F8 {N k:Nat} {S s0:St} {H:List a_} {gs:List (Nat×Nat)} {bJ:D} {b_:List Int} {s:fJ} (bq:lV gs b_) (he:s.e=0) (hi:s.i<gs.length) (hg:s.g≤4) (hH:Has N S s0 (.box k (.mem 0 false (aQ gs bJ s))::.aC bJ 1 (b_.map ax)::H)):
  ∃d ah,Ev pv 267 [.ptr k 0 0] s0 d ah∧∃(s':fJ),jK gs s s' d 2∧Has N S ah (.box k (.mem 0 false (aQ gs bJ s'))::.aC bJ 1 (b_.map ax)::H):=by
 have tq:=bq.gl;have jL:=bq.pl;refine Ev.gA rfl Nw rfl rfl rfl ?_;refine zE ?_;have bn:=hH;have hH:=hH.aW;have bh:(ae .rw s0).bs=s0.bs:=rfl;generalize ae .rw s0=S2 at*;have IZ:Arg N S2 2 (hU gs) (gs.map bC):=Arg.pure (fun st=>eR st gs);refine zQ 21 ?_;refine qT hH aN fun st hH=>?_;dsimp only[u2,u1,u3,u4,setMany,u5,u6,D.cells,Nat.reduceAdd,aQ,bC,ax,au] at hH;refine zQ 1 ?_;have hH:Has N S2 st (.box k (.mem 0 false (aQ gs bJ {s with i:=s.i+1}))::.aC bJ 1 (b_.map ax)::H):=hH;obtain⟨k1,k2,k3,k4,k5⟩:=ig (gs:=gs) (s:={s with i:=s.i+1}) (r:=94);have k5:=k5 (by show s.i+1≤_;omega);simp only at k1 k2 k3 k4;refine zQ 3 ?_;obtain⟨_,st,aB,rfl,hH⟩:=ei (s:={s with i:=s.i+1}) (by omega) 94 hH;refine qv aB ?_;refine zQ 2 ?_;generalize df gs {s with i:=s.i+1} 94=s1 at*;generalize j_ gs ({s with i:=s.i+1}:fJ).i 94=nt at*;refine zQ 8 ?_
 have hH:Has N S2 st (.box k (.mem 0 false (aQ gs bJ s1))::.aC bJ 1 (b_.map ax)::.aC .nul 2 (([]:List Rg).map au)::H):=((hH.gf 2).front bV|>.front fm|>fun h=>(h.front bV))
 refine zQ 2 ?_;refine ak.loop (fun mm fr st=>∃(s1:fJ) (ld:D) (lr:List Rg) (nn:Bool),fr.clean=⟨7,[.ptr k 0 0,z7 fr 1,z7 fr 2,.int .i64 (s.i:Nat),.bool nt,ld,.bool nn],[]⟩∧Has N S2 st (.box k (.mem 0 false (aQ gs bJ s1))::.aC bJ 1 (b_.map ax)::.aC ld 2 (lr.map au)::H)∧(s1.o=s.o)∧(s1.g=s.g)∧(s.i<s1.i)∧(s1.i≤gs.length)∧(lr.length≤8*s1.i+8)∧(s1.e=0→lr.length≤8*s1.i)∧(gs.length-s1.i+(if s1.e=0 then 1 else 0)≤mm)) (gs.length+1) ?_ ?_
 ·exact⟨s1,.nul,[],true,rfl,hH,k1,k2,by omega,k5,by simp,fun _=>by simp,by split<;>omega⟩
 rintro mm fr st ⟨s1,ld,lr,nn,hfr,hH,h1,h2,h3,h4,h5,h6,y5⟩;rw[hfr];clear hfr;generalize z7 fr=ee;clear fr
 by_cases gB:s1.e=0
 ·rw[if_pos gB] at y5;have h6:=h6 gB;have cK:(s1.e==0)=true:=by simpa using gB
  refine zQ 10 ?_;obtain⟨_,st,aB,rfl,hH⟩:=pE (s:=s1) (by omega) 93 hH;refine qv aB ?_ (hg:=wi cK);refine zQ 3 ?_
  cases hb:j_ gs s1.i 93 with
  |true=>
   have hlt:=su hb;refine zQ 11 ?_;refine qE rfl (by simp[gB]) ?_;refine zQ 6 ?_
   cases nn with
   |true=>
    refine zQ 5 ?_;obtain⟨_,st,aB,rfl,hH⟩:=dh (s:=s1) s.i 4 (by omega) hH;refine qv aB ?_;refine zQ 2 ?_;obtain⟨w1,w2,w3,w4⟩:=dA (b_:=b_) (s:=s1) (i:=s.i) (e:=4) gB (by decide);refine ak.ret ⟨rx,_,_,_,rfl,ag (rfl),?_⟩;exact⟨_,gN (by omega) (by omega) (by omega) (by omega) w1,bn.aj bh (hH.erase 2)⟩
   |false=>
    refine zQ 11 ?_;refine qT hH aN fun st hH=>?_;dsimp only[u2,u1,u3,u4,setMany,u5,u6,D.cells,Nat.reduceAdd,aQ,bC,ax,au] at hH;refine zQ 4 ?_;obtain⟨aB,CU,_⟩:=nD (l:=lr) (hH.rows fm) (by omega);refine qv aB ?_;refine zQ 2 ?_;generalize lE lr=m at*;refine zQ 5 ?_
    have gD:∀(st:St) (a:List Rg) (k70:Nat),a.length≤1048576→S2.bs.length≤k70→Has N S2 st (.aC (.win k70 0 0 1 7) 7 [[.int .i64 2,bt a,.int .i64 0,.int .i64 0,.bool false,.int .i64 0,.int .i64 0]]::.box k (.mem 0 false (aQ gs bJ {s1 with i:=s1.i+1}))::.aC bJ 1 (b_.map ax)::.aC ld 2 (lr.map au)::H)→
      ∃d ah,da .rw false s0 st (.win k70 0 0 1 7)=some (d,ah)∧∃(s':fJ),jK gs s s' d 2∧Has N S ah (.box k (.mem 0 false (aQ gs bJ s'))::.aC bJ 1 (b_.map ax)::H):=by
     intro st a k70 ha hk hH;have hfz:=jx hH aN (L:=s0.bs.length) (.inl rfl) (fun k hk=>by simp only[D.ref] at hk;rw[←bh];omega);exact⟨_,_,ag hfz,{s1 with i:=s1.i+1},⟨h1,by show s1.g≤4;omega,by show s.i≤s1.i+1;omega,by show s1.i+1≤_;omega,_,rfl,EL ha (by omega),by simp,.inr ⟨gB,by show 1+2≤4*(s1.i+1-s.i);omega⟩⟩,bn.aj bh ((hH.drop 1).erase 2)⟩
    cases nt with
    |true=>
     refine zQ 3 ?_;obtain⟨_,aB,a,rfl,hla⟩:=ED (l:=m) (eO _ _) (by omega);refine qv aB ?_;refine zQ 5 ?_;refine aa.ij (qs:=[(0,_),(1,_)]) rfl rfl rfl rfl ⟨rfl,(ev rfl),(by rfl),rfl,(ev rfl),(by rfl),trivial⟩ (by intro q hq;simp only[List.mem_cons,List.not_mem_nil,or_false] at hq;rcases hq with rfl|rfl<;>exact⟨rfl,by exact Nat.le_of_ble_eq_true rfl⟩) (by show List.foldl _ [_,_,_,_,_,_,_] _=_;dsimp only[List.foldl_cons,List.foldl_nil,u2,u1]<;>rfl) (ab rfl _) ?_;refine qh (s:=7) (vs:=[_]) hH fun k70 st J' hH=>?_;refine zQ 2 ?_;obtain⟨d',ah,yq,dK⟩:=gD _ a k70 (by omega) J' hH;refine ak.ret ⟨rx,_,d',ah,rfl,yq,dK⟩
    |false=>
     refine zQ 5 ?_;refine aa.ij (qs:=[(0,_),(1,_)]) rfl rfl rfl rfl ⟨rfl,(ev rfl),(by rfl),rfl,(ev rfl),(by rfl),trivial⟩ (by intro q hq;simp only[List.mem_cons,List.not_mem_nil,or_false] at hq;rcases hq with rfl|rfl<;>exact⟨rfl,by exact Nat.le_of_ble_eq_true rfl⟩) (by show List.foldl _ [_,_,_,_,_,_,_] _=_;dsimp only[List.foldl_cons,List.foldl_nil,u2,u1]<;>rfl) (ab rfl _) ?_;refine qh (s:=7) (vs:=[_]) hH fun k70 st J' hH=>?_;refine zQ 2 ?_;obtain⟨d',ah,yq,dK⟩:=gD _ m k70 (by omega) J' hH;refine ak.ret ⟨rx,_,d',ah,rfl,yq,dK⟩
  |false=>
   refine zQ 14 ?_;refine qn ?_;simp only[List.length_map];refine zQ 2 ?_;refine zP (fun hge=>?_) fun hge=>?_
   ·refine zQ 4 ?_;obtain⟨_,st,aB,rfl,hH⟩:=dh (s:=s1) s.i 4 (by omega) hH;refine qv aB ?_;refine zQ 2 ?_;obtain⟨w1,w2,w3,w4⟩:=dA (b_:=b_) (s:=s1) (i:=s.i) (e:=4) gB (by decide);refine ak.ret ⟨rx,_,_,_,rfl,ag (rfl),?_⟩;exact⟨_,gN (by omega) (by omega) (by omega) (by omega) w1,bn.aj bh (hH.erase 2)⟩
   ·refine zQ 5 ?_;obtain⟨_,st,aB,s2,⟨i1,i2,i3,i4,a,rfl,i5,i6⟩,hH⟩:=Hq (s:=s1) bq gB (by omega) hH;have IQ:=(jR a).arg N S2;have IP:=zr a;refine qv aB ?_;refine aa.cJ (s:=2) hH rfl (ev rfl) (ev rfl) (by exact fm) (by exact Arg.rows (by assumption) hH) rfl rfl rfl rfl rfl rfl rfl ⟨(Nat.le_of_ble_eq_true rfl),(Nat.le_of_ble_eq_true rfl)⟩ (fun _=>(ab rfl _)) (by simp only[List.length_map]<;>omega) (by exact .inr (by assumption)) (fun T2 st hH=>?_);dsimp only[u2,u1,u3,u4,setMany,u5,u6,D.cells,Nat.reduceAdd,aQ,bC,ax,au] at hH;refine zQ 5 ?_;exact⟨mm-1,by omega,⟨s2,T2,lr++a,false,rfl,(by rw[List.map_append];exact hH),i1.trans h1,i2.trans h2,by omega,i4,by rw[List.length_append];omega,fun e=>by rw[List.length_append];omega,by split<;>omega⟩⟩
 ·have cK:(s1.e==0)=false:=by simpa using gB
  refine zQ 25 ?_;refine qD rfl (by simp[gB]) ?_;refine zQ 4 ?_;refine ak.ret ⟨rx,_,_,_,rfl,ag (rfl),?_⟩;exact⟨_,gN h1 (by omega) (by omega) h4 gB,bn.aj bh (hH.erase 2)⟩
end Go.Proofs.YtecjacicdpejaaaGreat
namespace Go.Proofs.YtecjacicdpejaaaGreat
open Go.V Go
def kA (fr:Go.V.Fr) (k:Nat):Go.V.D:=Go.V.nth .bj fr.loc k
def tk (gs:List (Nat×Nat)) (s s':fJ):Prop:=s'.o=s.o∧s'.g=s.g∧s.i<s'.i∧s'.i≤gs.length
theorem Ew {N k:Nat} {S s0:St} {H:List a_} {gs:List (Nat×Nat)} {bJ:D} {b_:List Int} {s:fJ} (bq:lV gs b_) (he:s.e=0) (hi:s.i<gs.length) (hH:Has N S s0 (.box k (.mem 0 false (aQ gs bJ s))::.aC bJ 1 (b_.map ax)::H)):
  ∃d ah,Ev pv 248 [.ptr k 0 0] s0 d ah∧∃(n1 n2:Int) (s':fJ),d=.tup [.int .i64 n1,.int .i64 n2]∧tk gs s s'∧Has N S ah (.box k (.mem 0 false (aQ gs bJ s'))::.aC bJ 1 (b_.map ax)::H):=by
 have tq:=bq.gl;have jL:=bq.pl;have hne:gs≠[]:=by rintro rfl;simp at hi
 refine Ev.gA rfl NG rfl rfl rfl ?_;refine zE ?_;have bn:=hH;have hH:=hH.aW;have bh:(ae .rw s0).bs=s0.bs:=rfl;generalize ae .rw s0=S2 at*;refine zQ 22 ?_;refine qT hH aN fun st hH=>?_;dsimp only[u2,u1,u3,u4,setMany,u5,u6,D.cells,Nat.reduceAdd,aQ,bC,ax,au] at hH;refine zQ 1 ?_;have hH:Has N S2 st (.box k (.mem 0 false (aQ gs bJ {s with i:=s.i+1}))::.aC bJ 1 (b_.map ax)::H):=hH
 have Fq:∀(st:St) (s3:fJ) (e:Int),e≠0→s3.e=0→tk gs s s3→Has N S2 st (.box k (.mem 0 false (aQ gs bJ s3))::.aC bJ 1 (b_.map ax)::H)→∃d ah,Ev pv 134 [.ptr k 0 0,.int .i64 (s.i:Nat),.int .i64 e] st d ah∧d=.sl []∧∃s4,tk gs s s4∧Has N S2 ah (.box k (.mem 0 false (aQ gs bJ s4))::.aC bJ 1 (b_.map ax)::H):=by
  intro st s3 e h0 h1 h2 hH;obtain⟨d,ah,aB,h4,hH⟩:=dh (s:=s3) s.i e (by omega) hH;obtain⟨w1,w2,w3,w4⟩:=dA (b_:=b_) (s:=s3) (i:=s.i) (e:=e) h1 h0;exact⟨d,ah,aB,h4,_,⟨w3.trans h2.1,w4.trans h2.2.1,by rw[w2];exact h2.2.2.1,by rw[w2];exact h2.2.2.2⟩,hH⟩
 refine zQ 3 ?_;obtain⟨_,st,aB,m,ok,mm,rfl,CU,VK,hH⟩:=uU (s:={s with i:=s.i+1}) tq (by show s.i+1≤_;omega) hne hH;refine qv aB ?_;refine zQ 6 ?_
 obtain⟨s1,kR⟩:∃s1:fJ,({s with i:=s.i+1+mm}:fJ)=s1:=⟨_,rfl⟩
 have JP:s1.e=0:=by rw[←kR];exact he
 have E2:tk gs s s1:=by rw[←kR];exact⟨rfl,rfl,by show s.i<s.i+1+mm;omega,VK⟩
 have hH:Has N S2 st (.box k (.mem 0 false (aQ gs bJ s1))::.aC bJ 1 (b_.map ax)::H):=by rw[←kR];exact hH
 clear kR;refine zQ 8 ?_;refine ak.ky (fun fr st=>∃(n:List UInt8) (en:Bool) (s3:fJ) (tmp:List (Nat×D)),fr=⟨14,[.ptr k 0 0,kA fr 1,kA fr 2,kA fr 3,.int .i64 (s.i:Nat),.str m,.bool ok,.str n,.bool en,kA fr 9,kA fr 10,kA fr 11,kA fr 12,kA fr 13],tmp⟩∧Has N S2 st (.box k (.mem 0 false (aQ gs bJ s3))::.aC bJ 1 (b_.map ax)::H)∧(s3.e=0)∧(tk gs s s3)∧(n.length≤120)) ?_ ?_
 ·cases ok with
  |false=>
   have lM:false=false:=rfl;refine zQ 9 ?_;exact⟨m,false,s1,_,rfl,hH,JP,E2,CU⟩
  |true=>
   have lM:true=true:=rfl;obtain⟨k1,k2,k3,k4,k5⟩:=ig (gs:=gs) (s:=s1) (r:=44);have k5:=k5 E2.2.2.2;refine zQ 4 ?_;obtain⟨_,st,aB,rfl,hH⟩:=ei (s:=s1) (by omega) 44 hH;refine qv aB ?_ (hg:=wi lM);refine zQ 2 ?_;generalize df gs s1 44=s2 at*
   have HA:tk gs s s2:=⟨k1.trans E2.1,k2.trans E2.2.1,by have:=E2.2.2.1;omega,k5⟩
   cases hb:j_ gs s1.i 44 with
   |false=>
    refine zQ 2 ?_;exact⟨m,false,s2,_,rfl,hH,k3.trans JP,HA,CU⟩
   |true=>
    refine zQ 8 ?_;obtain⟨_,st,aB,n,there,S0,rfl,Dv,hni,hH⟩:=uU (s:=s2) tq k5 hne hH;refine qv aB ?_;refine zQ 11 ?_;exact⟨n,!there,{s2 with i:=s2.i+S0},_,rfl,hH,k3.trans JP,⟨HA.1,HA.2.1,by have:=HA.2.2.1;show s.i<s2.i+S0;omega,hni⟩,Dv⟩
 ·rintro fr st ⟨n,en,s3,tmp,hfr,hH,h1,h2,h3⟩;rw[hfr];clear hfr;generalize kA fr=ee;clear fr;obtain⟨k1,k2,k3,k4,k5⟩:=ig (gs:=gs) (s:=s3) (r:=125);have k5:=k5 h2.2.2.2
  have CP:tk gs s (df gs s3 125):=⟨k1.trans h2.1,k2.trans h2.2.1,by have:=h2.2.2.1;omega,k5⟩
  have Hz:(df gs s3 125).e=0:=k3.trans h1
  cases ok with
  |false=>
   have cu:(!false)=true:=rfl;refine zQ 25 ?_;obtain⟨_,st,aB,rfl,s4,Tu,hH⟩:=Fq _ s3 4 (by decide) h1 h2 hH;refine qv aB ?_;refine zQ 6 ?_;refine ak.ret ⟨rx,_,_,_,rfl,ag (rfl),?_⟩;exact⟨_,_,s4,rfl,Tu,bn.aj bh hH⟩
  |true=>
   have cu:(!true)=false:=rfl
   cases I0:(!j_ gs s3.i 125) with
   |true=>
    refine zQ 7 ?_;obtain⟨_,st,aB,rfl,hH⟩:=ei (s:=s3) (by omega) 125 hH;refine qv aB ?_ (hg:=wi cu);refine zQ 12 ?_;generalize df gs s3 125=s4 at*;refine zQ 5 ?_;obtain⟨_,st,aB,rfl,s5,IX,hH⟩:=Fq _ s4 4 (by decide) Hz CP hH;refine qv aB ?_;refine zQ 6 ?_;refine ak.ret ⟨rx,_,_,_,rfl,ag (rfl),?_⟩;exact⟨_,_,s5,rfl,IX,bn.aj bh hH⟩
   |false=>
    have dK:True:=trivial
    cases en with
    |true=>
     have c7:(!true)=false:=rfl;refine zQ 7 ?_;obtain⟨_,st,aB,rfl,hH⟩:=ei (s:=s3) (by omega) 125 hH;refine qv aB ?_ (hg:=wi cu);refine zQ 9 ?_;refine aa.cH (ai rfl rfl rfl I0) rfl c7 (ab rfl _) ?_;refine zQ 2 ?_;generalize df gs s3 125=s4 at*;refine zQ 2 ?_;obtain⟨_,yi,a1,f1,rfl⟩:=ni (s0:=st) m (by omega);refine zQ 3 ?_;refine qv (yi) ?_;refine zQ 15 ?_;obtain⟨_,oZ,a2,f2,rfl⟩:=ni (s0:=st) [] (by simp);refine zQ 3 ?_;refine qv (oZ) ?_;refine zQ 8 ?_;refine ak.cY 78 (.bool (!f1||!f2)) [] ?_ (fun ff tmp cx=>?_)
     ·refine zQ 3 ?_;refine aa.two 75 rfl (fun cu=>?_) (fun cu=>?_)
      ·refine zQ 3 ?_;refine aa.nil (aJ ?_ ?_)
       ·dsimp only[aF,List.foldl,nth,u2,u1]
        all_goals(first|rfl|simp)
       ·refine zF ?_
        all_goals(simp[cu];done)
      ·refine zQ 3 ?_;refine aa.nil (aJ ?_ ?_)
       ·dsimp only[aF,List.foldl,nth,u2,u1]
        all_goals(first|rfl|simp)
       ·refine zF ?_
        all_goals(simp[cu];done)
     dsimp only[aF,List.foldl,nth,u2,u1];refine qc (fun CW=>?_) (fun CW=>?_)<;>try simp only[cs] at CW
     ·refine zQ 4 ?_;obtain⟨_,st,aB,rfl,s5,IX,hH⟩:=Fq _ s4 2 (by decide) Hz CP hH;refine qv aB ?_;refine zQ 6 ?_;refine ak.ret ⟨rx,_,_,_,rfl,ag (rfl),?_⟩;exact⟨_,_,s5,rfl,IX,bn.aj bh hH⟩
     ·refine zQ 17 ?_;refine ak.ret ⟨rx,_,_,_,rfl,ag (rfl),?_⟩;exact⟨_,_,s4,rfl,CP,bn.aj bh hH⟩
    |false=>
     have c7:(!false)=true:=rfl;refine zQ 7 ?_;obtain⟨_,st,aB,rfl,hH⟩:=ei (s:=s3) (by omega) 125 hH;refine qv aB ?_ (hg:=wi cu);refine zQ 8 ?_;obtain⟨_,hle,v,rfl⟩:=Hn (s0:=st) n m;refine aa.BQ (ai rfl rfl rfl c7) rfl hle (ab rfl _) ?_;refine aa.cQ (ai rfl rfl rfl I0) rfl c7 (ab rfl _) ?_;refine zQ 2 ?_;generalize df gs s3 125=s4 at*
     cases v with
     |true=>
      refine zQ 5 ?_;obtain⟨_,st,aB,rfl,s5,IX,hH⟩:=Fq _ s4 4 (by decide) Hz CP hH;refine qv aB ?_;refine zQ 6 ?_;refine ak.ret ⟨rx,_,_,_,rfl,ag (rfl),?_⟩;exact⟨_,_,s5,rfl,IX,bn.aj bh hH⟩
     |false=>
      refine zQ 2 ?_;obtain⟨_,yi,a1,f1,rfl⟩:=ni (s0:=st) m (by omega);refine zQ 3 ?_;refine qv (yi) ?_;refine zQ 13 ?_;obtain⟨_,oZ,a2,f2,rfl⟩:=ni (s0:=st) n (by omega);refine zQ 3 ?_;refine qv (oZ) ?_;refine zQ 8 ?_;refine ak.cY 78 (.bool (!f1||!f2)) [] ?_ (fun ff tmp cx=>?_)
      ·refine zQ 3 ?_;refine aa.two 75 rfl (fun cu=>?_) (fun cu=>?_)
       ·refine zQ 3 ?_;refine aa.nil (aJ ?_ ?_)
        ·dsimp only[aF,List.foldl,nth,u2,u1]
         all_goals(first|rfl|simp)
        ·refine zF ?_
         all_goals(simp[cu];done)
       ·refine zQ 3 ?_;refine aa.nil (aJ ?_ ?_)
        ·dsimp only[aF,List.foldl,nth,u2,u1]
         all_goals(first|rfl|simp)
        ·refine zF ?_
         all_goals(simp[cu];done)
      dsimp only[aF,List.foldl,nth,u2,u1];refine qc (fun CW=>?_) (fun CW=>?_)<;>try simp only[cs] at CW
      ·refine zQ 4 ?_;obtain⟨_,st,aB,rfl,s5,IX,hH⟩:=Fq _ s4 2 (by decide) Hz CP hH;refine qv aB ?_;refine zQ 6 ?_;refine ak.ret ⟨rx,_,_,_,rfl,ag (rfl),?_⟩;exact⟨_,_,s5,rfl,IX,bn.aj bh hH⟩
      ·refine zQ 15 ?_;refine ak.ret ⟨rx,_,_,_,rfl,ag (rfl),?_⟩;exact⟨_,_,s4,rfl,CP,bn.aj bh hH⟩
end Go.Proofs.YtecjacicdpejaaaGreat
namespace Go.Proofs.YtecjacicdpejaaaGreat
open Go.V Go
def cW (fr:Go.V.Fr) (k:Nat):Go.V.D:=Go.V.nth .bj fr.loc k
theorem rG:∀{l:List D},(∀d∈l,ck d=true)→refs l=0
 |[],_=>rfl
 |d::l,h=>by
  have h1:=rG (l:=l) fun d hd=>h d (List.mem_cons_of_mem _ hd);have h2:=h d (List.mem_cons_self ..)
  have h3:d.ref=0:=by cases d<;>first|rfl|(simp[ck] at h2)
  simp only[refs,h1,h3,Nat.max_self]
theorem ug {l:List dI} (h:∀n∈l,wX n):refs (l.map bf).flatten=0:=
 rG fun d hd=>by
  obtain⟨e,he,BP⟩:=List.mem_flatten.1 hd;exact oN h e he d BP
def eo (l:List dI):List D:=[wS l]
theorem xJ {l:List (List dI)} {i:Nat} {q:List dI} (h:l[i]?=some q):(l.map eo)[i]?=some (eo q):=by rw[List.getElem?_map,h];rfl
def fZ:List (List dI)→Nat
 |[]=>0
 |l::ls=>l.length+fZ ls
theorem dJ:∀a b:List (List dI),fZ (a++b)=fZ a+fZ b
 |[],b=>by simp[fZ]
 |l::a,b=>by rw[List.cons_append,fZ,fZ,dJ a b];omega
theorem uD {s0:St} {x:D} {parts:List (List dI)} (op:Int) (hx:V.Rows s0 1 x (parts.map eo)) (hv:∀l∈parts,∀n∈l,wX n) (hp:parts.length≤100000) (hs:fZ parts≤100000):∃d,Ev pv 188 [.int .i64 op,x] s0 d s0∧∃l,d=wS l∧(∀n∈l,wX n)∧(parts.length=1→l.length≤fZ parts)∧l.length≤fZ parts+1:=by
 refine Ev.Dq rfl NZ rfl rfl rfl ?_;refine zE ?_;obtain⟨aP,hF,hH⟩:=ri s0;generalize ae .ro s0=S at*;have hx:=Arg.of hx aP;refine zQ 8 ?_;refine qn ?_;simp only[List.length_map];refine zQ 7 ?_
 by_cases h0:parts.length=0
 ·refine qD rfl (by simp[h0]) ?_;refine zQ 2 ?_;refine aa.go (d:=.agg [.int .i64 1,.nul,.int .i64 0,.int .i64 0,.bool false,.int .i64 0,.int .i64 0]) (st1:=_) rfl rfl rfl (by dsimp only[Fr.put,u1,u2]<;>rfl) ?_;refine qh (s:=7) (vs:=[_]) hH fun k13 st QY hH=>?_;refine zQ 2 ?_;have hfz:=jx (L:=s0.bs.length) (a:=[]) hH aN (.inr ⟨rfl,rfl⟩) (fun k hk=>by have kG:k13+1=k+1:=hk;rw[←aP];omega);refine ak.ret ⟨rx,_,_,rfl,rl aP hH (hfz),?_⟩;exact⟨_,rfl,EL (by simp) (by omega),by omega,by simp⟩
 have MZ:(((parts.length:Nat):Int)==0)=false:=by rw[beq_eq_false_iff_ne];omega
 refine qE rfl (by rw[MZ]) ?_;refine zQ 5 ?_
 by_cases h1:parts.length=1
 ·obtain⟨q,hq⟩:∃q,parts[0]?=some q:=⟨parts[0]'(by omega),List.getElem?_eq_getElem _⟩
  have gm:=xJ hq
  have HC:parts=[q]:=by
   match parts,h1,hq with
   |[a],_,hq=>simp at hq;rw[hq]
  refine qD rfl (by simp[h1]) ?_;refine zQ 3 ?_;refine qr fun PG JZ=>?_;refine zQ 3 ?_;refine ak.ret ⟨rx,_,_,rfl,rl aP hH (rfl),?_⟩;refine⟨q,rfl,hv q (List.mem_of_getElem? hq),fun _=>?_,?_⟩<;>rw[HC]<;>simp[fZ]
 have MY:(((parts.length:Nat):Int)==1)=false:=by rw[beq_eq_false_iff_ne];omega
 refine qE rfl (by rw[MY]) ?_;refine zQ 5 ?_;refine qn ?_;simp only[List.length_map];refine aa.go (d:=.agg [.int .i64 op,.nul,.int .i64 0,.int .i64 0,.bool false,.int .i64 0,.int .i64 (parts.length:Nat)]) (st1:=_) rfl rfl rfl (by dsimp only[Fr.put,u1,u2]<;>rfl) ?_;refine qh (s:=7) (vs:=[_]) hH fun k23 st V7 hH=>?_;refine zQ 6 ?_;refine qn ?_;simp only[List.length_map];refine zQ 2 ?_;have hH:Has s0.bs.length S st (.aC (.win k23 0 0 1 7) 7 [[.int .i64 op,.nul,.int .i64 0,.int .i64 0,.bool false,.int .i64 0,.int .i64 (parts.length:Nat)]]::[]):=hH;refine zQ 1 ?_;refine ak.loop (fun mm fr st=>∃(i:Nat) (od:D) (es:List (List D)) (lo:List dI),fr.clean=⟨27,[cW fr 0,cW fr 1,cW fr 2,cW fr 3,cW fr 4,od,cW fr 6,cW fr 7,cW fr 8,cW fr 9,cW fr 10,cW fr 11,cW fr 12,cW fr 13,cW fr 14,cW fr 15,cW fr 16,cW fr 17,cW fr 18,cW fr 19,cW fr 20,cW fr 21,cW fr 22,cW fr 23,x,.int .i64 (parts.length:Nat),.int .i64 (i:Nat)],[]⟩∧Has s0.bs.length S st [.aC od 7 es]∧(i+mm=parts.length)∧(es.map (·.map mY)=lo.map bf)∧(∀e∈es,∀d∈e,lp d=true)∧(∀n∈lo,wX n)∧(lo.length=1+fZ (parts.take i))∧(∀k,od.ref=k+1→S.bs.length≤k)) (parts.length) ?_ ?_
 ·refine⟨0,.win k23 0 0 1 7,[[.int .i64 op,.nul,.int .i64 0,.int .i64 0,.bool false,.int .i64 0,.int .i64 (parts.length:Nat)]],[vL op 0 0 false 0 (parts.length:Nat) []],rfl,hH,by omega,rfl,?_,EL (by simp) (by omega),by simp[fZ],fun k hk=>by simp only[D.ref] at hk;omega⟩;intro e he d hd;simp only[List.mem_cons,List.not_mem_nil,or_false] at he;subst he;simp only[List.mem_cons,List.not_mem_nil,or_false] at hd
  rcases hd with rfl|rfl|rfl|rfl|rfl|rfl|rfl<;>rfl
 rintro mm fr st ⟨i,od,es,lo,hfr,hH,hi,tH,ht,Fb,hlen,sE⟩;rw[hfr];clear hfr;generalize cW fr=ee;clear fr;refine zQ 4 ?_
 by_cases hlt:i<parts.length
 ·obtain⟨q,hq⟩:∃q,parts[i]?=some q:=⟨parts[i]'hlt,List.getElem?_eq_getElem _⟩
  have gm:=xJ hq;have O3:=hv q (List.mem_of_getElem? hq);have sG:es.length=lo.length:=by have:=congrArg List.length tH;simpa using this
  have U2:parts.take (i+1)=parts.take i++[q]:=by rw[List.take_add_one,hq];rfl
  have P6:fZ (parts.take (i+1))=fZ (parts.take i)+q.length:=by rw[U2,dJ];simp[fZ]
  have U8:fZ (parts.take (i+1))≤fZ parts:=by
   have:=dJ (parts.take (i+1)) (parts.drop (i+1));rw[List.take_append_drop] at this;omega
  refine qq<|qD rfl (by simp;omega) ?_;refine zQ 5 ?_;refine qr fun PF JY=>?_;refine zQ 6 ?_;refine aa.j6 (s:=7) hH rfl (ev rfl) (ev rfl) aN ((uh O3).rows st) rfl rfl rfl rfl rfl rfl rfl ⟨(Nat.le_of_ble_eq_true rfl),(Nat.le_of_ble_eq_true rfl)⟩ (fun _=>(ab rfl _)) (by rw[List.length_map];omega) (.inl hF) sE (fun T6 st sE hH=>?_);dsimp only[u2] at hH;refine zQ 6 ?_;refine⟨mm-1,by omega,⟨i+1,T6,es++q.map bf,lo++q,rfl,hH,by omega,by rw[List.map_append,List.map_append,tH,vJ O3],?_,?_,by rw[List.length_append,hlen,P6];omega,sE⟩⟩
  ·intro e he
   rcases List.mem_append.1 he with he|he
   ·exact ht e he
   ·exact rU O3 e he
  ·intro n hn
   rcases List.mem_append.1 hn with hn|hn
   ·exact Fb n hn
   ·exact O3 n hn
 ·refine qq<|qE rfl (by simp;omega) ?_;refine zQ 6 ?_;have hik:i=parts.length:=by omega
  rw[hik,List.take_length] at hlen;refine ak.ret ⟨rx,_,_,rfl,rl aP hH (jw hH aN tH ht (fun k hk=>by have:=sE k hk;rw[←aP];exact this) (by decide)),?_⟩;exact⟨_,rfl,Fb,by omega,by omega⟩
end Go.Proofs.YtecjacicdpejaaaGreat
