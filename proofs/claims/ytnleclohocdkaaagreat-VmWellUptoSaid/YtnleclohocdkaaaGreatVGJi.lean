/-
 What a rule reaches: the document's search.
-/
import Derived.Test.YtnleclohocdkaaaGreatVGHr
import Derived.Test.YtnleclohocdkaaaGreatVGUa
import Derived.Test.YtnleclohocdkaaaGreatVM2
set_option maxRecDepth 100000
set_option maxHeartbeats 4000000
set_option linter.unusedSimpArgs false
set_option linter.unusedVariables false
set_option linter.unusedSectionVars false
namespace Go.Proofs.YtnleclohocdkaaaGreat
open Go.V Go
def pM (fr:Go.V.Fr) (k:Nat):Go.V.D:=Go.V.nth .junk fr.loc k
theorem ER {s0:St} {p:Pg} {pc:Nat} {i:aC} (hp:p.ok) (hi:p.code[pc]?=some i):Ev pv 107 [p.d,.int .i64 (pc:Nat)] s0 (zB (bj pc i)) s0:=by
 refine Ev.mk1 rfl Lo rfl rfl rfl ?_;refine zE ?_;obtain⟨hSb,hF,hH⟩:=ri s0;generalize enterSt .ro s0=S at*;have hc:=hp.c.arg s0.bs.length S;have uo:=(hp.i i (List.mem_of_getElem? hi)).1;have hcl:=hp.cl;have hr:=de hi;have hlt:=lt_get hi;unfold Pg.d;refine zQ 2 ?_;refine qb hH fun k2 st hk2 hH=>?_;dsimp only[u2,u1,u3,u4,setMany,u5,u6,D.cells,Nat.reduceAdd,Pg.cs,aq,ae,aI] at hH;refine zQ 7 ?_;refine qr fun p9 Vo=>?_;refine EvO.bF rfl (ev rfl) (by assumption) rfl (by dsimp only[Fr.put,u1,u2]<;>rfl) ?_;refine qa hH fun k5 st zO hH=>?_;refine qS hH at0 fun st hH=>?_;dsimp only[u2,u1,u3,u4,setMany,u5,u6,D.cells,Nat.reduceAdd,Pg.cs,aq,ae,aI] at hH;refine zQ 13 ?_;refine zI (fun h2=>?_) fun h2=>?_
 ·have:bj pc i=[i.x,i.y]:=by unfold bj;rw[if_pos h2]
  rw[this];refine zQ 6 ?_;refine qh (s:=1) (vs:=[_,_]) hH fun k19 st NV hH=>?_;refine zQ 2 ?_;refine EvC.ret ⟨rx,_,rfl,rl hSb hH ?_⟩;exact hH.freeze at0 (gy [i.x,i.y]) (n:=15) (by decide)
 ·refine zQ 5 ?_;refine zI (fun h3=>?_) fun h3=>?_
  ·have:bj pc i=[i.x]:=by unfold bj;rw[if_neg h2,if_pos h3]
   rw[this];refine zQ 4 ?_;refine qh (s:=1) (vs:=[_]) hH fun k24 st NT hH=>?_;refine zQ 2 ?_;refine EvC.ret ⟨rx,_,rfl,rl hSb hH ?_⟩;exact hH.freeze at0 (gy [i.x]) (n:=15) (by decide)
  ·refine zQ 5 ?_;refine zI (fun h7=>?_) fun h7=>?_
   ·have:bj pc i=[]:=by unfold bj;rw[if_neg h2,if_neg h3,if_pos h7]
    rw[this];refine zQ 4 ?_;refine EvC.ret ⟨rx,_,rfl,rl hSb hH (rfl)⟩
   ·have:bj pc i=[((pc+1:Nat):Int)]:=by unfold bj;rw[if_neg h2,if_neg h3,if_neg h7]
    rw[this];refine zQ 5 ?_;refine qh (s:=1) (vs:=[_]) hH fun k29 st NQ hH=>?_;refine zQ 2 ?_;refine EvC.ret ⟨rx,_,rfl,rl hSb hH ?_⟩;exact hH.freeze at0 (gy [((pc+1:Nat):Int)]) (n:=15) (by decide)
def je (p:Pg) (ja:Int):List Bool:=if iw ja p.af.length then aR p.code (p.af.getD ja.toNat 0) else List.replicate p.code.length false
theorem nT {s0:St} {p:Pg} {ja:Int} (hp:p.ok) (hcl:gr p.code) (e_:∀v∈p.af,0≤v∧v<p.code.length):Ev pv 72 [p.d,.int .i64 ja] s0 (lH (je p ja)) s0:=by
 refine Ev.mk1 rfl OR rfl rfl rfl ?_;refine zE ?_;obtain⟨hSb,hF,hH⟩:=ri s0;generalize enterSt .ro s0=S at*;have hc:=hp.c.arg s0.bs.length S;have hs:=hp.s.arg s0.bs.length S;have sV:=hp.c;have hlen:=hp.cl;have Fb:=hp.sl;unfold Pg.d;refine zQ 2 ?_;refine qb hH fun k2 st hk2 hH=>?_;dsimp only[u2,u1,u3,u4,setMany,u5,u6,D.cells,Nat.reduceAdd,Pg.cs,aq,ae,aI] at hH;refine zQ 6 ?_;refine qn ?_;simp only[List.length_map];refine EvO.pW (s:=1) hH rfl rfl rfl rfl rfl rfl rfl rfl (Nat.le_of_ble_eq_true rfl) (by omega) (fun _=>(put_T rfl _)) (fun k11 st hk11 hH=>?_);refine zQ 2 ?_
 have hnot:iw ja p.af.length=!(decide (ja<0)||decide (ja≥p.af.length)):=by
  unfold iw;simp only[Bool.not_or,←decide_not,Int.not_lt,Int.not_le,ge_iff_le]
 refine zQ 2 ?_;refine EvC.cutT 20 (.bool (decide (ja<0)||decide (ja≥p.af.length))) [] ?_ (fun ff tmp htmp=>?_)
 ·refine zQ 3 ?_;refine EvO.two 14 rfl (fun bL=>?_) (fun bL=>?_)
  ·refine zQ 6 ?_;refine EvO.nil (leafT ?_ ?_)
   ·dsimp only[setW,List.foldl,nth,u2,u1]
    all_goals(first|rfl|simp)
   ·refine zF ?_
    all_goals(simp[bL];done)
  ·refine zQ 3 ?_;refine qn ?_ (hg:=wi bL);simp only[List.length_map];refine zQ 2 ?_;refine EvO.nil (leafT ?_ ?_)
   ·dsimp only[setW,List.foldl,nth,u2,u1]
    all_goals(first|rfl|simp)
   ·refine zF ?_
    all_goals(simp[bL];done)
 dsimp only[setW,List.foldl,nth,u2,u1];refine qc (fun h0=>?_) (fun h0=>?_)<;>try simp only[cs] at h0
 ·have hR:je p ja=List.replicate p.code.length false:=by unfold je;rw[hnot,h0];rfl
  rw[hR];refine zQ 5 ?_;have hH:Has s0.bs.length S st [.lst (.win k11 0 0 p.code.length 1) 1 ((List.replicate p.code.length false).map aI),.box k2 (.mem 0 false [p.cd,p.sd])]:=by rw[List.map_replicate];exact hH
  refine EvC.ret ⟨rx,_,rfl,rl hSb hH ?_⟩;exact hH.freeze at0 (jx _) (n:=15) (by decide)
 ·have oN:iw ja p.af.length=true:=by rw[hnot,h0];rfl
  have hR:je p ja=aR p.code (p.af.getD ja.toNat 0):=by unfold je;rw[if_pos oN]
  rw[hR];unfold iw at oN;simp only[Bool.and_eq_true,decide_eq_true_eq] at oN;obtain⟨ru,rfl⟩:=Int.eq_ofNat_of_zero_le oN.1
  obtain⟨start,iP⟩:∃v,p.af[ru]?=some v:=⟨p.af[ru]'(by omega),List.getElem?_eq_getElem _⟩
  have IG:=dc iP;have e_:=e_ start (List.mem_of_getElem? iP);rw[show p.af.getD (ru:Int).toNat 0=start by rw[Int.toNat_natCast,List.getD_eq_getElem?_getD,iP];rfl];refine zQ 6 ?_;refine qr fun GP yj=>?_;refine qR ?_;refine qh (s:=1) (vs:=[_]) hH fun k27 st NR hH=>?_;refine zQ 4 ?_;refine EvC.loop (fun mm fr st=>∃(y z:D) (seen:List Bool) (dS:List Int),fr.clean=⟨8,[pM fr 0,pM fr 1,.ptr k2 0 0,pM fr 3,.nul,y,z,pM fr 7],[]⟩∧Has s0.bs.length S st [.lst z 1 (dS.reverse.map ae),.lst y 1 (seen.map aI),.box k2 (.mem 0 false [p.cd,p.sd])]∧(uV p.code mm seen dS=aR p.code start)∧(3*seen.count false+dS.length≤mm)∧(seen.length=p.code.length)∧(∀v∈dS,0≤v∧v<(p.code.length:Int))∧(mm≤3*p.code.length+1)) (3*p.code.length+1) ?_ ?_
  ·exact⟨_,_,List.replicate p.code.length false,[start],rfl,(by rw[List.map_replicate];exact hH),rfl,by simp,by simp,by simpa using e_,by omega⟩
  rintro mm fr st ⟨y,z,seen,dS,hfr,hH,hd,hm,gi,hsk,xk⟩;rw[hfr];clear hfr;generalize pM fr=ee;clear fr
  rcases dS with _|⟨v,dS⟩
  ·refine zQ 4 ?_;refine qn ?_ (hR:=hH.rows at0);simp only[List.length_map,List.length_nil,List.length_reverse];refine zQ 2 ?_;refine EvC.cond (v:=false) (by dsimp only[Fr.ev,Fr.get,nth,V.look];rfl) (fun h=>by cases h) (fun _=>?_);refine zQ 6 ?_;have eM:seen=aR p.code start:=by rw[←hd];cases mm<;>rfl
   rw[←eM];refine EvC.ret ⟨rx,_,rfl,rl hSb hH ?_⟩;exact hH.freeze at1 (jx _) (n:=15) (by decide)
  ·have hv:=hsk v (List.mem_cons_self ..);obtain⟨k,rfl⟩:=Int.eq_ofNat_of_zero_le hv.1;have hk:k<p.code.length:=by omega
   simp only[List.length_cons] at hm
   obtain⟨mm,rfl⟩:∃m',mm=m'+1:=⟨mm-1,by omega⟩
   obtain⟨b,hb⟩:∃b,seen[k]?=some b:=⟨seen[k]'(by omega),List.getElem?_eq_getElem _⟩
   obtain⟨i,hi⟩:∃i,p.code[k]?=some i:=⟨p.code[k]'(by omega),List.getElem?_eq_getElem _⟩
   have hr1:=u7 (k:Int) dS;have kW:=fU hb;refine zQ 4 ?_;refine qn ?_ (hR:=hH.rows at0);simp only[List.length_map,List.length_cons,List.length_reverse];refine zQ 2 ?_;refine qD rfl (by simp) ?_;refine zQ 6 ?_;refine qn ?_ (hR:=hH.rows at0);simp only[List.length_map,List.length_cons,List.length_reverse];refine EvO.gR (z:=((dS.length:Nat):Int)) rfl (ev rfl) (ev rfl) (by(try simp only[List.length_reverse,List.length_cons,List.length_nil,List.length_append,List.length_map,List.length_set]);rw[wrap_i64 (by omega) (by omega)]<;>omega) (put_T rfl _) ?_;refine qi hH at0 fun IA A_=>?_;refine zQ 7 ?_;refine qn ?_ (hR:=hH.rows at0);simp only[List.length_map,List.length_cons,List.length_reverse];refine EvO.gR (z:=((dS.length:Nat):Int)) rfl (ev rfl) (ev rfl) (by(try simp only[List.length_reverse,List.length_cons,List.length_nil,List.length_append,List.length_map,List.length_set]);rw[wrap_i64 (by omega) (by omega)]<;>omega) (put_T rfl _) ?_;refine EvO.xP hH rfl (ev rfl) (by exact at0) rfl rfl (nF (by simp only[List.length_map,List.length_reverse,List.length_cons,List.length_append,List.length_nil,List.length_take,List.length_drop,List.length_set,List.length_replicate];omega)) ⟨(by omega),(by simp only[List.length_map,List.length_reverse,List.length_cons,List.length_append,List.length_nil,List.length_take,List.length_drop,List.length_set,List.length_replicate];omega)⟩ (fun _=>(put_T rfl _)) (fun UC hH=>?_);refine zQ 2 ?_;dsimp only[u2] at hH;rw[y5] at hH;have e_:∀w∈dS,0≤w∧w<(p.code.length:Int):=fun w hw=>hsk w (List.mem_cons_of_mem _ hw);refine zQ 5 ?_;refine qi hH at1 fun Iz A9=>?_;refine zQ 2 ?_
   cases b with
   |true=>
    refine zQ 2 ?_;simp only[uV,Int.toNat_natCast,hb] at hd;exact⟨mm,by omega,⟨_,_,seen,dS,rfl,hH,hd,by omega,gi,e_,by omega⟩⟩
   |false=>
    have uz:=count_set hb;have ew:(seen.set k true).map aI=(seen.map aI).set k [.bool true]:=by rw[List.map_set];rfl
    simp only[uV,Int.toNat_natCast,hb,hi] at hd;have ND:=hcl k i hi;have C8:=py k i
    have Hf:∀w∈(bj k i).reverse++dS,0≤w∧w<(p.code.length:Int):=fun w hw=>by
     rcases List.mem_append.1 hw with hw|hw
     ·exact ND w (List.mem_reverse.1 hw)
     ·exact e_ w hw
    have Hn:(((bj k i).reverse++dS).reverse).map ae=dS.reverse.map ae++(bj k i).map ae:=by
     rw[List.reverse_append,List.reverse_reverse,List.map_append]
    have Gp:=(pQ (bj k i)).arg s0.bs.length S;refine zQ 6 ?_;refine qi hH at1 fun U' SM=>?_;refine EvO.eW hH rfl (ev rfl) (ev rfl) (by assumption) rfl rfl (by exact at1) (by assumption) (Nat.le_of_ble_eq_true rfl) (by exact .inl hF) (fun st hH=>?_);dsimp only[u2,u1,u3,u4,setMany,u5,u6,D.cells,Nat.reduceAdd,Pg.cs,aq,ae,aI] at hH;refine zQ 3 ?_;refine EvO.hloadS (m:=2) hH rfl (ev rfl) (by exact at2) (by dsimp only[List.drop_succ_cons,List.drop_zero,List.take_succ_cons,List.take_zero,Pg.cs,aq,ae,aI]<;>rfl) rfl rfl (put_T rfl _) ?_;refine qm ?_;refine qv (ER hp hi) ?_;refine EvO.happend (s:=1) hH rfl (ev rfl) (ev rfl) (by exact at0) (by exact Arg.rows (by assumption) hH) rfl rfl rfl rfl rfl rfl rfl ⟨(Nat.le_of_ble_eq_true rfl),(Nat.le_of_ble_eq_true rfl)⟩ (fun _=>(put_T rfl _)) (by simp only[List.length_map,List.length_reverse]<;>omega) (by exact .inl hF) (fun UH st hH=>?_);dsimp only[u2,u1,u3,u4,setMany,u5,u6,D.cells,Nat.reduceAdd,Pg.cs,aq,ae,aI] at hH;refine zQ 2 ?_;exact⟨mm,by omega,⟨y,_,seen.set k true,(bj k i).reverse++dS,rfl,(by rw[Hn,ew];exact hH),hd,by simp only[List.length_append,List.length_reverse];omega,by simp only[List.length_set];exact gi,Hf,by omega⟩⟩
def aj (fr:Go.V.Fr) (k:Nat):Go.V.D:=Go.V.nth .junk fr.loc k
noncomputable def dec (q:Prop):Bool:=@decide q (Classical.propDecidable q)
theorem bR {q:Prop} (h:q):dec q=true:=@decide_eq_true q (Classical.propDecidable q) h
theorem ct {q:Prop} (h:¬q):dec q=false:=@decide_eq_false q (Classical.propDecidable q) h
def jR (p:Pg) (r:Nat) (s:Int) (n:Nat):Prop:=∀pc i,pc<n→(aR p.code s)[pc]?=some true→p.code[pc]?=some i→i.op=7→i.x=(r:Int)
structure aX (p:Pg):Prop where
 cl:p.code.length≤400
 sl:p.af.length≤8
 sh:∀pc i,p.code[pc]?=some i→bI p.code.length p.af.length pc i=true
 st:∀v∈p.af,0≤v∧v<(p.code.length:Int)
 fo:∀r s,p.af[r]?=some s→jR p r s p.code.length
theorem kL {p:Pg} (h:∀pc i,p.code[pc]?=some i→bI p.code.length p.af.length pc i=true):gr p.code:=
 fun pc i hi=>vd (h pc i hi)
theorem aX.closed {p:Pg} (h:aX p):gr p.code:=kL h.sh
theorem cS {a b:Int}:iw a b=true↔0≤a∧a<b:=by
 unfold iw;simp only[Bool.and_eq_true,decide_eq_true_eq,ge_iff_le]
theorem k_ {s0:St} {p:Pg} (hp:p.ok):Ev pv 62 [p.d] s0 (.bool (dec (aX p))) s0:=by
 refine Ev.mk1 rfl OY rfl rfl rfl ?_;refine zE ?_;obtain⟨hSb,hF,hH⟩:=ri s0;generalize enterSt .ro s0=S at*;have hc:=hp.c.arg s0.bs.length S;have hs:=hp.s.arg s0.bs.length S;have sV:=hp.c;have hlen:=hp.cl;have Fb:=hp.sl;unfold Pg.d;refine zQ 2 ?_;refine qb hH fun k1 st pY hH=>?_;dsimp only[u2,u1,u3,u4,setMany,u5,u6,D.cells,Nat.reduceAdd,Pg.cs,aq,ae,aI] at hH;refine zQ 4 ?_;refine EvC.j9 17 (.bool (decide ((p.code.length:Int)>400)||decide ((p.af.length:Int)>8))) [8,9,10,11,12,13,14,15,16] ?_ (fun ff tmp=>?_)
 ·refine zQ 2 ?_;refine qn ?_;simp only[List.length_map];refine zQ 2 ?_;refine EvO.two 12 rfl (fun hg4=>?_) (fun hg4=>?_)
  ·refine zQ 5 ?_;refine EvO.nil (aK ?_);refine zG ?_
   all_goals(simp[hg4];done)
  ·refine zQ 2 ?_;refine qn ?_ (hg:=wi hg4);simp only[List.length_map];refine zQ 2 ?_;refine EvO.nil (aK ?_);refine zG ?_
   all_goals(simp[hg4];done)
 dsimp only[setW,List.foldl,nth,u2,u1];generalize ff 8=e8;generalize ff 9=e9;generalize ff 10=Uz;generalize ff 11=Uy;generalize ff 12=Ux;generalize ff 13=Uw;generalize ff 14=Uv;generalize ff 15=Uu;generalize ff 16=Ut;refine qc (fun h0=>?_) (fun h0=>?_)<;>try simp only[cs] at h0
 ·rw[ct (fun h=>by have:=h.cl;have:=h.sl;simp at h0;omega)];refine zQ 4 ?_;refine EvC.ret ⟨rx,_,rfl,rl hSb hH (rfl)⟩
 ·have h0:p.code.length≤400∧p.af.length≤8:=by simp at h0;omega
  refine zQ 6 ?_;refine qn ?_;simp only[List.length_map];refine zQ 3 ?_;refine EvC.loop (fun mm fr st=>∃(i:Nat),fr.clean=⟨49,[aj fr 0,.ptr k1 0 0,.bool false,aj fr 3,aj fr 4,aj fr 5,aj fr 6,aj fr 7,aj fr 8,aj fr 9,aj fr 10,aj fr 11,aj fr 12,aj fr 13,aj fr 14,aj fr 15,aj fr 16,aj fr 17,aj fr 18,aj fr 19,.int .i64 (p.code.length:Nat),.int .i64 (i:Nat),aj fr 22,aj fr 23,aj fr 24,aj fr 25,aj fr 26,aj fr 27,aj fr 28,aj fr 29,aj fr 30,aj fr 31,aj fr 32,aj fr 33,aj fr 34,aj fr 35,aj fr 36,aj fr 37,aj fr 38,aj fr 39,aj fr 40,aj fr 41,aj fr 42,aj fr 43,aj fr 44,aj fr 45,aj fr 46,aj fr 47,aj fr 48],[]⟩∧Has s0.bs.length S st [.box k1 (.mem 0 false [p.cd,p.sd])]∧(i+mm=p.code.length)∧(∀pc q,pc<i→p.code[pc]?=some q→bI p.code.length p.af.length pc q=true)) (p.code.length) ?_ ?_
  ·exact⟨0,rfl,hH,by omega,by intro pc q h;omega⟩
  rintro mm fr st ⟨i,hfr,hH,hi,hsh⟩;rw[hfr];clear hfr;generalize aj fr=ee;clear fr;refine zQ 5 ?_;refine zP (fun h1=>?_) fun h1=>?_
  ·refine zQ 1 ?_
   obtain⟨q,hq⟩:∃q,p.code[i]?=some q:=⟨p.code[i]'(by omega),List.getElem?_eq_getElem _⟩
   refine zQ 9 ?_;refine EvO.hloadS (m:=2) hH rfl (ev rfl) (by exact at0) (by dsimp only[List.drop_succ_cons,List.drop_zero,List.take_succ_cons,List.take_zero,Pg.cs,aq,ae,aI]<;>rfl) rfl rfl (by dsimp only[Fr.put,u1,u2]<;>rfl) ?_;refine qm ?_;refine qv (Au (p:=p) hp hq) ?_;refine zQ 2 ?_;refine EvC.cond (by rfl) (fun h2=>?_) (fun h2=>?_)<;>try simp only[Bool.not_eq_true',Bool.not_eq_false'] at h2
   ·rw[ct (fun h=>by have:=h.sh i q hq;rw[this] at h2;cases h2)];refine zQ 4 ?_;refine EvC.ret ⟨rx,_,rfl,rl hSb hH (rfl)⟩
   ·refine zQ 5 ?_;refine⟨mm-1,by omega,⟨i+1,rfl,hH,by omega,?_⟩⟩;intro pc q' wv l6
    by_cases he:pc=i
    ·subst he;rw[hq] at l6;cases l6;simpa using h2
    ·exact hsh pc q' (by omega) l6
  ·refine zQ 1 ?_;have hsh:∀pc q,p.code[pc]?=some q→bI p.code.length p.af.length pc q=true:=fun pc q hq=>hsh pc q (by have:=lt_get hq;omega) hq;have hcl:=kL hsh;refine zQ 5 ?_;refine qn ?_;simp only[List.length_map];refine zQ 3 ?_;refine EvC.loop (fun mm fr st=>∃(r:Nat),fr.clean=⟨49,[aj fr 0,.ptr k1 0 0,.bool false,aj fr 3,aj fr 4,aj fr 5,aj fr 6,aj fr 7,aj fr 8,aj fr 9,aj fr 10,aj fr 11,aj fr 12,aj fr 13,aj fr 14,aj fr 15,aj fr 16,aj fr 17,aj fr 18,aj fr 19,aj fr 20,aj fr 21,aj fr 22,aj fr 23,aj fr 24,aj fr 25,aj fr 26,aj fr 27,aj fr 28,aj fr 29,p.sd,.int .i64 (p.af.length:Nat),.int .i64 (r:Nat),aj fr 33,aj fr 34,aj fr 35,aj fr 36,aj fr 37,aj fr 38,aj fr 39,aj fr 40,aj fr 41,aj fr 42,aj fr 43,aj fr 44,aj fr 45,aj fr 46,aj fr 47,aj fr 48],[]⟩∧Has s0.bs.length S st [.box k1 (.mem 0 false [p.cd,p.sd])]∧(r+mm=p.af.length)∧(∀r' s,r'<r→p.af[r']?=some s→(0≤s∧s<(p.code.length:Int))∧jR p r' s p.code.length)) (p.af.length) ?_ ?_
   ·exact⟨0,rfl,hH,by omega,by intro pc q h;omega⟩
   rintro mm fr st ⟨r,hfr,hH,hi,hok⟩;rw[hfr];clear hfr;generalize aj fr=ee;clear fr;refine zQ 5 ?_;refine zP (fun h3=>?_) fun h3=>?_
   ·refine zQ 1 ?_
    obtain⟨s,iP⟩:∃s,p.af[r]?=some s:=⟨p.af[r]'(by omega),List.getElem?_eq_getElem _⟩
    have IG:=dc iP;refine zQ 5 ?_;refine qr fun IA A_=>?_;refine zQ 10 ?_;refine qn ?_;simp only[List.length_map];refine qv (gx _ _) ?_;refine zQ 2 ?_;refine EvC.cond (by rfl) (fun h4=>?_) (fun h4=>?_)<;>try simp only[Bool.not_eq_true',Bool.not_eq_false'] at h4
    ·rw[ct (fun h=>by have:=cS.2 (h.st s (List.mem_of_getElem? iP));rw[this] at h4;cases h4)];refine zQ 4 ?_;refine EvC.ret ⟨rx,_,rfl,rl hSb hH (rfl)⟩
    ·have Fc:=cS.1 (show iw s p.code.length=true by simpa using h4);refine zQ 1 ?_;have n_:=jc p.code s;have IF:=(kM (aR p.code s)).arg s0.bs.length S;refine zQ 5 ?_;refine qv (z6 sV hlen hcl Fc) ?_;refine qn ?_;simp only[List.length_map];refine zQ 3 ?_;refine EvC.loop (fun mm fr st=>∃(i:Nat),fr.clean=⟨49,[aj fr 0,.ptr k1 0 0,.bool false,aj fr 3,.int .i64 (r:Nat),aj fr 5,aj fr 6,aj fr 7,aj fr 8,aj fr 9,aj fr 10,aj fr 11,aj fr 12,aj fr 13,aj fr 14,aj fr 15,aj fr 16,aj fr 17,aj fr 18,aj fr 19,aj fr 20,aj fr 21,aj fr 22,aj fr 23,aj fr 24,aj fr 25,aj fr 26,aj fr 27,aj fr 28,aj fr 29,p.sd,.int .i64 (p.af.length:Nat),.int .i64 (r:Nat),aj fr 33,aj fr 34,aj fr 35,aj fr 36,aj fr 37,aj fr 38,aj fr 39,aj fr 40,aj fr 41,aj fr 42,aj fr 43,aj fr 44,aj fr 45,lH (aR p.code s),.int .i64 ((aR p.code s).length:Nat),.int .i64 (i:Nat)],[]⟩∧Has s0.bs.length S st [.box k1 (.mem 0 false [p.cd,p.sd])]∧(i+mm=p.code.length)∧(jR p r s i)) (p.code.length) ?_ ?_
     ·exact⟨0,rfl,hH,by omega,by intro pc q h;omega⟩
     rintro mm fr st ⟨i,hfr,hH,hj,hom⟩;rw[hfr];clear hfr;generalize aj fr=ee;clear fr;refine zQ 5 ?_;refine zP (fun h5=>?_) fun h5=>?_
     ·refine zQ 1 ?_
      obtain⟨b,hb⟩:∃b,(aR p.code s)[i]?=some b:=⟨(aR p.code s)[i]'(by omega),List.getElem?_eq_getElem _⟩
      obtain⟨q,hq⟩:∃q,p.code[i]?=some q:=⟨p.code[i]'(by omega),List.getElem?_eq_getElem _⟩
      have hr1:=fU hb;have kW:=de hq;refine zQ 5 ?_;refine qr fun PU JO=>?_;refine zQ 5 ?_;refine EvC.cutT 72 (.bool ((b &&(q.op==7)) &&(q.x !=(r:Int)))) [] ?_ (fun ff tmp htmp=>?_)
      ·refine zQ 2 ?_;refine EvO.two 54 rfl (fun fu=>?_) (fun fu=>?_)
       ·refine zQ 3 ?_;refine qr (fun U8 SJ=>?_) (hg:=wi fu);refine qf (fo:=0) (fun U7 SI=>?_) (hg:=wi fu);refine zQ 4 ?_;refine EvO.two 63 rfl (fun cv=>?_) (fun cv=>?_)
        ·refine zQ 3 ?_;refine qr (fun U2 SC=>?_) (hg:=wi cv);refine qf (fo:=1) (fun U1 SB=>?_) (hg:=wi cv);refine zQ 4 ?_;refine EvO.nil (leafT ?_ ?_)
         ·dsimp only[setW,List.foldl,nth,u2,u1]
          all_goals(first|rfl|simp)
         ·refine zF ?_
          all_goals(simp[fu,cv];done)
        ·refine zQ 9 ?_;refine EvO.nil (leafT ?_ ?_)
         ·dsimp only[setW,List.foldl,nth,u2,u1]
          all_goals(first|rfl|simp)
         ·refine zF ?_
          all_goals(simp[fu,cv];done)
       ·refine zQ 18 ?_;refine EvO.nil (leafT ?_ ?_)
        ·dsimp only[setW,List.foldl,nth,u2,u1]
         all_goals(first|rfl|simp)
        ·refine zF ?_
         all_goals(simp[fu];done)
      refine zG ?_;refine qc (fun h6=>?_) (fun h6=>?_)<;>try simp only[cs] at h6
      ·rw[ct (fun h=>by
        have h7:=h.fo r s iP i q (by omega);simp only[Bool.and_eq_true,beq_iff_eq,bne_iff_ne,ne_eq] at h6;obtain⟨⟨rfl,h8⟩,h9⟩:=h6
        exact h9 (h7 hb hq h8))]
       refine zQ 4 ?_;refine EvC.ret ⟨rx,_,rfl,rl hSb hH (rfl)⟩
      ·refine zQ 5 ?_;refine⟨mm-1,by omega,⟨i+1,rfl,hH,by omega,?_⟩⟩;intro pc q' wv wo l6 eU
       by_cases he:pc=i
       ·subst he;rw[hq] at l6;cases l6;rw[hb] at wo;cases wo;simp[eU] at h6;exact h6
       ·exact hom pc q' (by omega) wo l6 eU
     ·refine zQ 5 ?_;refine⟨p.af.length-(r+1),by omega,⟨r+1,rfl,hH,by omega,?_⟩⟩;intro r' s' zK kH
      by_cases he:r'=r
      ·subst he;rw[iP] at kH;cases kH;exact⟨Fc,fun pc q wv=>hom pc q (by omega)⟩
      ·exact hok r' s' (by omega) kH
   ·refine zQ 1 ?_
    rw[bR ⟨h0.1,h0.2,hsh,fun v hv=>by
     obtain⟨r',zK⟩:=List.getElem?_of_mem hv
     exact(hok r' v (by have:=lt_get zK;omega) zK).1,fun r' s' kH=>(hok r' s' (by have:=lt_get kH;omega) kH).2⟩]
    refine zQ 4 ?_;refine EvC.ret ⟨rx,_,rfl,rl hSb hH (rfl)⟩
def cD (fr:Go.V.Fr) (k:Nat):Go.V.D:=Go.V.nth .junk fr.loc k
theorem tI {s0:St} {p:Pg} (hp:p.ok):Ev pv 69 [p.d] s0 (.bool (dec (aX p))) s0:=by
 refine Ev.mk1 rfl OT rfl rfl rfl ?_;refine zE ?_;obtain⟨hSb,hF,hH⟩:=ri s0;generalize enterSt .ro s0=S at*;have hc:=hp.c.arg s0.bs.length S;have hs:=hp.s.arg s0.bs.length S;have sV:=hp.c;have hlen:=hp.cl;have Fb:=hp.sl;unfold Pg.d;refine zQ 2 ?_;refine qb hH fun k1 st pY hH=>?_;dsimp only[u2,u1,u3,u4,setMany,u5,u6,D.cells,Nat.reduceAdd,Pg.cs,aq,ae,aI] at hH;refine zQ 4 ?_;refine EvC.cutT 17 (.bool (decide ((p.code.length:Int)>400)||decide ((p.af.length:Int)>8))) [] ?_ (fun ff tmp htmp=>?_)
 ·refine zQ 2 ?_;refine qn ?_;simp only[List.length_map];refine zQ 2 ?_;refine EvO.two 12 rfl (fun hg4=>?_) (fun hg4=>?_)
  ·refine zQ 5 ?_;refine EvO.nil (leafT ?_ ?_)
   ·dsimp only[setW,List.foldl,nth,u2,u1]
    all_goals(first|rfl|simp)
   ·refine zF ?_
    all_goals(simp[hg4];done)
  ·refine zQ 2 ?_;refine qn ?_ (hg:=wi hg4);simp only[List.length_map];refine zQ 2 ?_;refine EvO.nil (leafT ?_ ?_)
   ·dsimp only[setW,List.foldl,nth,u2,u1]
    all_goals(first|rfl|simp)
   ·refine zF ?_
    all_goals(simp[hg4];done)
 dsimp only[setW,List.foldl,nth,u2,u1];refine qc (fun h0=>?_) (fun h0=>?_)<;>try simp only[cs] at h0
 ·rw[ct (fun h=>by have:=h.cl;have:=h.sl;simp at h0;omega)];refine zQ 4 ?_;refine EvC.ret ⟨rx,_,rfl,rl hSb hH (rfl)⟩
 ·have h0:p.code.length≤400∧p.af.length≤8:=by simp at h0;omega
  refine zQ 7 ?_;refine EvC.loop (fun mm fr st=>∃(i:Nat),fr.clean=⟨8,[cD fr 0,.ptr k1 0 0,.bool false,.int .i64 (i:Nat),cD fr 4,cD fr 5,cD fr 6,cD fr 7],[]⟩∧Has s0.bs.length S st [.box k1 (.mem 0 false [p.cd,p.sd])]∧(i+mm=p.code.length)∧(∀pc q,pc<i→p.code[pc]?=some q→bI p.code.length p.af.length pc q=true)) (p.code.length) ?_ ?_
  ·exact⟨0,rfl,hH,by omega,by intro pc q h;omega⟩
  rintro mm fr st ⟨i,hfr,hH,hi,hsh⟩;rw[hfr];clear hfr;generalize cD fr=ee;clear fr;refine zQ 6 ?_;refine qn ?_;simp only[List.length_map];refine zQ 2 ?_;refine zP (fun h1=>?_) fun h1=>?_
  ·refine zQ 1 ?_
   obtain⟨q,hq⟩:∃q,p.code[i]?=some q:=⟨p.code[i]'(by omega),List.getElem?_eq_getElem _⟩
   refine zQ 4 ?_;refine EvO.hloadS (m:=2) hH rfl (ev rfl) (by exact at0) (by dsimp only[List.drop_succ_cons,List.drop_zero,List.take_succ_cons,List.take_zero,Pg.cs,aq,ae,aI]<;>rfl) rfl rfl (put_T rfl _) ?_;refine qm ?_;refine qv (G5 (p:=p) hp hq) ?_;refine zQ 2 ?_;refine EvC.cond (by rfl) (fun h2=>?_) (fun h2=>?_)<;>try simp only[Bool.not_eq_true',Bool.not_eq_false'] at h2
   ·rw[ct (fun h=>by have:=h.sh i q hq;rw[this] at h2;cases h2)];refine zQ 4 ?_;refine EvC.ret ⟨rx,_,rfl,rl hSb hH (rfl)⟩
   ·refine zQ 6 ?_;refine⟨mm-1,by omega,⟨i+1,rfl,hH,by omega,?_⟩⟩;intro pc q' wv l6
    by_cases he:pc=i
    ·subst he;rw[hq] at l6;cases l6;simpa using h2
    ·exact hsh pc q' (by omega) l6
  ·refine zQ 1 ?_;have hsh:∀pc q,p.code[pc]?=some q→bI p.code.length p.af.length pc q=true:=fun pc q hq=>hsh pc q (by have:=lt_get hq;omega) hq;have hcl:=kL hsh;refine zQ 6 ?_;refine EvC.loop (fun mm fr st=>∃(r:Nat),fr.clean=⟨8,[cD fr 0,.ptr k1 0 0,.bool false,cD fr 3,.int .i64 (r:Nat),cD fr 5,cD fr 6,cD fr 7],[]⟩∧Has s0.bs.length S st [.box k1 (.mem 0 false [p.cd,p.sd])]∧(r+mm=p.af.length)∧(∀r' s,r'<r→p.af[r']?=some s→0≤s∧s<(p.code.length:Int))) (p.af.length) ?_ ?_
   ·exact⟨0,rfl,hH,by omega,by intro pc q h;omega⟩
   rintro mm fr st ⟨r,hfr,hH,hi,hok⟩;rw[hfr];clear hfr;generalize cD fr=ee;clear fr;refine zQ 6 ?_;refine qn ?_;simp only[List.length_map];refine zQ 2 ?_;refine zP (fun h3=>?_) fun h3=>?_
   ·refine zQ 1 ?_
    obtain⟨s,iP⟩:∃s,p.af[r]?=some s:=⟨p.af[r]'(by omega),List.getElem?_eq_getElem _⟩
    have IG:=dc iP;refine zQ 3 ?_;refine EvC.cutT 52 (.bool (decide (s<0)||decide (s≥p.code.length))) [] ?_ (fun ff tmp htmp=>?_)
    ·refine zQ 3 ?_;refine qr fun Mw Hu=>?_;refine zQ 3 ?_;refine EvO.two 42 rfl (fun ft=>?_) (fun ft=>?_)
     ·refine zQ 10 ?_;refine EvO.nil (leafT ?_ ?_)
      ·dsimp only[setW,List.foldl,nth,u2,u1]
       all_goals(first|rfl|simp)
      ·refine zF ?_
       all_goals(simp[ft];done)
     ·refine zQ 3 ?_;refine qr (fun Va SN=>?_) (hg:=wi ft);refine zQ 3 ?_;refine qn ?_ (hg:=wi ft);simp only[List.length_map];refine zQ 2 ?_;refine EvO.nil (leafT ?_ ?_)
      ·dsimp only[setW,List.foldl,nth,u2,u1]
       all_goals(first|rfl|simp)
      ·refine zF ?_
       all_goals(simp[ft];done)
    refine zG ?_;refine qc (fun h4=>?_) (fun h4=>?_)<;>try simp only[cs] at h4
    ·rw[ct (fun h=>by have:=h.st s (List.mem_of_getElem? iP);simp at h4;omega)];refine zQ 4 ?_;refine EvC.ret ⟨rx,_,rfl,rl hSb hH (rfl)⟩
    ·have Fc:0≤s∧s<(p.code.length:Int):=by simp at h4;omega
     refine zQ 6 ?_;refine⟨mm-1,by omega,⟨r+1,rfl,hH,by omega,?_⟩⟩;intro r' s' zK kH
     by_cases he:r'=r
     ·subst he;rw[iP] at kH;cases kH;exact Fc
     ·exact hok r' s' (by omega) kH
   ·refine zQ 1 ?_
    have hok:∀v∈p.af,0≤v∧v<(p.code.length:Int):=fun v hv=>by
     obtain⟨r',zK⟩:=List.getElem?_of_mem hv;exact hok r' v (by have:=lt_get zK;omega) zK
    refine zQ 6 ?_;refine EvC.loop (fun mm fr st=>∃(r:Nat),fr.clean=⟨8,[cD fr 0,.ptr k1 0 0,.bool false,cD fr 3,cD fr 4,.int .i64 (r:Nat),cD fr 6,cD fr 7],[]⟩∧Has s0.bs.length S st [.box k1 (.mem 0 false [p.cd,p.sd])]∧(r+mm=p.af.length)∧(∀r' s,r'<r→p.af[r']?=some s→jR p r' s p.code.length)) (p.af.length) ?_ ?_
    ·exact⟨0,rfl,hH,by omega,by intro pc q h;omega⟩
    rintro mm fr st ⟨r,hfr,hH,hi,hfo⟩;rw[hfr];clear hfr;generalize cD fr=ee;clear fr;refine zQ 6 ?_;refine qn ?_;simp only[List.length_map];refine zQ 2 ?_;refine zP (fun h5=>?_) fun h5=>?_
    ·refine zQ 1 ?_
     obtain⟨s,iP⟩:∃s,p.af[r]?=some s:=⟨p.af[r]'(by omega),List.getElem?_eq_getElem _⟩
     have hR:je p (r:Nat)=aR p.code s:=by
      unfold je;rw[if_pos (cS.2 ⟨by omega,by omega⟩),Int.toNat_natCast,List.getD_eq_getElem?_getD,iP];rfl
     have n_:=jc p.code s;have IF:=(kM (aR p.code s)).arg s0.bs.length S;refine zQ 4 ?_;refine EvO.hloadS (m:=2) hH rfl (ev rfl) (by exact at0) (by dsimp only[List.drop_succ_cons,List.drop_zero,List.take_succ_cons,List.take_zero,Pg.cs,aq,ae,aI]<;>rfl) rfl rfl (put_T rfl _) ?_;refine qm ?_;refine qv ((hR▸nT (p:=p) (ja:=(r:Nat)) hp hcl hok)) ?_;refine zQ 7 ?_;refine EvC.loop (fun mm fr st=>∃(i:Nat),fr.clean=⟨8,[cD fr 0,.ptr k1 0 0,.bool false,cD fr 3,cD fr 4,.int .i64 (r:Nat),lH (aR p.code s),.int .i64 (i:Nat)],[]⟩∧Has s0.bs.length S st [.box k1 (.mem 0 false [p.cd,p.sd])]∧(i+mm=p.code.length)∧(jR p r s i)) (p.code.length) ?_ ?_
     ·exact⟨0,rfl,hH,by omega,by intro pc q h;omega⟩
     rintro mm fr st ⟨i,hfr,hH,hj,hom⟩;rw[hfr];clear hfr;generalize cD fr=ee;clear fr;refine zQ 6 ?_;refine qn ?_;simp only[List.length_map];refine zQ 2 ?_;refine zP (fun h7=>?_) fun h7=>?_
     ·refine zQ 1 ?_
      obtain⟨b,hb⟩:∃b,(aR p.code s)[i]?=some b:=⟨(aR p.code s)[i]'(by omega),List.getElem?_eq_getElem _⟩
      obtain⟨q,hq⟩:∃q,p.code[i]?=some q:=⟨p.code[i]'(by omega),List.getElem?_eq_getElem _⟩
      have hr1:=fU hb;have kW:=de hq;refine zQ 3 ?_;refine EvC.cutT 92 (.bool ((b &&(q.op==7)) &&(q.x !=(r:Int)))) [] ?_ (fun ff tmp htmp=>?_)
      ·refine zQ 2 ?_;refine qr fun RB Np=>?_;refine zQ 2 ?_;refine EvO.two 74 rfl (fun hg4=>?_) (fun hg4=>?_)
       ·refine zQ 3 ?_;refine qr (fun UX Sx=>?_) (hg:=wi hg4);refine qf (fo:=0) (fun LI Fo=>?_) (hg:=wi hg4);refine zQ 4 ?_;refine EvO.two 83 rfl (fun hg13=>?_) (fun hg13=>?_)
        ·refine zQ 3 ?_;refine qr (fun Rx Ni=>?_) (hg:=wi hg13);refine qf (fo:=1) (fun UT Su=>?_) (hg:=wi hg13);refine zQ 4 ?_;refine EvO.nil (leafT ?_ ?_)
         ·dsimp only[setW,List.foldl,nth,u2,u1]
          all_goals(first|rfl|simp)
         ·refine zF ?_
          all_goals(simp[hg4,hg13];done)
        ·refine zQ 9 ?_;refine EvO.nil (leafT ?_ ?_)
         ·dsimp only[setW,List.foldl,nth,u2,u1]
          all_goals(first|rfl|simp)
         ·refine zF ?_
          all_goals(simp[hg4,hg13];done)
       ·refine zQ 18 ?_;refine EvO.nil (leafT ?_ ?_)
        ·dsimp only[setW,List.foldl,nth,u2,u1]
         all_goals(first|rfl|simp)
        ·refine zF ?_
         all_goals(simp[hg4];done)
      refine zG ?_;refine qc (fun h6=>?_) (fun h6=>?_)<;>try simp only[cs] at h6
      ·rw[ct (fun h=>by
        have h7:=h.fo r s iP i q (by omega);simp only[Bool.and_eq_true,beq_iff_eq,bne_iff_ne,ne_eq] at h6;obtain⟨⟨rfl,h8⟩,h9⟩:=h6
        exact h9 (h7 hb hq h8))]
       refine zQ 4 ?_;refine EvC.ret ⟨rx,_,rfl,rl hSb hH (rfl)⟩
      ·refine zQ 6 ?_;refine⟨mm-1,by omega,⟨i+1,rfl,hH,by omega,?_⟩⟩;intro pc q' wv wo l6 eU
       by_cases he:pc=i
       ·subst he;rw[hq] at l6;cases l6;rw[hb] at wo;cases wo;simp[eU] at h6;exact h6
       ·exact hom pc q' (by omega) wo l6 eU
     ·refine zQ 6 ?_;refine⟨p.af.length-(r+1),by omega,⟨r+1,rfl,hH,by omega,?_⟩⟩;intro r' s' zK kH
      by_cases he:r'=r
      ·subst he;rw[iP] at kH;cases kH;exact fun pc q wv=>hom pc q (by omega)
      ·exact hfo r' s' (by omega) kH
    ·refine zQ 1 ?_;rw[bR ⟨h0.1,h0.2,hsh,hok,fun r' s' kH=>hfo r' s' (by have:=lt_get kH;omega) kH⟩];refine zQ 4 ?_;refine EvC.ret ⟨rx,_,rfl,rl hSb hH (rfl)⟩
def pw:Nat→List Bool→List Int
 |_,[]=>[]
 |i,b::l=>(if b then[(i:Int)] else[])++pw (i+1) l
noncomputable def pf (p:Pg) (ja:Int):List Int:=if dec (aX p) &&iw ja p.af.length then pw 0 (aR p.code (p.af.getD ja.toNat 0)) else[]
def dK (i:aC):aC:=⟨i.op,i.x,i.y,.sl ((i.rs.map ah).map (iR 2)),i.rs⟩
theorem DF {i:aC} (h:i.ok):(dK i).ok:=⟨SlD.frozen (kA _) (c8 _),h.2⟩
def rb (q:aC):List D:=aq (dK q)
structure Nod where
 op:Int
 rd:D
 rs:List Rg
 mn:Int
 mx:Int
 lz:Bool
 cap:Int
 kids:Int
def aS (n:Nod):List D:=[.int .i64 n.op,n.rd,.int .i64 n.mn,.int .i64 n.mx,.bool n.lz,.int .i64 n.cap,.int .i64 n.kids]
def Nod.ok (n:Nod):Prop:=SlD n.rd 2 (n.rs.map ah)∧n.rs.length≤1048576∧n.kids≤9223372036854775807
structure Nl where
 d:D
 l:List Nod
structure Nl.ok (x:Nl):Prop where
 c:SlD x.d 7 (x.l.map aS)
 i:∀n∈x.l,n.ok
 nl:x.l.length≤1048576
theorem kG {l:List Nod} {i:Nat} {q:Nod} (h:l[i]?=some q):(l.map aS)[i]?=some (aS q):=by rw[List.getElem?_map,h];rfl
mutual
inductive Tr where
 |mk (n:Nod) (ks:bc)
inductive bc where
 |nil
 |cons (t:Tr) (ts:bc)
end
def bc.len:bc→Nat
 | .nil=>0
 | .cons _ ts=>ts.len+1
mutual
def Tr.flat:Tr→List Nod
 | .mk n ks=>n::ks.flat
def bc.flat:bc→List Nod
 | .nil=>[]
 | .cons t ts=>t.flat++ts.flat
end
def vP (n:Nod) (nk:Nat):Prop:=
 n.kids=(nk:Int)∧(((n.op=1∨n.op=7∨n.op=8)∧nk=0)∨(n.op=2∧nk=0)∨((n.op=3∨n.op=4)∧2≤nk)∨
  (n.op=5∧nk=1∧0≤n.mn∧n.mn≤30∧(n.mx=-1∨(n.mn≤n.mx∧n.mx≤30)))∨(n.op=6∧nk=1∧1≤n.cap∧n.cap≤4))
mutual
def Tr.ok:Tr→Prop
 | .mk n ks=>vP n ks.len∧ks.ok
def bc.ok:bc→Prop
 | .nil=>True
 | .cons t ts=>t.ok∧ts.ok
end
def bh (n:Nod) (s k:Nat):Nat:=
 if n.op=2∨n.op=7∨n.op=8 then 1
 else if n.op=4 then s+2*(k-1)
 else if n.op=6 then s+2
 else if n.op=5 then(if n.mx=-1 then n.mn.toNat*s+s+2 else n.mn.toNat*s+(n.mx.toNat-n.mn.toNat)*(s+1))
 else s
mutual
def Tr.sz:Tr→Nat
 | .mk n ks=>bh n ks.sz ks.len
def bc.sz:bc→Nat
 | .nil=>0
 | .cons t ts=>t.sz+ts.sz
end
def cz (op x y:Int) (rs:List Rg):aC:=⟨op,x,y,.sl ((rs.map ah).map (iR 2)),rs⟩
def mK (s o:Nat) (lz:Bool):aC:=if lz=true then cz 2 (o:Nat) ((s+1:Nat):Int) [] else cz 2 ((s+1:Nat):Int) (o:Nat) []
def l3 (e:Nat):aC:=cz 3 (e:Nat) 0 []
def eF (c:Nat→List aC) (z:Nat):Nat→Nat→List aC
 |0,_=>[]
 |k+1,b=>c b++eF c z k (b+z)
def eu (sp:Nat→aC) (c:Nat→List aC) (z:Nat):Nat→Nat→List aC
 |0,_=>[]
 |k+1,b=>sp b::(c (b+1)++eu sp c z k (b+1+z))
def vI (z:Nat):Nat→Nat→List Nat
 |0,_=>[]
 |k+1,b=>b::vI z k (b+1+z)
def mP (n:Nod) (c:Nat→List aC) (z b:Nat):List aC:=
 if n.mx=-1 then eF c z n.mn.toNat b++(mK (b+n.mn.toNat*z) (b+n.mn.toNat*z+z+2) n.lz::(c (b+n.mn.toNat*z+1)++[l3 (b+n.mn.toNat*z)]))
 else eF c z n.mn.toNat b++eu (fun s=>mK s (b+n.mn.toNat*z+(n.mx.toNat-n.mn.toNat)*(z+1)) n.lz) c z (n.mx.toNat-n.mn.toNat) (b+n.mn.toNat*z)
mutual
def aH:Tr→Nat→List aC
 | .mk n ks,b=>
  if n.op=2 then[cz 1 0 0 n.rs]
  else if n.op=7 then[cz 5 0 0 []]
  else if n.op=8 then[cz 6 0 0 []]
  else if n.op=3 then fg ks b
  else if n.op=4 then dR (l3 (b+bh n ks.sz ks.len)) ks b
  else if n.op=5 then mP n (fg ks) ks.sz b
  else if n.op=6 then cz 4 (2*n.cap) 0 []::(fg ks (b+1)++[cz 4 (2*n.cap+1) 0 []])
  else[]
def fg:bc→Nat→List aC
 | .nil,_=>[]
 | .cons t ts,b=>aH t b++fg ts (b+t.sz)
def dR (jp:aC):bc→Nat→List aC
 | .nil,_=>[]
 | .cons t ts,b=>if ts.len=0 then aH t b else mK b (b+1+t.sz+1) false::(aH t (b+1)++jp::dR jp ts (b+t.sz+2))
end
def rr:bc→Nat→List Nat
 | .nil,_=>[]
 | .cons t ts,b=>if ts.len=0 then[] else(b+1+t.sz)::rr ts (b+t.sz+2)
theorem iE {c:Nat→List aC} {z:Nat} (hc:∀b,(c b).length=z):∀k b,(eF c z k b).length=k*z
 |0,b=>by simp[eF]
 |k+1,b=>by rw[eF,List.length_append,hc,iE hc k,Nat.add_mul];omega
theorem pj {sp:Nat→aC} {c:Nat→List aC} {z:Nat} (hc:∀b,(c b).length=z):∀k b,(eu sp c z k b).length=k*(z+1)
 |0,b=>by simp[eu]
 |k+1,b=>by rw[eu,List.length_cons,List.length_append,hc,pj hc k,Nat.add_mul];omega
theorem B7 {n:Nod} {c:Nat→List aC} {z b:Nat} (hc:∀b,(c b).length=z) (h:n.op=5):(mP n c z b).length=bh n z 1:=by
 unfold mP bh;rw[if_neg (show¬(n.op=2∨n.op=7∨n.op=8) by omega),if_neg (show¬n.op=4 by omega),if_neg (show¬n.op=6 by omega),if_pos h]
 split
 ·rw[List.length_append,iE hc,List.length_cons,List.length_append,hc];simp only[List.length_cons,List.length_nil];omega
 ·rw[List.length_append,iE hc,pj hc]
theorem bc.zw {ks:bc} (h:ks.len=1):∃t,ks=.cons t .nil:=by
 cases ks with
 |nil=>simp[bc.len] at h
 |cons t ts=>cases ts with
  |nil=>exact⟨t,rfl⟩
  |cons u us=>simp[bc.len] at h
theorem bc.len_nil {ks:bc} (h:ks.len=0):ks=.nil:=by
 cases ks with
 |nil=>rfl
 |cons t ts=>simp[bc.len] at h
mutual
theorem bW:∀(t:Tr) (b:Nat),t.ok→(aH t b).length=t.sz
 | .mk n ks,b,h=>by
  simp only[Tr.ok] at h;obtain⟨h1,h2⟩:=h;have hc:=fun b=>mj ks b h2;have ha:=fun jp b=>rq jp ks b h2;simp only[aH,Tr.sz];obtain⟨_,⟨h3,h4⟩|⟨h3,h4⟩|⟨h3,h4⟩|⟨h3,h4,h5⟩|⟨h3,h4,h5⟩⟩:=h1
  ·have hk:=bc.len_nil h4;subst hk
   by_cases q7:n.op=7
   ·simp[q7,bh]
   ·by_cases q8:n.op=8
    ·simp[q8,bh]
    ·have q1:n.op=1:=by omega
     simp[q1,bh,bc.sz]
  ·simp[h3,bh]
  ·rcases h3 with h3|h3
   ·simp[h3,bh,hc]
   ·simp[h3,bh,ha]
  ·have:=B7 (n:=n) (b:=b) hc h3;simp only[h3] at this⊢;simp only[show¬((5:Int)=2) by decide,show¬((5:Int)=7) by decide,show¬((5:Int)=8) by decide,show¬((5:Int)=3) by decide,show¬((5:Int)=4) by decide,if_false,if_true];rw[this,h4]
  ·simp[h3,bh,hc]
theorem mj:∀(ts:bc) (b:Nat),ts.ok→(fg ts b).length=ts.sz
 | .nil,b,_=>by simp[fg,bc.sz]
 | .cons t ts,b,h=>by
  simp only[bc.ok] at h;simp only[fg,bc.sz,List.length_append];rw[bW t b h.1,mj ts _ h.2]
theorem rq (jp:aC):∀(ts:bc) (b:Nat),ts.ok→(dR jp ts b).length=ts.sz+2*(ts.len-1)
 | .nil,b,_=>by simp[dR,bc.sz,bc.len]
 | .cons t ts,b,h=>by
  simp only[bc.ok] at h;have h1:=rq jp ts (b+t.sz+2) h.2;simp only[dR,bc.sz,bc.len]
  by_cases q:ts.len=0
  ·rw[if_pos q,bW t b h.1,q];have:=bc.len_nil q;subst this;simp[bc.sz]
  ·rw[if_neg q,List.length_cons,List.length_append,List.length_cons,bW t _ h.1,h1];omega
end
def gA (f:Nat→aC) (c:List aC) (l:List Nat):List aC:=l.foldl (fun c j=>c.set j (f j)) c
theorem oF {α:Type} (pre post:List α) (x y:α):(pre++x::post).set pre.length y=pre++y::post:=by
 rw[List.set_append_right _ _ (Nat.le_refl _),Nat.sub_self];rfl
theorem oQ {α:Type} (pre post:List α) (x:α):(pre++x::post)[pre.length]?=some x:=by
 rw[List.getElem?_append_right (Nat.le_refl _),Nat.sub_self];rfl
theorem mW {sp:Nat→aC} {c:Nat→List aC} {z:Nat} (hc:∀b,(c b).length=z) {i0:aC}:∀(k b:Nat) (pre post:List aC),pre.length=b→gA sp (pre++eu (fun _=>i0) c z k b++post) (vI z k b)=pre++eu sp c z k b++post∧∀j∈vI z k b,(pre++eu (fun _=>i0) c z k b++post)[j]?=some i0
 |0,b,pre,post,_=>⟨rfl,fun j hj=>by cases hj⟩
 |k+1,b,pre,post,h=>by
  have ih:=mW (sp:=sp) hc (i0:=i0) k (b+1+z) (pre++i0::c (b+1)) post (by rw[List.length_append,List.length_cons,hc];omega);have zC:=mW (sp:=sp) hc (i0:=i0) k (b+1+z) (pre++sp b::c (b+1)) post (by rw[List.length_append,List.length_cons,hc];omega);simp only[eu,vI];have e:pre++i0::(c (b+1)++eu (fun _=>i0) c z k (b+1+z))++post=pre++i0::(c (b+1)++eu (fun _=>i0) c z k (b+1+z)++post):=by simp
  have e2:pre++i0::c (b+1)++eu (fun _=>i0) c z k (b+1+z)++post=pre++i0::(c (b+1)++eu (fun _=>i0) c z k (b+1+z)++post):=by simp
  refine⟨?_,fun j hj=>?_⟩
  ·unfold gA at zC⊢;rw[List.foldl_cons,e]
   have hs:(pre++i0::(c (b+1)++eu (fun _=>i0) c z k (b+1+z)++post)).set b (sp b)=pre++sp b::c (b+1)++eu (fun _=>i0) c z k (b+1+z)++post:=by
    rw[←h,oF];simp
   rw[hs,zC.1];simp
  ·rw[e]
   rcases List.mem_cons.1 hj with rfl|hj
   ·rw[←h];exact oQ _ _ _
   ·rw[←e2];exact ih.2 j hj
theorem nG {jp i0:aC}:∀(ts:bc) (b:Nat) (pre post:List aC),ts.ok→pre.length=b→gA (fun _=>jp) (pre++dR i0 ts b++post) (rr ts b)=pre++dR jp ts b++post∧∀j∈rr ts b,(pre++dR i0 ts b++post)[j]?=some i0
 | .nil,b,pre,post,_,_=>⟨by simp[dR,rr,gA],fun j hj=>by simp[rr] at hj⟩
 | .cons t ts,b,pre,post,hok,h=>by
  simp only[bc.ok] at hok
  by_cases q:ts.len=0
  ·simp only[dR,rr,if_pos q];exact⟨rfl,fun j hj=>by cases hj⟩
  ·simp only[dR,rr,if_neg q];generalize mK b (b+1+t.sz+1) false=sp;have hcl:=bW t (b+1) hok.1;have ih:=nG (jp:=jp) (i0:=i0) ts (b+t.sz+2) (pre++sp::(aH t (b+1)++[i0])) post hok.2 (by simp only[List.length_append,List.length_cons,List.length_nil,hcl];omega);have zC:=nG (jp:=jp) (i0:=i0) ts (b+t.sz+2) (pre++sp::(aH t (b+1)++[jp])) post hok.2 (by simp only[List.length_append,List.length_cons,List.length_nil,hcl];omega);generalize dR i0 ts (b+t.sz+2)=A at*;have e:pre++sp::(aH t (b+1)++i0::A)++post=(pre++sp::aH t (b+1))++i0::(A++post):=by simp
   have hl:(pre++sp::aH t (b+1)).length=b+1+t.sz:=by simp only[List.length_append,List.length_cons,hcl];omega
   refine⟨?_,fun j hj=>?_⟩
   ·unfold gA at zC⊢;rw[List.foldl_cons,e,←hl,oF];have:=zC.1;simp only[List.append_assoc,List.cons_append,List.nil_append] at this⊢;exact this
   ·rw[e]
    rcases List.mem_cons.1 hj with rfl|hj
    ·rw[←hl];exact oQ _ _ _
    ·have:=ih.2 j hj;simp only[List.append_assoc,List.cons_append,List.nil_append] at this⊢;exact this
def eT {α:Type} (L:List α) (at_:Nat) (M:List α):Prop:=∃post,L.drop at_=M++post
theorem eT.head {α:Type} {L M:List α} {a:α} {at_:Nat} (h:eT L at_ (a::M)):L[at_]?=some a:=by
 obtain⟨post,h⟩:=h;have:=congrArg (·[0]?) h
 simpa using this
theorem eT.tail {α:Type} {L M:List α} {a:α} {at_:Nat} (h:eT L at_ (a::M)):eT L (at_+1) M:=by
 obtain⟨post,h⟩:=h;refine⟨post,?_⟩;rw[←List.drop_drop,h];rfl
theorem eT.left {α:Type} {L M M':List α} {at_:Nat} (h:eT L at_ (M++M')):eT L at_ M:=by
 obtain⟨post,h⟩:=h;exact⟨M'++post,by rw[h,List.append_assoc]⟩
theorem eT.right {α:Type} {L M M':List α} {at_:Nat} (h:eT L at_ (M++M')):eT L (at_+M.length) M':=by
 obtain⟨post,h⟩:=h;refine⟨post,?_⟩;rw[←List.drop_drop,h,List.append_assoc,List.drop_left]
theorem eT.le {α:Type} {L M:List α} {at_:Nat} (h:eT L at_ M) (hM:M≠[]):at_+M.length≤L.length:=by
 obtain⟨post,h⟩:=h;have:=congrArg List.length h;simp only[List.length_drop,List.length_append] at this
 have:0<M.length:=by cases M with|nil=>exact absurd rfl hM|cons _ _=>simp
 omega
theorem eT.all {α:Type} (L:List α):eT L 0 L:=⟨[],by simp⟩
mutual
def Tr.zs:Tr→List Int
 | .mk n ks=>((min (bh n ks.sz ks.len) 401:Nat):Int)::ks.zs
def bc.zs:bc→List Int
 | .nil=>[]
 | .cons t ts=>t.zs++ts.zs
end
mutual
def Tr.es:Tr→Nat→List Int
 | .mk n ks,at_=>((at_+1+ks.flat.length:Nat):Int)::ks.es (at_+1)
def bc.es:bc→Nat→List Int
 | .nil,_=>[]
 | .cons t ts,at_=>t.es at_++ts.es (at_+t.flat.length)
end
mutual
theorem Tr.ia:∀t:Tr,t.zs.length=t.flat.length
 | .mk n ks=>by simp[Tr.zs,Tr.flat,bc.ia ks]
theorem bc.ia:∀ts:bc,ts.zs.length=ts.flat.length
 | .nil=>rfl
 | .cons t ts=>by simp[bc.zs,bc.flat,Tr.ia t,bc.ia ts]
end
mutual
theorem Tr.il:∀(t:Tr) (a:Nat),(t.es a).length=t.flat.length
 | .mk n ks,a=>by simp[Tr.es,Tr.flat,bc.il ks]
theorem bc.il:∀(ts:bc) (a:Nat),(ts.es a).length=ts.flat.length
 | .nil,_=>rfl
 | .cons t ts,a=>by simp[bc.es,bc.flat,Tr.il t,bc.il ts]
end
theorem Tr.gJ (t:Tr):0<t.flat.length:=by cases t;simp[Tr.flat]
theorem bc.jY:∀ts:bc,ts.len≤ts.flat.length
 | .nil=>Nat.le_refl _
 | .cons t ts=>by
  have h1:=bc.jY ts;have h2:=t.gJ;simp only[bc.len,bc.flat,List.length_append];omega
end Go.Proofs.YtnleclohocdkaaaGreat
namespace Go.V
variable{N:Nat} {S st:St} {H:List aP}
theorem b_.at_ {α β:Type} {R:α→β→Prop}:∀{l:List α} {m:List β} {i:Nat} {b:β},b_ R l m→m[i]?=some b→∃a,l[i]?=some a∧R a b
 |_,_,_,_,.nil,h=>by simp at h
 |_,_,0,_,.cons a t,h=>by simp only[List.getElem?_cons_zero,Option.some.injEq] at h;subst h;exact⟨_,rfl,a⟩
 |_,_,i+1,_,.cons a t,h=>by simp only[List.getElem?_cons_succ] at h⊢;exact t.at_ h
theorem b_.set {α β:Type} {R:α→β→Prop} {a:α} {b:β} (r:R a b):∀{l:List α} {m:List β} (i:Nat),b_ R l m→b_ R (l.set i a) (m.set i b)
 |_,_,_,.nil=>.nil
 |_,_,0,.cons _ t=>.cons r t
 |_,_,i+1,.cons h t=>.cons h (t.set r i)
theorem b_.setMany {R:D→D→Prop}:∀{xs ys:List D} {c d:List D} (o:Nat),b_ R xs ys→b_ R c d→b_ R (setMany c o xs) (setMany d o ys)
 |_,_,_,_,_,.nil,h=>h
 |_,_,_,_,o,.cons r t,h=>by simp only[Go.V.setMany];exact t.setMany (o+1) (h.set r o)
theorem b_.same {R:D→D→Prop}:∀{l:List D},(∀d∈l,R d d)→b_ R l l
 |[],_=>.nil
 |d::l,h=>.cons (h d (List.mem_cons_self ..)) (b_.same fun x hx=>h x (List.mem_cons_of_mem _ hx))
theorem Has.Lx {j:Nat} {x:D} {s:Nat} {ks:Nat→Prop} {vs:List (List D)} (hH:Has N S st H) (hj:H[j]?=some (.deep ks x s vs)):∃es,Rows st s x es∧es.length=vs.length:=by
 obtain⟨⟨es,h1,h2⟩,_⟩:=(hH.ok j _ hj).1;exact⟨es,h1.rows,h2.len⟩
theorem Has.Po {j k av off len s:Nat} {ks:Nat→Prop} {vs:List (List D)} {i o:Nat} {v cs:List D} (h:Has N S st H) (hj:H[j]?=some (.deep ks (.win k av off len s) s vs)) (hi:vs[i]?=some v) (hl:o+cs.length≤s) (hp:∀d∈cs,bC d=true) (hw:S.flr≤N∨refs cs=0):
  ∃ab,st.wr k av (off+i*s+o) cs=some ab∧Has N S ab (H.set j (.deep ks (.win k av off len s) s (vs.set i (setMany v o cs)))):=by
 obtain⟨⟨es,jB,uR⟩,he3⟩:=(h.ok j _ hj).1;have hK:=(h.ok j _ hj).2;obtain⟨e,TI,hev⟩:=uR.at_ hi
 have rN:Has N S st [.lst (.win k av off len s) s es]:=by
  refine⟨h.ex,h.hN,h.fe,fun i e hi=>?_,fun i i' a b hii ha hb k rF gT=>?_⟩
  ·cases i with
   |zero=>simp only[List.getElem?_cons_zero,Option.some.injEq] at hi;subst hi;exact⟨jB,fun k hk=>hK k (.inl hk)⟩
   |succ i=>simp at hi
  ·cases i with
   |zero=>cases i' with
    |zero=>exact hii rfl
    |succ i'=>simp at hb
   |succ i=>simp at ha
 obtain⟨ab,q1,q2⟩:=rN.ze (j:=0) at0 TI hl hw;refine⟨ab,q1,?_⟩;have hown:=q2.own (j:=0) at0
 have Oi:(∀n,n≠k→ab.bs[n]?=st.bs[n]?)∧st.bs.length=ab.bs.length∧ab.flr=st.flr∧ab.ro=st.ro:=by
  unfold St.wr at q1
  split at q1
  ·split at q1
   ·cases q1;exact⟨fun n hn=>by simp only;rw[List.getElem?_set_ne (fun e=>hn e.symm)],by simp,rfl,rfl⟩
   ·cases q1
  ·cases q1
 obtain⟨c1,c2,c3,c4⟩:=Oi;have hkk:=hK k (.inl (by simp only[D.ref]));have hne:∀n,ks n→n≠k:=fun n hn e=>he3 k (by simp only[D.ref]) (e▸hn);have wB:∀n,ks n→ab.bs[n]?=st.bs[n]?:=fun n hn=>c1 n (hne n hn);refine h.BO hj (fun n hn hnot=>c1 n fun e=>hnot (.inl (by simp only[D.ref];omega))) (Nat.le_of_eq c2) c3 c4 ⟨⟨_,hown,?_⟩,he3⟩ (fun n hn=>.inl hn) fun n hn=>?_
 ·refine b_.set ?_ i (uR.mono fun a b=>b_.mono fun c d=>dZ.move wB);exact(b_.same fun d hd=>.plain d (hp d hd)).setMany o (hev.mono fun c d=>dZ.move wB)
 ·rw[←c2];exact(hK n hn).2
variable{P:Pv} {ops:Array Oper} {rest:List Oper} {fr aA:Fr} {Q:Fr→St→Prop} {ty:TypeId} {pp:String} {a:Array Edge} {g:Option (Nat×Bool)} {dst:Nat}
theorem EvO.Bl {t e:TypeId} {xo:Operand} {x:D} {s j:Nat} {ks:Nat→Prop} {vs:List (List D)} (hH:Has N S st H) (hg:aw ops fr ⟨some dst,.call ⟨.builtin .len,#[xo],#[t]⟩,ty,pp,a,g⟩=some true) (hx:fr.ev xo=x) (hj:H[j]?=some (.deep ks x s vs)) (ht:P.bP t=some (.slice e)) (hp:fr.put dst (.int .i64 (vs.length:Nat))=aA)
  (h:EvO P ops rest aA st Q):EvO P ops (⟨some dst,.call ⟨.builtin .len,#[xo],#[t]⟩,ty,pp,a,g⟩::rest) fr st Q:=by
 obtain⟨es,h1,h2⟩:=hH.Lx hj;exact EvO.rlen hg hx h1 ht (by rw[h2];exact hp) h
theorem EvO.DE {t e:TypeId} {xo io:Operand} {x:D} {s i j:Nat} {kk:IntKind} {ks:Nat→Prop} {vs:List (List D)} {aA:D→Fr} (hH:Has N S st H) (hg:aw ops fr ⟨some dst,.indexAddr t xo io,ty,pp,a,g⟩=some true) (hx:fr.ev xo=x) (hi:fr.ev io=.int kk (i:Nat)) (hj:H[j]?=some (.deep ks x s vs)) (ht:P.bP t=some (.slice e)) (hs:bK P e=some s) (hr:i<vs.length) (hp:∀p,fr.put dst p=aA p)
  (h:∀p,oy x s i 0 p→EvO P ops rest (aA p) st Q):EvO P ops (⟨some dst,.indexAddr t xo io,ty,pp,a,g⟩::rest) fr st Q:=by
 obtain⟨⟨es,jB,uR⟩,he3⟩:=(hH.ok j _ hj).1;have hlen:=uR.len
 cases jB with
 |nul=>simp at hlen;omega
 |win k av off es c hm hl hc he=>
  refine EvO.go hg rfl (d:=.ptr k av (off+i*s)) (st1:=st) ?_ (hp _) (h _ ⟨k,av,off,_,rfl,rfl⟩);simp only[cZ,hx,hi,br,ht,hs,Option.bind_some,St.mem_of hm,Option.isSome_some];rw[if_pos ⟨trivial,by omega,by omega,trivial⟩];rfl
theorem EvO.q_ {t:TypeId} {ao vo:Operand} {x y v:D} {s i o j:Nat} {ks:Nat→Prop} {vs:List (List D)} {r cs:List D} (hH:Has N S st H) (hg:aw ops fr ⟨none,.store t ao vo,ty,pp,a,g⟩=some true) (ha:fr.ev ao=y) (hv:fr.ev vo=v) (hR:oy x s i o y) (gQ:v.cells?=some cs) (hs:bK P t=some cs.length) (hj:H[j]?=some (.deep ks x s vs)) (hr:vs[i]?=some r) (hl:o+cs.length≤s) (hq:∀d∈cs,bC d=true) (hw:S.flr≤N∨refs cs=0)
  (h:∀ab,Has N S ab (H.set j (.deep ks x s (vs.set i (setMany r o cs))))→EvO P ops rest fr ab Q):EvO P ops (⟨none,.store t ao vo,ty,pp,a,g⟩::rest) fr st Q:=by
 obtain⟨k,av,off,len,rfl,rfl⟩:=hR;obtain⟨ab,h1,h2⟩:=hH.Po hj hr hl hq hw;refine EvO.N hg rfl (d:=.tup []) (st1:=ab) ?_ (h _ h2);simp only[cZ,ha,hv,jL,gQ,hs,if_pos trivial,h1];rfl
theorem EvC.Ig {dy:Dy} {i:Nat} {l:List Oper} {d n loc tmp st} {Q:Out→Fr→St→Prop} (ws:List Nat) (F:(Nat→D)→Prop)
  (h1:EvO P l.toArray l ⟨n,loc,[]⟩ st fun aA ab=>∃f tmp,aA=⟨n,setW loc ws f,tmp⟩∧ab=st∧F f) (h2:∀f tmp,F f→Q .next ⟨n,setW loc ws f,tmp⟩ st) (h0:fI i dy=[]:=by rfl):EvC P dy (.region i l.toArray d) ⟨n,loc,tmp⟩ st Q:=by
 refine EvC.reg ?_ h0;unfold EvO at h1⊢;obtain⟨aA,ab,h3,f,GD,rfl,rfl,h4⟩:=h1;exact⟨_,_,h3,h2 _ _ h4⟩
theorem jZ {n:Nat} {L loc:List D} {tA:List (Nat×D)} {ws:List Nat} {F:(Nat→D)→Prop} {st:St} (h:L=setW loc ws (fun k=>nth .junk L k)) (h2:F (fun k=>nth .junk L k)):∃(f:Nat→D) (tmp:List (Nat×D)),(⟨n,L,tA⟩:Fr)=⟨n,setW loc ws f,tmp⟩∧st=st∧F f:=⟨_,tA,by rw[←h],rfl,h2⟩
theorem EvO.Jl {t1 t2:TypeId} {xo yo:Operand} {x y z:Int} (hg:aw ops fr ⟨some dst,.call ⟨.builtin .min,#[xo,yo],#[t1,t2]⟩,ty,pp,a,g⟩=some true) (hx:fr.ev xo=.int .i64 x) (hy:fr.ev yo=.int .i64 y) (hz:min x y=z) (hp:fr.put dst (.int .i64 z)=aA) (h:EvO P ops rest aA st Q):EvO P ops (⟨some dst,.call ⟨.builtin .min,#[xo,yo],#[t1,t2]⟩,ty,pp,a,g⟩::rest) fr st Q:=
 EvO.EU (t1:=t1) (t2:=t2) hg hx hy (by rw[hz];exact hp) h
theorem Has.wc {N:Nat} {S s0 S2 st2:St} {H:List aP} {x:D} {s:Nat} {es Pl:List (List D)} (h:Has N S s0 (.lst x s es::H)) (hS:S2.bs=s0.bs) (h2:Has N S2 st2 (.lst x s Pl::H)):Has N S ⟨st2.bs.take s0.bs.length,s0.flr,s0.ro⟩ (.lst x s Pl::H):=by
 refine h.ud hS h2 fun i e hi=>?_
 cases i with
 |zero=>simp only[List.getElem?_cons_zero,Option.some.injEq] at hi;subst hi;exact⟨_,rfl,fun k hk=>hk⟩
 |succ i=>exact⟨e,hi,fun k hk=>hk⟩
theorem Has.we {N:Nat} {S s0 S2 st2:St} {H:List aP} {k:Nat} {b b':gV} {ks:Nat→Prop} {x:D} {s:Nat} {vs I1:List (List D)} (h:Has N S s0 (.box k b::.deep ks x s vs::H)) (hS:S2.bs=s0.bs) (h2:Has N S2 st2 (.box k b'::.deep ks x s I1::H)):Has N S ⟨st2.bs.take s0.bs.length,s0.flr,s0.ro⟩ (.box k b'::.deep ks x s I1::H):=by
 refine h.ud hS h2 fun i e hi=>?_
 match i with
 |0=>simp only[List.getElem?_cons_zero,Option.some.injEq] at hi;subst hi;exact⟨_,rfl,fun k hk=>hk⟩
 |1=>simp only[List.getElem?_cons_succ,List.getElem?_cons_zero,Option.some.injEq] at hi;subst hi;exact⟨_,rfl,fun k hk=>hk⟩
 |i+2=>exact⟨e,hi,fun k hk=>hk⟩
theorem Has.EC {N:Nat} {S st:St} {H:List aP} {a b c d e:aP} (h:Has N S st (a::b::c::d::e::H)):Has N S st (b::c::d::e::a::H):=by
 refine h.sub (fun i=>if i=4 then 0 else if i<4 then i+1 else i) (fun i j hij=>?_) (fun i x hi=>?_)
 ·(try simp only at hij)
  split at hij<;>split at hij<;>(try split at hij)<;>(try split at hij)<;>omega
 ·match i,hi with
  |0,hi=>exact hi
  |1,hi=>exact hi
  |2,hi=>exact hi
  |3,hi=>exact hi
  |4,hi=>exact hi
  |i+5,hi=>
   have h1:¬(i+5=4):=by omega
   have h2:¬(i+5<4):=by omega
   simp only[if_neg h1,if_neg h2];exact hi
theorem Has.kz {fr:Fr} {a k av off j u u2:Nat} {t:TypeId} {ar:Bool} {c:List D} {d e e2:D} (hH:Has N S st H) (ha:fr.get a=.ptr k av off) (hj:H[j]?=some (.box k (.mem av ar c))) (hd:cL P t (c.drop off)=some d) (he:fr.get u=e) (uR:fr.get u2=e2):jb P fr st [.cell a t,.tmp u,.tmp u2]=some [d,e,e2]:=by
 simp only[jb,fq,ha,St.mem_of (hH.at hj),Option.bind_some,hd,Option.map_some,he,uR]
theorem EvC.jh {dy:Dy} {c1 c2:Code} {fr:Fr} {st:St} {Q:Out→Fr→St→Prop} (M:Fr→St→Prop) (h1:EvC P dy c1 fr st (SeqQ P dy c2 (D3 M Q))) (h2:∀aA ab,M aA ab→Q .next aA ab):EvC P dy c1 fr st (SeqQ P dy c2 Q):=
 h1.mono fun o aA ab h=>by
  cases o with
  |next=>exact EvC.merge M h h2
  |exit i=>exact h
  |ret=>exact h
end Go.V
namespace Go.Proofs.YtnleclohocdkaaaGreat
open Go.V Go
def ye (fr:Go.V.Fr) (k:Nat):Go.V.D:=Go.V.nth .junk fr.loc k
theorem Bh {st:St} {L n:Nat} {kn:Bool} {k av off len s:Nat}:aQ st L kn n (.win k av off len s)=aQ st L false n (.win k av off len s):=by
 cases n<;>rfl
theorem Bf (l:List Rg):(l.map ah).map (·.map nz)=l.map ah:=by
 rw[List.map_map];rfl
theorem xq (l:List Rg):∀e∈l.map ah,∀d∈e,lP d=true:=by
 intro e he d hd;obtain⟨x,_,rfl⟩:=List.mem_map.1 he;simp only[ah,List.mem_cons,List.not_mem_nil,or_false] at hd
 rcases hd with rfl|rfl<;>rfl
theorem oc {N L j:Nat} {S st:St} {H:List aP} {x:D} {l:List Rg} (hH:Has N S st H) (hj:H[j]?=some (.lst x 2 (l.map ah))) (hx:∀k,x.ref=k+1→L≤k) {n:Nat} (hn:3≤n):aQ st L false n x=some (aY l):=by
 rw[hH.uC hj hx (xq l) hn,Bf,fz]
def LC (gs:List (Nat×Nat)) (s s':eC) (d1:D) (b:Bool):Prop:=
 D2 gs s s' d1 b∨(s'=s∧d1=.nul∧b=false)
theorem zi {N k:Nat} {S s0:St} {H:List aP} {gs:List (Nat×Nat)} {bk:D} {bB:List Int} {s:eC} (hok:kf gs bB) (he:s.e=0) (hi:s.i<gs.length) (hH:Has N S s0 (.box k (.mem 0 false (aJ gs bk s))::.lst bk 1 (bB.map ae)::H)):
  ∃d ab,Ev pv 181 [.ptr k 0 0] s0 d ab∧∃(d1:D) (b:Bool) (s':eC),d=.tup [d1,.bool b]∧LC gs s s' d1 b∧Has N S ab (.box k (.mem 0 false (aJ gs bk s'))::.lst bk 1 (bB.map ae)::H):=by
 have uy:=hok.gl;have hpl:=hok.pl;refine Ev.iI rfl KS rfl rfl rfl ?_;refine zE ?_;have bY:=hH;have hH:=hH.cg;have bZ:(enterSt .rw s0).bs=s0.bs:=rfl;generalize enterSt .rw s0=S2 at*;have Gs:Arg N S2 2 (fR gs) (gs.map aN):=Arg.pure (fun st=>dP st gs)
 obtain⟨g,hg⟩:∃g,gs[s.i]?=some g:=⟨gs[s.i]'hi,List.getElem?_eq_getElem _⟩
 have hr1:(gs.map aN)[s.i]?=some (aN g):=by rw[List.getElem?_map,hg];rfl
 refine zQ 13 ?_;obtain⟨_,st,hev,rfl,hH⟩:=yQ (s:=s) s.i hi hH;refine qv hev ?_;refine zQ 1 ?_;refine qc (fun hb=>?_) (fun hb=>?_)<;>try simp only[cs] at hb
 ·refine zQ 7 ?_;obtain⟨_,st,hev,rfl,hH⟩:=cF (s:=s) s.i 4 (by omega) hH;refine qv hev ?_;refine zQ 6 ?_;obtain⟨h1,h2,h3,h4⟩:=cT (bB:=bB) (s:=s) (i:=s.i) (e:=4) he (by decide);refine EvC.ret ⟨rx,_,_,_,rfl,ag (rfl),?_⟩;exact⟨_,_,_,rfl,.inl ⟨h3,h4,by rw[h2];exact Nat.le_refl _,by rw[h2];omega,.inl rfl,.inl h1⟩,bY.au bZ hH⟩
 ·refine zQ 11 ?_;refine qr fun GP yj=>?_;refine qf (fo:=0) fun RK Nz=>?_;refine zQ 13 ?_;refine zI (fun q1=>?_) fun q1=>?_
  ·refine zQ 3 ?_;obtain⟨_,st,hev,d1,b,s',rfl,hP,hH⟩:=zb (s:=s) hok he hi hH;refine qv hev ?_;refine zQ 5 ?_
   rcases hP.2.2.2.2.1 with rfl|⟨a,rfl,_⟩
   ·refine EvC.ret ⟨rx,_,_,_,rfl,ag (rfl),?_⟩;exact⟨_,_,_,rfl,.inl hP,bY.au bZ hH⟩
   ·refine EvC.ret ⟨rx,_,_,_,rfl,ag (rfl),?_⟩;exact⟨_,_,_,rfl,.inl hP,bY.au bZ hH⟩
  ·refine zQ 6 ?_
   by_cases I_:((g.1:Nat):Int)=91
   ·refine qD rfl (by simp[I_]) ?_;refine zQ 1 ?_;refine qD rfl (by simp[I_]) ?_;refine zQ 5 ?_;refine EvC.ret ⟨rx,_,_,_,rfl,ag (rfl),?_⟩;exact⟨_,_,_,rfl,.inr ⟨rfl,rfl,rfl⟩,bY.au bZ hH⟩
   refine qE rfl (by simp[I_]) ?_;refine zQ 5 ?_
   by_cases Mq:((g.1:Nat):Int)=93
   ·refine qD rfl (by simp[Mq]) ?_;refine zQ 1 ?_;refine qD rfl (by simp[Mq]) ?_;refine zQ 5 ?_;refine EvC.ret ⟨rx,_,_,_,rfl,ag (rfl),?_⟩;exact⟨_,_,_,rfl,.inr ⟨rfl,rfl,rfl⟩,bY.au bZ hH⟩
   refine qE rfl (by simp[Mq]) ?_;refine zQ 4 ?_
   by_cases PR:((g.1:Nat):Int)=45
   ·refine qD rfl (by simp[PR]) ?_;refine zQ 5 ?_;refine EvC.ret ⟨rx,_,_,_,rfl,ag (rfl),?_⟩;exact⟨_,_,_,rfl,.inr ⟨rfl,rfl,rfl⟩,bY.au bZ hH⟩
   refine qE rfl (by simp[PR]) ?_;refine zQ 9 ?_;refine qT hH at0 fun st hH=>?_;dsimp only[u2,u1,u3,u4,setMany,u5,u6,D.cells,Nat.reduceAdd,aJ,aN,ae,ah] at hH;refine zQ 5 ?_;refine EvO.eX (qs:=[(0,_),(1,_)]) rfl rfl rfl rfl ⟨rfl,(ev rfl),(by rfl),rfl,(ev rfl),(by rfl),trivial⟩ (by intro q hq;simp only[List.mem_cons,List.not_mem_nil,or_false] at hq;rcases hq with rfl|rfl<;>exact⟨rfl,by exact Nat.le_of_ble_eq_true rfl⟩) (by show List.foldl _ [_,_] _=_;dsimp only[List.foldl_cons,List.foldl_nil,u2,u1]<;>rfl) (put_T rfl _) ?_;refine qh (s:=2) (vs:=[_]) hH fun k39 st Tj hH=>?_;refine zQ 3 ?_;have hH:Has N S2 st (.lst (.win k39 0 0 1 2) 2 (([((g.1:Nat),(g.1:Nat))]:List Rg).map ah)::.box k (.mem 0 false (aJ gs bk {s with i:=s.i+1}))::.lst bk 1 (bB.map ae)::H):=hH;have hfz:=oc hH at0 (L:=s0.bs.length) (n:=15) (fun k hk=>by simp only[D.ref] at hk;rw[←bZ];omega) (by decide)
   have N4:aQ st s0.bs.length true 16 (rI [.win k39 0 0 1 2,.bool true])=some (.tup [aY [(((g.1:Nat):Int),((g.1:Nat):Int))],.bool true]):=by
    show(fp (aQ st s0.bs.length true 15) [.win k39 0 0 1 2,.bool true]).map D.tup=_;simp only[fp,Bh,hfz];rfl
   refine EvC.ret ⟨rx,_,_,_,rfl,ag N4,⟨_,_,{s with i:=s.i+1},rfl,.inl ⟨rfl,rfl,?_,?_,.inr ⟨_,rfl,by simp⟩,.inr ⟨he,?_,_,rfl,?_,?_⟩⟩,bY.au bZ (hH.drop 1)⟩⟩
   ·show s.i≤s.i+1;omega
   ·show s.i+1≤_;omega
   ·show s.i<s.i+1;omega
   ·simp
   ·simp
def LF (gs:List (Nat×Nat)) (s s':eC) (d:D):Prop:=
 s'.o=s.o∧s'.g=s.g∧s.i≤s'.i∧s'.i≤gs.length∧∃a:List Rg,d=aY a∧a.length≤8∧(s'.e≠0∨s'.e=0∧s.i<s'.i)
theorem fZ {gs:List (Nat×Nat)} {s:eC} {r:Int}:(cA gs s r).o=s.o∧(cA gs s r).g=s.g∧(cA gs s r).e=s.e∧s.i≤(cA gs s r).i∧(s.i≤gs.length→(cA gs s r).i≤gs.length):=by
 unfold cA
 split
 ·rename_i h;have:=pN h;exact⟨rfl,rfl,rfl,by show s.i≤s.i+1;omega,fun _=>by show s.i+1≤_;omega⟩
 ·exact⟨rfl,rfl,rfl,Nat.le_refl _,fun h=>h⟩
theorem E1 {N k:Nat} {S s0:St} {H:List aP} {gs:List (Nat×Nat)} {bk:D} {bB:List Int} {s:eC} (hok:kf gs bB) (he:s.e=0) (hi:s.i<gs.length) (hH:Has N S s0 (.box k (.mem 0 false (aJ gs bk s))::.lst bk 1 (bB.map ae)::H)):
  ∃d ab,Ev pv 165 [.ptr k 0 0] s0 d ab∧∃(s':eC),LF gs s s' d∧Has N S ab (.box k (.mem 0 false (aJ gs bk s'))::.lst bk 1 (bB.map ae)::H):=by
 have uy:=hok.gl;have hpl:=hok.pl;refine Ev.iI rfl KW rfl rfl rfl ?_;refine zE ?_;have bY:=hH;have hH:=hH.cg;have bZ:(enterSt .rw s0).bs=s0.bs:=rfl;generalize enterSt .rw s0=S2 at*;have Gs:Arg N S2 2 (fR gs) (gs.map aN):=Arg.pure (fun st=>dP st gs);refine zQ 15 ?_;obtain⟨_,st,hev,d1,b,s1,rfl,hP,hH⟩:=zi (s:=s) hok he hi hH;refine qv hev ?_;refine zQ 15 ?_
 rcases hP with hP|⟨e1,rfl,rfl⟩
 ·obtain⟨p1,p2,p3,p4,p5,p6⟩:=hP
  rcases p6 with p6|⟨p6,p7,a,rfl,p8,p9⟩
  ·refine qD rfl (by simp[p6]) ?_;refine zQ 4 ?_;refine EvC.ret ⟨rx,_,_,_,rfl,ag (rfl),?_⟩;exact⟨s1,⟨p1,p2,p3,p4,[],rfl,by simp,.inl p6⟩,bY.au bZ hH⟩
  ·obtain⟨q,a',rfl⟩:∃q a',a=q::a':=List.exists_cons_of_ne_nil p9;refine qE rfl (by simp[p6]) ?_;refine zQ 5 ?_;refine EvO.go (d:=.bool false) (st1:=_) rfl rfl rfl (put_T rfl _) ?_;refine zQ 3 ?_;obtain⟨k1,k2,k3,k4,k5⟩:=fZ (gs:=gs) (s:=s1) (r:=45);have k5:=k5 p4;refine zQ 4 ?_;obtain⟨_,st,hev,rfl,hH⟩:=dw (s:=s1) (by omega) 45 hH;refine qv hev ?_;refine zQ 2 ?_;generalize cA gs s1 45=s2 at*
   cases hb:iv gs s1.i 45 with
   |false=>
    refine zQ 6 ?_;refine EvC.ret ⟨rx,_,_,_,rfl,ag (rfl),?_⟩;exact⟨s2,⟨k1.trans p1,k2.trans p2,by omega,k5,q::a',rfl,p8,.inr ⟨k3.trans p6,by omega⟩⟩,bY.au bZ hH⟩
   |true=>
    refine zQ 21 ?_;refine qn ?_;simp only[List.length_map];refine zQ 2 ?_;refine EvC.merge (fun fr st=>∃(d2:D) (two:Bool) (s3:eC) (tmp:List (Nat×D)),fr=⟨8,[.ptr k 0 0,ye fr 1,ye fr 2,.int .i64 (s.i:Nat),aY (q::a'),.bool b,d2,.bool two],tmp⟩∧Has N S2 st (.box k (.mem 0 false (aJ gs bk s3))::.lst bk 1 (bB.map ae)::H)∧(s3.o=s.o)∧(s3.g=s.g)∧(s2.i≤s3.i)∧(s3.i≤gs.length)∧(s3.e≠0∨s3.e=0∧(two=false∨∃a2:List Rg,d2=aY a2∧a2≠[]))) ?_ ?_
    ·refine zP (fun hlt=>?_) fun hlt=>?_
     ·refine zQ 2 ?_;obtain⟨_,st,hev,d2,two,s3,rfl,T5,hH⟩:=zi (s:=s2) hok (k3.trans p6) (by omega) hH;refine qv hev ?_;refine zQ 6 ?_
      rcases T5 with⟨r1,r2,r3,r4,r5,r6⟩|⟨e1,rfl,rfl⟩
      ·refine⟨d2,two,s3,_,rfl,hH,r1.trans (k1.trans p1),r2.trans (k2.trans p2),r3,r4,?_⟩
       rcases r6 with r6|⟨r6,r7,a2,rfl,r8,r9⟩
       ·exact .inl r6
       ·refine .inr ⟨r6,?_⟩
        cases two with
        |false=>exact .inl rfl
        |true=>exact .inr ⟨a2,rfl,r9⟩
      ·exact⟨.nul,false,s3,_,rfl,hH,by rw[e1];exact k1.trans p1,by rw[e1];exact k2.trans p2,by rw[e1];exact Nat.le_refl _,by rw[e1];exact k5,.inr ⟨by rw[e1];exact k3.trans p6,.inl rfl⟩⟩
     ·refine zQ 1 ?_;exact⟨.nul,false,s2,_,rfl,hH,k1.trans p1,k2.trans p2,Nat.le_refl _,k5,.inr ⟨k3.trans p6,.inl rfl⟩⟩
    ·rintro fr st ⟨d2,two,s3,tmp,hfr,hH,h1,h2,h3,h4,h5⟩;rw[hfr];clear hfr;generalize ye fr=ee;clear fr
     rcases h5 with h5|⟨h5,h6⟩
     ·have cI:(s3.e==0)=false:=by simpa using h5
      refine zQ 39 ?_;refine qD rfl (by simp[h5]) ?_;refine zQ 4 ?_;refine EvC.ret ⟨rx,_,_,_,rfl,ag (rfl),?_⟩;exact⟨s3,⟨h1,h2,by omega,h4,[],rfl,by simp,.inl h5⟩,bY.au bZ hH⟩
     ·have cI:(s3.e==0)=true:=by simpa using h5
      cases b with
      |false=>
       have hg8:(!false)=true:=rfl;refine zQ 14 ?_;refine EvO.pickT (wantD_is rfl rfl rfl cI) rfl hg8 (put_T rfl _) ?_;refine zQ 17 ?_;obtain⟨_,st,hev,rfl,hH⟩:=cF (s:=s3) s.i 4 (by omega) hH;refine qv hev ?_;refine zQ 1 ?_;obtain⟨w1,w2,w3,w4⟩:=cT (bB:=bB) (s:=s3) (i:=s.i) (e:=4) h5 (by decide);generalize ib bB s3 s.i 4=s4 at*;refine zQ 9 ?_;refine qD rfl (by simp[w1]) ?_;refine zQ 4 ?_;refine EvC.ret ⟨rx,_,_,_,rfl,ag (rfl),?_⟩;exact⟨s4,⟨w3.trans h1,w4.trans h2,by omega,by omega,[],rfl,by simp,.inl w1⟩,bY.au bZ hH⟩
      |true=>
       have hg8:(!true)=false:=rfl
       cases two with
       |false=>
        have cJ:(!false)=true:=rfl;refine zQ 14 ?_;refine EvO.pickF (wantD_is rfl rfl rfl cI) rfl hg8 (put_T rfl _) ?_;refine zQ 10 ?_;refine EvO.pickT (wantD_is rfl rfl rfl cI) rfl cJ (put_T rfl _) ?_;refine zQ 6 ?_;obtain⟨_,st,hev,rfl,hH⟩:=cF (s:=s3) s.i 4 (by omega) hH;refine qv hev ?_;refine zQ 1 ?_;obtain⟨w1,w2,w3,w4⟩:=cT (bB:=bB) (s:=s3) (i:=s.i) (e:=4) h5 (by decide);generalize ib bB s3 s.i 4=s4 at*;refine zQ 9 ?_;refine qD rfl (by simp[w1]) ?_;refine zQ 4 ?_;refine EvC.ret ⟨rx,_,_,_,rfl,ag (rfl),?_⟩;exact⟨s4,⟨w3.trans h1,w4.trans h2,by omega,by omega,[],rfl,by simp,.inl w1⟩,bY.au bZ hH⟩
       |true=>
        have cJ:(!true)=false:=rfl
        obtain⟨a2,rfl,h7⟩:∃a2:List Rg,d2=aY a2∧a2≠[]:=by
         rcases h6 with h6|h6
         ·cases h6
         ·exact h6
        obtain⟨q2,QW,rfl⟩:∃q a',a2=q::a':=List.exists_cons_of_ne_nil h7;have IF:=(iF (q::a')).arg N S2;have CY:=(iF (q2::QW)).arg N S2;have IG:((q::a').map ah)[0]?=some (ah q):=rfl;have hr1:((q2::QW).map ah)[0]?=some (ah q2):=rfl;refine zQ 14 ?_;refine EvO.pickF (wantD_is rfl rfl rfl cI) rfl hg8 (put_T rfl _) ?_;refine zQ 2 ?_;refine qr (fun U6 SG=>?_) (hg:=wi cJ);refine qf (fo:=0) (fun U5 SF=>?_) (hg:=wi cJ);refine zQ 2 ?_;refine qr (fun Ms Hp=>?_) (hg:=wi cJ);refine qf (fo:=0) (fun RD Nr=>?_) (hg:=wi cJ);refine zQ 2 ?_;refine EvO.pickF (wantD_is rfl rfl rfl cI) rfl cJ (put_T rfl _) ?_;refine zQ 2 ?_;refine zP (fun Ki=>?_) fun Ki=>?_
        ·refine zQ 3 ?_;obtain⟨_,st,hev,rfl,hH⟩:=cF (s:=s3) s.i 4 (by omega) hH;refine qv hev ?_;refine zQ 1 ?_;obtain⟨w1,w2,w3,w4⟩:=cT (bB:=bB) (s:=s3) (i:=s.i) (e:=4) h5 (by decide);generalize ib bB s3 s.i 4=s4 at*;refine zQ 9 ?_;refine qD rfl (by simp[w1]) ?_;refine zQ 4 ?_;refine EvC.ret ⟨rx,_,_,_,rfl,ag (rfl),?_⟩;exact⟨s4,⟨w3.trans h1,w4.trans h2,by omega,by omega,[],rfl,by simp,.inl w1⟩,bY.au bZ hH⟩
        ·refine zQ 10 ?_;refine qE rfl (by simp[h5]) ?_;refine zQ 4 ?_;refine qr fun LI Fo=>?_;refine qf (fo:=0) fun RA Nn=>?_;refine zQ 2 ?_;refine qr fun UU Sv=>?_;refine qf (fo:=0) fun Ry Nj=>?_;refine qR ?_;refine EvO.eX (qs:=[(0,_),(1,_)]) rfl rfl rfl rfl ⟨rfl,(ev rfl),(by rfl),rfl,(ev rfl),(by rfl),trivial⟩ (by intro q hq;simp only[List.mem_cons,List.not_mem_nil,or_false] at hq;rcases hq with rfl|rfl<;>exact⟨rfl,by exact Nat.le_of_ble_eq_true rfl⟩) (by show List.foldl _ [_,_] _=_;dsimp only[List.foldl_cons,List.foldl_nil,u2,u1]<;>rfl) (put_T rfl _) ?_;refine qh (s:=2) (vs:=[_]) hH fun k87 st S7 hH=>?_;dsimp only[u2,u1,u3,u4,setMany,u5,u6,D.cells,Nat.reduceAdd,aJ,aN,ae,ah] at hH;refine zQ 2 ?_;have hH:Has N S2 st (.lst (.win k87 0 0 1 2) 2 (([(q.1,q2.1)]:List Rg).map ah)::.box k (.mem 0 false (aJ gs bk s3))::.lst bk 1 (bB.map ae)::H):=hH;have hfz:=oc hH at0 (L:=s0.bs.length) (n:=16) (fun k hk=>by simp only[D.ref] at hk;rw[←bZ];omega) (by decide);refine EvC.ret ⟨rx,_,_,_,rfl,ag hfz,⟨s3,⟨h1,h2,by omega,h4,[(q.1,q2.1)],rfl,by simp,.inr ⟨h5,by omega⟩⟩,bY.au bZ (hH.drop 1)⟩⟩
 ·have e2:s1.e=0:=by rw[e1];exact he
  have e3:s1.i=s.i∧s1.o=s.o∧s1.g=s.g:=by rw[e1];exact⟨rfl,rfl,rfl⟩
  clear e1;refine qE rfl (by simp[e2]) ?_;refine zQ 5 ?_;refine EvO.go (d:=.bool true) (st1:=_) rfl rfl rfl (put_T rfl _) ?_;refine zQ 6 ?_;obtain⟨_,st,hev,rfl,hH⟩:=cF (s:=s1) s.i 4 (by omega) hH;refine qv hev ?_;refine zQ 1 ?_;obtain⟨w1,w2,w3,w4⟩:=cT (bB:=bB) (s:=s1) (i:=s.i) (e:=4) e2 (by decide);refine zQ 4 ?_;refine EvC.ret ⟨rx,_,_,_,rfl,ag (rfl),?_⟩;exact⟨_,⟨by omega,by omega,by omega,by omega,[],rfl,by simp,.inl w1⟩,bY.au bZ hH⟩
end Go.Proofs.YtnleclohocdkaaaGreat
namespace Go.Proofs.YtnleclohocdkaaaGreat
open Go.V Go
def yd (fr:Go.V.Fr) (k:Nat):Go.V.D:=Go.V.nth .junk fr.loc k
def NdV (n:Nod):Prop:=n.rd=aY n.rs∧n.rs.length≤1048576∧n.kids≤1048576
def tU (op mn mx:Int) (lz:Bool) (cap kids:Int) (a:List Rg):Nod:=⟨op,aY a,a,mn,mx,lz,cap,kids⟩
def uQ (l:List Nod):D:=.sl ((l.map aS).map (iR 7))
theorem EN (l:List Nod):∀e∈l.map aS,e.length=7:=by
 intro e he;obtain⟨x,_,rfl⟩:=List.mem_map.1 he;rfl
theorem mY {l:List Nod} (h:∀n∈l,NdV n):∀e∈l.map aS,∀d∈e,bC d=true:=by
 intro e he d hd;obtain⟨n,hn,rfl⟩:=List.mem_map.1 he;have hr:=(h n hn).1;simp only[aS,hr,List.mem_cons,List.not_mem_nil,or_false] at hd
 rcases hd with rfl|rfl|rfl|rfl|rfl|rfl|rfl<;>rfl
theorem sA {l:List Nod} (h:∀n∈l,NdV n):SlD (uQ l) 7 (l.map aS):=SlD.frozen (EN l) (mY h)
theorem Ji {l:List Nod} (h:∀n∈l,NdV n) (hl:l.length≤1048576):(⟨uQ l,l⟩:Nl).ok:=by
 refine⟨sA h,fun n hn=>?_,hl⟩;obtain⟨h1,h2,h3⟩:=h n hn;exact⟨by rw[h1];exact iF _,h2,by omega⟩
theorem tS {l:List Nod} (h:∀n∈l,NdV n):(l.map aS).map (·.map nz)=l.map aS:=by
 rw[List.map_map];refine List.map_congr_left fun n hn=>?_;have hr:=(h n hn).1;show(aS n).map nz=aS n;unfold aS;rw[hr];rfl
theorem px {l:List Nod} (h:∀n∈l,NdV n):∀e∈l.map aS,∀d∈e,lP d=true:=by
 intro e he d hd;have:=mY h e he d hd
 cases d<;>first|rfl|exact this
theorem hO {N L j:Nat} {S st:St} {H:List aP} {x:D} {es:List (List D)} {l:List Nod} (hH:Has N S st H) (hj:H[j]?=some (.lst x 7 es)) (he:es.map (·.map nz)=l.map aS) (ht:∀e∈es,∀d∈e,lP d=true) (hx:∀k,x.ref=k+1→L≤k) {n:Nat} (hn:3≤n):aQ st L false n x=some (uQ l):=by
 rw[hH.uC hj hx ht hn,he];rfl
theorem hU {N L j:Nat} {S st:St} {H:List aP} {x w:D} {op mn mx cap kids:Int} {lz:Bool} {a:List Rg} (hH:Has N S st H) (hj:H[j]?=some (.lst x 7 [[.int .i64 op,w,.int .i64 mn,.int .i64 mx,.bool lz,.int .i64 cap,.int .i64 kids]])) (hw:w=aY a∨w=.nul∧a=[]) (hx:∀k,x.ref=k+1→L≤k):aQ st L false 16 x=some (uQ [tU op mn mx lz cap kids a]):=by
 refine hO hH hj ?_ (fun e he d hd=>?_) hx (by decide)
 ·rcases hw with rfl|⟨rfl,rfl⟩<;>rfl
 ·simp only[List.mem_cons,List.not_mem_nil,or_false] at he;subst he;simp only[List.mem_cons,List.not_mem_nil,or_false] at hd
  rcases hw with rfl|⟨rfl,rfl⟩<;>rcases hd with rfl|rfl|rfl|rfl|rfl|rfl|rfl<;>rfl
theorem CG {op mn mx cap kids:Int} {lz:Bool} {a:List Rg} (h:a.length≤1048576) (hk:kids≤1048576):∀n∈[tU op mn mx lz cap kids a],NdV n:=by
 intro n hn;simp only[List.mem_cons,List.not_mem_nil,or_false] at hn;subst hn;exact⟨rfl,h,hk⟩
def uP (gs:List (Nat×Nat)) (s s':eC) (d:D):Prop:=
 s'.o=s.o∧s'.g≤4∧s.i≤s'.i∧s'.i≤gs.length∧∃l:List Nod,d=uQ l∧(∀n∈l,NdV n)∧l.length≤4*(s'.i-s.i)+1
def ir (gs:List (Nat×Nat)) (s s':eC) (d:D) (c:Nat):Prop:=
 s'.o=s.o∧s'.g≤4∧s.i≤s'.i∧s'.i≤gs.length∧∃l:List Nod,d=uQ l∧(∀n∈l,NdV n)∧l.length≤4*(s'.i-s.i)+1∧(s'.e≠0∨s'.e=0∧l.length+c≤4*(s'.i-s.i))
theorem fG {gs:List (Nat×Nat)} {s s':eC} {c:Nat} (h1:s'.o=s.o) (h2:s'.g≤4) (h3:s.i≤s'.i) (h4:s'.i≤gs.length) (h5:s'.e≠0):ir gs s s' (.sl []) c:=
 ⟨h1,h2,h3,h4,[],rfl,fun n hn=>(by cases hn),by simp,.inl h5⟩
theorem DJ {N k:Nat} {S s0:St} {H:List aP} {gs:List (Nat×Nat)} {bk:D} {bB:List Int} {s:eC} (hok:kf gs bB) (he:s.e=0) (hi:s.i<gs.length) (hg:s.g≤4) (hH:Has N S s0 (.box k (.mem 0 false (aJ gs bk s))::.lst bk 1 (bB.map ae)::H)):
  ∃d ab,Ev pv 156 [.ptr k 0 0] s0 d ab∧∃(s':eC),ir gs s s' d 2∧Has N S ab (.box k (.mem 0 false (aJ gs bk s'))::.lst bk 1 (bB.map ae)::H):=by
 have uy:=hok.gl;have hpl:=hok.pl;refine Ev.iI rfl K3 rfl rfl rfl ?_;refine zE ?_;have bY:=hH;have hH:=hH.cg;have bZ:(enterSt .rw s0).bs=s0.bs:=rfl;generalize enterSt .rw s0=S2 at*;have Gs:Arg N S2 2 (fR gs) (gs.map aN):=Arg.pure (fun st=>dP st gs);refine zQ 21 ?_;refine qT hH at0 fun st hH=>?_;dsimp only[u2,u1,u3,u4,setMany,u5,u6,D.cells,Nat.reduceAdd,aJ,aN,ae,ah] at hH;refine zQ 1 ?_;have hH:Has N S2 st (.box k (.mem 0 false (aJ gs bk {s with i:=s.i+1}))::.lst bk 1 (bB.map ae)::H):=hH;obtain⟨k1,k2,k3,k4,k5⟩:=fZ (gs:=gs) (s:={s with i:=s.i+1}) (r:=94);have k5:=k5 (by show s.i+1≤_;omega);simp only at k1 k2 k3 k4;refine zQ 3 ?_;obtain⟨_,st,hev,rfl,hH⟩:=dw (s:={s with i:=s.i+1}) (by omega) 94 hH;refine qv hev ?_;refine zQ 2 ?_;generalize cA gs {s with i:=s.i+1} 94=s1 at*;generalize iv gs ({s with i:=s.i+1}:eC).i 94=nt at*;refine zQ 8 ?_
 have hH:Has N S2 st (.box k (.mem 0 false (aJ gs bk s1))::.lst bk 1 (bB.map ae)::.lst .nul 2 (([]:List Rg).map ah)::H):=((hH.nulE 2).front at1|>.front at2|>fun h=>(h.front at1))
 refine zQ 2 ?_;refine EvC.loop (fun mm fr st=>∃(s1:eC) (ld:D) (lr:List Rg) (nn:Bool),fr.clean=⟨7,[.ptr k 0 0,yd fr 1,yd fr 2,.int .i64 (s.i:Nat),.bool nt,ld,.bool nn],[]⟩∧Has N S2 st (.box k (.mem 0 false (aJ gs bk s1))::.lst bk 1 (bB.map ae)::.lst ld 2 (lr.map ah)::H)∧(s1.o=s.o)∧(s1.g=s.g)∧(s.i<s1.i)∧(s1.i≤gs.length)∧(lr.length≤8*s1.i+8)∧(s1.e=0→lr.length≤8*s1.i)∧(gs.length-s1.i+(if s1.e=0 then 1 else 0)≤mm)) (gs.length+1) ?_ ?_
 ·exact⟨s1,.nul,[],true,rfl,hH,k1,k2,by omega,k5,by simp,fun _=>by simp,by split<;>omega⟩
 rintro mm fr st ⟨s1,ld,lr,nn,hfr,hH,h1,h2,h3,h4,h5,h6,xk⟩;rw[hfr];clear hfr;generalize yd fr=ee;clear fr
 by_cases jB:s1.e=0
 ·rw[if_pos jB] at xk;have h6:=h6 jB;have cI:(s1.e==0)=true:=by simpa using jB
  refine zQ 10 ?_;obtain⟨_,st,hev,rfl,hH⟩:=nY (s:=s1) (by omega) 93 hH;refine qv hev ?_ (hg:=wi cI);refine zQ 3 ?_
  cases hb:iv gs s1.i 93 with
  |true=>
   have hlt:=pN hb;refine zQ 11 ?_;refine qE rfl (by simp[jB]) ?_;refine zQ 6 ?_
   cases nn with
   |true=>
    refine zQ 5 ?_;obtain⟨_,st,hev,rfl,hH⟩:=cF (s:=s1) s.i 4 (by omega) hH;refine qv hev ?_;refine zQ 2 ?_;obtain⟨w1,w2,w3,w4⟩:=cT (bB:=bB) (s:=s1) (i:=s.i) (e:=4) jB (by decide);refine EvC.ret ⟨rx,_,_,_,rfl,ag (rfl),?_⟩;exact⟨_,fG (by omega) (by omega) (by omega) (by omega) w1,bY.au bZ (hH.erase 2)⟩
   |false=>
    refine zQ 11 ?_;refine qT hH at0 fun st hH=>?_;dsimp only[u2,u1,u3,u4,setMany,u5,u6,D.cells,Nat.reduceAdd,aJ,aN,ae,ah] at hH;refine zQ 4 ?_;obtain⟨hev,A',_⟩:=lV (l:=lr) (hH.rows at2) (by omega);refine qv hev ?_;refine zQ 2 ?_;generalize jW lr=m at*;refine zQ 5 ?_
    have eM:∀(st:St) (a:List Rg) (k70:Nat),a.length≤1048576→S2.bs.length≤k70→Has N S2 st (.lst (.win k70 0 0 1 7) 7 [[.int .i64 2,aY a,.int .i64 0,.int .i64 0,.bool false,.int .i64 0,.int .i64 0]]::.box k (.mem 0 false (aJ gs bk {s1 with i:=s1.i+1}))::.lst bk 1 (bB.map ae)::.lst ld 2 (lr.map ah)::H)→
      ∃d ab,cx .rw false s0 st (.win k70 0 0 1 7)=some (d,ab)∧∃(s':eC),ir gs s s' d 2∧Has N S ab (.box k (.mem 0 false (aJ gs bk s'))::.lst bk 1 (bB.map ae)::H):=by
     intro st a k70 ha hk hH;have hfz:=hU hH at0 (L:=s0.bs.length) (.inl rfl) (fun k hk=>by simp only[D.ref] at hk;rw[←bZ];omega);exact⟨_,_,ag hfz,{s1 with i:=s1.i+1},⟨h1,by show s1.g≤4;omega,by show s.i≤s1.i+1;omega,by show s1.i+1≤_;omega,_,rfl,CG ha (by omega),by simp,.inr ⟨jB,by show 1+2≤4*(s1.i+1-s.i);omega⟩⟩,bY.au bZ ((hH.drop 1).erase 2)⟩
    cases nt with
    |true=>
     refine zQ 3 ?_;obtain⟨_,hev,a,rfl,hla⟩:=CC (l:=m) (dN _ _) (by omega);refine qv hev ?_;refine zQ 5 ?_;refine EvO.eX (qs:=[(0,_),(1,_)]) rfl rfl rfl rfl ⟨rfl,(ev rfl),(by rfl),rfl,(ev rfl),(by rfl),trivial⟩ (by intro q hq;simp only[List.mem_cons,List.not_mem_nil,or_false] at hq;rcases hq with rfl|rfl<;>exact⟨rfl,by exact Nat.le_of_ble_eq_true rfl⟩) (by show List.foldl _ [_,_,_,_,_,_,_] _=_;dsimp only[List.foldl_cons,List.foldl_nil,u2,u1]<;>rfl) (put_T rfl _) ?_;refine qh (s:=7) (vs:=[_]) hH fun k70 st HJ hH=>?_;refine zQ 2 ?_;obtain⟨d',ab,wD,gj⟩:=eM _ a k70 (by omega) HJ hH;refine EvC.ret ⟨rx,_,d',ab,rfl,wD,gj⟩
    |false=>
     refine zQ 5 ?_;refine EvO.eX (qs:=[(0,_),(1,_)]) rfl rfl rfl rfl ⟨rfl,(ev rfl),(by rfl),rfl,(ev rfl),(by rfl),trivial⟩ (by intro q hq;simp only[List.mem_cons,List.not_mem_nil,or_false] at hq;rcases hq with rfl|rfl<;>exact⟨rfl,by exact Nat.le_of_ble_eq_true rfl⟩) (by show List.foldl _ [_,_,_,_,_,_,_] _=_;dsimp only[List.foldl_cons,List.foldl_nil,u2,u1]<;>rfl) (put_T rfl _) ?_;refine qh (s:=7) (vs:=[_]) hH fun k70 st HJ hH=>?_;refine zQ 2 ?_;obtain⟨d',ab,wD,gj⟩:=eM _ m k70 (by omega) HJ hH;refine EvC.ret ⟨rx,_,d',ab,rfl,wD,gj⟩
  |false=>
   refine zQ 14 ?_;refine qn ?_;simp only[List.length_map];refine zQ 2 ?_;refine zP (fun hge=>?_) fun hge=>?_
   ·refine zQ 4 ?_;obtain⟨_,st,hev,rfl,hH⟩:=cF (s:=s1) s.i 4 (by omega) hH;refine qv hev ?_;refine zQ 2 ?_;obtain⟨w1,w2,w3,w4⟩:=cT (bB:=bB) (s:=s1) (i:=s.i) (e:=4) jB (by decide);refine EvC.ret ⟨rx,_,_,_,rfl,ag (rfl),?_⟩;exact⟨_,fG (by omega) (by omega) (by omega) (by omega) w1,bY.au bZ (hH.erase 2)⟩
   ·refine zQ 5 ?_;obtain⟨_,st,hev,s2,⟨i1,i2,i3,i4,a,rfl,i5,i6⟩,hH⟩:=E1 (s:=s1) hok jB (by omega) hH;have IF:=(iF a).arg N S2;have Gh:=xI a;refine qv hev ?_;refine EvO.happend (s:=2) hH rfl (ev rfl) (ev rfl) (by exact at2) (by exact Arg.rows (by assumption) hH) rfl rfl rfl rfl rfl rfl rfl ⟨(Nat.le_of_ble_eq_true rfl),(Nat.le_of_ble_eq_true rfl)⟩ (fun _=>(put_T rfl _)) (by simp only[List.length_map]<;>omega) (by exact .inr (by assumption)) (fun Q_ st hH=>?_);dsimp only[u2,u1,u3,u4,setMany,u5,u6,D.cells,Nat.reduceAdd,aJ,aN,ae,ah] at hH;refine zQ 5 ?_;exact⟨mm-1,by omega,⟨s2,Q_,lr++a,false,rfl,(by rw[List.map_append];exact hH),i1.trans h1,i2.trans h2,by omega,i4,by rw[List.length_append];omega,fun e=>by rw[List.length_append];omega,by split<;>omega⟩⟩
 ·have cI:(s1.e==0)=false:=by simpa using jB
  refine zQ 25 ?_;refine qD rfl (by simp[jB]) ?_;refine zQ 4 ?_;refine EvC.ret ⟨rx,_,_,_,rfl,ag (rfl),?_⟩;exact⟨_,fG h1 (by omega) (by omega) h4 jB,bY.au bZ (hH.erase 2)⟩
end Go.Proofs.YtnleclohocdkaaaGreat
namespace Go.Proofs.YtnleclohocdkaaaGreat
open Go.V Go
def jm (fr:Go.V.Fr) (k:Nat):Go.V.D:=Go.V.nth .junk fr.loc k
def rC (gs:List (Nat×Nat)) (s s':eC):Prop:=s'.o=s.o∧s'.g=s.g∧s.i<s'.i∧s'.i≤gs.length
theorem Cy {N k:Nat} {S s0:St} {H:List aP} {gs:List (Nat×Nat)} {bk:D} {bB:List Int} {s:eC} (hok:kf gs bB) (he:s.e=0) (hi:s.i<gs.length) (hH:Has N S s0 (.box k (.mem 0 false (aJ gs bk s))::.lst bk 1 (bB.map ae)::H)):
  ∃d ab,Ev pv 144 [.ptr k 0 0] s0 d ab∧∃(n1 n2:Int) (s':eC),d=.tup [.int .i64 n1,.int .i64 n2]∧rC gs s s'∧Has N S ab (.box k (.mem 0 false (aJ gs bk s'))::.lst bk 1 (bB.map ae)::H):=by
 have uy:=hok.gl;have hpl:=hok.pl;have hne:gs≠[]:=by rintro rfl;simp at hi
 refine Ev.iI rfl K9 rfl rfl rfl ?_;refine zE ?_;have bY:=hH;have hH:=hH.cg;have bZ:(enterSt .rw s0).bs=s0.bs:=rfl;generalize enterSt .rw s0=S2 at*;refine zQ 22 ?_;refine qT hH at0 fun st hH=>?_;dsimp only[u2,u1,u3,u4,setMany,u5,u6,D.cells,Nat.reduceAdd,aJ,aN,ae,ah] at hH;refine zQ 1 ?_;have hH:Has N S2 st (.box k (.mem 0 false (aJ gs bk {s with i:=s.i+1}))::.lst bk 1 (bB.map ae)::H):=hH
 have Dh:∀(st:St) (s3:eC) (e:Int),e≠0→s3.e=0→rC gs s s3→Has N S2 st (.box k (.mem 0 false (aJ gs bk s3))::.lst bk 1 (bB.map ae)::H)→∃d ab,Ev pv 95 [.ptr k 0 0,.int .i64 (s.i:Nat),.int .i64 e] st d ab∧d=.sl []∧∃s4,rC gs s s4∧Has N S2 ab (.box k (.mem 0 false (aJ gs bk s4))::.lst bk 1 (bB.map ae)::H):=by
  intro st s3 e h0 h1 h2 hH;obtain⟨d,ab,hev,h4,hH⟩:=cF (s:=s3) s.i e (by omega) hH;obtain⟨w1,w2,w3,w4⟩:=cT (bB:=bB) (s:=s3) (i:=s.i) (e:=e) h1 h0;exact⟨d,ab,hev,h4,_,⟨w3.trans h2.1,w4.trans h2.2.1,by rw[w2];exact h2.2.2.1,by rw[w2];exact h2.2.2.2⟩,hH⟩
 refine zQ 3 ?_;obtain⟨_,st,hev,m,ok,mm,rfl,A',SV,hH⟩:=te (s:={s with i:=s.i+1}) uy (by show s.i+1≤_;omega) hne hH;refine qv hev ?_;refine zQ 6 ?_
 obtain⟨s1,iP⟩:∃s1:eC,({s with i:=s.i+1+mm}:eC)=s1:=⟨_,rfl⟩
 have Hh:s1.e=0:=by rw[←iP];exact he
 have CU:rC gs s s1:=by rw[←iP];exact⟨rfl,rfl,by show s.i<s.i+1+mm;omega,SV⟩
 have hH:Has N S2 st (.box k (.mem 0 false (aJ gs bk s1))::.lst bk 1 (bB.map ae)::H):=by rw[←iP];exact hH
 clear iP;refine zQ 8 ?_;refine EvC.jh (fun fr st=>∃(n:List UInt8) (en:Bool) (s3:eC) (tmp:List (Nat×D)),fr=⟨14,[.ptr k 0 0,jm fr 1,jm fr 2,jm fr 3,.int .i64 (s.i:Nat),.str m,.bool ok,.str n,.bool en,jm fr 9,jm fr 10,jm fr 11,jm fr 12,jm fr 13],tmp⟩∧Has N S2 st (.box k (.mem 0 false (aJ gs bk s3))::.lst bk 1 (bB.map ae)::H)∧(s3.e=0)∧(rC gs s s3)∧(n.length≤120)) ?_ ?_
 ·cases ok with
  |false=>
   have fu:false=false:=rfl;refine zQ 9 ?_;exact⟨m,false,s1,_,rfl,hH,Hh,CU,A'⟩
  |true=>
   have fu:true=true:=rfl;obtain⟨k1,k2,k3,k4,k5⟩:=fZ (gs:=gs) (s:=s1) (r:=44);have k5:=k5 CU.2.2.2;refine zQ 4 ?_;obtain⟨_,st,hev,rfl,hH⟩:=dw (s:=s1) (by omega) 44 hH;refine qv hev ?_ (hg:=wi fu);refine zQ 2 ?_;generalize cA gs s1 44=s2 at*
   have Fg:rC gs s s2:=⟨k1.trans CU.1,k2.trans CU.2.1,by have:=CU.2.2.1;omega,k5⟩
   cases hb:iv gs s1.i 44 with
   |false=>
    refine zQ 2 ?_;exact⟨m,false,s2,_,rfl,hH,k3.trans Hh,Fg,A'⟩
   |true=>
    refine zQ 8 ?_;obtain⟨_,st,hev,n,there,P7,rfl,C8,hni,hH⟩:=te (s:=s2) uy k5 hne hH;refine qv hev ?_;refine zQ 11 ?_;exact⟨n,!there,{s2 with i:=s2.i+P7},_,rfl,hH,k3.trans Hh,⟨Fg.1,Fg.2.1,by have:=Fg.2.2.1;show s.i<s2.i+P7;omega,hni⟩,C8⟩
 ·rintro fr st ⟨n,en,s3,tmp,hfr,hH,h1,h2,h3⟩;rw[hfr];clear hfr;generalize jm fr=ee;clear fr;obtain⟨k1,k2,k3,k4,k5⟩:=fZ (gs:=gs) (s:=s3) (r:=125);have k5:=k5 h2.2.2.2
  have A7:rC gs s (cA gs s3 125):=⟨k1.trans h2.1,k2.trans h2.2.1,by have:=h2.2.2.1;omega,k5⟩
  have Ff:(cA gs s3 125).e=0:=k3.trans h1
  cases ok with
  |false=>
   have bL:(!false)=true:=rfl;refine zQ 25 ?_;obtain⟨_,st,hev,rfl,s4,SY,hH⟩:=Dh _ s3 4 (by decide) h1 h2 hH;refine qv hev ?_;refine zQ 6 ?_;refine EvC.ret ⟨rx,_,_,_,rfl,ag (rfl),?_⟩;exact⟨_,_,s4,rfl,SY,bY.au bZ hH⟩
  |true=>
   have bL:(!true)=false:=rfl
   cases oO:(!iv gs s3.i 125) with
   |true=>
    refine zQ 7 ?_;obtain⟨_,st,hev,rfl,hH⟩:=dw (s:=s3) (by omega) 125 hH;refine qv hev ?_ (hg:=wi bL);refine zQ 12 ?_;generalize cA gs s3 125=s4 at*;refine zQ 5 ?_;obtain⟨_,st,hev,rfl,s5,HD,hH⟩:=Dh _ s4 4 (by decide) Ff A7 hH;refine qv hev ?_;refine zQ 6 ?_;refine EvC.ret ⟨rx,_,_,_,rfl,ag (rfl),?_⟩;exact⟨_,_,s5,rfl,HD,bY.au bZ hH⟩
   |false=>
    have gj:True:=trivial
    cases en with
    |true=>
     have cv:(!true)=false:=rfl;refine zQ 7 ?_;obtain⟨_,st,hev,rfl,hH⟩:=dw (s:=s3) (by omega) 125 hH;refine qv hev ?_ (hg:=wi bL);refine zQ 9 ?_;refine EvO.pickF (wantD_is rfl rfl rfl oO) rfl cv (put_T rfl _) ?_;refine zQ 2 ?_;generalize cA gs s3 125=s4 at*;refine zQ 2 ?_;obtain⟨_,E8,a1,f1,rfl⟩:=lM (s0:=st) m (by omega);refine zQ 3 ?_;refine qv (E8) ?_;refine zQ 15 ?_;obtain⟨_,CS,a2,f2,rfl⟩:=lM (s0:=st) [] (by simp);refine zQ 3 ?_;refine qv (CS) ?_;refine zQ 8 ?_;refine EvC.cutT 78 (.bool (!f1||!f2)) [] ?_ (fun ff tmp htmp=>?_)
     ·refine zQ 3 ?_;refine EvO.two 75 rfl (fun bL=>?_) (fun bL=>?_)
      ·refine zQ 3 ?_;refine EvO.nil (leafT ?_ ?_)
       ·dsimp only[setW,List.foldl,nth,u2,u1]
        all_goals(first|rfl|simp)
       ·refine zF ?_
        all_goals(simp[bL];done)
      ·refine zQ 3 ?_;refine EvO.nil (leafT ?_ ?_)
       ·dsimp only[setW,List.foldl,nth,u2,u1]
        all_goals(first|rfl|simp)
       ·refine zF ?_
        all_goals(simp[bL];done)
     dsimp only[setW,List.foldl,nth,u2,u1];refine qc (fun Bc=>?_) (fun Bc=>?_)<;>try simp only[cs] at Bc
     ·refine zQ 4 ?_;obtain⟨_,st,hev,rfl,s5,HD,hH⟩:=Dh _ s4 2 (by decide) Ff A7 hH;refine qv hev ?_;refine zQ 6 ?_;refine EvC.ret ⟨rx,_,_,_,rfl,ag (rfl),?_⟩;exact⟨_,_,s5,rfl,HD,bY.au bZ hH⟩
     ·refine zQ 17 ?_;refine EvC.ret ⟨rx,_,_,_,rfl,ag (rfl),?_⟩;exact⟨_,_,s4,rfl,A7,bY.au bZ hH⟩
    |false=>
     have cv:(!false)=true:=rfl;refine zQ 7 ?_;obtain⟨_,st,hev,rfl,hH⟩:=dw (s:=s3) (by omega) 125 hH;refine qv hev ?_ (hg:=wi bL);refine zQ 8 ?_;obtain⟨_,hle,v,rfl⟩:=EY (s0:=st) n m;refine EvO.hcall (wantD_is rfl rfl rfl cv) rfl hle (put_T rfl _) ?_;refine EvO.pickT (wantD_is rfl rfl rfl oO) rfl cv (put_T rfl _) ?_;refine zQ 2 ?_;generalize cA gs s3 125=s4 at*
     cases v with
     |true=>
      refine zQ 5 ?_;obtain⟨_,st,hev,rfl,s5,HD,hH⟩:=Dh _ s4 4 (by decide) Ff A7 hH;refine qv hev ?_;refine zQ 6 ?_;refine EvC.ret ⟨rx,_,_,_,rfl,ag (rfl),?_⟩;exact⟨_,_,s5,rfl,HD,bY.au bZ hH⟩
     |false=>
      refine zQ 2 ?_;obtain⟨_,E8,a1,f1,rfl⟩:=lM (s0:=st) m (by omega);refine zQ 3 ?_;refine qv (E8) ?_;refine zQ 13 ?_;obtain⟨_,CS,a2,f2,rfl⟩:=lM (s0:=st) n (by omega);refine zQ 3 ?_;refine qv (CS) ?_;refine zQ 8 ?_;refine EvC.cutT 78 (.bool (!f1||!f2)) [] ?_ (fun ff tmp htmp=>?_)
      ·refine zQ 3 ?_;refine EvO.two 75 rfl (fun bL=>?_) (fun bL=>?_)
       ·refine zQ 3 ?_;refine EvO.nil (leafT ?_ ?_)
        ·dsimp only[setW,List.foldl,nth,u2,u1]
         all_goals(first|rfl|simp)
        ·refine zF ?_
         all_goals(simp[bL];done)
       ·refine zQ 3 ?_;refine EvO.nil (leafT ?_ ?_)
        ·dsimp only[setW,List.foldl,nth,u2,u1]
         all_goals(first|rfl|simp)
        ·refine zF ?_
         all_goals(simp[bL];done)
      dsimp only[setW,List.foldl,nth,u2,u1];refine qc (fun Bc=>?_) (fun Bc=>?_)<;>try simp only[cs] at Bc
      ·refine zQ 4 ?_;obtain⟨_,st,hev,rfl,s5,HD,hH⟩:=Dh _ s4 2 (by decide) Ff A7 hH;refine qv hev ?_;refine zQ 6 ?_;refine EvC.ret ⟨rx,_,_,_,rfl,ag (rfl),?_⟩;exact⟨_,_,s5,rfl,HD,bY.au bZ hH⟩
      ·refine zQ 15 ?_;refine EvC.ret ⟨rx,_,_,_,rfl,ag (rfl),?_⟩;exact⟨_,_,s4,rfl,A7,bY.au bZ hH⟩
end Go.Proofs.YtnleclohocdkaaaGreat
namespace Go.Proofs.YtnleclohocdkaaaGreat
open Go.V Go
def cp (fr:Go.V.Fr) (k:Nat):Go.V.D:=Go.V.nth .junk fr.loc k
theorem pa:∀{l:List D},(∀d∈l,bC d=true)→refs l=0
 |[],_=>rfl
 |d::l,h=>by
  have h1:=pa (l:=l) fun d hd=>h d (List.mem_cons_of_mem _ hd);have h2:=h d (List.mem_cons_self ..)
  have h3:d.ref=0:=by cases d<;>first|rfl|(simp[bC] at h2)
  simp only[refs,h1,h3,Nat.max_self]
theorem sy {l:List Nod} (h:∀n∈l,NdV n):refs (l.map aS).flatten=0:=
 pa fun d hd=>by
  obtain⟨e,he,zT⟩:=List.mem_flatten.1 hd;exact mY h e he d zT
def partC (l:List Nod):List D:=[uQ l]
theorem vG {l:List (List Nod)} {i:Nat} {q:List Nod} (h:l[i]?=some q):(l.map partC)[i]?=some (partC q):=by rw[List.getElem?_map,h];rfl
def eR:List (List Nod)→Nat
 |[]=>0
 |l::ls=>l.length+eR ls
theorem c7:∀a b:List (List Nod),eR (a++b)=eR a+eR b
 |[],b=>by simp[eR]
 |l::a,b=>by rw[List.cons_append,eR,eR,c7 a b];omega
theorem sQ {s0:St} {x:D} {parts:List (List Nod)} (op:Int) (hx:V.Rows s0 1 x (parts.map partC)) (hv:∀l∈parts,∀n∈l,NdV n) (hp:parts.length≤100000) (hs:eR parts≤100000):∃d,Ev pv 120 [.int .i64 op,x] s0 d s0∧∃l,d=uQ l∧(∀n∈l,NdV n)∧(parts.length=1→l.length≤eR parts)∧l.length≤eR parts+1:=by
 refine Ev.Bx rfl Li rfl rfl rfl ?_;refine zE ?_;obtain⟨hSb,hF,hH⟩:=ri s0;generalize enterSt .ro s0=S at*;have hx:=Arg.of hx hSb;refine zQ 8 ?_;refine qn ?_;simp only[List.length_map];refine zQ 7 ?_
 by_cases h0:parts.length=0
 ·refine qD rfl (by simp[h0]) ?_;refine zQ 2 ?_;refine EvO.go (d:=.agg [.int .i64 1,.nul,.int .i64 0,.int .i64 0,.bool false,.int .i64 0,.int .i64 0]) (st1:=_) rfl rfl rfl (by dsimp only[Fr.put,u1,u2]<;>rfl) ?_;refine qh (s:=7) (vs:=[_]) hH fun k13 st Ke hH=>?_;refine zQ 2 ?_;have hfz:=hU (L:=s0.bs.length) (a:=[]) hH at0 (.inr ⟨rfl,rfl⟩) (fun k hk=>by have jr:k13+1=k+1:=hk;rw[←hSb];omega);refine EvC.ret ⟨rx,_,_,rfl,rl hSb hH (hfz),?_⟩;exact⟨_,rfl,CG (by simp) (by omega),by omega,by simp⟩
 have Oj:(((parts.length:Nat):Int)==0)=false:=by rw[beq_eq_false_iff_ne];omega
 refine qE rfl (by rw[Oj]) ?_;refine zQ 5 ?_
 by_cases h1:parts.length=1
 ·obtain⟨q,hq⟩:∃q,parts[0]?=some q:=⟨parts[0]'(by omega),List.getElem?_eq_getElem _⟩
  have hr1:=vG hq
  have Fl:parts=[q]:=by
   match parts,h1,hq with
   |[a],_,hq=>simp at hq;rw[hq]
  refine qD rfl (by simp[h1]) ?_;refine zQ 3 ?_;refine qr fun My Hw=>?_;refine zQ 3 ?_;refine EvC.ret ⟨rx,_,_,rfl,rl hSb hH (rfl),?_⟩;refine⟨q,rfl,hv q (List.mem_of_getElem? hq),fun _=>?_,?_⟩<;>rw[Fl]<;>simp[eR]
 have TN:(((parts.length:Nat):Int)==1)=false:=by rw[beq_eq_false_iff_ne];omega
 refine qE rfl (by rw[TN]) ?_;refine zQ 5 ?_;refine qn ?_;simp only[List.length_map];refine EvO.go (d:=.agg [.int .i64 op,.nul,.int .i64 0,.int .i64 0,.bool false,.int .i64 0,.int .i64 (parts.length:Nat)]) (st1:=_) rfl rfl rfl (by dsimp only[Fr.put,u1,u2]<;>rfl) ?_;refine qh (s:=7) (vs:=[_]) hH fun k23 st Kd hH=>?_;refine zQ 6 ?_;refine qn ?_;simp only[List.length_map];refine zQ 2 ?_;have hH:Has s0.bs.length S st (.lst (.win k23 0 0 1 7) 7 [[.int .i64 op,.nul,.int .i64 0,.int .i64 0,.bool false,.int .i64 0,.int .i64 (parts.length:Nat)]]::[]):=hH;refine zQ 1 ?_;refine EvC.loop (fun mm fr st=>∃(i:Nat) (od:D) (es:List (List D)) (lo:List Nod),fr.clean=⟨27,[cp fr 0,cp fr 1,cp fr 2,cp fr 3,cp fr 4,od,cp fr 6,cp fr 7,cp fr 8,cp fr 9,cp fr 10,cp fr 11,cp fr 12,cp fr 13,cp fr 14,cp fr 15,cp fr 16,cp fr 17,cp fr 18,cp fr 19,cp fr 20,cp fr 21,cp fr 22,cp fr 23,x,.int .i64 (parts.length:Nat),.int .i64 (i:Nat)],[]⟩∧Has s0.bs.length S st [.lst od 7 es]∧(i+mm=parts.length)∧(es.map (·.map nz)=lo.map aS)∧(∀e∈es,∀d∈e,lP d=true)∧(∀n∈lo,NdV n)∧(lo.length=1+eR (parts.take i))∧(∀k,od.ref=k+1→S.bs.length≤k)) (parts.length) ?_ ?_
 ·refine⟨0,.win k23 0 0 1 7,[[.int .i64 op,.nul,.int .i64 0,.int .i64 0,.bool false,.int .i64 0,.int .i64 (parts.length:Nat)]],[tU op 0 0 false 0 (parts.length:Nat) []],rfl,hH,by omega,rfl,?_,CG (by simp) (by omega),by simp[eR],fun k hk=>by simp only[D.ref] at hk;omega⟩;intro e he d hd;simp only[List.mem_cons,List.not_mem_nil,or_false] at he;subst he;simp only[List.mem_cons,List.not_mem_nil,or_false] at hd
  rcases hd with rfl|rfl|rfl|rfl|rfl|rfl|rfl<;>rfl
 rintro mm fr st ⟨i,od,es,lo,hfr,hH,hi,ov,ht,Gq,hlen,Gm⟩;rw[hfr];clear hfr;generalize cp fr=ee;clear fr;refine zQ 4 ?_
 by_cases hlt:i<parts.length
 ·obtain⟨q,hq⟩:∃q,parts[i]?=some q:=⟨parts[i]'hlt,List.getElem?_eq_getElem _⟩
  have hr1:=vG hq;have LY:=hv q (List.mem_of_getElem? hq);have mB:es.length=lo.length:=by have:=congrArg List.length ov;simpa using this
  have M0:parts.take (i+1)=parts.take i++[q]:=by rw[List.take_add_one,hq];rfl
  have M4:eR (parts.take (i+1))=eR (parts.take i)+q.length:=by rw[M0,c7];simp[eR]
  have Se:eR (parts.take (i+1))≤eR parts:=by
   have:=c7 (parts.take (i+1)) (parts.drop (i+1));rw[List.take_append_drop] at this;omega
  refine qq<|qD rfl (by simp;omega) ?_;refine zQ 5 ?_;refine qr fun Mx Hv=>?_;refine zQ 6 ?_;refine EvO.qF (s:=7) hH rfl (ev rfl) (ev rfl) at0 ((sA LY).rows st) rfl rfl rfl rfl rfl rfl rfl ⟨(Nat.le_of_ble_eq_true rfl),(Nat.le_of_ble_eq_true rfl)⟩ (fun _=>(put_T rfl _)) (by rw[List.length_map];omega) (.inl hF) Gm (fun Rf st Gm hH=>?_);dsimp only[u2] at hH;refine zQ 6 ?_;refine⟨mm-1,by omega,⟨i+1,Rf,es++q.map aS,lo++q,rfl,hH,by omega,by rw[List.map_append,List.map_append,ov,tS LY],?_,?_,by rw[List.length_append,hlen,M4];omega,Gm⟩⟩
  ·intro e he
   rcases List.mem_append.1 he with he|he
   ·exact ht e he
   ·exact px LY e he
  ·intro n hn
   rcases List.mem_append.1 hn with hn|hn
   ·exact Gq n hn
   ·exact LY n hn
 ·refine qq<|qE rfl (by simp;omega) ?_;refine zQ 6 ?_;have hik:i=parts.length:=by omega
  rw[hik,List.take_length] at hlen;refine EvC.ret ⟨rx,_,_,rfl,rl hSb hH (hO hH at0 ov ht (fun k hk=>by have:=Gm k hk;rw[←hSb];exact this) (by decide)),?_⟩;exact⟨_,rfl,Gq,by omega,by omega⟩
end Go.Proofs.YtnleclohocdkaaaGreat
