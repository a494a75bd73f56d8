/-
 The search that goes back: a try that begins ahead of a rune.
-/
import Derived.Test.YtbdnabmmlbiomaaXGQp
import Derived.Test.YtbdnabmmlbiomaaXGUb
import Derived.Test.YtbdnabmmlbiomaaXGPi
import Derived.Test.YtbdnabmmlbiomaaXGYc
set_option maxRecDepth 100000
set_option maxHeartbeats 4000000
set_option linter.unusedSimpArgs false
set_option linter.unusedVariables false
namespace Go.Proofs.Ytbdnabmmlbiomaa
open Go.V Go
def iD (fr:Go.V.Fr) (k:Nat):Go.V.D:=Go.V.nth .bw fr.loc k
def jx (idx:Nat→Nat→Nat) (fv:ft→zX):Nat→List Bool→List ft→Option kM×List Bool
 |0,arr,_=>(none,arr)
 |_+1,arr,[]=>(none,arr)
 |f+1,arr,t::cg=>match arr[idx t.pc t.at_]? with
  |some false=>match fv t with
   | .found=>(some t.c,arr.set (idx t.pc t.at_) true)
   | .more l=>jx idx fv f (arr.set (idx t.pc t.at_) true) (l++cg)
  |_=>jx idx fv f arr cg
theorem tL (code:List aK) (gs:List (Nat×Nat)) (pl:List Int) (t:ft):∀l,bK code gs pl t=.more l→l.length≤2:=by
 intro l h;unfold bK at h
 split at h
 ·cases h;simp
 ·repeat' split at h
  all_goals(first|(cases h;done)|(cases h;simp;done)|(cases h;split<;>simp))
def xQ (p:Pg) (gs:List (Nat×Nat)) (t:ft):Prop:=t.pc<p.code.length∧t.at_≤gs.length
theorem xu {p:Pg} {gs:List (Nat×Nat)} {pl:List Int} (hR:bW p) {t:ft} (ht:xQ p gs t):∀l,bK p.code gs pl t=.more l→∀u∈l,xQ p gs u:=by
 intro l h u hu;obtain⟨h1,h2⟩:=ht
 obtain⟨i,hi⟩:∃i,p.code[t.pc]?=some i:=⟨p.code[t.pc]'h1,List.getElem?_eq_getElem _⟩
 have hc:=d_ (hR.sh t.pc i hi);unfold bK at h;rw[hi] at h;simp only at h
 split at h
 ·cases h
 ·split at h
  ·cases h;simp only[List.mem_cons,List.not_mem_nil,or_false] at hu
   rcases hu with rfl|rfl
   ·exact⟨by show i.x.toNat<_;omega,h2⟩
   ·exact⟨by show i.y.toNat<_;omega,h2⟩
  ·split at h
   ·cases h;simp only[List.mem_cons,List.not_mem_nil,or_false] at hu;subst hu;exact⟨by show i.x.toNat<_;omega,h2⟩
   ·split at h
    ·cases h;simp only[List.mem_cons,List.not_mem_nil,or_false] at hu;subst hu;exact⟨by show t.pc+1<_;omega,h2⟩
    ·split at h
     ·cases h
      split at hu
      ·simp only[List.mem_cons,List.not_mem_nil,or_false] at hu;subst hu;exact⟨by show t.pc+1<_;omega,h2⟩
      ·cases hu
     ·split at h
      ·cases h
       split at hu
       ·simp only[List.mem_cons,List.not_mem_nil,or_false] at hu;subst hu;exact⟨by show t.pc+1<_;omega,h2⟩
       ·cases hu
      ·cases h
       split at hu
       ·rename_i h8;simp only[List.mem_cons,List.not_mem_nil,or_false] at hu;subst hu;exact⟨by show t.pc+1<_;omega,by show t.at_+1≤_;omega⟩
       ·cases hu
theorem Af (v:ft) (r:List ft):((v::r).reverse.map bB)[r.length]?=some (bB v):=by
 rw[List.getElem?_map,List.reverse_cons,List.getElem?_append_right (by simp)];simp
theorem Cw (v:ft) (r:List ft):(((v::r).reverse.map bB).take r.length).drop 0=r.reverse.map bB:=by
 rw[List.reverse_cons,List.map_append,List.drop_zero,List.take_left' (by simp)]
def Fe (r:Option kM):D:=match r with
 |some c=>.tup [.agg (ay c),.bool true]
 |none=>.tup [.agg (ay aH),.bool false]
def j0 (n:Nat) (pc at_:Nat):Nat:=at_*n+pc
theorem BH {N:Nat} {S st:St} {H:List bP} {k:Nat} {p:Pg} {gs:List (Nat×Nat)} {bu gK fz:D} {aW:List Int} {ja:List (List D)} {arr:List Bool} {start i:Nat} (hF:S.flr≤N) (hp:p.ok) (hR:bW p) (o_:gs.length≤1048576) (fF:aW.length=gs.length+1) (hsz:(gs.length+1)*p.code.length≤134217728) (hal:arr.length=(gs.length+1)*p.code.length) (c8:start<p.code.length) (hi:i≤gs.length)
  (hH:Has N S st (.box k (.mem 0 false [p.cd,p.sd,cu gs,bu,gK,fz])::.aL fz 12 ja::.aL bu 1 (aW.map aq)::.aL gK 1 (arr.map br)::H)):
  ∃d ah,Ev pv 34 [.ptr k 0 0,.int .i64 (start:Nat),.int .i64 (i:Nat)] st d ah∧∃A_ J_,d=Fe (jx (j0 p.code.length) (bK p.code gs aW) (3*arr.length+1) arr [⟨start,i,aR⟩]).1∧
   Has N S ah (.box k (.mem 0 false [p.cd,p.sd,cu gs,bu,gK,A_])::.aL A_ 12 J_::.aL bu 1 (aW.map aq)::.aL gK 1 ((jx (j0 p.code.length) (bK p.code gs aW) (3*arr.length+1) arr [⟨start,i,aR⟩]).2.map br)::H):=by
 have hlen:=hp.cl
 obtain⟨R,K2⟩:∃R,jx (j0 p.code.length) (bK p.code gs aW) (3*arr.length+1) arr [⟨start,i,aR⟩]=R:=⟨_,rfl⟩
 rw[K2];have Wn:=List.count_le_length (a:=false) (l:=arr);refine Ev.jD rfl RU rfl rfl rfl ?_;dsimp only[u3,u4,List.length,Nat.reduceSub,Nat.reduceAdd,w1,w2];change af _ _ _ _ st _;refine qq<|qj fun K hK=>qa hH fun k6 st Cm hH=>?_;refine qm ?_;refine qe hK<|qq<|qj fun K hK=>qm ?_;refine qm ?_;refine qg ?_;refine qp (o:=5) ?_;refine ql hH b4 ?_;refine ab.sD hH rfl (ev rfl) (by exact cU) rfl rfl (iZ (n:=0) (by omega)) ⟨by omega,by omega⟩ (fun _=>(ae rfl _)) (fun W9 hH=>?_);dsimp only[u1,u2,List.take_zero] at hH;rw[List.drop_nil] at hH;refine qm ?_;refine qm ?_;refine qv (Ev.jk rfl rfl) ?_;refine ab.go (d:=.agg (bB ⟨start,i,aR⟩)) (st1:=_) rfl rfl rfl (ae rfl _) ?_;refine qh (s:=12) (vs:=[_]) hH fun k22 st V6 hH=>?_;dsimp only[u2,u1,u3,u4,setMany,u5,u6,D.cells,Nat.reduceAdd,aG,aq,br,bB,ay,aR,aH] at hH;refine ab.bZ (s:=12) hH rfl (ev rfl) (ev rfl) (by exact eF) (by exact hH.rows (by exact aB)) rfl rfl rfl rfl rfl rfl rfl ⟨(Nat.le_of_ble_eq_true rfl),(Nat.le_of_ble_eq_true rfl)⟩ (fun _=>(ae rfl _)) (by simp only[List.length_cons,List.length_nil,List.length_map]<;>omega) (by exact .inl hF) (fun Xe st hH=>?_);dsimp only[u2,u1,u3,u4,setMany,u5,u6,D.cells,Nat.reduceAdd,aG,aq,br,bB,ay,aR,aH] at hH;refine qg ?_;refine qp (o:=5) ?_;refine qT hH cU (fun st hH=>?_) (gG:=hH.dV eF);dsimp only[u2,u1,u3,u4,setMany,u5,u6,D.cells,Nat.reduceAdd,aG,aq,br,bB,ay,aR,aH] at hH;refine qe hK<|qq<|af.block<|af.loop (fun mm fr st=>∃(ld:D) (ar:List Bool) (cg:List ft),fr.clean=⟨12,[.ptr k 0 0,iD fr 1,iD fr 2,iD fr 3,iD fr 4,iD fr 5,.ptr k6 0 0,.bool false,iD fr 8,iD fr 9,iD fr 10,iD fr 11],[]⟩∧Has N S st (.box k6 (.mem 0 false (ay aH))::.box k (.mem 0 false [p.cd,p.sd,cu gs,bu,gK,ld])::.aL ld 12 (cg.reverse.map bB)::.aL bu 1 (aW.map aq)::.aL gK 1 (ar.map br)::H)∧(jx (j0 p.code.length) (bK p.code gs aW) mm ar cg=R)∧(3*ar.count false+cg.length≤mm)∧(ar.length=(gs.length+1)*p.code.length)∧(∀v∈cg,xQ p gs v)∧(mm≤3*arr.length+1)) (3*arr.length+1) ?_ ?_
 ·exact⟨_,arr,[⟨start,i,aR⟩],rfl,(by exact hH.drop 1),K2,(by simp only[List.length_cons,List.length_nil];omega),hal,(by intro v hv;simp only[List.mem_cons,List.not_mem_nil,or_false] at hv;subst hv;exact⟨c8,hi⟩),Nat.le_refl _⟩
 rintro mm fr st ⟨ld,ar,cg,hfr,hH,hd,hm,hal,hsk,vA⟩;rw[hfr];clear hfr;generalize iD fr=ee;clear fr
 rcases cg with _|⟨v,cg⟩
 ·refine qq<|qq<|qj fun K hK=>qm ?_;refine qg ?_;refine qp (o:=5) ?_;refine ql hH b4 ?_;refine qn ?_ (hR:=hH.rows cU);simp only[List.length_map,List.length_nil,List.length_reverse];refine qg ?_;refine qe hK<|af.cond (v:=false) (by dsimp only[Fr.ev,Fr.get,nth,V.look];rfl) (fun h=>by cases h) (fun _=>?_);refine af.exit<|qq<|qj fun K hK=>ab.go (d:=.agg (ay aH)) (st1:=_) rfl rfl rfl (ae rfl _) ?_;refine qS hH aB fun st hH=>?_;dsimp only[u2,u1,u3,u4,setMany,u5,u6,D.cells,Nat.reduceAdd,aG,aq,br,bB,ay,aR,aH] at hH;refine qm ?_;refine qe hK ?_;have ek:R=(none,ar):=by rw[←hd];cases mm<;>rfl
  refine af.ret ⟨rx,_,_,_,hH.cN rfl aB rfl rfl,rfl,?_⟩;rw[ek];exact⟨_,_,rfl,hH.drop 1⟩
 ·have hv:=hsk v (List.mem_cons_self ..);obtain⟨zQ,x6⟩:=hv;have c8:∀w∈cg,xQ p gs w:=fun w hw=>hsk w (List.mem_cons_of_mem _ hw);simp only[List.length_cons] at hm
  obtain⟨mm,rfl⟩:∃m',mm=m'+1:=⟨mm-1,by omega⟩
  have hbd:v.at_*p.code.length+v.pc<ar.length:=by
   have h1:(v.at_+1)*p.code.length≤(gs.length+1)*p.code.length:=Nat.mul_le_mul_right _ (by omega);rw[Nat.add_mul,Nat.one_mul] at h1;omega
  obtain⟨b,hb⟩:∃b,ar[j0 p.code.length v.pc v.at_]?=some b:=⟨ar[j0 p.code.length v.pc v.at_]'hbd,List.getElem?_eq_getElem _⟩
  obtain⟨ii,hii⟩:∃x,p.code[v.pc]?=some x:=⟨p.code[v.pc]'zQ,List.getElem?_eq_getElem _⟩
  have Ph:=fun l=>xu (pl:=aW) hR (t:=v) ⟨zQ,x6⟩ l;have Pj:=tL p.code gs aW v;have hO:=Af v cg;have mP:=pH hb
  obtain⟨m,pO⟩:∃m,v.at_*p.code.length=m:=⟨_,rfl⟩
  have Oj:j0 p.code.length v.pc v.at_=m+v.pc:=by unfold j0;rw[pO]
  rw[pO] at hbd;rw[Oj] at mP;have Wp:=hp.c.arg N S;refine qq<|qq<|qj fun K hK=>qm ?_;refine qg ?_;refine qp (o:=5) ?_;refine ql hH b4 ?_;refine qn ?_ (hR:=hH.rows cU);simp only[List.length_map,List.length_cons,List.length_reverse];refine qg ?_;refine qe hK<|qD rfl (by simp) ?_;refine af.skip<|af.block<|qq<|qj fun K hK=>qm ?_;refine qg ?_;refine qp (o:=5) ?_;refine ql hH b4 ?_;refine qm ?_;refine qg ?_;refine qp (o:=5) ?_;refine ql hH b4 ?_;refine qn ?_ (hR:=hH.rows cU);simp only[List.length_map,List.length_cons,List.length_reverse];refine ab.lA (z:=((cg.length:Nat):Int)) rfl (ev rfl) (ev rfl) (by(try simp only[List.length_reverse,List.length_cons,List.length_nil,List.length_append,List.length_map,List.length_set]);rw[wrap_i64 (by omega) (by omega)]<;>omega) (ae rfl _) ?_;refine qi hH cU fun Uj PS=>?_;refine ab.oM hH rfl (ev rfl) (by assumption) (by exact cU) (by assumption) rfl (ae rfl _) ?_;refine qa hH fun k8 st Nd hH=>?_;dsimp only[u2,u1,u3,u4,setMany,u5,u6,D.cells,Nat.reduceAdd,aG,aq,br,bB,ay,aR,aH] at hH;refine qS hH aB fun st hH=>?_;dsimp only[u2,u1,u3,u4,setMany,u5,u6,D.cells,Nat.reduceAdd,aG,aq,br,bB,ay,aR,aH] at hH;refine qe hK<|qq<|qj fun K hK=>qm ?_;refine qm ?_;refine qg ?_;refine qp (o:=5) ?_;refine ql hH cU ?_;refine qm ?_;refine qg ?_;refine qp (o:=5) ?_;refine ql hH cU ?_;refine qn ?_ (hR:=hH.rows eF);simp only[List.length_map,List.length_cons,List.length_reverse];refine ab.lA (z:=((cg.length:Nat):Int)) rfl (ev rfl) (ev rfl) (by(try simp only[List.length_reverse,List.length_cons,List.length_nil,List.length_append,List.length_map,List.length_set]);rw[wrap_i64 (by omega) (by omega)]<;>omega) (ae rfl _) ?_;refine ab.sD hH rfl (ev rfl) (by exact eF) rfl rfl (iZ (by simp only[List.length_map,List.length_reverse,List.length_cons,List.length_append,List.length_nil,List.length_take,List.length_drop,List.length_set,List.length_replicate];omega)) ⟨(by omega),(by simp only[List.length_map,List.length_reverse,List.length_cons,List.length_append,List.length_nil,List.length_take,List.length_drop,List.length_set,List.length_replicate];omega)⟩ (fun _=>(ae rfl _)) (fun Sr hH=>?_);refine qg ?_;refine qp (o:=5) ?_;refine qT hH cU (fun st hH=>?_) (gG:=hH.dV eF);dsimp only[u2,u1,u3,u4,setMany,u5,u6,D.cells,Nat.reduceAdd,aG,aq,br,bB,ay,aR,aH] at hH;refine qe hK ?_;rw[Cw] at hH;refine qq<|qj fun K hK=>qp (o:=1) ?_;refine ql hH aB ?_;refine qm ?_;refine qg ?_;refine qp (o:=0) ?_;refine qp (o:=0) ?_;refine ql hH cU ?_;refine qn ?_;simp only[List.length_map];refine ab.sI (z:=((m:Nat):Int)) rfl (ev rfl) (ev rfl) (by rw[←Int.natCast_mul,pO];exact dC (by simp only[jU];omega)) (ae rfl _) ?_;refine qp (o:=0) ?_;refine ql hH aB ?_;refine ab.N4 rfl (ev rfl) (ev rfl) (by omega) (ae rfl _) ?_;refine qm ?_;refine qe hK<|qq<|qq<|qj fun K hK=>qm ?_;refine qg ?_;refine qp (o:=4) ?_;refine ql hH cU ?_;refine qm ?_;refine qi hH l7 fun Ub PI=>?_;refine qo hH l7 ?_;refine qe hK ?_
  cases b with
  |true=>
   refine qB ?_;refine af.exit ?_;simp only[jx,hb] at hd;exact⟨mm,by omega,⟨_,ar,cg,rfl,(hH.drop 1),hd,by omega,hal,c8,by omega⟩⟩
  |false=>
   have wG:=count_set hb;have gi:(ar.set (j0 p.code.length v.pc v.at_) true).map br=(ar.map br).set (m+v.pc) [.bool true]:=by rw[List.map_set,Oj];rfl
   simp only[jx,hb] at hd;refine qC ?_;refine af.skip<|qq<|qj fun K hK=>qm ?_;refine qg ?_;refine qp (o:=4) ?_;refine ql hH cU ?_;refine qm ?_;refine qi hH l7 fun T9 PF=>?_;refine ab.kX hH rfl (ev rfl) (ev rfl) (by assumption) rfl rfl (by exact l7) (by assumption) (Nat.le_of_ble_eq_true rfl) (by exact .inl hF) (fun st hH=>?_);dsimp only[u2,u1,u3,u4,setMany,u5,u6,D.cells,Nat.reduceAdd,aG,aq,br,bB,ay,aR,aH] at hH;refine qe hK ?_
   have WG:Has N S st (.box k (.mem 0 false [p.cd,p.sd,cu gs,bu,gK,Sr])::.aL Sr 12 (cg.reverse.map bB)::.aL bu 1 (aW.map aq)::.box k6 (.mem 0 false (ay aH))::.aL gK 1 ((ar.map br).set (m+v.pc) [.bool true])::H):=
    (((hH.drop 1).front (j:=3) rfl).front (j:=3) rfl).front (j:=3) rfl
   obtain⟨d,st1,aO,j5⟩:=CB hF hp hii (hR.sh v.pc ii hii) o_ x6 fF (by omega) WG;unfold fg at j5
   cases hS:bK p.code gs aW v with
   |found=>
    rw[hS] at j5 hd;simp only at j5 hd;obtain⟨rfl,OV,K3⟩:=j5;have K3:=K3.front (j:=3) rfl;refine qq<|qj fun K hK=>qm ?_;refine ab.bf (m:=12) hH rfl (ev rfl) (by exact aB) (by dsimp only[List.drop_succ_cons,List.drop_zero,List.take_succ_cons,List.take_zero,aG,aq,br,bB,ay,aR,aH]<;>rfl) rfl rfl (ae rfl _) ?_;refine qv (aO) ?_;refine qm ?_;refine qg ?_;refine qg ?_;refine ab.pk K3 rfl rfl (fun _=>by dsimp only[Fr.put,u1,u2]<;>rfl) (fun k10 st Np hH=>?_);dsimp only[ay,aH] at hH;refine qT hH aB fun st hH=>?_;dsimp only[u2,u1,u3,u4,setMany,u5,u6,D.cells,Nat.reduceAdd,aG,aq,br,bB,ay,aR,aH] at hH;refine qm ?_;refine qe hK<|qq<|qj fun K hK=>qm ?_;refine qe hK<|qB ?_;refine qq<|qj fun K hK=>?_;refine ab.bf (m:=10) hH rfl (ev rfl) (by exact aB) (by dsimp only[List.drop_succ_cons,List.drop_zero,List.take_succ_cons,List.take_zero,aG,aq,br,bB,ay,aR,aH]<;>rfl) rfl rfl (ae rfl _) ?_;refine qS hH b4 fun st hH=>?_;dsimp only[u2,u1,u3,u4,setMany,u5,u6,D.cells,Nat.reduceAdd,aG,aq,br,bB,ay,aR,aH] at hH;refine qm ?_;refine qe hK<|af.ret ⟨rx,_,_,_,hH.cN rfl b4 rfl rfl,rfl,?_⟩;rw[←hd];exact⟨_,_,rfl,(by rw[gi];exact hH.drop 2)⟩
   |more l=>
    rw[hS] at j5 hd;simp only at j5 hd;obtain⟨rfl,OV,K3⟩:=j5;have K3:=K3.front (j:=3) rfl;have o8:=Pj l hS;refine qq<|qj fun K hK=>qm ?_;refine ab.bf (m:=12) hH rfl (ev rfl) (by exact aB) (by dsimp only[List.drop_succ_cons,List.drop_zero,List.take_succ_cons,List.take_zero,aG,aq,br,bB,ay,aR,aH]<;>rfl) rfl rfl (ae rfl _) ?_;refine qv (aO) ?_;refine qm ?_;refine qg ?_;refine qg ?_;refine ab.pk K3 rfl rfl (fun _=>by dsimp only[Fr.put,u1,u2]<;>rfl) (fun k10 st Np hH=>?_);dsimp only[ay,aH] at hH;refine qT hH aB fun st hH=>?_;dsimp only[u2,u1,u3,u4,setMany,u5,u6,D.cells,Nat.reduceAdd,aG,aq,br,bB,ay,aR,aH] at hH;refine qm ?_;refine qe hK<|qq<|qj fun K hK=>qm ?_;refine qe hK<|qC ?_;refine af.skip ?_;refine⟨mm,by omega,⟨_,ar.set (j0 p.code.length v.pc v.at_) true,l++cg,rfl,(by rw[gi];exact hH.drop 1),hd,by simp only[List.length_append];omega,by rw[List.length_set];exact hal,?_,by omega⟩⟩;intro w hw
    rcases List.mem_append.1 hw with hw|hw
    ·exact Ph l hS w hw
    ·exact c8 w hw
def ai (fr:Go.V.Fr) (k:Nat):Go.V.D:=Go.V.nth .bw fr.loc k
def tA:Int→List (Nat×Nat)→List Int
 |a,[]=>[a]
 |a,g::r=>a::tA (a+(g.2:Nat)) r
theorem xI:∀(l:List (Nat×Nat)) (a:Int),(tA a l).length=l.length+1
 |[],_=>rfl
 |g::r,a=>by simp only[tA,List.length_cons,xI r]
def nK (idx:Nat→Nat→Nat) (fv:ft→zX) (fuel start:Nat):Nat→Nat→List Bool→Option kM
 |0,_,_=>none
 |m+1,i,arr=>match(jx idx fv fuel arr [⟨start,i,aR⟩]).1 with
  |some c=>some c
  |none=>nK idx fv fuel start m (i+1) (jx idx fv fuel arr [⟨start,i,aR⟩]).2
noncomputable def eK (p:Pg) (kV:Int) (b:List UInt8):Option kM:=
 if dec (bW p)=true∧0≤kV∧kV<(p.az.length:Int) then
  nK (j0 p.code.length) (bK p.code (eX b) (tA 0 (eX b))) (3*(((eX b).length+1)*p.code.length)+1) (p.az.getD kV.toNat 0).toNat ((eX b).length+1) 0 (List.replicate (((eX b).length+1)*p.code.length) false)
 else none
theorem lT (idx:Nat→Nat→Nat) (fv:ft→zX):∀(f:Nat) (arr:List Bool) (cg:List ft),(jx idx fv f arr cg).2.length=arr.length
 |0,arr,_=>by simp[jx]
 |f+1,arr,[]=>by simp[jx]
 |f+1,arr,t::cg=>by
  unfold jx
  split
  ·split
   ·simp
   ·rw[lT idx fv f,List.length_set]
  ·exact lT idx fv f arr cg
theorem BJ {s0:St} {p:Pg} {b:List UInt8} (hp:p.ok) (kV:Int) (hbl:b.length≤1048576) (hsz:((eX b).length+1)*p.code.length≤134217728):
  Ev pv 17 [p.d,.int .i64 kV,.str b] s0 (Fe (eK p kV b)) s0:=by
 obtain⟨o_,Qs⟩:=l8 _ b (Nat.le_refl _);have aO:∀(st:St) (x:D),Bytes st x b→Ev pv 11 [x] st (cu (eX b)) st:=fun st x h=>xf h hbl;unfold eK;generalize eX b=gs at*;refine Ev.pW rfl R4 rfl rfl rfl ?_;dsimp only[u3,u4,List.length,Nat.reduceSub,Nat.reduceAdd,w1,w2];obtain⟨cM,hF,hH⟩:=ri s0;generalize ak .ro s0=S at*;have hc:=hp.c.arg s0.bs.length S;have hs:=hp.s.arg s0.bs.length S;have hlen:=hp.cl;have jb:=hp.sl;unfold Pg.d;refine qq<|qj fun K hK=>qb hH fun k3 st Nj hH=>?_;refine qa hH fun k6 st Cm hH=>?_;refine qm ?_;refine qe hK<|qq<|qq<|af.ln 28 (.bool ((!dec (bW p)||decide (kV<0))||decide (kV≥p.az.length))) [15,16,17,18,19,20,21,22,23,24,25,26,27] ?_ (fun ff tmp=>?_)
 ·refine ab.bf (m:=2) hH rfl (ev rfl) (by exact b4) (by dsimp only[List.drop_succ_cons,List.drop_zero,List.take_succ_cons,List.take_zero,aG,aq,br,bB,ay,aR,aH]<;>rfl) rfl rfl (by dsimp only[Fr.put,u1,u2]<;>rfl) ?_;refine qv (kQ (p:=p) hp) ?_;refine qg ?_;refine qm ?_;refine ab.two 18 rfl (fun bD=>?_) (fun bD=>?_)
  ·refine qs ?_ (hg:=wn bD);refine qs ?_ (hg:=wn bD);refine qt bD ?_;refine qm ?_;refine qs ?_;refine qs ?_;refine qs ?_;refine qs ?_;refine qs ?_;refine qg ?_;refine ab.nil (aY ?_);dsimp only[aM,List.foldl,nth,u2,u1];dsimp only[Fr.aF,Fr.put,Fr.clean,Fr.ev,Fr.get,nth,look,u1,u2,v1,v2,v4]
   all_goals(simp[bD];done)
  ·refine qm ?_ (hg:=wi bD);refine qg ?_ (hg:=wi bD);refine qu bD ?_;refine qm ?_;refine ab.two 22 rfl (fun ew=>?_) (fun ew=>?_)
   ·refine qs ?_ (hg:=wn ew);refine qs ?_ (hg:=wn ew);refine qs ?_ (hg:=wn ew);refine qs ?_ (hg:=wn ew);refine qs ?_ (hg:=wn ew);refine qt ew ?_;refine ab.nil (aY ?_);dsimp only[aM,List.foldl,nth,u2,u1];dsimp only[Fr.aF,Fr.put,Fr.clean,Fr.ev,Fr.get,nth,look,u1,u2,v1,v2,v4]
    all_goals(simp[bD,ew];done)
   ·refine qm ?_ (hg:=wi ew);refine qp (o:=1) ?_ (hg:=wi ew);refine ql hH b4 ?_ (hg:=wi ew);refine qn ?_ (hg:=wi ew);simp only[List.length_map];refine qg ?_ (hg:=wi ew);refine qu ew ?_;refine ab.nil (aY ?_);dsimp only[aM,List.foldl,nth,u2,u1];dsimp only[Fr.aF,Fr.put,Fr.clean,Fr.ev,Fr.get,nth,look,u1,u2,v1,v2,v4]
    all_goals(simp[bD,ew];done)
 dsimp only[aM,List.foldl,nth,u2,u1];generalize ff 15=W5;generalize ff 16=W4;generalize ff 17=X9;generalize ff 18=W3;generalize ff 19=W2;generalize ff 20=W0;generalize ff 21=WZ;generalize ff 22=WY;generalize ff 23=WX;generalize ff 24=WW;generalize ff 25=WV;generalize ff 26=WU;generalize ff 27=WT;refine qc (fun h0=>?_) (fun h0=>?_)<;>try simp only[cs] at h0
 ·have hn:¬(dec (bW p)=true∧0≤kV∧kV<(p.az.length:Int)):=by
   rintro⟨h1,h2,h3⟩;rw[h1] at h0;simp at h0;omega
  rw[if_neg hn];refine qq<|qj fun K hK=>?_;refine ab.go (d:=.agg (ay aH)) (st1:=_) rfl rfl rfl (by dsimp only[Fr.put,u1,u2]<;>rfl) ?_;refine qS hH aB fun st hH=>?_;dsimp only[u2,u1,u3,u4,setMany,u5,u6,D.cells,Nat.reduceAdd,aG,aq,br,bB,ay,aR,aH] at hH;refine qm ?_;refine qe hK<|af.ret ⟨rx,_,hH.cN rfl aB rfl rfl,rl cM hH rfl⟩
 ·have h1:bW p∧0≤kV∧kV<(p.az.length:Int):=by
   simp only[Bool.or_eq_false_iff,Bool.not_eq_false',decide_eq_false_iff_not] at h0;exact⟨BR h0.1.1,by omega,by omega⟩
  obtain⟨hR,Ns,Qp⟩:=h1;rw[if_pos ⟨lU hR,Ns,Qp⟩];obtain⟨ru,rfl⟩:=Int.eq_ofNat_of_zero_le Ns
  obtain⟨start,nE⟩:∃v,p.az[ru]?=some v:=⟨p.az[ru]'(by omega),List.getElem?_eq_getElem _⟩
  have c8:=hR.st start (List.mem_of_getElem? nE);obtain⟨sn,rfl⟩:=Int.eq_ofNat_of_zero_le c8.1
  have wD:(p.az.getD ((ru:Nat):Int).toNat 0).toNat=sn:=by
   rw[Int.toNat_natCast,List.getD_eq_getElem?_getD,nE];rfl
  rw[wD];have MR:=ei nE;have Bs:Arg s0.bs.length S 2 (cu gs) (gs.map a_):=Arg.pure (fun st=>cV st gs);refine af.skip<|qq<|qj fun K hK=>?_;refine ab.bf (m:=2) hH rfl (ev rfl) (by exact b4) (by dsimp only[List.drop_succ_cons,List.drop_zero,List.take_succ_cons,List.take_zero,aG,aq,br,bB,ay,aR,aH]<;>rfl) rfl rfl (by dsimp only[Fr.put,u1,u2]<;>rfl) ?_;refine qm ?_;refine ab.wI hH rfl rfl rfl rfl rfl (by omega) (fun _=>by dsimp only[Fr.put,u1,u2]<;>rfl) (fun k32 st V1 hH=>?_);refine qv ((aO _ _ (hH.rows aB))) ?_;refine ab.go (d:=.agg [p.cd,p.sd,cu gs,.nul,.nul,.nul]) (st1:=_) rfl rfl rfl (by dsimp only[Fr.put,u1,u2]<;>rfl) ?_;refine qb hH fun k35 st Qi hH=>?_;refine qm ?_;refine qe hK<|qq<|qj fun K hK=>qm ?_;refine qe hK<|qq<|qq<|qj fun K hK=>qm ?_;refine qg ?_;refine qp (o:=2) ?_;refine ql hH aB ?_;refine qn ?_;simp only[List.length_map];refine qm ?_;refine qe hK<|af.block<|af.loop (fun mm fr st=>∃(i:Nat) (a:Int) (done:List Int) (pd:D),fr.clean=⟨89,[ai fr 0,.int .i64 (ru:Nat),ai fr 2,.ptr k3 0 0,ai fr 4,ai fr 5,.ptr k6 0 0,.bool false,.ptr k35 0 0,.int .i64 a,ai fr 10,ai fr 11,ai fr 12,ai fr 13,ai fr 14,ai fr 15,ai fr 16,ai fr 17,ai fr 18,ai fr 19,ai fr 20,ai fr 21,ai fr 22,ai fr 23,ai fr 24,ai fr 25,ai fr 26,ai fr 27,ai fr 28,ai fr 29,ai fr 30,ai fr 31,ai fr 32,ai fr 33,ai fr 34,ai fr 35,ai fr 36,ai fr 37,ai fr 38,cu gs,.int .i64 (gs.length:Nat),.int .i64 (i:Nat),ai fr 42,ai fr 43,ai fr 44,ai fr 45,ai fr 46,ai fr 47,ai fr 48,ai fr 49,ai fr 50,ai fr 51,ai fr 52,ai fr 53,ai fr 54,ai fr 55,ai fr 56,ai fr 57,ai fr 58,ai fr 59,ai fr 60,ai fr 61,ai fr 62,ai fr 63,ai fr 64,ai fr 65,ai fr 66,ai fr 67,ai fr 68,ai fr 69,ai fr 70,ai fr 71,ai fr 72,ai fr 73,ai fr 74,ai fr 75,ai fr 76,ai fr 77,ai fr 78,ai fr 79,ai fr 80,ai fr 81,ai fr 82,ai fr 83,ai fr 84,ai fr 85,ai fr 86,ai fr 87,ai fr 88],[]⟩∧Has s0.bs.length S st [.box k35 (.mem 0 false [p.cd,p.sd,cu gs,pd,.nul,.nul]),.aL pd 1 (done.map aq),.box k6 (.mem 0 false (ay aH)),.box k3 (.mem 0 false [p.cd,p.sd])]∧(i+mm=gs.length)∧(done++tA a (gs.drop i)=tA 0 gs)∧(0≤a)∧(a≤1048576*i)∧(done.length=i)) (gs.length) ?_ ?_
  ·refine⟨0,0,[],.nul,rfl,?_,by omega,rfl,Int.le_refl _,(by omega),rfl⟩;exact(((hH.drop 0).erase 1).eB 1).front (j:=1) rfl
  rintro mm fr st ⟨i,a,done,pd,hfr,hH,hi,KQ,XU,XT,Ol⟩;rw[hfr];clear hfr;generalize ai fr=ee;clear fr;refine qq<|qj fun K hK=>qg ?_;refine qe hK<|qq ?_;refine af.cond (by rfl) (fun h3=>?_) (fun h3=>?_)<;>try simp only[decide_eq_true_eq,decide_eq_false_iff_not] at h3
  ·refine af.skip ?_
   obtain⟨g,hg⟩:∃g,gs[i]?=some g:=⟨gs[i]'(by omega),List.getElem?_eq_getElem _⟩
   have bh:=Qs g (List.mem_of_getElem? hg);have hO:(gs.map a_)[i]?=some (a_ g):=by rw[List.getElem?_map,hg];rfl
   have p_:gs.drop i=g::gs.drop (i+1):=by
    have:=List.drop_eq_getElem_cons (l:=gs) (i:=i) (by omega);rw[this];congr 1;rw[List.getElem?_eq_getElem (by omega)] at hg;exact Option.some.inj hg
   refine qq<|af.block<|qq<|qj fun K hK=>qr fun XA Vo=>?_;refine ab.eA rfl (ev rfl) (by assumption) rfl (by dsimp only[Fr.put,u1,u2]<;>rfl) ?_;refine qa hH fun k11 st KL hH=>?_;dsimp only[u2,u1,u3,u4,setMany,u5,u6,D.cells,Nat.reduceAdd,aG,aq,br,bB,ay,aR,aH] at hH;refine qS hH aB fun st hH=>?_;dsimp only[u2,u1,u3,u4,setMany,u5,u6,D.cells,Nat.reduceAdd,aG,aq,br,bB,ay,aR,aH] at hH;refine qe hK<|qq<|qj fun K hK=>qm ?_;refine qm ?_;refine qg ?_;refine qp (o:=3) ?_;refine ql hH b4 ?_;refine qm ?_;refine qh (s:=1) (vs:=[_]) hH fun k51 st VT hH=>?_;refine qP hH eF (hH.rows aB) fun TR st hH=>?_;dsimp only[u2,u1,u3,u4,setMany,u5,u6,D.cells,Nat.reduceAdd,aG,aq,br,bB,ay,aR,aH] at hH;refine qg ?_;refine qp (o:=3) ?_;refine qT hH cU (fun st hH=>?_) (gG:=hH.dV eF);dsimp only[u2,u1,u3,u4,setMany,u5,u6,D.cells,Nat.reduceAdd,aG,aq,br,bB,ay,aR,aH] at hH;refine qe hK<|qj fun K hK=>qm ?_;refine qp (o:=1) ?_;refine ql hH b4 ?_;refine qA ?_;refine qm ?_;refine qe hK<|qj fun K hK=>qA ?_;refine qm ?_;refine qe hK ?_;exact⟨mm-1,by omega,⟨i+1,a+(g.2:Nat),done++[a],TR,rfl,(by rw[List.map_append];exact hH.drop 2),by omega,by rw[←KQ,p_];simp[tA],by omega,by omega,by simp[Ol]⟩⟩
  ·refine af.exit ?_;have p_:gs.drop i=[]:=List.drop_eq_nil_of_le (by omega);rw[p_] at KQ;simp only[tA] at KQ;have fF:=xI gs 0;refine qq<|qj fun K hK=>qm ?_;refine qm ?_;refine qg ?_;refine qp (o:=3) ?_;refine ql hH aB ?_;refine qm ?_;refine qh (s:=1) (vs:=[_]) hH fun k66 st Ng hH=>?_;dsimp only[u2,u1,u3,u4,setMany,u5,u6,D.cells,Nat.reduceAdd,aG,aq,br,bB,ay,aR,aH] at hH;refine qP hH cU (hH.rows aB) fun N9 st hH=>?_;dsimp only[u2,u1,u3,u4,setMany,u5,u6,D.cells,Nat.reduceAdd,aG,aq,br,bB,ay,aR,aH] at hH;refine qg ?_;refine qp (o:=3) ?_;refine qT hH b4 (fun st hH=>?_) (gG:=hH.dV cU);dsimp only[u2,u1,u3,u4,setMany,u5,u6,D.cells,Nat.reduceAdd,aG,aq,br,bB,ay,aR,aH] at hH;refine qe hK ?_
   have hH:Has s0.bs.length S st [.box k35 (.mem 0 false [p.cd,p.sd,cu gs,N9,.nul,.nul]),.aL N9 1 ((tA 0 gs).map aq),.box k6 (.mem 0 false (ay aH)),.box k3 (.mem 0 false [p.cd,p.sd])]:=by
    rw[←KQ,List.map_append];exact hH.drop 1
   rw[←fF] at hsz⊢;generalize tA 0 gs=aW at*;refine qq<|qj fun K hK=>qm ?_;refine qm ?_;refine qg ?_;refine qp (o:=3) ?_;refine ql hH aB ?_;refine qn ?_ (hR:=hH.rows b4);simp only[List.length_map];refine qp (o:=0) ?_;refine ql hH eF ?_;refine qn ?_;simp only[List.length_map];refine ab.sI (z:=((aW.length*p.code.length:Nat):Int)) rfl (ev rfl) (ev rfl) (by rw[←Int.natCast_mul];exact dC (by simp only[jU];omega)) (by dsimp only[Fr.put,u1,u2]<;>rfl) ?_;refine ab.uT (s:=1) hH rfl rfl rfl rfl rfl rfl rfl rfl (Nat.le_of_ble_eq_true rfl) (by omega) (fun _=>by dsimp only[Fr.put,u1,u2]<;>rfl) (fun k80 st Qf hH=>?_);dsimp only[u2,u1,u3,u4,setMany,u5,u6,D.cells,Nat.reduceAdd,aG,aq,br,bB,ay,aR,aH] at hH;refine qg ?_;refine qp (o:=4) ?_;refine qT hH b4 fun st hH=>?_;dsimp only[u2,u1,u3,u4,setMany,u5,u6,D.cells,Nat.reduceAdd,aG,aq,br,bB,ay,aR,aH] at hH;refine qe hK<|qq<|qq<|qj fun K hK=>qm ?_;refine qg ?_;refine qp (o:=3) ?_;refine ql hH b4 ?_;refine qn ?_ (hR:=hH.rows cU);simp only[List.length_map];refine qm ?_;refine qe hK ?_
   obtain⟨R,K2⟩:∃R,nK (j0 p.code.length) (bK p.code gs aW) (3*(aW.length*p.code.length)+1) sn aW.length 0 (List.replicate (aW.length*p.code.length) false)=R:=⟨_,rfl⟩
   rw[K2];refine af.block<|af.loop (fun mm fr st=>∃(i:Nat) (ar:List Bool) (ld:D) (ja:List (List D)),fr.clean=⟨89,[ai fr 0,.int .i64 (ru:Nat),ai fr 2,.ptr k3 0 0,ai fr 4,ai fr 5,.ptr k6 0 0,.bool false,.ptr k35 0 0,ai fr 9,ai fr 10,ai fr 11,ai fr 12,ai fr 13,ai fr 14,ai fr 15,ai fr 16,ai fr 17,ai fr 18,ai fr 19,ai fr 20,ai fr 21,ai fr 22,ai fr 23,ai fr 24,ai fr 25,ai fr 26,ai fr 27,ai fr 28,ai fr 29,ai fr 30,ai fr 31,ai fr 32,ai fr 33,ai fr 34,ai fr 35,ai fr 36,ai fr 37,ai fr 38,ai fr 39,ai fr 40,ai fr 41,ai fr 42,ai fr 43,ai fr 44,ai fr 45,ai fr 46,ai fr 47,ai fr 48,ai fr 49,ai fr 50,ai fr 51,ai fr 52,ai fr 53,ai fr 54,ai fr 55,ai fr 56,ai fr 57,ai fr 58,ai fr 59,ai fr 60,ai fr 61,ai fr 62,ai fr 63,ai fr 64,ai fr 65,ai fr 66,ai fr 67,ai fr 68,ai fr 69,ai fr 70,ai fr 71,ai fr 72,ai fr 73,ai fr 74,ai fr 75,ai fr 76,ai fr 77,ai fr 78,ai fr 79,ai fr 80,ai fr 81,ai fr 82,ai fr 83,ai fr 84,ai fr 85,ai fr 86,.int .i64 (aW.length:Nat),.int .i64 (i:Nat)],[]⟩∧Has s0.bs.length S st [.box k35 (.mem 0 false [p.cd,p.sd,cu gs,N9,.win k80 0 0 (aW.length*p.code.length) 1,ld]),.aL ld 12 ja,.aL N9 1 (aW.map aq),.aL (.win k80 0 0 (aW.length*p.code.length) 1) 1 (ar.map br),.box k6 (.mem 0 false (ay aH)),.box k3 (.mem 0 false [p.cd,p.sd])]∧(i+mm=aW.length)∧(ar.length=aW.length*p.code.length)∧(nK (j0 p.code.length) (bK p.code gs aW) (3*(aW.length*p.code.length)+1) sn mm i ar=R)) (aW.length) ?_ ?_
   ·refine⟨0,List.replicate (aW.length*p.code.length) false,.nul,[],rfl,?_,by omega,by rw[List.length_replicate],K2⟩;rw[List.map_replicate];exact((hH.front (j:=2) rfl).eB 12).front (j:=3) rfl
   rintro mm fr st ⟨i,ar,ld,ja,hfr,hH,hi,QO,NA⟩;rw[hfr];clear hfr;generalize ai fr=ee;clear fr;refine qq<|qj fun K hK=>qg ?_;refine qe hK<|qq ?_;refine af.cond (by rfl) (fun h4=>?_) (fun h4=>?_)<;>try simp only[decide_eq_true_eq,decide_eq_false_iff_not] at h4
   ·refine af.skip ?_
    obtain⟨mm,rfl⟩:∃m',mm=m'+1:=⟨mm-1,by omega⟩
    refine qq<|af.block<|qq<|qj fun K hK=>qm ?_;refine qm ?_;refine qe hK ?_;obtain⟨d,st1,aO,OV,J_,hd,LC⟩:=BH (start:=sn) (i:=i) hF hp hR (by omega) fF (by rw[←fF];exact hsz) (by rw[←fF];exact QO) (by omega) (by omega) hH;rw[QO] at hd LC
    cases hD:(jx (j0 p.code.length) (bK p.code gs aW) (3*(aW.length*p.code.length)+1) ar [⟨sn,i,aR⟩]).1 with
    |some c=>
     simp only[nK,hD] at NA;rw[hD] at hd;have hd:d=.tup [.agg (ay c),.bool true]:=hd;subst hd;refine qq<|qj fun K hK=>qm ?_;refine qp (o:=1) ?_;refine ql hH l7 ?_;refine qm ?_;refine qr fun T6 PC=>?_;refine qR ?_;refine qm ?_;refine qv (aO) ?_;refine qm ?_;refine qg ?_;refine qg ?_;refine ab.pk LC rfl rfl (fun _=>by dsimp only[Fr.put,u1,u2]<;>rfl) (fun k13 st Bp hH=>?_);dsimp only[ay,aH] at hH;refine qT hH aB fun st hH=>?_;dsimp only[u2,u1,u3,u4,setMany,u5,u6,D.cells,Nat.reduceAdd,aG,aq,br,bB,ay,aR,aH] at hH;refine qm ?_;refine qe hK<|qq<|qj fun K hK=>qm ?_;refine qe hK<|qB ?_;refine qq<|qj fun K hK=>?_;refine ab.bf (m:=10) hH rfl (ev rfl) (by exact aB) (by dsimp only[List.drop_succ_cons,List.drop_zero,List.take_succ_cons,List.take_zero,aG,aq,br,bB,ay,aR,aH]<;>rfl) rfl rfl (ae rfl _) ?_;refine qS hH l7 fun st hH=>?_;dsimp only[u2,u1,u3,u4,setMany,u5,u6,D.cells,Nat.reduceAdd,aG,aq,br,bB,ay,aR,aH] at hH;refine qm ?_;refine qe hK ?_;rw[←NA];refine af.ret ⟨rx,_,hH.cN rfl l7 rfl rfl,rl cM hH rfl⟩
    |none=>
     have x9:=lT (j0 p.code.length) (bK p.code gs aW) (3*(aW.length*p.code.length)+1) ar [⟨sn,i,aR⟩];simp only[nK,hD] at NA;rw[hD] at hd;have hd:d=.tup [.agg (ay aH),.bool false]:=hd;subst hd;refine qq<|qj fun K hK=>qm ?_;refine qp (o:=1) ?_;refine ql hH l7 ?_;refine qm ?_;refine qr fun T6 PC=>?_;refine qR ?_;refine qm ?_;refine qv (aO) ?_;refine qm ?_;refine qg ?_;refine qg ?_;refine ab.pk LC rfl rfl (fun _=>by dsimp only[Fr.put,u1,u2]<;>rfl) (fun k13 st Bp hH=>?_);dsimp only[ay,aH] at hH;refine qT hH aB fun st hH=>?_;dsimp only[u2,u1,u3,u4,setMany,u5,u6,D.cells,Nat.reduceAdd,aG,aq,br,bB,ay,aR,aH] at hH;refine qm ?_;refine qe hK<|qq<|qj fun K hK=>qm ?_;refine qe hK<|qC ?_;refine af.skip<|qj fun K hK=>qA ?_;refine qm ?_;refine qe hK ?_;exact⟨mm,by omega,⟨i+1,_,OV,J_,rfl,(hH.drop 1),by omega,by rw[x9];exact QO,NA⟩⟩
   ·refine af.exit<|qq<|qj fun K hK=>ab.go (d:=.agg (ay aH)) (st1:=_) rfl rfl rfl (ae rfl _) ?_;refine qS hH fW fun st hH=>?_;dsimp only[u2,u1,u3,u4,setMany,u5,u6,D.cells,Nat.reduceAdd,aG,aq,br,bB,ay,aR,aH] at hH;refine qm ?_;refine qe hK ?_
    have ek:R=none:=by
     have:mm=0:=by omega
     subst this;rw[←NA];rfl
    rw[ek];refine af.ret ⟨rx,_,hH.cN rfl fW rfl rfl,rl cM hH rfl⟩
abbrev Sn:=Nat→Nat→Bool
def gb (s:Sn) (t:ft):Sn:=fun a b=>if a=t.pc∧b=t.at_ then true else s a b
theorem Ae (s:Sn) (t:ft):gb s t t.pc t.at_=true:=by unfold gb;rw[if_pos ⟨rfl,rfl⟩]
theorem Cv {s:Sn} {t:ft} {a b:Nat} (h:s a b=true):gb s t a b=true:=by unfold gb;split<;>first|rfl|exact h
inductive kL (fv:ft→zX):Sn→List ft→Option kM→Sn→Prop
 |nil {s:Sn}:kL fv s [] none s
 |ja {s s':Sn} {t:ft} {cg:List ft} {r:Option kM}:s t.pc t.at_=true→kL fv s cg r s'→kL fv s (t::cg) r s'
 |found {s:Sn} {t:ft} {cg:List ft}:s t.pc t.at_=false→fv t=.found→kL fv s (t::cg) (some t.c) (gb s t)
 |more {s s':Sn} {t:ft} {cg l:List ft} {r:Option kM}:s t.pc t.at_=false→fv t=.more l→kL fv (gb s t) (l++cg) r s'→kL fv s (t::cg) r s'
theorem kL.one {fv:ft→zX} {s s1 s2:Sn} {cg:List ft} {r1 r2:Option kM} (h1:kL fv s cg r1 s1):kL fv s cg r2 s2→r1=r2∧s1=s2:=by
 induction h1 with
 |nil=>intro h;cases h;exact⟨rfl,rfl⟩
 |ja h _ ih=>
  intro h2
  cases h2 with
  |ja _ h'=>exact ih h'
  |found h' _=>rw[h] at h';cases h'
  |more h' _ _=>rw[h] at h';cases h'
 |found h hf=>
  intro h2
  cases h2 with
  |ja h' _=>rw[h] at h';cases h'
  |found _ _=>exact⟨rfl,rfl⟩
  |more _ h' _=>rw[hf] at h';cases h'
 |more h hm _ ih=>
  intro h2
  cases h2 with
  |ja h' _=>rw[h] at h';cases h'
  |found _ h'=>rw[hm] at h';cases h'
  |more _ h' WN=>
   rw[hm] at h';cases h';exact ih WN
def zM (idx:Nat→Nat→Nat) (ok:Nat→Nat→Prop) (arr:List Bool) (s:Sn):Prop:=∀a b,ok a b→arr[idx a b]?=some (s a b)
def Ln (idx:Nat→Nat→Nat) (ok:Nat→Nat→Prop):Prop:=∀a b a' b',ok a b→ok a' b'→idx a b=idx a' b'→a=a'∧b=b'
def GW (fv:ft→zX) (ok:Nat→Nat→Prop):Prop:=∀t l,ok t.pc t.at_→fv t=.more l→l.length≤2∧∀u∈l,ok u.pc u.at_
theorem zM.qI {idx:Nat→Nat→Nat} {ok:Nat→Nat→Prop} {arr:List Bool} {s:Sn} {t:ft} (hI:Ln idx ok) (ht:ok t.pc t.at_) (h:zM idx ok arr s):zM idx ok (arr.set (idx t.pc t.at_) true) (gb s t):=by
 intro a b hab;unfold gb
 by_cases he:idx a b=idx t.pc t.at_
 ·rw[if_pos (hI _ _ _ _ hab ht he),he];have:=bj (h _ _ ht);rw[List.getElem?_set_self this]
 ·rw[if_neg (by rintro⟨rfl,rfl⟩;exact he rfl),List.getElem?_set_ne (fun e=>he e.symm)];exact h a b hab
theorem BQ {idx:Nat→Nat→Nat} {ok:Nat→Nat→Prop} {fv:ft→zX} (hI:Ln idx ok) (hK:GW fv ok):∀(f:Nat) (arr:List Bool) (cg:List ft) (s:Sn),3*arr.count false+cg.length≤f→zM idx ok arr s→(∀t∈cg,ok t.pc t.at_)→∃s',kL fv s cg (jx idx fv f arr cg).1 s'∧zM idx ok (jx idx fv f arr cg).2 s':=by
 intro f
 induction f with
 |zero=>
  intro arr cg s h1 hr _;have:cg=[]:=List.length_eq_zero_iff.1 (by omega);subst this;exact⟨s,.nil,hr⟩
 |succ f ih=>
  intro arr cg s h1 hr hs
  cases cg with
  |nil=>exact⟨s,.nil,hr⟩
  |cons t cg=>
   have ht:=hs t (List.mem_cons_self ..);have Ck:∀u∈cg,ok u.pc u.at_:=fun u hu=>hs u (List.mem_cons_of_mem _ hu);simp only[List.length_cons] at h1;have hb:=hr _ _ ht;unfold jx;rw[hb]
   cases c8:s t.pc t.at_ with
   |true=>
    obtain⟨s',h2,h3⟩:=ih arr cg s (by omega) hr Ck;exact⟨s',.ja c8 h2,h3⟩
   |false=>
    rw[c8] at hb;have wG:=count_set hb;simp only
    cases hS:fv t with
    |found=>exact⟨_,.found c8 hS,hr.qI hI ht⟩
    |more l=>
     obtain⟨hl,ba⟩:=hK t l ht hS
     obtain⟨s',h2,h3⟩:=ih (arr.set (idx t.pc t.at_) true) (l++cg) (gb s t) (by rw[List.length_append];omega) (hr.qI hI ht) (by
      intro u hu
      rcases List.mem_append.1 hu with hu|hu
      ·exact ba u hu
      ·exact Ck u hu)
     exact⟨s',.more c8 hS h2,h3⟩
theorem Fs {n a b a' b' : Nat} (h1 : b < n) (h2 : b' < n) (h : a * n + b = a' * n + b') : a = a' ∧ b = b' := by
 have hb : b = b' := by
  have := congrArg (· % n) h;simp only [Nat.mul_add_mod_self_right, Nat.mod_eq_of_lt h1, Nat.mod_eq_of_lt h2] at this;exact this
 subst hb;exact ⟨Nat.eq_of_mul_eq_mul_right (by omega) (by omega : a * n = a' * n), rfl⟩
theorem mul_lt {n m a b:Nat} (h1:a<m) (h2:b<n):a*n+b<m*n:=by
 have:=Nat.mul_le_mul_right n (show a+1≤m by omega);rw[Nat.add_mul,Nat.one_mul] at this;omega
section
variable{fv:ft→zX}
theorem cz {s s1:Sn} {A:List ft} {r1:Option kM} (h:kL fv s A r1 s1):∀B,(∀c,r1=some c→∃s2,kL fv s (A++B) (some c) s2)∧(r1=none→∀r s2,kL fv s1 B r s2→kL fv s (A++B) r s2):=by
 induction h with
 |nil=>exact fun B=>⟨fun c h=>(by cases h),fun _ r s2 h=>h⟩
 |ja ht _ ih=>
  intro B;obtain⟨h1,h2⟩:=ih B;exact⟨fun c hc=>(by obtain⟨s2,h⟩:=h1 c hc;exact⟨s2,.ja ht h⟩),fun hn r s2 h=>.ja ht (h2 hn r s2 h)⟩
 |found ht hf=>exact fun B=>⟨fun c hc=>(by cases hc;exact⟨_,.found ht hf⟩),fun hn=>(by cases hn)⟩
 |@more s s' t cg l r ht hm _ ih=>
  intro B;obtain⟨h1,h2⟩:=ih B;rw[List.append_assoc] at h1 h2;exact⟨fun c hc=>(by obtain⟨s2,h⟩:=h1 c hc;exact⟨s2,.more ht hm h⟩),fun hn r s2 h=>.more ht hm (h2 hn r s2 h)⟩
theorem kh {s s2:Sn} {X:List ft} {r:Option kM} (h:kL fv s X r s2):∀A B,X=A++B→(∃c s1,r=some c∧kL fv s A (some c) s1)∨∃s1,kL fv s A none s1∧kL fv s1 B r s2:=by
 induction h with
 |nil=>
  intro A B h;obtain⟨rfl,rfl⟩:=List.append_eq_nil_iff.1 h.symm;exact .inr ⟨_,.nil,.nil⟩
 |@ja s s' t cg r ht hr ih=>
  intro A B h
  cases A with
  |nil=>rw[List.nil_append] at h;subst h;exact .inr ⟨_,.nil,.ja ht hr⟩
  |cons a A=>
   rw[List.cons_append] at h;obtain⟨rfl,rfl⟩:=List.cons.inj h
   rcases ih A B rfl with⟨c,s1,h1,h2⟩|⟨s1,h1,h2⟩
   ·exact .inl ⟨c,s1,h1,.ja ht h2⟩
   ·exact .inr ⟨s1,.ja ht h1,h2⟩
 |@found s t cg ht hf=>
  intro A B h
  cases A with
  |nil=>rw[List.nil_append] at h;subst h;exact .inr ⟨_,.nil,.found ht hf⟩
  |cons a A=>
   rw[List.cons_append] at h;obtain⟨rfl,rfl⟩:=List.cons.inj h;exact .inl ⟨_,_,rfl,.found ht hf⟩
 |@more s s' t cg l r ht hm hr ih=>
  intro A B h
  cases A with
  |nil=>rw[List.nil_append] at h;subst h;exact .inr ⟨_,.nil,.more ht hm hr⟩
  |cons a A=>
   rw[List.cons_append] at h;obtain⟨rfl,rfl⟩:=List.cons.inj h
   rcases ih (l++A) B (by rw[List.append_assoc]) with⟨c,s1,h1,h2⟩|⟨s1,h1,h2⟩
   ·exact .inl ⟨c,s1,h1,.more ht hm h2⟩
   ·exact .inr ⟨s1,.more ht hm h1,h2⟩
theorem Ax {s s1:Sn} {A:List ft} {r:Option kM} (h:kL fv s A r s1):r=none→(∀a b,s a b=true→s1 a b=true)∧∀t∈A,s1 t.pc t.at_=true:=by
 induction h with
 |nil=>exact fun _=>⟨fun _ _ h=>h,fun t h=>by cases h⟩
 |ja ht _ ih=>
  intro hn;obtain⟨h1,h2⟩:=ih hn;refine⟨h1,fun t h=>?_⟩
  rcases List.mem_cons.1 h with rfl|h
  ·exact h1 _ _ ht
  ·exact h2 t h
 |found _ _=>intro hn;cases hn
 |more ht hm _ ih=>
  intro hn;obtain⟨h1,h2⟩:=ih hn;refine⟨fun a b h=>h1 a b (Cv h),fun t h=>?_⟩
  rcases List.mem_cons.1 h with rfl|h
  ·exact h1 _ _ (Ae _ _)
  ·exact h2 t (List.mem_append_right _ h)
theorem xE {s s2:Sn} {A B:List ft} {r:Option kM} {u w:ft} (hw:w∈A) (hp:w.pc=u.pc) (ha:w.at_=u.at_) (h:kL fv s (A++B) r s2):∃s3,kL fv s (A++u::B) r s3:=by
 rcases kh h A B rfl with⟨c,s1,rfl,h2⟩|⟨s1,h1,h2⟩
 ·exact(cz h2 _).1 c rfl
 ·have:=(Ax h1 rfl).2 w hw;rw[hp,ha] at this;exact⟨s2,(cz h1 _).2 rfl _ _ (.ja this h2)⟩
def Ag (k:Nat) (s s':Sn):Prop:=∀a b,k<b→s a b=s' a b
theorem Ag.symm {k:Nat} {s s':Sn} (h:Ag k s s'):Ag k s' s:=fun a b hb=>(h a b hb).symm
theorem Ag.trans {k:Nat} {s s' SB:Sn} (h:Ag k s s') (h2:Ag k s' SB):Ag k s SB:=fun a b hb=>(h a b hb).trans (h2 a b hb)
theorem Ag.qI {k:Nat} {s:Sn} {t:ft} (ht:t.at_=k):Ag k s (gb s t):=fun a b hb=>by
 unfold gb;rw[if_neg (by omega)]
theorem ji (MD:∀t l,fv t=.more l→∀u∈l,t.at_≤u.at_) {k:Nat} {s s1:Sn} {A:List ft} {r:Option kM} (h:kL fv s A r s1):(∀t∈A,k<t.at_)→∀z,Ag k s z→∃z1,kL fv z A r z1∧Ag k s1 z1∧∀a b,b≤k→z1 a b=z a b:=by
 induction h with
 |nil=>exact fun _ z hz=>⟨z,.nil,hz,fun _ _ _=>rfl⟩
 |@ja s s' t cg r ht _ ih=>
  intro hA z hz;obtain⟨z1,h1,h2,h3⟩:=ih (fun t h=>hA t (List.mem_cons_of_mem _ h)) z hz;exact⟨z1,.ja (by rw[←hz _ _ (hA t (List.mem_cons_self ..))];exact ht) h1,h2,h3⟩
 |@found s t cg ht hf=>
  intro hA z hz;have Lt:=hA t (List.mem_cons_self ..);refine⟨gb z t,.found (by rw[←hz _ _ Lt];exact ht) hf,fun a b hb=>?_,fun a b hb=>?_⟩
  ·unfold gb;rw[hz a b hb]
  ·unfold gb;rw[if_neg (by omega)]
 |@more s s' t cg l r ht hm _ ih=>
  intro hA z hz;have Lt:=hA t (List.mem_cons_self ..)
  obtain⟨z1,h1,h2,h3⟩:=ih (fun u h=>by
   rcases List.mem_append.1 h with h|h
   ·exact Nat.lt_of_lt_of_le Lt (MD t l hm u h)
   ·exact hA u (List.mem_cons_of_mem _ h)) (gb z t) (fun a b hb=>by unfold gb;rw[hz a b hb])
  refine⟨z1,.more (by rw[←hz _ _ Lt];exact ht) hm h1,h2,fun a b hb=>?_⟩;rw[h3 a b hb];unfold gb;rw[if_neg (by omega)]
end
def bU (k:Nat) (t:gk):ft:=⟨t.pc,k,t.c⟩
def gw (code:List aK) (gs:List (Nat×Nat)) (k:Nat) (l:List gk):List ft:=
 l.flatMap fun t=>if k<gs.length∧gA (oB code t.pc) ((gs.getD k (0,0)).1:Nat)=true then[⟨t.pc+1,k+1,t.c⟩] else[]
theorem iW (code:List aK) (gs:List (Nat×Nat)) (k:Nat):gw code gs k []=[]:=rfl
theorem rQ (code:List aK) (gs:List (Nat×Nat)) (k:Nat) (a b:List gk):gw code gs k (a++b)=gw code gs k a++gw code gs k b:=by
 unfold gw;rw[List.flatMap_append]
theorem iX {code:List aK} {gs:List (Nat×Nat)} {k:Nat} {l:List gk}:∀u∈gw code gs k l,k<u.at_:=by
 intro u hu;obtain⟨t,_,ht⟩:=List.mem_flatMap.1 hu
 split at ht
 ·simp only[List.mem_cons,List.not_mem_nil,or_false] at ht;subst ht;exact Nat.lt_succ_self k
 ·cases ht
theorem je (code:List aK) (gs:List (Nat×Nat)) (aW:List Int):∀t l,bK code gs aW t=.more l→∀u∈l,t.at_≤u.at_:=by
 intro t l h u hu;unfold bK at h
 split at h
 ·cases h;cases hu
 ·split at h
  ·cases h
  ·split at h
   ·cases h;simp only[List.mem_cons,List.not_mem_nil,or_false] at hu
    rcases hu with rfl|rfl<;>exact Nat.le_refl _
   ·split at h
    ·cases h;simp only[List.mem_cons,List.not_mem_nil,or_false] at hu;subst hu;exact Nat.le_refl _
    ·split at h
     ·cases h;simp only[List.mem_cons,List.not_mem_nil,or_false] at hu;subst hu;exact Nat.le_refl _
     ·split at h
      ·cases h
       split at hu
       ·simp only[List.mem_cons,List.not_mem_nil,or_false] at hu;subst hu;exact Nat.le_refl _
       ·cases hu
      ·split at h
       ·cases h
        split at hu
        ·simp only[List.mem_cons,List.not_mem_nil,or_false] at hu;subst hu;exact Nat.le_refl _
        ·cases hu
       ·cases h
        split at hu
        ·simp only[List.mem_cons,List.not_mem_nil,or_false] at hu;subst hu;exact Nat.le_succ _
        ·cases hu
def yB (fv:ft→zX) (N:List ft) (k n:Nat) (s:Sn) (A:List ft) (LU:List Bool) (aX:kM) (LB:Bool):Prop:=
 ∀r1 s1,kL fv s N r1 s1→
  (∀c,r1=some c→∃s2,kL fv s A (some c) s2)∧
  (r1=none→LB=true→∃s2,kL fv s A (some aX) s2)∧
  (r1=none→LB=false→∃s2,kL fv s A none s2∧Ag k s1 s2∧∀a,a<n→s2 a k=LU.getD a true)
theorem zu {l:List Bool} {i a:Nat} (hi:i<l.length):(l.set i true).getD a true=if a=i then true else l.getD a true:=by
 rw[List.getD_eq_getElem?_getD,List.getD_eq_getElem?_getD]
 by_cases h:a=i
 ·subst h;rw[if_pos rfl,List.getElem?_set_self hi];rfl
 ·rw[if_neg h,List.getElem?_set_ne (fun e=>h e.symm)]
section
variable{code:List aK} {ns:Nat} {gs:List (Nat×Nat)} {aW:List Int} {k pl:Nat} {e:Bool}
theorem xq {s:Sn} {seen:List Bool} {t:gk} (hl:seen.length=code.length) (ht:t.pc<code.length) (hs:∀a,a<code.length→s a k=seen.getD a true):∀a,a<code.length→gb s (bU k t) a k=(seen.set t.pc true).getD a true:=by
 intro a ha;rw[zu (by omega)];unfold gb bU;simp only[and_true]
 split
 ·rfl
 ·exact hs a ha
theorem z6 {w':Wk×Bool} {N:List ft} {s:Sn} {t u:gk} (hN:∀x∈N,k<x.at_) (c8:s t.pc k=false) (hm:bK code gs aW (bU k t)=.more [bU k u])
  (h:yB (bK code gs aW) N k code.length (gb s (bU k t)) [bU k u] w'.1.seen w'.1.aX w'.2):yB (bK code gs aW) N k code.length s [bU k t] w'.1.seen w'.1.aX w'.2:=by
 intro r1 s1 hr;obtain⟨z1,h1,h2,_⟩:=ji (je code gs aW) hr hN (gb s (bU k t)) (Ag.qI rfl);obtain⟨q1,q2,q3⟩:=h r1 z1 h1;refine⟨fun c hc=>?_,fun hn hh=>?_,fun hn hh=>?_⟩
 ·obtain⟨s2,g⟩:=q1 c hc;exact⟨s2,.more c8 hm g⟩
 ·obtain⟨s2,g⟩:=q2 hn hh;exact⟨s2,.more c8 hm g⟩
 ·obtain⟨s2,g,g2,g3⟩:=q3 hn hh;exact⟨s2,.more c8 hm g,h2.trans g2,g3⟩
theorem z7 {seen:List Bool} {aX:kM} {s:Sn} {t:gk} (hl:seen.length=code.length) (ht:t.pc<code.length) (hs:∀a,a<code.length→s a k=seen.getD a true) (c8:s t.pc k=false) (hm:bK code gs aW (bU k t)=.more []):
  yB (bK code gs aW) (gw code gs k []) k code.length s [bU k t] (seen.set t.pc true) aX false:=by
 intro r1 s1 hr;rw[iW] at hr;cases hr;exact⟨fun c hc=>(by cases hc),fun _ h=>(by cases h),fun _ _=>⟨_,.more c8 hm .nil,Ag.qI rfl,xq hl ht hs⟩⟩
structure rZ (code:List aK) (gs:List (Nat×Nat)) (aW:List Int) (k:Nat) (s:Sn) (A:List ft) (w:Wk) (w':Wk) (LB:Bool) (new:List gk):Prop where
 rdy:w'.rdy=w.rdy++new
 bz:LB=false→w'.dn=w.dn∧w'.aX=w.aX
 got:LB=true→w'.dn=true
 run:yB (bK code gs aW) (gw code gs k new) k code.length s A w'.seen w'.aX LB
theorem mg (hsh:∀pc i,code[pc]?=some i→cJ code.length ns pc i=true) (fF:aW.getD k 0=(pl:Int)) (hz:pl=0↔k=0) (he:e=true↔k=gs.length):∀(f:Nat) (w:Wk) (t:gk) (s:Sn),w.seen.count false<f→w.seen.length=code.length→t.pc<code.length→(∀a,a<code.length→s a k=w.seen.getD a true)→
  ∃new,rZ code gs aW k s [bU k t] w (bX code pl e f w t).1 (bX code pl e f w t).2 new
 |0,_,_,_,h,_,_,_=>absurd h (Nat.not_lt_zero _)
 |f+1,w,t,s,hc,hl,ht,hs=>by
  have c8:=hs t.pc ht;unfold bX
  by_cases h0:w.seen.getD t.pc true=true
  ·rw[if_pos h0];rw[h0] at c8;refine⟨[],by simp,fun _=>⟨rfl,rfl⟩,fun h=>(by cases h),fun r1 s1 hr=>?_⟩;rw[iW] at hr;cases hr;exact⟨fun c hc=>(by cases hc),fun _ h=>(by cases h),fun _ _=>⟨_,.ja c8 .nil,fun _ _ _=>rfl,hs⟩⟩
  rw[if_neg h0];rw[Bool.not_eq_true] at h0;rw[h0] at c8
  have U1:w.seen[t.pc]?=some false:=by
   rw[List.getD_eq_getElem?_getD,List.getElem?_eq_getElem (by omega)] at h0;rw[List.getElem?_eq_getElem (by omega)];exact congrArg some h0
  have gG:=count_set U1
  obtain⟨i,hi⟩:∃i,code[t.pc]?=some i:=⟨code[t.pc]'ht,List.getElem?_eq_getElem _⟩
  have U2:=d_ (hsh _ _ hi);have S1:=xq (t:=t) hl ht hs;have pZ:(w.seen.set t.pc true).length=code.length:=by rw[List.length_set];exact hl
  have ih:=fun(u:gk) (hu:u.pc<code.length)=>mg hsh fF hz he f ⟨w.seen.set t.pc true,w.dn,w.aX,w.rdy⟩ u (gb s (bU k t)) (by show(w.seen.set t.pc true).count false<f;omega) pZ hu S1
  have one:∀(u:gk),u.pc<code.length→bK code gs aW (bU k t)=.more [bU k u]→∃new,rZ code gs aW k s [bU k t] w (bX code pl e f ⟨w.seen.set t.pc true,w.dn,w.aX,w.rdy⟩ u).1 (bX code pl e f ⟨w.seen.set t.pc true,w.dn,w.aX,w.rdy⟩ u).2 new:=fun u hu hm=>by
   obtain⟨new,g1,g2,g3,g4⟩:=ih u hu;exact⟨new,g1,g2,g3,z6 (w':=(bX code pl e f ⟨w.seen.set t.pc true,w.dn,w.aX,w.rdy⟩ u)) iX c8 hm g4⟩
  have stop:bK code gs aW (bU k t)=.more []→∃new,rZ code gs aW k s [bU k t] w ⟨w.seen.set t.pc true,w.dn,w.aX,w.rdy⟩ false new:=fun hm=>
   ⟨[],by simp,fun _=>⟨rfl,rfl⟩,fun h=>(by cases h),z7 hl ht hs c8 hm⟩
  have hS:bK code gs aW (bU k t)=(if i.op=7 then .found
    else if i.op=2 then .more [⟨i.x.toNat,k,t.c⟩,⟨i.y.toNat,k,t.c⟩]
    else if i.op=3 then .more [⟨i.x.toNat,k,t.c⟩]
    else if i.op=4 then .more [⟨t.pc+1,k,tV t.c i.x.toNat (aW.getD k 0)⟩]
    else if i.op=5 then .more (if k=0 then[⟨t.pc+1,k,t.c⟩] else[])
    else if i.op=6 then .more (if k=gs.length then[⟨t.pc+1,k,t.c⟩] else[])
    else .more (if k<gs.length∧gA i.rs ((gs.getD k (0,0)).1:Nat)=true then[⟨t.pc+1,k+1,t.c⟩] else[])):=by
   unfold bK;simp only[bU,hi]
   rfl
  rw[hi];simp only
  rcases U2 with h7|⟨h2,hx,hy⟩|⟨h3,hx⟩|⟨h4,hx,_⟩|⟨h5,hx⟩|⟨h6,hx⟩|⟨h1,hx⟩
  ·rw[if_pos h7];rw[if_pos h7] at hS;refine⟨[],by simp,fun h=>(by cases h),fun _=>rfl,fun r1 s1 hr=>?_⟩;rw[iW] at hr;cases hr;exact⟨fun c hc=>(by cases hc),fun _ _=>⟨_,.found c8 hS⟩,fun _ h=>(by cases h)⟩
  ·rw[if_neg (by omega),if_pos h2];rw[if_neg (by omega),if_pos h2] at hS;have UH:i.x.toNat<code.length:=by omega
   have UF:i.y.toNat<code.length:=by omega
   obtain⟨nx,NV,NU,Q5,K6⟩:=ih ⟨i.x.toNat,t.c⟩ UH;have GM:=cn code pl e f ⟨w.seen.set t.pc true,w.dn,w.aX,w.rdy⟩ ⟨i.x.toNat,t.c⟩;generalize bX code pl e f ⟨w.seen.set t.pc true,w.dn,w.aX,w.rdy⟩ ⟨i.x.toNat,t.c⟩=R1 at*;obtain⟨w1,b1⟩:=R1;obtain⟨c7,bh,_,_⟩:=GM;simp only at*
   cases b1 with
   |true=>
    rw[if_pos rfl];refine⟨nx,NV,NU,Q5,fun r1 s1 hr=>?_⟩;obtain⟨z1,k1,k2,_⟩:=ji (je code gs aW) hr iX (gb s (bU k t)) (Ag.qI rfl);obtain⟨q1,q2,q3⟩:=K6 r1 z1 k1;refine⟨fun c hc=>?_,fun hn hh=>?_,fun _ h=>(by cases h)⟩
    ·obtain⟨s2,g⟩:=q1 c hc;obtain⟨s3,g⟩:=(cz g [bU k ⟨i.y.toNat,t.c⟩]).1 c rfl;exact⟨s3,.more c8 hS g⟩
    ·obtain⟨s2,g⟩:=q2 hn hh;obtain⟨s3,g⟩:=(cz g [bU k ⟨i.y.toNat,t.c⟩]).1 _ rfl;exact⟨s3,.more c8 hS g⟩
   |false=>
    rw[if_neg (by decide)];obtain⟨Q4,Q3⟩:=NU rfl
    have wx:∀z:Sn,(∀a,a<code.length→z a k=w1.seen.getD a true)→∃new,rZ code gs aW k z [bU k ⟨i.y.toNat,t.c⟩] w1 (bX code pl e f w1 ⟨i.y.toNat,t.c⟩).1 (bX code pl e f w1 ⟨i.y.toNat,t.c⟩).2 new:=fun z hz1=>
     mg hsh fF hz he f w1 ⟨i.y.toNat,t.c⟩ z (by omega) (by rw[c7,List.length_set];exact hl) UF hz1
    obtain⟨ny,NT,Q2,Q0,_⟩:=wx (fun a b=>w1.seen.getD a true) (fun _ _=>rfl);refine⟨nx++ny,by rw[NT,NV,List.append_assoc],fun h=>?_,Q0,fun r1 s1 hr=>?_⟩
    ·obtain⟨p1,p2⟩:=Q2 h;exact⟨p1.trans Q4,p2.trans Q3⟩
    obtain⟨z1,k1,k2,_⟩:=ji (je code gs aW) hr iX (gb s (bU k t)) (Ag.qI rfl);rw[rQ] at k1
    rcases kh k1 _ _ rfl with⟨c,u1,rfl,hA⟩|⟨u1,hA,hB⟩
    ·obtain⟨q1,_,_⟩:=K6 _ _ hA;obtain⟨s2,g⟩:=q1 c rfl;obtain⟨s3,g⟩:=(cz g [bU k ⟨i.y.toNat,t.c⟩]).1 c rfl;exact⟨fun c' vC=>(by cases vC;exact⟨s3,.more c8 hS g⟩),fun h=>(by cases h),fun h=>(by cases h)⟩
    ·obtain⟨_,_,q3⟩:=K6 _ _ hA;obtain⟨s2,g,g2,g3⟩:=q3 rfl rfl;obtain⟨OR,K5,_,_,QZ⟩:=wx s2 g3;have P9:OR=ny:=List.append_cancel_left (K5.symm.trans NT);subst P9;obtain⟨z2,k3,k4,_⟩:=ji (je code gs aW) hB iX s2 g2;obtain⟨p1,p2,p3⟩:=QZ _ _ k3;refine⟨fun c hc=>?_,fun hn hh=>?_,fun hn hh=>?_⟩
     ·obtain⟨s3,g4⟩:=p1 c hc;exact⟨s3,.more c8 hS ((cz g [bU k ⟨i.y.toNat,t.c⟩]).2 rfl _ _ g4)⟩
     ·obtain⟨s3,g4⟩:=p2 hn hh;exact⟨s3,.more c8 hS ((cz g [bU k ⟨i.y.toNat,t.c⟩]).2 rfl _ _ g4)⟩
     ·obtain⟨s3,g4,g5,g6⟩:=p3 hn hh;exact⟨s3,.more c8 hS ((cz g [bU k ⟨i.y.toNat,t.c⟩]).2 rfl _ _ g4),(k2.trans k4).trans g5,g6⟩
  ·rw[if_neg (by omega),if_neg (by omega),if_neg (by omega),if_pos h3];rw[if_neg (by omega),if_neg (by omega),if_pos h3] at hS;exact one ⟨i.x.toNat,t.c⟩ (show i.x.toNat<code.length by omega) hS
  ·rw[if_neg (by omega),if_neg (by omega),if_neg (by omega),if_neg (by omega),if_pos h4];rw[if_neg (by omega),if_neg (by omega),if_neg (by omega),if_pos h4,fF] at hS;exact one ⟨t.pc+1,tV t.c i.x.toNat (pl:Nat)⟩ hx hS
  ·rw[if_neg (by omega),if_neg (by omega),if_neg (by omega),if_neg (by omega),if_neg (by omega),if_pos h5];rw[if_neg (by omega),if_neg (by omega),if_neg (by omega),if_neg (by omega),if_pos h5] at hS
   by_cases hk:k=0
   ·rw[if_pos (hz.2 hk)];rw[if_pos hk] at hS;exact one ⟨t.pc+1,t.c⟩ hx hS
   ·rw[if_neg (fun h=>hk (hz.1 h))];rw[if_neg hk] at hS;exact stop hS
  ·rw[if_neg (by omega),if_neg (by omega),if_neg (by omega),if_neg (by omega),if_neg (by omega),if_neg (by omega)];rw[if_neg (by omega),if_neg (by omega),if_neg (by omega),if_neg (by omega),if_neg (by omega),if_pos h6] at hS
   by_cases hk:k=gs.length
   ·rw[if_pos (he.2 hk)];rw[if_pos hk] at hS;exact one ⟨t.pc+1,t.c⟩ hx hS
   ·rw[if_neg (fun h=>hk (he.1 h))];rw[if_neg hk] at hS;exact stop hS
  ·rw[if_neg (by omega),if_neg (by omega),if_pos h1];rw[if_neg (by omega),if_neg (by omega),if_neg (by omega),if_neg (by omega),if_neg (by omega),if_neg (by omega)] at hS
   have ND:gw code gs k [t]=if k<gs.length∧gA i.rs ((gs.getD k (0,0)).1:Nat)=true then[⟨t.pc+1,k+1,t.c⟩] else[]:=by
    unfold gw oB;rw[List.flatMap_cons,List.flatMap_nil,List.append_nil,hi]
   rw[←ND] at hS;refine⟨[t],rfl,fun _=>⟨rfl,rfl⟩,fun h=>(by cases h),fun r1 s1 hr=>?_⟩;obtain⟨z1,k1,k2,k3⟩:=ji (je code gs aW) hr iX (gb s (bU k t)) (Ag.qI rfl);have mP:kL (bK code gs aW) s [bU k t] r1 z1:=.more c8 hS (by rw[List.append_nil];exact k1);refine⟨fun c hc=>⟨z1,hc▸mP⟩,fun _ h=>(by cases h),fun hn _=>⟨z1,hn▸mP,k2,fun a ha=>?_⟩⟩;rw[k3 a k (Nat.le_refl _)];exact S1 a ha
def GS (code:List aK) (pl:Nat) (e:Bool):List gk→Wk→Bool
 |[],_=>false
 |t::ts,w=>if(bX code pl e (code.length+1) w t).2=true then true else GS code pl e ts (bX code pl e (code.length+1) w t).1
theorem tm (hsh:∀pc i,code[pc]?=some i→cJ code.length ns pc i=true) (fF:aW.getD k 0=(pl:Int)) (hz:pl=0↔k=0) (he:e=true↔k=gs.length):∀(l:List gk) (w:Wk) (s:Sn),w.seen.length=code.length→(∀t∈l,t.pc<code.length)→(∀a,a<code.length→s a k=w.seen.getD a true)→
  ∃new,rZ code gs aW k s (l.map (bU k)) w (mc code pl e l w) (GS code pl e l w) new
 |[],w,s,hl,_,hs=>⟨[],by simp[mc],fun _=>⟨rfl,rfl⟩,fun h=>(by cases h),fun r1 s1 hr=>by
   rw[iW] at hr;cases hr
   exact⟨fun c hc=>(by cases hc),fun _ h=>(by cases h),fun _ _=>⟨_,.nil,fun _ _ _=>rfl,hs⟩⟩⟩
 |t::ts,w,s,hl,hts,hs=>by
  have ht:=hts t (List.mem_cons_self ..);have hcl:=List.count_le_length (a:=false) (l:=w.seen);obtain⟨nx,NV,NU,Q5,K6⟩:=mg hsh fF hz he (code.length+1) w t s (by omega) hl ht hs;obtain⟨c7,_,_,_⟩:=cn code pl e (code.length+1) w t;unfold mc GS;generalize bX code pl e (code.length+1) w t=R1 at*;obtain⟨w1,b1⟩:=R1;simp only at*;rw[List.map_cons]
  cases b1 with
  |true=>
   rw[if_pos rfl,if_pos rfl];refine⟨nx,NV,NU,Q5,fun r1 s1 hr=>?_⟩;obtain⟨q1,q2,q3⟩:=K6 _ _ hr;refine⟨fun c hc=>?_,fun hn hh=>?_,fun _ h=>(by cases h)⟩
   ·obtain⟨s2,g⟩:=q1 c hc;exact(cz g (ts.map (bU k))).1 c rfl
   ·obtain⟨s2,g⟩:=q2 hn hh;exact(cz g (ts.map (bU k))).1 _ rfl
  |false=>
   rw[if_neg (by decide),if_neg (by decide)];obtain⟨Q4,Q3⟩:=NU rfl
   have wx:∀z:Sn,(∀a,a<code.length→z a k=w1.seen.getD a true)→∃new,rZ code gs aW k z (ts.map (bU k)) w1 (mc code pl e ts w1) (GS code pl e ts w1) new:=fun z hz1=>
    tm hsh fF hz he ts w1 z (c7.trans hl) (fun t h=>hts t (List.mem_cons_of_mem _ h)) hz1
   obtain⟨ny,NT,Q2,Q0,_⟩:=wx (fun a b=>w1.seen.getD a true) (fun _ _=>rfl);refine⟨nx++ny,by rw[NT,NV,List.append_assoc],fun h=>?_,Q0,fun r1 s1 hr=>?_⟩
   ·obtain⟨p1,p2⟩:=Q2 h;exact⟨p1.trans Q4,p2.trans Q3⟩
   rw[rQ] at hr
   rcases kh hr _ _ rfl with⟨c,u1,rfl,hA⟩|⟨u1,hA,hB⟩
   ·obtain⟨q1,_,_⟩:=K6 _ _ hA;obtain⟨s2,g⟩:=q1 c rfl;obtain⟨s3,g⟩:=(cz g (ts.map (bU k))).1 c rfl;exact⟨fun c' vC=>(by cases vC;exact⟨s3,g⟩),fun h=>(by cases h),fun h=>(by cases h)⟩
   ·obtain⟨_,_,q3⟩:=K6 _ _ hA;obtain⟨s2,g,g2,g3⟩:=q3 rfl rfl;obtain⟨OR,K5,_,_,QZ⟩:=wx s2 g3;have P9:OR=ny:=List.append_cancel_left (K5.symm.trans NT);subst P9;obtain⟨z2,k3,k4,_⟩:=ji (je code gs aW) hB iX s2 g2;obtain⟨p1,p2,p3⟩:=QZ _ _ k3;refine⟨fun c hc=>?_,fun hn hh=>?_,fun hn hh=>?_⟩
    ·obtain⟨s3,g4⟩:=p1 c hc;exact⟨s3,(cz g (ts.map (bU k))).2 rfl _ _ g4⟩
    ·obtain⟨s3,g4⟩:=p2 hn hh;exact⟨s3,(cz g (ts.map (bU k))).2 rfl _ _ g4⟩
    ·obtain⟨s3,g4,g5,g6⟩:=p3 hn hh;exact⟨s3,(cz g (ts.map (bU k))).2 rfl _ _ g4,k4.trans g5,g6⟩
end
theorem mE {code:List aK} {gs:List (Nat×Nat)} {aW:List Int} {k:Nat} {r:Int} (hk:k<gs.length) (hr:((gs.getD k (0,0)).1:Nat)=r):∀(l acc:List gk) (R:List ft) (s s1:Sn) (q:Option kM),kL (bK code gs aW) s ((dW code r l acc).map (bU (k+1))++R) q s1→∃s2,kL (bK code gs aW) s (acc.map (bU (k+1))++(gw code gs k l++R)) q s2
 |[],acc,R,s,s1,q,h=>⟨s1,by rw[iW,List.nil_append];exact h⟩
 |t::ts,acc,R,s,s1,q,h=>by
  unfold dW at h
  have hc:gw code gs k (t::ts)=(if gA (oB code t.pc) r=true then[⟨t.pc+1,k+1,t.c⟩] else[])++gw code gs k ts:=by
   unfold gw;rw[List.flatMap_cons,hr]
   congr 1
   by_cases hh:gA (oB code t.pc) r=true
   ·rw[if_pos ⟨hk,hh⟩,if_pos hh]
   ·rw[if_neg (fun x=>hh x.2),if_neg hh]
  rw[hc];obtain⟨s2,h2⟩:=mE hk hr ts _ R s s1 q h
  by_cases hh:gA (oB code t.pc) r=true
  ·rw[if_pos hh] at h2⊢;unfold lq at h2
   split at h2
   ·rename_i hp;obtain⟨w,hw,O5⟩:=List.any_eq_true.1 hp;rw[beq_iff_eq] at O5;obtain⟨s3,h3⟩:=xE (u:=⟨t.pc+1,k+1,t.c⟩) (List.mem_map_of_mem (f:=bU (k+1)) hw) O5 rfl h2;exact⟨s3,by rw[List.singleton_append,List.cons_append];exact h3⟩
   ·exact⟨s2,by rw[List.map_append,List.append_assoc] at h2;exact h2⟩
  ·rw[if_neg hh] at h2⊢;exact⟨s2,by rw[List.nil_append];exact h2⟩
theorem uC {code:List aK} {r:Int} {n:Nat}:∀(l acc:List gk),(∀t∈l,t.pc+1<n)→(∀t∈acc,t.pc<n)→∀t∈dW code r l acc,t.pc<n
 |[],acc,_,h=>h
 |t::ts,acc,hl,h=>by
  unfold dW;refine uC ts _ (fun u hu=>hl u (List.mem_cons_of_mem _ hu)) ?_;have:=hl t (List.mem_cons_self ..)
  split
  ·unfold lq
   split
   ·exact h
   ·intro u hu
    rcases List.mem_append.1 hu with hu|hu
    ·exact h u hu
    ·simp only[List.mem_cons,List.not_mem_nil,or_false] at hu;subst hu;exact this
  ·exact h
def lR (code:List aK) (start:Nat):List (Nat×Nat)→Nat→PL→PL
 |[],pl,l=>jH code pl l
 |g::gs,pl,l=>lR code start gs (pl+gV (g.2:Nat)) (eZ code pl start (g.1:Nat) l)
def gd (start k n:Nat):List ft:=(List.range' k (n+1-k)).map fun j=>⟨start,j,aR⟩
theorem nh {start k n:Nat} (h:k≤n):gd start k n=⟨start,k,aR⟩::gd start (k+1) n:=by
 unfold gd;rw[show n+1-k=(n+1-(k+1))+1 by omega,List.range'_succ];rfl
theorem tM {start n:Nat}:gd start (n+1) n=[]:=by unfold gd;rw[Nat.sub_self];rfl
theorem xJ:∀(l:List (Nat×Nat)) (a:Int) (k:Nat) (g:Nat×Nat),l[k]?=some g→(tA a l).getD (k+1) 0=(tA a l).getD k 0+(g.2:Nat)
 |[],_,_,_,h=>by simp at h
 |x::r,a,0,g,h=>by
  simp only[List.getElem?_cons_zero,Option.some.injEq] at h;subst h;cases r<;>rfl
 |x::r,a,k+1,g,h=>by
  rw[List.getElem?_cons_succ] at h;exact xJ r _ k g h
theorem tj {code:List aK} {ns start:Nat} {gs:List (Nat×Nat)} (hsh:∀pc i,code[pc]?=some i→cJ code.length ns pc i=true) (c8:start<code.length) (hg:∀g∈gs,1≤g.2∧g.2≤4):
  ∀(m k pl:Nat) (l:PL) (s:Sn),k+m=gs.length→(tA 0 gs).getD k 0=(pl:Int)→(pl=0↔k=0)→(∀a b,k≤b→s a b=false)→(∀t∈l.fe,t.pc<code.length)→
   ∃r s',kL (bK code gs (tA 0 gs)) s (l.fe.map (bU k)++(if l.dn=true then[] else gd start (k+1) gs.length)) r s'∧(lR code start (gs.drop k) pl l).dn=(r.isSome||l.dn)∧(∀c,r=some c→(lR code start (gs.drop k) pl l).aX=c)∧(r=none→l.dn=true→(lR code start (gs.drop k) pl l).aX=l.aX)
 |0,k,pl,l,s,hk,fF,hz,hs,GA=>by
  have hkn:k=gs.length:=by omega
  subst hkn;rw[List.drop_length,tM,ite_self,List.append_nil];obtain⟨new,g1,g2,g3,g4⟩:=tm (gs:=gs) (e:=true) hsh fF hz ⟨fun _=>rfl,fun _=>rfl⟩ l.fe (jC code.length l.dn l.aX) s (by simp[jC]) GA (fun a ha=>by rw[hs a _ (Nat.le_refl _)];simp[jC,List.getD_eq_getElem?_getD,List.getElem?_replicate,ha])
  have QH:∀x:List gk,gw code gs gs.length x=[]:=fun x=>by
   unfold gw;rw[List.flatMap_eq_nil_iff];intro t _;rw[if_neg (fun h=>Nat.lt_irrefl _ h.1)]
  rw[QH] at g4;obtain⟨_,q2,q3⟩:=g4 none s .nil;unfold lR jH
  cases hh:GS code pl true l.fe (jC code.length l.dn l.aX) with
  |true=>
   obtain⟨s2,h2⟩:=q2 rfl hh;exact⟨_,s2,h2,by simp[g3 hh],fun c hc=>(by cases hc;rfl),fun h=>(by cases h)⟩
  |false=>
   obtain⟨s2,h2,_⟩:=q3 rfl hh;obtain⟨h3,h4⟩:=g2 hh;exact⟨_,s2,h2,h3,fun c hc=>(by cases hc),fun _ _=>h4⟩
 |m+1,k,pl,l,s,hk,fF,hz,hs,GA=>by
  have hU:k<gs.length:=by omega
  obtain⟨g,FZ⟩:∃g,gs[k]?=some g:=⟨gs[k]'hU,List.getElem?_eq_getElem _⟩
  have bh:=hg g (List.mem_of_getElem? FZ)
  have p_:gs.drop k=g::gs.drop (k+1):=by
   rw[List.drop_eq_getElem_cons hU]
   congr 1
   exact Option.some.inj ((List.getElem?_eq_getElem _).symm.trans FZ)
  have wD:(((gs.getD k (0,0)).1:Nat):Int)=((g.1:Nat):Int):=by rw[List.getD_eq_getElem?_getD,FZ];rfl
  have hcl:gV ((g.2:Nat):Int)=g.2:=by unfold gV;omega
  obtain⟨new,g1,g2,g3,g4⟩:=tm (gs:=gs) (e:=false) hsh fF hz ⟨fun h=>(by cases h),fun h=>absurd h (by omega)⟩ l.fe (jC code.length l.dn l.aX) s (by simp[jC]) GA (fun a ha=>by rw[hs a _ (Nat.le_refl _)];simp[jC,List.getD_eq_getElem?_getD,List.getElem?_replicate,ha]);obtain⟨_,hb⟩:=mf (code:=code) (pl:=pl) (e:=false) (l:=l.fe) (dn:=l.dn) (aX:=l.aX);rw[p_];unfold lR;rw[hcl];unfold eZ;generalize mc code pl false l.fe (jC code.length l.dn l.aX)=w at*;simp only[jC,List.nil_append] at g1 g2;subst g1
  have P_:∀t∈w.rdy,t.pc+1<code.length:=fun t ht=>by
   obtain⟨i,hi,h1⟩:=hb t ht
   rcases d_ (hsh _ _ hi) with h|⟨h,_⟩|⟨h,_⟩|⟨h,_⟩|⟨h,_⟩|⟨h,_⟩|⟨_,h⟩<;>omega
  have Qa:=uC (code:=code) (r:=((g.1:Nat):Int)) w.rdy [] P_ (fun t h=>by cases h);have MT:(tA 0 gs).getD (k+1) 0=((pl+g.2:Nat):Int):=by rw[xJ gs 0 k g FZ,fF];omega
  by_cases hd:w.dn=true
  ·rw[if_pos hd];obtain⟨r,s',h1,h2,h3,h4⟩:=tj hsh c8 hg m (k+1) (pl+g.2) ⟨w.dn,w.aX,dW code ((g.1:Nat):Int) w.rdy []⟩ s (by omega) MT ⟨fun h=>absurd h (by omega),fun h=>absurd h (by omega)⟩ (fun a b hb=>hs a b (by omega)) Qa;simp only[hd,if_true] at h1 h2 h3 h4⊢;obtain⟨s2,h5⟩:=mE hU wD w.rdy [] [] s s' r h1;rw[List.map_nil,List.nil_append,List.append_nil] at h5;obtain⟨q1,q2,q3⟩:=g4 _ _ h5
   cases hr:r with
   |some c=>
    subst hr;obtain⟨s3,h6⟩:=q1 c rfl;obtain⟨s4,h7⟩:=(cz h6 (if l.dn=true then[] else gd start (k+1) gs.length)).1 c rfl;exact⟨_,s4,h7,by rw[h2];rfl,h3,fun h=>by cases h⟩
   |none=>
    subst hr
    cases hh:GS code pl false l.fe (jC code.length l.dn l.aX) with
    |true=>
     obtain⟨s3,h6⟩:=q2 rfl hh;obtain⟨s4,h7⟩:=(cz h6 (if l.dn=true then[] else gd start (k+1) gs.length)).1 _ rfl;exact⟨_,s4,h7,by rw[h2];rfl,fun c hc=>by cases hc;exact h4 rfl trivial,fun h=>by cases h⟩
    |false=>
     obtain⟨s3,h6,_⟩:=q3 rfl hh;obtain⟨e1,e2⟩:=g2 hh;rw[if_pos (e1.symm.trans hd),List.append_nil];exact⟨_,s3,h6,by rw[h2,←e1,hd],fun c hc=>(by cases hc),fun _ _=>(h4 rfl trivial).trans e2⟩
  ·rw[if_neg hd];rw[Bool.not_eq_true] at hd
   have hh:GS code pl false l.fe (jC code.length l.dn l.aX)=false:=by
    cases h:GS code pl false l.fe (jC code.length l.dn l.aX) with
    |false=>rfl
    |true=>rw[g3 h] at hd;cases hd
   obtain⟨e1,e2⟩:=g2 hh;have tf:l.dn=false:=e1.symm.trans hd
   obtain⟨r,s',h1,h2,h3,h4⟩:=tj hsh c8 hg m (k+1) (pl+g.2) ⟨w.dn,w.aX,lq (dW code ((g.1:Nat):Int) w.rdy []) ⟨start,aR⟩⟩ s (by omega) MT ⟨fun h=>absurd h (by omega),fun h=>absurd h (by omega)⟩ (fun a b hb=>hs a b (by omega)) (by
    unfold lq
    split
    ·exact Qa
    ·intro u hu
     rcases List.mem_append.1 hu with hu|hu
     ·exact Qa u hu
     ·simp only[List.mem_cons,List.not_mem_nil,or_false] at hu;subst hu;exact c8)
   simp only[hd,tf,Bool.false_eq_true,if_false,Bool.or_false] at h1 h2 h3 h4⊢
   have h0:∃s3,kL (bK code gs (tA 0 gs)) s ((dW code ((g.1:Nat):Int) w.rdy []).map (bU (k+1))++gd start (k+1) gs.length) r s3:=by
    rw[nh (by omega)];unfold lq at h1
    split at h1
    ·rename_i hp;obtain⟨u,hu,jq⟩:=List.any_eq_true.1 hp;rw[beq_iff_eq] at jq;exact xE (u:=⟨start,k+1,aR⟩) (List.mem_map_of_mem (f:=bU (k+1)) hu) jq rfl h1
    ·exact⟨s',by rw[List.map_append,List.append_assoc] at h1;exact h1⟩
   obtain⟨s3,h5⟩:=h0;obtain⟨s4,h6⟩:=mE hU wD w.rdy [] _ s s3 r h5;rw[List.map_nil,List.nil_append] at h6
   rcases kh h6 _ _ rfl with⟨c,u1,rfl,hA⟩|⟨u1,hA,hB⟩
   ·obtain⟨q1,_,_⟩:=g4 _ _ hA;obtain⟨s5,h7⟩:=q1 c rfl;obtain⟨s6,h8⟩:=(cz h7 (gd start (k+1) gs.length)).1 c rfl;exact⟨_,s6,h8,h2,h3,fun h=>by cases h⟩
   ·obtain⟨_,_,q3⟩:=g4 _ _ hA;obtain⟨s5,h7,h8,_⟩:=q3 rfl hh
    obtain⟨z,k1,_,_⟩:=ji (je code gs (tA 0 gs)) hB (fun t ht=>by
     unfold gd at ht;obtain⟨j,hj,rfl⟩:=List.mem_map.1 ht;have:=List.mem_range'_1.1 hj
     show k<j;omega) s5 h8
    exact⟨r,z,(cz h7 _).2 rfl _ _ k1,h2,h3,fun _ h=>by cases h⟩
theorem rG {idx:Nat→Nat→Nat} {ok:Nat→Nat→Prop} {fv:ft→zX} (hI:Ln idx ok) (hK:GW fv ok) {fuel start:Nat}:∀(m i:Nat) (arr:List Bool) (V:Sn),zM idx ok arr V→(∀j,j<i+m→ok start j)→3*arr.length+1≤fuel→∃s',kL fv V ((List.range' i m).map fun j=>⟨start,j,aR⟩) (nK idx fv fuel start m i arr) s'
 |0,i,arr,V,_,_,_=>⟨V,.nil⟩
 |m+1,i,arr,V,hr,c8,hf=>by
  have Tu:=List.count_le_length (a:=false) (l:=arr)
  obtain⟨sP,lK,hrel⟩:=BQ hI hK fuel arr [⟨start,i,aR⟩] V (by simp only[List.length_cons,List.length_nil];omega) hr (fun t ht=>by
   simp only[List.mem_cons,List.not_mem_nil,or_false] at ht;subst ht
   exact c8 i (by omega))
  unfold nK;rw[List.range'_succ,List.map_cons]
  cases hQ:(jx idx fv fuel arr [⟨start,i,aR⟩]).1 with
  |some c=>
   rw[hQ] at lK;exact(cz lK _).1 c rfl
  |none=>
   rw[hQ] at lK;obtain⟨s',h⟩:=rG hI hK m (i+1) _ sP hrel (fun j hj=>c8 j (by omega)) (by rw[lT];exact hf);exact⟨s',(cz lK _).2 rfl _ _ h⟩
theorem J8 (b:List UInt8):(gN b).2≤4:=by
 match b with
 |[]=>exact Nat.le_of_ble_eq_true rfl
 |c::xs=>
  unfold gN
  split
  ·exact Nat.le_of_ble_eq_true rfl
  ·rename_i hz;simp only[gj] at hz⊢
   split at hz
   ·simp at hz
   ·rename_i hk;rw[if_neg hk];have:=oy _ _ _ _ _ _ hz;rw[this.1];have:=nv c.toNat;show(ch c.toNat).1.toNat+1≤4;omega
theorem Lh:∀(n:Nat) (b:List UInt8),b.length≤n→∀g∈eX b,1≤g.2∧g.2≤4:=by
 intro n
 induction n with
 |zero=>
  intro b hb g hg;have:b=[]:=List.length_eq_zero_iff.1 (by omega);subst this;rw[j_] at hg;cases hg
 |succ n ih=>
  intro b hb g hg
  by_cases h:b=[]
  ·subst h;rw[j_] at hg;cases hg
  ·rw[mZ h] at hg
   rcases List.mem_cons.1 hg with rfl|hg
   ·exact⟨iP b,J8 b⟩
   ·have hp:=iP b;exact ih (b.drop (gN b).2) (by rw[List.length_drop];have:=List.length_pos_iff.2 h;omega) g hg
def gR (s:Nat):PL:=⟨false,aR,[⟨s,aR⟩]⟩
theorem Aa {p:Pg} (hR:bW p) {r:Nat} {start:Int} (hs:p.az[r]?=some start) (b:List UInt8):
  (lR p.code start.toNat (eX b) 0 (gR start.toNat)).dn=(eK p (r:Nat) b).isSome∧∀c,eK p (r:Nat) b=some c→(lR p.code start.toNat (eX b) 0 (gR start.toNat)).aX=c:=by
 have c8:=hR.st start (List.mem_of_getElem? hs);have hlt:=bj hs;have hg:=Lh _ b (Nat.le_refl _);unfold eK;rw[if_pos ⟨lU hR,by omega,by omega⟩]
 have wD:(p.az.getD ((r:Nat):Int).toNat 0).toNat=start.toNat:=by
  rw[Int.toNat_natCast,List.getD_eq_getElem?_getD,hs];rfl
 rw[wD];generalize eX b=gs at*
 obtain⟨s',h1⟩:=rG (idx:=j0 p.code.length) (ok:=fun a b=>a<p.code.length∧b≤gs.length) (fv:=bK p.code gs (tA 0 gs)) (fuel:=3*((gs.length+1)*p.code.length)+1) (start:=start.toNat) (by
   rintro a b a' b' ⟨q1,q2⟩ ⟨q3,q4⟩ he;obtain⟨r1,r2⟩:=Fs q1 q3 he
   exact⟨r2,r1⟩) (fun t l ht hl=>⟨tL _ _ _ _ _ hl,fun u hu=>xu (p:=p) hR ht l hl u hu⟩) (gs.length+1) 0 (List.replicate ((gs.length+1)*p.code.length) false) (fun _ _=>false) (by
   rintro a b ⟨q1,q2⟩;unfold j0
   rw[List.getElem?_replicate,if_pos (mul_lt (by omega) q1)]) (fun j hj=>⟨by omega,by omega⟩) (by rw[List.length_replicate];exact Nat.le_refl _)
 obtain⟨r2,s2,g1,g2,g3,_⟩:=tj (ns:=p.az.length) (gs:=gs) (start:=start.toNat) hR.sh (by omega) hg gs.length 0 0 (gR start.toNat) (fun _ _=>false) (by omega) (by cases gs<;>rfl) ⟨fun _=>rfl,fun _=>rfl⟩ (fun _ _ _=>rfl) (fun t ht=>by
  simp only[gR,List.mem_cons,List.not_mem_nil,or_false] at ht;subst ht
  show start.toNat<p.code.length;omega)
 have Pf:(gR start.toNat).fe.map (bU 0)++(if(gR start.toNat).dn=true then[] else gd start.toNat (0+1) gs.length)=(List.range' 0 (gs.length+1)).map fun j=>(⟨start.toNat,j,aR⟩:ft):=by
  simp only[gR,Bool.false_eq_true,if_false,List.map_cons,List.map_nil,List.singleton_append];exact(nh (k:=0) (Nat.zero_le _)).symm
 rw[Pf] at g1;obtain⟨he,_⟩:=h1.one g1;rw[List.drop_zero] at g2 g3;rw[he];exact⟨by rw[g2];simp[gR],g3⟩
end Go.Proofs.Ytbdnabmmlbiomaa
