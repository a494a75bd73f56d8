/-
 The program's search: from every place.
-/
import Derived.Test.YtbdilgkfnacahaaXGQh
import Derived.Test.YtbdilgkfnacahaaXGJf
import Derived.Test.YtbdilgkfnacahaaXGPh
set_option maxRecDepth 100000
set_option maxHeartbeats 4000000
set_option linter.unusedSimpArgs false
set_option linter.unusedVariables false
namespace Go.Proofs.Ytbdilgkfnacahaa
open Go.V Go
def ak (fr:Go.V.Fr) (k:Nat):Go.V.D:=Go.V.nth .bA fr.loc k
def l6:Int→List (Nat×Nat)→List Int
 |a,[]=>[a]
 |a,g::r=>a::l6 (a+(g.2:Nat)) r
theorem q9:∀(l:List (Nat×Nat)) (a:Int),(l6 a l).length=l.length+1
 |[],_=>rfl
 |g::r,a=>by simp only[l6,List.length_cons,q9 r]
def mY (idx:Nat→Nat→Nat) (eS:dY→r_) (fuel start:Nat):Nat→Nat→List Bool→Option oY
 |0,_,_=>none
 |m+1,i,arr=>match(fS idx eS fuel arr [⟨start,i,aK⟩]).1 with
  |some c=>some c
  |none=>mY idx eS fuel start m (i+1) (fS idx eS fuel arr [⟨start,i,aK⟩]).2
noncomputable def ig (p:Pg) (cu:Int) (b:List UInt8):Option oY:=
 if dec (eQ p)=true∧0≤cu∧cu<(p.aF.length:Int) then
  mY (kj p.code.length) (bn p.code (dX b) (l6 0 (dX b))) (3*(((dX b).length+1)*p.code.length)+1) (p.aF.getD cu.toNat 0).toNat ((dX b).length+1) 0 (List.replicate (((dX b).length+1)*p.code.length) false)
 else none
theorem lB (idx:Nat→Nat→Nat) (eS:dY→r_):∀(f:Nat) (arr:List Bool) (bE:List dY),(fS idx eS f arr bE).2.length=arr.length
 |0,arr,_=>by simp[fS]
 |f+1,arr,[]=>by simp[fS]
 |f+1,arr,t::bE=>by
  unfold fS
  split
  ·split
   ·simp
   ·rw[lB idx eS f,List.length_set]
  ·exact lB idx eS f arr bE
theorem Af {s0:St} {p:Pg} {b:List UInt8} (hp:p.ok) (cu:Int) (hbl:b.length≤1048576) (hsz:((dX b).length+1)*p.code.length≤134217728):
  Ev pv 35 [p.d,.int .i64 cu,.str b] s0 (DR (ig p cu b)) s0:=by
 obtain⟨nF,Km⟩:=lO _ b (Nat.le_refl _);have aS:∀(st:St) (x:D),Bytes st x b→Ev pv 53 [x] st (bZ (dX b)) st:=fun st x h=>AJ h hbl;unfold ig;generalize dX b=gs at*;refine Ev.j8 rfl Qe rfl rfl rfl ?_;dsimp only[u3,u4,List.length,Nat.reduceSub,Nat.reduceAdd,w1,w2];obtain⟨bN,hF,hH⟩:=ri s0;generalize aj .ro s0=S at*;have hc:=hp.c.arg s0.bs.length S;have hs:=hp.s.arg s0.bs.length S;have hlen:=hp.cl;have jb:=hp.sl;unfold Pg.d;refine qq<|qj fun K hK=>qb hH fun k3 st Kj hH=>?_;refine qa hH fun k6 st Et hH=>?_;refine qm ?_;refine qe hK<|qq<|qq<|af.jO 28 (.bool ((!dec (eQ p)||decide (cu<0))||decide (cu≥p.aF.length))) [15,16,17,18,19,20,21,22,23,24,25,26,27] ?_ (fun ff tmp=>?_)
 ·refine ae.bF (m:=2) hH rfl (ev rfl) (by exact bu) (by dsimp only[List.drop_succ_cons,List.drop_zero,List.take_succ_cons,List.take_zero,aL,aq,aM,aQ,aE,aK,ax]<;>rfl) rfl rfl (by dsimp only[Fr.put,u1,u2]<;>rfl) ?_;refine qv (o_ (p:=p) hp) ?_;refine qg ?_;refine qm ?_;refine ae.two 18 rfl (fun aZ=>?_) (fun aZ=>?_)
  ·refine qs ?_ (hg:=wn aZ);refine qs ?_ (hg:=wn aZ);refine qt aZ ?_;refine qm ?_;refine qs ?_;refine qs ?_;refine qs ?_;refine qs ?_;refine qs ?_;refine qg ?_;refine ae.nil (aX ?_);dsimp only[aD,List.foldl,nth,u2,u1];dsimp only[Fr.au,Fr.put,Fr.clean,Fr.ev,Fr.get,nth,look,u1,u2,v1,v2,v4]
   all_goals(simp[aZ];done)
  ·refine qm ?_ (hg:=wi aZ);refine qg ?_ (hg:=wi aZ);refine qu aZ ?_;refine qm ?_;refine ae.two 22 rfl (fun et=>?_) (fun et=>?_)
   ·refine qs ?_ (hg:=wn et);refine qs ?_ (hg:=wn et);refine qs ?_ (hg:=wn et);refine qs ?_ (hg:=wn et);refine qs ?_ (hg:=wn et);refine qt et ?_;refine ae.nil (aX ?_);dsimp only[aD,List.foldl,nth,u2,u1];dsimp only[Fr.au,Fr.put,Fr.clean,Fr.ev,Fr.get,nth,look,u1,u2,v1,v2,v4]
    all_goals(simp[aZ,et];done)
   ·refine qm ?_ (hg:=wi et);refine qp (o:=1) ?_ (hg:=wi et);refine ql hH bu ?_ (hg:=wi et);refine qn ?_ (hg:=wi et);simp only[List.length_map];refine qg ?_ (hg:=wi et);refine qu et ?_;refine ae.nil (aX ?_);dsimp only[aD,List.foldl,nth,u2,u1];dsimp only[Fr.au,Fr.put,Fr.clean,Fr.ev,Fr.get,nth,look,u1,u2,v1,v2,v4]
    all_goals(simp[aZ,et];done)
 dsimp only[aD,List.foldl,nth,u2,u1];generalize ff 15=VG;generalize ff 16=Sd;generalize ff 17=VF;generalize ff 18=Sc;generalize ff 19=Sb;generalize ff 20=Sa;generalize ff 21=R_;generalize ff 22=R9;generalize ff 23=R8;generalize ff 24=R7;generalize ff 25=R6;generalize ff 26=R5;generalize ff 27=R4;refine qc (fun h0=>?_) (fun h0=>?_)<;>try simp only[cs] at h0
 ·have hn:¬(dec (eQ p)=true∧0≤cu∧cu<(p.aF.length:Int)):=by
   rintro⟨h1,h2,h3⟩;rw[h1] at h0;simp at h0;omega
  rw[if_neg hn];refine qq<|qj fun K hK=>?_;refine ae.go (d:=.agg (aE ax)) (st1:=_) rfl rfl rfl (by dsimp only[Fr.put,u1,u2]<;>rfl) ?_;refine qS hH aB fun st hH=>?_;dsimp only[u2,u1,u3,u4,setMany,u5,u6,D.cells,Nat.reduceAdd,aL,aq,aM,aQ,aE,aK,ax] at hH;refine qm ?_;refine qe hK<|af.ret ⟨rx,_,hH.cm rfl aB rfl rfl,rl bN hH rfl⟩
 ·have h1:eQ p∧0≤cu∧cu<(p.aF.length:Int):=by
   simp only[Bool.or_eq_false_iff,Bool.not_eq_false',decide_eq_false_iff_not] at h0;exact⟨oM h0.1.1,by omega,by omega⟩
  obtain⟨hR,zQ,Jr⟩:=h1;rw[if_pos ⟨nH hR,zQ,Jr⟩];obtain⟨ru,rfl⟩:=Int.eq_ofNat_of_zero_le zQ
  obtain⟨start,jf⟩:∃v,p.aF[ru]?=some v:=⟨p.aF[ru]'(by omega),List.getElem?_eq_getElem _⟩
  have eA:=hR.st start (List.mem_of_getElem? jf);obtain⟨sn,rfl⟩:=Int.eq_ofNat_of_zero_le eA.1
  have zT:(p.aF.getD ((ru:Nat):Int).toNat 0).toNat=sn:=by
   rw[Int.toNat_natCast,List.getD_eq_getElem?_getD,jf];rfl
  rw[zT];have I_:=cW jf;have zS:Arg s0.bs.length S 2 (bZ gs) (gs.map aU):=Arg.pure (fun st=>cT st gs);refine af.skip<|qq<|qj fun K hK=>?_;refine ae.bF (m:=2) hH rfl (ev rfl) (by exact bu) (by dsimp only[List.drop_succ_cons,List.drop_zero,List.take_succ_cons,List.take_zero,aL,aq,aM,aQ,aE,aK,ax]<;>rfl) rfl rfl (by dsimp only[Fr.put,u1,u2]<;>rfl) ?_;refine qm ?_;refine ae.vG hH rfl rfl rfl rfl rfl (by omega) (fun _=>by dsimp only[Fr.put,u1,u2]<;>rfl) (fun Ra st L5 hH=>?_);refine qv ((aS _ _ (hH.rows aB))) ?_;refine ae.go (d:=.agg [p.cd,p.sd,bZ gs,.nul,.nul,.nul]) (st1:=_) rfl rfl rfl (by dsimp only[Fr.put,u1,u2]<;>rfl) ?_;refine qb hH fun Ld st UW hH=>?_;refine qm ?_;refine qe hK<|qq<|qj fun K hK=>qm ?_;refine qe hK<|qq<|qq<|qj fun K hK=>qm ?_;refine qg ?_;refine qp (o:=2) ?_;refine ql hH aB ?_;refine qn ?_;simp only[List.length_map];refine qm ?_;refine qe hK<|af.block<|af.loop (fun mm fr st=>∃(i:Nat) (a:Int) (done:List Int) (pd:D),fr.clean=⟨89,[ak fr 0,.int .i64 (ru:Nat),ak fr 2,.ptr k3 0 0,ak fr 4,ak fr 5,.ptr k6 0 0,.bool false,.ptr Ld 0 0,.int .i64 a,ak fr 10,ak fr 11,ak fr 12,ak fr 13,ak fr 14,ak fr 15,ak fr 16,ak fr 17,ak fr 18,ak fr 19,ak fr 20,ak fr 21,ak fr 22,ak fr 23,ak fr 24,ak fr 25,ak fr 26,ak fr 27,ak fr 28,ak fr 29,ak fr 30,ak fr 31,ak fr 32,ak fr 33,ak fr 34,ak fr 35,ak fr 36,ak fr 37,ak fr 38,bZ gs,.int .i64 (gs.length:Nat),.int .i64 (i:Nat),ak fr 42,ak fr 43,ak fr 44,ak fr 45,ak fr 46,ak fr 47,ak fr 48,ak fr 49,ak fr 50,ak fr 51,ak fr 52,ak fr 53,ak fr 54,ak fr 55,ak fr 56,ak fr 57,ak fr 58,ak fr 59,ak fr 60,ak fr 61,ak fr 62,ak fr 63,ak fr 64,ak fr 65,ak fr 66,ak fr 67,ak fr 68,ak fr 69,ak fr 70,ak fr 71,ak fr 72,ak fr 73,ak fr 74,ak fr 75,ak fr 76,ak fr 77,ak fr 78,ak fr 79,ak fr 80,ak fr 81,ak fr 82,ak fr 83,ak fr 84,ak fr 85,ak fr 86,ak fr 87,ak fr 88],[]⟩∧Has s0.bs.length S st [.box Ld (.mem 0 false [p.cd,p.sd,bZ gs,pd,.nul,.nul]),.aT pd 1 (done.map aq),.box k6 (.mem 0 false (aE ax)),.box k3 (.mem 0 false [p.cd,p.sd])]∧(i+mm=gs.length)∧(done++l6 a (gs.drop i)=l6 0 gs)∧(0≤a)∧(a≤1048576*i)∧(done.length=i)) (gs.length) ?_ ?_
  ·refine⟨0,0,[],.nul,rfl,?_,by omega,rfl,Int.le_refl _,(by omega),rfl⟩;exact(((hH.drop 0).erase 1).fx 1).front (j:=1) rfl
  rintro mm fr st ⟨i,a,done,pd,hfr,hH,hi,M4,W0,WZ,Kn⟩;rw[hfr];clear hfr;generalize ak fr=ee;clear fr;refine qq<|qj fun K hK=>qg ?_;refine qe hK<|qq ?_;refine af.cond (by rfl) (fun h3=>?_) (fun h3=>?_)<;>try simp only[decide_eq_true_eq,decide_eq_false_iff_not] at h3
  ·refine af.skip ?_
   obtain⟨g,hg⟩:∃g,gs[i]?=some g:=⟨gs[i]'(by omega),List.getElem?_eq_getElem _⟩
   have bm:=Km g (List.mem_of_getElem? hg);have gI:(gs.map aU)[i]?=some (aU g):=by rw[List.getElem?_map,hg];rfl
   have x8:gs.drop i=g::gs.drop (i+1):=by
    have:=List.drop_eq_getElem_cons (l:=gs) (i:=i) (by omega);rw[this];congr 1;rw[List.getElem?_eq_getElem (by omega)] at hg;exact Option.some.inj hg
   refine qq<|af.block<|qq<|qj fun K hK=>qr fun QX LA=>?_;refine ae.dt rfl (ev rfl) (by assumption) rfl (by dsimp only[Fr.put,u1,u2]<;>rfl) ?_;refine qa hH fun Le st Eu hH=>?_;dsimp only[u2,u1,u3,u4,setMany,u5,u6,D.cells,Nat.reduceAdd,aL,aq,aM,aQ,aE,aK,ax] at hH;refine qS hH aB fun st hH=>?_;dsimp only[u2,u1,u3,u4,setMany,u5,u6,D.cells,Nat.reduceAdd,aL,aq,aM,aQ,aE,aK,ax] at hH;refine qe hK<|qq<|qj fun K hK=>qm ?_;refine qm ?_;refine qg ?_;refine qp (o:=3) ?_;refine ql hH bu ?_;refine qm ?_;refine qh (s:=1) (vs:=[_]) hH fun Ww st UP hH=>?_;refine qP hH gm (hH.rows aB) fun Sm st hH=>?_;dsimp only[u2,u1,u3,u4,setMany,u5,u6,D.cells,Nat.reduceAdd,aL,aq,aM,aQ,aE,aK,ax] at hH;refine qg ?_;refine qp (o:=3) ?_;refine qT hH ez (fun st hH=>?_) (jc:=hH.iN gm);dsimp only[u2,u1,u3,u4,setMany,u5,u6,D.cells,Nat.reduceAdd,aL,aq,aM,aQ,aE,aK,ax] at hH;refine qe hK<|qj fun K hK=>qm ?_;refine qp (o:=1) ?_;refine ql hH bu ?_;refine qA ?_;refine qm ?_;refine qe hK<|qj fun K hK=>qA ?_;refine qm ?_;refine qe hK ?_;exact⟨mm-1,by omega,⟨i+1,a+(g.2:Nat),done++[a],Sm,rfl,(by rw[List.map_append];exact hH.drop 2),by omega,by rw[←M4,x8];simp[l6],by omega,by omega,by simp[Kn]⟩⟩
  ·refine af.exit ?_;have x8:gs.drop i=[]:=List.drop_eq_nil_of_le (by omega);rw[x8] at M4;simp only[l6] at M4;have ji:=q9 gs 0;refine qq<|qj fun K hK=>qm ?_;refine qm ?_;refine qg ?_;refine qp (o:=3) ?_;refine ql hH aB ?_;refine qm ?_;refine qh (s:=1) (vs:=[_]) hH fun Q8 st L1 hH=>?_;dsimp only[u2,u1,u3,u4,setMany,u5,u6,D.cells,Nat.reduceAdd,aL,aq,aM,aQ,aE,aK,ax] at hH;refine qP hH ez (hH.rows aB) fun MQ st hH=>?_;dsimp only[u2,u1,u3,u4,setMany,u5,u6,D.cells,Nat.reduceAdd,aL,aq,aM,aQ,aE,aK,ax] at hH;refine qg ?_;refine qp (o:=3) ?_;refine qT hH bu (fun st hH=>?_) (jc:=hH.iN ez);dsimp only[u2,u1,u3,u4,setMany,u5,u6,D.cells,Nat.reduceAdd,aL,aq,aM,aQ,aE,aK,ax] at hH;refine qe hK ?_
   have hH:Has s0.bs.length S st [.box Ld (.mem 0 false [p.cd,p.sd,bZ gs,MQ,.nul,.nul]),.aT MQ 1 ((l6 0 gs).map aq),.box k6 (.mem 0 false (aE ax)),.box k3 (.mem 0 false [p.cd,p.sd])]:=by
    rw[←M4,List.map_append];exact hH.drop 1
   rw[←ji] at hsz⊢;generalize l6 0 gs=bd at*;refine qq<|qj fun K hK=>qm ?_;refine qm ?_;refine qg ?_;refine qp (o:=3) ?_;refine ql hH aB ?_;refine qn ?_ (hR:=hH.rows bu);simp only[List.length_map];refine qp (o:=0) ?_;refine ql hH gm ?_;refine qn ?_;simp only[List.length_map];refine ae.na (z:=((bd.length*p.code.length:Nat):Int)) rfl (ev rfl) (ev rfl) (by rw[←Int.natCast_mul];exact cA (by simp only[hO];omega)) (by dsimp only[Fr.put,u1,u2]<;>rfl) ?_;refine ae.oy (s:=1) hH rfl rfl rfl rfl rfl rfl rfl rfl (Nat.le_of_ble_eq_true rfl) (by omega) (fun _=>by dsimp only[Fr.put,u1,u2]<;>rfl) (fun MU st L0 hH=>?_);dsimp only[u2,u1,u3,u4,setMany,u5,u6,D.cells,Nat.reduceAdd,aL,aq,aM,aQ,aE,aK,ax] at hH;refine qg ?_;refine qp (o:=4) ?_;refine qT hH bu fun st hH=>?_;dsimp only[u2,u1,u3,u4,setMany,u5,u6,D.cells,Nat.reduceAdd,aL,aq,aM,aQ,aE,aK,ax] at hH;refine qe hK<|qq<|qq<|qj fun K hK=>qm ?_;refine qg ?_;refine qp (o:=3) ?_;refine ql hH bu ?_;refine qn ?_ (hR:=hH.rows ez);simp only[List.length_map];refine qm ?_;refine qe hK ?_
   obtain⟨R,A2⟩:∃R,mY (kj p.code.length) (bn p.code gs bd) (3*(bd.length*p.code.length)+1) sn bd.length 0 (List.replicate (bd.length*p.code.length) false)=R:=⟨_,rfl⟩
   rw[A2];refine af.block<|af.loop (fun mm fr st=>∃(i:Nat) (ar:List Bool) (ld:D) (kh:List (List D)),fr.clean=⟨89,[ak fr 0,.int .i64 (ru:Nat),ak fr 2,.ptr k3 0 0,ak fr 4,ak fr 5,.ptr k6 0 0,.bool false,.ptr Ld 0 0,ak fr 9,ak fr 10,ak fr 11,ak fr 12,ak fr 13,ak fr 14,ak fr 15,ak fr 16,ak fr 17,ak fr 18,ak fr 19,ak fr 20,ak fr 21,ak fr 22,ak fr 23,ak fr 24,ak fr 25,ak fr 26,ak fr 27,ak fr 28,ak fr 29,ak fr 30,ak fr 31,ak fr 32,ak fr 33,ak fr 34,ak fr 35,ak fr 36,ak fr 37,ak fr 38,ak fr 39,ak fr 40,ak fr 41,ak fr 42,ak fr 43,ak fr 44,ak fr 45,ak fr 46,ak fr 47,ak fr 48,ak fr 49,ak fr 50,ak fr 51,ak fr 52,ak fr 53,ak fr 54,ak fr 55,ak fr 56,ak fr 57,ak fr 58,ak fr 59,ak fr 60,ak fr 61,ak fr 62,ak fr 63,ak fr 64,ak fr 65,ak fr 66,ak fr 67,ak fr 68,ak fr 69,ak fr 70,ak fr 71,ak fr 72,ak fr 73,ak fr 74,ak fr 75,ak fr 76,ak fr 77,ak fr 78,ak fr 79,ak fr 80,ak fr 81,ak fr 82,ak fr 83,ak fr 84,ak fr 85,ak fr 86,.int .i64 (bd.length:Nat),.int .i64 (i:Nat)],[]⟩∧Has s0.bs.length S st [.box Ld (.mem 0 false [p.cd,p.sd,bZ gs,MQ,.win MU 0 0 (bd.length*p.code.length) 1,ld]),.aT ld 12 kh,.aT MQ 1 (bd.map aq),.aT (.win MU 0 0 (bd.length*p.code.length) 1) 1 (ar.map aM),.box k6 (.mem 0 false (aE ax)),.box k3 (.mem 0 false [p.cd,p.sd])]∧(i+mm=bd.length)∧(ar.length=bd.length*p.code.length)∧(mY (kj p.code.length) (bn p.code gs bd) (3*(bd.length*p.code.length)+1) sn mm i ar=R)) (bd.length) ?_ ?_
   ·refine⟨0,List.replicate (bd.length*p.code.length) false,.nul,[],rfl,?_,by omega,by rw[List.length_replicate],A2⟩;rw[List.map_replicate];exact((hH.front (j:=2) rfl).fx 12).front (j:=3) rfl
   rintro mm fr st ⟨i,ar,ld,kh,hfr,hH,hi,M6,yB⟩;rw[hfr];clear hfr;generalize ak fr=ee;clear fr;refine qq<|qj fun K hK=>qg ?_;refine qe hK<|qq ?_;refine af.cond (by rfl) (fun h4=>?_) (fun h4=>?_)<;>try simp only[decide_eq_true_eq,decide_eq_false_iff_not] at h4
   ·refine af.skip ?_
    obtain⟨mm,rfl⟩:∃m',mm=m'+1:=⟨mm-1,by omega⟩
    refine qq<|af.block<|qq<|qj fun K hK=>qm ?_;refine qm ?_;refine qe hK ?_;obtain⟨d,st1,aS,NH,IE,hd,Fh⟩:=Ac (start:=sn) (i:=i) hF hp hR (by omega) ji (by rw[←ji];exact hsz) (by rw[←ji];exact M6) (by omega) (by omega) hH;rw[M6] at hd Fh
    cases hD:(fS (kj p.code.length) (bn p.code gs bd) (3*(bd.length*p.code.length)+1) ar [⟨sn,i,aK⟩]).1 with
    |some c=>
     simp only[mY,hD] at yB;rw[hD] at hd;have hd:d=.tup [.agg (aE c),.bool true]:=hd;subst hd;refine qq<|qj fun K hK=>qm ?_;refine qp (o:=1) ?_;refine ql hH qz ?_;refine qm ?_;refine qr fun SH Oe=>?_;refine qR ?_;refine qm ?_;refine qv (aS) ?_;refine qm ?_;refine qg ?_;refine qg ?_;refine ae.oF Fh rfl rfl (fun _=>by dsimp only[Fr.put,u1,u2]<;>rfl) (fun MV st Jq hH=>?_);dsimp only[aE,ax] at hH;refine qT hH aB fun st hH=>?_;dsimp only[u2,u1,u3,u4,setMany,u5,u6,D.cells,Nat.reduceAdd,aL,aq,aM,aQ,aE,aK,ax] at hH;refine qm ?_;refine qe hK<|qq<|qj fun K hK=>qm ?_;refine qe hK<|qB ?_;refine qq<|qj fun K hK=>?_;refine ae.bF (m:=10) hH rfl (ev rfl) (by exact aB) (by dsimp only[List.drop_succ_cons,List.drop_zero,List.take_succ_cons,List.take_zero,aL,aq,aM,aQ,aE,aK,ax]<;>rfl) rfl rfl (ag rfl _) ?_;refine qS hH qz fun st hH=>?_;dsimp only[u2,u1,u3,u4,setMany,u5,u6,D.cells,Nat.reduceAdd,aL,aq,aM,aQ,aE,aK,ax] at hH;refine qm ?_;refine qe hK ?_;rw[←yB];refine af.ret ⟨rx,_,hH.cm rfl qz rfl rfl,rl bN hH rfl⟩
    |none=>
     have wX:=lB (kj p.code.length) (bn p.code gs bd) (3*(bd.length*p.code.length)+1) ar [⟨sn,i,aK⟩];simp only[mY,hD] at yB;rw[hD] at hd;have hd:d=.tup [.agg (aE ax),.bool false]:=hd;subst hd;refine qq<|qj fun K hK=>qm ?_;refine qp (o:=1) ?_;refine ql hH qz ?_;refine qm ?_;refine qr fun SH Oe=>?_;refine qR ?_;refine qm ?_;refine qv (aS) ?_;refine qm ?_;refine qg ?_;refine qg ?_;refine ae.oF Fh rfl rfl (fun _=>by dsimp only[Fr.put,u1,u2]<;>rfl) (fun MV st Jq hH=>?_);dsimp only[aE,ax] at hH;refine qT hH aB fun st hH=>?_;dsimp only[u2,u1,u3,u4,setMany,u5,u6,D.cells,Nat.reduceAdd,aL,aq,aM,aQ,aE,aK,ax] at hH;refine qm ?_;refine qe hK<|qq<|qj fun K hK=>qm ?_;refine qe hK<|qC ?_;refine af.skip<|qj fun K hK=>qA ?_;refine qm ?_;refine qe hK ?_;exact⟨mm,by omega,⟨i+1,_,NH,IE,rfl,(hH.drop 1),by omega,by rw[wX];exact M6,yB⟩⟩
   ·refine af.exit<|qq<|qj fun K hK=>ae.go (d:=.agg (aE ax)) (st1:=_) rfl rfl rfl (ag rfl _) ?_;refine qS hH iZ fun st hH=>?_;dsimp only[u2,u1,u3,u4,setMany,u5,u6,D.cells,Nat.reduceAdd,aL,aq,aM,aQ,aE,aK,ax] at hH;refine qm ?_;refine qe hK ?_
    have dD:R=none:=by
     have:mm=0:=by omega
     subst this;rw[←yB];rfl
    rw[dD];refine af.ret ⟨rx,_,hH.cm rfl iZ rfl rfl,rl bN hH rfl⟩
def aa (fr:Go.V.Fr) (k:Nat):Go.V.D:=Go.V.nth .bA fr.loc k
theorem tf (l:List (Nat×Nat)) (a:Int):(l6 a l)[0]?=some a:=by cases l<;>rfl
theorem tg:∀(l:List (Nat×Nat)) (a:Int) (i:Nat) (v:Int) (g:Nat×Nat),(l6 a l)[i]?=some v→l[i]?=some g→(l6 a l)[i+1]?=some (v+(g.2:Nat))
 |[],_,_,_,_,_,h=>by simp at h
 |x::r,a,0,v,g,h1,h2=>by
  simp only[l6,List.getElem?_cons_zero,Option.some.injEq] at h1 h2;subst h1;subst h2;simp only[l6,List.getElem?_cons_succ];exact tf r _
 |x::r,a,i+1,v,g,h1,h2=>by
  simp only[l6,List.getElem?_cons_succ] at h1 h2⊢;exact tg r _ i v g h1 h2
theorem y6:∀(l:List (Nat×Nat)) (a:Int) (i:Nat) (v:Int),(∀g∈l,g.2≤1048576)→(l6 a l)[i]?=some v→a≤v∧v≤a+1048576*i
 |[],a,i,v,_,h=>by
  cases i with
  |zero=>simp only[l6,List.getElem?_cons_zero,Option.some.injEq] at h;omega
  |succ i=>simp[l6] at h
 |x::r,a,0,v,_,h=>by
  simp only[l6,List.getElem?_cons_zero,Option.some.injEq] at h;omega
 |x::r,a,i+1,v,hs,h=>by
  simp only[l6,List.getElem?_cons_succ] at h;have h1:=y6 r _ i v (fun g hg=>hs g (List.mem_cons_of_mem _ hg)) h;have h2:=hs x (List.mem_cons_self ..);omega
def lj (n:Nat) (pc at_:Nat):Nat:=pc*(n+1)+at_
def oH (idx:Nat→Nat→Nat) (eS:dY→r_) (fuel start:Nat) (zero:List Bool):Nat→Nat→Option oY
 |0,_=>none
 |m+1,i=>match(fS idx eS fuel zero [⟨start,i,aK⟩]).1 with
  |some c=>some c
  |none=>oH idx eS fuel start zero m (i+1)
noncomputable def nC (p:Pg) (cu:Int) (b:List UInt8):Option oY:=
 if dec (eQ p)=true∧0≤cu∧cu<(p.aF.length:Int) then
  oH (lj (dX b).length) (bn p.code (dX b) (l6 0 (dX b))) (3*(p.code.length*((dX b).length+1))+1) (p.aF.getD cu.toNat 0).toNat (List.replicate (p.code.length*((dX b).length+1)) false) ((dX b).length+1) 0
 else none
theorem xD {s0:St} {p:Pg} {b:List UInt8} (LM:∀st,Ev pv 59 [] st (.agg (aE aK)) st) (hp:p.ok) (cu:Int) (hbl:b.length≤1048576) (hsz:p.code.length*((dX b).length+1)≤134217728):
  Ev pv 36 [p.d,.int .i64 cu,.str b] s0 (DR (nC p cu b)) s0:=by
 obtain⟨nF,Km⟩:=lO _ b (Nat.le_refl _);have aS:∀(st:St) (x:D),Bytes st x b→Ev pv 58 [x] st (bZ (dX b)) st:=fun st x h=>DP h hbl;unfold nC;generalize dX b=gs at*;refine Ev.j8 rfl Qd rfl rfl rfl ?_;dsimp only[u3,u4,List.length,Nat.reduceSub,Nat.reduceAdd,w1,w2];obtain⟨bN,hF,hH⟩:=ri s0;generalize aj .ro s0=S at*;have hc:=hp.c.arg s0.bs.length S;have hs:=hp.s.arg s0.bs.length S;have hlen:=hp.cl;have jb:=hp.sl;unfold Pg.d;refine qq<|qj fun K hK=>qb hH fun k3 st Kj hH=>?_;refine qa hH fun k6 st Et hH=>?_;refine qm ?_;refine qe hK<|qq<|qq<|af.jO 29 (.bool ((!dec (eQ p)||decide (cu<0))||decide (cu≥p.aF.length))) [16,17,18,19,20,21,22,23,24,25,26,27,28] ?_ (fun ff tmp=>?_)
 ·refine ae.bF (m:=2) hH rfl (ev rfl) (by exact bu) (by dsimp only[List.drop_succ_cons,List.drop_zero,List.take_succ_cons,List.take_zero,aL,aq,aM,aQ,aE,aK,ax]<;>rfl) rfl rfl (by dsimp only[Fr.put,u1,u2]<;>rfl) ?_;refine qv (qW (p:=p) hp) ?_;refine qg ?_;refine qm ?_;refine ae.two 19 rfl (fun aZ=>?_) (fun aZ=>?_)
  ·refine qs ?_ (hg:=wn aZ);refine qs ?_ (hg:=wn aZ);refine qt aZ ?_;refine qm ?_;refine qs ?_;refine qs ?_;refine qs ?_;refine qs ?_;refine qs ?_;refine qg ?_;refine ae.nil (aX ?_);dsimp only[aD,List.foldl,nth,u2,u1];dsimp only[Fr.au,Fr.put,Fr.clean,Fr.ev,Fr.get,nth,look,u1,u2,v1,v2,v4]
   all_goals(simp[aZ];done)
  ·refine qm ?_ (hg:=wi aZ);refine qg ?_ (hg:=wi aZ);refine qu aZ ?_;refine qm ?_;refine ae.two 23 rfl (fun et=>?_) (fun et=>?_)
   ·refine qs ?_ (hg:=wn et);refine qs ?_ (hg:=wn et);refine qs ?_ (hg:=wn et);refine qs ?_ (hg:=wn et);refine qs ?_ (hg:=wn et);refine qt et ?_;refine ae.nil (aX ?_);dsimp only[aD,List.foldl,nth,u2,u1];dsimp only[Fr.au,Fr.put,Fr.clean,Fr.ev,Fr.get,nth,look,u1,u2,v1,v2,v4]
    all_goals(simp[aZ,et];done)
   ·refine qm ?_ (hg:=wi et);refine qp (o:=1) ?_ (hg:=wi et);refine ql hH bu ?_ (hg:=wi et);refine qn ?_ (hg:=wi et);simp only[List.length_map];refine qg ?_ (hg:=wi et);refine qu et ?_;refine ae.nil (aX ?_);dsimp only[aD,List.foldl,nth,u2,u1];dsimp only[Fr.au,Fr.put,Fr.clean,Fr.ev,Fr.get,nth,look,u1,u2,v1,v2,v4]
    all_goals(simp[aZ,et];done)
 dsimp only[aD,List.foldl,nth,u2,u1];generalize ff 16=Sd;generalize ff 17=VF;generalize ff 18=Sc;generalize ff 19=Sb;generalize ff 20=Sa;generalize ff 21=R_;generalize ff 22=R9;generalize ff 23=R8;generalize ff 24=R7;generalize ff 25=R6;generalize ff 26=R5;generalize ff 27=R4;generalize ff 28=VE;refine qc (fun h0=>?_) (fun h0=>?_)<;>try simp only[cs] at h0
 ·have hn:¬(dec (eQ p)=true∧0≤cu∧cu<(p.aF.length:Int)):=by
   rintro⟨h1,h2,h3⟩;rw[h1] at h0;simp at h0;omega
  rw[if_neg hn];refine qq<|qj fun K hK=>?_;refine ae.go (d:=.agg (aE ax)) (st1:=_) rfl rfl rfl (by dsimp only[Fr.put,u1,u2]<;>rfl) ?_;refine qS hH aB fun st hH=>?_;dsimp only[u2,u1,u3,u4,setMany,u5,u6,D.cells,Nat.reduceAdd,aL,aq,aM,aQ,aE,aK,ax] at hH;refine qm ?_;refine qe hK<|af.ret ⟨rx,_,hH.cm rfl aB rfl rfl,rl bN hH rfl⟩
 ·have h1:eQ p∧0≤cu∧cu<(p.aF.length:Int):=by
   simp only[Bool.or_eq_false_iff,Bool.not_eq_false',decide_eq_false_iff_not] at h0;exact⟨oM h0.1.1,by omega,by omega⟩
  obtain⟨hR,zQ,Jr⟩:=h1;rw[if_pos ⟨nH hR,zQ,Jr⟩];obtain⟨ru,rfl⟩:=Int.eq_ofNat_of_zero_le zQ
  obtain⟨start,jf⟩:∃v,p.aF[ru]?=some v:=⟨p.aF[ru]'(by omega),List.getElem?_eq_getElem _⟩
  have eA:=hR.st start (List.mem_of_getElem? jf);obtain⟨sn,rfl⟩:=Int.eq_ofNat_of_zero_le eA.1
  have zT:(p.aF.getD ((ru:Nat):Int).toNat 0).toNat=sn:=by
   rw[Int.toNat_natCast,List.getD_eq_getElem?_getD,jf];rfl
  rw[zT];have I_:=cW jf;have zS:Arg s0.bs.length S 2 (bZ gs) (gs.map aU):=Arg.pure (fun st=>cT st gs);refine af.skip<|qq<|qj fun K hK=>qm ?_;refine ae.vG hH rfl rfl rfl rfl rfl (by omega) (fun _=>by dsimp only[Fr.put,u1,u2]<;>rfl) (fun Ra st L5 hH=>?_);refine qv ((aS _ _ (hH.rows aB))) ?_;refine qm ?_;refine qe hK<|qq<|qj fun K hK=>qm ?_;refine qn ?_;simp only[List.length_map];refine qA ?_;refine ae.oy (s:=1) hH rfl rfl rfl rfl rfl rfl rfl rfl (Nat.le_of_ble_eq_true rfl) (by exact Nat.le_trans (Nat.add_le_add_right (m:=1048576) (by omega) _) (by decide)) (fun _=>by dsimp only[Fr.put,u1,u2]<;>rfl) (fun J' st UU hH=>?_);dsimp only[u2,u1,u3,u4,setMany,u5,u6,D.cells,Nat.reduceAdd,aL,aq,aM,aQ,aE,aK,ax] at hH;refine qm ?_;refine qe hK<|qq<|qq<|qj fun K hK=>qm ?_;refine qe hK ?_;have ji:=q9 gs 0;refine af.block<|af.loop (fun mm fr st=>∃(i:Nat) (pl:List Int),fr.clean=⟨126,[aa fr 0,.int .i64 (ru:Nat),aa fr 2,.ptr k3 0 0,aa fr 4,aa fr 5,.ptr k6 0 0,.bool false,bZ gs,.win J' 0 0 (gs.length+1) 1,.int .i64 (i:Nat),aa fr 11,aa fr 12,aa fr 13,aa fr 14,aa fr 15,aa fr 16,aa fr 17,aa fr 18,aa fr 19,aa fr 20,aa fr 21,aa fr 22,aa fr 23,aa fr 24,aa fr 25,aa fr 26,aa fr 27,aa fr 28,aa fr 29,aa fr 30,aa fr 31,aa fr 32,aa fr 33,aa fr 34,aa fr 35,aa fr 36,aa fr 37,aa fr 38,aa fr 39,aa fr 40,aa fr 41,aa fr 42,aa fr 43,aa fr 44,aa fr 45,aa fr 46,aa fr 47,aa fr 48,aa fr 49,aa fr 50,aa fr 51,aa fr 52,aa fr 53,aa fr 54,aa fr 55,aa fr 56,aa fr 57,aa fr 58,aa fr 59,aa fr 60,aa fr 61,aa fr 62,aa fr 63,aa fr 64,aa fr 65,aa fr 66,aa fr 67,aa fr 68,aa fr 69,aa fr 70,aa fr 71,aa fr 72,aa fr 73,aa fr 74,aa fr 75,aa fr 76,aa fr 77,aa fr 78,aa fr 79,aa fr 80,aa fr 81,aa fr 82,aa fr 83,aa fr 84,aa fr 85,aa fr 86,aa fr 87,aa fr 88,aa fr 89,aa fr 90,aa fr 91,aa fr 92,aa fr 93,aa fr 94,aa fr 95,aa fr 96,aa fr 97,aa fr 98,aa fr 99,aa fr 100,aa fr 101,aa fr 102,aa fr 103,aa fr 104,aa fr 105,aa fr 106,aa fr 107,aa fr 108,aa fr 109,aa fr 110,aa fr 111,aa fr 112,aa fr 113,aa fr 114,aa fr 115,aa fr 116,aa fr 117,aa fr 118,aa fr 119,aa fr 120,aa fr 121,aa fr 122,aa fr 123,aa fr 124,aa fr 125],[]⟩∧Has s0.bs.length S st [.aT (.win J' 0 0 (gs.length+1) 1) 1 (pl.map aq),.box k6 (.mem 0 false (aE ax)),.box k3 (.mem 0 false [p.cd,p.sd])]∧(i+mm=gs.length)∧(pl.length=gs.length+1)∧(∀j,j≤i→pl[j]?=(l6 0 gs)[j]?)) (gs.length) ?_ ?_
  ·refine⟨0,List.replicate (gs.length+1) 0,rfl,(by rw[List.map_replicate];exact hH.erase 1),by omega,by rw[List.length_replicate],?_⟩;intro j hj;have:j=0:=by omega
   subst this;rw[tf,List.getElem?_replicate,if_pos (by omega)]
  rintro mm fr st ⟨i,pl,hfr,hH,hi,Oc,Ek⟩;rw[hfr];clear hfr;generalize aa fr=ee;clear fr;refine qq<|qq<|qj fun K hK=>qm ?_;refine qm ?_;refine qn ?_;simp only[List.length_map];refine qg ?_;refine qe hK ?_;refine af.cond (by rfl) (fun h3=>?_) (fun h3=>?_)<;>try simp only[decide_eq_true_eq,decide_eq_false_iff_not] at h3
  ·refine af.skip ?_
   obtain⟨g,hg⟩:∃g,gs[i]?=some g:=⟨gs[i]'(by omega),List.getElem?_eq_getElem _⟩
   have bm:=Km g (List.mem_of_getElem? hg);have gI:(gs.map aU)[i]?=some (aU g):=by rw[List.getElem?_map,hg];rfl
   obtain⟨v,hv⟩:∃v,(l6 0 gs)[i]?=some v:=⟨(l6 0 gs)[i]'(by omega),List.getElem?_eq_getElem _⟩
   have E8:=Ek i (Nat.le_refl _);rw[hv] at E8;have kP:=cW E8
   obtain⟨w3,TM⟩:∃w,pl[i+1]?=some w:=⟨pl[i+1]'(by omega),List.getElem?_eq_getElem _⟩
   have N8:=cW TM;have WH:=y6 gs 0 i v (fun g hg=>by have:=Km g hg;omega) hv;have LK:=tg gs 0 i v g hv hg;refine qq<|af.block<|qj fun K hK=>qm ?_;refine qm ?_;refine qA ?_;refine qm ?_;refine qm ?_;refine qi hH aB fun QW Lz=>?_;refine qo hH aB ?_;refine qm ?_;refine qm ?_;refine qr fun Wg Un=>?_;refine qf (fo:=1) fun Wf Um=>?_;refine qR ?_;refine qA ?_;refine qi hH aB fun SP On=>?_;refine ae.gz hH rfl (ev rfl) (ev rfl) (by assumption) rfl rfl (by exact aB) (by assumption) (Nat.le_of_ble_eq_true rfl) (by exact .inl hF) (fun st hH=>?_);dsimp only[u2,u1,u3,u4,setMany,u5,u6,D.cells,Nat.reduceAdd,aL,aq,aM,aQ,aE,aK,ax] at hH;refine qe hK<|qj fun K hK=>qm ?_;refine qA ?_;refine qm ?_;refine qe hK ?_;have c9:(pl.set (i+1) (v+(g.2:Nat))).map aq=(pl.map aq).set (i+1) [.int .i64 (v+(g.2:Nat))]:=by rw[List.map_set];rfl
   refine⟨mm-1,by omega,⟨i+1,pl.set (i+1) (v+(g.2:Nat)),rfl,(by rw[c9];exact hH),by omega,by rw[List.length_set];exact Oc,?_⟩⟩;intro j hj
   by_cases he:j=i+1
   ·subst he;rw[List.getElem?_set_self (by omega),LK]
   ·rw[List.getElem?_set_ne (fun e=>he e.symm)];exact Ek j (by omega)
  ·refine af.exit ?_
   have dD:pl=l6 0 gs:=by
    refine List.ext_getElem? fun j=>?_
    rcases Nat.lt_or_ge i j with h|h
    ·rw[List.getElem?_eq_none (by omega),List.getElem?_eq_none (by omega)]
    ·exact Ek j h
   subst dD;generalize l6 0 gs=bd at*;refine qq<|qq<|qj fun K hK=>qm ?_;refine qe hK ?_
   obtain⟨R,A2⟩:∃R,oH (lj gs.length) (bn p.code gs bd) (3*(p.code.length*(gs.length+1))+1) sn (List.replicate (p.code.length*(gs.length+1)) false) (gs.length+1) 0=R:=⟨_,rfl⟩
   rw[A2];clear Ek hi;refine af.block<|af.loop (fun mm fr st=>∃(i:Nat),fr.clean=⟨126,[aa fr 0,.int .i64 (ru:Nat),aa fr 2,.ptr k3 0 0,aa fr 4,aa fr 5,.ptr k6 0 0,.bool false,bZ gs,.win J' 0 0 (gs.length+1) 1,aa fr 10,.int .i64 (i:Nat),aa fr 12,aa fr 13,aa fr 14,aa fr 15,aa fr 16,aa fr 17,aa fr 18,aa fr 19,aa fr 20,aa fr 21,aa fr 22,aa fr 23,aa fr 24,aa fr 25,aa fr 26,aa fr 27,aa fr 28,aa fr 29,aa fr 30,aa fr 31,aa fr 32,aa fr 33,aa fr 34,aa fr 35,aa fr 36,aa fr 37,aa fr 38,aa fr 39,aa fr 40,aa fr 41,aa fr 42,aa fr 43,aa fr 44,aa fr 45,aa fr 46,aa fr 47,aa fr 48,aa fr 49,aa fr 50,aa fr 51,aa fr 52,aa fr 53,aa fr 54,aa fr 55,aa fr 56,aa fr 57,aa fr 58,aa fr 59,aa fr 60,aa fr 61,aa fr 62,aa fr 63,aa fr 64,aa fr 65,aa fr 66,aa fr 67,aa fr 68,aa fr 69,aa fr 70,aa fr 71,aa fr 72,aa fr 73,aa fr 74,aa fr 75,aa fr 76,aa fr 77,aa fr 78,aa fr 79,aa fr 80,aa fr 81,aa fr 82,aa fr 83,aa fr 84,aa fr 85,aa fr 86,aa fr 87,aa fr 88,aa fr 89,aa fr 90,aa fr 91,aa fr 92,aa fr 93,aa fr 94,aa fr 95,aa fr 96,aa fr 97,aa fr 98,aa fr 99,aa fr 100,aa fr 101,aa fr 102,aa fr 103,aa fr 104,aa fr 105,aa fr 106,aa fr 107,aa fr 108,aa fr 109,aa fr 110,aa fr 111,aa fr 112,aa fr 113,aa fr 114,aa fr 115,aa fr 116,aa fr 117,aa fr 118,aa fr 119,aa fr 120,aa fr 121,aa fr 122,aa fr 123,aa fr 124,aa fr 125],[]⟩∧Has s0.bs.length S st [.aT (.win J' 0 0 (gs.length+1) 1) 1 (bd.map aq),.box k6 (.mem 0 false (aE ax)),.box k3 (.mem 0 false [p.cd,p.sd])]∧(i+mm=gs.length+1)∧(oH (lj gs.length) (bn p.code gs bd) (3*(p.code.length*(gs.length+1))+1) sn (List.replicate (p.code.length*(gs.length+1)) false) mm i=R)) (gs.length+1) ?_ ?_
   ·exact⟨0,rfl,hH,by omega,A2⟩
   rintro mm fr st ⟨i,hfr,hH,hi,yB⟩;rw[hfr];clear hfr;generalize aa fr=ee;clear fr;refine qq<|qq<|qj fun K hK=>qm ?_;refine qm ?_;refine qn ?_;simp only[List.length_map];refine qg ?_;refine qe hK ?_;refine af.cond (by rfl) (fun h3=>?_) (fun h3=>?_)<;>try simp only[decide_eq_true_eq,decide_eq_false_iff_not] at h3
   ·refine af.skip ?_
    obtain⟨mo,rfl⟩:∃m',mm=m'+1:=⟨mm-1,by omega⟩
    refine qq<|af.block<|qq<|qj fun K hK=>qp (o:=0) ?_;refine ql hH ez ?_;refine qn ?_;simp only[List.length_map];refine qm ?_;refine qn ?_;simp only[List.length_map];refine qA ?_;refine ae.na (z:=((p.code.length*(gs.length+1):Nat):Int)) rfl (ev rfl) (ev rfl) (by rw[show((p.code.length:Nat):Int)*(((gs.length:Nat):Int)+1)=((p.code.length*(gs.length+1):Nat):Int) by rw[Int.natCast_mul];rfl];exact cA (by simp only[hO];omega)) (by dsimp only[Fr.put,u1,u2]<;>rfl) ?_;refine ae.oy (s:=1) hH rfl rfl rfl rfl rfl rfl rfl rfl (Nat.le_of_ble_eq_true rfl) (by omega) (fun _=>by dsimp only[Fr.put,u1,u2]<;>rfl) (fun Q7 st UL hH=>?_);dsimp only[u2,u1,u3,u4,setMany,u5,u6,D.cells,Nat.reduceAdd,aL,aq,aM,aQ,aE,aK,ax] at hH;refine qm ?_;refine qe hK<|qq<|qj fun K hK=>qp (o:=1) ?_;refine ql hH gm ?_;refine qm ?_;refine qr fun SM Oj=>?_;refine qR ?_;refine qm ?_;refine qv (LM _) ?_;refine ae.go (d:=.agg (aQ ⟨sn,i,aK⟩)) (st1:=_) rfl rfl rfl (by dsimp only[Fr.put,u1,u2]<;>rfl) ?_;refine qh (s:=12) (vs:=[_]) hH fun MU st L0 hH=>?_;dsimp only[u2,u1,u3,u4,setMany,u5,u6,D.cells,Nat.reduceAdd,aL,aq,aM,aQ,aE,aK,ax] at hH;refine qm ?_;refine qe hK ?_;have Md:=List.count_le_length (a:=false) (l:=List.replicate (p.code.length*(gs.length+1)) false);rw[List.length_replicate] at Md
    obtain⟨Q,RY⟩:∃Q,(fS (lj gs.length) (bn p.code gs bd) (3*(p.code.length*(gs.length+1))+1) (List.replicate (p.code.length*(gs.length+1)) false) [⟨sn,i,aK⟩]).1=Q:=⟨_,rfl⟩
    simp only[oH,RY] at yB;refine af.block<|af.loop (fun mm fr st=>∃(ld:D) (ar:List Bool) (bE:List dY),fr.clean=⟨126,[aa fr 0,.int .i64 (ru:Nat),aa fr 2,.ptr k3 0 0,aa fr 4,aa fr 5,.ptr k6 0 0,.bool false,bZ gs,.win J' 0 0 (gs.length+1) 1,aa fr 10,.int .i64 (i:Nat),.win Q7 0 0 (p.code.length*(gs.length+1)) 1,ld,aa fr 14,aa fr 15,aa fr 16,aa fr 17,aa fr 18,aa fr 19,aa fr 20,aa fr 21,aa fr 22,aa fr 23,aa fr 24,aa fr 25,aa fr 26,aa fr 27,aa fr 28,aa fr 29,aa fr 30,aa fr 31,aa fr 32,aa fr 33,aa fr 34,aa fr 35,aa fr 36,aa fr 37,aa fr 38,aa fr 39,aa fr 40,aa fr 41,aa fr 42,aa fr 43,aa fr 44,aa fr 45,aa fr 46,aa fr 47,aa fr 48,aa fr 49,aa fr 50,aa fr 51,aa fr 52,aa fr 53,aa fr 54,aa fr 55,aa fr 56,aa fr 57,aa fr 58,aa fr 59,aa fr 60,aa fr 61,aa fr 62,aa fr 63,aa fr 64,aa fr 65,aa fr 66,aa fr 67,aa fr 68,aa fr 69,aa fr 70,aa fr 71,aa fr 72,aa fr 73,aa fr 74,aa fr 75,aa fr 76,aa fr 77,aa fr 78,aa fr 79,aa fr 80,aa fr 81,aa fr 82,aa fr 83,aa fr 84,aa fr 85,aa fr 86,aa fr 87,aa fr 88,aa fr 89,aa fr 90,aa fr 91,aa fr 92,aa fr 93,aa fr 94,aa fr 95,aa fr 96,aa fr 97,aa fr 98,aa fr 99,aa fr 100,aa fr 101,aa fr 102,aa fr 103,aa fr 104,aa fr 105,aa fr 106,aa fr 107,aa fr 108,aa fr 109,aa fr 110,aa fr 111,aa fr 112,aa fr 113,aa fr 114,aa fr 115,aa fr 116,aa fr 117,aa fr 118,aa fr 119,aa fr 120,aa fr 121,aa fr 122,aa fr 123,aa fr 124,aa fr 125],[]⟩∧Has s0.bs.length S st [.aT ld 12 (bE.reverse.map aQ),.aT (.win Q7 0 0 (p.code.length*(gs.length+1)) 1) 1 (ar.map aM),.aT (.win J' 0 0 (gs.length+1) 1) 1 (bd.map aq),.box k6 (.mem 0 false (aE ax)),.box k3 (.mem 0 false [p.cd,p.sd])]∧((fS (lj gs.length) (bn p.code gs bd) mm ar bE).1=Q)∧(3*ar.count false+bE.length≤mm)∧(ar.length=p.code.length*(gs.length+1))∧(∀v∈bE,tq p gs v)∧(mm≤3*(p.code.length*(gs.length+1))+1)) (3*(p.code.length*(gs.length+1))+1) ?_ ?_
    ·exact⟨_,List.replicate (p.code.length*(gs.length+1)) false,[⟨sn,i,aK⟩],rfl,(by rw[List.map_replicate];exact hH),RY,(by simp only[List.length_cons,List.length_nil];omega),List.length_replicate,(by intro v hv;simp only[List.mem_cons,List.not_mem_nil,or_false] at hv;subst hv;exact⟨by show sn<_;omega,by show i≤_;omega⟩),Nat.le_refl _⟩
    rintro mm fr st ⟨ld,ar,bE,hfr,hH,hd,hm,hal,hsk,sk⟩;rw[hfr];clear hfr;generalize aa fr=ee;clear fr
    rcases bE with _|⟨v,bE⟩
    ·refine qq<|qq<|qj fun K hK=>qm ?_;refine qn ?_ (hR:=hH.rows aB);simp only[List.length_map,List.length_nil,List.length_reverse];refine qg ?_;refine qe hK<|af.cond (v:=false) (by dsimp only[Fr.ev,Fr.get,nth,V.look];rfl) (fun h=>by cases h) (fun _=>?_);refine af.exit ?_;have dD:Q=none:=by rw[←hd];cases mm<;>rfl
     subst dD;simp only at yB;refine qj fun K hK=>qm ?_;refine qA ?_;refine qm ?_;refine qe hK ?_;exact⟨mo,by omega,⟨i+1,rfl,(hH.drop 2),by omega,yB⟩⟩
    ·have hv:=hsk v (List.mem_cons_self ..);obtain⟨vp,uD⟩:=hv;have Lo:∀w∈bE,tq p gs w:=fun w hw=>hsk w (List.mem_cons_of_mem _ hw);simp only[List.length_cons] at hm
     obtain⟨uB,rfl⟩:∃m',mm=m'+1:=⟨mm-1,by omega⟩
     have hbd:v.pc*(gs.length+1)+v.at_<ar.length:=by
      have h1:(v.pc+1)*(gs.length+1)≤p.code.length*(gs.length+1):=Nat.mul_le_mul_right _ (by omega);rw[Nat.add_mul,Nat.one_mul] at h1;omega
     obtain⟨b2,hb⟩:∃b,ar[lj gs.length v.pc v.at_]?=some b:=⟨ar[lj gs.length v.pc v.at_]'hbd,List.getElem?_eq_getElem _⟩
     obtain⟨ii,hii⟩:∃x,p.code[v.pc]?=some x:=⟨p.code[v.pc]'vp,List.getElem?_eq_getElem _⟩
     have Ee:=fun l=>qK (pl:=bd) hR (t:=v) ⟨vp,uD⟩ l;have gI:=sC v bE;have kP:=iB hb;have WM:=fO hii
     obtain⟨m,ky⟩:∃m,v.pc*(gs.length+1)=m:=⟨_,rfl⟩
     have Fc:lj gs.length v.pc v.at_=m+v.at_:=by unfold lj;rw[ky]
     have Rz:((v.pc:Nat):Int)*(((gs.length:Nat):Int)+1)=((m:Nat):Int):=by rw[←ky,Int.natCast_mul];rfl
     rw[ky] at hbd;rw[Fc] at kP;refine qq<|qq<|qj fun K hK=>qm ?_;refine qn ?_ (hR:=hH.rows aB);simp only[List.length_map,List.length_cons,List.length_reverse];refine qg ?_;refine qe hK<|qD rfl (by simp) ?_;refine af.skip<|af.block<|qq<|qj fun K hK=>qm ?_;refine qm ?_;refine qn ?_ (hR:=hH.rows aB);simp only[List.length_map,List.length_cons,List.length_reverse];refine ae.gj (z:=((bE.length:Nat):Int)) rfl (ev rfl) (ev rfl) (by(try simp only[List.length_reverse,List.length_cons,List.length_nil,List.length_append,List.length_map,List.length_set]);rw[wrap_i64 (by omega) (by omega)]<;>omega) (by dsimp only[Fr.put,u1,u2]<;>rfl) ?_;refine qi hH aB fun SI Of=>?_;refine ae.ra hH rfl (ev rfl) (by assumption) (by exact aB) (by assumption) rfl (by dsimp only[Fr.put,u1,u2]<;>rfl) ?_;refine qa hH fun AU st Jp hH=>?_;dsimp only[u2,u1,u3,u4,setMany,u5,u6,D.cells,Nat.reduceAdd,aL,aq,aM,aQ,aE,aK,ax] at hH;refine qS hH aB fun st hH=>?_;dsimp only[u2,u1,u3,u4,setMany,u5,u6,D.cells,Nat.reduceAdd,aL,aq,aM,aQ,aE,aK,ax] at hH;refine qe hK<|qq<|qj fun K hK=>qm ?_;refine qm ?_;refine qn ?_ (hR:=hH.rows bu);simp only[List.length_map,List.length_cons,List.length_reverse];refine ae.gj (z:=((bE.length:Nat):Int)) rfl (ev rfl) (ev rfl) (by(try simp only[List.length_reverse,List.length_cons,List.length_nil,List.length_append,List.length_map,List.length_set]);rw[wrap_i64 (by omega) (by omega)]<;>omega) (by dsimp only[Fr.put,u1,u2]<;>rfl) ?_;refine ae.nY hH rfl (ev rfl) (by exact bu) rfl rfl (fL (by simp only[List.length_map,List.length_reverse,List.length_cons,List.length_append,List.length_nil,List.length_take,List.length_drop,List.length_set,List.length_replicate];omega)) ⟨(by omega),(by simp only[List.length_map,List.length_reverse,List.length_cons,List.length_append,List.length_nil,List.length_take,List.length_drop,List.length_set,List.length_replicate];omega)⟩ (fun _=>by dsimp only[Fr.put,u1,u2]<;>rfl) (fun VJ hH=>?_);refine qm ?_;refine qe hK ?_;dsimp only[u2,u1] at hH;rw[wm] at hH;refine qq<|qq<|qj fun K hK=>qm ?_;refine qp (o:=0) ?_;refine ql hH aB ?_;refine qm ?_;refine qn ?_;simp only[List.length_map];refine qA ?_;refine ae.na (z:=((m:Nat):Int)) rfl (ev rfl) (ev rfl) (by rw[Rz];exact cA (by simp only[hO];omega)) (by dsimp only[Fr.put,u1,u2]<;>rfl) ?_;refine qp (o:=1) ?_;refine ql hH aB ?_;refine ae.EW rfl (ev rfl) (ev rfl) (by omega) (by dsimp only[Fr.put,u1,u2]<;>rfl) ?_;refine qi hH ez fun Tc Rv=>?_;refine qo hH ez ?_;refine qe hK ?_
     cases b2 with
     |true=>
      refine qB ?_;refine af.exit ?_;simp only[fS,hb] at hd;exact⟨uB,by omega,⟨_,ar,bE,rfl,(hH.drop 1),hd,by omega,hal,Lo,by omega⟩⟩
     |false=>
      have zY:=count_set hb;have c9:(ar.set (lj gs.length v.pc v.at_) true).map aM=(ar.map aM).set (m+v.at_) [.bool true]:=by rw[List.map_set,Fc];rfl
      have oB:∀l,bn p.code gs bd v=.more l→(fS (lj gs.length) (bn p.code gs bd) uB (ar.set (lj gs.length v.pc v.at_) true) (l++bE)).1=Q:=by
       intro l hl
       simpa only[fS,hb,hl] using hd
      have Vf:bn p.code gs bd v=.found→Q=some v.c:=by
       intro hl;simp only[fS,hb,hl] at hd;exact hd.symm
      have vx:∀l:List dY,l.length≤2→3*(ar.set (lj gs.length v.pc v.at_) true).count false+(l++bE).length≤uB:=by
       intro l hl;rw[List.length_append];omega
      have ln:∀l,bn p.code gs bd v=.more l→∀w∈l++bE,tq p gs w:=by
       intro l hl w hw
       rcases List.mem_append.1 hw with hw|hw
       ·exact Ee l hl w hw
       ·exact Lo w hw
      have kH:=iG (hR.sh v.pc ii hii);have tO:=(hp.i ii (List.mem_of_getElem? hii)).1;have I9:=tO.arg s0.bs.length S;have zI:=(hp.i ii (List.mem_of_getElem? hii)).2;have TZ:bE.length≤402653185:=by omega
      clear hd Ee hm;obtain⟨pc,at_,c⟩:=v;obtain⟨op,x,y,rd,rs⟩:=ii;simp only at*;refine qC ?_;refine af.skip<|qq<|qj fun K hK=>qm ?_;refine qp (o:=0) ?_;refine ql hH aB ?_;refine qm ?_;refine qn ?_;simp only[List.length_map];refine qA ?_;refine ae.na (z:=((m:Nat):Int)) rfl (ev rfl) (ev rfl) (by rw[Rz];exact cA (by simp only[hO];omega)) (by dsimp only[Fr.put,u1,u2]<;>rfl) ?_;refine qp (o:=1) ?_;refine ql hH aB ?_;refine ae.EW rfl (ev rfl) (ev rfl) (by omega) (by dsimp only[Fr.put,u1,u2]<;>rfl) ?_;refine qi hH ez fun S_ Rq=>?_;refine ae.gz hH rfl (ev rfl) (ev rfl) (by assumption) rfl rfl (by exact ez) (by assumption) (Nat.le_of_ble_eq_true rfl) (by exact .inl hF) (fun st hH=>?_);dsimp only[u2,u1,u3,u4,setMany,u5,u6,D.cells,Nat.reduceAdd,aL,aq,aM,aQ,aE,aK,ax] at hH;refine qe hK<|qq<|qj fun K hK=>qp (o:=0) ?_;refine ql hH qz ?_;refine qp (o:=0) ?_;refine ql hH aB ?_;refine qr fun Nz LH=>?_;refine ae.dt rfl (ev rfl) (by assumption) rfl (by dsimp only[Fr.put,u1,u2]<;>rfl) ?_;refine qa hH fun WD st U2 hH=>?_;refine qS hH aB fun st hH=>?_;dsimp only[u2,u1,u3,u4,setMany,u5,u6,D.cells,Nat.reduceAdd,aL,aq,aM,aQ,aE,aK,ax] at hH;refine qe hK<|qq<|qj fun K hK=>qp (o:=0) ?_;refine ql hH aB ?_;refine qe hK<|af.block<|qq<|qj fun K hK=>qg ?_;refine qm ?_;refine qe hK ?_;refine af.cond (by rfl) (fun h7=>?_) (fun h7=>?_)<;>try simp only[beq_iff_eq,beq_eq_false_iff_ne,ne_eq] at h7
      ·have hS:bn p.code gs bd ⟨pc,at_,c⟩=.found:=by unfold bn;simp only[hii];rw[if_pos h7]
       have hQ:=Vf hS;subst hQ;simp only at yB;subst yB;refine qq<|qj fun K hK=>qp (o:=2) ?_;refine ae.bF (m:=10) hH rfl (ev rfl) (by exact bu) (by dsimp only[List.drop_succ_cons,List.drop_zero,List.take_succ_cons,List.take_zero,aL,aq,aM,aQ,aE,aK,ax]<;>rfl) rfl rfl (ag rfl _) ?_;refine qS hH qz fun st hH=>?_;dsimp only[u2,u1,u3,u4,setMany,u5,u6,D.cells,Nat.reduceAdd,aL,aq,aM,aQ,aE,aK,ax] at hH;refine qm ?_;refine qe hK<|af.ret ⟨rx,_,hH.cm rfl qz rfl rfl,rl bN hH rfl⟩
      ·refine qq<|qj fun K hK=>qg ?_;refine qm ?_;refine qe hK ?_;refine af.cond (by rfl) (fun h2=>?_) (fun h2=>?_)<;>try simp only[beq_iff_eq,beq_eq_false_iff_ne,ne_eq] at h2
       ·obtain⟨_,⟨hx0,hx1⟩,hy0,hy1⟩:=(kH.resolve_left h7).resolve_right (by omega);obtain⟨xn,rfl⟩:=Int.eq_ofNat_of_zero_le hx0;obtain⟨yn,rfl⟩:=Int.eq_ofNat_of_zero_le hy0;have hS:bn p.code gs bd ⟨pc,at_,c⟩=.more [⟨xn,at_,c⟩,⟨yn,at_,c⟩]:=by unfold bn;simp only[hii];rw[if_neg h7,if_pos h2];rfl
        refine qj fun K hK=>qm ?_;refine qp (o:=2) ?_;refine ql hH aB ?_;refine qp (o:=1) ?_;refine ql hH bu ?_;refine qp (o:=2) ?_;refine ae.bF (m:=10) hH rfl (ev rfl) (by exact bu) (by dsimp only[List.drop_succ_cons,List.drop_zero,List.take_succ_cons,List.take_zero,aL,aq,aM,aQ,aE,aK,ax]<;>rfl) rfl rfl (ag rfl _) ?_;refine ae.go (d:=.agg (aQ ⟨yn,at_,c⟩)) (st1:=_) rfl rfl rfl (ag rfl _) ?_;refine qp (o:=1) ?_;refine ql hH aB ?_;refine qp (o:=1) ?_;refine ql hH bu ?_;refine qp (o:=2) ?_;refine ae.bF (m:=10) hH rfl (ev rfl) (by exact bu) (by dsimp only[List.drop_succ_cons,List.drop_zero,List.take_succ_cons,List.take_zero,aL,aq,aM,aQ,aE,aK,ax]<;>rfl) rfl rfl (ag rfl _) ?_;refine ae.go (d:=.agg (aQ ⟨xn,at_,c⟩)) (st1:=_) rfl rfl rfl (ag rfl _) ?_;refine qh (s:=12) (vs:=[_,_]) hH fun TC st RL hH=>?_;dsimp only[u2,u1,u3,u4,setMany,u5,u6,D.cells,Nat.reduceAdd,aL,aq,aM,aQ,aE,aK,ax] at hH;refine ae.bG (s:=12) hH rfl (ev rfl) (ev rfl) (by exact gm) (by exact hH.rows (by exact aB)) rfl rfl rfl rfl rfl rfl rfl ⟨(Nat.le_of_ble_eq_true rfl),(Nat.le_of_ble_eq_true rfl)⟩ (fun _=>(ag rfl _)) (by simp only[List.length_cons,List.length_nil,List.length_map,List.length_reverse]<;>omega) (by exact .inl hF) (fun SC st hH=>?_);dsimp only[u2,u1,u3,u4,setMany,u5,u6,D.cells,Nat.reduceAdd,aL,aq,aM,aQ,aE,aK,ax] at hH;refine qm ?_;refine qe hK ?_;have vq:((([⟨xn,at_,c⟩,⟨yn,at_,c⟩]:List dY)++bE).reverse.map aQ)=bE.reverse.map aQ++[aQ ⟨yn,at_,c⟩,aQ ⟨xn,at_,c⟩]:=by simp
        exact⟨uB,by omega,⟨_,_,[⟨xn,at_,c⟩,⟨yn,at_,c⟩]++bE,rfl,(by rw[c9,vq];exact hH.drop 3),(oB _ hS),(vx _ (by simp)),by rw[List.length_set];exact hal,(ln _ hS),by omega⟩⟩
       ·refine qq<|qj fun K hK=>qg ?_;refine qm ?_;refine qe hK ?_;refine af.cond (by rfl) (fun h3=>?_) (fun h3=>?_)<;>try simp only[beq_iff_eq,beq_eq_false_iff_ne,ne_eq] at h3
        ·obtain⟨_,hx0,hx1⟩:=((kH.resolve_left h7).resolve_left (by omega)).resolve_right (by omega);obtain⟨xn,rfl⟩:=Int.eq_ofNat_of_zero_le hx0;have hS:bn p.code gs bd ⟨pc,at_,c⟩=.more [⟨xn,at_,c⟩]:=by unfold bn;simp only[hii];rw[if_neg h7,if_neg h2,if_pos h3];rfl
         refine qj fun K hK=>qm ?_;refine qp (o:=1) ?_;refine ql hH aB ?_;refine qp (o:=1) ?_;refine ql hH bu ?_;refine qp (o:=2) ?_;refine ae.bF (m:=10) hH rfl (ev rfl) (by exact bu) (by dsimp only[List.drop_succ_cons,List.drop_zero,List.take_succ_cons,List.take_zero,aL,aq,aM,aQ,aE,aK,ax]<;>rfl) rfl rfl (ag rfl _) ?_;refine ae.go (d:=.agg (aQ ⟨xn,at_,c⟩)) (st1:=_) rfl rfl rfl (ag rfl _) ?_;refine qh (s:=12) (vs:=[_]) hH fun TB st RK hH=>?_;dsimp only[u2,u1,u3,u4,setMany,u5,u6,D.cells,Nat.reduceAdd,aL,aq,aM,aQ,aE,aK,ax] at hH;refine ae.bG (s:=12) hH rfl (ev rfl) (ev rfl) (by exact gm) (by exact hH.rows (by exact aB)) rfl rfl rfl rfl rfl rfl rfl ⟨(Nat.le_of_ble_eq_true rfl),(Nat.le_of_ble_eq_true rfl)⟩ (fun _=>(ag rfl _)) (by simp only[List.length_cons,List.length_nil,List.length_map,List.length_reverse]<;>omega) (by exact .inl hF) (fun SB st hH=>?_);dsimp only[u2,u1,u3,u4,setMany,u5,u6,D.cells,Nat.reduceAdd,aL,aq,aM,aQ,aE,aK,ax] at hH;refine qm ?_;refine qe hK ?_;have vq:((([⟨xn,at_,c⟩]:List dY)++bE).reverse.map aQ)=bE.reverse.map aQ++[aQ ⟨xn,at_,c⟩]:=by simp
         exact⟨uB,by omega,⟨_,_,[⟨xn,at_,c⟩]++bE,rfl,(by rw[c9,vq];exact hH.drop 3),(oB _ hS),(vx _ (by simp)),by rw[List.length_set];exact hal,(ln _ hS),by omega⟩⟩
        ·refine qq<|qj fun K hK=>qg ?_;refine qm ?_;refine qe hK ?_;refine af.cond (by rfl) (fun h4=>?_) (fun h4=>?_)<;>try simp only[beq_iff_eq,beq_eq_false_iff_ne,ne_eq] at h4
         ·obtain⟨_,Od,hx0,hx1⟩:=(((kH.resolve_left h7).resolve_left (by omega)).resolve_left (by omega)).resolve_right (by omega);obtain⟨xn,rfl⟩:=Int.eq_ofNat_of_zero_le hx0
          obtain⟨bf,E8⟩:∃v,bd[at_]?=some v:=⟨bd[at_]'(by omega),List.getElem?_eq_getElem _⟩
          have WL:=cW E8;have hS:bn p.code gs bd ⟨pc,at_,c⟩=.more [⟨pc+1,at_,sO c xn bf⟩]:=by unfold bn;simp only[hii];rw[if_neg h7,if_neg h2,if_neg h3,if_pos h4];simp[List.getD_eq_getElem?_getD,E8]
          refine qq<|qj fun K hK=>qp (o:=1) ?_;refine ql hH aB ?_;refine qm ?_;refine qp (o:=1) ?_;refine ql hH bu ?_;refine qi hH iZ fun S6 Rn=>?_;refine qo hH iZ ?_;refine qp (o:=2) ?_;refine ae.EA (m:=10) (s:=1) (i:=xn) (o:=2+xn) rfl (ev rfl) (ev rfl) rfl rfl (by omega) (by omega) (ag rfl _) ?_;refine ae.ow hH rfl (ev rfl) (ev rfl) rfl (by exact rfl) bu (by show 2+xn+1≤12;omega) (.inl hF) (fun st hH=>?_);change Has _ _ _ (_::.box AU (.mem 0 false (setMany (_::_::aE c) (2+xn) [.int .i64 bf]))::_) at hH;rw[sL (by omega)] at hH;refine qe hK ?_;dsimp only[aE] at hH;refine qj fun K hK=>qm ?_;refine qp (o:=0) ?_;refine ql hH bu ?_;refine qA ?_;refine qp (o:=1) ?_;refine ql hH bu ?_;refine qp (o:=2) ?_;refine ae.bF (m:=10) hH rfl (ev rfl) (by exact bu) (by dsimp only[List.drop_succ_cons,List.drop_zero,List.take_succ_cons,List.take_zero,aL,aq,aM,aQ,aE,aK,ax]<;>rfl) rfl rfl (ag rfl _) ?_;refine ae.go (d:=.agg (aQ ⟨pc+1,at_,sO c xn bf⟩)) (st1:=_) rfl rfl rfl (ag rfl _) ?_;refine qh (s:=12) (vs:=[_]) hH fun TA st RJ hH=>?_;dsimp only[u2,u1,u3,u4,setMany,u5,u6,D.cells,Nat.reduceAdd,aL,aq,aM,aQ,aE,aK,ax] at hH;refine ae.bG (s:=12) hH rfl (ev rfl) (ev rfl) (by exact gm) (by exact hH.rows (by exact aB)) rfl rfl rfl rfl rfl rfl rfl ⟨(Nat.le_of_ble_eq_true rfl),(Nat.le_of_ble_eq_true rfl)⟩ (fun _=>(ag rfl _)) (by simp only[List.length_cons,List.length_nil,List.length_map,List.length_reverse]<;>omega) (by exact .inl hF) (fun SA st hH=>?_);dsimp only[u2,u1,u3,u4,setMany,u5,u6,D.cells,Nat.reduceAdd,aL,aq,aM,aQ,aE,aK,ax] at hH;refine qm ?_;refine qe hK ?_;have vq:((([⟨pc+1,at_,sO c xn bf⟩]:List dY)++bE).reverse.map aQ)=bE.reverse.map aQ++[aQ ⟨pc+1,at_,sO c xn bf⟩]:=by simp
          exact⟨uB,by omega,⟨_,_,[⟨pc+1,at_,sO c xn bf⟩]++bE,rfl,(by rw[c9,vq];exact hH.drop 3),(oB _ hS),(vx _ (by simp)),by rw[List.length_set];exact hal,(ln _ hS),by omega⟩⟩
         ·refine qq<|qj fun K hK=>qg ?_;refine qm ?_;refine qe hK ?_;refine af.cond (by rfl) (fun h5=>?_) (fun h5=>?_)<;>try simp only[beq_iff_eq,beq_eq_false_iff_ne,ne_eq] at h5
          ·refine qq<|qj fun K hK=>qp (o:=1) ?_;refine ql hH bu ?_;refine qg ?_;refine qe hK ?_
           by_cases ha:at_=0
           ·subst ha;have hS:bn p.code gs bd ⟨pc,0,c⟩=.more [⟨pc+1,0,c⟩]:=by unfold bn;simp only[hii];rw[if_neg h7,if_neg h2,if_neg h3,if_neg h4,if_pos h5];rfl
            refine af.cond (v:=true) (by dsimp only[Fr.ev,Fr.get,nth,V.look];rfl) (fun _=>?_) (fun h=>by cases h);refine qj fun K hK=>qm ?_;refine qp (o:=0) ?_;refine ql hH bu ?_;refine qA ?_;refine qp (o:=1) ?_;refine ql hH bu ?_;refine qp (o:=2) ?_;refine ae.bF (m:=10) hH rfl (ev rfl) (by exact bu) (by dsimp only[List.drop_succ_cons,List.drop_zero,List.take_succ_cons,List.take_zero,aL,aq,aM,aQ,aE,aK,ax]<;>rfl) rfl rfl (ag rfl _) ?_;refine ae.go (d:=.agg (aQ ⟨pc+1,0,c⟩)) (st1:=_) rfl rfl rfl (ag rfl _) ?_;refine qh (s:=12) (vs:=[_]) hH fun Ty st RI hH=>?_;dsimp only[u2,u1,u3,u4,setMany,u5,u6,D.cells,Nat.reduceAdd,aL,aq,aM,aQ,aE,aK,ax] at hH;refine ae.bG (s:=12) hH rfl (ev rfl) (ev rfl) (by exact gm) (by exact hH.rows (by exact aB)) rfl rfl rfl rfl rfl rfl rfl ⟨(Nat.le_of_ble_eq_true rfl),(Nat.le_of_ble_eq_true rfl)⟩ (fun _=>(ag rfl _)) (by simp only[List.length_cons,List.length_nil,List.length_map,List.length_reverse]<;>omega) (by exact .inl hF) (fun Sy st hH=>?_);dsimp only[u2,u1,u3,u4,setMany,u5,u6,D.cells,Nat.reduceAdd,aL,aq,aM,aQ,aE,aK,ax] at hH;refine qm ?_;refine qe hK ?_;have vq:((([⟨pc+1,0,c⟩]:List dY)++bE).reverse.map aQ)=bE.reverse.map aQ++[aQ ⟨pc+1,0,c⟩]:=by simp
            exact⟨uB,by omega,⟨_,_,[⟨pc+1,0,c⟩]++bE,rfl,(by rw[c9,vq];exact hH.drop 3),(oB _ hS),(vx _ (by simp)),by rw[List.length_set];exact hal,(ln _ hS),by omega⟩⟩
           ·have hS:bn p.code gs bd ⟨pc,at_,c⟩=.more []:=by unfold bn;simp only[hii];rw[if_neg h7,if_neg h2,if_neg h3,if_neg h4,if_pos h5,if_neg ha]
            refine qE rfl (by simp;omega) ?_;refine af.skip ?_;exact⟨uB,by omega,⟨_,_,[]++bE,rfl,(by rw[c9];exact hH.drop 2),(oB _ hS),(vx _ (by simp)),by rw[List.length_set];exact hal,(ln _ hS),by omega⟩⟩
          ·refine qq<|qj fun K hK=>qg ?_;refine qm ?_;refine qe hK ?_;refine af.cond (by rfl) (fun h6=>?_) (fun h6=>?_)<;>try simp only[beq_iff_eq,beq_eq_false_iff_ne,ne_eq] at h6
           ·refine qq<|qj fun K hK=>qp (o:=1) ?_;refine ql hH bu ?_;refine qm ?_;refine qn ?_;simp only[List.length_map];refine qg ?_;refine qe hK ?_
            by_cases ha:at_=gs.length
            ·have hS:bn p.code gs bd ⟨pc,at_,c⟩=.more [⟨pc+1,at_,c⟩]:=by unfold bn;simp only[hii];rw[if_neg h7,if_neg h2,if_neg h3,if_neg h4,if_neg h5,if_pos h6,if_pos ha]
             refine qD rfl (by rw[ha];simp) ?_;refine qj fun K hK=>qm ?_;refine qp (o:=0) ?_;refine ql hH bu ?_;refine qA ?_;refine qp (o:=1) ?_;refine ql hH bu ?_;refine qp (o:=2) ?_;refine ae.bF (m:=10) hH rfl (ev rfl) (by exact bu) (by dsimp only[List.drop_succ_cons,List.drop_zero,List.take_succ_cons,List.take_zero,aL,aq,aM,aQ,aE,aK,ax]<;>rfl) rfl rfl (ag rfl _) ?_;refine ae.go (d:=.agg (aQ ⟨pc+1,at_,c⟩)) (st1:=_) rfl rfl rfl (ag rfl _) ?_;refine qh (s:=12) (vs:=[_]) hH fun Tx st RH hH=>?_;dsimp only[u2,u1,u3,u4,setMany,u5,u6,D.cells,Nat.reduceAdd,aL,aq,aM,aQ,aE,aK,ax] at hH;refine ae.bG (s:=12) hH rfl (ev rfl) (ev rfl) (by exact gm) (by exact hH.rows (by exact aB)) rfl rfl rfl rfl rfl rfl rfl ⟨(Nat.le_of_ble_eq_true rfl),(Nat.le_of_ble_eq_true rfl)⟩ (fun _=>(ag rfl _)) (by simp only[List.length_cons,List.length_nil,List.length_map,List.length_reverse]<;>omega) (by exact .inl hF) (fun Sx st hH=>?_);dsimp only[u2,u1,u3,u4,setMany,u5,u6,D.cells,Nat.reduceAdd,aL,aq,aM,aQ,aE,aK,ax] at hH;refine qm ?_;refine qe hK ?_;have vq:((([⟨pc+1,at_,c⟩]:List dY)++bE).reverse.map aQ)=bE.reverse.map aQ++[aQ ⟨pc+1,at_,c⟩]:=by simp
             exact⟨uB,by omega,⟨_,_,[⟨pc+1,at_,c⟩]++bE,rfl,(by rw[c9,vq];exact hH.drop 3),(oB _ hS),(vx _ (by simp)),by rw[List.length_set];exact hal,(ln _ hS),by omega⟩⟩
            ·have hS:bn p.code gs bd ⟨pc,at_,c⟩=.more []:=by unfold bn;simp only[hii];rw[if_neg h7,if_neg h2,if_neg h3,if_neg h4,if_neg h5,if_pos h6,if_neg ha]
             refine qE rfl (by simp;omega) ?_;refine af.skip ?_;exact⟨uB,by omega,⟨_,_,[]++bE,rfl,(by rw[c9];exact hH.drop 2),(oB _ hS),(vx _ (by simp)),by rw[List.length_set];exact hal,(ln _ hS),by omega⟩⟩
           ·have h1:op=1:=by omega
            have kv:∀b,bn p.code gs bd ⟨pc,at_,c⟩=.more b↔(.more (if at_<gs.length∧fJ rs ((gs.getD at_ (0,0)).1:Nat)=true then[⟨pc+1,at_+1,c⟩] else[]):r_)=.more b:=by
             intro b;unfold bn;simp only[hii];rw[if_neg h7,if_neg h2,if_neg h3,if_neg h4,if_neg h5,if_neg h6]
            refine qq<|qj fun K hK=>qg ?_;refine qm ?_;refine qe hK<|qD rfl (by simp[h1]) ?_
            by_cases ha:at_<gs.length
            ·obtain⟨g,hg⟩:∃g,gs[at_]?=some g:=⟨gs[at_]'ha,List.getElem?_eq_getElem _⟩
             have gI:(gs.map aU)[at_]?=some (aU g):=by rw[List.getElem?_map,hg];rfl
             have zT:gs.getD at_ (0,0)=g:=by rw[List.getD_eq_getElem?_getD,hg];rfl
             have bc:decide ((at_:Int)<(gs.length:Nat))=true:=by rw[decide_eq_true];simp;omega
             rw[zT] at kv;refine qq<|af.eY 234 (.bool (fJ rs (g.1:Nat))) [] ?_ (fun ff tmp d_=>?_)
             ·refine qp (o:=1) ?_;refine ql hH bu ?_;refine qm ?_;refine qn ?_;simp only[List.length_map];refine qg ?_;refine qm ?_;refine qp (o:=3) ?_ (hg:=wi bc);refine ql hH aB ?_ (hg:=wi bc);refine qm ?_ (hg:=wi bc);refine qp (o:=1) ?_ (hg:=wi bc);refine ql hH bu ?_ (hg:=wi bc);refine qr (fun S4 Rm=>?_) (hg:=wi bc);refine qf (fo:=0) (fun S3 Rl=>?_) (hg:=wi bc);refine qR ?_ (hg:=wi bc);refine qv (l4 (I9.rows hH) (by omega)) ?_ (hg:=wi bc);refine qt bc ?_;refine ae.nil (bq ?_ ?_)
              ·dsimp only[aD,List.foldl,nth,u2,u1]
               all_goals(first|rfl|simp)
              ·dsimp only[Fr.au,Fr.put,Fr.clean,Fr.ev,Fr.get,nth,look,u1,u2,v1,v2,v4]
               all_goals(first|rfl|(simp[bc];done)|(simp_all;done)|(simp[bc];omega)|(simp_all;omega))
             dsimp only[aD,List.foldl,nth,u2,u1];dsimp only[Fr.au,Fr.put,Fr.clean,Fr.ev,Fr.get,nth,look,u1,u2,v1,v2,v4];refine qc (fun hh=>?_) (fun hh=>?_)<;>try simp only[cs] at hh
             ·have hS:=(kv _).2 (by rw[if_pos ⟨ha,hh⟩]);refine qj fun K hK=>qm ?_;refine qp (o:=0) ?_;refine ql hH bu ?_;refine qA ?_;refine qp (o:=1) ?_;refine ql hH bu ?_;refine qA ?_;refine qp (o:=2) ?_;refine ae.bF (m:=10) hH rfl (ev rfl) (by exact bu) (by dsimp only[List.drop_succ_cons,List.drop_zero,List.take_succ_cons,List.take_zero,aL,aq,aM,aQ,aE,aK,ax]<;>rfl) rfl rfl (ag rfl _) ?_;refine ae.go (d:=.agg (aQ ⟨pc+1,at_+1,c⟩)) (st1:=_) rfl rfl rfl (ag rfl _) ?_;refine qh (s:=12) (vs:=[_]) hH fun Tw st RG hH=>?_;dsimp only[u2,u1,u3,u4,setMany,u5,u6,D.cells,Nat.reduceAdd,aL,aq,aM,aQ,aE,aK,ax] at hH;refine ae.bG (s:=12) hH rfl (ev rfl) (ev rfl) (by exact gm) (by exact hH.rows (by exact aB)) rfl rfl rfl rfl rfl rfl rfl ⟨(Nat.le_of_ble_eq_true rfl),(Nat.le_of_ble_eq_true rfl)⟩ (fun _=>(ag rfl _)) (by simp only[List.length_cons,List.length_nil,List.length_map,List.length_reverse]<;>omega) (by exact .inl hF) (fun Sw st hH=>?_);dsimp only[u2,u1,u3,u4,setMany,u5,u6,D.cells,Nat.reduceAdd,aL,aq,aM,aQ,aE,aK,ax] at hH;refine qm ?_;refine qe hK ?_;have vq:((([⟨pc+1,at_+1,c⟩]:List dY)++bE).reverse.map aQ)=bE.reverse.map aQ++[aQ ⟨pc+1,at_+1,c⟩]:=by simp
              exact⟨uB,by omega,⟨_,_,[⟨pc+1,at_+1,c⟩]++bE,rfl,(by rw[c9,vq];exact hH.drop 3),(oB _ hS),(vx _ (by simp)),by rw[List.length_set];exact hal,(ln _ hS),by omega⟩⟩
             ·have hS:=(kv []).2 (by rw[if_neg (by rintro⟨_,h⟩;rw[h] at hh;cases hh)]);refine af.skip ?_;exact⟨uB,by omega,⟨_,_,[]++bE,rfl,(by rw[c9];exact hH.drop 2),(oB _ hS),(vx _ (by simp)),by rw[List.length_set];exact hal,(ln _ hS),by omega⟩⟩
            ·have bc:decide ((at_:Int)<(gs.length:Nat))=false:=by rw[decide_eq_false];simp;omega
             refine qq<|af.eY 234 (.bool false) [] ?_ (fun ff tmp d_=>?_)
             ·refine qp (o:=1) ?_;refine ql hH bu ?_;refine qm ?_;refine qn ?_;simp only[List.length_map];refine qg ?_;refine qm ?_;refine qs ?_ (hg:=wn bc);refine qs ?_ (hg:=wn bc);refine qs ?_ (hg:=wn bc);refine qs ?_ (hg:=wn bc);refine qs ?_ (hg:=wn bc);refine qs ?_ (hg:=wn bc);refine qs ?_ (hg:=wn bc);refine qs ?_ (hg:=wn bc);refine qs ?_ (hg:=wn bc);refine qu bc ?_;refine ae.nil (bq ?_ ?_)
              ·dsimp only[aD,List.foldl,nth,u2,u1]
               all_goals(first|rfl|simp)
              ·dsimp only[Fr.au,Fr.put,Fr.clean,Fr.ev,Fr.get,nth,look,u1,u2,v1,v2,v4]
               all_goals(first|rfl|(simp[bc];done)|(simp_all;done)|(simp[bc];omega)|(simp_all;omega))
             dsimp only[aD,List.foldl,nth,u2,u1];dsimp only[Fr.au,Fr.put,Fr.clean,Fr.ev,Fr.get,nth,look,u1,u2,v1,v2,v4];refine qC ?_;refine af.skip ?_;have hS:=(kv []).2 (by rw[if_neg (fun h=>ha h.1)]);exact⟨uB,by omega,⟨_,_,[]++bE,rfl,(by rw[c9];exact hH.drop 2),(oB _ hS),(vx _ (by simp)),by rw[List.length_set];exact hal,(ln _ hS),by omega⟩⟩
   ·refine af.exit<|qq<|qj fun K hK=>ae.go (d:=.agg (aE ax)) (st1:=_) rfl rfl rfl (ag rfl _) ?_;refine qS hH bu fun st hH=>?_;dsimp only[u2,u1,u3,u4,setMany,u5,u6,D.cells,Nat.reduceAdd,aL,aq,aM,aQ,aE,aK,ax] at hH;refine qm ?_;refine qe hK ?_
    have dD:R=none:=by
     have:mm=0:=by omega
     subst this;rw[←yB];rfl
    rw[dD];refine af.ret ⟨rx,_,hH.cm rfl bu rfl rfl,rl bN hH rfl⟩
abbrev Sn:=Nat→Nat→Bool
def kT (s:Sn) (t:dY):Sn:=fun a b=>if a=t.pc∧b=t.at_ then true else s a b
theorem yG (s:Sn) (t:dY):kT s t t.pc t.at_=true:=by unfold kT;rw[if_pos ⟨rfl,rfl⟩]
theorem A6 {s:Sn} {t:dY} {a b:Nat} (h:s a b=true):kT s t a b=true:=by unfold kT;split<;>first|rfl|exact h
theorem Fo {s:Sn} {t:dY} {a b:Nat} (h:kT s t a b=true):(a=t.pc∧b=t.at_)∨s a b=true:=by
 unfold kT at h
 split at h
 ·exact .inl (by assumption)
 ·exact .inr h
inductive uG (eS:dY→r_):Sn→List dY→Option oY→Sn→Prop
 |nil {s:Sn}:uG eS s [] none s
 |kh {s s':Sn} {t:dY} {bE:List dY} {r:Option oY}:s t.pc t.at_=true→uG eS s bE r s'→uG eS s (t::bE) r s'
 |found {s:Sn} {t:dY} {bE:List dY}:s t.pc t.at_=false→eS t=.found→uG eS s (t::bE) (some t.c) (kT s t)
 |more {s s':Sn} {t:dY} {bE l:List dY} {r:Option oY}:s t.pc t.at_=false→eS t=.more l→uG eS (kT s t) (l++bE) r s'→uG eS s (t::bE) r s'
theorem uG.one {eS:dY→r_} {s s1 s2:Sn} {bE:List dY} {r1 r2:Option oY} (h1:uG eS s bE r1 s1):uG eS s bE r2 s2→r1=r2∧s1=s2:=by
 induction h1 with
 |nil=>intro h;cases h;exact⟨rfl,rfl⟩
 |kh h _ ih=>
  intro h2
  cases h2 with
  |kh _ h'=>exact ih h'
  |found h' _=>rw[h] at h';cases h'
  |more h' _ _=>rw[h] at h';cases h'
 |found h hf=>
  intro h2
  cases h2 with
  |kh h' _=>rw[h] at h';cases h'
  |found _ _=>exact⟨rfl,rfl⟩
  |more _ h' _=>rw[hf] at h';cases h'
 |more h hm _ ih=>
  intro h2
  cases h2 with
  |kh h' _=>rw[h] at h';cases h'
  |found _ h'=>rw[hm] at h';cases h'
  |more _ h' VB=>
   rw[hm] at h';cases h';exact ih VB
def wc (idx:Nat→Nat→Nat) (ok:Nat→Nat→Prop) (arr:List Bool) (s:Sn):Prop:=∀a b,ok a b→arr[idx a b]?=some (s a b)
def EX (idx:Nat→Nat→Nat) (ok:Nat→Nat→Prop):Prop:=∀a b a' b',ok a b→ok a' b'→idx a b=idx a' b'→a=a'∧b=b'
def Fl (eS:dY→r_) (ok:Nat→Nat→Prop):Prop:=∀t l,ok t.pc t.at_→eS t=.more l→l.length≤2∧∀u∈l,ok u.pc u.at_
theorem wc.xr {idx:Nat→Nat→Nat} {ok:Nat→Nat→Prop} {arr:List Bool} {s:Sn} {t:dY} (hI:EX idx ok) (ht:ok t.pc t.at_) (h:wc idx ok arr s):wc idx ok (arr.set (idx t.pc t.at_) true) (kT s t):=by
 intro a b hab;unfold kT
 by_cases he:idx a b=idx t.pc t.at_
 ·rw[if_pos (hI _ _ _ _ hab ht he),he];have:=cn (h _ _ ht);rw[List.getElem?_set_self this]
 ·rw[if_neg (by rintro⟨rfl,rfl⟩;exact he rfl),List.getElem?_set_ne (fun e=>he e.symm)];exact h a b hab
theorem uc {idx:Nat→Nat→Nat} {ok:Nat→Nat→Prop} {eS:dY→r_} (hI:EX idx ok) (hK:Fl eS ok):∀(f:Nat) (arr:List Bool) (bE:List dY) (s:Sn),3*arr.count false+bE.length≤f→wc idx ok arr s→(∀t∈bE,ok t.pc t.at_)→∃s',uG eS s bE (fS idx eS f arr bE).1 s'∧wc idx ok (fS idx eS f arr bE).2 s':=by
 intro f
 induction f with
 |zero=>
  intro arr bE s h1 hr _;have:bE=[]:=List.length_eq_zero_iff.1 (by omega);subst this;exact⟨s,.nil,hr⟩
 |succ f ih=>
  intro arr bE s h1 hr hs
  cases bE with
  |nil=>exact⟨s,.nil,hr⟩
  |cons t bE=>
   have ht:=hs t (List.mem_cons_self ..);have zG:∀u∈bE,ok u.pc u.at_:=fun u hu=>hs u (List.mem_cons_of_mem _ hu);simp only[List.length_cons] at h1;have hb:=hr _ _ ht;unfold fS;rw[hb]
   cases eA:s t.pc t.at_ with
   |true=>
    obtain⟨s',h2,h3⟩:=ih arr bE s (by omega) hr zG;exact⟨s',.kh eA h2,h3⟩
   |false=>
    rw[eA] at hb;have zY:=count_set hb;simp only
    cases hS:eS t with
    |found=>exact⟨_,.found eA hS,hr.xr hI ht⟩
    |more l=>
     obtain⟨hl,dz⟩:=hK t l ht hS
     obtain⟨s',h2,h3⟩:=ih (arr.set (idx t.pc t.at_) true) (l++bE) (kT s t) (by rw[List.length_append];omega) (hr.xr hI ht) (by
      intro u hu
      rcases List.mem_append.1 hu with hu|hu
      ·exact dz u hu
      ·exact zG u hu)
     exact⟨s',.more eA hS h2,h3⟩
def sc (eS:dY→r_) (V:Sn):Prop:=∀t,V t.pc t.at_=true→∃l,eS t=.more l∧∀u∈l,V u.pc u.at_=true
def l8 (V:Sn) (t:dY):Bool:=!V t.pc t.at_
theorem yR {eS:dY→r_} {V sP:Sn} (hV:∀a b,V a b=true→sP a b=true):∀(bE:List dY),bE.filter (l8 V)=[]→uG eS sP bE none sP:=by
 intro bE
 induction bE with
 |nil=>intro _;exact .nil
 |cons t bE ih=>
  intro h;rw[List.filter_cons] at h
  split at h
  ·cases h
  ·rename_i hn;simp only[l8,Bool.not_eq_true',Bool.not_eq_false] at hn;exact .kh (hV _ _ hn) (ih h)
theorem qQ {eS:dY→r_} {V:Sn} {t:dY} {rest:List dY}:∀(bE:List dY),bE.filter (l8 V)=t::rest→∃qJ,qJ.filter (l8 V)=rest∧∀(sP s':Sn) (r:Option oY),(∀a b,V a b=true→sP a b=true)→uG eS sP (t::qJ) r s'→uG eS sP bE r s':=by
 intro bE
 induction bE with
 |nil=>intro h;cases h
 |cons u bE ih=>
  intro h;rw[List.filter_cons] at h
  split at h
  ·cases h;exact⟨bE,rfl,fun _ _ _ _ h=>h⟩
  ·rename_i hn;simp only[l8,Bool.not_eq_true',Bool.not_eq_false] at hn;obtain⟨qJ,h1,h2⟩:=ih h;exact⟨qJ,h1,fun sP s' r hV h=>.kh (hV _ _ hn) (h2 sP s' r hV h)⟩
theorem Bb {eS:dY→r_} {V:Sn} (hC:sc eS V) {sR SF:Sn} {KA:List dY} {r:Option oY} (h:uG eS sR KA r SF):∀(sP:Sn) (mZ:List dY),(∀a b,sP a b=(sR a b||V a b))→mZ.filter (l8 V)=KA.filter (l8 V)→∃Fv,uG eS sP mZ r Fv:=by
 induction h with
 |@nil s=>
  intro sP mZ hs hk;exact⟨sP,yR (V:=V) (fun a b h=>by rw[hs,h,Bool.or_true]) mZ hk⟩
 |@kh s s' t bE r ht _ ih=>
  intro sP mZ hs hk;rw[List.filter_cons] at hk
  split at hk
  ·obtain⟨qJ,h1,h2⟩:=qQ mZ hk;obtain⟨Fv,h3⟩:=ih sP qJ hs h1;exact⟨Fv,h2 sP Fv _ (fun a b h=>by rw[hs,h,Bool.or_true]) (.kh (by rw[hs,ht,Bool.true_or]) h3)⟩
  ·exact ih sP mZ hs hk
 |@found s t bE ht hf=>
  intro sP mZ hs hk;rw[List.filter_cons] at hk
  split at hk
  ·rename_i ho;simp only[l8,Bool.not_eq_true'] at ho;obtain⟨qJ,h1,h2⟩:=qQ mZ hk;exact⟨_,h2 sP _ _ (fun a b h=>by rw[hs,h,Bool.or_true]) (.found (by rw[hs,ht,ho];rfl) hf)⟩
  ·rename_i ho;simp only[l8,Bool.not_eq_true',Bool.not_eq_false] at ho;obtain⟨l,hl,_⟩:=hC t ho;rw[hf] at hl;cases hl
 |@more s s' t bE l r ht hm _ ih=>
  intro sP mZ hs hk;rw[List.filter_cons] at hk
  split at hk
  ·rename_i ho;simp only[l8,Bool.not_eq_true'] at ho;obtain⟨qJ,h1,h2⟩:=qQ mZ hk
   obtain⟨Fv,h3⟩:=ih (kT sP t) (l++qJ) (by
    intro a b;unfold kT
    split
    ·rfl
    ·exact hs a b) (by rw[List.filter_append,List.filter_append,h1])
   exact⟨Fv,h2 sP Fv _ (fun a b h=>by rw[hs,h,Bool.or_true]) (.more (by rw[hs,ht,ho];rfl) hm h3)⟩
  ·rename_i ho;simp only[l8,Bool.not_eq_true',Bool.not_eq_false] at ho;obtain⟨l',hl,hcl⟩:=hC t ho;rw[hm] at hl;cases hl;refine ih sP mZ ?_ ?_
   ·intro a b;unfold kT
    split
    ·rename_i he;obtain⟨rfl,rfl⟩:=he;rw[hs,ho,Bool.or_true];rfl
    ·exact hs a b
   ·rw[List.filter_append,hk]
    have:l.filter (l8 V)=[]:=by
     rw[List.filter_eq_nil_iff];intro u hu;simp only[l8,hcl u hu,Bool.not_true,Bool.false_eq_true,not_false_eq_true]
    rw[this];rfl
def QF (eS:dY→r_) (s:Sn) (bE:List dY):Prop:=∀t,s t.pc t.at_=true→∃l,eS t=.more l∧∀u∈l,s u.pc u.at_=true∨∃w∈bE,w.pc=u.pc∧w.at_=u.at_
def AO (eS:dY→r_):Prop:=∀t t' l,t.pc=t'.pc→t.at_=t'.at_→eS t=.more l→∃l',eS t'=.more l'∧∀u∈l',∃w∈l,w.pc=u.pc∧w.at_=u.at_
theorem uO {eS:dY→r_} (hU:AO eS) {s s':Sn} {bE:List dY} {r:Option oY} (h:uG eS s bE r s'):r=none→QF eS s bE→sc eS s':=by
 induction h with
 |nil=>
  intro _ h t ht;obtain⟨l,h1,h2⟩:=h t ht;refine⟨l,h1,fun u hu=>?_⟩
  rcases h2 u hu with h|⟨w,hw,_⟩
  ·exact h
  ·cases hw
 |@kh s s' t bE r ht _ ih=>
  intro hr h;refine ih hr fun v hv=>?_;obtain⟨l,h1,h2⟩:=h v hv;refine⟨l,h1,fun u hu=>?_⟩
  rcases h2 u hu with h|⟨w,hw,e1,e2⟩
  ·exact .inl h
  ·rcases List.mem_cons.1 hw with rfl|hw
   ·exact .inl (by rw[←e1,←e2];exact ht)
   ·exact .inr ⟨w,hw,e1,e2⟩
 |found _ _=>intro hr;cases hr
 |@more s s' t bE l r ht hm _ ih=>
  intro hr h;refine ih hr fun v hv=>?_
  rcases Fo hv with⟨e1,e2⟩|hv
  ·obtain⟨l',h1,h2⟩:=hU t v l e1.symm e2.symm hm;refine⟨l',h1,fun u hu=>?_⟩;obtain⟨w,hw,e3⟩:=h2 u hu;exact .inr ⟨w,List.mem_append_left _ hw,e3⟩
  ·obtain⟨l',h1,h2⟩:=h v hv;refine⟨l',h1,fun u hu=>?_⟩
   rcases h2 u hu with h|⟨w,hw,e1,e2⟩
   ·exact .inl (A6 h)
   ·rcases List.mem_cons.1 hw with rfl|hw
    ·exact .inl (by rw[←e1,←e2];exact yG s w)
    ·exact .inr ⟨w,List.mem_append_right _ hw,e1,e2⟩
theorem find_eq {ok:Nat→Nat→Prop} {iP iR:Nat→Nat→Nat} {eS:dY→r_} (hP:EX iP ok) (hR:EX iR ok) (hK:Fl eS ok) (hU:AO eS) {fP fR start:Nat} {zero:List Bool} (hz:wc iR ok zero (fun _ _=>false)) (WW:3*zero.length+1≤fR):∀(m i:Nat) (arr:List Bool) (V:Sn),wc iP ok arr V→sc eS V→(∀j,j<i+m→ok start j)→3*arr.length+1≤fP→mY iP eS fP start m i arr=oH iR eS fR start zero m i:=by
 intro m
 induction m with
 |zero=>intro i arr V _ _ _ _;rfl
 |succ m ih=>
  intro i arr V hr hC eA hf
  have h0:∀t∈[(⟨start,i,aK⟩:dY)],ok t.pc t.at_:=by
   intro t ht;simp only[List.mem_cons,List.not_mem_nil,or_false] at ht;subst ht;exact eA i (by omega)
  have RT:=List.count_le_length (a:=false) (l:=arr);have vE:=List.count_le_length (a:=false) (l:=zero);obtain⟨sP,ml,hrel⟩:=uc hP hK fP arr [⟨start,i,aK⟩] V (by simp only[List.length_cons,List.length_nil];omega) hr h0;obtain⟨sR,Ls,_⟩:=uc hR hK fR zero [⟨start,i,aK⟩] _ (by simp only[List.length_cons,List.length_nil];omega) hz h0;obtain⟨V1,Lr⟩:=Bb hC Ls V [⟨start,i,aK⟩] (fun a b=>by rw[Bool.false_or]) rfl;obtain⟨he,_⟩:=ml.one Lr;unfold mY oH;rw[←he]
  cases hQ:(fS iP eS fP arr [⟨start,i,aK⟩]).1 with
  |some c=>rfl
  |none=>
   rw[hQ] at ml;refine ih (i+1) _ sP hrel (uO hU ml rfl ?_) (fun j hj=>eA j (by omega)) (by rw[lB];exact hf);intro t ht;obtain⟨l,h1,h2⟩:=hC t ht;exact⟨l,h1,fun u hu=>.inl (h2 u hu)⟩
theorem xw (code:List bC) (gs:List (Nat×Nat)) (pl:List Int):AO (bn code gs pl):=by
 rintro⟨pc,at_,c⟩ ⟨Ns,QD,c'⟩ l h1 h2 h;simp only at h1 h2;subst h1;subst h2;unfold bn at h⊢;simp only at h⊢
 split at h
 ·cases h;rename_i hn;exact⟨[],rfl,fun u hu=>by cases hu⟩
 ·rename_i i hi
  have one:∀(v v':dY),v.pc=v'.pc→v.at_=v'.at_→∀u∈[v'],∃w∈[v],w.pc=u.pc∧w.at_=u.at_:=by
   intro v v' e1 e2 u hu;simp only[List.mem_cons,List.not_mem_nil,or_false] at hu;subst hu;exact⟨v,List.mem_cons_self ..,e1,e2⟩
  have opt:∀(c:Prop) [Decidable c] (v v':dY),v.pc=v'.pc→v.at_=v'.at_→∀u∈(if c then[v'] else[]),∃w∈(if c then[v] else[]),w.pc=u.pc∧w.at_=u.at_:=by
   intro c _ v v' e1 e2 u hu
   by_cases hc:c
   ·rw[if_pos hc] at hu⊢;exact one v v' e1 e2 u hu
   ·rw[if_neg hc] at hu;cases hu
  by_cases g1:i.op=7
  ·rw[if_pos g1] at h;cases h
  rw[if_neg g1] at h⊢
  by_cases g2:i.op=2
  ·rw[if_pos g2] at h⊢;cases h;refine⟨_,rfl,fun u hu=>?_⟩;simp only[List.mem_cons,List.not_mem_nil,or_false] at hu
   rcases hu with rfl|rfl
   ·exact⟨_,List.mem_cons_self ..,rfl,rfl⟩
   ·exact⟨_,List.mem_cons_of_mem _ (List.mem_cons_self ..),rfl,rfl⟩
  rw[if_neg g2] at h⊢
  by_cases g3:i.op=3
  ·rw[if_pos g3] at h⊢;cases h;exact⟨_,rfl,one _ _ rfl rfl⟩
  rw[if_neg g3] at h⊢
  by_cases g4:i.op=4
  ·rw[if_pos g4] at h⊢;cases h;exact⟨_,rfl,one _ _ rfl rfl⟩
  rw[if_neg g4] at h⊢
  by_cases g5:i.op=5
  ·rw[if_pos g5] at h⊢;cases h;exact⟨_,rfl,opt _ _ _ rfl rfl⟩
  rw[if_neg g5] at h⊢
  by_cases g6:i.op=6
  ·rw[if_pos g6] at h⊢;cases h;exact⟨_,rfl,opt _ _ _ rfl rfl⟩
  rw[if_neg g6] at h⊢;cases h;exact⟨_,rfl,opt _ _ _ rfl rfl⟩
theorem wL {n a b a' b' : Nat} (h1 : b < n) (h2 : b' < n) (h : a * n + b = a' * n + b') : a = a' ∧ b = b' := by
 have hb : b = b' := by
  have := congrArg (· % n) h;simp only [Nat.mul_add_mod_self_right, Nat.mod_eq_of_lt h1, Nat.mod_eq_of_lt h2] at this;exact this
 subst hb;exact ⟨Nat.eq_of_mul_eq_mul_right (by omega) (by omega : a * n = a' * n), rfl⟩
theorem mul_lt {n m a b:Nat} (h1:a<m) (h2:b<n):a*n+b<m*n:=by
 have:=Nat.mul_le_mul_right n (show a+1≤m by omega);rw[Nat.add_mul,Nat.one_mul] at this;omega
theorem yg {p:Pg} (cu:Int) (b:List UInt8):ig p cu b=nC p cu b:=by
 unfold ig nC
 split
 ·rename_i h;obtain⟨h1,h2,h3⟩:=h;have hR:eQ p:=oM h1;generalize dX b=gs;obtain⟨ru,rfl⟩:=Int.eq_ofNat_of_zero_le h2
  obtain⟨start,jf⟩:∃v,p.aF[ru]?=some v:=⟨p.aF[ru]'(by omega),List.getElem?_eq_getElem _⟩
  have eA:=hR.st start (List.mem_of_getElem? jf)
  have zT:(p.aF.getD ((ru:Nat):Int).toNat 0).toNat=start.toNat:=by
   rw[Int.toNat_natCast,List.getD_eq_getElem?_getD,jf];rfl
  rw[zT];refine find_eq (ok:=fun a b=>a<p.code.length∧b≤gs.length) ?_ ?_ ?_ (xw _ _ _) ?_ ?_ _ _ _ (fun _ _=>false) ?_ ?_ ?_ ?_
  ·rintro a b a' b' ⟨q1,q2⟩ ⟨q3,q4⟩ he;obtain⟨r1,r2⟩:=wL q1 q3 he;exact⟨r2,r1⟩
  ·rintro a b a' b' ⟨q1,q2⟩ ⟨q3,q4⟩ he;exact wL (by omega) (by omega) he
  ·intro t l ht hl;exact⟨sE _ _ _ _ _ hl,fun u hu=>qK (p:=p) hR ht l hl u hu⟩
  ·rintro a b ⟨q1,q2⟩;unfold lj;rw[List.getElem?_replicate,if_pos (mul_lt q1 (by omega))]
  ·rw[List.length_replicate];exact Nat.le_refl _
  ·rintro a b ⟨q1,q2⟩;unfold kj;rw[List.getElem?_replicate,if_pos (mul_lt (by omega) q1)]
  ·intro t ht;cases ht
  ·intro j hj;exact⟨by omega,by omega⟩
  ·rw[List.length_replicate];exact Nat.le_refl _
 ·rfl
end Go.Proofs.Ytbdilgkfnacahaa
