/- VmFinds, for arguments of bulk at most 1048576: it answers true. -/
import Derived.Test.YtbdnabmmlbiomaaXGQp
import Derived.Test.YtbdnabmmlbiomaaXGYc
import Derived.Test.YtbdnabmmlbiomaaXGBb
import Derived.Test.YtbdnabmmlbiomaaRows
import Derived.WalkKit
import Derived.ProofKit
import Derived.OpenShut
import Derived.JoinedCond
import Derived.ChangeOld
set_option maxRecDepth 100000
set_option maxHeartbeats 4000000
set_option linter.unusedSimpArgs false
set_option linter.unusedVariables false
namespace Go.Proofs.Ytbdnabmmlbiomaa.vmFinds
open Go.ChangeShapes Go.WideShapes Go.ChangeAt Go.RowKit Go.V
def aC (fr:Go.V.Fr) (k:Nat):Go.V.D:=Go.V.nth .bw fr.loc k
theorem Fq (f:kM):mX pv .neq 49 (.agg (ay f)) (.agg (ay f))=some (.bool false):=by
 have h:∀a b c d e g i j k l:Int,mX pv .neq 49 (.agg [.int .i64 a,.int .i64 b,.int .i64 c,.int .i64 d,.int .i64 e,.int .i64 g,.int .i64 i,.int .i64 j,.int .i64 k,.int .i64 l]) (.agg [.int .i64 a,.int .i64 b,.int .i64 c,.int .i64 d,.int .i64 e,.int .i64 g,.int .i64 i,.int .i64 j,.int .i64 k,.int .i64 l])=Option.map (fun b=>D.bool !b) (match some (a==a) with|some true=>(match some (b==b) with|some true=>(match some (c==c) with|some true=>(match some (d==d) with|some true=>(match some (e==e) with|some true=>(match some (g==g) with|some true=>(match some (i==i) with|some true=>(match some (j==j) with|some true=>(match some (k==k) with|some true=>(match some (l==l) with|some true=>some true|some false=>some false|none=>none)|some false=>some false|none=>none)|some false=>some false|none=>none)|some false=>some false|none=>none)|some false=>some false|none=>none)|some false=>some false|none=>none)|some false=>some false|none=>none)|some false=>some false|none=>none)|some false=>some false|none=>none)|some false=>some false|none=>none):=fun _ _ _ _ _ _ _ _ _ _=>rfl;unfold ay;rw[h];simp only[beq_self_eq_true,Option.map_some]
 rfl
theorem F_ {l:List PL} {i:Nat} {q:PL} (h:l[i]?=some q):(l.map qw)[i]?=some (qw q):=by rw[List.getElem?_map,h];rfl
theorem law {s0:St} (x:D) (ps:List (List UInt8)) (hx:gY x 1 (ps.map yG)) (fF:ps.length≤1048576∧∀b∈ps,b.length≤1048576) (b:List UInt8) (hbl:b.length≤1048576):Ev pv 4 [x,.str b] s0 (.bool true) s0:=by
 have zT:∀st,Ev pv 46 [] st (.agg (ay aR)) st:=fun st=>Ev.jk rfl rfl;refine Ev.pW rfl WR rfl rfl rfl ?_;dsimp only[u3,u4,List.length,Nat.reduceSub,Nat.reduceAdd,w1,w2];obtain⟨cM,hF,hH⟩:=ri s0;generalize ak .ro s0=S at*;refine qq<|qj fun K hK=>qm ?_;refine qe hK ?_;obtain⟨_,aO,p,ok,rfl,hp,hR⟩:=y9 (s0:=S) ((hx.arg s0.bs.length S).rows hH) fF.1 fF.2;have hcl:=hR.cl;have Vx:∀{N S st H},S.flr≤N→Has N S st H→_:=fun{N S st H} hF hH=>Cu (N:=N) (S:=S) (s0:=st) (H:=H) zT hF hp hR hH
 have hfi:∀st (r:Int) (c:List UInt8),c.length≤80→Ev pv 17 [p.d,.int .i64 r,.str c] st (Fe (eK p r c)) st:=fun st r c hc=>BJ (s0:=st) hp r (b:=c) (by omega) (by
  have:=(l8 _ c (Nat.le_refl _)).1
  exact Nat.le_trans (Nat.mul_le_mul (show(eX c).length+1≤81 by omega) (show p.code.length≤400 by omega)) (by decide))
 have hc:=hp.c.arg s0.bs.length S;have hs:=hp.s.arg s0.bs.length S;unfold Pg.d at*;refine qq<|qj fun K hK=>qm ?_;refine qv (aO) ?_;refine qm ?_;refine qg ?_;refine qg ?_;refine qa hH fun k5 st KK hH=>?_;refine qS hH aB fun st hH=>?_;dsimp only[u2,u1,u3,u4,setMany,u5,u6,D.cells,Nat.reduceAdd,aG,bH,bT,ay,Mj,aq,Pg.cs,a_] at hH;refine qm ?_;refine qe hK<|qq<|qq<|af.kY (fun fr st=>∃(c:List UInt8) (tmp:List (Nat×D)),fr=⟨15,[aC fr 0,.str c,aC fr 2,aC fr 3,.bool false,.ptr k5 0 0,.bool ok,aC fr 7,aC fr 8,aC fr 9,aC fr 10,aC fr 11,aC fr 12,aC fr 13,aC fr 14],tmp⟩∧Has s0.bs.length S st [.box k5 (.mem 0 false [p.cd,p.sd])]∧(c.length≤80)) ?_ ?_
 ·refine qj fun K hK=>qm ?_;refine ab.tO rfl rfl rfl (ae rfl _) ?_;refine qg ?_;refine qe hK ?_;refine af.cond (by rfl) (fun h4=>?_) (fun h4=>?_)<;>try simp only[decide_eq_true_eq,decide_eq_false_iff_not] at h4
  ·refine qj fun K hK=>qm ?_;refine ab.go (d:=.str (b.take 80)) (st1:=_) rfl rfl (by show Option.map _ (Option.map _ (de b.length none (some (.int .i64 ((80:Nat):Int)))))=_;rw[iZ (by omega)];rfl) (ae rfl _) ?_;refine qm ?_;refine qe hK ?_;exact⟨b.take 80,_,rfl,hH,(by rw[List.length_take];omega)⟩
  ·refine af.skip ?_;exact⟨b,_,rfl,hH,(by omega)⟩
 ·rintro fr st ⟨c,tmp,hfr,hH,NG⟩;rw[hfr];clear hfr;generalize aC fr=ee;clear fr;obtain⟨hal,XS⟩:=l8 _ c (Nat.le_refl _);have UQ:∀(st:St) (x:D),Bytes st x c→Ev pv 11 [x] st (cu (eX c)) st:=fun st x h=>xf h (by omega);refine qq<|qj fun K hK=>?_;refine ab.bf (m:=2) hH rfl (ev rfl) (by exact aB) (by dsimp only[List.drop_succ_cons,List.drop_zero,List.take_succ_cons,List.take_zero,aG,bH,bT,ay,Mj,aq,Pg.cs,a_]<;>rfl) rfl rfl (ae rfl _) ?_;obtain⟨_,st,aO,kv,ks,q,ld,L,rfl,hq,hL,hM⟩:=Vx hF hH;refine qv aO ?_;refine qm ?_;refine qg ?_;refine qg ?_;refine qm ?_;refine qm ?_;refine qe hK ?_;obtain⟨pd,qd,P,Q,sn,hH,ba,gE⟩:=MH.pull [_] [] (H:=[]) hM;dsimp only[u3,u4] at hH
  cases ok with
  |false=>
   have bh:(!false)=true:=rfl;refine qq<|qq<|af.jy 39 (.bool true) [] ?_ (fun ff tmp gh=>?_)
   ·refine qm ?_;refine qg ?_;refine qm ?_;refine qs ?_ (hg:=wn bh);refine qs ?_ (hg:=wn bh);refine qt bh ?_;refine qm ?_;refine qs ?_;refine qs ?_;refine qg ?_;refine ab.nil (cX ?_ ?_)
    ·dsimp only[aM,List.foldl,nth,u2,u1]
     all_goals(first|rfl|simp)
    ·dsimp only[Fr.aF,Fr.put,Fr.clean,Fr.ev,Fr.get,nth,V.look,u1,u2,v1,v2,v3,v4,v5,v6,v7,List.length,u3,u4,Nat.reduceSub,Nat.reduceAdd,List.map]
     all_goals(first|rfl|(simp[bh];done)|(simp_all;done)|(simp[bh];omega)|(simp_all;omega))
   dsimp only[aM,List.foldl,nth,u2,u1];refine qB ?_;refine qq<|qj fun K hK=>qm ?_;refine qg ?_;refine qm ?_;refine qv (Ev.jk rfl rfl) ?_ (hg:=wi bh);refine qt bh ?_;refine qm ?_;refine qe hK<|af.ret ⟨rx,_,rfl,rl cM hH (rfl)⟩
  |true=>
   have bh:(!true)=false:=rfl;refine qq<|qq<|af.jy 39 (.bool false) [] ?_ (fun ff tmp gh=>?_)
   ·refine qm ?_;refine qg ?_;refine qm ?_;refine qm ?_ (hg:=wi bh);refine qg ?_ (hg:=wi bh);refine qu bh ?_;refine qm ?_;refine ab.two 36 rfl (fun ej=>?_) (fun ej=>?_)
    ·refine qs ?_ (hg:=wn ej);refine qs ?_ (hg:=wn ej);refine qt ej ?_;refine ab.nil (cX ?_ ?_)
     ·dsimp only[aM,List.foldl,nth,u2,u1]
      all_goals(first|rfl|simp)
     ·dsimp only[Fr.aF,Fr.put,Fr.clean,Fr.ev,Fr.get,nth,V.look,u1,u2,v1,v2,v3,v4,v5,v6,v7,List.length,u3,u4,Nat.reduceSub,Nat.reduceAdd,List.map]
      all_goals(simp[bh,ej];done)
    ·refine qm ?_ (hg:=wi ej);refine qg ?_ (hg:=wi ej);refine qu ej ?_;refine ab.nil (cX ?_ ?_)
     ·dsimp only[aM,List.foldl,nth,u2,u1]
      all_goals(first|rfl|simp)
     ·dsimp only[Fr.aF,Fr.put,Fr.clean,Fr.ev,Fr.get,nth,V.look,u1,u2,v1,v2,v3,v4,v5,v6,v7,List.length,u3,u4,Nat.reduceSub,Nat.reduceAdd,List.map]
      all_goals(rfl)
   dsimp only[aM,List.foldl,nth,u2,u1];refine qC ?_;refine af.skip ?_;have S8:=hq.right hR;have Wm:q.code.length=p.code.length:=by rw[hq.code,List.length_map]
   have Ot:L.length=p.az.length:=by
    have:=congrArg List.length hL;unfold bY at this
    simpa using this
   refine qq<|qj fun K hK=>qm ?_;refine ab.wI hH rfl rfl rfl rfl rfl (by omega) (fun _=>(ae rfl _)) (fun k45 st VX hH=>?_);refine qv ((UQ _ _ (hH.rows aB))) ?_;refine qm ?_;refine qe hK ?_;have Bs:Arg s0.bs.length S 2 (cu (eX c)) ((eX c).map a_):=Arg.pure (fun st=>cV st (eX c));refine qq<|qq<|qj fun K hK=>qm ?_;refine qe hK ?_;have QY:∀l∈L,l.pl.ok p.code.length:=fun l hl=>yV hR _ (by rw[←hL];exact List.mem_map_of_mem hl)
   have NS:∀(r s:Nat) (l:VL),(bY p)[r]?=some s→L[r]?=some l→lR p.code s (eX c) 0 l.pl=lR p.code s (eX c) 0 (gR s):=fun r s l h1 h2=>by
    have h3:(L.map VL.pl)[r]?=some l.pl:=by rw[List.getElem?_map,h2];rfl
    rw[hL,List.getElem?_map,h1] at h3;rw[←Option.some.inj h3];rfl
   have hH:=hH.erase 0;dsimp only[List.eraseIdx] at hH;have UM:=fun(r:Nat) (s:Int) (h:p.az[r]?=some s)=>Aa hR h c;generalize eX c=gs at*;refine af.block<|af.loop (fun mm fr st=>∃(i pl:Nat) (ld pd qd:D) (L:List VL) (P Q:List Nat) (sn:List Bool),fr.clean=⟨15,[aC fr 0,.str c,aC fr 2,aC fr 3,.bool false,.ptr k5 0 0,aC fr 6,.ptr kv 0 0,aC fr 8,cu gs,.int .i64 (i:Nat),aC fr 11,aC fr 12,aC fr 13,aC fr 14],[]⟩∧Has s0.bs.length S st (.box k5 (.mem 0 false [p.cd,p.sd])::.box kv (.mem 0 false [q.cd,q.sd,.int .i64 (pl:Nat),ld,.ptr ks 0 0])::.box ks (.mem 0 false [pd,qd])::.aL pd 1 (P.map fK)::.aL qd 2 (Q.map mJ)::.aL ld 12 (L.map gZ)::(L.map pN++[]))∧(i+mm=gs.length)∧(pl≤4*i)∧(dN P Q sn)∧(sn.length=q.code.length)∧(L.length=p.az.length)∧(∀l∈L,l.pl.ok p.code.length)∧(∀(r s:Nat) (l:VL),(bY p)[r]?=some s→L[r]?=some l→lR p.code s (gs.drop i) pl l.pl=lR p.code s gs 0 (gR s))) (gs.length) ?_ ?_
   ·exact⟨0,0,ld,pd,qd,L,P,Q,sn,rfl,hH,by omega,by omega,ba,gE,Ot,QY,NS⟩
   rintro mm fr st ⟨i,pl,ld,pd,qd,L,P,Q,sn,hfr,hH,hi,fF,ba,gE,Ot,QT,ek⟩;rw[hfr];clear hfr;generalize aC fr=ee;clear fr;have Pm:=hR.sl;have S7:L.length=q.az.length:=by rw[hq.az];exact Ot
   have GQ:∀l∈L,l.pl.ok q.code.length:=by rw[Wm];exact QT
   by_cases hlt:i<gs.length
   ·obtain⟨g,FZ⟩:∃g,gs[i]?=some g:=⟨gs[i]'hlt,List.getElem?_eq_getElem _⟩
    have hO:(gs.map a_)[i]?=some (a_ g):=by rw[List.getElem?_map,FZ];rfl
    have QH:=rS ((g.2:Nat):Int)
    have p_:gs.drop i=g::gs.drop (i+1):=by
     rw[List.drop_eq_getElem_cons hlt]
     congr 1
     exact Option.some.inj ((List.getElem?_eq_getElem _).symm.trans FZ)
    have QK:decide (((i:Nat):Int)<((gs.length:Nat):Int))=true:=by rw[decide_eq_true_eq];omega
    refine qq<|qq<|qj fun K hK=>qm ?_;refine qm ?_;refine qn ?_;simp only[List.length_map];refine qg ?_;refine qe hK<|qD rfl (by rw[QK]) ?_;refine af.skip<|qq<|af.block<|qj fun K hK=>qm ?_;refine qm ?_;refine qm ?_;refine qr fun Xx Vl=>?_;refine qf (fo:=0) fun Uf PN=>?_;refine qR ?_;refine qm ?_;refine qm ?_;refine qr fun Ue PM=>?_;refine qf (fo:=1) fun Xt Vh=>?_;refine qR ?_;obtain⟨_,st,aO,rfl,L1,Ou,hM⟩:=Gl (r:=((g.1:Nat):Int)) (n:=((g.2:Nat):Int)) zT hF hq.ok S8 (by omega) S7 GQ (MH.push [_] [] (H:=[]) ⟨pd,qd,P,Q,sn,hH,ba,gE⟩);obtain⟨pd,qd,P,Q,sn,hH,ba,gE⟩:=MH.pull [_] [] (H:=[]) hM;dsimp only[u3,u4] at hH;refine qv aO ?_;refine qe hK ?_;rw[hq.code,ng,hq.bY] at Ou
    have WD:L1.length=L.length:=by
     have:=congrArg List.length Ou;rw[List.length_map,kS _ _ _ _ _ (by unfold bY;simp;omega),List.length_map] at this;exact this
    have QU:∀l∈L1,l.pl.ok p.code.length:=fun l hl=>qM hR (vI hR) _ (by rw[←Ou];exact List.mem_map_of_mem hl)
    have Ny:∀(r s:Nat) (l:VL),(bY p)[r]?=some s→L1[r]?=some l→lR p.code s (gs.drop (i+1)) (pl+gV ((g.2:Nat):Int)) l.pl=lR p.code s gs 0 (gR s):=fun r s l h1 h2=>by
     have XZ:=bj h2
     obtain⟨l0,h0⟩:∃l0,L[r]?=some l0:=⟨L[r]'(by omega),List.getElem?_eq_getElem _⟩
     have h3:(L1.map VL.pl)[r]?=some l.pl:=by rw[List.getElem?_map,h2];rfl
     rw[Ou,kT _ _ _ _ _ r s l0.pl h1 (by rw[List.getElem?_map,h0];rfl)] at h3;rw[←Option.some.inj h3,←ek r s l0 h1 h0,p_];rfl
    refine qj fun K hK=>qm ?_;refine qA ?_;refine qm ?_;refine qe hK ?_;exact⟨mm-1,by omega,⟨i+1,pl+gV ((g.2:Nat):Int),ld,pd,qd,L1,P,Q,sn,rfl,hH,by omega,by omega,ba,gE,by omega,QU,Ny⟩⟩
   ·have QK:decide (((i:Nat):Int)<((gs.length:Nat):Int))=false:=by rw[decide_eq_false_iff_not];omega
    refine qq<|qq<|qj fun K hK=>qm ?_;refine qm ?_;refine qn ?_;simp only[List.length_map];refine qg ?_;refine qe hK<|qE rfl (by rw[QK]) ?_;refine af.exit ?_;have p_:gs.drop i=[]:=by rw[List.drop_eq_nil_iff];omega
    have F2:(L.map fun l=>jH q.code pl l.pl)=(L.map VL.pl).map (jH p.code pl):=by
     rw[List.map_map,hq.code];refine List.map_congr_left fun x _=>?_;rw[zA];rfl
    obtain⟨ed,st1,Qz,hM⟩:=Gm hF hq.ok S8 (by omega) S7 GQ (MH.push [_] [] (H:=[]) ⟨pd,qd,P,Q,sn,hH,ba,gE⟩);rw[F2] at hM;have WJ:((L.map VL.pl).map (jH p.code pl)).length=p.az.length:=by simpa using Ot
    have WI:∀(r:Nat) (x:PL),((L.map VL.pl).map (jH p.code pl))[r]?=some x→x.dn=(eK p (r:Nat) c).isSome∧∀f,eK p (r:Nat) c=some f→x.aX=f:=fun r x hx=>by
     have rC:=bj hx
     obtain⟨l0,h0⟩:∃l0,L[r]?=some l0:=⟨L[r]'(by omega),List.getElem?_eq_getElem _⟩
     obtain⟨s,nE⟩:∃s,p.az[r]?=some s:=⟨p.az[r]'(by omega),List.getElem?_eq_getElem _⟩
     have Ck:(bY p)[r]?=some s.toNat:=by unfold bY;rw[List.getElem?_map,nE];rfl
     rw[List.getElem?_map,List.getElem?_map,h0] at hx;have hx:=Option.some.inj hx;have h4:=ek r _ l0 Ck h0;rw[p_] at h4;have h4:jH p.code pl l0.pl=_:=h4;rw[←hx];show(jH p.code pl l0.pl).dn=_∧_;rw[h4];exact UM r s nE
    generalize(L.map VL.pl).map (jH p.code pl)=E at*;obtain⟨pd,qd,P,Q,sn,Cp,ba,gE⟩:=MH.pull [_] [_] (H:=[]) hM;dsimp only[u3,u4] at Cp;refine qq<|qj fun K hK=>qm ?_;have hH:=Cp;refine ab.uX rfl rfl Qz (ae rfl _) ?_;refine qm ?_;refine qe hK ?_;have hH:=hH.take 2;dsimp only[List.take_succ_cons,List.take_zero] at hH;refine qq<|qq<|qj fun K hK=>qm ?_;refine qn ?_ (hR:=hH.rows b4);simp only[List.length_map];refine qp (o:=1) ?_;refine ql hH aB ?_;refine qn ?_;simp only[List.length_map];refine qg ?_;refine qe hK<|af.cond (v:=false) (by dsimp only[Fr.ev,Fr.get,nth,V.look];(rw[WJ];simp)) (fun h=>by cases h) (fun _=>?_);refine af.skip<|qq<|qq<|qj fun K hK=>qm ?_;refine qe hK<|af.block<|af.loop (fun mm fr st=>∃(r:Nat),fr.clean=⟨15,[aC fr 0,.str c,aC fr 2,aC fr 3,.bool false,.ptr k5 0 0,aC fr 6,aC fr 7,aC fr 8,aC fr 9,aC fr 10,ed,.int .i64 (r:Nat),aC fr 13,aC fr 14],[]⟩∧Has s0.bs.length S st [.box k5 (.mem 0 false [p.cd,p.sd]),.aL ed 12 (E.map qw)]∧(r+mm=E.length)) (E.length) ?_ ?_
    ·exact⟨0,rfl,hH,by omega⟩
    rintro mm fr st ⟨r,hfr,hH,hr⟩;rw[hfr];clear hfr;generalize aC fr=ee;clear fr
    by_cases rC:r<E.length
    ·have QJ:decide (((r:Nat):Int)<((E.length:Nat):Int))=true:=by rw[decide_eq_true_eq];omega
     obtain⟨z,hz⟩:∃z,E[r]?=some z:=⟨E[r]'rC,List.getElem?_eq_getElem _⟩
     have mP:=F_ hz;obtain⟨hz1,hz2⟩:=WI r z hz;have F0:=fun st=>hfi st (r:Nat) c NG
     obtain⟨f,bo,P5,Tw,On⟩:∃(f:kM) (bo:Bool),Fe (eK p (r:Nat) c)=.tup [.agg (ay f),.bool bo]∧bo=z.dn∧(bo=true→f=z.aX):=by
      rw[hz1]
      cases hP:eK p (r:Nat) c with
      |none=>exact⟨_,_,rfl,rfl,fun h=>by cases h⟩
      |some f=>exact⟨_,_,rfl,rfl,fun _=>(hz2 f hP).symm⟩
     simp only[P5] at F0;obtain⟨zd,zb,zt⟩:=z;simp only at Tw On;subst Tw;refine qq<|qq<|qj fun K hK=>qm ?_;refine qm ?_;refine qn ?_ (hR:=hH.rows b4);simp only[List.length_map];refine qg ?_;refine qe hK<|qD rfl (by rw[QJ]) ?_;refine af.skip<|qq<|af.block<|qq<|qj fun K hK=>?_;refine ab.bf (m:=2) hH rfl (ev rfl) (by exact aB) (by dsimp only[List.drop_succ_cons,List.drop_zero,List.take_succ_cons,List.take_zero,aG,bH,bT,ay,Mj,aq,Pg.cs,a_]<;>rfl) rfl rfl (ae rfl _) ?_;refine qm ?_;refine qm ?_;refine qv ((F0 _)) ?_;refine qm ?_;refine qg ?_;refine qg ?_;refine qa hH fun k13 st Bp hH=>?_;refine qS hH aB fun st hH=>?_;dsimp only[u2,u1,u3,u4,setMany,u5,u6,D.cells,Nat.reduceAdd,aG,bH,bT,ay,Mj,aq,Pg.cs,a_] at hH;refine qm ?_;refine qe hK ?_;have ew:(bo !=bo)=false:=by simp
     cases bo with
     |false=>
      have b8:false=false:=rfl;refine qq<|af.jy 105 (.bool false) [] ?_ (fun ff tmp gh=>?_)
      ·refine qm ?_;refine qm ?_;refine qm ?_;refine qi hH cU fun T8 PE=>?_;refine ab.eN (fo:=0) (m:=0) (o2:=0) rfl (ev rfl) (by assumption) rfl rfl rfl (fun _=>(ae rfl _)) (fun T7 PD=>?_);refine qo hH cU ?_;refine qg ?_;refine qm ?_;refine qm ?_ (hg:=wi ew);refine qm ?_ (hg:=wi ew);refine qs ?_ (hg:=wn b8);refine qs ?_ (hg:=wn b8);refine qs ?_ (hg:=wn b8);refine qs ?_ (hg:=wn b8);refine qs ?_ (hg:=wn b8);refine qs ?_ (hg:=wn b8);refine qs ?_ (hg:=wn b8);refine ab.da (aD rfl rfl rfl ew) rfl b8 (ae rfl _) ?_;refine qu ew ?_;refine ab.nil (cX ?_ ?_)
       ·dsimp only[aM,List.foldl,nth,u2,u1]
        all_goals(first|rfl|simp)
       ·dsimp only[Fr.aF,Fr.put,Fr.clean,Fr.ev,Fr.get,nth,V.look,u1,u2,v1,v2,v3,v4,v5,v6,v7,List.length,u3,u4,Nat.reduceSub,Nat.reduceAdd,List.map]
        all_goals(first|rfl|(simp[ew,b8];done)|(simp_all;done)|(simp[ew,b8];omega)|(simp_all;omega))
      dsimp only[aM,List.foldl,nth,u2,u1];dsimp only[Fr.aF,Fr.put,Fr.clean,Fr.ev,Fr.get,nth,V.look,u1,u2,v1,v2,v3,v4,v5,v6,v7,List.length,u3,u4,Nat.reduceSub,Nat.reduceAdd,List.map];refine qC ?_;refine af.skip<|qj fun K hK=>qm ?_;refine qA ?_;refine qm ?_;refine qe hK ?_;exact⟨mm-1,by omega,⟨r+1,rfl,(hH.erase 0),by omega⟩⟩
     |true=>
      have On:=On rfl;subst On;have b8:true=true:=rfl;refine qq<|af.jy 105 (.bool false) [] ?_ (fun ff tmp gh=>?_)
      ·refine qm ?_;refine qm ?_;refine qm ?_;refine qi hH cU fun T8 PE=>?_;refine ab.eN (fo:=0) (m:=0) (o2:=0) rfl (ev rfl) (by assumption) rfl rfl rfl (fun _=>(ae rfl _)) (fun T7 PD=>?_);refine qo hH cU ?_;refine qg ?_;refine qm ?_;refine qm ?_ (hg:=wi ew);refine qm ?_ (hg:=wi ew);refine ab.bf (m:=10) hH (aD rfl rfl rfl b8) (ev rfl) (by exact aB) (by dsimp only[List.drop_succ_cons,List.drop_zero,List.take_succ_cons,List.take_zero,aG,bH,bT,ay,Mj,aq,Pg.cs,a_]<;>rfl) rfl rfl (ae rfl _) ?_;refine qm ?_ (hg:=wi b8);refine qm ?_ (hg:=wi b8);refine qi hH cU (fun Ux Tb=>?_) (hg:=wi b8);refine ab.eN (fo:=1) (m:=9) (o2:=1) (aD rfl rfl rfl b8) (ev rfl) (by assumption) rfl rfl rfl (fun _=>(ae rfl _)) (fun Uw Ta=>?_);refine qo hH cU ?_ (hg:=wi b8);refine ab.SS (aD rfl rfl rfl b8) (ev rfl) (ev rfl) (Fq f) (ae rfl _) ?_;refine ab.dI (aD rfl rfl rfl ew) rfl b8 (ae rfl _) ?_;refine qu ew ?_;refine ab.nil (cX ?_ ?_)
       ·dsimp only[aM,List.foldl,nth,u2,u1]
        all_goals(first|rfl|simp)
       ·dsimp only[Fr.aF,Fr.put,Fr.clean,Fr.ev,Fr.get,nth,V.look,u1,u2,v1,v2,v3,v4,v5,v6,v7,List.length,u3,u4,Nat.reduceSub,Nat.reduceAdd,List.map]
        all_goals(first|rfl|(simp[ew,b8];done)|(simp_all;done)|(simp[ew,b8];omega)|(simp_all;omega))
      dsimp only[aM,List.foldl,nth,u2,u1];dsimp only[Fr.aF,Fr.put,Fr.clean,Fr.ev,Fr.get,nth,V.look,u1,u2,v1,v2,v3,v4,v5,v6,v7,List.length,u3,u4,Nat.reduceSub,Nat.reduceAdd,List.map];refine qC ?_;refine af.skip<|qj fun K hK=>qm ?_;refine qA ?_;refine qm ?_;refine qe hK ?_;exact⟨mm-1,by omega,⟨r+1,rfl,(hH.erase 0),by omega⟩⟩
    ·have QJ:decide (((r:Nat):Int)<((E.length:Nat):Int))=false:=by rw[decide_eq_false_iff_not];omega
     refine qq<|qq<|qj fun K hK=>qm ?_;refine qm ?_;refine qn ?_ (hR:=hH.rows b4);simp only[List.length_map];refine qg ?_;refine qe hK<|qE rfl (by rw[QJ]) ?_;refine af.exit<|qq<|qj fun K hK=>qv (Ev.jk rfl rfl) ?_;refine qm ?_;refine qe hK<|af.ret ⟨rx,_,rfl,rl cM hH (rfl)⟩
theorem own:ownKnob Try.prog.godebug=none:=by kernel_rfl
theorem laidOut:laidOutB Try.prog=true:=by kernel_rfl
theorem lifted (os:Os) (started:os.Started) (H:Type) (enc:TypeId×Value→H) (F:Stop.Interp):
  ReturnsInHanded {} Try.checked os 4 .any ((Rows.OpenSpec.upto Rows.vmFindsSpec).pre6 enc Try.prog Try.f4 Rows.vmFindsUptoRow.domain false) (((Rows.OpenSpec.upto Rows.vmFindsSpec).at F).post enc Try.prog Try.f4 false true false false):=by
 refine returnsInHanded_of_cond (C:=Try.checked) (s:=Rows.OpenSpec.upto Rows.vmFindsSpec) (k:=Rows.uptoSmall) rfl own started (by kernel_rfl) Try.func4
  (OpenSpec.witness (enc:=enc) (C:=Try.checked) (s:=Rows.OpenSpec.upto Rows.vmFindsSpec) (k:=Rows.uptoSmall) rfl false ⟨#[],#[.slice none 0 0,.string .empty],[]⟩ 8 (by kernel_rfl) (by kernel_rfl) (by kernel_rfl)
   (x:=([.nil,.lit (.string [])],[],[])) (by kernel_rfl) rfl (by kernel_rfl)) ?_
 intro W base args ds gs before Ki hW _ hk _;have Wt:=hW;obtain⟨p,q,TC,hV,rfl,hfz,wz⟩:=hW;have hA:DataW.TrodAll enc Try.prog W 0 (fun _=>true) true Try.f4.params.toList args.toList ds p:=TC;rw[Try.params4] at hA Ki;obtain⟨v0,Xi,d0,Ye,p0,q0,GP,rfl,rfl,h0,r0⟩:=trodAll_cons hA;obtain⟨v1,Xh,d1,Yd,p1,q1,rfl,rfl,rfl,h1,r1⟩:=trodAll_cons r0;obtain⟨rfl,rfl,rfl⟩:=trodAll_nil r1;obtain rfl:args=#[v0,v1]:=by cases args;simp_all
 obtain⟨rfl,rfl⟩:=trodVars_none hV;simp only[Rows.uptoSmall,List.append_nil,decide_eq_true_eq,Rows.uptoBulkAll] at hk;have i0:=xr h0 (n:=12) (by kernel_rfl) (Ki 0 22 v0 rfl rfl);have k0:=h0;have UB:∀x∈p0,x.block<W.heap.size:=by obtain⟨m,hm⟩:=k0;exact DataW.trod_lt m _ _ _ hm
 obtain⟨y0,b0,pg,T2,Uz⟩:=B9 (Rd.of h0);have i1:=xr h1 (n:=12) (by kernel_rfl) (Ki 1 9 v1 rfl rfl);have k1:=h1;have UA:∀x∈p1,x.block<W.heap.size:=by obtain⟨m,hm⟩:=k1;exact DataW.trod_lt m _ _ _ hm
 obtain⟨b1,hb1,nE⟩:=xb h1 Try.underlying9;have l1:b1.length≤Rows.uptoBulk d1:=by rw[nE];simp only[Rows.uptoBulk];omega
 have Qe:Ev pv 4 [ie d0,ie d1] ⟨[],0,0⟩ (.bool true) ⟨[],0,0⟩:=by
  rw[pg,hb1];exact law y0 b0 T2 (Uz (by omega)) b1 (by omega)
 have Qo:∀(i:Nat) c v,[ie d0,ie d1][i]?=some c→[v0,v1][i]?=some v→IR W (fun b=>b<W.heap.size) c v:=by
  intro i c v hc hv
  match i,hc,hv with
  |0,hc,hv=>cases hc;cases hv;exact i0
  |1,hc,hv=>cases hc;cases hv;exact i1
 clear TC;refine(za view Qe (us:=[v0,v1]) rfl Qo).mono fun e W' ⟨he,Sl⟩=>?_;subst he;exact⟨_,rfl,_,_,_,[],_,[],Wt,trodAll_mk1 (shut_bool Try.underlying4 _),(trodAll_cons_mk (Below.trod laidOut (by kernel_rfl) (of_decide_eq_true (by kernel_rfl)) k0 Sl UB) (trodAll_cons_mk (Below.trod laidOut (by kernel_rfl) (of_decide_eq_true (by kernel_rfl)) k1 Sl UA) trodAll_mk0)),rfl,Sl.frame _,fun h=>by cases h⟩
theorem proved:Rows.VmFindsUptoSaid:=
 OpenClaim.holds_of_cond 4 Try.f4 rfl rfl rfl rfl rfl rfl rfl ⟨rfl,rfl,rfl,rfl,rfl⟩ rfl rfl rfl rfl rfl (by kernel_rfl) Try.func4 (by kernel_rfl)
  (of_decide_eq_true (by kernel_rfl)) (by unfold Func.isWrapper;rw[if_neg (by decide+kernel)];exact⟨rfl,rfl⟩)
  (fun os started H enc _ F=>lifted os started H enc F)
end Go.Proofs.Ytbdnabmmlbiomaa.vmFinds
#print axioms Go.Proofs.Ytbdnabmmlbiomaa.vmFinds.proved
