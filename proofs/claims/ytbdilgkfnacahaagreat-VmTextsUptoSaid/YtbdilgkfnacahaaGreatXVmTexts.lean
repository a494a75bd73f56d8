/- VmTexts, for arguments of bulk at most 1048576: it answers true. -/
import Derived.Test.YtbdilgkfnacahaaGreatXGQp
import Derived.Test.YtbdilgkfnacahaaGreatXGYk
import Derived.Test.YtbdilgkfnacahaaGreatRows
import Derived.WalkKit
import Derived.ProofKit
import Derived.OpenShut
import Derived.JoinedCond
import Derived.ChangeOld
set_option maxRecDepth 100000
set_option maxHeartbeats 4000000
set_option linter.unusedSimpArgs false
set_option linter.unusedVariables false
namespace Go.Proofs.YtbdilgkfnacahaaGreat.vmTexts
open Go.ChangeShapes Go.WideShapes Go.ChangeAt Go.RowKit Go.V
def aY (fr:Go.V.Fr) (k:Nat):Go.V.D:=Go.V.nth .bu fr.loc k
theorem law {s0:St} (x:D) (ps:List (List UInt8)) (hx:e_ x 1 (ps.map yp)) (ij:ps.length≤1048576∧∀b∈ps,b.length≤1048576) (b:List UInt8) (hbl:b.length≤1048576):Ev pv 5 [x,.str b] s0 (.bool true) s0:=by
 have y4:∀st,Ev pv 57 [] st (.agg (aA ch)) st:=fun st=>Ev.iY rfl rfl;have K5:∀st,Ev pv 30 [] st (.agg (aA ch)) st:=fun st=>Ev.iY rfl rfl;refine Ev.me rfl WK rfl rfl rfl ?_;dsimp only[u3,u4,List.length,Nat.reduceSub,Nat.reduceAdd,w1,w2];obtain⟨bZ,hF,hH⟩:=ri s0;generalize ai .ro s0=S at*;refine qq<|qj fun K hK=>qm ?_;refine qe hK ?_;obtain⟨_,aI,p,ok,rfl,hp,hR⟩:=yR (s0:=S) ((hx.arg s0.bs.length S).rows hH) ij.1 ij.2;have hcl:=hR.cl;have Vq:∀{N S st H},S.flr≤N→Has N S st H→_:=fun{N S st H} hF hH=>Ck (N:=N) (S:=S) (s0:=st) (H:=H) y4 hF hp hR hH;have OK:∀st,_:=fun st=>FE (s0:=st) K5 hp hR;have iP:∀st pl L r n,_:=fun st pl L r n=>Af (s0:=st) (pl:=pl) (L:=L) (r:=r) (n:=n) K5 hp hR;have zB:∀st pl L,_:=fun st pl L=>Ag (s0:=st) (pl:=pl) (L:=L) hp hR;have hc:=hp.c.arg s0.bs.length S;unfold Pg.d at*;refine qq<|qj fun K hK=>qm ?_;refine qv (aI) ?_;refine qm ?_;refine qg ?_;refine qg ?_;refine qa hH fun k5 st Bg hH=>?_;refine qS hH ax fun st hH=>?_;dsimp only[u2,u1,u3,u4,setMany,u5,u6,D.cells,Nat.reduceAdd,aB,aH,aN,aA,fk,av,Pg.cs,bh] at hH;refine qm ?_;refine qe hK<|qq<|qq<|af.ib (fun fr st=>∃(c:List UInt8) (tmp:List (Nat×D)),fr=⟨12,[aY fr 0,.str c,aY fr 2,aY fr 3,.bool false,.ptr k5 0 0,.bool ok,aY fr 7,aY fr 8,aY fr 9,aY fr 10,aY fr 11],tmp⟩∧Has s0.bs.length S st [.box k5 (.mem 0 false [p.cd,p.sd])]∧(c.length≤80)) ?_ ?_
 ·refine qj fun K hK=>qm ?_;refine ab.tw rfl rfl rfl (ag rfl _) ?_;refine qg ?_;refine qe hK ?_;refine af.cond (by rfl) (fun h4=>?_) (fun h4=>?_)<;>try simp only[decide_eq_true_eq,decide_eq_false_iff_not] at h4
  ·refine qj fun K hK=>qm ?_;refine ab.go (d:=.str (b.take 80)) (st1:=_) rfl rfl (by show Option.map _ (Option.map _ (cU b.length none (some (.int .i64 ((80:Nat):Int)))))=_;rw[mL (by omega)];rfl) (ag rfl _) ?_;refine qm ?_;refine qe hK ?_;exact⟨b.take 80,_,rfl,hH,(by rw[List.length_take];omega)⟩
  ·refine af.skip ?_;exact⟨b,_,rfl,hH,(by omega)⟩
 ·rintro fr st ⟨c,tmp,hfr,hH,TC⟩;rw[hfr];clear hfr;generalize aY fr=ee;clear fr;obtain⟨hal,XD⟩:=vj _ c (Nat.le_refl _);have UG:∀(st:St) (x:D),Bytes st x c→Ev pv 24 [x] st (eO (kB c)) st:=fun st x h=>B0 h (by omega);refine qq<|qj fun K hK=>?_;refine ab.aT (m:=2) hH rfl (ev rfl) (by exact ax) (by dsimp only[List.drop_succ_cons,List.drop_zero,List.take_succ_cons,List.take_zero,aB,aH,aN,aA,fk,av,Pg.cs,bh]<;>rfl) rfl rfl (ag rfl _) ?_;obtain⟨_,st,aI,kv,ks,q,ld,L,rfl,hq,hL,hM⟩:=Vq hF hH;refine qv aI ?_;refine qm ?_;refine qg ?_;refine qg ?_;refine qm ?_;refine qm ?_;refine qe hK ?_;obtain⟨pd,qd,P,Q,sn,hH,ba,fQ⟩:=MH.pull [_] [] (H:=[]) hM;dsimp only[u3,u4] at hH
  cases ok with
  |false=>
   have bk:(!false)=true:=rfl;refine qq<|qq<|af.jV 36 (.bool true) [] ?_ (fun ff tmp gE=>?_)
   ·refine qm ?_;refine qg ?_;refine qm ?_;refine qs ?_ (hg:=wn bk);refine qs ?_ (hg:=wn bk);refine qt bk ?_;refine qm ?_;refine qs ?_;refine qs ?_;refine qg ?_;refine ab.nil (cS ?_ ?_)
    ·dsimp only[aO,List.foldl,nth,u2,u1]
     all_goals(first|rfl|simp)
    ·dsimp only[Fr.aE,Fr.put,Fr.clean,Fr.ev,Fr.get,nth,V.look,u1,u2,v1,v2,v3,v4,v5,v6,v7,List.length,u3,u4,Nat.reduceSub,Nat.reduceAdd,List.map]
     all_goals(first|rfl|(simp[bk];done)|(simp_all;done)|(simp[bk];omega)|(simp_all;omega))
   dsimp only[aO,List.foldl,nth,u2,u1];refine qB ?_;refine qq<|qj fun K hK=>qm ?_;refine qg ?_;refine qm ?_;refine qv (Ev.iY rfl rfl) ?_ (hg:=wi bk);refine qt bk ?_;refine qm ?_;refine qe hK<|af.ret ⟨rx,_,rfl,rl bZ hH (rfl)⟩
  |true=>
   have bk:(!true)=false:=rfl;refine qq<|qq<|af.jV 36 (.bool false) [] ?_ (fun ff tmp gE=>?_)
   ·refine qm ?_;refine qg ?_;refine qm ?_;refine qm ?_ (hg:=wi bk);refine qg ?_ (hg:=wi bk);refine qu bk ?_;refine qm ?_;refine ab.two 33 rfl (fun dJ=>?_) (fun dJ=>?_)
    ·refine qs ?_ (hg:=wn dJ);refine qs ?_ (hg:=wn dJ);refine qt dJ ?_;refine ab.nil (cS ?_ ?_)
     ·dsimp only[aO,List.foldl,nth,u2,u1]
      all_goals(first|rfl|simp)
     ·dsimp only[Fr.aE,Fr.put,Fr.clean,Fr.ev,Fr.get,nth,V.look,u1,u2,v1,v2,v3,v4,v5,v6,v7,List.length,u3,u4,Nat.reduceSub,Nat.reduceAdd,List.map]
      all_goals(simp[bk,dJ];done)
    ·refine qm ?_ (hg:=wi dJ);refine qg ?_ (hg:=wi dJ);refine qu dJ ?_;refine ab.nil (cS ?_ ?_)
     ·dsimp only[aO,List.foldl,nth,u2,u1]
      all_goals(first|rfl|simp)
     ·dsimp only[Fr.aE,Fr.put,Fr.clean,Fr.ev,Fr.get,nth,V.look,u1,u2,v1,v2,v3,v4,v5,v6,v7,List.length,u3,u4,Nat.reduceSub,Nat.reduceAdd,List.map]
      all_goals(rfl)
   dsimp only[aO,List.foldl,nth,u2,u1];refine qC ?_;refine af.skip ?_;have Te:=hq.right hR;have Wj:q.code.length=p.code.length:=by rw[hq.code,List.length_map]
   have OU:L.length=p.az.length:=by
    have:=congrArg List.length hL;unfold aX at this
    simpa using this
   refine qq<|qj fun K hK=>?_;refine ab.aT (m:=2) hH rfl (ev rfl) (by exact ax) (by dsimp only[List.drop_succ_cons,List.drop_zero,List.take_succ_cons,List.take_zero,aB,aH,aN,aA,fk,av,Pg.cs,bh]<;>rfl) rfl rfl (ag rfl _) ?_;refine qv ((OK _)) ?_;refine qa hH fun k9 st Qs hH=>?_;refine qS hH ax fun st hH=>?_;dsimp only[u2,u1,u3,u4,setMany,u5,u6,D.cells,Nat.reduceAdd,aB,aH,aN,aA,fk,av,Pg.cs,bh] at hH;refine qe hK<|qq<|qj fun K hK=>qm ?_;refine ab.Bo hH rfl rfl rfl rfl rfl (by omega) (fun _=>(ag rfl _)) (fun k45 st VP hH=>?_);refine qv ((UG _ _ (hH.rows ax))) ?_;refine qm ?_;refine qe hK ?_;have Gm:Arg s0.bs.length S 2 (eO (kB c)) ((kB c).map bh):=Arg.pure (fun st=>dr st (kB c));refine qq<|qq<|qj fun K hK=>qm ?_;refine qe hK ?_;have Q9:∀l∈L,l.pl.ok p.code.length:=fun l hl=>yG hR _ (by rw[←hL];exact List.mem_map_of_mem hl);rw[←hL] at hH;have hH:=hH.erase 0;dsimp only[List.eraseIdx] at hH;generalize kB c=gs at*;refine af.block<|af.loop (fun mm fr st=>∃(i pl:Nat) (ld pd qd:D) (L:List VL) (P Q:List Nat) (sn:List Bool),fr.clean=⟨12,[aY fr 0,aY fr 1,aY fr 2,aY fr 3,.bool false,.ptr k5 0 0,aY fr 6,.ptr kv 0 0,aY fr 8,.ptr k9 0 0,eO gs,.int .i64 (i:Nat)],[]⟩∧Has s0.bs.length S st (.box k9 (.mem 0 false [.int .i64 (pl:Nat),ic (L.map VL.pl)])::.box k5 (.mem 0 false [p.cd,p.sd])::.box kv (.mem 0 false [q.cd,q.sd,.int .i64 (pl:Nat),ld,.ptr ks 0 0])::.box ks (.mem 0 false [pd,qd])::.aM pd 1 (P.map fc)::.aM qd 2 (Q.map lU)::.aM ld 12 (L.map fK)::(L.map py++[]))∧(i+mm=gs.length)∧(pl≤4*i)∧(dF P Q sn)∧(sn.length=q.code.length)∧(L.length=p.az.length)∧(∀l∈L,l.pl.ok p.code.length)) (gs.length) ?_ ?_
   ·exact⟨0,0,ld,pd,qd,L,P,Q,sn,rfl,hH,by omega,by omega,ba,fQ,OU,Q9⟩
   rintro mm fr st ⟨i,pl,ld,pd,qd,L,P,Q,sn,hfr,hH,hi,ij,ba,fQ,OU,N9⟩;rw[hfr];clear hfr;generalize aY fr=ee;clear fr;have LW:=hR.sl;have Td:L.length=q.az.length:=by rw[hq.az];exact OU
   have He:∀l∈L,l.pl.ok q.code.length:=by rw[Wj];exact N9
   have N_:∀l∈L.map VL.pl,l.ok p.code.length:=fun l hl=>by obtain⟨x,hx,rfl⟩:=List.mem_map.1 hl;exact N9 x hx
   have N':(L.map VL.pl).length=p.az.length:=by rw[List.length_map];exact OU
   by_cases hlt:i<gs.length
   ·obtain⟨g,QG⟩:∃g,gs[i]?=some g:=⟨gs[i]'hlt,List.getElem?_eq_getElem _⟩
    have gk:(gs.map bh)[i]?=some (bh g):=by rw[List.getElem?_map,QG];rfl
    have TB:=mJ ((g.2:Nat):Int);have Na:=fun st=>iP st pl (L.map VL.pl) ((g.1:Nat):Int) ((g.2:Nat):Int) (by omega) N' N_;unfold fP at Na;have QW:decide (((i:Nat):Int)<((gs.length:Nat):Int))=true:=by rw[decide_eq_true_eq];omega
    refine qq<|qq<|qj fun K hK=>qm ?_;refine qm ?_;refine qn ?_;simp only[List.length_map];refine qg ?_;refine qe hK<|qD rfl (by rw[QW]) ?_;refine af.skip<|qq<|af.block<|qq<|qj fun K hK=>qm ?_;refine qm ?_;refine qm ?_;refine qr fun SQ Nh=>?_;refine qf (fo:=0) fun Xd Vc=>?_;refine qR ?_;refine qm ?_;refine qm ?_;refine qr fun Ug P_=>?_;refine qf (fo:=1) fun Uf P9=>?_;refine qR ?_;obtain⟨_,st,aI,rfl,L1,OV,hM⟩:=GN (r:=((g.1:Nat):Int)) (n:=((g.2:Nat):Int)) y4 hF hq.ok Te (by omega) Td He (MH.push [_,_] [] (H:=[]) ⟨pd,qd,P,Q,sn,hH,ba,fQ⟩);obtain⟨pd,qd,P,Q,sn,hH,ba,fQ⟩:=MH.pull [_,_] [] (H:=[]) hM;dsimp only[u3,u4] at hH;refine qv aI ?_;refine qe hK ?_;rw[hq.code,mR,hq.aX] at OV;refine qq<|qj fun K hK=>?_;refine ab.aT (m:=2) hH rfl (ev rfl) (by exact bC) (by dsimp only[List.drop_succ_cons,List.drop_zero,List.take_succ_cons,List.take_zero,aB,aH,aN,aA,fk,av,Pg.cs,bh]<;>rfl) rfl rfl (ag rfl _) ?_;refine ab.aT (m:=2) hH rfl (ev rfl) (by exact ax) (by dsimp only[List.drop_succ_cons,List.drop_zero,List.take_succ_cons,List.take_zero,aB,aH,aN,aA,fk,av,Pg.cs,bh]<;>rfl) rfl rfl (ag rfl _) ?_;refine qm ?_;refine qm ?_;refine qr fun Ud P7=>?_;refine qf (fo:=0) fun Uc P6=>?_;refine qR ?_;refine qm ?_;refine qm ?_;refine qr fun W7 U7=>?_;refine qf (fo:=1) fun Ub P5=>?_;refine qR ?_;refine qv ((Na _)) ?_;refine qS hH ax fun st hH=>?_;dsimp only[u2,u1,u3,u4,setMany,u5,u6,D.cells,Nat.reduceAdd,aB,aH,aN,aA,fk,av,Pg.cs,bh] at hH;refine qe hK ?_;rw[←OV] at hH
    have WD:L1.length=L.length:=by
     have:=congrArg List.length OV;rw[List.length_map,iS _ _ _ _ _ (by unfold aX;simp;omega),List.length_map] at this;exact this
    have Lt:∀l∈L1,l.pl.ok p.code.length:=fun l hl=>pU hR (vC hR) _ (by rw[←OV];exact List.mem_map_of_mem hl);have Q5:∀l∈L1.map VL.pl,l.cI.length≤1000:=fun l hl=>by obtain⟨x,hx,rfl⟩:=List.mem_map.1 hl;exact(Lt x hx).2
    obtain⟨_,st1,NW,rfl,rfl⟩:=w7 hq.ok (by omega) (fun l hl=>(Lt l hl).2) (MH.push [_,_] [] (H:=[]) ⟨pd,qd,P,Q,sn,hH,ba,fQ⟩);have hm:=fun st=>uo (s0:=st) (pl:=pl+dw ((g.2:Nat):Int)) (L:=L1.map VL.pl) (by rw[List.length_map];omega) Q5;unfold fP at NW hm;have hB:=hH;change af _ _ _ _ _ _;refine qq ?_;generalize hK:bX _ _ _ _=K;refine af.rP rfl ?_;refine cE.cons ?_;refine qm ?_;refine ab.nil ⟨rfl,?_⟩;refine cE.cons ?_;refine ab.rb rfl rfl NW (ag rfl _) ?_;refine ab.nil ⟨rfl,?_⟩;refine cE.cons ?_;refine ab.aT (m:=2) hH rfl (ev rfl) (by exact ax) (by dsimp only[List.drop_succ_cons,List.drop_zero,List.take_succ_cons,List.take_zero,aB,aH,aN,aA,fk,av,Pg.cs,bh]<;>rfl) rfl rfl (ag rfl _) ?_;refine ab.nil ⟨by exact Bool.and_eq_true_iff.2 ⟨wT rfl rfl (hB.at ax) (hB.at ax),rfl⟩,?_⟩;refine cE.cons ?_;refine qv ((hm _)) ?_;refine ab.nil ⟨rfl,?_⟩;refine cE.cons ?_;refine qg ?_;refine ab.nil ⟨rfl,?_⟩;refine cE.nil ?_;subst hK;clear hB;refine qC ?_;refine af.skip<|qj fun K hK=>qm ?_;refine qA ?_;refine qm ?_;refine qe hK ?_;exact⟨mm-1,by omega,⟨i+1,pl+dw ((g.2:Nat):Int),ld,pd,qd,L1,P,Q,sn,rfl,hH,by omega,by omega,ba,fQ,by omega,Lt⟩⟩
   ·have QW:decide (((i:Nat):Int)<((gs.length:Nat):Int))=false:=by rw[decide_eq_false_iff_not];omega
    refine qq<|qq<|qj fun K hK=>qm ?_;refine qm ?_;refine qn ?_;simp only[List.length_map];refine qg ?_;refine qe hK<|qE rfl (by rw[QW]) ?_;refine af.exit ?_
    have Gq:(L.map fun l=>jh q.code pl l.pl)=(L.map VL.pl).map (jh p.code pl):=by
     rw[List.map_map,hq.code];refine List.map_congr_left fun x _=>?_;rw[zh];rfl
    have Tu:∀l∈(L.map VL.pl).map (jh p.code pl),l.cI=[]:=fun l hl=>by obtain⟨x,_,rfl⟩:=List.mem_map.1 hl;rfl
    have QO:∀l∈(L.map VL.pl).map (jh p.code pl),l.cI.length≤1000:=fun l hl=>by rw[Tu l hl];simp
    obtain⟨ed,st1,QM,hM⟩:=GO hF hq.ok Te (by omega) Td He (MH.push [_,_] [] (H:=[]) ⟨pd,qd,P,Q,sn,hH,ba,fQ⟩);rw[Gq] at hM;have hM:=MH.pull [_,_] [_] (H:=[]) hM;unfold fP at zB;have hB:=hH;have dJ:true=true:=rfl;obtain⟨pd,qd,P,Q,sn,zF,ba,fQ⟩:=hM;dsimp only[u3,u4] at zF;change af _ _ _ _ _ _;refine qq ?_;generalize hK:bX _ _ _ _=K;refine af.rP rfl ?_;refine cE.cons ?_;refine qm ?_;refine ab.nil ⟨rfl,?_⟩;refine cE.cons ?_;have hH:=zF;refine ab.rb rfl rfl QM (ag rfl _) ?_;refine ab.nil ⟨rfl,?_⟩;refine cE.cons ?_;refine ab.aT (m:=2) hH rfl (ev rfl) (by exact bC) (by dsimp only[List.drop_succ_cons,List.drop_zero,List.take_succ_cons,List.take_zero,aB,aH,aN,aA,fk,av,Pg.cs,bh]<;>rfl) rfl rfl (ag rfl _) ?_;refine ab.nil ⟨by exact Bool.and_eq_true_iff.2 ⟨wT rfl rfl (hB.at bC) (zF.at bC),rfl⟩,?_⟩;refine cE.cons ?_;refine ab.aT (m:=2) hH rfl (ev rfl) (by exact ax) (by dsimp only[List.drop_succ_cons,List.drop_zero,List.take_succ_cons,List.take_zero,aB,aH,aN,aA,fk,av,Pg.cs,bh]<;>rfl) rfl rfl (ag rfl _) ?_;refine ab.nil ⟨by exact Bool.and_eq_true_iff.2 ⟨wT rfl rfl (hB.at ax) (zF.at ax),rfl⟩,?_⟩;refine cE.cons ?_;refine qv ((zB _ _ _ (by omega) N' N_)) ?_;refine ab.nil ⟨rfl,?_⟩;refine cE.cons ?_;refine qv (ur (hH.rows dp) ((jL _).rows _) (yS Tu) (kL _) (by simp;omega) QO) ?_;refine ab.nil ⟨rfl,?_⟩;refine cE.cons ?_;refine qm ?_;refine ab.nil ⟨rfl,?_⟩;refine cE.cons ?_;refine qv (Ev.iY rfl rfl) ?_ (hg:=wi dJ);refine ab.nil ⟨rfl,?_⟩;refine cE.cons ?_;refine qt dJ ?_;refine ab.nil ⟨rfl,?_⟩;refine cE.cons ?_;refine qm ?_;refine ab.nil ⟨rfl,?_⟩;refine cE.nil ?_;subst hK;refine af.ret ⟨rx,_,rfl,rl bZ hH (rfl)⟩
theorem own:ownKnob Tryz.prog.godebug=none:=by kernel_rfl
theorem laidOut:laidOutB Tryz.prog=true:=by kernel_rfl
theorem lifted (os:Os) (started:os.Started) (H:Type) (enc:TypeId×Value→H) (F:Stop.Interp):
  ReturnsInHanded {} Tryz.checked os 5 .any ((Rows.OpenSpec.upto Rows.vmTextsSpec).pre6 enc Tryz.prog Tryz.f5 Rows.vmTextsUptoRow.domain false) (((Rows.OpenSpec.upto Rows.vmTextsSpec).at F).post enc Tryz.prog Tryz.f5 false true false false):=by
 refine returnsInHanded_of_cond (C:=Tryz.checked) (s:=Rows.OpenSpec.upto Rows.vmTextsSpec) (k:=Rows.uptoSmall) rfl own started (by kernel_rfl) Tryz.func5
  (OpenSpec.witness (enc:=enc) (C:=Tryz.checked) (s:=Rows.OpenSpec.upto Rows.vmTextsSpec) (k:=Rows.uptoSmall) rfl false ⟨#[],#[.slice none 0 0,.string .empty],[]⟩ 8 (by kernel_rfl) (by kernel_rfl) (by kernel_rfl)
   (x:=([.nil,.lit (.string [])],[],[])) (by kernel_rfl) rfl (by kernel_rfl)) ?_
 intro W base args ds gs before KC hW _ hk _;have Ws:=hW;obtain⟨p,q,TI,hV,rfl,hfz,wu⟩:=hW;have hA:DataW.TrodAll enc Tryz.prog W 0 (fun _=>true) true Tryz.f5.params.toList args.toList ds p:=TI;rw[Tryz.params5] at hA KC;obtain⟨v0,WZ,d0,X9,p0,q0,Hd,rfl,rfl,h0,r0⟩:=trodAll_cons hA;obtain⟨v1,WY,d1,X8,p1,q1,rfl,rfl,rfl,h1,r1⟩:=trodAll_cons r0;obtain⟨rfl,rfl,rfl⟩:=trodAll_nil r1;obtain rfl:args=#[v0,v1]:=by cases args;simp_all
 obtain⟨rfl,rfl⟩:=trodVars_none hV;simp only[Rows.uptoSmall,List.append_nil,decide_eq_true_eq,Rows.uptoBulkAll] at hk;have i0:=xf h0 (n:=12) (by kernel_rfl) (KC 0 55 v0 rfl rfl);have k0:=h0;have Uu:∀x∈p0,x.block<W.heap.size:=by obtain⟨m,hm⟩:=k0;exact DataW.trod_lt m _ _ _ hm
 obtain⟨y0,b0,oV,T5,Us⟩:=BW (Rd.of h0);have i1:=xf h1 (n:=12) (by kernel_rfl) (KC 1 9 v1 rfl rfl);have k1:=h1;have Ut:∀x∈p1,x.block<W.heap.size:=by obtain⟨m,hm⟩:=k1;exact DataW.trod_lt m _ _ _ hm
 obtain⟨b1,hb1,pI⟩:=wY h1 Tryz.underlying9;have l1:b1.length≤Rows.uptoBulk d1:=by rw[pI];simp only[Rows.uptoBulk];omega
 have Qr:Ev pv 5 [gT d0,gT d1] ⟨[],0,0⟩ (.bool true) ⟨[],0,0⟩:=by
  rw[oV,hb1];exact law y0 b0 T5 (Us (by omega)) b1 (by omega)
 have QD:∀(i:Nat) c v,[gT d0,gT d1][i]?=some c→[v0,v1][i]?=some v→IR W (fun b=>b<W.heap.size) c v:=by
  intro i c v hc hv
  match i,hc,hv with
  |0,hc,hv=>cases hc;cases hv;exact i0
  |1,hc,hv=>cases hc;cases hv;exact i1
 clear TI;refine(yU view Qr (us:=[v0,v1]) rfl QD).mono fun e W' ⟨he,Sq⟩=>?_;subst he;exact⟨_,rfl,_,_,_,[],_,[],Ws,trodAll_mk1 (shut_bool Tryz.underlying4 _),(trodAll_cons_mk (Below.trod laidOut (by kernel_rfl) (of_decide_eq_true (by kernel_rfl)) k0 Sq Uu) (trodAll_cons_mk (Below.trod laidOut (by kernel_rfl) (of_decide_eq_true (by kernel_rfl)) k1 Sq Ut) trodAll_mk0)),rfl,Sq.frame _,fun h=>by cases h⟩
theorem proved:Rows.VmTextsUptoSaid:=
 OpenClaim.holds_of_cond 5 Tryz.f5 rfl rfl rfl rfl rfl rfl rfl ⟨rfl,rfl,rfl,rfl,rfl⟩ rfl rfl rfl rfl rfl (by kernel_rfl) Tryz.func5 (by kernel_rfl)
  (of_decide_eq_true (by kernel_rfl)) (by unfold Func.isWrapper;rw[if_neg (by decide+kernel)];exact⟨rfl,rfl⟩)
  (fun os started H enc _ F=>lifted os started H enc F)
end Go.Proofs.YtbdilgkfnacahaaGreat.vmTexts
#print axioms Go.Proofs.YtbdilgkfnacahaaGreat.vmTexts.proved
