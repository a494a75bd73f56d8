import Derived.Test.YtbdnabmmlbiomaaGreatWGQp
import Derived.Test.YtbdnabmmlbiomaaGreatWGBx
import Derived.Test.YtbdnabmmlbiomaaGreatWGBb
import Derived.Test.YtbdnabmmlbiomaaGreatRows
import Derived.WalkKit
import Derived.ProofKit
import Derived.OpenShut
import Derived.JoinedCond
import Derived.ChangeOld
set_option linter.unusedSimpArgs false
set_option maxRecDepth 100000
set_option maxHeartbeats 4000000
set_option linter.unusedVariables false
namespace Go.Proofs.YtbdnabmmlbiomaaGreat.scanFinds
open Go.ChangeShapes Go.WideShapes Go.ChangeAt Go.RowKit Go.V
def b_ (fr:Go.V.Fr) (k:Nat):Go.V.D:=Go.V.nth .bD fr.loc k
theorem K3 (f:l6):oO pv .neq 45 (.agg (aw f)) (.agg (aw f))=some (.bool false):=by
 have h:∀a b c d e g i j k l:Int,oO pv .neq 45 (.agg [.int .i64 a,.int .i64 b,.int .i64 c,.int .i64 d,.int .i64 e,.int .i64 g,.int .i64 i,.int .i64 j,.int .i64 k,.int .i64 l]) (.agg [.int .i64 a,.int .i64 b,.int .i64 c,.int .i64 d,.int .i64 e,.int .i64 g,.int .i64 i,.int .i64 j,.int .i64 k,.int .i64 l])=Option.map (fun b=>D.bool !b) (match some (a==a) with|some true=>(match some (b==b) with|some true=>(match some (c==c) with|some true=>(match some (d==d) with|some true=>(match some (e==e) with|some true=>(match some (g==g) with|some true=>(match some (i==i) with|some true=>(match some (j==j) with|some true=>(match some (k==k) with|some true=>(match some (l==l) with|some true=>some true|some false=>some false|none=>none)|some false=>some false|none=>none)|some false=>some false|none=>none)|some false=>some false|none=>none)|some false=>some false|none=>none)|some false=>some false|none=>none)|some false=>some false|none=>none)|some false=>some false|none=>none)|some false=>some false|none=>none)|some false=>some false|none=>none):=fun _ _ _ _ _ _ _ _ _ _=>rfl;unfold aw;rw[h];simp only[beq_self_eq_true,Option.map_some]
 rfl
theorem nF:∀(b:List UInt8),lC (b.map fun y=>D.int .u8 (y.toNat:Nat))=some b
 |[]=>rfl
 |c::b=>by
  simp only[List.map_cons,lC,nF b,Option.map_some,Option.some.injEq,List.cons.injEq,and_true];show UInt8.ofNat (((c.toNat:Nat):Int).toNat)=c;rw[Int.toNat_natCast];exact UInt8.ofNat_toNat
theorem Em {st:St} {x:D} {b:List UInt8} (hx:eH x 1 (byteCells b)):rW pv 36 9 x st=some (.str b,st):=by
 have hr:=(hx.rows st).row
 have px:(byteCells b).flatten=b.map fun y=>D.int .u8 (y.toNat:Nat):=by
  unfold byteCells
  induction b with
  |nil=>rfl
  |cons c b ih=>rw[List.map_cons,List.flatten_cons,List.map_cons,List.singleton_append];congr 1;clear ih hr hx;induction b with
   |nil=>rfl
   |cons c b ih=>rw[List.map_cons,List.flatten_cons,List.map_cons,List.singleton_append,ih]
 rw[px,bM] at hr;have h1:pv.cL 36=some (.slice 5):=rfl;have h2:pv.cL 9=some .string:=rfl;have h3:pv.cL 5=some (.int .u8):=rfl
 rcases hx with⟨rfl,hb⟩|⟨ds,rfl,hd,_⟩
 ·have hb:b=[]:=List.map_eq_nil_iff.1 hb;subst hb;rfl
 ·simp only[rW,h1,h2,h3,hr,List.length_map,if_true,nF,Option.map_some]
theorem law {s0:St} (x:D) (ps:List (List UInt8)) (hx:eH x 1 (ps.map AX)) (fU:ps.length≤1048576∧∀b∈ps,b.length≤1048576) (y:D) (b:List UInt8) (hy:eH y 1 (byteCells b)) (hbl:b.length≤1048576):Ev pv 8 [x,y] s0 (.bool true) s0:=by
 have Bw:∀st,Ev pv 59 [] st (.agg (aw aP)) st:=fun st=>Ev.kf rfl rfl;refine Ev.oj rfl fi8 rfl rfl rfl ?_;dsimp only[u3,u4,List.length,Nat.reduceSub,Nat.reduceAdd,w1,w2];obtain⟨cA,hF,hH⟩:=ri s0;generalize ai .ro s0=S at*;refine qq<|qj fun K hK=>qm ?_;refine qe hK ?_;obtain⟨y2,BD,uU⟩:=BE (s0:=S) hy 80;refine qq<|qj fun K hK=>qm ?_;refine qv (BD) ?_;refine qm ?_;refine qe hK ?_
 obtain⟨c,TT⟩:∃c,b.take 80=c:=⟨_,rfl⟩
 have ZR:c.length≤80:=by rw[←TT,List.length_take];omega
 rw[TT] at uU;clear TT BD hy hbl;obtain⟨_,aN,p,ok,rfl,hp,hR⟩:=Bn (s0:=S) ((hx.arg s0.bs.length S).rows hH) fU.1 fU.2;have LC:=hR.cl;have SM:=hR.sl;have WX:∀{N S st H},S.flr≤N→Has N S st H→_:=fun{N S st H} hF hH=>Ft (N:=N) (S:=S) (s0:=st) (H:=H) Bw hF hp hR hH
 have hfi:∀st (r:Int),Ev pv 45 [p.d,.int .i64 r,.str c] st (KP (fw p r c)) st:=fun st r=>D' (s0:=st) hp r (b:=c) (by omega) (by
  have:=(su _ c (Nat.le_refl _)).1
  exact Nat.le_trans (Nat.mul_le_mul (show(ez c).length+1≤81 by omega) (show p.code.length≤400 by omega)) (by decide))
 have hc:=hp.c.arg s0.bs.length S;have hs:=hp.s.arg s0.bs.length S;have hya:=uU.arg s0.bs.length S;have TW:=bM c;have QP:=fun st=>Em (st:=st) uU;unfold Pg.d at*;refine qq<|qj fun K hK=>qm ?_;refine qv (aN) ?_;refine qm ?_;refine qg ?_;refine qg ?_;refine qa hH fun k5 st E6 hH=>?_;refine qS hH au fun st hH=>?_;dsimp only[u2,u1,u3,u4,setMany,u5,u6,D.cells,Nat.reduceAdd,aG,br,bL,aw,nM,aq,Pg.cs,a7] at hH;refine qm ?_;refine qe hK<|qq<|qj fun K hK=>?_;refine aa.bk (m:=2) hH rfl (ev rfl) (by exact au) (by dsimp only[List.drop_succ_cons,List.drop_zero,List.take_succ_cons,List.take_zero,aG,br,bL,aw,nM,aq,Pg.cs,a7]<;>rfl) rfl rfl (ab rfl _) ?_;obtain⟨_,st,aN,kS,kd,kv,ks,q,ld,L,rfl,hq,hL,hM⟩:=WX hF hH;refine qv aN ?_;refine qm ?_;refine qg ?_;refine qg ?_;refine qm ?_;refine qm ?_;refine qe hK ?_;have hH:=(SH.pull [_] (H:=[]) hM).has
 cases ok with
 |false=>
  have bz:(!false)=true:=rfl;refine qq<|qq<|ag.kD 35 (.bool true) [] ?_ (fun ff tmp hO=>?_)
  ·refine qm ?_;refine qg ?_;refine qm ?_;refine qs ?_ (hg:=wn bz);refine qs ?_ (hg:=wn bz);refine qt bz ?_;refine qm ?_;refine qs ?_;refine qs ?_;refine qg ?_;refine aa.nil (dv ?_ ?_)
   ·dsimp only[aO,List.foldl,nth,u2,u1]
    all_goals(first|rfl|simp)
   ·dsimp only[Fr.aE,Fr.put,Fr.clean,Fr.ev,Fr.get,nth,V.look,u1,u2,v1,v2,v3,v4,v5,v6,v7,List.length,u3,u4,Nat.reduceSub,Nat.reduceAdd,List.map]
    all_goals(first|rfl|(simp[bz];done)|(simp_all;done)|(simp[bz];omega)|(simp_all;omega))
  dsimp only[aO,List.foldl,nth,u2,u1];refine qB ?_;refine qq<|qj fun K hK=>qm ?_;refine qg ?_;refine qm ?_;refine qv (Ev.kf rfl rfl) ?_ (hg:=wi bz);refine qt bz ?_;refine qm ?_;refine qe hK<|ag.ret ⟨rx,_,rfl,rl cA hH (rfl)⟩
 |true=>
  have bz:(!true)=false:=rfl;refine qq<|qq<|ag.kD 35 (.bool false) [] ?_ (fun ff tmp hO=>?_)
  ·refine qm ?_;refine qg ?_;refine qm ?_;refine qm ?_ (hg:=wi bz);refine qg ?_ (hg:=wi bz);refine qu bz ?_;refine qm ?_;refine aa.two 32 rfl (fun eY=>?_) (fun eY=>?_)
   ·refine qs ?_ (hg:=wn eY);refine qs ?_ (hg:=wn eY);refine qt eY ?_;refine aa.nil (dv ?_ ?_)
    ·dsimp only[aO,List.foldl,nth,u2,u1]
     all_goals(first|rfl|simp)
    ·dsimp only[Fr.aE,Fr.put,Fr.clean,Fr.ev,Fr.get,nth,V.look,u1,u2,v1,v2,v3,v4,v5,v6,v7,List.length,u3,u4,Nat.reduceSub,Nat.reduceAdd,List.map]
     all_goals(simp[bz,eY];done)
   ·refine qm ?_ (hg:=wi eY);refine qg ?_ (hg:=wi eY);refine qu eY ?_;refine aa.nil (dv ?_ ?_)
    ·dsimp only[aO,List.foldl,nth,u2,u1]
     all_goals(first|rfl|simp)
    ·dsimp only[Fr.aE,Fr.put,Fr.clean,Fr.ev,Fr.get,nth,V.look,u1,u2,v1,v2,v3,v4,v5,v6,v7,List.length,u3,u4,Nat.reduceSub,Nat.reduceAdd,List.map]
     all_goals(rfl)
  dsimp only[aO,List.foldl,nth,u2,u1];refine qC ?_;refine ag.skip ?_;have Zw:=hq.right hR;have ZQ:q.code.length=p.code.length:=by rw[hq.code,List.length_map]
  have T7:∀l∈(aF p).map fT,l.ok p.code.length:=th hR;have Z5:((aF p).map fT).length=p.az.length:=by unfold aF;simp
  obtain⟨g1,g2,g3,g4⟩:=qI hR c ([],0,(aF p).map fT) (by simp) Z5 T7;have SN:∀gs pl ls,dA q.code (aF q) gs pl ls=dA p.code (aF p) gs pl ls:=fun gs pl ls=>by rw[hq.code,hq.aF,n4]
  have TL:∀pl,kB q.code pl=kB p.code pl:=fun pl=>by rw[hq.code,BQ]
  have Wg:∀b x,cj q.code (aF q) b x=cj p.code (aF p) b x:=fun b x=>by rw[hq.code,hq.aF,x4]
  have Vl:L.length=q.az.length:=by
   have:=congrArg List.length hL;rw[List.length_map,Z5] at this;rw[hq.az];exact this
  have mE:∀l∈L,l.pl.ok q.code.length:=by rw[ZQ];exact jL (by rw[hL];exact T7)
  obtain⟨_,st1,Xt,rfl,ld,L,LI,hM⟩:=CG (b:=c) Bw hF hq.ok Zw hya (by omega) (by omega) (by simp) Vl mE hM;rw[Wg,hL] at LI hM;obtain⟨_,_,_,_,Vh⟩:=tb p.code (aF p) ((aF p).map fT) c;clear Vl mE hL;generalize hX:cj p.code (aF p) c ([],0,(aF p).map fT)=X at*;obtain⟨h,pl,ls⟩:=X;simp only at g1 g2 g3 g4 LI hM Vh;subst LI;obtain⟨Wu,TH⟩:=x0 hR c hX;have Vl:L.length=p.az.length:=by rw[←g3,List.length_map]
  have mE:∀l∈L,l.pl.ok p.code.length:=jL g4;obtain⟨js2,Vq⟩:=hM.as;obtain⟨_,st2,yP,rfl,wU⟩:=vU hq.ok (by omega) (CX mE) Vq;rw[wU] at yP;clear wU st2;obtain⟨_,st2,DX,rfl,wU⟩:=CH Bw hq.ok Zw (by omega) (by rw[hq.az];exact Vl) (by rw[ZQ];exact mE) Vh g1 Vq;rw[wU] at DX;clear wU st2;rw[SN,TL] at DX;obtain⟨pt,_⟩:=mR hR (gU h.length) pl (L.map VL.pl) g3 g4;generalize hE:(dA p.code (aF p) (gU h.length) pl (L.map VL.pl)).2.map (kB p.code (dA p.code (aF p) (gU h.length) pl (L.map VL.pl)).1)=E at*;have hEl:E.length=p.az.length:=by rw[←hE,List.length_map];exact pt
  have hea:=(Dr E).arg s0.bs.length S;obtain⟨pd,qd,P,Q,sn,js,vz,bd,eT,hl⟩:=SH.pull [_] (H:=[]) hM;dsimp only[u3,u4] at vz;refine qq<|qj fun K hK=>qm ?_;refine qm ?_;have hH:=vz;refine aa.fc rfl rfl Xt (ab rfl _) ?_;refine qe hK<|qq<|qj fun K hK=>qm ?_;refine aa.fc rfl rfl DX (ab rfl _) ?_;refine qm ?_;refine qe hK<|qq<|qq<|qj fun K hK=>qm ?_;refine qn ?_;simp only[List.length_map];refine qp (o:=1) ?_;refine ql hH au ?_;refine qn ?_;simp only[List.length_map];refine qg ?_;refine qe hK<|ag.cond (v:=false) (by dsimp only[Fr.ev,Fr.get,nth,V.look];(rw[hEl];simp)) (fun h=>by cases h) (fun _=>?_);refine ag.skip<|qq<|qq<|qj fun K hK=>qm ?_;refine qe hK<|ag.block<|ag.loop (fun mm fr st=>∃(r:Nat),fr.clean=⟨14,[b_ fr 0,y2,b_ fr 2,b_ fr 3,.bool false,.ptr k5 0 0,b_ fr 6,.ptr kS 0 0,b_ fr 8,ot E,.int .i64 (r:Nat),b_ fr 11,b_ fr 12,b_ fr 13],[]⟩∧Has s0.bs.length S st (.box k5 (.mem 0 false [p.cd,p.sd])::.box kS (.mem 0 false [.ptr kd 0 0,.ptr kv 0 0])::.box kd (.mem 0 false (cu h js))::(e_ ks kv q pl ld pd qd P Q L++[]))∧(r+mm=E.length)) (E.length) ?_ ?_
  ·exact⟨0,rfl,hH,by omega⟩
  rintro mm fr st ⟨r,hfr,hH,hr⟩;rw[hfr];clear hfr;generalize b_ fr=ee;clear fr;refine qq<|qq<|qj fun K hK=>qm ?_;refine qm ?_;refine qn ?_;simp only[List.length_map];refine qg ?_;refine qe hK ?_
  by_cases pt:r<E.length
  ·have XD:decide (((r:Nat):Int)<((E.length:Nat):Int))=true:=by rw[decide_eq_true_eq];omega
   obtain⟨z,hz⟩:∃z,E[r]?=some z:=⟨E[r]'pt,List.getElem?_eq_getElem _⟩
   have oE:=PU hz;obtain⟨hz1,hz2⟩:=TH r z hz;have LA:=fun st=>hfi st (r:Nat)
   obtain⟨f,bo,WR,ZS,Vi⟩:∃(f:l6) (bo:Bool),KP (fw p (r:Nat) c)=.tup [.agg (aw f),.bool bo]∧bo=z.dn∧(bo=true→f=z.a_):=by
    rw[hz1]
    cases hP:fw p (r:Nat) c with
    |none=>exact⟨_,_,rfl,rfl,fun h=>by cases h⟩
    |some f=>exact⟨_,_,rfl,rfl,fun _=>(hz2 f hP).symm⟩
   simp only[WR] at LA;obtain⟨zd,zb,zt⟩:=z;simp only at ZS Vi;subst ZS;refine qD rfl (by rw[XD]) ?_;refine ag.skip<|qq<|ag.block<|qq<|qj fun K hK=>?_;refine aa.bk (m:=2) hH rfl (ev rfl) (by exact au) (by dsimp only[List.drop_succ_cons,List.drop_zero,List.take_succ_cons,List.take_zero,aG,br,bL,aw,nM,aq,Pg.cs,a7]<;>rfl) rfl rfl (ab rfl _) ?_;refine qm ?_;refine qm ?_;refine aa.go (d:=.str c) (st1:=_) rfl rfl (QP _) (ab rfl _) ?_;refine qv ((LA _)) ?_;refine qm ?_;refine qg ?_;refine qg ?_;refine qa hH fun k11 st Ly hH=>?_;refine qS hH au fun st hH=>?_;dsimp only[u2,u1,u3,u4,setMany,u5,u6,D.cells,Nat.reduceAdd,aG,br,bL,aw,nM,aq,Pg.cs,a7] at hH;refine qm ?_;refine qe hK ?_;have eu:(bo !=bo)=false:=by simp
   cases bo with
   |false=>
    have cx:false=false:=rfl;refine qq<|ag.kD 84 (.bool false) [] ?_ (fun ff tmp hO=>?_)
    ·refine qm ?_;refine qm ?_;refine qm ?_;refine qr fun VG Qv=>?_;refine qf (fo:=0) fun p70 Wz=>?_;refine qR ?_;refine qg ?_;refine qm ?_;refine qm ?_ (hg:=wi eu);refine qm ?_ (hg:=wi eu);refine qs ?_ (hg:=wn cx);refine qs ?_ (hg:=wn cx);refine qs ?_ (hg:=wn cx);refine qs ?_ (hg:=wn cx);refine qs ?_ (hg:=wn cx);refine qs ?_ (hg:=wn cx);refine qs ?_ (hg:=wn cx);refine aa.dr (aC rfl rfl rfl eu) rfl cx (ab rfl _) ?_;refine qu eu ?_;refine aa.nil (dv ?_ ?_)
     ·dsimp only[aO,List.foldl,nth,u2,u1]
      all_goals(first|rfl|simp)
     ·dsimp only[Fr.aE,Fr.put,Fr.clean,Fr.ev,Fr.get,nth,V.look,u1,u2,v1,v2,v3,v4,v5,v6,v7,List.length,u3,u4,Nat.reduceSub,Nat.reduceAdd,List.map]
      all_goals(first|rfl|(simp[eu,cx];done)|(simp_all;done)|(simp[eu,cx];omega)|(simp_all;omega))
    dsimp only[aO,List.foldl,nth,u2,u1];dsimp only[Fr.aE,Fr.put,Fr.clean,Fr.ev,Fr.get,nth,V.look,u1,u2,v1,v2,v3,v4,v5,v6,v7,List.length,u3,u4,Nat.reduceSub,Nat.reduceAdd,List.map];refine qC ?_;refine ag.skip<|qj fun K hK=>qm ?_;refine qA ?_;refine qm ?_;refine qe hK ?_;exact⟨mm-1,by omega,⟨r+1,rfl,(hH.erase 0),by omega⟩⟩
   |true=>
    have Vi:=Vi rfl;subst Vi;have cx:true=true:=rfl;refine qq<|ag.kD 84 (.bool false) [] ?_ (fun ff tmp hO=>?_)
    ·refine qm ?_;refine qm ?_;refine qm ?_;refine qr fun VG Qv=>?_;refine qf (fo:=0) fun p70 Wz=>?_;refine qR ?_;refine qg ?_;refine qm ?_;refine qm ?_ (hg:=wi eu);refine qm ?_ (hg:=wi eu);refine aa.bk (m:=10) hH (aC rfl rfl rfl cx) (ev rfl) (by exact au) (by dsimp only[List.drop_succ_cons,List.drop_zero,List.take_succ_cons,List.take_zero,aG,br,bL,aw,nM,aq,Pg.cs,a7]<;>rfl) rfl rfl (ab rfl _) ?_;refine qm ?_ (hg:=wi cx);refine qm ?_ (hg:=wi cx);refine qr (fun Y_ S4=>?_) (hg:=wi cx);refine qf (fo:=1) (fun p80 Wy=>?_) (hg:=wi cx);refine qR ?_ (hg:=wi cx);refine aa.Zi (aC rfl rfl rfl cx) (ev rfl) (ev rfl) (K3 f) (ab rfl _) ?_;refine aa.dU (aC rfl rfl rfl eu) rfl cx (ab rfl _) ?_;refine qu eu ?_;refine aa.nil (dv ?_ ?_)
     ·dsimp only[aO,List.foldl,nth,u2,u1]
      all_goals(first|rfl|simp)
     ·dsimp only[Fr.aE,Fr.put,Fr.clean,Fr.ev,Fr.get,nth,V.look,u1,u2,v1,v2,v3,v4,v5,v6,v7,List.length,u3,u4,Nat.reduceSub,Nat.reduceAdd,List.map]
      all_goals(first|rfl|(simp[eu,cx];done)|(simp_all;done)|(simp[eu,cx];omega)|(simp_all;omega))
    dsimp only[aO,List.foldl,nth,u2,u1];dsimp only[Fr.aE,Fr.put,Fr.clean,Fr.ev,Fr.get,nth,V.look,u1,u2,v1,v2,v3,v4,v5,v6,v7,List.length,u3,u4,Nat.reduceSub,Nat.reduceAdd,List.map];refine qC ?_;refine ag.skip<|qj fun K hK=>qm ?_;refine qA ?_;refine qm ?_;refine qe hK ?_;exact⟨mm-1,by omega,⟨r+1,rfl,(hH.erase 0),by omega⟩⟩
  ·have XD:decide (((r:Nat):Int)<((E.length:Nat):Int))=false:=by rw[decide_eq_false_iff_not];omega
   refine qE rfl (by rw[XD]) ?_;refine ag.exit ?_;obtain⟨js2,Vq⟩:=(SH.push (A:=[_]) (H:=[]) ⟨pd,qd,P,Q,sn,js,hH,bd,eT,hl⟩).as;obtain⟨_,st2,yP,rfl,wU⟩:=vU hq.ok (by omega) (CX mE) Vq;rw[wU] at yP;clear wU st2;simp only[RQ] at yP;have hha:=(B0 h).arg s0.bs.length S;have hbh:=bM h;refine qq<|qj fun K hK=>qm ?_;refine aa.fc rfl rfl yP (ab rfl _) ?_;refine qa hH fun k13 st DQ hH=>?_;refine qS hH au fun st hH=>?_;dsimp only[u2,u1,u3,u4,setMany,u5,u6,D.cells,Nat.reduceAdd,aG,br,bL,aw,nM,aq,Pg.cs,a7] at hH;refine qe hK ?_;have bh:(((c.length:Nat):Int)==(((byteCells c).length:Nat):Int))=true:=by rw[TW];simp
   refine qq<|qj fun K hK=>qp (o:=1) ?_;refine qp (o:=1) ?_;refine ql hH au ?_;refine qp (o:=0) ?_;refine ql hH au ?_;refine qn ?_;refine aa.lE (z:=((c.length:Nat):Int)) rfl (ev rfl) (ev rfl) (by(try simp only[List.length_reverse,List.length_cons,List.length_nil,List.length_append,List.length_map,List.length_set]);rw[wrap_i64 (by omega) (by omega)]<;>omega) (ab rfl _) ?_;refine qm ?_;refine qn ?_;refine qg ?_;refine qm ?_;refine qv (Ev.kf rfl rfl) ?_ (hg:=wi bh);refine qt bh ?_;refine qm ?_;refine qe hK<|ag.ret ⟨rx,_,rfl,rl cA hH (rfl)⟩
theorem own:ownKnob Tryz.prog.godebug=none:=by kernel_rfl
theorem laidOut:laidOutB Tryz.prog=true:=by kernel_rfl
theorem lifted (os:Os) (started:os.Started) (H:Type) (enc:TypeId×Value→H) (F:Stop.Interp):
  ReturnsInHanded {} Tryz.checked os 8 .any ((Rows.OpenSpec.upto Rows.scanFindsSpec).pre6 enc Tryz.prog Tryz.f8 Rows.scanFindsUptoRow.domain false) (((Rows.OpenSpec.upto Rows.scanFindsSpec).at F).post enc Tryz.prog Tryz.f8 false true false false):=by
 refine returnsInHanded_of_cond (C:=Tryz.checked) (s:=Rows.OpenSpec.upto Rows.scanFindsSpec) (k:=Rows.uptoSmall) rfl own started (by kernel_rfl) Tryz.func8
  (OpenSpec.witness (enc:=enc) (C:=Tryz.checked) (s:=Rows.OpenSpec.upto Rows.scanFindsSpec) (k:=Rows.uptoSmall) rfl false ⟨#[],#[.slice none 0 0,.slice none 0 0],[]⟩ 8 (by kernel_rfl) (by kernel_rfl) (by kernel_rfl)
   (x:=([.nil,.nil],[],[])) (by kernel_rfl) rfl (by kernel_rfl)) ?_
 intro W base args ds gs before Qc hW _ hk _;have hW':=hW;obtain⟨p,q,ZZ,hV,rfl,hfz,yI⟩:=hW;have hA:DataW.TrodAll enc Tryz.prog W 0 (fun _=>true) true Tryz.f8.params.toList args.toList ds p:=ZZ;rw[Tryz.params8] at hA Qc;obtain⟨v0,vs0,d0,ds0,p0,q0,Mv,rfl,rfl,h0,r0⟩:=trodAll_cons hA;obtain⟨v1,vs1,d1,ds1,p1,q1,rfl,rfl,rfl,h1,r1⟩:=trodAll_cons r0;obtain⟨rfl,rfl,rfl⟩:=trodAll_nil r1;obtain rfl:args=#[v0,v1]:=by cases args;simp_all
 obtain⟨rfl,rfl⟩:=trodVars_none hV;simp only[Rows.uptoSmall,List.append_nil,decide_eq_true_eq,Rows.uptoBulkAll] at hk;have i0:=zE h0 (n:=12) (by kernel_rfl) (Qc 0 22 v0 rfl rfl);have k0:=h0;have lt0:∀x∈p0,x.block<W.heap.size:=by obtain⟨m,hm⟩:=k0;exact DataW.trod_lt m _ _ _ hm
 obtain⟨y0,b0,oI,sl0,ok0⟩:=EG (Rd.of h0);have i1:=zE h1 (n:=12) (by kernel_rfl) (Qc 1 36 v1 rfl rfl);have k1:=h1;have lt1:∀x∈p1,x.block<W.heap.size:=by obtain⟨m,hm⟩:=k1;exact DataW.trod_lt m _ _ _ hm
 obtain⟨y1,b1,hb1,sl1,ok1⟩:=L4 (Rd.of h1)
 have W4:Ev pv 8 [jc d0,jc d1] ⟨[],0,0⟩ (.bool true) ⟨[],0,0⟩:=by
  rw[oI,hb1];exact law y0 b0 sl0 (ok0 (by omega)) y1 b1 sl1 (ok1 (by omega))
 have Xf:∀(i:Nat) c v,[jc d0,jc d1][i]?=some c→[v0,v1][i]?=some v→IR W (fun b=>b<W.heap.size) c v:=by
  intro i c v hc hv
  match i,hc,hv with
  |0,hc,hv=>cases hc;cases hv;exact i0
  |1,hc,hv=>cases hc;cases hv;exact i1
 clear ZZ;refine(Bp view W4 (us:=[v0,v1]) rfl Xf).mono fun e W' ⟨he,YP⟩=>?_;subst he;exact⟨_,rfl,_,_,_,[],_,[],hW',trodAll_mk1 (shut_bool Tryz.underlying4 _),(trodAll_cons_mk (Below.trod laidOut (by kernel_rfl) (of_decide_eq_true (by kernel_rfl)) k0 YP lt0) (trodAll_cons_mk (Below.trod laidOut (by kernel_rfl) (of_decide_eq_true (by kernel_rfl)) k1 YP lt1) trodAll_mk0)),rfl,YP.frame _,fun h=>by cases h⟩
theorem proved:Rows.ScanFindsUptoSaid:=
 OpenClaim.holds_of_cond 8 Tryz.f8 rfl rfl rfl rfl rfl rfl rfl ⟨rfl,rfl,rfl,rfl,rfl⟩ rfl rfl rfl rfl rfl (by kernel_rfl) Tryz.func8 (by kernel_rfl)
  (of_decide_eq_true (by kernel_rfl)) (by unfold Func.isWrapper;rw[if_neg (by decide+kernel)];exact⟨rfl,rfl⟩)
  (fun os started H enc _ F=>lifted os started H enc F)
end Go.Proofs.YtbdnabmmlbiomaaGreat.scanFinds
#print axioms Go.Proofs.YtbdnabmmlbiomaaGreat.scanFinds.proved
