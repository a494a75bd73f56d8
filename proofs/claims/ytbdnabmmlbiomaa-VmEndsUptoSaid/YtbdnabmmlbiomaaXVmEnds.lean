/- VmEnds, for arguments of bulk at most 1048576: it answers true. -/
import Derived.Test.YtbdnabmmlbiomaaXGQp
import Derived.Test.YtbdnabmmlbiomaaXGYd
import Derived.Test.YtbdnabmmlbiomaaRows
import Derived.WalkKit
import Derived.ProofKit
import Derived.OpenShut
import Derived.JoinedCond
import Derived.ChangeOld
set_option maxRecDepth 100000
set_option maxHeartbeats 4000000
set_option linter.unusedSimpArgs false
set_option linter.unusedVariables false
namespace Go.Proofs.Ytbdnabmmlbiomaa.vmEnds
open Go.ChangeShapes Go.WideShapes Go.ChangeAt Go.RowKit Go.V
def aN (fr:Go.V.Fr) (k:Nat):Go.V.D:=Go.V.nth .bp fr.loc k
theorem law {s0:St} (x:D) (ps:List (List UInt8)) (hx:fK x 1 (ps.map x9)) (jf:ps.length≤1048576∧∀b∈ps,b.length≤1048576) (b:List UInt8) (hbl:b.length≤1048576):Ev pv 3 [x,.str b] s0 (.bool true) s0:=by
 have yL:∀st,Ev pv 46 [] st (.agg (aT dW)) st:=fun st=>Ev.iX rfl rfl;refine Ev.nZ rfl VZ rfl rfl rfl ?_;dsimp only[u3,u4,List.length,Nat.reduceSub,Nat.reduceAdd,w1,w2];obtain⟨b_,hF,hH⟩:=ri s0;generalize ai .ro s0=S at*;refine qq<|qj fun K hK=>qm ?_;refine qe hK ?_;obtain⟨_,aH,p,ok,rfl,hp,hR⟩:=yE (s0:=S) ((hx.arg s0.bs.length S).rows hH) jf.1 jf.2;have hcl:=hR.cl;have OU:=hR.sl;have Sj:∀{N S st H},S.flr≤N→Has N S st H→_:=fun{N S st H} hF hH=>B2 (N:=N) (S:=S) (s0:=st) (H:=H) yL hF hp hR hH;have hc:=hp.c.arg s0.bs.length S;unfold Pg.d at*;refine qq<|qj fun K hK=>qm ?_;refine qv (aH) ?_;refine qm ?_;refine qg ?_;refine qg ?_;refine qa hH fun k5 st Ga hH=>?_;refine qS hH ay fun st hH=>?_;dsimp only[u2,u1,u3,u4,setMany,u5,u6,D.cells,Nat.reduceAdd,aM,a7,bz,aT,rG,aw,Pg.cs,bm] at hH;refine qm ?_;refine qe hK<|qq<|qq<|af.ki (fun fr st=>∃(c:List UInt8) (tmp:List (Nat×D)),fr=⟨15,[aN fr 0,.str c,aN fr 2,aN fr 3,.bool false,.ptr k5 0 0,.bool ok,aN fr 7,aN fr 8,aN fr 9,aN fr 10,aN fr 11,aN fr 12,aN fr 13,aN fr 14],tmp⟩∧Has s0.bs.length S st [.box k5 (.mem 0 false [p.cd,p.sd])]∧(c.length≤60)) ?_ ?_
 ·refine qj fun K hK=>qm ?_;refine ab.tf rfl rfl rfl (ag rfl _) ?_;refine qg ?_;refine qe hK ?_;refine af.cond (by rfl) (fun h4=>?_) (fun h4=>?_)<;>try simp only[decide_eq_true_eq,decide_eq_false_iff_not] at h4
  ·refine qj fun K hK=>qm ?_;refine ab.go (d:=.str (b.take 60)) (st1:=_) rfl rfl (by show Option.map _ (Option.map _ (cT b.length none (some (.int .i64 ((60:Nat):Int)))))=_;rw[me (by omega)];rfl) (ag rfl _) ?_;refine qm ?_;refine qe hK ?_;exact⟨b.take 60,_,rfl,hH,(by rw[List.length_take];omega)⟩
  ·refine af.skip ?_;exact⟨b,_,rfl,hH,(by omega)⟩
 ·rintro fr st ⟨c,tmp,hfr,hH,SD⟩;rw[hfr];clear hfr;generalize aN fr=ee;clear fr;obtain⟨hal,WZ⟩:=uY _ c (Nat.le_refl _);have TJ:∀(st:St) (x:D),Bytes st x c→Ev pv 11 [x] st (eG (j_ c)) st:=fun st x h=>BG h (by omega);refine qq<|qj fun K hK=>?_;refine ab.bN (m:=2) hH rfl (ev rfl) (by exact ay) (by dsimp only[List.drop_succ_cons,List.drop_zero,List.take_succ_cons,List.take_zero,aM,a7,bz,aT,rG,aw,Pg.cs,bm]<;>rfl) rfl rfl (ag rfl _) ?_;obtain⟨_,st,aH,kv,ks,q,ld,L,rfl,hq,hL,hM⟩:=Sj hF hH;refine qv aH ?_;refine qm ?_;refine qg ?_;refine qg ?_;refine qm ?_;refine qm ?_;refine qe hK ?_;obtain⟨pd,qd,P,Q,sn,hH,a_,gY⟩:=MH.pull [_] [] (H:=[]) hM;dsimp only[u3,u4] at hH;refine qq<|qj fun K hK=>?_;refine ab.bN (m:=2) hH rfl (ev rfl) (by exact ay) (by dsimp only[List.drop_succ_cons,List.drop_zero,List.take_succ_cons,List.take_zero,aM,a7,bz,aT,rG,aw,Pg.cs,bm]<;>rfl) rfl rfl (ag rfl _) ?_;obtain⟨_,st,aH,oh,o5,q2,mP,L2,rfl,sr,VO,hM⟩:=Sj hF hH;refine qv aH ?_;refine qm ?_;refine qg ?_;refine qg ?_;refine qm ?_;refine qm ?_;refine qe hK ?_;obtain⟨tE,tC,P2,Q2,zG,N5,jz,OR⟩:=Ar hM
  have hH:Has s0.bs.length S st (.box k5 (.mem 0 false [p.cd,p.sd])::(dH o5 oh q2 0 mP tE tC P2 Q2 L2++dH ks kv q 0 ld pd qd P Q L)):=by
   have a:=Has.kK (dH o5 oh q2 0 mP tE tC P2 Q2 L2) [_] (H:=dH ks kv q 0 ld pd qd P Q L) (by simpa only[List.nil_append,List.append_nil,dH,List.cons_append] using N5);exact a
  cases ok with
  |false=>
   have bf:(!false)=true:=rfl;refine qq<|qq<|af.j8 52 (.bool true) [] ?_ (fun ff tmp gB=>?_)
   ·refine qm ?_;refine qg ?_;refine qm ?_;refine qs ?_ (hg:=wn bf);refine qs ?_ (hg:=wn bf);refine qt bf ?_;refine qm ?_;refine qs ?_;refine qs ?_;refine qg ?_;refine qm ?_;refine qs ?_;refine qs ?_;refine qg ?_;refine qm ?_;refine qs ?_;refine qs ?_;refine qg ?_;refine ab.nil (cP ?_ ?_)
    ·dsimp only[aI,List.foldl,nth,u2,u1]
     all_goals(first|rfl|simp)
    ·dsimp only[Fr.aC,Fr.put,Fr.clean,Fr.ev,Fr.get,nth,V.look,u1,u2,v1,v2,v3,v4,v5,v6,v7,List.length,u3,u4,Nat.reduceSub,Nat.reduceAdd,List.map]
     all_goals(first|rfl|(simp[bf];done)|(simp_all;done)|(simp[bf];omega)|(simp_all;omega))
   dsimp only[aI,List.foldl,nth,u2,u1];refine qB ?_;refine qq<|qj fun K hK=>qm ?_;refine qg ?_;refine qm ?_;refine qv (Ev.iX rfl rfl) ?_ (hg:=wi bf);refine qt bf ?_;refine qm ?_;refine qe hK<|af.ret ⟨rx,_,rfl,rl b_ hH (rfl)⟩
  |true=>
   have bf:(!true)=false:=rfl;refine qq<|qq<|af.j8 52 (.bool false) [] ?_ (fun ff tmp gB=>?_)
   ·refine qm ?_;refine qg ?_;refine qm ?_;refine qm ?_ (hg:=wi bf);refine qg ?_ (hg:=wi bf);refine qu bf ?_;refine qm ?_;refine ab.two 41 rfl (fun dM=>?_) (fun dM=>?_)
    ·refine qs ?_ (hg:=wn dM);refine qs ?_ (hg:=wn dM);refine qt dM ?_;refine qm ?_;refine qs ?_;refine qs ?_;refine qg ?_;refine qm ?_;refine qs ?_;refine qs ?_;refine qg ?_;refine ab.nil (cP ?_ ?_)
     ·dsimp only[aI,List.foldl,nth,u2,u1]
      all_goals(first|rfl|simp)
     ·dsimp only[Fr.aC,Fr.put,Fr.clean,Fr.ev,Fr.get,nth,V.look,u1,u2,v1,v2,v3,v4,v5,v6,v7,List.length,u3,u4,Nat.reduceSub,Nat.reduceAdd,List.map]
      all_goals(simp[bf,dM];done)
    ·refine qm ?_ (hg:=wi dM);refine qg ?_ (hg:=wi dM);refine qu dM ?_;refine qm ?_;refine ab.two 45 rfl (fun aS=>?_) (fun aS=>?_)
     ·refine qs ?_ (hg:=wn aS);refine qs ?_ (hg:=wn aS);refine qt aS ?_;refine qm ?_;refine qs ?_;refine qs ?_;refine qg ?_;refine ab.nil (cP ?_ ?_)
      ·dsimp only[aI,List.foldl,nth,u2,u1]
       all_goals(first|rfl|simp)
      ·dsimp only[Fr.aC,Fr.put,Fr.clean,Fr.ev,Fr.get,nth,V.look,u1,u2,v1,v2,v3,v4,v5,v6,v7,List.length,u3,u4,Nat.reduceSub,Nat.reduceAdd,List.map]
       all_goals(simp[bf,dM,aS];done)
     ·refine qm ?_ (hg:=wi aS);refine qg ?_ (hg:=wi aS);refine qu aS ?_;refine qm ?_;refine ab.two 49 rfl (fun cF=>?_) (fun cF=>?_)
      ·refine qs ?_ (hg:=wn cF);refine qs ?_ (hg:=wn cF);refine qt cF ?_;refine ab.nil (cP ?_ ?_)
       ·dsimp only[aI,List.foldl,nth,u2,u1]
        all_goals(first|rfl|simp)
       ·dsimp only[Fr.aC,Fr.put,Fr.clean,Fr.ev,Fr.get,nth,V.look,u1,u2,v1,v2,v3,v4,v5,v6,v7,List.length,u3,u4,Nat.reduceSub,Nat.reduceAdd,List.map]
        all_goals(simp_all;done)
      ·refine qm ?_ (hg:=wi cF);refine qg ?_ (hg:=wi cF);refine qu cF ?_;refine ab.nil (cP ?_ ?_)
       ·dsimp only[aI,List.foldl,nth,u2,u1]
        all_goals(first|rfl|simp)
       ·dsimp only[Fr.aC,Fr.put,Fr.clean,Fr.ev,Fr.get,nth,V.look,u1,u2,v1,v2,v3,v4,v5,v6,v7,List.length,u3,u4,Nat.reduceSub,Nat.reduceAdd,List.map]
        all_goals(rfl)
   dsimp only[aI,List.foldl,nth,u2,u1];refine qC ?_;refine af.skip ?_;have NV:=hq.right hR;have Mw:=sr.right hR;have Vt:q.code.length=p.code.length:=by rw[hq.code,List.length_map]
   have PV:q2.code.length=p.code.length:=by rw[sr.code,List.length_map]
   have Qb:L.length=p.az.length:=by
    have:=congrArg List.length hL;unfold bZ at this
    simpa using this
   refine qq<|qj fun K hK=>qm ?_;refine ab.A7 hH rfl rfl rfl rfl rfl (by omega) (fun _=>(ag rfl _)) (fun k45 st UZ hH=>?_);refine qv ((TJ _ _ (hH.rows ay))) ?_;refine qm ?_;refine qe hK ?_;have Ft:Arg s0.bs.length S 2 (eG (j_ c)) ((j_ c).map bm):=Arg.pure (fun st=>dj st (j_ c))
   have oE:MM [] s0.bs.length S st o5 oh q2 0 mP L2 ks kv q 0 ld L:=⟨tE,tC,P2,Q2,zG,pd,qd,P,Q,sn,hH.drop 2,jz,OR,a_,gY⟩
   have oE:=oE.flip;have hH:=oE.has;refine qq<|qq<|qj fun K hK=>qm ?_;refine qe hK ?_;have Qg:∀l∈L,l.pl.ok p.code.length:=fun l hl=>yt hR _ (by rw[←hL];exact List.mem_map_of_mem hl);generalize j_ c=gs at*;refine af.block<|af.loop (fun mm fr st=>∃(i pl:Nat) (ld mP:D) (L L2:List VL),fr.clean=⟨15,[aN fr 0,aN fr 1,aN fr 2,aN fr 3,.bool false,aN fr 5,aN fr 6,.ptr kv 0 0,aN fr 8,.ptr oh 0 0,aN fr 10,eG gs,.int .i64 (i:Nat),aN fr 13,aN fr 14],[]⟩∧Has s0.bs.length S st []∧(i+mm=gs.length)∧(pl≤4*i)∧(MM [] s0.bs.length S st ks kv q pl ld L o5 oh q2 pl mP L2)∧(L2.map VL.pl=L.map VL.pl)∧(L.length=p.az.length)∧(∀l∈L,l.pl.ok p.code.length)) (gs.length) ?_ ?_
   ·exact⟨0,0,ld,mP,L,L2,rfl,hH,by omega,by omega,oE,(VO.trans hL.symm),Qb,Qg⟩
   rintro mm fr st ⟨i,pl,ld,mP,L,L2,hfr,hH,hi,jf,oE,Nw,Qb,FA⟩;rw[hfr];clear hfr;generalize aN fr=ee;clear fr;have NU:L.length=q.az.length:=by rw[hq.az];exact Qb
   have Qc:L2.length=p.az.length:=by
    have:=congrArg List.length Nw;rw[List.length_map,List.length_map] at this;omega
   have Mu:L2.length=q2.az.length:=by rw[sr.az];exact Qc
   have xD:∀l∈L,l.pl.ok q.code.length:=by rw[Vt];exact FA
   have Gf:∀l∈L2,l.pl.ok p.code.length:=fun l hl=>by
    have:l.pl∈L.map VL.pl:=by rw[←Nw];exact List.mem_map_of_mem hl
    obtain⟨x,hx,he⟩:=List.mem_map.1 this;rw[←he];exact FA x hx
   have Bc:∀l∈L2,l.pl.ok q2.code.length:=by rw[PV];exact Gf
   have P_:∀l∈L.map VL.pl,l.eH.length≤1000:=fun l hl=>by obtain⟨x,hx,rfl⟩:=List.mem_map.1 hl;exact(FA x hx).2
   have yP:(L.map fun l=>j7 q.code pl l.pl)=(L.map VL.pl).map (j7 p.code pl):=by
    rw[List.map_map,hq.code];refine List.map_congr_left fun x _=>?_;rw[qN];rfl
   have Nc:(L2.map fun l=>j7 q2.code pl l.pl)=(L.map VL.pl).map (j7 p.code pl):=by
    rw[←Nw,List.map_map,sr.code];refine List.map_congr_left fun x _=>?_;rw[qN];rfl
   have Nf:∀l∈(L.map VL.pl).map (j7 p.code pl),l.eH=[]:=fun l hl=>by obtain⟨x,_,rfl⟩:=List.mem_map.1 hl;rfl
   have Nd:∀l∈(L.map VL.pl).map (j7 p.code pl),l.eH.length≤1000:=fun l hl=>by rw[Nf l hl];simp
   have oz:((L.map VL.pl).map (j7 p.code pl)).length≤1073741824:=by simp;omega
   by_cases hlt:i<gs.length
   ·obtain⟨g,PH⟩:∃g,gs[i]?=some g:=⟨gs[i]'hlt,List.getElem?_eq_getElem _⟩
    have gD:(gs.map bm)[i]?=some (bm g):=by rw[List.getElem?_map,PH];rfl
    have Vu:=qY ((g.2:Nat):Int);have PX:decide (((i:Nat):Int)<((gs.length:Nat):Int))=true:=by rw[decide_eq_true_eq];omega
    refine qq<|qq<|qj fun K hK=>qm ?_;refine qm ?_;refine qn ?_;simp only[List.length_map];refine qg ?_;refine qe hK<|qD rfl (by rw[PX]) ?_;refine af.skip<|qq<|af.block ?_;obtain⟨H1,N3,hb1⟩:=oE.one;obtain⟨ad,st1,Kk,hM⟩:=nu hF hq.ok NV (by omega) NU xD N3;rw[yP] at hM;have oE:=hb1 _ _ _ _ _ hM;obtain⟨H2,P9,hb2⟩:=oE.one;obtain⟨bd,st2,Fv,hM⟩:=nu hF hq.ok NV (by omega) NU xD P9;rw[yP] at hM;have oE:=hb2 _ _ _ _ _ hM;have hH:=oE.has;dsimp only[u3,u4] at hH;refine qq<|qj fun K hK=>qm ?_;refine ab.iW rfl rfl Kk (ag rfl _) ?_;refine qm ?_;refine qe hK<|qq<|qj fun K hK=>qm ?_;refine ab.iW rfl rfl Fv (ag rfl _) ?_;refine qm ?_;refine qe hK<|qq<|qq<|qj fun K hK=>qm ?_;refine qm ?_;refine qv (oc (hH.rows b5) (hH.rows ay) (jU Nf) (jU Nf) oz Nd) ?_;refine qg ?_;refine qe hK<|qC ?_;refine af.skip ?_;obtain⟨H3,P8,Fw⟩:=(oE.drop 2 (by simp)).one;obtain⟨_,BN,Kj,rfl,L3,N4,hM⟩:=xZ (r:=((g.1:Nat):Int)) (n:=((g.2:Nat):Int)) yL hF hq.ok NV (by omega) NU xD P8;have oE:=(Fw _ _ _ _ _ hM).flip;have VS:=oE.has;obtain⟨H4,VK,P3⟩:=oE.one;obtain⟨_,Gl,Ki,rfl,L4,SH,hM⟩:=xZ (r:=((g.1:Nat):Int)) (n:=((g.2:Nat):Int)) yL hF sr.ok Mw (by omega) Mu Bc VK;have oE:=(P3 _ _ _ _ _ hM).flip;have VQ:=oE.has;refine qq<|qj fun K hK=>qm ?_;refine qm ?_;refine qm ?_;refine qr fun Wm Ua=>?_;refine qf (fo:=0) fun RV My=>?_;refine qR ?_;refine qm ?_;refine qm ?_;refine qr fun Td O8=>?_;refine qf (fo:=1) fun Tc O7=>?_;refine qR ?_;have hH:=VS;refine ab.iW rfl rfl Kj (ag rfl _) ?_;refine qe hK<|qj fun K hK=>qm ?_;refine qm ?_;refine qm ?_;refine qr fun Wh T7=>?_;refine qf (fo:=0) fun Wg T6=>?_;refine qR ?_;refine qm ?_;refine qm ?_;refine qr fun Wf T5=>?_;refine qf (fo:=1) fun We T4=>?_;refine qR ?_;have hH:=VQ;refine ab.iW rfl rfl Ki (ag rfl _) ?_;refine qe hK ?_;rw[hq.code,ji,hq.bZ] at N4;rw[sr.code,ji,sr.bZ,Nw,←N4] at SH
    have VN:L3.length=L.length:=by
     have:=congrArg List.length N4;rw[List.length_map,kf _ _ _ _ _ (by unfold bZ;simp;omega),List.length_map] at this;exact this
    have Qa:∀l∈L3,l.pl.ok p.code.length:=fun l hl=>pD hR (vl hR) _ (by rw[←N4];exact List.mem_map_of_mem hl);refine qj fun K hK=>qm ?_;refine qA ?_;refine qm ?_;refine qe hK ?_;exact⟨mm-1,by omega,⟨i+1,pl+kA ((g.2:Nat):Int),_,_,L3,L4,rfl,hH,by omega,by omega,oE,SH,by omega,Qa⟩⟩
   ·have PX:decide (((i:Nat):Int)<((gs.length:Nat):Int))=false:=by rw[decide_eq_false_iff_not];omega
    refine qq<|qq<|qj fun K hK=>qm ?_;refine qm ?_;refine qn ?_;simp only[List.length_map];refine qg ?_;refine qe hK<|qE rfl (by rw[PX]) ?_;refine af.exit ?_;obtain⟨H1,N3,hb1⟩:=oE.one;obtain⟨_,st1,Kk,rfl,rfl⟩:=o3 hq.ok (by omega) (fun l hl=>(FA l hl).2) N3;obtain⟨H2,P9,hb2⟩:=oE.flip.one;obtain⟨_,st2,Fv,rfl,rfl⟩:=o3 sr.ok (by omega) (fun l hl=>(Gf l hl).2) P9;rw[Nw] at Fv;have hm:=fun st=>tZ (s0:=st) (pl:=pl) (L:=L.map VL.pl) (by rw[List.length_map];omega) P_;obtain⟨ad,BN,Kj,hM⟩:=nu hF hq.ok NV (by omega) NU xD N3;rw[yP] at hM;have oE:=(hb1 _ _ _ _ _ hM).flip;obtain⟨H3,P8,Fw⟩:=oE.one;obtain⟨bd,Gl,Ki,hM⟩:=nu hF sr.ok Mw (by omega) Mu Bc P8;rw[Nc] at hM;have oE:=Fw _ _ _ _ _ hM;have hH:=oE.has;dsimp only[u3,u4] at hH;have bc:true=true:=rfl;have cJ:true=true:=rfl;refine qq<|qj fun K hK=>qm ?_;refine ab.iW rfl rfl Kk (ag rfl _) ?_;refine qm ?_;refine ab.iW rfl rfl Fv (ag rfl _) ?_;refine qv ((hm _)) ?_;refine qm ?_;refine qm ?_ (hg:=wi bc);refine ab.iW (aB rfl rfl rfl bc) rfl Kj (ag rfl _) ?_;refine qm ?_ (hg:=wi bc);refine ab.iW (aB rfl rfl rfl bc) rfl Ki (ag rfl _) ?_;refine qv (oc (hH.rows b5) (hH.rows ay) (jU Nf) (jU Nf) oz Nd) ?_ (hg:=wi bc);refine qt bc ?_;refine qm ?_;refine qv (Ev.iX rfl rfl) ?_ (hg:=wi cJ);refine qt cJ ?_;refine qm ?_;refine qe hK<|af.ret ⟨rx,_,rfl,rl b_ hH (rfl)⟩
theorem own:ownKnob Try.prog.godebug=none:=by kernel_rfl
theorem laidOut:laidOutB Try.prog=true:=by kernel_rfl
theorem lifted (os:Os) (started:os.Started) (H:Type) (enc:TypeId×Value→H) (F:Stop.Interp):
  ReturnsInHanded {} Try.checked os 3 .any ((Rows.OpenSpec.upto Rows.vmEndsSpec).pre6 enc Try.prog Try.f3 Rows.vmEndsUptoRow.domain false) (((Rows.OpenSpec.upto Rows.vmEndsSpec).at F).post enc Try.prog Try.f3 false true false false):=by
 refine returnsInHanded_of_cond (C:=Try.checked) (s:=Rows.OpenSpec.upto Rows.vmEndsSpec) (k:=Rows.uptoSmall) rfl own started (by kernel_rfl) Try.func3
  (OpenSpec.witness (enc:=enc) (C:=Try.checked) (s:=Rows.OpenSpec.upto Rows.vmEndsSpec) (k:=Rows.uptoSmall) rfl false ⟨#[],#[.slice none 0 0,.string .empty],[]⟩ 8 (by kernel_rfl) (by kernel_rfl) (by kernel_rfl)
   (x:=([.nil,.lit (.string [])],[],[])) (by kernel_rfl) rfl (by kernel_rfl)) ?_
 intro W base args ds gs before JO hW _ hk _;have VA:=hW;obtain⟨p,q,SJ,hV,rfl,hfz,vW⟩:=hW;have hA:DataW.TrodAll enc Try.prog W 0 (fun _=>true) true Try.f3.params.toList args.toList ds p:=SJ;rw[Try.params3] at hA JO;obtain⟨v0,Wb,d0,Xw,p0,q0,Ge,rfl,rfl,h0,r0⟩:=trodAll_cons hA;obtain⟨v1,Wa,d1,Xv,p1,q1,rfl,rfl,rfl,h1,r1⟩:=trodAll_cons r0;obtain⟨rfl,rfl,rfl⟩:=trodAll_nil r1;obtain rfl:args=#[v0,v1]:=by cases args;simp_all
 obtain⟨rfl,rfl⟩:=trodVars_none hV;simp only[Rows.uptoSmall,List.append_nil,decide_eq_true_eq,Rows.uptoBulkAll] at hk;have i0:=wW h0 (n:=12) (by kernel_rfl) (JO 0 22 v0 rfl rfl);have k0:=h0;have Tx:∀x∈p0,x.block<W.heap.size:=by obtain⟨m,hm⟩:=k0;exact DataW.trod_lt m _ _ _ hm
 obtain⟨y0,b0,oC,S9,Tu⟩:=BD (Rd.of h0);have i1:=wW h1 (n:=12) (by kernel_rfl) (JO 1 9 v1 rfl rfl);have k1:=h1;have Tw:∀x∈p1,x.block<W.heap.size:=by obtain⟨m,hm⟩:=k1;exact DataW.trod_lt m _ _ _ hm
 obtain⟨b1,hb1,sk⟩:=wK h1 Try.underlying9;have l1:b1.length≤Rows.uptoBulk d1:=by rw[sk];simp only[Rows.uptoBulk];omega
 have Pt:Ev pv 3 [gF d0,gF d1] ⟨[],0,0⟩ (.bool true) ⟨[],0,0⟩:=by
  rw[oC,hb1];exact law y0 b0 S9 (Tu (by omega)) b1 (by omega)
 have PD:∀(i:Nat) c v,[gF d0,gF d1][i]?=some c→[v0,v1][i]?=some v→IR W (fun b=>b<W.heap.size) c v:=by
  intro i c v hc hv
  match i,hc,hv with
  |0,hc,hv=>cases hc;cases hv;exact i0
  |1,hc,hv=>cases hc;cases hv;exact i1
 clear SJ;refine(yG view Pt (us:=[v0,v1]) rfl PD).mono fun e W' ⟨he,RA⟩=>?_;subst he;exact⟨_,rfl,_,_,_,[],_,[],VA,trodAll_mk1 (shut_bool Try.underlying4 _),(trodAll_cons_mk (Below.trod laidOut (by kernel_rfl) (of_decide_eq_true (by kernel_rfl)) k0 RA Tx) (trodAll_cons_mk (Below.trod laidOut (by kernel_rfl) (of_decide_eq_true (by kernel_rfl)) k1 RA Tw) trodAll_mk0)),rfl,RA.frame _,fun h=>by cases h⟩
theorem proved:Rows.VmEndsUptoSaid:=
 OpenClaim.holds_of_cond 3 Try.f3 rfl rfl rfl rfl rfl rfl rfl ⟨rfl,rfl,rfl,rfl,rfl⟩ rfl rfl rfl rfl rfl (by kernel_rfl) Try.func3 (by kernel_rfl)
  (of_decide_eq_true (by kernel_rfl)) (by unfold Func.isWrapper;rw[if_neg (by decide+kernel)];exact⟨rfl,rfl⟩)
  (fun os started H enc _ F=>lifted os started H enc F)
end Go.Proofs.Ytbdnabmmlbiomaa.vmEnds
#print axioms Go.Proofs.Ytbdnabmmlbiomaa.vmEnds.proved
