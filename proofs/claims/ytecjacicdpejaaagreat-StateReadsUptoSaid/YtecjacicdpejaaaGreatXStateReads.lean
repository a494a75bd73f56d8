/- StateReads, for arguments of bulk at most 1048576: it answers true. -/
import Derived.Test.YtecjacicdpejaaaGreatXGJp
import Derived.Test.YtecjacicdpejaaaGreatXGOf
import Derived.Test.YtecjacicdpejaaaGreatRows
import Derived.WalkKit
import Derived.ProofKit
import Derived.OpenShut
import Derived.JoinedCond
import Derived.ChangeOld
set_option maxRecDepth 100000
set_option maxHeartbeats 4000000
set_option linter.unusedSimpArgs false
set_option linter.unusedVariables false
namespace Go.Proofs.YtecjacicdpejaaaGreat.stateReads
open Go.ChangeShapes Go.WideShapes Go.ChangeAt Go.RowKit Go.V
theorem law {s0:St} (x:D) (ps:List (List UInt8)) (hx:gd x 1 (ps.map zc)) (jL:ps.length≤1048576∧∀b∈ps,b.length≤1048576) (y:D) (b:List UInt8) (hy:gd y 1 (byteCells b)) (hbl:b.length≤1048576):Ev pv 5 [x,y] s0 (.bool true) s0:=by
 have wj:∀st,Ev pv 149 [] st (.agg (aY dP)) st:=fun st=>Ev.jS rfl rfl;have HN:∀st,Ev pv 193 [] st (.agg (aY dP)) st:=fun st=>Ev.jS rfl rfl;refine Ev.ia rfl WU rfl rfl rfl ?_;dsimp only[u3,u4,List.length,Nat.reduceSub,Nat.reduceAdd,w1,w2];obtain⟨aP,hF,hH⟩:=ri s0;generalize ae .ro s0=S at*;refine qq<|qj fun K hK=>qm ?_;refine qe hK ?_;have JE:=hy.arg s0.bs.length S;obtain⟨_,aB,p,ok,rfl,hp,hR⟩:=CH (s0:=S) ((hx.arg s0.bs.length S).rows hH) jL.1 jL.2;have wU:=fun(st:St)=>Ar (s0:=st) (x:=y) (b:=b) wj hp hR (hy.rows st) (by omega);have tJ:=fun(st:St)=>Ao (s0:=st) (x:=y) (b:=b) HN hp hR (hy.rows st) (by omega);have hwl:=fun(st:St) (h:List UInt8) (pl:Int) (L:List GV) (h3:h.length≤1048576) (hL:Iz L)=>xn (s0:=st) (p:=p) (place:=pl) wj hp hL.Pm (pb h) h3;obtain⟨hq,hw⟩:=Ij (p:=p) (b:=b);have L9:=fun(st:St)=>Co (s0:=st) hq;unfold m_ at wU tJ;generalize nW p b=R at*;obtain⟨e,h,pl,L⟩:=R;unfold xk at L9 wU tJ;dsimp only at hq hw L9 wU tJ;have We:=hq.h;dsimp only at We;have hwl:=fun(st:St)=>hwl st h pl L (by omega) hq.g;have pK:=hp.c;have hsd:=hp.s;unfold Pg.d at*;refine qq<|qj fun K hK=>qm ?_;refine qv (aB) ?_;refine qm ?_;refine qg ?_;refine qg ?_;refine qa hH fun k5 st K' hH=>?_;refine qS hH aN fun st hH=>?_;dsimp only[u2,u1,u3,u4,setMany,u5,u6,D.cells,Nat.reduceAdd,Pg.cs] at hH;refine qm ?_;refine qe hK<|qq<|qq<|qj fun K hK=>qm ?_;refine qg ?_;refine qe hK ?_
 cases ok with
 |false=>
  refine qB ?_;refine qq<|qj fun K hK=>qv (Ev.jS rfl rfl) ?_;refine qm ?_;refine qe hK<|ak.ret ⟨rx,_,rfl,rl aP hH (rfl)⟩
 |true=>
  refine qC ?_;refine ak.skip<|qq<|qj fun K hK=>?_;refine aa.aL (m:=2) hH rfl (ev rfl) (by exact aN) (by dsimp only[List.drop_succ_cons,List.drop_zero,List.take_succ_cons,List.take_zero,Pg.cs]<;>rfl) rfl rfl (ab rfl _) ?_;refine qm ?_;refine qv ((wU _)) ?_;refine qm ?_;refine qg ?_;refine qg ?_;refine qa hH fun k7 st O6 hH=>?_;refine qS hH aN fun st hH=>?_;dsimp only[u2,u1,u3,u4,setMany,u5,u6,D.cells,Nat.reduceAdd,Pg.cs] at hH;refine qm ?_;refine qe hK<|qq<|qj fun K hK=>?_;refine aa.aL (m:=2) hH rfl (ev rfl) (by exact bV) (by dsimp only[List.drop_succ_cons,List.drop_zero,List.take_succ_cons,List.take_zero,Pg.cs]<;>rfl) rfl rfl (ab rfl _) ?_;refine qm ?_;refine qv ((tJ _)) ?_;refine qm ?_;refine qg ?_;refine qg ?_;refine qa hH fun k9 st ME hH=>?_;refine qS hH aN fun st hH=>?_;dsimp only[u2,u1,u3,u4,setMany,u5,u6,D.cells,Nat.reduceAdd,Pg.cs] at hH;refine qm ?_;refine qe hK ?_;have bk:true=true:=rfl;have gW:true=true:=rfl;have bZ:true=true:=rfl
  have heq:∀st:St,(eL pv .eql 3 (.int .i64 e) (.int .i64 e)).map (fun d=>(d,st))=some (.bool true,st):=fun st=>by
   show Option.map _ (some (D.bool (e==e)))=_;simp
  by_cases he:e=0
  ·have bR:(e !=0)=false:=by simpa using he
   rw[bK (hw he)] at hwl;refine qq<|qj fun K hK=>qm ?_;refine qm ?_;refine aa.go (d:=.bool true) (st1:=_) rfl rfl (by exact heq _) (ab rfl _) ?_;refine qm ?_;refine aa.aL (m:=3) hH (ai rfl rfl rfl bk) (ev rfl) (by exact bV) (by dsimp only[List.drop_succ_cons,List.drop_zero,List.take_succ_cons,List.take_zero,Pg.cs]<;>rfl) rfl rfl (ab rfl _) ?_;refine aa.aL (m:=3) hH (ai rfl rfl rfl bk) (ev rfl) (by exact aN) (by dsimp only[List.drop_succ_cons,List.drop_zero,List.take_succ_cons,List.take_zero,Pg.cs]<;>rfl) rfl rfl (ab rfl _) ?_;refine qv ((L9 _)) ?_ (hg:=wi bk);refine qt bk ?_;refine qm ?_;refine qm ?_ (hg:=wi gW);refine qg ?_ (hg:=wi gW);refine qm ?_ (hg:=wi gW);refine aa.aL (m:=2) hH (ai rfl rfl rfl bR) (ev rfl) (by exact fm) (by dsimp only[List.drop_succ_cons,List.drop_zero,List.take_succ_cons,List.take_zero,Pg.cs]<;>rfl) rfl rfl (ab rfl _) ?_;refine aa.aL (m:=3) hH (ai rfl rfl rfl bR) (ev rfl) (by exact bV) (by dsimp only[List.drop_succ_cons,List.drop_zero,List.take_succ_cons,List.take_zero,Pg.cs]<;>rfl) rfl rfl (ab rfl _) ?_;refine qv ((hwl _)) ?_ (hg:=wi bR);refine aa.cH (ai rfl rfl rfl gW) rfl bR (ab rfl _) ?_;refine qt gW ?_;refine qm ?_;refine qv (Ev.jS rfl rfl) ?_ (hg:=wi bZ);refine qt bZ ?_;refine qm ?_;refine qe hK<|ak.ret ⟨rx,_,rfl,rl aP hH (rfl)⟩
  ·have bR:(e !=0)=true:=by simpa using he
   refine qq<|qj fun K hK=>qm ?_;refine qm ?_;refine aa.go (d:=.bool true) (st1:=_) rfl rfl (by exact heq _) (ab rfl _) ?_;refine qm ?_;refine aa.aL (m:=3) hH (ai rfl rfl rfl bk) (ev rfl) (by exact bV) (by dsimp only[List.drop_succ_cons,List.drop_zero,List.take_succ_cons,List.take_zero,Pg.cs]<;>rfl) rfl rfl (ab rfl _) ?_;refine aa.aL (m:=3) hH (ai rfl rfl rfl bk) (ev rfl) (by exact aN) (by dsimp only[List.drop_succ_cons,List.drop_zero,List.take_succ_cons,List.take_zero,Pg.cs]<;>rfl) rfl rfl (ab rfl _) ?_;refine qv ((L9 _)) ?_ (hg:=wi bk);refine qt bk ?_;refine qm ?_;refine qm ?_ (hg:=wi gW);refine qg ?_ (hg:=wi gW);refine qm ?_ (hg:=wi gW);refine qs ?_ (hg:=wn bR);refine qs ?_ (hg:=wn bR);refine qs ?_ (hg:=wn bR);refine aa.cQ (ai rfl rfl rfl gW) rfl bR (ab rfl _) ?_;refine qt gW ?_;refine qm ?_;refine qv (Ev.jS rfl rfl) ?_;refine qg ?_;refine qm ?_;refine qe hK<|ak.ret ⟨rx,_,rfl,rl aP hH (rfl)⟩
theorem own:ownKnob Tryz.prog.godebug=none:=by kernel_rfl
theorem laidOut:laidOutB Tryz.prog=true:=by kernel_rfl
theorem lifted (os:Os) (started:os.Started) (H:Type) (enc:TypeId×Value→H) (F:Stop.Interp):
  ReturnsInHanded {} Tryz.checked os 5 .any ((Rows.OpenSpec.upto Rows.stateReadsSpec).pre6 enc Tryz.prog Tryz.f5 Rows.stateReadsUptoRow.domain false) (((Rows.OpenSpec.upto Rows.stateReadsSpec).at F).post enc Tryz.prog Tryz.f5 false true false false):=by
 refine returnsInHanded_of_cond (C:=Tryz.checked) (s:=Rows.OpenSpec.upto Rows.stateReadsSpec) (k:=Rows.uptoSmall) rfl own started (by kernel_rfl) Tryz.func5
  (OpenSpec.witness (enc:=enc) (C:=Tryz.checked) (s:=Rows.OpenSpec.upto Rows.stateReadsSpec) (k:=Rows.uptoSmall) rfl false ⟨#[],#[.slice none 0 0,.slice none 0 0],[]⟩ 8 (by kernel_rfl) (by kernel_rfl) (by kernel_rfl)
   (x:=([.nil,.nil],[],[])) (by kernel_rfl) rfl (by kernel_rfl)) ?_
 intro W base args ds gs before hval hW _ hk _;have WA:=hW;obtain⟨p,q,TP,hV,rfl,hfz,Ag⟩:=hW;have hA:DataW.TrodAll enc Tryz.prog W 0 (fun _=>true) true Tryz.f5.params.toList args.toList ds p:=TP;rw[Tryz.params5] at hA hval;obtain⟨v0,Xo,d0,YA,p0,q0,I4,rfl,rfl,h0,r0⟩:=trodAll_cons hA;obtain⟨v1,Xn,d1,Yz,p1,q1,rfl,rfl,rfl,h1,r1⟩:=trodAll_cons r0;obtain⟨rfl,rfl,rfl⟩:=trodAll_nil r1;obtain rfl:args=#[v0,v1]:=by cases args;simp_all
 obtain⟨rfl,rfl⟩:=trodVars_none hV;simp only[Rows.uptoSmall,List.append_nil,decide_eq_true_eq,Rows.uptoBulkAll] at hk;have i0:=A4 h0 (n:=12) (by kernel_rfl) (hval 0 22 v0 rfl rfl);have k0:=h0;have UI:∀x∈p0,x.block<W.heap.size:=by obtain⟨m,hm⟩:=k0;exact DataW.trod_lt m _ _ _ hm
 obtain⟨y0,b0,oq,T_,UG⟩:=Gm (Rd.of h0);have i1:=A4 h1 (n:=12) (by kernel_rfl) (hval 1 23 v1 rfl rfl);have k1:=h1;have UH:∀x∈p1,x.block<W.heap.size:=by obtain⟨m,hm⟩:=k1;exact DataW.trod_lt m _ _ _ hm
 obtain⟨y1,b1,hb1,T9,UF⟩:=Iv (Rd.of h1)
 have QK:Ev pv 5 [jk d0,jk d1] ⟨[],0,0⟩ (.bool true) ⟨[],0,0⟩:=by
  rw[oq,hb1];exact law y0 b0 T_ (UG (by omega)) y1 b1 T9 (UF (by omega))
 have ML:∀(i:Nat) c v,[jk d0,jk d1][i]?=some c→[v0,v1][i]?=some v→IR W (fun b=>b<W.heap.size) c v:=by
  intro i c v hc hv
  match i,hc,hv with
  |0,hc,hv=>cases hc;cases hv;exact i0
  |1,hc,hv=>cases hc;cases hv;exact i1
 clear TP;refine(CL view QK (us:=[v0,v1]) rfl ML).mono fun e W' ⟨he,Ss⟩=>?_;subst he;exact⟨_,rfl,_,_,_,[],_,[],WA,trodAll_mk1 (shut_bool Tryz.underlying4 _),(trodAll_cons_mk (Below.trod laidOut (by kernel_rfl) (of_decide_eq_true (by kernel_rfl)) k0 Ss UI) (trodAll_cons_mk (Below.trod laidOut (by kernel_rfl) (of_decide_eq_true (by kernel_rfl)) k1 Ss UH) trodAll_mk0)),rfl,Ss.frame _,fun h=>by cases h⟩
theorem OG:(Rows.stateReadsUptoRow.inPlace==Tryz.checked.prog.inPlace 5)=true:=by kernel_rfl
theorem OE:(Rows.stateReadsUptoRow.unfollowed==Tryz.checked.prog.unfollowed 5)=true:=by kernel_rfl
theorem OD:(Rows.stateReadsUptoRow.recurses==Tryz.checked.prog.recurses 5)=true:=by kernel_rfl
theorem OC:(Rows.stateReadsUptoRow.named==Tryz.checked.prog.varsNamed 5)=true:=by kernel_rfl
theorem eM {a b:Bool} (h1:a=true) (h2:b=true):(a &&b)=true:=by rw[h1,h2];rfl
theorem facts:joinedFacts Tryz.checked.prog 5 Tryz.f5 (Rows.OpenSpec.upto Rows.stateReadsSpec).bare Rows.stateReadsUptoRow=true:=by
 unfold joinedFacts;exact eM (eM (eM (eM (eM (eM (eM (eM (eM (eM (eM (eM (eM (eM (eM (eM (eM (eM (eM (eM (eM (eM (eM (by kernel_rfl) OG) OE) OD) OC) (by kernel_rfl)) (by kernel_rfl)) (by kernel_rfl)) (by kernel_rfl)) (by kernel_rfl)) (by kernel_rfl)) (by kernel_rfl)) (by kernel_rfl)) (by kernel_rfl)) (by kernel_rfl)) (by kernel_rfl)) (by kernel_rfl)) (by kernel_rfl)) (by kernel_rfl)) (by kernel_rfl)) (by kernel_rfl)) (by kernel_rfl)) (by kernel_rfl)) (by kernel_rfl)
theorem proved:Rows.StateReadsUptoSaid:=
 OpenClaim.holds_of_cond 5 Tryz.f5 rfl rfl rfl rfl rfl rfl rfl ⟨rfl,rfl,rfl,rfl,rfl⟩ rfl rfl rfl rfl rfl (by kernel_rfl) Tryz.func5 facts
  (of_decide_eq_true (by kernel_rfl)) (by unfold Func.isWrapper;rw[if_neg (by decide+kernel)];exact⟨rfl,rfl⟩)
  (fun os started H enc _ F=>lifted os started H enc F)
end Go.Proofs.YtecjacicdpejaaaGreat.stateReads
#print axioms Go.Proofs.YtecjacicdpejaaaGreat.stateReads.proved
