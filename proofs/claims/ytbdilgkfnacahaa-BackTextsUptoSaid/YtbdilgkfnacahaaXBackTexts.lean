/- BackTexts, for arguments of bulk at most 1048576: it answers true. -/
import Derived.Test.YtbdilgkfnacahaaXGQh
import Derived.Test.YtbdilgkfnacahaaXGBc
import Derived.Test.YtbdilgkfnacahaaRows
import Derived.WalkKit
import Derived.ProofKit
import Derived.OpenShut
import Derived.JoinedCond
import Derived.ChangeOld
set_option maxRecDepth 100000
set_option maxHeartbeats 4000000
set_option linter.unusedSimpArgs false
set_option linter.unusedVariables false
namespace Go.Proofs.Ytbdilgkfnacahaa.backTexts
open Go.ChangeShapes Go.WideShapes Go.ChangeAt Go.RowKit Go.V
def ck (fr:Go.V.Fr) (k:Nat):Go.V.D:=Go.V.nth .bA fr.loc k
theorem EF (f:oY):kM pv .eql 66 (.agg (aE f)) (.agg (aE f))=some (.bool true):=by
 have h:∀a b c d e g i j k l:Int,kM pv .eql 66 (.agg [.int .i64 a,.int .i64 b,.int .i64 c,.int .i64 d,.int .i64 e,.int .i64 g,.int .i64 i,.int .i64 j,.int .i64 k,.int .i64 l]) (.agg [.int .i64 a,.int .i64 b,.int .i64 c,.int .i64 d,.int .i64 e,.int .i64 g,.int .i64 i,.int .i64 j,.int .i64 k,.int .i64 l])=Option.map D.bool (match some (a==a) with|some true=>(match some (b==b) with|some true=>(match some (c==c) with|some true=>(match some (d==d) with|some true=>(match some (e==e) with|some true=>(match some (g==g) with|some true=>(match some (i==i) with|some true=>(match some (j==j) with|some true=>(match some (k==k) with|some true=>(match some (l==l) with|some true=>some true|some false=>some false|none=>none)|some false=>some false|none=>none)|some false=>some false|none=>none)|some false=>some false|none=>none)|some false=>some false|none=>none)|some false=>some false|none=>none)|some false=>some false|none=>none)|some false=>some false|none=>none)|some false=>some false|none=>none)|some false=>some false|none=>none):=fun _ _ _ _ _ _ _ _ _ _=>rfl;unfold aE;rw[h];simp only[beq_self_eq_true,Option.map_some]
theorem Ez {s0:St} (b:List UInt8):Ev pv 32 [.str b,.int .i64 80] s0 (.str (b.take 80)) s0:=by
 refine Ev.j8 rfl Qg rfl rfl rfl ?_;dsimp only[u3,u4,List.length,Nat.reduceSub,Nat.reduceAdd,w1,w2];obtain⟨bN,hF,hH⟩:=ri s0;generalize aj .ro s0=S at*;refine qq<|qj fun K hK=>qm ?_;refine qe hK<|qq<|qq<|qj fun K hK=>qm ?_;refine ae.sH rfl rfl rfl (ag rfl _) ?_;refine qm ?_;refine qg ?_;refine qe hK ?_;refine af.cond (by rfl) (fun h0=>?_) (fun h0=>?_)<;>try simp only[decide_eq_true_eq,decide_eq_false_iff_not] at h0
 ·refine qq<|qj fun K hK=>qm ?_;refine qm ?_;refine ae.go (d:=.str (b.take 80)) (st1:=_) rfl rfl (by show Option.map _ (Option.map _ (cI b.length none (some (.int .i64 ((80:Nat):Int)))))=_;rw[fL (by omega)];rfl) (ag rfl _) ?_;refine qm ?_;refine qe hK<|af.ret ⟨rx,_,rfl,rl bN hH (rfl)⟩
 ·rw[List.take_of_length_le (by omega)];refine af.skip<|qq<|qj fun K hK=>qm ?_;refine qm ?_;refine qe hK<|af.ret ⟨rx,_,rfl,rl bN hH (rfl)⟩
theorem law {s0:St} (x:D) (ps:List (List UInt8)) (hx:gq x 1 (ps.map uL)) (ji:ps.length≤1048576∧∀b∈ps,b.length≤1048576) (cu:Int) (b:List UInt8) (hbl:b.length≤1048576):Ev pv 10 [x,.int .i64 cu,.str b] s0 (.bool true) s0:=by
 refine Ev.j8 rfl Qn rfl rfl rfl ?_;dsimp only[u3,u4,List.length,Nat.reduceSub,Nat.reduceAdd,w1,w2];obtain⟨bN,hF,hH⟩:=ri s0;generalize aj .ro s0=S at*;refine qq<|qj fun K hK=>qm ?_;refine qe hK<|qq<|qj fun K hK=>qm ?_;refine qv (Ez b) ?_;refine qm ?_;refine qe hK ?_
 obtain⟨c,Mf⟩:∃c,b.take 80=c:=⟨_,rfl⟩
 have hcl:c.length≤80:=by rw[←Mf,List.length_take];omega
 rw[Mf];clear Mf;obtain⟨hal,_⟩:=lO _ c (Nat.le_refl _);refine qq<|qq<|af.mb (fun fr st=>∃(y:D) (qs:List (List UInt8)) (tmp:List (Nat×D)),fr=⟨13,[y,.int .i64 cu,.str c,ck fr 3,ck fr 4,ck fr 5,.bool false,ck fr 7,ck fr 8,ck fr 9,ck fr 10,ck fr 11,ck fr 12],tmp⟩∧Has s0.bs.length S st []∧(gq y 1 (qs.map uL))∧(qs.length≤1048576∧∀b∈qs,b.length≤1048576)) ?_ ?_
 ·have NQ:=hx.arg s0.bs.length S;refine qj fun K hK=>qm ?_;refine qn ?_;simp only[List.length_map];refine qg ?_;refine qe hK ?_;refine af.cond (by rfl) (fun h4=>?_) (fun h4=>?_)<;>try simp only[decide_eq_true_eq,decide_eq_false_iff_not] at h4
  ·refine qj fun K hK=>qm ?_;refine ae.Iy rfl (ev rfl) (by assumption) rfl rfl (fL (by simp only[List.length_map];omega)) (fun _=>(ag rfl _)) (fun Sh NP=>?_);refine qm ?_;refine qe hK ?_;exact⟨Sh,ps.take 4,_,rfl,hH,(by rw[List.map_take];exact NP),⟨by rw[List.length_take];omega,fun b hb=>ji.2 b (List.mem_of_mem_take hb)⟩⟩
  ·refine af.skip ?_;exact⟨x,ps,_,rfl,hH,hx,ji⟩
 ·rintro fr st ⟨y,qs,tmp,hfr,hH,hy,hq⟩;rw[hfr];clear hfr;generalize ck fr=ee;clear fr;obtain⟨_,aS,p,ok,rfl,hp,gd⟩:=D5 (s0:=st) (hy.rows _) hq.1 hq.2;unfold Pg.d at aS;have hc:=hp.c.arg s0.bs.length S;have hs:=hp.s.arg s0.bs.length S;have o7:=hp.c;have hsd:=hp.s;refine qq<|qj fun K hK=>qm ?_;refine qv (aS) ?_;refine qm ?_;refine qg ?_;refine qg ?_;refine qa hH fun k7 st M1 hH=>?_;refine qS hH aB fun st hH=>?_;dsimp only[u2,u1,u3,u4,setMany,u5,u6,D.cells,Nat.reduceAdd,Pg.cs,Pg.d,aE] at hH;refine qm ?_;refine qe hK<|qq<|qq<|qj fun K hK=>qm ?_;refine qg ?_;refine qe hK ?_
  cases ok with
  |false=>
   refine qB ?_;refine qq<|qj fun K hK=>qv (Ev.iL rfl rfl) ?_;refine qm ?_;refine qe hK<|af.ret ⟨rx,_,rfl,rl bN hH (rfl)⟩
  |true=>
   have hsz:((dX c).length+1)*p.code.length≤134217728:=Nat.le_trans (Nat.mul_le_mul (show(dX c).length+1≤81 by omega) (show p.code.length≤400 by omega)) (by decide);have N0:p.code.length*((dX c).length+1)≤134217728:=by rw[Nat.mul_comm];exact hsz
   have A0:=fun st=>Af (s0:=st) hp cu (b:=c) (by omega) hsz;have Fe:=fun st=>xD (s0:=st) (fun st=>Ev.iL rfl rfl) hp cu (b:=c) (by omega) N0;simp only[←yg] at Fe;simp only[Pg.d] at A0 Fe
   obtain⟨f,bo,OD⟩:∃(f:oY) (bo:Bool),DR (ig p cu c)=.tup [.agg (aE f),.bool bo]:=by
    cases ig p cu c with
    |none=>exact⟨_,_,rfl⟩
    |some f=>exact⟨_,_,rfl⟩
   simp only[OD] at A0 Fe;refine qC ?_;refine af.skip<|qq<|qj fun K hK=>?_;refine ae.bF (m:=2) hH rfl (ev rfl) (by exact aB) (by dsimp only[List.drop_succ_cons,List.drop_zero,List.take_succ_cons,List.take_zero,Pg.cs,Pg.d,aE]<;>rfl) rfl rfl (ag rfl _) ?_;refine qm ?_;refine qm ?_;refine qv ((A0 _)) ?_;refine qm ?_;refine qg ?_;refine qg ?_;refine qa hH fun k9 st UF hH=>?_;refine qS hH aB fun st hH=>?_;dsimp only[u2,u1,u3,u4,setMany,u5,u6,D.cells,Nat.reduceAdd,Pg.cs,Pg.d,aE] at hH;refine qm ?_;refine qe hK<|qq<|qj fun K hK=>?_;refine ae.bF (m:=2) hH rfl (ev rfl) (by exact bu) (by dsimp only[List.drop_succ_cons,List.drop_zero,List.take_succ_cons,List.take_zero,Pg.cs,Pg.d,aE]<;>rfl) rfl rfl (ag rfl _) ?_;refine qm ?_;refine qm ?_;refine qv ((Fe _)) ?_;refine qm ?_;refine qg ?_;refine qg ?_;refine qa hH fun Le st Eu hH=>?_;refine qS hH aB fun st hH=>?_;dsimp only[u2,u1,u3,u4,setMany,u5,u6,D.cells,Nat.reduceAdd,Pg.cs,Pg.d,aE] at hH;refine qm ?_;refine qe hK ?_;have aZ:true=true:=rfl;have er:(bo==bo)=true:=by simp
   refine qq<|qj fun K hK=>?_;refine ae.bF (m:=10) hH rfl (ev rfl) (by exact bu) (by dsimp only[List.drop_succ_cons,List.drop_zero,List.take_succ_cons,List.take_zero,Pg.cs,Pg.d,aE]<;>rfl) rfl rfl (ag rfl _) ?_;refine ae.bF (m:=10) hH rfl (ev rfl) (by exact aB) (by dsimp only[List.drop_succ_cons,List.drop_zero,List.take_succ_cons,List.take_zero,Pg.cs,Pg.d,aE]<;>rfl) rfl rfl (ag rfl _) ?_;refine ae.VC rfl (ev rfl) (ev rfl) (EF f) (ag rfl _) ?_;refine qm ?_;refine qm ?_ (hg:=wi aZ);refine qm ?_ (hg:=wi aZ);refine qg ?_ (hg:=wi aZ);refine qt aZ ?_;refine qm ?_;refine qv (Ev.iL rfl rfl) ?_ (hg:=wi er);refine qt er ?_;refine qm ?_;refine qe hK<|af.ret ⟨rx,_,rfl,rl bN hH (rfl)⟩
theorem own:ownKnob Try.prog.godebug=none:=by kernel_rfl
theorem laidOut:laidOutB Try.prog=true:=by kernel_rfl
theorem lifted (os:Os) (started:os.Started) (H:Type) (enc:TypeId×Value→H) (F:Stop.Interp):
  ReturnsInHanded {} Try.checked os 10 .any ((Rows.OpenSpec.upto Rows.backTextsSpec).pre6 enc Try.prog Try.f10 Rows.backTextsUptoRow.domain false) (((Rows.OpenSpec.upto Rows.backTextsSpec).at F).post enc Try.prog Try.f10 false true false false):=by
 refine returnsInHanded_of_cond (C:=Try.checked) (s:=Rows.OpenSpec.upto Rows.backTextsSpec) (k:=Rows.uptoSmall) rfl own started (by kernel_rfl) Try.func10
  (OpenSpec.witness (enc:=enc) (C:=Try.checked) (s:=Rows.OpenSpec.upto Rows.backTextsSpec) (k:=Rows.uptoSmall) rfl false ⟨#[],#[.slice none 0 0,.int .i64 0,.string .empty],[]⟩ 8 (by kernel_rfl) (by kernel_rfl) (by kernel_rfl)
   (x:=([.nil,.lit (.int .i64 0),.lit (.string [])],[],[])) (by kernel_rfl) rfl (by kernel_rfl)) ?_
 intro W base args ds gs before Ec hW _ hk _;have Vm:=hW;obtain⟨p,q,R0,hV,rfl,hfz,vw⟩:=hW;have hA:DataW.TrodAll enc Try.prog W 0 (fun _=>true) true Try.f10.params.toList args.toList ds p:=R0;rw[Try.params10] at hA Ec;obtain⟨v0,VY,d0,Xl,p0,q0,Fg,rfl,rfl,h0,r0⟩:=trodAll_cons hA;obtain⟨v1,VX,d1,Xk,p1,q1,rfl,rfl,rfl,h1,r1⟩:=trodAll_cons r0;obtain⟨v2,VW,d2,Xj,p2,q2,rfl,rfl,rfl,h2,r2⟩:=trodAll_cons r1;obtain⟨rfl,rfl,rfl⟩:=trodAll_nil r2;obtain rfl:args=#[v0,v1,v2]:=by cases args;simp_all
 obtain⟨rfl,rfl⟩:=trodVars_none hV;simp only[Rows.uptoSmall,List.append_nil,decide_eq_true_eq,Rows.uptoBulkAll] at hk;have i0:=qH h0 (n:=12) (by kernel_rfl) (Ec 0 55 v0 rfl rfl);have k0:=h0;have Tj:∀x∈p0,x.block<W.heap.size:=by obtain⟨m,hm⟩:=k0;exact DataW.trod_lt m _ _ _ hm
 obtain⟨y0,b0,kQ,SD,Tf⟩:=AF (Rd.of h0);have i1:=qH h1 (n:=12) (by kernel_rfl) (Ec 1 3 v1 rfl rfl);have k1:=h1;have Ti:∀x∈p1,x.block<W.heap.size:=by obtain⟨m,hm⟩:=k1;exact DataW.trod_lt m _ _ _ hm
 obtain⟨b1,hb1,jf,w1⟩:=ES h1 Try.underlying3;have i2:=qH h2 (n:=12) (by kernel_rfl) (Ec 2 9 v2 rfl rfl);have k2:=h2;have Th:∀x∈p2,x.block<W.heap.size:=by obtain⟨m,hm⟩:=k2;exact DataW.trod_lt m _ _ _ hm
 obtain⟨b2,hb2,zG⟩:=vZ h2 Try.underlying9;have l2:b2.length≤Rows.uptoBulk d2:=by rw[zG];simp only[Rows.uptoBulk];omega
 have ON:Ev pv 10 [f_ d0,f_ d1,f_ d2] ⟨[],0,0⟩ (.bool true) ⟨[],0,0⟩:=by
  rw[kQ,hb1,hb2];exact law y0 b0 SD (Tf (by omega)) b1 b2 (by omega)
 have L6:∀(i:Nat) c v,[f_ d0,f_ d1,f_ d2][i]?=some c→[v0,v1,v2][i]?=some v→IR W (fun b=>b<W.heap.size) c v:=by
  intro i c v hc hv
  match i,hc,hv with
  |0,hc,hv=>cases hc;cases hv;exact i0
  |1,hc,hv=>cases hc;cases hv;exact i1
  |2,hc,hv=>cases hc;cases hv;exact i2
 clear R0;refine(xV view ON (us:=[v0,v1,v2]) rfl L6).mono fun e W' ⟨he,Nb⟩=>?_;subst he;exact⟨_,rfl,_,_,_,[],_,[],Vm,trodAll_mk1 (shut_bool Try.underlying4 _),(trodAll_cons_mk (Below.trod laidOut (by kernel_rfl) (of_decide_eq_true (by kernel_rfl)) k0 Nb Tj) (trodAll_cons_mk (Below.trod laidOut (by kernel_rfl) (of_decide_eq_true (by kernel_rfl)) k1 Nb Ti) (trodAll_cons_mk (Below.trod laidOut (by kernel_rfl) (of_decide_eq_true (by kernel_rfl)) k2 Nb Th) trodAll_mk0))),rfl,Nb.frame _,fun h=>by cases h⟩
theorem proved:Rows.BackTextsUptoSaid:=
 OpenClaim.holds_of_cond 10 Try.f10 rfl rfl rfl rfl rfl rfl rfl ⟨rfl,rfl,rfl,rfl,rfl⟩ rfl rfl rfl rfl rfl (by kernel_rfl) Try.func10 (by kernel_rfl)
  (of_decide_eq_true (by kernel_rfl)) (by unfold Func.isWrapper;rw[if_neg (by decide+kernel)];exact⟨rfl,rfl⟩)
  (fun os started H enc _ F=>lifted os started H enc F)
end Go.Proofs.Ytbdilgkfnacahaa.backTexts
#print axioms Go.Proofs.Ytbdilgkfnacahaa.backTexts.proved
