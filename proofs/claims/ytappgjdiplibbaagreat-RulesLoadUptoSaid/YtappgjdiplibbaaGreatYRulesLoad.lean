/- RulesLoad, for arguments of bulk at most 1048576: it answers true. -/
import Derived.Test.YtappgjdiplibbaaGreatYGFi
import Derived.Test.YtappgjdiplibbaaGreatRows
import Derived.WalkKit
import Derived.ProofKit
import Derived.OpenShut
import Derived.JoinedCond
import Derived.ChangeOld
set_option maxRecDepth 100000
set_option maxHeartbeats 4000000
set_option linter.all false
namespace Go.Proofs.YtappgjdiplibbaaGreat.rulesLoad
open Go.ChangeShapes Go.WideShapes Go.ChangeAt Go.RowKit Go.V
def own:ownKnob Tryz.prog.godebug=none:=by kernel_rfl
def laidOut:laidOutB Tryz.prog=true:=by kernel_rfl
def lifted (os:Os) (started:os.Started) (H:Type) (enc:TypeId×Value->H) (hb:Stop.Interp):
  ReturnsInHanded {} Tryz.checked os 3 .any ((Rows.OpenSpec.upto Rows.rulesLoadSpec).pre6 enc Tryz.prog Tryz.f3 Rows.rulesLoadUptoRow.domain false) (((Rows.OpenSpec.upto Rows.rulesLoadSpec).at hb).post enc Tryz.prog Tryz.f3 false true false false):=by
 refine returnsInHanded_of_cond (C:=Tryz.checked) (s:=Rows.OpenSpec.upto Rows.rulesLoadSpec) (k:=Rows.uptoSmall) rfl own started (by kernel_rfl) Tryz.func3
  (OpenSpec.witness (enc:=enc) (C:=Tryz.checked) (s:=Rows.OpenSpec.upto Rows.rulesLoadSpec) (k:=Rows.uptoSmall) rfl false ⟨#[],#[.agg #[.slice none 0 0,.string .empty]],[]⟩ 8 (by kernel_rfl) (by kernel_rfl) (by kernel_rfl)
   (x:=([.agg [.nil,.lit (.string [])]],[],[])) (by kernel_rfl) rfl (by kernel_rfl)) ?_
 intro KB base args ds gs before Vr hW _ A _;have hW':=hW;obtain⟨p,q,hA0,hV,rfl,hfz,Dl⟩:=hW;have hA:DataW.TrodAll enc Tryz.prog KB 0 (λ_=>true) true Tryz.f3.params.toList args.toList ds p:=hA0;rw[Tryz.params3] at hA Vr;obtain⟨v0,vs0,d0,ds0,p0,q0,y7,rfl,rfl,h0,r0⟩:=trodAll_cons hA;obtain⟨rfl,rfl,rfl⟩:=trodAll_nil r0;obtain rfl:args=#[v0]:=by cases args;simp_all
 obtain⟨rfl,rfl⟩:=trodVars_none hV;simp only[Rows.uptoSmall,List.append_nil,List.nil_append,List.singleton_append,List.cons_append,decide_eq_true_eq,Rows.uptoBulkAll] at A;have i0:=NQ h0 (n:=12) (by kernel_rfl) (Vr 0 24 v0 rfl rfl);have k0:=h0;have lt0:∀x∈p0,x.block<KB.heap.size:=by obtain⟨m,hm⟩:=k0;exact DataW.trod_lt m _ _ _ hm
 obtain⟨b0,qM,ok0⟩:=PM (Rd.of h0)
 have aaH:Ev Z.pv 3 [ku d0] ⟨[],0,0⟩ (.bool true) ⟨[],0,0⟩:=by
  rw[qM];exact Z.law b0 (ok0 (by omega))
 have hir:∀(i:Nat) c v,[ku d0][i]?=some c->[v0][i]?=some v->IR KB (λb=>b<KB.heap.size) c v:=by
  intro i c v hc hv
  match i,hc,hv with
  |0,hc,hv=>cases hc;cases hv;exact i0
 clear hA0;refine(IH Z.view aaH (us:=[v0]) rfl hir).mono λe W' ⟨he,bel⟩=>?_;subst he;exact⟨_,rfl,_,_,_,[],_,[],hW',trodAll_mk1 (shut_bool Tryz.underlying4 _),(trodAll_cons_mk (Below.trod laidOut (by kernel_rfl) (of_decide_eq_true (by kernel_rfl)) k0 bel lt0) trodAll_mk0),rfl,bel.frame _,λh=>by cases h⟩
def X_:(Rows.rulesLoadUptoRow.inPlace==Tryz.checked.prog.inPlace 3)=true:=by kernel_rfl
theorem X9:(Rows.rulesLoadUptoRow.unfollowed==Tryz.checked.prog.unfollowed 3)=true:=by kernel_rfl
theorem X8:(Rows.rulesLoadUptoRow.recurses==Tryz.checked.prog.recurses 3)=true:=by kernel_rfl
theorem X7:(Rows.rulesLoadUptoRow.named==Tryz.checked.prog.varsNamed 3)=true:=by kernel_rfl
def f_ {a b:Bool} (h1:a=true) (X:b=true):(a &&b)=true:=by rw[h1,X];rfl
def facts:joinedFacts Tryz.checked.prog 3 Tryz.f3 (Rows.OpenSpec.upto Rows.rulesLoadSpec).bare Rows.rulesLoadUptoRow=true:=by
 unfold joinedFacts;exact f_ (f_ (f_ (f_ (f_ (f_ (f_ (f_ (f_ (f_ (f_ (f_ (f_ (f_ (f_ (f_ (f_ (f_ (f_ (f_ (f_ (f_ (f_ (by kernel_rfl) X_) X9) X8) X7) (by kernel_rfl)) (by kernel_rfl)) (by kernel_rfl)) (by kernel_rfl)) (by kernel_rfl)) (by kernel_rfl)) (by kernel_rfl)) (by kernel_rfl)) (by kernel_rfl)) (by kernel_rfl)) (by kernel_rfl)) (by kernel_rfl)) (by kernel_rfl)) (by kernel_rfl)) (by kernel_rfl)) (by kernel_rfl)) (by kernel_rfl)) (by kernel_rfl)) (by kernel_rfl)
theorem proved:Rows.RulesLoadUptoSaid:=
 OpenClaim.holds_of_cond 3 Tryz.f3 rfl rfl rfl rfl rfl rfl rfl ⟨rfl,rfl,rfl,rfl,rfl⟩ rfl rfl rfl rfl rfl (by kernel_rfl) Tryz.func3 facts
  (of_decide_eq_true (by kernel_rfl)) (by unfold Func.isWrapper;first|(rw[if_pos (by decide+kernel)];kernel_rfl)|(rw[if_neg (by decide+kernel)];exact⟨rfl,rfl⟩))
  (λos started H enc _ hb=>lifted os started H enc hb)
end Go.Proofs.YtappgjdiplibbaaGreat.rulesLoad
#print axioms Go.Proofs.YtappgjdiplibbaaGreat.rulesLoad.proved
