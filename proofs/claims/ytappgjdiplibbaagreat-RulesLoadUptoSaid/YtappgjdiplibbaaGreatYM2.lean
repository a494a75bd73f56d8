/-
 Functions given to V; a logic over V; heaps of one's own; no program in sight, no conditions.
-/
import Derived.Test.YtappgjdiplibbaaGreatYM4
import Derived.Test.YtappgjdiplibbaaGreatYM1
set_option linter.all false
open Option renaming bind_some->γ,map_eq_some_iff->Γ,isSome_some->W4,map_some->WN
open List renaming set_cons_succ->δ,set_cons_zero->ε,getElem?_set_ne->ζ,getElem?_eq_none->η,mem_cons_self->θ,getElem?_set_self->ι,mem_cons_of_mem->κ,getElem?_append_left->μ,drop_drop->π,mem_of_getElem?->ρ,getElem?_cons_succ->τ,drop_take->ψ,take_length->ω,flatten_cons->Δ,length_cons->Ξ,length_append->Ψ,append_assoc->Q2,drop_zero->Q4,map_cons->Q9,take_take->QW,getElem?_map->QK,take_of_length_le->QG,length_set->QH,nil_append->QC,getElem?_of_mem->Qu,replicate->W0,getElem?_take->Wv,mem_map->Wk,length_drop->W',mem_flatten->WM,append_nil->Wg,length_nil->X7,drop_length_add_append->X8,mem_cons->X9,getElem?_eraseIdx->Z9,set_append_right->ZK,mem_of_mem_drop->ZD,mem_of_mem_take->ZC,flatten_append->ZT,map_congr_left->ZE,getElem?_drop->Za,ext_getElem?->Zb,mapIdx_cons->Zf,drop_left'->Y0,length_map->Y1,mem_append->Y3,take_left'->Y9,map_drop->YX,map_take->YZ,take_add->YJ,map_map->YD,map_nil->YS,map_id->Ym,drop->Yr
open Nat renaming ble->ν,add_mul->ξ,lt_or_ge->ο,le_refl->ς,mul_le_mul_right->Θ,one_mul->Ω,le_of_ble_eq_true->Q7,min_eq_left->QQ,lt_of_lt_of_le->QY,mod_eq_of_lt->QV,add_comm->QS,le_trans->QT,not_lt_zero->Qe,zero_add->ZF,beq->Zm,mul_le_mul->YY,add_assoc->Yb,add_zero->Yn
open Go.V.Fr renaming put->υ,ev->Φ,get->JJ
open Go.V.D renaming ref->φ,cells->WA
open Go.V.St renaming push->χ,cp->J4,qH->Jz
open BitVec renaming ofInt_natCast->Q6,toNat_ofNat->QX,ofInt->W5
open Bool renaming false_eq_true->Wz
namespace Go.V
open Go.RowKit
structure dx (P:Program) (pv:Pv) (f:Nat) (p:List D->St->Option (D×St)):Prop where
 fn:∀ds U r,p ds U=some r->∃fn b,P.funcs[f]?=some fn/\fn.body=some b/\fn.name≠ "runtime.NumGoroutine"
 calls:∀ds U d R,p ds U=some (d,R)->∀w β Z (us:List Value),iD w U β Z->ds.length=us.length->(∀(i:Nat) c v,ds[i]?=some c->us[i]?=some v->VR w (U.x β Z) c v)->
  Calls P f us.toArray w λe w'=>∃v β' Z',e=.returned v/\Nx w U β Z w' R β' Z'/\VR w' (R.x β' Z') d v/\(kZ pv f=true->Quiet w w')
 ro:∀ds U d R,p ds U=some (d,R)->kZ pv f=true->sr U R
 len:∀ds U d R,p ds U=some (d,R)->eE U R
variable{pv xz:Pv}
theorem FT (h:∀f,kZ pv f=kZ xz f) (hm:∀s t,rA pv s t=rA xz s t) ops b x y:nj pv ops b x y=nj xz ops b x y:=by
 have he:∀o,iT pv o=iT xz o:=by
  intro o;unfold iT
  split<;>first|rfl|exact hm _ _|skip
  rw[h]
 simp[nj,he]
theorem CI (h:∀f,kZ pv f=kZ xz f) (hm:∀s t,rA pv s t=rA xz s t) ops dy:nL pv ops dy=nL xz ops dy:=by
 unfold nL
 congr 1
 funext j;unfold Oo
 split;·simp[FT h hm]
 rfl
theorem eP {pv xz} (h:∀f,kZ pv f=kZ xz f) (hm:∀s t,rA pv s t=rA xz s t) (dyn:List (Nat×List (Nat×Nat))) n:∀c:Code,codeOk pv dyn n c=codeOk xz dyn n c
 | .region _ ops d=>by simp[codeOk,CI h hm]
 | .seq a b=>by simp[codeOk,eP h hm dyn n a,eP h hm dyn n b]
 | .cond _ a b=>by simp[codeOk,eP h hm dyn n a,eP h hm dyn n b]
 | .block _ c=>by simp[codeOk,eP h hm dyn n c]
 | .loop c=>by simp[codeOk,eP h hm dyn n c]
 | .skip| .rangeFunc ..| .exit _| .scope _| .label _| .goto _| .ret| .refuse _=>by simp[codeOk]
def Pv.over (pv:Pv) (l:List (Nat×(List D->St->Option (D×St)))):Pv:=⟨pv.ty,pv.JB,pv.fs,pv.GP,pv.BH,l⟩
def IP (pv:Pv) (l) f:kZ (pv.over l) f=kZ pv f:=rfl
def yP {f} {p}:∀{l:List (Nat×(List D->St->Option (D×St)))},fT f l=some p->(f,p)∈l
 |(g,q)::l,h=>by
  simp[fT] at h
  split at h;next F=>cases h;rw[Nat.eq_of_beq_eq_true F];exact θ ..
  exact κ _ (yP h)
variable{P:Program}
def oe (h:pv.Ok P/\pv.fu/\gh P pv (dj pv)) (Ef:pv.uO=[]) {l:List (Nat×(List D->St->Option (D×St)))} (hl:∀q∈l,dx P pv q.1 q.2):
  (pv.over l).Ok P/\(pv.over l).fu/\gh P (pv.over l) (dj (pv.over l)):=by
 obtain⟨h1,X,h3⟩:=h;refine⟨⟨h1.ty,h1.fs,h1.BH,h1.mixed⟩,λf x b hx B F=>?_,?_⟩;·rw[eP (IP pv l) (λ_ _=>rfl)];exact X f x b hx B F
 have key:∀f ds U r,dj (pv.over l) f ds U=some r->(∃p,dx P pv f p/\p ds U=some r)\/dj pv f ds U=some r:=by
  intro f ds U r h;unfold dj at h
  split at h;next p B=>exact .inl ⟨p,hl _ (yP B),h⟩
  right;unfold dj;rw[Ef];exact h
 refine⟨λf ds U r h=>?_,λf ds U d R h=>?_,λf ds U d R h=>?_,λf ds U d R h=>?_⟩
 .rcases key f ds U r h with⟨p,B,h⟩|h
  .exact B.fn ds U r h
  exact h3.fn f ds U r h
 .rcases key f ds U _ h with⟨p,B,h⟩|h
  .exact B.calls ds U d R h
  exact h3.calls f ds U d R h
 .rcases key f ds U _ h with⟨p,B,h⟩|h
  .exact B.ro ds U d R h
  exact h3.ro f ds U d R h
 rcases key f ds U _ h with⟨p,B,h⟩|h
 .exact B.len ds U d R h
 exact h3.len f ds U d R h
def iD.nil {w:World} {Z:Nat->Prop} (hZ:∀b,Z b->b<w.heap.size):iD w ⟨[],0,0⟩ (λ_=>none) Z:=
 ⟨λ_ _ _ h=>(by cases h),λ_ _ _ h=>(by cases h),λ_ _ _ _ _ h=>(by cases h),λ_ _ _ h=>(by cases h),hZ,λ_ _ _ _ h=>(by cases h),ς _,ς _⟩
variable{n f:Nat}{d:D}{uk:St}
def mC (h:pv.Ok P/\pv.fu/\gh P pv (dj pv)) {ds:List D} (hs:cA pv n f ds ⟨[],0,0⟩=some (d,uk)) (h0:uk.bs=[]) (hr:refs ds=0) (U:St) w (β:Nat->Option (Nat×Nat)) (Z:Nat->Prop) (us:List Value) (dB:iD w U β Z) (hl:ds.length=us.length) (ha:∀(i:Nat) c v,ds[i]?=some c->us[i]?=some v->VR w (U.x β Z) c v):
  Calls P f us.toArray w λe w'=>∃v β' Z',e=.returned v/\Nx w U β Z w' U β' Z'/\VR w' (U.x β' Z') d v/\Quiet w w':=by
 have hrefs:∀(l:List D),refs l=0->∀c∈l,c.ref<=0:=by
  intro l
  induction l with
  |nil=>intro _ c hc;simp at hc
  |cons x l ih=>
   intro h c hc;simp only[refs] at h
   rcases X9.1 hc with rfl|hc
   .omega
   exact ih (by omega) c hc
 refine((mN h.1 h.2.1 h.2.2 n).calls f ds _ d uk hs w (λ_=>none) Z us (iD.nil dB.zl) hl λi c v hc hv=>?_).mono λe w'=>?_;·exact VR.cut (x:=U.x β Z) (x':=(⟨[],0,0⟩:St).x (λ_=>none) Z) (N:=0) (λk A=>absurd A (Qe _)) (λk A=>absurd A (Qe _)) (λb F=>F) (ha i c v hc hv) (hrefs ds hr c (ρ hc))
 rintro⟨v,β',Z',rfl,hn,hv,_⟩
 have mb:∀k p,β' k=some p->False:=λk p A=>by
  have:=hn.sim.dom k p.1 p.2 A;rw[h0] at this;simp at this
 have hq:Quiet w w':=by
  intro c hc;refine hn.evo.block c hc ?_;rintro⟨k,base,h5,_⟩;cases h5
 have hzz:∀b,Z b->Z' b/\w'.heap[b]?=w.heap[b]?:=λb F=>⟨(hn.keeps.z b F).1,hq b (dB.zl b F)⟩
 have A:eI w (U.x β Z) w' (U.x β Z'):=⟨λk p B=>⟨p,B⟩,hzz,λk c p _ hc=>⟨c,hc,ς _⟩,λk c _ _ b base F=>⟨F,gK (hq b (dB.lt k b base F))⟩⟩
 refine⟨v,β,Z',rfl,⟨⟨dB.dom,λk b base F=>QY (dB.lt k b base F) hn.evo.size,dB.inj,λk b base F hz=>?_,hn.sim.zl,λk b base bx F j_=>(dB.box k b base bx F j_).bW A (hq b (dB.lt k b base F)),dB.flr,dB.ro⟩,A,
  ⟨hn.evo.os,hn.evo.tape,hn.evo.output,hn.evo.size,λb F _=>hq b F⟩,λk b base F=>.inl ⟨base,F⟩,hn.zfresh,ς _,rfl,rfl,λk _=>⟨rfl,rfl⟩,λk _ A=>⟨A,rfl⟩⟩,?_,hq⟩
 .rcases hn.zfresh b hz with hz|hz
  .exact dB.zd k b base F hz
  have:=dB.lt k b base F;omega
 exact VR.cut (x:=uk.x β' Z') (x':=U.x β Z') (N:=0) (λk A=>absurd A (Qe _)) (λk A=>absurd A (Qe _)) (λb F=>F) hv (VR.ref (λk p A=>(mb k p A).elim) hv)
def tR (d:D):List D->St->Option (D×St)
 |[],U=>some (d,U)
 |_::_,_=>none
def Ll (h:pv.Ok P/\pv.fu/\gh P pv (dj pv)) (hs:cA pv n f [] ⟨[],0,0⟩=some (d,uk)) (h0:uk.bs=[]):dx P pv f (tR d):=by
 have hc:=mN h.1 h.2.1 h.2.2 n;refine⟨λds U r _=>hc.fn f [] _ _ hs,λds U d' R B w β Z us dB hl ha=>?_,λds U d' R B _=>?_,λds U d' R B=>?_⟩<;>cases ds<;>simp[tR,reduceCtorEq] at B;·obtain⟨rfl,rfl⟩:=B;refine(mC h hs h0 rfl U w β Z us dB hl ha).mono λe w'=>?_;rintro⟨v,β',Z',h1,X,h3,h4⟩;exact⟨v,β',Z',h1,X,h3,λ_=>h4⟩
 .rw[<-B.2];exact .rfl _
 rw[<-B.2];exact eE.refl _
def pa:List (List D×D)->List D->St->Option (D×St)
 |[],_,_=>none
 |(as,d)::l,ds,U=>match kR as ds with
  |true=>some (d,U)
  |false=>pa l ds U
def lQ:∀{l:List (List D×D)} {ds:List D} {U R:St} {d:D},pa l ds U=some (d,R)->(ds,d)∈l/\R=U
 |(as,e)::l,ds,U,R,d,h=>by
  simp[pa] at h
  split at h;next F=>cases h;rw[jl _ _ F];exact⟨θ ..,rfl⟩
  obtain⟨h1,X⟩:=lQ h;exact⟨κ _ h1,X⟩
def vW (h:pv.Ok P/\pv.fu/\gh P pv (dj pv)) {l} (hl:∀q∈l,refs q.1=0/\∃n uk,cA pv n f q.1 ⟨[],0,0⟩=some (q.2,uk)/\uk.bs=[]):dx P pv f (pa l):=by
 refine⟨λds U r B=>?_,λds U d R B w β Z us dB hle ha=>?_,λds U d R B _=>by rw[(lQ B).2];exact .rfl _,λds U d R B=>?_⟩;·obtain⟨hm,_⟩:=lQ (d:=r.1) (R:=r.2) B;obtain⟨_,n,uk,hs,_⟩:=hl _ hm;exact(mN h.1 h.2.1 h.2.2 n).fn f _ _ _ hs
 .obtain⟨hm,rfl⟩:=lQ B;obtain⟨hr,n,uk,hs,h0⟩:=hl _ hm;refine(mC h hs h0 hr R w β Z us dB hle ha).mono λe w'=>?_;rintro⟨v,β',Z',h1,X,h3,h4⟩;exact⟨v,β',Z',h1,X,h3,λ_=>h4⟩
 rw[(lQ B).2];exact eE.refl _
def D5:List mc->List mc->Bool
 |[],[]=>true
 |a::l,b::m=>xi a b &&D5 l m
 |_,_=>false
def Yh (a b:St):Bool:=Zm a.flr b.flr &&Zm a.ro b.ro &&D5 a.bs b.bs
def cy (d:D) (U:St):Option (D×St)->Bool
 |some (e,R)=>gE e d &&Yh R U
 |none=>false
end Go.V
namespace Go.V
section
variable(P:Pv)
def Ev (f:Nat) (args:List D) (U:St) (d:D) (R:St):Prop:=
 ∃N,∀n,N<=n->cA P n f args U=some (d,R)
abbrev Dy:=List (Nat×List (Nat×Nat))
def ah (dy:Dy) (c:Code) (I:Fr) (U:St) (Tr:Out->Fr->St->Prop):Prop:=
 ∃o aA R,(∃N,∀n,N<=n->bF P (cA P n) dy n c I U=some (o,aA,R))/\Tr o aA R
def u (ops:Array Oper) (l:List Oper) (I:Fr) (U:St) (Tr:Fr->St->Prop):Prop:=
 ∃aA R,(∃N,∀n,N<=n->ju P (cA P n) ops l I U=some (aA,R))/\Tr aA R
def dN (dy:Dy) (b:Code) (Tr:Out->Fr->St->Prop):Out->Fr->St->Prop
 | .next,I,U=>ah P dy b I U Tr
 | .exit i,I,U=>Tr (.exit i) I U
 | .ret,I,U=>Tr .ret I U
def Nq (id:Nat) (Tr:Out->Fr->St->Prop):Out->Fr->St->Prop
 | .next,I,U=>Tr .next I U
 | .exit i,I,U=>if i=id then Tr .next I U else Tr (.exit i) I U
 | .ret,I,U=>Tr .ret I U
def Yk (fr:Nat->Fr->St->Prop) (k:Nat) (Tr:Out->Fr->St->Prop):Out->Fr->St->Prop
 | .next,I,U=>∃j,j<k/\fr j I U
 | .exit i,I,U=>Tr (.exit i) I U
 | .ret,I,U=>Tr .ret I U
def nr (ops:Array Oper) (dy:List (Nat×Nat)) (j:Nat) (log:Log) (l:List Oper) (I:Fr) (U:St) (Tr:Fr->St->Prop):Prop:=
 ∃aA R,(∃N,∀n,N<=n->pP P (cA P n) ops dy j log l I U=some (aA,R))/\Tr aA R
variable{P} {dy:Dy}
variable{c:Code}{Tr:Out->Fr->St->Prop}
def ah.mono {I U} {Q':Out->Fr->St->Prop} (h:ah P dy c I U Tr) (hq:∀o aA R,Tr o aA R->Q' o aA R):ah P dy c I U Q':=by
 obtain⟨o,aA,R,h1,X⟩:=h;exact⟨o,aA,R,h1,hq _ _ _ X⟩
def ah.skip {I U} (h:Tr .next I U):ah P dy .skip I U Tr:=⟨_,_,_,⟨0,λn _=>by simp[bF]⟩,h⟩
def ah.exit {I U i} (h:Tr (.exit i) I U):ah P dy (.exit i) I U Tr:=⟨_,_,_,⟨0,λn _=>by simp[bF]⟩,h⟩
def ah.ret {I U} (h:Tr .ret I U):ah P dy .ret I U Tr:=⟨_,_,_,⟨0,λn _=>by simp[bF]⟩,h⟩
def ah.region {i ops d I U} (h:u P ops ops.toList I.clean U (Tr .next)) (h0:iR i dy=[]:=by rfl):ah P dy (.region i ops d) I U Tr:=by
 obtain⟨aA,R,⟨N,hN⟩,hq⟩:=h;exact⟨_,aA,R,⟨N,λn hn=>by simp[bF,h0,Am,hN n hn]⟩,hq⟩
def ah.N6 {i ops d I U} {p:Nat×Nat} {ps:List (Nat×Nat)} (h0:iR i dy=p::ps) (h:nr P ops (p::ps) 0 [] ops.toList I.clean U (Tr .next)):ah P dy (.region i ops d) I U Tr:=by
 obtain⟨aA,R,⟨N,hN⟩,hq⟩:=h;exact⟨_,aA,R,⟨N,λn hn=>by simp[bF,h0,Am,hN n hn]⟩,hq⟩
def ah.seq {a b I U} (h:ah P dy a I U (dN P dy b Tr)):ah P dy (.seq a b) I U Tr:=by
 obtain⟨o,aA,R,⟨N,hN⟩,hq⟩:=h
 cases o with
 |next=>
  obtain⟨o,SU,st2,⟨zB,hM⟩,hq⟩:=hq;exact⟨o,SU,st2,⟨max N zB,λn hn=>by simp[bF,hN n (by omega),hM n (by omega)]⟩,hq⟩
 |exit i=>exact⟨_,aA,R,⟨N,λn hn=>by simp[bF,hN n hn]⟩,hq⟩
 |ret=>exact⟨_,aA,R,⟨N,λn hn=>by simp[bF,hN n hn]⟩,hq⟩
def ah.cond {c a b I U v} (hv:I.ev c=.bool v) (h1:v=true->ah P dy a I U Tr) (X:v=false->ah P dy b I U Tr):ah P dy (.cond c a b) I U Tr:=by
 cases v with
 |true=>
  obtain⟨o,aA,R,⟨N,hN⟩,hq⟩:=h1 rfl;exact⟨o,aA,R,⟨N,λn hn=>by simp[bF,hv,hN n hn]⟩,hq⟩
 |false=>
  obtain⟨o,aA,R,⟨N,hN⟩,hq⟩:=X rfl;exact⟨o,aA,R,⟨N,λn hn=>by simp[bF,hv,hN n hn]⟩,hq⟩
def ah.block {id c I U} (h:ah P dy c I U (Nq id Tr)):ah P dy (.block id c) I U Tr:=by
 obtain⟨o,aA,R,⟨N,hN⟩,hq⟩:=h
 cases o with
 |next=>exact⟨_,aA,R,⟨N,λn hn=>by simp[bF,hN n hn]⟩,hq⟩
 |exit i=>
  simp[Nq] at hq
  split at hq;next hi=>exact⟨_,aA,R,⟨N,λn hn=>by simp[bF,hN n hn,if_pos hi]⟩,hq⟩
  rename_i hi;exact⟨_,aA,R,⟨N,λn hn=>by simp[bF,hN n hn,if_neg hi]⟩,hq⟩
 |ret=>exact⟨_,aA,R,⟨N,λn hn=>by simp[bF,hN n hn]⟩,hq⟩
def ah.loop {I U} (fr:Nat->Fr->St->Prop) k (h0:fr k I U) (h:∀k I U,fr k I U->ah P dy c I.clean U (Yk fr k Tr)):ah P dy (.loop c) I U Tr:=by
 have key:∀k I U,fr k I U->∃o aA R,(∃N,∀n,N<=n->∀m,N<=m->iter (bF P (cA P n) dy n c) m I U=some (o,aA,R))/\(Tr o aA R):=by
  intro k
  induction k using Nat.strongRecOn with
  |ind k ih=>
   intro I U hi;obtain⟨o,aA,R,⟨N,hN⟩,hq⟩:=h k I U hi
   cases o with
   |next=>
    obtain⟨j,hj,uw⟩:=hq;obtain⟨o,SU,st2,⟨zB,hM⟩,hq⟩:=ih j hj aA R uw;refine⟨o,SU,st2,⟨max N zB+1,λn hn m hm=>?_⟩,hq⟩
    obtain⟨m,rfl⟩:∃m',m=m'+1:=⟨m-1,by omega⟩
    simp[iter,hN n (by omega),hM n (by omega) m (by omega)]
   |exit i=>
    refine⟨_,aA,R,⟨N+1,λn hn m hm=>?_⟩,hq⟩
    obtain⟨m,rfl⟩:∃m',m=m'+1:=⟨m-1,by omega⟩
    simp[iter,hN n (by omega)]
   |ret=>
    refine⟨_,aA,R,⟨N+1,λn hn m hm=>?_⟩,hq⟩
    obtain⟨m,rfl⟩:∃m',m=m'+1:=⟨m-1,by omega⟩
    simp[iter,hN n (by omega)]
 obtain⟨o,aA,R,⟨N,hN⟩,hq⟩:=key k I U h0;exact⟨o,aA,R,⟨N,λn hn=>by simp[bF,hN n hn n hn]⟩,hq⟩
def Ev.of {f x body args U d R} (hq:fT f P.uO=none) (hf:P.fi f=some x) (B:x.jG=none) (F:x.fn.body=some body)
  (h:ah P x.dyn body (pad x.nloc args) (aw x.mode U) λo I st1=>(∀i,o≠.exit i)/\∃ds,jr P I st1 x.fn.results.toList=some ds/\cZ x.mode x.knul U st1 (qP ds)=some (d,R)):Ev P f args U d R:=by
 obtain⟨o,aA,st1,⟨N,hN⟩,ho,ds,hr,hl⟩:=h;refine⟨N+1,λn hn=>?_⟩
 obtain⟨m,rfl⟩:∃m',n=m'+1:=⟨n-1,by omega⟩
 simp[cA,hq,hf,B,F,zu];rw[hN m (by omega)]
 cases o with
 |next=>simp[hr,hl]
 |exit i=>exact absurd rfl (ho i)
 |ret=>simp[hr,hl]
def u.nil {ops I U} {Tr:Fr->St->Prop} (h:Tr I U):u P ops [] I U Tr:=⟨I,U,⟨0,λn _=>rfl⟩,h⟩
def j7:Op->Bool
 | .call ⟨.value _,_,_⟩=>true
 |_=>false
theorem K1 {cf I U} {o:Oper} (h:j7 o.op=false):eT P cf I U o=dY P I U o.op o.type:=by
 unfold eT
 split;next heq=>rw[heq] at h;simp[j7] at h
 rfl
def u.op {ops o rest I U d st1} {Tr:Fr->St->Prop} (hg:au ops I o=some true) (hc:j7 o.op=false) (h1:dY P I U o.op o.type=some (d,st1))
  (h:u P ops rest (I.eS o.dst d) st1 Tr):u P ops (o::rest) I U Tr:=by
 obtain⟨aA,R,⟨N,hN⟩,hq⟩:=h;exact⟨aA,R,⟨N,λn hn=>by simp[ju,hg,K1 hc,h1,hN n hn]⟩,hq⟩
def u.off {ops o rest I U} {Tr:Fr->St->Prop} (hg:au ops I o=some false)
  (h:u P ops rest (I.eS o.dst (.tup [])) U Tr):u P ops (o::rest) I U Tr:=by
 obtain⟨aA,R,⟨N,hN⟩,hq⟩:=h;exact⟨aA,R,⟨N,λn hn=>by simp[ju,hg,hN n hn]⟩,hq⟩
def u.call {ops rest I U d st1 f g fZ args x6 dst type pos} {after guard} {Tr:Fr->St->Prop} (hg:au ops I ⟨dst,.call ⟨.value f,args,x6⟩,type,pos,after,guard⟩=some true) (hf:I.ev f=.fn g fZ)
  (h1:Ev P g (args.toList.map I.ev++fZ) U d st1)
  (h:u P ops rest (I.eS dst d) st1 Tr):u P ops (⟨dst,.call ⟨.value f,args,x6⟩,type,pos,after,guard⟩::rest) I U Tr:=by
 obtain⟨aA,R,⟨N,hN⟩,hq⟩:=h;obtain⟨zB,hM⟩:=h1;exact⟨aA,R,⟨max N zB,λn hn=>by simp[ju,hg,eT,hf,hM n (by omega),hN n (by omega)]⟩,hq⟩
def nr.nil {ops ys j log I U} {Tr:Fr->St->Prop} (h:Tr I U):nr P ops ys j log [] I U Tr:=⟨I,U,⟨0,λn _=>rfl⟩,h⟩
def nr.cons {ops ys j log o rest I U} {Tr:Fr->St->Prop} (h:u P ops [o] I U λaA R=>DW ys j log o I U R=true/\nr P ops ys (j+1) ((o,I,U,R)::log) rest aA R Tr):nr P ops ys j log (o::rest) I U Tr:=by
 obtain⟨SV,st1,⟨N,hN⟩,hc,SU,st2,⟨zB,hM⟩,hq⟩:=h;refine⟨SU,st2,⟨max N zB,λn hn=>?_⟩,hq⟩;have h1:=hN n (by omega);have X:=hM n (by omega);simp[ju] at h1;simp[pP]
 split at h1
 .rename_i hw
  split at h1;next d R hop=>cases h1;simp[hop,hc,X]
  cases h1
 next hw=>cases h1;exact X
 cases h1
def Ev.out {f args U d R} (h:Ev P f args U d R):∃N,∀n,N<=n->cA P n f args U=some (d,R):=h
def Ev.jG {f args U d R p} (hq:fT f P.uO=some p) (h:p args U=some (d,R)):Ev P f args U d R:=
 ⟨1,λn hn=>by
  obtain⟨m,rfl⟩:∃m',n=m'+1:=⟨n-1,by omega⟩
  simp[cA,hq,h]⟩
end
attribute [irreducible] Ev ah u nr
end Go.V
namespace Go.V
variable{P:Pv}{dy:Dy}{i:Nat}{l:List Oper}{Tr:Out->Fr->St->Prop}
def ah.jy {d n loc tmp U} (h:u P l.toArray l ⟨n,loc,[]⟩ U (Tr .next)) (h0:iR i dy=[]:=by rfl):ah P dy (.region i l.toArray d) ⟨n,loc,tmp⟩ U Tr:=ah.region h h0
def ah.Ci {d n loc tmp U} {p:Nat×Nat} {ps:List (Nat×Nat)} (h0:iR i dy=p::ps) (h:nr P l.toArray (p::ps) 0 [] l ⟨n,loc,[]⟩ U (Tr .next)):ah P dy (.region i l.toArray d) ⟨n,loc,tmp⟩ U Tr:=ah.N6 h0 h
def Ev.sU {f x body args U d R n loc} (hq:fT f P.uO=none) (hf:P.fi f=some x) (B:x.jG=none) (F:x.fn.body=some body) (LP:pad x.nloc args=⟨n,loc,[]⟩) (h:ah P x.dyn body ⟨n,loc,[]⟩ (aw x.mode U) λo I st1=>(∀i,o≠.exit i)/\∃ds,jr P I st1 x.fn.results.toList=some ds/\cZ x.mode x.knul U st1 (qP ds)=some (d,R)):Ev P f args U d R:=
 Ev.of hq hf B F (by rw[LP];exact h)
section
variable{P:Pv} {ops:Array Oper} {rest:List Oper} {n:Nat} {loc:List D} {tmp:List (Nat×D)} {U st1:St} {Tr:Fr->St->Prop} {op:Op} {ty:TypeId} {p:String} {a:Array Edge} {g:Option (Nat×Bool)} {t:Nat} {d:D}
def ae (F:ν n t=true) d:υ ⟨n,loc,tmp⟩ t d=⟨n,loc,(t,d)::tmp⟩:=by
 simp[υ,F]
def KI (F:ν n t=false) d:υ ⟨n,loc,tmp⟩ t d=⟨n,loc.set t d,tmp⟩:=by
 simp[υ,F]
theorem u.T (F:ν n t=true) (hg:au ops ⟨n,loc,tmp⟩ ⟨some t,op,ty,p,a,g⟩=some true) (hc:j7 op=false) (h1:dY P ⟨n,loc,tmp⟩ U op ty=some (d,st1))
  (h:u P ops rest ⟨n,loc,(t,d)::tmp⟩ st1 Tr):u P ops (⟨some t,op,ty,p,a,g⟩::rest) ⟨n,loc,tmp⟩ U Tr:=
 u.op hg hc h1 (by show u P ops rest (υ _ t d) st1 Tr;rw[ae F];exact h)
theorem u.L (F:ν n t=false) (hg:au ops ⟨n,loc,tmp⟩ ⟨some t,op,ty,p,a,g⟩=some true) (hc:j7 op=false) (h1:dY P ⟨n,loc,tmp⟩ U op ty=some (d,st1))
  (h:u P ops rest ⟨n,loc.set t d,tmp⟩ st1 Tr):u P ops (⟨some t,op,ty,p,a,g⟩::rest) ⟨n,loc,tmp⟩ U Tr:=
 u.op hg hc h1 (by show u P ops rest (υ _ t d) st1 Tr;rw[KI F];exact h)
theorem u.N {I} (hg:au ops I ⟨none,op,ty,p,a,g⟩=some true) (hc:j7 op=false) (h1:dY P I U op ty=some (d,st1))
  (h:u P ops rest I st1 Tr):u P ops (⟨none,op,ty,p,a,g⟩::rest) I U Tr:=u.op hg hc h1 h
def u.ZI (F:ν n t=true) (hg:au ops ⟨n,loc,tmp⟩ ⟨some t,op,ty,p,a,g⟩=some false)
  (h:u P ops rest ⟨n,loc,(t,.tup [])::tmp⟩ U Tr):u P ops (⟨some t,op,ty,p,a,g⟩::rest) ⟨n,loc,tmp⟩ U Tr:=
 u.off hg (by show u P ops rest (υ _ t _) U Tr;rw[ae F];exact h)
def u.ZJ (F:ν n t=false) (hg:au ops ⟨n,loc,tmp⟩ ⟨some t,op,ty,p,a,g⟩=some false)
  (h:u P ops rest ⟨n,loc.set t (.tup []),tmp⟩ U Tr):u P ops (⟨some t,op,ty,p,a,g⟩::rest) ⟨n,loc,tmp⟩ U Tr:=
 u.off hg (by show u P ops rest (υ _ t _) U Tr;rw[KI F];exact h)
variable{f gn:_}{fZ:List D}{args:Array Operand}
def u.zr {x6:Array TypeId} (F:ν n t=true) (hg:au ops ⟨n,loc,tmp⟩ ⟨some t,.call ⟨.value f,args,x6⟩,ty,p,a,g⟩=some true) (hf:Φ ⟨n,loc,tmp⟩ f=.fn gn fZ) (h1:Ev P gn (args.toList.map (Φ ⟨n,loc,tmp⟩)++fZ) U d st1) (h:u P ops rest ⟨n,loc,(t,d)::tmp⟩ st1 Tr):u P ops (⟨some t,.call ⟨.value f,args,x6⟩,ty,p,a,g⟩::rest) ⟨n,loc,tmp⟩ U Tr:=
 u.call hg hf h1 (by show u P ops rest (υ _ t d) st1 Tr;rw[ae F];exact h)
def u.Yd {x6:Array TypeId} (F:ν n t=false) (hg:au ops ⟨n,loc,tmp⟩ ⟨some t,.call ⟨.value f,args,x6⟩,ty,p,a,g⟩=some true) (hf:Φ ⟨n,loc,tmp⟩ f=.fn gn fZ) (h1:Ev P gn (args.toList.map (Φ ⟨n,loc,tmp⟩)++fZ) U d st1) (h:u P ops rest ⟨n,loc.set t d,tmp⟩ st1 Tr):u P ops (⟨some t,.call ⟨.value f,args,x6⟩,ty,p,a,g⟩::rest) ⟨n,loc,tmp⟩ U Tr:=
 u.call hg hf h1 (by show u P ops rest (υ _ t d) st1 Tr;rw[KI F];exact h)
end
inductive Rows (U:St) (s:Nat):D->List (List D)->Prop where
 |nul:Rows U s .nul []
 |sl (es:List D) (h:∀e∈es,e.cells?=some e.cells/\e.cells.length=s):Rows U s (.sl es) (es.map WA)
 |win (k aj off:Nat) (es:List (List D)) (ar:Bool) (c:List D) (hm:U.cp k aj=some (ar,c)) (hl:off+es.length*s<=c.length)
   (he:∀(i:Nat) e,es[i]?=some e->(c.drop (off+i*s)).take s=e):Rows U s (.win k aj off es.length s) es
variable{U:St}{s:Nat}{x:D}{es:List (List D)}
def Rows.DM (h:Rows U s x es):∀(i:Nat) e,es[i]?=some e->e.length=s:=by
 cases h with
 |nul=>intro i e h;simp at h
 |sl es h=>
  intro i e hi;rw[QK] at hi;obtain⟨d,hd,rfl⟩:=Γ.1 hi;exact(h d (ρ hd)).2
 |win k aj off es ar c hm hl he=>
  intro i e hi
  have hlt:i<es.length:=by
   rcases ο i es.length with h'|h'
   .exact h'
   rw[η h'] at hi;cases hi
  rw[<-he i e hi];have:(i+1)*s<=es.length*s:=Θ s hlt;rw[ξ] at this
  simp;omega
theorem Rows.len (h:Rows U s x es):C4 x=some es.length/\∀b,x≠.str b:=by
 cases h with
 |nul=>exact⟨rfl,λb h=>by cases h⟩
 |sl es h=>exact⟨by simp[C4],λb h=>by cases h⟩
 |win k aj off es ar c hm hl he=>exact⟨rfl,λb h=>by cases h⟩
variable{P:Pv}
def Rows.Qf (h:Rows U s x es) {t e:TypeId} (ht:P.cF t=some (.slice e)):
  bA P .len [t] [x] U=some (.int .i64 (es.length:Nat),U):=by
 obtain⟨h1,X⟩:=h.len;simp only[bA,ht]
 cases x with
 |str b=>exact absurd rfl (X b)
 |_=>simp only[h1];rfl
variable{d:D}
def Ew {e:TypeId} {c c':List D} (hs:bS P e=some s) (hc:c.take s=c') (hl:c'.length=s) (h:da P e c'=some d):da P e c=some d:=by
 have hlen:s<=c.length:=by rw[<-hc] at hl;simp at hl;omega
 unfold da at h|-
 cases hu:P.cF e with
 |none=>rw[hu] at h;cases h
 |some aa=>
  rw[hu] at h
  cases aa with
  |struct f=>
   simp only[hs,γ] at h|-;rw[if_pos (by omega)] at h;rw[if_pos hlen,hc];rw[<-h,QG (by omega)]
  |array n f=>
   simp only[hs,γ] at h|-;rw[if_pos (by omega)] at h;rw[if_pos hlen,hc];rw[<-h,QG (by omega)]
  |_=>
   simp only at h|-;rw[<-h,<-hc]
   cases c with
   |nil=>simp
   |cons x xs=>
    cases s with
    |zero=>simp at hc;subst hc;simp at h
    |succ s=>simp
variable{k:IntKind}{i:Int}{r:List D}
def Rows.idx (h:Rows U s x es) {t e:TypeId} (ht:P.cF t=some (.slice e)) (hs:bS P e=some s) (h0:0<=i) (hi:es[i.toNat]?=some r):
  ∃p,cn P t x (.int k i) U=some p/\∀d,da P e r=some d->gy P e p U=some d:=by
 cases h with
 |nul=>simp at hi
 |sl es h=>
  rw[QK] at hi;obtain⟨d,hd,rfl⟩:=Γ.1 hi;obtain⟨h1,X⟩:=h d (ρ hd);refine⟨.ep d.cells,?_,λd' h=>h⟩;simp[cn,ht,hs,if_pos h0,hd,h1,if_pos X]
 |win k aj off es ar c hm hl he=>
  have hlt:i.toNat<es.length:=by
   rcases ο i.toNat es.length with h'|h'
   .exact h'
   rw[η h'] at hi;cases hi
  refine⟨.ptr k aj (off+i.toNat*s),?_,λd' h=>?_⟩;·simp only[cn,ht,hs,γ,hm,W4];rw[if_pos ⟨trivial,h0,by omega,trivial⟩]
  simp[gy,hm];exact Ew hs (he _ _ hi) (Rows.DM (.win k aj off es ar c hm hl he) _ _ hi) h
variable{ops:Array Oper}{rest:List Oper}{n d1 d2:Nat}{loc:List D}{tmp:List (Nat×D)}{Tr:Fr->St->Prop}{io:Operand}{p1 p2:String}{a1 a2:Array Edge}{g1 g2:Option (Nat×Bool)}
def u.cJ {t e:TypeId} {xo} {UI jT:TypeId} (hb1:ν n d1=true) (hb2:ν n d2=true) (tZ:au ops ⟨n,loc,tmp⟩ ⟨some d1,.indexAddr t xo io,UI,p1,a1,g1⟩=some true) (ba:∀p,au ops ⟨n,loc,(d1,p)::tmp⟩ ⟨some d2,.load e (.tmp d1),jT,p2,a2,g2⟩=some true) (hx:Φ ⟨n,loc,tmp⟩ xo=x) (hi:Φ ⟨n,loc,tmp⟩ io=.int k i) (hR:Rows U s x es) (ht:P.cF t=some (.slice e)) (hs:bS P e=some s) (h0:0<=i) (hr:es[i.toNat]?=some r) (hd:da P e r=some d) (h:∀p,u P ops rest ⟨n,loc,(d2,d)::(d1,p)::tmp⟩ U Tr):u P ops (⟨some d1,.indexAddr t xo io,UI,p1,a1,g1⟩::⟨some d2,.load e (.tmp d1),jT,p2,a2,g2⟩::rest) ⟨n,loc,tmp⟩ U Tr:=by
 obtain⟨p,h1,X⟩:=hR.idx ht hs (k:=k) h0 hr;refine u.T hb1 tZ rfl (d:=p) (st1:=U) (by simp[dY,hx,hi,h1]) ?_;refine u.T hb2 (ba p) rfl (d:=d) (st1:=U) ?_ (h p)
 have:Φ ⟨n,loc,(d1,p)::tmp⟩ (.tmp d1)=p:=by
  simp only[Φ,JJ,hb1,look];have:Zm d1 d1=true:=Nat.beq_refl d1;rw[this]
 simp[dY,this,X d hd]
def u.LI {t e:TypeId} {xo} {UI jT:TypeId} (hb1:ν n d1=false) (hb2:ν n d2=false) (tZ:au ops ⟨n,loc,tmp⟩ ⟨some d1,.indexAddr t xo io,UI,p1,a1,g1⟩=some true) (ba:∀p,au ops ⟨n,loc.set d1 p,tmp⟩ ⟨some d2,.load e (.tmp d1),jT,p2,a2,g2⟩=some true) (wM:d1<loc.length) (hx:Φ ⟨n,loc,tmp⟩ xo=x) (hi:Φ ⟨n,loc,tmp⟩ io=.int k i) (hR:Rows U s x es) (ht:P.cF t=some (.slice e)) (hs:bS P e=some s) (h0:0<=i) (hr:es[i.toNat]?=some r) (hd:da P e r=some d) (h:∀p,u P ops rest ⟨n,(loc.set d1 p).set d2 d,tmp⟩ U Tr):u P ops (⟨some d1,.indexAddr t xo io,UI,p1,a1,g1⟩::⟨some d2,.load e (.tmp d1),jT,p2,a2,g2⟩::rest) ⟨n,loc,tmp⟩ U Tr:=by
 obtain⟨p,h1,X⟩:=hR.idx ht hs (k:=k) h0 hr;refine u.L hb1 tZ rfl (d:=p) (st1:=U) (by simp[dY,hx,hi,h1]) ?_;refine u.L hb2 (ba p) rfl (d:=d) (st1:=U) ?_ (h p)
 have:Φ ⟨n,loc.set d1 p,tmp⟩ (.tmp d1)=p:=by
  simp[Φ,JJ,hb1]
  have key:∀(l:List D) (i:Nat),i<l.length->nth .cT (l.set i p) i=p:=by
   intro l
   induction l with
   |nil=>intro i h;simp at h
   |cons x l ih=>
    intro i h
    cases i with
    |zero=>rfl
    |succ i=>exact ih i (by simpa using h)
  exact key loc d1 wM
 simp[dY,this,X d hd]
def byteCells (b:List UInt8):List (List D):=b.map λy=>[.int .u8 (y.toNat:Nat)]
def Bytes (U:St) (x:D) (b:List UInt8):Prop:=Rows U 1 x (byteCells b)
def dg {m} {kn} {st1:St} {d'} (hm:m≠.bW/\m≠.nw) (h1:st1.bs.take U.bs.length=U.bs) (hd:aB st1 U.bs.length kn 16 d=some d'):cZ m kn U st1 d=some (d',U):=by
 cases m with
 |bW=>exact absurd rfl hm.1
 |nw=>exact absurd rfl hm.2
 |_=>simp[cZ,hd,h1]
end Go.V
namespace Go.V
structure Ex (N:Nat) (U R:St):Prop where
 low:∀k,k<N->R.bs[k]?=U.bs[k]?
 len:U.bs.length<=R.bs.length
 flr:R.flr=U.flr
 ro:R.ro=U.ro
def Ex.refl N U:Ex N U U:=⟨λ_ _=>rfl,ς _,rfl,rfl⟩
def Ex.trans {N} {a b c} (h:Ex N a b) (g:Ex N b c):Ex N a c:=
 ⟨λk A=>(g.low k A).trans (h.low k A),QT h.len g.len,g.flr.trans h.flr,g.ro.trans h.ro⟩
theorem Ex.push {N} {U:St} (h:N<=U.bs.length) b:Ex N U (U.push b):=
 ⟨λk A=>by simp[χ];rw[μ (by omega)],by simp[χ],rfl,rfl⟩
variable{k:Nat}
def Ex.set {N} {U:St} (h:N<=k) b:Ex N U {U with bs:=U.bs.set k b}:=
 ⟨λj hj=>by simp only;rw[ζ (by omega)],by simp,rfl,rfl⟩
variable{R:St}
def Ex.take {N} {U:St} (h:Ex N U R) (hN:N=U.bs.length):R.bs.take N=U.bs:=by
 apply Zb;intro k;rw[Wv]
 split;·exact h.low k (by assumption)
 rw[η (by omega)]
def Ex.mem {N} {U:St} (h:Ex N U R) {v} (A:k<N):R.cp k v=U.cp k v:=by
 simp[J4,h.low k A]
variable{s:Nat}{x:D}{es:List (List D)}
theorem Rows.ex {N} {U} (h:Ex N U R) (hr:Rows U s x es) (hx:x.ref<=N):Rows R s x es:=by
 cases hr with
 |nul=>exact .nul
 |sl es h=>exact .sl es h
 |win k aj off es ar c hm hl he=>exact .win k aj off es ar c (by rw[h.mem (by simp[φ] at hx;omega)];exact hm) hl he
variable{l r:Nat}
def Rows.slice {P:Pv} {U} (h:Rows U s x es) {t e:TypeId} (ht:P.cF t=some (.slice e)) (hs:bS P e=some s) {lo hi} (F:cL es.length lo hi=some (l,r)) (Hm:l<=r/\r<=es.length):
  ∃y,ib P t x lo hi U=some y/\Rows U s y ((es.take r).drop l)/\y.ref<=x.ref:=by
 cases h with
 |nul=>
  refine⟨.nul,?_,?_,ς _⟩;·simp only[ib,ht,hs,γ];simp at F;rw[F];rfl
  simp;exact .nul
 |sl es h=>
  refine⟨.sl ((es.take r).drop l),?_,?_,by simp[φ]⟩
  .simp only[ib,ht,hs,γ]
   have:wL s es=true:=by
    cases es with
    |nil=>rfl
    |cons e es=>obtain⟨h1,X⟩:=h e (θ ..);simp[wL,h1,X]
   rw[if_pos this];simp at F;rw[F];rfl
  have:=Rows.sl (U:=U) (s:=s) ((es.take r).drop l) λe he=>h e (ZC (ZD he))
  simpa[YX,YZ] using this
 |win k aj off es ar c hm hl he=>
  have hlen:((es.take r).drop l).length=r-l:=by simp;omega
  refine⟨.win k aj (off+l*s) (r-l) s,?_,?_,by simp[φ]⟩;·simp only[ib,ht,hs,γ,if_true,F];rfl
  have h1:l*s+(r-l)*s<=es.length*s:=by rw[<-ξ];exact Θ s (by omega)
  have:=Rows.win (U:=U) (s:=s) k aj (off+l*s) ((es.take r).drop l) ar c hm (by rw[hlen];omega) (λi e hi=>by
   rw[Za,Wv] at hi
   split at hi;·have:=he _ _ hi;rw[<-this,ξ];congr 2;omega
   cases hi)
  rwa [hlen] at this
inductive Acc (N:Nat) (U:St) (s:Nat):D->List (List D)->Prop where
 |nul:Acc N U s .nul []
 |win (k aj:Nat) (es:List (List D)) (hN:N<=k) (hm:U.bs[k]?=some (.mem aj true es.flatten)) (he:∀e∈es,e.length=s):Acc N U s (.win k aj 0 es.length s) es
def cQ {s:Nat}:∀{es:List (List D)},(∀e∈es,e.length=s)->es.flatten.length=es.length*s
 |[],_=>by simp
 |e::es,h=>by
  have:=cQ (s:=s) (es:=es) λx hx=>h x (κ _ hx);simp[this,h e (θ ..)];rw[ξ];omega
def mL {s}:∀{es:List (List D)},(∀e∈es,e.length=s)->∀(i:Nat) e,es[i]?=some e->(es.flatten.drop (i*s)).take s=e
 |[],_,i,e,h=>by simp at h
 |x::es,h,0,e,hi=>by
  simp at hi;subst hi;have:=h x (θ ..);simp[Y9 this]
 |x::es,h,i+1,e,hi=>by
  simp at hi;have hx:=h x (θ ..);have:=mL (s:=s) (es:=es) (λy hy=>h y (κ _ hy)) i e hi;rw[<-this,Δ,ξ,Ω,QS,<-hx,<-π,List.drop_left]
variable{c:List D}
theorem St.mem_of {U:St} {aj} {ar} (h:U.bs[k]?=some (.mem aj ar c)):U.cp k aj=some (ar,c):=by
 simp[J4,h]
def Acc.rows {N} {U} (h:Acc N U s x es):Rows U s x es:=by
 cases h with
 |nul=>exact .nul
 |win k aj es hN hm he=>
  exact .win k aj 0 es true es.flatten (St.mem_of hm) (by rw[cQ he];omega) λi e hi=>by rw[ZF];exact mL he i e hi
theorem Acc.push {N} {U:St} (hr:Acc N U s x es) b:Acc N (U.push b) s x es:=by
 cases hr with
 |nul=>exact .nul
 |win k aj es hN hm he=>
  refine .win k aj es hN ?_ he;simp[χ];rw[μ];exact hm
  rcases ο k U.bs.length with h'|h'
  .exact h'
  rw[η h'] at hm;cases hm
def Rows.row {U} (h:Rows U s x es):oT U x=some (es.length,es.flatten):=by
 have hl:=h.DM
 cases h with
 |nul=>rfl
 |sl es h=>
  simp only[oT,Y1];rw[List.flatMap_def]
 |win k aj off es ar c hm iv he=>
  simp only[oT,hm,γ,if_pos iv]
  congr 2
  have key:∀(es:List (List D)) (c:List D),es.length*s<=c.length->(∀(i:Nat) e,es[i]?=some e->(c.drop (i*s)).take s=e)->c.take (es.length*s)=es.flatten:=by
   intro es
   induction es with
   |nil=>intro c _ _;simp
   |cons e es ih=>
    intro c hc hx;have h0:=hx 0 e rfl;simp at h0;rw[Δ,Ξ,ξ,Ω,QS,YJ,h0]
    congr 1
    simp[ξ] at hc;refine ih (c.drop s) (by simp;omega) λi e hi=>?_;rw[π,<-hx (i+1) e (by simpa using hi),ξ,Ω,QS]
  refine key es (c.drop off) (by simp;omega) λi e hi=>?_;rw[π];exact he i e hi
variable{y:D}{ys:List (List D)}{z:List D}
def Acc.append {P:Pv} {N} {U:St} (hr:Acc N U s x es) (hy:Rows U s y ys) {t1 t2 e:TypeId} {td:TypeDesc} {inf:TypeInfo} (h1:P.cF t1=some (.slice e)) (X:P.cF t2=some td) (h3:fp td=false) (h4:P.info e=some inf) (h5:cO P e=some z) (h6:inf.size=s) (h7:z.length=s) (h8:inf.bytes≠0) (hN:N<=U.bs.length) (hf:U.flr<=N) (fx:U.ro<=N) (F:(es.length+ys.length)*inf.bytes<=1099511627776):
  ∃x' R,bA P .append [t1,t2] [x,y] U=some (x',R)/\Acc N R s x' (es++ys)/\Ex N U R/\x'.ref<=R.bs.length/\(∀k,k<U.bs.length->k+1≠x.ref->R.bs[k]?=U.bs[k]?)/\(x'.ref=x.ref\/U.bs.length<x'.ref):=by
 have jI:=hy.row
 have sx:∀e∈ys,e.length=s:=λe he=>by
  obtain⟨i,hi⟩:=Qu he;exact hy.DM i e hi
 have iS:=cQ sx;subst h6;simp only[bA,dK,h1,X,h3,Wz,if_false,h4,h5,jI,γ];rw[if_neg (by rintro(h|h|h);exact h iS;exact h8 h;exact h h7)]
 cases hr with
 |nul=>
  simp only[QC]
  by_cases h0:ys.length=0
  .rw[if_pos h0]
   have:ys=[]:=by cases ys with|nil=>rfl|cons _ _=>simp at h0
   subst this;exact⟨.nul,U,rfl,.nul,Ex.refl _ _,by simp[φ],λ_ _ _=>rfl,.inl rfl⟩
  rw[if_neg h0,if_pos (by simpa using F)];refine⟨_,_,rfl,?_,Ex.push hN _,by simp[φ,χ],λk A _=>by simp[χ];rw[μ A],.inr (by simp[φ])⟩;exact .win _ _ ys hN (by simp[χ]) sx
 |win k aj es A hm he=>
  have lT:k<U.bs.length:=by
   rcases ο k U.bs.length with h'|h'
   .exact h'
   rw[η h'] at hm;cases hm
  simp only[St.mem_of hm];rw[if_neg (by rintro(h|h);exact h rfl;rw[cQ he] at h;omega)]
  by_cases h0:ys.length=0
  .rw[if_pos h0]
   have:ys=[]:=by cases ys with|nil=>rfl|cons _ _=>simp at h0
   subst this;simp only[Wg];exact⟨_,U,rfl,.win k aj es A hm he,Ex.refl _ _,by simp[φ];omega,λ_ _ _=>rfl,.inl rfl⟩
  rw[if_neg h0,if_pos ⟨F,by simp[Jz];exact⟨by omega,.inl (by omega)⟩⟩];refine⟨_,_,rfl,?_,Ex.set A _,by simp[φ];omega,λj hj hne=>by simp only;rw[ζ (by simp only[φ] at hne;omega)],.inl rfl⟩
  have:(es.flatten.take (0+es.length*inf.size)).drop 0++ys.flatten=(es++ys).flatten:=by
   rw[ZF,<-cQ he,ω,Q4,ZT]
  rw[this];have pg:es.length+ys.length=(es++ys).length:=by simp
  rw[pg]
  exact .win k (aj+1) (es++ys) A (by simp[lT]) λe h=>by
   rcases Y3.1 h with h|h
   .exact he e h
   exact sx e h
def cv:D->Bool
 | .bool _| .int _ _| .str _| .sl _=>true
 |_=>false
def jZ {U} {N n:Nat}:∀{l:List D},(∀d∈l,cv d=true)->cE (b_ U N (n+1)) l=some l
 |[],_=>rfl
 |d::l,h=>by
  have h1:=h d (θ ..);have X:=jZ (U:=U) (N:=N) (n:=n) λx hx=>h x (κ _ hx);have h3:b_ U N (n+1) d=some d:=by cases d<;>simp[cv] at h1<;>rfl
  simp[cE,h3,X]
def jK (s:Nat) (e:List D):D:=match s with|1=>e.headD .cT|_=>.agg e
theorem fY {s}:∀{es:List (List D)},(∀e∈es,e.length=s)->chunk s es.length es.flatten=es.map (jK s)
 |[],_=>rfl
 |e::es,h=>by
  have he:=h e (θ ..);have ih:=fY (s:=s) (es:=es) λx hx=>h x (κ _ hx);simp only[Ξ,chunk,Δ,Q9]
  congr 1
  .by_cases hs:s=1
   .subst hs
    cases e with
    |nil=>simp at he
    |cons x xs=>simp[jK]
   have h1:jK s e=.agg e:=by unfold jK;split;exact absurd rfl hs;rfl
   have X:(match s with|1=>(e++es.flatten).headD .cT|_=>D.agg ((e++es.flatten).take s))=.agg e:=by
    split;·exact absurd rfl hs
    rw[Y9 he]
   rw[h1];exact X
  rw[Y0 he];exact ih
def Acc.freeze {N} {U} (h:Acc N U s x es) (B:∀e∈es,∀d∈e,cv d=true) {n:Nat} (hn:2<=n):aB U N false (n+1) x=some (.sl (es.map (jK s))):=by
 obtain⟨n,rfl⟩:∃m,n=m+2:=⟨n-2,by omega⟩
 cases h with
 |nul=>rfl
 |win k aj es hN hm he=>
  show(if k<N then some (D.win k aj 0 es.length s) else b_ U N (n+2) (.win k aj 0 es.length s))=_;rw[if_neg (show¬k<N by omega),b_];simp only[if_neg (show¬k<N by omega),St.mem_of hm,γ];rw[if_pos (by rw[cQ he];omega)];have:(es.flatten.drop 0).take (es.length*s)=es.flatten:=by rw[Q4,<-cQ he,ω]
  rw[this,jZ (λd hd=>by
   obtain⟨e,t_,sG⟩:=WM.1 hd
   exact B e t_ d sG)]
  simp[fY he]
def oP {e:List D} (h:e.length=s) (B:∀d∈e,cv d=true):(jK s e).cells?=some (jK s e).cells/\(jK s e).cells=e:=by
 by_cases hs:s=1
 .subst hs
  match e,h with
  |[x],_=>
   have:=B x (θ ..);cases x<;>simp[cv] at this<;>exact⟨rfl,rfl⟩
 have:jK s e=.agg e:=by unfold jK;split;exact absurd rfl hs;rfl
 rw[this];exact⟨rfl,rfl⟩
def Rows.nM {U} (h:∀e∈es,e.length=s) (B:∀e∈es,∀d∈e,cv d=true):Rows U s (.sl (es.map (jK s))) es:=by
 have:=Rows.sl (U:=U) (s:=s) (es.map (jK s)) λd hd=>by
  obtain⟨e,he,rfl⟩:=Wk.1 hd;obtain⟨h1,X⟩:=oP (h e he) (B e he);exact⟨h1,by rw[X];exact h e he⟩
 have X:(es.map (jK s)).map WA=es:=by
  rw[YD]
  conv=>rhs;rw[<-Ym es]
  refine ZE λe he=>?_;exact(oP (h e he) (B e he)).2
 rwa [X] at this
def Rows.bs {U:St} (h:R.bs=U.bs) (hr:Rows U s x es):Rows R s x es:=by
 cases hr with
 |nul=>exact .nul
 |sl es h=>exact .sl es h
 |win k aj off es ar c hm hl he=>exact .win k aj off es ar c (by simp only[J4,h] at hm|-;exact hm) hl he
def ME m (U:St):(aw m U).bs=U.bs:=by cases m<;>rfl
def Rows.enter {U} m (hr:Rows U s x es):Rows (aw m U) s x es:=hr.bs (ME m U)
def b7 {k} {m:Nat} (h:m<=iQ k):aR k (m:Int)=m:=by
 show aR k (.ofNat m)=_;unfold aR;simp only[Nat.ble_eq_true_of_le h];rfl
theorem wrap_i64 {n} (h1 : -9223372036854775808 <= n) (X : n <= 9223372036854775807) : aR .i64 n = n := by
  cases n with
  | ofNat m => exact b7 (k := .i64) (m := m) (by simp [iQ]; have : (Int.ofNat m) = (m : Int) := rfl; omega)
  | negSucc m =>
    unfold aR
    have : ν (AG .i64) m = false := by
      cases F : ν (AG .i64) m with
      | false => rfl
      | true => have := Q7 F; simp [AG] at this; have : Int.negSucc m = -(m : Int) - 1 := by omega
                omega
    simp [this]
variable{w:Nat}
def bv_and {a b:Nat} (ha:a<2^w) (F:b<2^w):(W5 w (a:Int) &&&W5 w (b:Int)).toNat=a &&&b:=by
 rw[Q6,Q6,BitVec.toNat_and,QX,QX,QV ha,QV F]
def QN {a b:Nat} (ha:a<2^w) (F:b<2^w):(W5 w (a:Int)|||W5 w (b:Int)).toNat=a|||b:=by
 rw[Q6,Q6,BitVec.toNat_or,QX,QX,QV ha,QV F]
variable{b:Int}
theorem eR {a:Int} (h:a=b):(a==b)=true:=by simp[h]
theorem gV {a:Int} (h:a≠b):(a==b)=false:=by simp[h]
theorem eQ {a:Int} (h:a≠b):(a !=b)=true:=by simp[h]
theorem gU {a:Int} (h:a=b):(a !=b)=false:=by simp[h]
variable{P:Pv} {ops:Array Oper} {rest:List Oper} {n:Nat} {loc:List D} {tmp:List (Nat×D)} {U:St} {Tr:Fr->St->Prop} {ty:TypeId} {p:String} {a:Array Edge} {g:Option (Nat×Bool)} {dst:Nat}
theorem u.len {t e:TypeId} {xo:Operand} (qM:ν n dst=true) (hg:au ops ⟨n,loc,tmp⟩ ⟨some dst,.call ⟨.builtin .len,#[xo],#[t]⟩,ty,p,a,g⟩=some true) (hx:Φ ⟨n,loc,tmp⟩ xo=x) (hR:Rows U s x es) (ht:P.cF t=some (.slice e)) (h:u P ops rest ⟨n,loc,(dst,(.int .i64 (es.length:Nat)))::tmp⟩ U Tr):u P ops (⟨some dst,.call ⟨.builtin .len,#[xo],#[t]⟩,ty,p,a,g⟩::rest) ⟨n,loc,tmp⟩ U Tr:=by
 refine u.T qM hg rfl (d:=.int .i64 (es.length:Nat)) (st1:=U) ?_ h;simp[dY,hx];exact hR.Qf ht
def u.slice {t e:TypeId} {xo} {lo hi:Option Operand} (qM:ν n dst=true) (hg:au ops ⟨n,loc,tmp⟩ ⟨some dst,.slice t xo lo hi none,ty,p,a,g⟩=some true) (hx:Φ ⟨n,loc,tmp⟩ xo=x) (hR:Rows U s x es) (ht:P.cF t=some (.slice e)) (hs:bS P e=some s) (F:cL es.length (lo.map (Φ ⟨n,loc,tmp⟩)) (hi.map (Φ ⟨n,loc,tmp⟩))=some (l,r)) (Hm:l<=r/\r<=es.length) (h:∀y,Rows U s y ((es.take r).drop l)->y.ref<=x.ref->u P ops rest ⟨n,loc,(dst,y)::tmp⟩ U Tr):u P ops (⟨some dst,.slice t xo lo hi none,ty,p,a,g⟩::rest) ⟨n,loc,tmp⟩ U Tr:=by
 obtain⟨y,h1,X,h3⟩:=hR.slice ht hs F Hm;refine u.T qM hg rfl (d:=y) (st1:=U) ?_ (h y X h3);simp[dY,hx,h1]
def u.append {N} {t1 t2 e:TypeId} {td:TypeDesc} {inf:TypeInfo} {xo yo:Operand} (qM:ν n dst=true) (hg:au ops ⟨n,loc,tmp⟩ ⟨some dst,.call ⟨.builtin .append,#[xo,yo],#[t1,t2]⟩,ty,p,a,g⟩=some true) (hx:Φ ⟨n,loc,tmp⟩ xo=x) (hy:Φ ⟨n,loc,tmp⟩ yo=y) (hr:Acc N U s x es) (j8:Rows U s y ys) (h1:P.cF t1=some (.slice e)) (X:P.cF t2=some td) (h3:fp td=false) (h4:P.info e=some inf) (h5:cO P e=some z) (h6:inf.size=s) (h7:z.length=s) (h8:inf.bytes≠0) (hN:N<=U.bs.length) (hf:U.flr<=N) (fx:U.ro<=N) (F:(es.length+ys.length)*inf.bytes<=1099511627776) (h:∀x' R,Acc N R s x' (es++ys)->Ex N U R->x'.ref<=R.bs.length->(∀k,k<U.bs.length->k+1≠x.ref->R.bs[k]?=U.bs[k]?)->(x'.ref=x.ref\/U.bs.length<x'.ref)->u P ops rest ⟨n,loc,(dst,x')::tmp⟩ R Tr):
  u P ops (⟨some dst,.call ⟨.builtin .append,#[xo,yo],#[t1,t2]⟩,ty,p,a,g⟩::rest) ⟨n,loc,tmp⟩ U Tr:=by
 obtain⟨x',R,q1,q2,q3,q4,q5,q6⟩:=hr.append j8 h1 X h3 h4 h5 h6 h7 h8 hN hf fx F;refine u.T qM hg rfl (d:=x') (st1:=R) ?_ (h x' R q2 q3 q4 q5 q6);simp[dY,hx,hy];exact q1
theorem Rows.one {U:St} (hc:c.length=s):Rows (U.push (.mem 0 true c)) s (.win U.bs.length 0 0 1 s) [c]:=by
 have:=Rows.win (U:=U.push (.mem 0 true c)) (s:=s) U.bs.length 0 0 [c] true c (St.mem_of (by simp[χ])) (by simp[hc]) λi e hi=>by
  cases i with
  |zero=>simp at hi;subst hi;simp[<-hc]
  |succ i=>simp at hi
 exact this
theorem Rows.ref {U:St} (h:Rows U s x es):x.ref<=U.bs.length:=by
 cases h with
 |nul=>simp[φ]
 |sl es h=>simp[φ]
 |win k aj off es ar c hm hl he=>
  simp[φ]
  rcases ο k U.bs.length with h'|h'
  .exact h'
  simp only[J4,η h'] at hm;cases hm
theorem Acc.ref {N} {U:St} (h:Acc N U s x es):x.ref<=U.bs.length:=h.rows.ref
end Go.V
namespace Go.V
def iO:∀(xs c:List D) (off:Nat),off+xs.length<=c.length->setMany c off xs=c.take off++xs++c.drop (off+xs.length)
 |[],c,off,h=>by simp[setMany]
 |x::xs,c,off,h=>by
  simp only[setMany];simp at h;rw[iO xs (c.set off x) (off+1) (by simp;omega)]
  have h1:(c.set off x).take (off+1)=c.take off++[x]:=by
   rw[List.take_set,List.take_add_one,List.getElem?_eq_getElem (by omega:off<c.length)];simp only[Option.toList_some];rw[ZK _ _ (by simp;omega)];have:off-(c.take off).length=0:=by simp;omega
   rw[this];rfl
  have X:(c.set off x).drop (off+1+xs.length)=c.drop (off+(xs.length+1)):=by
   rw[List.drop_set_of_lt (by omega)];congr 1;omega
  rw[h1,X];simp[Ξ]
variable{k:Nat}
def Cw {U:St} {b b'} (A:k=U.bs.length):(⟨(U.push b).bs.set k b',(U.push b).flr,(U.push b).ro⟩:St)=U.push b':=by
 subst A;simp[χ,ZK]
def kI (U:St) b:(U.push b).bs[U.bs.length]?=some b:=by simp[χ]
variable{P:Pv} {ops:Array Oper} {rest:List Oper} {n:Nat} {loc:List D} {tmp:List (Nat×D)} {U:St} {Tr:Fr->St->Prop} {ty:TypeId} {p:String} {a:Array Edge} {g:Option (Nat×Bool)} {dst:Nat}
def u.makeSlice {t e:TypeId} {lo co} {k1 k2} {m} {inf:TypeInfo} {z:List D} (qM:ν n dst=true) (hg:au ops ⟨n,loc,tmp⟩ ⟨some dst,.makeSlice t lo co,ty,p,a,g⟩=some true)
  (hl:Φ ⟨n,loc,tmp⟩ lo=.int k1 (m:Nat)) (hc:Φ ⟨n,loc,tmp⟩ co=.int k2 (m:Nat)) (ht:P.cF t=some (.slice e)) (hi:P.info e=some inf) (hz:cO P e=some z) (jP:z.length=inf.size) (hm:m*inf.bytes<=140737488355328) (Fy:m<=9223372036854775807)
  (h:u P ops rest ⟨n,loc,(dst,.win U.bs.length 0 0 m inf.size)::tmp⟩ (U.push (.mem 0 true (gu m z))) Tr):u P ops (⟨some dst,.makeSlice t lo co,ty,p,a,g⟩::rest) ⟨n,loc,tmp⟩ U Tr:=by
 refine u.T qM hg rfl (d:=.win U.bs.length 0 0 m inf.size) (st1:=U.push (.mem 0 true (gu m z))) ?_ h;simp only[dY,hl,hc,gO,ht,hi,hz,γ];rw[if_pos ⟨jP,by omega,by omega,by omega,by rw[<-Int.natCast_mul];omega⟩]
 rfl
variable{aj:Nat}{ar:Bool}{c:List D}
def nx {off} {cs:List D} (hm:U.bs[k]?=some (.mem aj ar c)) (hl:off+cs.length<=c.length) (hw:U.qH k (refs cs)=true):U.wr k aj off cs=some {U with bs:=U.bs.set k (.mem aj ar (c.take off++cs++c.drop (off+cs.length)))}:=by
 simp only[St.wr,St.mem_of hm];rw[if_pos ⟨hl,hw⟩,iO _ _ _ hl]
def D1 {N r:Nat} (A:N<=k) (hf:U.flr<=N) (fx:U.ro<=N):U.qH k r=true:=by
 simp[Jz];exact⟨by omega,.inl (by omega)⟩
def mem_push (U:St) v a c:(U.push (.mem v a c)).cp U.bs.length v=some (a,c):=St.mem_of (kI U _)
variable{ao:Operand}
def u.store {I:Fr} {t:TypeId} {vo} {off} {v:D} {cs:List D} (hg:au ops I ⟨none,.store t ao vo,ty,p,a,g⟩=some true) (ha:I.ev ao=.ptr k aj off) (hv:I.ev vo=v) (hcs:v.cells?=some cs) (hs:bS P t=some cs.length) (hm:U.bs[k]?=some (.mem aj ar c)) (hl:off+cs.length<=c.length) (hw:U.qH k (refs cs)=true) (h:u P ops rest I {U with bs:=U.bs.set k (.mem aj ar (c.take off++cs++c.drop (off+cs.length)))} Tr):u P ops (⟨none,.store t ao vo,ty,p,a,g⟩::rest) I U Tr:=by
 refine u.N hg rfl (d:=.tup []) (st1:=_) ?_ h;simp only[dY,ha,hv,nC,hcs,hs];rw[if_pos trivial,nx hm hl hw];rfl
theorem u.load {t:TypeId} {off} {d} (qM:ν n dst=true) (hg:au ops ⟨n,loc,tmp⟩ ⟨some dst,.load t ao,ty,p,a,g⟩=some true) (ha:Φ ⟨n,loc,tmp⟩ ao=.ptr k aj off) (hm:U.bs[k]?=some (.mem aj ar c)) (hd:da P t (c.drop off)=some d) (h:u P ops rest ⟨n,loc,(dst,d)::tmp⟩ U Tr):u P ops (⟨some dst,.load t ao,ty,p,a,g⟩::rest) ⟨n,loc,tmp⟩ U Tr:=by
 refine u.T qM hg rfl (d:=d) (st1:=U) ?_ h;simp[dY,ha,gy,St.mem_of hm,hd]
def u.Yi {t jT:TypeId} {xo yo} {x y:List UInt8} (qM:ν n dst=true) (hg:au ops ⟨n,loc,tmp⟩ ⟨some dst,.binOp .add t xo yo jT,ty,p,a,g⟩=some true) (hx:Φ ⟨n,loc,tmp⟩ xo=.str x) (hy:Φ ⟨n,loc,tmp⟩ yo=.str y) (hl:x.length+y.length<=9223372036854775807)
  (h:u P ops rest ⟨n,loc,(dst,.str (x++y))::tmp⟩ U Tr):u P ops (⟨some dst,.binOp .add t xo yo jT,ty,p,a,g⟩::rest) ⟨n,loc,tmp⟩ U Tr:=by
 refine u.T qM hg rfl (d:=.str (x++y)) (st1:=U) ?_ h;simp[dY,hx,hy,iC,J',if_pos hl]
end Go.V
namespace Go.V
variable{P:Pv} {ops:Array Oper} {rest:List Oper} {n:Nat} {loc:List D} {tmp:List (Nat×D)} {U:St} {Tr:Fr->St->Prop} {ty:TypeId} {p:String} {a:Array Edge} {g:Option (Nat×Bool)} {dst:Nat}
end Go.V
namespace Go.V
structure aX where
 K:Nat->Prop
 P:St->Prop
 loc:∀{U R:St},(∀k,K k->R.bs[k]?=U.bs[k]?)->P U->P R
def aX.box (k:Nat) (b:mc):aX:=⟨λj=>j=k,λU=>U.bs[k]?=some b,λh p=>(h k rfl).trans p⟩
inductive iX (U:St) (s:Nat):D->List (List D)->Prop where
 |nul:iX U s .nul []
 |win (k aj off:Nat) (es:List (List D)) (c:List D) (hm:U.bs[k]?=some (.mem aj true c)) (hl:off+es.length*s<=c.length) (hc:(c.drop off).take (es.length*s)=es.flatten) (he:∀e∈es,e.length=s):iX U s (.win k aj off es.length s) es
variable{R:St}{s:Nat}{x:D}{es:List (List D)}
def iX.move {U:St} (h:∀k,x.ref=k+1->R.bs[k]?=U.bs[k]?) (p:iX U s x es):iX R s x es:=by
 cases p with
 |nul=>exact .nul
 |win k aj off es c hm hl hc he=>exact .win k aj off es c ((h k (by simp[φ])).trans hm) hl hc he
def aX.ai (x:D) (s:Nat) (es:List (List D)):aX:=⟨λj=>x.ref=j+1,λU=>iX U s x es,λh p=>iX.move h p⟩
def iX.rows {U} (p:iX U s x es):Rows U s x es:=by
 cases p with
 |nul=>exact .nul
 |win k aj off es c hm hl hc he=>
  refine .win k aj off es true c (St.mem_of hm) hl λi e hi=>?_
  have hil:i<es.length:=by
   rcases ο i es.length with h'|h'
   .exact h'
   rw[η h'] at hi;cases hi
  have h1:=mL he i e hi;rw[<-hc,ψ,QW,π] at h1;have X:(i+1)*s<=es.length*s:=Θ s hil;rw[ξ,Ω] at X
  rwa [QQ (by omega)] at h1
structure Has (N:Nat) (S U:St) (H:List aX):Prop where
 ex:Ex N S U
 hN:N<=S.bs.length
 fx:S.ro<=N
 ok:∀(i:Nat) e,H[i]?=some e->e.P U/\∀k,e.K k->N<=k/\k<U.bs.length
 dis:∀(i j:Nat) a b,i≠j->H[i]?=some a->H[j]?=some b->∀k,a.K k->b.K k->False
def Has.start {N} {S:St} (hN:N<=S.bs.length) (fx:S.ro<=N):Has N S S []:=
 ⟨Ex.refl _ _,hN,fx,λi e h=>by simp at h,λi j a b _ h=>by simp at h⟩
theorem Has.len {N} {S U:St} {H} (h:Has N S U H):S.bs.length<=U.bs.length:=h.ex.len
variable{j:Nat}{e':aX}
def Has.pt {N} {S U:St} {H:List aX} {e:aX} (h:Has N S U H) (hj:H[j]?=some e) (A4:∀k,k<U.bs.length->¬e.K k->R.bs[k]?=U.bs[k]?) (hlen:U.bs.length<=R.bs.length) (hf:R.flr=U.flr) (hr:R.ro=U.ro) (hP:e'.P R) (hK:∀k,e'.K k->e.K k\/U.bs.length<=k) (ZY:∀k,e'.K k->k<R.bs.length):Has N S R (H.set j e'):=by
 have hjl:j<H.length:=by
  rcases ο j H.length with h'|h'
  .exact h'
  rw[η h'] at hj;cases hj
 have hl:=h.ex.len;have hN:=h.hN;refine⟨⟨λk A=>?_,QT hl hlen,hf.trans h.ex.flr,hr.trans h.ex.ro⟩,h.hN,h.fx,λi e0 hi=>?_,λi i' a b hii ha F k nR iE=>?_⟩;·rw[A4 k (by omega) λlx=>by have:=((h.ok j e hj).2 k lx).1;omega];exact h.ex.low k A
 .by_cases hij:i=j
  .subst hij;rw[ι hjl] at hi;cases hi;refine⟨hP,λk A=>⟨?_,ZY k A⟩⟩
   rcases hK k A with h1|h1
   .exact((h.ok i e hj).2 k h1).1
   omega
  rw[ζ (λe=>hij e.symm)] at hi;obtain⟨h1,X⟩:=h.ok i e0 hi;refine⟨e0.loc (λk A=>A4 k (X k A).2 λlx=>h.dis i j e0 e hij hi hj k A lx) h1,λk A=>⟨(X k A).1,QY (X k A).2 hlen⟩⟩
 have key:∀i a,i≠j->(H.set j e')[i]?=some a->a.K k->e'.K k->False:=by
  intro i a hij ha nR Wc;rw[ζ (λe=>hij e.symm)] at ha
  rcases hK k Wc with h1|h1
  .exact h.dis i j a e hij ha hj k nR h1
  have:=((h.ok i a ha).2 k nR).2;omega
 by_cases hij:i=j;·subst hij;have gB:=F;rw[ι hjl] at ha;cases ha;exact key i' b (λe=>hii e.symm) F iE nR
 by_cases Wr:i'=j;·subst Wr;rw[ι hjl] at F;cases F;exact key i a hij ha nR iE
 rw[ζ (λe=>hij e.symm)] at ha;rw[ζ (λe=>Wr e.symm)] at F;exact h.dis i i' a b hii ha F k nR iE
theorem Has.add {N} {S U:St} {H} (h:Has N S U H) (A4:∀k,k<U.bs.length->R.bs[k]?=U.bs[k]?) (hlen:U.bs.length<=R.bs.length) (hf:R.flr=U.flr) (hr:R.ro=U.ro) (hP:e'.P R) (hK:∀k,e'.K k->U.bs.length<=k/\k<R.bs.length):Has N S R (e'::H):=by
 have hl:=h.ex.len;have hN:=h.hN;refine⟨⟨λk A=>?_,QT hl hlen,hf.trans h.ex.flr,hr.trans h.ex.ro⟩,h.hN,h.fx,λi e0 hi=>?_,λi i' a b hii ha F k nR iE=>?_⟩;·rw[A4 k (by omega)];exact h.ex.low k A
 .cases i with
  |zero=>
   simp at hi;subst hi;exact⟨hP,λk A=>⟨by have:=(hK k A).1;omega,(hK k A).2⟩⟩
  |succ i=>
   rw[τ] at hi;obtain⟨h1,X⟩:=h.ok i e0 hi;exact⟨e0.loc (λk A=>A4 k (X k A).2) h1,λk A=>⟨(X k A).1,QY (X k A).2 hlen⟩⟩
 cases i with
 |zero=>
  simp at ha;subst ha
  cases i' with
  |zero=>exact hii rfl
  |succ i'=>
   rw[τ] at F;have:=((h.ok i' b F).2 k iE).2;have:=(hK k nR).1;omega
 |succ i=>
  rw[τ] at ha
  cases i' with
  |zero=>
   simp at F;subst F;have:=((h.ok i a ha).2 k nR).2;have:=(hK k iE).1;omega
  |succ i'=>
   rw[τ] at F;exact h.dis i i' a b (λe=>hii (by rw[e])) ha F k nR iE
def Has.sub {N} {S U} {H H'} (h:Has N S U H) (f:Nat->Nat) (hf:∀i j,f i=f j->i=j) (hs:∀i e,H'[i]?=some e->H[f i]?=some e):Has N S U H':=
 ⟨h.ex,h.hN,h.fx,λi e hi=>h.ok _ e (hs i e hi),λi j a b hij ha F=>h.dis (f i) (f j) a b (λe=>hij (hf i j e)) (hs i a ha) (hs j b F)⟩
def Has.erase {N} {S U} {H:List aX} (h:Has N S U H) j:Has N S U (H.eraseIdx j):=by
 refine h.sub (λi=>if i<j then i else i+1) (λa b e=>?_) λi e hi=>?_
 .show a=b;have e':(if a<j then a else a+1)=(if b<j then b else b+1):=e
  split at e'<;>split at e'<;>omega
 show H[if i<j then i else i+1]?=some e;rw[Z9] at hi
 split at hi<;>rename_i h'<;>simp[h',hi]
def Has.take {N} {S U} {H:List aX} (h:Has N S U H) n:Has N S U (H.take n):=by
 refine h.sub id (λa b e=>e) λi e hi=>?_;rw[Wv] at hi;split at hi;exact hi;cases hi
def Has.drop {N} {S U} {H:List aX} (h:Has N S U H) n:Has N S U (H.drop n):=by
 refine h.sub (λi=>n+i) (λa b e=>by omega) λi e hi=>?_;rw[Za] at hi;exact hi
def Has.front {N} {S U} {H:List aX} (h:Has N S U H) {e} (hj:H[j]?=some e):Has N S U (e::H.eraseIdx j):=by
 refine h.sub (λi=>if i=0 then j else if i-1<j then i-1 else i) (λa b e=>?_) λi e' hi=>?_
 .have e':(if a=0 then j else if a-1<j then a-1 else a)=(if b=0 then j else if b-1<j then b-1 else b):=e
  repeat' split at e'
  all_goals omega
 show H[if i=0 then j else if i-1<j then i-1 else i]?=some e'
 cases i with
 |zero=>rw[if_pos rfl];simp at hi;subst hi;exact hj
 |succ i=>
  rw[if_neg (by omega),Nat.add_sub_cancel];rw[τ,Z9] at hi
  split at hi<;>rename_i h'<;>simp[h',hi]
def Has.cY {N} {S U} {H} (h:Has N S U H) s:Has N S U (.ai .nul s []::H):=
 h.add (λ_ _=>rfl) (ς _) rfl rfl .nul λk A=>by simp only[aX.ai,φ] at A;omega
def Has.own {N} {S U} {H} (h:Has N S U H) (hj:H[j]?=some (.ai x s es)):iX U s x es:=(h.ok j _ hj).1
def Has.rows {N} {S U} {H} (h:Has N S U H) (hj:H[j]?=some (.ai x s es)):Rows U s x es:=(h.own hj).rows
variable{k:Nat}
theorem Has.at {N} {S U:St} {H} (h:Has N S U H) {b} (hj:H[j]?=some (.box k b)):U.bs[k]?=some b:=(h.ok j _ hj).1
def Has.ge {N} {S U:St} {H} (h:Has N S U H) {b} (hj:H[j]?=some (.box k b)):N<=k/\k<U.bs.length:=(h.ok j _ hj).2 k rfl
def Arg (N:Nat) (S:St) (s:Nat) (x:D) (es:List (List D)):Prop:=Rows S s x es/\x.ref<=N
def Arg.rows {N} {S U} {H} (hx:Arg N S s x es) (h:Has N S U H):Rows U s x es:=hx.1.ex h.ex hx.2
def Arg.of {U S:St} (hx:Rows U s x es) (hS:S.bs=U.bs):Arg U.bs.length S s x es:=⟨hx.bs hS,hx.ref⟩
def Arg.pure {N} {S} {es} {rs} (hx:∀U,Rows U s (.sl es) rs):Arg N S s (.sl es) rs:=⟨hx S,by simp[φ]⟩
def iB {N} {S U:St} {H} (h:Has N S U H) {cs} (A:N<=k) (hw:S.flr<=N\/refs cs=0):U.qH k (refs cs)=true:=by
 have h1:=h.ex.ro;have X:=h.ex.flr;have h3:=h.fx;simp[Jz];refine⟨by omega,?_⟩
 rcases hw with hw|hw
 .exact .inl (by omega)
 exact .inr (.inl (by omega))
def Has.EH {N} {S U:St} {H:List aX} (h:Has N S U H) {aj:Nat} {b b'} (hj:H[j]?=some (.box k b)):Has N S ⟨U.bs.set k b',U.flr,U.ro⟩ (H.set j (.box k b')):=by
 have A:=(h.ge hj).2;refine h.pt hj (λi hi hne=>?_) (by simp) rfl rfl ?_ (λi hi=>.inl hi) λi hi=>?_;·simp only;rw[ζ (λe=>hne e.symm)]
 .show(U.bs.set k b')[k]?=_;rw[ι A]
 cases hi;simpa using A
def Has.GC {N} {S U:St} {H} (h:Has N S U H) b:Has N S (U.push b) (.box U.bs.length b::H):=by
 refine h.add (λi hi=>?_) (by simp[χ]) rfl rfl ?_ λi hi=>?_;·simp[χ];rw[μ hi]
 .exact kI U b
 cases hi;simp[χ]
variable{m:Nat}
def Has.rm {N} {S U:St} {H} (h:Has N S U H) {cs} (hm:es.length=m) (hc:es.flatten=cs) (he:∀e∈es,e.length=s):Has N S (U.push (.mem 0 true cs)) (.ai (.win U.bs.length 0 0 m s) s es::H):=by
 subst hm hc;refine h.add (λi hi=>?_) (by simp[χ]) rfl rfl ?_ λi hi=>?_;·simp[χ];rw[μ hi]
 .have iS:=cQ he;exact iX.win _ 0 0 es es.flatten (kI U _) (by rw[iS];omega) (by rw[Q4,<-iS,ω]) he
 simp only[aX.ai,φ] at hi;simp only[χ,Ψ,Ξ,X7];omega
def nE:∀(xs c:List D) (off:Nat),(setMany c off xs).length=c.length
 |[],c,off=>rfl
 |x::xs,c,off=>by simp[setMany];rw[nE xs];simp
def ue {s:Nat}:∀{es:List (List D)} {i:Nat} {e e':List D},(∀e∈es,e.length=s)->es[i]?=some e->e'.length=s->(es.set i e').flatten=es.flatten.take (i*s)++e'++es.flatten.drop (i*s+s)
 |[],i,e,e',_,hi,_=>by simp at hi
 |x::es,0,e,e',h,hi,he=>by
  simp at hi;subst hi;have:=h x (θ ..);simp[ε,Y0 this]
 |x::es,i+1,e,e',h,hi,he=>by
  have hx:=h x (θ ..);have ih:=ue (s:=s) (es:=es) (i:=i) (e:=e) (e':=e') (λy hy=>h y (κ _ hy)) (by simpa using hi) he;rw[δ,Δ,ih,Δ,ξ,Ω,QS (i*s) s,<-hx,List.take_length_add_append,Yb,X8];simp only[Q2];rw[QS (i*x.length) x.length]
variable{aj i o:Nat}
def Has.Ag {N} {S U:St} {H:List aX} (h:Has N S U H) {off len} {e cs:List D} (hj:H[j]?=some (.ai (.win k aj off len s) s es)) (hi:es[i]?=some e) (hl:o+cs.length<=s) (hw:S.flr<=N\/refs cs=0):
  ∃R,U.wr k aj (off+i*s+o) cs=some R/\Has N S R (H.set j (.ai (.win k aj off len s) s (es.set i (setMany e o cs)))):=by
 have A:=(h.ok j _ hj).2 k (by simp[aX.ai,φ]);have hown:=h.own hj
 cases hown with
 |win k aj off es c hm hle hc he=>
  have hil:i<es.length:=by
   rcases ο i es.length with h'|h'
   .exact h'
   rw[η h'] at hi;cases hi
  have sF:=he e (ρ hi);have X:(i+1)*s<=es.length*s:=Θ s hil;rw[ξ,Ω] at X;refine⟨_,nx hm (by omega) (iB h A.1 hw),?_⟩;refine h.pt hj (λn hn hne=>?_) (by simp) rfl rfl ?_ (λn hn=>.inl hn) λn hn=>?_;·simp only;rw[ζ (λe=>hne (by simp only[aX.ai,φ];omega))]
  .have L5:∀e'∈es.set i (setMany e o cs),e'.length=s:=by
    intro e' t_
    rcases List.mem_or_eq_of_mem_set t_ with h'|h'
    .exact he e' h'
    rw[h',nE];exact sF
   have iS:es.flatten.length=es.length*s:=cQ he;have:=iX.win (U:=⟨U.bs.set k (.mem aj true (c.take (off+i*s+o)++cs++c.drop (off+i*s+o+cs.length))),U.flr,U.ro⟩) (s:=s) k aj off (es.set i (setMany e o cs)) (c.take (off+i*s+o)++cs++c.drop (off+i*s+o+cs.length))
    (by simp only;rw[ι A.2]) (by simp;omega) ?_ L5
   .rw[QH] at this;exact this
   rw[QH,ue he hi (by rw[nE];exact sF),iO cs e o (by omega)]
   have e1:(c.take (off+i*s+o)++cs++c.drop (off+i*s+o+cs.length)).drop off=(c.drop off).take (i*s+o)++cs++(c.drop off).drop (i*s+o+cs.length):=by
    rw[Q2,List.drop_append_of_le_length (by simp;omega),ψ,Q2,π]
    congr 3<;>omega
   rw[e1]
   have e2:(c.drop off).take (i*s+o)=es.flatten.take (i*s)++e.take o:=by
    have:(c.drop off).take (i*s+o)=es.flatten.take (i*s+o):=by
     rw[<-hc,QW,QQ (by omega)]
    rw[this,YJ]
    congr 1
    have:=mL he i e hi;rw[<-this,QW,QQ (by omega)]
   have e3:(Yr (i*s+o+cs.length) (c.drop off)).take (es.length*s-(i*s+o+cs.length))=e.drop (o+cs.length)++es.flatten.drop (i*s+s):=by
    have:(Yr (i*s+o+cs.length) (c.drop off)).take (es.length*s-(i*s+o+cs.length))=es.flatten.drop (i*s+o+cs.length):=by
     rw[<-hc,ψ]
    rw[this];have h4:=mL he i e hi;rw[<-h4,ψ];have:es.flatten.drop (i*s+o+cs.length)=(es.flatten.drop (i*s+o+cs.length)).take (s-(o+cs.length))++(es.flatten.drop (i*s+o+cs.length)).drop (s-(o+cs.length)):=(List.take_append_drop ..).symm;rw[this,π,π]
    congr 2;·congr 1;omega
    omega
   rw[e2]
   have Hn:(es.flatten.take (i*s)++e.take o++cs).length=i*s+o+cs.length:=by
    simp only[Ψ,List.length_take,iS,sF];omega
   rw[List.take_append,Hn,e3,QG (by rw[Hn];omega)];simp[Q2]
  simp only[aX.ai,φ] at hn;simp;omega
def aV {α:Type} {a:α} {l:List α}:(a::l)[0]?=some a:=rfl
def bf {α:Type} {a b:α} {l:List α}:(a::b::l)[1]?=some b:=rfl
def dh {α:Type} {a b c:α} {l:List α}:(a::b::c::l)[2]?=some c:=rfl
def d_ {α:Type} {a b c d:α} {l:List α}:(a::b::c::d::l)[3]?=some d:=rfl
def kS {α:Type} {a b c d e:α} {l:List α}:(a::b::c::d::e::l)[4]?=some e:=rfl
def n9 {α:Type} {a b c d e f:α} {l:List α}:(a::b::c::d::e::f::l)[5]?=some f:=rfl
def qI {α:Type} {a b c d e f g:α} {l:List α}:(a::b::c::d::e::f::g::l)[6]?=some g:=rfl
def oY {α:Type} {a b c d e f g h:α} {l:List α}:(a::b::c::d::e::f::g::h::l)[7]?=some h:=rfl
def G0 (t:Nat):List (Nat×D)->Option D
 |[]=>none
 |(aa,d)::l=>match Zm t aa with
  |true=>some d
  |false=>G0 t l
def La:Value->Option D
 | .int k n=>some (.int k n)
 | .bool b=>some (.bool b)
 | .string s=>some (.str s.data.toList)
 | .slice none 0 0=>some .nul
 | .pointer none=>some .pnil
 | .nilFunc=>some .nilfn
 | .nilIface=>some .nilif
 |_=>none
def Fr.evO (f:Fr):Operand->Option D
 | .tmp t=>match ν f.n t with
  |false=>f.loc[t]?
  |true=>G0 t f.tmp
 | .const v=>La v
 | .func g=>some (.fn g [])
 | .global _=>none
def v_ {t} {d}:∀{l:List (Nat×D)},G0 t l=some d->look t l=d
 |(aa,e)::l,h=>by
  unfold G0 at h;unfold look
  split at h;next F=>cases h;simp[F]
  rename_i F;simp[F];exact v_ h
def GM {d e}:∀{l:List D} {i:Nat},l[i]?=some d->nth e l i=d
 |x::l,0,h=>by simpa[nth] using h
 |x::l,i+1,h=>by rw[τ] at h;exact GM (l:=l) h
 |[],i,h=>by simp at h
variable{d:D}
theorem ev {I:Fr} {o} (h:I.evO o=some d):I.ev o=d:=by
 unfold Fr.evO at h;unfold Φ
 split at h
 .unfold JJ
  split at h;next F=>simp[F];exact GM h
  rename_i F;simp[F];exact v_ h
 .unfold La at h
  split at h<;>cases h<;>rfl
 .cases h;rfl
 cases h
def iW (U:St) (p:D) (r:List D):Prop:=
 (∃k aj off ar c,p=.ptr k aj off/\U.cp k aj=some (ar,c)/\(c.drop off).take r.length=r)\/∃c,p=.ep c/\c.take r.length=r
def kz (x:D) (s:Nat) (i o:Nat) (p:D):Prop:=∃k aj off len,x=.win k aj off len s/\p=.ptr k aj (off+i*s+o)
variable{r:List D}
def oi {P} {t:TypeId} {c:List D} (hc:c.take r.length=r) (h:da P t r=some d):da P t c=some d:=by
 have hlen:r.length<=c.length:=by have:=congrArg List.length hc;simp at this;omega
 unfold da at h|-
 cases hu:P.cF t with
 |none=>rw[hu] at h;cases h
 |some aa=>
  rw[hu] at h;have key:∀n,n<=r.length->c.take n=r.take n:=λn hn=>by rw[<-hc,QW,QQ hn]
  cases aa with
  |struct f=>
   simp only at h|-
   cases hs:bS P t with
   |none=>rw[hs] at h;cases h
   |some n=>
    rw[hs] at h;simp only[γ] at h|-
    split at h;next hn=>rw[if_pos (by omega),key n hn];exact h
    cases h
  |array m f=>
   simp only at h|-
   cases hs:bS P t with
   |none=>rw[hs] at h;cases h
   |some n=>
    rw[hs] at h;simp only[γ] at h|-
    split at h;next hn=>rw[if_pos (by omega),key n hn];exact h
    cases h
  |_=>
   simp only at h|-
   cases r with
   |nil=>cases h
   |cons y r=>
    cases c with
    |nil=>simp at hlen
    |cons z c=>
     simp at hc;rw[<-h];simp[hc.1]
variable{p:D}
theorem iW.load {P} {U} (h:iW U p r) {t:TypeId} (hd:da P t r=some d):gy P t p U=some d:=by
 rcases h with⟨k,aj,off,ar,c,rfl,hm,hc⟩|⟨c,rfl,hc⟩
 .simp[gy,hm];exact oi hc hd
 simp[gy];exact oi hc hd
variable{fields:Array Field}{fd:Field}
def iW.field {P:Pv} {U} (h:iW U p r) {t:TypeId} {f} (ht:P.cF t=some (.struct fields)) (hf:fields[f]?=some fd) (hm:bS P fd.type=some m) (pf:m≠0):
  ∃p',fX P t p f=some p'/\iW U p' (r.drop fd.offset):=by
 have key:∀c:List D,c.take r.length=r->(c.drop fd.offset).take (r.drop fd.offset).length=r.drop fd.offset:=by
  intro c hc;rw[W',<-ψ,hc]
 rcases h with⟨k,aj,off,ar,c,rfl,sC,hc⟩|⟨c,rfl,hc⟩
 .refine⟨.ptr k aj (off+fd.offset),?_,.inl ⟨k,aj,off+fd.offset,ar,c,rfl,sC,?_⟩⟩;·simp only[fX,ht,hf,γ,hm];rw[if_neg (by simp;exact pf)]
  rw[<-π];exact key _ hc
 refine⟨.ep (c.drop fd.offset),?_,.inr ⟨_,rfl,key _ hc⟩⟩;simp only[fX,ht,hf,γ,hm];rw[if_neg (by simp;exact pf)]
def Rows.Zp {P:Pv} {U} (h:Rows U s x es) {t e:TypeId} (ht:P.cF t=some (.slice e)) (hs:bS P e=some s) {k} (hi:es[i]?=some r):
  ∃p,cn P t x (.int k (i:Nat)) U=some p/\iW U p r:=by
 have ma:=h.DM _ _ hi
 cases h with
 |nul=>simp at hi
 |sl es h=>
  rw[QK] at hi;obtain⟨d,hd,rfl⟩:=Γ.1 hi;obtain⟨h1,X⟩:=h d (ρ hd);refine⟨.ep d.cells,?_,.inr ⟨_,rfl,ω ..⟩⟩;simp[cn,ht,hs,if_pos (show(0:Int)<=(i:Nat) by omega),hd,h1,if_pos X]
 |win k aj off es ar c hm hl he=>
  have hlt:i<es.length:=by
   rcases ο i es.length with h'|h'
   .exact h'
   rw[η h'] at hi;cases hi
  refine⟨.ptr k aj (off+i*s),?_,.inl ⟨k,aj,_,ar,c,rfl,hm,by rw[ma];exact he _ _ hi⟩⟩;simp only[cn,ht,hs,γ,hm,W4];rw[if_pos ⟨trivial,by omega,by omega,trivial⟩];rfl
variable{P:Pv} {ops:Array Oper} {rest:List Oper} {I aA:Fr} {U:St} {Tr:Fr->St->Prop} {ty:TypeId} {pp:String} {a:Array Edge} {g:Option (Nat×Bool)} {dst:Nat} {N:Nat} {S:St} {H:List aX}
variable{st1:St}
def u.go {op} (hg:au ops I ⟨some dst,op,ty,pp,a,g⟩=some true) (hc:j7 op=false) (h1:dY P I U op ty=some (d,st1)) (B:I.put dst d=aA) (h:u P ops rest aA st1 Tr):u P ops (⟨some dst,op,ty,pp,a,g⟩::rest) I U Tr:=
 u.op hg hc h1 (by show u P ops rest (I.put dst d) st1 Tr;rw[B];exact h)
variable{ar:Bool}{ao:Operand}
def u.mZ {off} {c:List D} {t:TypeId} (O:Has N S U H) (hg:au ops I ⟨some dst,.load t ao,ty,pp,a,g⟩=some true) (ha:I.ev ao=.ptr k aj off) (hj:H[j]?=some (.box k (.mem aj ar c))) (hd:da P t (c.drop off)=some d) (B:I.put dst d=aA) (h:u P ops rest aA U Tr):u P ops (⟨some dst,.load t ao,ty,pp,a,g⟩::rest) I U Tr:=by
 refine u.go hg rfl (d:=d) (st1:=U) ?_ B h;simp[dY,ha,gy,St.mem_of (O.at hj),hd]
variable{v:D}{vo:Operand}
def u.pZ {off} {c cs:List D} {t:TypeId} (O:Has N S U H) (hg:au ops I ⟨none,.store t ao vo,ty,pp,a,g⟩=some true) (ha:I.ev ao=.ptr k aj off) (hv:I.ev vo=v) (hcs:v.cells?=some cs) (hs:bS P t=some cs.length) (hj:H[j]?=some (.box k (.mem aj ar c))) (hl:off+cs.length<=c.length) (hw:S.flr<=N\/refs cs=0) (h:∀R,Has N S R (H.set j (.box k (.mem aj ar (setMany c off cs))))->u P ops rest I R Tr):u P ops (⟨none,.store t ao vo,ty,pp,a,g⟩::rest) I U Tr:=by
 refine u.N hg rfl (d:=.tup []) (st1:=⟨U.bs.set k (.mem aj ar (setMany c off cs)),U.flr,U.ro⟩) ?_ (h _ (O.EH (aj:=aj) hj));simp only[dY,ha,hv,nC,hcs,hs,if_pos trivial];rw[nx (O.at hj) hl (iB O (O.ge hj).1 hw),iO _ _ _ hl];rfl
def u.SG {e:TypeId} {cs} {aA:Nat->Fr} (O:Has N S U H) (hg:au ops I ⟨some dst,.alloc e,ty,pp,a,g⟩=some true) (hz:cO P e=some cs) (B:∀k,I.put dst (.ptr k 0 0)=aA k)
  (h:∀k R,S.bs.length<=k->Has N S R (.box k (.mem 0 false cs)::H)->u P ops rest (aA k) R Tr):u P ops (⟨some dst,.alloc e,ty,pp,a,g⟩::rest) I U Tr:=by
 refine u.go hg rfl (d:=.ptr U.bs.length 0 0) (st1:=U.push (.mem 0 false cs)) ?_ (B _) (h _ _ O.len (O.GC _));simp[dY,hz]
def u.I_ {e:TypeId} {xo} {cs} {aA:Nat->Fr} (O:Has N S U H) (hg:au ops I ⟨some dst,.box e xo,ty,pp,a,g⟩=some true) (hz:(I.ev xo).cells?=some cs) (B:∀k,I.put dst (.ptr k 0 0)=aA k)
  (h:∀k R,S.bs.length<=k->Has N S R (.box k (.mem 0 false cs)::H)->u P ops rest (aA k) R Tr):u P ops (⟨some dst,.box e xo,ty,pp,a,g⟩::rest) I U Tr:=by
 refine u.go hg rfl (d:=.ptr U.bs.length 0 0) (st1:=U.push (.mem 0 false cs)) ?_ (B _) (h _ _ O.len (O.GC _));simp[dY,hz]
variable{z:List D}
def u.Qy {t e:TypeId} {lo co} {k1 k2} {inf:TypeInfo} {aA:Nat->Fr} (O:Has N S U H) (hg:au ops I ⟨some dst,.makeSlice t lo co,ty,pp,a,g⟩=some true) (hl:I.ev lo=.int k1 (m:Nat)) (hc:I.ev co=.int k2 (m:Nat)) (ht:P.cF t=some (.slice e)) (hi:P.info e=some inf) (hz:cO P e=some z) (hsz:inf.size=s) (jP:z.length=s) (hmb:inf.bytes<=1024) (pf:m<=1073741824) (B:∀k,I.put dst (.win k 0 0 m s)=aA k) (h:∀k R,S.bs.length<=k->Has N S R (.ai (.win k 0 0 m s) s (W0 m z)::H)->u P ops rest (aA k) R Tr):u P ops (⟨some dst,.makeSlice t lo co,ty,pp,a,g⟩::rest) I U Tr:=by
 have hm:m*inf.bytes<=140737488355328:=QT (YY pf hmb) (by decide);subst hsz;refine u.go hg rfl (d:=.win U.bs.length 0 0 m inf.size) (st1:=U.push (.mem 0 true (gu m z))) ?_ (B _) (h _ _ O.len (O.rm (by simp) rfl (λe he=>by rw[List.eq_of_mem_replicate he];exact jP)));simp only[dY,hl,hc,gO,ht,hi,hz,γ];rw[if_pos ⟨jP,by omega,by omega,by omega,by rw[<-Int.natCast_mul];omega⟩]
 rfl
variable{y:D}{ys:List (List D)}
def Has.append (O:Has N S U H) (hj:H[j]?=some (.ai x s es)) (hy:Rows U s y ys) {t1 t2 e:TypeId} {td:TypeDesc} {inf:TypeInfo} (h1:P.cF t1=some (.slice e)) (X:P.cF t2=some td) (h3:fp td=false) (h4:P.info e=some inf) (h5:cO P e=some z) (h6:inf.size=s) (h7:z.length=s) (h8:0<inf.bytes/\inf.bytes<=1024) (qM:es.length+ys.length<=1073741824) (hw:S.flr<=N\/refs ys.flatten=0):
  ∃x' R,bA P .append [t1,t2] [x,y] U=some (x',R)/\Has N S R (H.set j (.ai x' s (es++ys)))/\(ys=[]->x'=x):=by
 have F:(es.length+ys.length)*inf.bytes<=1099511627776:=QT (YY qM h8.2) (by decide);have jI:=hy.row
 have sx:∀e∈ys,e.length=s:=λe he=>by
  obtain⟨i,hi⟩:=Qu he;exact hy.DM i e hi
 have iS:=cQ sx;have hown:=O.own hj;have hkk:=(O.ok j _ hj).2;have hS:=O.len;have hNS:=O.hN;subst h6;simp only[bA,dK,h1,X,h3,Wz,if_false,h4,h5,jI,γ];rw[if_neg (by rintro(h|h|h);exact h iS;exact absurd h (by omega);exact h h7)]
 have eW:∀e,H[j]?=some e->H.set j e=H:=λe he=>by
  apply Zb;intro i
  by_cases hij:i=j
  .subst hij
   have:i<H.length:=by
    rcases ο i H.length with h'|h'
    .exact h'
    rw[η h'] at he;cases he
   rw[ι this,he]
  rw[ζ (λe=>hij e.symm)]
 cases hown with
 |nul=>
  simp only[QC]
  by_cases h0:ys.length=0
  .rw[if_pos h0]
   have:ys=[]:=by cases ys with|nil=>rfl|cons _ _=>simp at h0
   subst this;exact⟨.nul,U,rfl,by rw[eW _ hj];exact O,λ_=>rfl⟩
  rw[if_neg h0,if_pos (by simpa using F)];refine⟨_,_,rfl,?_,λe=>absurd (by rw[e];rfl) h0⟩;refine O.pt hj (λk A _=>by simp[χ];rw[μ A]) (by simp[χ]) rfl rfl ?_ (λk A=>?_) λk A=>?_;·exact iX.win _ 0 0 ys ys.flatten (kI U _) (by rw[iS];omega) (by rw[Q4,<-iS,ω]) sx
  .simp only[aX.ai,φ] at A;right;omega
  simp only[aX.ai,φ] at A;simp only[χ,Ψ,Ξ,X7];omega
 |win k aj off es c hm hl hc he=>
  have A:=hkk k (by simp[aX.ai,φ]);simp only[St.mem_of hm];rw[if_neg (by rintro(h|h);exact h rfl;omega)]
  by_cases h0:ys.length=0
  .rw[if_pos h0]
   have:ys=[]:=by cases ys with|nil=>rfl|cons _ _=>simp at h0
   subst this;simp only[Wg];exact⟨_,U,rfl,by rw[eW _ hj];exact O,λ_=>rfl⟩
  rw[if_neg h0,if_pos ⟨F,iB O A.1 hw⟩];refine⟨_,_,rfl,?_,λe=>absurd (by rw[e];rfl) h0⟩;have pg:es.length+ys.length=(es++ys).length:=by simp
  have c_:(c.take (off+es.length*inf.size)).drop off=es.flatten:=by rw[ψ,<-hc];congr 1;omega
  rw[pg,c_];refine O.pt hj (λn hn hne=>by simp only;rw[ζ (λe=>hne (by simp only[aX.ai,φ];omega))]) (by simp) rfl rfl ?_ (λn hn=>?_) λn hn=>?_
  .have sF:∀e∈es++ys,e.length=inf.size:=λe h=>by
    rcases Y3.1 h with h|h
    .exact he e h
    exact sx e h
   have Mc:=cQ sF;refine iX.win k (aj+1) 0 (es++ys) (es++ys).flatten ?_ (by rw[Mc];omega) (by rw[Q4,<-Mc,ω]) sF;simp only;rw[ι A.2,ZT]
  .simp only[aX.ai,φ] at hn|-;left;omega
  simp only[aX.ai,φ] at hn;simp;omega
variable{yo:Operand}
def u.oK {t1 t2 e:TypeId} {td:TypeDesc} {inf:TypeInfo} {xo} {aA:D->Fr} (O:Has N S U H) (hg:au ops I ⟨some dst,.call ⟨.builtin .append,#[xo,yo],#[t1,t2]⟩,ty,pp,a,g⟩=some true) (hx:I.ev xo=x) (hy:I.ev yo=y) (hj:H[j]?=some (.ai x s es)) (j8:Rows U s y ys) (h1:P.cF t1=some (.slice e)) (X:P.cF t2=some td) (h3:fp td=false) (h4:P.info e=some inf) (h5:cO P e=some z) (h6:inf.size=s) (h7:z.length=s) (h8:0<inf.bytes/\inf.bytes<=1024) (B:∀x',I.put dst x'=aA x') (F:es.length+ys.length<=1073741824) (hw:S.flr<=N\/refs ys.flatten=0) (h:∀x' R,Has N S R (H.set j (.ai x' s (es++ys)))->u P ops rest (aA x') R Tr):
  u P ops (⟨some dst,.call ⟨.builtin .append,#[xo,yo],#[t1,t2]⟩,ty,pp,a,g⟩::rest) I U Tr:=by
 obtain⟨x',R,q1,q2,q3⟩:=O.append hj j8 h1 X h3 h4 h5 h6 h7 h8 F hw;refine u.go hg rfl (d:=x') (st1:=R) ?_ (B _) (h x' R q2);simp[dY,hx,hy];exact q1
def u.Mo {t1 t2 e:TypeId} {td:TypeDesc} {inf:TypeInfo} {xo} {aA:D->Fr} (O:Has N S U H) (hg:au ops I ⟨some dst,.call ⟨.builtin .append,#[xo,yo],#[t1,t2]⟩,ty,pp,a,g⟩=some true) (hx:I.ev xo=x) (hy:I.ev yo=y) (hj:H[j]?=some (.ai x s es)) (j8:Rows U s y ys) (h1:P.cF t1=some (.slice e)) (X:P.cF t2=some td) (h3:fp td=false) (h4:P.info e=some inf) (h5:cO P e=some z) (h6:inf.size=s) (h7:z.length=s) (h8:0<inf.bytes/\inf.bytes<=1024) (B:∀x',I.put dst x'=aA x') (F:es.length+ys.length<=1073741824) (hw:S.flr<=N\/refs ys.flatten=0) (h:∀x' R,(ys=[]->x'=x)->Has N S R (H.set j (.ai x' s (es++ys)))->u P ops rest (aA x') R Tr):
  u P ops (⟨some dst,.call ⟨.builtin .append,#[xo,yo],#[t1,t2]⟩,ty,pp,a,g⟩::rest) I U Tr:=by
 obtain⟨x',R,q1,q2,q3⟩:=O.append hj j8 h1 X h3 h4 h5 h6 h7 h8 F hw;refine u.go hg rfl (d:=x') (st1:=R) ?_ (B _) (h x' R q3 q2);simp[dY,hx,hy];exact q1
def u.pB {t e:TypeId} {xo} (hg:au ops I ⟨some dst,.call ⟨.builtin .len,#[xo],#[t]⟩,ty,pp,a,g⟩=some true) (hx:I.ev xo=x) (hR:Rows U s x es) (ht:P.cF t=some (.slice e)) (B:I.put dst (.int .i64 (es.length:Nat))=aA) (h:u P ops rest aA U Tr):u P ops (⟨some dst,.call ⟨.builtin .len,#[xo],#[t]⟩,ty,pp,a,g⟩::rest) I U Tr:=by
 refine u.go hg rfl (d:=.int .i64 (es.length:Nat)) (st1:=U) ?_ B h;simp[dY,hx];exact hR.Qf ht
def u.B3 {t:TypeId} {xo} {b:List UInt8} (hg:au ops I ⟨some dst,.call ⟨.builtin .len,#[xo],#[t]⟩,ty,pp,a,g⟩=some true) (hx:I.ev xo=.str b) (ht:P.cF t=some .string) (B:I.put dst (.int .i64 (b.length:Nat))=aA)
  (h:u P ops rest aA U Tr):u P ops (⟨some dst,.call ⟨.builtin .len,#[xo],#[t]⟩,ty,pp,a,g⟩::rest) I U Tr:=by
 refine u.go hg rfl (d:=.int .i64 (b.length:Nat)) (st1:=U) ?_ B h;simp[dY,hx,bA,ht]
variable{io:Operand}{kk:IntKind}
def u.KA {t e:TypeId} {xo} {aA:D->Fr} (hg:au ops I ⟨some dst,.indexAddr t xo io,ty,pp,a,g⟩=some true) (hx:I.ev xo=x) (hi:I.ev io=.int kk (i:Nat)) (hR:Rows U s x es) (ht:P.cF t=some (.slice e)) (hs:bS P e=some s) (hr:es[i]?=some r) (B:∀p,I.put dst p=aA p) (h:∀p,iW U p r->u P ops rest (aA p) U Tr):u P ops (⟨some dst,.indexAddr t xo io,ty,pp,a,g⟩::rest) I U Tr:=by
 obtain⟨p,h1,X⟩:=hR.Zp ht hs (k:=kk) hr;refine u.go hg rfl (d:=p) (st1:=U) ?_ (B p) (h p X);simp[dY,hx,hi,h1]
def u.Rf {t:TypeId} {xo} {f} {aA:D->Fr} (hg:au ops I ⟨some dst,.fieldAddr t xo f,ty,pp,a,g⟩=some true) (hx:I.ev xo=x) (hR:iW U x r) (ht:P.cF t=some (.struct fields)) (hf:fields[f]?=some fd) (hm:bS P fd.type=some m) (pf:m≠0) (B:∀p,I.put dst p=aA p) (h:∀p,iW U p (r.drop fd.offset)->u P ops rest (aA p) U Tr):u P ops (⟨some dst,.fieldAddr t xo f,ty,pp,a,g⟩::rest) I U Tr:=by
 obtain⟨p,h1,X⟩:=hR.field ht hf hm pf;refine u.go hg rfl (d:=p) (st1:=U) ?_ (B p) (h p X);simp[dY,hx,h1]
def u.nF {t:TypeId} (hg:au ops I ⟨some dst,.load t ao,ty,pp,a,g⟩=some true) (ha:I.ev ao=x) (hR:iW U x r) (hd:da P t r=some d) (B:I.put dst d=aA) (h:u P ops rest aA U Tr):u P ops (⟨some dst,.load t ao,ty,pp,a,g⟩::rest) I U Tr:=by
 refine u.go hg rfl (d:=d) (st1:=U) ?_ B h;simp[dY,ha,hR.load hd]
def u.Oq {t e:TypeId} {xo} {aA:D->Fr} (O:Has N S U H) (hg:au ops I ⟨some dst,.indexAddr t xo io,ty,pp,a,g⟩=some true) (hx:I.ev xo=x) (hi:I.ev io=.int kk (i:Nat)) (hj:H[j]?=some (.ai x s es)) (ht:P.cF t=some (.slice e)) (hs:bS P e=some s) (hr:i<es.length) (B:∀p,I.put dst p=aA p) (h:∀p,kz x s i 0 p->u P ops rest (aA p) U Tr):u P ops (⟨some dst,.indexAddr t xo io,ty,pp,a,g⟩::rest) I U Tr:=by
 have hown:=O.own hj
 cases hown with
 |nul=>simp at hr
 |win k aj off es c hm hl hc he=>
  refine u.go hg rfl (d:=.ptr k aj (off+i*s)) (st1:=U) ?_ (B _) (h _ ⟨k,aj,off,_,rfl,rfl⟩);simp only[dY,hx,hi,cn,ht,hs,γ,St.mem_of hm,W4];rw[if_pos ⟨trivial,by omega,by omega,trivial⟩];rfl
def u.Ru {t:TypeId} {xo} {f} {aA:D->Fr} (hg:au ops I ⟨some dst,.fieldAddr t xo f,ty,pp,a,g⟩=some true) (hx:I.ev xo=y) (hR:kz x s i o y) (ht:P.cF t=some (.struct fields)) (hf:fields[f]?=some fd) (hm:bS P fd.type=some m) (pf:m≠0) (B:∀p,I.put dst p=aA p) (h:∀p,kz x s i (o+fd.offset) p->u P ops rest (aA p) U Tr):u P ops (⟨some dst,.fieldAddr t xo f,ty,pp,a,g⟩::rest) I U Tr:=by
 obtain⟨k,aj,off,len,h1,X⟩:=hR;refine u.go hg rfl (d:=.ptr k aj (off+i*s+(o+fd.offset))) (st1:=U) ?_ (B _) (h _ ⟨k,aj,off,len,h1,rfl⟩);simp only[dY,hx,X,fX,ht,hf,γ,hm];rw[if_neg (by simp;exact pf),<-Yb];rfl
def u.o9 {t:TypeId} (O:Has N S U H) (hg:au ops I ⟨some dst,.load t ao,ty,pp,a,g⟩=some true) (ha:I.ev ao=y) (hR:kz x s i o y) (hj:H[j]?=some (.ai x s es)) (hr:es[i]?=some r) (hd:da P t (r.drop o)=some d) (B:I.put dst d=aA) (h:u P ops rest aA U Tr):u P ops (⟨some dst,.load t ao,ty,pp,a,g⟩::rest) I U Tr:=by
 obtain⟨k,aj,off,len,rfl,rfl⟩:=hR;have hown:=O.own hj
 cases hown with
 |win k aj off es c hm hl hc he=>
  refine u.go hg rfl (d:=d) (st1:=U) ?_ B h;have h1:=mL he i r hr
  have hil:i<es.length:=by
   rcases ο i es.length with h'|h'
   .exact h'
   rw[η h'] at hr;cases hr
  have X:(i+1)*s<=es.length*s:=Θ s hil;rw[ξ,Ω] at X;rw[<-hc,ψ,QW,π,QQ (by omega)] at h1;have ma:=he r (ρ hr);simp only[dY,ha,gy,St.mem_of hm,γ];rw[oi (r:=r.drop o) ?_ hd];rfl;rw[W',ma,<-h1,ψ,π]
def u.E7 {t:TypeId} {cs:List D} (O:Has N S U H) (hg:au ops I ⟨none,.store t ao vo,ty,pp,a,g⟩=some true) (ha:I.ev ao=y) (hv:I.ev vo=v) (hR:kz x s i o y) (hcs:v.cells?=some cs) (hs:bS P t=some cs.length) (hj:H[j]?=some (.ai x s es)) (hr:es[i]?=some r) (hl:o+cs.length<=s) (hw:S.flr<=N\/refs cs=0) (h:∀R,Has N S R (H.set j (.ai x s (es.set i (setMany r o cs))))->u P ops rest I R Tr):u P ops (⟨none,.store t ao vo,ty,pp,a,g⟩::rest) I U Tr:=by
 obtain⟨k,aj,off,len,rfl,rfl⟩:=hR;obtain⟨R,h1,X⟩:=O.Ag hj hr hl hw;refine u.N hg rfl (d:=.tup []) (st1:=R) ?_ (h _ X);simp only[dY,ha,hv,nC,hcs,hs,if_pos trivial,h1];rfl
def u.Mj {s t e:TypeId} {xo} {b:List UInt8} {aA:Nat->Fr} (O:Has N S U H) (hg:au ops I ⟨some dst,.convert s t xo,ty,pp,a,g⟩=some true) (hx:I.ev xo=.str b) (h1:P.cF s=some .string) (X:P.cF t=some (.slice e)) (h3:P.cF e=some (.int .u8)) (hl:b.length<1099511627776) (B:∀k,I.put dst (.win k 0 0 b.length 1)=aA k)
  (h:∀k R,S.bs.length<=k->Has N S R (.ai (.win k 0 0 b.length 1) 1 (byteCells b)::H)->u P ops rest (aA k) R Tr):u P ops (⟨some dst,.convert s t xo,ty,pp,a,g⟩::rest) I U Tr:=by
 have hc:∀b:List UInt8,(byteCells b).flatten=b.map λy=>.int .u8 (y.toNat:Nat):=by
  intro b
  induction b with
  |nil=>rfl
  |cons y b ih=>simp only[byteCells,Q9,Δ] at ih|-;rw[ih];rfl
 refine u.go hg rfl (d:=.win U.bs.length 0 0 b.length 1) (st1:=U.push (.mem 0 true (b.map λy=>.int .u8 (y.toNat:Nat)))) ?_ (B _) (h _ _ O.len (O.rm (by simp[byteCells]) (hc b) (λe he=>by obtain⟨y,_,rfl⟩:=Wk.1 he;rfl)));simp[dY,hx,pk,h1,X,h3,if_pos hl]
def u.dP {f} {gn} {fZ} {args:Array Operand} {x6:Array TypeId} (hg:au ops I ⟨some dst,.call ⟨.value f,args,x6⟩,ty,pp,a,g⟩=some true) (hf:I.ev f=.fn gn fZ) (h1:Ev P gn (args.toList.map I.ev++fZ) U d st1) (B:I.put dst d=aA) (h:u P ops rest aA st1 Tr):u P ops (⟨some dst,.call ⟨.value f,args,x6⟩,ty,pp,a,g⟩::rest) I U Tr:=
 u.call hg hf h1 (by show u P ops rest (I.put dst d) st1 Tr;rw[B];exact h)
def wa {m} {kn} {U:St} {d'} (hm:m≠.bW/\m≠.nw) (hS:S.bs=U.bs) (O:Has U.bs.length S st1 H) (hd:aB st1 U.bs.length kn 16 d=some d'):cZ m kn U st1 d=some (d',U):=
 dg hm ((O.ex.take (by rw[hS])).trans hS) hd
def Has.freeze (O:Has N S U H) (hj:H[j]?=some (.ai x s es)) (B:∀e∈es,∀d∈e,cv d=true) {n:Nat} (hn:2<=n):aB U N false (n+1) x=some (.sl (es.map (jK s))):=by
 obtain⟨n,rfl⟩:∃m,n=m+2:=⟨n-2,by omega⟩
 have hown:=O.own hj;have hkk:=(O.ok j _ hj).2
 cases hown with
 |nul=>rfl
 |win k aj off es c hm hl hc he=>
  have A:=hkk k (by simp[aX.ai,φ]);show(if k<N then some (D.win k aj off es.length s) else b_ U N (n+2) (.win k aj off es.length s))=_;rw[if_neg (show¬k<N by omega),b_];simp only[if_neg (show¬k<N by omega),St.mem_of hm,γ]
  rw[if_pos hl,hc,jZ (λd hd=>by
   obtain⟨e,t_,sG⟩:=WM.1 hd
   exact B e t_ d sG)]
  simp[fY he]
end Go.V
namespace Go.V
variable{P:Pv} {ops:Array Oper} {rest:List Oper} {I aA:Fr} {U:St} {Tr:Fr->St->Prop} {ty:TypeId} {pp:String} {a:Array Edge} {g:Option (Nat×Bool)} {dst:Nat}
variable{o:Oper}{j t:Nat}{w v:Bool}
def cP (h1:o.guard=some (j,w)) (X:(ops[j]?).bind (·.dst)=some t) (h3:I.get t=.bool v) (h4:v=w):au ops I o=some true:=by
 unfold au;simp[h1,X,h3,h4,beq_self_eq_true]
def et (h1:o.guard=some (j,w)) (X:(ops[j]?).bind (·.dst)=some t) (h3:I.get t=.bool v) (h4:v=!w):au ops I o=some false:=by
 unfold au;simp only[h1,X,h3,h4];cases w<;>rfl
def u.skip {op:Op} (hg:au ops I ⟨some dst,op,ty,pp,a,g⟩=some false) (B:I.put dst (.tup [])=aA)
  (h:u P ops rest aA U Tr):u P ops (⟨some dst,op,ty,pp,a,g⟩::rest) I U Tr:=
 u.off hg (by show u P ops rest (I.put dst _) U Tr;rw[B];exact h)
variable{l:List Oper}
def u.two t (hv:I.get t=.bool v) (h1:v=true->u P ops l I U Tr) (X:v=false->u P ops l I U Tr):u P ops l I U Tr:=by
 cases v;·exact X rfl
 exact h1 rfl
def u.KQ {c x y} (hg:au ops I ⟨some dst,.pick c x y,ty,pp,a,g⟩=some true) (hc:I.ev c=.bool v) (hv:v=true) (B:I.put dst (I.ev x)=aA) (h:u P ops rest aA U Tr):u P ops (⟨some dst,.pick c x y,ty,pp,a,g⟩::rest) I U Tr:=
 u.go hg rfl (by simp[dY,hc,hv]) B h
def u.Qa {c x y} (hg:au ops I ⟨some dst,.pick c x y,ty,pp,a,g⟩=some true) (hc:I.ev c=.bool v) (hv:v=false) (B:I.put dst (I.ev y)=aA) (h:u P ops rest aA U Tr):u P ops (⟨some dst,.pick c x y,ty,pp,a,g⟩::rest) I U Tr:=
 u.go hg rfl (by simp[dY,hc,hv]) B h
variable{n:Nat}{k:IntKind}
def Jw {len} (h:n<=len):cL len none (some (.int k (n:Nat)))=some (0,n):=by
 simp only[cL,ik,ke,γ];rw[if_pos ⟨by omega,by omega⟩];rfl
theorem wrap_i32 {n} (h1 : -2147483648 <= n) (X : n <= 2147483647) : aR .i32 n = n := by
  cases n with
  | ofNat m => exact b7 (k := .i32) (m := m) (by simp [iQ]; have : (Int.ofNat m) = (m : Int) := rfl; omega)
  | negSucc m =>
    unfold aR
    have : ν (AG .i32) m = false := by
      cases F : ν (AG .i32) m with
      | false => rfl
      | true => have := Q7 F; simp [AG] at this; have : Int.negSucc m = -(m : Int) - 1 := by omega
                omega
    simp [this]
theorem ZN (x y:Int):(if y>x then y else x)=max x y:=by split<;>omega
theorem ZL (x y:Int):(if y<x then y else x)=min x y:=by split<;>omega
variable{y:Int}{yo:Operand}{k':IntKind}
def u.ZM {t1 t2:TypeId} {xo:Operand} {x:Int} {x6:Array TypeId} (hg:au ops I ⟨some dst,.call ⟨.builtin .max,#[xo,yo],x6⟩,ty,pp,a,g⟩=some true) (hx:I.ev xo=.int k x) (hy:I.ev yo=.int k' y) (B:I.put dst (.int k (max x y))=aA) (h:u P ops rest aA U Tr):u P ops (⟨some dst,.call ⟨.builtin .max,#[xo,yo],x6⟩,ty,pp,a,g⟩::rest) I U Tr:=by
 refine u.go hg rfl (d:=.int k (max x y)) (st1:=U) ?_ B h;simp only[dY,Q9,YS,hx,hy,bA,ud,yK,γ,WN,<-ZN];rfl
def u.Vd {t1 t2:TypeId} {xo:Operand} {x:Int} {x6:Array TypeId} (hg:au ops I ⟨some dst,.call ⟨.builtin .min,#[xo,yo],x6⟩,ty,pp,a,g⟩=some true) (hx:I.ev xo=.int k x) (hy:I.ev yo=.int k' y) (B:I.put dst (.int k (min x y))=aA) (h:u P ops rest aA U Tr):u P ops (⟨some dst,.call ⟨.builtin .min,#[xo,yo],x6⟩,ty,pp,a,g⟩::rest) I U Tr:=by
 refine u.go hg rfl (d:=.int k (min x y)) (st1:=U) ?_ B h;simp only[dY,Q9,YS,hx,hy,bA,ud,yK,γ,WN,<-ZL];rfl
def u.Tt {t jT:TypeId} {xo} {x} (hg:au ops I ⟨some dst,.binOp .add t xo yo jT,ty,pp,a,g⟩=some true) (hx:I.ev xo=.int .i64 x) (hy:I.ev yo=.int .i64 y) (h1:-9223372036854775808<=x+y) (X:x+y<=9223372036854775807) (B:I.put dst (.int .i64 (x+y))=aA) (h:u P ops rest aA U Tr):u P ops (⟨some dst,.binOp .add t xo yo jT,ty,pp,a,g⟩::rest) I U Tr:=by
 refine u.go hg rfl (d:=.int .i64 (x+y)) (st1:=U) ?_ B h;simp[dY,hx,hy,iC,xB,if_pos trivial,wrap_i64 h1 X,reduceIte]
def u.J9 {t jT:TypeId} {xo} {x} (hg:au ops I ⟨some dst,.binOp .sub t xo yo jT,ty,pp,a,g⟩=some true) (hx:I.ev xo=.int .i64 x) (hy:I.ev yo=.int .i64 y) (h1:-9223372036854775808<=x-y) (X:x-y<=9223372036854775807) (B:I.put dst (.int .i64 (x-y))=aA) (h:u P ops rest aA U Tr):u P ops (⟨some dst,.binOp .sub t xo yo jT,ty,pp,a,g⟩::rest) I U Tr:=by
 refine u.go hg rfl (d:=.int .i64 (x-y)) (st1:=U) ?_ B h;simp[dY,hx,hy,iC,xB,if_pos trivial,wrap_i64 h1 X,reduceIte]
def u.F_ {t jT:TypeId} {xo} {x} (hg:au ops I ⟨some dst,.binOp .add t xo yo jT,ty,pp,a,g⟩=some true) (hx:I.ev xo=.int .i32 x) (hy:I.ev yo=.int .i32 y) (h1:-2147483648<=x+y) (X:x+y<=2147483647) (B:I.put dst (.int .i32 (x+y))=aA) (h:u P ops rest aA U Tr):u P ops (⟨some dst,.binOp .add t xo yo jT,ty,pp,a,g⟩::rest) I U Tr:=by
 refine u.go hg rfl (d:=.int .i32 (x+y)) (st1:=U) ?_ B h;simp[dY,hx,hy,iC,xB,if_pos trivial,wrap_i32 h1 X,reduceIte]
def u.J_ {t jT:TypeId} {xo} {x} (hg:au ops I ⟨some dst,.binOp .sub t xo yo jT,ty,pp,a,g⟩=some true) (hx:I.ev xo=.int .i32 x) (hy:I.ev yo=.int .i32 y) (h1:-2147483648<=x-y) (X:x-y<=2147483647) (B:I.put dst (.int .i32 (x-y))=aA) (h:u P ops rest aA U Tr):u P ops (⟨some dst,.binOp .sub t xo yo jT,ty,pp,a,g⟩::rest) I U Tr:=by
 refine u.go hg rfl (d:=.int .i32 (x-y)) (st1:=U) ?_ B h;simp[dY,hx,hy,iC,xB,if_pos trivial,wrap_i32 h1 X,reduceIte]
def u.mv {op:Op} {x} {d} (hop:op=.move x\/op=.assign x) (hg:au ops I ⟨some dst,op,ty,pp,a,g⟩=some true) (hx:I.ev x=d) (B:I.put dst d=aA)
  (h:u P ops rest aA U Tr):u P ops (⟨some dst,op,ty,pp,a,g⟩::rest) I U Tr:=by
 refine u.go hg ?_ (d:=d) (st1:=U) ?_ B h<;>rcases hop with rfl|rfl<;>first|rfl|simp[dY,hx]
def kb (P:Pv) (fields:Array Field) (f:Nat):Option (Nat×Option Nat):=(fields[f]?).map λfd=>(fd.offset,bS P fd.type)
variable{fields:Array Field}{f fo m:Nat}
def nY {P} (h:kb P fields f=some (fo,some m)):∃fd,fields[f]?=some fd/\fd.offset=fo/\bS P fd.type=some m:=by
 unfold kb at h;obtain⟨fd,h1,X⟩:=Γ.1 h;simp at X;exact⟨fd,h1,X.1,X.2⟩
variable{aj:Nat}
def u.pK {t:TypeId} {xo} {k off o} (hg:au ops I ⟨some dst,.fieldAddr t xo f,ty,pp,a,g⟩=some true) (hx:I.ev xo=.ptr k aj off) (ht:P.cF t=some (.struct fields)) (hf:kb P fields f=some (fo,some (m+1))) (ho:off+fo=o) (B:I.put dst (.ptr k aj o)=aA) (h:u P ops rest aA U Tr):u P ops (⟨some dst,.fieldAddr t xo f,ty,pp,a,g⟩::rest) I U Tr:=by
 obtain⟨fd,h1,X,h3⟩:=nY hf;subst ho;refine u.go hg rfl (d:=.ptr k aj (off+fo)) (st1:=U) ?_ B h;simp only[dY,hx,fX,ht,h1,γ,h3,X];rw[if_neg (by simp)];rfl
variable{x:D}{r:List D}
def u.ou {t:TypeId} {xo} {aA:D->Fr} (hg:au ops I ⟨some dst,.fieldAddr t xo f,ty,pp,a,g⟩=some true) (hx:I.ev xo=x) (hR:iW U x r) (ht:P.cF t=some (.struct fields)) (hf:kb P fields f=some (fo,some (m+1))) (B:∀p,I.put dst p=aA p) (h:∀p,iW U p (r.drop fo)->u P ops rest (aA p) U Tr):u P ops (⟨some dst,.fieldAddr t xo f,ty,pp,a,g⟩::rest) I U Tr:=by
 obtain⟨fd,h1,X,h3⟩:=nY hf;exact u.Rf hg hx hR ht h1 h3 (by omega) B (by rw[X];exact h)
variable{s i:Nat}
def u.dJ {t:TypeId} {xo} {y} {o o2} {aA:D->Fr} (hg:au ops I ⟨some dst,.fieldAddr t xo f,ty,pp,a,g⟩=some true) (hx:I.ev xo=y) (hR:kz x s i o y) (ht:P.cF t=some (.struct fields)) (hf:kb P fields f=some (fo,some (m+1))) (ho:o+fo=o2) (B:∀p,I.put dst p=aA p) (h:∀p,kz x s i o2 p->u P ops rest (aA p) U Tr):u P ops (⟨some dst,.fieldAddr t xo f,ty,pp,a,g⟩::rest) I U Tr:=by
 obtain⟨fd,h1,X,h3⟩:=nY hf;subst ho;exact u.Ru hg hx hR ht h1 h3 (by omega) B (by rw[X];exact h)
variable{c:List D}
def B' {cs:List D} (h:cs.length=c.length):setMany c 0 cs=cs:=by
 rw[iO cs c 0 (by omega),List.take_zero,QC,ZF,h,List.drop_length,Wg]
variable{N:Nat} {S:St} {H:List aX}
variable{ar:Bool}{ao:Operand}
def u.cB {k} {cs:List D} {v:D} {t:TypeId} {vo} (O:Has N S U H) (hg:au ops I ⟨none,.store t ao vo,ty,pp,a,g⟩=some true) (ha:I.ev ao=.ptr k aj 0) (hv:I.ev vo=v) (hcs:v.cells?=some cs) (hs:bS P t=some cs.length) (hj:H[j]?=some (.box k (.mem aj ar c))) (hl:cs.length=c.length) (hw:S.flr<=N\/refs cs=0) (h:∀R,Has N S R (H.set j (.box k (.mem aj ar cs)))->u P ops rest I R Tr):u P ops (⟨none,.store t ao vo,ty,pp,a,g⟩::rest) I U Tr:=
 u.pZ O hg ha hv hcs hs hj (by omega) hw (by rw[B' hl];exact h)
def zg {place:Nat->Option (Nat×Nat)} {s:Nat} (eY:∀i,place i=some (i*s,s)):∀(vs:List D) (n:Nat) (done rem:List D),done.length=n*s->rem.length=vs.length*s->(∀v∈vs,v.cells?=some v.cells/\v.cells.length=s)->
  iK place (done++rem) (vs.mapIdx λi v=>(n+i,v))=some (done++(vs.map WA).flatten)
 |[],n,done,rem,hd,hr,_=>by
  have:rem=[]:=by cases rem with|nil=>rfl|cons _ _=>simp at hr
  subst this;simp[iK]
 |v::vs,n,done,rem,hd,hr,hv=>by
  obtain⟨h1,X⟩:=hv v (θ ..);simp[ξ] at hr;simp only[Zf,iK,eY,h1,Yn];rw[if_neg (by simp only[X,ne_eq,not_true_eq_false,Ψ,false_or];rw[hd,hr];omega)]
  have e1:setMany (done++rem) (n*s) v.cells=(done++v.cells)++rem.drop s:=by
   rw[iO _ _ _ (by simp;omega),X,<-hd,List.take_left,X8]
  have ih:=zg eY vs (n+1) (done++v.cells) (rem.drop s) (by rw[Ψ,hd,X,ξ,Ω]) (by rw[W'];omega) λw hw=>hv w (κ _ hw);rw[e1];have e2:(vs.mapIdx λi v=>(n+(i+1),v))=vs.mapIdx λi v=>(n+1+i,v):=by congr 1;funext i v;rw[show n+(i+1)=n+1+i by omega]
  rw[e2,ih];simp[Q2]
def DK (I:Fr):Nat->List (Nat×Operand)->List D->Prop
 |_,[],[]=>True
 |n,(i,o)::ps,v::vs=>i=n/\I.ev o=v/\DK I (n+1) ps vs
 |_,_,_=>False
def DJ {I:Fr}:∀{ps:List (Nat×Operand)} {vs:List D} {n:Nat},DK I n ps vs->(ps.map λp=>(p.1,I.ev p.2))=vs.mapIdx λi v=>(n+i,v)
 |[],[],_,_=>rfl
 |(i,o)::ps,v::vs,n,h=>by
  obtain⟨h1,X,h3⟩:=h;have ih:=DJ h3;simp only[Q9,Zf,Yn];rw[ih,h1,X]
  congr 1
  congr 1;funext i v;rw[show n+(i+1)=n+1+i by omega]
 |[],_::_,_,h=>h.elim
 |_::_,[],_,h=>h.elim
def u.L4 {t e:TypeId} {parts:Array (Nat×Operand)} {z:List D} {vs:List D} {aA:Nat->Fr} (O:Has N S U H) (hg:au ops I ⟨some dst,.buildSlice t m parts,ty,pp,a,g⟩=some true) (ht:P.cF t=some (.slice e)) (hs:bS P e=some s) (hz:cO P e=some z) (jP:z.length=s) (hm:m*s<=16777216) (RG:DK I 0 parts.toList vs) (hvl:vs.length=m) (hc:∀v∈vs,v.cells?=some v.cells/\v.cells.length=s) (B:∀k,I.put dst (.win k 0 0 m s)=aA k) (h:∀k R,S.bs.length<=k->Has N S R (.ai (.win k 0 0 m s) s (vs.map WA)::H)->u P ops rest (aA k) R Tr):u P ops (⟨some dst,.buildSlice t m parts,ty,pp,a,g⟩::rest) I U Tr:=by
 have hvs:=DJ RG;have hf:=zg (place:=λi=>some (i*s,s)) (λ_=>rfl) vs 0 [] (gu m z) (by simp) (by simp[gu,hvl,jP]) hc
 refine u.go hg rfl (d:=.win U.bs.length 0 0 m s) (st1:=U.push (.mem 0 true (vs.map WA).flatten)) ?_ (B _) (h _ _ O.len (O.rm (by simpa using hvl) rfl (λe he=>by
  obtain⟨v,hv,rfl⟩:=Wk.1 he
  exact(hc v hv).2)))
 simp only[dY,jk,ht,hs,hz,γ];rw[if_pos ⟨jP,hm⟩,hvs];simp only[QC] at hf;rw[hf];rfl
def u.gp {k off} {t:TypeId} (O:Has N S U H) (hg:au ops I ⟨some dst,.load t ao,ty,pp,a,g⟩=some true) (ha:I.ev ao=.ptr k aj off) (hj:H[j]?=some (.box k (.mem aj ar c))) (hr:(c.drop off).take m=r) (hd:da P t r=some (.agg r)) (hm:r.length=m) (B:I.put dst (.agg r)=aA) (h:u P ops rest aA U Tr):u P ops (⟨some dst,.load t ao,ty,pp,a,g⟩::rest) I U Tr:=
 u.mZ O hg ha hj (oi (r:=r) (by rw[hm];exact hr) hd) B h
def cI {α:Type} {l:List α} {a:α} (h:l[i]?=some a):i<l.length:=by
 rcases ο i l.length with h'|h'
 .exact h'
 rw[η h'] at h;cases h
def u.mr {t:TypeId} (hg:au ops I ⟨some dst,.load t ao,ty,pp,a,g⟩=some true) (ha:I.ev ao=x) (hR:iW U x r) (hd:da P t r=some (.agg r)) (B:I.put dst (.agg r)=aA) (h:u P ops rest aA U Tr):u P ops (⟨some dst,.load t ao,ty,pp,a,g⟩::rest) I U Tr:=u.nF hg ha hR hd B h
variable{es:List (List D)}
def u.Az {t:TypeId} {y} (O:Has N S U H) (hg:au ops I ⟨some dst,.load t ao,ty,pp,a,g⟩=some true) (ha:I.ev ao=y) (hR:kz x s i 0 y) (hj:H[j]?=some (.ai x s es)) (hr:es[i]?=some r) (hd:da P t r=some (.agg r)) (B:I.put dst (.agg r)=aA) (h:u P ops rest aA U Tr):u P ops (⟨some dst,.load t ao,ty,pp,a,g⟩::rest) I U Tr:=u.o9 O hg ha hR hj hr (by rw[Q4];exact hd) B h
variable{z:Int}
def u.uE {t jT:TypeId} {xo} {x} (hg:au ops I ⟨some dst,.binOp .add t xo yo jT,ty,pp,a,g⟩=some true) (hx:I.ev xo=.int k x) (hy:I.ev yo=.int k y) (hz:aR k (x+y)=z) (B:I.put dst (.int k z)=aA) (h:u P ops rest aA U Tr):u P ops (⟨some dst,.binOp .add t xo yo jT,ty,pp,a,g⟩::rest) I U Tr:=by
 refine u.go hg rfl (d:=.int k z) (st1:=U) ?_ B h;simp[dY,hx,hy,iC,xB,if_pos trivial,hz,reduceIte]
def u.Aa {t jT:TypeId} {xo} {x} (hg:au ops I ⟨some dst,.binOp .sub t xo yo jT,ty,pp,a,g⟩=some true) (hx:I.ev xo=.int k x) (hy:I.ev yo=.int k y) (hz:aR k (x-y)=z) (B:I.put dst (.int k z)=aA) (h:u P ops rest aA U Tr):u P ops (⟨some dst,.binOp .sub t xo yo jT,ty,pp,a,g⟩::rest) I U Tr:=by
 refine u.go hg rfl (d:=.int k z) (st1:=U) ?_ B h;simp[dY,hx,hy,iC,xB,if_pos trivial,hz,reduceIte]
def u.vT {t jT:TypeId} {xo} {x} (hg:au ops I ⟨some dst,.binOp .mul t xo yo jT,ty,pp,a,g⟩=some true) (hx:I.ev xo=.int k x) (hy:I.ev yo=.int k y) (hz:aR k (x*y)=z) (B:I.put dst (.int k z)=aA) (h:u P ops rest aA U Tr):u P ops (⟨some dst,.binOp .mul t xo yo jT,ty,pp,a,g⟩::rest) I U Tr:=by
 refine u.go hg rfl (d:=.int k z) (st1:=U) ?_ B h;simp[dY,hx,hy,iC,xB,if_pos trivial,hz,reduceIte]
def u.U' {t jT:TypeId} {xo} {y} {b} (hg:au ops I ⟨some dst,.binOp .neq t xo yo jT,ty,pp,a,g⟩=some true) (hx:I.ev xo=x) (hy:I.ev yo=y) (F:iC P .neq t x y=some (.bool b)) (B:I.put dst (.bool b)=aA) (h:u P ops rest aA U Tr):u P ops (⟨some dst,.binOp .neq t xo yo jT,ty,pp,a,g⟩::rest) I U Tr:=by
 refine u.go hg rfl (d:=.bool b) (st1:=U) ?_ B h;simp[dY,hx,hy,F]
variable{body:Code}{args loc:List D}
def Ev.sv {x:Fi} {U} {Nj:D->St->Prop} (hq:fT f P.uO=none) (hf:P.fi f=some x) (B:x.jG=none) (F:x.fn.body=some body) (LP:pad x.nloc args=⟨n,loc,[]⟩) (h:ah P x.dyn body ⟨n,loc,[]⟩ (aw x.mode U) λo I st1=>(∀i,o≠.exit i)/\∃ds d R,jr P I st1 x.fn.results.toList=some ds/\cZ x.mode x.knul U st1 (qP ds)=some (d,R)/\Nj d R):∃d R,Ev P f args U d R/\Nj d R:=by
 unfold ah at h;obtain⟨o,aA,st1,hN,ho,ds,d,R,hr,hl,LO⟩:=h;refine⟨d,R,Ev.sU hq hf B F LP ?_,LO⟩;unfold ah;exact⟨o,aA,st1,hN,ho,ds,hr,hl⟩
def Nn (zB:Fr->St->Prop) (Tr:Out->Fr->St->Prop):Out->Fr->St->Prop
 | .next,I,U=>zB I U
 | .exit i,I,U=>Tr (.exit i) I U
 | .ret,I,U=>Tr .ret I U
variable{dy:Dy}
def ah.merge {P} {c} {I} {U} {Tr:Out->Fr->St->Prop} (zB:Fr->St->Prop) (h1:ah P dy c I U (Nn zB Tr)) (X:∀aA R,zB aA R->Tr .next aA R):ah P dy c I U Tr:=
 h1.mono λo aA R h=>by
  cases o with
  |next=>exact X _ _ h
  |exit i=>exact h
  |ret=>exact h
def u.acT {t jT:TypeId} {xo} {x y:Nat} (hg:au ops I ⟨some dst,.binOp .add t xo yo jT,ty,pp,a,g⟩=some true) (hx:I.ev xo=.int .i64 (x:Nat)) (hy:I.ev yo=.int .i64 (y:Nat)) (X:x+y<=9223372036854775807) (B:I.put dst (.int .i64 ((x+y:Nat):Int))=aA) (h:u P ops rest aA U Tr):u P ops (⟨some dst,.binOp .add t xo yo jT,ty,pp,a,g⟩::rest) I U Tr:=
 u.uE hg hx hy (by rw[wrap_i64 (by omega) (by omega)];rfl) B h
def u.Zg {t jT:TypeId} {xo} {x y:Nat} (hg:au ops I ⟨some dst,.binOp .sub t xo yo jT,ty,pp,a,g⟩=some true) (hx:I.ev xo=.int .i64 (x:Nat)) (hy:I.ev yo=.int .i64 (y:Nat)) (X:y<=x) (hm:x<=9223372036854775807) (B:I.put dst (.int .i64 ((x-y:Nat):Int))=aA) (h:u P ops rest aA U Tr):u P ops (⟨some dst,.binOp .sub t xo yo jT,ty,pp,a,g⟩::rest) I U Tr:=
 u.Aa hg hx hy (by rw[wrap_i64 (by omega) (by omega)];omega) B h
def Ev.Yz {x:Fi} {U} {Nj:D->Prop} (hq:fT f P.uO=none) (hf:P.fi f=some x) (B:x.jG=none) (F:x.fn.body=some body) (LP:pad x.nloc args=⟨n,loc,[]⟩) (h:ah P x.dyn body ⟨n,loc,[]⟩ (aw x.mode U) λo I st1=>(∀i,o≠.exit i)/\∃ds d,jr P I st1 x.fn.results.toList=some ds/\cZ x.mode x.knul U st1 (qP ds)=some (d,U)/\Nj d):∃d,Ev P f args U d U/\Nj d:=by
 unfold ah at h;obtain⟨o,aA,st1,hN,ho,ds,d,hr,hl,LO⟩:=h;refine⟨d,Ev.sU hq hf B F LP ?_,LO⟩;unfold ah;exact⟨o,aA,st1,hN,ho,ds,hr,hl⟩
def aC (loc:List D) (ws:List Nat) (f:Nat->D):List D:=ws.foldl (λl w=>l.set w (f w)) loc
def ah.ni {P} {d n loc tmp U} {Tr:Out->Fr->St->Prop} t v ws (h1:u P l.toArray l ⟨n,loc,[]⟩ U λaA R=>∃f tmp,aA=⟨n,(aC loc ws f).set t v,tmp⟩/\R=U) (X:∀f tmp,Tr .next ⟨n,(aC loc ws f).set t v,tmp⟩ U) (h0:iR i dy=[]:=by rfl):ah P dy (.region i l.toArray d) ⟨n,loc,tmp⟩ U Tr:=by
 refine ah.jy ?_ h0;unfold u at h1|-;obtain⟨aA,R,h3,f,UK,rfl,rfl⟩:=h1;exact⟨_,_,h3,X _ _⟩
def ah.dM {P} {d n loc tmp U} {Tr:Out->Fr->St->Prop} t (v:D) ws (h1:u P l.toArray l ⟨n,loc,[]⟩ U λaA R=>∃f tmp,aA=⟨n,aC loc ws f,tmp⟩/\R=U/\look t tmp=v) (X:∀f tmp,look t tmp=v->Tr .next ⟨n,aC loc ws f,tmp⟩ U) (h0:iR i dy=[]:=by rfl):ah P dy (.region i l.toArray d) ⟨n,loc,tmp⟩ U Tr:=by
 refine ah.jy ?_ h0;unfold u at h1|-;obtain⟨aA,R,h3,f,UK,rfl,rfl,h4⟩:=h1;exact⟨_,_,h3,X _ _ h4⟩
variable{z_:List (Nat×D)}{ws:List Nat}
def we {L} {v} {U:St} (h:L=(aC loc ws (λk=>nth .cT L k)).set t v):∃(f:Nat->D) (tmp:List (Nat×D)),(⟨n,L,z_⟩:Fr)=⟨n,(aC loc ws f).set t v,tmp⟩/\U=U:=⟨_,z_,by rw[<-h],rfl⟩
def ax {L} {v:D} {U:St} (h:L=aC loc ws (λk=>nth .cT L k)) (X:look t z_=v):∃(f:Nat->D) (tmp:List (Nat×D)),(⟨n,L,z_⟩:Fr)=⟨n,aC loc ws f,tmp⟩/\U=U/\look t tmp=v:=⟨_,z_,by rw[<-h],rfl,X⟩
variable{fi fj:Fr}{si oo sj Ad:St}
def jQ {x y:Oper} {a} {k off v} (hy:fQ y.op=none) (hx:fQ x.op=some a) (ha:fi.ev a=.ptr k aj off) (h1:sj.bs[k]?=some (.mem v ar c)) (X:Ad.bs[k]?=some (.mem v ar c)) (h3:si.bs[k]?=some (.mem v ar c)) (hr:refs c=0):fh x fi si oo y fj sj Ad=true:=by
 unfold fh;simp[hy,hx,ha,D.mO];refine⟨lF h1 X,?_⟩;unfold mi;simp[h3,hr]
 split;·rfl
 simp
def xf {x y:Oper} {a} (hy:fQ y.op=none) (hx:fQ x.op=some a) (ha:(fi.ev a).mO=none):fh x fi si oo y fj sj Ad=true:=by
 unfold fh;simp[hy,hx,ha,py,mi]
def fJ (x:D) (s:Nat) (es:List (List D)):Prop:=(x=.nul/\es=[])\/∃ds,x=.sl ds/\ds.map WA=es/\∀d∈ds,d.cells?=some d.cells/\d.cells.length=s
def fJ.rows (h:fJ x s es) U:Rows U s x es:=by
 rcases h with⟨rfl,rfl⟩|⟨ds,rfl,rfl,h⟩
 .exact .nul
 exact .sl ds h
theorem fJ.ref (h:fJ x s es):x.ref=0:=by
 rcases h with⟨rfl,rfl⟩|⟨ds,rfl,rfl,h⟩<;>rfl
def fJ.arg (h:fJ x s es) N S:Arg N S s x es:=⟨h.rows S,by rw[h.ref];omega⟩
theorem fJ.cells (h:fJ x s es):x.cells?=some [x]/\x.cells=[x]:=by
 rcases h with⟨rfl,rfl⟩|⟨ds,rfl,rfl,h⟩<;>exact⟨rfl,rfl⟩
def fJ.freeze (h:fJ x s es) U (N n:Nat):∃y,aB U N false (n+1) x=some y/\fJ y s es:=by
 rcases h with⟨rfl,rfl⟩|⟨ds,rfl,rfl,h⟩
 .exact⟨.sl [],rfl,.inr ⟨[],rfl,rfl,λd hd=>by cases hd⟩⟩
 exact⟨.sl ds,rfl,.inr ⟨ds,rfl,rfl,h⟩⟩
theorem fJ.frozen (h:∀e∈es,e.length=s) (B:∀e∈es,∀d∈e,cv d=true):fJ (.sl (es.map (jK s))) s es:=by
 refine .inr ⟨_,rfl,?_,λd hd=>?_⟩
 .rw[YD]
  conv=>rhs;rw[<-Ym es]
  refine ZE λe he=>?_;exact(oP (h e he) (B e he)).2
 obtain⟨e,he,rfl⟩:=Wk.1 hd;obtain⟨h1,X⟩:=oP (h e he) (B e he);exact⟨h1,by rw[X];exact h e he⟩
theorem fJ.part {P:Pv} {U} {t e:TypeId} {l r} {lo hi} (h:fJ x s es) (ht:P.cF t=some (.slice e)) (hs:bS P e=some s) (F:cL es.length lo hi=some (l,r)):∃y,ib P t x lo hi U=some y/\fJ y s ((es.take r).drop l):=by
 rcases h with⟨rfl,rfl⟩|⟨ds,rfl,rfl,h⟩
 .simp at F;refine⟨.nul,?_,.inl ⟨rfl,by simp⟩⟩;simp[ib,ht,hs,F]
 rw[Y1] at F;refine⟨.sl ((ds.take r).drop l),?_,.inr ⟨_,rfl,by rw[YX,YZ],λd hd=>h d (ZC (ZD hd))⟩⟩;simp only[ib,ht,hs,γ]
 rw[if_pos (by
  cases ds with
  |nil=>rfl
  |cons d ds=>obtain⟨h1,X⟩:=h d (θ ..);simp[wL,h1,X])]
 simp[F]
def u.KM {P:Pv} {ops} {rest} {I:Fr} {U} {Tr:Fr->St->Prop} {ty:TypeId} {pp:String} {a:Array Edge} {g:Option (Nat×Bool)} {dst} {t e:TypeId} {xo} {lo hi:Option Operand} {l r} {aA:D->Fr} (hg:au ops I ⟨some dst,.slice t xo lo hi none,ty,pp,a,g⟩=some true) (hx:I.ev xo=x) (hR:fJ x s es) (ht:P.cF t=some (.slice e)) (hs:bS P e=some s) (F:cL es.length (lo.map I.ev) (hi.map I.ev)=some (l,r)) (B:∀y,I.put dst y=aA y) (h:∀y,fJ y s ((es.take r).drop l)->u P ops rest (aA y) U Tr):u P ops (⟨some dst,.slice t xo lo hi none,ty,pp,a,g⟩::rest) I U Tr:=by
 obtain⟨y,h1,X⟩:=hR.part (U:=U) ht hs F;refine u.go hg rfl (d:=y) (st1:=U) ?_ (B y) (h y X);simp[dY,hx,h1]
end Go.V
namespace Go.V
inductive dt {α β:Type} (af:α->β->Prop):List α->List β->Prop where
 |nil:dt af [] []
 |cons {a:α} {b:β} {l:List α} {m:List β} (h:af a b) (t:dt af l m):dt af (a::l) (b::m)
def dt.mono {α β:Type} {af R':α->β->Prop} (h:∀a b,af a b->R' a b):∀{l:List α} {m:List β},dt af l m->dt R' l m
 |_,_,.nil=>.nil
 |_,_,.cons a t=>.cons (h _ _ a) (t.mono h)
def dt.append {α β:Type} {af:α->β->Prop}:∀{l l':List α} {m m':List β},dt af l m->dt af l' m'->dt af (l++l') (m++m')
 |_,_,_,_,.nil,h=>h
 |_,_,_,_,.cons a t,h=>.cons a (t.append h)
theorem dt.len {α β:Type} {af:α->β->Prop}:∀{l:List α} {m:List β},dt af l m->l.length=m.length
 |_,_,.nil=>rfl
 |_,_,.cons a t=>by simp[t.len]
def Lz:D->Bool
 | .sl _=>true
 |_=>false
inductive gF (bb:Bool) (U:St) (ks:Nat->Prop):D->D->Prop where
 |plain (d:D) (h:cv d=true) (X:(!(Lz d)||bb)=true:=by rfl):gF bb U ks d d
 |ai (w:D) (s:Nat) (rs:List (List D)) (h:iX U s w rs) (B:∀e∈rs,∀d∈e,cv d=true) (A:∀k,w.ref=k+1->ks k):gF bb U ks w (.sl (rs.map (jK s)))
abbrev Yl:=gF true
variable{bb:Bool}
variable{ks:Nat->Prop}{d v:D}
def gF.mono {U} {Vk:Nat->Prop} (h:∀k,ks k->Vk k) (p:gF bb U ks d v):gF bb U Vk d v:=by
 cases p with
 |plain h X=>exact .plain d h X
 |ai s rs h1 X h3=>exact .ai d s rs h1 X λk A=>h k (h3 k A)
def gF.move {U R:St} (h:∀k,ks k->R.bs[k]?=U.bs[k]?) (p:gF bb U ks d v):gF bb R ks d v:=by
 cases p with
 |plain h X=>exact .plain d h X
 |ai s rs h1 X h3=>exact .ai d s rs (h1.move λk A=>h k (h3 k A)) X h3
variable{s:Nat}{x:D}{es:List (List D)}
def iX.UU {U} {N} (h:iX U s x es) (hN:∀k,x.ref=k+1->N<=k) (B:∀e∈es,∀d∈e,cv d=true) (n:Nat):b_ U N (n+2) x=some (.sl (es.map (jK s))):=by
 cases h with
 |nul=>rfl
 |win k aj off es c hm hl hc he=>
  have:=hN k (by simp[φ]);rw[b_];simp only[if_neg (show¬k<N by omega),St.mem_of hm,γ]
  rw[if_pos hl,hc,jZ (λd hd=>by
   obtain⟨e,t_,sG⟩:=WM.1 hd
   exact B e t_ d sG)]
  simp[fY he]
def gF.pure {U} {N} (hN:∀k,ks k->N<=k) (p:gF bb U ks d v) (n:Nat):b_ U N (n+2) d=some v:=by
 cases p with
 |plain h X=>cases d<;>simp[cv] at h<;>rfl
 |ai s rs h1 X h3=>exact h1.UU (λk A=>hN k (h3 k A)) X n
theorem yN {f:D->Option D} {af:D->D->Prop} (h:∀a b,af a b->f a=some b):∀{l m:List D},dt af l m->cE f l=some m
 |_,_,.nil=>rfl
 |_,_,.cons a t=>by simp[cE,h _ _ a,yN h t]
theorem dt.flat {af:D->D->Prop}:∀{l m:List (List D)},dt (dt af) l m->dt af l.flatten m.flatten
 |_,_,.nil=>.nil
 |_,_,.cons a t=>by simp;exact a.append t.flat
def dt.each {af:D->D->Prop}:∀{l m:List (List D)},dt (dt af) l m->(∀e∈l,e.length=s)->∀e∈m,e.length=s
 |_,_,.nil,_,e,he=>by cases he
 |_,_,.cons a t,h,e,he=>by
  rcases X9.1 he with rfl|he
  .rw[<-a.len];exact h _ (θ ..)
  exact t.each (λx hx=>h x (κ _ hx)) e he
def aX.emp:aX:=⟨λ_=>False,λ_=>True,λ_ p=>p⟩
def aX.cM (bb:Bool) (ks:Nat->Prop) (x:D) (s:Nat) (vs:List (List D)):aX:=
 ⟨λj=>x.ref=j+1\/ks j,λU=>(∃es,iX U s x es/\dt (dt (gF bb U ks)) es vs)/\∀k,x.ref=k+1->¬ks k,λh p=>by
  obtain⟨⟨es,h1,X⟩,h3⟩:=p
  exact⟨⟨es,h1.move λk A=>h k (.inl A),X.mono λa b=>dt.mono λc d=>gF.move λk A=>h k (.inr A)⟩,h3⟩⟩
abbrev aX.deep:=aX.cM true
variable{N:Nat} {S U:St} {H:List aX}
def Has.Rv (h:Has N S U H) s (bb:Bool:=true):Has N S U (.cM bb (λ_=>False) .nul s []::H):=
 h.add (λ_ _=>rfl) (ς _) rfl rfl ⟨⟨[],.nul,.nil⟩,λk A=>by simp only[φ] at A;omega⟩ λk A=>by
  rcases A with A|A
  .simp only[φ] at A;omega
  exact A.elim
variable{i j:Nat}{vs:List (List D)}
def Has.Ng {w:D} {sw} {rs:List (List D)} (h:Has N S U H) (hij:i≠j) (hi:H[i]?=some (.ai w sw rs)) (hj:H[j]?=some (.cM bb ks x s vs)) (B:∀e∈rs,∀d∈e,cv d=true):
  Has N S U ((H.set i .emp).set j (.cM bb (λk=>ks k\/w.ref=k+1) x s vs))/\gF bb U (λk=>ks k\/w.ref=k+1) w (.sl (rs.map (jK sw))):=by
 have YF:=h.own hi;obtain⟨⟨es,h1,X⟩,h3⟩:=(h.ok j _ hj).1;have hKi:=(h.ok i _ hi).2;have hKj:=(h.ok j _ hj).2;have abf:=h.dis i j _ _ hij hi hj;refine⟨⟨h.ex,h.hN,h.fx,λn e hn=>?_,λa b ea eb hab ha F k nR iE=>?_⟩,.ai w sw rs YF B λk A=>.inr A⟩
 .by_cases hnj:n=j
  .subst hnj;rw[ι (by rw[QH];exact cI hj)] at hn;cases hn;refine⟨⟨⟨es,h1,X.mono λa b=>dt.mono λc d=>gF.mono λk A=>.inl A⟩,λk A=>?_⟩,λk A=>?_⟩
   .rintro(jn|jn);·exact h3 k A jn
    exact abf k jn (.inl A)
   rcases A with A|A|A
   .exact hKj k (.inl A)
   .exact hKj k (.inr A)
   exact hKi k A
  rw[ζ (λe=>hnj e.symm)] at hn
  by_cases hni:n=i;·subst hni;rw[ι (cI hi)] at hn;cases hn;exact⟨trivial,λk A=>A.elim⟩
  rw[ζ (λe=>hni e.symm)] at hn;exact h.ok n e hn
 have key:∀n e,((H.set i .emp).set j (.cM bb (λk=>ks k\/w.ref=k+1) x s vs))[n]?=some e->∀k,e.K k->(n=j/\((aX.cM bb ks x s vs).K k\/(aX.ai w sw rs).K k))\/(n≠j/\n≠i/\H[n]?=some e):=by
  intro n e hn k A
  by_cases hnj:n=j
  .subst hnj;rw[ι (by rw[QH];exact cI hj)] at hn;cases hn;refine .inl ⟨rfl,?_⟩
   rcases A with A|A|A
   .exact .inl (.inl A)
   .exact .inl (.inr A)
   exact .inr A
  rw[ζ (λe=>hnj e.symm)] at hn
  by_cases hni:n=i;·subst hni;rw[ι (cI hi)] at hn;cases hn;exact A.elim
  rw[ζ (λe=>hni e.symm)] at hn;exact .inr ⟨hnj,hni,hn⟩
 rcases key a ea ha k nR with⟨h4,h5⟩|⟨h4,h5,h6⟩<;>rcases key b eb F k iE with⟨g4,g5⟩|⟨g4,g5,g6⟩
 .exact hab (h4.trans g4.symm)
 .rcases h5 with h5|h5
  .exact h.dis j b _ _ (λe=>g4 e.symm) hj g6 k h5 iE
  exact h.dis i b _ _ (λe=>g5 e.symm) hi g6 k h5 iE
 .rcases g5 with g5|g5
  .exact h.dis a j _ _ h4 h6 hj k nR g5
  exact h.dis a i _ _ h5 h6 hi k nR g5
 exact h.dis a b _ _ hab h6 g6 k nR iE
variable{P:Pv}{y:D}{ys UC:List (List D)}{z:List D}
def Has.rW (O:Has N S U H) (hj:H[j]?=some (.cM bb ks x s vs)) (hy:Rows U s y ys) (hd:dt (dt (gF bb U ks)) ys UC) {t1 t2 e:TypeId} {td:TypeDesc} {inf:TypeInfo} (h1:P.cF t1=some (.slice e)) (X:P.cF t2=some td) (h3:fp td=false) (h4:P.info e=some inf) (h5:cO P e=some z) (h6:inf.size=s) (h7:z.length=s) (h8:0<inf.bytes/\inf.bytes<=1024) (qM:vs.length+ys.length<=1073741824) (hw:S.flr<=N\/refs ys.flatten=0):
  ∃x' R,bA P .append [t1,t2] [x,y] U=some (x',R)/\Has N S R (H.set j (.cM bb ks x' s (vs++UC))):=by
 obtain⟨⟨es,he1,Bc⟩,he3⟩:=(O.ok j _ hj).1;have hK:=(O.ok j _ hj).2;have hlen:=Bc.len
 have JK:Has N S U [.ai x s es]:=by
  refine⟨O.ex,O.hN,O.fx,λi e hi=>?_,λi i' a b hii ha F k nR iE=>?_⟩
  .cases i with
   |zero=>simp at hi;subst hi;exact⟨he1,λk A=>hK k (.inl A)⟩
   |succ i=>simp at hi
  cases i with
  |zero=>cases i' with
   |zero=>exact hii rfl
   |succ i'=>simp at F
  |succ i=>simp at ha
 obtain⟨x',R,q1,q2,q3⟩:=JK.append (j:=0) aV hy h1 X h3 h4 h5 h6 h7 h8 (by omega) hw;refine⟨x',R,q1,?_⟩;have hown:=q2.own (j:=0) aV
 have hch:(∀k,k<U.bs.length->x.ref≠k+1->R.bs[k]?=U.bs[k]?)/\U.bs.length<=R.bs.length/\R.flr=U.flr/\R.ro=U.ro/\(∀k,x'.ref=k+1->x.ref=k+1\/U.bs.length<=k):=by
  have jI:=hy.row
  have sx:∀e∈ys,e.length=s:=λe he=>by
   obtain⟨i,hi⟩:=Qu he;exact hy.DM i e hi
  simp only[bA,dK,h1,X,h3,Wz,if_false,h4,h5,jI,γ] at q1
  split at q1;·cases q1
  cases he1 with
  |nul=>
   simp only at q1
   split at q1;·cases q1;exact⟨λ_ _ _=>rfl,ς _,rfl,rfl,λk A=>.inl A⟩
   split at q1;·cases q1;exact⟨λk A _=>by simp[χ];rw[μ A],by simp[χ],rfl,rfl,λk A=>.inr (by simp only[φ] at A;omega)⟩
   cases q1
  |win k aj off es c hm hl hc he=>
   simp only[St.mem_of hm] at q1
   split at q1;·cases q1
   split at q1;·cases q1;exact⟨λ_ _ _=>rfl,ς _,rfl,rfl,λk A=>.inl A⟩
   split at q1;·cases q1;exact⟨λn hn hne=>by simp only;rw[ζ (λe=>hne (by simp only[φ];omega))],by simp,rfl,rfl,λn hn=>.inl (by simp only[φ] at hn|-;exact hn)⟩
   cases q1
 obtain⟨c1,c2,c3,c4,c5⟩:=hch;have ZY:=(q2.ok 0 _ aV).2;have Dm:∀k,ks k->R.bs[k]?=U.bs[k]?:=λk A=>c1 k (hK k (.inr A)).2 λe=>he3 k e A;refine O.pt hj (λk A hne=>c1 k A λe=>hne (.inl e)) c2 c3 c4 ⟨⟨es++ys,hown,?_⟩,λk A rQ=>?_⟩ (λk A=>?_) λk A=>?_;·exact(Bc.mono λa b=>dt.mono λc d=>gF.move Dm).append (hd.mono λa b=>dt.mono λc d=>gF.move Dm)
 .rcases c5 k A with h|h
  .exact he3 k h rQ
  have:=(hK k (.inr rQ)).2;omega
 .rcases A with A|A
  .rcases c5 k A with h|h
   .exact .inl (.inl h)
   exact .inr h
  exact .inl (.inr A)
 rcases A with A|A
 .exact(ZY k A).2
 exact QY (hK k (.inr A)).2 c2
variable{ops:Array Oper}{rest:List Oper}{I:Fr}{Tr:Fr->St->Prop}{pp:String}{a:Array Edge}{g:Option (Nat×Bool)}{dst:Nat}
def u.rW {ty:TypeId} {t1 t2 e:TypeId} {td:TypeDesc} {inf:TypeInfo} {xo yo} {aA:D->Fr} (O:Has N S U H) (hg:au ops I ⟨some dst,.call ⟨.builtin .append,#[xo,yo],#[t1,t2]⟩,ty,pp,a,g⟩=some true) (hx:I.ev xo=x) (hy:I.ev yo=y) (hj:H[j]?=some (.cM bb ks x s vs)) (j8:Rows U s y ys) (hd:dt (dt (gF bb U ks)) ys UC) (h1:P.cF t1=some (.slice e)) (X:P.cF t2=some td) (h3:fp td=false) (h4:P.info e=some inf) (h5:cO P e=some z) (h6:inf.size=s) (h7:z.length=s) (h8:0<inf.bytes/\inf.bytes<=1024) (B:∀x',I.put dst x'=aA x') (F:vs.length+ys.length<=1073741824) (hw:S.flr<=N\/refs ys.flatten=0) (h:∀x' R,Has N S R (H.set j (.cM bb ks x' s (vs++UC)))->u P ops rest (aA x') R Tr):
  u P ops (⟨some dst,.call ⟨.builtin .append,#[xo,yo],#[t1,t2]⟩,ty,pp,a,g⟩::rest) I U Tr:=by
 obtain⟨x',R,q1,q2⟩:=O.rW hj j8 hd h1 X h3 h4 h5 h6 h7 h8 F hw;refine u.go hg rfl (d:=x') (st1:=R) ?_ (B _) (h x' R q2);simp[dY,hx,hy];exact q1
variable{n:Nat}
def Has.wR (O:Has N S U H) (hj:H[j]?=some (.cM bb ks x s vs)) (hn:4<=n):aB U N false (n+1) x=some (.sl (vs.map (jK s))):=by
 obtain⟨n,rfl⟩:∃m,n=m+4:=⟨n-4,by omega⟩
 obtain⟨⟨es,h1,X⟩,h3⟩:=(O.ok j _ hj).1;have hK:=(O.ok j _ hj).2
 cases h1 with
 |nul=>cases X;rfl
 |win k aj off es c hm hl hc he=>
  have A:=hK k (.inl (by simp[φ]));show(if k<N then some (D.win k aj off es.length s) else b_ U N (n+4) (.win k aj off es.length s))=_;rw[if_neg (show¬k<N by omega),b_];simp only[if_neg (show¬k<N by omega),St.mem_of hm,γ];rw[if_pos hl,hc,yN (λa b hab=>hab.pure (λk A=>(hK k (.inr A)).1) (n+1)) X.flat];simp only[WN];rw[X.len,fY (X.each he)]
def Has.oM (O:Has N S U H) (hj:H[j]?=some (.ai x s es)) (B:∀e∈es,∀d∈e,cv d=true) (hn:3<=n):aB U N false n x=some (.sl (es.map (jK s))):=by
 obtain⟨n,rfl⟩:∃m,n=m+1:=⟨n-1,by omega⟩
 exact O.freeze hj B (by omega)
variable{k aj:Nat}{ar:Bool}{c:List D}
def Has.bm {a off} {t:TypeId} (O:Has N S U H) (ha:I.get a=.ptr k aj off) (hj:H[j]?=some (.box k (.mem aj ar c))) (hd:da P t (c.drop off)=some d):jr P I U [.cell a t]=some [d]:=by
 simp[jr,gy,ha,St.mem_of (O.at hj),hd]
theorem iX.cells (h:iX U s x es):x.cells?=some [x]:=by cases h<;>rfl
def Has.w9 (O:Has N S U H) (hj:H[j]?=some (.cM bb ks x s vs)):x.cells?=some [x]:=by
 obtain⟨⟨es,h1,_⟩,_⟩:=(O.ok j _ hj).1;exact h1.cells
def Has.dv (O:Has N S U H) (hj:H[j]?=some (.ai x s es)):x.cells?=some [x]:=(O.own hj).cells
variable{aA:Fr}
def u.Zq {ty:TypeId} {t e:TypeId} {xo io} {kk} {r} (hg:au ops I ⟨some dst,.indexAddr t xo io,ty,pp,a,g⟩=some true) (hx:I.ev xo=x) (hi:I.ev io=.int kk (i:Nat)) (hR:fJ x s es) (ht:P.cF t=some (.slice e)) (hs:bS P e=some s) (hr:es[i]?=some r) (B:I.put dst (.ep r)=aA) (h:iW U (.ep r) r->u P ops rest aA U Tr):u P ops (⟨some dst,.indexAddr t xo io,ty,pp,a,g⟩::rest) I U Tr:=by
 refine u.go hg rfl (d:=.ep r) (st1:=U) ?_ B (h (.inr ⟨r,rfl,ω ..⟩))
 rcases hR with⟨rfl,rfl⟩|⟨ds,rfl,rfl,hd⟩
 .simp at hr
 rw[QK] at hr;obtain⟨d,wM,rfl⟩:=Γ.1 hr;obtain⟨h1,X⟩:=hd d (ρ wM);simp[dY,hx,hi,cn,ht,hs,if_pos (show(0:Int)<=(i:Nat) by omega),wM,h1,if_pos X]
def Bm (I:Fr):List (Nat×Operand)->List (Nat×D)->Prop
 |[],[]=>True
 |(i,o)::ps,(j,d)::qs=>i=j/\I.ev o=d/\d.cells?=some [d]/\Bm I ps qs
 |_,_=>False
def zf {I:Fr} {pl:Nat->Option (Nat×Nat)}:∀{ps:List (Nat×Operand)} {qs:List (Nat×D)} {z:List D},Bm I ps qs->(∀q∈qs,pl q.1=some (q.1,1)/\q.1<z.length)->iK pl z (ps.map λp=>(p.1,I.ev p.2))=some (qs.foldl (λl q=>l.set q.1 q.2) z)
 |[],[],z,_,_=>rfl
 |(i,o)::ps,(j,d)::qs,z,h,B=>by
  obtain⟨rfl,X,h3,h4⟩:=h;obtain⟨h5,h6⟩:=B (i,d) (θ ..);simp only[Q9,iK,X,h3,h5,List.foldl_cons];rw[if_neg (by simp only[Ξ,X7];simp only at h6;omega)];simp[setMany]
  exact zf h4 λq hq=>by
   have:=B q (κ _ hq)
   simpa using this
 |[],_::_,_,h,_=>h.elim
 |_::_,[],_,h,_=>h.elim
def u.U5 {ty:TypeId} {t:TypeId} {parts:Array (Nat×Operand)} {cs} {fields:Array Field} {ps} {qs:List (Nat×D)} (hg:au ops I ⟨some dst,.build t parts,ty,pp,a,g⟩=some true) (hz:cO P t=some z) (hu:P.cF t=some (.struct fields)) (AW:mw P fields.toList=some ps) (he:Bm I parts.toList qs) (eY:∀q∈qs,ps[q.1]?=some (q.1,1)/\q.1<z.length) (hcs:qs.foldl (λl q=>l.set q.1 q.2) z=cs) (B:I.put dst (.agg cs)=aA) (h:u P ops rest aA U Tr):u P ops (⟨some dst,.build t parts,ty,pp,a,g⟩::rest) I U Tr:=by
 refine u.go hg rfl (d:=.agg cs) (st1:=U) ?_ B h;simp only[dY,tq,hz,hu,AW];rw[zf (pl:=λi=>ps[i]?) he eY,hcs];rfl
def u.A5 {ty:TypeId} {t e:TypeId} {aA:Nat->Fr} (O:Has N S U H) (hg:au ops I ⟨some dst,.buildSlice t 0 #[],ty,pp,a,g⟩=some true) (ht:P.cF t=some (.slice e)) (hs:bS P e=some s) (hz:cO P e=some z) (jP:z.length=s) (B:∀k,I.put dst (.win k 0 0 0 s)=aA k) (h:∀k R,S.bs.length<=k->Has N S R (.ai (.win k 0 0 0 s) s []::H)->u P ops rest (aA k) R Tr):u P ops (⟨some dst,.buildSlice t 0 #[],ty,pp,a,g⟩::rest) I U Tr:=
 u.L4 (vs:=[]) O hg ht hs hz jP (by omega) trivial rfl (λv hv=>by cases hv) B h
def Has.ra {a off aa} {t:TypeId} {e:D} (O:Has N S U H) (ha:I.get a=.ptr k aj off) (hj:H[j]?=some (.box k (.mem aj ar c))) (hd:da P t (c.drop off)=some d) (he:I.get aa=e):jr P I U [.cell a t,.tmp aa]=some [d,e]:=by
 simp[jr,gy,ha,St.mem_of (O.at hj),hd,he]
end Go.V
namespace Go.V
variable{P:Pv} {ops:Array Oper} {rest:List Oper} {I aA:Fr} {U st1:St} {Tr:Fr->St->Prop} {ty:TypeId} {pp:String} {a:Array Edge} {g:Option (Nat×Bool)} {dst:Nat} {N:Nat} {S:St} {H:List aX} {d:D} {op:Op}
def qm {op:Op} {x} {d} (h:u P ops rest aA U Tr) (hop:op=.move x\/op=.assign x:=by first|exact .inl rfl|exact .inr rfl) (hg:au ops I ⟨some dst,op,ty,pp,a,g⟩=some true:=by exact rfl) (hx:I.ev x=d:=by exact ev rfl) (B:I.put dst d=aA:=by first|exact ae rfl _|(dsimp only[Fr.put,List.set_cons_succ,List.set_cons_zero]<;>rfl)):u P ops (⟨some dst,op,ty,pp,a,g⟩::rest) I U Tr:=
 u.mv (hop:=hop) (hg:=hg) (hx:=hx) (B:=B) (h:=h)
def qs {op:Op} (h:u P ops rest aA U Tr) (hg:au ops I ⟨some dst,op,ty,pp,a,g⟩=some false:=by exact rfl) (B:I.put dst (.tup [])=aA:=by first|exact ae rfl _|(dsimp only[Fr.put,List.set_cons_succ,List.set_cons_zero]<;>rfl)):u P ops (⟨some dst,op,ty,pp,a,g⟩::rest) I U Tr:=
 u.skip (hg:=hg) (B:=B) (h:=h)
variable{k aj o f fo m:Nat}{fields:Array Field}
def qp {t:TypeId} {xo} {off} (h:u P ops rest aA U Tr) (hg:au ops I ⟨some dst,.fieldAddr t xo f,ty,pp,a,g⟩=some true:=by exact rfl) (hx:I.ev xo=.ptr k aj off:=by exact ev rfl) (ht:P.cF t=some (.struct fields):=by exact rfl) (hf:kb P fields f=some (fo,some (m+1)):=by exact rfl) (ho:off+fo=o:=by exact rfl) (B:I.put dst (.ptr k aj o)=aA:=by first|exact ae rfl _|(dsimp only[Fr.put,List.set_cons_succ,List.set_cons_zero]<;>rfl)):u P ops (⟨some dst,.fieldAddr t xo f,ty,pp,a,g⟩::rest) I U Tr:=
 u.pK (hg:=hg) (hx:=hx) (ht:=ht) (hf:=hf) (ho:=ho) (B:=B) (h:=h)
variable{j:Nat}{ar:Bool}{ao:Operand}
def ql {off} {c:List D} {d} {t:TypeId} (O:Has N S U H) (hj:H[j]?=some (.box k (.mem aj ar c))) (h:u P ops rest aA U Tr) (hg:au ops I ⟨some dst,.load t ao,ty,pp,a,g⟩=some true:=by exact rfl) (ha:I.ev ao=.ptr k aj off:=by exact ev rfl) (hd:da P t (c.drop off)=some d:=by exact rfl) (B:I.put dst d=aA:=by first|exact ae rfl _|(dsimp only[Fr.put,List.set_cons_succ,List.set_cons_zero]<;>rfl)):u P ops (⟨some dst,.load t ao,ty,pp,a,g⟩::rest) I U Tr:=
 u.mZ (O:=O) (hg:=hg) (ha:=ha) (hj:=hj) (hd:=hd) (B:=B) (h:=h)
def qg {op} {d} {st1} (h:u P ops rest aA st1 Tr) (hg:au ops I ⟨some dst,op,ty,pp,a,g⟩=some true:=by exact rfl) (hc:j7 op=false:=by exact rfl) (h1:dY P I U op ty=some (d,st1):=by exact rfl) (B:I.put dst d=aA:=by first|exact ae rfl _|(dsimp only[Fr.put,List.set_cons_succ,List.set_cons_zero]<;>rfl)):u P ops (⟨some dst,op,ty,pp,a,g⟩::rest) I U Tr:=
 u.go (hg:=hg) (hc:=hc) (h1:=h1) (B:=B) (h:=h)
variable{x:D}{s:Nat}{es:List (List D)}
def qn {t e:TypeId} {xo} (h:u P ops rest aA U Tr) (hg:au ops I ⟨some dst,.call ⟨.builtin .len,#[xo],#[t]⟩,ty,pp,a,g⟩=some true:=by exact rfl) (hx:I.ev xo=x:=by exact ev rfl) (hR:Rows U s x es:=by exact Arg.rows (by assumption) (by assumption)) (ht:P.cF t=some (.slice e):=by exact rfl) (B:I.put dst (.int .i64 (es.length:Nat))=aA:=by first|exact ae rfl _|(dsimp only[Fr.put,List.set_cons_succ,List.set_cons_zero]<;>rfl)):u P ops (⟨some dst,.call ⟨.builtin .len,#[xo],#[t]⟩,ty,pp,a,g⟩::rest) I U Tr:=
 u.pB (hg:=hg) (hx:=hx) (hR:=hR) (ht:=ht) (B:=B) (h:=h)
variable{io:Operand}{i:Nat}{kk:IntKind}{r:List D}
def qr {t e:TypeId} {xo} {aA:D->Fr} (h:∀p,iW U p r->u P ops rest (aA p) U Tr) (hg:au ops I ⟨some dst,.indexAddr t xo io,ty,pp,a,g⟩=some true:=by exact rfl) (hx:I.ev xo=x:=by exact ev rfl) (hi:I.ev io=.int kk (i:Nat):=by exact ev rfl) (hR:Rows U s x es:=by exact Arg.rows (by assumption) (by assumption)) (ht:P.cF t=some (.slice e):=by exact rfl) (hs:bS P e=some s:=by exact rfl) (hr:es[i]?=some r:=by assumption) (B:∀p,I.put dst p=aA p:=by first|exact λ_=>ae rfl _|exact λ_=>by dsimp only[Fr.put,List.set_cons_succ,List.set_cons_zero]<;>rfl):u P ops (⟨some dst,.indexAddr t xo io,ty,pp,a,g⟩::rest) I U Tr:=
 u.KA (hg:=hg) (hx:=hx) (hi:=hi) (hR:=hR) (ht:=ht) (hs:=hs) (hr:=hr) (B:=B) (h:=h)
def qR {t:TypeId} {d} (h:u P ops rest aA U Tr) (hg:au ops I ⟨some dst,.load t ao,ty,pp,a,g⟩=some true:=by exact rfl) (ha:I.ev ao=x:=by exact ev rfl) (hR:iW U x r:=by assumption) (hd:da P t r=some d:=by exact rfl) (B:I.put dst d=aA:=by first|exact ae rfl _|(dsimp only[Fr.put,List.set_cons_succ,List.set_cons_zero]<;>rfl)):u P ops (⟨some dst,.load t ao,ty,pp,a,g⟩::rest) I U Tr:=
 u.nF (hg:=hg) (ha:=ha) (hR:=hR) (hd:=hd) (B:=B) (h:=h)
def qf {t:TypeId} {xo} {aA:D->Fr} (h:∀p,iW U p (r.drop fo)->u P ops rest (aA p) U Tr) (hg:au ops I ⟨some dst,.fieldAddr t xo f,ty,pp,a,g⟩=some true:=by exact rfl) (hx:I.ev xo=x:=by exact ev rfl) (hR:iW U x r:=by assumption) (ht:P.cF t=some (.struct fields):=by exact rfl) (hf:kb P fields f=some (fo,some (m+1)):=by exact rfl) (B:∀p,I.put dst p=aA p:=by first|exact λ_=>ae rfl _|exact λ_=>by dsimp only[Fr.put,List.set_cons_succ,List.set_cons_zero]<;>rfl):u P ops (⟨some dst,.fieldAddr t xo f,ty,pp,a,g⟩::rest) I U Tr:=
 u.ou (hg:=hg) (hx:=hx) (hR:=hR) (ht:=ht) (hf:=hf) (B:=B) (h:=h)
def qi {t e:TypeId} {xo} {aA:D->Fr} (O:Has N S U H) (hj:H[j]?=some (.ai x s es)) (h:∀p,kz x s i 0 p->u P ops rest (aA p) U Tr) (hg:au ops I ⟨some dst,.indexAddr t xo io,ty,pp,a,g⟩=some true:=by exact rfl) (hx:I.ev xo=x:=by exact ev rfl) (hi:I.ev io=.int kk (i:Nat):=by exact ev rfl) (ht:P.cF t=some (.slice e):=by exact rfl) (hs:bS P e=some s:=by exact rfl) (hr:i<es.length:=by exact cI (by assumption)) (B:∀p,I.put dst p=aA p:=by first|exact λ_=>ae rfl _|exact λ_=>by dsimp only[Fr.put,List.set_cons_succ,List.set_cons_zero]<;>rfl):u P ops (⟨some dst,.indexAddr t xo io,ty,pp,a,g⟩::rest) I U Tr:=
 u.Oq (O:=O) (hg:=hg) (hx:=hx) (hi:=hi) (hj:=hj) (ht:=ht) (hs:=hs) (hr:=hr) (B:=B) (h:=h)
def qo {t:TypeId} {y d} (O:Has N S U H) (hj:H[j]?=some (.ai x s es)) (h:u P ops rest aA U Tr) (hg:au ops I ⟨some dst,.load t ao,ty,pp,a,g⟩=some true:=by exact rfl) (ha:I.ev ao=y:=by exact ev rfl) (hR:kz x s i o y:=by assumption) (hr:es[i]?=some r:=by assumption) (hd:da P t (r.drop o)=some d:=by exact rfl) (B:I.put dst d=aA:=by first|exact ae rfl _|(dsimp only[Fr.put,List.set_cons_succ,List.set_cons_zero]<;>rfl)):u P ops (⟨some dst,.load t ao,ty,pp,a,g⟩::rest) I U Tr:=
 u.o9 (O:=O) (hg:=hg) (ha:=ha) (hR:=hR) (hj:=hj) (hr:=hr) (hd:=hd) (B:=B) (h:=h)
variable{vo:Operand}
def qS {c cs:List D} {v:D} {t:TypeId} (O:Has N S U H) (hj:H[j]?=some (.box k (.mem aj ar c))) (h:∀R,Has N S R (H.set j (.box k (.mem aj ar cs)))->u P ops rest I R Tr) (hg:au ops I ⟨none,.store t ao vo,ty,pp,a,g⟩=some true:=by exact rfl) (ha:I.ev ao=.ptr k aj 0:=by exact ev rfl) (hv:I.ev vo=v:=by exact ev rfl) (hcs:v.cells?=some cs:=by first|rfl|exact(fJ.cells (by assumption)).1) (hs:bS P t=some cs.length:=by exact rfl) (hl:cs.length=c.length:=by exact rfl) (hw:S.flr<=N\/refs cs=0:=by first|exact .inl (by assumption)|exact .inr rfl):u P ops (⟨none,.store t ao vo,ty,pp,a,g⟩::rest) I U Tr:=
 u.cB (O:=O) (hg:=hg) (ha:=ha) (hv:=hv) (hcs:=hcs) (hs:=hs) (hj:=hj) (hl:=hl) (hw:=hw) (h:=h)
def qT {off} {c cs:List D} {v:D} {t:TypeId} (O:Has N S U H) (hj:H[j]?=some (.box k (.mem aj ar c))) (h:∀R,Has N S R (H.set j (.box k (.mem aj ar (setMany c off cs))))->u P ops rest I R Tr) (hg:au ops I ⟨none,.store t ao vo,ty,pp,a,g⟩=some true:=by exact rfl) (ha:I.ev ao=.ptr k aj off:=by exact ev rfl) (hv:I.ev vo=v:=by exact ev rfl) (hcs:v.cells?=some cs:=by first|rfl|exact(fJ.cells (by assumption)).1) (hs:bS P t=some cs.length:=by exact rfl) (hl:off+cs.length<=c.length:=by exact Nat.le_of_ble_eq_true rfl) (hw:S.flr<=N\/refs cs=0:=by first|exact .inl (by assumption)|exact .inr rfl):u P ops (⟨none,.store t ao vo,ty,pp,a,g⟩::rest) I U Tr:=
 u.pZ (O:=O) (hg:=hg) (ha:=ha) (hv:=hv) (hcs:=hcs) (hs:=hs) (hj:=hj) (hl:=hl) (hw:=hw) (h:=h)
def qa {e:TypeId} {cs} {aA:Nat->Fr} (O:Has N S U H) (h:∀k R,S.bs.length<=k->Has N S R (.box k (.mem 0 false cs)::H)->u P ops rest (aA k) R Tr) (hg:au ops I ⟨some dst,.alloc e,ty,pp,a,g⟩=some true:=by exact rfl) (hz:cO P e=some cs:=by exact rfl) (B:∀k,I.put dst (.ptr k 0 0)=aA k:=by first|exact λ_=>ae rfl _|exact λ_=>by dsimp only[Fr.put,List.set_cons_succ,List.set_cons_zero]<;>rfl):u P ops (⟨some dst,.alloc e,ty,pp,a,g⟩::rest) I U Tr:=
 u.SG (O:=O) (hg:=hg) (hz:=hz) (B:=B) (h:=h)
def qb {e:TypeId} {xo} {cs} {aA:Nat->Fr} (O:Has N S U H) (h:∀k R,S.bs.length<=k->Has N S R (.box k (.mem 0 false cs)::H)->u P ops rest (aA k) R Tr) (hg:au ops I ⟨some dst,.box e xo,ty,pp,a,g⟩=some true:=by exact rfl) (hz:(I.ev xo).cells?=some cs:=by exact rfl) (B:∀k,I.put dst (.ptr k 0 0)=aA k:=by first|exact λ_=>ae rfl _|exact λ_=>by dsimp only[Fr.put,List.set_cons_succ,List.set_cons_zero]<;>rfl):u P ops (⟨some dst,.box e xo,ty,pp,a,g⟩::rest) I U Tr:=
 u.I_ (O:=O) (hg:=hg) (hz:=hz) (B:=B) (h:=h)
def qA {t jT:TypeId} {xo yo} {x y} (h:u P ops rest aA U Tr) (hg:au ops I ⟨some dst,.binOp .add t xo yo jT,ty,pp,a,g⟩=some true:=by exact rfl) (hx:I.ev xo=.int .i64 x:=by exact ev rfl) (hy:I.ev yo=.int .i64 y:=by exact ev rfl) (h1:-9223372036854775808<=x+y:=by omega) (X:x+y<=9223372036854775807:=by omega) (B:I.put dst (.int .i64 (x+y))=aA:=by first|exact ae rfl _|(dsimp only[Fr.put,List.set_cons_succ,List.set_cons_zero]<;>rfl)):u P ops (⟨some dst,.binOp .add t xo yo jT,ty,pp,a,g⟩::rest) I U Tr:=
 u.Tt (hg:=hg) (hx:=hx) (hy:=hy) (h1:=h1) (X:=X) (B:=B) (h:=h)
def qh {t e:TypeId} {parts:Array (Nat×Operand)} {z:List D} {vs:List D} {aA:Nat->Fr} (O:Has N S U H) (h:∀k R,S.bs.length<=k->Has N S R (.ai (.win k 0 0 m s) s (vs.map WA)::H)->u P ops rest (aA k) R Tr) (hg:au ops I ⟨some dst,.buildSlice t m parts,ty,pp,a,g⟩=some true:=by exact rfl) (ht:P.cF t=some (.slice e):=by exact rfl) (hs:bS P e=some s:=by exact rfl) (hz:cO P e=some z:=by exact rfl) (jP:z.length=s:=by exact rfl) (hm:m*s<=16777216:=by exact Nat.le_of_ble_eq_true rfl) (RG:DK I 0 parts.toList vs:=by first|exact⟨rfl,ev rfl,trivial⟩|exact⟨rfl,ev rfl,rfl,ev rfl,trivial⟩|exact⟨rfl,ev rfl,rfl,ev rfl,rfl,ev rfl,trivial⟩|exact⟨rfl,ev rfl,rfl,ev rfl,rfl,ev rfl,rfl,ev rfl,trivial⟩|exact⟨rfl,ev rfl,rfl,ev rfl,rfl,ev rfl,rfl,ev rfl,rfl,ev rfl,trivial⟩) (hvl:vs.length=m:=by exact rfl) (hc:∀v∈vs,v.cells?=some v.cells/\v.cells.length=s:=by intro v hv;simp only[List.mem_cons,List.not_mem_nil,or_false] at hv;first|(subst hv;exact⟨rfl,rfl⟩)|(rcases hv with rfl|rfl<;>exact⟨rfl,rfl⟩)|(rcases hv with rfl|rfl|rfl<;>exact⟨rfl,rfl⟩)|(rcases hv with rfl|rfl|rfl|rfl<;>exact⟨rfl,rfl⟩)|(rcases hv with rfl|rfl|rfl|rfl|rfl<;>exact⟨rfl,rfl⟩)) (B:∀k,I.put dst (.win k 0 0 m s)=aA k:=by first|exact λ_=>ae rfl _|exact λ_=>by dsimp only[Fr.put,List.set_cons_succ,List.set_cons_zero]<;>rfl):u P ops (⟨some dst,.buildSlice t m parts,ty,pp,a,g⟩::rest) I U Tr:=
 u.L4 (O:=O) (hg:=hg) (ht:=ht) (hs:=hs) (hz:=hz) (jP:=jP) (hm:=hm) (RG:=RG) (hvl:=hvl) (hc:=hc) (B:=B) (h:=h)
def qv {f} {gn} {fZ} {args:Array Operand} {x6:Array TypeId} {d} {st1} (h1:Ev P gn (args.toList.map I.ev++fZ) U d st1) (h:u P ops rest aA st1 Tr) (hg:au ops I ⟨some dst,.call ⟨.value f,args,x6⟩,ty,pp,a,g⟩=some true:=by exact rfl) (hf:I.ev f=.fn gn fZ:=by exact rfl) (B:I.put dst d=aA:=by first|exact ae rfl _|(dsimp only[Fr.put,List.set_cons_succ,List.set_cons_zero]<;>rfl)):u P ops (⟨some dst,.call ⟨.value f,args,x6⟩,ty,pp,a,g⟩::rest) I U Tr:=
 u.dP (hg:=hg) (hf:=hf) (h1:=h1) (B:=B) (h:=h)
variable{c:Operand}{v:Bool}
def qt {x y} (hv:v=true) (h:u P ops rest aA U Tr) (hg:au ops I ⟨some dst,.pick c x y,ty,pp,a,g⟩=some true:=by exact rfl) (hc:I.ev c=.bool v:=by exact rfl) (B:I.put dst (I.ev x)=aA:=by first|exact ae rfl _|(dsimp only[Fr.put,List.set_cons_succ,List.set_cons_zero]<;>rfl)):u P ops (⟨some dst,.pick c x y,ty,pp,a,g⟩::rest) I U Tr:=
 u.KQ (hg:=hg) (hc:=hc) (hv:=hv) (B:=B) (h:=h)
variable{t:Nat}
def wi {ops} {I:Fr} {o:Oper} {w:Bool} (h4:v=w) (h1:o.guard=some (j,w):=by exact rfl) (X:(ops[j]?).bind (·.dst)=some t:=by exact rfl) (h3:I.get t=.bool v:=by exact rfl):au ops I o=some true:=cP h1 X h3 h4
variable{dy:Dy}{b:Code}
def qc {a} {Tr:Out->Fr->St->Prop} (h1:v=true->ah P dy a I U Tr) (X:v=false->ah P dy b I U Tr) (hv:I.ev c=.bool v:=by first|rfl|assumption):ah P dy (.cond c a b) I U Tr:=ah.cond hv h1 X
def qq {a} {Tr:Out->Fr->St->Prop} (h:ah P dy a I U (dN P dy b Tr)):ah P dy (.seq a b) I U Tr:=ah.seq h
variable{n:Nat}{loc:List D}{tmp:List (Nat×D)}
def qj {l:List Oper} {d} {Tr:Out->Fr->St->Prop} (h:∀K:Out->Fr->St->Prop,Tr=K->u P l.toArray l ⟨n,loc,[]⟩ U (K .next)) (h0:iR i dy=[]:=by rfl):ah P dy (.region i l.toArray d) ⟨n,loc,tmp⟩ U Tr:=ah.jy (h Tr rfl) h0
def qe {Tr K:Out->Fr->St->Prop} (hK:Tr=K) (h:Tr .next I U):u P ops [] I U (K .next):=u.nil (hK▸h)
def qB {a} {Tr:Out->Fr->St->Prop} (h1:ah P dy a I U Tr) (hv:I.ev c=.bool true:=by first|rfl|assumption):ah P dy (.cond c a b) I U Tr:=ah.cond hv (λ_=>h1) (λh=>by cases h)
def qC {a} {Tr:Out->Fr->St->Prop} (h1:ah P dy b I U Tr) (hv:I.ev c=.bool false:=by first|rfl|assumption):ah P dy (.cond c a b) I U Tr:=ah.cond hv (λh=>by cases h) (λ_=>h1)
def qD {a} {Tr:Out->Fr->St->Prop} (hv:I.ev c=.bool v) (F:v=true) (h1:ah P dy a I U Tr):ah P dy (.cond c a b) I U Tr:=ah.cond hv (λ_=>h1) (λh=>by rw[F] at h;cases h)
def qE {a} {Tr:Out->Fr->St->Prop} (hv:I.ev c=.bool v) (F:v=false) (h1:ah P dy b I U Tr):ah P dy (.cond c a b) I U Tr:=ah.cond hv (λh=>by rw[F] at h;cases h) (λ_=>h1)
def rx:∀i:Nat,Out.ret≠Out.exit i:=λi h=>by cases h
def rl {S:St} {H} {kn} {st1} {d d'} (hS:S.bs=U.bs) (O:Has U.bs.length S st1 H) (hd:aB st1 U.bs.length kn 16 d=some d'):cZ .ro kn U st1 d=some (d',U):=wa (by simp) hS O hd
def ri (Y:St):(aw .ro Y).bs=Y.bs/\(aw .ro Y).flr<=Y.bs.length/\Has Y.bs.length (aw .ro Y) (aw .ro Y) []:=⟨rfl,ς _,Has.start (ς _) (ς _)⟩
theorem w1 {α:Type} {a:α}:W0 (n+1) a=a::W0 n a:=rfl
theorem w2 {α:Type} {a:α}:W0 0 a=[]:=rfl
def qy {a} {Tr:Out->Fr->St->Prop} (h:ah P dy a I U Tr):ah P dy a I U Tr:=h
theorem u1 {α:Type} {x:α} {l:List α} {a:α}:(x::l).set (n+1) a=x::l.set n a:=rfl
theorem u2 {α:Type} {x:α} {l:List α} {a:α}:(x::l).set 0 a=a::l:=rfl
theorem u3 {α:Type} {x:α} {l m:List α}:(x::l)++m=x::(l++m):=rfl
theorem u4 {α:Type} {m:List α}:([]:List α)++m=m:=rfl
theorem u5 {α β:Type} {f:α->β} {x:α} {l:List α}:(x::l).map f=f x::l.map f:=rfl
theorem u6 {α β:Type} {f:α->β}:([]:List α).map f=[]:=rfl
theorem v1 k n:mU (.int k n)=.int k n:=rfl
theorem v2 b:mU (.bool b)=.bool b:=rfl
theorem v3 (s:ByteArray):mU (.string s)=.str s.data.toList:=rfl
theorem v4:mU (.slice none 0 0)=.nul:=rfl
theorem v5:mU (.pointer none)=.pnil:=rfl
theorem v6:mU .nilFunc=.nilfn:=rfl
theorem v7:mU .nilIface=.nilif:=rfl
theorem cs:(∀(p:Prop) [Decidable p],(decide p=true)=p)/\(∀(p:Prop) [Decidable p],(decide p=false)=¬p)/\(∀(α:Type) [BEq α] [LawfulBEq α] (a b:α),((a==b)=true)=(a=b))/\(∀(α:Type) [BEq α] [LawfulBEq α] (a b:α),((a==b)=false)=¬a=b)/\(∀(α:Type) [BEq α] [LawfulBEq α] (a b:α),((a !=b)=true)=¬a=b)/\(∀(α:Type) [BEq α] [LawfulBEq α] (a b:α),((a !=b)=false)=(a=b))/\(∀b:Bool,((!b)=true)=(b=false))/\(∀b:Bool,((!b)=false)=(b=true))/\(∀b:Bool,(¬b=true)=(b=false))/\(∀b:Bool,(¬b=false)=(b=true)):=by
 refine⟨λp _=>by simp,λp _=>by simp,λα _ _ a b=>by simp,λα _ _ a b=>by simp,λα _ _ a b=>by simp,λα _ _ a b=>by simp,λb=>by simp,λb=>by simp,λb=>by simp,λb=>by simp⟩
def xT (h:u P ops rest ⟨n,loc,(t,d)::tmp⟩ st1 Tr) (F:ν n t=true:=by exact rfl) (hg:au ops ⟨n,loc,tmp⟩ ⟨some t,op,ty,pp,a,g⟩=some true:=by exact rfl) (hc:j7 op=false:=by exact rfl) (h1:dY P ⟨n,loc,tmp⟩ U op ty=some (d,st1):=by exact rfl):u P ops (⟨some t,op,ty,pp,a,g⟩::rest) ⟨n,loc,tmp⟩ U Tr:=u.T F hg hc h1 h
def xL (h:u P ops rest ⟨n,loc.set t d,tmp⟩ st1 Tr) (F:ν n t=false:=by exact rfl) (hg:au ops ⟨n,loc,tmp⟩ ⟨some t,op,ty,pp,a,g⟩=some true:=by exact rfl) (hc:j7 op=false:=by exact rfl) (h1:dY P ⟨n,loc,tmp⟩ U op ty=some (d,st1):=by exact rfl):u P ops (⟨some t,op,ty,pp,a,g⟩::rest) ⟨n,loc,tmp⟩ U Tr:=u.L F hg hc h1 h
def xN (h:u P ops rest I st1 Tr) (hg:au ops I ⟨none,op,ty,pp,a,g⟩=some true:=by exact rfl) (hc:j7 op=false:=by exact rfl) (h1:dY P I U op ty=some (d,st1):=by exact rfl):u P ops (⟨none,op,ty,pp,a,g⟩::rest) I U Tr:=u.N hg hc h1 h
def xo (h:u P ops rest ⟨n,loc,(t,.tup [])::tmp⟩ U Tr) (F:ν n t=true:=by exact rfl) (hg:au ops ⟨n,loc,tmp⟩ ⟨some t,op,ty,pp,a,g⟩=some false:=by exact rfl):u P ops (⟨some t,op,ty,pp,a,g⟩::rest) ⟨n,loc,tmp⟩ U Tr:=u.ZI F hg h
def xp (h:u P ops rest ⟨n,loc.set t (.tup []),tmp⟩ U Tr) (F:ν n t=false:=by exact rfl) (hg:au ops ⟨n,loc,tmp⟩ ⟨some t,op,ty,pp,a,g⟩=some false:=by exact rfl):u P ops (⟨some t,op,ty,pp,a,g⟩::rest) ⟨n,loc,tmp⟩ U Tr:=u.ZJ F hg h
end Go.V
