/-
 V is sound; no program in sight, no conditions.
-/
import Derived.Test.YtappgjdiplibbaaGreatYM1
import Derived.Orders
set_option linter.all false
open Option renaming map_eq_some_iff->γ,bind_eq_some_iff->δ,map_some->YX
open List renaming getElem?_eq_getElem->ε,getElem?_append_left->μ,mem_of_getElem?->ν,getElem?_eq_none->ς,all_eq_true->ω,getElem?_cons_zero->Ξ,mem_cons_self->Ω,mem_cons_of_mem->Q6,getElem?_of_mem->QY,getElem?_set_ne->QC,getElem?_take->W0,ext_getElem?->Wz,getD_eq_getElem?_getD->Wk,mem_range->W',range->WM,mem_cons->Wg,getElem?_set_self->X8,getElem?_toArray->Z9,mem_append_right->ZK,getElem?_append->ZT,mem_of_mem_drop->ZE,map_congr_left->Zf,getElem?_drop->Y1,getElem?_map->Y3
open Nat renaming lt_or_ge->ζ,le_trans->η,le_refl->θ,lt_of_lt_of_le->ι,lt_trichotomy->φ,eq_of_beq_eq_true->Γ,zero_le->Q7,le_max_right->Q9,ble_eq_true_of_le->QX,le_of_ble_eq_true->QW,beq->QT,ble->ZF,blt->ZD,succ_mul->ZC,eq_or_lt_of_le->Y9,strongRecOn->YD,add_assoc->Yr,add_comm->JJ,zero_add->Jz
open Array renaming getElem?_eq_getElem->κ,replicate->ο,getD_eq_getD_getElem?->χ,getElem?_eq_none->Ψ,getElem?_toList->Q2,length_toList->QK,getElem?_setIfInBounds_self_of_lt->QG,getElem?_push->QS,ext'->Qe,getElem?_setIfInBounds_ne->W5,getElem?_eq_some_iff->Wv,getElem?_replicate->WN,getElem?_modify->X7,ext_getElem?->Zb
open Go.Value renaming int->ξ
open Go.V.Quiet renaming refl->π
open Go.Result renaming andThen_ok->ρ
open Go.Builtin renaming zeroCells->τ,clear_->QV,len_->WA,firstCells->X9,max2->YZ,min2->YJ
open Go.V.Nx renaming same->υ,still->JP
open Bool renaming and_eq_true->ψ,false_eq_true->Qu,false_or->YS,not_true->Yb
open Go.Sem renaming run_bind->Δ,run_pure->QQ
open Go.Op renaming operands->Θ
open Go.Region renaming binds->Φ,wanted->YY
open Go.V.D renaming ref->Q4
open Go.V.St renaming push->QH,aj->W4,x->Za
open Go.Conv renaming bytesToString->Zm,stringToBytes->Y0
open Go.World renaming freeze->Ym,shape?->Yn,alloc->J4,drew->JY
namespace Go.V
open Go.RowKit
def zt {P} {f:Value->ByteArray->Sem (ForInStep ByteArray)} (hf:∀n s w,(f (.int .u8 n) s).run P w=.ok (.yield (s.push (UInt8.ofNat n.toNat))) w):∀(cs:List D) (us:List Value) (bs:List UInt8) (acc:ByteArray) (w:World) (x:h2),LR w x cs us->tp cs=some bs->
  (forIn us acc f).run P w=.ok (⟨acc.data++bs.toArray⟩) w
 |[],us,bs,acc,w,x,h,F=>by
  cases us with
  |nil=>simp[tp] at F;subst F;simp
  |cons aa us=>have:=h.len;simp at this
 |c::cs,us,bs,acc,w,x,h,F=>by
  cases us with
  |nil=>have:=h.len;simp at this
  |cons aa us=>
   unfold tp at F
   split at F;next heq=>cases heq
   .rename_i n l heq;cases heq;obtain⟨r,hr,rfl⟩:=γ.1 F;have hu:=de (h.rel 0 _ aa rfl rfl);subst hu
    have ht:LR w x cs us:=⟨by have:=h.len;simpa using this,λv hv=>h.one v (Q6 _ hv),λi c aa hc hu=>h.rel (i+1) c aa hc hu⟩
    have ih:=zt hf cs us r (acc.push (UInt8.ofNat n.toNat)) w x ht hr;simp[hf];rw[ih]
    congr 1
    apply ByteArray.ext;simp
   cases F
section
variable{pv:Pv} {P:Program} (ok:pv.Ok P)
include ok
def rA (pv:Pv) (s t:TypeId):Bool:=
 match pv.cF s,pv.cF t with
 |some (.slice _),some (.slice _)=>true
 |_,_=>false
omit ok in
def OD {w} {U:St} {β:Nat->Option (Nat×Nat)} {Z:Nat->Prop} (h:iD w U β Z) {k aj} {ar:Bool} {c:List D} (hm:U.cp k aj=some (ar,c)) {b base:Nat} (F:β k=some (b,base)) (fx:U.ro<=k) (o:Nat):
  ∃w',(markStringish ⟨b,o,none⟩).run P w=.ok () w'/\Nx w U β Z w' U β Z:=by
 obtain⟨cs,el,I,h1,X,h3,h4⟩:=h.row hm F;have hbl:b<w.heap.size:=h.lt k b base F;have hsh:w.shape? b=some (el,cs.size):=by simp[Yn,h1]
 refine⟨w.freeze ⟨b,cs.size,none⟩ 1,?_,?_⟩;·simp only[markStringish,Δ,run_shape,hsh,ρ,run_freeze]
 obtain⟨lo,hi⟩:=I
 have hf:∃aA:Nat×Nat,qK cs.size aA/\w.freeze ⟨b,cs.size,none⟩ 1=wput w b (.cells cs el aA):=by
  refine⟨if lo==hi then(cs.size,cs.size+1) else(min lo cs.size,max hi (cs.size+1)),?_,?_⟩
  .split;·exact⟨by simp,λo ho=>by simp only;omega⟩
   rename_i hne;have hne:lo≠hi:=by simpa using hne
   have h5:=h3.1;have h6:=h3.2 lo;simp only at h5 h6;refine⟨by simp only;omega,λo ho=>?_⟩;simp only;omega
  simp only[Ym,wput,if_neg (show¬(1=0) by omega)]
  congr 1
  apply Zb;intro j;rw[X7]
  by_cases hj:b=j;·subst hj;rw[if_pos rfl,h1,QG hbl];rfl
  rw[if_neg hj,W5 hj]
 obtain⟨aA,wK,uY⟩:=hf;have j_:=(bE hm).1;have hx:=Nx.JQ (a':=ar) (nz:=aj) (c':=c) (dr:=base) h hm F fx (θ _) (λ_=>rfl) h1 wK rfl X h4
 have e1:(λi=>if i=k then some (b,base) else β i)=β:=by
  funext i;split;next e=>subst e;exact F.symm
  rfl
 have e2:({U with bs:=U.bs.set k (.mem aj ar c)}:St)=U:=by
  obtain⟨bs,f,r⟩:=U;simp only at j_|-
  congr 1
  apply Wz;intro j
  by_cases hj:k=j;·subst hj;rw[X8 (h.dom k b base F),j_]
  rw[QC hj]
 rw[e1,e2] at hx;rw[uY];exact hx
def Pz {w} {U R:St} {β:Nat->Option (Nat×Nat)} {Z:Nat->Prop} (h:iD w U β Z) {s t} {d r} {aa} (hu:VR w (U.x β Z) d aa) (hs:pk pv s t d U=some (r,R)):
  ∃z w' β',(convert s t aa).run P w=.ok z w'/\Nx w U β Z w' R β' Z/\VR w' (R.x β' Z) r z/\(rA pv s t=false->Quiet w w'):=by
 unfold pk at hs
 split at hs;·rename_i sd k k' n h1 X;cases hs;rw[de hu];exact⟨_,w,β,by simp[convert,aM ok h1,aM ok X,Conv.intToInt];rfl,υ h,by rw[ja];exact .im _ _ (.int _ _),λ_=>π _⟩
 .rename_i sd k n h1 X;cases hs;rw[de hu];refine⟨.string (Utf8.encode n),w,β,by cases sd<;>simp[convert,aM ok h1,aM ok X,Conv.intToString],υ h,.im _ _ ?_,λ_=>π _⟩;have:=IR.str (w:=w) (Z:=(U.x β Z).Z) (Utf8.encode n).data.toList
  simpa using this
 .rename_i sd l h1 X;cases hs;rw[gJ hu];exact⟨_,w,β,by cases sd<;>simp[convert,aM ok h1,aM ok X]<;>rfl,υ h,.im _ _ (.str _),λ_=>π _⟩
 .rename_i sd e l h1 X
  split at hs
  .rename_i he
   split at hs
   .rename_i hlen;cases hs;rw[gJ hu];have I8:=MV l.length 0 e (w.tape w.drawn (.appendCap l.length 0 e));generalize hq:(Question.appendCap l.length 0 e).cut (w.tape w.drawn (.appendCap l.length 0 e))=cap at I8;have hsz:(⟨l.toArray⟩:ByteArray).size=l.length:=by simp[ByteArray.size]
    have hS:Nx w U β Z w.drew U β Z:=JP h rfl rfl rfl rfl;have ei:((l.map λb=>ξ .u8 b.toNat).toArray++ο (cap-l.length) (ξ .u8 0)).size=cap:=by simp;omega
    have hfz:∀c:Array Value,(w.drew.alloc (.cells c e)).freeze ⟨w.heap.size,c.size,none⟩ 1={w.drew with heap:=w.heap.push (.cells c e (c.size,c.size+1))}:=by
     intro c;simp only[Ym,J4,JY];simp only[if_neg (show¬(1=0) by omega)]
     congr 1
     apply Zb;intro j;rw[X7]
     by_cases hj:w.heap.size=j;·subst hj;simp
     rw[if_neg hj,QS,QS,if_neg (λe=>hj e.symm),if_neg (λe=>hj e.symm)]
    obtain⟨hx,x1,x2,x3⟩:=Nx.jX (w':={w.drew with heap:=w.heap.push (.cells ((l.map λb=>ξ .u8 b.toNat).toArray++ο (cap-l.length) (ξ .u8 0)) e (cap,cap+1))}) hS.sim true (l.map λx=>.int .u8 x.toNat)
     ((l.map λb=>ξ .u8 b.toNat).toArray++ο (cap-l.length) (ξ .u8 0)) e (cap,cap+1) rfl rfl rfl rfl (by rw[ei];simpa using I8) ⟨by simp,λo ho=>by rw[ei] at ho;simp;omega⟩ (λj d hd=>by
      obtain⟨y,hy1,wv,IQ⟩:=(D3 w.drew (U.x β Z) l).at_ hd;refine⟨y,?_,wv,IQ⟩
      have hlt:j<(l.map λb=>ξ .u8 b.toNat).length:=by
       rcases ζ j (l.map λb=>ξ .u8 b.toNat).length with h'|h'
       .exact h'
       rw[ς h'] at hy1;cases hy1
      rw[Array.getElem?_append_left (by simpa using hlt)]
      simpa using hy1)
    refine⟨.slice (some ⟨w.heap.size,0,none⟩) l.length cap,_,_,?_,hS.trans hx,lB x2 x3 x1 I8 (by rw[ei];omega),λ_=>Quiet.push rfl⟩
    have hrun:(Y0 e ⟨l.toArray⟩).run P w=.ok (.slice (some ⟨w.heap.size,0,none⟩) l.length cap) {w.drew with heap:=w.heap.push (.cells ((l.map λb=>ξ .u8 b.toNat).toArray++ο (cap-l.length) (ξ .u8 0)) e (cap,cap+1))}:=by
     have sF:((⟨l.toArray⟩:ByteArray).data.map λb=>ξ .u8 b.toNat)=(l.map λb=>ξ .u8 b.toNat).toArray:=by simp
     simp only[Y0,Δ,run_choose,Question.forced,Qu,if_false,ρ,hsz,hq,sF,newRow,run_newObj,QQ,markStringish,run_shape]
     have RN:(w.drew.alloc (.cells ((l.map λb=>ξ .u8 b.toNat).toArray++ο (cap-l.length) (ξ .u8 0)) e)).shape? w.heap.size=some (e,cap):=by
      simp only[Yn,J4,JY];rw[QS,if_pos rfl];simp[ei]
     have ha:({heap:=w.heap.push (Obj.cells ((l.map λb=>ξ .u8 b.toNat).toArray++ο (cap-l.length) (ξ .u8 0)) e),tape:=w.tape,drawn:=w.drawn+1,os:=w.os,output:=w.output}:World)=w.drew.alloc (.cells ((l.map λb=>ξ .u8 b.toNat).toArray++ο (cap-l.length) (ξ .u8 0)) e):=rfl;rw[ha];simp only[RN,Δ,run_freeze,ρ,QQ];have:=hfz ((l.map λb=>ξ .u8 b.toNat).toArray++ο (cap-l.length) (ξ .u8 0));rw[ei] at this;rw[this]
    cases sd<;>simp only[convert,Δ,aM ok h1,aM ok X,ρ,aM ok he,hrun]
   cases hs
  cases hs
 .rename_i e' e k aj off len sz h1 X
  split at hs
  .rename_i q he hm;obtain⟨ar,c⟩:=q
   split at hs
   .rename_i I9;obtain⟨hst,hlen,QD⟩:=I9;have hst:=Γ hst;subst hst;cases hs;obtain⟨a,cap,rfl,hc,A,_,hat⟩:=ec hu;obtain⟨b,base,NS,F,_,xJ⟩:=hat (bE hm).2
    rcases xJ with rfl|⟨rfl,_⟩
    .omega
    obtain⟨w',m1,m2⟩:=OD (P:=P) h hm F (jL QD) (base+off);refine⟨_,w',β,?_,m2,hu.mono m2.keeps,λe=>?_⟩;·rw[h1] at X;cases X;simp only[convert,Δ,aM ok h1,ρ,aM ok he,beq_self_eq_true,m1,QQ]
    rw[h1] at X;cases X;simp[rA,h1] at e
   cases hs
  cases hs
 .rename_i dd o1 o2 d4 e h1 X sB dZ
  split at hs
  .rename_i n cs he jI
   split at hs;·cases hs
   rename_i JF
   split at hs
   .rename_i hl;obtain⟨bs,F,hr⟩:=γ.1 hs;cases hr;obtain⟨hlen,ei⟩:=vC (P:=P) h hu jI;obtain⟨us,u1,u2⟩:=ei 1 n (θ _) (by omega);rw[Nat.mul_one,<-hl,List.take_length] at u2;refine⟨.string ⟨bs.toArray⟩,w,β,?_,υ h,.im _ _ (.str _),λ_=>π _⟩
    have pb:∃a q c,aa=.slice a q c:=by
     cases dd with
     |sl es=>obtain⟨_,_,e,_⟩:=ny hu;exact⟨_,_,_,e⟩
     |nul=>exact⟨_,_,_,fe hu⟩
     |win k v o l s=>obtain⟨_,_,e,_⟩:=ec hu;exact⟨_,_,_,e⟩
     |str l=>exact absurd rfl (JF l)
     |_=>simp[oT] at jI
    obtain⟨a,q,c,rfl⟩:=pb;have hq:q=n:=by simp[Builtin.lenOf] at hlen;exact hlen
    subst hq
    have hcv:(convert s t (.slice a q c)).run P w=(Zm (.slice a q c)).run P w:=by
     simp[convert,aM ok h1,aM ok X,aM ok he]
    rw[hcv]
    cases a with
    |none=>
     have hcs:us=[]:=by
      simp only[X9,QQ,Result.ok.injEq] at u1;have:=u1.1;cases us<;>simp at this|-
     subst hcs;have:cs=[]:=List.length_eq_zero_iff.1 (by have:=u2.len;simpa using this);subst this;simp[tp] at F;subst F
     rfl
    |some a=>
     simp[X9] at u1;simp only[Zm,Δ,u1,ρ,List.forIn_toArray];rw[zt (P:=P) (λn s w=>by simp) cs us bs .empty w _ u2 F];simp
   cases hs
  cases hs
 cases hs
end
end Go.V
namespace Go.V
open Go.RowKit
def Did (P:Program) (a:Act) (o:Oper) (w:World) (v:Value) (w':World):Prop:=
 (execOp a.eval o).run P w=.ok (.value v) w'\/((execOp a.eval o).run P w=.ok .skip w'/\v=undef)
def kZ (pv:Pv) (f:Nat):Bool:=
 match pv.fi f with
 |some x=>match x.mode with
  | .ro| .nw=>true
  |_=>false
 |none=>false
def iT (pv:Pv) (o:Oper):Bool:=
 match o.op with
 | .store _ _ _=>true
 | .next _ _=>true
 | .convert s t _=>rA pv s t
 | .insert _ _ _ _=>true
 | .mapUpdate _ _ _ _=>true
 | .call ⟨.builtin b,_,_⟩=>match b with
  | .len| .min| .max=>false
  |_=>true
 | .call ⟨.value (.func f),_,_⟩=>!kZ pv f
 | .call _=>true
 |_=>false
def Bg {P} {w} {x} tV:∀(ds:List D) (us:List Value) {d r:D} {aa:Value},ds.length=us.length->(∀(i:Nat) c v,ds[i]?=some c->us[i]?=some v->VR w x c v)->VR w x d aa->ud (yK tV) d ds=some r->
  ∃z,(us.foldlM (if tV then YJ else YZ) aa).run P w=.ok z w/\VR w x r z
 |[],us,d,r,aa,hl,_,hd,hf=>by
  cases us with
  |nil=>simp[ud] at hf;subst hf;exact⟨aa,by simp,hd⟩
  |cons v us=>simp at hl
 |e::ds,us,d,r,aa,hl,hr,hd,hf=>by
  cases us with
  |nil=>simp at hl
  |cons v us=>
   simp[ud] at hf;obtain⟨m,hm,hf⟩:=δ.1 hf;have he:=hr 0 e v rfl rfl;unfold yK at hm
   split at hm;·rename_i k a k' b;cases hm;rw[de hd,de he];have hz:VR w x (.int k (if tV then(if b<a then b else a) else(if b>a then b else a))) (.int k (if tV then(if b<a then b else a) else(if b>a then b else a))):=.im _ _ (.int _ _);obtain⟨z,h1,X⟩:=Bg (P:=P) tV ds us (by simpa using hl) (λi c v hc hv=>hr (i+1) c v hc hv) hz hf;refine⟨z,?_,X⟩;simp;cases tV<;>simp[YJ,YZ] at h1|-<;>exact h1
   cases hm
def OK {w} {x} {d} {aa} {n} (hu:VR w x d aa) (h:C4 d=some n) (hs:∀s,d≠.str s):∃a c,aa=.slice a n c:=by
 cases d with
 |sl es=>obtain⟨a,c,rfl,_⟩:=ny hu;simp[C4] at h;subst h;exact⟨a,c,rfl⟩
 |nul=>simp[C4] at h;subst h;exact⟨_,_,fe hu⟩
 |win k v o l s=>obtain⟨a,c,rfl,_⟩:=ec hu;simp[C4] at h;subst h;exact⟨_,_,rfl⟩
 |str s=>exact absurd rfl (hs s)
 |_=>simp[C4] at h
section
variable{pv:Pv} {P:Program} (ok:pv.Ok P)
include ok
variable{w:World}{U R:St}{β:Nat->Option (Nat×Nat)}{Z:Nat->Prop}{r:D}
def MQ (h:iD w U β Z) {cj:List TypeId} {ty:TypeId} {d} {aa} (hu:VR w (U.x β Z) d aa) (hs:qG pv cj d U=some (r,R)):∃z w',(QV cj.toArray ty #[aa]).run P w=.ok z w'/\Nx w U β Z w' R β Z/\VR w' (R.x β Z) r z:=by
 unfold qG at hs
 split at hs
 .rename_i dT rest
  split at hs
  .rename_i e SA
   split at hs;·cases hs;rw[fe hu];refine⟨.tuple #[],w,?_,υ h,.im _ _ (.tup [] [] rfl (by simp))⟩;simp[QV,Ξ,aM ok SA]
   .rename_i k aj off len sz;obtain⟨z,hz,hs⟩:=δ.1 hs
    split at hs
    .rename_i jP;obtain⟨st1,hwr,hs⟩:=γ.1 hs;cases hs;obtain⟨a,cap,rfl,hc,A,_,hat⟩:=ec hu
     have lS:U.aj k=some aj:=by
      unfold St.wr at hwr
      split at hwr;next hm=>exact(bE hm).2
      cases hwr
     obtain⟨b,base,NS,F,_,xJ⟩:=hat lS;obtain⟨zv,Vn,hzc⟩:=iM ok w (U.x β Z) hz;have hvs:zv.cells.toList.length=sz:=by rw[<-hzc.len,jP]
     obtain⟨q1,q2⟩:=vf hzc len len (θ _) hvs _ rfl
     have ei:((Array.range (len*sz)).map (zv.cells.toList.toArray[·%zv.cells.toList.toArray.size]!))=τ zv.cells len:=by
      have:zv.cells.size=sz:=by rw[<-hvs];simp
      simp[τ,this]
     rw[ei] at q1 q2
     have Hm:LR w (U.x β Z) (gu len z) (τ zv.cells len).toList:=by
      refine⟨by rw[gr,jP,QK,q1],λaa hu=>?_,λi c aa FH hu=>?_⟩
      .obtain⟨j,hj⟩:=QY hu
       have hjl:j<len*sz:=by
        rcases ζ j (len*sz) with h'|h'
        .exact h'
        rw[ς (by rw[QK,q1];exact h')] at hj;cases hj
       obtain⟨u',km,ns,_⟩:=q2 j _ (ε (by rw[gr,jP];exact hjl));rw[Q2] at hj;rw[hj] at km;cases km;exact ns
      obtain⟨u',km,_,s9⟩:=q2 i c FH;rw[Q2] at hu;rw[hu] at km;cases km;exact s9
     have hla:len=0\/(τ zv.cells len).toList=[]\/a=⟨b,base+off,none⟩:=by
      rcases xJ with rfl|⟨rfl,_⟩
      .exact .inl (by omega)
      exact .inr (.inr rfl)
     rcases hla with rfl|hla
     .have h0:(τ zv.cells 0).toList=[]:=by simp[τ]
      rw[h0] at Hm;obtain⟨w',h3,β',h4,rfl⟩:=BK (P:=P) (a:=⟨b,base+off,none⟩) h Hm hwr F (.inl rfl);simp[storeCells] at h3;subst h3;refine⟨.tuple #[],w,?_,h4,.im _ _ (.tup [] [] rfl (by simp))⟩;simp[QV,Ξ,aM ok SA]
     obtain⟨w',h3,β',h4,rfl⟩:=BK (P:=P) h Hm hwr F hla;refine⟨.tuple #[],w',?_,h4,.im _ _ (.tup [] [] rfl (by simp))⟩
     cases len with
     |zero=>
      have h0:(τ zv.cells 0).toList=[]:=by simp[τ]
      rw[h0] at h3;simp[storeCells] at h3;subst h3;simp[QV,Ξ,aM ok SA]
     |succ len=>
      simp only[QV,Z9,Ξ,Δ,aM ok SA,ρ,Vn,h3,QQ]
    cases hs
   cases hs
  cases hs
 cases hs
def F4 (h:iD w U β Z) {b} {cj:List TypeId} {ds:List D} {us:List Value} {ty:TypeId} {cs} (hl:ds.length=us.length) (hr:∀(i:Nat) c v,ds[i]?=some c->us[i]?=some v->VR w (U.x β Z) c v) (hs:bA pv b cj ds U=some (r,R)):
  ∃z w' β',(builtin b cj.toArray ty cs us.toArray).run P w=.ok (.value z) w'/\Nx w U β Z w' R β' Z/\VR w' (R.x β' Z) r z/\(b=.len\/b=.min\/b=.max->Quiet w w'):=by
 unfold bA at hs
 split at hs
 .rename_i d
  obtain⟨aa,rfl⟩:∃aa,us=[aa]:=by
   match us,hl with
   |[aa],_=>exact⟨aa,rfl⟩
  have hu:=hr 0 d aa rfl rfl
  split at hs
  .rename_i t rest
   split at hs
   .rename_i ht
    split at hs
    .rename_i s;cases hs;rw[gJ hu];refine⟨.int .i64 s.length,w,β,?_,υ h,.im _ _ (.int _ _),λ_=>π _⟩;have hsz:(⟨s.toArray⟩:ByteArray).size=s.length:=by simp[ByteArray.size]
     simp[builtin,WA,aM ok ht,goInt,hsz]
    cases hs
   .rename_i e ht
    split at hs;·cases hs
    rename_i JF
    split at hs;next n hn=>cases hs;obtain⟨a,c,e⟩:=OK hu hn JF;refine⟨.int .i64 n,w,β,?_,υ h,.im _ _ (.int _ _),λ_=>π _⟩;rw[e];simp[builtin,WA,aM ok ht,goInt]
    cases hs
   .rename_i n e ht;cases hs;refine⟨.int .i64 n,w,β,?_,υ h,.im _ _ (.int _ _),λ_=>π _⟩;cases aa<;>simp[builtin,WA,aM ok ht,goInt]
   cases hs
  cases hs
 .rename_i d e
  obtain⟨aa,v,rfl⟩:∃aa v,us=[aa,v]:=by
   match us,hl with
   |[aa,v],_=>exact⟨aa,v,rfl⟩
  obtain⟨z,w',β',h1,X,h3⟩:=zw ok h (ty:=ty) (hr 0 d aa rfl rfl) (hr 1 e v rfl rfl) hs;exact⟨z,w',β',by simp[builtin,h1],X,h3,λe=>by simp at e⟩
 .rename_i d e
  obtain⟨aa,v,rfl⟩:∃aa v,us=[aa,v]:=by
   match us,hl with
   |[aa,v],_=>exact⟨aa,v,rfl⟩
  obtain⟨z,w',h1,X,h3⟩:=Py ok h (ty:=ty) (hr 0 d aa rfl rfl) (hr 1 e v rfl rfl) hs;exact⟨z,w',β,by simp[builtin,h1],X,h3,λe=>by simp at e⟩
 .rename_i d
  obtain⟨aa,rfl⟩:∃aa,us=[aa]:=by
   match us,hl with
   |[aa],_=>exact⟨aa,rfl⟩
  obtain⟨z,w',h1,X,h3⟩:=MQ ok h (ty:=ty) (hr 0 d aa rfl rfl) hs;exact⟨z,w',β,by simp[builtin,h1],X,h3,λe=>by simp at e⟩
 .rename_i d l
  obtain⟨aa,vs,rfl⟩:∃aa vs,us=aa::vs:=by
   match us,hl with
   |aa::vs,_=>exact⟨aa,vs,rfl⟩
  obtain⟨m,hm,hs⟩:=γ.1 hs;cases hs;obtain⟨z,h1,X⟩:=Bg (P:=P) true l vs (by simpa using hl) (λi c v hc hv=>hr (i+1) c v hc hv) (hr 0 d aa rfl rfl) hm;exact⟨z,w,β,by simp at h1;simp[builtin,Builtin.min_,h1],υ h,X,λ_=>π _⟩
 .rename_i d l
  obtain⟨aa,vs,rfl⟩:∃aa vs,us=aa::vs:=by
   match us,hl with
   |aa::vs,_=>exact⟨aa,vs,rfl⟩
  obtain⟨m,hm,hs⟩:=γ.1 hs;cases hs;obtain⟨z,h1,X⟩:=Bg (P:=P) false l vs (by simpa using hl) (λi c v hc hv=>hr (i+1) c v hc hv) (hr 0 d aa rfl rfl) hm;exact⟨z,w,β,by simp at h1;simp[builtin,Builtin.max_,h1],υ h,X,λ_=>π _⟩
 cases hs
omit ok in
def FM {w} {x} {I:Fr} {a:Act} (hf:sq w x I a.tmps) (l:List Operand):∀(i:Nat) c v,(l.map I.ev)[i]?=some c->(l.map a.eval)[i]?=some v->VR w x c v:=by
 intro i c v hc hv;rw[Y3] at hc hv
 cases hl:l[i]? with
 |none=>simp[hl] at hc
 |some o=>simp[hl] at hc hv;subst hc;subst hv;exact zh hf o
omit ok in
def Cy {w} {x} {I:Fr} {a:Act} (hf:sq w x I a.tmps) (l:List (Nat×Operand)):∀(i:Nat) p q,(l.map λp=>(p.1,I.ev p.2))[i]?=some p->(l.map λp=>(p.1,a.eval p.2))[i]?=some q->p.1=q.1/\VR w x p.2 q.2:=by
 intro i p q B hq;rw[Y3] at B hq
 cases hl:l[i]? with
 |none=>simp[hl] at B
 |some o=>simp[hl] at B hq;subst B;subst hq;exact⟨rfl,zh hf _⟩
def U3 {w} {U R:St} {β:Nat->Option (Nat×Nat)} {Z:Nat->Prop} (h:iD w U β Z) {I} {a:Act} (hf:sq w (U.x β Z) I a.tmps) {o:Oper} {d} (hs:dY pv I U o.op o.type=some (d,R)):
  ∃v w' β',Did P a o w v w'/\Nx w U β Z w' R β' Z/\VR w' (R.x β' Z) d v/\(iT pv o=false->Quiet w w'):=by
 obtain⟨dst,op,ty,pos,after,guard⟩:=o
 have mT:∀{s:Sem Value} {d:D} {v:Value},execOp a.eval ⟨dst,op,ty,pos,after,guard⟩=(do pure (.value (<-s)):Sem Next)->s.run P w=.ok v w->VR w (U.x β Z) d v->
   ∃v w' β',Did P a ⟨dst,op,ty,pos,after,guard⟩ w v w'/\Nx w U β Z w' U β' Z/\VR w' (U.x β' Z) d v/\(iT pv ⟨dst,op,ty,pos,after,guard⟩=false->Quiet w w'):=by
  intro s d v he hr hv;exact⟨v,w,β,.inl (by rw[he];simp[hr]),υ h,hv,λ_=>π _⟩
 have full:∀{s:Sem Value} {d:D} {R:St},execOp a.eval ⟨dst,op,ty,pos,after,guard⟩=(do pure (.value (<-s)):Sem Next)->(∃z w' β',s.run P w=.ok z w'/\Nx w U β Z w' R β' Z/\VR w' (R.x β' Z) d z/\Quiet w w')->
   ∃v w' β',Did P a ⟨dst,op,ty,pos,after,guard⟩ w v w'/\Nx w U β Z w' R β' Z/\VR w' (R.x β' Z) d v/\(iT pv ⟨dst,op,ty,pos,after,guard⟩=false->Quiet w w'):=by
  rintro s d R he ⟨z,w',β',h1,X,h3,h4⟩;exact⟨z,w',β',.inl (by rw[he];simp[h1]),X,h3,λ_=>h4⟩
 have ev:=λo=>zh hf o;simp only at hs;unfold dY at hs
 split at hs;next x=>cases hs;exact⟨a.eval x,w,β,.inl rfl,υ h,ev x,λ_=>π _⟩
 next x=>cases hs;exact⟨a.eval x,w,β,.inl rfl,υ h,ev x,λ_=>π _⟩
 .rename_i c p q;have hc:=ev c
  split at hs;next F=>cases hs;rw[F] at hc;exact mT (s:=do pure (if<-asBool (a.eval c) then a.eval p else a.eval q)) (by simp[execOp]) (by rw[eL hc];simp[asBool]) (ev p)
  next F=>cases hs;rw[F] at hc;exact mT (s:=do pure (if<-asBool (a.eval c) then a.eval p else a.eval q)) (by simp[execOp]) (by rw[eL hc];simp[asBool]) (ev q)
  cases hs
 next e=>obtain⟨cs,hz,hs⟩:=γ.1 hs;cases hs;exact full rfl (Nd ok h hz)
 next e x=>obtain⟨cs,hz,hs⟩:=γ.1 hs;cases hs;exact full rfl (Lg (P:=P) h (rZ (ev x) hz) e)
 .rename_i t parts;obtain⟨r,F,hs⟩:=γ.1 hs;cases hs;obtain⟨z,h1,X⟩:=M3 ok (parts':=parts.toList.map λp=>(p.1,a.eval p.2)) (by simp) (Cy hf _) F;refine mT rfl ?_ X
  have:(parts.map λ(x:Nat×Operand)=>match x with|(i,x)=>(i,a.eval x))=(parts.toList.map λp=>(p.1,a.eval p.2)).toArray:=by
   apply Qe;simp
  simp[this];exact h1
 .rename_i t len parts;have F:=xQ ok h (parts':=parts.toList.map λp=>(p.1,a.eval p.2)) (by simp) (Cy hf _) hs
  have:(parts.map λ(x:Nat×Operand)=>match x with|(i,x)=>(i,a.eval x))=(parts.toList.map λp=>(p.1,a.eval p.2)).toArray:=by
   apply Qe;simp
  refine full (s:=Instr.buildSlice t len (parts.map λ(x:Nat×Operand)=>match x with|(i,x)=>(i,a.eval x))) rfl ?_;rw[this];exact F
 .rename_i t ad;obtain⟨r,hl,hs⟩:=γ.1 hs;cases hs;have hv:=ev ad;unfold gy at hl
  split at hl;next k aj off hd=>rw[hd] at hv;obtain⟨⟨ar,c⟩,hm,hl⟩:=δ.1 hl;obtain⟨p,B,_,hat⟩:=cG hv;obtain⟨b,base,F,rfl⟩:=hat (bE hm).2;obtain⟨z,h1,X⟩:=uK ok ((h.cells hm F).drop off) hl;refine mT rfl ?_ X;rw[B];simp[Instr.loadAt,Instr.sureAddr,h1]
  next c hd=>rw[hd] at hv;obtain⟨b,off,B,_,hc,_⟩:=vi hv;obtain⟨z,h1,X⟩:=uK ok hc hl;refine mT rfl ?_ X;rw[B];simp[Instr.loadAt,Instr.sureAddr,h1]
  cases hl
 next t ad x=>obtain⟨st1,hst,hs⟩:=γ.1 hs;cases hs;obtain⟨w',h1,X⟩:=Ka ok h (ev ad) (ev x) hst;exact⟨undef,w',β,.inr ⟨by simp[execOp,h1],rfl⟩,X,.im _ _ (.tup [] [] rfl (by simp)),λe=>by simp[iT] at e⟩
 .rename_i x;have hv:=ev x
  split at hs;next k v o hd=>cases hs;rw[hd] at hv;obtain⟨p,B,_⟩:=cG hv;exact⟨a.eval x,w,β,.inl (by simp[execOp,B]),υ h,hv,λ_=>π _⟩
  next c hd=>cases hs;rw[hd] at hv;obtain⟨b,off,B,_⟩:=vi hv;exact⟨a.eval x,w,β,.inl (by simp[execOp,B]),υ h,hv,λ_=>π _⟩
  next f c hd=>cases hs;rw[hd] at hv;obtain⟨vs,B,_⟩:=BO hv;exact⟨a.eval x,w,β,.inl (by simp[execOp,B]),υ h,hv,λ_=>π _⟩
  cases hs
 next bop t x y _=>obtain⟨r,F,hs⟩:=γ.1 hs;cases hs;obtain⟨z,h1,X⟩:=Tk ok x y (ev x) (ev y) F;exact mT rfl h1 X
 next uop t x=>obtain⟨r,F,hs⟩:=γ.1 hs;cases hs;obtain⟨z,h1,X⟩:=UF (P:=P) (ev x) F;exact mT rfl h1 X
 next s t x=>obtain⟨z,w',β',h1,X,h3,h4⟩:=Pz ok h (ev x) hs;exact⟨z,w',β',.inl (by simp[execOp,h1]),X,h3,λe=>h4 (by simpa[iT] using e)⟩
 .rename_i f first captured
  split at hs
  .rename_i hfe;cases hs;have hfe:first=#[]:=by simpa using hfe
   subst hfe;refine⟨.func (.func f) #[] (captured.toList.map a.eval).toArray,w,β,.inl ?_,υ h,.fn f _ _ (by simp) (FM hf _),λ_=>π _⟩;have:captured.map a.eval=(captured.toList.map a.eval).toArray:=by apply Qe;simp
   rw[<-this];simp[execOp,Instr.makeFunc]
  cases hs
 next t l c=>exact full rfl (AO ok h (ev l) (ev c) hs)
 .rename_i t x lo hi;obtain⟨r,F,hs⟩:=γ.1 hs;cases hs;obtain⟨z,h1,X⟩:=Kf ok h (G2:=lo.map a.eval) (uw:=hi.map a.eval) (ev x) (λd v e1 e2=>by cases lo with|none=>cases e1|some q=>cases e1;cases e2;exact ev q) (λd v e1 e2=>by cases hi with|none=>cases e1|some q=>cases e1;cases e2;exact ev q) (by cases lo<;>rfl) (by cases hi<;>rfl) F;exact mT rfl h1 X
 next t x f=>obtain⟨r,F,hs⟩:=γ.1 hs;cases hs;obtain⟨z,h1,X⟩:=Bl ok (ev x) F;exact mT rfl h1 X
 next t x i=>obtain⟨r,F,hs⟩:=γ.1 hs;cases hs;obtain⟨z,h1,X⟩:=AS ok (ev x) (ev i) F;exact mT rfl h1 X
 next t x i=>obtain⟨r,F,hs⟩:=γ.1 hs;cases hs;obtain⟨z,h1,X⟩:=LG ok (ev x) (ev i) F;exact mT rfl h1 X
 .rename_i t i;have hv:=ev t
  split at hs
  .rename_i ds hd;rw[hd] at hv;obtain⟨r,F,hs⟩:=γ.1 hs;cases hs;obtain⟨vs,B,hl,hr⟩:=vh hv
   have hi:i<ds.length:=by
    rcases ζ i ds.length with h'|h'
    .exact h'
    rw[ς h'] at F;cases F
   have uw:vs[i]?=some (vs[i]'(by omega)):=ε _;refine mT rfl ?_ (hr i _ _ F uw);rw[B];simp[Instr.extract,uw]
  cases hs
 .rename_i b args cj;have F:=F4 ok h (us:=args.toList.map a.eval) (ty:=ty) (cs:=args.map λ| .const _=>true|_=>false) (by simp) (FM hf _) hs;obtain⟨z,w',β',h1,X,h3,h4⟩:=F;refine⟨z,w',β',.inl ?_,X,h3,λe=>h4 (by cases b<;>simp[iT] at e|-)⟩;have:args.map a.eval=(args.toList.map a.eval).toArray:=by apply Qe;simp
  simp at h1;simp only[execOp,resolve,invoke,this,Δ,QQ,ρ];exact h1
 cases hs
end
end Go.V
namespace Go.V
open Go.RowKit
def bV {d:D}:∀{ds:List D},d∈ds->d.ref<=refs ds
 |e::ds,h=>by
  rcases Wg.1 h with rfl|h
  .simp[refs];exact Nat.le_max_left _ _
  have:=bV h;simp[refs];exact η this (Q9 _ _)
def uN {N:Nat}:∀{ds:List D},(∀d∈ds,d.ref<=N)->refs ds<=N
 |[],_=>by simp[refs]
 |d::ds,h=>by
  simp[refs];exact Nat.max_le.2 ⟨h d (Ω ..),uN λe he=>h e (Q6 _ he)⟩
structure eE (U R:St):Prop where
 len:U.bs.length<=R.bs.length
 flr:R.flr=U.flr
 ro:R.ro=U.ro
 low:∀k,k<U.ro->k<U.bs.length->R.bs[k]?=U.bs[k]?
 fl:∀k bx MX,k<U.flr->U.bs[k]?=some bx->R.bs[k]?=some MX->∀d∈MX.cells,d.ref<=max (k+1) (refs bx.cells)
def eE.refl U:eE U U:=⟨θ _,rfl,rfl,λ_ _ _=>rfl,λ_ _ _ _ h h' d hd=>by rw[h] at h';cases h';exact η (bV hd) (Q9 _ _)⟩
variable{k:Nat}
theorem gP {α:Type} {l:List α} {x:α} (h:l[k]?=some x):k<l.length:=by
 rcases ζ k l.length with h'|h'
 .exact h'
 rw[ς h'] at h;cases h
def eE.trans {a b c} (h:eE a b) (g:eE b c):eE a c:=
 ⟨η h.len g.len,g.flr.trans h.flr,g.ro.trans h.ro,λk A hl=>(g.low k (by rw[h.ro];exact A) (ι hl h.len)).trans (h.low k A hl),λk bx MX A h1 X d hd=>by
  have F:k<b.bs.length:=ι (gP h1) h.len;have h3:=g.fl k _ MX (by rw[h.flr];exact A) (ε F) X d hd;have h4:refs (b.bs[k]).cells<=max (k+1) (refs bx.cells):=uN λe he=>h.fl k bx _ A h1 (ε F) e he
  omega⟩
theorem eE.push (U:St) b:eE U (U.push b):=
 ⟨by simp[QH],rfl,rfl,λk _ hl=>by simp[QH,μ hl],λk bx MX _ h1 X d hd=>by
  simp[QH,μ (gP h1)] at X
  rw[h1] at X;cases X;exact η (bV hd) (Q9 _ _)⟩
def eE.set (U:St) k (b b0:mc) (h:U.ro<=k) (h0:U.bs[k]?=some b0) (hc:U.flr<=k\/∀d∈b.cells,d∈b0.cells\/d.ref<=max (k+1) (refs b0.cells)):eE U {U with bs:=U.bs.set k b}:=
 ⟨by simp,rfl,rfl,λi hi _=>by simp only;rw[QC (by omega)],λi bx MX hi h1 X d hd=>by
  by_cases hik:k=i
  .subst hik;rw[h0] at h1;cases h1;simp only at X;rw[X8 (gP h0)] at X;cases X
   rcases hc with hc|hc
   .omega
   rcases hc d hd with h|h
   .exact η (bV h) (Q9 _ _)
   exact h
  simp only at X;rw[QC hik,h1] at X;cases X
  exact η (bV hd) (Q9 _ _)⟩
def tS {d:D}:∀(cs c:List D) (off:Nat),d∈setMany c off cs->d∈c\/d∈cs
 |[],c,off,h=>.inl h
 |x::xs,c,off,h=>by
  rcases tS xs _ _ h with h|h
  .rcases List.mem_or_eq_of_mem_set h with h|rfl
   .exact .inl h
   exact .inr (Ω ..)
  exact .inr (Q6 _ h)
variable{U:St}
def AH {aj} {a} {c} (h:U.cp k aj=some (a,c)):U.bs[k]?=some (.mem aj a c):=by
 unfold St.cp at h
 split at h
 .rename_i v a' c' F
  split at h;next hv=>cases h;rw[F,hv]
  cases h
 cases h
def HK {r} (h:U.qH k r=true):U.flr<=k\/r<=max (k+1) (U.An k):=by
 simp[St.qH] at h;omega
def yq {b:mc} (h:U.bs[k]?=some b):U.An k=refs b.cells:=by simp[St.An,h]
def sr (U R:St):Prop:=∃l,R=⟨U.bs++l,U.flr,U.ro⟩
theorem sr.rfl U:sr U U:=⟨[],by simp⟩
theorem sr.push (U:St) b:sr U (U.push b):=⟨[b],by simp[QH]⟩
def sr.goes {R} (h:sr U R):eE U R:=by
 obtain⟨l,rfl⟩:=h
 exact⟨by simp,Eq.refl _,Eq.refl _,λk _ hl=>by simp only;rw[μ hl],λk bx MX _ h1 X d hd=>by
  simp only at X;rw[μ (gP h1),h1] at X;cases X
  exact η (bV hd) (Q9 _ _)⟩
structure gh (P:Program) (pv:Pv) (cf:eJ):Prop where
 fn:∀f ds U r,cf f ds U=some r->∃fn b,P.funcs[f]?=some fn/\fn.body=some b/\fn.name≠ "runtime.NumGoroutine"
 calls:∀f ds U d R,cf f ds U=some (d,R)->∀w β Z (us:List Value),iD w U β Z->ds.length=us.length->(∀(i:Nat) c v,ds[i]?=some c->us[i]?=some v->VR w (U.x β Z) c v)->
  Calls P f us.toArray w λe w'=>∃v β' Z',e=.returned v/\Nx w U β Z w' R β' Z'/\VR w' (R.x β' Z') d v/\(kZ pv f=true->Quiet w w')
 ro:∀f ds U d R,cf f ds U=some (d,R)->kZ pv f=true->sr U R
 len:∀f ds U d R,cf f ds U=some (d,R)->eE U R
section
variable{pv:Pv} {P:Program} (ok:pv.Ok P) {cf:eJ} (fy:gh P pv cf)
include ok fy
def uR {w} {U R:St} {β:Nat->Option (Nat×Nat)} {Z:Nat->Prop} (h:iD w U β Z) {I} {a:Act} (hf:sq w (U.x β Z) I a.tmps) {o:Oper} {d} (hs:eT pv cf I U o=some (d,R))
  {next:Act->World->Prop} {Tr:Exit->Act->World->Prop} (K:∀v w' β' Z',Nx w U β Z w' R β' Z'->VR w' (R.x β' Z') d v->(iT pv o=false->Quiet w w')->next (a.put o.dst v) w'):o.wp P a w next Tr:=by
 unfold eT at hs
 split at hs
 .rename_i f args cj hop
  split at hs
  .rename_i g fZ aK;have hv:=zh hf f;rw[aK] at hv;obtain⟨vs,he,hl,hr⟩:=BO hv;obtain⟨fn,b,hfn,F,V3⟩:=fy.fn _ _ _ _ hs;have y7:=FM hf args.toList
   have hrel:∀(i:Nat) c v,(args.toList.map I.ev++fZ)[i]?=some c->(args.toList.map a.eval++vs)[i]?=some v->VR w (U.x β Z) c v:=by
    intro i c v hc hv;rw[ZT] at hc hv;simp only[List.length_map] at hc hv
    split at hc;next hi=>rw[if_pos hi] at hv;exact y7 i c v hc hv
    rename_i hi;rw[if_neg hi] at hv;exact hr _ c v hc hv
   have dP:=fy.calls _ _ _ _ _ hs w β Z (args.toList.map a.eval++vs) h (by simp[hl]) hrel
   have hrun:(execOp a.eval o).run P w=.ok (.enter g (args.toList.map a.eval++vs).toArray) w:=by
    obtain⟨dst,op,ty,pos,after,guard⟩:=o;simp only at hop;subst hop;have hbn:fn.body.isNone=false:=by simp[F]
    have hn:(fn.name== "runtime.NumGoroutine")=false:=by simpa using V3
    have abh:args.map a.eval++vs.toArray=(args.toList.map a.eval++vs).toArray:=by
     apply Qe;simp
    simp only[execOp,resolve,he,Deferred.ofValue,Δ,QQ,ρ,invoke,callFunc,run_program,hfn,hn,hbn,Qu,if_false,Array.empty_append,abh]
   unfold Oper.wp;rw[hrun,Oper.upon_enter];refine dP.mono λe w' ⟨v,β',Z',he,hn,hv,fx⟩=>?_;subst he;refine K v w' β' Z' hn hv ?_;intro he;simp only[iT,hop] at he
   cases f with
   |func g'=>
    simp only[Fr.ev] at aK;cases aK;exact fx (by simpa using he)
   |_=>simp at he
  cases hs
 rename_i op hop;obtain⟨v,w',β',hd,hn,hv,hq⟩:=U3 ok h hf (o:=o) hs;have hK:next (a.put o.dst v) w':=K v w' β' Z hn hv hq;unfold Oper.wp
 rcases hd with hd|⟨hd,rfl⟩
 .rw[hd,Oper.upon_value];exact hK
 rw[hd,Oper.upon_skip];exact hK
omit ok fy in
def uH {w} {x} {ops} {I} {a:Act} (hf:sq w x I a.tmps) {o} {b} (h:au ops I o=some b):YY o (yielded ops a.tmps)=b:=by
 unfold au at h;unfold YY
 split at h;next hg=>rw[hg];cases h;rfl
 rename_i j want hg;rw[hg]
 split at h;·cases h
 rename_i t ht;have hv:=hf t;show(yielded ops a.tmps j==some want)=b
 have hy:∀aa,a.tmps[t]?=aa->yielded ops a.tmps j=match aa with|some (.bool b)=>some b|_=>none:=by
  intro aa hu;simp[yielded,ht,hu]
  cases aa with
  |none=>rfl
  |some v=>cases v<;>rfl
 split at h
 .rename_i b' F;rw[F] at hv;have hv:=eL hv;cases h
  have:a.tmps[t]?=some (.bool b'):=by
   rw[χ] at hv
   cases RK:a.tmps[t]? with
   |none=>rw[RK] at hv;simp[undef] at hv
   |some v=>rw[RK] at hv;simp at hv;rw[hv]
  rw[hy _ this];cases b'<;>cases want<;>rfl
 .rename_i ds F;rw[F] at hv;obtain⟨vs,hv,_⟩:=vh hv;cases h;rw[χ] at hv
  cases RK:a.tmps[t]? with
  |none=>rw[hy _ RK];cases want<;>rfl
  |some v=>rw[RK] at hv;simp at hv;rw[hv] at RK;rw[hy _ RK];cases want<;>rfl
 cases h
omit ok fy in
def nJ (a:Act) dst v:(a.put dst v).tmps.size=a.tmps.size:=by
 cases dst<;>simp[Act.put]
omit ok fy in
def put_defers (a:Act) dst v:(a.put dst v).defers=a.defers:=by
 cases dst<;>simp[Act.put]
def zj (ops:List Oper) (n:Nat):Prop:=∀o∈ops,∀t,o.dst=some t->t<n
def E8 {ops} {Tr:Exit->Act->World->Prop}:∀(l:List Oper) (i:Nat) (I aA:Fr) (U R:St) (β:Nat->Option (Nat×Nat)) (Z:Nat->Prop) (a:Act) (w:World),(∀j,l[j]?=ops[i+j]?)->
  ju pv cf ops l I U=some (aA,R)->iD w U β Z->sq w (U.x β Z) I a.tmps->zj l a.tmps.size->
  (∀a' w' β' Z',Nx w U β Z w' R β' Z'->sq w' (R.x β' Z') aA a'.tmps->a'.defers=a.defers->a'.tmps.size=a.tmps.size->Tr .normal a' w')->wpOps P ops Tr (List.range' i l.length) a w
 |[],i,I,aA,U,R,β,Z,a,w,_,hs,h,hf,_,K=>by
  simp only[ju] at hs;cases hs;exact K a w β Z (υ h) hf rfl rfl
 |o::l,i,I,aA,U,R,β,Z,a,w,hl,hs,h,hf,hd,K=>by
  have ho:ops[i]?=some o:=by have:=hl 0;simpa using this.symm
  have iv:∀j,l[j]?=ops[i+1+j]?:=λj=>by have:=hl (j+1);simpa[Yr,JJ 1 j] using this
  have hdl:zj l a.tmps.size:=λp B=>hd p (Q6 _ B);simp[List.range'_succ,wpOps,ho];simp[ju] at hs
  split at hs
  .rename_i hw;rw[uH hf hw];simp;left
   split at hs;next d st1 hop=>refine uR ok fy h hf hop λv w' β' Z' hn hv _=>E8 l (i+1) _ aA st1 R β' Z' _ w' iv hs hn.sim (KH (hf.mono hn.keeps) hv o.dst λt ht=>hd o (Ω ..) t ht) (by rw[nJ];exact hdl) λa' UB xv NI L2 xr hdf hsz=>?_;exact K a' UB xv NI (hn.trans L2) xr (by rw[hdf,put_defers]) (by rw[hsz,nJ])
   cases hs
  next hw=>rw[uH hf hw];simp;refine E8 l (i+1) _ aA U R β Z _ w iv hs h (KH hf (.im _ _ (.tup [] [] rfl (by simp))) o.dst λt ht=>hd o (Ω ..) t ht) (by rw[nJ];exact hdl) λa' UB xv NI L2 xr hdf hsz=>?_;exact K a' UB xv NI L2 xr (by rw[hdf,put_defers]) (by rw[hsz,nJ])
  cases hs
end
end Go.V
namespace Go.V
open Go.RowKit
variable{I aA:Fr}
def Fj {l:List Operand} (h:∀x∈l,I.ev x=aA.ev x):l.map I.ev=l.map aA.ev:=Zf h
def Cz {l:List (Nat×Operand)} (h:∀p∈l,I.ev p.2=aA.ev p.2):l.map (λp=>(p.1,I.ev p.2))=l.map (λp=>(p.1,aA.ev p.2)):=
 Zf λp B=>by rw[h p B]
variable{pv:Pv}{U:St}
def Iv {op:Op} {ty:TypeId} (h:∀x∈op.operands.toList,I.ev x=aA.ev x):dY pv I U op ty=dY pv aA U op ty:=by
 unfold dY
 cases op with
 |build t ps=>simp only;rw[Cz λp B=>h p.2 (by simp[Θ];exact⟨p.1,by simpa using B⟩)]
 |buildSlice t len ps=>simp only;rw[Cz λp B=>h p.2 (by simp[Θ];exact⟨p.1,by simpa using B⟩)]
 |makeFunc f first captured=>
  cases f<;>simp only
  have:captured.toList.map I.ev=captured.toList.map aA.ev:=Fj λx hx=>h x (by simp[Θ];right;simpa using hx);rw[this]
 |slice t x lo hi mx=>
  cases mx<;>simp only
  have hx:I.ev x=aA.ev x:=h x (by simp[Θ])
  have Eh:lo.map I.ev=lo.map aA.ev:=by
   cases lo with
   |none=>rfl
   |some l=>simp only[YX];rw[h l (by simp[Θ])]
  have Hp:hi.map I.ev=hi.map aA.ev:=by
   cases hi with
   |none=>rfl
   |some l=>simp only[YX];rw[h l (by simp[Θ])]
  rw[hx,Eh,Hp]
 |makeMap t r=>rfl
 |lookup t x i ok=>rfl
 |call c=>
  obtain⟨callee,args,cj⟩:=c;cases callee<;>simp only
  have:args.toList.map I.ev=args.toList.map aA.ev:=Fj λx hx=>h x (by simp[Θ,Call.operands];simpa using hx);rw[this]
 |_=>simp only[Θ,Wg,List.not_mem_nil,or_false,forall_eq_or_imp,forall_eq,List.toList_toArray] at h<;>simp only[h]
def tmpsOf:List Operand->List Nat
 |[]=>[]
 | .tmp t::l=>t::tmpsOf l
 |_::l=>tmpsOf l
def pV {t}:∀{l:List Operand},.tmp t∈l->t∈tmpsOf l
 |x::l,h=>by
  rcases Wg.1 h with rfl|h
  .simp[tmpsOf]
  have:=pV h;cases x<;>simp[tmpsOf,this]
def looks (ops:Array Oper) (o:Oper):List Nat:=
  (match o.guard with
   |some (j,_)=>match(ops[j]?).bind (·.dst) with
     |some t=>[t]
     |none=>[]
   |none=>[])++tmpsOf o.op.operands.toList
def DH {ts:List Nat} (h:∀t∈ts,I.get t=aA.get t) {x} (hx:∀t,x=.tmp t->t∈ts):I.ev x=aA.ev x:=by
 cases x<;>first|rfl|exact h _ (hx _ rfl)
variable{cf:eJ}{ops:Array Oper}{o:Oper}
def CF (h:∀t∈looks ops o,I.get t=aA.get t):eT pv cf I U o=eT pv cf aA U o:=by
 have he:∀x∈o.op.operands.toList,I.ev x=aA.ev x:=λx hx=>DH h λt e=>by subst e;exact ZK _ (pV hx)
 unfold eT
 split;next f args cj hop=>rw[hop] at he;have hf:I.ev f=aA.ev f:=he f (by simp[Θ,Call.operands]);have ha:args.toList.map I.ev=args.toList.map aA.ev:=Fj λx hx=>he x (by simp[Θ,Call.operands];right;simpa using hx);rw[hf,ha]
 exact Iv he
def BL (h:∀t∈looks ops o,I.get t=aA.get t):au ops I o=au ops aA o:=by
 unfold au
 cases hg:o.guard with
 |none=>rfl
 |some p=>
  obtain⟨j,want⟩:=p;simp only
  cases ht:(ops[j]?).bind (·.dst) with
  |none=>rfl
  |some t=>
   simp only;rw[h t (by simp[looks,hg,ht])]
def It (o:Oper):Bool:=
 match o.op with
 | .move _| .assign _| .pick _ _ _| .alloc _| .box _ _| .build _ _| .buildSlice _ _ _| .nilCheck _| .binOp _ _ _ _ _| .unOp _ _ _| .makeFunc _ _ _| .makeSlice _ _ _
 | .fieldAddr _ _ _| .field _ _ _| .index _ _ _| .extract _ _=>true
 | .call ⟨.builtin b,_,_⟩=>match b with
  | .len| .min| .max=>true
  |_=>false
 |_=>false
variable{R:St}{d:D}
def F3 {b} {cj:List TypeId} {args} (F:b=.len\/b=.min\/b=.max) (h:bA pv b cj args U=some (d,R)) T:R=U/\bA pv b cj args T=some (d,T):=by
 rcases F with rfl|rfl|rfl
 .match args,h with
  |[x],h=>
   simp only[bA] at h|-
   split at h
   .split at h
    .split at h;·cases h;exact⟨rfl,rfl⟩
     cases h
    .cases x with
     |str s=>cases h
     |_=>
      simp only at h|-
      split at h;next n hn=>cases h;exact⟨rfl,by simp⟩
      cases h
    .cases h;exact⟨rfl,rfl⟩
    cases h
   cases h
  |[],h=>simp[bA] at h
  |_::_::_,h=>simp[bA] at h
 .match args,h with
  |[],h=>simp[bA] at h
  |x::l,h=>
   simp only[bA] at h|-;obtain⟨r,hz,hs⟩:=γ.1 h;cases hs;exact⟨rfl,by rw[hz];rfl⟩
 match args,h with
 |[],h=>simp[bA] at h
 |x::l,h=>
  simp only[bA] at h|-;obtain⟨r,hz,hs⟩:=γ.1 h;cases hs;exact⟨rfl,by rw[hz];rfl⟩
def K2 (B:It o=true) (h:dY pv I U o.op o.type=some (d,R)) (T:St) (hT:T.bs.length=U.bs.length):
  ∃T',dY pv I T o.op o.type=some (d,T')/\((R=U/\T'=T)\/∃ar cs,R=U.push (.mem 0 ar cs)/\T'=T.push (.mem 0 ar cs)):=by
 obtain⟨dst,op,ty,pos,after,guard⟩:=o;simp only at h|-;cases op<;>simp[It] at B<;>simp only[dY] at h|-
 case move x=>cases h;exact⟨T,rfl,.inl ⟨rfl,rfl⟩⟩
 case assign x=>cases h;exact⟨T,rfl,.inl ⟨rfl,rfl⟩⟩
 case pick c p q=>split at h<;>first|(cases h;exact⟨T,rfl,.inl ⟨rfl,rfl⟩⟩)|cases h
 case alloc e=>
  obtain⟨cs,hz,hs⟩:=γ.1 h;cases hs;exact⟨_,by rw[hz,hT];rfl,.inr ⟨_,_,rfl,rfl⟩⟩
 case box e x=>
  obtain⟨cs,hz,hs⟩:=γ.1 h;cases hs;exact⟨_,by rw[hz,hT];rfl,.inr ⟨_,_,rfl,rfl⟩⟩
 case build t ps=>
  obtain⟨r,hz,hs⟩:=γ.1 h;cases hs;exact⟨_,by rw[hz];rfl,.inl ⟨rfl,rfl⟩⟩
 case buildSlice t len ps=>
  unfold jk at h|-
  split at h
  .rename_i e ht;obtain⟨s,hsz,h⟩:=δ.1 h;obtain⟨z,hz,h⟩:=δ.1 h
   split at h;next I9=>obtain⟨cs,hf,hs⟩:=γ.1 h;cases hs;exact⟨_,by simp[hsz,hz,I9,hf,hT],.inr ⟨_,_,rfl,rfl⟩⟩
   cases h
  cases h
 case nilCheck x=>split at h<;>first|(cases h;exact⟨T,rfl,.inl ⟨rfl,rfl⟩⟩)|cases h
 case binOp a b c d e=>
  obtain⟨r,hz,hs⟩:=γ.1 h;cases hs;exact⟨_,by rw[hz];rfl,.inl ⟨rfl,rfl⟩⟩
 case unOp a b c=>
  obtain⟨r,hz,hs⟩:=γ.1 h;cases hs;exact⟨_,by rw[hz];rfl,.inl ⟨rfl,rfl⟩⟩
 case makeFunc f first captured=>
  cases f<;>simp only at h|-<;>first|cases h|skip
  split at h;next hfe=>cases h;exact⟨T,by rw[if_pos hfe],.inl ⟨rfl,rfl⟩⟩
  cases h
 case makeSlice t l c=>
  unfold gO at h|-
  split at h
  .rename_i e k l k' c ht hl hc;obtain⟨i,hi,h⟩:=δ.1 h;obtain⟨z,hz,h⟩:=δ.1 h
   split at h;next I9=>cases h;simp only[hi,hz,Option.bind_some];rw[if_pos I9,hT];exact⟨_,rfl,.inr ⟨_,_,rfl,rfl⟩⟩
   cases h
  cases h
 case fieldAddr a b c=>
  obtain⟨r,hz,hs⟩:=γ.1 h;cases hs;exact⟨_,by rw[hz];rfl,.inl ⟨rfl,rfl⟩⟩
 case field a b c=>cases h
 case index a b c=>
  obtain⟨r,hz,hs⟩:=γ.1 h;cases hs;exact⟨_,by rw[hz];rfl,.inl ⟨rfl,rfl⟩⟩
 case extract t i=>
  split at h;·obtain⟨r,hz,hs⟩:=γ.1 h;cases hs;exact⟨_,by rw[hz];rfl,.inl ⟨rfl,rfl⟩⟩
  cases h
 case call c=>
  obtain⟨callee,args,cj⟩:=c;cases callee<;>simp at B h|-
  rename_i b;have F:b=.len\/b=.min\/b=.max:=by cases b<;>simp at B|-
  obtain⟨rfl,X⟩:=F3 F h T;exact⟨T,X,.inl ⟨rfl,rfl⟩⟩
def kC {k aj off} {cs} (h:U.wr k aj off cs=some R):eE U R:=by
 unfold St.wr at h
 split at h
 .split at h;next a c hm hc=>cases h;exact eE.set U k _ _ (jL hc.2) (AH hm) ((HK hc.2).imp id λhr d hd=>(tS _ _ _ hd).imp id λhd=>η (bV hd) (by rw[yq (AH hm)] at hr;exact hr))
  cases h
 cases h
variable{x s:D}
def uj {cj:List TypeId} (h:dK pv cj s x U=some (d,R)):eE U R:=by
 unfold dK at h
 split at h
 .split at h
  .split at h;·cases h
   obtain⟨i,hi,h⟩:=δ.1 h;obtain⟨z,hz,h⟩:=δ.1 h;obtain⟨⟨n,ys⟩,jI,h⟩:=δ.1 h;dsimp only at h
   split at h;·cases h
   cases s with
   |nul=>
    simp only at h
    split at h;·cases h;exact .refl _
    split at h;·cases h;exact .push _ _
    cases h
   |win k aj off len sz=>
    simp only at h
    split at h
    .split at h;·cases h
     split at h;·cases h;exact .refl _
     split at h
     .rename_i hc;cases h;have hbk:=AH (by assumption);refine eE.set U k _ _ (jL hc.2) hbk ((HK hc.2).imp id λhr d hd=>?_);rw[yq hbk] at hr
      rcases List.mem_append.1 hd with hd|hd
      .exact .inl (List.mem_of_mem_take (ZE hd))
      exact .inr (η (bV hd) hr)
     cases h
    cases h
   |_=>cases h
  cases h
 cases h
def Jq {cj:List TypeId} (h:DQ pv cj s x U=some (d,R)):eE U R:=by
 unfold DQ at h
 split at h
 .split at h
  .obtain⟨i,hi,h⟩:=δ.1 h;obtain⟨⟨n,ys⟩,jI,h⟩:=δ.1 h;dsimp only at h
   split at h;·cases h
   cases s with
   |nul=>cases h;exact .refl _
   |win k aj off len sz=>
    simp only at h
    split at h;·cases h
    obtain⟨r,hz,hs⟩:=γ.1 h;cases hs;exact kC hz
   |_=>cases h
  cases h
 cases h
def FY {cj:List TypeId} (h:qG pv cj s U=some (d,R)):eE U R:=by
 unfold qG at h
 split at h
 .split at h
  .cases s with
   |nul=>cases h;exact .refl _
   |win k aj off len sz=>
    simp only at h;obtain⟨i,hi,h⟩:=δ.1 h
    split at h;·obtain⟨r,hz,hs⟩:=γ.1 h;cases hs;exact kC hz
    cases h
   |_=>cases h
  cases h
 cases h
def K3 (h:dY pv I U o.op o.type=some (d,R)):eE U R/\(iT pv o=false->sr U R):=by
 by_cases B:It o=true
 .obtain⟨T',_,⟨rfl,_⟩|⟨ar,cs,rfl,_⟩⟩:=K2 B h U rfl;·exact⟨.refl _,λ_=>.rfl _⟩
  exact⟨.push _ _,λ_=>.push _ _⟩
 obtain⟨dst,op,ty,pos,after,guard⟩:=o;simp only at h
 have ad:sr U R->eE U R/\(iT pv ⟨dst,op,ty,pos,after,guard⟩=false->sr U R):=λha=>⟨ha.goes,λ_=>ha⟩
 cases op<;>simp only[It,not_true_eq_false,Qu,not_false_eq_true] at B<;>simp only[dY] at h
 case load t a=>obtain⟨r,hz,hs⟩:=γ.1 h;cases hs;exact ad (.rfl _)
 case store t a x=>
  obtain⟨r,hz,hs⟩:=γ.1 h;cases hs;refine⟨?_,λe=>by simp[iT] at e⟩;unfold nC at hz
  split at hz
  .split at hz;·exact kC hz
   cases hz
  cases hz
 case convert s t x=>
  refine ad ?_;unfold pk at h
  split at h;·cases h;exact .rfl _
  .cases h;exact .rfl _
  .cases h;exact .rfl _
  .split at h
   .split at h;·cases h;exact .push _ _
    cases h
   cases h
  .split at h
   .split at h;·cases h;exact .rfl _
    cases h
   cases h
  .split at h
   .split at h;·cases h
    split at h;·obtain⟨r,hz,hs⟩:=γ.1 h;cases hs;exact .rfl _
    cases h
   cases h
  cases h
 case slice t x lo hi mx=>
  cases mx<;>simp only at h<;>first|cases h|skip
  obtain⟨r,hz,hs⟩:=γ.1 h;cases hs;exact ad (.rfl _)
 case indexAddr t x i=>obtain⟨r,hz,hs⟩:=γ.1 h;cases hs;exact ad (.rfl _)
 case call c=>
  obtain⟨callee,args,cj⟩:=c
  cases callee<;>simp only at h<;>first|cases h|skip
  rename_i b;unfold bA at h;refine⟨?_,λe=>?_⟩
  .split at h;·exact absurd B (by simp)
   .exact uj h
   .exact Jq h
   .exact FY h
   .exact absurd B (by simp)
   .exact absurd B (by simp)
   cases h
  cases b<;>simp[iT] at e<;>simp at B
 all_goals cases h
def vO {P} (fy:gh P pv cf) (h:eT pv cf I U o=some (d,R)):eE U R/\(iT pv o=false->sr U R):=by
 unfold eT at h
 split at h
 .rename_i f args cj hop
  split at h
  .rename_i g fZ aK;refine⟨fy.len _ _ _ _ _ h,λe=>?_⟩;simp only[iT,hop] at e
   cases f with
   |func g'=>
    simp only[Fr.ev] at aK;cases aK;exact fy.ro _ _ _ _ _ h (by simpa using e)
   |_=>simp at e
  cases h
 exact K3 h
def sW (acc:List Nat):List Edge->Nat
 |[]=>0
 |e::l=>match Φ .any e with
  |true=>sW acc l|||(1<<<e.on)|||acc.getD e.on 0
  |false=>sW acc l
def Ln:List Oper->List Nat->List Nat
 |[],acc=>acc
 |o::l,acc=>Ln l (acc++[sW acc o.after.toList])
def Bn (d:Option Nat) (l:List Nat):Bool:=
 match d with
 |some t=>l.contains t
 |none=>false
def Gt:Option Nat->Option Nat->Bool
 |some a,some b=>a==b
 |_,_=>false
def Nt (o:Oper):Bool:=(fQ o.op).isSome
def nj (pv:Pv) (ops:Array Oper) (b:Bool) (x y:Oper):Bool:=
 Bn x.dst (looks ops y)||Bn y.dst (looks ops x)||Gt x.dst y.dst||(iT pv x &&!It y &&!(Nt y &&b))||(iT pv y &&!It x &&!(Nt x &&b))
def listed (dy:List (Nat×Nat)) (i j:Nat):Bool:=dy.any λp=>QT p.1 i &&QT p.2 j
def Oo (pv:Pv) (ops:Array Oper) (dy:List (Nat×Nat)) (ms:List Nat) (j:Nat):Bool:=
 match ops[j]? with
 |some y=>(y.after.toList.all λe=>!Φ .any e||ZD e.on j) &&(WM j).all λi=>match ops[i]? with
  |some x=>!nj pv ops (listed dy i j) x y||(ms.getD j 0).testBit i
  |none=>true
 |none=>true
def nL (pv:Pv) (ops:Array Oper) (dy:List (Nat×Nat)):Bool:=(WM ops.size).all (Oo pv ops dy (Ln ops.toList []))
def Bz (ops:Array Oper) (E:Nat->Bool):Prop:=∀k o,E k=true->ops[k]?=some o->∀e∈o.after.toList,Φ .any e=true->E e.on=true
def Nr (E:Nat->Bool) (acc:List Nat):Prop:=∀k i,(acc.getD k 0).testBit i=true->E k=true->E i=true
def AJ {E:Nat->Bool} {acc} (ha:Nr E acc) {i}:∀(l:List Edge),(sW acc l).testBit i=true->(∀e∈l,Φ .any e=true->E e.on=true)->E i=true
 |[],h,_=>by simp[sW] at h
 |e::l,h,he=>by
  have t_:∀e∈l,Φ .any e=true->E e.on=true:=λe h=>he e (Q6 _ h);unfold sW at h
  cases F:Φ .any e with
  |false=>rw[F] at h;exact AJ ha l h t_
  |true=>
   rw[F] at h;simp only[Nat.testBit_or,Bool.or_eq_true] at h;have hon:=he e (Ω ..) F
   rcases h with(h|h)|h
   .exact AJ ha l h t_
   .rw[Nat.one_shiftLeft,Nat.testBit_two_pow] at h;have:e.on=i:=by simpa using h
    rw[<-this];exact hon
   exact ha _ _ h hon
def CO {E:Nat->Bool} {ops} (hc:Bz ops E):∀(l:List Oper) (acc:List Nat),(∀j,l[j]?=ops[acc.length+j]?)->Nr E acc->Nr E (Ln l acc)
 |[],acc,_,h=>h
 |o::l,acc,hl,h=>by
  have h0:=hl 0;simp at h0;refine CO hc l _ (λj=>?_) λk i A hE=>?_;·have:=hl (j+1);simp at this;rw[this];simp[Yr,JJ 1 j]
  rcases φ k acc.length with hlt|heq|Wu
  .simp[μ hlt] at A;exact h k i (by simpa only[Wk] using A) hE
  .subst heq;simp only[Wk] at A;simp at A;exact AJ h _ A (hc _ o hE h0.symm)
  simp at A;rw[ς (by simp;omega)] at A;simp at A
variable{dy:List (Nat×Nat)}{i j:Nat}{y:Oper}{E:Nat->Bool}
def oC (h:nL pv ops dy=true) {x} (hij:i<j) (hx:ops[i]?=some x) (hy:ops[j]?=some y) (hc:nj pv ops (listed dy i j) x y=true) (hE:Bz ops E) (hj:E j=true):E i=true:=by
 have A8:j<ops.size:=by
  rcases ζ j ops.size with h'|h'
  .exact h'
  rw[Ψ h'] at hy;cases hy
 have h1:=ω.1 h j (W'.2 A8);unfold Oo at h1;rw[hy] at h1;simp only[ψ] at h1;have X:=ω.1 h1.2 i (W'.2 hij);rw[hx] at X;simp only[hc,Yb,YS] at X;exact CO hE ops.toList [] (λj=>by simp) (λk i A _=>by simp at A) j i X hj
def Fa (h:nL pv ops dy=true) (hy:ops[j]?=some y) {e:Edge} (he:e∈y.after.toList) (F:Φ .any e=true):e.on<j:=by
 have A8:j<ops.size:=by
  rcases ζ j ops.size with h'|h'
  .exact h'
  rw[Ψ h'] at hy;cases hy
 have h1:=ω.1 h j (W'.2 A8);unfold Oo at h1;rw[hy] at h1;simp only[ψ] at h1;have:=ω.1 h1.1 e he;simp only[F,Yb,YS] at this;have:=QW this;omega
structure Trace (pv:Pv) (cf:eJ) (ops:Array Oper) (l:List Oper) (hb:Nat->Fr) (S:Nat->St) (dd:Nat->D):Prop where
 put:∀i o,l[i]?=some o->hb (i+1)=(hb i).eS o.dst (dd i)
 step:∀i o,l[i]?=some o->(au ops (hb i) o=some true/\eT pv cf (hb i) (S i) o=some (dd i,S (i+1)))\/(au ops (hb i) o=some false/\dd i=.tup []/\S (i+1)=S i)
def trace {pv} {cf} {ops}:∀(l:List Oper) (I:Fr) (U:St) (aA:Fr) (R:St),ju pv cf ops l I U=some (aA,R)->
  ∃(hb:Nat->Fr) (S:Nat->St) (dd:Nat->D),hb 0=I/\S 0=U/\hb l.length=aA/\S l.length=R/\Trace pv cf ops l hb S dd
 |[],I,U,aA,R,h=>by
  simp only[ju] at h;cases h;exact⟨λ_=>I,λ_=>U,λ_=>.cT,rfl,rfl,rfl,rfl,by intro i o h;simp at h,by intro i o h;simp at h⟩
 |o::l,I,U,aA,R,h=>by
  simp[ju] at h
  have mk:∀(d:D) (st1:St),((au ops I o=some true/\eT pv cf I U o=some (d,st1))\/(au ops I o=some false/\d=.tup []/\st1=U))->ju pv cf ops l (I.eS o.dst d) st1=some (aA,R)->
    ∃(hb:Nat->Fr) (S:Nat->St) (dd:Nat->D),hb 0=I/\S 0=U/\hb (o::l).length=aA/\S (o::l).length=R/\Trace pv cf ops (o::l) hb S dd:=by
   intro d st1 hst hr;obtain⟨hb,S,dd,h1,X,h3,h4,h5⟩:=trace l _ _ _ _ hr;refine⟨λ|0=>I|i+1=>hb i,λ|0=>U|i+1=>S i,λ|0=>d|i+1=>dd i,rfl,rfl,h3,h4,⟨λi p B=>?_,λi p B=>?_⟩⟩
   .cases i with
    |zero=>simp at B;subst B;exact h1
    |succ i=>exact h5.put i p (by simpa using B)
   cases i with
   |zero=>simp at B;subst B;simp[X];exact hst
   |succ i=>exact h5.step i p (by simpa using B)
  split at h
  .rename_i hw
   split at h;next d st1 hop=>exact mk d st1 (.inl ⟨hw,hop⟩) h
   cases h
  next hw=>exact mk _ U (.inr ⟨hw,rfl,rfl⟩) h
  cases h
def eB (ops:Array Oper) (E:Nat->Bool) (t:Nat):Nat->Option Nat
 |0=>none
 |k+1=>match ops[k]? with
  |some o=>if E k=true/\o.dst=some t then some k else eB ops E t k
  |none=>eB ops E t k
def gQ ops (E:Nat->Bool) t:∀(n:Nat),match eB ops E t n with
  |some j=>j<n/\E j=true/\(∃o,ops[j]?=some o/\o.dst=some t)/\∀i o,j<i->i<n->ops[i]?=some o->o.dst=some t->E i=false
  |none=>∀i o,i<n->ops[i]?=some o->o.dst=some t->E i=false
 |0=>by intro i o h;omega
 |n+1=>by
  have ih:=gQ ops E t n;unfold eB
  cases hn:ops[n]? with
  |none=>
   simp only
   cases hl:eB ops E t n with
   |none=>
    rw[hl] at ih;intro i o hi ho hd
    rcases ζ i n with h'|h'
    .exact ih i o h' ho hd
    have:i=n:=by omega
    subst this;rw[hn] at ho;cases ho
   |some j=>
    rw[hl] at ih;refine⟨by omega,ih.2.1,ih.2.2.1,λi o hj hi ho hd=>?_⟩
    rcases ζ i n with h'|h'
    .exact ih.2.2.2 i o hj h' ho hd
    have:i=n:=by omega
    subst this;rw[hn] at ho;cases ho
  |some p=>
   simp only
   by_cases hc:E n=true/\p.dst=some t;·rw[if_pos hc];exact⟨by omega,hc.1,⟨p,hn,hc.2⟩,λi o hj hi=>by omega⟩
   rw[if_neg hc]
   have hE:∀o,ops[n]?=some o->o.dst=some t->E n=false:=by
    intro o ho hd;rw[hn] at ho;cases ho
    cases hq:E n with
    |false=>rfl
    |true=>exact absurd ⟨hq,hd⟩ hc
   cases hl:eB ops E t n with
   |none=>
    rw[hl] at ih;intro i o hi ho hd
    rcases ζ i n with h'|h'
    .exact ih i o h' ho hd
    have:i=n:=by omega
    subst this;exact hE o ho hd
   |some j=>
    rw[hl] at ih;refine⟨by omega,ih.2.1,ih.2.2.1,λi o hj hi ho hd=>?_⟩
    rcases ζ i n with h'|h'
    .exact ih.2.2.2 i o hj h' ho hd
    have:i=n:=by omega
    subst this;exact hE o ho hd
def wg {E':Nat->Bool} {t a b} (h1:∀i o,ops[i]?=some o->o.dst=some t->((i<a/\E i=true)↔(i<b/\E' i=true))):eB ops E t a=eB ops E' t b:=by
 have s1:=gQ ops E t a;have s2:=gQ ops E' t b
 cases h:eB ops E t a with
 |none=>
  rw[h] at s1
  cases h':eB ops E' t b with
  |none=>rfl
  |some j=>
   rw[h'] at s2;obtain⟨q1,q2,⟨o,q3,q4⟩,_⟩:=s2;obtain⟨r1,r2⟩:=(h1 j o q3 q4).2 ⟨q1,q2⟩;have:=s1 j o r1 q3 q4;rw[this] at r2;cases r2
 |some j=>
  rw[h] at s1;obtain⟨p1,p2,⟨o,p3,p4⟩,p5⟩:=s1;obtain⟨r1,r2⟩:=(h1 j o p3 p4).1 ⟨p1,p2⟩
  cases h':eB ops E' t b with
  |none=>
   rw[h'] at s2;have:=s2 j o r1 p3 p4;rw[this] at r2;cases r2
  |some k=>
   rw[h'] at s2;obtain⟨q1,q2,⟨o',q3,q4⟩,q5⟩:=s2;obtain⟨u1,u2⟩:=(h1 k o' q3 q4).2 ⟨q1,q2⟩
   congr 1
   rcases φ j k with hlt|heq|Wu
   .have:=p5 k o' hlt u1 q3 q4;rw[this] at u2;cases u2
   .exact heq
   have:=q5 j o Wu r1 p3 p4;rw[this] at r2;cases r2
def xO (I:Fr) (t:Nat) (d:D):D:=if ZF I.n t=false/\I.loc.length<=t then .cT else d
def KJ (I:Fr) dst d aa:(I.eS dst d).get aa=if dst=some aa then xO I aa d else I.get aa:=by
 cases dst with
 |none=>simp[Fr.eS]
 |some t=>
  simp only[Fr.eS,HA,xO]
  by_cases h:aa=t;·subst h;simp
  rw[if_neg h,if_neg (by simpa using λe=>h e.symm)]
def E0 (I:Fr) dst d t e:xO (I.eS dst d) t e=xO I t e:=by
 cases dst with
 |none=>rfl
 |some aa=>
  have h1:(I.put aa d).n=I.n:=by unfold Fr.put;split<;>rfl
  have X:(I.put aa d).loc.length=I.loc.length:=by unfold Fr.put;split<;>simp
  simp[Fr.eS,xO,h1,X]
def sJ {pv} {cf} {ops:Array Oper} {hb:Nat->Fr} {S:Nat->St} {dd:Nat->D} (h:Trace pv cf ops ops.toList hb S dd) t:∀(i:Nat),i<=ops.size->
  (hb i).get t=(match eB ops (λ_=>true) t i with|some j=>xO (hb 0) t (dd j)|none=>(hb 0).get t)/\∀e,xO (hb i) t e=xO (hb 0) t e
 |0,_=>⟨rfl,λ_=>rfl⟩
 |i+1,hi=>by
  obtain⟨Qm,Ha⟩:=sJ h t i (by omega);have ho:ops[i]?=some ops[i]:=κ (by omega);have B:=h.put i ops[i] (by simpa using ho);rw[B];refine⟨?_,λe=>by rw[E0];exact Ha e⟩;rw[KJ];unfold eB;rw[ho];simp
  split;·exact Ha _
  exact Qm
def entry (j:Nat) (log:Log) (l:List Oper) (hb:Nat->Fr) (S:Nat->St) (i:Nat):Option (Oper×Fr×St×St):=
 if i<j then log[j-1-i]? else(l[i-j]?).map λx=>(x,hb (i-j),S (i-j),S (i-j+1))
def Ga (dy:List (Nat×Nat)) (ops:Array Oper) (j:Nat) (log:Log) (l:List Oper) (hb:Nat->Fr) (S:Nat->St):Prop:=
 ∀q o,l[q]?=some o->au ops (hb q) o=some true->∀i,i<j+q->listed dy i (j+q)=true->∃x fi si oo,entry j log l hb S i=some (x,fi,si,oo)/\fh x fi si oo o (hb q) (S q) (S (q+1))=true
def MR {log} (h:DW dy j log o I U R=true) (hi:i<j) (hl:listed dy i j=true):∃x fi si oo,log[j-1-i]?=some (x,fi,si,oo)/\fh x fi si oo o I U R=true:=by
 unfold listed at hl;obtain⟨p,B,he⟩:=List.any_eq_true.1 hl;simp only[ψ] at he;have h1:=Γ he.1;have X:=Γ he.2;have:=ω.1 h p B
 have F:(QT p.2 j &&ZD p.1 j)=true:=by
  rw[he.2,h1];simp[ZD];omega
 rw[F] at this;simp[h1] at this
 split at this;next x fi si oo hx=>exact⟨x,fi,si,oo,hx,this⟩
 cases this
def J2 {pv} {cf} {ops} {dy}:∀(l:List Oper) (j:Nat) (log:Log) (I:Fr) (U:St) (aA:Fr) (R:St),log.length=j->pP pv cf ops dy j log l I U=some (aA,R)->
  ∃(hb:Nat->Fr) (S:Nat->St) (dd:Nat->D),hb 0=I/\S 0=U/\hb l.length=aA/\S l.length=R/\Trace pv cf ops l hb S dd/\Ga dy ops j log l hb S
 |[],j,log,I,U,aA,R,hj,h=>by
  simp only[pP] at h;cases h;exact⟨λ_=>I,λ_=>U,λ_=>.cT,rfl,rfl,rfl,rfl,⟨by intro i o h;simp at h,by intro i o h;simp at h⟩,by intro q o h;simp at h⟩
 |o::l,j,log,I,U,aA,R,hj,h=>by
  simp[pP] at h
  have mk:∀(d:D) (st1:St),((au ops I o=some true/\eT pv cf I U o=some (d,st1)/\DW dy j log o I U st1=true)\/(au ops I o=some false/\d=.tup []/\st1=U))->pP pv cf ops dy (j+1) ((o,I,U,st1)::log) l (I.eS o.dst d) st1=some (aA,R)->
    ∃(hb:Nat->Fr) (S:Nat->St) (dd:Nat->D),hb 0=I/\S 0=U/\hb (o::l).length=aA/\S (o::l).length=R/\Trace pv cf ops (o::l) hb S dd/\Ga dy ops j log (o::l) hb S:=by
   intro d st1 hst hr;obtain⟨hb,S,dd,h1,X,h3,h4,h5,h6⟩:=J2 l (j+1) _ _ _ _ _ (by simp[hj]) hr;refine⟨λ|0=>I|i+1=>hb i,λ|0=>U|i+1=>S i,λ|0=>d|i+1=>dd i,rfl,rfl,h3,h4,⟨λi p B=>?_,λi p B=>?_⟩,λq p B hw i hi hl=>?_⟩
   .cases i with
    |zero=>simp at B;subst B;exact h1
    |succ i=>exact h5.put i p (by simpa using B)
   .cases i with
    |zero=>
     simp at B;subst B;simp[X]
     rcases hst with⟨a,b,_⟩|h
     .exact .inl ⟨a,b⟩
     exact .inr h
    |succ i=>exact h5.step i p (by simpa using B)
   cases q with
   |zero=>
    simp at B;subst B;simp only at hw|-
    rcases hst with⟨_,_,hc⟩|⟨hn,_,_⟩
    .obtain⟨x,fi,si,oo,e1,e2⟩:=MR hc (i:=i) (by omega) hl;refine⟨x,fi,si,oo,?_,by simp[X];exact e2⟩;unfold entry;rw[if_pos (by omega)];exact e1
    rw[hn] at hw;cases hw
   |succ q=>
    obtain⟨x,fi,si,oo,e1,e2⟩:=h6 q p (by simpa using B) hw i (by omega) (by rw[show j+1+q=j+(q+1) by omega];exact hl);refine⟨x,fi,si,oo,?_,e2⟩;unfold entry at e1|-
    rcases φ i j with h'|h'|h'
    .rw[if_pos (by omega)] at e1;rw[if_pos h'];rw[show j+1-1-i=(j-1-i)+1 by omega] at e1
     simpa using e1
    .subst h';rw[if_pos (by omega)] at e1;rw[if_neg (by omega)];simp at e1;simp[X];exact e1
    rw[if_neg (by omega)] at e1;rw[if_neg (by omega)]
    obtain⟨m,hm⟩:∃m,i=j+1+m:=⟨i-(j+1),by omega⟩
    subst hm;rw[show j+1+m-(j+1)=m by omega] at e1;rw[show j+1+m-j=m+1 by omega]
    simpa using e1
  split at h
  .rename_i hw
   split at h
   .rename_i d st1 hop
    split at h;next hc=>exact mk d st1 (.inl ⟨hw,hop,hc⟩) h
    cases h
   cases h
  next hw=>exact mk _ U (.inr ⟨hw,rfl,rfl⟩) h
  cases h
def Still (dy:List (Nat×Nat)) (ops:Array Oper) (hb:Nat->Fr) (S:Nat->St):Prop:=
 ∀r q y a k x,ops[r]?=some y->fQ y.op=some a->au ops (hb r) y=some true->((hb r).ev a).mO=some k->ops[q]?=some x->Nt x=false->au ops (hb q) x=some true->(q<r->listed dy q r=true)->(r<q->listed dy r q=true)->
  (S (q+1)).bs[k]?=(S q).bs[k]?/\(r<q->mi (some k) (S r) (S (q+1))=true)
def Kb {hb:Nat->Fr} {S:Nat->St} (hl:Ga dy ops 0 [] ops.toList hb S):Still dy ops hb S:=by
 intro r q y a k x hy ha hw A hx Qn hwx h1 X
 have wy:fQ x.op=none:=by
  unfold Nt at Qn
  cases h:fQ x.op with
  |none=>rfl
  |some _=>rw[h] at Qn;cases Qn
 rcases φ q r with h'|h'|h'
 .obtain⟨x',fi,si,oo,e1,e2⟩:=hl r y (by simpa using hy) hw q (by omega) (by rw[Jz];exact h1 h');simp[entry,hx] at e1;obtain⟨rfl,rfl,rfl,rfl⟩:=e1;simp[fh,ha,A] at e2;exact⟨yc e2,λh=>by omega⟩
 .subst h';rw[hx] at hy;cases hy;rw[wy] at ha;cases ha
 obtain⟨x',fi,si,oo,e1,e2⟩:=hl q x (by simpa using hx) hwx r (by omega) (by rw[Jz];exact X h');simp[entry,hy] at e1;obtain⟨rfl,rfl,rfl,rfl⟩:=e1;simp[fh,wy,ha,A] at e2;exact⟨yc e2.1,λ_=>e2.2⟩
def Lm (p:Nat->Prop) (base:Nat):∀n,∃m,base<=m/\(∀j,j<n->p j->j+1<=m)/\(m=base\/∃j,j<n/\p j/\m=j+1)
 |0=>⟨base,θ _,λ_ h=>by omega,.inl rfl⟩
 |n+1=>by
  obtain⟨m,h1,X,h3⟩:=Lm p base n
  by_cases B:p n
  .by_cases hm:n+1<=m
   .refine⟨m,h1,λj hj YI=>?_,?_⟩
    .rcases ζ j n with h'|h'
     .exact X j h' YI
     have:j=n:=by omega
     subst this;exact hm
    rcases h3 with h3|⟨j,q1,q2,q3⟩
    .exact .inl h3
    exact .inr ⟨j,by omega,q2,q3⟩
   refine⟨n+1,by omega,λj hj _=>by omega,.inr ⟨n,by omega,B,rfl⟩⟩
  refine⟨m,h1,λj hj YI=>?_,?_⟩
  .rcases ζ j n with h'|h'
   .exact X j h' YI
   have:j=n:=by omega
   subst this;exact absurd YI B
  rcases h3 with h3|⟨j,q1,q2,q3⟩
  .exact .inl h3
  exact .inr ⟨j,by omega,q2,q3⟩
def fF (pv:Pv) (ops:Array Oper) (hb:Nat->Fr) (i:Nat):Prop:=∃o,ops[i]?=some o/\iT pv o=true/\au ops (hb i) o=some true
def Hs (S:Nat->St) (sg:Nat->Nat) (k:Nat):mc:=((S (sg k)).bs[k]?).getD .dead
def Xm (S:Nat->St) (sg:Nat->Nat) (β:Nat->Option (Nat×Nat)) (Z:Nat->Prop) (m:Nat):h2:=⟨λk=>ej (Hs S sg k),λk=>if k<(S m).bs.length then β k else none,Z⟩
def TB (ops:Array Oper) (E:Nat->Bool) (t:Nat):Nat:=
 match eB ops E t ops.size with
 |some j=>j+1
 |none=>0
def val (ops:Array Oper) (hb:Nat->Fr) (dd:Nat->D) (E:Nat->Bool) (t:Nat):D:=
 match eB ops E t ops.size with
 |some j=>xO (hb 0) t (dd j)
 |none=>(hb 0).get t
structure DI (pv:Pv) (ops:Array Oper) (hb:Nat->Fr) (S:Nat->St) (dd:Nat->D) (a0:Act) (w0:World) (β0:Nat->Option (Nat×Nat)) (Z0:Nat->Prop)
  (E:Nat->Bool) (a:Act) (w:World) (β:Nat->Option (Nat×Nat)) (Z:Nat->Prop) (sg:Nat->Nat):Prop where
 size:a.tmps.size=a0.tmps.size
 defers:a.defers=a0.defers
 clo:Bz ops E
 bnd:∀k,E k=true->k<ops.size
 dom:∀k p,β k=some p->k<(S (sg k)).bs.length/\sg k<=ops.size/\(sg k=0\/∃j,E j=true/\sg k=j+1/\(fF pv ops hb j\/(S j).bs.length<=k))
 cr:∀k p,β k=some p->∀i,i<ops.size->(S i).bs.length<=k->k<(S (i+1)).bs.length->E i=true
 sg2:∀k p,β k=some p->∀j,E j=true->fF pv ops hb j->k<(S j).bs.length->j+1<=sg k
 ph:∀k,β k=none->∀j,E j=true->fF pv ops hb j->k<(S j).bs.length->(S (j+1)).bs[k]?=(S j).bs[k]?
 lt:∀k b base,β k=some (b,base)->b<w.heap.size
 inj:∀k k' b x x',β k=some (b,x)->β k'=some (b,x')->k=k'
 zd:∀k b base,β k=some (b,base)->¬Z b
 zl:∀b,Z b->b<w.heap.size
 box:∀k b base,β k=some (b,base)->kj w (Xm S sg β Z (sg k)) b base (Hs S sg k)
 frame:∀t,VR w (Xm S sg β Z (TB ops E t)) (val ops hb dd E t) (a.tmps.getD t undef)
 evo:HV (wrt (S 0) β0) w0 w
 keeps:eI w0 ((S 0).x β0 Z0) w (Xm S sg β Z ops.size)
 fresh:∀k b base,β k=some (b,base)->(∃dr,β0 k=some (b,dr))\/w0.heap.size<=b
 zfresh:∀b,Z b->Z0 b\/w0.heap.size<=b
 low:∀k,k<(S 0).ro->β k=β0 k
 oV:∀k,k<(S 0).bs.length->β0 k=none->β k=none
section
variable{pv:Pv} {P:Program} (ok:pv.Ok P) {cf:eJ} (fy:gh P pv cf) {ops:Array Oper} {hb:Nat->Fr} {S:Nat->St} {dd:Nat->D} (ht:Trace pv cf ops ops.toList hb S dd) {dy:List (Nat×Nat)} (rM:nL pv ops dy=true)
include fy ht
def qX i (hi:i<ops.size):eE (S i) (S (i+1))/\(¬fF pv ops hb i->∀k,k<(S i).bs.length->(S (i+1)).bs[k]?=(S i).bs[k]?):=by
 have ho:ops[i]?=some ops[i]:=κ hi
 rcases ht.step i ops[i] (by simpa using ho) with⟨h1,X⟩|⟨_,_,h3⟩
 .obtain⟨g1,g2⟩:=vO fy X;refine⟨g1,λhn k A=>?_⟩
  have he:iT pv ops[i]=false:=by
   cases h:iT pv ops[i] with
   |false=>rfl
   |true=>exact absurd ⟨_,ho,h,h1⟩ hn
  obtain⟨l,h⟩:=g2 he;rw[h];simp only;rw[μ A]
 rw[h3];exact⟨.refl _,λ_ _ _=>rfl⟩
def du:∀(j i:Nat),i<=j->j<=ops.size->eE (S i) (S j)
 |0,i,h,_=>by
  have:i=0:=by omega
  subst this;exact .refl _
 |j+1,i,h,hj=>by
  rcases ζ i (j+1) with h'|h'
  .exact(du j i (by omega) (by omega)).trans (qX fy ht j (by omega)).1
  have:i=j+1:=by omega
  subst this;exact .refl _
def lC {i}:∀(j:Nat),i<=j->j<=ops.size->∀k,k<(S i).bs.length->(∀q,i<=q->q<j->¬fF pv ops hb q\/(S (q+1)).bs[k]?=(S q).bs[k]?)->(S j).bs[k]?=(S i).bs[k]?
 |0,h,_,k,_,_=>by
  have:i=0:=by omega
  subst this;rfl
 |j+1,h,hj,k,A,hq=>by
  rcases ζ i (j+1) with h'|h'
  .have ih:=lC j (by omega) (by omega) k A λq h1 X=>hq q h1 (by omega);have mH:k<(S j).bs.length:=ι A (du fy ht j i (by omega) (by omega)).len
   rcases hq j (by omega) (by omega) with h1|h1
   .exact((qX fy ht j (by omega)).2 h1 k mH).trans ih
   exact h1.trans ih
  have:i=j+1:=by omega
  subst this;rfl
variable{w:World}{sg:Nat->Nat}{β:Nat->Option (Nat×Nat)}{Z:Nat->Prop}
def HT {m m'} (h:m<=m') (h':m'<=ops.size):eI w (Xm S sg β Z m) w (Xm S sg β Z m'):=by
 have hl:=(du fy ht m' m h h').len
 have key:∀k p,(Xm S sg β Z m).β k=some p->(Xm S sg β Z m').β k=some p:=by
  intro k p B;simp only[Xm] at B|-
  split at B;next A=>rw[if_pos (by omega)];exact B
  cases B
 exact⟨λk p B=>⟨p,key k p B⟩,λb F=>⟨F,rfl⟩,λk c p _ hc=>⟨c,hc,θ _⟩,λk c _ _ b base F=>⟨key k _ F,rfl⟩⟩
def Cc {a0 a} {w0} {β0:Nat->Option (Nat×Nat)} {Z0:Nat->Prop} {E:Nat->Bool} (h:DI pv ops hb S dd a0 w0 β0 Z0 E a w β Z sg) {i} (hi:i<=ops.size) (hd:∀j,j<i->fF pv ops hb j->E j=true) (hu:∀j,i<=j->fF pv ops hb j->E j=false) {k} {p:Nat×Nat} (A:β k=some p) (L8:k<(S i).bs.length):
  sg k<=i/\Hs S sg k=((S i).bs[k]?).getD .dead/\(S i).bs[k]?=some (Hs S sg k):=by
 obtain⟨h1,X,h3⟩:=h.dom k p A
 have hle:sg k<=i:=by
  rcases h3 with h3|⟨j,q1,q2,q3⟩
  .omega
  rw[q2]
  rcases q3 with q3|q3
  .rcases ζ j i with h'|h'
   .exact h'
   have:=hu j h' q3;rw[this] at q1;cases q1
  rcases ζ j i with h'|h'
  .exact h'
  have A8:=h.bnd j q1;have:=(du fy ht j i h' (by omega)).len;omega
 have heq:=lC fy ht i hle hi k h1 λq xE oW=>by
  by_cases he:fF pv ops hb q;·have hE:=hd q oW he;have Sj:k<(S q).bs.length:=ι h1 (du fy ht q (sg k) xE (by omega)).len;have:=h.sg2 k p A q hE he Sj;omega
  exact .inl he
 refine⟨hle,by simp[Hs];rw[heq],?_⟩;rw[heq];simp[Hs];rw[ε h1];rfl
end
end Go.V
namespace Go.V
open Go.RowKit
theorem kj.aj {w} {x} {b base} {bx} (h:kj w x b base bx):∃c,ej bx=some c:=by
 cases bx with
 |mem v a c=>exact⟨v,rfl⟩
 |iter s p=>exact⟨0,rfl⟩
 |map e=>exact⟨0,rfl⟩
 |dead=>exact h.elim
def glue (S:Nat->St) (j:Nat) (βl β:Nat->Option (Nat×Nat)):Nat->Option (Nat×Nat):=λk=>if k<(S (j+1)).bs.length then βl k else β k
open Classical in
noncomputable def gq (pv:Pv) (ops:Array Oper) (hb:Nat->Fr) (S:Nat->St) (j m:Nat) (sg:Nat->Nat):Nat->Nat:=
 λk=>if k<(S (j+1)).bs.length/\(fF pv ops hb j\/(S j).bs.length<=k) then m else sg k
section
variable{pv:Pv} {P:Program} {cf:eJ} (fy:gh P pv cf) {ops:Array Oper} {hb:Nat->Fr} {S:Nat->St} {dd:Nat->D} (ht:Trace pv cf ops ops.toList hb S dd)
include fy ht
theorem DI.put {a0 a:Act} {w0 w w'} {β0 β βl:Nat->Option (Nat×Nat)} {Z0 Z Zl:Nat->Prop} {E E':Nat->Bool} {sg:Nat->Nat} (h:DI pv ops hb S dd a0 w0 β0 Z0 E a w β Z sg) {j m} {o:Oper} (hj:E j=false) (ho:ops[j]?=some o)
  (Be:∀k,E' k=true↔(E k=true\/k=j)) (rO:∀e∈o.after.toList,Φ .any e=true->E e.on=true) (y0:∀i o' t,j<i->ops[i]?=some o'->o.dst=some t->o'.dst=some t->E i=false)
  (Mf:∀t,o.dst=some t->t<a.tmps.size) (adz:(S 0).ro<=(S 0).bs.length) {T T':St} {v}
  (hn:Nx w T (λk=>if k<(S j).bs.length then β k else none) Z w' T' βl Zl) (hTl:T.bs.length=(S j).bs.length) (abp:T'.bs.length=(S (j+1)).bs.length) (hTr:T.ro=(S j).ro)
  (hv:VR w' (T'.x βl Zl) (dd j) v) (Hv:∀k p,k<(S j).bs.length->β k=some p->T.aj k=ej (Hs S sg k))
  (wF:j+1<=m) (Hl:m<=ops.size) (Fy:∀i,E i=true->fF pv ops hb i->i+1<=m) (V7:m=j+1\/∃i,E i=true/\fF pv ops hb i/\m=i+1)
  (Pl:∀k p,βl k=some p->T'.aj k=ej (Hs S (gq pv ops hb S j m sg) k))
  (abq:∀k b base,βl k=some (b,base)->(fF pv ops hb j\/(S j).bs.length<=k)->kj w' (T'.x βl Zl) b base (Hs S (gq pv ops hb S j m sg) k))
  (hq:¬fF pv ops hb j->Quiet w w') (hS:fF pv ops hb j->T=S j/\T'=S (j+1)):
  DI pv ops hb S dd a0 w0 β0 Z0 E' (a.put o.dst v) w' (glue S j βl β) Zl (gq pv ops hb S j m sg):=by
 have A8:j<ops.size:=by
  rcases ζ j ops.size with h'|h'
  .exact h'
  rw[Ψ h'] at ho;cases ho
 have hNj:=(qX fy ht j A8).1.len;have hN:∀{a b:Nat},a<=b->b<=ops.size->(S a).bs.length<=(S b).bs.length:=λh1 X=>(du fy ht _ _ h1 X).len;have lk:∀k p,βl k=some p->k<(S (j+1)).bs.length:=λk p B=>by rw[<-abp];exact hn.sim.dom k p.1 p.2 B
 have fA:∀k,k<(S j).bs.length->β k=none->βl k=none/\T'.bs[k]?=T.bs[k]?:=λk A h0=>hn.oV k (by rw[hTl];exact A) (by simp[if_pos A];exact h0);have fB:∀k p,k<(S j).bs.length->β k=some p->∃p',βl k=some p':=λk p A B=>hn.keeps.dm k p (by simp[Za,if_pos A];exact B)
 have fC:∀k p,(S j).bs.length<=k->k<(S (j+1)).bs.length->β k=some p->False:=λk p h1 X B=>by
  have:=h.cr k p B j A8 h1 X;rw[hj] at this;cases this
 have Q5:∀k,¬(k<(S (j+1)).bs.length/\(fF pv ops hb j\/(S j).bs.length<=k))->gq pv ops hb S j m sg k=sg k:=λk A=>by simp only[gq];rw[if_neg A]
 have Zi:∀k,k<(S (j+1)).bs.length->(fF pv ops hb j\/(S j).bs.length<=k)->gq pv ops hb S j m sg k=m:=λk h1 X=>by simp only[gq];rw[if_pos ⟨h1,X⟩]
 have DA:∀k,k<(S (j+1)).bs.length->glue S j βl β k=βl k:=λk A=>by simp[glue,if_pos A]
 have Hz:∀k,¬k<(S (j+1)).bs.length->glue S j βl β k=β k:=λk A=>by simp[glue,if_neg A]
 have Y':∀k,¬(k<(S (j+1)).bs.length/\(fF pv ops hb j\/(S j).bs.length<=k))->Hs S (gq pv ops hb S j m sg) k=Hs S sg k:=λk A=>by simp[Hs,Q5 k A]
 have fE:∀k b base,¬k<(S j).bs.length->β k=some (b,base)->w'.heap[b]?=w.heap[b]?:=by
  intro k b base A F;refine hn.evo.block b (h.lt k b base F) ?_;rintro⟨k',dr,lx,_⟩;dsimp only at lx
  split at lx;next hlt=>have:=h.inj k k' b _ _ F lx;omega
  cases lx
 have fD:¬fF pv ops hb j->∀k p,k<(S j).bs.length->β k=some p->βl k=some p:=by
  intro hne k p A B;obtain⟨p',wE⟩:=fB k p A B;have e1:=Hv k p A B;have e2:=Pl k p' wE;rw[Y' k (by rintro⟨_,h1|h1⟩;exact hne h1;omega)] at e2;obtain⟨c,hc⟩:=(h.box k p.1 p.2 B).aj;rw[hc] at e1 e2;exact(hn.keeps.at_ k c e2 e1 p.1 p.2 (by simp[Za,if_pos A];exact B)).1
 have KX:∀q,eI w (Xm S sg β Z q) w' (Xm S (gq pv ops hb S j m sg) (glue S j βl β) Zl q):=by
  intro q;refine⟨λk p B=>?_,hn.keeps.z,λk c p B hc=>?_,λk c hc FH b base F=>?_⟩
  .simp only[Xm] at B|-
   split at B
   .rename_i Sj;rw[if_pos Sj]
    by_cases A:k<(S (j+1)).bs.length
    .rw[DA k A]
     by_cases mH:k<(S j).bs.length;·exact fB k p mH B
     exact(fC k p (by omega) A B).elim
    rw[Hz k A];exact⟨p,B⟩
   cases B
  .simp only[Xm] at B hc|-
   split at B
   .by_cases mH:k<(S j).bs.length;·obtain⟨p',wE⟩:=fB k p mH B;obtain⟨o',h1,X⟩:=hn.keeps.aj k c p (by simp[Za,if_pos mH];exact B) (by show T'.aj k=some c;rw[Pl k p' wE];exact hc);exact⟨o',by rw[<-Hv k p mH B];exact h1,X⟩
    by_cases A:k<(S (j+1)).bs.length;·exact(fC k p (by omega) A B).elim
    rw[Y' k (λh'=>A h'.1)] at hc;exact⟨c,hc,θ _⟩
   cases B
  simp only[Xm] at F hc FH|-
  split at F
  .rename_i Sj;rw[if_pos Sj]
   by_cases mH:k<(S j).bs.length;·obtain⟨p',wE⟩:=fB k _ mH F;have:=hn.keeps.at_ k c (by show T'.aj k=some c;rw[Pl k p' wE];exact hc) (by show T.aj k=some c;rw[Hv k _ mH F];exact FH) b base (by simp[Za,if_pos mH];exact F);rw[DA k (by omega)];exact this
   by_cases A:k<(S (j+1)).bs.length;·exact(fC k _ (by omega) A F).elim
   rw[Hz k A];exact⟨F,gK (fE k b base mH F)⟩
  cases F
 have KT:eI w' (T'.x βl Zl) w' (Xm S (gq pv ops hb S j m sg) (glue S j βl β) Zl (j+1)):=by
  have key:∀k p,βl k=some p->(Xm S (gq pv ops hb S j m sg) (glue S j βl β) Zl (j+1)).β k=some p:=by
   intro k p B;have:=lk k p B;simp only[Xm];rw[if_pos this,DA k this];exact B
  refine⟨λk p B=>⟨p,key k p B⟩,λb F=>⟨F,rfl⟩,λk c p B hc=>⟨c,?_,θ _⟩,λk c _ _ b base F=>⟨key k _ F,rfl⟩⟩;show T'.aj k=some c;rw[Pl k p B];exact hc
 have hmN:(S (j+1)).bs.length<=(S m).bs.length:=hN wF Hl;have abd:∀k,k<(S (j+1)).bs.length->(fF pv ops hb j\/(S j).bs.length<=k)->k<(S m).bs.length:=λk h1 _=>by omega
 refine⟨by rw[nJ];exact h.size,by rw[put_defers];exact h.defers,?_,?_,?_,?_,?_,?_,?_,?_,?_,?_,?_,?_,?_,h.keeps.trans (KX _),?_,?_,?_,?_⟩
 .
  intro k o' A O7 e he F
  rcases(Be k).1 A with A|rfl
  .exact(Be _).2 (.inl (h.clo k o' A O7 e he F))
  rw[ho] at O7;cases O7;exact(Be _).2 (.inl (rO e he F))
 .intro k A
  rcases(Be k).1 A with A|rfl
  .exact h.bnd k A
  exact A8
 .
  intro k p B
  by_cases A:k<(S (j+1)).bs.length
  .rw[DA k A] at B
   by_cases hc:fF pv ops hb j\/(S j).bs.length<=k
   .rw[Zi k A hc];refine⟨abd k A hc,Hl,.inr ?_⟩
    rcases V7 with rfl|⟨i,q1,q2,q3⟩
    .exact⟨j,(Be j).2 (.inr rfl),rfl,hc⟩
    exact⟨i,(Be i).2 (.inl q1),q3,.inl q2⟩
   rw[Q5 k (λh'=>hc h'.2)]
   have mH:k<(S j).bs.length:=by
    rcases ζ k (S j).bs.length with h'|h'
    .exact h'
    exact absurd (.inr h') hc
   cases hβ:β k with
   |none=>have:=(fA k mH hβ).1;rw[B] at this;cases this
   |some q=>
    obtain⟨d1,d2,d3⟩:=h.dom k q hβ;refine⟨d1,d2,?_⟩
    rcases d3 with d3|⟨i,r1,r2,r3⟩
    .exact .inl d3
    exact .inr ⟨i,(Be i).2 (.inl r1),r2,r3⟩
  rw[Hz k A] at B;rw[Q5 k (λh'=>A h'.1)];obtain⟨d1,d2,d3⟩:=h.dom k p B;refine⟨d1,d2,?_⟩
  rcases d3 with d3|⟨i,r1,r2,r3⟩
  .exact .inl d3
  exact .inr ⟨i,(Be i).2 (.inl r1),r2,r3⟩
 .
  intro k p B i hi h1 X
  by_cases A:k<(S (j+1)).bs.length
  .rw[DA k A] at B
   by_cases mH:k<(S j).bs.length
   .cases hβ:β k with
    |none=>have:=(fA k mH hβ).1;rw[B] at this;cases this
    |some q=>exact(Be i).2 (.inl (h.cr k q hβ i hi h1 X))
   have:i=j:=by
    rcases φ i j with h'|h'|h'
    .have:=hN (a:=i+1) (b:=j) (by omega) (by omega);omega
    .exact h'
    have:=hN (a:=j+1) (b:=i) (by omega) (by omega);omega
   subst this;exact(Be _).2 (.inr rfl)
  rw[Hz k A] at B;exact(Be i).2 (.inl (h.cr k p B i hi h1 X))
 .
  intro k p B i hi he L8
  by_cases A:k<(S (j+1)).bs.length
  .rw[DA k A] at B
   by_cases hc:fF pv ops hb j\/(S j).bs.length<=k
   .rw[Zi k A hc]
    rcases(Be i).1 hi with hi|rfl
    .exact Fy i hi he
    exact wF
   rw[Q5 k (λh'=>hc h'.2)]
   have mH:k<(S j).bs.length:=by
    rcases ζ k (S j).bs.length with h'|h'
    .exact h'
    exact absurd (.inr h') hc
   cases hβ:β k with
   |none=>have:=(fA k mH hβ).1;rw[B] at this;cases this
   |some q=>
    rcases(Be i).1 hi with hi|rfl
    .exact h.sg2 k q hβ i hi he L8
    exact absurd (.inl he) hc
  rw[Hz k A] at B;rw[Q5 k (λh'=>A h'.1)]
  rcases(Be i).1 hi with hi|rfl
  .exact h.sg2 k p B i hi he L8
  omega
 .
  intro k Dq i hi he L8
  have hβ:k<(S j).bs.length\/¬k<(S (j+1)).bs.length->β k=none:=by
   rintro(mH|A)
   .cases hβ:β k with
    |none=>rfl
    |some q=>
     obtain⟨p',wE⟩:=fB k q mH hβ;rw[DA k (by omega),wE] at Dq;cases Dq
   rw[Hz k A] at Dq;exact Dq
  have Vm:β k=none:=by
   by_cases mH:k<(S j).bs.length;·exact hβ (.inl mH)
   by_cases A:k<(S (j+1)).bs.length
   .cases F:β k with
    |none=>rfl
    |some q=>exact(fC k q (by omega) A F).elim
   exact hβ (.inr A)
  rcases(Be i).1 hi with hi|rfl
  .exact h.ph k Vm i hi he L8
  obtain⟨e1,e2⟩:=hS he;have:=(fA k L8 Vm).2;rw[e1,e2] at this;exact this
 .
  intro k b base B
  by_cases A:k<(S (j+1)).bs.length;·rw[DA k A] at B;exact hn.sim.lt k b base B
  rw[Hz k A] at B;exact ι (h.lt k b base B) hn.evo.size
 .
  have mix:∀k k' b x x',k<(S (j+1)).bs.length->¬k'<(S (j+1)).bs.length->βl k=some (b,x)->β k'=some (b,x')->False:=by
   intro k k' b x x' A lx h1 X
   rcases hn.fresh k b x h1 with⟨dr,gB⟩|hlt
   ·(try dsimp only at gB)
    split at gB;·have:=h.inj k k' b _ _ gB X;omega
    cases gB
   have:=h.lt k' b x' X;omega
  intro k k' b x x' h1 X
  by_cases A:k<(S (j+1)).bs.length<;>by_cases lx:k'<(S (j+1)).bs.length;·rw[DA k A] at h1;rw[DA k' lx] at X;exact hn.sim.inj k k' b x x' h1 X
  .rw[DA k A] at h1;rw[Hz k' lx] at X;exact(mix k k' b x x' A lx h1 X).elim
  .rw[Hz k A] at h1;rw[DA k' lx] at X;exact(mix k' k b x' x lx A X h1).elim
  rw[Hz k A] at h1;rw[Hz k' lx] at X;exact h.inj k k' b x x' h1 X
 .
  intro k b base B hz
  by_cases A:k<(S (j+1)).bs.length;·rw[DA k A] at B;exact hn.sim.zd k b base B hz
  rw[Hz k A] at B
  rcases hn.zfresh b hz with hz|hlt
  .exact h.zd k b base B hz
  have:=h.lt k b base B;omega
 .exact hn.sim.zl
 .
  intro k b base B
  by_cases A:k<(S (j+1)).bs.length
  .rw[DA k A] at B
   by_cases hc:fF pv ops hb j\/(S j).bs.length<=k;·rw[Zi k A hc];exact(abq k b base B hc).bW (KT.trans (HT fy ht wF Hl)) rfl
   have mH:k<(S j).bs.length:=by
    rcases ζ k (S j).bs.length with h'|h'
    .exact h'
    exact absurd (.inr h') hc
   have hne:¬fF pv ops hb j:=λh'=>hc (.inl h');rw[Q5 k (λh'=>hc h'.2),Y' k (λh'=>hc h'.2)]
   cases hβ:β k with
   |none=>have:=(fA k mH hβ).1;rw[B] at this;cases this
   |some q=>
    have:=fD hne k q mH hβ;rw[B] at this;cases this;exact(h.box k b base hβ).bW (KX _) (hq hne b (h.lt k b base hβ))
  rw[Hz k A] at B;rw[Q5 k (λh'=>A h'.1),Y' k (λh'=>A h'.1)];exact(h.box k b base B).bW (KX _) (fE k b base (by omega) B)
 .
  intro t
  by_cases hd:o.dst=some t
  .have hl:eB ops E' t ops.size=some j:=by
    have s:=gQ ops E' t ops.size
    cases hl:eB ops E' t ops.size with
    |none=>
     rw[hl] at s;have:=s j o A8 ho hd;rw[(Be j).2 (.inr rfl)] at this;cases this
    |some i=>
     rw[hl] at s;obtain⟨s1,s2,⟨o',s3,s4⟩,s5⟩:=s
     rcases φ i j with h'|h'|h'
     .have:=s5 j o h' A8 ho hd;rw[(Be j).2 (.inr rfl)] at this;cases this
     .rw[h']
     have:=y0 i o' t h' s3 hd s4
     rcases(Be i).1 s2 with X|X
     .rw[this] at X;cases X
     omega
   have hget:(a.put o.dst v).tmps.getD t undef=v:=by
    rw[hd];simp only[Act.put,χ];rw[QG (Mf t hd)];rfl
   rw[hget];simp[val,TB,hl];unfold xO
   split;·exact .cT _ _ _
   exact hv.mono KT
  have hl:eB ops E' t ops.size=eB ops E t ops.size:=by
   refine wg λi o' h1 X=>?_;have hij:i≠j:=λe=>by subst e;rw[ho] at h1;cases h1;exact hd X
   rw[Be i];simp[hij]
  have hget:(a.put o.dst v).tmps.getD t undef=a.tmps.getD t undef:=by
   cases WC:o.dst with
   |none=>rfl
   |some aa=>
    have hut:aa≠t:=λe=>hd (by rw[WC,e]);simp[Act.put];rw[W5 hut]
  rw[hget];have hf:=h.frame t;simp only[val,TB,hl] at hf|-;exact hf.mono (KX _)
 .
  refine h.evo.trans hn.evo (λ_ hm=>hm) λb F hm=>?_;obtain⟨k,base,A,fx⟩:=hm;dsimp only at A
  split at A
  .rcases h.fresh k b base A with⟨dr,gB⟩|hlt
   .refine⟨k,dr,gB,?_⟩;have:=(du fy ht j 0 (by omega) (by omega)).ro;rw[<-this,<-hTr];exact fx
   omega
  cases A
 .
  intro k b base B
  by_cases A:k<(S (j+1)).bs.length
  .rw[DA k A] at B
   rcases hn.fresh k b base B with⟨dr,gB⟩|hlt
   ·(try dsimp only at gB)
    split at gB;·exact h.fresh k b dr gB
    cases gB
   exact .inr (η h.evo.size hlt)
  rw[Hz k A] at B;exact h.fresh k b base B
 intro b hz
 rcases hn.zfresh b hz with hz|hlt
 .exact h.zfresh b hz
 exact .inr (η h.evo.size hlt)
 
 intro k A;have h0:=hN (a:=0) (b:=j) (by omega) (by omega);have mH:k<(S j).bs.length:=by omega
 have hr:=(du fy ht j 0 (by omega) (by omega)).ro;have:=(hn.low k (by rw[hTr,hr];exact A)).2;rw[DA k (by omega),this];simp[if_pos mH];exact h.low k A
 
 intro k A Dq;have h0:=hN (a:=0) (b:=j) (by omega) (by omega);have mH:k<(S j).bs.length:=by omega
 rw[DA k (by omega)];exact(fA k mH (h.oV k A Dq)).1
end
end Go.V
namespace Go.V
open Go.RowKit
variable{pv:Pv}{o:Oper}
def KW (h:It o=true):iT pv o=false:=by
 obtain⟨dst,op,ty,pos,after,guard⟩:=o;cases op<;>simp[It] at h<;>try rfl
 rename_i c;obtain⟨callee,args,cj⟩:=c;cases callee<;>simp at h
 rename_i b;cases b<;>simp at h<;>rfl
def qF (h:iT pv o=true):It o=false/\Nt o=false:=by
 refine⟨?_,?_⟩
 .cases B:It o with
  |false=>rfl
  |true=>rw[KW B] at h;cases h
 obtain⟨dst,op,ty,pos,after,guard⟩:=o
 cases op<;>first|rfl|(simp[iT] at h)
variable{k:Nat}
def GW {a b:St} (h:a.bs[k]?=b.bs[k]?) v:a.cp k v=b.cp k v:=by
 simp[St.cp,h]
variable{I:Fr}{U:St}{d:D}
def Rp {R:St} {op} {ty:TypeId} {a} (ha:fQ op=some a) (h:dY pv I U op ty=some (d,R)):R=U/\∀T:St,(∀k,(I.ev a).mO=some k->T.bs[k]?=U.bs[k]?)->dY pv I T op ty=some (d,T):=by
 cases op<;>simp[fQ,reduceCtorEq] at ha
 case load t x=>
  subst ha;simp only[dY] at h|-;obtain⟨r,hz,hs⟩:=γ.1 h;cases hs;refine⟨rfl,λT hT=>?_⟩
  have:gy pv t (I.ev x) T=gy pv t (I.ev x) U:=by
   cases hx:I.ev x<;>first|rfl|skip
   rename_i k v off;simp[gy];rw[GW (hT k (by rw[hx];rfl))]
  rw[this,hz];rfl
 case indexAddr t x i=>
  subst ha;simp only[dY] at h|-;obtain⟨r,hz,hs⟩:=γ.1 h;cases hs;refine⟨rfl,λT hT=>?_⟩
  have:cn pv t (I.ev x) (I.ev i) T=cn pv t (I.ev x) (I.ev i) U:=by
   cases hx:I.ev x with
   |win k v off len sz=>
    have hm:=GW (hT k (by rw[hx];rfl)) v;simp only[cn];cases I.ev i<;>try rfl
    cases pv.cF t with
    |none=>rfl
    |some td=>cases td<;>first|rfl|(simp[hm])
   |_=>
    simp only[cn];cases I.ev i<;>try rfl
    cases pv.cF t with
    |none=>rfl
    |some td=>cases td<;>rfl
  rw[this,hz];rfl
variable{cf:eJ}
def Cr (h:Nt o=true):eT pv cf I U o=dY pv I U o.op o.type:=by
 unfold eT
 split;next hop=>simp[Nt,hop,fQ] at h
 rfl
def CC (h:It o=true):eT pv cf I U o=dY pv I U o.op o.type:=by
 unfold eT
 split;next hop=>simp[It,hop] at h
 rfl
def Jp (I:Fr) (ts:List Nat):Fr:=⟨0,[],ts.map λt=>(t,I.get t)⟩
def CV (f:Nat->D) t:∀(ts:List Nat),look t (ts.map λt=>(t,f t))=if t∈ts then f t else .cT
 |[]=>rfl
 |aa::l=>by
  simp only[List.map_cons,look]
  by_cases h:t=aa;·subst h;simp
  have:QT t aa=false:=by
   cases F:QT t aa with
   |false=>rfl
   |true=>exact absurd (Γ F) h
  rw[this,CV f t l];simp[h]
def rX (I:Fr) ts t:(Jp I ts).get t=if t∈ts then I.get t else .cT:=by
 simp[Jp,Fr.get,ZF];exact CV I.get t ts
def JE (p:Option (Nat×Nat)) (bx:mc):mc:=
 match p,bx with
 |some _,.mem v a _=>.mem v a []
 |some _,.iter s q=>.iter s q
 |some _,.map es=>.map es
 |_,_=>.dead
def AZ (U:St) (β:Nat->Option (Nat×Nat)) (H:Nat->mc):St:=⟨(WM U.bs.length).map λk=>JE (β k) (H k),U.flr,U.ro⟩
theorem Dk {β:Nat->Option (Nat×Nat)} {H:Nat->mc} (h:k<U.bs.length):(AZ U β H).bs[k]?=some (JE (β k) (H k)):=by
 simp[AZ,h]
def jh (U:St) (β:Nat->Option (Nat×Nat)) (H:Nat->mc):(AZ U β H).bs.length=U.bs.length:=by simp[AZ]
variable{w:World}{x x':h2}
def AY {b base} {bx} (h:kj w x b base bx) (p:Nat×Nat):kj w x' b base (JE (some p) bx)/\ej (JE (some p) bx)=ej bx:=by
 cases bx with
 |mem v a c=>
  obtain⟨c',el,I,h1,X,h3,_⟩:=h;exact⟨⟨c',el,I,h1,by simp;omega,h3,λj d hd=>by simp at hd⟩,rfl⟩
 |iter s q=>exact⟨h,rfl⟩
 |map e=>exact⟨h,rfl⟩
 |dead=>exact h.elim
def F' (E:Nat->Bool) (j:Nat):Nat->Bool:=λk=>E k||QT k j
def kg (E:Nat->Bool) j k:F' E j k=true↔(E k=true\/k=j):=by
 simp[F']
def VR.acO {N:Nat} (hZ:∀b,x.Z b->x'.Z b) (hv:∀k,x'.aj k=x.aj k) (hβ:∀k p,k<N->x.β k=some p->x'.β k=some p) {v} (h:VR w x d v) (hr:d.ref<=N):VR w x' d v:=by
 induction h with
 |im d v h=>exact .im _ _ (h.mono λb F=>⟨hZ b F,rfl⟩)
 |win k vr off len s a cap hc A hm h=>
  simp[Q4] at hr;refine .win k vr off len s a cap hc (by obtain⟨p,B⟩:=A;exact⟨p,hβ k p (by omega) B⟩) (λc hc=>hm c (by rw[<-hv];exact hc)) λhc=>?_;obtain⟨b,base,sz,h1,X⟩:=h (by rw[<-hv];exact hc);exact⟨b,base,sz,hβ k _ (by omega) h1,X⟩
 |ptr k vr off a A hm h=>
  simp[Q4] at hr;refine .ptr k vr off a (by obtain⟨p,B⟩:=A;exact⟨p,hβ k p (by omega) B⟩) (λc hc=>hm c (by rw[<-hv];exact hc)) λhc=>?_;obtain⟨b,base,h1,X⟩:=h (by rw[<-hv];exact hc);exact⟨b,base,hβ k _ (by omega) h1,X⟩
 |mp k r A h=>
  simp[Q4] at hr;refine .mp k r (by obtain⟨p,B⟩:=A;exact⟨p,hβ k p (by omega) B⟩) λhc=>?_;obtain⟨base,h1⟩:=h (by rw[<-hv];exact hc);exact⟨base,hβ k _ (by omega) h1⟩
 |fn f cs vs hl VB ih=>simp[Q4] at hr;exact .fn f cs vs hl λi c v hc hv=>ih i c v hc hv (η (bV (ν hc)) hr)
 |agg cs vs hl h1 VB ih=>simp[Q4] at hr;exact .agg cs vs hl h1 λi c v hc hv=>ih i c v hc hv (η (bV (ν hc)) hr)
 |tup cs vs hl VB ih=>simp[Q4] at hr;exact .tup cs vs hl λi c v hc hv=>ih i c v hc hv (η (bV (ν hc)) hr)
section
variable{pv:Pv} {P:Program} {cf:eJ} (fy:gh P pv cf) {ops:Array Oper} {hb:Nat->Fr} {S:Nat->St} {dd:Nat->D} (ht:Trace pv cf ops ops.toList hb S dd)
include fy ht
def Px {w} {sg:Nat->Nat} {β:Nat->Option (Nat×Nat)} {Z:Nat->Prop} {j m k b base} (hjm:j<=m) (hm:m<=ops.size) (h:kj w (Xm S sg β Z m) b base (Hs S sg k)) (he:(S j).bs[k]?=some (Hs S sg k)) (hs:mi (some k) (S j) (S m)=true):kj w (Xm S sg β Z j) b base (Hs S sg k):=by
 have hl:=(du fy ht m j hjm hm).len;unfold mi at hs;simp only at hs
 split at hs
 .rename_i F;have hle:=Γ F;have:Xm S sg β Z j=Xm S sg β Z m:=by simp[Xm,hle]
  rw[this];exact h
 rw[he] at hs
 split at hs
 .rename_i v ar c hc
  cases h_:Hs S sg k with
  |mem v' ar' c'=>
   rw[h_] at hc h;cases hc;have hr:=QW hs;obtain⟨c',el,I,h1,X,h3,h4⟩:=h;refine⟨c',el,I,h1,X,h3,λi d hd=>?_⟩;obtain⟨v,v1,v3,v2⟩:=h4 i d hd;refine⟨v,v1,v3,v2.acO (x:=Xm S sg β Z m) (x':=Xm S sg β Z j) (N:=(S j).bs.length) (λ_ F=>F) (λ_=>rfl) (λk' p lx B=>?_) (η (bV (ν hd)) hr)⟩;simp only[Xm] at B|-;rw[if_pos lx]
   split at B;·exact B
   cases B
  |_=>rw[h_] at hc;cases hc
 cases hs
end
section
variable{pv:Pv} {P:Program} (ok:pv.Ok P) {cf:eJ} (fy:gh P pv cf) {ops:Array Oper} {hb:Nat->Fr} {S:Nat->St} {dd:Nat->D} (ht:Trace pv cf ops ops.toList hb S dd) {dy:List (Nat×Nat)} (rM:nL pv ops dy=true) (hst:Still dy ops hb S)
include ok fy ht rM hst
def DI.step {Tr:Exit->Act->World->Prop} {a0 a:Act} {w0 w} {β0 β:Nat->Option (Nat×Nat)} {Z0 Z:Nat->Prop} {E:Nat->Bool} {sg:Nat->Nat} (h:DI pv ops hb S dd a0 w0 β0 Z0 E a w β Z sg) (h0:iD w0 (S 0) β0 Z0)
  {j} {o:Oper} (ho:ops[j]?=some o) (hj:E j=false) (rO:∀e∈o.after.toList,Φ .any e=true->E e.on=true) (Mf:zj ops.toList a0.tmps.size)
  {K:Act->World->Prop} (hK:∀a' w' β' Z' Zj,DI pv ops hb S dd a0 w0 β0 Z0 (F' E j) a' w' β' Z' Zj->K a' w'):wpOp P ops Tr j K a w:=by
 have A8:j<ops.size:=by
  rcases ζ j ops.size with h'|h'
  .exact h'
  rw[Ψ h'] at ho;cases ho
 have hcl:Bz ops (F' E j):=by
  intro k o' A O7 e he F
  rcases(kg E j k).1 A with A|rfl
  .exact(kg E j _).2 (.inl (h.clo k o' A O7 e he F))
  rw[ho] at O7;cases O7;exact(kg E _ _).2 (.inl (rO e he F))
 have C1:∀i x,i<j->ops[i]?=some x->nj pv ops (listed dy i j) x o=true->E i=true:=by
  intro i x hi hx hc
  rcases(kg E j i).1 (oC rM hi hx ho hc hcl ((kg E j j).2 (.inr rfl))) with h'|h'
  .exact h'
  omega
 have C2:∀i x,j<i->ops[i]?=some x->nj pv ops (listed dy j i) o x=true->E i=false:=by
  intro i x hi hx hc
  cases hE:E i with
  |false=>rfl
  |true=>have:=oC rM hi ho hx hc h.clo hE;rw[hj] at this;cases this
 have y0:∀i o' t,j<i->ops[i]?=some o'->o.dst=some t->o'.dst=some t->E i=false:=by
  intro i o' t hi O7 h1 X;refine C2 i o' hi O7 ?_;simp[nj,Gt,h1,X]
 have hdj:∀t,o.dst=some t->t<a.tmps.size:=λt hd=>by
  rw[h.size];exact Mf o (by rw[<-Q2] at ho;exact ν ho) t hd
 have hlw:∀t∈looks ops o,eB ops E t ops.size=eB ops (λ_=>true) t j:=by
  intro t htl
  refine wg λi o' h1 X=>⟨λ⟨_,hE⟩=>⟨?_,rfl⟩,λ⟨hi,_⟩=>⟨by omega,C1 i o' hi h1 (by simp[nj,Bn,X,htl])⟩⟩
  rcases φ i j with h'|h'|h'
  .exact h'
  .subst h';rw[hj] at hE;cases hE
  have:=C2 i o' h' h1 (by simp[nj,Bn,X,htl]);rw[this] at hE;cases hE
 have Y5:=(du fy ht j 0 (by omega) (by omega))
 have hNj:=(qX fy ht j A8).1
 have UJ:∀(T:St) (m:Nat),m<=j->T.bs.length=(S j).bs.length->(∀k p,k<(S j).bs.length->β k=some p->T.aj k=ej (Hs S sg k))->
   eI w (Xm S sg β Z m) w (T.x (λk=>if k<(S j).bs.length then β k else none) Z):=by
  intro T m hm hT hv;refine(HT fy ht hm (by omega)).trans ⟨λk p B=>⟨p,B⟩,λb F=>⟨F,rfl⟩,λk c p B hc=>⟨c,?_,θ _⟩,λk c _ _ b base F=>⟨F,rfl⟩⟩;simp only[Xm] at B|-
  split at B;next A=>rw[<-hv k p A B];exact hc
  cases B
 have hG:∀(T:St),T.bs.length=(S j).bs.length->(∀k p,k<(S j).bs.length->β k=some p->T.aj k=ej (Hs S sg k))->
   sq w (T.x (λk=>if k<(S j).bs.length then β k else none) Z) (Jp (hb j) (looks ops o)) a.tmps:=by
  intro T hT hv t;rw[rX]
  split
  .rename_i htl;have hf:=h.frame t;have Z5:=(sJ ht t j (by omega)).1;have hl:=hlw t htl;simp only[val,TB,hl] at hf;rw[Z5];have s:=gQ ops (λ_=>true) t j
   cases hq:eB ops (λ_=>true) t j with
   |none=>rw[hq] at hf;exact hf.mono (UJ T 0 (by omega) hT hv)
   |some i=>rw[hq] at hf s;exact hf.mono (UJ T (i+1) s.1 hT hv)
  exact .cT _ _ _
 have Y8:au ops (hb j) o=au ops (Jp (hb j) (looks ops o)) o:=BL λt htl=>by rw[rX,if_pos htl]
 have hGo:∀U,eT pv cf (hb j) U o=eT pv cf (Jp (hb j) (looks ops o)) U o:=λU=>CF λt htl=>by rw[rX,if_pos htl]
 have Lj:∀(T:St),T.bs.length=(S j).bs.length->T.flr=(S j).flr->T.ro=(S j).ro->(∀k p,k<(S j).bs.length->β k=some p->T.aj k=ej (Hs S sg k))->
   (∀k b base bx,k<(S j).bs.length->β k=some (b,base)->T.bs[k]?=some bx->kj w (T.x (λk=>if k<(S j).bs.length then β k else none) Z) b base bx)->
   iD w T (λk=>if k<(S j).bs.length then β k else none) Z:=by
  intro T hT iS hr hv F
  have cut:∀k p,(if k<(S j).bs.length then β k else none)=some p->k<(S j).bs.length/\β k=some p:=by
   intro k p B
   split at B;·exact⟨by assumption,B⟩
   cases B
  refine⟨λk b base A=>by rw[hT];exact(cut k _ A).1,λk b base A=>h.lt k b base (cut k _ A).2,λk k' b x x' h1 X=>h.inj k k' b x x' (cut k _ h1).2 (cut k' _ X).2,λk b base A=>h.zd k b base (cut k _ A).2,h.zl,
   λk b base bx A j_=>F k b base bx (cut k _ A).1 (cut k _ A).2 j_,?_,?_⟩
  .rw[iS,hT,Y5.flr];exact η h0.flr Y5.len
  rw[hr,hT,Y5.ro];exact η h0.ro Y5.len
 have Hv:∀k p,k<(S j).bs.length->β k=some p->(AZ (S j) β (Hs S sg)).aj k=ej (Hs S sg k):=by
  intro k p A B;simp[W4,Dk A,B];exact(AY (x':=Xm S sg β Z 0) (h.box k p.1 p.2 B) p).2
 have hTs:=Lj (AZ (S j) β (Hs S sg)) (jh _ _ _) rfl rfl Hv λk b base bx A B j_=>by
  rw[Dk A] at j_;cases j_;rw[B];exact(AY (h.box k b base B) _).1
 have hollow:∀(T T':St) (w':World) (βl:Nat->Option (Nat×Nat)) (Zl:Nat->Prop) (v:Value),T.bs.length=(S j).bs.length->T.ro=(S j).ro->(∀k p,k<(S j).bs.length->β k=some p->T.aj k=ej (Hs S sg k))->¬fF pv ops hb j->
   ((S (j+1)=S j/\T'=T)\/∃ar cs,S (j+1)=(S j).push (.mem 0 ar cs)/\T'=T.push (.mem 0 ar cs))->
   Nx w T (λk=>if k<(S j).bs.length then β k else none) Z w' T' βl Zl->VR w' (T'.x βl Zl) (dd j) v->Quiet w w'->K (a.put o.dst v) w':=by
  intro T T' w' βl Zl v y8 abo Hv hne WW hn hv hq;obtain⟨m,wF,Fy,V7⟩:=Lm (λi=>E i=true/\fF pv ops hb i) (j+1) ops.size
  have Hl:m<=ops.size:=by rcases V7 with rfl|⟨i,q1,_,rfl⟩<;>omega
  have iv:T'.bs.length=(S (j+1)).bs.length:=by
   rcases WW with⟨e1,e2⟩|⟨ar,cs,e1,e2⟩
   .rw[e1,e2,y8]
   rw[e1,e2];simp[QH,y8]
  have lk:∀k p,βl k=some p->k<(S (j+1)).bs.length:=λk p B=>by rw[<-iv];exact hn.sim.dom k p.1 p.2 B
  have Rq:∀k p,k<(S j).bs.length->βl k=some p->∃q,β k=some q:=by
   intro k p A B
   cases hβ:β k with
   |some q=>exact⟨q,rfl⟩
   |none=>
    have:=(hn.oV k (by rw[y8];exact A) (by simp[if_pos A];exact hβ)).1;rw[B] at this;cases this
  have U_:∀k p,βl k=some p->(S j).bs.length<=k->T'.bs[k]?=some (Hs S (gq pv ops hb S j m sg) k):=by
   intro k p B A;have jo:=lk k p B
   have hβ:β k=none:=by
    cases F:β k with
    |none=>rfl
    |some q=>have:=h.cr k q F j A8 A jo;rw[hj] at this;cases this
   have l_:gq pv ops hb S j m sg k=m:=by simp only[gq];rw[if_pos ⟨jo,.inr A⟩]
   have hst:=lC fy ht m wF Hl k jo λq xE oW=>by
    by_cases he:fF pv ops hb q
    .right;refine h.ph k hβ q ?_ he (ι jo (du fy ht q (j+1) xE (by omega)).len)
     rcases V7 with rfl|⟨i,q1,⟨q2,q3⟩,rfl⟩
     .omega
     rcases ζ q i with h'|h'
     .obtain⟨o1,p1,p2,_⟩:=he;obtain⟨o2,r1,r2,_⟩:=q3;obtain⟨Hj,aac⟩:=qF r2;exact oC rM h' p1 r1 (by simp[nj,p2,Hj,aac]) h.clo q2
     have:q=i:=by omega
     rw[this];exact q2
    exact .inl he
   rcases WW with⟨e1,e2⟩|⟨ar,cs,e1,e2⟩
   .rw[e1] at jo;omega
   have hkk:k=(S j).bs.length:=by rw[e1] at jo;simp[QH] at jo;omega
   have g1:(S (j+1)).bs[k]?=some (.mem 0 ar cs):=by rw[e1,hkk];simp[QH]
   have g2:T'.bs[k]?=some (.mem 0 ar cs):=by rw[e2,hkk];simp[QH,y8]
   simp[Hs,l_];rw[g2,hst,g1];rfl
  refine hK _ _ _ _ _ (h.put fy ht hj ho (kg E j) rO y0 hdj h0.ro hn y8 iv abo hv Hv wF Hl (λi h1 X=>Fy i (h.bnd i h1) ⟨h1,X⟩) ?_ ?_ ?_ (λ_=>hq) λhe=>absurd he hne)
  .rcases V7 with h'|⟨i,_,⟨q2,q3⟩,q4⟩
   .exact .inl h'
   exact .inr ⟨i,q2,q3,q4⟩
  .intro k p B
   by_cases A:k<(S j).bs.length
   .obtain⟨q,LN⟩:=Rq k p A B
    have l_:gq pv ops hb S j m sg k=sg k:=by
     simp only[gq];rw[if_neg];rintro⟨_,h'|h'⟩;·exact hne h'
     omega
    simp[Hs,l_];have:=Hv k q A LN;simp[Hs] at this;rw[<-this]
    have hg:T'.bs[k]?=T.bs[k]?:=by
     rcases WW with⟨_,e2⟩|⟨ar,cs,_,e2⟩
     .rw[e2]
     rw[e2];simp[QH];rw[μ (by rw[y8];exact A)]
    simp[W4,hg]
   have:=U_ k p B (by omega);simp[W4,this]
  intro k b base B hc
  rcases hc with hc|hc
  .exact absurd hc hne
  exact hn.sim.box k b base _ B (U_ k _ B hc)
 unfold wpOp;simp[ho]
 rcases ht.step j o (by simpa using ho) with⟨hw,hop⟩|⟨hw,hd,hs⟩
 .rw[Y8] at hw;rw[uH (hG _ (jh _ _ _) Hv) hw];simp;left;rw[hGo] at hop
  cases Hj:It o with
  |true=>
   have he:=KW (pv:=pv) Hj
   have hne:¬fF pv ops hb j:=by
    rintro⟨o',h1,X,_⟩;rw[ho] at h1;cases h1;rw[he] at X;cases X
   rw[CC Hj] at hop;obtain⟨T',WV,WW⟩:=K2 Hj hop (AZ (S j) β (Hs S sg)) (jh _ _ _);rw[<-CC (cf:=cf) Hj] at WV;exact uR ok fy hTs (hG _ (jh _ _ _) Hv) WV λv w' β' Z' hn hv hq=>hollow (AZ (S j) β (Hs S sg)) T' w' β' Z' v (jh _ _ _) rfl Hv hne WW hn hv (hq he)
  |false=>
   cases uu:Nt o with
   |true=>
    have hne:¬fF pv ops hb j:=by
     rintro⟨o',h1,X,_⟩;rw[ho] at h1;cases h1;rw[(qF X).2] at uu;cases uu
    obtain⟨ad,xJ⟩:∃ad,fQ o.op=some ad:=by
     unfold Nt at uu
     cases hq:fQ o.op with
     |none=>rw[hq] at uu;cases uu
     |some x=>exact⟨x,rfl⟩
    have hjw:au ops (hb j) o=some true:=by rw[Y8];exact hw
    have WR:(Jp (hb j) (looks ops o)).ev ad=(hb j).ev ad:=by
     refine(DH (ts:=looks ops o) (λt htl=>by rw[rX,if_pos htl]) λt e=>?_);subst e;refine ZK _ (pV ?_);cases aaw:o.op<;>rw[aaw] at xJ<;>simp[fQ,reduceCtorEq] at xJ<;>subst xJ<;>simp[Θ]
    have place:∀k,((hb j).ev ad).mO=some k->∃p,β k=some p/\k<(S j).bs.length:=by
     intro k A;have hv:=zh (hG _ (jh _ _ _) Hv) ad;rw[WR] at hv
     have cut:(∃p,(if k<(S j).bs.length then β k else none)=some p)->∃p,β k=some p/\k<(S j).bs.length:=by
      rintro⟨p,B⟩
      split at B;·exact⟨p,B,by assumption⟩
      cases B
     cases hd:(hb j).ev ad with
     |ptr k' v off=>
      rw[hd] at A hv;simp[D.mO] at A;subst A;obtain⟨_,_,B,_⟩:=cG hv;exact cut B
     |win k' v off len sz=>
      rw[hd] at A hv;simp[D.mO] at A;subst A;obtain⟨_,_,_,_,B,_⟩:=ec hv;exact cut B
     |_=>rw[hd] at A;simp[D.mO] at A
    have same:∀k,((hb j).ev ad).mO=some k->(S j).bs[k]?=some (Hs S sg k)/\(sg k<=j\/mi (some k) (S j) (S (sg k))=true):=by
     intro k A;obtain⟨p,B,mH⟩:=place k A;obtain⟨d1,d2,d3⟩:=h.dom k p B
     have fin:(S j).bs[k]?=(S (sg k)).bs[k]?:=by
      rcases Nat.le_total (sg k) j with hle|hle
      .refine lC fy ht j hle (by omega) k d1 λq xE oW=>?_
       by_cases he:fF pv ops hb q
       .right;have Sj:k<(S q).bs.length:=ι d1 (du fy ht q (sg k) xE (by omega)).len
        have T2:E q=false:=by
         cases hE:E q with
         |false=>rfl
         |true=>have:=h.sg2 k p B q hE he Sj;omega
        obtain⟨x,x1,x2,x3⟩:=he
        have hl:listed dy q j=true:=by
         cases hl:listed dy q j with
         |true=>rfl
         |false=>have:=C1 q x oW x1 (by simp[nj,x2,Hj,hl]);rw[T2] at this;cases this
        exact(hst j q o ad k x ho xJ hjw A x1 (qF x2).2 x3 (λ_=>hl) (λh'=>by omega)).1
       exact .inl he
      rcases Y9 hle with heq|hlt
      .rw[heq]
      rcases d3 with d3|⟨j',q1,q2,q3⟩
      .omega
      have JH:fF pv ops hb j':=by
       rcases q3 with q3|q3
       .exact q3
       have:=(du fy ht j' j (by omega) (by have:=h.bnd j' q1;omega)).len;omega
      symm
      refine lC fy ht (sg k) hle d2 k mH λq xE oW=>?_
      by_cases he:fF pv ops hb q
      .right
       have hqj:j<q:=by
        rcases Y9 xE with h'|h'
        .subst h';exact absurd he hne
        exact h'
       have T2:E q=true:=by
        rcases ζ q j' with h'|h'
        .obtain⟨x,x1,x2,_⟩:=he;obtain⟨y,y1,y2,_⟩:=JH;obtain⟨n1,n2⟩:=qF y2;exact oC rM h' x1 y1 (by simp[nj,x2,n1,n2]) h.clo q1
        have:q=j':=by omega
        rw[this];exact q1
       obtain⟨x,x1,x2,x3⟩:=he
       have hl:listed dy j q=true:=by
        cases hl:listed dy j q with
        |true=>rfl
        |false=>have:=C2 q x hqj x1 (by simp[nj,x2,Hj,hl]);rw[T2] at this;cases this
       exact(hst j q o ad k x ho xJ hjw A x1 (qF x2).2 x3 (λh'=>by omega) (λ_=>hl)).1
      exact .inl he
     refine⟨?_,?_⟩;·rw[fin,ε d1];simp only[Hs];rw[ε d1];rfl
     rcases ζ j (sg k) with hlt|hge
     .right
      rcases d3 with d3|⟨j',q1,q2,q3⟩
      .omega
      have JH:fF pv ops hb j':=by
       rcases q3 with q3|q3
       .exact q3
       have:=(du fy ht j' j (by omega) (by have:=h.bnd j' q1;omega)).len;omega
      have hjj:j<j':=by
       rcases ζ j j' with h'|h'
       .exact h'
       have:j=j':=by omega
       subst this;exact absurd JH hne
      obtain⟨x,x1,x2,x3⟩:=JH
      have hl:listed dy j j'=true:=by
       cases hl:listed dy j j' with
       |true=>rfl
       |false=>have:=C2 j' x hjj x1 (by simp[nj,x2,Hj,hl]);rw[q1] at this;cases this
      have:=(hst j j' o ad k x ho xJ hjw A x1 (qF x2).2 x3 (λh'=>by omega) (λ_=>hl)).2 hjj;rw[q2];exact this
     exact .inl hge
    let T:St:=⟨(WM (S j).bs.length).map λk=>if((hb j).ev ad).mO=some k then Hs S sg k else JE (β k) (Hs S sg k),(S j).flr,(S j).ro⟩
    have Tl:T.bs.length=(S j).bs.length:=by simp[T]
    have Tg:∀k,k<(S j).bs.length->T.bs[k]?=some (if((hb j).ev ad).mO=some k then Hs S sg k else JE (β k) (Hs S sg k)):=by
     intro k A;simp[T,A]
    have Tv:∀k p,k<(S j).bs.length->β k=some p->T.aj k=ej (Hs S sg k):=by
     intro k p A B;simp[W4,Tg k A]
     split;·rfl
     rw[B];exact(AY (x':=Xm S sg β Z 0) (h.box k p.1 p.2 B) p).2
    have Ts:=Lj T Tl rfl rfl Tv λk b base bx A B j_=>by
     rw[Tg k A] at j_;cases j_
     split
     .rename_i hbk;obtain⟨e1,e2⟩:=same k hbk;have j_:=h.box k b base B
      rcases ζ j (sg k) with hlt|hge
      .refine kj.bW ?_ (UJ T j (θ _) Tl Tv) rfl;exact Px fy ht (by omega) (h.dom k _ B).2.1 j_ e1 (e2.resolve_left (by omega))
      exact j_.bW (UJ T (sg k) hge Tl Tv) rfl
     rw[B];exact(AY (h.box k b base B) _).1
    rw[Cr uu] at hop;obtain⟨hSS,hTT⟩:=Rp xJ hop
    have WV:=hTT T λk A=>by
     rw[WR] at A;obtain⟨p,B,mH⟩:=place k A;rw[Tg k mH,if_pos A,(same k A).1]
    rw[<-Cr (cf:=cf) uu] at WV
    exact uR ok fy Ts (hG _ Tl Tv) WV λv w' β' Z' hn hv hq=>hollow T T w' β' Z' v Tl rfl Tv hne (.inl ⟨hSS,rfl⟩) hn hv (hq (by
     cases he:iT pv o with
     |false=>rfl
     |true=>rw[(qF he).2] at uu;cases uu))
   |false=>
    have sb:∀k p,β k=some p->k<(S j).bs.length->sg k<=j/\Hs S sg k=((S j).bs[k]?).getD .dead/\(S j).bs[k]?=some (Hs S sg k):=by
     intro k p A mH;refine Cc fy ht h (by omega) (λi hi he=>?_) (λi hi he=>?_) A mH;·obtain⟨x,h1,X,_⟩:=he;exact C1 i x hi h1 (by simp[nj,X,Hj,uu])
     rcases ζ j i with h'|h'
     .obtain⟨x,h1,X,_⟩:=he;exact C2 i x h' h1 (by simp[nj,X,Hj,uu])
     have:i=j:=by omega
     rw[this];exact hj
    have Y4:∀k p,k<(S j).bs.length->β k=some p->(S j).aj k=ej (Hs S sg k):=λk p A B=>by simp[W4,(sb k p B A).2.2]
    have hSs:=Lj (S j) rfl rfl rfl Y4 λk b base bx A B j_=>by
     obtain⟨s1,_,s3⟩:=sb k _ B A;rw[s3] at j_;cases j_;exact(h.box k b base B).bW (UJ (S j) (sg k) s1 rfl Y4) rfl
    refine uR ok fy hSs (hG _ rfl Y4) hop λv w' β' Z' hn hv hq=>?_;have lk:∀k p,β' k=some p->k<(S (j+1)).bs.length:=λk p B=>hn.sim.dom k p.1 p.2 B
    have Rq:∀k p,k<(S j).bs.length->β' k=some p->∃q,β k=some q:=by
     intro k p A B
     cases hβ:β k with
     |some q=>exact⟨q,rfl⟩
     |none=>
      have:=(hn.oV k A (by simp[if_pos A];exact hβ)).1;rw[B] at this;cases this
    have same:∀k p,β' k=some p->(S (j+1)).bs[k]?=some (Hs S (gq pv ops hb S j (j+1) sg) k):=by
     intro k p B;have jo:=lk k p B
     by_cases hc:fF pv ops hb j\/(S j).bs.length<=k
     .have l_:gq pv ops hb S j (j+1) sg k=j+1:=by simp only[gq];rw[if_pos ⟨jo,hc⟩]
      simp[Hs,l_];rw[ε jo];rfl
     have l_:gq pv ops hb S j (j+1) sg k=sg k:=by simp only[gq];rw[if_neg λh'=>hc h'.2]
     have A:k<(S j).bs.length:=by
      rcases ζ k (S j).bs.length with h'|h'
      .exact h'
      exact absurd (.inr h') hc
     obtain⟨q,LN⟩:=Rq k p A B;have:=(qX fy ht j A8).2 (λh'=>hc (.inl h')) k A;rw[this,(sb k q LN A).2.2];simp[Hs,l_]
    refine hK _ _ _ _ _ (h.put fy ht hj ho (kg E j) rO y0 hdj h0.ro hn rfl rfl rfl hv Y4 (θ _) (by omega) (λi h1 X=>?_) (.inl rfl) (λk p B=>by simp[W4,same k p B]) (λk b base B _=>hn.sim.box k b base _ B (same k _ B)) (λhne=>hq ?_) λ_=>⟨rfl,rfl⟩)
    .rcases ζ j i with h'|h'
     .obtain⟨x,p1,p2,_⟩:=X;have:=C2 i x h' p1 (by simp[nj,p2,Hj,uu]);rw[this] at h1;cases h1
     omega
    cases he:iT pv o with
    |false=>rfl
    |true=>exact absurd ⟨o,ho,he,by rw[Y8];exact hw⟩ hne
 have ZV:=hw;rw[Y8] at hw;rw[uH (hG _ (jh _ _ _) Hv) hw];simp
 have hne:¬fF pv ops hb j:=by
  rintro⟨o',h1,_,h3⟩;rw[ho] at h1;cases h1;rw[ZV] at h3;cases h3
 exact hollow (AZ (S j) β (Hs S sg)) _ w _ Z undef (jh _ _ _) rfl Hv hne (.inl ⟨hs,rfl⟩) (υ hTs) (by rw[hd];exact .im _ _ (.tup [] [] rfl (by simp))) (π _)
end
end Go.V
namespace Go.V
open Go.RowKit
def count_set:∀(l:List Bool) (i:Nat),l[i]?=some false->(l.set i true).count false+1=l.count false
 |[],i,h=>by simp at h
 |b::l,0,h=>by simp at h;subst h;simp
 |b::l,i+1,h=>by
  have:=count_set l i (by simpa using h);simp only[List.set_cons_succ,List.count_cons];omega
def FR {l:List Bool} (h:l.count false=0) (i:Nat) (hi:i<l.length):l[i]?=some true:=by
 rw[List.count_eq_zero] at h;rw[ε hi]
 cases F:l[i] with
 |true=>rfl
 |false=>exact absurd (F▸List.getElem_mem hi) h
section
variable{pv:Pv} {P:Program} (ok:pv.Ok P) {cf:eJ} (fy:gh P pv cf) {ops:Array Oper} {hb:Nat->Fr} {S:Nat->St} {dd:Nat->D} (ht:Trace pv cf ops ops.toList hb S dd) {dy:List (Nat×Nat)} (rM:nL pv ops dy=true) (hst:Still dy ops hb S)
include fy ht
variable{a:Act}{w:World}{β:Nat->Option (Nat×Nat)}{Z:Nat->Prop}{E:Nat->Bool}
def DI.start (h:iD w (S 0) β Z) (hf:sq w ((S 0).x β Z) (hb 0) a.tmps) (hE:∀k,E k=false):DI pv ops hb S dd a w β Z E a w β Z (λ_=>0):=by
 have ne:∀{k:Nat},E k=true->False:=λA=>by rw[hE] at A;cases A
 have kp:∀m,m<=ops.size->eI w ((S 0).x β Z) w (Xm S (λ_=>0) β Z m):=by
  intro m hm;have hl:=(du fy ht m 0 (by omega) hm).len
  have key:∀k p,β k=some p->(Xm S (λ_=>0) β Z m).β k=some p:=by
   intro k p B;have:=h.dom k p.1 p.2 B;simp only[Xm];rw[if_pos (by omega)];exact B
  refine⟨λk p B=>⟨p,key k p B⟩,λb F=>⟨F,rfl⟩,λk c p B hc=>⟨c,?_,θ _⟩,λk c _ _ b base F=>⟨key k _ F,rfl⟩⟩;simp[Xm,Hs] at hc;simp[Za,W4]
  cases A:(S 0).bs[k]? with
  |none=>rw[A] at hc;cases hc
  |some bx=>rw[A] at hc;exact hc
 have lw:∀t,eB ops E t ops.size=none:=by
  intro t;have s:=gQ ops E t ops.size
  cases hl:eB ops E t ops.size with
  |none=>rfl
  |some j=>rw[hl] at s;exact(ne s.2.1).elim
 refine⟨rfl,rfl,λk o A=>(ne A).elim,λk A=>(ne A).elim,λk p B=>⟨h.dom k p.1 p.2 B,Q7 _,.inl rfl⟩,λk p B i hi h1 X=>?_,λk p _ j hj=>(ne hj).elim,λk _ j hj=>(ne hj).elim,h.lt,h.inj,h.zd,h.zl,λk b base F=>?_,λt=>?_,HV.refl _ _,kp _ (θ _),
  λk b base F=>.inl ⟨base,F⟩,λb F=>.inl F,λ_ _=>rfl,λ_ _ h=>h⟩
 .have h3:=h.dom k p.1 p.2 B;have:=(du fy ht i 0 (by omega) (by omega)).len;omega
 .have A:=h.dom k b base F;refine(h.box k b base _ F ?_).bW (kp 0 (Q7 _)) rfl;simp[Hs];rw[ε A];rfl
 simp only[TB,val,lw t];exact(hf t).mono (kp 0 (Q7 _))
variable{a0:Act}{w0:World}{β0:Nat->Option (Nat×Nat)}{Z0:Nat->Prop}
def DI.finish {sg:Nat->Nat} (h:DI pv ops hb S dd a0 w0 β0 Z0 E a w β Z sg) (h0:iD w0 (S 0) β0 Z0) (hE:∀k,k<ops.size->E k=true):
  Nx w0 (S 0) β0 Z0 w (S ops.size) β Z/\sq w ((S ops.size).x β Z) (hb ops.size) a.tmps:=by
 have hg:=du fy ht ops.size 0 (Q7 _) (θ _)
 have acL:∀j,fF pv ops hb j->j<ops.size:=by
  rintro j ⟨o,ho,_⟩
  rcases ζ j ops.size with h'|h'
  .exact h'
  rw[Ψ h'] at ho;cases ho
 have Ei:∀k p,β k=some p->k<(S ops.size).bs.length:=by
  intro k p B;obtain⟨h1,X,_⟩:=h.dom k p B;exact ι h1 (du fy ht ops.size (sg k) X (θ _)).len
 have sb:∀k p,β k=some p->sg k<=ops.size/\Hs S sg k=((S ops.size).bs[k]?).getD .dead/\(S ops.size).bs[k]?=some (Hs S sg k):=λk p A=>
  Cc fy ht h (θ _) (λj hj _=>hE j hj) (λj hj he=>by have:=acL j he;omega) A (Ei k p A)
 have kx:∀m,m<=ops.size->eI w (Xm S sg β Z m) w ((S ops.size).x β Z):=by
  intro m hm
  have key:∀k p,(Xm S sg β Z m).β k=some p->β k=some p:=by
   intro k p B;simp only[Xm] at B
   split at B;·exact B
   cases B
  refine⟨λk p B=>⟨p,key k p B⟩,λb F=>⟨F,rfl⟩,λk c p B hc=>⟨c,?_,θ _⟩,λk c _ _ b base F=>⟨key k _ F,rfl⟩⟩;simp[Za,W4,(sb k p (key k p B)).2.2] at hc;exact hc
 refine⟨⟨⟨λk b base F=>Ei k _ F,h.lt,h.inj,h.zd,h.zl,λk b base bx F j_=>?_,?_,?_⟩,h.keeps.trans (kx _ (θ _)),h.evo,h.fresh,h.zfresh,hg.len,hg.flr,hg.ro,λk A=>⟨hg.low k A (ι A h0.ro),h.low k A⟩,λk A Dq=>⟨h.oV k A Dq,?_⟩⟩,λt=>?_⟩;·obtain⟨s1,_,s3⟩:=sb k _ F;rw[s3] at j_;cases j_;exact(h.box k b base F).bW (kx _ s1) rfl
 .rw[hg.flr];exact η h0.flr hg.len
 .rw[hg.ro];exact η h0.ro hg.len
 .refine lC fy ht ops.size (Q7 _) (θ _) k A λq _ hq=>?_
  by_cases he:fF pv ops hb q;·exact .inr (h.ph k (h.oV k A Dq) q (hE q hq) he (ι A (du fy ht q 0 (by omega) (by omega)).len))
  exact .inl he
 have hl:eB ops E t ops.size=eB ops (λ_=>true) t ops.size:=wg λi o h1 _=>⟨λ⟨hi,_⟩=>⟨hi,rfl⟩,λ⟨hi,_⟩=>⟨hi,hE i hi⟩⟩
 have hf:=h.frame t;have Z5:=(sJ ht t ops.size (θ _)).1;have s:=gQ ops (λ_=>true) t ops.size;simp only[val,TB,hl] at hf;rw[Z5]
 cases hq:eB ops (λ_=>true) t ops.size with
 |none=>rw[hq] at hf;exact hf.mono (kx 0 (Q7 _))
 |some i=>rw[hq] at hf s;exact hf.mono (kx (i+1) s.1)
include ok rM hst
def DI.all {Tr:Exit->Act->World->Prop} (h0:iD w0 (S 0) β0 Z0) (Mf:zj ops.toList a0.tmps.size) (K:∀a' w' β' Z',Nx w0 (S 0) β0 Z0 w' (S ops.size) β' Z'->sq w' ((S ops.size).x β' Z') (hb ops.size) a'.tmps->a'.defers=a0.defers->a'.tmps.size=a0.tmps.size->Tr .normal a' w'):
  ∀(fuel:Nat) (listed:Array Bool) (a:Act) (w:World) (β:Nat->Option (Nat×Nat)) (Z:Nat->Prop) (sg:Nat->Nat),listed.size=ops.size->listed.toList.count false=fuel->
   DI pv ops hb S dd a0 w0 β0 Z0 (λk=>listed.getD k false) a w β Z sg->wpAny P .any ops Tr fuel listed a w:=by
 have fin:∀(listed:Array Bool) (a:Act) (w:World) (β:Nat->Option (Nat×Nat)) (Z:Nat->Prop) (sg:Nat->Nat),DI pv ops hb S dd a0 w0 β0 Z0 (λk=>listed.getD k false) a w β Z sg->(∀k,k<ops.size->listed.getD k false=true)->Tr .normal a w:=by
  intro listed a w β Z sg h hall;obtain⟨h1,X⟩:=h.finish fy ht h0 hall;exact K a w β Z h1 X h.defers h.size
 intro fuel
 induction fuel with
 |zero=>
  intro listed a w β Z sg hsz hc h
  have hall:∀k,k<ops.size->listed.getD k false=true:=by
   intro k A;have:=FR hc k (by simpa[hsz] using A);rw[Q2] at this;simp[χ,this]
  refine⟨?_,fin listed a w β Z sg h hall⟩;rw[List.eq_nil_iff_forall_not_mem];intro j hj;rw[mem_ready] at hj;obtain⟨h1,o,ho,_⟩:=hj;have A8:=(Wv.1 ho).1;have:=hall j A8;have hjl:j<listed.size:=by omega
  simp[κ hjl] at h1 this;rw[h1] at this;cases this
 |succ fuel ih=>
  intro listed a w β Z sg hsz hc h;refine⟨λhnil=>fin listed a w β Z sg h ?_,λj hj=>?_⟩
  .intro k
   induction k using YD with
   |_ k ihk=>
    intro A
    cases F:listed.getD k false with
    |true=>rfl
    |false=>
     have lT:k<listed.size:=by omega
     have:k∈Region.ready .any ops listed:=by
      rw[mem_ready];refine⟨by simp[κ lT] at F|-;exact F,ops[k],κ A,λe he hbd=>?_⟩;have hlt:=Fa rM (κ A) (by simpa using he) hbd;exact ihk e.on hlt (by omega)
     rw[hnil] at this;cases this
  rw[mem_ready] at hj;obtain⟨h1,o,ho,X⟩:=hj;have A8:=(Wv.1 ho).1;have hjl:j<listed.size:=by omega
  have YP:listed[j]?=some false:=by
   simp[κ hjl] at h1;rw[κ hjl,h1]
  refine h.step ok fy ht rM hst h0 ho (by simp[χ,YP]) (λe he F=>X e (by simpa using he) F) Mf λa' w' β' Z' Zj h'=>ih _ a' w' β' Z' Zj (by simp[hsz]) ?_ ?_;·have:=count_set listed.toList j (by rw[Q2];exact YP);rw[Array.toList_setIfInBounds];omega
  have he:(λk=>(listed.setIfInBounds j true).getD k false)=F' (λk=>listed.getD k false) j:=by
   funext k
   by_cases mH:j=k;·subst mH;simp[F',hjl]
   rw[getD_set_ne false mH]
   have:QT k j=false:=by
    cases F:QT k j with
    |false=>rfl
    |true=>exact absurd (Γ F).symm mH
   simp[F',this]
  rw[he];exact h'
end
variable{ops:Array Oper}
def H0 {hb:Nat->Fr} {S:Nat->St}:Still [] ops hb S:=by
 intro r q y a k x hy ha hw A hx Qn hwx h1 X
 rcases φ q r with h'|h'|h'
 .have:=h1 h';simp[listed] at this
 .subst h';rw[hx] at hy;cases hy;unfold Nt at Qn;rw[ha] at Qn;cases Qn
 have:=X h';simp[listed] at this
variable{pv:Pv}{cf:eJ}{dy:List (Nat×Nat)}{I aA:Fr}{U R:St}
def Ii (h:Am pv cf ops dy I U=some (aA,R)):
  ∃(hb:Nat->Fr) (S:Nat->St) (dd:Nat->D),hb 0=I/\S 0=U/\hb ops.size=aA/\S ops.size=R/\Trace pv cf ops ops.toList hb S dd/\Still dy ops hb S:=by
 unfold Am at h
 split at h;·obtain⟨hb,S,dd,Pn,SM,SP,SL,ht⟩:=trace ops.toList I U aA R h;rw[QK] at SP SL;exact⟨hb,S,dd,Pn,SM,SP,SL,ht,H0⟩
 obtain⟨hb,S,dd,Pn,SM,SP,SL,ht,hl⟩:=J2 ops.toList 0 [] I U aA R rfl h;rw[QK] at SP SL;exact⟨hb,S,dd,Pn,SM,SP,SL,ht,Kb hl⟩
def vN {pv} {cf} {ops} {dy}:∀(l:List Oper) (j:Nat) (log:Log) (I:Fr) (U:St) (r:Fr×St),pP pv cf ops dy j log l I U=some r->ju pv cf ops l I U=some r
 |[],j,log,I,U,r,h=>by simpa only[pP,ju] using h
 |o::l,j,log,I,U,r,h=>by
  simp[pP] at h;simp[ju]
  cases hw:au ops I o with
  |none=>rw[hw] at h;cases h
  |some b=>
   rw[hw] at h
   cases b with
   |true=>
    simp only at h|-
    cases hop:eT pv cf I U o with
    |none=>rw[hop] at h;cases h
    |some q=>
     obtain⟨d,st1⟩:=q;rw[hop] at h;simp only at h|-
     cases hc:DW dy j log o I U st1 with
     |true=>rw[hc] at h;exact vN l _ _ _ _ _ h
     |false=>rw[hc] at h;cases h
   |false=>simp only at h|-;exact vN l _ _ _ _ _ h
def Cj {r:Fr×St} (h:Am pv cf ops dy I U=some r):ju pv cf ops ops.toList I U=some r:=by
 unfold Am at h
 split at h;·exact h
 exact vN _ _ _ _ _ _ h
def Pt {P} (ok:pv.Ok P) (fy:gh P pv cf) {id} (rM:nL pv ops dy=true) (hs:Am pv cf ops dy I U=some (aA,R)) {w} {β:Nat->Option (Nat×Nat)} {Z:Nat->Prop} (h:iD w U β Z) {a:Act} (hf:sq w (U.x β Z) I a.tmps) (hd:zj ops.toList a.tmps.size) {Tr:Exit->Act->World->Prop} (K:∀a' w' β' Z',Nx w U β Z w' R β' Z'->sq w' (R.x β' Z') aA a'.tmps->a'.defers=a.defers->a'.tmps.size=a.tmps.size->Tr .normal a' w'):(Code.region id ops true).wp P Tr a w:=by
 obtain⟨hb,S,dd,Pn,SM,SP,SL,ht,hst⟩:=Ii hs;refine wp_region_any ok.mixed ?_;have hn:Nx w U β Z {w with drawn:=w.drawn+1} U β Z:=JP h rfl rfl rfl rfl;have h0:iD {w with drawn:=w.drawn+1} (S 0) β Z:=by rw[SM];exact hn.sim
 have hf0:sq {w with drawn:=w.drawn+1} ((S 0).x β Z) (hb 0) a.tmps:=by rw[SM,Pn];exact hf.mono hn.keeps
 refine DI.all ok fy ht rM hst h0 hd (λa' w' β' Z' L2 xr h1 X=>?_) ops.size _ a _ β Z (λ_=>0) (by simp) (by simp) (DI.start fy ht h0 hf0 λk=>?_);·rw[SL] at L2 xr;rw[SP] at xr;rw[SM] at L2;exact K a' w' β' Z' (hn.trans L2) xr h1 X
 simp[WN]
 split<;>rfl
end Go.V
namespace Go.V
open Go.RowKit
def Out.ex:Out->Exit
 | .next=>.normal
 | .exit id=>.exit id
 | .ret=>.ret
def codeOk (pv:Pv) (dyn:List (Nat×List (Nat×Nat))) (n:Nat):Code->Bool
 | .region id ops d=>(ops.toList.all λo=>match o.dst with|some t=>ZD t n|none=>true) &&(!d||nL pv ops (iR id dyn))
 | .seq a b=>codeOk pv dyn n a &&codeOk pv dyn n b
 | .cond _ a b=>codeOk pv dyn n a &&codeOk pv dyn n b
 | .block _ c=>codeOk pv dyn n c
 | .loop c=>codeOk pv dyn n c
 |_=>true
def DO {l:List Oper} {n} (h:(l.all λo=>match o.dst with|some t=>ZD t n|none=>true)=true):zj l n:=by
 intro o ho t hd;have:=ω.1 h o ho;rw[hd] at this;simp only at this;exact QW this
def least (p:Nat->Prop):∀n,p n->∃m,p m/\∀k,p k->m<=k:=by
 intro n
 induction n using YD with
 |_ n ih=>
  intro hn
  by_cases h:∃k,k<n/\p k;·obtain⟨k,A,B⟩:=h;exact ih k A B
  refine⟨n,hn,λk A=>?_⟩
  rcases ζ k n with h'|h'
  .exact absurd ⟨k,h',A⟩ h
  exact h'
open Classical in
noncomputable def mu (p:Nat->Prop):Nat:=if h:∃m,p m/\∀k,p k->m<=k then Classical.choose h else 0
def GS {p:Nat->Prop} {n} (h:p n):p (mu p)/\∀k,p k->mu p<=k:=by
 have he:=least p n h;unfold mu;rw[dif_pos he];exact Classical.choose_spec he
def rY {w} {x} {I:Fr} {tmps} (h:sq w x I tmps):sq w x I.clean tmps:=by
 intro t;have:=h t;simp only[Fr.clean,Fr.get] at this|-
 cases F:ZF I.n t with
 |false=>rw[F] at this;exact this
 |true=>exact .cT _ _ _
section
variable{pv:Pv} {P:Program} (ok:pv.Ok P) {cf:eJ} (fy:gh P pv cf)
include fy
def sR {ops}:∀{l:List Oper} {I aA:Fr} {U R:St},ju pv cf ops l I U=some (aA,R)->eE U R
 |[],I,aA,U,R,h=>by simp only[ju] at h;cases h;exact .refl _
 |o::l,I,aA,U,R,h=>by
  simp[ju] at h
  split at h
  .split at h;next hop=>exact(vO fy hop).1.trans (sR h)
   cases h
  .exact sR h
  cases h
omit fy in
def yU {step:Fr->St->Option (Out×Fr×St)} (hs:∀I U out aA R,step I U=some (out,aA,R)->eE U R):∀(m:Nat) {I aA:Fr} {U R:St} {out:Out},iter step m I U=some (out,aA,R)->eE U R
 |0,_,_,_,_,_,h=>by cases h
 |m+1,I,aA,U,R,out,h=>by
  simp[iter] at h
  split at h;next h1=>exact(hs _ _ _ _ _ h1).trans (yU hs m h)
  exact hs _ _ _ _ _ h
def tk (dyn:List (Nat×List (Nat×Nat))) n:∀(c:Code) {I aA:Fr} {U R:St} {out:Out},bF pv cf dyn n c I U=some (out,aA,R)->eE U R:=by
 intro c
 induction c with
 |skip=>intro I aA U R out h;simp only[bF] at h;cases h;exact .refl _
 |region id ops d=>
  intro I aA U R out h;simp[bF] at h
  split at h;next hop=>cases h;exact sR fy (Cj hop)
  cases h
 |seq a b Fu LH=>
  intro I aA U R out h;simp[bF] at h
  split at h;next h1=>exact(Fu h1).trans (LH h)
  exact Fu h
 |cond c a b Fu LH=>
  intro I aA U R out h;simp[bF] at h
  split at h;·exact Fu h
  .exact LH h
  cases h
 |block id c ih=>
  intro I aA U R out h;simp[bF] at h
  split at h
  .rename_i h1
   split at h<;>cases h<;>exact ih h1
  exact ih h
 |loop c ih=>
  intro I aA U R out h;simp[bF] at h;exact yU (λ_ _ _ _ _=>ih) n h
 |exit id=>intro I aA U R out h;simp only[bF] at h;cases h;exact .refl _
 |ret=>intro I aA U R out h;simp only[bF] at h;cases h;exact .refl _
 |_=>intro I aA U R out h;simp only[bF] at h;cases h
include ok
def PB (dyn:List (Nat×List (Nat×Nat))) n sz:∀(c:Code),codeOk pv dyn sz c=true->∀{I aA:Fr} {U R:St} {out:Out},bF pv cf dyn n c I U=some (out,aA,R)->
  ∀{w:World} {β:Nat->Option (Nat×Nat)} {Z:Nat->Prop} {a:Act} {Tr:Exit->Act->World->Prop},iD w U β Z->sq w (U.x β Z) I a.tmps->a.tmps.size=sz->
  (∀a' w' β' Z',Nx w U β Z w' R β' Z'->sq w' (R.x β' Z') aA a'.tmps->a'.defers=a.defers->a'.tmps.size=sz->Tr out.ex a' w')->c.wp P Tr a w:=by
 intro c
 induction c with
 |skip=>
  intro _ I aA U R out h w β Z a Tr hs hf hz K;simp only[bF] at h;cases h;exact wp_skip (K a w β Z (υ hs) hf rfl hz)
 |region id ops d=>
  intro hc I aA U R out h w β Z a Tr hs hf hz K;simp[bF] at h;simp only[codeOk,ψ] at hc;have hd:=DO hc.1
  split at h
  .rename_i SV st1 hop;cases h
   cases d with
   |true=>
    have rM:nL pv ops (iR id dyn)=true:=by simpa using hc.2
    exact Pt ok fy rM hop hs (rY hf) (by rw[hz];exact hd) λa' w' β' Z' h1 X h3 h4=>K a' w' β' Z' h1 X h3 (h4.trans hz)
   |false=>
    refine wp_region ?_;have:=E8 ok fy (ops:=ops) (Tr:=Tr) ops.toList 0 _ _ U _ β Z a w (λj=>by simp) (Cj hop) hs (rY hf) (by rw[hz];exact hd) λa' w' β' Z' h1 X h3 h4=>K a' w' β' Z' h1 X h3 (h4.trans hz);rw[List.range_eq_range']
    simpa using this
  cases h
 |seq x y YB ZQ=>
  intro hc I aA U R out h w β Z a Tr hs hf hz K;simp[codeOk] at hc;simp[bF] at h;refine wp_seq ?_
  split at h;next SV st1 h1=>refine YB hc.1 h1 hs hf hz λa' w' β' Z' hn xr hd Hc=>?_;exact ZQ hc.2 h hn.sim xr Hc λa'' UB xv NI L2 aa8 sG ZS=>K a'' UB xv NI (hn.trans L2) aa8 (sG.trans hd) ZS
  rename_i hne;refine YB hc.1 h hs hf hz λa' w' β' Z' hn xr hd Hc=>?_;have hK:=K a' w' β' Z' hn xr hd Hc
  cases out with
  |next=>exact(hne _ _ h).elim
  |exit id=>exact hK
  |ret=>exact hK
 |cond c x y YB ZQ=>
  intro hc I aA U R out h w β Z a Tr hs hf hz K;simp[codeOk] at hc;simp[bF] at h;have hv:=zh hf c
  split at h;next F=>rw[F] at hv;exact wp_cond_true (eL hv) (YB hc.1 h hs hf hz K)
  next F=>rw[F] at hv;exact wp_cond_false (eL hv) (ZQ hc.2 h hs hf hz K)
  cases h
 |block id c ih=>
  intro hc I aA U R out h w β Z a Tr hs hf hz K;simp[codeOk] at hc;simp[bF] at h;refine wp_block ?_
  split at h
  .rename_i i SV st1 h1;refine ih hc h1 hs hf hz λa' w' β' Z' hn xr hd Hc=>?_;simp[Out.ex,Exit.inBlock]
   split at h;next hi=>cases h;rw[if_pos hi];exact K a' w' β' Z' hn xr hd Hc
   rename_i hi;cases h;rw[if_neg hi];exact K a' w' β' Z' hn xr hd Hc
  rename_i hne;refine ih hc h hs hf hz λa' w' β' Z' hn xr hd Hc=>?_;have hK:=K a' w' β' Z' hn xr hd Hc
  cases out with
  |next=>exact hK
  |exit id=>exact(hne _ _ _ h).elim
  |ret=>exact hK
 |loop c ih=>
  intro hc I aA U R out h w β Z a Tr hs hf hz K;simp[codeOk] at hc;simp[bF] at h
  let Z_:Nat->Act->World->Prop:=λm a1 w1=>∃SV st1 β1 Z1,iter (bF pv cf dyn n c) m SV st1=some (out,aA,R)/\Nx w U β Z w1 st1 β1 Z1/\sq w1 (st1.x β1 Z1) SV a1.tmps/\a1.defers=a.defers/\a1.tmps.size=sz
  refine wp_loop (λa1 w1=>∃m,Z_ m a1 w1) (λa1 w1=>mu λm=>Z_ m a1 w1) ⟨n,I,U,β,Z,h,υ hs,hf,rfl,hz⟩ ?_;rintro a1 w1 ⟨m0,pf⟩;obtain⟨⟨SV,st1,β1,Z1,h1,sB,wK,wM,hz1⟩,_⟩:=GS (p:=λm=>Z_ m a1 w1) pf;generalize hmu:mu (λm=>Z_ m a1 w1)=m at h1
  cases m with
  |zero=>cases h1
  |succ m=>
   simp[iter] at h1
   split at h1
   .rename_i SU st2 X;refine ih hc X sB.sim (rY wK) hz1 λa' w' β' Z' hn xr hd Hc=>?_
    have hJ:Z_ m a' w':=⟨SU,st2,β',Z',h1,sB.trans hn,xr,hd.trans wM,Hc⟩
    have:=(GS (p:=λm=>Z_ m a' w') hJ).2 m hJ;exact⟨⟨m,hJ⟩,by omega⟩
   rename_i hne;refine ih hc h1 sB.sim (rY wK) hz1 λa' w' β' Z' hn xr hd Hc=>?_;have hK:=K a' w' β' Z' (sB.trans hn) xr (hd.trans wM) Hc
   cases out with
   |next=>exact(hne _ _ h1).elim
   |exit id=>exact hK
   |ret=>exact hK
 |exit id=>
  intro _ I aA U R out h w β Z a Tr hs hf hz K;simp only[bF] at h;cases h;exact wp_exit (K a w β Z (υ hs) hf rfl hz)
 |ret=>
  intro _ I aA U R out h w β Z a Tr hs hf hz K;simp only[bF] at h;cases h;exact wp_ret (K a w β Z (υ hs) hf rfl hz)
 |_=>intro _ I aA U R out h;simp only[bF] at h;cases h
end
end Go.V
namespace Go.V
open Go.RowKit
def FO (N:Nat) (β:Nat->Option (Nat×Nat)):Nat->Option (Nat×Nat):=λk=>if k<N then β k else none
def rS (N:Nat) (β:Nat->Option (Nat×Nat)) (Z:Nat->Prop):Nat->Prop:=λb=>Z b\/∃k base,N<=k/\β k=some (b,base)
variable{w:World}{x x':h2}{N:Nat}{d:D}{v:Value}
theorem VR.cut (hβ:∀k,k<N->x'.β k=x.β k) (hv:∀k,k<N->x'.aj k=x.aj k) (hZ:∀b,x.Z b->x'.Z b) (h:VR w x d v):d.ref<=N->VR w x' d v:=by
 induction h with
 |im d v h=>intro _;exact .im d v (h.mono λb F=>⟨hZ b F,rfl⟩)
 |win k vr off len s a cap hc A hm h=>
  intro hr;simp[Q4] at hr;exact .win k vr off len s a cap hc (by rw[hβ k hr];exact A) (by rw[hv k hr];exact hm) (by rw[hv k hr,hβ k hr];exact h)
 |ptr k vr off a A hm h=>
  intro hr;simp[Q4] at hr;exact .ptr k vr off a (by rw[hβ k hr];exact A) (by rw[hv k hr];exact hm) (by rw[hv k hr,hβ k hr];exact h)
 |mp k r A h=>
  intro hr;simp[Q4] at hr;exact .mp k r (by rw[hβ k hr];exact A) (by rw[hv k hr,hβ k hr];exact h)
 |fn f cs vs hl hr ih=>intro hN;simp[Q4] at hN;exact .fn f cs vs hl λi c v hc hv=>ih i c v hc hv (η (bV (ν hc)) hN)
 |agg cs vs hl h1 hr ih=>intro hN;simp[Q4] at hN;exact .agg cs vs hl h1 λi c v hc hv=>ih i c v hc hv (η (bV (ν hc)) hN)
 |tup cs vs hl hr ih=>intro hN;simp[Q4] at hN;exact .tup cs vs hl λi c v hc hv=>ih i c v hc hv (η (bV (ν hc)) hN)
def nI {cs:List D} {vs:List Value} (hl:cs.length=vs.length) (h:∀(i:Nat) c v,cs[i]?=some c->vs[i]?=some v->c.ref<=N):refs cs<=N:=by
 refine uN λd hd=>?_;obtain⟨i,hi⟩:=QY hd;have hlt:=gP hi;exact h i d _ hi (ε (by omega))
variable{Z:Nat->Prop}
theorem IR.ref (h:IR w Z d v):d.ref<=0:=by
 induction h with
 |agg cs vs hl h1 hr ih=>simp only[Q4];exact nI hl ih
 |tup cs vs hl hr ih=>simp only[Q4];exact nI hl ih
 |_=>simp[Q4]
theorem VR.ref (hd:∀k p,x.β k=some p->k<N) (h:VR w x d v):d.ref<=N:=by
 induction h with
 |im d v h=>exact η h.ref (Q7 _)
 |win k vr off len s a cap hc A hm h=>obtain⟨p,B⟩:=A;simp[Q4];exact hd k p B
 |ptr k vr off a A hm h=>obtain⟨p,B⟩:=A;simp[Q4];exact hd k p B
 |mp k r A h=>obtain⟨p,B⟩:=A;simp[Q4];exact hd k p B
 |fn f cs vs hl hr ih=>simp[Q4];exact nI hl ih
 |agg cs vs hl h1 hr ih=>simp[Q4];exact nI hl ih
 |tup cs vs hl hr ih=>simp[Q4];exact nI hl ih
def nN {f:D->Option D}:∀{ds xs:List D},cE f ds=some xs->xs.length=ds.length/\∀(i:Nat) x,xs[i]?=some x->∃d,ds[i]?=some d/\f d=some x
 |[],xs,h=>by simp only[cE] at h;cases h;exact⟨rfl,λi x hx=>by simp at hx⟩
 |d::ds,xs,h=>by
  simp[cE] at h
  split at h
  .rename_i y hy
   split at h
   .rename_i ys j8;cases h;obtain⟨h1,X⟩:=nN j8;refine⟨by simp[h1],λi x hx=>?_⟩
    cases i with
    |zero=>simp at hx;subst hx;exact⟨d,rfl,hy⟩
    |succ i=>simpa using X i x (by simpa using hx)
   cases h
  cases h
theorem zn s:∀(n:Nat) (c:List D),(chunk s n c).length=n
 |0,_=>rfl
 |n+1,c=>by simp[chunk,zn s n]
def zo s:∀(n:Nat) (c:List D) (i:Nat) (e:D),n*s<=c.length->(∀x∈c,x.cells?=some [x]/\x.cells=[x])->(chunk s n c)[i]?=some e->
  e.cells?=some e.cells/\e.cells.length=s/\∀(j:Nat) y,e.cells[j]?=some y->c[i*s+j]?=some y
 |0,_,i,e,_,_,h=>by simp[chunk] at h
 |n+1,c,i+1,e,hl,h1,h=>by
  simp[chunk] at h;have hs:n*s+s<=c.length:=by rw[ZC] at hl;exact hl
  obtain⟨q1,q2,q3⟩:=zo s n (c.drop s) i e (by simp;omega) (λx hx=>h1 x (ZE hx)) h;refine⟨q1,q2,λj y hy=>?_⟩;have:=q3 j y hy;rw[Y1] at this;rw[ZC,<-this];congr 1;omega
 |n+1,c,0,e,hl,h1,h=>by
  have hs:s<=c.length:=by rw[ZC] at hl;omega
  simp only[chunk,Ξ,Option.some.injEq] at h
  split at h
  .cases c with
   |nil=>simp at hs
   |cons x c=>
    simp at h;subst h;obtain⟨q1,q2⟩:=h1 x (Ω ..);refine⟨by rw[q1,q2],by rw[q2];rfl,λj y hy=>?_⟩;rw[q2] at hy
    cases j with
    |zero=>simpa using hy
    |succ j=>simp at hy
  subst h;refine⟨rfl,by simp[D.cells];omega,λj y hy=>?_⟩;simp[D.cells] at hy;rw[W0] at hy
  split at hy;·simpa using hy
  cases hy
variable{U:St}{n:Nat}
def E3 {x:D} (h:b_ U N n d=some x):(∃cs,x=.agg cs)\/(x.cells?=some [x]/\x.cells=[x]):=by
 cases n with
 |zero=>cases h
 |succ n=>
  cases d<;>simp only[b_] at h<;>first|(cases h;done)|(cases h;exact .inr ⟨rfl,rfl⟩)|skip
  case win k aj off len sz=>
   split at h;·cases h
   obtain⟨⟨a,c⟩,_,h⟩:=δ.1 h;dsimp only at h
   split at h;·obtain⟨r,_,hr⟩:=γ.1 h;cases hr;exact .inr ⟨rfl,rfl⟩
   cases h
  case agg cs=>
   obtain⟨r,_,hr⟩:=γ.1 h;cases hr;exact .inl ⟨_,rfl⟩
variable{β:Nat->Option (Nat×Nat)}
def N_ (h:iD w U β Z) N:∀(n:Nat) {d d':D} {v:Value},b_ U N n d=some d'->VR w (U.x β Z) d v->IR w (rS N β Z) d' v:=by
 have up:∀{d:D} {v:Value},IR w Z d v->IR w (rS N β Z) d v:=λhi=>hi.mono λb F=>⟨.inl F,rfl⟩
 intro n
 induction n with
 |zero=>intro d d' v B;cases B
 |succ n ih=>
  intro d d' v B hv;cases d<;>simp only[b_] at B<;>try(cases B;done)
  case bool b=>cases B;rw[eL hv];exact .bool b
  case int k i=>cases B;rw[de hv];exact .int k i
  case str s=>cases B;rw[gJ hv];exact .str s
  case nul=>cases B;rw[fe hv];exact .emp none 0
  case sl es=>cases B;cases hv with|im _ _ hi=>exact up hi
  case pnil=>cases B;rw[jE hv];exact .pnil
  case nilfn=>cases B;cases hv with|im _ _ hi=>exact up hi
  case nilif=>cases B;cases hv with|im _ _ hi=>exact up hi
  case agg cs=>
   obtain⟨xs,hx,hr⟩:=γ.1 B;cases hr;obtain⟨vs,rfl,hl,h1,X⟩:=jR hv;obtain⟨g1,g2⟩:=nN hx;refine .agg xs vs (g1.trans hl) h1 λi c aa hc hu=>?_;obtain⟨d,wM,JI⟩:=g2 i c hc;exact ih JI (X i d aa wM hu)
  case win k aj off len s=>
   split at B;·cases B
   rename_i TW;obtain⟨⟨ar,c⟩,hm,B⟩:=δ.1 B;dsimp only at B
   split at B
   .rename_i hroom;obtain⟨xs,hx,hr⟩:=γ.1 B;cases hr;obtain⟨a,cap,rfl,hlc,_,_,hat⟩:=ec hv;obtain⟨b,base,sz,F,_,mK⟩:=hat (bE hm).2;have ei:cC w (U.x β Z) b (base+off) ((c.drop off).take (len*s)):=((h.cells hm F).drop off).take _;obtain⟨g1,g2⟩:=nN hx;have hlen:xs.length=len*s:=by rw[g1];simp;omega
    have hcell:∀(j:Nat) y,xs[j]?=some y->∃aa,w.cell? ⟨b,base+off+j,none⟩=some aa/\aa.oneCell'=true/\IR w (rS N β Z) y aa:=by
     intro j y hy;obtain⟨d,wM,JI⟩:=g2 j y hy;obtain⟨aa,km,ns,s9⟩:=ei j d wM;exact⟨aa,km,ns,ih JI s9⟩
    have jv:∀x∈xs,x.cells?=some [x]/\x.cells=[x]:=by
     intro x hxm;obtain⟨j,hj⟩:=QY hxm;obtain⟨d,_,JI⟩:=g2 j x hj;obtain⟨aa,_,ns,s9⟩:=hcell j x hj
     rcases E3 JI with⟨cs,rfl⟩|h'
     .cases s9;simp[Value.oneCell'] at ns
     exact h'
    rcases mK with rfl|⟨rfl,_⟩
    .have:len=0:=by omega
     subst this;exact .emp (some a) 0
    have hcl:=zn s len xs;have hg:=λi e=>zo s len xs i e (by omega) jv;have key:∀(i:Nat) e (j:Nat) y,(chunk s len xs)[i]?=some e->e.cells[j]?=some y->∃aa,w.cell? ⟨b,base+off+(i*s+j),none⟩=some aa/\aa.oneCell'=true/\IR w (rS N β Z) y aa:=λi e j y he hy=>hcell _ y ((hg i e he).2.2 j y hy);have:=IR.sl (w:=w) (Z:=rS N β Z) (chunk s len xs) b (base+off) cap s (λi j=>(w.cell? ⟨b,base+off+(i*s+j),none⟩).getD undef) (.inr ⟨k,base,by omega,F⟩) (by omega)
     (λi e he=>⟨(hg i e he).1,(hg i e he).2.1⟩)
     (λi e j y he hy=>by obtain⟨aa,km,ns,_⟩:=key i e j y he hy;rw[km];exact⟨rfl,ns⟩)
     (λi e j y he hy=>by obtain⟨aa,km,_,s9⟩:=key i e j y he hy;rw[km];exact s9)
    rw[hcl] at this;exact this
   cases B
def Jj (h:iD w U β Z) (hβ:∀k,k<N->x'.β k=β k) (Hf:∀k,k<N->x'.aj k=U.aj k) (hZ:x'.Z=rS N β Z) kn:
  ∀(n:Nat) {d d':D} {v:Value},aB U N kn n d=some d'->VR w (U.x β Z) d v->VR w x' d' v:=by
 have cut:∀{d:D} {v:Value},VR w (U.x β Z) d v->d.ref<=N->VR w x' d v:=λhv hr=>hv.cut hβ Hf (λb F=>by rw[hZ];exact .inl F) hr;have im:∀{d:D} {v:Value},IR w (rS N β Z) d v->VR w x' d v:=λhi=>.im _ _ (by rw[hZ];exact hi);intro n
 induction n with
 |zero=>intro d d' v B;cases B
 |succ n ih=>
  intro d d' v B hv
  cases d<;>simp only[aB] at B<;>first|(cases B;exact cut hv (by simp[Q4]))|skip
  case nul=>
   cases B
   cases kn with
   |true=>exact cut hv (by simp[Q4])
   |false=>rw[fe hv];exact im (.emp none 0)
  case win k aj off len s=>
   split at B;next A=>cases B;exact cut hv (by simp only[Q4];omega)
   exact im (N_ h N n B hv)
  case ptr k aj off=>
   split at B;next A=>cases B;exact cut hv (by simp only[Q4];omega)
   cases B
  case mp k=>
   split at B;next A=>cases B;exact cut hv (by simp only[Q4];omega)
   cases B
  case fn f fZ=>
   split at B;next A=>cases B;exact cut hv (by simp only[Q4];exact A)
   cases B
  case agg cs=>
   obtain⟨xs,hx,hr⟩:=γ.1 B;cases hr;obtain⟨vs,rfl,hl,h1,X⟩:=jR hv;obtain⟨g1,g2⟩:=nN hx;refine .agg xs vs (g1.trans hl) h1 λi c aa hc hu=>?_;obtain⟨d,wM,JI⟩:=g2 i c hc;exact ih JI (X i d aa wM hu)
  case tup cs=>
   obtain⟨xs,hx,hr⟩:=γ.1 B;cases hr;obtain⟨vs,rfl,hl,X⟩:=vh hv;obtain⟨g1,g2⟩:=nN hx;refine .tup xs vs (g1.trans hl) λi c aa hc hu=>?_;obtain⟨d,wM,JI⟩:=g2 i c hc;exact ih JI (X i d aa wM hu)
theorem bY m (U:St):(aw m U).bs=U.bs:=by cases m<;>rfl
def Jl (h:iD w U β Z) m:iD w (aw m U) β Z:=by
 refine⟨λk b base A=>by rw[bY];exact h.dom k b base A,h.lt,h.inj,h.zd,h.zl,λk b base bx F j_=>?_,?_,?_⟩
 .rw[bY] at j_;have:(aw m U).x β Z=U.x β Z:=by simp only[Za];congr 1;funext k;simp[W4,bY]
  rw[this];exact h.box k b base bx F j_
 .rw[bY];cases m<;>first|exact θ _|exact h.flr
 rw[bY];cases m<;>first|exact θ _|exact h.ro
variable{st1 R:St}{d':D}
def Lr {w'} {β':Nat->Option (Nat×Nat)} {Z':Nat->Prop} (h:iD w U β Z) m kn (hn:Nx w (aw m U) β Z w' st1 β' Z') (hg:eE (aw m U) st1) (hv:VR w' (st1.x β' Z') d v) (hl:cZ m kn U st1 d=some (d',R)):∃xv NI,Nx w U β Z w' R xv NI/\VR w' (R.x xv NI) d' v:=by
 by_cases hm:m=.bW;·subst hm;simp only[cZ] at hl;cases hl;exact⟨β',Z',hn,hv⟩
 by_cases hw:m=.nw
 .subst hw;simp only[cZ] at hl;cases hl;have hx0:(aw .nw U).x β Z=U.x β Z:=by simp only[Za];congr 1
  have hx1:(⟨st1.bs,U.flr,U.ro⟩:St).x β' Z'=st1.x β' Z':=by simp only[Za];congr 1
  have hlen:U.bs.length<=st1.bs.length:=hn.len
  refine⟨β',Z',⟨⟨hn.sim.dom,hn.sim.lt,hn.sim.inj,hn.sim.zd,hn.sim.zl,λk b base bx F j_=>by rw[hx1];exact hn.sim.box k b base bx F j_,η h.flr hlen,η h.ro hlen⟩,by rw[hx1,<-hx0];exact hn.keeps,
   hn.evo.mono λb F=>?_,hn.fresh,hn.zfresh,hlen,rfl,rfl,λk A=>hn.low k (ι A h.ro),λk A h0=>hn.oV k A h0⟩,by rw[hx1];exact hv⟩
  obtain⟨k,base,h1,X⟩:=F;exact⟨k,base,h1,η h.ro X⟩
 have hl:∃dd,aB st1 U.bs.length kn 16 d=some dd/\d'=dd/\R=⟨st1.bs.take U.bs.length,U.flr,U.ro⟩:=by
  cases m<;>first|exact absurd rfl hm|exact absurd rfl hw|skip
  all_goals
   simp[cZ] at hl
   split at hl;next dd hf=>cases hl;exact⟨_,hf,rfl,rfl⟩
   cases hl
 obtain⟨dd,hf,rfl,rfl⟩:=hl
 have Sw:(aw m U).flr=U.bs.length:=by cases m<;>first|rfl|exact absurd rfl hm|exact absurd rfl hw
 have fx:U.ro<=(aw m U).ro:=by cases m<;>first|exact θ _|exact h.ro
 have hlen:U.bs.length<=st1.bs.length:=by have:=hn.len;rw[bY] at this;exact this
 have F:∀k,k<U.bs.length->(st1.bs.take U.bs.length)[k]?=st1.bs[k]?:=λk A=>by rw[W0,if_pos A]
 have hx:(aw m U).x β Z=U.x β Z:=by simp only[Za];congr 1;funext k;simp[W4,bY]
 have Hf:∀k,k<U.bs.length->(⟨st1.bs.take U.bs.length,U.flr,U.ro⟩:St).aj k=st1.aj k:=λk A=>by simp[W4,F k A]
 have hβ:∀k,k<U.bs.length->FO U.bs.length β' k=β' k:=λk A=>by simp[FO,if_pos A]
 have Fv:∀k p,FO U.bs.length β' k=some p->k<U.bs.length/\β' k=some p:=by
  intro k p B;simp only[FO] at B
  split at B;·exact⟨by assumption,B⟩
  cases B
 refine⟨FO U.bs.length β',rS U.bs.length β' Z',⟨⟨λk b base A=>?_,λk b base A=>hn.sim.lt k b base (Fv k _ A).2,λk k' b y y' h1 X=>hn.sim.inj k k' b y y' (Fv k _ h1).2 (Fv k' _ X).2,?_,?_,?_,?_,?_⟩,?_,?_,?_,?_,?_,rfl,rfl,?_,?_⟩,?_⟩;·have:=(Fv k _ A).1;simp;omega
 .intro k b base A hz;obtain⟨h1,X⟩:=Fv k _ A
  rcases hz with hz|⟨k2,HP,h3,h4⟩
  .exact hn.sim.zd k b base X hz
  have:=hn.sim.inj k k2 b _ _ X h4;omega
 .rintro b (hz|⟨k2,HP,_,h4⟩);·exact hn.sim.zl b hz
  exact hn.sim.lt k2 b HP h4
 .intro k b base bx A j_;obtain⟨h1,X⟩:=Fv k _ A;simp only at j_;rw[F k h1] at j_;have I_:=hn.sim.box k b base bx X j_
  have ZR:∃p,β k=some p:=by
   cases hq:β k with
   |some p=>exact⟨p,rfl⟩
   |none=>
    have:=(hn.oV k (by rw[bY];exact h1) hq).1;rw[X] at this;cases this
  obtain⟨p,B⟩:=ZR
  cases bx with
  |mem vr ar cells=>
   obtain⟨c,el,I,q1,q2,q3,q4⟩:=I_;refine⟨c,el,I,q1,q2,q3,λj e he=>?_⟩;obtain⟨aa,u1,u2,u3⟩:=q4 j e he;refine⟨aa,u1,u2,u3.cut hβ Hf (λb F=>show rS U.bs.length β' Z' b from .inl F) ?_⟩;have h0:U.bs[k]?=some U.bs[k]:=ε h1;have h5:=hg.fl k U.bs[k] _ (by rw[Sw];exact h1) (by rw[bY];exact h0) j_ e (ν he)
   have h6:refs (U.bs[k]).cells<=U.bs.length:=uN λx hx=>by
    have QE:=h.box k p.1 p.2 _ B h0
    cases hbk:U.bs[k] with
    |mem vr0 ar0 acQ=>
     rw[hbk] at QE hx;obtain⟨_,_,_,_,_,_,r4⟩:=QE;obtain⟨i,hi⟩:=QY hx;obtain⟨_,_,_,r7⟩:=r4 i x hi;exact r7.ref λk p B=>h.dom k p.1 p.2 B
    |_=>rw[hbk] at hx;simp[mc.cells] at hx
   omega
  |iter s pos=>exact I_
  |map e=>exact I_
  |dead=>exact I_
 .have:=h.flr;simp;omega
 .have:=h.ro;simp;omega
 .have A:=hn.keeps;rw[hx] at A;refine⟨λk p B=>?_,λb F=>⟨.inl (A.z b F).1,(A.z b F).2⟩,λk c p B hc=>?_,λk c hc FH b base NC=>?_⟩;·obtain⟨p',wE⟩:=A.dm k p B;exact⟨p',by show FO U.bs.length β' k=some p';rw[hβ k (h.dom k p.1 p.2 B)];exact wE⟩
  .exact A.aj k c p B (by have:=Hf k (h.dom k p.1 p.2 B);show st1.aj k=some c;rw[<-this];exact hc)
  have TW:=h.dom k _ _ NC;obtain⟨r1,r2⟩:=A.at_ k c (by show st1.aj k=some c;rw[<-Hf k TW];exact hc) FH b base NC;exact⟨by show FO U.bs.length β' k=_;rw[hβ k TW];exact r1,r2⟩
 .exact hn.evo.mono λb ⟨k,base,h1,X⟩=>⟨k,base,h1,η fx X⟩
 .intro k b base A;exact hn.fresh k b base (Fv k _ A).2
 .rintro b (hz|⟨k2,HP,h3,h4⟩);·exact hn.zfresh b hz
  rcases hn.fresh k2 b HP h4 with⟨dr,h5⟩|h5
  .have:=h.dom k2 b dr h5;omega
  exact .inr h5
 .simp;omega
 .intro k A;have TW:k<U.bs.length:=ι A h.ro;obtain⟨r1,r2⟩:=hn.low k (ι A fx);rw[bY] at r1;exact⟨by simp only;rw[F k TW];exact r1,by rw[hβ k TW];exact r2⟩
 .intro k A Dq;obtain⟨r1,r2⟩:=hn.oV k (by rw[bY];exact A) Dq;rw[bY] at r2;exact⟨by rw[hβ k A];exact r1,by simp only;rw[F k A];exact r2⟩
 exact Jj hn.sim hβ Hf rfl kn 16 hf hv
variable{pv:Pv}{m:Nat}
def DT {dyn:List (Nat×List (Nat×Nat))} (Se:n<=m):∀(c:Code),codeOk pv dyn n c=true->codeOk pv dyn m c=true:=by
 intro c
 induction c with
 |region id ops d=>
  intro h;simp only[codeOk,ψ] at h|-;refine⟨ω.2 λo ho=>?_,h.2⟩;have h1:=DO h.1 o ho
  cases hd:o.dst with
  |none=>rfl
  |some t=>exact QX (η (h1 t hd) Se)
 |seq a b Fu LH=>intro h;simp only[codeOk,ψ] at h|-;exact⟨Fu h.1,LH h.2⟩
 |cond c a b Fu LH=>intro h;simp only[codeOk,ψ] at h|-;exact⟨Fu h.1,LH h.2⟩
 |block id c ih=>intro h;simp[codeOk] at h|-;exact ih h
 |loop c ih=>intro h;simp[codeOk] at h|-;exact ih h
 |_=>intro h;rfl
def pE (tmps:Array Value):ResultVar->Sem Value
 | .tmp t=>pure (tmps.getD t undef)
 | .cell a t=>do loadVar t (<-asAddr (tmps.getD a undef))
def EP (fn:Func) tmps:results fn tmps=(do let vs<-fn.results.mapM (pE tmps);pure (if h:vs.size=1 then vs[0] else .tuple vs)):=rfl
theorem Le d:∀(l:List D) (t:Nat),nth d l t=(l[t]?).getD d
 |[],t=>by simp[nth]
 |x::l,0=>rfl
 |x::l,t+1=>by simpa[nth] using Le d l t
def ER {pv:Pv} {P} (ok:pv.Ok P) {w} {U:St} {β:Nat->Option (Nat×Nat)} {Z:Nat->Prop} (h:iD w U β Z) {I} {tmps} (hf:sq w (U.x β Z) I tmps):∀(rs:List ResultVar) {ds:List D},jr pv I U rs=some ds->
  ∃vs:List Value,(rs.mapM (pE tmps)).run P w=.ok vs w/\ds.length=vs.length/\∀(i:Nat) c aa,ds[i]?=some c->vs[i]?=some aa->VR w (U.x β Z) c aa
 |[],ds,hr=>by simp only[jr] at hr;cases hr;exact⟨[],by simp,rfl,λi c aa hc=>by simp at hc⟩
 | .tmp t::l,ds,hr=>by
  simp only[jr] at hr;obtain⟨es,he,hr⟩:=γ.1 hr;cases hr;obtain⟨vs,h1,X,h3⟩:=ER ok h hf l he;refine⟨tmps.getD t undef::vs,by simp[pE,h1],by simp[X],λi c aa hc hu=>?_⟩
  cases i with
  |zero=>simp at hc hu;subst hc;rw[<-hu];have:=hf t;simpa using this
  |succ i=>exact h3 i c aa (by simpa using hc) (by simpa using hu)
 | .cell a t::l,ds,hr=>by
  simp[jr] at hr;obtain⟨d,hd,hr⟩:=δ.1 hr;obtain⟨es,he,hr⟩:=γ.1 hr;cases hr;obtain⟨vs,h1,X,h3⟩:=ER ok h hf l he;have hv:=hf a
  have ng:∃z,(pE tmps (.cell a t)).run P w=.ok z w/\VR w (U.x β Z) d z:=by
   unfold gy at hd
   split at hd;next k aj off hg=>rw[hg] at hv;obtain⟨⟨ar,c⟩,hm,hd⟩:=δ.1 hd;obtain⟨p,B,_,hat⟩:=cG hv;obtain⟨b,base,F,rfl⟩:=hat (bE hm).2;obtain⟨z,h1,X⟩:=uK ok ((h.cells hm F).drop off) hd;exact⟨z,by simp only[pE];rw[B];simp[asAddr,h1],X⟩
   next c hg=>rw[hg] at hv;obtain⟨b,off,B,_,hc,_⟩:=vi hv;obtain⟨z,h1,X⟩:=uK ok hc hd;exact⟨z,by simp only[pE];rw[B];simp[asAddr,h1],X⟩
   cases hd
  obtain⟨z,z1,z2⟩:=ng;refine⟨z::vs,by simp[z1,h1],by simp[X],λi c aa hc hu=>?_⟩
  cases i with
  |zero=>simp at hc hu;subst hc;subst hu;exact z2
  |succ i=>exact h3 i c aa (by simpa using hc) (by simpa using hu)
variable{P:Program}{ds:List D}
def EO (ok:pv.Ok P) (h:iD w U β Z) {I} {tmps} (hf:sq w (U.x β Z) I tmps) {fn:Func} (hr:jr pv I U fn.results.toList=some ds):
  ∃v,(results fn tmps).run P w=.ok v w/\VR w (U.x β Z) (qP ds) v:=by
 obtain⟨vs,h1,X,h3⟩:=ER ok h hf _ hr
 have hrun:(fn.results.mapM (pE tmps)).run P w=.ok vs.toArray w:=by
  rw[Array.mapM_eq_mapM_toList,Sem.run_map,h1];rfl
 refine⟨if h:vs.toArray.size=1 then vs.toArray[0] else .tuple vs.toArray,?_,?_⟩;·rw[EP];simp only[Δ];rw[hrun];simp
 match ds,vs,X with
 |[],[],_=>exact .tup [] [] rfl (by simp)
 |[d],[v],_=>exact h3 0 d v rfl rfl
 |d::e::l,aa::v::l',X=>
  rw[dif_neg (by simp)];exact .tup _ _ X h3
variable{us:List Value}
def Rl {args:List D} (hl:args.length=us.length) (hr:∀(i:Nat) c v,args[i]?=some c->us[i]?=some v->VR w x c v):
  sq w x (pad n args) (us.toArray++ο m undef):=by
 intro t;simp only[pad,Fr.get]
 cases F:ZF n t with
 |true=>exact .cT _ _ _
 |false=>
  simp only;rw[Le];simp;rw[ZT,Array.getElem?_append];simp only[List.size_toArray,Z9]
  by_cases ht:t<args.length;·rw[if_pos ht,if_pos (by omega),ε ht,ε (by omega:t<us.length)];exact hr t _ _ (ε ht) (ε _)
  rw[if_neg ht,if_neg (by omega)]
  have hu:((ο m undef)[t-us.length]?).getD undef=undef:=by
   rw[WN];split<;>rfl
  rw[hu];rw[List.getElem?_replicate]
  split;·exact .im _ _ (.tup [] [] rfl (by simp))
  exact .cT _ _ _
def Pv.fu (pv:Pv):Prop:=∀f x b,pv.fi f=some x->x.jG=none->x.fn.body=some b->codeOk pv x.dyn x.fn.ntmps b=true
def dj (pv:Pv):eJ:=λf ds U=>match fT f pv.uO with
 |some p=>p ds U
 |none=>match pv.fi f with
 |some x=>match x.jG with
  |some p=>p ds U
  |none=>none
 |none=>none
def wb {m} {kn} (hg:eE (aw m U) st1) (hl:cZ m kn U st1 d=some (d',R)):eE U R/\(m=.ro\/m=.nw->sr U R):=by
 by_cases hm:m=.bW;·subst hm;simp only[cZ] at hl;cases hl;exact⟨hg,λh=>by rcases h with h|h<;>cases h⟩
 by_cases hw:m=.nw
 .subst hw;simp only[cZ] at hl;cases hl;have hlen:U.bs.length<=st1.bs.length:=hg.len;have A4:∀k,k<U.bs.length->st1.bs[k]?=U.bs[k]?:=λk A=>hg.low k A A
  have:sr U ⟨st1.bs,U.flr,U.ro⟩:=by
   refine⟨st1.bs.drop U.bs.length,?_⟩
   congr 1
   apply Wz;intro k
   by_cases A:k<U.bs.length;·rw[μ A];exact A4 k A
   rw[List.getElem?_append_right (by omega),Y1];congr 1;omega
  exact⟨this.goes,λ_=>this⟩
 have hl:R=⟨st1.bs.take U.bs.length,U.flr,U.ro⟩:=by
  cases m<;>first|exact absurd rfl hm|exact absurd rfl hw|skip
  all_goals
   simp[cZ] at hl
   split at hl;·cases hl;rfl
   cases hl
 subst hl;have hlen:U.bs.length<=st1.bs.length:=by have:=hg.len;rw[bY] at this;exact this
 have F:∀k,k<U.bs.length->(st1.bs.take U.bs.length)[k]?=st1.bs[k]?:=λk A=>by rw[W0,if_pos A]
 have Sw:(aw m U).flr=U.bs.length:=by cases m<;>first|rfl|exact absurd rfl hm|exact absurd rfl hw
 refine⟨⟨by simp;omega,rfl,rfl,λk A jn=>?_,λk bx MX A h1 X d hd=>?_⟩,λh=>?_⟩;·have:=hg.low k (by cases m<;>first|exact absurd rfl hw|exact A|exact jn) (by rw[bY];exact jn);rw[bY] at this;simp only;rw[F k jn];exact this
 .have jn:=gP h1;simp only at X;rw[F k jn] at X;exact hg.fl k bx MX (by rw[Sw];exact jn) (by rw[bY];exact h1) X d hd
 have h:=h.resolve_right hw;subst h
 have:st1.bs.take U.bs.length=U.bs:=by
  apply Wz;intro k
  by_cases A:k<U.bs.length;·rw[F k A];have:=hg.low k A (by rw[bY];exact A);rw[bY] at this;exact this
  rw[ς (by simp;omega),ς (by omega)]
 rw[this];exact .rfl _
def mN {pv:Pv} {P} (ok:pv.Ok P) (hc:pv.fu) (B:gh P pv (dj pv)):∀n,gh P pv (cA pv n)
 |0=>⟨λf ds U r h=>(by cases h),λf ds U d R h=>(by cases h),λf ds U d R h=>(by cases h),λf ds U d R h=>(by cases h)⟩
 |n+1=>by
  have ih:=mN ok hc B n
  have key:∀{f:Nat} {ds:List D} {U:St} {r:D×St},cA pv (n+1) f ds U=some r->(dj pv f ds U=some r)\/∃x body,pv.fi f=some x/\x.jG=none/\x.fn.body=some body/\zu pv (cA pv n) n x body ds U=some r:=by
   intro f ds U r h;simp[cA] at h
   split at h;next p hl=>left;simp[dj,hl];exact h
   rename_i hl
   split at h
   .rename_i x hx
    split at h;next p ta=>left;simp[dj,hl,hx,ta];exact h
    rename_i ta
    split at h;next body F=>exact .inr ⟨x,body,hx,ta,F,h⟩
    cases h
   cases h
  have body:∀{x:Fi} {body:Code} {ds:List D} {U:St} {d:D} {R:St},zu pv (cA pv n) n x body ds U=some (d,R)->
    ∃out I st1 es,bF pv (cA pv n) x.dyn n body (pad x.nloc ds) (aw x.mode U)=some (out,I,st1)/\(∀i,out≠.exit i)/\jr pv I st1 x.fn.results.toList=some es/\cZ x.mode x.knul U st1 (qP es)=some (d,R):=by
   intro x body ds U d R h;unfold zu at h
   split at h;·cases h
   .rename_i out I st1 hne ux
    split at h;next es hr=>exact⟨out,I,st1,es,ux,λi hi=>by subst hi;exact hne _ rfl,hr,h⟩
    cases h
   cases h
  refine⟨λf ds U r h=>?_,λf ds U d R h=>?_,λf ds U d R h fx=>?_,λf ds U d R h=>?_⟩
  .rcases key h with h|⟨x,b,hx,ta,F,_⟩
   .exact B.fn f ds U r h
   obtain⟨h1,X⟩:=ok.fs f x hx ta;exact⟨x.fn,b,h1,F,X b F⟩
  .rcases key h with h|⟨x,b,hx,ta,F,hbd⟩
   .exact B.calls f ds U d R h
   intro w β Z us hs hl hr;obtain⟨out,I,st1,es,ux,hne,RU,V8⟩:=body hbd;obtain⟨h1,X⟩:=ok.fs f x hx ta;refine calls_of_wp h1 F ?_;have Vx:=Jl hs x.mode;have hx':(aw x.mode U).x β Z=U.x β Z:=by simp only[Za];congr 1;funext k;simp[W4,bY]
   have hf:sq w ((aw x.mode U).x β Z) (pad x.nloc ds) (us.toArray++ο (x.fn.ntmps-us.toArray.size) undef):=by rw[hx'];exact Rl hl hr
   refine PB ok ih x.dyn n _ b (DT ?_ b (hc f x b hx ta F)) ux Vx hf rfl λa' w' β' Z' hn xr hd _=>?_;·simp;omega
   obtain⟨v,uV,uU⟩:=EO ok hn.sim xr RU;obtain⟨xv,NI,L2,Hf⟩:=Lr hs x.mode x.knul hn (tk ih x.dyn n b ux) uU V8
   have dC:a'.defers=[]/\∃v,(results x.fn a'.tmps).run P w'=.ok v w'/\(∃v' β' Z',Ending.returned v=.returned v'/\Nx w U β Z w' R β' Z'/\VR w' (R.x β' Z') d v'/\(kZ pv f=true->Quiet w w')):=by
    refine⟨hd,v,uV,v,xv,NI,rfl,L2,Hf,λfx=>?_⟩
    have hm:x.mode=.ro\/x.mode=.nw:=by
     unfold kZ at fx;rw[hx] at fx;simp only at fx
     split at fx;·exact .inl (by assumption)
     .exact .inr (by assumption)
     cases fx
    intro c hcl;refine hn.evo.block c hcl ?_;rintro⟨k,base,h5,h6⟩;have:=hs.dom k c base h5
    rcases hm with hm|hm<;>rw[hm] at h6<;>simp[aw] at h6<;>omega
   cases out with
   |next=>exact dC
   |ret=>exact dC
   |exit i=>exact absurd rfl (hne i)
  .rcases key h with h|⟨x,b,hx,ta,F,hbd⟩
   .exact B.ro f ds U d R h fx
   obtain⟨out,I,st1,es,ux,hne,RU,V8⟩:=body hbd
   have hm:x.mode=.ro\/x.mode=.nw:=by
    unfold kZ at fx;rw[hx] at fx;simp only at fx
    split at fx;·exact .inl (by assumption)
    .exact .inr (by assumption)
    cases fx
   exact(wb (tk ih x.dyn n b ux) V8).2 hm
  rcases key h with h|⟨x,b,hx,ta,F,hbd⟩
  .exact B.len f ds U d R h
  obtain⟨out,I,st1,es,ux,hne,RU,V8⟩:=body hbd;exact(wb (tk ih x.dyn n b ux) V8).1
def Fits {α:Type} (af:Nat->α->Prop):Q α->Nat->Nat->Prop
 | .leaf a,lo,hi=>hi=lo+1/\af lo a
 | .node k l r,lo,hi=>Fits af l lo k/\Fits af r k hi
theorem Fits.get {α:Type} {af:Nat->α->Prop}:∀{tr:Q α} {lo hi t:Nat},Fits af tr lo hi->lo<=t->t<hi->af t (tr.get t)
 | .leaf a,lo,hi,t,h,h1,X=>by
  obtain⟨h3,h4⟩:=h;have:t=lo:=by omega
  subst this;exact h4
 | .node k l r,lo,hi,t,h,h1,X=>by
  obtain⟨h3,h4⟩:=h;simp[Q.get]
  cases F:ZF k t with
  |true=>exact h4.get (QW F) X
  |false=>
   have:¬k<=t:=λA=>by rw[QX A] at F;cases F
   exact h3.get h1 (by omega)
def SX (pv:Pv) (x:Fi):Bool:=
 match x.fn.body with
 |some b=>(x.fn.name != "runtime.NumGoroutine") &&codeOk pv x.dyn x.fn.ntmps b
 |none=>true
def mB:List D->St->Option (D×St):=λ_ _=>none
def Nh (pv:Pv) (P:Program) (i:Nat) (x:Fi):Prop:=(P.funcs[i]?=some x.fn/\x.jG=none/\SX pv x=true)\/x.jG=some mB
def Tu (P:Program) (i:Nat) (x:TypeInfo):Prop:=P.info? i=some x
def zJ (ht:Fits (Tu P) pv.ty 0 pv.JB) (hf:Fits (Nh pv P) pv.fs 0 pv.GP) (he:(pv.BH.all λt=>!P.stoodInHeld t &&!P.eqGuardType P.depth t)=true) (hm:P.follows .mixedOrders=true) (Ef:pv.uO=[]):
  pv.Ok P/\pv.fu/\gh P pv (dj pv):=by
 have fi:∀f x,pv.fi f=some x->Nh pv P f x:=by
  intro f x h;unfold Pv.fi at h
  split at h
  .rename_i F;cases h;refine hf.get (Q7 _) ?_
   rcases ζ f pv.GP with h'|h'
   .exact h'
   rw[QX h'] at F;cases F
  cases h
 have pn:∀f ds U r,dj pv f ds U=some r->False:=by
  intro f ds U r h;unfold dj at h;rw[Ef] at h;simp[fT] at h
  split at h
  .rename_i x hx
   rcases fi f x hx with⟨_,h1,_⟩|h1<;>rw[h1] at h<;>cases h
  cases h
 refine⟨⟨λt i h=>?_,λf x h B=>?_,λt h=>?_,hm⟩,λf x b h B F=>?_,⟨λf ds U r h=>(pn f ds U r h).elim,λf ds U d R h=>(pn f ds U _ h).elim,λf ds U d R h=>(pn f ds U _ h).elim,λf ds U d R h=>(pn f ds U _ h).elim⟩⟩
 .unfold Pv.info at h
  split at h
  .rename_i F;cases h;refine ht.get (Q7 _) ?_
   rcases ζ t pv.JB with h'|h'
   .exact h'
   rw[QX h'] at F;cases F
  cases h
 .obtain⟨h1,_,h3⟩:=(fi f x h).resolve_right (by rw[B];simp);refine⟨h1,λb F=>?_⟩;unfold SX at h3;rw[F] at h3;simp at h3;exact h3.1
 .have:=ω.1 he t (by simpa using h)
  simpa using this
 obtain⟨_,_,h3⟩:=(fi f x h).resolve_right (by rw[B];simp);unfold SX at h3;rw[F] at h3;simp only[ψ] at h3;exact h3.2
def sound (h:pv.Ok P/\pv.fu/\gh P pv (dj pv)) {f} (hs:cA pv n f ds ⟨[],0,0⟩=some (d,R)) (hZ:∀b,Z b->b<w.heap.size) (hl:ds.length=us.length) (hr:∀(i:Nat) c v,ds[i]?=some c->us[i]?=some v->IR w Z c v):Calls P f us.toArray w λe w'=>∃v β' Z',e=.returned v/\HV (λ_=>False) w w'/\VR w' (R.x β' Z') d v:=by
 have dB:iD w ⟨[],0,0⟩ (λ_=>none) Z:=⟨λ_ _ _ h=>(by cases h),λ_ _ _ h=>(by cases h),λ_ _ _ _ _ h=>(by cases h),λ_ _ _ h=>(by cases h),hZ,λ_ _ _ _ h=>(by cases h),θ _,θ _⟩
 refine((mN h.1 h.2.1 h.2.2 n).calls f ds _ d R hs w _ Z us dB hl λi c v hc hv=>.im _ _ (hr i c v hc hv)).mono λe w'=>?_;rintro⟨v,β',Z',he,hn,hv,_⟩;refine⟨v,β',Z',he,hn.evo.mono ?_,hv⟩;rintro b ⟨k,base,h,_⟩;cases h
end Go.V
