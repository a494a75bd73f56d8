/-
 The table's Set, given to V.
-/
import Derived.Test.YtappgjdiplibbaaGreatYSrw
import Derived.Test.YtappgjdiplibbaaGreatYView
import Derived.Test.YtappgjdiplibbaaGreatYM2
import Derived.KernelRfl
set_option linter.all false
open Array renaming getElem?_setIfInBounds_self_of_lt->γ,getElem?_setIfInBounds_ne->ζ,getElem?_eq_some_iff->η,getElem?_eq_getElem->μ,ext_getElem?->τ,getElem?_push->χ
open List renaming length_cons->δ,length_nil->ε,getElem?_eq_some_iff->θ,length_append->ι,length_drop->ν,getElem?_drop->ο,getElem?_take->π,length_take->ρ,getElem?_append_left->υ,getElem?_append_right->ω,getElem?_eq_getElem->Γ,getElem?_eq_none->Θ,flatten_cons->Ψ,not_mem_nil->Q2,map_cons->Q6,mem_cons->Q7
open Go.World renaming cell?->κ,frozen?->ς,setCells->Q4
open Option renaming bind_eq_some_iff->ξ,map_eq_some_iff->φ,some->ψ,bind_some->Φ
open Go.Value renaming string->Δ,slice->Ξ,int->Ω
namespace Go.Proofs.YtappgjdiplibbaaGreat
open Go.V Go Go.RowKit
structure gI where
 k:List UInt8
 v:Int
def dV (r:gI):List D:=[.str r.k,.int .i64 r.v]
def tK:List D->Option (List gI)
 |[]=>some []
 | .str a::.int .i64 b::l=>(tK l).map (⟨a,b⟩::·)
 |_=>none
def vB:∀{c:List D} {l:List gI},tK c=some l->c=(l.map dV).flatten
 |[],l,h=>by cases h;rfl
 |[_],l,h=>by
  unfold tK at h
  split at h
  .rename_i he;cases he
  .rename_i he;cases he
  .cases h
 |d::e::c,l,h=>by
  unfold tK at h
  split at h
  .rename_i he;cases he
  .rename_i a b m he;cases he;obtain⟨r,h1,rfl⟩:=φ.1 h;rw[vB h1];rfl
  .cases h
theorem Cf:∀l:List gI,tK ((l.map dV).flatten)=some l
 |[]=>rfl
 |r::l=>by
  show tK (.str r.k::.int .i64 r.v::(l.map dV).flatten)=_;simp only[tK,Cf l,Option.map_some]
def gT (ks:List (List UInt8)) (key:List UInt8):Nat->Nat->Nat->Nat
 |0,lo,_=>lo
 |f+1,lo,hi=>if lo<hi then(if Op.bytesLess (ks.getD ((lo+hi)/2) []) key then gT ks key f ((lo+hi)/2+1) hi else gT ks key f lo ((lo+hi)/2)) else lo
def bc (l:List gI) (key:List UInt8):Nat:=gT (l.map (·.k)) key l.length 0 l.length
def ck (l:List gI) (key:List UInt8):Bool:=decide (bc l key<l.length) &&((l.map (·.k)).getD (bc l key) []==key)
def tg (ks:List (List UInt8)) (key:List UInt8):∀(f lo hi:Nat),lo<=hi->gT ks key f lo hi<=hi
 |0,lo,hi,h=>h
 |f+1,lo,hi,h=>by
  unfold gT
  split
  .split
   .exact tg ks key f _ _ (by omega)
   .exact Nat.le_trans (tg ks key f _ _ (by omega)) (by omega)
  .exact h
def wV (l:List gI) (key:List UInt8):bc l key<=l.length:=tg _ _ _ _ _ (Nat.zero_le _)
def sK (U:St):D->Option (List gI)
 | .nul=>some []
 | .win kl vl ol len 2=>match U.cp kl vl with
  |some (true,c)=>if ol+len*2<=c.length/\len<1000000 then tK ((c.drop ol).take (len*2)) else none
  |_=>none
 |_=>none
def AR (l:List D) (n:Nat) (ys:List D):List D:=l.take n++(ys++l.drop n)
def Aq (x:D) (i n:Nat) (oV ys:List D) (U:St):Option St:=
 if i<n then(match x with
  | .win kl vl ol _ 2=>U.wr kl vl ol (AR oV (i*2) ys)
  |_=>none) else some U
def TQ (k:Nat):D->Nat
 | .win kl _ _ _ _=>kl
 |_=>k+1
def NV (x:D) (i:Nat) (v:Int) (U:St):Option St:=match x with
 | .win kl vl ol _ 2=>U.wr kl vl (ol+i*2+1) [.int .i64 v]
 |_=>none
noncomputable def vn (k aj off:Nat) (key:List UInt8) (v:Int) (U:St) (x:D) (l:List gI):Option (D×St):=
 if TQ k x=k then none
 else if ck l key=true then(NV x (bc l key) v U).map λR=>(.bool false,R)
 else match dK dE [138,138] x (.win U.bs.length 0 0 1 2) (U.push (.mem 0 true [.str key,.int .i64 v])) with
  |some (x',st1)=>match Aq x' (bc l key) l.length ((l.map dV).flatten) [.str key,.int .i64 v] st1 with
   |some st2=>(st2.wr k aj off [x']).map λKc=>(.bool true,Kc)
   |none=>none
  |none=>none
noncomputable def oZ:List D->St->Option (D×St)
 |[.ptr k aj off,.str key,.int .i64 v],U=>
  match U.cp k aj with
  |some (_,ct)=>match ct[off]? with
   |some x=>match sK U x with
    |some l=>vn k aj off key v U x l
    |none=>none
   |none=>none
  |none=>none
 |_,_=>none
variable{ds:List D}{U:St}
def vj {r:D×St} (h:oZ ds U=some r):∃k aj off key v ar ct x l,ds=[.ptr k aj off,.str key,.int .i64 v]/\U.cp k aj=some (ar,ct)/\ct[off]?=some x/\sK U x=some l/\vn k aj off key v U x l=some r:=by
 unfold oZ at h
 split at h
 .rename_i k aj off key v
  split at h
  .rename_i ar ct hm
   split at h
   .rename_i x hx
    split at h
    .rename_i l hl;exact⟨k,aj,off,key,v,ar,ct,x,l,rfl,hm,hx,hl,h⟩
    .cases h
   .cases h
  .cases h
 .cases h
variable{x:D}
def jM {l:List gI} (h:sK U x=some l):(x=.nul/\l=[])\/∃kl vl ol c,x=.win kl vl ol l.length 2/\U.cp kl vl=some (true,c)/\ol+l.length*2<=c.length/\l.length<1000000/\(c.drop ol).take (l.length*2)=(l.map dV).flatten:=by
 unfold sK at h
 split at h
 .cases h;exact .inl ⟨rfl,rfl⟩
 .rename_i kl vl ol len
  split at h
  .rename_i c hm
   split at h
   .rename_i hc;have hs:=vB h
    have hlen:l.length=len:=by
     have h1:=congrArg List.length hs
     have X:∀l:List gI,((l.map dV).flatten).length=l.length*2:=by
      intro l
      induction l with
      |nil=>rfl
      |cons a l ih=>simp only[Q6,Ψ,ι,ih,δ];show 2+_=_;omega
     rw[X] at h1;simp only[ρ,ν] at h1;omega
    subst hlen;exact .inr ⟨kl,vl,ol,c,rfl,hm,hc.1,hc.2,hs⟩
   .cases h
  .cases h
 .cases h
def Fe {α:Type} (a:Array α) (b:Nat) (x y:α) (f:α->α) (h:a[b]?=some x) (hf:f x=y):a.modify b f=a.setIfInBounds b y:=by
 apply τ;intro j;rw[Array.getElem?_modify]
 by_cases hj:b=j
 .subst hj;have F:b<a.size:=(η.1 h).1;rw[if_pos rfl,h,γ F,<-hf];rfl
 .rw[if_neg hj,ζ hj]
def Kl {α:Type} (a:Array α) (b:Nat) (x:α) (h:a[b]?=some x):a.setIfInBounds b x=a:=by
 apply τ;intro j
 by_cases hj:b=j
 .subst hj;rw[γ (η.1 h).1,h]
 .rw[ζ hj]
theorem vv {α:Type} (a:Array α) (b:Nat) (x y:α):(a.setIfInBounds b x).setIfInBounds b y=a.setIfInBounds b y:=by
 apply τ;intro j
 by_cases hj:b=j
 .subst hj
  by_cases F:b<a.size
  .rw[γ (by simpa using F),γ F]
  .simp[Array.getElem?_eq_none (Nat.le_of_not_lt F)]
 .rw[ζ hj,ζ hj,ζ hj]
variable{w:World}{b:Nat}
def Eo {o:Nat} {cs:Array Value} {el:TypeId} {I:Nat×Nat} (h:w.heap[b]?=some (.cells cs el I)) (v:Value):w.setCell ⟨b,o,none⟩ v=wput w b (.cells (cs.setIfInBounds o v) el I):=by
 unfold World.setCell wput;rw[Fe _ _ _ (.cells (cs.setIfInBounds o v) el I) _ h rfl]
def ig {b:Nat} {el:TypeId} {I:Nat×Nat}:∀(vs:List Value) (o:Nat) (w:World) (cs:Array Value),w.heap[b]?=some (.cells cs el I)->w.setCells b o vs=wput w b (.cells (ic cs o vs) el I)
 |[],o,w,cs,h=>by
  show w={w with heap:=_};rw[show ic cs o []=cs from rfl,Kl _ _ _ h]
 |v::vs,o,w,cs,h=>by
  have F:b<w.heap.size:=(η.1 h).1;rw[Q4,Eo h,ig vs (o+1) _ (cs.setIfInBounds o v) (by simp only[wput];rw[γ F])];show({w with heap:=_}:World)=_;simp only[wput,vv,ic]
def Oy {KB:World} {af:Array Value} {el:TypeId} (vs us:List Value) (o p:Nat):((((KB.alloc (.cells af el)).drew.setCells KB.heap.size o vs).drew).setCells KB.heap.size p us).heap=KB.heap.push (.cells (ic (ic af o vs) p us) el (0,0)):=by
 have h0:(KB.alloc (.cells af el)).drew.heap[KB.heap.size]?=some (.cells af el (0,0)):=by
  show(KB.heap.push _)[KB.heap.size]?=_;simp
 rw[ig vs o _ af h0]
 have h1:(wput (KB.alloc (.cells af el)).drew KB.heap.size (.cells (ic af o vs) el (0,0))).drew.heap[KB.heap.size]?=some (.cells (ic af o vs) el (0,0)):=by
  show((KB.heap.push _).setIfInBounds KB.heap.size _)[KB.heap.size]?=_;rw[γ (by simp)]
 rw[ig us p _ _ h1];show(((KB.heap.push _).setIfInBounds KB.heap.size _).setIfInBounds KB.heap.size _)=_;rw[vv];apply τ;intro j
 by_cases hj:KB.heap.size=j
 .subst hj;rw[γ (by simp)];simp
 .rw[ζ hj,χ,χ,if_neg (λe=>hj e.symm),if_neg (λe=>hj e.symm)]
variable{β:Nat->Option (Nat×Nat)}{Z:Nat->Prop}{k aj off base:Nat}
def JS {R:St} (h:iD w U β Z) {us:List Value} (hu:LR w (U.x β Z) ds us) (hw:U.wr k aj off ds=some R) (F:β k=some (b,base)):
  Nx w U β Z (w.setCells b (base+off) us) R β Z:=by
 obtain⟨w',h1,β',X,rfl⟩:=BK (P:=Tryz.prog) h hu hw F (.inr rfl);unfold St.wr at hw
 split at hw
 .rename_i a c hm
  split at hw
  .rename_i hc;obtain⟨cs,el,I,r1,r2,r3,r4⟩:=h.row hm F
   have h3:=run_storeCells_cells (P:=Tryz.prog) b (base+off) us 0 w (λj hj=>by
    simp only[κ,r1]
    rw[μ (by have:=hu.len;omega)];rfl) (λj hj=>by
    simp only[ς,r1];have:=r3.2 (base+off+0+j) (by have:=hu.len;omega)
    simpa using this) hu.one
   rw[h1] at h3;cases h3;exact X
  .cases hw
 .cases hw
def zH {x:h2} {vr:Nat} {v:Value} (h:VR w x (.ptr k vr off) v):∃a,v=.pointer (some a)/\(∃p,x.β k=some p)/\(x.aj k=some vr->∃b base,x.β k=some (b,base)/\a=⟨b,base+off,none⟩):=by
 cases h with
 |im _ _ h=>cases h
 |ptr _ _ _ a A hm h=>exact⟨a,rfl,A,h⟩
def En:∀(cs c:List D),cs.length=c.length->setMany c 0 cs=cs:=λcs c h=>by
 apply List.ext_getElem?;intro j;rw[je cs c 0 j (by omega)]
 split
 .rfl
 .rw[Θ (by omega),Θ (by omega)]
variable{ar:Bool}{c:List D}
def rk {bx:mc} (h:U.cp k aj=some (ar,c)):(U.push bx).cp k aj=some (ar,c)/\k<U.bs.length:=by
 have F:=(bE h).1;have A:k<U.bs.length:=(θ.1 F).1;refine⟨?_,A⟩;unfold St.cp St.push;simp only;rw[υ A];exact h
theorem JV:dE.cF 138=some (.slice 142):=by kernel_rfl
def G_:∃i,dE.info 142=some i/\i.size=2/\1<=i.bytes:=by
 have h:(match dE.info 142 with|some i=>i.size==2 &&decide (1<=i.bytes)|none=>false)=true:=by kernel_rfl
 cases hi:dE.info 142 with
 |none=>rw[hi] at h;cases h
 |some i=>rw[hi] at h;simp only[Bool.and_eq_true,beq_iff_eq,decide_eq_true_eq] at h;exact⟨i,rfl,h⟩
variable{kl vl ol len:Nat}
def xj {st1:St} {x':D} {y z:D} (h:dK dE [138,138] x (.win U.bs.length 0 0 1 2) (U.push (.mem 0 true [y,z]))=some (x',st1)) (hx:x=.win kl vl ol len 2) (hm:U.cp kl vl=some (true,c)):
  ol+len*2<=c.length/\x'=.win kl (vl+1) 0 (len+1) 2/\(U.push (.mem 0 true [y,z])).ro<=kl/\st1={(U.push (.mem 0 true [y,z])) with bs:=(U.push (.mem 0 true [y,z])).bs.set kl (.mem (vl+1) true ((c.take (ol+len*2)).drop ol++[y,z]))}:=by
 subst hx
 have jI:oT (U.push (.mem 0 true [y,z])) (.win U.bs.length 0 0 1 2)=some (1,[y,z]):=by
  have:(U.push (.mem 0 true [y,z])).cp U.bs.length 0=some (true,[y,z]):=by
   unfold St.cp St.push;simp
  simp[oT,this]
 obtain⟨i,hi,hs,F⟩:=G_;unfold dK at h;simp only[JV] at h
 split at h
 .cases h
 .rename_i L0;obtain⟨i',uw,h⟩:=ξ.1 h;rw[hi] at uw;cases uw;obtain⟨z',hz,h⟩:=ξ.1 h;rw[jI] at h;simp only[Φ] at h
  split at h
  .cases h
  .rename_i I9;rw[(rk hm).1] at h;simp only[hs] at h
   split at h
   .cases h
   .rename_i hsz;simp only[not_or,Nat.not_lt] at hsz
    split at h
    .rename_i h1;cases h1
    .split at h
     .rename_i hc;cases h;exact⟨hsz.2,rfl,jL hc.2,rfl⟩
     .cases h
variable{ct:List D}
def vp (h:iD w U β Z) (hm:U.cp k aj=some (ar,ct)) (hx:ct[off]?=some (.win kl vl ol len 2)) (mG:U.cp kl vl=some (true,c)) (gS:ol+len*2<=c.length) (hlen:1<=len) {bt:Nat} (F:β k=some (bt,base)) (hne:kl≠k):
  ∃bl dQ cap cl el I,β kl=some (bl,dQ)/\w.heap[bl]?=some (.cells cl el I)/\dQ+c.length<=cl.size/\qK cl.size I/\(∀(j:Nat) d,c[j]?=some d->∃aa,cl[dQ+j]?=some aa/\aa.oneCell'=true/\VR w (U.x β Z) d aa)/\
   w.cell? ⟨bt,base+off,none⟩=some (.slice (some ⟨bl,dQ+ol,none⟩) len cap)/\w.frozen? ⟨bt,base+off,none⟩=false/\bt≠bl/\len<=cap/\dQ+ol+cap*2<=cl.size:=by
 obtain⟨cs,T5,JL,t1,t2,t3,t4⟩:=h.row hm F;obtain⟨aa,u1,u2,u3⟩:=t4 off _ hx;obtain⟨a,cap,rfl,hc,⟨p,B⟩,_,hat⟩:=ec u3;obtain⟨bl,dQ,sz,hbl,Ee,xJ⟩:=hat (bE mG).2;obtain⟨rfl,hsz⟩:=xJ.resolve_left (by omega);have hbl:β kl=some (bl,dQ):=hbl;obtain⟨cl,el,I,l1,l2,l3,l4⟩:=h.row mG hbl;have hsz2:sz=cl.size:=by simp only[cH,l1] at Ee;cases Ee;rfl
 have Sa:off<ct.length:=(θ.1 hx).1;refine⟨bl,dQ,cap,cl,el,I,hbl,l1,l2,l3,l4,?_,?_,?_,hc,by omega⟩
 .simp only[κ,t1];simpa using u1
 .simp only[ς,t1];have:=t3.2 (base+off) (by omega)
  simpa using this
 .intro e;subst e;exact hne (h.inj _ _ _ _ _ hbl F)
def ru {w1:World} {β1:Nat->Option (Nat×Nat)} {Z1:Nat->Prop} (hn:Nx w U β Z w1 U β1 Z1) (hm:U.cp k aj=some (ar,ct)) (F:β k=some (b,base)):β1 k=some (b,base):=
 (hn.keeps.at_ k aj (bE hm).2 (bE hm).2 b base F).1
section
variable(hv:dE.Ok Tryz.prog/\dE.fu/\gh Tryz.prog dE (dj dE)) {w:World} {U:St} {β:Nat->Option (Nat×Nat)} {Z:Nat->Prop} (dB:iD w U β Z) {k aj off:Nat} {key:List UInt8} {u0:Value} (h0:VR w (U.x β Z) (.ptr k aj off) u0) {i:Nat} {b:Bool} (hf:Ev dE 68 [.ptr k aj off,.str key] U (.tup [.int .i64 (i:Nat),.bool b]) U)
include hv dB h0 hf
def qz:Calls Tryz.prog 68 #[u0,.string ⟨key.toArray⟩] w λe w1=>e=.returned (.tuple #[.int .i64 (i:Nat),.bool b])/\∃β1 Z1,Nx w U β Z w1 U β1 Z1:=by
 unfold Ev at hf;obtain⟨N,hN⟩:=hf;refine((mN hv.1 hv.2.1 hv.2.2 N).calls 68 _ U _ U (hN N (Nat.le_refl _)) w β Z [u0,.string ⟨key.toArray⟩] dB rfl λj c v hc Hf=>?_).mono λe w1=>?_
 .match j,hc,Hf with
  |0,hc,Hf=>cases hc;cases Hf;exact h0
  |1,hc,Hf=>cases hc;cases Hf;exact .im _ _ (.str _)
 .rintro⟨v,β1,Z1,rfl,hn,ZX,_⟩;obtain⟨vs,rfl,hl,hvs⟩:=vh ZX
  match vs,hl with
  |[v0,v1],_=>
   have e0:=de (hvs 0 _ v0 rfl rfl);have e1:=eL (hvs 1 _ v1 rfl rfl);subst e0 e1;exact⟨rfl,β1,Z1,hn⟩
end
variable{w:World}{x:h2}
def pW (key:List UInt8) (v:Int):LR w x [.str key,.int .i64 v] [.string ⟨key.toArray⟩,.int .i64 v]:=by
 refine⟨rfl,?_,?_⟩
 .intro aa hu;simp only[Q7,Q2,or_false] at hu;rcases hu with rfl|rfl<;>rfl
 .intro i c aa hc hu
  match i,hc,hu with
  |0,hc,hu=>cases hc;cases hu;exact .im _ _ (.str _)
  |1,hc,hu=>cases hc;cases hu;exact .im _ _ (.int _ _)
  |i+2,hc,hu=>simp at hc
def Fl {d:D} {aa:Value} (h:VR w x d aa) (h1:aa.oneCell'=true):LR w x [d] [aa]:=by
 refine⟨rfl,?_,?_⟩
 .intro y hy;simp only[Q7,Q2,or_false] at hy;rw[hy];exact h1
 .intro i c y hc hy
  match i,hc,hy with
  |0,hc,hy=>cases hc;cases hy;exact h
  |i+1,hc,hy=>simp at hc
section
variable(hv:dE.Ok Tryz.prog/\dE.fu/\gh Tryz.prog dE (dj dE)) {w:World} {U R:St} {β:Nat->Option (Nat×Nat)} {Z:Nat->Prop} (dB:iD w U β Z) {k aj off:Nat} {key:List UInt8} {v:Int} {u0:Value} (h0:VR w (U.x β Z) (.ptr k aj off) u0) {l:List gI} {x:D} {ar:Bool} {ct:List D} (hm:U.cp k aj=some (ar,ct)) (hx:ct[off]?=some x) (ht:sK U x=some l)
 (hf:Ev dE 68 [.ptr k aj off,.str key] U (.tup [.int .i64 (bc l key:Nat),.bool (ck l key)]) U) (A:TQ k x≠k)
include hv dB h0 hm hx ht hf A
def Af (wA:ck l key=true) (hw:NV x (bc l key) v U=some R):Calls Tryz.prog 40 #[u0,.string ⟨key.toArray⟩,.int .i64 v] w λe w'=>e=.returned (.bool false)/\∃β' Z',Nx w U β Z w' R β' Z':=by
 obtain⟨a,rfl,_,hat⟩:=zH h0;obtain⟨bt,base,F,rfl⟩:=hat (bE hm).2;have F:β k=some (bt,base):=F
 have hi:bc l key<l.length:=by
  unfold ck at wA;simp only[Bool.and_eq_true,decide_eq_true_eq] at wA;exact wA.1
 rcases jM ht with⟨rfl,rfl⟩|⟨kl,vl,ol,c,rfl,mG,gS,hlen,rL⟩
 .cases hw
 have hne:kl≠k:=A;obtain⟨bl,dQ,cap,cl,el,I,hbl,_⟩:=vp dB hm hx mG gS (by omega) F hne;have hw:U.wr kl vl (ol+bc l key*2+1) [.int .i64 v]=some R:=hw;rw[wA] at hf;refine(set_found bt (base+off) bl (dQ+ol) l.length (bc l key) ⟨key.toArray⟩ v w (qz hv dB h0 hf) hi (by omega) (λw1 hR=>?_)).mono λe w'=>?_
 .obtain⟨β1,Z1,hn⟩:=hR;have hb1:=ru hn hm F;obtain⟨bl',M_,cap,cl,el,I,I',l1,l2,l3,l4,l5,l6,l7,l8,l9⟩:=vp hn.sim hm hx mG gS (by omega) hb1 hne;have:=ru hn mG hbl;rw[I'] at this;cases this;refine⟨cap,_,l5,l8,by simp only[κ,l1];rw[if_neg (by simp)];exact μ (by omega),?_⟩;simp only[ς,l1];have:=l3.2 (dQ+ol+bc l key*2+1) (by omega)
  simpa using this
 .rintro⟨rfl,w1,⟨β1,Z1,hn⟩,rfl⟩;have h9:=JS hn.sim (Fl (w:=w1) (x:=U.x β1 Z1) (.im _ _ (.int .i64 v)) rfl) hw (ru hn mG hbl);have e:dQ+(ol+bc l key*2+1)=dQ+ol+bc l key*2+1:=by omega
  rw[e] at h9;exact⟨rfl,β1,Z1,hn.trans h9⟩
end
variable{n i:Nat}
def tt {β:Nat->Option (Nat×Nat)} {b:Nat} (h:i≠n):eG β n b i=β i:=by unfold eG;rw[if_neg h]
def B_ {U:St} {k aj:Nat} {ar:Bool} {c cs:List D} {R:St} (hm:U.cp k aj=some (ar,c)) (hl:cs.length=c.length) (h:U.wr k aj 0 cs=some R):R={U with bs:=U.bs.set k (.mem aj ar cs)}:=by
 unfold St.wr at h;rw[hm] at h;simp only at h
 split at h
 .cases h;rw[En cs c hl]
 .cases h
def Db (l ys:List D) (h:n<=l.length):(AR l n ys).length=l.length+ys.length:=by
 unfold AR;simp only[ι,ρ,ν];omega
def Kv (l:List gI):((l.map dV).flatten).length=l.length*2:=by
 induction l with
 |nil=>rfl
 |cons a l ih=>simp only[Q6,Ψ,ι,ih,δ];show 2+_=_;omega
def G9 {af:D->Value->Prop} {oV:List D} {cs:List Value} {y1 y2:D} {v1 v2:Value} {cl:Array Value} {o:Nat} (JE:oV.length=n*2) (hcl:cs.length=n*2) (hi:i<n) (gS:o+(n+1)*2<=cl.size) (hr:∀(j:Nat) d,oV[j]?=some d->∃aa,cs[j]?=some aa/\aa.oneCell'=true/\af d aa) (A4:∀(j:Nat) aa,(cs.take (i*2))[j]?=some aa->cl[o+j]?=some aa) (h1:af y1 v1/\v1.oneCell'=true) (X:af y2 v2/\v2.oneCell'=true) {p q:Nat} {hk hp:List Value} {h2:Array Value} (hX:(p=o+(i+1)*2/\hk=cs.drop (i*2)/\q=o+i*2/\hp=[v1,v2])\/(p=o+i*2/\hk=[v1,v2]/\q=o+(i+1)*2/\hp=cs.drop (i*2))) (hXe:h2=ic (ic cl p hk) q hp):
  ∀(j:Nat) d,(AR oV (i*2) [y1,y2])[j]?=some d->∃aa,h2[o+j]?=some aa/\aa.oneCell'=true/\af d aa:=by
 intro j d hd
 have hA:p+hk.length<=cl.size:=by rcases hX with⟨rfl,rfl,rfl,rfl⟩|⟨rfl,rfl,rfl,rfl⟩<;>simp only[ν,δ,ε]<;>omega
 have hB:q+hp.length<=(ic cl p hk).size:=by rw[gf];rcases hX with⟨rfl,rfl,rfl,rfl⟩|⟨rfl,rfl,rfl,rfl⟩<;>simp only[ν,δ,ε]<;>omega
 have hget:h2[o+j]?=if q<=o+j/\o+j<q+hp.length then hp[o+j-q]? else if p<=o+j/\o+j<p+hk.length then hk[o+j-p]? else cl[o+j]?:=by
  rw[hXe,nD _ _ _ _ hB,nD _ _ _ _ hA]
 have hdl:(cs.drop (i*2)).length=(n-i)*2:=by rw[ν];omega
 have hjl:j<(n+1)*2:=by
  have:=(θ.1 hd).1;rw[Db _ _ (by omega)] at this;simp only[δ,ε] at this;omega
 unfold AR at hd
 by_cases c1:j<i*2
 .rw[υ (by rw[ρ];omega),π,if_pos c1] at hd;obtain⟨aa,u1,u2,u3⟩:=hr j d hd;refine⟨aa,?_,u2,u3⟩;rw[hget];have h3:=A4 j aa (by rw[π,if_pos c1];exact u1)
  rcases hX with⟨rfl,rfl,rfl,rfl⟩|⟨rfl,rfl,rfl,rfl⟩
  .rw[if_neg (by omega),if_neg (by omega)];exact h3
  .rw[if_neg (by omega),if_neg (by omega)];exact h3
 .rw[ω (by rw[ρ];omega),ρ,Nat.min_eq_left (by omega)] at hd
  by_cases c2:j<(i+1)*2
  .rw[υ (by simp only[δ,ε];omega)] at hd
   have hin:∃aa,([v1,v2]:List Value)[j-i*2]?=some aa/\aa.oneCell'=true/\af d aa:=by
    have:j-i*2=0\/j-i*2=1:=by omega
    rcases this with e|e
    .rw[e] at hd|-;cases hd;exact⟨v1,rfl,h1.2,h1.1⟩
    .rw[e] at hd|-;cases hd;exact⟨v2,rfl,X.2,X.1⟩
   obtain⟨aa,u1,u2,u3⟩:=hin;refine⟨aa,?_,u2,u3⟩;rw[hget]
   rcases hX with⟨rfl,rfl,rfl,rfl⟩|⟨rfl,rfl,rfl,rfl⟩
   .rw[if_pos (by simp only[δ,ε];omega),<-u1];congr 1;omega
   .rw[if_neg (by omega),if_pos (by simp only[δ,ε];omega),<-u1];congr 1;omega
  .rw[ω (by simp only[δ,ε];omega)] at hd;simp only[δ,ε,ο] at hd;obtain⟨aa,u1,u2,u3⟩:=hr _ d hd;refine⟨aa,?_,u2,u3⟩;rw[hget]
   rcases hX with⟨rfl,rfl,rfl,rfl⟩|⟨rfl,rfl,rfl,rfl⟩
   .rw[if_neg (by simp only[δ,ε];omega),if_pos (by omega),<-u1,ο];congr 1;omega
   .rw[if_pos (by omega),<-u1,ο];congr 1;omega
section
variable(hv:dE.Ok Tryz.prog/\dE.fu/\gh Tryz.prog dE (dj dE)) {w:World} {U st1 st2 Kc:St} {β:Nat->Option (Nat×Nat)} {Z:Nat->Prop} (dB:iD w U β Z) {k aj off:Nat} {key:List UInt8} {v:Int} {u0:Value} (h0:VR w (U.x β Z) (.ptr k aj off) u0) {l:List gI} {x x':D} {ar:Bool} {ct:List D} (hm:U.cp k aj=some (ar,ct)) (hx:ct[off]?=some x) (ht:sK U x=some l)
 (hf:Ev dE 68 [.ptr k aj off,.str key] U (.tup [.int .i64 (bc l key:Nat),.bool (ck l key)]) U) (A:TQ k x≠k)
include hv dB h0 hm hx ht hf A
def EE (wA:ck l key=false) (hi:bc l key<l.length) (ha:dK dE [138,138] x (.win U.bs.length 0 0 1 2) (U.push (.mem 0 true [.str key,.int .i64 v]))=some (x',st1)) (B:Aq x' (bc l key) l.length ((l.map dV).flatten) [.str key,.int .i64 v] st1=some st2) (hw:st2.wr k aj off [x']=some Kc):
  Calls Tryz.prog 40 #[u0,.string ⟨key.toArray⟩,.int .i64 v] w λe w'=>e=.returned (.bool true)/\∃β' Z',Nx w U β Z w' Kc β' Z':=by
 obtain⟨a,rfl,_,hat⟩:=zH h0;obtain⟨bt,base,F,rfl⟩:=hat (bE hm).2;have F:β k=some (bt,base):=F
 rcases jM ht with⟨rfl,rfl⟩|⟨kl,vl,ol,c,rfl,mG,gS,hlen,rL⟩
 .simp at hi
 have hne:kl≠k:=A;obtain⟨bl,dQ,_,_,_,_,hbl,_⟩:=vp dB hm hx mG gS (by omega) F hne;have O8:=rk (bx:=.mem 0 true [.str key,.int .i64 v]) mG;have YK:=rk (bx:=.mem 0 true [.str key,.int .i64 v]) hm;obtain⟨_,rfl,fx,OV⟩:=xj ha rfl mG;have ZU:(c.take (ol+l.length*2)).drop ol=(l.map dV).flatten:=by rw[List.drop_take,Nat.add_sub_cancel_left];exact rL
 rw[ZU] at OV;have ma:=Kv l;generalize hold:(l.map dV).flatten=oV at*;have hil:=Db oV [.str key,.int .i64 v] (n:=bc l key*2) (by omega);simp only[δ,ε] at hil
 have RL:st2={(U.push (.mem 0 true [.str key,.int .i64 v])) with bs:=(U.push (.mem 0 true [.str key,.int .i64 v])).bs.set kl (.mem (vl+1) true (AR oV (bc l key*2) [.str key,.int .i64 v]))}:=by
  unfold Aq at B;rw[if_pos hi] at B;have Wa:kl<(U.push (.mem 0 true [.str key,.int .i64 v])).bs.length:=by simp only[St.push,ι,δ,ε];omega
  have wF:st1.cp kl (vl+1)=some (true,oV++[.str key,.int .i64 v]):=by
   rw[OV];unfold St.cp;simp only;rw[List.getElem?_set_self Wa];simp
  have:=B_ wF (by rw[hil,ι];rfl) B;rw[this,OV];simp only[List.set_set]
 clear OV B ha;generalize hI:AR oV (bc l key*2) [.str key,.int .i64 v]=fr at*;rw[wA] at hf;generalize bc l key=i at*;generalize hn:l.length=n at*
 have hR:∀w1,(∃β1 Z1,Nx w U β Z w1 U β1 Z1)->∃c cs,AtTab bt (base+off) bl (dQ+ol) n w1 c cs:=by
  rintro w1 ⟨β1,Z1,A2⟩;obtain⟨bl',M_,cap,cl,el,I,I',l1,l2,l3,l4,l5,l6,l7,l8,l9⟩:=vp A2.sim hm hx mG gS (by omega) (ru A2 hm F) hne;have:=ru A2 mG hbl;rw[I'] at this;cases this
  have hcs:∀(j:Nat) aa,((cl.toList.drop (dQ+ol)).take (n*2))[j]?=some aa->j<n*2/\cl[dQ+ol+j]?=some aa:=λj aa hj=>by
   rw[π] at hj
   split at hj
   .rw[ο] at hj;exact⟨by assumption,by simpa using hj⟩
   .cases hj
  refine⟨cap,(cl.toList.drop (dQ+ol)).take (n*2),l5,l6,l7,l8,by simp;omega,?_,?_,λhroom=>⟨?_,?_,el,cl.size,by simp only[World.shape?,l1],by omega⟩⟩
  .intro aa hu;obtain⟨j,hj⟩:=List.getElem?_of_mem hu;obtain⟨h1,X⟩:=hcs j aa hj;obtain⟨u',h3,h4,_⟩:=l4 (ol+j) _ (Γ (by omega));rw[<-Nat.add_assoc,X] at h3;cases h3;exact h4
  .intro j aa hj;simp only[κ,l1];rw[if_neg (by simp)];exact(hcs j aa hj).2
  .intro j hj;simp only[κ,l1];rw[if_neg (by simp),μ (by omega)];rfl
  .intro j hj;simp only[ς,l1];have:=l3.2 (dQ+ol+j) (by omega)
   simpa using this
 refine(ts_mid bt (base+off) bl (dQ+ol) n i ⟨key.toArray⟩ v w (qz hv dB h0 hf) hi (by omega) hR).mono λe w'=>?_;rintro⟨rfl,w1,cap,cs,⟨β1,Z1,A2⟩,hAt,W2,hW2,WG⟩;obtain⟨a1,a2,a3,a4,a5,a6,a7,a8⟩:=hAt;obtain⟨bl',M_,Tc,cl,el,I,I',l1,l2,l3,l4,l5,l6,l7,l8,l9⟩:=vp A2.sim hm hx mG gS (by omega) (ru A2 hm F) hne;have:=ru A2 mG hbl;rw[I'] at this;cases this;rw[l5] at a1;simp only[ψ.injEq,Ξ.injEq,true_and] at a1;subst a1;have Ph:=ru A2 hm F
 have VD:=Nx.jX (w':=W2) A2.sim true [.str key,.int .i64 v] #[.string ⟨key.toArray⟩,.int .i64 v] 142 (0,0) (by rw[hW2];rfl) (by rw[hW2];rfl) (by rw[hW2];rfl) (by rw[hW2];rfl) (by simp) (qK.zero _) (λj d hd=>by
  obtain⟨aa,u1,u2,u3⟩:=(pW (w:=w1) (x:=U.x β1 Z1) key v).at_ hd
  exact⟨aa,by simpa using u1,u2,u3⟩)
 obtain⟨Ny,_,_,_⟩:=VD;have V':eG β1 U.bs.length w1.heap.size kl=some (bl,dQ):=by rw[tt (by have:=O8.2;omega)];exact I'
 have iE:eG β1 U.bs.length w1.heap.size k=some (bt,base):=by rw[tt (by have:=YK.2;omega)];exact Ph
 generalize eG β1 U.bs.length w1.heap.size=β2 at*;have aer:bl<w1.heap.size:=(η.1 l1).1
 have WU:W2.heap[bl]?=some (.cells cl el I):=by
  rw[hW2];show(w1.heap.push _)[bl]?=_;rw[χ,if_neg (by omega)];exact l1
 have hrel:∀(j:Nat) d,oV[j]?=some d->∃aa,cs[j]?=some aa/\aa.oneCell'=true/\VR W2 ((U.push (.mem 0 true [.str key,.int .i64 v])).x β2 Z1) d aa:=by
  intro j d hd;have hjl:j<n*2:=by have:=(θ.1 hd).1;omega
  rw[<-rL,π,if_pos hjl,ο] at hd;obtain⟨aa,u1,u2,u3⟩:=l4 _ _ hd;refine⟨aa,?_,u2,u3.mono Ny.keeps⟩;have h1:cs[j]?=some (cs[j]'(by omega)):=Γ _;have X:=a7 j _ h1;simp only[κ,l1] at X;rw[if_neg (by simp)] at X;rw[<-Nat.add_assoc] at u1;rw[u1] at X;rw[h1,X]
 have hnew:=pW (w:=W2) (x:=(U.push (.mem 0 true [.str key,.int .i64 v])).x β2 Z1) key v;have hy1:=hnew.rel 0 _ _ rfl rfl;have wv:=hnew.rel 1 _ _ rfl rfl;have V_:kl<(U.push (.mem 0 true [.str key,.int .i64 v])).bs.length:=by have:=O8.2;simp only[St.push,ι,δ,ε];omega
 have fin:∀(W3:World) (hp hH Ju sz:Nat),Nx W2 (U.push (.mem 0 true [.str key,.int .i64 v])) β2 Z1 W3 st2 (λj=>if j=kl then some (hp,hH) else β2 j) Z1->cH W3 hp=some sz->n+1<=Ju->hH+Ju*2<=sz->
   ∃β' Z',Nx w U β Z (W3.setCell ⟨bt,base+off,none⟩ (.slice (some ⟨hp,hH,none⟩) (n+1) Ju)) Kc β' Z':=by
  intro W3 hp hH Ju sz h3 Ee BD hsz
  have ZX:VR W3 (st2.x (λj=>if j=kl then some (hp,hH) else β2 j) Z1) (.win kl (vl+1) 0 (n+1) 2) (.slice (some ⟨hp,hH,none⟩) (n+1) Ju):=by
   refine .win kl (vl+1) 0 (n+1) 2 _ Ju BD ⟨(hp,hH),by simp[St.x]⟩ (λq hq=>?_) λ_=>⟨hp,hH,sz,by simp[St.x],Ee,.inr ⟨rfl,by omega⟩⟩
   rw[RL] at hq;simp[St.x,St.aj,V_,ej] at hq;omega
  have h9:=JS h3.sim (Fl ZX rfl) hw (b:=bt) (base:=base) (by simp only[if_neg (λe:k=kl=>hne e.symm)];exact iE);exact⟨_,_,A2.trans (Ny.trans (h3.trans h9))⟩
 rcases WG with⟨hroom,rfl⟩|⟨zQ,ROW,hG1,hG2,hG3,rfl⟩
 .have Mg:W2.drew.heap[bl]?=some (.cells cl el I):=WU;have aeq:(cs.drop (i*2)).length=(n-i)*2:=by rw[ν];omega
  rw[ig _ _ _ _ Mg]
  have hput:(wput W2.drew bl (.cells (ic cl (dQ+ol+(i+1)*2) (cs.drop (i*2))) el I)).heap[bl]?=some (.cells (ic cl (dQ+ol+(i+1)*2) (cs.drop (i*2))) el I):=by
   simp only[wput];rw[γ];exact(η.1 Mg).1
  rw[ig _ _ _ _ hput]
  have yW:=G9 (af:=VR W2 ((U.push (.mem 0 true [.str key,.int .i64 v])).x β2 Z1)) (oV:=oV) (cs:=cs) (i:=i) (y1:=.str key) (y2:=.int .i64 v) (v1:=.string ⟨key.toArray⟩) (v2:=.int .i64 v) (cl:=cl) (o:=dQ+ol) (n:=n) (by omega) a5 hi (by omega) hrel (λj aa hj=>by
   rw[π] at hj
   split at hj
   .have X:=a7 j aa hj;simp only[κ,l1] at X;rw[if_neg (by simp)] at X;exact X
   .cases hj) ⟨hy1,rfl⟩ ⟨wv,rfl⟩ (.inl ⟨rfl,rfl,rfl,rfl⟩) rfl
  rw[hI] at yW;generalize hX:ic (ic cl (dQ+ol+(i+1)*2) (cs.drop (i*2))) (dQ+ol+i*2) [.string ⟨key.toArray⟩,.int .i64 v]=h2 at*;have Y2:h2.size=cl.size:=by rw[<-hX,gf,gf]
  have h3:=Nx.write (a':=true) (nz:=vl+1) (c':=fr) (dr:=dQ+ol) Ny.sim O8.1 V' fx (by omega) (λe=>by omega) WU (cs':=h2) Y2 (by omega) yW;rw[<-RL] at h3;have hst:=Nx.still (w':=wput (wput W2.drew bl (.cells (ic cl (dQ+ol+(i+1)*2) (cs.drop (i*2))) el I)) bl (.cells h2 el I)) h3.sim (by simp only[wput,vv];rfl) rfl rfl rfl
  have WI:cH (wput (wput W2.drew bl (.cells (ic cl (dQ+ol+(i+1)*2) (cs.drop (i*2))) el I)) bl (.cells h2 el I)) bl=some cl.size:=by
   simp only[cH,wput];rw[γ (by simp only[Array.size_setIfInBounds];exact(η.1 Mg).1)];simp only[Y2]
  exact⟨rfl,fin _ bl (dQ+ol) Tc cl.size (h3.trans hst) WI hroom (by omega)⟩
 .have hh:=Oy (KB:=W2) (af:=ROW) (el:=142) [.string ⟨key.toArray⟩,.int .i64 v] (cs.drop (i*2)) (i*2) ((i+1)*2)
  have yW:=G9 (af:=VR W2 ((U.push (.mem 0 true [.str key,.int .i64 v])).x β2 Z1)) (oV:=oV) (cs:=cs) (i:=i) (y1:=.str key) (y2:=.int .i64 v) (v1:=.string ⟨key.toArray⟩) (v2:=.int .i64 v) (cl:=ROW) (o:=0) (n:=n) (by omega) a5 hi (by omega) hrel (λj aa hj=>by
   rw[Nat.zero_add];exact hG3 j aa hj) ⟨hy1,rfl⟩ ⟨wv,rfl⟩ (p:=i*2) (q:=(i+1)*2) (.inr ⟨by omega,rfl,by omega,rfl⟩) rfl
  rw[hI] at yW;simp only[Nat.zero_add] at yW;generalize hX:ic (ic ROW (i*2) [.string ⟨key.toArray⟩,.int .i64 v]) ((i+1)*2) (cs.drop (i*2))=h2 at*;have Y2:h2.size=ROW.size:=by rw[<-hX,gf,gf]
  generalize hW3:((W2.alloc (Obj.cells ROW 142)).drew.setCells W2.heap.size (i*2) [Δ ⟨key.toArray⟩,Ω IntKind.i64 v]).drew.setCells W2.heap.size ((i+1)*2) (cs.drop (i*2))=W3 at*
  have R9:W3.os=W2.os/\W3.tape=W2.tape/\W3.output=W2.output:=by
   have eW:∀(vs:List Value) (b o:Nat) (KB:World),(KB.setCells b o vs).os=KB.os/\(KB.setCells b o vs).tape=KB.tape/\(KB.setCells b o vs).output=KB.output:=by
    intro vs
    induction vs with
    |nil=>intro b o KB;exact⟨rfl,rfl,rfl⟩
    |cons x vs ih=>intro b o KB;rw[Q4];exact ih b (o+1) _
   rw[<-hW3];obtain⟨p1,p2,p3⟩:=eW (cs.drop (i*2)) W2.heap.size ((i+1)*2) ((W2.alloc (Obj.cells ROW 142)).drew.setCells W2.heap.size (i*2) [Δ ⟨key.toArray⟩,Ω IntKind.i64 v]).drew;obtain⟨q1,q2,q3⟩:=eW [Δ ⟨key.toArray⟩,Ω IntKind.i64 v] W2.heap.size (i*2) (W2.alloc (Obj.cells ROW 142)).drew;exact⟨p1.trans q1,p2.trans q2,p3.trans q3⟩
  have h3:=Nx.move (w':=W3) (a':=true) (c':=fr) Ny.sim O8.1 V' fx hh R9.1 R9.2.1 R9.2.2 (by omega) yW;rw[<-RL] at h3
  have WI:cH W3 W2.heap.size=some ROW.size:=by
   simp only[cH,hh];simp[Y2]
  exact⟨rfl,fin W3 W2.heap.size 0 zQ ROW.size h3 WI hG1 (by omega)⟩
end
section
variable(hv:dE.Ok Tryz.prog/\dE.fu/\gh Tryz.prog dE (dj dE)) {w:World} {U st1 st2 Kc:St} {β:Nat->Option (Nat×Nat)} {Z:Nat->Prop} (dB:iD w U β Z) {k aj off:Nat} {key:List UInt8} {v:Int} {u0:Value} (h0:VR w (U.x β Z) (.ptr k aj off) u0) {l:List gI} {x x':D} {ar:Bool} {ct:List D} (hm:U.cp k aj=some (ar,ct)) (hx:ct[off]?=some x) (ht:sK U x=some l)
 (hf:Ev dE 68 [.ptr k aj off,.str key] U (.tup [.int .i64 (bc l key:Nat),.bool (ck l key)]) U) (A:TQ k x≠k)
include hv dB h0 hm hx ht hf A
def EF (wA:ck l key=false) (hi:¬bc l key<l.length) (ha:dK dE [138,138] x (.win U.bs.length 0 0 1 2) (U.push (.mem 0 true [.str key,.int .i64 v]))=some (x',st1)) (B:Aq x' (bc l key) l.length ((l.map dV).flatten) [.str key,.int .i64 v] st1=some st2) (hw:st2.wr k aj off [x']=some Kc):
  Calls Tryz.prog 40 #[u0,.string ⟨key.toArray⟩,.int .i64 v] w λe w'=>e=.returned (.bool true)/\∃β' Z',Nx w U β Z w' Kc β' Z':=by
 obtain⟨a,rfl,_,hat⟩:=zH h0;obtain⟨bt,base,F,rfl⟩:=hat (bE hm).2;have F:β k=some (bt,base):=F;have hle:=wV l key;have hil:bc l key=l.length:=by omega
 have hst:st2=st1:=by
  unfold Aq at B;rw[if_neg hi] at B;exact(ψ.inj B).symm
 subst hst;clear B;have YK:=rk (bx:=.mem 0 true [.str key,.int .i64 v]) hm;rw[wA,hil] at hf;clear hi
 have hxn:x=.nul/\l.length=0\/∃kl vl ol,x=.win kl vl ol l.length 2:=by
  rcases jM ht with⟨rfl,rfl⟩|⟨kl,vl,ol,c,rfl,_⟩
  .exact .inl ⟨rfl,rfl⟩
  .exact .inr ⟨kl,vl,ol,rfl⟩
 generalize l.length=n at*
 have run:∀w1 β1 Z1,Nx w U β Z w1 U β1 Z1->∃bs c a m c' w3 β3,w1.cell? ⟨bt,base+off,none⟩=some (.slice bs n c)/\w1.frozen? ⟨bt,base+off,none⟩=false/\n<=c/\(bs=none->n=0)/\
   (Builtin.append_ #[138,138] 138 #[.slice bs n c,.slice (some ⟨w1.heap.size,0,none⟩) 1 1]).run Tryz.prog (w1.alloc (.cells #[.string ⟨key.toArray⟩,.int .i64 v] 142))=.ok (.slice (some a) m c') w3/\
   Nx w U β Z w3 st2 β3 Z1/\β3 k=some (bt,base)/\VR w3 (st2.x β3 Z1) x' (.slice (some a) m c'):=by
  intro w1 β1 Z1 A2;have Ph:=ru A2 hm F;obtain⟨cs,T5,JL,t1,t2,t3,t4⟩:=A2.sim.row hm Ph;obtain⟨aa,u1,u2,u3⟩:=t4 off _ hx;have Sa:off<ct.length:=(θ.1 hx).1
  obtain⟨Ny,p1,p2,p3⟩:=Nx.jX (w':=w1.alloc (.cells #[.string ⟨key.toArray⟩,.int .i64 v] 142)) A2.sim true [.str key,.int .i64 v] #[.string ⟨key.toArray⟩,.int .i64 v] 142 (0,0) rfl rfl rfl rfl (by simp) (qK.zero _) (λj d hd=>by
   obtain⟨aa,u1,u2,u3⟩:=(pW (w:=w1) (x:=U.x β1 Z1) key v).at_ hd
   exact⟨aa,by simpa using u1,u2,u3⟩)
  have iE:eG β1 U.bs.length w1.heap.size k=some (bt,base):=by rw[tt (by have:=YK.2;omega)];exact Ph
  have JD:VR (w1.alloc (.cells #[.string ⟨key.toArray⟩,.int .i64 v] 142)) ((U.push (.mem 0 true [.str key,.int .i64 v])).x (eG β1 U.bs.length w1.heap.size) Z1) (.win U.bs.length 0 0 1 2) (.slice (some ⟨w1.heap.size,0,none⟩) 1 1):=
   lB p2 p3 p1 (Nat.le_refl _) (by simp)
  have hux:∃bs c,aa=.slice bs n c/\n<=c/\(bs=none->n=0):=by
   rcases hxn with⟨rfl,h⟩|⟨kl,vl,ol,rfl⟩
   .exact⟨none,0,by rw[fe u3,h],by omega,λ_=>h⟩
   .obtain⟨a,cap,rfl,hc,_⟩:=ec u3;exact⟨some a,cap,rfl,hc,λh=>by cases h⟩
  obtain⟨bs,c,rfl,Dv,h_⟩:=hux;obtain⟨z,w3,β3,r1,r2,r3⟩:=zw hv.1 (ty:=138) Ny.sim (u3.mono Ny.keeps) JD ha
  have hz:∃a m c',z=.slice (some a) m c'/\True:=by
   rcases hxn with⟨rfl,h⟩|⟨kl,vl,ol,rfl⟩
   .have:∃p q o m s,x'=.win p q o m s:=by
     obtain⟨i,hi,hs,hb1⟩:=G_
     have jI:oT (U.push (.mem 0 true [.str key,.int .i64 v])) (.win U.bs.length 0 0 1 2)=some (1,[.str key,.int .i64 v]):=by
      have:(U.push (.mem 0 true [.str key,.int .i64 v])).cp U.bs.length 0=some (true,[.str key,.int .i64 v]):=by
       unfold St.cp St.push;simp
      simp[oT,this]
     have ha:=ha;unfold dK at ha;simp only[JV] at ha
     split at ha
     .cases ha
     .obtain⟨i',uw,ha⟩:=ξ.1 ha;rw[hi] at uw;cases uw;obtain⟨z',hz,ha⟩:=ξ.1 ha;rw[jI] at ha;simp only[Φ] at ha
      split at ha
      .cases ha
      .split at ha
       .rename_i h1;cases h1
       .split at ha
        .cases ha;exact⟨_,_,_,_,_,rfl⟩
        .cases ha
    obtain⟨p,q,o,m,s,rfl⟩:=this;obtain⟨a,cap,rfl,_⟩:=ec r3;exact⟨a,m,cap,rfl,trivial⟩
   .obtain⟨c9,V6⟩:∃c9,U.cp kl vl=some (true,c9):=by
     rcases jM ht with⟨h,_⟩|⟨kl',vl',ol',c',h,YL,_⟩
     .cases h
     .cases h;exact⟨c',YL⟩
    obtain⟨_,rfl,_,_⟩:=xj ha rfl V6;obtain⟨a,cap,rfl,_⟩:=ec r3;exact⟨a,_,cap,rfl,trivial⟩
  obtain⟨a,m,c',rfl,_⟩:=hz
  have lS:st2.aj k=some aj:=by
   have hw:=hw;unfold St.wr at hw
   split at hw
   .rename_i a c Fy;exact(bE Fy).2
   .cases hw
  have hb3:=(r2.keeps.at_ k aj lS (bE YK.1).2 bt base iE).1;refine⟨bs,c,a,m,c',w3,β3,?_,?_,Dv,h_,r1,A2.trans (Ny.trans r2),hb3,r3⟩
  .simp only[κ,t1];simpa using u1
  .simp only[ς,t1];have:=t3.2 (base+off) (by omega)
   simpa using this
 refine(set_end bt (base+off) n ⟨key.toArray⟩ v w (qz hv dB h0 hf) (λw1 hR=>?_)).mono λe w'=>?_
 .obtain⟨β1,Z1,A2⟩:=hR;obtain⟨bs,c,a,m,c',w3,β3,q1,q2,q3,q4,q5,q6,q7,q8⟩:=run w1 β1 Z1 A2
  obtain⟨a9,c9,V6⟩:∃a9 c9,st2.cp k aj=some (a9,c9)/\off<c9.length:=by
   have hw:=hw;unfold St.wr at hw
   split at hw
   .rename_i a c Fy
    split at hw
    .rename_i hc;simp only[δ,ε] at hc;exact⟨a,c,Fy,by omega⟩
    .cases hw
   .cases hw
  obtain⟨cs,T5,JL,t1,t2,t3,t4⟩:=q6.sim.row V6.1 q7;refine⟨bs,c,a,m,c',w3,q1,q3,q4,q5,⟨_,by simp only[κ,t1];rw[if_neg (by simp)];exact μ (by have:=V6.2;omega)⟩,?_⟩;simp only[ς,t1];have:=t3.2 (base+off) (by have:=V6.2;omega)
  simpa using this
 .rintro⟨rfl,w1,bs,c,a,m,c',w3,⟨β1,Z1,A2⟩,q1,q5,rfl⟩;obtain⟨bs',c2,a2,m2,c3,w4,β3,Zo,_,_,_,Zn,q6,q7,q8⟩:=run w1 β1 Z1 A2;rw[q1] at Zo;simp only[ψ.injEq,Ξ.injEq,true_and] at Zo;obtain⟨rfl,rfl⟩:=Zo;rw[q5] at Zn;simp only[Result.ok.injEq,Ξ.injEq,ψ.injEq] at Zn;obtain⟨⟨rfl,rfl,rfl⟩,rfl⟩:=Zn;exact⟨rfl,β3,Z1,q6.trans (JS q6.sim (Fl q8 rfl) hw q7)⟩
end
def vm (hv:dE.Ok Tryz.prog/\dE.fu/\gh Tryz.prog dE (dj dE)) (hfind:∀(U:St) (k aj off:Nat) (key:List UInt8) (ar:Bool) (ct:List D) (x:D) (l:List gI),U.cp k aj=some (ar,ct)->ct[off]?=some x->sK U x=some l->Ev dE 68 [.ptr k aj off,.str key] U (.tup [.int .i64 (bc l key:Nat),.bool (ck l key)]) U)
  {pv:Pv} (fx:kZ pv 40=false):dx Tryz.prog pv 40 oZ:=by
 have Kd:∀{k aj off:Nat} {key:List UInt8} {v:Int} {U:St} {x:D} {l:List gI} {d:D} {R:St},vn k aj off key v U x l=some (d,R)->TQ k x≠k/\((ck l key=true/\d=.bool false/\NV x (bc l key) v U=some R)\/
   (ck l key=false/\d=.bool true/\∃x' st1 st2,dK dE [138,138] x (.win U.bs.length 0 0 1 2) (U.push (.mem 0 true [.str key,.int .i64 v]))=some (x',st1)/\Aq x' (bc l key) l.length ((l.map dV).flatten) [.str key,.int .i64 v] st1=some st2/\st2.wr k aj off [x']=some R)):=by
  intro k aj off key v U x l d R h;unfold vn at h
  split at h
  .cases h
  .rename_i A;refine⟨A,?_⟩
   split at h
   .rename_i wA;obtain⟨s,h1,X⟩:=φ.1 h;cases X;exact .inl ⟨wA,rfl,h1⟩
   .rename_i wA
    split at h
    .rename_i x' st1 ha
     split at h
     .rename_i st2 B;obtain⟨s,h1,X⟩:=φ.1 h;cases X;exact .inr ⟨by simpa using wA,rfl,x',st1,st2,ha,B,h1⟩
     .cases h
    .cases h
 refine⟨λds U r B=>⟨Tryz.f40,_,Tryz.func40,rfl,by decide⟩,λds U d R B w β Z us dB hle y7=>?_,λds U d R B hr=>(by rw[fx] at hr;cases hr),λds U d R B=>?_⟩
 .obtain⟨k,aj,off,key,v,ar,ct,x,l,rfl,hm,hx,ht,hF⟩:=vj B
  obtain⟨u0,u1,u2,rfl⟩:∃u0 u1 u2,us=[u0,u1,u2]:=by
   match us,hle with
   |[a,b,c],_=>exact⟨a,b,c,rfl⟩
  have h0:=y7 0 _ u0 rfl rfl;have e1:=gJ (y7 1 _ u1 rfl rfl);have e2:=de (y7 2 _ u2 rfl rfl);subst e1 e2;have hf:=hfind U k aj off key ar ct x l hm hx ht;obtain⟨A,⟨wA,rfl,hw⟩|⟨wA,rfl,x',st1,st2,ha,yZ,hw⟩⟩:=Kd hF
  .refine(Af (v:=v) hv dB h0 hm hx ht hf A wA hw).mono λe w'=>?_;rintro⟨rfl,β',Z',hn⟩;exact⟨_,β',Z',rfl,hn,.im _ _ (.bool _),λh=>by rw[fx] at h;cases h⟩
  .by_cases hi:bc l key<l.length
   .refine(EE hv dB h0 hm hx ht hf A wA hi ha yZ hw).mono λe w'=>?_;rintro⟨rfl,β',Z',hn⟩;exact⟨_,β',Z',rfl,hn,.im _ _ (.bool _),λh=>by rw[fx] at h;cases h⟩
   .refine(EF hv dB h0 hm hx ht hf A wA hi ha yZ hw).mono λe w'=>?_;rintro⟨rfl,β',Z',hn⟩;exact⟨_,β',Z',rfl,hn,.im _ _ (.bool _),λh=>by rw[fx] at h;cases h⟩
 .obtain⟨k,aj,off,key,v,ar,ct,x,l,rfl,hm,hx,ht,hF⟩:=vj B;obtain⟨A,⟨wA,rfl,hw⟩|⟨wA,rfl,x',st1,st2,ha,yZ,hw⟩⟩:=Kd hF
  .unfold NV at hw
   split at hw
   .exact kC hw
   .cases hw
  .have g1:eE U (U.push (.mem 0 true [.str key,.int .i64 v])):=eE.push U _;have g2:eE (U.push (.mem 0 true [.str key,.int .i64 v])) st1:=uj ha
   have g3:eE st1 st2:=by
    unfold Aq at yZ
    split at yZ
    .split at yZ
     .exact kC yZ
     .cases yZ
    .cases yZ;exact eE.refl _
   exact g1.trans (g2.trans (g3.trans (kC hw)))
end Go.Proofs.YtappgjdiplibbaaGreat
