/-
 slices.SortFunc on ranges, given to V.
-/
import Derived.Test.YtnleclohocdkaaaVSrt
import Derived.Test.YtnleclohocdkaaaVView
import Derived.Test.YtnleclohocdkaaaVM2
import Derived.KernelRfl
set_option linter.unusedSimpArgs false
set_option linter.unusedVariables false
namespace Go.Proofs.Ytnleclohocdkaaa
open Go.V Go Go.RowKit
def G4:List D→Option (List Rs)
 |[]=>some []
 | .int .i32 a::.int .i32 b::l=>match decide (0≤a),decide (a≤1114111),G4 l with
  |true,true,some r=>if h:0≤a∧a≤1114111 then some (⟨a,b,h.1,h.2⟩::r) else none
  |_,_,_=>none
 |_=>none
def eT:List Rs→List D
 |[]=>[]
 |x::l=>.int .i32 x.lo::.int .i32 x.hi::eT l
theorem zK:∀l:List Rs,G4 (eT l)=some l
 |[]=>rfl
 |x::l=>by simp[eT,G4,zK l,x.h0,x.h1]
theorem vI:∀{c:List D} {l:List Rs},G4 c=some l→c=eT l
 |[],l,h=>by cases h;rfl
 |[_],l,h=>by
  unfold G4 at h
  split at h
  ·rename_i he;cases he
  ·rename_i he;cases he
  ·cases h
 |d::e::c,l,h=>by
  unfold G4 at h
  split at h
  ·rename_i he;cases he
  ·rename_i a b m he;cases he
   split at h
   ·rename_i r h1 h2 h3
    split at h
    ·cases h;rw[vI h3];rfl
    ·cases h
   ·cases h
  ·cases h
theorem mF:∀l:List Rs,(eT l).length=2*l.length
 |[]=>rfl
 |x::l=>by simp[eT,mF l];omega
theorem rB:∀(l:List Rs) (i:Nat) x,l[i]?=some x→(eT l)[2*i]?=some (.int .i32 x.lo)∧(eT l)[2*i+1]?=some (.int .i32 x.hi)
 |[],i,x,h=>by simp at h
 |y::l,0,x,h=>by simp at h;subst h;exact⟨rfl,rfl⟩
 |y::l,i+1,x,h=>by
  have:=rB l i x (by simpa using h)
  simpa[eT,show 2*(i+1)=2*i+1+1 by omega] using this
theorem BU (l:List Rs) (j:Nat) (hj:j<2*l.length):∃x,l[j/2]?=some x∧(eT l)[j]?=some (.int .i32 (if j %2=0 then x.lo else x.hi)):=by
 refine⟨l[j/2]'(by omega),List.getElem?_eq_getElem _,?_⟩;obtain⟨h1,h2⟩:=rB l (j/2) _ (List.getElem?_eq_getElem (by omega))
 rcases Nat.mod_two_eq_zero_or_one j with h|h
 ·rw[if_pos h,←h1];congr 1;omega
 ·rw[if_neg (by omega),←h2];congr 1;omega
theorem tu:∀l:List Rs,refs (eT l)=0
 |[]=>rfl
 |x::l=>by simp[eT,refs,D.ref,tu l]
noncomputable def GZ (st:St) (k aA off len:Nat) (l:List Rs):Option (D×St):=
 match decide (l.length=len∧1≤len∧len<1099511627776) with
 |true=>match st.wr k aA off (eT (srt l)) with
  |some af=>some (.tup [],af)
  |none=>none
 |false=>none
noncomputable def AY:List D→St→Option (D×St)
 |[.nul,.fn 116 []],st=>some (.tup [],st)
 |[.win k aA off len 2,.fn 116 []],st=>match st.ew k aA with
  |some (_,c)=>match G4 ((c.drop off).take (2*len)) with
   |some l=>GZ st k aA off len l
   |none=>none
  |none=>none
 |_,_=>none
theorem sE {ds:List D} {st:St} {r:D×St} (h:AY ds st=some r):(ds=[.nul,.fn 116 []]∧r=(.tup [],st))∨
  ∃k aA off ar c l,ds=[.win k aA off l.length 2,.fn 116 []]∧st.ew k aA=some (ar,c)∧(c.drop off).take (2*l.length)=eT l∧1≤l.length∧l.length<1099511627776∧st.wr k aA off (eT (srt l))=some r.2∧r.1=.tup []:=by
 unfold AY at h
 split at h
 ·cases h;exact .inl ⟨rfl,rfl⟩
 ·rename_i vu k aA off len;right
  split at h
  ·rename_i ar c hm
   split at h
   ·rename_i l hl;unfold GZ at h
    split at h
    ·rename_i hd;have hd:=of_decide_eq_true hd
     split at h
     ·rename_i af hw;cases h;obtain⟨rfl,h1,h2⟩:=hd;exact⟨k,aA,off,ar,c,l,rfl,hm,vI hl,h1,h2,hw,rfl⟩
     ·cases h
    ·cases h
   ·cases h
  ·cases h
 ·cases h
theorem Fs:(match br iZ 60 115 [.nul,.fn 116 []] ⟨[],0,0⟩ with|some (.tup [],⟨[],_,_⟩)=>true|_=>false)=true:=by kernel_rfl
theorem Dg {w w':World} {st:St} {β:Nat→Option (Nat×Nat)} {Z:Nat→Prop} (h:fP w st β Z) (hb:Below w.heap.size w w'):Nx w st β Z w' st β Z:=by
 have hq:Quiet w w':=fun b dW=>hb.block b dW
 have hk:c9 w (st.x β Z) w' (st.x β Z):=
  ⟨fun _ p hp=>⟨p,hp⟩,fun b hb=>⟨hb,hq b (h.zl b hb)⟩,fun _ c _ _ hc=>⟨c,hc,Nat.le_refl _⟩,fun k _ _ _ b base hb=>⟨hb,dx (hq b (h.lt k b base hb))⟩⟩
 exact⟨⟨h.dom,fun k b base dW=>Nat.lt_of_lt_of_le (h.lt k b base dW) hb.size,h.inj,h.zd,fun b dW=>Nat.lt_of_lt_of_le (h.zl b dW) hb.size,fun k b base bx dW gv=>(h.box k b base bx dW gv).bO hk (hq b (h.lt k b base dW)),h.flr,h.ro⟩,hk,
  ⟨hb.os,hb.tape,hb.output,hb.size,fun b dW _=>hq b dW⟩,fun _ _ base hb=>.inl ⟨base,hb⟩,fun _ hz=>.inl hz,Nat.le_refl _,rfl,rfl,fun _ _=>⟨rfl,rfl⟩,fun _ _ h=>⟨h,rfl⟩⟩
theorem E_ (hv:iZ.Ok Try.prog∧iZ.ig∧gE Try.prog iZ (dL iZ)) {pv:Pv} (gb:jl pv 115=false):fk Try.prog pv 115 AY:=by
 refine⟨fun ds st r hp=>⟨Try.f115,_,Try.func115,rfl,by decide⟩,fun ds st d af hp w β Z us fv hle ha=>?_,fun ds st d af hp hr=>(by rw[gb] at hr;cases hr),fun ds st d af hp=>?_⟩
 ·rcases sE hp with⟨rfl,hr⟩|⟨k,aA,off,ar,c,l,rfl,hm,hl,hn,jn,hw,hd⟩
  ·cases hr;have hs:=Fs
   split at hs
   ·rename_i a b he;refine(lO hv he rfl rfl st w β Z us fv hle ha).mono fun e w'=>?_;rintro⟨v,β',Z',h1,h2,h3,h4⟩;exact⟨v,β',Z',h1,h2,h3,fun _=>h4⟩
   ·cases hs
  ·obtain⟨u,v,rfl⟩:∃u v,us=[u,v]:=by
    match us,hle with
    |[u,v],_=>exact⟨u,v,rfl⟩
   obtain⟨a,cap,rfl,kB,_,_,iI⟩:=dY (ha 0 _ u rfl rfl);obtain⟨vs,rfl,Ch,_⟩:=vm (ha 1 _ v rfl rfl);have Ch:vs=[]:=List.length_eq_zero_iff.1 Ch.symm;subst Ch;obtain⟨b,base,sz,hb,hsz,NC⟩:=iI (cG hm).2;obtain⟨rfl,jZ⟩:=NC.resolve_left (by omega);obtain⟨cs,el,fr,r1,r2,r3,r4⟩:=fv.row hm hb
   have KC:∀(i:Nat) x,l[i]?=some x→c[off+2*i]?=some (.int .i32 x.lo)∧c[off+(2*i+1)]?=some (.int .i32 x.hi):=by
    intro i x hx;have hi:i<l.length:=(List.getElem?_eq_some_iff.1 hx).1;obtain⟨h1,h2⟩:=rB l i x hx;rw[←hl,List.getElem?_take,if_pos (by omega),List.getElem?_drop] at h1 h2;exact⟨h1,h2⟩
   have Ah:=sort_calls b (base+off) cap l w r1 r3.2 (fun i x hx=>by
    obtain⟨h1,h2⟩:=KC i x hx;obtain⟨u1,a1,_,c1⟩:=r4 _ _ h1;obtain⟨u2,a2,_,c2⟩:=r4 _ _ h2;have:=ck c1;subst this;have:=ck c2;subst this
    exact⟨by rw[←a1];congr 1;omega,by rw[←a2];congr 1;omega⟩) (by omega)
   have hperm:=(srt_facts l).1;have jT:(srt l).length=l.length:=hperm.length_eq;refine Ah.mono ?_;rintro e w' ⟨rfl,cs',g1,g2,g3,g4,g5,g6,g7,g8⟩
   have hwr:Nx w st β Z (wput w b (.cells cs' el fr)) af β Z:=by
    unfold St.wr at hw;rw[hm] at hw;simp only at hw
    split at hw
    ·rename_i hc;have df:=Option.some.inj hw;rw[←df]
     have hx:=Nx.write (a':=ar) (lx:=aA) (c':=setMany c off (eT (srt l))) (cL:=base) fv hm hb (dD hc.2) (Nat.le_refl _) (fun _=>rfl) r1 (cs':=cs') g1 (by rw[dj];exact r2) (fun j d hd=>by
      rw[iD (eT (srt l)) c off j hc.1] at hd
      split at hd
      ·rename_i hj;rw[mF,jT] at hj;obtain⟨x,hx1,Iy⟩:=BU (srt l) (j-off) (by omega);rw[Iy] at hd;cases hd;obtain⟨k1,k2⟩:=g3 _ _ hx1
       split
       ·refine⟨.int .i32 x.lo,?_,rfl,.im _ _ (.int _ _)⟩;rw[←k1];congr 1;omega
       ·refine⟨.int .i32 x.hi,?_,rfl,.im _ _ (.int _ _)⟩;rw[←k2];congr 1;omega
      ·rename_i hj;rw[mF,jT] at hj;rw[g2 _ (by omega)]
       exact r4 j d hd)
     have e1:(fun i=>if i=k then some (b,base) else β i)=β:=by
      funext i;split
      ·rename_i e;subst e;exact hb.symm
      ·rfl
     rw[e1] at hx;exact hx
    ·cases hw
   have Ai:(wput w b (.cells cs' el fr)).heap.size=w.heap.size:=by simp[wput]
   have HW:Below (wput w b (.cells cs' el fr)).heap.size (wput w b (.cells cs' el fr)) w':=⟨g4.symm,g5.symm,g6.symm,by rw[Ai];exact g7,fun k hk=>g8 k (by rw[Ai] at hk;exact hk)⟩
   refine⟨_,β,Z,rfl,hwr.trans (Dg hwr.sim HW),?_,fun h=>by rw[gb] at h;cases h⟩;simp only at hd;rw[hd];exact .im _ _ (.tup [] [] rfl fun q c v hc hv=>by simp at hc)
 ·rcases sE hp with⟨rfl,hr⟩|⟨k,aA,off,ar,c,l,rfl,hm,hl,hn,jn,hw,hd⟩
  ·cases hr;exact dE.refl _
  ·exact l9 hw
end Go.Proofs.Ytnleclohocdkaaa
