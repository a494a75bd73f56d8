/-
 slices.SortFunc on ranges, given to V.
-/
import Derived.Test.YtbdnabmmlbiomaaXSrt
import Derived.Test.YtbdnabmmlbiomaaXView
import Derived.Test.YtbdnabmmlbiomaaXM2
import Derived.KernelRfl
set_option linter.unusedSimpArgs false
set_option linter.unusedVariables false
namespace Go.Proofs.Ytbdnabmmlbiomaa
open Go.V Go Go.RowKit
def GU:List D→Option (List Rs)
 |[]=>some []
 | .int .i32 a::.int .i32 b::l=>match decide (0≤a),decide (a≤1114111),GU l with
  |true,true,some r=>if h:0≤a∧a≤1114111 then some (⟨a,b,h.1,h.2⟩::r) else none
  |_,_,_=>none
 |_=>none
def dM:List Rs→List D
 |[]=>[]
 |x::l=>.int .i32 x.lo::.int .i32 x.hi::dM l
theorem uY:∀l:List Rs,GU (dM l)=some l
 |[]=>rfl
 |x::l=>by simp[dM,GU,uY l,x.h0,x.h1]
theorem rz:∀{c:List D} {l:List Rs},GU c=some l→c=dM l
 |[],l,h=>by cases h;rfl
 |[_],l,h=>by
  unfold GU at h
  split at h
  ·rename_i he;cases he
  ·rename_i he;cases he
  ·cases h
 |d::e::c,l,h=>by
  unfold GU at h
  split at h
  ·rename_i he;cases he
  ·rename_i a b m he;cases he
   split at h
   ·rename_i r h1 h2 h3
    split at h
    ·cases h;rw[rz h3];rfl
    ·cases h
   ·cases h
  ·cases h
theorem kr:∀l:List Rs,(dM l).length=2*l.length
 |[]=>rfl
 |x::l=>by simp[dM,kr l];omega
theorem nC:∀(l:List Rs) (i:Nat) x,l[i]?=some x→(dM l)[2*i]?=some (.int .i32 x.lo)∧(dM l)[2*i+1]?=some (.int .i32 x.hi)
 |[],i,x,h=>by simp at h
 |y::l,0,x,h=>by simp at h;subst h;exact⟨rfl,rfl⟩
 |y::l,i+1,x,h=>by
  have:=nC l i x (by simpa using h)
  simpa[dM,show 2*(i+1)=2*i+1+1 by omega] using this
theorem wR (l:List Rs) (j:Nat) (hj:j<2*l.length):∃x,l[j/2]?=some x∧(dM l)[j]?=some (.int .i32 (if j %2=0 then x.lo else x.hi)):=by
 refine⟨l[j/2]'(by omega),List.getElem?_eq_getElem _,?_⟩;obtain⟨h1,h2⟩:=nC l (j/2) _ (List.getElem?_eq_getElem (by omega))
 rcases Nat.mod_two_eq_zero_or_one j with h|h
 ·rw[if_pos h,←h1];congr 1;omega
 ·rw[if_neg (by omega),←h2];congr 1;omega
theorem oT:∀l:List Rs,refs (dM l)=0
 |[]=>rfl
 |x::l=>by simp[dM,refs,D.ref,oT l]
noncomputable def DQ (st:St) (k az off len:Nat) (l:List Rs):Option (D×St):=
 match decide (l.length=len∧1≤len∧len<1099511627776) with
 |true=>match st.wr k az off (dM (srt l)) with
  |some ah=>some (.tup [],ah)
  |none=>none
 |false=>none
noncomputable def vW:List D→St→Option (D×St)
 |[.nul,.fn 82 []],st=>some (.tup [],st)
 |[.win k az off len 2,.fn 82 []],st=>match st.dz k az with
  |some (_,c)=>match GU ((c.drop off).take (2*len)) with
   |some l=>DQ st k az off len l
   |none=>none
  |none=>none
 |_,_=>none
theorem ot {ds:List D} {st:St} {r:D×St} (h:vW ds st=some r):(ds=[.nul,.fn 82 []]∧r=(.tup [],st))∨
  ∃k az off ar c l,ds=[.win k az off l.length 2,.fn 82 []]∧st.dz k az=some (ar,c)∧(c.drop off).take (2*l.length)=dM l∧1≤l.length∧l.length<1099511627776∧st.wr k az off (dM (srt l))=some r.2∧r.1=.tup []:=by
 unfold vW at h
 split at h
 ·cases h;exact .inl ⟨rfl,rfl⟩
 ·rename_i uO k az off len;right
  split at h
  ·rename_i ar c hm
   split at h
   ·rename_i l hl;unfold DQ at h
    split at h
    ·rename_i hd;have hd:=of_decide_eq_true hd
     split at h
     ·rename_i ah hw;cases h;obtain⟨rfl,h1,h2⟩:=hd;exact⟨k,az,off,ar,c,l,rfl,hm,rz hl,h1,h2,hw,rfl⟩
     ·cases h
    ·cases h
   ·cases h
  ·cases h
 ·cases h
theorem Cs:(match b8 bf 60 81 [.nul,.fn 82 []] ⟨[],0,0⟩ with|some (.tup [],⟨[],_,_⟩)=>true|_=>false)=true:=by kernel_rfl
theorem x9 {w w':World} {st:St} {β:Nat→Option (Nat×Nat)} {Z:Nat→Prop} (h:eD w st β Z) (hb:Below w.heap.size w w'):Nx w st β Z w' st β Z:=by
 have hq:Quiet w w':=fun b dW=>hb.block b dW
 have hk:cG w (st.x β Z) w' (st.x β Z):=
  ⟨fun _ p hp=>⟨p,hp⟩,fun b hb=>⟨hb,hq b (h.zl b hb)⟩,fun _ c _ _ hc=>⟨c,hc,Nat.le_refl _⟩,fun k _ _ _ b base hb=>⟨hb,cV (hq b (h.lt k b base hb))⟩⟩
 exact⟨⟨h.dom,fun k b base dW=>Nat.lt_of_lt_of_le (h.lt k b base dW) hb.size,h.inj,h.zd,fun b dW=>Nat.lt_of_lt_of_le (h.zl b dW) hb.size,fun k b base bx dW fk=>(h.box k b base bx dW fk).bD hk (hq b (h.lt k b base dW)),h.flr,h.ro⟩,hk,
  ⟨hb.os,hb.tape,hb.output,hb.size,fun b dW _=>hq b dW⟩,fun _ _ base hb=>.inl ⟨base,hb⟩,fun _ hz=>.inl hz,Nat.le_refl _,rfl,rfl,fun _ _=>⟨rfl,rfl⟩,fun _ _ h=>⟨h,rfl⟩⟩
theorem zP (hv:bf.Ok Try.prog∧bf.fU∧fv Try.prog bf (dg bf)) {pv:Pv} (eS:gK pv 81=false):fX Try.prog pv 81 vW:=by
 refine⟨fun ds st r hp=>⟨Try.f81,_,Try.func81,rfl,by decide⟩,fun ds st d ah hp w β Z us ec hle ha=>?_,fun ds st d ah hp hr=>(by rw[eS] at hr;cases hr),fun ds st d ah hp=>?_⟩
 ·rcases ot hp with⟨rfl,hr⟩|⟨k,az,off,ar,c,l,rfl,hm,hl,hn,It,hw,hd⟩
  ·cases hr;have hs:=Cs
   split at hs
   ·rename_i a b he;refine(jP hv he rfl rfl st w β Z us ec hle ha).mono fun e w'=>?_;rintro⟨v,β',Z',h1,h2,h3,h4⟩;exact⟨v,β',Z',h1,h2,h3,fun _=>h4⟩
   ·cases hs
  ·obtain⟨u,v,rfl⟩:∃u v,us=[u,v]:=by
    match us,hle with
    |[u,v],_=>exact⟨u,v,rfl⟩
   obtain⟨a,cap,rfl,iU,_,_,gN⟩:=dv (ha 0 _ u rfl rfl);obtain⟨vs,rfl,w7,_⟩:=re (ha 1 _ v rfl rfl);have w7:vs=[]:=List.length_eq_zero_iff.1 w7.symm;subst w7;obtain⟨b,base,sz,hb,hsz,Mc⟩:=gN (cj hm).2;obtain⟨rfl,iq⟩:=Mc.resolve_left (by omega);obtain⟨cs,el,fr,r1,r2,r3,r4⟩:=ec.row hm hb
   have Ka:∀(i:Nat) x,l[i]?=some x→c[off+2*i]?=some (.int .i32 x.lo)∧c[off+(2*i+1)]?=some (.int .i32 x.hi):=by
    intro i x hx;have hi:i<l.length:=(List.getElem?_eq_some_iff.1 hx).1;obtain⟨h1,h2⟩:=nC l i x hx;rw[←hl,List.getElem?_take,if_pos (by omega),List.getElem?_drop] at h1 h2;exact⟨h1,h2⟩
   have vj:=sort_calls b (base+off) cap l w r1 r3.2 (fun i x hx=>by
    obtain⟨h1,h2⟩:=Ka i x hx;obtain⟨u1,a1,_,c1⟩:=r4 _ _ h1;obtain⟨u2,a2,_,c2⟩:=r4 _ _ h2;have:=bW c1;subst this;have:=bW c2;subst this
    exact⟨by rw[←a1];congr 1;omega,by rw[←a2];congr 1;omega⟩) (by omega)
   have hperm:=(srt_facts l).1;have jz:(srt l).length=l.length:=hperm.length_eq;refine vj.mono ?_;rintro e w' ⟨rfl,cs',g1,g2,g3,g4,g5,g6,g7,g8⟩
   have hwr:Nx w st β Z (wput w b (.cells cs' el fr)) ah β Z:=by
    unfold St.wr at hw;rw[hm] at hw;simp only at hw
    split at hw
    ·rename_i hc;have fK:=Option.some.inj hw;rw[←fK]
     have hx:=Nx.write (a':=ar) (jx:=az) (c':=setMany c off (dM (srt l))) (cx:=base) ec hm hb (c7 hc.2) (Nat.le_refl _) (fun _=>rfl) r1 (cs':=cs') g1 (by rw[cN];exact r2) (fun j d hd=>by
      rw[f' (dM (srt l)) c off j hc.1] at hd
      split at hd
      ·rename_i hj;rw[kr,jz] at hj;obtain⟨x,hx1,Ls⟩:=wR (srt l) (j-off) (by omega);rw[Ls] at hd;cases hd;obtain⟨k1,k2⟩:=g3 _ _ hx1
       split
       ·refine⟨.int .i32 x.lo,?_,rfl,.im _ _ (.int _ _)⟩;rw[←k1];congr 1;omega
       ·refine⟨.int .i32 x.hi,?_,rfl,.im _ _ (.int _ _)⟩;rw[←k2];congr 1;omega
      ·rename_i hj;rw[kr,jz] at hj;rw[g2 _ (by omega)]
       exact r4 j d hd)
     have e1:(fun i=>if i=k then some (b,base) else β i)=β:=by
      funext i;split
      ·rename_i e;subst e;exact hb.symm
      ·rfl
     rw[e1] at hx;exact hx
    ·cases hw
   have vm:(wput w b (.cells cs' el fr)).heap.size=w.heap.size:=by simp[wput]
   have HF:Below (wput w b (.cells cs' el fr)).heap.size (wput w b (.cells cs' el fr)) w':=⟨g4.symm,g5.symm,g6.symm,by rw[vm];exact g7,fun k hk=>g8 k (by rw[vm] at hk;exact hk)⟩
   refine⟨_,β,Z,rfl,hwr.trans (x9 hwr.sim HF),?_,fun h=>by rw[eS] at h;cases h⟩;simp only at hd;rw[hd];exact .im _ _ (.tup [] [] rfl fun q c v hc hv=>by simp at hc)
 ·rcases ot hp with⟨rfl,hr⟩|⟨k,az,off,ar,c,l,rfl,hm,hl,hn,It,hw,hd⟩
  ·cases hr;exact c8.refl _
  ·exact j0 hw
end Go.Proofs.Ytbdnabmmlbiomaa
