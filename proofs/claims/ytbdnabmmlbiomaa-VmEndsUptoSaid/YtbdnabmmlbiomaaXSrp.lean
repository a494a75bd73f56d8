/-
 slices.SortFunc on ranges, given to V.
-/
import Derived.Test.YtbdnabmmlbiomaaXSrt
import Derived.Test.YtbdnabmmlbiomaaXView
import Derived.Test.YtbdnabmmlbiomaaXM2
import Derived.KernelRfl
set_option linter.unusedSimpArgs false
set_option linter.unusedVariables false
namespace Go.Proofs.Ytbdnabmmlbiomaa
open Go.V Go Go.RowKit
def Jw:List D→Option (List Rs)
 |[]=>some []
 | .int .i32 a::.int .i32 b::l=>match decide (0≤a),decide (a≤1114111),Jw l with
  |true,true,some r=>if h:0≤a∧a≤1114111 then some (⟨a,b,h.1,h.2⟩::r) else none
  |_,_,_=>none
 |_=>none
def er:List Rs→List D
 |[]=>[]
 |x::l=>.int .i32 x.lo::.int .i32 x.hi::er l
theorem xb:∀l:List Rs,Jw (er l)=some l
 |[]=>rfl
 |x::l=>by simp[er,Jw,xb l,x.h0,x.h1]
theorem tt:∀{c:List D} {l:List Rs},Jw c=some l→c=er l
 |[],l,h=>by cases h;rfl
 |[_],l,h=>by
  unfold Jw at h
  split at h
  ·rename_i he;cases he
  ·rename_i he;cases he
  ·cases h
 |d::e::c,l,h=>by
  unfold Jw at h
  split at h
  ·rename_i he;cases he
  ·rename_i a b m he;cases he
   split at h
   ·rename_i r h1 h2 h3
    split at h
    ·cases h;rw[tt h3];rfl
    ·cases h
   ·cases h
  ·cases h
theorem kY:∀l:List Rs,(er l).length=2*l.length
 |[]=>rfl
 |x::l=>by simp[er,kY l];omega
theorem oM:∀(l:List Rs) (i:Nat) x,l[i]?=some x→(er l)[2*i]?=some (.int .i32 x.lo)∧(er l)[2*i+1]?=some (.int .i32 x.hi)
 |[],i,x,h=>by simp at h
 |y::l,0,x,h=>by simp at h;subst h;exact⟨rfl,rfl⟩
 |y::l,i+1,x,h=>by
  have:=oM l i x (by simpa using h)
  simpa[er,show 2*(i+1)=2*i+1+1 by omega] using this
theorem y3 (l:List Rs) (j:Nat) (hj:j<2*l.length):∃x,l[j/2]?=some x∧(er l)[j]?=some (.int .i32 (if j %2=0 then x.lo else x.hi)):=by
 refine⟨l[j/2]'(by omega),List.getElem?_eq_getElem _,?_⟩;obtain⟨h1,h2⟩:=oM l (j/2) _ (List.getElem?_eq_getElem (by omega))
 rcases Nat.mod_two_eq_zero_or_one j with h|h
 ·rw[if_pos h,←h1];congr 1;omega
 ·rw[if_neg (by omega),←h2];congr 1;omega
theorem qO:∀l:List Rs,refs (er l)=0
 |[]=>rfl
 |x::l=>by simp[er,refs,D.ref,qO l]
noncomputable def Gm (st:St) (k ax off len:Nat) (l:List Rs):Option (D×St):=
 match decide (l.length=len∧1≤len∧len<1099511627776) with
 |true=>match st.wr k ax off (er (srt l)) with
  |some ah=>some (.tup [],ah)
  |none=>none
 |false=>none
noncomputable def ya:List D→St→Option (D×St)
 |[.nul,.fn 82 []],st=>some (.tup [],st)
 |[.win k ax off len 2,.fn 82 []],st=>match st.dO k ax with
  |some (_,c)=>match Jw ((c.drop off).take (2*len)) with
   |some l=>Gm st k ax off len l
   |none=>none
  |none=>none
 |_,_=>none
theorem pE {ds:List D} {st:St} {r:D×St} (h:ya ds st=some r):(ds=[.nul,.fn 82 []]∧r=(.tup [],st))∨
  ∃k ax off ar c l,ds=[.win k ax off l.length 2,.fn 82 []]∧st.dO k ax=some (ar,c)∧(c.drop off).take (2*l.length)=er l∧1≤l.length∧l.length<1099511627776∧st.wr k ax off (er (srt l))=some r.2∧r.1=.tup []:=by
 unfold ya at h
 split at h
 ·cases h;exact .inl ⟨rfl,rfl⟩
 ·rename_i te k ax off len;right
  split at h
  ·rename_i ar c hm
   split at h
   ·rename_i l hl;unfold Gm at h
    split at h
    ·rename_i hd;have hd:=of_decide_eq_true hd
     split at h
     ·rename_i ah hw;cases h;obtain⟨rfl,h1,h2⟩:=hd;exact⟨k,ax,off,ar,c,l,rfl,hm,tt hl,h1,h2,hw,rfl⟩
     ·cases h
    ·cases h
   ·cases h
  ·cases h
 ·cases h
theorem EJ:(match aZ aV 60 81 [.nul,.fn 82 []] ⟨[],0,0⟩ with|some (.tup [],⟨[],_,_⟩)=>true|_=>false)=true:=by kernel_rfl
theorem Aj {w w':World} {st:St} {β:Nat→Option (Nat×Nat)} {Z:Nat→Prop} (h:eS w st β Z) (hb:Below w.heap.size w w'):Nx w st β Z w' st β Z:=by
 have hq:Quiet w w':=fun b dw=>hb.block b dw
 have hk:cL w (st.x β Z) w' (st.x β Z):=
  ⟨fun _ p hp=>⟨p,hp⟩,fun b hb=>⟨hb,hq b (h.zl b hb)⟩,fun _ c _ _ hc=>⟨c,hc,Nat.le_refl _⟩,fun k _ _ _ b base hb=>⟨hb,dc (hq b (h.lt k b base hb))⟩⟩
 exact⟨⟨h.dom,fun k b base dw=>Nat.lt_of_lt_of_le (h.lt k b base dw) hb.size,h.inj,h.zd,fun b dw=>Nat.lt_of_lt_of_le (h.zl b dw) hb.size,fun k b base bx dw fJ=>(h.box k b base bx dw fJ).br hk (hq b (h.lt k b base dw)),h.flr,h.ro⟩,hk,
  ⟨hb.os,hb.tape,hb.output,hb.size,fun b dw _=>hq b dw⟩,fun _ _ base hb=>.inl ⟨base,hb⟩,fun _ hz=>.inl hz,Nat.le_refl _,rfl,rfl,fun _ _=>⟨rfl,rfl⟩,fun _ _ h=>⟨h,rfl⟩⟩
theorem B8 (hv:aV.Ok Try.prog∧aV.fG∧fy Try.prog aV (c9 aV)) {pv:Pv} (eT:iu pv 81=false):dL Try.prog pv 81 ya:=by
 refine⟨fun ds st r hp=>⟨Try.f81,_,Try.func81,rfl,by decide⟩,fun ds st d ah hp w β Z us eK hle ha=>?_,fun ds st d ah hp hr=>(by rw[eT] at hr;cases hr),fun ds st d ah hp=>?_⟩
 ·rcases pE hp with⟨rfl,hr⟩|⟨k,ax,off,ar,c,l,rfl,hm,hl,hn,Pr,hw,hd⟩
  ·cases hr;have hs:=EJ
   split at hs
   ·rename_i a b he;refine(kj hv he rfl rfl st w β Z us eK hle ha).mono fun e w'=>?_;rintro⟨v,β',Z',h1,h2,h3,h4⟩;exact⟨v,β',Z',h1,h2,h3,fun _=>h4⟩
   ·cases hs
  ·obtain⟨u,v,rfl⟩:∃u v,us=[u,v]:=by
    match us,hle with
    |[u,v],_=>exact⟨u,v,rfl⟩
   obtain⟨a,cap,rfl,j6,_,_,gN⟩:=dC (ha 0 _ u rfl rfl);obtain⟨vs,rfl,zh,_⟩:=tb (ha 1 _ v rfl rfl);have zh:vs=[]:=List.length_eq_zero_iff.1 zh.symm;subst zh;obtain⟨b,base,sz,hb,hsz,Pn⟩:=gN (cv hm).2;obtain⟨rfl,i7⟩:=Pn.resolve_left (by omega);obtain⟨cs,el,fr,r1,r2,r3,r4⟩:=eK.row hm hb
   have Nj:∀(i:Nat) x,l[i]?=some x→c[off+2*i]?=some (.int .i32 x.lo)∧c[off+(2*i+1)]?=some (.int .i32 x.hi):=by
    intro i x hx;have hi:i<l.length:=(List.getElem?_eq_some_iff.1 hx).1;obtain⟨h1,h2⟩:=oM l i x hx;rw[←hl,List.getElem?_take,if_pos (by omega),List.getElem?_drop] at h1 h2;exact⟨h1,h2⟩
   have xv:=sort_calls b (base+off) cap l w r1 r3.2 (fun i x hx=>by
    obtain⟨h1,h2⟩:=Nj i x hx;obtain⟨u1,a1,_,c1⟩:=r4 _ _ h1;obtain⟨u2,a2,_,c2⟩:=r4 _ _ h2;have:=b7 c1;subst this;have:=b7 c2;subst this
    exact⟨by rw[←a1];congr 1;omega,by rw[←a2];congr 1;omega⟩) (by omega)
   have hperm:=(srt_facts l).1;have iV:(srt l).length=l.length:=hperm.length_eq;refine xv.mono ?_;rintro e w' ⟨rfl,cs',g1,g2,g3,g4,g5,g6,g7,g8⟩
   have hwr:Nx w st β Z (wput w b (.cells cs' el fr)) ah β Z:=by
    unfold St.wr at hw;rw[hm] at hw;simp only at hw
    split at hw
    ·rename_i hc;have gp:=Option.some.inj hw;rw[←gp]
     have hx:=Nx.write (a':=ar) (j5:=ax) (c':=setMany c off (er (srt l))) (cB:=base) eK hm hb (dg hc.2) (Nat.le_refl _) (fun _=>rfl) r1 (cs':=cs') g1 (by rw[cV];exact r2) (fun j d hd=>by
      rw[gI (er (srt l)) c off j hc.1] at hd
      split at hd
      ·rename_i hj;rw[kY,iV] at hj;obtain⟨x,hx1,OD⟩:=y3 (srt l) (j-off) (by omega);rw[OD] at hd;cases hd;obtain⟨k1,k2⟩:=g3 _ _ hx1
       split
       ·refine⟨.int .i32 x.lo,?_,rfl,.im _ _ (.int _ _)⟩;rw[←k1];congr 1;omega
       ·refine⟨.int .i32 x.hi,?_,rfl,.im _ _ (.int _ _)⟩;rw[←k2];congr 1;omega
      ·rename_i hj;rw[kY,iV] at hj;rw[g2 _ (by omega)]
       exact r4 j d hd)
     have e1:(fun i=>if i=k then some (b,base) else β i)=β:=by
      funext i;split
      ·rename_i e;subst e;exact hb.symm
      ·rfl
     rw[e1] at hx;exact hx
    ·cases hw
   have xw:(wput w b (.cells cs' el fr)).heap.size=w.heap.size:=by simp[wput]
   have Kq:Below (wput w b (.cells cs' el fr)).heap.size (wput w b (.cells cs' el fr)) w':=⟨g4.symm,g5.symm,g6.symm,by rw[xw];exact g7,fun k hk=>g8 k (by rw[xw] at hk;exact hk)⟩
   refine⟨_,β,Z,rfl,hwr.trans (Aj hwr.sim Kq),?_,fun h=>by rw[eT] at h;cases h⟩;simp only at hd;rw[hd];exact .im _ _ (.tup [] [] rfl fun q c v hc hv=>by simp at hc)
 ·rcases pE hp with⟨rfl,hr⟩|⟨k,ax,off,ar,c,l,rfl,hm,hl,hn,Pr,hw,hd⟩
  ·cases hr;exact dh.refl _
  ·exact kE hw
end Go.Proofs.Ytbdnabmmlbiomaa
