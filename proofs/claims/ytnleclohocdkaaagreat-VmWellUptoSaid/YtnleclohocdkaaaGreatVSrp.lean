/-
 slices.SortFunc on ranges, given to V.
-/
import Derived.Test.YtnleclohocdkaaaGreatVSrt
import Derived.Test.YtnleclohocdkaaaGreatVView
import Derived.Test.YtnleclohocdkaaaGreatVM2
import Derived.KernelRfl
set_option linter.unusedSimpArgs false
set_option linter.unusedVariables false
namespace Go.Proofs.YtnleclohocdkaaaGreat
open Go.V Go Go.RowKit
def GL:List D→Option (List Rs)
 |[]=>some []
 | .int .i32 a::.int .i32 b::l=>match decide (0≤a),decide (a≤1114111),GL l with
  |true,true,some r=>if h:0≤a∧a≤1114111 then some (⟨a,b,h.1,h.2⟩::r) else none
  |_,_,_=>none
 |_=>none
def eA:List Rs→List D
 |[]=>[]
 |x::l=>.int .i32 x.lo::.int .i32 x.hi::eA l
theorem zg:∀l:List Rs,GL (eA l)=some l
 |[]=>rfl
 |x::l=>by simp[eA,GL,zg l,x.h0,x.h1]
theorem vu:∀{c:List D} {l:List Rs},GL c=some l→c=eA l
 |[],l,h=>by cases h;rfl
 |[_],l,h=>by
  unfold GL at h
  split at h
  ·rename_i he;cases he
  ·rename_i he;cases he
  ·cases h
 |d::e::c,l,h=>by
  unfold GL at h
  split at h
  ·rename_i he;cases he
  ·rename_i a b m he;cases he
   split at h
   ·rename_i r h1 h2 h3
    split at h
    ·cases h;rw[vu h3];rfl
    ·cases h
   ·cases h
  ·cases h
theorem mc:∀l:List Rs,(eA l).length=2*l.length
 |[]=>rfl
 |x::l=>by simp[eA,mc l];omega
theorem qZ:∀(l:List Rs) (i:Nat) x,l[i]?=some x→(eA l)[2*i]?=some (.int .i32 x.lo)∧(eA l)[2*i+1]?=some (.int .i32 x.hi)
 |[],i,x,h=>by simp at h
 |y::l,0,x,h=>by simp at h;subst h;exact⟨rfl,rfl⟩
 |y::l,i+1,x,h=>by
  have:=qZ l i x (by simpa using h)
  simpa[eA,show 2*(i+1)=2*i+1+1 by omega] using this
theorem Bk (l:List Rs) (j:Nat) (hj:j<2*l.length):∃x,l[j/2]?=some x∧(eA l)[j]?=some (.int .i32 (if j %2=0 then x.lo else x.hi)):=by
 refine⟨l[j/2]'(by omega),List.getElem?_eq_getElem _,?_⟩;obtain⟨h1,h2⟩:=qZ l (j/2) _ (List.getElem?_eq_getElem (by omega))
 rcases Nat.mod_two_eq_zero_or_one j with h|h
 ·rw[if_pos h,←h1];congr 1;omega
 ·rw[if_neg (by omega),←h2];congr 1;omega
theorem ta:∀l:List Rs,refs (eA l)=0
 |[]=>rfl
 |x::l=>by simp[eA,refs,D.ref,ta l]
noncomputable def GI (st:St) (k av off len:Nat) (l:List Rs):Option (D×St):=
 match decide (l.length=len∧1≤len∧len<1099511627776) with
 |true=>match st.wr k av off (eA (srt l)) with
  |some ab=>some (.tup [],ab)
  |none=>none
 |false=>none
noncomputable def As:List D→St→Option (D×St)
 |[.nul,.fn 147 []],st=>some (.tup [],st)
 |[.win k av off len 2,.fn 147 []],st=>match st.dO k av with
  |some (_,c)=>match GL ((c.drop off).take (2*len)) with
   |some l=>GI st k av off len l
   |none=>none
  |none=>none
 |_,_=>none
theorem r_ {ds:List D} {st:St} {r:D×St} (h:As ds st=some r):(ds=[.nul,.fn 147 []]∧r=(.tup [],st))∨
  ∃k av off ar c l,ds=[.win k av off l.length 2,.fn 147 []]∧st.dO k av=some (ar,c)∧(c.drop off).take (2*l.length)=eA l∧1≤l.length∧l.length<1099511627776∧st.wr k av off (eA (srt l))=some r.2∧r.1=.tup []:=by
 unfold As at h
 split at h
 ·cases h;exact .inl ⟨rfl,rfl⟩
 ·rename_i u_ k av off len;right
  split at h
  ·rename_i ar c hm
   split at h
   ·rename_i l hl;unfold GI at h
    split at h
    ·rename_i hd;have hd:=of_decide_eq_true hd
     split at h
     ·rename_i ab hw;cases h;obtain⟨rfl,h1,h2⟩:=hd;exact⟨k,av,off,ar,c,l,rfl,hm,vu hl,h1,h2,hw,rfl⟩
     ·cases h
    ·cases h
   ·cases h
  ·cases h
 ·cases h
theorem EJ:(match bd iu 60 146 [.nul,.fn 147 []] ⟨[],0,0⟩ with|some (.tup [],⟨[],_,_⟩)=>true|_=>false)=true:=by kernel_rfl
theorem CA {w w':World} {st:St} {β:Nat→Option (Nat×Nat)} {Z:Nat→Prop} (h:fk w st β Z) (hb:Below w.heap.size w w'):Nx w st β Z w' st β Z:=by
 have hq:Quiet w w':=fun b dr=>hb.block b dr
 have hk:cG w (st.x β Z) w' (st.x β Z):=
  ⟨fun _ p hp=>⟨p,hp⟩,fun b hb=>⟨hb,hq b (h.zl b hb)⟩,fun _ c _ _ hc=>⟨c,hc,Nat.le_refl _⟩,fun k _ _ _ b base hb=>⟨hb,c_ (hq b (h.lt k b base hb))⟩⟩
 exact⟨⟨h.dom,fun k b base dr=>Nat.lt_of_lt_of_le (h.lt k b base dr) hb.size,h.inj,h.zd,fun b dr=>Nat.lt_of_lt_of_le (h.zl b dr) hb.size,fun k b base bx dr fW=>(h.box k b base bx dr fW).aW hk (hq b (h.lt k b base dr)),h.flr,h.ro⟩,hk,
  ⟨hb.os,hb.tape,hb.output,hb.size,fun b dr _=>hq b dr⟩,fun _ _ base hb=>.inl ⟨base,hb⟩,fun _ hz=>.inl hz,Nat.le_refl _,rfl,rfl,fun _ _=>⟨rfl,rfl⟩,fun _ _ h=>⟨h,rfl⟩⟩
theorem Eu (hv:iu.Ok Tryz.prog∧iu.gL∧gg Tryz.prog iu (dx iu)) {pv:Pv} (fe:iN pv 146=false):eO Tryz.prog pv 146 As:=by
 refine⟨fun ds st r hp=>⟨Tryz.f146,_,Tryz.func146,rfl,by decide⟩,fun ds st d ab hp w β Z us eS hle ha=>?_,fun ds st d ab hp hr=>(by rw[fe] at hr;cases hr),fun ds st d ab hp=>?_⟩
 ·rcases r_ hp with⟨rfl,hr⟩|⟨k,av,off,ar,c,l,rfl,hm,hl,hn,HB,hw,hd⟩
  ·cases hr;have hs:=EJ
   split at hs
   ·rename_i a b he;refine(lp hv he rfl rfl st w β Z us eS hle ha).mono fun e w'=>?_;rintro⟨v,β',Z',h1,h2,h3,h4⟩;exact⟨v,β',Z',h1,h2,h3,fun _=>h4⟩
   ·cases hs
  ·obtain⟨u,v,rfl⟩:∃u v,us=[u,v]:=by
    match us,hle with
    |[u,v],_=>exact⟨u,v,rfl⟩
   obtain⟨a,cap,rfl,kR,_,_,g_⟩:=dE (ha 0 _ u rfl rfl);obtain⟨vs,rfl,BA,_⟩:=uX (ha 1 _ v rfl rfl);have BA:vs=[]:=List.length_eq_zero_iff.1 BA.symm;subst BA;obtain⟨b,base,sz,hb,hsz,NA⟩:=g_ (ck hm).2;obtain⟨rfl,jy⟩:=NA.resolve_left (by omega);obtain⟨cs,el,fr,r1,r2,r3,r4⟩:=eS.row hm hb
   have Ku:∀(i:Nat) x,l[i]?=some x→c[off+2*i]?=some (.int .i32 x.lo)∧c[off+(2*i+1)]?=some (.int .i32 x.hi):=by
    intro i x hx;have hi:i<l.length:=(List.getElem?_eq_some_iff.1 hx).1;obtain⟨h1,h2⟩:=qZ l i x hx;rw[←hl,List.getElem?_take,if_pos (by omega),List.getElem?_drop] at h1 h2;exact⟨h1,h2⟩
   have zD:=sort_calls b (base+off) cap l w r1 r3.2 (fun i x hx=>by
    obtain⟨h1,h2⟩:=Ku i x hx;obtain⟨u1,a1,_,c1⟩:=r4 _ _ h1;obtain⟨u2,a2,_,c2⟩:=r4 _ _ h2;have:=bU c1;subst this;have:=bU c2;subst this
    exact⟨by rw[←a1];congr 1;omega,by rw[←a2];congr 1;omega⟩) (by omega)
   have hperm:=(srt_facts l).1;have gi:(srt l).length=l.length:=hperm.length_eq;refine zD.mono ?_;rintro e w' ⟨rfl,cs',g1,g2,g3,g4,g5,g6,g7,g8⟩
   have hwr:Nx w st β Z (wput w b (.cells cs' el fr)) ab β Z:=by
    unfold St.wr at hw;rw[hm] at hw;simp only at hw
    split at hw
    ·rename_i hc;have e_:=Option.some.inj hw;rw[←e_]
     have hx:=Nx.write (a':=ar) (kO:=av) (c':=setMany c off (eA (srt l))) (cu:=base) eS hm hb (dh hc.2) (Nat.le_refl _) (fun _=>rfl) r1 (cs':=cs') g1 (by rw[cU];exact r2) (fun j d hd=>by
      rw[gW (eA (srt l)) c off j hc.1] at hd
      split at hd
      ·rename_i hj;rw[mc,gi] at hj;obtain⟨x,hx1,MR⟩:=Bk (srt l) (j-off) (by omega);rw[MR] at hd;cases hd;obtain⟨k1,k2⟩:=g3 _ _ hx1
       split
       ·refine⟨.int .i32 x.lo,?_,rfl,.im _ _ (.int _ _)⟩;rw[←k1];congr 1;omega
       ·refine⟨.int .i32 x.hi,?_,rfl,.im _ _ (.int _ _)⟩;rw[←k2];congr 1;omega
      ·rename_i hj;rw[mc,gi] at hj;rw[g2 _ (by omega)]
       exact r4 j d hd)
     have e1:(fun i=>if i=k then some (b,base) else β i)=β:=by
      funext i;split
      ·rename_i e;subst e;exact hb.symm
      ·rfl
     rw[e1] at hx;exact hx
    ·cases hw
   have zJ:(wput w b (.cells cs' el fr)).heap.size=w.heap.size:=by simp[wput]
   have HT:Below (wput w b (.cells cs' el fr)).heap.size (wput w b (.cells cs' el fr)) w':=⟨g4.symm,g5.symm,g6.symm,by rw[zJ];exact g7,fun k hk=>g8 k (by rw[zJ] at hk;exact hk)⟩
   refine⟨_,β,Z,rfl,hwr.trans (CA hwr.sim HT),?_,fun h=>by rw[fe] at h;cases h⟩;simp only at hd;rw[hd];exact .im _ _ (.tup [] [] rfl fun q c v hc hv=>by simp at hc)
 ·rcases r_ hp with⟨rfl,hr⟩|⟨k,av,off,ar,c,l,rfl,hm,hl,hn,HB,hw,hd⟩
  ·cases hr;exact dj.refl _
  ·exact lL hw
end Go.Proofs.YtnleclohocdkaaaGreat
