/-
 slices.SortFunc on ranges, given to V.
-/
import Derived.Test.YthahmilhpmfkfaaGreatVSrt
import Derived.Test.YthahmilhpmfkfaaGreatVView
import Derived.Test.YthahmilhpmfkfaaGreatVM2
import Derived.KernelRfl
set_option linter.unusedSimpArgs false
set_option linter.unusedVariables false
namespace Go.Proofs.YthahmilhpmfkfaaGreat
open Go.V Go Go.RowKit
def KA:List D→Option (List Rs)
 |[]=>some []
 | .int .i32 a::.int .i32 b::l=>match decide (0≤a),decide (a≤1114111),KA l with
  |true,true,some r=>if h:0≤a∧a≤1114111 then some (⟨a,b,h.1,h.2⟩::r) else none
  |_,_,_=>none
 |_=>none
def fx:List Rs→List D
 |[]=>[]
 |x::l=>.int .i32 x.lo::.int .i32 x.hi::fx l
theorem BL:∀l:List Rs,KA (fx l)=some l
 |[]=>rfl
 |x::l=>by simp[fx,KA,BL l,x.h0,x.h1]
theorem xR:∀{c:List D} {l:List Rs},KA c=some l→c=fx l
 |[],l,h=>by cases h;rfl
 |[_],l,h=>by
  unfold KA at h
  split at h
  ·rename_i he;cases he
  ·rename_i he;cases he
  ·cases h
 |d::e::c,l,h=>by
  unfold KA at h
  split at h
  ·rename_i he;cases he
  ·rename_i a b m he;cases he
   split at h
   ·rename_i r h1 h2 h3
    split at h
    ·cases h;rw[xR h3];rfl
    ·cases h
   ·cases h
  ·cases h
theorem oc:∀l:List Rs,(fx l).length=2*l.length
 |[]=>rfl
 |x::l=>by simp[fx,oc l];omega
theorem sZ:∀(l:List Rs) (i:Nat) x,l[i]?=some x→(fx l)[2*i]?=some (.int .i32 x.lo)∧(fx l)[2*i+1]?=some (.int .i32 x.hi)
 |[],i,x,h=>by simp at h
 |y::l,0,x,h=>by simp at h;subst h;exact⟨rfl,rfl⟩
 |y::l,i+1,x,h=>by
  have:=sZ l i x (by simpa using h)
  simpa[fx,show 2*(i+1)=2*i+1+1 by omega] using this
theorem D4 (l:List Rs) (j:Nat) (hj:j<2*l.length):∃x,l[j/2]?=some x∧(fx l)[j]?=some (.int .i32 (if j %2=0 then x.lo else x.hi)):=by
 refine⟨l[j/2]'(by omega),List.getElem?_eq_getElem _,?_⟩;obtain⟨h1,h2⟩:=sZ l (j/2) _ (List.getElem?_eq_getElem (by omega))
 rcases Nat.mod_two_eq_zero_or_one j with h|h
 ·rw[if_pos h,←h1];congr 1;omega
 ·rw[if_neg (by omega),←h2];congr 1;omega
theorem vm:∀l:List Rs,refs (fx l)=0
 |[]=>rfl
 |x::l=>by simp[fx,refs,D.ref,vm l]
noncomputable def Ku (st:St) (k au off len:Nat) (l:List Rs):Option (D×St):=
 match decide (l.length=len∧1≤len∧len<1099511627776) with
 |true=>match st.wr k au off (fx (srt l)) with
  |some ah=>some (.tup [],ah)
  |none=>none
 |false=>none
noncomputable def C3:List D→St→Option (D×St)
 |[.nul,.fn 108 []],st=>some (.tup [],st)
 |[.win k au off len 2,.fn 108 []],st=>match st.bW k au with
  |some (_,c)=>match KA ((c.drop off).take (2*len)) with
   |some l=>Ku st k au off len l
   |none=>none
  |none=>none
 |_,_=>none
theorem uo {ds:List D} {st:St} {r:D×St} (h:C3 ds st=some r):(ds=[.nul,.fn 108 []]∧r=(.tup [],st))∨
  ∃k au off ar c l,ds=[.win k au off l.length 2,.fn 108 []]∧st.bW k au=some (ar,c)∧(c.drop off).take (2*l.length)=fx l∧1≤l.length∧l.length<1099511627776∧st.wr k au off (fx (srt l))=some r.2∧r.1=.tup []:=by
 unfold C3 at h
 split at h
 ·cases h;exact .inl ⟨rfl,rfl⟩
 ·rename_i Bx k au off len;right
  split at h
  ·rename_i ar c hm
   split at h
   ·rename_i l hl;unfold Ku at h
    split at h
    ·rename_i hd;have hd:=of_decide_eq_true hd
     split at h
     ·rename_i ah hw;cases h;obtain⟨rfl,h1,h2⟩:=hd;exact⟨k,au,off,ar,c,l,rfl,hm,xR hl,h1,h2,hw,rfl⟩
     ·cases h
    ·cases h
   ·cases h
  ·cases h
 ·cases h
theorem Iq:(match cz eQ 60 107 [.nul,.fn 108 []] ⟨[],0,0⟩ with|some (.tup [],⟨[],_,_⟩)=>true|_=>false)=true:=by kernel_rfl
theorem FI {w w':World} {st:St} {β:Nat→Option (Nat×Nat)} {Z:Nat→Prop} (h:fG w st β Z) (hb:Below w.heap.size w w'):Nx w st β Z w' st β Z:=by
 have hq:Quiet w w':=fun b eH=>hb.block b eH
 have hk:dq w (st.x β Z) w' (st.x β Z):=
  ⟨fun _ p hp=>⟨p,hp⟩,fun b hb=>⟨hb,hq b (h.zl b hb)⟩,fun _ c _ _ hc=>⟨c,hc,Nat.le_refl _⟩,fun k _ _ _ b base hb=>⟨hb,dV (hq b (h.lt k b base hb))⟩⟩
 exact⟨⟨h.dom,fun k b base eH=>Nat.lt_of_lt_of_le (h.lt k b base eH) hb.size,h.inj,h.zd,fun b eH=>Nat.lt_of_lt_of_le (h.zl b eH) hb.size,fun k b base bx eH gU=>(h.box k b base bx eH gU).cM hk (hq b (h.lt k b base eH)),h.flr,h.ro⟩,hk,
  ⟨hb.os,hb.tape,hb.output,hb.size,fun b eH _=>hq b eH⟩,fun _ _ base hb=>.inl ⟨base,hb⟩,fun _ hz=>.inl hz,Nat.le_refl _,rfl,rfl,fun _ _=>⟨rfl,rfl⟩,fun _ _ h=>⟨h,rfl⟩⟩
theorem HU (hv:eQ.Ok Tryz.prog∧eQ.gC∧gx Tryz.prog eQ (dJ eQ)) {pv:Pv} (eG:kD pv 107=false):jj Tryz.prog pv 107 C3:=by
 refine⟨fun ds st r hp=>⟨Tryz.f107,_,Tryz.func107,rfl,by decide⟩,fun ds st d ah hp w β Z us df hle ha=>?_,fun ds st d ah hp hr=>(by rw[eG] at hr;cases hr),fun ds st d ah hp=>?_⟩
 ·rcases uo hp with⟨rfl,hr⟩|⟨k,au,off,ar,c,l,rfl,hm,hl,hn,iR,hw,hd⟩
  ·cases hr;have hs:=Iq
   split at hs
   ·rename_i a b he;refine(mW hv he rfl rfl st w β Z us df hle ha).mono fun e w'=>?_;rintro⟨v,β',Z',h1,h2,h3,h4⟩;exact⟨v,β',Z',h1,h2,h3,fun _=>h4⟩
   ·cases hs
  ·obtain⟨u,v,rfl⟩:∃u v,us=[u,v]:=by
    match us,hle with
    |[u,v],_=>exact⟨u,v,rfl⟩
   obtain⟨a,cap,rfl,lI,_,_,hat⟩:=dv (ha 0 _ u rfl rfl);obtain⟨vs,rfl,hvs,_⟩:=xm (ha 1 _ v rfl rfl);have hvs:vs=[]:=List.length_eq_zero_iff.1 hvs.symm;subst hvs;obtain⟨b,base,sz,hb,hsz,ND⟩:=hat (bm hm).2;obtain⟨rfl,ig⟩:=ND.resolve_left (by omega);obtain⟨cs,el,fr,r1,r2,r3,r4⟩:=df.row hm hb
   have N7:∀(i:Nat) x,l[i]?=some x→c[off+2*i]?=some (.int .i32 x.lo)∧c[off+(2*i+1)]?=some (.int .i32 x.hi):=by
    intro i x hx;have hi:i<l.length:=(List.getElem?_eq_some_iff.1 hx).1;obtain⟨h1,h2⟩:=sZ l i x hx;rw[←hl,List.getElem?_take,if_pos (by omega),List.getElem?_drop] at h1 h2;exact⟨h1,h2⟩
   have Cd:=sort_calls b (base+off) cap l w r1 r3.2 (fun i x hx=>by
    obtain⟨h1,h2⟩:=N7 i x hx;obtain⟨u1,a1,_,c1⟩:=r4 _ _ h1;obtain⟨u2,a2,_,c2⟩:=r4 _ _ h2;have:=cj c1;subst this;have:=cj c2;subst this
    exact⟨by rw[←a1];congr 1;omega,by rw[←a2];congr 1;omega⟩) (by omega)
   have hperm:=(srt_facts l).1;have kW:(srt l).length=l.length:=hperm.length_eq;refine Cd.mono ?_;rintro e w' ⟨rfl,cs',g1,g2,g3,g4,g5,g6,g7,g8⟩
   have hwr:Nx w st β Z (wput w b (.cells cs' el fr)) ah β Z:=by
    unfold St.wr at hw;rw[hm] at hw;simp only at hw
    split at hw
    ·rename_i hc;have hst:=Option.some.inj hw;rw[←hst]
     have hx:=Nx.write (a':=ar) (lj:=au) (c':=setMany c off (fx (srt l))) (cU:=base) df hm hb (dG hc.2) (Nat.le_refl _) (fun _=>rfl) r1 (cs':=cs') g1 (by rw[dH];exact r2) (fun j d hd=>by
      rw[h_ (fx (srt l)) c off j hc.1] at hd
      split at hd
      ·rename_i hj;rw[oc,kW] at hj;obtain⟨x,hx1,IM⟩:=D4 (srt l) (j-off) (by omega);rw[IM] at hd;cases hd;obtain⟨k1,k2⟩:=g3 _ _ hx1
       split
       ·refine⟨.int .i32 x.lo,?_,rfl,.im _ _ (.int _ _)⟩;rw[←k1];congr 1;omega
       ·refine⟨.int .i32 x.hi,?_,rfl,.im _ _ (.int _ _)⟩;rw[←k2];congr 1;omega
      ·rename_i hj;rw[oc,kW] at hj;rw[g2 _ (by omega)]
       exact r4 j d hd)
     have e1:(fun i=>if i=k then some (b,base) else β i)=β:=by
      funext i;split
      ·rename_i e;subst e;exact hb.symm
      ·rfl
     rw[e1] at hx;exact hx
    ·cases hw
   have uX:(wput w b (.cells cs' el fr)).heap.size=w.heap.size:=by simp[wput]
   have Ly:Below (wput w b (.cells cs' el fr)).heap.size (wput w b (.cells cs' el fr)) w':=⟨g4.symm,g5.symm,g6.symm,by rw[uX];exact g7,fun k hk=>g8 k (by rw[uX] at hk;exact hk)⟩
   refine⟨_,β,Z,rfl,hwr.trans (FI hwr.sim Ly),?_,fun h=>by rw[eG] at h;cases h⟩;simp only at hd;rw[hd];exact .im _ _ (.tup [] [] rfl fun q c v hc hv=>by simp at hc)
 ·rcases uo hp with⟨rfl,hr⟩|⟨k,au,off,ar,c,l,rfl,hm,hl,hn,iR,hw,hd⟩
  ·cases hr;exact dt.refl _
  ·exact jq hw
end Go.Proofs.YthahmilhpmfkfaaGreat
