/-
 slices.SortFunc on ranges, given to V.
-/
import Derived.Test.YtecjacicdpejaaaGreatWSrt
import Derived.Test.YtecjacicdpejaaaGreatWView
import Derived.Test.YtecjacicdpejaaaGreatWM2
import Derived.KernelRfl
set_option linter.unusedSimpArgs false
set_option linter.unusedVariables false
open Nat renaming le_refl→γ,lt_of_lt_of_le→δ
namespace Go.Proofs.YtecjacicdpejaaaGreat
open Go.V Go Go.RowKit
def Rh:List D→Option (List Rs)
 |[]=>some []
 | .int .i32 a::.int .i32 b::l=>match decide (0≤a),decide (a≤1114111),Rh l with
  |true,true,some r=>if h:0≤a∧a≤1114111 then some (⟨a,b,h.1,h.2⟩::r) else none
  |_,_,_=>none
 |_=>none
def iP:List Rs→List D
 |[]=>[]
 |x::l=>.int .i32 x.lo::.int .i32 x.hi::iP l
theorem Hv:∀l:List Rs,Rh (iP l)=some l
 |[]=>rfl
 |x::l=>by simp[iP,Rh,Hv l,x.h0,x.h1]
theorem Dd:∀{c:List D} {l:List Rs},Rh c=some l→c=iP l
 |[],l,h=>by cases h;rfl
 |[_],l,h=>by
  unfold Rh at h
  split at h
  ·rename_i he;cases he
  ·rename_i he;cases he
  ·cases h
 |d::e::c,l,h=>by
  unfold Rh at h
  split at h
  ·rename_i he;cases he
  ·rename_i a b m he;cases he
   split at h
   ·rename_i r h1 h2 h3
    split at h
    ·cases h;rw[Dd h3];rfl
    ·cases h
   ·cases h
  ·cases h
theorem ti:∀l:List Rs,(iP l).length=2*l.length
 |[]=>rfl
 |x::l=>by simp[iP,ti l];omega
theorem yC:∀(l:List Rs) (i:Nat) x,l[i]?=some x→(iP l)[2*i]?=some (.int .i32 x.lo)∧(iP l)[2*i+1]?=some (.int .i32 x.hi)
 |[],i,x,h=>by simp at h
 |y::l,0,x,h=>by simp at h;subst h;exact⟨rfl,rfl⟩
 |y::l,i+1,x,h=>by
  have:=yC l i x (by simpa using h)
  simpa[iP,show 2*(i+1)=2*i+1+1 by omega] using this
theorem JP (l:List Rs) (j:Nat) (hj:j<2*l.length):∃x,l[j/2]?=some x∧(iP l)[j]?=some (.int .i32 (if j %2=0 then x.lo else x.hi)):=by
 refine⟨l[j/2]'(by omega),List.getElem?_eq_getElem _,?_⟩;obtain⟨h1,h2⟩:=yC l (j/2) _ (List.getElem?_eq_getElem (by omega))
 rcases Nat.mod_two_eq_zero_or_one j with h|h
 ·rw[if_pos h,←h1];congr 1;omega
 ·rw[if_neg (by omega),←h2];congr 1;omega
theorem AU:∀l:List Rs,refs (iP l)=0
 |[]=>rfl
 |x::l=>by simp[iP,refs,D.ref,AU l]
noncomputable def Rb (st:St) (k aE off len:Nat) (l:List Rs):Option (D×St):=
 match decide (l.length=len∧1≤len∧len<1099511627776) with
 |true=>match st.wr k aE off (iP (srt l)) with
  |some ai=>some (.tup [],ai)
  |none=>none
 |false=>none
noncomputable def IM:List D→St→Option (D×St)
 |[.nul,.fn 252 []],st=>some (.tup [],st)
 |[.win k aE off len 2,.fn 252 []],st=>match st.ib k aE with
  |some (_,c)=>match Rh ((c.drop off).take (2*len)) with
   |some l=>Rb st k aE off len l
   |none=>none
  |none=>none
 |_,_=>none
theorem zH {ds:List D} {st:St} {r:D×St} (h:IM ds st=some r):(ds=[.nul,.fn 252 []]∧r=(.tup [],st))∨
  ∃k aE off ar c l,ds=[.win k aE off l.length 2,.fn 252 []]∧st.ib k aE=some (ar,c)∧(c.drop off).take (2*l.length)=iP l∧1≤l.length∧l.length<1099511627776∧st.wr k aE off (iP (srt l))=some r.2∧r.1=.tup []:=by
 unfold IM at h
 split at h
 ·cases h;exact .inl ⟨rfl,rfl⟩
 ·rename_i vZ k aE off len;right
  split at h
  ·rename_i ar c hm
   split at h
   ·rename_i l hl;unfold Rb at h
    split at h
    ·rename_i hd;have hd:=of_decide_eq_true hd
     split at h
     ·rename_i ai hw;cases h;obtain⟨rfl,h1,h2⟩:=hd;exact⟨k,aE,off,ar,c,l,rfl,hm,Dd hl,h1,h2,hw,rfl⟩
     ·cases h
    ·cases h
   ·cases h
  ·cases h
 ·cases h
theorem OR:(match dQ pZ 60 251 [.nul,.fn 252 []] ⟨[],0,0⟩ with|some (.tup [],⟨[],_,_⟩)=>true|_=>false)=true:=by kernel_rfl
theorem Lv {w w':World} {st:St} {β:Nat→Option (Nat×Nat)} {Z:Nat→Prop} (h:jW w st β Z) (hb:Below w.heap.size w w'):Nx w st β Z w' st β Z:=by
 have hq:Quiet w w':=fun b gx=>hb.block b gx
 have hk:fq w (st.x β Z) w' (st.x β Z):=
  ⟨fun _ p hp=>⟨p,hp⟩,fun b hb=>⟨hb,hq b (h.zl b hb)⟩,fun _ c _ _ hc=>⟨c,hc,γ _⟩,fun k _ _ _ b base hb=>⟨hb,gg (hq b (h.lt k b base hb))⟩⟩
 exact⟨⟨h.dom,fun k b base gx=>δ (h.lt k b base gx) hb.size,h.inj,h.zd,fun b gx=>δ (h.zl b gx) hb.size,fun k b base bx gx jm=>(h.box k b base bx gx jm).cw hk (hq b (h.lt k b base gx)),h.flr,h.ro⟩,hk,
  ⟨hb.os,hb.tape,hb.output,hb.size,fun b gx _=>hq b gx⟩,fun _ _ base hb=>.inl ⟨base,hb⟩,fun _ hz=>.inl hz,γ _,rfl,rfl,fun _ _=>⟨rfl,rfl⟩,fun _ _ h=>⟨h,rfl⟩⟩
theorem Ox (hv:pZ.Ok Tryz.prog∧pZ.l_∧lb Tryz.prog pZ (gK pZ)) {pv:Pv} (du:ny pv 251=false):iE Tryz.prog pv 251 IM:=by
 refine⟨fun ds st r hp=>⟨Tryz.f251,_,Tryz.func251,rfl,by decide⟩,fun ds st d ai hp w β Z us jB hle ha=>?_,fun ds st d ai hp hr=>(by rw[du] at hr;cases hr),fun ds st d ai hp=>?_⟩
 ·rcases zH hp with⟨rfl,hr⟩|⟨k,aE,off,ar,c,l,rfl,hm,hl,hn,CA,hw,hd⟩
  ·cases hr;have hs:=OR
   split at hs
   ·rename_i a b he;refine(rJ hv he rfl rfl st w β Z us jB hle ha).mono fun e w'=>?_;rintro⟨v,β',Z',h1,h2,h3,h4⟩;exact⟨v,β',Z',h1,h2,h3,fun _=>h4⟩
   ·cases hs
  ·obtain⟨u,v,rfl⟩:∃u v,us=[u,v]:=by
    match us,hle with
    |[u,v],_=>exact⟨u,v,rfl⟩
   obtain⟨a,cap,rfl,oJ,_,_,mB⟩:=gS (ha 0 _ u rfl rfl);obtain⟨vs,rfl,Ka,_⟩:=CL (ha 1 _ v rfl rfl);have Ka:vs=[]:=List.length_eq_zero_iff.1 Ka.symm;subst Ka;obtain⟨b,base,sz,hb,hsz,hor⟩:=mB (eD hm).2;obtain⟨rfl,kL⟩:=hor.resolve_left (by omega);obtain⟨cs,el,fr,r1,r2,r3,r4⟩:=jB.row hm hb
   have V3:∀(i:Nat) x,l[i]?=some x→c[off+2*i]?=some (.int .i32 x.lo)∧c[off+(2*i+1)]?=some (.int .i32 x.hi):=by
    intro i x hx;have hi:i<l.length:=(List.getElem?_eq_some_iff.1 hx).1;obtain⟨h1,h2⟩:=yC l i x hx;rw[←hl,List.getElem?_take,if_pos (by omega),List.getElem?_drop] at h1 h2;exact⟨h1,h2⟩
   have HU:=sort_calls b (base+off) cap l w r1 r3.2 (fun i x hx=>by
    obtain⟨h1,h2⟩:=V3 i x hx;obtain⟨u1,a1,_,c1⟩:=r4 _ _ h1;obtain⟨u2,a2,_,c2⟩:=r4 _ _ h2;have:=dW c1;subst this;have:=dW c2;subst this
    exact⟨by rw[←a1];congr 1;omega,by rw[←a2];congr 1;omega⟩) (by omega)
   have hperm:=(srt_facts l).1;have kX:(srt l).length=l.length:=hperm.length_eq;refine HU.mono ?_;rintro e w' ⟨rfl,cs',g1,g2,g3,g4,g5,g6,g7,g8⟩
   have hwr:Nx w st β Z (wput w b (.cells cs' el fr)) ai β Z:=by
    unfold St.wr at hw;rw[hm] at hw;simp only at hw
    split at hw
    ·rename_i hc;have jO:=Option.some.inj hw;rw[←jO]
     have hx:=Nx.write (a':=ar) (rb:=aE) (c':=setMany c off (iP (srt l))) (eL:=base) jB hm hb (gq hc.2) (γ _) (fun _=>rfl) r1 (cs':=cs') g1 (by rw[fN];exact r2) (fun j d hd=>by
      rw[mq (iP (srt l)) c off j hc.1] at hd
      split at hd
      ·rename_i hj;rw[ti,kX] at hj;obtain⟨x,hx1,Jm⟩:=JP (srt l) (j-off) (by omega);rw[Jm] at hd;cases hd;obtain⟨k1,k2⟩:=g3 _ _ hx1
       split
       ·refine⟨.int .i32 x.lo,?_,rfl,.im _ _ (.int _ _)⟩;rw[←k1];congr 1;omega
       ·refine⟨.int .i32 x.hi,?_,rfl,.im _ _ (.int _ _)⟩;rw[←k2];congr 1;omega
      ·rename_i hj;rw[ti,kX] at hj;rw[g2 _ (by omega)]
       exact r4 j d hd)
     have e1:(fun i=>if i=k then some (b,base) else β i)=β:=by
      funext i;split
      ·rename_i e;subst e;exact hb.symm
      ·rfl
     rw[e1] at hx;exact hx
    ·cases hw
   have Av:(wput w b (.cells cs' el fr)).heap.size=w.heap.size:=by simp[wput]
   have SU:Below (wput w b (.cells cs' el fr)).heap.size (wput w b (.cells cs' el fr)) w':=⟨g4.symm,g5.symm,g6.symm,by rw[Av];exact g7,fun k hk=>g8 k (by rw[Av] at hk;exact hk)⟩
   refine⟨_,β,Z,rfl,hwr.trans (Lv hwr.sim SU),?_,fun h=>by rw[du] at h;cases h⟩;simp only at hd;rw[hd];exact .im _ _ (.tup [] [] rfl fun q c v hc hv=>by simp at hc)
 ·rcases zH hp with⟨rfl,hr⟩|⟨k,aE,off,ar,c,l,rfl,hm,hl,hn,CA,hw,hd⟩
  ·cases hr;exact gv.refl _
  ·exact rX hw
end Go.Proofs.YtecjacicdpejaaaGreat
