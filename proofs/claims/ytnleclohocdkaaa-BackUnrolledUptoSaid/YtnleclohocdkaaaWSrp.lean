/-
 slices.SortFunc on ranges, given to V.
-/
import Derived.Test.YtnleclohocdkaaaWSrt
import Derived.Test.YtnleclohocdkaaaWView
import Derived.Test.YtnleclohocdkaaaWM2
import Derived.KernelRfl
set_option linter.unusedSimpArgs false
set_option linter.unusedVariables false
namespace Go.Proofs.Ytnleclohocdkaaa
open Go.V Go Go.RowKit
def FF:List D→Option (List Rs)
 |[]=>some []
 | .int .i32 a::.int .i32 b::l=>match decide (0≤a),decide (a≤1114111),FF l with
  |true,true,some r=>if h:0≤a∧a≤1114111 then some (⟨a,b,h.1,h.2⟩::r) else none
  |_,_,_=>none
 |_=>none
def e_:List Rs→List D
 |[]=>[]
 |x::l=>.int .i32 x.lo::.int .i32 x.hi::e_ l
theorem y4:∀l:List Rs,FF (e_ l)=some l
 |[]=>rfl
 |x::l=>by simp[e_,FF,y4 l,x.h0,x.h1]
theorem vf:∀{c:List D} {l:List Rs},FF c=some l→c=e_ l
 |[],l,h=>by cases h;rfl
 |[_],l,h=>by
  unfold FF at h
  split at h
  ·rename_i he;cases he
  ·rename_i he;cases he
  ·cases h
 |d::e::c,l,h=>by
  unfold FF at h
  split at h
  ·rename_i he;cases he
  ·rename_i a b m he;cases he
   split at h
   ·rename_i r h1 h2 h3
    split at h
    ·cases h;rw[vf h3];rfl
    ·cases h
   ·cases h
  ·cases h
theorem mB:∀l:List Rs,(e_ l).length=2*l.length
 |[]=>rfl
 |x::l=>by simp[e_,mB l];omega
theorem qM:∀(l:List Rs) (i:Nat) x,l[i]?=some x→(e_ l)[2*i]?=some (.int .i32 x.lo)∧(e_ l)[2*i+1]?=some (.int .i32 x.hi)
 |[],i,x,h=>by simp at h
 |y::l,0,x,h=>by simp at h;subst h;exact⟨rfl,rfl⟩
 |y::l,i+1,x,h=>by
  have:=qM l i x (by simpa using h)
  simpa[e_,show 2*(i+1)=2*i+1+1 by omega] using this
theorem A9 (l:List Rs) (j:Nat) (hj:j<2*l.length):∃x,l[j/2]?=some x∧(e_ l)[j]?=some (.int .i32 (if j %2=0 then x.lo else x.hi)):=by
 refine⟨l[j/2]'(by omega),List.getElem?_eq_getElem _,?_⟩;obtain⟨h1,h2⟩:=qM l (j/2) _ (List.getElem?_eq_getElem (by omega))
 rcases Nat.mod_two_eq_zero_or_one j with h|h
 ·rw[if_pos h,←h1];congr 1;omega
 ·rw[if_neg (by omega),←h2];congr 1;omega
theorem sR:∀l:List Rs,refs (e_ l)=0
 |[]=>rfl
 |x::l=>by simp[e_,refs,D.ref,sR l]
noncomputable def FD (st:St) (k ay off len:Nat) (l:List Rs):Option (D×St):=
 match decide (l.length=len∧1≤len∧len<1099511627776) with
 |true=>match st.wr k ay off (e_ (srt l)) with
  |some ag=>some (.tup [],ag)
  |none=>none
 |false=>none
noncomputable def Ai:List D→St→Option (D×St)
 |[.nul,.fn 116 []],st=>some (.tup [],st)
 |[.win k ay off len 2,.fn 116 []],st=>match st.eI k ay with
  |some (_,c)=>match FF ((c.drop off).take (2*len)) with
   |some l=>FD st k ay off len l
   |none=>none
  |none=>none
 |_,_=>none
theorem rT {ds:List D} {st:St} {r:D×St} (h:Ai ds st=some r):(ds=[.nul,.fn 116 []]∧r=(.tup [],st))∨
  ∃k ay off ar c l,ds=[.win k ay off l.length 2,.fn 116 []]∧st.eI k ay=some (ar,c)∧(c.drop off).take (2*l.length)=e_ l∧1≤l.length∧l.length<1099511627776∧st.wr k ay off (e_ (srt l))=some r.2∧r.1=.tup []:=by
 unfold Ai at h
 split at h
 ·cases h;exact .inl ⟨rfl,rfl⟩
 ·rename_i uP k ay off len;right
  split at h
  ·rename_i ar c hm
   split at h
   ·rename_i l hl;unfold FD at h
    split at h
    ·rename_i hd;have hd:=of_decide_eq_true hd
     split at h
     ·rename_i ag hw;cases h;obtain⟨rfl,h1,h2⟩:=hd;exact⟨k,ay,off,ar,c,l,rfl,hm,vf hl,h1,h2,hw,rfl⟩
     ·cases h
    ·cases h
   ·cases h
  ·cases h
 ·cases h
theorem D6:(match aZ eY 60 115 [.nul,.fn 116 []] ⟨[],0,0⟩ with|some (.tup [],⟨[],_,_⟩)=>true|_=>false)=true:=by kernel_rfl
theorem Ce {w w':World} {st:St} {β:Nat→Option (Nat×Nat)} {Z:Nat→Prop} (h:fX w st β Z) (hb:Below w.heap.size w w'):Nx w st β Z w' st β Z:=by
 have hq:Quiet w w':=fun b ec=>hb.block b ec
 have hk:dc w (st.x β Z) w' (st.x β Z):=
  ⟨fun _ p hp=>⟨p,hp⟩,fun b hb=>⟨hb,hq b (h.zl b hb)⟩,fun _ c _ _ hc=>⟨c,hc,Nat.le_refl _⟩,fun k _ _ _ b base hb=>⟨hb,dD (hq b (h.lt k b base hb))⟩⟩
 exact⟨⟨h.dom,fun k b base ec=>Nat.lt_of_lt_of_le (h.lt k b base ec) hb.size,h.inj,h.zd,fun b ec=>Nat.lt_of_lt_of_le (h.zl b ec) hb.size,fun k b base bx ec gL=>(h.box k b base bx ec gL).cy hk (hq b (h.lt k b base ec)),h.flr,h.ro⟩,hk,
  ⟨hb.os,hb.tape,hb.output,hb.size,fun b ec _=>hq b ec⟩,fun _ _ base hb=>.inl ⟨base,hb⟩,fun _ hz=>.inl hz,Nat.le_refl _,rfl,rfl,fun _ _=>⟨rfl,rfl⟩,fun _ _ h=>⟨h,rfl⟩⟩
theorem DU (hv:eY.Ok Try.prog∧eY.gf∧f_ Try.prog eY (dt eY)) {pv:Pv} (fY:iJ pv 115=false):dg Try.prog pv 115 Ai:=by
 refine⟨fun ds st r hp=>⟨Try.f115,_,Try.func115,rfl,by decide⟩,fun ds st d ag hp w β Z us fF hle ha=>?_,fun ds st d ag hp hr=>(by rw[fY] at hr;cases hr),fun ds st d ag hp=>?_⟩
 ·rcases rT hp with⟨rfl,hr⟩|⟨k,ay,off,ar,c,l,rfl,hm,hl,hn,hY,hw,hd⟩
  ·cases hr;have hs:=D6
   split at hs
   ·rename_i a b he;refine(lQ hv he rfl rfl st w β Z us fF hle ha).mono fun e w'=>?_;rintro⟨v,β',Z',h1,h2,h3,h4⟩;exact⟨v,β',Z',h1,h2,h3,fun _=>h4⟩
   ·cases hs
  ·obtain⟨u,v,rfl⟩:∃u v,us=[u,v]:=by
    match us,hle with
    |[u,v],_=>exact⟨u,v,rfl⟩
   obtain⟨a,cap,rfl,jz,_,_,iB⟩:=ej (ha 0 _ u rfl rfl);obtain⟨vs,rfl,Bn,_⟩:=uL (ha 1 _ v rfl rfl);have Bn:vs=[]:=List.length_eq_zero_iff.1 Bn.symm;subst Bn;obtain⟨b,base,sz,hb,hsz,Ll⟩:=iB (cM hm).2;obtain⟨rfl,j6⟩:=Ll.resolve_left (by omega);obtain⟨cs,el,fr,r1,r2,r3,r4⟩:=fF.row hm hb
   have IM:∀(i:Nat) x,l[i]?=some x→c[off+2*i]?=some (.int .i32 x.lo)∧c[off+(2*i+1)]?=some (.int .i32 x.hi):=by
    intro i x hx;have hi:i<l.length:=(List.getElem?_eq_some_iff.1 hx).1;obtain⟨h1,h2⟩:=qM l i x hx;rw[←hl,List.getElem?_take,if_pos (by omega),List.getElem?_drop] at h1 h2;exact⟨h1,h2⟩
   have zo:=sort_calls b (base+off) cap l w r1 r3.2 (fun i x hx=>by
    obtain⟨h1,h2⟩:=IM i x hx;obtain⟨u1,a1,_,c1⟩:=r4 _ _ h1;obtain⟨u2,a2,_,c2⟩:=r4 _ _ h2;have:=cz c1;subst this;have:=cz c2;subst this
    exact⟨by rw[←a1];congr 1;omega,by rw[←a2];congr 1;omega⟩) (by omega)
   have hperm:=(srt_facts l).1;have lB:(srt l).length=l.length:=hperm.length_eq;refine zo.mono ?_;rintro e w' ⟨rfl,cs',g1,g2,g3,g4,g5,g6,g7,g8⟩
   have hwr:Nx w st β Z (wput w b (.cells cs' el fr)) ag β Z:=by
    unfold St.wr at hw;rw[hm] at hw;simp only at hw
    split at hw
    ·rename_i hc;have gv:=Option.some.inj hw;rw[←gv]
     have hx:=Nx.write (a':=ar) (lv:=ay) (c':=setMany c off (e_ (srt l))) (cW:=base) fF hm hb (dJ hc.2) (Nat.le_refl _) (fun _=>rfl) r1 (cs':=cs') g1 (by rw[dq];exact r2) (fun j d hd=>by
      rw[iN (e_ (srt l)) c off j hc.1] at hd
      split at hd
      ·rename_i hj;rw[mB,lB] at hj;obtain⟨x,hx1,KC⟩:=A9 (srt l) (j-off) (by omega);rw[KC] at hd;cases hd;obtain⟨k1,k2⟩:=g3 _ _ hx1
       split
       ·refine⟨.int .i32 x.lo,?_,rfl,.im _ _ (.int _ _)⟩;rw[←k1];congr 1;omega
       ·refine⟨.int .i32 x.hi,?_,rfl,.im _ _ (.int _ _)⟩;rw[←k2];congr 1;omega
      ·rename_i hj;rw[mB,lB] at hj;rw[g2 _ (by omega)]
       exact r4 j d hd)
     have e1:(fun i=>if i=k then some (b,base) else β i)=β:=by
      funext i;split
      ·rename_i e;subst e;exact hb.symm
      ·rfl
     rw[e1] at hx;exact hx
    ·cases hw
   have zp:(wput w b (.cells cs' el fr)).heap.size=w.heap.size:=by simp[wput]
   have Gv:Below (wput w b (.cells cs' el fr)).heap.size (wput w b (.cells cs' el fr)) w':=⟨g4.symm,g5.symm,g6.symm,by rw[zp];exact g7,fun k hk=>g8 k (by rw[zp] at hk;exact hk)⟩
   refine⟨_,β,Z,rfl,hwr.trans (Ce hwr.sim Gv),?_,fun h=>by rw[fY] at h;cases h⟩;simp only at hd;rw[hd];exact .im _ _ (.tup [] [] rfl fun q c v hc hv=>by simp at hc)
 ·rcases rT hp with⟨rfl,hr⟩|⟨k,ay,off,ar,c,l,rfl,hm,hl,hn,hY,hw,hd⟩
  ·cases hr;exact dK.refl _
  ·exact l6 hw
end Go.Proofs.Ytnleclohocdkaaa
