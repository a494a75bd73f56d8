/-
 slices.SortFunc on ranges, given to V.
-/
import Derived.Test.YtkbacjpologjbaaGreatWSrt
import Derived.Test.YtkbacjpologjbaaGreatWView
import Derived.Test.YtkbacjpologjbaaGreatWM2
import Derived.KernelRfl
set_option linter.unusedSimpArgs false
set_option linter.unusedVariables false
open Nat renaming le_refl→γ,lt_of_lt_of_le→δ
namespace Go.Proofs.YtkbacjpologjbaaGreat
open Go.V Go Go.RowKit
def Nu:List D→Option (List Rs)
 |[]=>some []
 | .int .i32 a::.int .i32 b::l=>match decide (0≤a),decide (a≤1114111),Nu l with
  |true,true,some r=>if h:0≤a∧a≤1114111 then some (⟨a,b,h.1,h.2⟩::r) else none
  |_,_,_=>none
 |_=>none
def gG:List Rs→List D
 |[]=>[]
 |x::l=>.int .i32 x.lo::.int .i32 x.hi::gG l
theorem Ej:∀l:List Rs,Nu (gG l)=some l
 |[]=>rfl
 |x::l=>by simp[gG,Nu,Ej l,x.h0,x.h1]
theorem Ay:∀{c:List D} {l:List Rs},Nu c=some l→c=gG l
 |[],l,h=>by cases h;rfl
 |[_],l,h=>by
  unfold Nu at h
  split at h
  ·rename_i he;cases he
  ·rename_i he;cases he
  ·cases h
 |d::e::c,l,h=>by
  unfold Nu at h
  split at h
  ·rename_i he;cases he
  ·rename_i a b m he;cases he
   split at h
   ·rename_i r h1 h2 h3
    split at h
    ·cases h;rw[Ay h3];rfl
    ·cases h
   ·cases h
  ·cases h
theorem pX:∀l:List Rs,(gG l).length=2*l.length
 |[]=>rfl
 |x::l=>by simp[gG,pX l];omega
theorem vN:∀(l:List Rs) (i:Nat) x,l[i]?=some x→(gG l)[2*i]?=some (.int .i32 x.lo)∧(gG l)[2*i+1]?=some (.int .i32 x.hi)
 |[],i,x,h=>by simp at h
 |y::l,0,x,h=>by simp at h;subst h;exact⟨rfl,rfl⟩
 |y::l,i+1,x,h=>by
  have:=vN l i x (by simpa using h)
  simpa[gG,show 2*(i+1)=2*i+1+1 by omega] using this
theorem Gs (l:List Rs) (j:Nat) (hj:j<2*l.length):∃x,l[j/2]?=some x∧(gG l)[j]?=some (.int .i32 (if j %2=0 then x.lo else x.hi)):=by
 refine⟨l[j/2]' z0,List.getElem?_eq_getElem _,?_⟩;obtain⟨h1,h2⟩:=vN l (j/2) _ (List.getElem?_eq_getElem z0)
 rcases Nat.mod_two_eq_zero_or_one j with h|h
 ·rw[if_pos h,←h1];congr 1;omega
 ·rw[if_neg z0,←h2];congr 1;omega
theorem xP:∀l:List Rs,refs (gG l)=0
 |[]=>rfl
 |x::l=>by simp[gG,refs,D.ref,xP l]
noncomputable def Nq (st:St) (k aB off len:Nat) (l:List Rs):Option (D×St):=
 match decide (l.length=len∧1≤len∧len<1099511627776) with
 |true=>match st.wr k aB off (gG (srt l)) with
  |some ah=>some (.tup [],ah)
  |none=>none
 |false=>none
noncomputable def Fy:List D→St→Option (D×St)
 |[.nul,.fn 143 []],st=>some (.tup [],st)
 |[.win k aB off len 2,.fn 143 []],st=>match st.fX k aB with
  |some (_,c)=>match Nu ((c.drop off).take (2*len)) with
   |some l=>Nq st k aB off len l
   |none=>none
  |none=>none
 |_,_=>none
theorem wW {ds:List D} {st:St} {r:D×St} (h:Fy ds st=some r):(ds=[.nul,.fn 143 []]∧r=(.tup [],st))∨
  ∃k aB off ar c l,ds=[.win k aB off l.length 2,.fn 143 []]∧st.fX k aB=some (ar,c)∧(c.drop off).take (2*l.length)=gG l∧1≤l.length∧l.length<1099511627776∧st.wr k aB off (gG (srt l))=some r.2∧r.1=.tup []:=by
 unfold Fy at h
 split at h
 ·cases h;exact .inl ⟨rfl,rfl⟩
 ·rename_i tH k aB off len;right
  split at h
  ·rename_i ar c hm
   split at h
   ·rename_i l hl;unfold Nq at h
    split at h
    ·rename_i hd;have hd:=of_decide_eq_true hd
     split at h
     ·rename_i ah hw;cases h;obtain⟨rfl,h1,h2⟩:=hd;exact⟨k,aB,off,ar,c,l,rfl,hm,Ay hl,h1,h2,hw,rfl⟩
     ·cases h
    ·cases h
   ·cases h
  ·cases h
 ·cases h
theorem K9:(match cQ nQ 60 142 [.nul,.fn 143 []] ⟨[],0,0⟩ with|some (.tup [],⟨[],_,_⟩)=>true|_=>false)=true:=by kernel_rfl
theorem H4 {w w':World} {st:St} {β:Nat→Option (Nat×Nat)} {Z:Nat→Prop} (h:iH w st β Z) (hb:Below w.heap.size w w'):Nx w st β Z w' st β Z:=by
 have hq:Quiet w w':=fun b eW=>hb.block b eW
 have hk:dS w (st.x β Z) w' (st.x β Z):=
  ⟨fun _ p hp=>⟨p,hp⟩,fun b hb=>⟨hb,hq b (h.zl b hb)⟩,fun _ c _ _ hc=>⟨c,hc,γ _⟩,fun k _ _ _ b base hb=>⟨hb,eM (hq b (h.lt k b base hb))⟩⟩
 exact⟨⟨h.dom,fun k b base eW=>δ (h.lt k b base eW) hb.size,h.inj,h.zd,fun b eW=>δ (h.zl b eW) hb.size,fun k b base bx eW ic=>(h.box k b base bx eW ic).cw hk (hq b (h.lt k b base eW)),h.flr,h.ro⟩,hk,
  ⟨hb.os,hb.tape,hb.output,hb.size,fun b eW _=>hq b eW⟩,fun _ _ base hb=>.inl ⟨base,hb⟩,fun _ hz=>.inl hz,γ _,rfl,rfl,fun _ _=>⟨rfl,rfl⟩,fun _ _ h=>⟨h,rfl⟩⟩
theorem KM (hv:nQ.Ok Tryz.prog∧nQ.ka∧ju Tryz.prog nQ (fv nQ)) {pv:Pv} (db:lJ pv 142=false):gr Tryz.prog pv 142 Fy:=by
 refine⟨fun ds st r hp=>⟨Tryz.f142,_,Tryz.func142,rfl,by decide⟩,fun ds st d ah hp w β Z us hY hle ha=>?_,fun ds st d ah hp hr=>(by rw[db] at hr;cases hr),fun ds st d ah hp=>?_⟩
 ·rcases wW hp with⟨rfl,hr⟩|⟨k,aB,off,ar,c,l,rfl,hm,hl,hn,IP,hw,hd⟩
  ·cases hr;have hs:=K9
   split at hs
   ·rename_i a b he;refine(oJ hv he rfl rfl st w β Z us hY hle ha).mono fun e w'=>?_;rintro⟨v,β',Z',h1,h2,h3,h4⟩;exact⟨v,β',Z',h1,h2,h3,fun _=>h4⟩
   ·cases hs
  ·obtain⟨u,v,rfl⟩:∃u v,us=[u,v]:=by
    match us,hle with
    |[u,v],_=>exact⟨u,v,rfl⟩
   obtain⟨a,cap,rfl,nr,_,_,kH⟩:=fJ (ha 0 _ u rfl rfl);obtain⟨vs,rfl,GM,_⟩:=Aa (ha 1 _ v rfl rfl);have GM:vs=[]:=List.length_eq_zero_iff.1 GM.symm;subst GM;obtain⟨b,base,sz,hb,hsz,Vr⟩:=kH (dr hm).2;obtain⟨rfl,jI⟩:=Vr.resolve_left z0;obtain⟨cs,el,fr,r1,r2,r3,r4⟩:=hY.row hm hb
   have RS:∀(i:Nat) x,l[i]?=some x→c[off+2*i]?=some (.int .i32 x.lo)∧c[off+(2*i+1)]?=some (.int .i32 x.hi):=by
    intro i x hx;have hi:i<l.length:=(List.getElem?_eq_some_iff.1 hx).1;obtain⟨h1,h2⟩:=vN l i x hx;rw[←hl,List.getElem?_take,if_pos z0,List.getElem?_drop] at h1 h2;exact⟨h1,h2⟩
   have EM:=sort_calls b (base+off) cap l w r1 r3.2 (fun i x hx=>by
    obtain⟨h1,h2⟩:=RS i x hx;obtain⟨u1,a1,_,c1⟩:=r4 _ _ h1;obtain⟨u2,a2,_,c2⟩:=r4 _ _ h2;have:=cZ c1;subst this;have:=cZ c2;subst this
    exact⟨by rw[←a1];congr 1;omega,by rw[←a2];congr 1;omega⟩) z0
   have hperm:=(srt_facts l).1;have jS:(srt l).length=l.length:=hperm.length_eq;refine EM.mono ?_;rintro e w' ⟨rfl,cs',g1,g2,g3,g4,g5,g6,g7,g8⟩
   have hwr:Nx w st β Z (wput w b (.cells cs' el fr)) ah β Z:=by
    unfold St.wr at hw;rw[hm] at hw;simp only at hw
    split at hw
    ·rename_i hc;have iA:=Option.some.inj hw;rw[←iA]
     have hx:=Nx.write (a':=ar) (oo:=aB) (c':=setMany c off (gG (srt l))) (dx:=base) hY hm hb (eS hc.2) (γ _) (fun _=>rfl) r1 (cs':=cs') g1 (by rw[eu];exact r2) (fun j d hd=>by
      rw[ku (gG (srt l)) c off j hc.1] at hd
      split at hd
      ·rename_i hj;rw[pX,jS] at hj;obtain⟨x,hx1,NX⟩:=Gs (srt l) (j-off) z0;rw[NX] at hd;cases hd;obtain⟨k1,k2⟩:=g3 _ _ hx1
       split
       ·refine⟨.int .i32 x.lo,?_,rfl,.im _ _ (.int _ _)⟩;rw[←k1];congr 1;omega
       ·refine⟨.int .i32 x.hi,?_,rfl,.im _ _ (.int _ _)⟩;rw[←k2];congr 1;omega
      ·rename_i hj;rw[pX,jS] at hj;rw[g2 _ z0]
       exact r4 j d hd)
     have e1:(fun i=>if i=k then some (b,base) else β i)=β:=by
      funext i;split
      ·rename_i e;subst e;exact hb.symm
      ·rfl
     rw[e1] at hx;exact hx
    ·cases hw
   have Bp:(wput w b (.cells cs' el fr)).heap.size=w.heap.size:=by simp[wput]
   have OY:Below (wput w b (.cells cs' el fr)).heap.size (wput w b (.cells cs' el fr)) w':=⟨g4.symm,g5.symm,g6.symm,by rw[Bp];exact g7,fun k hk=>g8 k (by rw[Bp] at hk;exact hk)⟩
   refine⟨_,β,Z,rfl,hwr.trans (H4 hwr.sim OY),?_,fun h=>by rw[db] at h;cases h⟩;simp only at hd;rw[hd];exact .im _ _ (.tup [] [] rfl fun q c v hc hv=>by simp at hc)
 ·rcases wW hp with⟨rfl,hr⟩|⟨k,aB,off,ar,c,l,rfl,hm,hl,hn,IP,hw,hd⟩
  ·cases hr;exact eV.refl _
  ·exact o8 hw
end Go.Proofs.YtkbacjpologjbaaGreat
