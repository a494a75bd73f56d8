/-
 slices.SortFunc on ranges, given to V.
-/
import Derived.Test.YtbdnabmmlbiomaaGreatXSrt
import Derived.Test.YtbdnabmmlbiomaaGreatXView
import Derived.Test.YtbdnabmmlbiomaaGreatXM2
import Derived.KernelRfl
set_option linter.unusedSimpArgs false
set_option linter.unusedVariables false
namespace Go.Proofs.YtbdnabmmlbiomaaGreat
open Go.V Go Go.RowKit
def Q3:List D→Option (List Rs)
 |[]=>some []
 | .int .i32 a::.int .i32 b::l=>match decide (0≤a),decide (a≤1114111),Q3 l with
  |true,true,some r=>if h:0≤a∧a≤1114111 then some (⟨a,b,h.1,h.2⟩::r) else none
  |_,_,_=>none
 |_=>none
def fQ:List Rs→List D
 |[]=>[]
 |x::l=>.int .i32 x.lo::.int .i32 x.hi::fQ l
theorem A5:∀l:List Rs,Q3 (fQ l)=some l
 |[]=>rfl
 |x::l=>by simp[fQ,Q3,A5 l,x.h0,x.h1]
theorem xg:∀{c:List D} {l:List Rs},Q3 c=some l→c=fQ l
 |[],l,h=>by cases h;rfl
 |[_],l,h=>by
  unfold Q3 at h
  split at h
  ·rename_i he;cases he
  ·rename_i he;cases he
  ·cases h
 |d::e::c,l,h=>by
  unfold Q3 at h
  split at h
  ·rename_i he;cases he
  ·rename_i a b m he;cases he
   split at h
   ·rename_i r h1 h2 h3
    split at h
    ·cases h;rw[xg h3];rfl
    ·cases h
   ·cases h
  ·cases h
theorem nY:∀l:List Rs,(fQ l).length=2*l.length
 |[]=>rfl
 |x::l=>by simp[fQ,nY l];omega
theorem sW:∀(l:List Rs) (i:Nat) x,l[i]?=some x→(fQ l)[2*i]?=some (.int .i32 x.lo)∧(fQ l)[2*i+1]?=some (.int .i32 x.hi)
 |[],i,x,h=>by simp at h
 |y::l,0,x,h=>by simp at h;subst h;exact⟨rfl,rfl⟩
 |y::l,i+1,x,h=>by
  have:=sW l i x (by simpa using h)
  simpa[fQ,show 2*(i+1)=2*i+1+1 by omega] using this
theorem CQ (l:List Rs) (j:Nat) (hj:j<2*l.length):∃x,l[j/2]?=some x∧(fQ l)[j]?=some (.int .i32 (if j %2=0 then x.lo else x.hi)):=by
 refine⟨l[j/2]'(by omega),List.getElem?_eq_getElem _,?_⟩;obtain⟨h1,h2⟩:=sW l (j/2) _ (List.getElem?_eq_getElem (by omega))
 rcases Nat.mod_two_eq_zero_or_one j with h|h
 ·rw[if_pos h,←h1];congr 1;omega
 ·rw[if_neg (by omega),←h2];congr 1;omega
theorem uQ:∀l:List Rs,refs (fQ l)=0
 |[]=>rfl
 |x::l=>by simp[fQ,refs,D.ref,uQ l]
noncomputable def NT (st:St) (k aG off len:Nat) (l:List Rs):Option (D×St):=
 match decide (l.length=len∧1≤len∧len<1099511627776) with
 |true=>match st.wr k aG off (fQ (srt l)) with
  |some ai=>some (.tup [],ai)
  |none=>none
 |false=>none
noncomputable def BV:List D→St→Option (D×St)
 |[.nul,.fn 155 []],st=>some (.tup [],st)
 |[.win k aG off len 2,.fn 155 []],st=>match st.fk k aG with
  |some (_,c)=>match Q3 ((c.drop off).take (2*len)) with
   |some l=>NT st k aG off len l
   |none=>none
  |none=>none
 |_,_=>none
theorem tV {ds:List D} {st:St} {r:D×St} (h:BV ds st=some r):(ds=[.nul,.fn 155 []]∧r=(.tup [],st))∨
  ∃k aG off ar c l,ds=[.win k aG off l.length 2,.fn 155 []]∧st.fk k aG=some (ar,c)∧(c.drop off).take (2*l.length)=fQ l∧1≤l.length∧l.length<1099511627776∧st.wr k aG off (fQ (srt l))=some r.2∧r.1=.tup []:=by
 unfold BV at h
 split at h
 ·cases h;exact .inl ⟨rfl,rfl⟩
 ·rename_i AQ k aG off len;right
  split at h
  ·rename_i ar c hm
   split at h
   ·rename_i l hl;unfold NT at h
    split at h
    ·rename_i hd;have hd:=of_decide_eq_true hd
     split at h
     ·rename_i ai hw;cases h;obtain⟨rfl,h1,h2⟩:=hd;exact⟨k,aG,off,ar,c,l,rfl,hm,xg hl,h1,h2,hw,rfl⟩
     ·cases h
    ·cases h
   ·cases h
  ·cases h
 ·cases h
theorem LS:(match c9 a_ 60 154 [.nul,.fn 155 []] ⟨[],0,0⟩ with|some (.tup [],⟨[],_,_⟩)=>true|_=>false)=true:=by kernel_rfl
theorem Ef {w w':World} {st:St} {β:Nat→Option (Nat×Nat)} {Z:Nat→Prop} (h:gI w st β Z) (hb:Below w.heap.size w w'):Nx w st β Z w' st β Z:=by
 have hq:Quiet w w':=fun b eF=>hb.block b eF
 have hk:dK w (st.x β Z) w' (st.x β Z):=
  ⟨fun _ p hp=>⟨p,hp⟩,fun b hb=>⟨hb,hq b (h.zl b hb)⟩,fun _ c _ _ hc=>⟨c,hc,Nat.le_refl _⟩,fun k _ _ _ b base hb=>⟨hb,et (hq b (h.lt k b base hb))⟩⟩
 exact⟨⟨h.dom,fun k b base eF=>Nat.lt_of_lt_of_le (h.lt k b base eF) hb.size,h.inj,h.zd,fun b eF=>Nat.lt_of_lt_of_le (h.zl b eF) hb.size,fun k b base bx eF ir=>(h.box k b base bx eF ir).bd hk (hq b (h.lt k b base eF)),h.flr,h.ro⟩,hk,
  ⟨hb.os,hb.tape,hb.output,hb.size,fun b eF _=>hq b eF⟩,fun _ _ base hb=>.inl ⟨base,hb⟩,fun _ hz=>.inl hz,Nat.le_refl _,rfl,rfl,fun _ _=>⟨rfl,rfl⟩,fun _ _ h=>⟨h,rfl⟩⟩
theorem Gl (hv:a_.Ok Tryz.prog∧a_.jA∧iP Tryz.prog a_ (eZ a_)) {pv:Pv} (eT:j7 pv 154=false):gf Tryz.prog pv 154 BV:=by
 refine⟨fun ds st r hp=>⟨Tryz.f154,_,Tryz.func154,rfl,by decide⟩,fun ds st d ai hp w β Z us gp hle ha=>?_,fun ds st d ai hp hr=>(by rw[eT] at hr;cases hr),fun ds st d ai hp=>?_⟩
 ·rcases tV hp with⟨rfl,hr⟩|⟨k,aG,off,ar,c,l,rfl,hm,hl,hn,R3,hw,hd⟩
  ·cases hr;have hs:=LS
   split at hs
   ·rename_i a b he;refine(mP hv he rfl rfl st w β Z us gp hle ha).mono fun e w'=>?_;rintro⟨v,β',Z',h1,h2,h3,h4⟩;exact⟨v,β',Z',h1,h2,h3,fun _=>h4⟩
   ·cases hs
  ·obtain⟨u,v,rfl⟩:∃u v,us=[u,v]:=by
    match us,hle with
    |[u,v],_=>exact⟨u,v,rfl⟩
   obtain⟨a,cap,rfl,mC,_,_,jv⟩:=eX (ha 0 _ u rfl rfl);obtain⟨vs,rfl,Dd,_⟩:=wN (ha 1 _ v rfl rfl);have Dd:vs=[]:=List.length_eq_zero_iff.1 Dd.symm;subst Dd;obtain⟨b,base,sz,hb,hsz,Yq⟩:=jv (df hm).2;obtain⟨rfl,kY⟩:=Yq.resolve_left (by omega);obtain⟨cs,el,fr,r1,r2,r3,r4⟩:=gp.row hm hb
   have Vg:∀(i:Nat) x,l[i]?=some x→c[off+2*i]?=some (.int .i32 x.lo)∧c[off+(2*i+1)]?=some (.int .i32 x.hi):=by
    intro i x hx;have hi:i<l.length:=(List.getElem?_eq_some_iff.1 hx).1;obtain⟨h1,h2⟩:=sW l i x hx;rw[←hl,List.getElem?_take,if_pos (by omega),List.getElem?_drop] at h1 h2;exact⟨h1,h2⟩
   have Bl:=sort_calls b (base+off) cap l w r1 r3.2 (fun i x hx=>by
    obtain⟨h1,h2⟩:=Vg i x hx;obtain⟨u1,a1,_,c1⟩:=r4 _ _ h1;obtain⟨u2,a2,_,c2⟩:=r4 _ _ h2;have:=cO c1;subst this;have:=cO c2;subst this
    exact⟨by rw[←a1];congr 1;omega,by rw[←a2];congr 1;omega⟩) (by omega)
   have hperm:=(srt_facts l).1;have iE:(srt l).length=l.length:=hperm.length_eq;refine Bl.mono ?_;rintro e w' ⟨rfl,cs',g1,g2,g3,g4,g5,g6,g7,g8⟩
   have hwr:Nx w st β Z (wput w b (.cells cs' el fr)) ai β Z:=by
    unfold St.wr at hw;rw[hm] at hw;simp only at hw
    split at hw
    ·rename_i hc;have gi:=Option.some.inj hw;rw[←gi]
     have hx:=Nx.write (a':=ar) (my:=aG) (c':=setMany c off (fQ (srt l))) (dt:=base) gp hm hb (eD hc.2) (Nat.le_refl _) (fun _=>rfl) r1 (cs':=cs') g1 (by rw[dX];exact r2) (fun j d hd=>by
      rw[jo (fQ (srt l)) c off j hc.1] at hd
      split at hd
      ·rename_i hj;rw[nY,iE] at hj;obtain⟨x,hx1,Rr⟩:=CQ (srt l) (j-off) (by omega);rw[Rr] at hd;cases hd;obtain⟨k1,k2⟩:=g3 _ _ hx1
       split
       ·refine⟨.int .i32 x.lo,?_,rfl,.im _ _ (.int _ _)⟩;rw[←k1];congr 1;omega
       ·refine⟨.int .i32 x.hi,?_,rfl,.im _ _ (.int _ _)⟩;rw[←k2];congr 1;omega
      ·rename_i hj;rw[nY,iE] at hj;rw[g2 _ (by omega)]
       exact r4 j d hd)
     have e1:(fun i=>if i=k then some (b,base) else β i)=β:=by
      funext i;split
      ·rename_i e;subst e;exact hb.symm
      ·rfl
     rw[e1] at hx;exact hx
    ·cases hw
   have xZ:(wput w b (.cells cs' el fr)).heap.size=w.heap.size:=by simp[wput]
   have Sm:Below (wput w b (.cells cs' el fr)).heap.size (wput w b (.cells cs' el fr)) w':=⟨g4.symm,g5.symm,g6.symm,by rw[xZ];exact g7,fun k hk=>g8 k (by rw[xZ] at hk;exact hk)⟩
   refine⟨_,β,Z,rfl,hwr.trans (Ef hwr.sim Sm),?_,fun h=>by rw[eT] at h;cases h⟩;simp only at hd;rw[hd];exact .im _ _ (.tup [] [] rfl fun q c v hc hv=>by simp at hc)
 ·rcases tV hp with⟨rfl,hr⟩|⟨k,aG,off,ar,c,l,rfl,hm,hl,hn,R3,hw,hd⟩
  ·cases hr;exact eE.refl _
  ·exact nr hw
end Go.Proofs.YtbdnabmmlbiomaaGreat
