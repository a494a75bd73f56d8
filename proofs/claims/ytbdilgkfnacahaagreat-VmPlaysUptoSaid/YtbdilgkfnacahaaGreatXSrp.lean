/-
 slices.SortFunc on ranges, given to V.
-/
import Derived.Test.YtbdilgkfnacahaaGreatXSrt
import Derived.Test.YtbdilgkfnacahaaGreatXView
import Derived.Test.YtbdilgkfnacahaaGreatXM2
import Derived.KernelRfl
set_option linter.unusedSimpArgs false
set_option linter.unusedVariables false
namespace Go.Proofs.YtbdilgkfnacahaaGreat
open Go.V Go Go.RowKit
def Ec:List D→Option (List Rs)
 |[]=>some []
 | .int .i32 a::.int .i32 b::l=>match decide (0≤a),decide (a≤1114111),Ec l with
  |true,true,some r=>if h:0≤a∧a≤1114111 then some (⟨a,b,h.1,h.2⟩::r) else none
  |_,_,_=>none
 |_=>none
def c8:List Rs→List D
 |[]=>[]
 |x::l=>.int .i32 x.lo::.int .i32 x.hi::c8 l
theorem rL:∀l:List Rs,Ec (c8 l)=some l
 |[]=>rfl
 |x::l=>by simp[c8,Ec,rL l,x.h0,x.h1]
theorem oA:∀{c:List D} {l:List Rs},Ec c=some l→c=c8 l
 |[],l,h=>by cases h;rfl
 |[_],l,h=>by
  unfold Ec at h
  split at h
  ·rename_i he;cases he
  ·rename_i he;cases he
  ·cases h
 |d::e::c,l,h=>by
  unfold Ec at h
  split at h
  ·rename_i he;cases he
  ·rename_i a b m he;cases he
   split at h
   ·rename_i r h1 h2 h3
    split at h
    ·cases h;rw[oA h3];rfl
    ·cases h
   ·cases h
  ·cases h
theorem iQ:∀l:List Rs,(c8 l).length=2*l.length
 |[]=>rfl
 |x::l=>by simp[c8,iQ l];omega
theorem lF:∀(l:List Rs) (i:Nat) x,l[i]?=some x→(c8 l)[2*i]?=some (.int .i32 x.lo)∧(c8 l)[2*i+1]?=some (.int .i32 x.hi)
 |[],i,x,h=>by simp at h
 |y::l,0,x,h=>by simp at h;subst h;exact⟨rfl,rfl⟩
 |y::l,i+1,x,h=>by
  have:=lF l i x (by simpa using h)
  simpa[c8,show 2*(i+1)=2*i+1+1 by omega] using this
theorem tn (l:List Rs) (j:Nat) (hj:j<2*l.length):∃x,l[j/2]?=some x∧(c8 l)[j]?=some (.int .i32 (if j %2=0 then x.lo else x.hi)):=by
 refine⟨l[j/2]'(by omega),List.getElem?_eq_getElem _,?_⟩;obtain⟨h1,h2⟩:=lF l (j/2) _ (List.getElem?_eq_getElem (by omega))
 rcases Nat.mod_two_eq_zero_or_one j with h|h
 ·rw[if_pos h,←h1];congr 1;omega
 ·rw[if_neg (by omega),←h2];congr 1;omega
theorem mK:∀l:List Rs,refs (c8 l)=0
 |[]=>rfl
 |x::l=>by simp[c8,refs,D.ref,mK l]
noncomputable def Bd (st:St) (k aj off len:Nat) (l:List Rs):Option (D×St):=
 match decide (l.length=len∧1≤len∧len<1099511627776) with
 |true=>match st.wr k aj off (c8 (srt l)) with
  |some ae=>some (.tup [],ae)
  |none=>none
 |false=>none
noncomputable def sH:List D→St→Option (D×St)
 |[.nul,.fn 95 []],st=>some (.tup [],st)
 |[.win k aj off len 2,.fn 95 []],st=>match st.cP k aj with
  |some (_,c)=>match Ec ((c.drop off).take (2*len)) with
   |some l=>Bd st k aj off len l
   |none=>none
  |none=>none
 |_,_=>none
theorem l7 {ds:List D} {st:St} {r:D×St} (h:sH ds st=some r):(ds=[.nul,.fn 95 []]∧r=(.tup [],st))∨
  ∃k aj off ar c l,ds=[.win k aj off l.length 2,.fn 95 []]∧st.cP k aj=some (ar,c)∧(c.drop off).take (2*l.length)=c8 l∧1≤l.length∧l.length<1099511627776∧st.wr k aj off (c8 (srt l))=some r.2∧r.1=.tup []:=by
 unfold sH at h
 split at h
 ·cases h;exact .inl ⟨rfl,rfl⟩
 ·rename_i og k aj off len;right
  split at h
  ·rename_i ar c hm
   split at h
   ·rename_i l hl;unfold Bd at h
    split at h
    ·rename_i hd;have hd:=of_decide_eq_true hd
     split at h
     ·rename_i ae hw;cases h;obtain⟨rfl,h1,h2⟩:=hd;exact⟨k,aj,off,ar,c,l,rfl,hm,oA hl,h1,h2,hw,rfl⟩
     ·cases h
    ·cases h
   ·cases h
  ·cases h
 ·cases h
theorem zO:(match aV aK 60 94 [.nul,.fn 95 []] ⟨[],0,0⟩ with|some (.tup [],⟨[],_,_⟩)=>true|_=>false)=true:=by kernel_rfl
theorem uu {w w':World} {st:St} {β:Nat→Option (Nat×Nat)} {Z:Nat→Prop} (h:dz w st β Z) (hb:Below w.heap.size w w'):Nx w st β Z w' st β Z:=by
 have hq:Quiet w w':=fun b dJ=>hb.block b dJ
 have hk:bW w (st.x β Z) w' (st.x β Z):=
  ⟨fun _ p hp=>⟨p,hp⟩,fun b hb=>⟨hb,hq b (h.zl b hb)⟩,fun _ c _ _ hc=>⟨c,hc,Nat.le_refl _⟩,fun k _ _ _ b base hb=>⟨hb,cj (hq b (h.lt k b base hb))⟩⟩
 exact⟨⟨h.dom,fun k b base dJ=>Nat.lt_of_lt_of_le (h.lt k b base dJ) hb.size,h.inj,h.zd,fun b dJ=>Nat.lt_of_lt_of_le (h.zl b dJ) hb.size,fun k b base bx dJ dU=>(h.box k b base bx dJ dU).aP hk (hq b (h.lt k b base dJ)),h.flr,h.ro⟩,hk,
  ⟨hb.os,hb.tape,hb.output,hb.size,fun b dJ _=>hq b dJ⟩,fun _ _ base hb=>.inl ⟨base,hb⟩,fun _ hz=>.inl hz,Nat.le_refl _,rfl,rfl,fun _ _=>⟨rfl,rfl⟩,fun _ _ h=>⟨h,rfl⟩⟩
theorem vZ (hv:aK.Ok Tryz.prog∧aK.eI∧ej Tryz.prog aK (cA aK)) {pv:Pv} (dF:fc pv 94=false):dj Tryz.prog pv 94 sH:=by
 refine⟨fun ds st r hp=>⟨Tryz.f94,_,Tryz.func94,rfl,by decide⟩,fun ds st d ae hp w β Z us dr hle ha=>?_,fun ds st d ae hp hr=>(by rw[dF] at hr;cases hr),fun ds st d ae hp=>?_⟩
 ·rcases l7 hp with⟨rfl,hr⟩|⟨k,aj,off,ar,c,l,rfl,hm,hl,hn,E0,hw,hd⟩
  ·cases hr;have hs:=zO
   split at hs
   ·rename_i a b he;refine(hU hv he rfl rfl st w β Z us dr hle ha).mono fun e w'=>?_;rintro⟨v,β',Z',h1,h2,h3,h4⟩;exact⟨v,β',Z',h1,h2,h3,fun _=>h4⟩
   ·cases hs
  ·obtain⟨u,v,rfl⟩:∃u v,us=[u,v]:=by
    match us,hle with
    |[u,v],_=>exact⟨u,v,rfl⟩
   obtain⟨a,cap,rfl,il,_,_,gU⟩:=cG (ha 0 _ u rfl rfl);obtain⟨vs,rfl,tz,_⟩:=oa (ha 1 _ v rfl rfl);have tz:vs=[]:=List.length_eq_zero_iff.1 tz.symm;subst tz;obtain⟨b,base,sz,hb,hsz,Ja⟩:=gU (bI hm).2;obtain⟨rfl,gR⟩:=Ja.resolve_left (by omega);obtain⟨cs,el,fr,r1,r2,r3,r4⟩:=dr.row hm hb
   have Hk:∀(i:Nat) x,l[i]?=some x→c[off+2*i]?=some (.int .i32 x.lo)∧c[off+(2*i+1)]?=some (.int .i32 x.hi):=by
    intro i x hx;have hi:i<l.length:=(List.getElem?_eq_some_iff.1 hx).1;obtain⟨h1,h2⟩:=lF l i x hx;rw[←hl,List.getElem?_take,if_pos (by omega),List.getElem?_drop] at h1 h2;exact⟨h1,h2⟩
   have rV:=sort_calls b (base+off) cap l w r1 r3.2 (fun i x hx=>by
    obtain⟨h1,h2⟩:=Hk i x hx;obtain⟨u1,a1,_,c1⟩:=r4 _ _ h1;obtain⟨u2,a2,_,c2⟩:=r4 _ _ h2;have:=bt c1;subst this;have:=bt c2;subst this
    exact⟨by rw[←a1];congr 1;omega,by rw[←a2];congr 1;omega⟩) (by omega)
   have hperm:=(srt_facts l).1;have j2:(srt l).length=l.length:=hperm.length_eq;refine rV.mono ?_;rintro e w' ⟨rfl,cs',g1,g2,g3,g4,g5,g6,g7,g8⟩
   have hwr:Nx w st β Z (wput w b (.cells cs' el fr)) ae β Z:=by
    unfold St.wr at hw;rw[hm] at hw;simp only at hw
    split at hw
    ·rename_i hc;have dN:=Option.some.inj hw;rw[←dN]
     have hx:=Nx.write (a':=ar) (gQ:=aj) (c':=setMany c off (c8 (srt l))) (bO:=base) dr hm hb (cp hc.2) (Nat.le_refl _) (fun _=>rfl) r1 (cs':=cs') g1 (by rw[b5];exact r2) (fun j d hd=>by
      rw[eP (c8 (srt l)) c off j hc.1] at hd
      split at hd
      ·rename_i hj;rw[iQ,j2] at hj;obtain⟨x,hx1,Ix⟩:=tn (srt l) (j-off) (by omega);rw[Ix] at hd;cases hd;obtain⟨k1,k2⟩:=g3 _ _ hx1
       split
       ·refine⟨.int .i32 x.lo,?_,rfl,.im _ _ (.int _ _)⟩;rw[←k1];congr 1;omega
       ·refine⟨.int .i32 x.hi,?_,rfl,.im _ _ (.int _ _)⟩;rw[←k2];congr 1;omega
      ·rename_i hj;rw[iQ,j2] at hj;rw[g2 _ (by omega)]
       exact r4 j d hd)
     have e1:(fun i=>if i=k then some (b,base) else β i)=β:=by
      funext i;split
      ·rename_i e;subst e;exact hb.symm
      ·rfl
     rw[e1] at hx;exact hx
    ·cases hw
   have rW:(wput w b (.cells cs' el fr)).heap.size=w.heap.size:=by simp[wput]
   have Fb:Below (wput w b (.cells cs' el fr)).heap.size (wput w b (.cells cs' el fr)) w':=⟨g4.symm,g5.symm,g6.symm,by rw[rW];exact g7,fun k hk=>g8 k (by rw[rW] at hk;exact hk)⟩
   refine⟨_,β,Z,rfl,hwr.trans (uu hwr.sim Fb),?_,fun h=>by rw[dF] at h;cases h⟩;simp only at hd;rw[hd];exact .im _ _ (.tup [] [] rfl fun q c v hc hv=>by simp at hc)
 ·rcases l7 hp with⟨rfl,hr⟩|⟨k,aj,off,ar,c,l,rfl,hm,hl,hn,E0,hw,hd⟩
  ·cases hr;exact cq.refl _
  ·exact iA hw
end Go.Proofs.YtbdilgkfnacahaaGreat
