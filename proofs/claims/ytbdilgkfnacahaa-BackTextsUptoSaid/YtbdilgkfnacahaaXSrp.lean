/-
 slices.SortFunc on ranges, given to V.
-/
import Derived.Test.YtbdilgkfnacahaaXSrt
import Derived.Test.YtbdilgkfnacahaaXView
import Derived.Test.YtbdilgkfnacahaaXM2
import Derived.KernelRfl
set_option linter.unusedSimpArgs false
set_option linter.unusedVariables false
namespace Go.Proofs.Ytbdilgkfnacahaa
open Go.V Go Go.RowKit
def Iw:List D→Option (List Rs)
 |[]=>some []
 | .int .i32 a::.int .i32 b::l=>match decide (0≤a),decide (a≤1114111),Iw l with
  |true,true,some r=>if h:0≤a∧a≤1114111 then some (⟨a,b,h.1,h.2⟩::r) else none
  |_,_,_=>none
 |_=>none
def eE:List Rs→List D
 |[]=>[]
 |x::l=>.int .i32 x.lo::.int .i32 x.hi::eE l
theorem wF:∀l:List Rs,Iw (eE l)=some l
 |[]=>rfl
 |x::l=>by simp[eE,Iw,wF l,x.h0,x.h1]
theorem sY:∀{c:List D} {l:List Rs},Iw c=some l→c=eE l
 |[],l,h=>by cases h;rfl
 |[_],l,h=>by
  unfold Iw at h
  split at h
  ·rename_i he;cases he
  ·rename_i he;cases he
  ·cases h
 |d::e::c,l,h=>by
  unfold Iw at h
  split at h
  ·rename_i he;cases he
  ·rename_i a b m he;cases he
   split at h
   ·rename_i r h1 h2 h3
    split at h
    ·cases h;rw[sY h3];rfl
    ·cases h
   ·cases h
  ·cases h
theorem lA:∀l:List Rs,(eE l).length=2*l.length
 |[]=>rfl
 |x::l=>by simp[eE,lA l];omega
theorem oJ:∀(l:List Rs) (i:Nat) x,l[i]?=some x→(eE l)[2*i]?=some (.int .i32 x.lo)∧(eE l)[2*i+1]?=some (.int .i32 x.hi)
 |[],i,x,h=>by simp at h
 |y::l,0,x,h=>by simp at h;subst h;exact⟨rfl,rfl⟩
 |y::l,i+1,x,h=>by
  have:=oJ l i x (by simpa using h)
  simpa[eE,show 2*(i+1)=2*i+1+1 by omega] using this
theorem yi (l:List Rs) (j:Nat) (hj:j<2*l.length):∃x,l[j/2]?=some x∧(eE l)[j]?=some (.int .i32 (if j %2=0 then x.lo else x.hi)):=by
 refine⟨l[j/2]'(by omega),List.getElem?_eq_getElem _,?_⟩;obtain⟨h1,h2⟩:=oJ l (j/2) _ (List.getElem?_eq_getElem (by omega))
 rcases Nat.mod_two_eq_zero_or_one j with h|h
 ·rw[if_pos h,←h1];congr 1;omega
 ·rw[if_neg (by omega),←h2];congr 1;omega
theorem pU:∀l:List Rs,refs (eE l)=0
 |[]=>rfl
 |x::l=>by simp[eE,refs,D.ref,pU l]
noncomputable def Ft (st:St) (k aC off len:Nat) (l:List Rs):Option (D×St):=
 match decide (l.length=len∧1≤len∧len<1099511627776) with
 |true=>match st.wr k aC off (eE (srt l)) with
  |some ai=>some (.tup [],ai)
  |none=>none
 |false=>none
noncomputable def xx:List D→St→Option (D×St)
 |[.nul,.fn 93 []],st=>some (.tup [],st)
 |[.win k aC off len 2,.fn 93 []],st=>match st.dN k aC with
  |some (_,c)=>match Iw ((c.drop off).take (2*len)) with
   |some l=>Ft st k aC off len l
   |none=>none
  |none=>none
 |_,_=>none
theorem pg {ds:List D} {st:St} {r:D×St} (h:xx ds st=some r):(ds=[.nul,.fn 93 []]∧r=(.tup [],st))∨
  ∃k aC off ar c l,ds=[.win k aC off l.length 2,.fn 93 []]∧st.dN k aC=some (ar,c)∧(c.drop off).take (2*l.length)=eE l∧1≤l.length∧l.length<1099511627776∧st.wr k aC off (eE (srt l))=some r.2∧r.1=.tup []:=by
 unfold xx at h
 split at h
 ·cases h;exact .inl ⟨rfl,rfl⟩
 ·rename_i wv k aC off len;right
  split at h
  ·rename_i ar c hm
   split at h
   ·rename_i l hl;unfold Ft at h
    split at h
    ·rename_i hd;have hd:=of_decide_eq_true hd
     split at h
     ·rename_i ai hw;cases h;obtain⟨rfl,h1,h2⟩:=hd;exact⟨k,aC,off,ar,c,l,rfl,hm,sY hl,h1,h2,hw,rfl⟩
     ·cases h
    ·cases h
   ·cases h
  ·cases h
 ·cases h
theorem DU:(match b9 bf 60 92 [.nul,.fn 93 []] ⟨[],0,0⟩ with|some (.tup [],⟨[],_,_⟩)=>true|_=>false)=true:=by kernel_rfl
theorem zi {w w':World} {st:St} {β:Nat→Option (Nat×Nat)} {Z:Nat→Prop} (h:e7 w st β Z) (hb:Below w.heap.size w w'):Nx w st β Z w' st β Z:=by
 have hq:Quiet w w':=fun b eu=>hb.block b eu
 have hk:cX w (st.x β Z) w' (st.x β Z):=
  ⟨fun _ p hp=>⟨p,hp⟩,fun b hb=>⟨hb,hq b (h.zl b hb)⟩,fun _ c _ _ hc=>⟨c,hc,Nat.le_refl _⟩,fun k _ _ _ b base hb=>⟨hb,dr (hq b (h.lt k b base hb))⟩⟩
 exact⟨⟨h.dom,fun k b base eu=>Nat.lt_of_lt_of_le (h.lt k b base eu) hb.size,h.inj,h.zd,fun b eu=>Nat.lt_of_lt_of_le (h.zl b eu) hb.size,fun k b base bx eu fV=>(h.box k b base bx eu fV).cj hk (hq b (h.lt k b base eu)),h.flr,h.ro⟩,hk,
  ⟨hb.os,hb.tape,hb.output,hb.size,fun b eu _=>hq b eu⟩,fun _ _ base hb=>.inl ⟨base,hb⟩,fun _ hz=>.inl hz,Nat.le_refl _,rfl,rfl,fun _ _=>⟨rfl,rfl⟩,fun _ _ h=>⟨h,rfl⟩⟩
theorem A' (hv:bf.Ok Try.prog∧bf.gE∧f' Try.prog bf (dK bf)) {pv:Pv} (fg:iu pv 92=false):e_ Try.prog pv 92 xx:=by
 refine⟨fun ds st r hp=>⟨Try.f92,_,Try.func92,rfl,by decide⟩,fun ds st d ai hp w β Z us fe hle ha=>?_,fun ds st d ai hp hr=>(by rw[fg] at hr;cases hr),fun ds st d ai hp=>?_⟩
 ·rcases pg hp with⟨rfl,hr⟩|⟨k,aC,off,ar,c,l,rfl,hm,hl,hn,OJ,hw,hd⟩
  ·cases hr;have hs:=DU
   split at hs
   ·rename_i a b he;refine(kE hv he rfl rfl st w β Z us fe hle ha).mono fun e w'=>?_;rintro⟨v,β',Z',h1,h2,h3,h4⟩;exact⟨v,β',Z',h1,h2,h3,fun _=>h4⟩
   ·cases hs
  ·obtain⟨u,v,rfl⟩:∃u v,us=[u,v]:=by
    match us,hle with
    |[u,v],_=>exact⟨u,v,rfl⟩
   obtain⟨a,cap,rfl,ko,_,_,iy⟩:=dP (ha 0 _ u rfl rfl);obtain⟨vs,rfl,yx,_⟩:=sB (ha 1 _ v rfl rfl);have yx:vs=[]:=List.length_eq_zero_iff.1 yx.symm;subst yx;obtain⟨b,base,sz,hb,hsz,OE⟩:=iy (cC hm).2;obtain⟨rfl,jg⟩:=OE.resolve_left (by omega);obtain⟨cs,el,fr,r1,r2,r3,r4⟩:=fe.row hm hb
   have Me:∀(i:Nat) x,l[i]?=some x→c[off+2*i]?=some (.int .i32 x.lo)∧c[off+(2*i+1)]?=some (.int .i32 x.hi):=by
    intro i x hx;have hi:i<l.length:=(List.getElem?_eq_some_iff.1 hx).1;obtain⟨h1,h2⟩:=oJ l i x hx;rw[←hl,List.getElem?_take,if_pos (by omega),List.getElem?_drop] at h1 h2;exact⟨h1,h2⟩
   have wS:=sort_calls b (base+off) cap l w r1 r3.2 (fun i x hx=>by
    obtain⟨h1,h2⟩:=Me i x hx;obtain⟨u1,a1,_,c1⟩:=r4 _ _ h1;obtain⟨u2,a2,_,c2⟩:=r4 _ _ h2;have:=cg c1;subst this;have:=cg c2;subst this
    exact⟨by rw[←a1];congr 1;omega,by rw[←a2];congr 1;omega⟩) (by omega)
   have hperm:=(srt_facts l).1;have jb:(srt l).length=l.length:=hperm.length_eq;refine wS.mono ?_;rintro e w' ⟨rfl,cs',g1,g2,g3,g4,g5,g6,g7,g8⟩
   have hwr:Nx w st β Z (wput w b (.cells cs' el fr)) ai β Z:=by
    unfold St.wr at hw;rw[hm] at hw;simp only at hw
    split at hw
    ·rename_i hc;have eA:=Option.some.inj hw;rw[←eA]
     have hx:=Nx.write (a':=ar) (kg:=aC) (c':=setMany c off (eE (srt l))) (cK:=base) fe hm hb (dw hc.2) (Nat.le_refl _) (fun _=>rfl) r1 (cs':=cs') g1 (by rw[dc];exact r2) (fun j d hd=>by
      rw[gM (eE (srt l)) c off j hc.1] at hd
      split at hd
      ·rename_i hj;rw[lA,jb] at hj;obtain⟨x,hx1,NR⟩:=yi (srt l) (j-off) (by omega);rw[NR] at hd;cases hd;obtain⟨k1,k2⟩:=g3 _ _ hx1
       split
       ·refine⟨.int .i32 x.lo,?_,rfl,.im _ _ (.int _ _)⟩;rw[←k1];congr 1;omega
       ·refine⟨.int .i32 x.hi,?_,rfl,.im _ _ (.int _ _)⟩;rw[←k2];congr 1;omega
      ·rename_i hj;rw[lA,jb] at hj;rw[g2 _ (by omega)]
       exact r4 j d hd)
     have e1:(fun i=>if i=k then some (b,base) else β i)=β:=by
      funext i;split
      ·rename_i e;subst e;exact hb.symm
      ·rfl
     rw[e1] at hx;exact hx
    ·cases hw
   have pN:(wput w b (.cells cs' el fr)).heap.size=w.heap.size:=by simp[wput]
   have Jy:Below (wput w b (.cells cs' el fr)).heap.size (wput w b (.cells cs' el fr)) w':=⟨g4.symm,g5.symm,g6.symm,by rw[pN];exact g7,fun k hk=>g8 k (by rw[pN] at hk;exact hk)⟩
   refine⟨_,β,Z,rfl,hwr.trans (zi hwr.sim Jy),?_,fun h=>by rw[fg] at h;cases h⟩;simp only at hd;rw[hd];exact .im _ _ (.tup [] [] rfl fun q c v hc hv=>by simp at hc)
 ·rcases pg hp with⟨rfl,hr⟩|⟨k,aC,off,ar,c,l,rfl,hm,hl,hn,OJ,hw,hd⟩
  ·cases hr;exact dx.refl _
  ·exact kR hw
end Go.Proofs.Ytbdilgkfnacahaa
