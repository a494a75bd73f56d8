/-
 slices.SortFunc on ranges, given to V.
-/
import Derived.Test.YtbdilgkfnacahaaGreatXSrt
import Derived.Test.YtbdilgkfnacahaaGreatXView
import Derived.Test.YtbdilgkfnacahaaGreatXM2
import Derived.KernelRfl
set_option linter.unusedSimpArgs false
set_option linter.unusedVariables false
namespace Go.Proofs.YtbdilgkfnacahaaGreat
open Go.V Go Go.RowKit
def Km:List D→Option (List Rs)
 |[]=>some []
 | .int .i32 a::.int .i32 b::l=>match decide (0≤a),decide (a≤1114111),Km l with
  |true,true,some r=>if h:0≤a∧a≤1114111 then some (⟨a,b,h.1,h.2⟩::r) else none
  |_,_,_=>none
 |_=>none
def eB:List Rs→List D
 |[]=>[]
 |x::l=>.int .i32 x.lo::.int .i32 x.hi::eB l
theorem xt:∀l:List Rs,Km (eB l)=some l
 |[]=>rfl
 |x::l=>by simp[eB,Km,xt l,x.h0,x.h1]
theorem tK:∀{c:List D} {l:List Rs},Km c=some l→c=eB l
 |[],l,h=>by cases h;rfl
 |[_],l,h=>by
  unfold Km at h
  split at h
  ·rename_i he;cases he
  ·rename_i he;cases he
  ·cases h
 |d::e::c,l,h=>by
  unfold Km at h
  split at h
  ·rename_i he;cases he
  ·rename_i a b m he;cases he
   split at h
   ·rename_i r h1 h2 h3
    split at h
    ·cases h;rw[tK h3];rfl
    ·cases h
   ·cases h
  ·cases h
theorem lG:∀l:List Rs,(eB l).length=2*l.length
 |[]=>rfl
 |x::l=>by simp[eB,lG l];omega
theorem o6:∀(l:List Rs) (i:Nat) x,l[i]?=some x→(eB l)[2*i]?=some (.int .i32 x.lo)∧(eB l)[2*i+1]?=some (.int .i32 x.hi)
 |[],i,x,h=>by simp at h
 |y::l,0,x,h=>by simp at h;subst h;exact⟨rfl,rfl⟩
 |y::l,i+1,x,h=>by
  have:=o6 l i x (by simpa using h)
  simpa[eB,show 2*(i+1)=2*i+1+1 by omega] using this
theorem zi (l:List Rs) (j:Nat) (hj:j<2*l.length):∃x,l[j/2]?=some x∧(eB l)[j]?=some (.int .i32 (if j %2=0 then x.lo else x.hi)):=by
 refine⟨l[j/2]'(by omega),List.getElem?_eq_getElem _,?_⟩;obtain⟨h1,h2⟩:=o6 l (j/2) _ (List.getElem?_eq_getElem (by omega))
 rcases Nat.mod_two_eq_zero_or_one j with h|h
 ·rw[if_pos h,←h1];congr 1;omega
 ·rw[if_neg (by omega),←h2];congr 1;omega
theorem rp:∀l:List Rs,refs (eB l)=0
 |[]=>rfl
 |x::l=>by simp[eB,refs,D.ref,rp l]
noncomputable def Hj (st:St) (k ay off len:Nat) (l:List Rs):Option (D×St):=
 match decide (l.length=len∧1≤len∧len<1099511627776) with
 |true=>match st.wr k ay off (eB (srt l)) with
  |some ah=>some (.tup [],ah)
  |none=>none
 |false=>none
noncomputable def yr:List D→St→Option (D×St)
 |[.nul,.fn 95 []],st=>some (.tup [],st)
 |[.win k ay off len 2,.fn 95 []],st=>match st.dV k ay with
  |some (_,c)=>match Km ((c.drop off).take (2*len)) with
   |some l=>Hj st k ay off len l
   |none=>none
  |none=>none
 |_,_=>none
theorem pV {ds:List D} {st:St} {r:D×St} (h:yr ds st=some r):(ds=[.nul,.fn 95 []]∧r=(.tup [],st))∨
  ∃k ay off ar c l,ds=[.win k ay off l.length 2,.fn 95 []]∧st.dV k ay=some (ar,c)∧(c.drop off).take (2*l.length)=eB l∧1≤l.length∧l.length<1099511627776∧st.wr k ay off (eB (srt l))=some r.2∧r.1=.tup []:=by
 unfold yr at h
 split at h
 ·cases h;exact .inl ⟨rfl,rfl⟩
 ·rename_i tv k ay off len;right
  split at h
  ·rename_i ar c hm
   split at h
   ·rename_i l hl;unfold Hj at h
    split at h
    ·rename_i hd;have hd:=of_decide_eq_true hd
     split at h
     ·rename_i ah hw;cases h;obtain⟨rfl,h1,h2⟩:=hd;exact⟨k,ay,off,ar,c,l,rfl,hm,tK hl,h1,h2,hw,rfl⟩
     ·cases h
    ·cases h
   ·cases h
  ·cases h
 ·cases h
theorem FJ:(match bD a8 60 94 [.nul,.fn 95 []] ⟨[],0,0⟩ with|some (.tup [],⟨[],_,_⟩)=>true|_=>false)=true:=by kernel_rfl
theorem AE {w w':World} {st:St} {β:Nat→Option (Nat×Nat)} {Z:Nat→Prop} (h:e6 w st β Z) (hb:Below w.heap.size w w'):Nx w st β Z w' st β Z:=by
 have hq:Quiet w w':=fun b dD=>hb.block b dD
 have hk:cN w (st.x β Z) w' (st.x β Z):=
  ⟨fun _ p hp=>⟨p,hp⟩,fun b hb=>⟨hb,hq b (h.zl b hb)⟩,fun _ c _ _ hc=>⟨c,hc,Nat.le_refl _⟩,fun k _ _ _ b base hb=>⟨hb,de (hq b (h.lt k b base hb))⟩⟩
 exact⟨⟨h.dom,fun k b base dD=>Nat.lt_of_lt_of_le (h.lt k b base dD) hb.size,h.inj,h.zd,fun b dD=>Nat.lt_of_lt_of_le (h.zl b dD) hb.size,fun k b base bx dD fU=>(h.box k b base bx dD fU).bm hk (hq b (h.lt k b base dD)),h.flr,h.ro⟩,hk,
  ⟨hb.os,hb.tape,hb.output,hb.size,fun b dD _=>hq b dD⟩,fun _ _ base hb=>.inl ⟨base,hb⟩,fun _ hz=>.inl hz,Nat.le_refl _,rfl,rfl,fun _ _=>⟨rfl,rfl⟩,fun _ _ h=>⟨h,rfl⟩⟩
theorem Cq (hv:a8.Ok Tryz.prog∧a8.gJ∧gb Tryz.prog a8 (dA a8)) {pv:Pv} (e7:iH pv 94=false):eM Tryz.prog pv 94 yr:=by
 refine⟨fun ds st r hp=>⟨Tryz.f94,_,Tryz.func94,rfl,by decide⟩,fun ds st d ah hp w β Z us eR hle ha=>?_,fun ds st d ah hp hr=>(by rw[e7] at hr;cases hr),fun ds st d ah hp=>?_⟩
 ·rcases pV hp with⟨rfl,hr⟩|⟨k,ay,off,ar,c,l,rfl,hm,hl,hn,K5,hw,hd⟩
  ·cases hr;have hs:=FJ
   split at hs
   ·rename_i a b he;refine(kJ hv he rfl rfl st w β Z us eR hle ha).mono fun e w'=>?_;rintro⟨v,β',Z',h1,h2,h3,h4⟩;exact⟨v,β',Z',h1,h2,h3,fun _=>h4⟩
   ·cases hs
  ·obtain⟨u,v,rfl⟩:∃u v,us=[u,v]:=by
    match us,hle with
    |[u,v],_=>exact⟨u,v,rfl⟩
   obtain⟨a,cap,rfl,kz,_,_,gY⟩:=dL (ha 0 _ u rfl rfl);obtain⟨vs,rfl,zz,_⟩:=tt (ha 1 _ v rfl rfl);have zz:vs=[]:=List.length_eq_zero_iff.1 zz.symm;subst zz;obtain⟨b,base,sz,hb,hsz,Ql⟩:=gY (cy hm).2;obtain⟨rfl,jo⟩:=Ql.resolve_left (by omega);obtain⟨cs,el,fr,r1,r2,r3,r4⟩:=eR.row hm hb
   have N0:∀(i:Nat) x,l[i]?=some x→c[off+2*i]?=some (.int .i32 x.lo)∧c[off+(2*i+1)]?=some (.int .i32 x.hi):=by
    intro i x hx;have hi:i<l.length:=(List.getElem?_eq_some_iff.1 hx).1;obtain⟨h1,h2⟩:=o6 l i x hx;rw[←hl,List.getElem?_take,if_pos (by omega),List.getElem?_drop] at h1 h2;exact⟨h1,h2⟩
   have xI:=sort_calls b (base+off) cap l w r1 r3.2 (fun i x hx=>by
    obtain⟨h1,h2⟩:=N0 i x hx;obtain⟨u1,a1,_,c1⟩:=r4 _ _ h1;obtain⟨u2,a2,_,c2⟩:=r4 _ _ h2;have:=cg c1;subst this;have:=cg c2;subst this
    exact⟨by rw[←a1];congr 1;omega,by rw[←a2];congr 1;omega⟩) (by omega)
   have hperm:=(srt_facts l).1;have gQ:(srt l).length=l.length:=hperm.length_eq;refine xI.mono ?_;rintro e w' ⟨rfl,cs',g1,g2,g3,g4,g5,g6,g7,g8⟩
   have hwr:Nx w st β Z (wput w b (.cells cs' el fr)) ah β Z:=by
    unfold St.wr at hw;rw[hm] at hw;simp only at hw
    split at hw
    ·rename_i hc;have fZ:=Option.some.inj hw;rw[←fZ]
     have hx:=Nx.write (a':=ar) (kr:=ay) (c':=setMany c off (eB (srt l))) (cD:=base) eR hm hb (di hc.2) (Nat.le_refl _) (fun _=>rfl) r1 (cs':=cs') g1 (by rw[cW];exact r2) (fun j d hd=>by
      rw[gV (eB (srt l)) c off j hc.1] at hd
      split at hd
      ·rename_i hj;rw[lG,gQ] at hj;obtain⟨x,hx1,PA⟩:=zi (srt l) (j-off) (by omega);rw[PA] at hd;cases hd;obtain⟨k1,k2⟩:=g3 _ _ hx1
       split
       ·refine⟨.int .i32 x.lo,?_,rfl,.im _ _ (.int _ _)⟩;rw[←k1];congr 1;omega
       ·refine⟨.int .i32 x.hi,?_,rfl,.im _ _ (.int _ _)⟩;rw[←k2];congr 1;omega
      ·rename_i hj;rw[lG,gQ] at hj;rw[g2 _ (by omega)]
       exact r4 j d hd)
     have e1:(fun i=>if i=k then some (b,base) else β i)=β:=by
      funext i;split
      ·rename_i e;subst e;exact hb.symm
      ·rfl
     rw[e1] at hx;exact hx
    ·cases hw
   have xJ:(wput w b (.cells cs' el fr)).heap.size=w.heap.size:=by simp[wput]
   have Lm:Below (wput w b (.cells cs' el fr)).heap.size (wput w b (.cells cs' el fr)) w':=⟨g4.symm,g5.symm,g6.symm,by rw[xJ];exact g7,fun k hk=>g8 k (by rw[xJ] at hk;exact hk)⟩
   refine⟨_,β,Z,rfl,hwr.trans (AE hwr.sim Lm),?_,fun h=>by rw[e7] at h;cases h⟩;simp only at hd;rw[hd];exact .im _ _ (.tup [] [] rfl fun q c v hc hv=>by simp at hc)
 ·rcases pV hp with⟨rfl,hr⟩|⟨k,ay,off,ar,c,l,rfl,hm,hl,hn,K5,hw,hd⟩
  ·cases hr;exact dj.refl _
  ·exact kZ hw
end Go.Proofs.YtbdilgkfnacahaaGreat
