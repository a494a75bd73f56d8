/-
 slices.SortFunc on ranges, given to V.
-/
import Derived.Test.YtbdnabmmlbiomaaXSrt
import Derived.Test.YtbdnabmmlbiomaaXView
import Derived.Test.YtbdnabmmlbiomaaXM2
import Derived.KernelRfl
set_option linter.unusedSimpArgs false
set_option linter.unusedVariables false
namespace Go.Proofs.Ytbdnabmmlbiomaa
open Go.V Go Go.RowKit
def J3:List D→Option (List Rs)
 |[]=>some []
 | .int .i32 a::.int .i32 b::l=>match decide (0≤a),decide (a≤1114111),J3 l with
  |true,true,some r=>if h:0≤a∧a≤1114111 then some (⟨a,b,h.1,h.2⟩::r) else none
  |_,_,_=>none
 |_=>none
def eM:List Rs→List D
 |[]=>[]
 |x::l=>.int .i32 x.lo::.int .i32 x.hi::eM l
theorem xF:∀l:List Rs,J3 (eM l)=some l
 |[]=>rfl
 |x::l=>by simp[eM,J3,xF l,x.h0,x.h1]
theorem tZ:∀{c:List D} {l:List Rs},J3 c=some l→c=eM l
 |[],l,h=>by cases h;rfl
 |[_],l,h=>by
  unfold J3 at h
  split at h
  ·rename_i he;cases he
  ·rename_i he;cases he
  ·cases h
 |d::e::c,l,h=>by
  unfold J3 at h
  split at h
  ·rename_i he;cases he
  ·rename_i a b m he;cases he
   split at h
   ·rename_i r h1 h2 h3
    split at h
    ·cases h;rw[tZ h3];rfl
    ·cases h
   ·cases h
  ·cases h
theorem lS:∀l:List Rs,(eM l).length=2*l.length
 |[]=>rfl
 |x::l=>by simp[eM,lS l];omega
theorem px:∀(l:List Rs) (i:Nat) x,l[i]?=some x→(eM l)[2*i]?=some (.int .i32 x.lo)∧(eM l)[2*i+1]?=some (.int .i32 x.hi)
 |[],i,x,h=>by simp at h
 |y::l,0,x,h=>by simp at h;subst h;exact⟨rfl,rfl⟩
 |y::l,i+1,x,h=>by
  have:=px l i x (by simpa using h)
  simpa[eM,show 2*(i+1)=2*i+1+1 by omega] using this
theorem zB (l:List Rs) (j:Nat) (hj:j<2*l.length):∃x,l[j/2]?=some x∧(eM l)[j]?=some (.int .i32 (if j %2=0 then x.lo else x.hi)):=by
 refine⟨l[j/2]'(by omega),List.getElem?_eq_getElem _,?_⟩;obtain⟨h1,h2⟩:=px l (j/2) _ (List.getElem?_eq_getElem (by omega))
 rcases Nat.mod_two_eq_zero_or_one j with h|h
 ·rw[if_pos h,←h1];congr 1;omega
 ·rw[if_neg (by omega),←h2];congr 1;omega
theorem rL:∀l:List Rs,refs (eM l)=0
 |[]=>rfl
 |x::l=>by simp[eM,refs,D.ref,rL l]
noncomputable def G0 (st:St) (k aA off len:Nat) (l:List Rs):Option (D×St):=
 match decide (l.length=len∧1≤len∧len<1099511627776) with
 |true=>match st.wr k aA off (eM (srt l)) with
  |some ah=>some (.tup [],ah)
  |none=>none
 |false=>none
noncomputable def yI:List D→St→Option (D×St)
 |[.nul,.fn 82 []],st=>some (.tup [],st)
 |[.win k aA off len 2,.fn 82 []],st=>match st.ef k aA with
  |some (_,c)=>match J3 ((c.drop off).take (2*len)) with
   |some l=>G0 st k aA off len l
   |none=>none
  |none=>none
 |_,_=>none
theorem qN {ds:List D} {st:St} {r:D×St} (h:yI ds st=some r):(ds=[.nul,.fn 82 []]∧r=(.tup [],st))∨
  ∃k aA off ar c l,ds=[.win k aA off l.length 2,.fn 82 []]∧st.ef k aA=some (ar,c)∧(c.drop off).take (2*l.length)=eM l∧1≤l.length∧l.length<1099511627776∧st.wr k aA off (eM (srt l))=some r.2∧r.1=.tup []:=by
 unfold yI at h
 split at h
 ·cases h;exact .inl ⟨rfl,rfl⟩
 ·rename_i tN k aA off len;right
  split at h
  ·rename_i ar c hm
   split at h
   ·rename_i l hl;unfold G0 at h
    split at h
    ·rename_i hd;have hd:=of_decide_eq_true hd
     split at h
     ·rename_i ah hw;cases h;obtain⟨rfl,h1,h2⟩:=hd;exact⟨k,aA,off,ar,c,l,rfl,hm,tZ hl,h1,h2,hw,rfl⟩
     ·cases h
    ·cases h
   ·cases h
  ·cases h
 ·cases h
theorem Fh:(match bI bd 60 81 [.nul,.fn 82 []] ⟨[],0,0⟩ with|some (.tup [],⟨[],_,_⟩)=>true|_=>false)=true:=by kernel_rfl
theorem AZ {w w':World} {st:St} {β:Nat→Option (Nat×Nat)} {Z:Nat→Prop} (h:fu w st β Z) (hb:Below w.heap.size w w'):Nx w st β Z w' st β Z:=by
 have hq:Quiet w w':=fun b dL=>hb.block b dL
 have hk:cY w (st.x β Z) w' (st.x β Z):=
  ⟨fun _ p hp=>⟨p,hp⟩,fun b hb=>⟨hb,hq b (h.zl b hb)⟩,fun _ c _ _ hc=>⟨c,hc,Nat.le_refl _⟩,fun k _ _ _ b base hb=>⟨hb,du (hq b (h.lt k b base hb))⟩⟩
 exact⟨⟨h.dom,fun k b base dL=>Nat.lt_of_lt_of_le (h.lt k b base dL) hb.size,h.inj,h.zd,fun b dL=>Nat.lt_of_lt_of_le (h.zl b dL) hb.size,fun k b base bx dL f'=>(h.box k b base bx dL f').bz hk (hq b (h.lt k b base dL)),h.flr,h.ro⟩,hk,
  ⟨hb.os,hb.tape,hb.output,hb.size,fun b dL _=>hq b dL⟩,fun _ _ base hb=>.inl ⟨base,hb⟩,fun _ hz=>.inl hz,Nat.le_refl _,rfl,rfl,fun _ _=>⟨rfl,rfl⟩,fun _ _ h=>⟨h,rfl⟩⟩
theorem CC (hv:bd.Ok Try.prog∧bd.gU∧gp Try.prog bd (dH bd)) {pv:Pv} (fU:iU pv 81=false):eY Try.prog pv 81 yI:=by
 refine⟨fun ds st r hp=>⟨Try.f81,_,Try.func81,rfl,by decide⟩,fun ds st d ah hp w β Z us e_ hle ha=>?_,fun ds st d ah hp hr=>(by rw[fU] at hr;cases hr),fun ds st d ah hp=>?_⟩
 ·rcases qN hp with⟨rfl,hr⟩|⟨k,aA,off,ar,c,l,rfl,hm,hl,hn,Qc,hw,hd⟩
  ·cases hr;have hs:=Fh
   split at hs
   ·rename_i a b he;refine(kZ hv he rfl rfl st w β Z us e_ hle ha).mono fun e w'=>?_;rintro⟨v,β',Z',h1,h2,h3,h4⟩;exact⟨v,β',Z',h1,h2,h3,fun _=>h4⟩
   ·cases hs
  ·obtain⟨u,v,rfl⟩:∃u v,us=[u,v]:=by
    match us,hle with
    |[u,v],_=>exact⟨u,v,rfl⟩
   obtain⟨a,cap,rfl,kI,_,_,ic⟩:=dR (ha 0 _ u rfl rfl);obtain⟨vs,rfl,zP,_⟩:=tJ (ha 1 _ v rfl rfl);have zP:vs=[]:=List.length_eq_zero_iff.1 zP.symm;subst zP;obtain⟨b,base,sz,hb,hsz,P6⟩:=ic (cG hm).2;obtain⟨rfl,jF⟩:=P6.resolve_left (by omega);obtain⟨cs,el,fr,r1,r2,r3,r4⟩:=e_.row hm hb
   have NH:∀(i:Nat) x,l[i]?=some x→c[off+2*i]?=some (.int .i32 x.lo)∧c[off+(2*i+1)]?=some (.int .i32 x.hi):=by
    intro i x hx;have hi:i<l.length:=(List.getElem?_eq_some_iff.1 hx).1;obtain⟨h1,h2⟩:=px l i x hx;rw[←hl,List.getElem?_take,if_pos (by omega),List.getElem?_drop] at h1 h2;exact⟨h1,h2⟩
   have x5:=sort_calls b (base+off) cap l w r1 r3.2 (fun i x hx=>by
    obtain⟨h1,h2⟩:=NH i x hx;obtain⟨u1,a1,_,c1⟩:=r4 _ _ h1;obtain⟨u2,a2,_,c2⟩:=r4 _ _ h2;have:=cp c1;subst this;have:=cp c2;subst this
    exact⟨by rw[←a1];congr 1;omega,by rw[←a2];congr 1;omega⟩) (by omega)
   have hperm:=(srt_facts l).1;have jb:(srt l).length=l.length:=hperm.length_eq;refine x5.mono ?_;rintro e w' ⟨rfl,cs',g1,g2,g3,g4,g5,g6,g7,g8⟩
   have hwr:Nx w st β Z (wput w b (.cells cs' el fr)) ah β Z:=by
    unfold St.wr at hw;rw[hm] at hw;simp only at hw
    split at hw
    ·rename_i hc;have c8:=Option.some.inj hw;rw[←c8]
     have hx:=Nx.write (a':=ar) (kH:=aA) (c':=setMany c off (eM (srt l))) (cL:=base) e_ hm hb (dA hc.2) (Nat.le_refl _) (fun _=>rfl) r1 (cs':=cs') g1 (by rw[dg];exact r2) (fun j d hd=>by
      rw[ij (eM (srt l)) c off j hc.1] at hd
      split at hd
      ·rename_i hj;rw[lS,jb] at hj;obtain⟨x,hx1,O2⟩:=zB (srt l) (j-off) (by omega);rw[O2] at hd;cases hd;obtain⟨k1,k2⟩:=g3 _ _ hx1
       split
       ·refine⟨.int .i32 x.lo,?_,rfl,.im _ _ (.int _ _)⟩;rw[←k1];congr 1;omega
       ·refine⟨.int .i32 x.hi,?_,rfl,.im _ _ (.int _ _)⟩;rw[←k2];congr 1;omega
      ·rename_i hj;rw[lS,jb] at hj;rw[g2 _ (by omega)]
       exact r4 j d hd)
     have e1:(fun i=>if i=k then some (b,base) else β i)=β:=by
      funext i;split
      ·rename_i e;subst e;exact hb.symm
      ·rfl
     rw[e1] at hx;exact hx
    ·cases hw
   have x7:(wput w b (.cells cs' el fr)).heap.size=w.heap.size:=by simp[wput]
   have KV:Below (wput w b (.cells cs' el fr)).heap.size (wput w b (.cells cs' el fr)) w':=⟨g4.symm,g5.symm,g6.symm,by rw[x7];exact g7,fun k hk=>g8 k (by rw[x7] at hk;exact hk)⟩
   refine⟨_,β,Z,rfl,hwr.trans (AZ hwr.sim KV),?_,fun h=>by rw[fU] at h;cases h⟩;simp only at hd;rw[hd];exact .im _ _ (.tup [] [] rfl fun q c v hc hv=>by simp at hc)
 ·rcases qN hp with⟨rfl,hr⟩|⟨k,aA,off,ar,c,l,rfl,hm,hl,hn,Qc,hw,hd⟩
  ·cases hr;exact dB.refl _
  ·exact lv hw
end Go.Proofs.Ytbdnabmmlbiomaa
