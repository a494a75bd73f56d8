/-
 slices.SortFunc on ranges, given to V.
-/
import Derived.Test.YtajblankjjmonaaGreatWSrt
import Derived.Test.YtajblankjjmonaaGreatWView
import Derived.Test.YtajblankjjmonaaGreatWM2
import Derived.KernelRfl
set_option linter.unusedSimpArgs false
set_option linter.unusedVariables false
namespace Go.Proofs.YtajblankjjmonaaGreat
open Go.V Go Go.RowKit
def Fl:List D→Option (List Rs)
 |[]=>some []
 | .int .i32 a::.int .i32 b::l=>match decide (0≤a),decide (a≤1114111),Fl l with
  |true,true,some r=>if h:0≤a∧a≤1114111 then some (⟨a,b,h.1,h.2⟩::r) else none
  |_,_,_=>none
 |_=>none
def eI:List Rs→List D
 |[]=>[]
 |x::l=>.int .i32 x.lo::.int .i32 x.hi::eI l
theorem yr:∀l:List Rs,Fl (eI l)=some l
 |[]=>rfl
 |x::l=>by simp[eI,Fl,yr l,x.h0,x.h1]
theorem uC:∀{c:List D} {l:List Rs},Fl c=some l→c=eI l
 |[],l,h=>by cases h;rfl
 |[_],l,h=>by
  unfold Fl at h
  split at h
  ·rename_i he;cases he
  ·rename_i he;cases he
  ·cases h
 |d::e::c,l,h=>by
  unfold Fl at h
  split at h
  ·rename_i he;cases he
  ·rename_i a b m he;cases he
   split at h
   ·rename_i r h1 h2 h3
    split at h
    ·cases h;rw[uC h3];rfl
    ·cases h
   ·cases h
  ·cases h
theorem mj:∀l:List Rs,(eI l).length=2*l.length
 |[]=>rfl
 |x::l=>by simp[eI,mj l];omega
theorem pX:∀(l:List Rs) (i:Nat) x,l[i]?=some x→(eI l)[2*i]?=some (.int .i32 x.lo)∧(eI l)[2*i+1]?=some (.int .i32 x.hi)
 |[],i,x,h=>by simp at h
 |y::l,0,x,h=>by simp at h;subst h;exact⟨rfl,rfl⟩
 |y::l,i+1,x,h=>by
  have:=pX l i x (by simpa using h)
  simpa[eI,show 2*(i+1)=2*i+1+1 by omega] using this
theorem AG (l:List Rs) (j:Nat) (hj:j<2*l.length):∃x,l[j/2]?=some x∧(eI l)[j]?=some (.int .i32 (if j %2=0 then x.lo else x.hi)):=by
 refine⟨l[j/2]'(by omega),List.getElem?_eq_getElem _,?_⟩;obtain⟨h1,h2⟩:=pX l (j/2) _ (List.getElem?_eq_getElem (by omega))
 rcases Nat.mod_two_eq_zero_or_one j with h|h
 ·rw[if_pos h,←h1];congr 1;omega
 ·rw[if_neg (by omega),←h2];congr 1;omega
theorem sc:∀l:List Rs,refs (eI l)=0
 |[]=>rfl
 |x::l=>by simp[eI,refs,D.ref,sc l]
noncomputable def Ff (st:St) (k aq off len:Nat) (l:List Rs):Option (D×St):=
 match decide (l.length=len∧1≤len∧len<1099511627776) with
 |true=>match st.wr k aq off (eI (srt l)) with
  |some ae=>some (.tup [],ae)
  |none=>none
 |false=>none
noncomputable def zz:List D→St→Option (D×St)
 |[.nul,.fn 80 []],st=>some (.tup [],st)
 |[.win k aq off len 2,.fn 80 []],st=>match st.dL k aq with
  |some (_,c)=>match Fl ((c.drop off).take (2*len)) with
   |some l=>Ff st k aq off len l
   |none=>none
  |none=>none
 |_,_=>none
theorem ru {ds:List D} {st:St} {r:D×St} (h:zz ds st=some r):(ds=[.nul,.fn 80 []]∧r=(.tup [],st))∨
  ∃k aq off ar c l,ds=[.win k aq off l.length 2,.fn 80 []]∧st.dL k aq=some (ar,c)∧(c.drop off).take (2*l.length)=eI l∧1≤l.length∧l.length<1099511627776∧st.wr k aq off (eI (srt l))=some r.2∧r.1=.tup []:=by
 unfold zz at h
 split at h
 ·cases h;exact .inl ⟨rfl,rfl⟩
 ·rename_i DA k aq off len;right
  split at h
  ·rename_i ar c hm
   split at h
   ·rename_i l hl;unfold Ff at h
    split at h
    ·rename_i hd;have hd:=of_decide_eq_true hd
     split at h
     ·rename_i ae hw;cases h;obtain⟨rfl,h1,h2⟩:=hd;exact⟨k,aq,off,ar,c,l,rfl,hm,uC hl,h1,h2,hw,rfl⟩
     ·cases h
    ·cases h
   ·cases h
  ·cases h
 ·cases h
theorem DR:(match eJ zO 60 79 [.nul,.fn 80 []] ⟨[],0,0⟩ with|some (.tup [],⟨[],_,_⟩)=>true|_=>false)=true:=by kernel_rfl
theorem BT {w w':World} {st:St} {β:Nat→Option (Nat×Nat)} {Z:Nat→Prop} (h:fm w st β Z) (hb:Below w.heap.size w w'):Nx w st β Z w' st β Z:=by
 have hq:Quiet w w':=fun b ez=>hb.block b ez
 have hk:cM w (st.x β Z) w' (st.x β Z):=
  ⟨fun _ p hp=>⟨p,hp⟩,fun b hb=>⟨hb,hq b (h.zl b hb)⟩,fun _ c _ _ hc=>⟨c,hc,Nat.le_refl _⟩,fun k _ _ _ b base hb=>⟨hb,db (hq b (h.lt k b base hb))⟩⟩
 exact⟨⟨h.dom,fun k b base ez=>Nat.lt_of_lt_of_le (h.lt k b base ez) hb.size,h.inj,h.zd,fun b ez=>Nat.lt_of_lt_of_le (h.zl b ez) hb.size,fun k b base bx ez fT=>(h.box k b base bx ez fT).cD hk (hq b (h.lt k b base ez)),h.flr,h.ro⟩,hk,
  ⟨hb.os,hb.tape,hb.output,hb.size,fun b ez _=>hq b ez⟩,fun _ _ base hb=>.inl ⟨base,hb⟩,fun _ hz=>.inl hz,Nat.le_refl _,rfl,rfl,fun _ _=>⟨rfl,rfl⟩,fun _ _ h=>⟨h,rfl⟩⟩
theorem DB (hv:zO.Ok Tryz.prog∧zO.jm∧gO Tryz.prog zO (eF zO)) {pv:Pv} (ft:iA pv 79=false):je Tryz.prog pv 79 zz:=by
 refine⟨fun ds st r hp=>⟨Tryz.f79,_,Tryz.func79,rfl,by decide⟩,fun ds st d ae hp w β Z us fQ hle ha=>?_,fun ds st d ae hp hr=>(by rw[ft] at hr;cases hr),fun ds st d ae hp=>?_⟩
 ·rcases ru hp with⟨rfl,hr⟩|⟨k,aq,off,ar,c,l,rfl,hm,hl,hn,dE,hw,hd⟩
  ·cases hr;have hs:=DR
   split at hs
   ·rename_i a b he;refine(pA hv he rfl rfl st w β Z us fQ hle ha).mono fun e w'=>?_;rintro⟨v,β',Z',h1,h2,h3,h4⟩;exact⟨v,β',Z',h1,h2,h3,fun _=>h4⟩
   ·cases hs
  ·obtain⟨u,v,rfl⟩:∃u v,us=[u,v]:=by
    match us,hle with
    |[u,v],_=>exact⟨u,v,rfl⟩
   obtain⟨a,cap,rfl,iC,_,_,h_⟩:=dR (ha 0 _ u rfl rfl);obtain⟨vs,rfl,AV,_⟩:=ud (ha 1 _ v rfl rfl);have AV:vs=[]:=List.length_eq_zero_iff.1 AV.symm;subst AV;obtain⟨b,base,sz,hb,hsz,Lh⟩:=h_ (cn hm).2;obtain⟨rfl,jr⟩:=Lh.resolve_left (by omega);obtain⟨cs,el,fr,r1,r2,r3,r4⟩:=fQ.row hm hb
   have I4:∀(i:Nat) x,l[i]?=some x→c[off+2*i]?=some (.int .i32 x.lo)∧c[off+(2*i+1)]?=some (.int .i32 x.hi):=by
    intro i x hx;have hi:i<l.length:=(List.getElem?_eq_some_iff.1 hx).1;obtain⟨h1,h2⟩:=pX l i x hx;rw[←hl,List.getElem?_take,if_pos (by omega),List.getElem?_drop] at h1 h2;exact⟨h1,h2⟩
   have yO:=sort_calls b (base+off) cap l w r1 r3.2 (fun i x hx=>by
    obtain⟨h1,h2⟩:=I4 i x hx;obtain⟨u1,a1,_,c1⟩:=r4 _ _ h1;obtain⟨u2,a2,_,c2⟩:=r4 _ _ h2;have:=bW c1;subst this;have:=bW c2;subst this
    exact⟨by rw[←a1];congr 1;omega,by rw[←a2];congr 1;omega⟩) (by omega)
   have hperm:=(srt_facts l).1;have lN:(srt l).length=l.length:=hperm.length_eq;refine yO.mono ?_;rintro e w' ⟨rfl,cs',g1,g2,g3,g4,g5,g6,g7,g8⟩
   have hwr:Nx w st β Z (wput w b (.cells cs' el fr)) ae β Z:=by
    unfold St.wr at hw;rw[hm] at hw;simp only at hw
    split at hw
    ·rename_i hc;have iJ:=Option.some.inj hw;rw[←iJ]
     have hx:=Nx.write (a':=ar) (kR:=aq) (c':=setMany c off (eI (srt l))) (cu:=base) fQ hm hb (dh hc.2) (Nat.le_refl _) (fun _=>rfl) r1 (cs':=cs') g1 (by rw[cW];exact r2) (fun j d hd=>by
      rw[gQ (eI (srt l)) c off j hc.1] at hd
      split at hd
      ·rename_i hj;rw[mj,lN] at hj;obtain⟨x,hx1,Kw⟩:=AG (srt l) (j-off) (by omega);rw[Kw] at hd;cases hd;obtain⟨k1,k2⟩:=g3 _ _ hx1
       split
       ·refine⟨.int .i32 x.lo,?_,rfl,.im _ _ (.int _ _)⟩;rw[←k1];congr 1;omega
       ·refine⟨.int .i32 x.hi,?_,rfl,.im _ _ (.int _ _)⟩;rw[←k2];congr 1;omega
      ·rename_i hj;rw[mj,lN] at hj;rw[g2 _ (by omega)]
       exact r4 j d hd)
     have e1:(fun i=>if i=k then some (b,base) else β i)=β:=by
      funext i;split
      ·rename_i e;subst e;exact hb.symm
      ·rfl
     rw[e1] at hx;exact hx
    ·cases hw
   have nX:(wput w b (.cells cs' el fr)).heap.size=w.heap.size:=by simp[wput]
   have Gp:Below (wput w b (.cells cs' el fr)).heap.size (wput w b (.cells cs' el fr)) w':=⟨g4.symm,g5.symm,g6.symm,by rw[nX];exact g7,fun k hk=>g8 k (by rw[nX] at hk;exact hk)⟩
   refine⟨_,β,Z,rfl,hwr.trans (BT hwr.sim Gp),?_,fun h=>by rw[ft] at h;cases h⟩;simp only at hd;rw[hd];exact .im _ _ (.tup [] [] rfl fun q c v hc hv=>by simp at hc)
 ·rcases ru hp with⟨rfl,hr⟩|⟨k,aq,off,ar,c,l,rfl,hm,hl,hn,dE,hw,hd⟩
  ·cases hr;exact dq.refl _
  ·exact lO hw
end Go.Proofs.YtajblankjjmonaaGreat
