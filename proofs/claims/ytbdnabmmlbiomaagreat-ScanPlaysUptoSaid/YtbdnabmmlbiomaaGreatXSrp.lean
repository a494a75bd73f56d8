import Derived.Test.YtbdnabmmlbiomaaGreatXSrt
import Derived.Test.YtbdnabmmlbiomaaGreatXView
import Derived.Test.YtbdnabmmlbiomaaGreatXM2
import Derived.KernelRfl
set_option linter.unusedSimpArgs false
set_option linter.unusedVariables false
namespace Go.Proofs.YtbdnabmmlbiomaaGreat
open Go.V Go Go.RowKit
def PB:List D→Option (List Rs)
 |[]=>some []
 | .int .i32 a::.int .i32 b::l=>match decide (0≤a),decide (a≤1114111),PB l with
  |true,true,some r=>if h:0≤a∧a≤1114111 then some (⟨a,b,h.1,h.2⟩::r) else none
  |_,_,_=>none
 |_=>none
def fh:List Rs→List D
 |[]=>[]
 |x::l=>.int .i32 x.lo::.int .i32 x.hi::fh l
theorem zH:∀l:List Rs,PB (fh l)=some l
 |[]=>rfl
 |x::l=>by simp[fh,PB,zH l,x.h0,x.h1]
theorem vF:∀{c:List D} {l:List Rs},PB c=some l→c=fh l
 |[],l,h=>by cases h;rfl
 |[_],l,h=>by
  unfold PB at h
  split at h
  ·rename_i he;cases he
  ·rename_i he;cases he
  ·cases h
 |d::e::c,l,h=>by
  unfold PB at h
  split at h
  ·rename_i he;cases he
  ·rename_i a b m he;cases he
   split at h
   ·rename_i r h1 h2 h3
    split at h
    ·cases h;rw[vF h3];rfl
    ·cases h
   ·cases h
  ·cases h
theorem mV:∀l:List Rs,(fh l).length=2*l.length
 |[]=>rfl
 |x::l=>by simp[fh,mV l];omega
theorem rq:∀(l:List Rs) (i:Nat) x,l[i]?=some x→(fh l)[2*i]?=some (.int .i32 x.lo)∧(fh l)[2*i+1]?=some (.int .i32 x.hi)
 |[],i,x,h=>by simp at h
 |y::l,0,x,h=>by simp at h;subst h;exact⟨rfl,rfl⟩
 |y::l,i+1,x,h=>by
  have:=rq l i x (by simpa using h)
  simpa[fh,show 2*(i+1)=2*i+1+1 by omega] using this
theorem BH (l:List Rs) (j:Nat) (hj:j<2*l.length):∃x,l[j/2]?=some x∧(fh l)[j]?=some (.int .i32 (if j %2=0 then x.lo else x.hi)):=by
 refine⟨l[j/2]'(by omega),List.getElem?_eq_getElem _,?_⟩;obtain⟨h1,h2⟩:=rq l (j/2) _ (List.getElem?_eq_getElem (by omega))
 rcases Nat.mod_two_eq_zero_or_one j with h|h
 ·rw[if_pos h,←h1];congr 1;omega
 ·rw[if_neg (by omega),←h2];congr 1;omega
theorem th:∀l:List Rs,refs (fh l)=0
 |[]=>rfl
 |x::l=>by simp[fh,refs,D.ref,th l]
noncomputable def Mp (st:St) (k az off len:Nat) (l:List Rs):Option (D×St):=
 match decide (l.length=len∧1≤len∧len<1099511627776) with
 |true=>match st.wr k az off (fh (srt l)) with
  |some ai=>some (.tup [],ai)
  |none=>none
 |false=>none
noncomputable def AD:List D→St→Option (D×St)
 |[.nul,.fn 155 []],st=>some (.tup [],st)
 |[.win k az off len 2,.fn 155 []],st=>match st.ei k az with
  |some (_,c)=>match PB ((c.drop off).take (2*len)) with
   |some l=>Mp st k az off len l
   |none=>none
  |none=>none
 |_,_=>none
theorem sy {ds:List D} {st:St} {r:D×St} (h:AD ds st=some r):(ds=[.nul,.fn 155 []]∧r=(.tup [],st))∨
  ∃k az off ar c l,ds=[.win k az off l.length 2,.fn 155 []]∧st.ei k az=some (ar,c)∧(c.drop off).take (2*l.length)=fh l∧1≤l.length∧l.length<1099511627776∧st.wr k az off (fh (srt l))=some r.2∧r.1=.tup []:=by
 unfold AD at h
 split at h
 ·cases h;exact .inl ⟨rfl,rfl⟩
 ·rename_i zx k az off len;right
  split at h
  ·rename_i ar c hm
   split at h
   ·rename_i l hl;unfold Mp at h
    split at h
    ·rename_i hd;have hd:=of_decide_eq_true hd
     split at h
     ·rename_i ai hw;cases h;obtain⟨rfl,h1,h2⟩:=hd;exact⟨k,az,off,ar,c,l,rfl,hm,vF hl,h1,h2,hw,rfl⟩
     ·cases h
    ·cases h
   ·cases h
  ·cases h
 ·cases h
theorem KH:(match cJ aW 60 154 [.nul,.fn 155 []] ⟨[],0,0⟩ with|some (.tup [],⟨[],_,_⟩)=>true|_=>false)=true:=by kernel_rfl
theorem C3 {w w':World} {st:St} {β:Nat→Option (Nat×Nat)} {Z:Nat→Prop} (h:gb w st β Z) (hb:Below w.heap.size w w'):Nx w st β Z w' st β Z:=by
 have hq:Quiet w w':=fun b ez=>hb.block b ez
 have hk:df w (st.x β Z) w' (st.x β Z):=
  ⟨fun _ p hp=>⟨p,hp⟩,fun b hb=>⟨hb,hq b (h.zl b hb)⟩,fun _ c _ _ hc=>⟨c,hc,Nat.le_refl _⟩,fun k _ _ _ b base hb=>⟨hb,dQ (hq b (h.lt k b base hb))⟩⟩
 exact⟨⟨h.dom,fun k b base ez=>Nat.lt_of_lt_of_le (h.lt k b base ez) hb.size,h.inj,h.zd,fun b ez=>Nat.lt_of_lt_of_le (h.zl b ez) hb.size,fun k b base bx ez gP=>(h.box k b base bx ez gP).aZ hk (hq b (h.lt k b base ez)),h.flr,h.ro⟩,hk,
  ⟨hb.os,hb.tape,hb.output,hb.size,fun b ez _=>hq b ez⟩,fun _ _ base hb=>.inl ⟨base,hb⟩,fun _ hz=>.inl hz,Nat.le_refl _,rfl,rfl,fun _ _=>⟨rfl,rfl⟩,fun _ _ h=>⟨h,rfl⟩⟩
theorem E_ (hv:aW.Ok Tryz.prog∧aW.jc∧ie Tryz.prog aW (eI aW)) {pv:Pv} (dX:jK pv 154=false):fG Tryz.prog pv 154 AD:=by
 refine⟨fun ds st r hp=>⟨Tryz.f154,_,Tryz.func154,rfl,by decide⟩,fun ds st d ai hp w β Z us fM hle ha=>?_,fun ds st d ai hp hr=>(by rw[dX] at hr;cases hr),fun ds st d ai hp=>?_⟩
 ·rcases sy hp with⟨rfl,hr⟩|⟨k,az,off,ar,c,l,rfl,hm,hl,hn,L_,hw,hd⟩
  ·cases hr;have hs:=KH
   split at hs
   ·rename_i a b he;refine(l5 hv he rfl rfl st w β Z us fM hle ha).mono fun e w'=>?_;rintro⟨v,β',Z',h1,h2,h3,h4⟩;exact⟨v,β',Z',h1,h2,h3,fun _=>h4⟩
   ·cases hs
  ·obtain⟨u,v,rfl⟩:∃u v,us=[u,v]:=by
    match us,hle with
    |[u,v],_=>exact⟨u,v,rfl⟩
   obtain⟨a,cap,rfl,lU,_,_,iZ⟩:=eF (ha 0 _ u rfl rfl);obtain⟨vs,rfl,BZ,_⟩:=vf (ha 1 _ v rfl rfl);have BZ:vs=[]:=List.length_eq_zero_iff.1 BZ.symm;subst BZ;obtain⟨b,base,sz,hb,hsz,hor⟩:=iZ (cN hm).2;obtain⟨rfl,jn⟩:=hor.resolve_left (by omega);obtain⟨cs,el,fr,r1,r2,r3,r4⟩:=fM.row hm hb
   have TF:∀(i:Nat) x,l[i]?=some x→c[off+2*i]?=some (.int .i32 x.lo)∧c[off+(2*i+1)]?=some (.int .i32 x.hi):=by
    intro i x hx;have hi:i<l.length:=(List.getElem?_eq_some_iff.1 hx).1;obtain⟨h1,h2⟩:=rq l i x hx;rw[←hl,List.getElem?_take,if_pos (by omega),List.getElem?_drop] at h1 h2;exact⟨h1,h2⟩
   have zZ:=sort_calls b (base+off) cap l w r1 r3.2 (fun i x hx=>by
    obtain⟨h1,h2⟩:=TF i x hx;obtain⟨u1,a1,_,c1⟩:=r4 _ _ h1;obtain⟨u2,a2,_,c2⟩:=r4 _ _ h2;have:=cv c1;subst this;have:=cv c2;subst this
    exact⟨by rw[←a1];congr 1;omega,by rw[←a2];congr 1;omega⟩) (by omega)
   have hperm:=(srt_facts l).1;have iT:(srt l).length=l.length:=hperm.length_eq;refine zZ.mono ?_;rintro e w' ⟨rfl,cs',g1,g2,g3,g4,g5,g6,g7,g8⟩
   have hwr:Nx w st β Z (wput w b (.cells cs' el fr)) ai β Z:=by
    unfold St.wr at hw;rw[hm] at hw;simp only at hw
    split at hw
    ·rename_i hc;have gf:=Option.some.inj hw;rw[←gf]
     have hx:=Nx.write (a':=ar) (lR:=az) (c':=setMany c off (fh (srt l))) (cU:=base) fM hm hb (dV hc.2) (Nat.le_refl _) (fun _=>rfl) r1 (cs':=cs') g1 (by rw[dw];exact r2) (fun j d hd=>by
      rw[iW (fh (srt l)) c off j hc.1] at hd
      split at hd
      ·rename_i hj;rw[mV,iT] at hj;obtain⟨x,hx1,zY⟩:=BH (srt l) (j-off) (by omega);rw[zY] at hd;cases hd;obtain⟨k1,k2⟩:=g3 _ _ hx1
       split
       ·refine⟨.int .i32 x.lo,?_,rfl,.im _ _ (.int _ _)⟩;rw[←k1];congr 1;omega
       ·refine⟨.int .i32 x.hi,?_,rfl,.im _ _ (.int _ _)⟩;rw[←k2];congr 1;omega
      ·rename_i hj;rw[mV,iT] at hj;rw[g2 _ (by omega)]
       exact r4 j d hd)
     have e1:(fun i=>if i=k then some (b,base) else β i)=β:=by
      funext i;split
      ·rename_i e;subst e;exact hb.symm
      ·rfl
     rw[e1] at hx;exact hx
    ·cases hw
   have mO:(wput w b (.cells cs' el fr)).heap.size=w.heap.size:=by simp[wput]
   have QI:Below (wput w b (.cells cs' el fr)).heap.size (wput w b (.cells cs' el fr)) w':=⟨g4.symm,g5.symm,g6.symm,by rw[mO];exact g7,fun k hk=>g8 k (by rw[mO] at hk;exact hk)⟩
   refine⟨_,β,Z,rfl,hwr.trans (C3 hwr.sim QI),?_,fun h=>by rw[dX] at h;cases h⟩;simp only at hd;rw[hd];exact .im _ _ (.tup [] [] rfl fun q c v hc hv=>by simp at hc)
 ·rcases sy hp with⟨rfl,hr⟩|⟨k,az,off,ar,c,l,rfl,hm,hl,hn,L_,hw,hd⟩
  ·cases hr;exact dW.refl _
  ·exact mr hw
end Go.Proofs.YtbdnabmmlbiomaaGreat
