/-
 slices.SortFunc on ranges, given to V.
-/
import Derived.Test.YtappgjdiplibbaaGreatYSrt
import Derived.Test.YtappgjdiplibbaaGreatYView
import Derived.Test.YtappgjdiplibbaaGreatYM2
import Derived.KernelRfl
set_option linter.all false
open Nat renaming le_refl->γ,lt_of_lt_of_le->δ
namespace Go.Proofs.YtappgjdiplibbaaGreat
open Go.V Go Go.RowKit
def Re:List D->Option (List Rs)
 |[]=>some []
 | .int .i32 a::.int .i32 b::l=>match decide (0<=a),decide (a<=1114111),Re l with
  |true,true,some r=>if h:0<=a/\a<=1114111 then some (⟨a,b,h.1,h.2⟩::r) else none
  |_,_,_=>none
 |_=>none
def gD:List Rs->List D
 |[]=>[]
 |x::l=>.int .i32 x.lo::.int .i32 x.hi::gD l
theorem Gv:∀l:List Rs,Re (gD l)=some l
 |[]=>rfl
 |x::l=>by simp[gD,Re,Gv l,x.h0,x.h1]
def Cg:∀{c:List D} {l:List Rs},Re c=some l->c=gD l
 |[],l,h=>by cases h;rfl
 |[_],l,h=>by
  unfold Re at h
  split at h
  .rename_i he;cases he
  .rename_i he;cases he
  .cases h
 |d::e::c,l,h=>by
  unfold Re at h
  split at h
  .rename_i he;cases he
  .rename_i a b m he;cases he
   split at h
   .rename_i r h1 X h3
    split at h
    .cases h;rw[Cg h3];rfl
    .cases h
   .cases h
  .cases h
theorem rV:∀l:List Rs,(gD l).length=2*l.length
 |[]=>rfl
 |x::l=>by simp[gD,rV l];omega
def wZ:∀(l:List Rs) (i:Nat) x,l[i]?=some x->(gD l)[2*i]?=some (.int .i32 x.lo)/\(gD l)[2*i+1]?=some (.int .i32 x.hi)
 |[],i,x,h=>by simp at h
 |y::l,0,x,h=>by simp at h;subst h;exact⟨rfl,rfl⟩
 |y::l,i+1,x,h=>by
  have:=wZ l i x (by simpa using h)
  simpa[gD,show 2*(i+1)=2*i+1+1 by omega] using this
def Jn (l:List Rs) (j:Nat) (hj:j<2*l.length):∃x,l[j/2]?=some x/\(gD l)[j]?=some (.int .i32 (if j %2=0 then x.lo else x.hi)):=by
 refine⟨l[j/2]'(by omega),List.getElem?_eq_getElem _,?_⟩;obtain⟨h1,X⟩:=wZ l (j/2) _ (List.getElem?_eq_getElem (by omega))
 rcases Nat.mod_two_eq_zero_or_one j with h|h
 .rw[if_pos h,<-h1];congr 1;omega
 .rw[if_neg (by omega),<-X];congr 1;omega
theorem zi:∀l:List Rs,refs (gD l)=0
 |[]=>rfl
 |x::l=>by simp[gD,refs,D.ref,zi l]
noncomputable def Q3 (U:St) (k aj off len:Nat) (l:List Rs):Option (D×St):=
 match decide (l.length=len/\1<=len/\len<1099511627776) with
 |true=>match U.wr k aj off (gD (srt l)) with
  |some R=>some (.tup [],R)
  |none=>none
 |false=>none
noncomputable def xw:List D->St->Option (D×St)
 |[.nul,.fn 145 []],U=>some (.tup [],U)
 |[.win k aj off len 2,.fn 145 []],U=>match U.cp k aj with
  |some (_,c)=>match Re ((c.drop off).take (2*len)) with
   |some l=>Q3 U k aj off len l
   |none=>none
  |none=>none
 |_,_=>none
def yd {ds:List D} {U:St} {r:D×St} (h:xw ds U=some r):(ds=[.nul,.fn 145 []]/\r=(.tup [],U))\/
  ∃k aj off ar c l,ds=[.win k aj off l.length 2,.fn 145 []]/\U.cp k aj=some (ar,c)/\(c.drop off).take (2*l.length)=gD l/\1<=l.length/\l.length<1099511627776/\U.wr k aj off (gD (srt l))=some r.2/\r.1=.tup []:=by
 unfold xw at h
 split at h
 .cases h;exact .inl ⟨rfl,rfl⟩
 .rename_i uk k aj off len;right
  split at h
  .rename_i ar c hm
   split at h
   .rename_i l hl;unfold Q3 at h
    split at h
    .rename_i hd;have hd:=of_decide_eq_true hd
     split at h
     .rename_i R hw;cases h;obtain⟨rfl,h1,X⟩:=hd;exact⟨k,aj,off,ar,c,l,rfl,hm,Cg hl,h1,X,hw,rfl⟩
     .cases h
    .cases h
   .cases h
  .cases h
 .cases h
def Ot:(match cA dE 60 144 [.nul,.fn 145 []] ⟨[],0,0⟩ with|some (.tup [],⟨[],_,_⟩)=>true|_=>false)=true:=by kernel_rfl
def Lc {w w':World} {U:St} {β:Nat->Option (Nat×Nat)} {Z:Nat->Prop} (h:iD w U β Z) (F:Below w.heap.size w w'):Nx w U β Z w' U β Z:=by
 have hq:Quiet w w':=λb gB=>F.block b gB
 have A:eI w (U.x β Z) w' (U.x β Z):=
  ⟨λ_ p B=>⟨p,B⟩,λb F=>⟨F,hq b (h.zl b F)⟩,λ_ c _ _ hc=>⟨c,hc,γ _⟩,λk _ _ _ b base F=>⟨F,gK (hq b (h.lt k b base F))⟩⟩
 exact⟨⟨h.dom,λk b base gB=>δ (h.lt k b base gB) F.size,h.inj,h.zd,λb gB=>δ (h.zl b gB) F.size,λk b base bx gB j_=>(h.box k b base bx gB j_).bW A (hq b (h.lt k b base gB)),h.flr,h.ro⟩,A,
  ⟨F.os,F.tape,F.output,F.size,λb gB _=>hq b gB⟩,λ_ _ base F=>.inl ⟨base,F⟩,λ_ hz=>.inl hz,γ _,rfl,rfl,λ_ _=>⟨rfl,rfl⟩,λ_ _ h=>⟨h,rfl⟩⟩
def Ab (hv:dE.Ok Tryz.prog/\dE.fu/\gh Tryz.prog dE (dj dE)) {pv:Pv} (fx:kZ pv 144=false):dx Tryz.prog pv 144 xw:=by
 refine⟨λds U r B=>⟨Tryz.f144,_,Tryz.func144,rfl,by decide⟩,λds U d R B w β Z us dB hle ha=>?_,λds U d R B hr=>(by rw[fx] at hr;cases hr),λds U d R B=>?_⟩
 .rcases yd B with⟨rfl,hr⟩|⟨k,aj,off,ar,c,l,rfl,hm,hl,hn,dZ,hw,hd⟩
  .cases hr;have hs:=Ot
   split at hs
   .rename_i a b he;refine(mC hv he rfl rfl U w β Z us dB hle ha).mono λe w'=>?_;rintro⟨v,β',Z',h1,X,h3,h4⟩;exact⟨v,β',Z',h1,X,h3,λ_=>h4⟩
   .cases hs
  .obtain⟨aa,v,rfl⟩:∃aa v,us=[aa,v]:=by
    match us,hle with
    |[aa,v],_=>exact⟨aa,v,rfl⟩
   obtain⟨a,cap,rfl,mK,_,_,hat⟩:=ec (ha 0 _ aa rfl rfl);obtain⟨vs,rfl,hvs,_⟩:=BO (ha 1 _ v rfl rfl);have hvs:vs=[]:=List.length_eq_zero_iff.1 hvs.symm;subst hvs;obtain⟨b,base,sz,F,hsz,VY⟩:=hat (bE hm).2;obtain⟨rfl,jI⟩:=VY.resolve_left (by omega);obtain⟨cs,el,I,r1,r2,r3,r4⟩:=dB.row hm F
   have WE:∀(i:Nat) x,l[i]?=some x->c[off+2*i]?=some (.int .i32 x.lo)/\c[off+(2*i+1)]?=some (.int .i32 x.hi):=by
    intro i x hx;have hi:i<l.length:=(List.getElem?_eq_some_iff.1 hx).1;obtain⟨h1,X⟩:=wZ l i x hx;rw[<-hl,List.getElem?_take,if_pos (by omega),List.getElem?_drop] at h1 X;exact⟨h1,X⟩
   have He:=sort_calls b (base+off) cap l w r1 r3.2 (λi x hx=>by
    obtain⟨h1,X⟩:=WE i x hx;obtain⟨u1,a1,_,c1⟩:=r4 _ _ h1;obtain⟨u2,a2,_,c2⟩:=r4 _ _ X;have:=de c1;subst this;have:=de c2;subst this
    exact⟨by rw[<-a1];congr 1;omega,by rw[<-a2];congr 1;omega⟩) (by omega)
   have hperm:=(srt_facts l).1;have pb:(srt l).length=l.length:=hperm.length_eq;refine He.mono ?_;rintro e w' ⟨rfl,cs',g1,g2,g3,g4,g5,g6,g7,g8⟩
   have hwr:Nx w U β Z (wput w b (.cells cs' el I)) R β Z:=by
    unfold St.wr at hw;rw[hm] at hw;simp only at hw
    split at hw
    .rename_i hc;have hst:=Option.some.inj hw;rw[<-hst]
     have hx:=Nx.write (a':=ar) (nz:=aj) (c':=setMany c off (gD (srt l))) (dr:=base) dB hm F (jL hc.2) (γ _) (λ_=>rfl) r1 (cs':=cs') g1 (by rw[ez];exact r2) (λj d hd=>by
      rw[je (gD (srt l)) c off j hc.1] at hd
      split at hd
      .rename_i hj;rw[rV,pb] at hj;obtain⟨x,hx1,OS⟩:=Jn (srt l) (j-off) (by omega);rw[OS] at hd;cases hd;obtain⟨k1,k2⟩:=g3 _ _ hx1
       split
       .refine⟨.int .i32 x.lo,?_,rfl,.im _ _ (.int _ _)⟩;rw[<-k1];congr 1;omega
       .refine⟨.int .i32 x.hi,?_,rfl,.im _ _ (.int _ _)⟩;rw[<-k2];congr 1;omega
      .rename_i hj;rw[rV,pb] at hj;rw[g2 _ (by omega)]
       exact r4 j d hd)
     have e1:(λi=>if i=k then some (b,base) else β i)=β:=by
      funext i;split
      .rename_i e;subst e;exact F.symm
      .rfl
     rw[e1] at hx;exact hx
    .cases hw
   have tW:(wput w b (.cells cs' el I)).heap.size=w.heap.size:=by simp[wput]
   have SF:Below (wput w b (.cells cs' el I)).heap.size (wput w b (.cells cs' el I)) w':=⟨g4.symm,g5.symm,g6.symm,by rw[tW];exact g7,λk A=>g8 k (by rw[tW] at A;exact A)⟩
   refine⟨_,β,Z,rfl,hwr.trans (Lc hwr.sim SF),?_,λh=>by rw[fx] at h;cases h⟩;simp only at hd;rw[hd];exact .im _ _ (.tup [] [] rfl λq c v hc hv=>by simp at hc)
 .rcases yd B with⟨rfl,hr⟩|⟨k,aj,off,ar,c,l,rfl,hm,hl,hn,dZ,hw,hd⟩
  .cases hr;exact eE.refl _
  .exact kC hw
end Go.Proofs.YtappgjdiplibbaaGreat
