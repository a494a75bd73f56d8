/-
 digits, given to V.
-/
import Derived.Test.YthahmilhpmfkfaaGreatVDig
import Derived.Test.YthahmilhpmfkfaaGreatVPv
import Derived.Test.YthahmilhpmfkfaaGreatVM2
set_option linter.unusedSimpArgs false
set_option linter.unusedVariables false
namespace Go.Proofs.YthahmilhpmfkfaaGreat
open Go.V Go Go.RowKit
def km:List D→Option (List Int)
 |[]=>some []
 | .agg [.int .i32 r,.int .i64 _]::l=>match km l with
  |some rs=>some (r::rs)
  |none=>none
 |_=>none
def Jp (st:St) (k au off:Nat) (rs:List Int) (i:Int):Option (D×St):=
 match decide (rs≠[]∧0≤i∧i.toNat≤rs.length∧rs.length<1099511627776) with
 |true=>match st.wr k au (off+2) [.int .i64 ((i.toNat+(digS (rs.drop i.toNat) []).2:Nat))] with
  |some ah=>some (.tup [.str (digS (rs.drop i.toNat) []).1,.bool (decide (0<(digS (rs.drop i.toNat) []).2))],ah)
  |none=>none
 |false=>none
def D7:List D→St→Option (D×St)
 |[.ptr k au off],st=>match st.bW k au with
  |some (_,c)=>match c[off]?,c[off+2]? with
   |some (.sl es),some (.int .i64 i)=>match km es with
    |some rs=>Jp st k au off rs i
    |none=>none
   |_,_=>none
  |none=>none
 |_,_=>none
theorem vp {ds:List D} {st:St} {r:D×St} (h:D7 ds st=some r):∃k au off ar c es i rs,ds=[.ptr k au off]∧st.bW k au=some (ar,c)∧c[off]?=some (.sl es)∧c[off+2]?=some (.int .i64 i)∧km es=some rs∧
  (rs≠[]∧0≤i∧i.toNat≤rs.length∧rs.length<1099511627776)∧st.wr k au (off+2) [.int .i64 ((i.toNat+(digS (rs.drop i.toNat) []).2:Nat))]=some r.2∧r.1=.tup [.str (digS (rs.drop i.toNat) []).1,.bool (decide (0<(digS (rs.drop i.toNat) []).2))]:=by
 unfold D7 at h
 split at h
 ·rename_i Bx k au off
  split at h
  ·rename_i ar c hm
   split at h
   ·rename_i es i h1 h2
    split at h
    ·rename_i rs h3;unfold Jp at h
     split at h
     ·rename_i hc
      split at h
      ·rename_i ah hw;cases h;exact⟨k,au,off,ar,c,es,i,rs,rfl,hm,h1,h2,h3,of_decide_eq_true hc,hw,rfl⟩
      ·cases h
     ·cases h
    ·cases h
   ·cases h
  ·cases h
 ·cases h
theorem pE:∀{es:List D} {rs:List Int},km es=some rs→rs.length=es.length∧∀(j:Nat) r,rs[j]?=some r→∃n,es[j]?=some (.agg [.int .i32 r,.int .i64 n])
 |[],rs,h=>by simp only[km] at h;cases h;exact⟨rfl,fun j r h=>by simp at h⟩
 |e::es,rs,h=>by
  unfold km at h
  split at h
  ·rename_i heq;cases heq
  ·rename_i r n l heq;cases heq
   split at h
   ·rename_i UY h';cases h;obtain⟨h1,h2⟩:=pE h';refine⟨by simp[h1],fun j r' hj=>?_⟩
    cases j with
    |zero=>simp at hj;subst hj;exact⟨n,rfl⟩
    |succ j=>simpa using h2 j r' (by simpa using hj)
   ·cases h
  ·cases h
theorem Nx.quiet {w w':World} {st:St} {β:Nat→Option (Nat×Nat)} {Z:Nat→Prop} (h:fG w st β Z) (hb:Below w.heap.size w w'):Nx w st β Z w' st β Z:=by
 have hq:Quiet w w':=fun b eH=>hb.block b eH
 have hk:dq w (st.x β Z) w' (st.x β Z):=
  ⟨fun _ p hp=>⟨p,hp⟩,fun b hb=>⟨hb,hq b (h.zl b hb)⟩,fun _ c _ _ hc=>⟨c,hc,Nat.le_refl _⟩,fun k _ _ _ b base hb=>⟨hb,dV (hq b (h.lt k b base hb))⟩⟩
 exact⟨⟨h.dom,fun k b base eH=>Nat.lt_of_lt_of_le (h.lt k b base eH) hb.size,h.inj,h.zd,fun b eH=>Nat.lt_of_lt_of_le (h.zl b eH) hb.size,fun k b base bx eH gU=>(h.box k b base bx eH gU).cM hk (hq b (h.lt k b base eH)),h.flr,h.ro⟩,hk,
  ⟨hb.os,hb.tape,hb.output,hb.size,fun b eH _=>hq b eH⟩,fun _ _ base hb=>.inl ⟨base,hb⟩,fun _ hz=>.inl hz,Nat.le_refl _,rfl,rfl,fun _ _=>⟨rfl,rfl⟩,fun _ _ h=>⟨h,rfl⟩⟩
theorem xI {w:World} {b o:Nat} {cs:Array Value} {el:TypeId} {fr:Nat×Nat} {v:Value} (h:w.heap[b]?=some (.cells cs el fr)):w.setCell ⟨b,o,none⟩ v=wput w b (.cells (cs.setIfInBounds o v) el fr):=by
 have hb:b<w.heap.size:=(Array.getElem?_eq_some_iff.1 h).1
 have key:(w.setCell ⟨b,o,none⟩ v).heap=w.heap.setIfInBounds b (.cells (cs.setIfInBounds o v) el fr):=by
  simp only[World.setCell];apply Array.ext_getElem?;intro j;rw[Array.getElem?_modify]
  by_cases hj:b=j
  ·subst hj;rw[if_pos rfl,h,Array.getElem?_setIfInBounds_self_of_lt hb];rfl
  ·rw[if_neg hj,Array.getElem?_setIfInBounds_ne hj]
 have:w.setCell ⟨b,o,none⟩ v={w with heap:=(w.setCell ⟨b,o,none⟩ v).heap}:=rfl;rw[this,key];rfl
theorem Jq {pv:Pv} (eG:kD pv 102=false):jj Tryz.prog pv 102 D7:=by
 refine⟨fun ds st r hp=>?_,fun ds st d ah hp w β Z us df hle ha=>?_,fun ds st d ah hp hr=>?_,fun ds st d ah hp=>?_⟩
 ·exact⟨Tryz.f102,_,Tryz.func102,rfl,by decide⟩
 ·obtain⟨k,au,off,ar,c,es,i,rs,rfl,hm,h1,h2,h3,⟨hne,hi0,hil,hn⟩,hw,hd⟩:=vp hp
  obtain⟨u,rfl⟩:∃u,us=[u]:=by
   match us,hle with
   |[u],_=>exact⟨u,rfl⟩
  have hu:=ha 0 _ u rfl rfl;obtain⟨a,rfl,hk,hat⟩:=bY hu;obtain⟨b,base,hb,rfl⟩:=hat (bm hm).2;obtain⟨cs,el,fr,r1,r2,r3,r4⟩:=df.row hm hb;obtain⟨u0,c0,c1,c2⟩:=r4 off _ h1;obtain⟨u2,d0,d1,d2⟩:=r4 (off+2) _ h2;have HI:=cj d2;subst HI;obtain⟨s1,s2⟩:=pE h3;have u9:es≠[]:=fun e=>by subst e;simp at s1;exact hne s1
  obtain⟨la,cap,rfl,lI,ND⟩:=lh c2;obtain⟨bl,ol,s,rfl,hz,hcl,YI,f,wT,wS⟩:=ND.resolve_left u9;have hbl:bl<w.heap.size:=df.zl bl hz;have Pr:b<w.heap.size:=df.lt k b base hb;have Mi:bl≠b:=fun e=>df.zd k b base hb (e▸hz)
  have Qw:s=2:=by
   cases es with
   |nil=>exact absurd rfl u9
   |cons e zA=>
    cases rs with
    |nil=>simp at s1
    |cons r UY=>
     obtain⟨n,hn⟩:=s2 0 r rfl;have:=(hcl 0 _ hn).2
     simpa[D.cells] using this.symm
  subst Qw;have hcell:∀(q:Nat) u,cs[q]?=some u→w.cell? ⟨b,q,none⟩=some u:=fun q u hq=>by simp[World.cell?,r1,hq]
  have Cd:=digits_walk w b (base+off) bl ol cap rs i.toNat (by rw[s1];exact hcell _ _ c0) (by
    have:=hcell _ _ d0;rw[show base+off+2=base+(off+2) by omega,this]
    congr 2;omega) (by
    simp only[World.frozen?,r1]
    have hlt:base+off+2<cs.size:=by
     have:=(Array.getElem?_eq_some_iff.1 d0).1;omega
    have:=r3.2 (base+off+2) hlt;simp only[Bool.and_eq_false_iff,decide_eq_false_iff_not]
    omega) (fun j r hj=>by
    obtain⟨n,hn⟩:=s2 j r hj;obtain⟨g1,_⟩:=wT j _ 0 (.int .i32 r) hn rfl;have g3:=wS j _ 0 (.int .i32 r) hn rfl;rw[Nat.add_zero] at g1;rw[g1];generalize f j 0=z at g3
    cases g3;rfl) Mi hbl Pr hil hn
  rw[show base+off+2=base+(off+2) by omega,xI r1] at Cd;generalize RL:(digS (rs.drop i.toNat) []).2=fT at*;generalize VE:(digS (rs.drop i.toNat) []).1=str at*;simp only at hw hd;have hlt:base+(off+2)<cs.size:=(Array.getElem?_eq_some_iff.1 d0).1
  have hwr:Nx w st β Z (wput w b (.cells (cs.setIfInBounds (base+(off+2)) (.int .i64 ((i.toNat+fT:Nat)))) el fr)) ah β Z:=by
   have Yk:=hw;unfold St.wr at hw;rw[hm] at hw;simp only at hw
   split at hw
   ·rename_i hc;cases hw;have pf:off+2<c.length:=fO h2
    have hx:=Nx.write (a':=ar) (lj:=au) (c':=setMany c (off+2) [.int .i64 ((i.toNat+fT:Nat))]) (cU:=base) df hm hb (dG hc.2) (Nat.le_refl _) (fun _=>rfl) r1 (cs':=cs.setIfInBounds (base+(off+2)) (.int .i64 ((i.toNat+fT:Nat)))) (by simp) (by rw[dH];exact r2) (fun j d hd=>by
     simp only[setMany] at hd
     by_cases hj:off+2=j
     ·subst hj;rw[List.getElem?_set_self pf] at hd;cases hd;refine⟨.int .i64 ((i.toNat+fT:Nat)),?_,rfl,.im _ _ (.int _ _)⟩;rw[Array.getElem?_setIfInBounds_self_of_lt hlt]
     ·rw[List.getElem?_set_ne hj] at hd;obtain⟨u,jk,lf,pa⟩:=r4 j d hd
      exact⟨u,by rw[Array.getElem?_setIfInBounds_ne (by omega)];exact jk,lf,pa⟩)
    have e1:(fun i=>if i=k then some (b,base) else β i)=β:=by
     funext i;split
     ·rename_i e;subst e;exact hb.symm
     ·rfl
    rw[e1] at hx;exact hx
   ·cases hw
  refine Cd.mono ?_;rintro e w' ⟨rfl,Ly⟩
  have Oc:Below (wput w b (.cells (cs.setIfInBounds (base+(off+2)) (.int .i64 ((i.toNat+fT:Nat)))) el fr)).heap.size (wput w b (.cells (cs.setIfInBounds (base+(off+2)) (.int .i64 ((i.toNat+fT:Nat)))) el fr)) w':=by
   have:(wput w b (.cells (cs.setIfInBounds (base+(off+2)) (.int .i64 ((i.toNat+fT:Nat)))) el fr)).heap.size=w.heap.size:=by simp[wput]
   rw[this];exact Ly
  refine⟨_,β,Z,rfl,hwr.trans (Nx.quiet hwr.sim Oc),?_,fun h=>by rw[eG] at h;cases h⟩;rw[hd];refine .im _ _ (.tup _ [.string ⟨str.toArray⟩,.bool (decide (0<fT))] rfl fun q c v hc hv=>?_)
  match q,hc,hv with
  |0,hc,hv=>cases hc;cases hv;exact .str _
  |1,hc,hv=>cases hc;cases hv;exact .bool _
 ·rw[eG] at hr;cases hr
 ·obtain⟨k,au,off,ar,c,es,i,rs,rfl,hm,h1,h2,h3,_,hw,hd⟩:=vp hp;exact jq hw
end Go.Proofs.YthahmilhpmfkfaaGreat
