/-
 digits, given to V.
-/
import Derived.Test.YtbdnabmmlbiomaaXDig
import Derived.Test.YtbdnabmmlbiomaaXPv
import Derived.Test.YtbdnabmmlbiomaaXM2
set_option linter.unusedSimpArgs false
set_option linter.unusedVariables false
namespace Go.Proofs.Ytbdnabmmlbiomaa
open Go.V Go Go.RowKit
def gW:List D→Option (List Int)
 |[]=>some []
 | .agg [.int .i32 r,.int .i64 _]::l=>match gW l with
  |some rs=>some (r::rs)
  |none=>none
 |_=>none
def Db (st:St) (k az off:Nat) (rs:List Int) (i:Int):Option (D×St):=
 match decide (rs≠[]∧0≤i∧i.toNat≤rs.length∧rs.length<1099511627776) with
 |true=>match st.wr k az (off+2) [.int .i64 ((i.toNat+(digS (rs.drop i.toNat) []).2:Nat))] with
  |some ah=>some (.tup [.str (digS (rs.drop i.toNat) []).1,.bool (decide (0<(digS (rs.drop i.toNat) []).2))],ah)
  |none=>none
 |false=>none
def wT:List D→St→Option (D×St)
 |[.ptr k az off],st=>match st.dz k az with
  |some (_,c)=>match c[off]?,c[off+2]? with
   |some (.sl es),some (.int .i64 i)=>match gW es with
    |some rs=>Db st k az off rs i
    |none=>none
   |_,_=>none
  |none=>none
 |_,_=>none
theorem oW {ds:List D} {st:St} {r:D×St} (h:wT ds st=some r):∃k az off ar c es i rs,ds=[.ptr k az off]∧st.dz k az=some (ar,c)∧c[off]?=some (.sl es)∧c[off+2]?=some (.int .i64 i)∧gW es=some rs∧
  (rs≠[]∧0≤i∧i.toNat≤rs.length∧rs.length<1099511627776)∧st.wr k az (off+2) [.int .i64 ((i.toNat+(digS (rs.drop i.toNat) []).2:Nat))]=some r.2∧r.1=.tup [.str (digS (rs.drop i.toNat) []).1,.bool (decide (0<(digS (rs.drop i.toNat) []).2))]:=by
 unfold wT at h
 split at h
 ·rename_i uO k az off
  split at h
  ·rename_i ar c hm
   split at h
   ·rename_i es i h1 h2
    split at h
    ·rename_i rs h3;unfold Db at h
     split at h
     ·rename_i hc
      split at h
      ·rename_i ah hw;cases h;exact⟨k,az,off,ar,c,es,i,rs,rfl,hm,h1,h2,h3,of_decide_eq_true hc,hw,rfl⟩
      ·cases h
     ·cases h
    ·cases h
   ·cases h
  ·cases h
 ·cases h
theorem lH:∀{es:List D} {rs:List Int},gW es=some rs→rs.length=es.length∧∀(j:Nat) r,rs[j]?=some r→∃n,es[j]?=some (.agg [.int .i32 r,.int .i64 n])
 |[],rs,h=>by simp only[gW] at h;cases h;exact⟨rfl,fun j r h=>by simp at h⟩
 |e::es,rs,h=>by
  unfold gW at h
  split at h
  ·rename_i heq;cases heq
  ·rename_i r n l heq;cases heq
   split at h
   ·rename_i Py h';cases h;obtain⟨h1,h2⟩:=lH h';refine⟨by simp[h1],fun j r' hj=>?_⟩
    cases j with
    |zero=>simp at hj;subst hj;exact⟨n,rfl⟩
    |succ j=>simpa using h2 j r' (by simpa using hj)
   ·cases h
  ·cases h
theorem Nx.quiet {w w':World} {st:St} {β:Nat→Option (Nat×Nat)} {Z:Nat→Prop} (h:eD w st β Z) (hb:Below w.heap.size w w'):Nx w st β Z w' st β Z:=by
 have hq:Quiet w w':=fun b dW=>hb.block b dW
 have hk:cG w (st.x β Z) w' (st.x β Z):=
  ⟨fun _ p hp=>⟨p,hp⟩,fun b hb=>⟨hb,hq b (h.zl b hb)⟩,fun _ c _ _ hc=>⟨c,hc,Nat.le_refl _⟩,fun k _ _ _ b base hb=>⟨hb,cV (hq b (h.lt k b base hb))⟩⟩
 exact⟨⟨h.dom,fun k b base dW=>Nat.lt_of_lt_of_le (h.lt k b base dW) hb.size,h.inj,h.zd,fun b dW=>Nat.lt_of_lt_of_le (h.zl b dW) hb.size,fun k b base bx dW fk=>(h.box k b base bx dW fk).bD hk (hq b (h.lt k b base dW)),h.flr,h.ro⟩,hk,
  ⟨hb.os,hb.tape,hb.output,hb.size,fun b dW _=>hq b dW⟩,fun _ _ base hb=>.inl ⟨base,hb⟩,fun _ hz=>.inl hz,Nat.le_refl _,rfl,rfl,fun _ _=>⟨rfl,rfl⟩,fun _ _ h=>⟨h,rfl⟩⟩
theorem rp {w:World} {b o:Nat} {cs:Array Value} {el:TypeId} {fr:Nat×Nat} {v:Value} (h:w.heap[b]?=some (.cells cs el fr)):w.setCell ⟨b,o,none⟩ v=wput w b (.cells (cs.setIfInBounds o v) el fr):=by
 have hb:b<w.heap.size:=(Array.getElem?_eq_some_iff.1 h).1
 have key:(w.setCell ⟨b,o,none⟩ v).heap=w.heap.setIfInBounds b (.cells (cs.setIfInBounds o v) el fr):=by
  simp only[World.setCell];apply Array.ext_getElem?;intro j;rw[Array.getElem?_modify]
  by_cases hj:b=j
  ·subst hj;rw[if_pos rfl,h,Array.getElem?_setIfInBounds_self_of_lt hb];rfl
  ·rw[if_neg hj,Array.getElem?_setIfInBounds_ne hj]
 have:w.setCell ⟨b,o,none⟩ v={w with heap:=(w.setCell ⟨b,o,none⟩ v).heap}:=rfl;rw[this,key];rfl
theorem Dc {pv:Pv} (eS:gK pv 89=false):fX Try.prog pv 89 wT:=by
 refine⟨fun ds st r hp=>?_,fun ds st d ah hp w β Z us ec hle ha=>?_,fun ds st d ah hp hr=>?_,fun ds st d ah hp=>?_⟩
 ·exact⟨Try.f89,_,Try.func89,rfl,by decide⟩
 ·obtain⟨k,az,off,ar,c,es,i,rs,rfl,hm,h1,h2,h3,⟨hne,Tn,hil,hn⟩,hw,hd⟩:=oW hp
  obtain⟨u,rfl⟩:∃u,us=[u]:=by
   match us,hle with
   |[u],_=>exact⟨u,rfl⟩
  have hu:=ha 0 _ u rfl rfl;obtain⟨a,rfl,hk,gN⟩:=bK hu;obtain⟨b,base,hb,rfl⟩:=gN (cj hm).2;obtain⟨cs,el,fr,r1,r2,r3,r4⟩:=ec.row hm hb;obtain⟨u0,c0,c1,c2⟩:=r4 off _ h1;obtain⟨u2,d0,d1,d2⟩:=r4 (off+2) _ h2;have RC:=bW d2;subst RC;obtain⟨s1,s2⟩:=lH h3;have ua:es≠[]:=fun e=>by subst e;simp at s1;exact hne s1
  obtain⟨la,cap,rfl,iU,Mc⟩:=iA c2;obtain⟨bl,ol,s,rfl,hz,hcl,RQ,f,vu,MC⟩:=Mc.resolve_left ua;have hbl:bl<w.heap.size:=ec.zl bl hz;have HG:b<w.heap.size:=ec.lt k b base hb;have QZ:bl≠b:=fun e=>ec.zd k b base hb (e▸hz)
  have LI:s=2:=by
   cases es with
   |nil=>exact absurd rfl ua
   |cons e NW=>
    cases rs with
    |nil=>simp at s1
    |cons r Py=>
     obtain⟨n,hn⟩:=s2 0 r rfl;have:=(hcl 0 _ hn).2
     simpa[D.cells] using this.symm
  subst LI;have hcell:∀(q:Nat) u,cs[q]?=some u→w.cell? ⟨b,q,none⟩=some u:=fun q u hq=>by simp[World.cell?,r1,hq]
  have vj:=digits_walk w b (base+off) bl ol cap rs i.toNat (by rw[s1];exact hcell _ _ c0) (by
    have:=hcell _ _ d0;rw[show base+off+2=base+(off+2) by omega,this]
    congr 2;omega) (by
    simp only[World.frozen?,r1]
    have hlt:base+off+2<cs.size:=by
     have:=(Array.getElem?_eq_some_iff.1 d0).1;omega
    have:=r3.2 (base+off+2) hlt;simp only[Bool.and_eq_false_iff,decide_eq_false_iff_not]
    omega) (fun j r hj=>by
    obtain⟨n,hn⟩:=s2 j r hj;obtain⟨g1,_⟩:=vu j _ 0 (.int .i32 r) hn rfl;have g3:=MC j _ 0 (.int .i32 r) hn rfl;rw[Nat.add_zero] at g1;rw[g1];generalize f j 0=z at g3
    cases g3;rfl) QZ hbl HG hil hn
  rw[show base+off+2=base+(off+2) by omega,rp r1] at vj;generalize J':(digS (rs.drop i.toNat) []).2=cnt at*;generalize Qi:(digS (rs.drop i.toNat) []).1=str at*;simp only at hw hd;have hlt:base+(off+2)<cs.size:=(Array.getElem?_eq_some_iff.1 d0).1
  have hwr:Nx w st β Z (wput w b (.cells (cs.setIfInBounds (base+(off+2)) (.int .i64 ((i.toNat+cnt:Nat)))) el fr)) ah β Z:=by
   have S_:=hw;unfold St.wr at hw;rw[hm] at hw;simp only at hw
   split at hw
   ·rename_i hc;cases hw;have lu:off+2<c.length:=dU h2
    have hx:=Nx.write (a':=ar) (jx:=az) (c':=setMany c (off+2) [.int .i64 ((i.toNat+cnt:Nat))]) (cx:=base) ec hm hb (c7 hc.2) (Nat.le_refl _) (fun _=>rfl) r1 (cs':=cs.setIfInBounds (base+(off+2)) (.int .i64 ((i.toNat+cnt:Nat)))) (by simp) (by rw[cN];exact r2) (fun j d hd=>by
     simp only[setMany] at hd
     by_cases hj:off+2=j
     ·subst hj;rw[List.getElem?_set_self lu] at hd;cases hd;refine⟨.int .i64 ((i.toNat+cnt:Nat)),?_,rfl,.im _ _ (.int _ _)⟩;rw[Array.getElem?_setIfInBounds_self_of_lt hlt]
     ·rw[List.getElem?_set_ne hj] at hd;obtain⟨u,fY,iz,ln⟩:=r4 j d hd
      exact⟨u,by rw[Array.getElem?_setIfInBounds_ne (by omega)];exact fY,iz,ln⟩)
    have e1:(fun i=>if i=k then some (b,base) else β i)=β:=by
     funext i;split
     ·rename_i e;subst e;exact hb.symm
     ·rfl
    rw[e1] at hx;exact hx
   ·cases hw
  refine vj.mono ?_;rintro e w' ⟨rfl,HF⟩
  have Ke:Below (wput w b (.cells (cs.setIfInBounds (base+(off+2)) (.int .i64 ((i.toNat+cnt:Nat)))) el fr)).heap.size (wput w b (.cells (cs.setIfInBounds (base+(off+2)) (.int .i64 ((i.toNat+cnt:Nat)))) el fr)) w':=by
   have:(wput w b (.cells (cs.setIfInBounds (base+(off+2)) (.int .i64 ((i.toNat+cnt:Nat)))) el fr)).heap.size=w.heap.size:=by simp[wput]
   rw[this];exact HF
  refine⟨_,β,Z,rfl,hwr.trans (Nx.quiet hwr.sim Ke),?_,fun h=>by rw[eS] at h;cases h⟩;rw[hd];refine .im _ _ (.tup _ [.string ⟨str.toArray⟩,.bool (decide (0<cnt))] rfl fun q c v hc hv=>?_)
  match q,hc,hv with
  |0,hc,hv=>cases hc;cases hv;exact .str _
  |1,hc,hv=>cases hc;cases hv;exact .bool _
 ·rw[eS] at hr;cases hr
 ·obtain⟨k,az,off,ar,c,es,i,rs,rfl,hm,h1,h2,h3,_,hw,hd⟩:=oW hp;exact j0 hw
end Go.Proofs.Ytbdnabmmlbiomaa
