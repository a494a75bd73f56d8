/-
 digits, given to V.
-/
import Derived.Test.YtkbacjpologjbaaGreatWDig
import Derived.Test.YtkbacjpologjbaaGreatWGHr
import Derived.Test.YtkbacjpologjbaaGreatWM2
set_option linter.unusedSimpArgs false
set_option linter.unusedVariables false
open Array renaming getElem?_eq_some_iff→γ,getElem?_setIfInBounds_self_of_lt→δ,getElem?_setIfInBounds_ne→ε
open Nat renaming le_refl→ζ,lt_of_lt_of_le→η
namespace Go.Proofs.YtkbacjpologjbaaGreat
open Go.V Go Go.RowKit
def lW:List D→Option (List Int)
 |[]=>some []
 | .agg [.int .i32 r,.int .i64 _]::l=>match lW l with
  |some rs=>some (r::rs)
  |none=>none
 |_=>none
def Mo (st:St) (k aB off:Nat) (rs:List Int) (i:Int):Option (D×St):=
 match decide (rs≠[]∧0≤i∧i.toNat≤rs.length∧rs.length<1099511627776) with
 |true=>match st.wr k aB (off+2) [.int .i64 ((i.toNat+(digS (rs.drop i.toNat) []).2:Nat))] with
  |some ah=>some (.tup [.str (digS (rs.drop i.toNat) []).1,.bool (decide (0<(digS (rs.drop i.toNat) []).2))],ah)
  |none=>none
 |false=>none
def Gu:List D→St→Option (D×St)
 |[.ptr k aB off],st=>match st.fX k aB with
  |some (_,c)=>match c[off]?,c[off+2]? with
   |some (.sl es),some (.int .i64 i)=>match lW es with
    |some rs=>Mo st k aB off rs i
    |none=>none
   |_,_=>none
  |none=>none
 |_,_=>none
theorem xS {ds:List D} {st:St} {r:D×St} (h:Gu ds st=some r):∃k aB off ar c es i rs,ds=[.ptr k aB off]∧st.fX k aB=some (ar,c)∧c[off]?=some (.sl es)∧c[off+2]?=some (.int .i64 i)∧lW es=some rs∧
  (rs≠[]∧0≤i∧i.toNat≤rs.length∧rs.length<1099511627776)∧st.wr k aB (off+2) [.int .i64 ((i.toNat+(digS (rs.drop i.toNat) []).2:Nat))]=some r.2∧r.1=.tup [.str (digS (rs.drop i.toNat) []).1,.bool (decide (0<(digS (rs.drop i.toNat) []).2))]:=by
 unfold Gu at h
 split at h
 ·rename_i tH k aB off
  split at h
  ·rename_i ar c hm
   split at h
   ·rename_i es i h1 h2
    split at h
    ·rename_i rs h3;unfold Mo at h
     split at h
     ·rename_i hc
      split at h
      ·rename_i ah hw;cases h;exact⟨k,aB,off,ar,c,es,i,rs,rfl,hm,h1,h2,h3,of_decide_eq_true hc,hw,rfl⟩
      ·cases h
     ·cases h
    ·cases h
   ·cases h
  ·cases h
 ·cases h
theorem sL:∀{es:List D} {rs:List Int},lW es=some rs→rs.length=es.length∧∀(j:Nat) r,rs[j]?=some r→∃n,es[j]?=some (.agg [.int .i32 r,.int .i64 n])
 |[],rs,h=>by simp only[lW] at h;cases h;exact⟨rfl,fun j r h=>by simp at h⟩
 |e::es,rs,h=>by
  unfold lW at h
  split at h
  ·rename_i heq;cases heq
  ·rename_i r n l heq;cases heq
   split at h
   ·rename_i ZY h';cases h;obtain⟨h1,h2⟩:=sL h';refine⟨by simp[h1],fun j r' hj=>?_⟩
    cases j with
    |zero=>simp at hj;subst hj;exact⟨n,rfl⟩
    |succ j=>simpa using h2 j r' (by simpa using hj)
   ·cases h
  ·cases h
theorem Nx.quiet {w w':World} {st:St} {β:Nat→Option (Nat×Nat)} {Z:Nat→Prop} (h:iH w st β Z) (hb:Below w.heap.size w w'):Nx w st β Z w' st β Z:=by
 have hq:Quiet w w':=fun b eW=>hb.block b eW
 have hk:dS w (st.x β Z) w' (st.x β Z):=
  ⟨fun _ p hp=>⟨p,hp⟩,fun b hb=>⟨hb,hq b (h.zl b hb)⟩,fun _ c _ _ hc=>⟨c,hc,ζ _⟩,fun k _ _ _ b base hb=>⟨hb,eM (hq b (h.lt k b base hb))⟩⟩
 exact⟨⟨h.dom,fun k b base eW=>η (h.lt k b base eW) hb.size,h.inj,h.zd,fun b eW=>η (h.zl b eW) hb.size,fun k b base bx eW ic=>(h.box k b base bx eW ic).cw hk (hq b (h.lt k b base eW)),h.flr,h.ro⟩,hk,
  ⟨hb.os,hb.tape,hb.output,hb.size,fun b eW _=>hq b eW⟩,fun _ _ base hb=>.inl ⟨base,hb⟩,fun _ hz=>.inl hz,ζ _,rfl,rfl,fun _ _=>⟨rfl,rfl⟩,fun _ _ h=>⟨h,rfl⟩⟩
theorem An {w:World} {b o:Nat} {cs:Array Value} {el:TypeId} {fr:Nat×Nat} {v:Value} (h:w.heap[b]?=some (.cells cs el fr)):w.setCell ⟨b,o,none⟩ v=wput w b (.cells (cs.setIfInBounds o v) el fr):=by
 have hb:b<w.heap.size:=(γ.1 h).1
 have key:(w.setCell ⟨b,o,none⟩ v).heap=w.heap.setIfInBounds b (.cells (cs.setIfInBounds o v) el fr):=by
  simp only[World.setCell];apply Array.ext_getElem?;intro j;rw[Array.getElem?_modify]
  by_cases hj:b=j
  ·subst hj;rw[if_pos rfl,h,δ hb];rfl
  ·rw[if_neg hj,ε hj]
 have:w.setCell ⟨b,o,none⟩ v={w with heap:=(w.setCell ⟨b,o,none⟩ v).heap}:=rfl;rw[this,key];rfl
theorem Mp {pv:Pv} (db:lJ pv 153=false):gr Tryz.prog pv 153 Gu:=by
 refine⟨fun ds st r hp=>?_,fun ds st d ah hp w β Z us hY hle ha=>?_,fun ds st d ah hp hr=>?_,fun ds st d ah hp=>?_⟩
 ·exact⟨Tryz.f153,_,Tryz.func153,rfl,by decide⟩
 ·obtain⟨k,aB,off,ar,c,es,i,rs,rfl,hm,h1,h2,h3,⟨hne,Zh,hil,hn⟩,hw,hd⟩:=xS hp
  obtain⟨u,rfl⟩:∃u,us=[u]:=by
   match us,hle with
   |[u],_=>exact⟨u,rfl⟩
  have hu:=ha 0 _ u rfl rfl;obtain⟨a,rfl,hk,kH⟩:=cH hu;obtain⟨b,base,hb,rfl⟩:=kH (dr hm).2;obtain⟨cs,el,fr,r1,r2,r3,r4⟩:=hY.row hm hb;obtain⟨u0,c0,c1,c2⟩:=r4 off _ h1;obtain⟨u2,d0,d1,d2⟩:=r4 (off+2) _ h2;have rZ:=cZ d2;subst rZ;obtain⟨s1,s2⟩:=sL h3;have wJ:es≠[]:=fun e=>by subst e;simp at s1;exact hne s1
  obtain⟨la,cap,rfl,nr,Vr⟩:=mM c2;obtain⟨bl,ol,s,rfl,hz,hcl,hca,f,eC,er⟩:=Vr.resolve_left wJ;have hbl:bl<w.heap.size:=hY.zl bl hz;have OZ:b<w.heap.size:=hY.lt k b base hb;have PN:bl≠b:=fun e=>hY.zd k b base hb (e▸hz)
  have LA:s=2:=by
   cases es with
   |nil=>exact absurd rfl wJ
   |cons e X1=>
    cases rs with
    |nil=>simp at s1
    |cons r ZY=>
     obtain⟨n,hn⟩:=s2 0 r rfl;have:=(hcl 0 _ hn).2
     simpa[D.cells] using this.symm
  subst LA;have hcell:∀(q:Nat) u,cs[q]?=some u→w.cell? ⟨b,q,none⟩=some u:=fun q u hq=>by simp[World.cell?,r1,hq]
  have EM:=digits_walk w b (base+off) bl ol cap rs i.toNat (by rw[s1];exact hcell _ _ c0) (by
    have:=hcell _ _ d0;rw[show base+off+2=base+(off+2) by omega,this]
    congr 2;omega) (by
    simp only[World.frozen?,r1]
    have hlt:base+off+2<cs.size:=by
     have:=(γ.1 d0).1;omega
    have:=r3.2 (base+off+2) hlt;simp only[Bool.and_eq_false_iff,decide_eq_false_iff_not]
    omega) (fun j r hj=>by
    obtain⟨n,hn⟩:=s2 j r hj;obtain⟨g1,_⟩:=eC j _ 0 (.int .i32 r) hn rfl;have g3:=er j _ 0 (.int .i32 r) hn rfl;rw[Nat.add_zero] at g1;rw[g1];generalize f j 0=z at g3
    cases g3;rfl) PN hbl OZ hil hn
  rw[show base+off+2=base+(off+2) by omega,An r1] at EM;generalize Gf:(digS (rs.drop i.toNat) []).2=cnt at*;generalize aao:(digS (rs.drop i.toNat) []).1=str at*;simp only at hw hd;have hlt:base+(off+2)<cs.size:=(γ.1 d0).1
  have hwr:Nx w st β Z (wput w b (.cells (cs.setIfInBounds (base+(off+2)) (.int .i64 ((i.toNat+cnt:Nat)))) el fr)) ah β Z:=by
   have hw2:=hw;unfold St.wr at hw;rw[hm] at hw;simp only at hw
   split at hw
   ·rename_i hc;cases hw;have np:off+2<c.length:=gS h2
    have hx:=Nx.write (a':=ar) (oo:=aB) (c':=setMany c (off+2) [.int .i64 ((i.toNat+cnt:Nat))]) (dx:=base) hY hm hb (eS hc.2) (ζ _) (fun _=>rfl) r1 (cs':=cs.setIfInBounds (base+(off+2)) (.int .i64 ((i.toNat+cnt:Nat)))) (by simp) (by rw[eu];exact r2) (fun j d hd=>by
     simp only[setMany] at hd
     by_cases hj:off+2=j
     ·subst hj;rw[List.getElem?_set_self np] at hd;cases hd;refine⟨.int .i64 ((i.toNat+cnt:Nat)),?_,rfl,.im _ _ (.int _ _)⟩;rw[δ hlt]
     ·rw[List.getElem?_set_ne hj] at hd;obtain⟨u,jH,mJ,rW⟩:=r4 j d hd
      exact⟨u,by rw[ε z0];exact jH,mJ,rW⟩)
    have e1:(fun i=>if i=k then some (b,base) else β i)=β:=by
     funext i;split
     ·rename_i e;subst e;exact hb.symm
     ·rfl
    rw[e1] at hx;exact hx
   ·cases hw
  refine EM.mono ?_;rintro e w' ⟨rfl,OY⟩
  have RX:Below (wput w b (.cells (cs.setIfInBounds (base+(off+2)) (.int .i64 ((i.toNat+cnt:Nat)))) el fr)).heap.size (wput w b (.cells (cs.setIfInBounds (base+(off+2)) (.int .i64 ((i.toNat+cnt:Nat)))) el fr)) w':=by
   have:(wput w b (.cells (cs.setIfInBounds (base+(off+2)) (.int .i64 ((i.toNat+cnt:Nat)))) el fr)).heap.size=w.heap.size:=by simp[wput]
   rw[this];exact OY
  refine⟨_,β,Z,rfl,hwr.trans (Nx.quiet hwr.sim RX),?_,fun h=>by rw[db] at h;cases h⟩;rw[hd];refine .im _ _ (.tup _ [.string ⟨str.toArray⟩,.bool (decide (0<cnt))] rfl fun q c v hc hv=>?_)
  match q,hc,hv with
  |0,hc,hv=>cases hc;cases hv;exact .str _
  |1,hc,hv=>cases hc;cases hv;exact .bool _
 ·rw[db] at hr;cases hr
 ·obtain⟨k,aB,off,ar,c,es,i,rs,rfl,hm,h1,h2,h3,_,hw,hd⟩:=xS hp;exact o8 hw
end Go.Proofs.YtkbacjpologjbaaGreat
