/-
 digits, given to V.
-/
import Derived.Test.YtpcicphadikioaaGreatTDig
import Derived.Test.YtpcicphadikioaaGreatTGHr
import Derived.Test.YtpcicphadikioaaGreatTM2
set_option linter.unusedSimpArgs false
set_option linter.unusedVariables false
namespace Go.Proofs.YtpcicphadikioaaGreat
open Go.V Go Go.RowKit
def jr:List D→Option (List Int)
 |[]=>some []
 | .agg [.int .i32 r,.int .i64 _]::l=>match jr l with
  |some rs=>some (r::rs)
  |none=>none
 |_=>none
def Gk (st:St) (k aq off:Nat) (rs:List Int) (i:Int):Option (D×St):=
 match decide (rs≠[]∧0≤i∧i.toNat≤rs.length∧rs.length<1099511627776) with
 |true=>match st.wr k aq (off+2) [.int .i64 ((i.toNat+(digS (rs.drop i.toNat) []).2:Nat))] with
  |some ah=>some (.tup [.str (digS (rs.drop i.toNat) []).1,.bool (decide (0<(digS (rs.drop i.toNat) []).2))],ah)
  |none=>none
 |false=>none
def BO:List D→St→Option (D×St)
 |[.ptr k aq off],st=>match st.bM k aq with
  |some (_,c)=>match c[off]?,c[off+2]? with
   |some (.sl es),some (.int .i64 i)=>match jr es with
    |some rs=>Gk st k aq off rs i
    |none=>none
   |_,_=>none
  |none=>none
 |_,_=>none
theorem ti {ds:List D} {st:St} {r:D×St} (h:BO ds st=some r):∃k aq off ar c es i rs,ds=[.ptr k aq off]∧st.bM k aq=some (ar,c)∧c[off]?=some (.sl es)∧c[off+2]?=some (.int .i64 i)∧jr es=some rs∧
  (rs≠[]∧0≤i∧i.toNat≤rs.length∧rs.length<1099511627776)∧st.wr k aq (off+2) [.int .i64 ((i.toNat+(digS (rs.drop i.toNat) []).2:Nat))]=some r.2∧r.1=.tup [.str (digS (rs.drop i.toNat) []).1,.bool (decide (0<(digS (rs.drop i.toNat) []).2))]:=by
 unfold BO at h
 split at h
 ·rename_i vq k aq off
  split at h
  ·rename_i ar c hm
   split at h
   ·rename_i es i h1 h2
    split at h
    ·rename_i rs h3;unfold Gk at h
     split at h
     ·rename_i hc
      split at h
      ·rename_i ah hw;cases h;exact⟨k,aq,off,ar,c,es,i,rs,rfl,hm,h1,h2,h3,of_decide_eq_true hc,hw,rfl⟩
      ·cases h
     ·cases h
    ·cases h
   ·cases h
  ·cases h
 ·cases h
theorem oa:∀{es:List D} {rs:List Int},jr es=some rs→rs.length=es.length∧∀(j:Nat) r,rs[j]?=some r→∃n,es[j]?=some (.agg [.int .i32 r,.int .i64 n])
 |[],rs,h=>by simp only[jr] at h;cases h;exact⟨rfl,fun j r h=>by simp at h⟩
 |e::es,rs,h=>by
  unfold jr at h
  split at h
  ·rename_i heq;cases heq
  ·rename_i r n l heq;cases heq
   split at h
   ·rename_i QZ h';cases h;obtain⟨h1,h2⟩:=oa h';refine⟨by simp[h1],fun j r' hj=>?_⟩
    cases j with
    |zero=>simp at hj;subst hj;exact⟨n,rfl⟩
    |succ j=>simpa using h2 j r' (by simpa using hj)
   ·cases h
  ·cases h
theorem Nx.quiet {w w':World} {st:St} {β:Nat→Option (Nat×Nat)} {Z:Nat→Prop} (h:eK w st β Z) (hb:Below w.heap.size w w'):Nx w st β Z w' st β Z:=by
 have hq:Quiet w w':=fun b eV=>hb.block b eV
 have hk:cZ w (st.x β Z) w' (st.x β Z):=
  ⟨fun _ p hp=>⟨p,hp⟩,fun b hb=>⟨hb,hq b (h.zl b hb)⟩,fun _ c _ _ hc=>⟨c,hc,Nat.le_refl _⟩,fun k _ _ _ b base hb=>⟨hb,dC (hq b (h.lt k b base hb))⟩⟩
 exact⟨⟨h.dom,fun k b base eV=>Nat.lt_of_lt_of_le (h.lt k b base eV) hb.size,h.inj,h.zd,fun b eV=>Nat.lt_of_lt_of_le (h.zl b eV) hb.size,fun k b base bx eV fZ=>(h.box k b base bx eV fZ).ch hk (hq b (h.lt k b base eV)),h.flr,h.ro⟩,hk,
  ⟨hb.os,hb.tape,hb.output,hb.size,fun b eV _=>hq b eV⟩,fun _ _ base hb=>.inl ⟨base,hb⟩,fun _ hz=>.inl hz,Nat.le_refl _,rfl,rfl,fun _ _=>⟨rfl,rfl⟩,fun _ _ h=>⟨h,rfl⟩⟩
theorem vC {w:World} {b o:Nat} {cs:Array Value} {el:TypeId} {fr:Nat×Nat} {v:Value} (h:w.heap[b]?=some (.cells cs el fr)):w.setCell ⟨b,o,none⟩ v=wput w b (.cells (cs.setIfInBounds o v) el fr):=by
 have hb:b<w.heap.size:=(Array.getElem?_eq_some_iff.1 h).1
 have key:(w.setCell ⟨b,o,none⟩ v).heap=w.heap.setIfInBounds b (.cells (cs.setIfInBounds o v) el fr):=by
  simp only[World.setCell];apply Array.ext_getElem?;intro j;rw[Array.getElem?_modify]
  by_cases hj:b=j
  ·subst hj;rw[if_pos rfl,h,Array.getElem?_setIfInBounds_self_of_lt hb];rfl
  ·rw[if_neg hj,Array.getElem?_setIfInBounds_ne hj]
 have:w.setCell ⟨b,o,none⟩ v={w with heap:=(w.setCell ⟨b,o,none⟩ v).heap}:=rfl;rw[this,key];rfl
theorem Gl {pv:Pv} (eL:iO pv 93=false):eA Tryz.prog pv 93 BO:=by
 refine⟨fun ds st r hp=>?_,fun ds st d ah hp w β Z us cI hle ha=>?_,fun ds st d ah hp hr=>?_,fun ds st d ah hp=>?_⟩
 ·exact⟨Tryz.f93,_,Tryz.func93,rfl,by decide⟩
 ·obtain⟨k,aq,off,ar,c,es,i,rs,rfl,hm,h1,h2,h3,⟨hne,hi0,hil,hn⟩,hw,hd⟩:=ti hp
  obtain⟨u,rfl⟩:∃u,us=[u]:=by
   match us,hle with
   |[u],_=>exact⟨u,rfl⟩
  have hu:=ha 0 _ u rfl rfl;obtain⟨a,rfl,hk,hat⟩:=bJ hu;obtain⟨b,base,hb,rfl⟩:=hat (aZ hm).2;obtain⟨cs,el,fr,r1,r2,r3,r4⟩:=cI.row hm hb;obtain⟨u0,c0,c1,c2⟩:=r4 off _ h1;obtain⟨u2,d0,d1,d2⟩:=r4 (off+2) _ h2;have S3:=bU d2;subst S3;obtain⟨s1,s2⟩:=oa h3;have sX:es≠[]:=fun e=>by subst e;simp at s1;exact hne s1
  obtain⟨la,cap,rfl,kc,Kc⟩:=jS c2;obtain⟨bl,ol,s,rfl,hz,hcl,UJ,f,DX,DW⟩:=Kc.resolve_left sX;have hbl:bl<w.heap.size:=cI.zl bl hz;have LG:b<w.heap.size:=cI.lt k b base hb;have Lv:bl≠b:=fun e=>cI.zd k b base hb (e▸hz)
  have MF:s=2:=by
   cases es with
   |nil=>exact absurd rfl sX
   |cons e xM=>
    cases rs with
    |nil=>simp at s1
    |cons r QZ=>
     obtain⟨n,hn⟩:=s2 0 r rfl;have:=(hcl 0 _ hn).2
     simpa[D.cells] using this.symm
  subst MF;have hcell:∀(q:Nat) u,cs[q]?=some u→w.cell? ⟨b,q,none⟩=some u:=fun q u hq=>by simp[World.cell?,r1,hq]
  have Aa:=digits_walk w b (base+off) bl ol cap rs i.toNat (by rw[s1];exact hcell _ _ c0) (by
    have:=hcell _ _ d0;rw[show base+off+2=base+(off+2) by omega,this]
    congr 2;omega) (by
    simp only[World.frozen?,r1]
    have hlt:base+off+2<cs.size:=by
     have:=(Array.getElem?_eq_some_iff.1 d0).1;omega
    have:=r3.2 (base+off+2) hlt;simp only[Bool.and_eq_false_iff,decide_eq_false_iff_not]
    omega) (fun j r hj=>by
    obtain⟨n,hn⟩:=s2 j r hj;obtain⟨g1,_⟩:=DX j _ 0 (.int .i32 r) hn rfl;have g3:=DW j _ 0 (.int .i32 r) hn rfl;rw[Nat.add_zero] at g1;rw[g1];generalize f j 0=z at g3
    cases g3;rfl) Lv hbl LG hil hn
  rw[show base+off+2=base+(off+2) by omega,vC r1] at Aa;generalize Tm:(digS (rs.drop i.toNat) []).2=eW at*;generalize RP:(digS (rs.drop i.toNat) []).1=str at*;simp only at hw hd;have hlt:base+(off+2)<cs.size:=(Array.getElem?_eq_some_iff.1 d0).1
  have hwr:Nx w st β Z (wput w b (.cells (cs.setIfInBounds (base+(off+2)) (.int .i64 ((i.toNat+eW:Nat)))) el fr)) ah β Z:=by
   have Un:=hw;unfold St.wr at hw;rw[hm] at hw;simp only at hw
   split at hw
   ·rename_i hc;cases hw;have nL:off+2<c.length:=eR h2
    have hx:=Nx.write (a':=ar) (jT:=aq) (c':=setMany c (off+2) [.int .i64 ((i.toNat+eW:Nat))]) (cz:=base) cI hm hb (di hc.2) (Nat.le_refl _) (fun _=>rfl) r1 (cs':=cs.setIfInBounds (base+(off+2)) (.int .i64 ((i.toNat+eW:Nat)))) (by simp) (by rw[dj];exact r2) (fun j d hd=>by
     simp only[setMany] at hd
     by_cases hj:off+2=j
     ·subst hj;rw[List.getElem?_set_self nL] at hd;cases hd;refine⟨.int .i64 ((i.toNat+eW:Nat)),?_,rfl,.im _ _ (.int _ _)⟩;rw[Array.getElem?_setIfInBounds_self_of_lt hlt]
     ·rw[List.getElem?_set_ne hj] at hd;obtain⟨u,iq,jR,nJ⟩:=r4 j d hd
      exact⟨u,by rw[Array.getElem?_setIfInBounds_ne (by omega)];exact iq,jR,nJ⟩)
    have e1:(fun i=>if i=k then some (b,base) else β i)=β:=by
     funext i;split
     ·rename_i e;subst e;exact hb.symm
     ·rfl
    rw[e1] at hx;exact hx
   ·cases hw
  refine Aa.mono ?_;rintro e w' ⟨rfl,Im⟩
  have KP:Below (wput w b (.cells (cs.setIfInBounds (base+(off+2)) (.int .i64 ((i.toNat+eW:Nat)))) el fr)).heap.size (wput w b (.cells (cs.setIfInBounds (base+(off+2)) (.int .i64 ((i.toNat+eW:Nat)))) el fr)) w':=by
   have:(wput w b (.cells (cs.setIfInBounds (base+(off+2)) (.int .i64 ((i.toNat+eW:Nat)))) el fr)).heap.size=w.heap.size:=by simp[wput]
   rw[this];exact Im
  refine⟨_,β,Z,rfl,hwr.trans (Nx.quiet hwr.sim KP),?_,fun h=>by rw[eL] at h;cases h⟩;rw[hd];refine .im _ _ (.tup _ [.string ⟨str.toArray⟩,.bool (decide (0<eW))] rfl fun q c v hc hv=>?_)
  match q,hc,hv with
  |0,hc,hv=>cases hc;cases hv;exact .str _
  |1,hc,hv=>cases hc;cases hv;exact .bool _
 ·rw[eL] at hr;cases hr
 ·obtain⟨k,aq,off,ar,c,es,i,rs,rfl,hm,h1,h2,h3,_,hw,hd⟩:=ti hp;exact iy hw
end Go.Proofs.YtpcicphadikioaaGreat
