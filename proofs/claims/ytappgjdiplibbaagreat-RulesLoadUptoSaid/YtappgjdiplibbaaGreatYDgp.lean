/-
 digits, given to V.
-/
import Derived.Test.YtappgjdiplibbaaGreatYDig
import Derived.Test.YtappgjdiplibbaaGreatYPv
import Derived.Test.YtappgjdiplibbaaGreatYM2
set_option linter.all false
open Array renaming getElem?_eq_some_iff->γ,getElem?_setIfInBounds_self_of_lt->δ,getElem?_setIfInBounds_ne->ε
open Nat renaming le_refl->ζ,lt_of_lt_of_le->η
namespace Go.Proofs.YtappgjdiplibbaaGreat
open Go.V Go Go.RowKit
def ml:List D->Option (List Int)
 |[]=>some []
 | .agg [.int .i32 r,.int .i64 _]::l=>match ml l with
  |some rs=>some (r::rs)
  |none=>none
 |_=>none
def Pu (U:St) (k aj off:Nat) (rs:List Int) (i:Int):Option (D×St):=
 match decide (rs≠[]/\0<=i/\i.toNat<=rs.length/\rs.length<1099511627776) with
 |true=>match U.wr k aj (off+2) [.int .i64 ((i.toNat+(digS (rs.drop i.toNat) []).2:Nat))] with
  |some R=>some (.tup [.str (digS (rs.drop i.toNat) []).1,.bool (decide (0<(digS (rs.drop i.toNat) []).2))],R)
  |none=>none
 |false=>none
def xM:List D->St->Option (D×St)
 |[.ptr k aj off],U=>match U.cp k aj with
  |some (_,c)=>match c[off]?,c[off+2]? with
   |some (.sl es),some (.int .i64 i)=>match ml es with
    |some rs=>Pu U k aj off rs i
    |none=>none
   |_,_=>none
  |none=>none
 |_,_=>none
def zk {ds:List D} {U:St} {r:D×St} (h:xM ds U=some r):∃k aj off ar c es i rs,ds=[.ptr k aj off]/\U.cp k aj=some (ar,c)/\c[off]?=some (.sl es)/\c[off+2]?=some (.int .i64 i)/\ml es=some rs/\
  (rs≠[]/\0<=i/\i.toNat<=rs.length/\rs.length<1099511627776)/\U.wr k aj (off+2) [.int .i64 ((i.toNat+(digS (rs.drop i.toNat) []).2:Nat))]=some r.2/\r.1=.tup [.str (digS (rs.drop i.toNat) []).1,.bool (decide (0<(digS (rs.drop i.toNat) []).2))]:=by
 unfold xM at h
 split at h
 .rename_i uk k aj off
  split at h
  .rename_i ar c hm
   split at h
   .rename_i es i h1 X
    split at h
    .rename_i rs h3;unfold Pu at h
     split at h
     .rename_i hc
      split at h
      .rename_i R hw;cases h;exact⟨k,aj,off,ar,c,es,i,rs,rfl,hm,h1,X,h3,of_decide_eq_true hc,hw,rfl⟩
      .cases h
     .cases h
    .cases h
   .cases h
  .cases h
 .cases h
def tF:∀{es:List D} {rs:List Int},ml es=some rs->rs.length=es.length/\∀(j:Nat) r,rs[j]?=some r->∃n,es[j]?=some (.agg [.int .i32 r,.int .i64 n])
 |[],rs,h=>by simp only[ml] at h;cases h;exact⟨rfl,λj r h=>by simp at h⟩
 |e::es,rs,h=>by
  unfold ml at h
  split at h
  .rename_i heq;cases heq
  .rename_i r n l heq;cases heq
   split at h
   .rename_i rs' h';cases h;obtain⟨h1,X⟩:=tF h';refine⟨by simp[h1],λj r' hj=>?_⟩
    cases j with
    |zero=>simp at hj;subst hj;exact⟨n,rfl⟩
    |succ j=>simpa using X j r' (by simpa using hj)
   .cases h
  .cases h
def Nx.quiet {w w':World} {U:St} {β:Nat->Option (Nat×Nat)} {Z:Nat->Prop} (h:iD w U β Z) (F:Below w.heap.size w w'):Nx w U β Z w' U β Z:=by
 have hq:Quiet w w':=λb gB=>F.block b gB
 have A:eI w (U.x β Z) w' (U.x β Z):=
  ⟨λ_ p B=>⟨p,B⟩,λb F=>⟨F,hq b (h.zl b F)⟩,λ_ c _ _ hc=>⟨c,hc,ζ _⟩,λk _ _ _ b base F=>⟨F,gK (hq b (h.lt k b base F))⟩⟩
 exact⟨⟨h.dom,λk b base gB=>η (h.lt k b base gB) F.size,h.inj,h.zd,λb gB=>η (h.zl b gB) F.size,λk b base bx gB j_=>(h.box k b base bx gB j_).bW A (hq b (h.lt k b base gB)),h.flr,h.ro⟩,A,
  ⟨F.os,F.tape,F.output,F.size,λb gB _=>hq b gB⟩,λ_ _ base F=>.inl ⟨base,F⟩,λ_ hz=>.inl hz,ζ _,rfl,rfl,λ_ _=>⟨rfl,rfl⟩,λ_ _ h=>⟨h,rfl⟩⟩
def Ca {w:World} {b o:Nat} {cs:Array Value} {el:TypeId} {I:Nat×Nat} {v:Value} (h:w.heap[b]?=some (.cells cs el I)):w.setCell ⟨b,o,none⟩ v=wput w b (.cells (cs.setIfInBounds o v) el I):=by
 have F:b<w.heap.size:=(γ.1 h).1
 have key:(w.setCell ⟨b,o,none⟩ v).heap=w.heap.setIfInBounds b (.cells (cs.setIfInBounds o v) el I):=by
  simp only[World.setCell];apply Array.ext_getElem?;intro j;rw[Array.getElem?_modify]
  by_cases hj:b=j
  .subst hj;rw[if_pos rfl,h,δ F];rfl
  .rw[if_neg hj,ε hj]
 have:w.setCell ⟨b,o,none⟩ v={w with heap:=(w.setCell ⟨b,o,none⟩ v).heap}:=rfl;rw[this,key];rfl
def Bo {pv:Pv} (fx:kZ pv 139=false):dx Tryz.prog pv 139 xM:=by
 refine⟨λds U r B=>?_,λds U d R B w β Z us dB hle ha=>?_,λds U d R B hr=>?_,λds U d R B=>?_⟩
 .exact⟨Tryz.f139,_,Tryz.func139,rfl,by decide⟩
 .obtain⟨k,aj,off,ar,c,es,i,rs,rfl,hm,h1,X,h3,⟨hne,hi0,hil,hn⟩,hw,hd⟩:=zk B
  obtain⟨aa,rfl⟩:∃aa,us=[aa]:=by
   match us,hle with
   |[aa],_=>exact⟨aa,rfl⟩
  have hu:=ha 0 _ aa rfl rfl;obtain⟨a,rfl,A,hat⟩:=cG hu;obtain⟨b,base,F,rfl⟩:=hat (bE hm).2;obtain⟨cs,el,I,r1,r2,r3,r4⟩:=dB.row hm F;obtain⟨u0,c0,c1,c2⟩:=r4 off _ h1;obtain⟨u2,d0,d1,d2⟩:=r4 (off+2) _ X;have rR:=de d2;subst rR;obtain⟨s1,s2⟩:=tF h3;have sE:es≠[]:=λe=>by subst e;simp at s1;exact hne s1
  obtain⟨la,cap,rfl,mK,VY⟩:=ny c2;obtain⟨bl,ol,s,rfl,hz,hcl,hca,f,wK,uY⟩:=VY.resolve_left sE;have hbl:bl<w.heap.size:=dB.zl bl hz;have NC:b<w.heap.size:=dB.lt k b base F;have Qw:bl≠b:=λe=>dB.zd k b base F (e▸hz)
  have OW:s=2:=by
   cases es with
   |nil=>exact absurd rfl sE
   |cons e Ej=>
    cases rs with
    |nil=>simp at s1
    |cons r rs'=>
     obtain⟨n,hn⟩:=s2 0 r rfl;have:=(hcl 0 _ hn).2
     simpa[D.cells] using this.symm
  subst OW;have hcell:∀(q:Nat) aa,cs[q]?=some aa->w.cell? ⟨b,q,none⟩=some aa:=λq aa hq=>by simp[World.cell?,r1,hq]
  have He:=digits_walk w b (base+off) bl ol cap rs i.toNat (by rw[s1];exact hcell _ _ c0) (by
    have:=hcell _ _ d0;rw[show base+off+2=base+(off+2) by omega,this]
    congr 2;omega) (by
    simp only[World.frozen?,r1]
    have hlt:base+off+2<cs.size:=by
     have:=(γ.1 d0).1;omega
    have:=r3.2 (base+off+2) hlt;simp only[Bool.and_eq_false_iff,decide_eq_false_iff_not]
    omega) (λj r hj=>by
    obtain⟨n,hn⟩:=s2 j r hj;obtain⟨g1,_⟩:=wK j _ 0 (.int .i32 r) hn rfl;have g3:=uY j _ 0 (.int .i32 r) hn rfl;rw[Nat.add_zero] at g1;rw[g1];generalize f j 0=z at g3
    cases g3;rfl) Qw hbl NC hil hn
  rw[show base+off+2=base+(off+2) by omega,Ca r1] at He;generalize Pf:(digS (rs.drop i.toNat) []).2=dF at*;generalize ady:(digS (rs.drop i.toNat) []).1=str at*;simp only at hw hd;have hlt:base+(off+2)<cs.size:=(γ.1 d0).1
  have hwr:Nx w U β Z (wput w b (.cells (cs.setIfInBounds (base+(off+2)) (.int .i64 ((i.toNat+dF:Nat)))) el I)) R β Z:=by
   have hw2:=hw;unfold St.wr at hw;rw[hm] at hw;simp only at hw
   split at hw
   .rename_i hc;cases hw;have mJ:off+2<c.length:=gP X
    have hx:=Nx.write (a':=ar) (nz:=aj) (c':=setMany c (off+2) [.int .i64 ((i.toNat+dF:Nat))]) (dr:=base) dB hm F (jL hc.2) (ζ _) (λ_=>rfl) r1 (cs':=cs.setIfInBounds (base+(off+2)) (.int .i64 ((i.toNat+dF:Nat)))) (by simp) (by rw[ez];exact r2) (λj d hd=>by
     simp only[setMany] at hd
     by_cases hj:off+2=j
     .subst hj;rw[List.getElem?_set_self mJ] at hd;cases hd;refine⟨.int .i64 ((i.toNat+dF:Nat)),?_,rfl,.im _ _ (.int _ _)⟩;rw[δ hlt]
     .rw[List.getElem?_set_ne hj] at hd;obtain⟨aa,km,ns,s9⟩:=r4 j d hd
      exact⟨aa,by rw[ε (by omega)];exact km,ns,s9⟩)
    have e1:(λi=>if i=k then some (b,base) else β i)=β:=by
     funext i;split
     .rename_i e;subst e;exact F.symm
     .rfl
    rw[e1] at hx;exact hx
   .cases hw
  refine He.mono ?_;rintro e w' ⟨rfl,SF⟩
  have WL:Below (wput w b (.cells (cs.setIfInBounds (base+(off+2)) (.int .i64 ((i.toNat+dF:Nat)))) el I)).heap.size (wput w b (.cells (cs.setIfInBounds (base+(off+2)) (.int .i64 ((i.toNat+dF:Nat)))) el I)) w':=by
   have:(wput w b (.cells (cs.setIfInBounds (base+(off+2)) (.int .i64 ((i.toNat+dF:Nat)))) el I)).heap.size=w.heap.size:=by simp[wput]
   rw[this];exact SF
  refine⟨_,β,Z,rfl,hwr.trans (Nx.quiet hwr.sim WL),?_,λh=>by rw[fx] at h;cases h⟩;rw[hd];refine .im _ _ (.tup _ [.string ⟨str.toArray⟩,.bool (decide (0<dF))] rfl λq c v hc hv=>?_)
  match q,hc,hv with
  |0,hc,hv=>cases hc;cases hv;exact .str _
  |1,hc,hv=>cases hc;cases hv;exact .bool _
 .rw[fx] at hr;cases hr
 .obtain⟨k,aj,off,ar,c,es,i,rs,rfl,hm,h1,X,h3,_,hw,hd⟩:=zk B;exact kC hw
end Go.Proofs.YtappgjdiplibbaaGreat
