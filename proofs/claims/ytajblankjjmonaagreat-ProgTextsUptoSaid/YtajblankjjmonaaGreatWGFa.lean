/-
 The document's parser of patterns, plain: ranges left out; runes; where it stops.
-/
import Derived.Test.YtajblankjjmonaaGreatWGTe
import Derived.Test.YtajblankjjmonaaGreatWGCa
import Derived.Test.YtajblankjjmonaaGreatWGHr
set_option maxRecDepth 100000
set_option maxHeartbeats 4000000
set_option linter.unusedSimpArgs false
set_option linter.unusedVariables false
namespace Go.Proofs.YtajblankjjmonaaGreat
open Go.V Go
theorem tc (l:List Rg):di l (bp l):=by
 have hp:((l.flatMap cw).mergeSort (fun x y=>decide (x.1≤y.1))).Perm (l.flatMap cw):=List.mergeSort_perm _ _
 have hs:((l.flatMap cw).mergeSort (fun x y=>decide (x.1≤y.1))).Pairwise fun x y=>x.1≤y.1:=by
  have:=List.pairwise_mergeSort (le:=fun(x y:Rg)=>decide (x.1≤y.1)) (fun a b c h1 h2=>by simp only[decide_eq_true_eq] at*;omega) (fun a b=>by simp only[Bool.or_eq_true,decide_eq_true_eq];omega) (l.flatMap cw);exact this.imp fun h=>by simpa using h
 have hM:di l _:=lA (fun x=>hp.mem_iff) hs;rw[iz hM];exact hM
theorem aS (q:Rg) (m:List Rg) (r:Int):bX (q::m) r↔(q.1≤r∧r≤q.2)∨bX m r:=by
 unfold bX;constructor
 ·rintro⟨x,hx,h1,h2⟩
  rcases List.mem_cons.1 hx with rfl|hx
  ·exact .inl ⟨h1,h2⟩
  ·exact .inr ⟨x,hx,h1,h2⟩
 ·rintro(⟨h1,h2⟩|⟨x,hx,h1,h2⟩)
  ·exact⟨q,List.mem_cons_self ..,h1,h2⟩
  ·exact⟨x,List.mem_cons_of_mem _ hx,h1,h2⟩
theorem pw:∀(m:List Rg) (n:Int),canon m→(∀x∈m,n≤x.1∧x.2≤1114111)→0≤n→n≤1114112→∀r,bX (oe m n) r↔n≤r∧r≤1114111∧¬bX m r
 |[],n,_,_,_,_,r=>by
  unfold oe;rw[aS];have h0:¬bX [] r:=by rintro⟨x,hx,_⟩;cases hx
  constructor
  ·rintro(h|h)
   ·exact⟨h.1,h.2,h0⟩
   ·exact absurd h h0
  ·rintro⟨h1,h2,_⟩;exact .inl ⟨h1,h2⟩
 |q::m,n,hc,hb,h0,h9,r=>by
  have hq:=hb q (List.mem_cons_self ..);have KS:=hc.1 q (List.mem_cons_self ..);have hp:=List.pairwise_cons.1 hc.2;unfold oe
  rw[wrap_i32 (by omega) (by omega),wrap_i32 (by omega) (by omega),aS,aS,
   pw m (q.2+1) ⟨fun x hx=>hc.1 x (List.mem_cons_of_mem _ hx),hp.2⟩ (fun x hx=>⟨by have:=hp.1 x hx;omega,(hb x (List.mem_cons_of_mem _ hx)).2⟩) (by omega) (by omega) r]
  constructor
  ·rintro(⟨h1,h2⟩|⟨h1,h2,h3⟩)
   ·simp only at h1 h2;refine⟨h1,by omega,?_⟩;rintro(h|⟨x,hx,h4,h5⟩)
    ·omega
    ·have:=hp.1 x hx;omega
   ·refine⟨by omega,h2,?_⟩;rintro(h|h)
    ·omega
    ·exact h3 h
  ·rintro⟨h1,h2,h3⟩
   by_cases h4:r≤q.1-1
   ·exact .inl ⟨h1,h4⟩
   ·refine .inr ⟨?_,h2,fun h=>h3 (.inr h)⟩
    by_cases h5:r≤q.2
    ·exact absurd (.inl ⟨by omega,h5⟩) h3
    ·omega
theorem v_ {m:List Rg} (h:canon m) (hr:∀r,bX m r→bT r):∀x∈m,0≤x.1∧x.2≤1114111:=by
 intro x hx;have h1:=hr x.1 ⟨x,hx,Int.le_refl _,h.1 x hx⟩;have h2:=hr x.2 ⟨x,hx,h.1 x hx,Int.le_refl _⟩;unfold bT at h1 h2;omega
theorem yA {l a:List Rg} (h:canon a) (hm:∀r,bX a r↔bT r∧¬bX l r):hU l=a:=by
 unfold hU;refine iz ⟨h,fun r=>?_⟩;have hM:=tc l;rw[pw _ 0 hM.1 (v_ hM.1 fun r hr=>((hM.2 r).1 hr).1) (by omega) (by omega) r,hM.2 r,hm r];constructor
 ·rintro⟨h1,h2⟩;refine⟨h1,?_,?_,fun h=>h2 h.2⟩<;>(unfold bT at h1;omega)
 ·rintro⟨h1,_,_,h2⟩;exact⟨h1,fun h=>h2 ⟨h1,h⟩⟩
theorem z_ (l:List Rg):hU (bp l)=hU l:=by
 have hM:=tc l;have hN:di (oe (bp l) 0) (hU l):=tc _;refine yA hN.1 fun r=>?_;rw[hN.2 r,pw _ 0 hM.1 (v_ hM.1 fun r hr=>((hM.2 r).1 hr).1) (by omega) (by omega) r];constructor
 ·rintro⟨h1,_,_,h2⟩;exact⟨h1,h2⟩
 ·rintro⟨h1,h2⟩;refine⟨h1,?_,?_,h2⟩<;>(unfold bT at h1;omega)
theorem iy {r:Int} (h:bT r):bp [(r,r)]=[(r,r)]:=by
 refine iz ⟨⟨by simp,by simp⟩,fun x=>⟨fun hx=>⟨?_,hx⟩,fun hx=>hx.2⟩⟩;obtain⟨q,hq,h1,h2⟩:=hx;simp only[List.mem_cons,List.not_mem_nil,or_false] at hq;subst hq;have:x=r:=by simp only at h1 h2;omega
 rw[this];exact h
theorem jR {l:List Rg} (h:canon l) (hr:∀x∈l,0≤x.1∧x.2<55296):bp l=l:=by
 refine iz ⟨h,fun x=>⟨fun hx=>⟨?_,hx⟩,fun hx=>hx.2⟩⟩;obtain⟨q,hq,h1,h2⟩:=hx;have:=hr q hq;unfold bT;omega
theorem DZ:bp [(48,57)]=[(48,57)]:=jR ⟨by decide,by decide⟩ (by decide)
theorem yJ:bp [(9,10),(13,13),(32,32)]=[(9,10),(13,13),(32,32)]:=jR ⟨by decide,by decide⟩ (by decide)
theorem yI:bp [(48,57),(65,90),(95,95),(97,122)]=[(48,57),(65,90),(95,95),(97,122)]:=jR ⟨by decide,by decide⟩ (by decide)
def bm (g:Nat×Nat):Int:=if((g.1:Nat):Int)=65533∧((g.2:Nat):Int)=1 then-1 else((g.1:Nat):Int)
theorem x6 {gs:List (Nat×Nat)} {i:Nat} {g:Nat×Nat} (h:gs[i]?=some g):tQ gs i=decide (bm g=-1):=by
 unfold tQ bm;rw[h]
 by_cases h1:((g.1:Nat):Int)=65533∧((g.2:Nat):Int)=1
 ·rw[if_pos h1];simp[h1.1,h1.2]
 ·rw[if_neg h1];have:¬((g.1:Nat):Int)=-1:=by omega
  rw[decide_eq_false this];simp only[Bool.and_eq_false_iff,beq_eq_false_iff_ne]
  by_cases h2:((g.1:Nat):Int)=65533
  ·exact .inr fun h3=>h1 ⟨h2,h3⟩
  ·exact .inl h2
theorem nU {gs:List (Nat×Nat)} {i:Nat} {g:Nat×Nat} (h:gs[i]?=some g) {r:Int} (hr:r≠65533) (h0:0≤r):bJ gs i r=(bm g==r):=by
 unfold bJ bm;rw[h];simp only
 by_cases h1:((g.1:Nat):Int)=65533∧((g.2:Nat):Int)=1
 ·rw[if_pos h1,h1.1];have h2:((65533:Int)==r)=false:=by rw[beq_eq_false_iff_ne];exact fun h=>hr h.symm
  have h3:((-1:Int)==r)=false:=by rw[beq_eq_false_iff_ne];omega
  rw[h2,h3]
 ·rw[if_neg h1]
theorem gh {g:Nat×Nat} (h:bm g≠-1):bm g=((g.1:Nat):Int):=by
 unfold bm at h⊢
 split
 ·rename_i h1;rw[if_pos h1] at h;exact absurd rfl h
 ·rfl
def dN {α:Type} (R:PR α) (e:Int):Prop:=e≠0∧∃w,R=.er e w
theorem dN.map {α β:Type} {R:PR α} {R':PR β} {e:Int} (h:dN R e) (hR:∀e w,R=.er e w→R'=.er e w):dN R' e:=by
 obtain⟨h1,w,h2⟩:=h;exact⟨h1,w,hR e w h2⟩
structure et where
 i:Nat
 g:Nat
 e:Int
 w:Int
def aC (rD aD:D) (s:et):List D:=[rD,aD,.int .i64 (s.i:Nat),.int .i64 (s.g:Nat),.int .i64 s.e,.int .i64 s.w]
def hI (r:Nat):Prop:=r<55296∨(57344≤r∧r≤1114111)
structure ow (gs:List (Nat×Nat)) (bB:List Int):Prop where
 gl:gs.length≤120
 al:bB.length=gs.length+1
 ok:∀q∈gs,hI q.1
def fh (s:et) (e w:Int):et:=if s.e=0 then{s with e:=e,w:=w} else s
theorem gj (s:et) (e w:Int):(fh s e w).i=s.i∧(fh s e w).g=s.g:=by unfold fh;split<;>exact⟨rfl,rfl⟩
theorem cS {s:et} {e w:Int} (h:s.e=0):(fh s e w).e=e:=by unfold fh;rw[if_pos h]
theorem CM {s:et} {e w:Int} (h:s.e≠0):fh s e w=s:=by unfold fh;rw[if_neg h]
theorem ln {gs:List (Nat×Nat)} {i:Nat} {g:Nat×Nat} (h:gs[i]?=some g):((gs.map bm).map ai)[i]?=some (ai (bm g)):=by
 rw[List.getElem?_map,List.getElem?_map,h];rfl
theorem DH {gs:List (Nat×Nat)} {bB:List Int} (h:ow gs bB) {i:Nat} {g:Nat×Nat} (hg:gs[i]?=some g):bT ((g.1:Nat):Int):=by
 have:=h.ok g (List.mem_of_getElem? hg);unfold hI at this;unfold bT;omega
def iW (fr:Go.V.Fr) (k:Nat):Go.V.D:=Go.V.nth .junk fr.loc k
theorem bc {N k:Nat} {S s0:St} {H:List bG} {rD aD:D} {s:et} (e w:Int) (hH:Has N S s0 (.box k (.mem 0 false (aC rD aD s))::H)):
  ∃d ae,Ev pv 11 [.ptr k 0 0,.int .i64 e,.int .i64 w] s0 d ae∧d=.tup []∧Has N S ae (.box k (.mem 0 false (aC rD aD (fh s e w)))::H):=by
 refine Ev.gT rfl NG rfl rfl rfl ?_;refine zE ?_;have a_:=hH;have hH:=hH.aY;have aU:(enterSt .rw s0).bs=s0.bs:=rfl;generalize enterSt .rw s0=S2 at*;refine zQ 8 ?_;unfold fh;refine zI (fun h0=>?_) fun h0=>?_
 ·rw[if_pos h0];refine zQ 7 ?_;refine qT hH at0 fun st hH=>?_;dsimp only[u2,u1,u3,u4,setMany,u5,u6,D.cells,Nat.reduceAdd,aC,ai,ah] at hH;refine zQ 2 ?_;refine qT hH at0 fun st hH=>?_;dsimp only[u2,u1,u3,u4,setMany,u5,u6,D.cells,Nat.reduceAdd,aC,ai,ah] at hH;refine zQ 1 ?_;refine⟨fun i h=>(by cases h),_,_,_,rfl,ab rfl,?_⟩;exact⟨rfl,a_.af aU hH⟩
 ·rw[if_neg h0];refine zQ 1 ?_;refine⟨fun i h=>(by cases h),_,_,_,rfl,ab rfl,?_⟩;exact⟨rfl,a_.af aU hH⟩
theorem gu {N k:Nat} {S s0:St} {H:List bG} {gs:List (Nat×Nat)} {bB:List Int} {rD aD:D} {s:et} (hi:s.i<bB.length) (hH:Has N S s0 (.box k (.mem 0 false (aC rD aD s))::.lst rD 1 ((gs.map bm).map ai)::.lst aD 1 (bB.map ah)::H)):
  ∃d ae,Ev pv 12 [.ptr k 0 0] s0 d ae∧(∃v:Int,d=.int .i64 v)∧Has N S ae (.box k (.mem 0 false (aC rD aD s))::.lst rD 1 ((gs.map bm).map ai)::.lst aD 1 (bB.map ah)::H):=by
 refine Ev.gT rfl NF rfl rfl rfl ?_;refine zE ?_;have a_:=hH;have hH:=hH.aY;have aU:(enterSt .rw s0).bs=s0.bs:=rfl;generalize enterSt .rw s0=S2 at*
 obtain⟨v,hv⟩:∃v,bB[s.i]?=some v:=⟨bB[s.i]'hi,List.getElem?_eq_getElem _⟩
 have hr1:=fe hv;refine zQ 14 ?_;refine qi hH at2 fun Kj F4=>?_;refine zQ 3 ?_;refine EvC.ret ⟨rx,_,_,_,rfl,ab (rfl),?_⟩;exact⟨⟨v,rfl⟩,a_.af aU hH⟩
theorem bz {N k:Nat} {S s0:St} {H:List bG} {gs:List (Nat×Nat)} {bB:List Int} {rD aD:D} {s:et} (kW:gs.length≤1048576) (JT:s.i≤1048576) (r:Int) (hr:r≠65533) (h0:0≤r) (hH:Has N S s0 (.box k (.mem 0 false (aC rD aD s))::.lst rD 1 ((gs.map bm).map ai)::.lst aD 1 (bB.map ah)::H)):
  ∃d ae,Ev pv 27 [.ptr k 0 0,.int .i32 r] s0 d ae∧d=.bool (bJ gs s.i r)∧Has N S ae (.box k (.mem 0 false (aC rD aD s))::.lst rD 1 ((gs.map bm).map ai)::.lst aD 1 (bB.map ah)::H):=by
 refine Ev.gT rfl Np rfl rfl rfl ?_;refine zE ?_;have a_:=hH;have hH:=hH.aY;have aU:(enterSt .rw s0).bs=s0.bs:=rfl;generalize enterSt .rw s0=S2 at*;refine zQ 4 ?_
 by_cases ha:s.i<gs.length
 ·obtain⟨g,hg⟩:∃g,gs[s.i]?=some g:=⟨gs[s.i]'ha,List.getElem?_eq_getElem _⟩
  have hr1:=ln hg;have bC:decide ((s.i:Int)<(gs.length:Nat))=true:=by rw[decide_eq_true];simp;omega
  have hv:bJ gs s.i r=(bm g==r):=nU hg hr h0;refine qq<|EvC.ml 4 (.bool (bm g==r)) [] ?_ (fun ff tmp=>?_)
  ·refine zQ 8 ?_;refine qn ?_ (hR:=hH.rows at1);simp only[List.length_map];refine zQ 10 ?_;refine qi hH at1 (fun Fs xx=>?_) (hg:=wi bC);refine zQ 5 ?_;refine EvO.nil (aI ?_);dsimp only[setW,List.foldl,nth,u2,u1];dsimp only[Fr.putO,Fr.put,Fr.clean,Fr.ev,Fr.get,nth,look,u1,u2,v1,v2,v4]
   all_goals(rfl)
  dsimp only[setW,List.foldl,nth,u2,u1];refine EvC.ret ⟨rx,_,_,_,rfl,ab (rfl),?_⟩;exact⟨by rw[hv];rfl,a_.af aU hH⟩
 ·have bC:decide ((s.i:Int)<(gs.length:Nat))=false:=by rw[decide_eq_false];simp;omega
  have hv:bJ gs s.i r=false:=by
   cases h:bJ gs s.i r with
   |true=>exact absurd (cE h) ha
   |false=>rfl
  refine qq<|EvC.ml 4 (.bool false) [] ?_ (fun ff tmp=>?_)
  ·refine zQ 8 ?_;refine qn ?_ (hR:=hH.rows at1);simp only[List.length_map];refine zQ 16 ?_;refine EvO.nil (aI ?_);dsimp only[setW,List.foldl,nth,u2,u1];dsimp only[Fr.putO,Fr.put,Fr.clean,Fr.ev,Fr.get,nth,look,u1,u2,v1,v2,v4]
   all_goals(first|rfl|(simp[bC];done)|(simp_all;done)|(simp[bC];omega)|(simp_all;omega))
  dsimp only[setW,List.foldl,nth,u2,u1];refine EvC.ret ⟨rx,_,_,_,rfl,ab (rfl),?_⟩;exact⟨by rw[hv];rfl,a_.af aU hH⟩
theorem uI {s0:St} (r:Int):Ev pv 77 [.int .i32 r] s0 (.bool (decide (33≤r∧r≤47∨58≤r∧r≤64∨91≤r∧r≤96∨123≤r∧r≤126))) s0:=by
 refine Ev.mk1 rfl Mz rfl rfl rfl ?_;refine zE ?_;obtain⟨hSb,hF,hH⟩:=ri s0;generalize enterSt .ro s0=S at*;refine zQ 5 ?_;refine EvC.ml 2 (.bool (decide (33≤r∧r≤47∨58≤r∧r≤64∨91≤r∧r≤96∨123≤r∧r≤126))) [] ?_ (fun ff tmp=>?_)
 ·refine zQ 3 ?_;refine EvO.two 5 rfl (fun bZ=>?_) (fun bZ=>?_)
  ·refine zQ 4 ?_;refine EvO.two 9 rfl (fun ig=>?_) (fun ig=>?_)
   ·refine zQ 24 ?_;refine EvO.nil (aI ?_);refine zG ?_
    all_goals(simp[bZ,ig];done)
   ·refine zQ 3 ?_;refine EvO.two 12 rfl (fun cZ=>?_) (fun cZ=>?_)
    ·refine zQ 2 ?_;refine EvO.pickT (wantD_is rfl rfl rfl ig) rfl cZ (put_T rfl _) ?_;refine zQ 2 ?_;refine EvO.two 17 rfl (fun b7=>?_) (fun b7=>?_)
     ·refine zQ 16 ?_;refine EvO.nil (aI ?_);refine zG ?_
      all_goals(simp[bZ,ig,cZ,b7];done)
     ·refine zQ 3 ?_;refine EvO.two 20 rfl (fun aW=>?_) (fun aW=>?_)
      ·refine zQ 2 ?_;refine EvO.pickT (wantD_is rfl rfl rfl b7) rfl aW (put_T rfl _) ?_;refine zQ 2 ?_;refine EvO.two 25 rfl (fun aZ=>?_) (fun aZ=>?_)
       ·refine zQ 8 ?_;refine EvO.nil (aI ?_);refine zG ?_
        all_goals(simp[bZ,ig,cZ,b7,aW,aZ];done)
       ·refine zQ 3 ?_;refine EvO.two 28 rfl (fun aQ=>?_) (fun aQ=>?_)
        ·refine zQ 2 ?_;refine EvO.pickT (wantD_is rfl rfl rfl aZ) rfl aQ (put_T rfl _) ?_;refine zQ 2 ?_;refine EvO.nil (aI ?_);refine zG ?_
         all_goals(simp[bZ,ig,cZ,b7,aW,aZ,aQ];done)
        ·refine zQ 2 ?_;refine EvO.pickF (wantD_is rfl rfl rfl aZ) rfl aQ (put_T rfl _) ?_;refine zQ 2 ?_;refine EvO.nil (aI ?_);refine zG ?_
         all_goals(simp[bZ,ig,cZ,b7,aW,aZ,aQ];done)
      ·refine zQ 2 ?_;refine EvO.pickF (wantD_is rfl rfl rfl b7) rfl aW (put_T rfl _) ?_;refine zQ 5 ?_;refine EvO.two 28 rfl (fun aQ=>?_) (fun aQ=>?_)
       ·refine zQ 5 ?_;refine EvO.nil (aI ?_);refine zG ?_
        all_goals(simp[bZ,ig,cZ,b7,aW,aQ];done)
       ·refine zQ 5 ?_;refine EvO.nil (aI ?_);refine zG ?_
        all_goals(simp[bZ,ig,cZ,b7,aW,aQ];done)
    ·refine zQ 2 ?_;refine EvO.pickF (wantD_is rfl rfl rfl ig) rfl cZ (put_T rfl _) ?_;refine zQ 5 ?_;refine EvO.two 20 rfl (fun aW=>?_) (fun aW=>?_)
     ·refine zQ 5 ?_;refine EvO.two 25 rfl (fun aZ=>?_) (fun aZ=>?_)
      ·refine zQ 8 ?_;refine EvO.nil (aI ?_);refine zG ?_
       all_goals(simp[bZ,ig,cZ,aW,aZ];done)
      ·refine zQ 3 ?_;refine EvO.two 28 rfl (fun aQ=>?_) (fun aQ=>?_)
       ·refine zQ 2 ?_;refine EvO.pickT (wantD_is rfl rfl rfl aZ) rfl aQ (put_T rfl _) ?_;refine zQ 2 ?_;refine EvO.nil (aI ?_);refine zG ?_
        all_goals(simp[bZ,ig,cZ,aW,aZ,aQ];done)
       ·refine zQ 2 ?_;refine EvO.pickF (wantD_is rfl rfl rfl aZ) rfl aQ (put_T rfl _) ?_;refine zQ 2 ?_;refine EvO.nil (aI ?_);refine zG ?_
        all_goals(simp[bZ,ig,cZ,aW,aZ,aQ];done)
     ·refine zQ 8 ?_;refine EvO.two 28 rfl (fun aQ=>?_) (fun aQ=>?_)
      ·refine zQ 5 ?_;refine EvO.nil (aI ?_);refine zG ?_
       all_goals(simp[bZ,ig,cZ,aW,aQ];done)
      ·refine zQ 5 ?_;refine EvO.nil (aI ?_);refine zG ?_
       all_goals(simp[bZ,ig,cZ,aW,aQ];done)
  ·refine zQ 7 ?_;refine EvO.two 12 rfl (fun cZ=>?_) (fun cZ=>?_)
   ·refine zQ 5 ?_;refine EvO.two 17 rfl (fun b7=>?_) (fun b7=>?_)
    ·refine zQ 16 ?_;refine EvO.nil (aI ?_);refine zG ?_
     all_goals(simp[bZ,cZ,b7];done)
    ·refine zQ 3 ?_;refine EvO.two 20 rfl (fun aW=>?_) (fun aW=>?_)
     ·refine zQ 2 ?_;refine EvO.pickT (wantD_is rfl rfl rfl b7) rfl aW (put_T rfl _) ?_;refine zQ 2 ?_;refine EvO.two 25 rfl (fun aZ=>?_) (fun aZ=>?_)
      ·refine zQ 8 ?_;refine EvO.nil (aI ?_);refine zG ?_
       all_goals(simp[bZ,cZ,b7,aW,aZ];done)
      ·refine zQ 3 ?_;refine EvO.two 28 rfl (fun aQ=>?_) (fun aQ=>?_)
       ·refine zQ 2 ?_;refine EvO.pickT (wantD_is rfl rfl rfl aZ) rfl aQ (put_T rfl _) ?_;refine zQ 2 ?_;refine EvO.nil (aI ?_);refine zG ?_
        all_goals(simp[bZ,cZ,b7,aW,aZ,aQ];done)
       ·refine zQ 2 ?_;refine EvO.pickF (wantD_is rfl rfl rfl aZ) rfl aQ (put_T rfl _) ?_;refine zQ 2 ?_;refine EvO.nil (aI ?_);refine zG ?_
        all_goals(simp[bZ,cZ,b7,aW,aZ,aQ];done)
     ·refine zQ 2 ?_;refine EvO.pickF (wantD_is rfl rfl rfl b7) rfl aW (put_T rfl _) ?_;refine zQ 5 ?_;refine EvO.two 28 rfl (fun aQ=>?_) (fun aQ=>?_)
      ·refine zQ 5 ?_;refine EvO.nil (aI ?_);refine zG ?_
       all_goals(simp[bZ,cZ,b7,aW,aQ];done)
      ·refine zQ 5 ?_;refine EvO.nil (aI ?_);refine zG ?_
       all_goals(simp[bZ,cZ,b7,aW,aQ];done)
   ·refine zQ 8 ?_;refine EvO.two 20 rfl (fun aW=>?_) (fun aW=>?_)
    ·refine zQ 5 ?_;refine EvO.two 25 rfl (fun aZ=>?_) (fun aZ=>?_)
     ·refine zQ 8 ?_;refine EvO.nil (aI ?_);refine zG ?_
      all_goals(simp[bZ,cZ,aW,aZ];done)
     ·refine zQ 3 ?_;refine EvO.two 28 rfl (fun aQ=>?_) (fun aQ=>?_)
      ·refine zQ 2 ?_;refine EvO.pickT (wantD_is rfl rfl rfl aZ) rfl aQ (put_T rfl _) ?_;refine zQ 2 ?_;refine EvO.nil (aI ?_);refine zG ?_
       all_goals(simp[bZ,cZ,aW,aZ,aQ];done)
      ·refine zQ 2 ?_;refine EvO.pickF (wantD_is rfl rfl rfl aZ) rfl aQ (put_T rfl _) ?_;refine zQ 2 ?_;refine EvO.nil (aI ?_);refine zG ?_
       all_goals(simp[bZ,cZ,aW,aZ,aQ];done)
    ·refine zQ 8 ?_;refine EvO.two 28 rfl (fun aQ=>?_) (fun aQ=>?_)
     ·refine zQ 5 ?_;refine EvO.nil (aI ?_);refine zG ?_
      all_goals(simp[bZ,cZ,aW,aQ];done)
     ·refine zQ 5 ?_;refine EvO.nil (aI ?_);refine zG ?_
      all_goals(simp[bZ,cZ,aW,aQ];done)
 dsimp only[setW,List.foldl,nth,u2,u1];refine EvC.ret ⟨rx,_,rfl,rl hSb hH (rfl)⟩
def eL:List Rg→Bool
 |[q]=>q.1==q.2
 |_=>false
theorem lX {s0:St} {x:D} {l:List Rg} (hx:V.Rows s0 2 x (l.map ag)) (hl:l.length≤1048576):Ev pv 73 [x] s0 (.bool (eL l)) s0:=by
 refine Ev.mk1 rfl MD rfl rfl rfl ?_;refine zE ?_;obtain⟨hSb,hF,hH⟩:=ri s0;generalize enterSt .ro s0=S at*;have hx:=Arg.of hx hSb;refine zQ 4 ?_
 by_cases h1:l.length=1
 ·obtain⟨q,rfl⟩:=List.length_eq_one_iff.1 h1;have hr1:([q].map ag)[0]?=some (ag q):=rfl;have hg3:(((1:Nat):Int)==1)=true:=rfl;refine qq<|EvC.ml 2 (.bool (q.1==q.2)) [] ?_ (fun ff tmp=>?_)
  ·refine qm ?_;refine qn ?_;simp only[List.length_map,List.length_cons,List.length_nil];refine zQ 3 ?_;refine qr (fun p8 SY=>?_) (hg:=wi hg3);refine qf (fo:=0) (fun p9 SX=>?_) (hg:=wi hg3);refine zQ 2 ?_;refine qr (fun Kh F3=>?_) (hg:=wi hg3);refine qf (fo:=1) (fun Ob Iq=>?_) (hg:=wi hg3);refine zQ 4 ?_;refine EvO.nil (aI ?_);dsimp only[setW,List.foldl,nth,u2,u1];dsimp only[Fr.putO,Fr.put,Fr.clean,Fr.ev,Fr.get,nth,look,u1,u2,v1,v2,v4]
   all_goals(rfl)
  dsimp only[setW,List.foldl,nth,u2,u1];refine EvC.ret ⟨rx,_,rfl,rl hSb hH (rfl)⟩
 ·have hg3:(((l.length:Nat):Int)==1)=false:=by rw[beq_eq_false_iff_ne];omega
  have hs:eL l=false:=by
   match l,h1 with
   |[],_=>rfl
   |_::_::_,_=>rfl
  rw[hs];refine qq<|EvC.ml 2 (.bool false) [] ?_ (fun ff tmp=>?_)
  ·refine qm ?_;refine qn ?_;simp only[List.length_map];refine zQ 13 ?_;refine EvO.nil (aI ?_);dsimp only[setW,List.foldl,nth,u2,u1];dsimp only[Fr.putO,Fr.put,Fr.clean,Fr.ev,Fr.get,nth,look,u1,u2,v1,v2,v4]
   all_goals(first|rfl|(simp[hg3];done)|(simp_all;done)|(simp[hg3];omega)|(simp_all;omega))
  dsimp only[setW,List.foldl,nth,u2,u1];refine EvC.ret ⟨rx,_,rfl,rl hSb hH (rfl)⟩
theorem Bz {N L j:Nat} {S st:St} {H:List bG} {x:D} {s:Nat} {es:List (List D)} (hH:Has N S st H) (hj:H[j]?=some (.lst x s es)) (hp:∀e∈es,∀d∈e,bS d=true) (hx:∀k,x.ref=k+1→L≤k) (n:Nat):cH st L (n+2) x=some (.sl (es.map (ic s))):=by
 have hown:=hH.own hj
 cases hown with
 |nul=>rfl
 |win k aq off es c hm hl hc he=>
  have hk:=hx k (by simp only[D.ref]);rw[cH];simp only[if_neg (show¬k<L by omega),St.mem_of hm,Option.bind_some]
  rw[if_pos hl,hc,gw (fun d hd=>by
   obtain⟨e,rT,n3⟩:=List.mem_flatten.1 hd
   exact hp e rT d n3)]
  simp only[Option.map_some,eS he]
theorem q' {N L i j:Nat} {S st:St} {H:List bG} {x w:D} {op mn mx cap kids:Int} {lz:Bool} {a:List Rg} (hH:Has N S st H) (hj:H[j]?=some (.lst x 7 [[.int .i64 op,w,.int .i64 mn,.int .i64 mx,.bool lz,.int .i64 cap,.int .i64 kids]])) (hi:H[i]?=some (.lst w 2 (a.map ag))) (hx:∀k,x.ref=k+1→L≤k) (hw:∀k,w.ref=k+1→L≤k):aO st L false 16 x=some (kT [dw op mn mx lz cap kids a]):=by
 have Ql:=Bz hH hi (da _) hw 12;have hown:=hH.own hj;generalize oP:[[D.int .i64 op,w,.int .i64 mn,.int .i64 mx,.bool lz,.int .i64 cap,.int .i64 kids]]=es at hown
 cases hown with
 |nul=>cases oP
 |win k aq off es c hm hl hc he=>
  subst oP;have hk:=hx k (by simp only[D.ref]);show(if k<L then some (D.win k aq off 1 7) else cH st L 15 (.win k aq off 1 7))=_;rw[if_neg (show¬k<L by omega),cH];simp only[if_neg (show¬k<L by omega),St.mem_of hm,Option.bind_some];have hl:off+1*7≤c.length:=hl;have hc:(c.drop off).take (1*7)=[[D.int .i64 op,w,.int .i64 mn,.int .i64 mx,.bool lz,.int .i64 cap,.int .i64 kids]].flatten:=hc;rw[if_pos hl,hc];show Option.map _ (eG (cH st L 14) [.int .i64 op,w,.int .i64 mn,.int .i64 mx,.bool lz,.int .i64 cap,.int .i64 kids])=_;have h1:∀n:Int,cH st L 14 (.int .i64 n)=some (.int .i64 n):=fun n=>rfl;have h2:∀b:Bool,cH st L 14 (.bool b)=some (.bool b):=fun b=>rfl;have Qe:D.sl ((a.map ag).map (ic 2))=aA a:=by exact dc a
  simp only[eG,h1,h2,Ql,Option.map_some];rw[Qe]
  rfl
theorem kr {N:Nat} {S s0:St} {H:List bG} {x:D} (SR:x.cells?=some [x]) (hH:Has N S s0 H):
  ∃r ae,Ev pv 58 [x] s0 r ae∧∃kk,r=.win kk 0 0 1 7∧S.bs.length≤kk∧Has N S ae (.lst (.win kk 0 0 1 7) 7 [[.int .i64 2,x,.int .i64 0,.int .i64 0,.bool false,.int .i64 0,.int .i64 0]]::H):=by
 refine Ev.gT rfl MS rfl rfl rfl ?_;refine zE ?_;change EvC _ _ _ _ s0 _;refine zQ 7 ?_;refine EvO.c9 (qs:=[(0,_),(1,_)]) rfl rfl rfl rfl ⟨rfl,(ev rfl),(by rfl),rfl,(ev rfl),(by assumption),trivial⟩ (by intro q hq;simp only[List.mem_cons,List.not_mem_nil,or_false] at hq;rcases hq with rfl|rfl<;>exact⟨rfl,by exact Nat.le_of_ble_eq_true rfl⟩) (by show List.foldl _ [_,_,_,_,_,_,_] _=_;dsimp only[List.foldl_cons,List.foldl_nil,u2,u1]<;>rfl) (put_T rfl _) ?_;refine qh (s:=7) (vs:=[_]) hH fun k5 st IG hH=>?_;refine zQ 2 ?_;refine EvC.ret ⟨rx,_,_,_,rfl,rfl,?_⟩;exact⟨k5,rfl,IG,hH⟩
theorem pf {s0:St} {x:D} {parts:List (List Nod)} (op:Int) (hx:V.Rows s0 1 x (parts.map partC)) (hv:∀l∈parts,∀n∈l,NdV n) (hp:parts.length≤100000) (hs:b_ parts≤100000):Ev pv 28 [.int .i64 op,x] s0 (kT (b6 op parts)) s0∧(∀n∈b6 op parts,NdV n)∧(parts.length=1→(b6 op parts).length≤b_ parts)∧(b6 op parts).length≤b_ parts+1:=by
 suffices hg:∃d,Ev pv 28 [.int .i64 op,x] s0 d s0∧d=kT (b6 op parts)∧(∀n∈b6 op parts,NdV n)∧(parts.length=1→(b6 op parts).length≤b_ parts)∧(b6 op parts).length≤b_ parts+1 by
  obtain⟨d,h1,rfl,h2⟩:=hg;exact⟨h1,h2⟩
 refine Ev.yE rfl Nn rfl rfl rfl ?_;refine zE ?_;obtain⟨hSb,hF,hH⟩:=ri s0;generalize enterSt .ro s0=S at*;have hx:=Arg.of hx hSb;refine zQ 8 ?_;refine qn ?_;simp only[List.length_map];refine zQ 2 ?_
 by_cases h1:parts.length=1
 ·obtain⟨q,hq⟩:∃q,parts[0]?=some q:=⟨parts[0]'(by omega),List.getElem?_eq_getElem _⟩
  have hr1:=l3 hq
  have Ak:parts=[q]:=by
   match parts,h1,hq with
   |[a],_,hq=>simp at hq;rw[hq]
  refine qD rfl (by simp[h1]) ?_;refine zQ 3 ?_;refine qr fun Kj F4=>?_;refine zQ 3 ?_;refine EvC.ret ⟨rx,_,_,rfl,rl hSb hH (rfl),?_⟩;have hj:b6 op parts=q:=by rw[Ak];rfl
  refine⟨by rw[hj];rfl,by rw[hj];exact hv q (List.mem_of_getElem? hq),fun _=>?_,?_⟩<;>rw[hj,Ak]<;>simp[b_]
 have I5:(((parts.length:Nat):Int)==1)=false:=by rw[beq_eq_false_iff_ne];omega
 refine qE rfl (by rw[I5]) ?_;refine zQ 5 ?_;refine qn ?_;simp only[List.length_map];refine zQ 2 ?_
 by_cases h0:parts.length=0
 ·have K4:parts=[]:=List.length_eq_zero_iff.1 h0;refine qD rfl (by simp[h0]) ?_;refine zQ 2 ?_;refine EvO.go (d:=.agg [.int .i64 1,.nul,.int .i64 0,.int .i64 0,.bool false,.int .i64 0,.int .i64 0]) (st1:=_) rfl rfl rfl (put_T rfl _) ?_;refine qh (s:=7) (vs:=[_]) hH fun k17 st IM hH=>?_;refine zQ 2 ?_;have hfz:=eX (L:=s0.bs.length) (a:=[]) hH at0 (.inr ⟨rfl,rfl⟩) (fun k hk=>by have jv:k17+1=k+1:=hk;rw[←hSb];omega);refine EvC.ret ⟨rx,_,_,rfl,rl hSb hH (hfz),?_⟩;rw[K4];exact⟨rfl,s8 (by simp) (by omega),fun h=>by simp at h,by simp[b6]⟩
 have I6:(((parts.length:Nat):Int)==0)=false:=by rw[beq_eq_false_iff_ne];omega
 have hj:b6 op parts=dw op 0 0 false 0 (parts.length:Nat) []::parts.flatten:=by
  match parts,h0,h1 with
  |_::_::_,_,_=>rfl
 rw[hj];refine qE rfl (by rw[I6]) ?_;refine zQ 5 ?_;refine qn ?_;simp only[List.length_map];refine EvO.go (d:=.agg [.int .i64 op,.nul,.int .i64 0,.int .i64 0,.bool false,.int .i64 0,.int .i64 (parts.length:Nat)]) (st1:=_) rfl rfl rfl (put_T rfl _) ?_;refine qh (s:=7) (vs:=[_]) hH fun k22 st Ri hH=>?_;refine zQ 7 ?_;have hH:Has s0.bs.length S st (.lst (.win k22 0 0 1 7) 7 [[.int .i64 op,.nul,.int .i64 0,.int .i64 0,.bool false,.int .i64 0,.int .i64 (parts.length:Nat)]]::[]):=hH;refine zQ 1 ?_;refine EvC.loop (fun mm fr st=>∃(i:Nat) (od:D) (es:List (List D)),fr.clean=⟨7,[iW fr 0,x,iW fr 2,iW fr 3,iW fr 4,od,.int .i64 (i:Nat)],[]⟩∧Has s0.bs.length S st [.lst od 7 es]∧(i+mm=parts.length)∧(es.map (·.map nz)=(dw op 0 0 false 0 (parts.length:Nat) []::(parts.take i).flatten).map ay)∧(∀e∈es,∀d∈e,lT d=true)∧(∀k,od.ref=k+1→S.bs.length≤k)) (parts.length) ?_ ?_
 ·refine⟨0,.win k22 0 0 1 7,[[.int .i64 op,.nul,.int .i64 0,.int .i64 0,.bool false,.int .i64 0,.int .i64 (parts.length:Nat)]],rfl,hH,by omega,rfl,?_,fun k hk=>by simp only[D.ref] at hk;omega⟩;intro e he d hd;simp only[List.mem_cons,List.not_mem_nil,or_false] at he;subst he;simp only[List.mem_cons,List.not_mem_nil,or_false] at hd
  rcases hd with rfl|rfl|rfl|rfl|rfl|rfl|rfl<;>rfl
 rintro mm fr st ⟨i,od,es,hfr,hH,hi,oP,ht,q_⟩;rw[hfr];clear hfr;generalize iW fr=ee;clear fr;refine zQ 5 ?_;refine qn ?_;simp only[List.length_map];refine zQ 2 ?_
 by_cases hlt:i<parts.length
 ·obtain⟨q,hq⟩:∃q,parts[i]?=some q:=⟨parts[i]'hlt,List.getElem?_eq_getElem _⟩
  have hr1:=l3 hq;have Ch:=hv q (List.mem_of_getElem? hq)
  have tB:es.length=1+(parts.take i).flatten.length:=by
   have LY:(List.length∘List.map ay:List Nod→Nat)=List.length:=by funext l;simp
   have:=congrArg List.length oP;simp[LY] at this
   simp;omega
  have EO:parts.take (i+1)=parts.take i++[q]:=by rw[List.take_add_one,hq];rfl
  have KF:b_ (parts.take (i+1))=b_ (parts.take i)+q.length:=by rw[EO,bK];simp[b_]
  have KH:b_ (parts.take (i+1))≤b_ parts:=by
   have:=bK (parts.take (i+1)) (parts.drop (i+1));rw[List.take_append_drop] at this;omega
  have KI:=il (parts.take i);refine qD rfl (by simp;omega) ?_;refine zQ 7 ?_;refine qr fun SN QJ=>?_;refine qR ?_;refine EvO.gD (s:=7) hH rfl (ev rfl) (ev rfl) at0 ((jP Ch).rows st) rfl rfl rfl rfl rfl rfl rfl ⟨(Nat.le_of_ble_eq_true rfl),(Nat.le_of_ble_eq_true rfl)⟩ (fun _=>(put_T rfl _)) (by rw[List.length_map];omega) (.inl hF) q_ (fun Hl st q_ hH=>?_);dsimp only[u2] at hH;refine zQ 7 ?_;refine⟨mm-1,by omega,⟨i+1,Hl,es++q.map ay,rfl,hH,by omega,by rw[List.map_append,oP,kD Ch,EO,List.flatten_append,List.map_cons,List.map_cons,List.map_append];simp,?_,q_⟩⟩;intro e he
  rcases List.mem_append.1 he with he|he
  ·exact ht e he
  ·exact iw Ch e he
 ·refine qE rfl (by simp;omega) ?_;refine zQ 6 ?_;have hik:i=parts.length:=by omega
  rw[hik,List.take_length] at oP
  have bV:∀n∈dw op 0 0 false 0 (parts.length:Nat) []::parts.flatten,NdV n:=fun n hn=>by
   rcases List.mem_cons.1 hn with rfl|hn
   ·exact s8 (by simp) (by omega) _ (List.mem_cons_self ..)
   ·obtain⟨l,hl,hn⟩:=List.mem_flatten.1 hn;exact hv l hl n hn
  refine EvC.ret ⟨rx,_,_,rfl,rl hSb hH (dW hH at0 oP ht (fun k hk=>by have:=q_ k hk;rw[←hSb];exact this) (by decide)),?_⟩;have KI:=il parts;exact⟨rfl,bV,by omega,by simp only[List.length_cons];omega⟩
theorem uL {s0:St} (a b:List UInt8):Ev pv 63 [.str a,.str b] s0 (.bool (jT a b)) s0:=by
 unfold jT;refine Ev.mk1 rfl MN rfl rfl rfl ?_;refine zE ?_;obtain⟨hSb,hF,hH⟩:=ri s0;generalize enterSt .ro s0=S at*;refine zQ 8 ?_;refine EvO.slen rfl rfl rfl (put_T rfl _) ?_;refine qm ?_;refine EvO.slen rfl rfl rfl (put_T rfl _) ?_;refine zQ 2 ?_
 by_cases h:a.length=b.length
 ·have hc:(((a.length:Nat):Int) !=((b.length:Nat):Int))=false:=by rw[h];simp
  have h1:decide (((a.length:Nat):Int)<((b.length:Nat):Int))=false:=by rw[decide_eq_false_iff_not];omega
  have h2:(((a.length:Nat):Int)==((b.length:Nat):Int))=true:=by rw[h];simp
  rw[h1,h2,Bool.false_or,Bool.true_and];refine qE rfl (by rw[hc]) ?_;refine zQ 8 ?_;refine EvC.ret ⟨rx,_,rfl,rl hSb hH (rfl)⟩
 ·have hc:(((a.length:Nat):Int) !=((b.length:Nat):Int))=true:=by simp;omega
  have h2:(((a.length:Nat):Int)==((b.length:Nat):Int))=false:=by rw[beq_eq_false_iff_ne];omega
  rw[h2,Bool.false_and,Bool.or_false];refine qD rfl (by rw[hc]) ?_;refine zQ 3 ?_;refine EvO.slen rfl rfl rfl (put_T rfl _) ?_;refine qm ?_;refine EvO.slen rfl rfl rfl (put_T rfl _) ?_;refine zQ 3 ?_;refine EvC.ret ⟨rx,_,rfl,rl hSb hH (rfl)⟩
theorem nQ {s0:St} (b:List UInt8) (hb:b.length≤1048576):Ev pv 64 [.str b] s0 (.tup [.int .i64 (du b).1,.bool (du b).2]) s0:=by
 suffices hg:∃d,Ev pv 64 [.str b] s0 d s0∧d=.tup [.int .i64 (du b).1,.bool (du b).2] by
  obtain⟨d,h1,rfl⟩:=hg;exact h1
 unfold du;refine Ev.yE rfl MM rfl rfl rfl ?_;refine zE ?_;obtain⟨hSb,hF,hH⟩:=ri s0;generalize enterSt .ro s0=S at*;refine zQ 9 ?_;refine EvO.slen rfl rfl rfl (put_T rfl _) ?_;refine zQ 2 ?_;refine zP (fun h0=>?_) fun h0=>?_
 ·rw[if_pos (by omega)];refine zQ 5 ?_;refine EvC.ret ⟨rx,_,_,rfl,rl hSb hH (rfl),?_⟩
  rfl
 ·rw[if_neg (by omega)];refine zQ 11 ?_;refine EvC.loop (fun mm fr st=>∃(i:Nat) (n:Int),fr.clean=⟨6,[.str b,iW fr 1,iW fr 2,iW fr 3,.int .i64 n,.int .i64 (i:Nat)],[]⟩∧Has s0.bs.length S st []∧(i+mm=b.length)∧(sD (b.drop i) n=sD b 0)) (b.length) ?_ ?_
  ·exact⟨0,0,rfl,hH,by omega,rfl⟩
  rintro mm fr st ⟨i,n,hfr,hH,hi,hn⟩;rw[hfr];clear hfr;generalize iW fr=ee;clear fr;refine zQ 5 ?_;refine EvO.slen rfl rfl rfl (put_T rfl _) ?_;refine zQ 2 ?_;refine zP (fun h1=>?_) fun h1=>?_
  ·refine zQ 1 ?_
   obtain⟨c,hc⟩:∃c,b[i]?=some c:=⟨b[i]'(by omega),List.getElem?_eq_getElem _⟩
   have om:b.drop i=c::b.drop (i+1):=by
    have:=List.drop_eq_getElem_cons (l:=b) (i:=i) (by omega);rw[this];congr 1;rw[List.getElem?_eq_getElem (by omega)] at hc;exact Option.some.inj hc
   rw[om] at hn;refine zQ 4 ?_;refine EvO.qZ (z:=aV .i64 (10*n)) rfl (ev rfl) (ev rfl) (by rw[Int.mul_comm]) (put_T rfl _) ?_;refine zQ 2 ?_;refine EvO.Hy rfl (ev rfl) (ev rfl) rfl (by assumption) (put_T rfl _) ?_;refine EvO.go (d:=.int .u8 (aV .u8 ((c.toNat:Nat)-48))) (st1:=_) rfl rfl rfl (put_T rfl _) ?_;refine qg ?_;refine EvO.fM (z:=aV .i64 (aV .i64 (10*n)+aV .i64 (aV .u8 ((c.toNat:Nat)-48)))) rfl (ev rfl) (ev rfl) rfl (put_T rfl _) ?_;refine zQ 7 ?_;exact⟨mm-1,by omega,⟨i+1,_,rfl,hH,by omega,hn⟩⟩
  ·refine zQ 1 ?_;have nZ:b.drop i=[]:=List.drop_eq_nil_of_le (by omega);rw[nZ] at hn;have hn:n=sD b 0:=hn;rw[←hn];refine zQ 8 ?_;refine EvC.ret ⟨rx,_,_,rfl,rl hSb hH (rfl),?_⟩
   rfl
def gz (fr:Go.V.Fr) (k:Nat):Go.V.D:=Go.V.nth .junk fr.loc k
theorem Fw (l:List Rg) (a b:Int):EH l false a b=((decide (a<b) &&(decide (a<55296)||decide (a>57343))) &&!ia l a):=by
 unfold EH;cases ia l a<;>simp
theorem wV {s0:St} {x:D} {l:List Rg} (hx:V.Rows s0 2 x (l.map ag)) (hl:l.length≤134217728):∃d,Ev pv 60 [x] s0 d s0∧∃a:List Rg,d=aA a∧canon a∧∀r,bX a r↔bT r∧¬bX l r:=by
 refine Ev.yE rfl MQ rfl rfl rfl ?_;refine zE ?_;obtain⟨hSb,hF,hH⟩:=ri s0;generalize enterSt .ro s0=S at*;have hx:=Arg.of hx hSb;refine zQ 4 ?_;obtain⟨_,hev,m,rfl,hperm,ji⟩:=vg (hx.rows hH) (by omega);have hlen:=hperm.length_eq;have lD:=kM l;have pN:m.length=4+(l.flatMap fv).length:=by rw[hlen];simp[dx];omega
 have Ix:∀q∈m,0≤q∧q≤1114112:=by
  intro q hq;have:=hperm.mem_iff.1 hq;simp only[dx,List.mem_append,List.mem_cons,List.not_mem_nil,or_false,List.mem_flatMap] at this
  rcases this with(h|h|h|h)|⟨y,_,hy⟩
  ·omega
  ·omega
  ·omega
  ·omega
  ·unfold fv at hy
   split at hy<;>split at hy<;>simp at hy<;>omega
 have hM:=kY (l:=l) (m:=m) false (fun q=>by
  rw[hperm.mem_iff]
  simp only[dx,List.mem_append,List.mem_cons,List.not_mem_nil,or_false,List.mem_flatMap,or_assoc]) ji
 have Md:canon (cB l false m []).reverse∧∀r,bX (cB l false m []).reverse r↔bT r∧¬bX l r:=⟨hM.1,fun r=>by rw[hM.2 r];simp⟩
 refine zQ 3 ?_;refine qv (hev) ?_;refine zQ 2 ?_;have mJ:=Arg.pure (N:=s0.bs.length) (S:=S) (s:=1) (es:=(m.map ai).map (ic 1)) (fun st=>nM st m);change Arg s0.bs.length S 1 (mN m) _ at mJ;refine zQ 9 ?_;have hH:=hH.nulE 2;refine zQ 1 ?_;refine EvC.loop (fun mm fr st=>∃(i:Nat) (y:D) (acc:List Rg),fr.clean=⟨6,[x,gz fr 1,gz fr 2,mN m,y,.int .i64 (i:Nat)],[]⟩∧Has s0.bs.length S st [.lst y 2 (acc.reverse.map ag)]∧(i+mm=m.length)∧(cB l false (m.drop i) acc=cB l false m [])∧(acc.length≤i)∧(∀k∈acc,0≤k.2+1∧k.2+1≤1114112)) (m.length) ?_ ?_
 ·exact⟨0,.nul,[],rfl,hH,by omega,rfl,by simp,by simp⟩
 rintro mm fr st ⟨i,y,acc,hfr,hH,hi,hp,hal,hab⟩;rw[hfr];clear hfr;generalize gz fr=ee;clear fr;refine zQ 6 ?_;refine qn ?_;simp only[List.length_map];refine zQ 2 ?_;refine zP (fun h1=>?_) fun h1=>?_
 ·refine zQ 1 ?_
  obtain⟨a,ha⟩:∃a,m[i]?=some a:=⟨m[i]'(by omega),List.getElem?_eq_getElem _⟩
  obtain⟨b,hb⟩:∃b,m[i+1]?=some b:=⟨m[i+1]'(by omega),List.getElem?_eq_getElem _⟩
  have hr1:=lV ha;have nY:=lV hb;have RI:=Ix b (List.mem_of_getElem? hb);have RL:=Ix a (List.mem_of_getElem? ha)
  have om:m.drop i=a::b::m.drop (i+2):=by
   rw[List.drop_eq_getElem_cons (by omega),List.drop_eq_getElem_cons (by omega)];rw[List.getElem?_eq_getElem (by omega)] at ha hb;rw[Option.some.inj ha,Option.some.inj hb]
  have Gl:m.drop (i+1)=b::m.drop (i+2):=by
   rw[List.drop_eq_getElem_cons (by omega)];rw[List.getElem?_eq_getElem (by omega)] at hb;rw[Option.some.inj hb]
  rw[om,cB,←Gl,Fw] at hp;refine zQ 3 ?_;refine EvC.cutT 47 (.bool ((decide (a<b) &&(decide (a<55296)||decide (a>57343))) &&!ia l a)) [] ?_ (fun ff tmp htmp=>?_)
  ·refine zQ 2 ?_;refine qr fun HG Cm=>?_;refine zQ 4 ?_;refine qr fun G4 Am=>?_;refine zQ 3 ?_;refine EvO.two 25 rfl (fun bC=>?_) (fun bC=>?_)
   ·refine zQ 2 ?_;refine qr (fun HE Ck=>?_) (hg:=wi bC);refine zQ 3 ?_;refine EvO.two 31 rfl (fun i_=>?_) (fun i_=>?_)
    ·refine zQ 5 ?_;refine EvO.pickT (wantD_is rfl rfl rfl bC) rfl i_ (put_T rfl _) ?_;refine zQ 5 ?_;refine qr fun JF D9=>?_;refine qR ?_;refine qv (ku (hx.rows hH) (by omega)) ?_;refine zQ 2 ?_;refine EvO.nil (leafT ?_ ?_)
     ·dsimp only[setW,List.foldl,nth,u2,u1]
      all_goals(first|rfl|simp)
     ·refine zF ?_
      all_goals(simp[bC,i_];done)
    ·refine zQ 2 ?_;refine qr (fun Ke F0=>?_) (hg:=wi i_);refine zQ 2 ?_;refine EvO.pickF (wantD_is rfl rfl rfl bC) rfl i_ (put_T rfl _) ?_;refine zQ 2 ?_;refine EvO.two 39 rfl (fun pP=>?_) (fun pP=>?_)
     ·refine zQ 3 ?_;refine qr (fun JF D9=>?_) (hg:=wi pP);refine zQ 1 ?_;refine qv (ku (hx.rows hH) (by omega)) ?_ (hg:=wi pP);refine zQ 2 ?_;refine EvO.nil (leafT ?_ ?_)
      ·dsimp only[setW,List.foldl,nth,u2,u1]
       all_goals(first|rfl|simp)
      ·refine zF ?_
       all_goals(simp[bC,i_,pP];done)
     ·refine zQ 8 ?_;refine EvO.nil (leafT ?_ ?_)
      ·dsimp only[setW,List.foldl,nth,u2,u1]
       all_goals(first|rfl|simp)
      ·refine zF ?_
       all_goals(simp[bC,i_,pP];done)
   ·refine zQ 22 ?_;refine EvO.nil (leafT ?_ ?_)
    ·dsimp only[setW,List.foldl,nth,u2,u1]
     all_goals(first|rfl|simp)
    ·refine zF ?_
     all_goals(simp[bC];done)
  refine zG ?_;refine qc (fun h2=>?_) (fun h2=>?_)<;>try simp only[cs] at h2
  ·rw[h2,if_pos rfl] at hp;have hpl:=rF acc a (b-1);obtain⟨x',ae,hev2,He⟩:=uR (acc:=acc) (lo:=a) (hi:=b-1) hF hH (by omega) (fun k hk=>by have:=hab k hk;omega);refine zQ 4 ?_;refine qr fun N8 Ij=>?_;refine zQ 4 ?_;refine qr fun Kc FY=>?_;refine qR ?_;refine EvO.Bc rfl (ev rfl) (ev rfl) (by omega) (by omega) (put_T rfl _) ?_;refine qv (hev2) ?_;refine zQ 2 ?_;have hH:=He;refine zQ 5 ?_;refine⟨mm-1,by omega,⟨i+1,x',de acc a (b-1),rfl,hH,by omega,hp,by omega,?_⟩⟩;intro k hk;unfold de at hk
   split at hk
   ·simp only[List.mem_cons,List.not_mem_nil,or_false] at hk;subst hk;simp only;omega
   ·rename_i h t
    split at hk
    ·rcases List.mem_cons.1 hk with rfl|hk
     ·simp only;omega
     ·exact hab k (List.mem_cons_of_mem _ hk)
    ·rcases List.mem_cons.1 hk with rfl|hk
     ·simp only;omega
     ·exact hab k hk
  ·rw[h2] at hp;refine zQ 6 ?_;exact⟨mm-1,by omega,⟨i+1,y,acc,rfl,hH,by omega,hp,by omega,hab⟩⟩
 ·refine zQ 6 ?_
  have cC:acc=cB l false m []:=by
   rw[←hp];have Eg:(m.drop i).length≤1:=by rw[List.length_drop];omega
   match hd:m.drop i,Eg with
   |[],_=>rfl
   |[_],_=>rfl
  refine EvC.ret ⟨rx,_,_,rfl,rl hSb hH ((hH.freeze at0 (da _) (n:=15) (by decide))),?_⟩;exact⟨acc.reverse,by rw[dc],by rw[cC];exact Md⟩
theorem rB {s0:St} {x:D} {l:List Rg} (hx:V.Rows s0 2 x (l.map ag)) (hl:l.length≤134217728):Ev pv 60 [x] s0 (aA (hU l)) s0:=by
 obtain⟨_,hev,a,rfl,h1,h2⟩:=wV hx hl;rw[yA h1 h2];exact hev
theorem jI {s0:St} {x:D} {l:List Rg} (hx:V.Rows s0 2 x (l.map ag)) (hl:l.length≤134217728):Ev pv 67 [x] s0 (aA (bp l)) s0:=by
 obtain⟨_,hev,a,rfl,h1⟩:=pe hx hl;rw[iz h1];exact hev
theorem AF {r:Int} (h0:0≤r) (h1:r<128):(Utf8.encode r).data.toList=[UInt8.ofNat r.toNat]:=by
 obtain⟨n,rfl⟩:=Int.eq_ofNat_of_zero_le h0;have h2:n<128:=by omega
 have hv:Utf8.valid (n:Int)=true:=by
  unfold Utf8.valid;simp only[Bool.or_eq_true,Bool.and_eq_true,decide_eq_true_eq];omega
 unfold Utf8.encode;simp only[hv,if_true,Int.toNat_natCast];simp[h2]
theorem Bm {gs:List (Nat×Nat)} {i:Nat} {g:Nat×Nat} (h:gs[i]?=some g):dD gs i=((g.1:Nat):Int)::dD gs (i+1):=by
 unfold dD;have hlt:=lt_get h;rw[List.drop_eq_getElem_cons (by simp;exact hlt)]
 congr 1
 rw[List.getElem_map];rw[List.getElem?_eq_getElem hlt] at h;rw[Option.some.inj h]
theorem Fk {g:Nat×Nat}:(48≤bm g∧bm g≤57)↔(48≤((g.1:Nat):Int)∧((g.1:Nat):Int)≤57):=by
 unfold bm
 split<;>omega
theorem lY {N k:Nat} {S s0:St} {H:List bG} {gs:List (Nat×Nat)} {bB:List Int} {rD aD:D} {s:et} (hok:ow gs bB) (hi:s.i≤gs.length) (hH:Has N S s0 (.box k (.mem 0 false (aC rD aD s))::.lst rD 1 ((gs.map bm).map ai)::.lst aD 1 (bB.map ah)::H)):
  ∃d ae,Ev pv 62 [.ptr k 0 0] s0 d ae∧d=.tup [.str (digS (dD gs s.i) []).1,.bool (decide (0<(digS (dD gs s.i) []).2))]∧(digS (dD gs s.i) []).1.length≤120∧s.i+(digS (dD gs s.i) []).2≤gs.length∧Has N S ae (.box k (.mem 0 false (aC rD aD {s with i:=s.i+(digS (dD gs s.i) []).2}))::.lst rD 1 ((gs.map bm).map ai)::.lst aD 1 (bB.map ah)::H):=by
 have kW:=hok.gl;have hl:=pZ (dD gs s.i) [];have vz:(dD gs s.i).length=gs.length-s.i:=by unfold dD;simp
 obtain⟨h1,h2⟩:=hl;simp only[List.length_nil] at h1 h2
 obtain⟨A,hA⟩:∃A,digS (dD gs s.i) []=A:=⟨_,rfl⟩
 rw[hA] at h1 h2⊢
 suffices hg:∃d ae,Ev pv 62 [.ptr k 0 0] s0 d ae∧d=.tup [.str A.1,.bool (decide (0<A.2))]∧Has N S ae (.box k (.mem 0 false (aC rD aD {s with i:=s.i+A.2}))::.lst rD 1 ((gs.map bm).map ai)::.lst aD 1 (bB.map ah)::H) by
  obtain⟨d,ae,g1,g2,g3⟩:=hg;exact⟨d,ae,g1,g2,by omega,by omega,g3⟩
 refine Ev.gT rfl MO rfl rfl rfl ?_;refine zE ?_;have a_:=hH;have hH:=hH.aY;have aU:(enterSt .rw s0).bs=s0.bs:=rfl;generalize enterSt .rw s0=S2 at*;refine zQ 12 ?_;refine EvC.loop (fun mm fr st=>∃(j:Nat) (acc:List UInt8),fr.clean=⟨6,[.ptr k 0 0,gz fr 1,gz fr 2,gz fr 3,.str acc,.bool (decide (0<j))],[]⟩∧Has N S2 st (.box k (.mem 0 false (aC rD aD {s with i:=s.i+j}))::.lst rD 1 ((gs.map bm).map ai)::.lst aD 1 (bB.map ah)::H)∧(s.i+j+mm=gs.length)∧(acc.length≤j)∧(digS (dD gs (s.i+j)) acc=(A.1,A.2-j))∧(j≤A.2)) (gs.length-s.i) ?_ ?_
 ·exact⟨0,[],rfl,hH,by omega,by simp,(by rw[Nat.add_zero,hA];rfl),by omega⟩
 rintro mm fr st ⟨j,acc,hfr,hH,hj,RO,hd,S6⟩;rw[hfr];clear hfr;generalize gz fr=ee;clear fr
 by_cases hlt:s.i+j<gs.length
 ·obtain⟨g,hg⟩:∃g,gs[s.i+j]?=some g:=⟨gs[s.i+j]'hlt,List.getElem?_eq_getElem _⟩
  have hr1:=ln hg;have bC:decide (((s.i+j:Nat):Int)<(gs.length:Nat))=true:=by rw[decide_eq_true];simp;omega
  have qJ:=@Fk g;rw[Bm hg] at hd;unfold digS at hd;refine zQ 2 ?_;refine EvC.cutT 41 (.bool (decide (48≤bm g) &&decide (bm g≤57))) [] ?_ (fun ff tmp htmp=>?_)
  ·refine zQ 8 ?_;refine qn ?_ (hR:=hH.rows at1);simp only[List.length_map];refine zQ 10 ?_;refine qi hH at1 (fun JH D'=>?_) (hg:=wi bC);refine zQ 4 ?_;refine EvO.two 29 rfl (fun oj=>?_) (fun oj=>?_)
   ·refine zQ 8 ?_;refine qi hH at1 (fun Ps Io=>?_) (hg:=wi oj);refine zQ 3 ?_;refine EvO.nil (leafT ?_ ?_)
    ·dsimp only[setW,List.foldl,nth,u2,u1]
     all_goals(first|rfl|simp)
    ·refine zF ?_
     all_goals(simp[bC,oj];done)
   ·refine zQ 12 ?_;refine EvO.nil (leafT ?_ ?_)
    ·dsimp only[setW,List.foldl,nth,u2,u1]
     all_goals(first|rfl|simp)
    ·refine zF ?_
     all_goals(simp[bC,oj];done)
  refine zG ?_
  by_cases hdg:48≤bm g∧bm g≤57
  ·have D8:bm g=((g.1:Nat):Int):=by
    have:=qJ.1 hdg;exact gh (by omega)
   rw[if_pos (qJ.1 hdg)] at hd;have hcc:(decide (48≤bm g) &&decide (bm g≤57))=true:=by rw[decide_eq_true hdg.1,decide_eq_true hdg.2];rfl
   refine EvC.cond (v:=true) (by dsimp only[Fr.ev,Fr.get,nth,V.look];exact htmp.trans (congrArg D.bool hcc)) (fun _=>?_) (fun h=>by cases h);refine zQ 2 ?_
   have RZ:A.2=j+((digS (dD gs (s.i+j+1)) (if 48<((g.1:Nat):Int)∨acc≠[] then acc++[UInt8.ofNat ((g.1:Nat):Int).toNat] else acc)).2+1):=by
    have:=congrArg Prod.snd hd;simp only at this;omega
   have rU:=congrArg Prod.fst hd;simp only at rU;have I0:(Utf8.encode (bm g)).data.toList=[UInt8.ofNat ((g.1:Nat):Int).toNat]:=by rw[←D8];exact AF (by omega) (by omega)
   refine zQ 2 ?_;refine EvC.fF (fun fr st=>∃(Dc:List UInt8) (tmp:List (Nat×D)),fr=⟨6,[.ptr k 0 0,gz fr 1,gz fr 2,gz fr 3,.str Dc,.bool (decide (0<j))],tmp⟩∧Has N S2 st (.box k (.mem 0 false (aC rD aD {s with i:=s.i+j}))::.lst rD 1 ((gs.map bm).map ai)::.lst aD 1 (bB.map ah)::H)∧(Dc=if 48<((g.1:Nat):Int)∨acc≠[] then acc++[UInt8.ofNat ((g.1:Nat):Int).toNat] else acc)∧(Dc.length≤j+1)) ?_ ?_
   ·by_cases hne:acc=[]
    ·subst hne;have bZ:(([]:List UInt8) !=[])=false:=rfl;refine zQ 12 ?_;refine qi hH at1 (fun SI QE=>?_) (hg:=wi bZ);refine zQ 4 ?_
     by_cases Mj:bm g=48
     ·refine qE rfl (by simp[Mj]) ?_;refine zQ 1 ?_;exact⟨[],_,rfl,hH,by rw[if_neg (by rw[←D8,Mj];simp)],by simp⟩
     ·refine qD rfl (by simp[Mj]) ?_;refine zQ 10 ?_;refine qi hH at1 fun Pp K9=>?_;refine zQ 1 ?_;refine EvO.go (d:=.str [UInt8.ofNat ((g.1:Nat):Int).toNat]) (st1:=_) rfl rfl (by show some (D.str (Utf8.encode (bm g)).data.toList,_)=_;rw[I0]) (put_T rfl _) ?_;refine EvO.JA (x:=[]) (y:=[UInt8.ofNat ((g.1:Nat):Int).toNat]) rfl rfl (ev rfl) (ev rfl) (by simp<;>omega) ?_;refine zQ 2 ?_;exact⟨[UInt8.ofNat ((g.1:Nat):Int).toNat],_,rfl,hH,by rw[if_pos (.inl (by omega))];rfl,by simp⟩
    ·have bZ:(acc !=[])=true:=by simpa using hne
     refine zQ 28 ?_;refine qi hH at1 fun Pp K9=>?_;refine zQ 1 ?_;refine EvO.go (d:=.str [UInt8.ofNat ((g.1:Nat):Int).toNat]) (st1:=_) rfl rfl (by show some (D.str (Utf8.encode (bm g)).data.toList,_)=_;rw[I0]) (put_T rfl _) ?_;refine EvO.JA (x:=acc) (y:=[UInt8.ofNat ((g.1:Nat):Int).toNat]) rfl rfl (ev rfl) (ev rfl) (by simp<;>omega) ?_;refine zQ 2 ?_;exact⟨acc++[UInt8.ofNat ((g.1:Nat):Int).toNat],_,rfl,hH,by rw[if_pos (.inr hne)],by simp;exact RO⟩
   ·rintro fr st ⟨Dc,tmp,hfr,hH,L7,L5⟩;rw[hfr];clear hfr;generalize gz fr=ee;clear fr;rw[←L7] at rU RZ;refine zQ 9 ?_;refine EvO.fM (z:=((s.i+(j+1):Nat):Int)) rfl (ev rfl) (ev rfl) (by(simp only[List.length_reverse]);rw[wrap_i64 (by omega) (by omega)]<;>omega) (put_T rfl _) ?_;refine zQ 2 ?_;refine qT hH at0 fun st hH=>?_;dsimp only[u2,u1,u3,u4,setMany,u5,u6,D.cells,Nat.reduceAdd,aC,ai,ah] at hH;refine zQ 1 ?_;exact⟨mm-1,by omega,⟨j+1,Dc,rfl,hH,by omega,L5,(by rw[show s.i+(j+1)=s.i+j+1 by omega];exact Prod.ext rU (by simp only;omega)),by omega⟩⟩
  ·rw[if_neg (fun h=>hdg (qJ.2 h))] at hd
   have hcc:(decide (48≤bm g) &&decide (bm g≤57))=false:=by
    rw[Bool.and_eq_false_iff,decide_eq_false_iff_not,decide_eq_false_iff_not];omega
   refine EvC.cond (v:=false) (by dsimp only[Fr.ev,Fr.get,nth,V.look];exact htmp.trans (congrArg D.bool hcc)) (fun h=>by cases h) (fun _=>?_);refine zQ 1 ?_;have h5:=congrArg Prod.fst hd;have h6:=congrArg Prod.snd hd;simp only at h5 h6;have h7:A.2=j:=by omega
   rw[←h5,h7];refine zQ 7 ?_;refine EvC.ret ⟨rx,_,_,_,rfl,ab (rfl),?_⟩;exact⟨rfl,a_.af aU hH⟩
 ·have bC:decide (((s.i+j:Nat):Int)<(gs.length:Nat))=false:=by rw[decide_eq_false];simp;omega
  have KM:dD gs (s.i+j)=[]:=by unfold dD;exact List.drop_eq_nil_of_le (by simp;omega)
  rw[KM] at hd;have hd:(acc,0)=(A.1,A.2-j):=hd;refine zQ 2 ?_;refine EvC.cutT 41 (.bool false) [] ?_ (fun ff tmp htmp=>?_)
  ·refine zQ 8 ?_;refine qn ?_ (hR:=hH.rows at1);simp only[List.length_map];refine zQ 27 ?_;refine EvO.nil (leafT ?_ ?_)
   ·dsimp only[setW,List.foldl,nth,u2,u1]
    all_goals(first|rfl|simp)
   ·exact zS
    all_goals(first|rfl|(simp[bC];done)|(simp_all;done)|(simp[bC];omega)|(simp_all;omega))
  refine zG ?_;refine zQ 2 ?_;have h5:=congrArg Prod.fst hd;have h6:=congrArg Prod.snd hd;simp only at h5 h6;have h7:A.2=j:=by omega
  rw[←h5,h7];refine zQ 7 ?_;refine EvC.ret ⟨rx,_,_,_,rfl,ab (rfl),?_⟩;exact⟨rfl,a_.af aU hH⟩
def GU (gs:List (Nat×Nat)) (R:PR (List Rg×Bool)) (s s':et) (a:List Rg):Prop:=
 s'.g=s.g∧s.i≤s'.i∧s'.i≤gs.length∧a.length≤4∧(dN R s'.e∨s'.e=0∧s.i<s'.i∧a≠[]∧R=.ok (a,eL a) s'.i)
theorem lZ {N k:Nat} {S s0:St} {H:List bG} {gs:List (Nat×Nat)} {bB:List Int} {rD aD:D} {s:et} (hok:ow gs bB) (he:s.e=0) {f:Nat} (hf:s.i=f+1) (hi:s.i≤gs.length) (v:Int) (hH:Has N S s0 (.box k (.mem 0 false (aC rD aD s))::.lst rD 1 ((gs.map bm).map ai)::.lst aD 1 (bB.map ah)::H)):
  ∃d ae,Ev pv 61 [.ptr k 0 0,.int .i64 v] s0 d ae∧∃(a:List Rg) (s':et),d=aA a∧GU gs (ir gs f) s s' a∧Has N S ae (.box k (.mem 0 false (aC rD aD s'))::.lst rD 1 ((gs.map bm).map ai)::.lst aD 1 (bB.map ah)::H):=by
 have kW:=hok.gl;have hal:=hok.al;refine Ev.gT rfl MP rfl rfl rfl ?_;refine zE ?_;have a_:=hH;have hH:=hH.aY;have aU:(enterSt .rw s0).bs=s0.bs:=rfl;generalize enterSt .rw s0=S2 at*
 obtain⟨R,hR⟩:∃R,ir gs f=R:=⟨_,rfl⟩
 rw[hR];unfold ir at hR;rw[←hf,show f+2=s.i+1 by omega] at hR
 have Cg:∀(st:St) (l:List Rg) (kk n:Nat) (s':et),S2.bs.length≤kk→Has N S2 st (.lst (.win kk 0 0 n 2) 2 (l.map ag)::.box k (.mem 0 false (aC rD aD s'))::.lst rD 1 ((gs.map bm).map ai)::.lst aD 1 (bB.map ah)::H)→∃d ae,b8 .rw false s0 st (.win kk 0 0 n 2)=some (d,ae)∧d=aA l∧Has N S ae (.box k (.mem 0 false (aC rD aD s'))::.lst rD 1 ((gs.map bm).map ai)::.lst aD 1 (bB.map ah)::H):=by
  intro st l kk n s' hk hH;have hfz:=gU hH at0 (L:=s0.bs.length) (n:=16) (fun k hk=>by simp only[D.ref] at hk;rw[←aU];omega) (by decide);exact⟨_,_,ab hfz,rfl,a_.af aU (hH.drop 1)⟩
 have gL:∀(s3:et) (w:Nat) (v:Int),s3.e=0→s3.g=s.g→s.i≤s3.i→s3.i≤gs.length→R=.er 4 w→GU gs R s (fh s3 4 v) []:=by
  intro s3 w v h1 h2 h3 h4 hv;have h5:=gj s3 4 v;exact⟨by omega,by omega,by omega,by simp,.inl ⟨by rw[cS h1];decide,w,by rw[cS h1];exact hv⟩⟩
 refine zQ 15 ?_;refine qn ?_ (hR:=hH.rows at1);simp only[List.length_map];refine zQ 2 ?_;refine zP (fun h0=>?_) fun h0=>?_
 ·rw[List.getElem?_eq_none (by omega)] at hR;refine zQ 4 ?_;obtain⟨_,st,hev,rfl,hH⟩:=bc (s:=s) 4 v hH;refine qv hev ?_;refine zQ 5 ?_;refine EvC.ret ⟨rx,_,_,_,rfl,ab (rfl),?_⟩;exact⟨[],_,rfl,gL s _ v he rfl (Nat.le_refl _) hi hR.symm,a_.af aU hH⟩
 obtain⟨g,hg⟩:∃g,gs[s.i]?=some g:=⟨gs[s.i]'(by omega),List.getElem?_eq_getElem _⟩
 have hr1:=ln hg;have hlt:=lt_get hg;rw[hg] at hR;simp only at hR;rw[x6 hg] at hR;refine zQ 11 ?_;refine qi hH at1 fun p27 hp27=>?_;refine zQ 9 ?_;refine zI (fun hb=>?_) fun hb=>?_
 ·rw[if_pos (by simpa using hb)] at hR;refine zQ 4 ?_;obtain⟨_,st,hev,⟨v2,rfl⟩,hH⟩:=gu (s:=s) (by omega) hH;refine qv hev ?_;obtain⟨_,st,hev,rfl,hH⟩:=bc (s:=s) 4 v2 hH;refine qv hev ?_;refine zQ 5 ?_;refine EvC.ret ⟨rx,_,_,_,rfl,ab (rfl),?_⟩;exact⟨[],_,rfl,gL s _ v2 he rfl (Nat.le_refl _) hi hR.symm,a_.af aU hH⟩
 have D8:=gh hb;rw[if_neg (by simpa using hb),←D8] at hR;refine zQ 10 ?_;refine qT hH at0 fun st hH=>?_;dsimp only[u2,u1,u3,u4,setMany,u5,u6,D.cells,Nat.reduceAdd,aC,ai,ah,ag] at hH;refine zQ 1 ?_;have hH:Has N S2 st (.box k (.mem 0 false (aC rD aD {s with i:=s.i+1}))::.lst rD 1 ((gs.map bm).map ai)::.lst aD 1 (bB.map ah)::H):=hH
 have cC:∀(a:List Rg) (b:Bool),R=.ok (a,b) (s.i+1)→b=eL a→a.length≤4→a≠[]→GU gs R s {s with i:=s.i+1} a:=fun a b h0 h1 h2 h3=>⟨rfl,by show s.i≤s.i+1;omega,by show s.i+1≤_;omega,h2,.inr ⟨he,by show s.i<s.i+1;omega,h3,by rw[h0,h1]⟩⟩
 refine zQ 11 ?_;refine zI (fun q1=>?_) fun q1=>?_
 ·rw[if_pos q1,iy (by unfold bT;omega)] at hR;refine zQ 2 ?_;refine EvO.c9 (qs:=[(0,_),(1,_)]) rfl rfl rfl rfl ⟨rfl,(ev rfl),(by rfl),rfl,(ev rfl),(by rfl),trivial⟩ (by intro q hq;simp only[List.mem_cons,List.not_mem_nil,or_false] at hq;rcases hq with rfl|rfl<;>exact⟨rfl,by exact Nat.le_of_ble_eq_true rfl⟩) (by show List.foldl _ [_,_] _=_;dsimp only[List.foldl_cons,List.foldl_nil,u2,u1]<;>rfl) (put_T rfl _) ?_;refine qh (s:=2) (vs:=[_]) hH fun k46 st IH hH=>?_;dsimp only[u2,u1,u3,u4,setMany,u5,u6,D.cells,Nat.reduceAdd,aC,ai,ah,ag] at hH;refine zQ 2 ?_;obtain⟨d',ae,ju,n3,hH⟩:=Cg _ [(10,10)] k46 1 {s with i:=s.i+1} IH hH;exact EvC.ret ⟨rx,_,d',ae,rfl,ju,_,_,n3,cC _ _ hR.symm rfl (by simp) (by simp),hH⟩
 rw[if_neg q1] at hR;refine zQ 5 ?_;refine zI (fun q2=>?_) fun q2=>?_
 ·rw[if_pos q2,iy (by unfold bT;omega)] at hR;refine zQ 2 ?_;refine EvO.c9 (qs:=[(0,_),(1,_)]) rfl rfl rfl rfl ⟨rfl,(ev rfl),(by rfl),rfl,(ev rfl),(by rfl),trivial⟩ (by intro q hq;simp only[List.mem_cons,List.not_mem_nil,or_false] at hq;rcases hq with rfl|rfl<;>exact⟨rfl,by exact Nat.le_of_ble_eq_true rfl⟩) (by show List.foldl _ [_,_] _=_;dsimp only[List.foldl_cons,List.foldl_nil,u2,u1]<;>rfl) (put_T rfl _) ?_;refine qh (s:=2) (vs:=[_]) hH fun k50 st Ly hH=>?_;dsimp only[u2,u1,u3,u4,setMany,u5,u6,D.cells,Nat.reduceAdd,aC,ai,ah,ag] at hH;refine zQ 2 ?_;obtain⟨d',ae,ju,n3,hH⟩:=Cg _ [(9,9)] k50 1 {s with i:=s.i+1} Ly hH;exact EvC.ret ⟨rx,_,d',ae,rfl,ju,_,_,n3,cC _ _ hR.symm rfl (by simp) (by simp),hH⟩
 rw[if_neg q2] at hR;refine zQ 5 ?_;refine zI (fun q3=>?_) fun q3=>?_
 ·rw[if_pos q3,iy (by unfold bT;omega)] at hR;refine zQ 2 ?_;refine EvO.c9 (qs:=[(0,_),(1,_)]) rfl rfl rfl rfl ⟨rfl,(ev rfl),(by rfl),rfl,(ev rfl),(by rfl),trivial⟩ (by intro q hq;simp only[List.mem_cons,List.not_mem_nil,or_false] at hq;rcases hq with rfl|rfl<;>exact⟨rfl,by exact Nat.le_of_ble_eq_true rfl⟩) (by show List.foldl _ [_,_] _=_;dsimp only[List.foldl_cons,List.foldl_nil,u2,u1]<;>rfl) (put_T rfl _) ?_;refine qh (s:=2) (vs:=[_]) hH fun k54 st Cr hH=>?_;dsimp only[u2,u1,u3,u4,setMany,u5,u6,D.cells,Nat.reduceAdd,aC,ai,ah,ag] at hH;refine zQ 2 ?_;obtain⟨d',ae,ju,n3,hH⟩:=Cg _ [(13,13)] k54 1 {s with i:=s.i+1} Cr hH;exact EvC.ret ⟨rx,_,d',ae,rfl,ju,_,_,n3,cC _ _ hR.symm rfl (by simp) (by simp),hH⟩
 rw[if_neg q3] at hR;refine zQ 5 ?_;refine zI (fun q4=>?_) fun q4=>?_
 ·rw[if_pos q4,DZ] at hR;refine zQ 2 ?_;refine EvO.c9 (qs:=[(0,_),(1,_)]) rfl rfl rfl rfl ⟨rfl,(ev rfl),(by rfl),rfl,(ev rfl),(by rfl),trivial⟩ (by intro q hq;simp only[List.mem_cons,List.not_mem_nil,or_false] at hq;rcases hq with rfl|rfl<;>exact⟨rfl,by exact Nat.le_of_ble_eq_true rfl⟩) (by show List.foldl _ [_,_] _=_;dsimp only[List.foldl_cons,List.foldl_nil,u2,u1]<;>rfl) (put_T rfl _) ?_;refine qh (s:=2) (vs:=[_]) hH fun k58 st Lw hH=>?_;dsimp only[u2,u1,u3,u4,setMany,u5,u6,D.cells,Nat.reduceAdd,aC,ai,ah,ag] at hH;refine zQ 2 ?_;obtain⟨d',ae,ju,n3,hH⟩:=Cg _ [(48,57)] k58 1 {s with i:=s.i+1} Lw hH;exact EvC.ret ⟨rx,_,d',ae,rfl,ju,_,_,n3,cC _ _ hR.symm rfl (by simp) (by simp),hH⟩
 rw[if_neg q4] at hR;refine zQ 5 ?_;refine zI (fun q5=>?_) fun q5=>?_
 ·rw[if_pos q5,yJ] at hR;refine zQ 2 ?_;refine EvO.c9 (qs:=[(0,_),(1,_)]) rfl rfl rfl rfl ⟨rfl,(ev rfl),(by rfl),rfl,(ev rfl),(by rfl),trivial⟩ (by intro q hq;simp only[List.mem_cons,List.not_mem_nil,or_false] at hq;rcases hq with rfl|rfl<;>exact⟨rfl,by exact Nat.le_of_ble_eq_true rfl⟩) (by show List.foldl _ [_,_] _=_;dsimp only[List.foldl_cons,List.foldl_nil,u2,u1]<;>rfl) (put_T rfl _) ?_;refine EvO.c9 (qs:=[(0,_),(1,_)]) rfl rfl rfl rfl ⟨rfl,(ev rfl),(by rfl),rfl,(ev rfl),(by rfl),trivial⟩ (by intro q hq;simp only[List.mem_cons,List.not_mem_nil,or_false] at hq;rcases hq with rfl|rfl<;>exact⟨rfl,by exact Nat.le_of_ble_eq_true rfl⟩) (by show List.foldl _ [_,_] _=_;dsimp only[List.foldl_cons,List.foldl_nil,u2,u1]<;>rfl) (put_T rfl _) ?_;refine EvO.c9 (qs:=[(0,_),(1,_)]) rfl rfl rfl rfl ⟨rfl,(ev rfl),(by rfl),rfl,(ev rfl),(by rfl),trivial⟩ (by intro q hq;simp only[List.mem_cons,List.not_mem_nil,or_false] at hq;rcases hq with rfl|rfl<;>exact⟨rfl,by exact Nat.le_of_ble_eq_true rfl⟩) (by show List.foldl _ [_,_] _=_;dsimp only[List.foldl_cons,List.foldl_nil,u2,u1]<;>rfl) (put_T rfl _) ?_;refine qh (s:=2) (vs:=[_,_,_]) hH fun k64 st Q9 hH=>?_;dsimp only[u2,u1,u3,u4,setMany,u5,u6,D.cells,Nat.reduceAdd,aC,ai,ah,ag] at hH;have hev:=jI (l:=[(9,10),(13,13),(32,32)]) (hH.rows at0) (by simp);rw[yJ] at hev;refine qv hev ?_;refine zQ 2 ?_;refine EvC.ret ⟨rx,_,_,_,rfl,ab (rfl),?_⟩;exact⟨_,_,rfl,cC _ _ hR.symm rfl (by simp) (by simp),a_.af aU (hH.drop 1)⟩
 rw[if_neg q5] at hR;refine zQ 5 ?_;refine zI (fun q6=>?_) fun q6=>?_
 ·rw[if_pos q6,yI] at hR;refine zQ 2 ?_;refine EvO.c9 (qs:=[(0,_),(1,_)]) rfl rfl rfl rfl ⟨rfl,(ev rfl),(by rfl),rfl,(ev rfl),(by rfl),trivial⟩ (by intro q hq;simp only[List.mem_cons,List.not_mem_nil,or_false] at hq;rcases hq with rfl|rfl<;>exact⟨rfl,by exact Nat.le_of_ble_eq_true rfl⟩) (by show List.foldl _ [_,_] _=_;dsimp only[List.foldl_cons,List.foldl_nil,u2,u1]<;>rfl) (put_T rfl _) ?_;refine EvO.c9 (qs:=[(0,_),(1,_)]) rfl rfl rfl rfl ⟨rfl,(ev rfl),(by rfl),rfl,(ev rfl),(by rfl),trivial⟩ (by intro q hq;simp only[List.mem_cons,List.not_mem_nil,or_false] at hq;rcases hq with rfl|rfl<;>exact⟨rfl,by exact Nat.le_of_ble_eq_true rfl⟩) (by show List.foldl _ [_,_] _=_;dsimp only[List.foldl_cons,List.foldl_nil,u2,u1]<;>rfl) (put_T rfl _) ?_;refine EvO.c9 (qs:=[(0,_),(1,_)]) rfl rfl rfl rfl ⟨rfl,(ev rfl),(by rfl),rfl,(ev rfl),(by rfl),trivial⟩ (by intro q hq;simp only[List.mem_cons,List.not_mem_nil,or_false] at hq;rcases hq with rfl|rfl<;>exact⟨rfl,by exact Nat.le_of_ble_eq_true rfl⟩) (by show List.foldl _ [_,_] _=_;dsimp only[List.foldl_cons,List.foldl_nil,u2,u1]<;>rfl) (put_T rfl _) ?_;refine EvO.c9 (qs:=[(0,_),(1,_)]) rfl rfl rfl rfl ⟨rfl,(ev rfl),(by rfl),rfl,(ev rfl),(by rfl),trivial⟩ (by intro q hq;simp only[List.mem_cons,List.not_mem_nil,or_false] at hq;rcases hq with rfl|rfl<;>exact⟨rfl,by exact Nat.le_of_ble_eq_true rfl⟩) (by show List.foldl _ [_,_] _=_;dsimp only[List.foldl_cons,List.foldl_nil,u2,u1]<;>rfl) (put_T rfl _) ?_;refine qh (s:=2) (vs:=[_,_,_,_]) hH fun k72 st Q6 hH=>?_;dsimp only[u2,u1,u3,u4,setMany,u5,u6,D.cells,Nat.reduceAdd,aC,ai,ah,ag] at hH;have hev:=jI (l:=[(48,57),(65,90),(95,95),(97,122)]) (hH.rows at0) (by simp);rw[yI] at hev;refine qv hev ?_;refine zQ 2 ?_;refine EvC.ret ⟨rx,_,_,_,rfl,ab (rfl),?_⟩;exact⟨_,_,rfl,cC _ _ hR.symm rfl (by simp) (by simp),a_.af aU (hH.drop 1)⟩
 rw[if_neg q6] at hR;refine zQ 5 ?_;refine qv (uI _) ?_;refine zQ 2 ?_;refine EvC.cond (by rfl) (fun q7=>?_) (fun q7=>?_)<;>try simp only[decide_eq_true_eq,decide_eq_false_iff_not,Bool.not_eq_true',Bool.not_eq_false'] at q7
 ·rw[if_neg q7] at hR;refine zQ 4 ?_;obtain⟨_,st,hev,rfl,hH⟩:=bc (s:={s with i:=s.i+1}) 4 v hH;refine qv hev ?_;refine zQ 5 ?_;refine EvC.ret ⟨rx,_,_,_,rfl,ab (rfl),?_⟩;exact⟨[],_,rfl,gL {s with i:=s.i+1} _ v he rfl (by show s.i≤s.i+1;omega) (by show s.i+1≤_;omega) hR.symm,a_.af aU hH⟩
 ·rw[if_pos q7,iy (by unfold bT;omega)] at hR;refine zQ 5 ?_;refine EvO.c9 (qs:=[(0,_),(1,_)]) rfl rfl rfl rfl ⟨rfl,(ev rfl),(by rfl),rfl,(ev rfl),(by rfl),trivial⟩ (by intro q hq;simp only[List.mem_cons,List.not_mem_nil,or_false] at hq;rcases hq with rfl|rfl<;>exact⟨rfl,by exact Nat.le_of_ble_eq_true rfl⟩) (by show List.foldl _ [_,_] _=_;dsimp only[List.foldl_cons,List.foldl_nil,u2,u1]<;>rfl) (put_T rfl _) ?_;refine qh (s:=2) (vs:=[_]) hH fun k83 st IF hH=>?_;dsimp only[u2,u1,u3,u4,setMany,u5,u6,D.cells,Nat.reduceAdd,aC,ai,ah,ag] at hH;refine zQ 2 ?_;obtain⟨d',ae,ju,n3,hH⟩:=Cg _ [(bm g,bm g)] k83 1 {s with i:=s.i+1} IF hH;exact EvC.ret ⟨rx,_,d',ae,rfl,ju,_,_,n3,cC _ _ hR.symm (by simp[eL]) (by simp) (by simp),hH⟩
def E8 (gs:List (Nat×Nat)) (s s':et) (a:List Rg):Prop:=
 s'.g=s.g∧s.i≤s'.i∧s'.i≤gs.length∧a.length≤4∧(dN (dV gs s.i) s'.e∨(s'.e=4∧dV gs s.i=.ok none s.i)∨s'.e=0∧s.i<s'.i∧a≠[]∧dV gs s.i=.ok (some (a,eL a)) s'.i)
theorem pg {N k:Nat} {S s0:St} {H:List bG} {gs:List (Nat×Nat)} {bB:List Int} {rD aD:D} {s:et} (hok:ow gs bB) (he:s.e=0) (hi:s.i<gs.length) (Mg:bJ gs s.i 93=false) (hH:Has N S s0 (.box k (.mem 0 false (aC rD aD s))::.lst rD 1 ((gs.map bm).map ai)::.lst aD 1 (bB.map ah)::H)):
  ∃d ae,Ev pv 72 [.ptr k 0 0] s0 d ae∧∃(a:List Rg) (v:Int) (s':et),d=.tup [aA a,.int .i64 v]∧E8 gs s s' a∧Has N S ae (.box k (.mem 0 false (aC rD aD s'))::.lst rD 1 ((gs.map bm).map ai)::.lst aD 1 (bB.map ah)::H):=by
 have kW:=hok.gl;have hal:=hok.al;refine Ev.gT rfl ME rfl rfl rfl ?_;refine zE ?_;have a_:=hH;have hH:=hH.aY;have aU:(enterSt .rw s0).bs=s0.bs:=rfl;generalize enterSt .rw s0=S2 at*
 obtain⟨g,hg⟩:∃g,gs[s.i]?=some g:=⟨gs[s.i]'(by omega),List.getElem?_eq_getElem _⟩
 have hr1:=ln hg;rw[nU hg (by decide) (by decide)] at Mg;have Mg:¬bm g=93:=by simpa using Mg
 have hv:dV gs s.i=dV gs s.i:=rfl
 conv at hv=>rhs;unfold dV;rw[hg];simp only;rw[x6 hg]
 have gL:∀(v:Int),(dN (dV gs s.i) 4∨dV gs s.i=.ok none s.i)→E8 gs s (fh {s with i:=s.i+1} 4 v) []:=by
  intro v h;have h5:=gj {s with i:=s.i+1} 4 v;have h6:(fh {s with i:=s.i+1} 4 v).e=4:=cS he;obtain⟨h7,h8⟩:=h5;simp only at h7 h8;refine⟨h8,by omega,by omega,by simp,?_⟩
  rcases h with h|h
  ·exact .inl (by rw[h6];exact h)
  ·exact .inr (.inl ⟨h6,h⟩)
 refine zQ 8 ?_;obtain⟨_,st,hev,⟨v,rfl⟩,hH⟩:=gu (s:=s) (by omega) hH;refine qv hev ?_;refine zQ 12 ?_;refine qi hH at1 fun Kg F2=>?_;refine zQ 12 ?_;refine qT hH at0 fun st hH=>?_;dsimp only[u2,u1,u3,u4,setMany,u5,u6,D.cells,Nat.reduceAdd,aC,ai,ah,ag] at hH;refine zQ 1 ?_;have hH:Has N S2 st (.box k (.mem 0 false (aC rD aD {s with i:=s.i+1}))::.lst rD 1 ((gs.map bm).map ai)::.lst aD 1 (bB.map ah)::H):=hH;refine zQ 11 ?_;refine zI (fun q1=>?_) fun q1=>?_
 ·have D8:=gh (g:=g) (by omega);rw[decide_eq_false (by omega),if_neg (by simp),if_pos (by omega)] at hv;refine zQ 4 ?_;obtain⟨_,st,hev,a,s',rfl,⟨e1,e2,e3,e4,e5⟩,hH⟩:=lZ (s:={s with i:=s.i+1}) hok he (f:=s.i) rfl (by show s.i+1≤_;omega) v hH;refine qv hev ?_;refine zQ 4 ?_;refine EvC.ret ⟨rx,_,_,_,rfl,ab (rfl),?_⟩;simp only at e1 e2;refine⟨_,_,s',rfl,⟨e1,by omega,e3,e4,?_⟩,a_.af aU hH⟩
  rcases e5 with e5|⟨e5,e6,e7,e8⟩
  ·exact .inl (e5.map fun e w h=>by rw[hv,h])
  ·exact .inr (.inr ⟨e5,by omega,e7,by rw[hv,e8]⟩)
 refine zQ 6 ?_
 by_cases wx:bm g=91
 ·have D8:=gh (g:=g) (by omega);rw[decide_eq_false (by omega),if_neg (by simp),if_neg (by omega),if_pos (.inl (by omega))] at hv;refine qD rfl (by simp[wx]) ?_;refine zQ 1 ?_;refine qD rfl (by simp[wx]) ?_;refine zQ 4 ?_;obtain⟨_,st,hev,rfl,hH⟩:=bc (s:={s with i:=s.i+1}) 4 v hH;refine qv hev ?_;refine zQ 7 ?_;refine EvC.ret ⟨rx,_,_,_,rfl,ab (rfl),?_⟩;exact⟨[],_,_,rfl,gL v (.inr hv),a_.af aU hH⟩
 refine qE rfl (by simp[wx]) ?_;refine zQ 5 ?_
 by_cases EE:bm g=45
 ·have D8:=gh (g:=g) (by omega);rw[decide_eq_false (by omega),if_neg (by simp),if_neg (by omega),if_pos (.inr (.inr (by omega)))] at hv;refine qD rfl (by simp[EE]) ?_;refine zQ 1 ?_;refine qD rfl (by simp[EE]) ?_;refine zQ 4 ?_;obtain⟨_,st,hev,rfl,hH⟩:=bc (s:={s with i:=s.i+1}) 4 v hH;refine qv hev ?_;refine zQ 7 ?_;refine EvC.ret ⟨rx,_,_,_,rfl,ab (rfl),?_⟩;exact⟨[],_,_,rfl,gL v (.inr hv),a_.af aU hH⟩
 refine qE rfl (by simp[EE]) ?_;refine zQ 4 ?_
 by_cases Ic:bm g=-1
 ·rw[decide_eq_true Ic,if_pos rfl] at hv;refine qD rfl (by simp[Ic]) ?_;refine zQ 4 ?_;obtain⟨_,st,hev,rfl,hH⟩:=bc (s:={s with i:=s.i+1}) 4 v hH;refine qv hev ?_;refine zQ 7 ?_;refine EvC.ret ⟨rx,_,_,_,rfl,ab (rfl),?_⟩;exact⟨[],_,_,rfl,gL v (.inl ⟨by decide,_,hv⟩),a_.af aU hH⟩
 have D8:=gh Ic;rw[decide_eq_false Ic,if_neg (by simp),if_neg (by omega),if_neg (by omega)] at hv;refine qE rfl (by simp[Ic]) ?_;refine zQ 5 ?_;refine EvO.c9 (qs:=[(0,_),(1,_)]) rfl rfl rfl rfl ⟨rfl,(ev rfl),(by rfl),rfl,(ev rfl),(by rfl),trivial⟩ (by intro q hq;simp only[List.mem_cons,List.not_mem_nil,or_false] at hq;rcases hq with rfl|rfl<;>exact⟨rfl,by exact Nat.le_of_ble_eq_true rfl⟩) (by show List.foldl _ [_,_] _=_;dsimp only[List.foldl_cons,List.foldl_nil,u2,u1]<;>rfl) (put_T rfl _) ?_;refine qh (s:=2) (vs:=[_]) hH fun k43 st LB hH=>?_;dsimp only[u2,u1,u3,u4,setMany,u5,u6,D.cells,Nat.reduceAdd,aC,ai,ah,ag] at hH;refine zQ 4 ?_;have hH:Has N S2 st (.lst (.win k43 0 0 1 2) 2 (([(bm g,bm g)]:List Rg).map ag)::.box k (.mem 0 false (aC rD aD {s with i:=s.i+1}))::.lst rD 1 ((gs.map bm).map ai)::.lst aD 1 (bB.map ah)::H):=hH;have hfz:=gU hH at0 (L:=s0.bs.length) (n:=15) (fun k hk=>by simp only[D.ref] at hk;rw[←aU];omega) (by decide)
 have Gf:aO st s0.bs.length true 16 (lQ [.win k43 0 0 1 2,.int .i64 v])=some (.tup [aA [(bm g,bm g)],.int .i64 v]):=by
  show(eG (aO st s0.bs.length true 15) [.win k43 0 0 1 2,.int .i64 v]).map D.tup=_;simp only[eG,rW,hfz];rfl
 refine EvC.ret ⟨rx,_,_,_,rfl,ab Gf,⟨_,_,{s with i:=s.i+1},rfl,⟨rfl,?_,?_,by simp,.inr (.inr ⟨he,?_,by simp,?_⟩)⟩,a_.af aU (hH.drop 1)⟩⟩
 ·show s.i≤s.i+1;omega
 ·show s.i+1≤_;omega
 ·show s.i<s.i+1;omega
 ·rw[hv,D8];simp[eL]
def bF (fr:Go.V.Fr) (k:Nat):Go.V.D:=Go.V.nth .junk fr.loc k
def Di (gs:List (Nat×Nat)) (R:PR (List Rg)) (s s':et) (a:List Rg):Prop:=
 s'.g=s.g∧s.i≤s'.i∧s'.i≤gs.length+1∧a.length≤10000∧(dN R s'.e∨s'.e=0∧s.i<s'.i∧s'.i≤gs.length∧R=.ok a s'.i)
theorem uK {N k:Nat} {S s0:St} {H:List bG} {gs:List (Nat×Nat)} {bB:List Int} {rD aD:D} {s:et} (hok:ow gs bB) (he:s.e=0) {f:Nat} (hf:s.i=f+1) (hi:s.i≤gs.length) (v:Int) (hH:Has N S s0 (.box k (.mem 0 false (aC rD aD s))::.lst rD 1 ((gs.map bm).map ai)::.lst aD 1 (bB.map ah)::H)):
  ∃d ae,Ev pv 59 [.ptr k 0 0,.int .i64 v] s0 d ae∧∃(a:List Rg) (s':et),d=aA a∧Di gs (nE gs f) s s' a∧Has N S ae (.box k (.mem 0 false (aC rD aD s'))::.lst rD 1 ((gs.map bm).map ai)::.lst aD 1 (bB.map ah)::H):=by
 have kW:=hok.gl;have hal:=hok.al;refine Ev.gT rfl MR rfl rfl rfl ?_;refine zE ?_;have a_:=hH;have hH:=hH.aY;have aU:(enterSt .rw s0).bs=s0.bs:=rfl;generalize enterSt .rw s0=S2 at*
 have tY:nE gs f=match fK gs f (gs.length+1) (if bJ gs s.i 94=true then s.i+1 else s.i) [] true with
  | .er e w=>.er e w
  | .ok l k=>.ok (if bJ gs s.i 94=true then hU l else bp l) (k+1):=by
  unfold nE;rw[←hf,show f+2=s.i+1 by omega]
  cases fK gs f (gs.length+1) (if bJ gs s.i 94=true then s.i+1 else s.i) [] true with
  |er e w=>rfl
  |ok l k=>simp only[z_]
 obtain⟨C0,t'⟩:∃C0,fK gs f (gs.length+1) (if bJ gs s.i 94=true then s.i+1 else s.i) [] true=C0:=⟨_,rfl⟩
 rw[t'] at tY;refine zQ 10 ?_;refine EvC.fF (fun fr st=>∃(nt:Bool) (s1:et) (tmp:List (Nat×D)),fr=⟨11,[.ptr k 0 0,.int .i64 v,bF fr 2,bF fr 3,bF fr 4,.bool nt,bF fr 6,bF fr 7,bF fr 8,bF fr 9,bF fr 10],tmp⟩∧Has N S2 st (.box k (.mem 0 false (aC rD aD s1))::.lst rD 1 ((gs.map bm).map ai)::.lst aD 1 (bB.map ah)::H)∧(s1.g=s.g)∧(s1.e=0)∧(s1.i=if nt=true then s.i+1 else s.i)∧(nt=bJ gs s.i 94)∧(s1.i≤gs.length)) ?_ ?_
 ·refine zQ 2 ?_;obtain⟨_,st,hev,rfl,hH⟩:=bz (s:=s) (by omega) (by omega) 94 (by decide) (by decide) hH;refine qv hev ?_;refine zQ 1 ?_
  cases hb:bJ gs s.i 94 with
  |true=>
   have hlt:=cE hb;refine zQ 13 ?_;refine qT hH at0 fun st hH=>?_;dsimp only[u2,u1,u3,u4,setMany,u5,u6,D.cells,Nat.reduceAdd,aC,ai,ah,ag] at hH;refine zQ 1 ?_;exact⟨true,{s with i:=s.i+1},_,rfl,hH,rfl,he,rfl,rfl,by show s.i+1≤_;omega⟩
  |false=>
   refine zQ 2 ?_;exact⟨false,s,_,rfl,hH,rfl,he,rfl,rfl,hi⟩
 ·rintro fr st ⟨nt,s1,tmp,hfr,hH,h1,h2,h3,h4,h5⟩;rw[hfr];clear hfr;generalize bF fr=ee;clear fr;rw[←h4] at tY t';rw[←h3] at t';refine zQ 8 ?_
  have hH:Has N S2 st (.box k (.mem 0 false (aC rD aD s1))::.lst rD 1 ((gs.map bm).map ai)::.lst aD 1 (bB.map ah)::.lst .nul 2 (([]:List Rg).map ag)::H):=((hH.nulE 2).front at3|>.front at3|>.front at3)
  refine qq<|EvC.merge (fun fr st=>∃(s2:et) (ld:D) (lr:List Rg) (an:Bool) (tmp:List (Nat×D)),fr=⟨11,[.ptr k 0 0,.int .i64 v,bF fr 2,bF fr 3,bF fr 4,.bool nt,ld,.bool an,bF fr 8,bF fr 9,bF fr 10],tmp⟩∧Has N S2 st (.box k (.mem 0 false (aC rD aD s2))::.lst rD 1 ((gs.map bm).map ai)::.lst aD 1 (bB.map ah)::.lst ld 2 (lr.map ag)::H)∧(s2.g=s.g)∧(s.i≤s2.i)∧(s2.i≤gs.length)∧(lr.length≤600)∧(dN C0 s2.e∨(s2.e=0∧an=true∧bJ gs s2.i 93=true∧C0=.ok lr s2.i)∨(s2.e=0∧(an=false∨bJ gs s2.i 93=false)∧∃w,C0=.er 4 w))) ?_ ?_
  ·refine zQ 1 ?_;refine EvC.loop (fun mm fr st=>∃(s2:et) (ld:D) (lr:List Rg) (an:Bool),fr.clean=⟨11,[.ptr k 0 0,.int .i64 v,bF fr 2,bF fr 3,bF fr 4,.bool nt,ld,.bool an,bF fr 8,bF fr 9,bF fr 10],[]⟩∧Has N S2 st (.box k (.mem 0 false (aC rD aD s2))::.lst rD 1 ((gs.map bm).map ai)::.lst aD 1 (bB.map ah)::.lst ld 2 (lr.map ag)::H)∧(s2.g=s.g)∧(s.i≤s2.i)∧(s2.i≤gs.length)∧(lr.length≤4*s2.i+4)∧(s2.e=0→lr.length≤4*s2.i)∧(gs.length-s2.i+(if s2.e=0 then 1 else 0)≤mm)∧(dN C0 s2.e∨s2.e=0∧∃n,gs.length<n+s2.i∧C0=fK gs f n s2.i lr (!an))) (gs.length+1) ?_ ?_
   ·exact⟨s1,.nul,[],false,rfl,hH,h1,by rw[h3];split<;>omega,h5,by simp,fun _=>by simp,by split<;>omega,.inr ⟨h2,gs.length+1,by omega,t'.symm⟩⟩
   rintro mm fr st ⟨s2,ld,lr,an,hfr,hH,k1,k2,k3,k4,k5,nr,k7⟩;rw[hfr];clear hfr;generalize bF fr=ee;clear fr
   rcases k7 with k7|⟨he1,n,tV,dE⟩
   ·have cQ:(s2.e==0)=false:=by simpa using k7.1
    refine zQ 28 ?_;exact⟨s2,ld,lr,an,_,rfl,hH,k1,k2,k3,by omega,.inl k7⟩
   rw[if_pos he1] at nr;have k5:=k5 he1;have cQ:(s2.e==0)=true:=by simpa using he1
   obtain⟨n,rfl⟩:∃m,n=m+1:=⟨n-1,by omega⟩
   unfold fK at dE
   by_cases hlt:s2.i<gs.length
   ·have aW:decide (((s2.i:Nat):Int)<((gs.length:Nat):Int))=true:=by rw[decide_eq_true_eq];omega
    refine zQ 17 ?_;refine qn ?_ (hR:=hH.rows at1) (hg:=wi cQ);simp only[List.length_map];refine zQ 4 ?_;obtain⟨_,st,hev,rfl,hH⟩:=bz (s:=s2) (by omega) (by omega) 93 (by decide) (by decide) hH;refine qv hev ?_ (hg:=wi aW);refine zQ 3 ?_
    cases hb:bJ gs s2.i 93 with
    |true=>
     rw[hb,if_pos rfl] at dE;refine zQ 2 ?_
     cases an with
     |true=>
      exact⟨s2,ld,lr,true,_,rfl,hH,k1,k2,k3,by omega,.inr (.inl ⟨he1,rfl,hb,dE⟩)⟩
     |false=>
      exact⟨s2,ld,lr,false,_,rfl,hH,k1,k2,k3,by omega,.inr (.inr ⟨he1,.inl rfl,f,dE⟩)⟩
    |false=>
     rw[hb,if_neg (by simp),if_neg (by omega)] at dE;refine zQ 7 ?_;have mg:eH gs s2.i=eH gs s2.i:=rfl
     conv at mg=>rhs;unfold eH
     refine zQ 3 ?_;obtain⟨_,st,hev,a,at_,s3,rfl,⟨i1,i2,i3,i4,i5⟩,hH⟩:=pg (s:=s2) hok he1 hlt hb hH;have wB:=(dr a).arg N S2;have Dn:=lq a;refine qv hev ?_;refine zQ 6 ?_
     have hbad:∀e w,eH gs s2.i=.er e w→e≠0→dN C0 e:=fun e w h h0=>⟨h0,w,by rw[dE,h]⟩
     rcases i5 with i5|⟨i5,i6⟩|⟨i5,i6,i7,i8⟩
     ·obtain⟨e0,w,hw⟩:=i5;rw[hw] at mg;have hE:=hbad _ _ mg e0;have cQ:(s3.e !=0)=true:=by simpa using e0
      refine zQ 19 ?_;refine EvO.happend (s:=2) hH rfl (ev rfl) (ev rfl) (by exact at3) (by exact Arg.rows (by assumption) hH) rfl rfl rfl rfl rfl rfl rfl ⟨(Nat.le_of_ble_eq_true rfl),(Nat.le_of_ble_eq_true rfl)⟩ (fun _=>(put_T rfl _)) (by simp only[List.length_map]<;>omega) (by exact .inr (by assumption)) (fun Du st hH=>?_);dsimp only[u2,u1,u3,u4,setMany,u5,u6,D.cells,Nat.reduceAdd,aC,ai,ah,ag] at hH;refine zQ 3 ?_;exact⟨mm-1,by omega,⟨s3,Du,lr++a,true,rfl,(by rw[List.map_append];exact hH),by omega,by omega,i3,by rw[List.length_append];omega,fun e=>absurd e e0,by rw[if_neg e0];omega,.inl hE⟩⟩
     ·rw[i6] at mg;have e0:s3.e≠0:=by omega
      have hE:=hbad _ _ mg (by decide);have cQ:(s3.e !=0)=true:=by simpa using e0
      refine zQ 19 ?_;refine EvO.happend (s:=2) hH rfl (ev rfl) (ev rfl) (by exact at3) (by exact Arg.rows (by assumption) hH) rfl rfl rfl rfl rfl rfl rfl ⟨(Nat.le_of_ble_eq_true rfl),(Nat.le_of_ble_eq_true rfl)⟩ (fun _=>(put_T rfl _)) (by simp only[List.length_map]<;>omega) (by exact .inr (by assumption)) (fun Du st hH=>?_);dsimp only[u2,u1,u3,u4,setMany,u5,u6,D.cells,Nat.reduceAdd,aC,ai,ah,ag] at hH;refine zQ 3 ?_;exact⟨mm-1,by omega,⟨s3,Du,lr++a,true,rfl,(by rw[List.map_append];exact hH),by omega,by omega,i3,by rw[List.length_append];omega,fun e=>absurd e e0,by rw[if_neg e0];omega,.inl (by rw[i5];exact hE)⟩⟩
     ·rw[i8] at mg;simp only at mg;have cQ:(s3.e !=0)=false:=by simpa using i5
      refine zQ 10 ?_;obtain⟨_,st,hev,rfl,hH⟩:=bz (s:=s3) (by omega) (by omega) 45 (by decide) (by decide) hH;refine qv hev ?_ (hg:=wi cQ);refine zQ 3 ?_
      cases hb2:bJ gs s3.i 45 with
      |false=>
       rw[hb2,if_neg (by simp)] at mg;rw[mg] at dE;simp only at dE;refine zQ 5 ?_;refine EvO.happend (s:=2) hH rfl (ev rfl) (ev rfl) (by exact at3) (by exact Arg.rows (by assumption) hH) rfl rfl rfl rfl rfl rfl rfl ⟨(Nat.le_of_ble_eq_true rfl),(Nat.le_of_ble_eq_true rfl)⟩ (fun _=>(put_T rfl _)) (by simp only[List.length_map]<;>omega) (by exact .inr (by assumption)) (fun Du st hH=>?_);dsimp only[u2,u1,u3,u4,setMany,u5,u6,D.cells,Nat.reduceAdd,aC,ai,ah,ag] at hH;refine zQ 3 ?_;exact⟨mm-1,by omega,⟨s3,Du,lr++a,true,rfl,(by rw[List.map_append];exact hH),by omega,by omega,i3,by rw[List.length_append];omega,fun e=>by rw[List.length_append];omega,by rw[if_pos i5];omega,.inr ⟨i5,n,by omega,dE⟩⟩⟩
      |true=>
       have Lp:=cE hb2;rw[hb2,if_pos rfl] at mg;obtain⟨q,a',rfl⟩:∃q a',a=q::a':=List.exists_cons_of_ne_nil i7;refine zQ 11 ?_;refine qT hH at0 fun st hH=>?_;dsimp only[u2,u1,u3,u4,setMany,u5,u6,D.cells,Nat.reduceAdd,aC,ai,ah,ag] at hH;refine zQ 1 ?_;have hH:Has N S2 st (.box k (.mem 0 false (aC rD aD {s3 with i:=s3.i+1}))::.lst rD 1 ((gs.map bm).map ai)::.lst aD 1 (bB.map ah)::.lst ld 2 (lr.map ag)::H):=hH
       obtain⟨s4,KK⟩:∃s4:et,({s3 with i:=s3.i+1}:et)=s4:=⟨_,rfl⟩
       have KJ:s4.g=s.g∧s4.e=0∧s4.i=s3.i+1:=by rw[←KK];exact⟨by show s3.g=s.g;omega,i5,rfl⟩
       rw[KK] at hH;clear KK;obtain⟨q1,q2,q3⟩:=KJ;rw[←q3] at mg
       have gL:∀st:St,eH gs s2.i=.er 4 s2.i→Has N S2 st (.box k (.mem 0 false (aC rD aD s4))::.lst rD 1 ((gs.map bm).map ai)::.lst aD 1 (bB.map ah)::.lst ld 2 (lr.map ag)::H)→∃d ae,Ev pv 11 [.ptr k 0 0,.int .i64 4,.int .i64 at_] st d ae∧d=.tup []∧∃s5:et,s5.g=s.g∧s.i≤s5.i∧s5.i≤gs.length∧dN C0 s5.e∧Has N S2 ae (.box k (.mem 0 false (aC rD aD s5))::.lst rD 1 ((gs.map bm).map ai)::.lst aD 1 (bB.map ah)::.lst ld 2 (lr.map ag)::H):=by
        intro st h hH;obtain⟨d,ae,hev,h6,hH⟩:=bc (s:=s4) 4 at_ hH;have h7:=gj s4 4 at_;exact⟨d,ae,hev,h6,_,by omega,by omega,by omega,by rw[cS q2];exact hbad _ _ h (by decide),hH⟩
       by_cases Ec:s4.i<gs.length
       ·rw[if_pos Ec] at mg;have bC:decide (((s4.i:Nat):Int)≥((gs.length:Nat):Int))=false:=by rw[decide_eq_false_iff_not];omega
        obtain⟨g4,Cu⟩:∃g,gs[s4.i]?=some g:=⟨gs[s4.i]'Ec,List.getElem?_eq_getElem _⟩
        have yU:∀r:Int,(r=91∨r=93∨r=45)→bJ gs s4.i r=true→eH gs s2.i=.er 4 s2.i:=by
         intro r hr hs
         have hp:dV gs s4.i=.ok none s4.i∨∃w,dV gs s4.i=.er 4 w:=by
          unfold bJ at hs;rw[Cu] at hs;simp only[beq_iff_eq] at hs;unfold dV;rw[Cu];simp only
          split
          ·exact .inr ⟨_,rfl⟩
          ·rw[if_neg (by omega),if_pos (by omega)];exact .inl rfl
         rcases hp with hp|⟨w,hp⟩
         ·rw[hp] at mg;exact mg
         ·exfalso
          unfold bJ at hs;rw[Cu] at hs;simp only[beq_iff_eq] at hs;unfold dV at hp;rw[Cu] at hp;simp only at hp;rw[if_neg (by unfold tQ;rw[Cu];simp only[Bool.and_eq_true,beq_iff_eq];omega),if_neg (by omega),if_pos (by omega)] at hp;cases hp
        cases b7:bJ gs s4.i 93 with
        |true=>
         refine zQ 11 ?_;refine qn ?_ (hR:=hH.rows at1);simp only[List.length_map];refine zQ 3 ?_;obtain⟨_,st,hev,rfl,hH⟩:=bz (s:=s4) (by omega) (by omega) 93 (by decide) (by decide) hH;refine qv hev ?_ (hg:=wi bC);refine zQ 15 ?_;obtain⟨_,st,hev,rfl,s5,z1,z2,z3,z4,hH⟩:=gL _ (yU 93 (by omega) b7) hH;refine qv hev ?_;refine zQ 2 ?_;exact⟨s5,ld,lr,true,_,rfl,hH,z1,z2,z3,by omega,.inl z4⟩
        |false=>
         cases dA:bJ gs s4.i 91 with
         |true=>
          refine zQ 11 ?_;refine qn ?_ (hR:=hH.rows at1);simp only[List.length_map];refine zQ 3 ?_;obtain⟨_,st,hev,rfl,hH⟩:=bz (s:=s4) (by omega) (by omega) 93 (by decide) (by decide) hH;refine qv hev ?_ (hg:=wi bC);refine zQ 3 ?_;obtain⟨_,st,hev,rfl,hH⟩:=bz (s:=s4) (by omega) (by omega) 91 (by decide) (by decide) hH;refine qv hev ?_ (hg:=wi b7);refine zQ 11 ?_;obtain⟨_,st,hev,rfl,s5,z1,z2,z3,z4,hH⟩:=gL _ (yU 91 (by omega) dA) hH;refine qv hev ?_;refine zQ 2 ?_;exact⟨s5,ld,lr,true,_,rfl,hH,z1,z2,z3,by omega,.inl z4⟩
         |false=>
          refine zQ 11 ?_;refine qn ?_ (hR:=hH.rows at1);simp only[List.length_map];refine zQ 3 ?_;obtain⟨_,st,hev,rfl,hH⟩:=bz (s:=s4) (by omega) (by omega) 93 (by decide) (by decide) hH;refine qv hev ?_ (hg:=wi bC);refine zQ 3 ?_;obtain⟨_,st,hev,rfl,hH⟩:=bz (s:=s4) (by omega) (by omega) 91 (by decide) (by decide) hH;refine qv hev ?_ (hg:=wi b7);refine zQ 3 ?_;obtain⟨_,st,hev,rfl,hH⟩:=bz (s:=s4) (by omega) (by omega) 45 (by decide) (by decide) hH;refine qv hev ?_ (hg:=wi dA);refine zQ 2 ?_
          cases L4:bJ gs s4.i 45 with
          |true=>
           refine zQ 5 ?_;obtain⟨_,st,hev,rfl,s5,z1,z2,z3,z4,hH⟩:=gL _ (yU 45 (by omega) L4) hH;refine qv hev ?_;refine zQ 2 ?_;exact⟨s5,ld,lr,true,_,rfl,hH,z1,z2,z3,by omega,.inl z4⟩
          |false=>
           refine zQ 5 ?_;obtain⟨_,st,hev,b,Sg,s5,rfl,⟨j1,j2,j3,j4,j5⟩,hH⟩:=pg (s:=s4) hok q2 Ec b7 hH;have JN:=(dr b).arg N S2;have Qd:=lq b;refine qv hev ?_;refine zQ 6 ?_;have hgo:∀e w,dV gs s4.i=.er e w→eH gs s2.i=.er e w:=fun e w h=>by rw[h] at mg;exact mg
           have jj:dV gs s4.i=.ok none s4.i→eH gs s2.i=.er 4 s2.i:=fun h=>by rw[h] at mg;exact mg
           have rR:dN C0 s5.e∨s5.e=0∧s4.i<s5.i∧b≠[]∧dV gs s4.i=.ok (some (b,eL b)) s5.i:=by
            rcases j5 with⟨e0,w,hw⟩|⟨e0,hw⟩|h
            ·exact .inl (hbad _ _ (hgo _ _ hw) e0)
            ·exact .inl (by rw[e0];exact hbad _ _ (jj hw) (by decide))
            ·exact .inr h
           clear j5 hgo jj yU
           rcases rR with hE|⟨y1,y2,y3,y4⟩
           ·have cQ:(s5.e==0)=false:=by simpa using hE.1
            refine zQ 40 ?_;refine qE rfl (by simp[hE.1]) ?_;refine zQ 1 ?_;exact⟨mm-1,by omega,⟨s5,ld,lr,true,rfl,hH,by omega,by omega,j3,by omega,fun e=>absurd e hE.1,by rw[if_neg hE.1];omega,.inl hE⟩⟩
           obtain⟨p,b',rfl⟩:∃q a',b=q::a':=List.exists_cons_of_ne_nil y3;rw[y4] at mg;have mg:eH gs s2.i=if eL (q::a')=true∧eL (p::b')=true∧q.1≤p.1 then .ok [(q.1,p.1)] s5.i else .er 4 s2.i:=mg;have KR:((q::a').map ag)[0]?=some (ag q):=rfl;have hr1:((p::b').map ag)[0]?=some (ag p):=rfl;have cQ:(s5.e==0)=true:=by simpa using y1
           have hla:(q::a').length≤1048576:=by omega
           have QV:(p::b').length≤1048576:=by omega
           generalize P_:eL (q::a')=sa at*;generalize P9:eL (p::b')=sb at*;have OS:∀st,Ev pv 73 [aA (q::a')] st (.bool sa) st:=fun st=>by rw[←P_];exact lX (cG _ _) hla
           have L1:∀st,Ev pv 73 [aA (p::b')] st (.bool sb) st:=fun st=>by rw[←P9];exact lX (cG _ _) QV
           refine zQ 2 ?_;refine EvC.cutT 123 (.bool ((!sa||!sb)||decide (q.1>p.1))) [] ?_ (fun ff tmp htmp=>?_)
           ·refine zQ 7 ?_;refine qv (OS _) ?_ (hg:=wi cQ);refine zQ 2 ?_;refine EvO.two 107 rfl (fun cZ=>?_) (fun cZ=>?_)
            ·refine zQ 3 ?_;refine EvO.pickT (wantD_is rfl rfl rfl cQ) rfl cZ (put_T rfl _) ?_;refine zQ 12 ?_;refine EvO.nil (leafT ?_ ?_)
             ·dsimp only[setW,List.foldl,nth,u2,u1]
              all_goals(first|rfl|simp)
             ·refine zF ?_
              all_goals(simp[cQ,cZ];done)
            ·refine zQ 1 ?_;refine qv (L1 _) ?_ (hg:=wi cZ);refine zQ 1 ?_;refine EvO.pickF (wantD_is rfl rfl rfl cQ) rfl cZ (put_T rfl _) ?_;refine zQ 1 ?_;refine EvO.two 112 rfl (fun b7=>?_) (fun b7=>?_)
             ·refine zQ 9 ?_;refine EvO.pickT (wantD_is rfl rfl rfl cQ) rfl b7 (put_T rfl _) ?_;refine zQ 1 ?_;refine EvO.nil (leafT ?_ ?_)
              ·dsimp only[setW,List.foldl,nth,u2,u1]
               all_goals(first|rfl|simp)
              ·refine zF ?_
               all_goals(simp[cQ,cZ,b7];done)
             ·refine zQ 1 ?_;refine qr (fun PL OB=>?_) (hg:=wi b7);refine qf (fo:=0) (fun Ki Ir=>?_) (hg:=wi b7);refine zQ 2 ?_;refine qr (fun PK OA=>?_) (hg:=wi b7);refine qf (fo:=0) (fun PJ Oz=>?_) (hg:=wi b7);refine zQ 2 ?_;refine EvO.pickF (wantD_is rfl rfl rfl cQ) rfl b7 (put_T rfl _) ?_;refine zQ 1 ?_;refine EvO.nil (leafT ?_ ?_)
              ·dsimp only[setW,List.foldl,nth,u2,u1]
               all_goals(first|rfl|simp)
              ·refine zF ?_
               all_goals(simp[cQ,cZ,b7];done)
           refine zG ?_
           by_cases vF:sa=true∧sb=true∧q.1≤p.1
           ·rw[if_pos vF] at mg;rw[mg] at dE;simp only at dE
            have hcc:((!sa||!sb)||decide (q.1>p.1))=false:=by
             rw[vF.1,vF.2.1,decide_eq_false (by omega)];rfl
            refine EvC.cond (v:=false) (by dsimp only[Fr.ev,Fr.get,nth,V.look];exact htmp.trans (congrArg D.bool hcc)) (fun h=>by cases h) (fun _=>?_);refine zQ 9 ?_;refine qD rfl (by simp[y1]) ?_;refine zQ 3 ?_;refine qr fun PE Ov=>?_;refine qf (fo:=0) fun PD Ou=>?_;refine zQ 2 ?_;refine qr fun PC Ot=>?_;refine qf (fo:=0) fun PB Oq=>?_;refine qR ?_;refine EvO.c9 (qs:=[(0,_),(1,_)]) rfl rfl rfl rfl ⟨rfl,(ev rfl),(by rfl),rfl,(ev rfl),(by rfl),trivial⟩ (by intro q hq;simp only[List.mem_cons,List.not_mem_nil,or_false] at hq;rcases hq with rfl|rfl<;>exact⟨rfl,by exact Nat.le_of_ble_eq_true rfl⟩) (by show List.foldl _ [_,_] _=_;dsimp only[List.foldl_cons,List.foldl_nil,u2,u1]<;>rfl) (put_T rfl _) ?_;refine qh (s:=2) (vs:=[_]) hH fun k142 st OL hH=>?_;dsimp only[u2,u1,u3,u4,setMany,u5,u6,D.cells,Nat.reduceAdd,aC,ai,ah,ag] at hH;refine EvO.happend (s:=2) hH rfl (ev rfl) (ev rfl) (by exact at4) (by exact hH.rows (by exact at0)) rfl rfl rfl rfl rfl rfl rfl ⟨(Nat.le_of_ble_eq_true rfl),(Nat.le_of_ble_eq_true rfl)⟩ (fun _=>(put_T rfl _)) (by simp only[List.length_cons,List.length_nil,List.length_map]<;>omega) (by exact .inr rfl) (fun J3 st hH=>?_);dsimp only[u2,u1,u3,u4,setMany,u5,u6,D.cells,Nat.reduceAdd,aC,ai,ah,ag] at hH;refine zQ 2 ?_;refine⟨mm-1,by omega,⟨s5,J3,lr++[(q.1,p.1)],true,rfl,?_,by omega,by omega,j3,by simp;omega,fun e=>by simp;omega,by rw[if_pos y1];omega,.inr ⟨y1,n,by omega,dE⟩⟩⟩;have hH:=hH.drop 1;rw[List.map_append];exact hH
           ·rw[if_neg vF] at mg
            have hcc:((!sa||!sb)||decide (q.1>p.1))=true:=by
             cases sa<;>cases sb<;>simp at vF⊢
             omega
            refine EvC.cond (v:=true) (by dsimp only[Fr.ev,Fr.get,nth,V.look];exact htmp.trans (congrArg D.bool hcc)) (fun _=>?_) (fun h=>by cases h);refine zQ 4 ?_;obtain⟨_,st,hev,rfl,hH⟩:=bc (s:=s5) 4 at_ hH;refine qv hev ?_;refine zQ 2 ?_;have h7:=gj s5 4 at_;exact⟨_,ld,lr,true,_,rfl,hH,by omega,by omega,by omega,by omega,.inl (by rw[cS y1];exact hbad _ _ mg (by decide))⟩
       ·rw[if_neg Ec] at mg;have bC:decide (((s4.i:Nat):Int)≥((gs.length:Nat):Int))=true:=by rw[decide_eq_true_eq];omega
        refine zQ 11 ?_;refine qn ?_ (hR:=hH.rows at1);simp only[List.length_map];refine zQ 19 ?_;obtain⟨_,st,hev,rfl,s5,z1,z2,z3,z4,hH⟩:=gL _ mg hH;refine qv hev ?_;refine zQ 2 ?_;exact⟨s5,ld,lr,true,_,rfl,hH,z1,z2,z3,by omega,.inl z4⟩
   ·have aW:decide (((s2.i:Nat):Int)<((gs.length:Nat):Int))=false:=by rw[decide_eq_false_iff_not];omega
    have hb:bJ gs s2.i 93=false:=by
     cases h:bJ gs s2.i 93 with
     |true=>exact absurd (cE h) hlt
     |false=>rfl
    rw[hb,if_neg (by simp),if_pos (by omega)] at dE;refine zQ 17 ?_;refine qn ?_ (hR:=hH.rows at1) (hg:=wi cQ);simp only[List.length_map];refine zQ 10 ?_;exact⟨s2,ld,lr,an,_,rfl,hH,k1,k2,k3,by omega,.inr (.inr ⟨he1,.inr hb,f,dE⟩)⟩
  ·rintro fr st ⟨s2,ld,lr,an,tmp,hfr,hH,x1,x2,x3,x4,xR⟩;rw[hfr];clear hfr;generalize bF fr=ee;clear fr;refine zQ 2 ?_;refine EvC.fF (fun fr st=>∃(s3:et) (tmp:List (Nat×D)),fr=⟨11,[.ptr k 0 0,bF fr 1,bF fr 2,bF fr 3,bF fr 4,.bool nt,ld,bF fr 7,bF fr 8,bF fr 9,bF fr 10],tmp⟩∧Has N S2 st (.box k (.mem 0 false (aC rD aD s3))::.lst rD 1 ((gs.map bm).map ai)::.lst aD 1 (bB.map ah)::.lst ld 2 (lr.map ag)::H)∧(s3.g=s.g)∧(s3.i=s2.i)∧(dN C0 s3.e∨s3.e=0∧C0=.ok lr s3.i∧s3.i<gs.length)) ?_ ?_
   ·rcases xR with xR|⟨e0,rfl,hb,hC⟩|⟨e0,hw,w,hC⟩
    ·have cQ:(s2.e==0)=false:=by simpa using xR.1
     refine zQ 18 ?_;exact⟨s2,_,rfl,hH,x1,rfl,.inl xR⟩
    ·have cQ:(s2.e==0)=true:=by simpa using e0
     have hg8:(!true)=false:=rfl;have hlt:=cE hb;refine zQ 11 ?_;obtain⟨_,st,hev,rfl,hH⟩:=bz (s:=s2) (by omega) (by omega) 93 (by decide) (by decide) hH;refine qv hev ?_ (hg:=wi hg8);refine zQ 1 ?_;refine EvO.pickF (wantD_is rfl rfl rfl cQ) rfl hg8 (put_T rfl _) ?_;refine zQ 2 ?_;refine qE rfl (by simp[hb]) ?_;refine zQ 1 ?_;exact⟨s2,_,rfl,hH,x1,rfl,.inr ⟨e0,hC,hlt⟩⟩
    ·have cQ:(s2.e==0)=true:=by simpa using e0
     have h7:=gj s2 4 v
     cases an with
     |false=>
      have hg8:(!false)=true:=rfl;refine zQ 13 ?_;refine EvO.pickT (wantD_is rfl rfl rfl cQ) rfl hg8 (put_T rfl _) ?_;refine zQ 6 ?_;obtain⟨_,st,hev,rfl,hH⟩:=bc (s:=s2) 4 v hH;refine qv hev ?_;refine zQ 1 ?_;exact⟨_,_,rfl,hH,by omega,h7.1,.inl ⟨by rw[cS e0];decide,w,by rw[cS e0];exact hC⟩⟩
     |true=>
      have hb:bJ gs s2.i 93=false:=hw.resolve_left (by simp);have hg8:(!true)=false:=rfl;refine zQ 11 ?_;obtain⟨_,st,hev,rfl,hH⟩:=bz (s:=s2) (by omega) (by omega) 93 (by decide) (by decide) hH;refine qv hev ?_ (hg:=wi hg8);refine zQ 1 ?_;refine EvO.pickF (wantD_is rfl rfl rfl cQ) rfl hg8 (put_T rfl _) ?_;refine zQ 2 ?_;refine qD rfl (by simp[hb]) ?_;refine zQ 3 ?_;obtain⟨_,st,hev,rfl,hH⟩:=bc (s:=s2) 4 v hH;refine qv hev ?_;refine zQ 1 ?_;exact⟨_,_,rfl,hH,by omega,h7.1,.inl ⟨by rw[cS e0];decide,w,by rw[cS e0];exact hC⟩⟩
   ·rintro fr st ⟨s3,tmp,hfr,hH,y1,y2,yR⟩;rw[hfr];clear hfr;generalize bF fr=ee;clear fr;refine zQ 9 ?_;refine qT hH at0 fun st hH=>?_;dsimp only[u2,u1,u3,u4,setMany,u5,u6,D.cells,Nat.reduceAdd,aC,ai,ah,ag] at hH;refine zQ 1 ?_;have hH:Has N S2 st (.box k (.mem 0 false (aC rD aD {s3 with i:=s3.i+1}))::.lst rD 1 ((gs.map bm).map ai)::.lst aD 1 (bB.map ah)::.lst ld 2 (lr.map ag)::H):=hH;have tV:(hU lr).length≤4*lr.length+2:=(oH (s0:=s0) ((dr lr).rows s0) (by omega)).2;have dE:(bp lr).length≤2*lr.length:=(kZ (s0:=s0) ((dr lr).rows s0) (by omega)).2.1
    have cC:∀a:List Rg,a=(if nt=true then hU lr else bp lr)→Di gs (nE gs f) s {s3 with i:=s3.i+1} a:=by
     intro a ha;refine⟨y1,by show s.i≤s3.i+1;omega,by show s3.i+1≤_;omega,by rw[ha];split<;>omega,?_⟩
     rcases yR with yR|⟨e0,hC,hlt⟩
     ·exact .inl (yR.map fun e w h=>by rw[tY,h])
     ·exact .inr ⟨e0,by show s.i<s3.i+1;omega,by show s3.i+1≤_;omega,by rw[tY,hC,ha]⟩
    refine zQ 5 ?_
    cases nt with
    |true=>
     refine zQ 4 ?_;have hev:=rB (l:=lr) (hH.rows at3) (by omega);refine qv hev ?_;refine zQ 2 ?_;refine EvC.ret ⟨rx,_,_,_,rfl,ab (rfl),?_⟩;exact⟨_,_,rfl,cC _ rfl,a_.af aU (hH.erase 3)⟩
    |false=>
     refine zQ 5 ?_;have hev:=jI (l:=lr) (hH.rows at3) (by omega);refine qv hev ?_;refine zQ 2 ?_;refine EvC.ret ⟨rx,_,_,_,rfl,ab (rfl),?_⟩;exact⟨_,_,rfl,cC _ rfl,a_.af aU (hH.erase 3)⟩
end Go.Proofs.YtajblankjjmonaaGreat
