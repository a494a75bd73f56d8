/-
 The parser of patterns, told exactly: classes; how often; lists of nodes joined.
-/
import Derived.Test.YtajblankjjmonaaGreatWGHr
import Derived.Test.YtajblankjjmonaaGreatWGGf
import Derived.Test.YtajblankjjmonaaGreatWGKb
set_option maxRecDepth 100000
set_option maxHeartbeats 4000000
set_option linter.unusedSimpArgs false
set_option linter.unusedVariables false
namespace Go.Proofs.YtajblankjjmonaaGreat
open Go.V Go
def bY (fr:Go.V.Fr) (k:Nat):Go.V.D:=Go.V.nth .junk fr.loc k
noncomputable def fK (gs:List (Nat×Nat)) (f:Nat):Nat→Nat→List Rg→Bool→PR (List Rg)
 |0,_,_,_=>.er 4 f
 |n+1,i,l,nn=>
  if bJ gs i 93=true then(if nn=true then .er 4 f else .ok l i)
  else if gs.length≤i then .er 4 f
  else match eH gs i with
   | .er e w=>.er e w
   | .ok a j=>fK gs f n j (l++a) false
noncomputable def nE (gs:List (Nat×Nat)) (i:Nat):PR (List Rg):=
 match fK gs i (gs.length+1) (if bJ gs (i+1) 94=true then i+2 else i+1) [] true with
 | .er e w=>.er e w
 | .ok l k=>.ok (if bJ gs (i+1) 94=true then hU (bp l) else bp l) (k+1)
def xV (a:List Rg):Nod:=dw 2 0 0 false 0 0 a
noncomputable def vW (gs:List (Nat×Nat)) (i g:Nat):PR (List Nod×Nat):=
 match nE gs i with
 | .er e w=>.er e w
 | .ok a j=>.ok ([xV a],g) j
def ie (gs:List (Nat×Nat)) (aP:List Int) (R:PR (List Nod×Nat)) (s s':dI) (d:D) (c:Nat):Prop:=
 s'.o=s.o∧s'.g≤4∧s.i≤s'.i∧s'.i≤gs.length∧∃l:List Nod,d=kT l∧(∀n∈l,NdV n)∧l.length≤4*(s'.i-s.i)+1∧(ec R aP s'∨s'.e=0∧R=.ok (l,s'.g) s'.i∧l.length+c≤4*(s'.i-s.i))
def oV (gs:List (Nat×Nat)) (aP:List Int) (R:PR (List Nod×Nat)) (s s':dI) (d:D):Prop:=
 s'.o=s.o∧s'.g≤4∧s.i≤s'.i∧s'.i≤gs.length∧∃l:List Nod,d=kT l∧(∀n∈l,NdV n)∧l.length≤4*(s'.i-s.i)+1∧(ec R aP s'∨s'.e=0∧R=.ok (l,s'.g) s'.i)
theorem eO {gs:List (Nat×Nat)} {aP:List Int} {R:PR (List Nod×Nat)} {s s':dI} {c:Nat} (h1:s'.o=s.o) (h2:s'.g≤4) (h3:s.i≤s'.i) (h4:s'.i≤gs.length) (h5:ec R aP s'):ie gs aP R s s' (.sl []) c:=
 ⟨h1,h2,h3,h4,[],rfl,fun n hn=>(by cases hn),by simp,.inl h5⟩
theorem AM {N k:Nat} {S s0:St} {H:List bG} {gs:List (Nat×Nat)} {bj:D} {aP:List Int} {s:dI} (hok:kh gs aP) (he:s.e=0) (hi:s.i<gs.length) (hg:s.g≤4) (hH:Has N S s0 (.box k (.mem 0 false (aG gs bj s))::.lst bj 1 (aP.map ah)::H)):
  ∃d ae,Ev pv 87 [.ptr k 0 0] s0 d ae∧∃(s':dI),ie gs aP (vW gs s.i s.g) s s' d 2∧Has N S ae (.box k (.mem 0 false (aG gs bj s'))::.lst bj 1 (aP.map ah)::H):=by
 have kW:=hok.gl;have hpl:=hok.pl;refine Ev.gT rfl Mt rfl rfl rfl ?_;refine zE ?_;have a_:=hH;have hH:=hH.aY;have aU:(enterSt .rw s0).bs=s0.bs:=rfl;generalize enterSt .rw s0=S2 at*;have Ct:Arg N S2 2 (eo gs) (gs.map aF):=Arg.pure (fun st=>dt st gs);refine zQ 21 ?_;refine qT hH at0 fun st hH=>?_;dsimp only[u2,u1,u3,u4,setMany,u5,u6,D.cells,Nat.reduceAdd,aG,aF,ah,ag] at hH;refine zQ 1 ?_;have hH:Has N S2 st (.box k (.mem 0 false (aG gs bj {s with i:=s.i+1}))::.lst bj 1 (aP.map ah)::H):=hH;obtain⟨k1,k2,k3,k4,k5⟩:=fV (gs:=gs) (s:={s with i:=s.i+1}) (r:=94);have k5:=k5 (by show s.i+1≤_;omega);simp only at k1 k2 k3 k4
 have iJ:(bE gs {s with i:=s.i+1} 94).i=if bJ gs (s.i+1) 94=true then s.i+2 else s.i+1:=by
  unfold bE;simp only;split<;>rfl
 refine zQ 3 ?_;obtain⟨_,st,hev,rfl,hH⟩:=dC (s:={s with i:=s.i+1}) (by omega) 94 hH;refine qv hev ?_;refine zQ 2 ?_
 have tY:vW gs s.i s.g=match fK gs s.i (gs.length+1) (if bJ gs (s.i+1) 94=true then s.i+2 else s.i+1) [] true with
  | .er e w=>.er e w
  | .ok l k=>.ok ([xV (if bJ gs (s.i+1) 94=true then hU (bp l) else bp l)],s.g) (k+1):=by
  unfold vW nE;cases fK gs s.i (gs.length+1) (if bJ gs (s.i+1) 94=true then s.i+2 else s.i+1) [] true<;>rfl
 rw[←iJ] at tY
 change vW gs s.i s.g=match fK gs s.i (gs.length+1) (bE gs {s with i:=s.i+1} 94).i [] true with
  | .er e w=>.er e w
  | .ok l k=>.ok ([xV (if bJ gs ({s with i:=s.i+1}:dI).i 94=true then hU (bp l) else bp l)],s.g) (k+1) at tY
 generalize bE gs {s with i:=s.i+1} 94=s1 at*;generalize bJ gs ({s with i:=s.i+1}:dI).i 94=nt at*;clear iJ
 obtain⟨C0,t'⟩:∃C0,fK gs s.i (gs.length+1) s1.i [] true=C0:=⟨_,rfl⟩
 rw[t'] at tY;have L0:∀s',ec C0 aP s'→ec (vW gs s.i s.g) aP s':=fun s' h=>h.map fun e w hw=>by rw[tY,hw]
 refine zQ 8 ?_
 have hH:Has N S2 st (.box k (.mem 0 false (aG gs bj s1))::.lst bj 1 (aP.map ah)::.lst .nul 2 (([]:List Rg).map ag)::H):=((hH.nulE 2).front at1|>.front at2|>fun h=>(h.front at1))
 refine zQ 2 ?_;refine EvC.loop (fun mm fr st=>∃(s1:dI) (ld:D) (lr:List Rg) (nn:Bool),fr.clean=⟨7,[.ptr k 0 0,bY fr 1,bY fr 2,.int .i64 (s.i:Nat),.bool nt,ld,.bool nn],[]⟩∧Has N S2 st (.box k (.mem 0 false (aG gs bj s1))::.lst bj 1 (aP.map ah)::.lst ld 2 (lr.map ag)::H)∧(s1.o=s.o)∧(s1.g=s.g)∧(s.i<s1.i)∧(s1.i≤gs.length)∧(lr.length≤8*s1.i+8)∧(s1.e=0→lr.length≤8*s1.i)∧(gs.length-s1.i+(if s1.e=0 then 1 else 0)≤mm)∧(ec C0 aP s1∨s1.e=0∧∃n,gs.length<n+s1.i∧C0=fK gs s.i n s1.i lr nn)) (gs.length+1) ?_ ?_
 ·exact⟨s1,.nul,[],true,rfl,hH,k1,k2,by omega,k5,by simp,fun _=>by simp,by split<;>omega,.inr ⟨k3.trans he,gs.length+1,by omega,t'.symm⟩⟩
 rintro mm fr st ⟨s1,ld,lr,nn,hfr,hH,h1,h2,h3,h4,h5,h6,nr,h7⟩;rw[hfr];clear hfr;generalize bY fr=ee;clear fr
 rcases h7 with h7|⟨he1,n,tV,dE⟩
 ·have he1:=h7.ne;have cQ:(s1.e==0)=false:=by simpa using he1
  refine zQ 25 ?_;refine qD rfl (by simp[he1]) ?_;refine zQ 4 ?_;refine EvC.ret ⟨rx,_,_,_,rfl,ab (rfl),?_⟩;exact⟨_,eO h1 (by omega) (by omega) h4 (L0 _ h7),a_.af aU (hH.erase 2)⟩
 ·rw[if_pos he1] at nr;have h6:=h6 he1;have cQ:(s1.e==0)=true:=by simpa using he1
  obtain⟨n,rfl⟩:∃m,n=m+1:=⟨n-1,by omega⟩
  unfold fK at dE;refine zQ 10 ?_;obtain⟨_,st,hev,rfl,hH⟩:=nV (s:=s1) (by omega) 93 hH;refine qv hev ?_ (hg:=wi cQ);refine zQ 3 ?_
  cases hb:bJ gs s1.i 93 with
  |true=>
   have hlt:=cE hb;rw[hb,if_pos rfl] at dE;refine zQ 11 ?_;refine qE rfl (by simp[he1]) ?_;refine zQ 6 ?_
   cases nn with
   |true=>
    rw[if_pos rfl] at dE;refine zQ 5 ?_;obtain⟨_,st,hev,rfl,hH⟩:=dP (s:=s1) s.i 4 (by omega) hH;refine qv hev ?_;refine zQ 2 ?_;obtain⟨w1,w2,w3,w4⟩:=fN (aP:=aP) (s:=s1) (i:=s.i) (e:=4) he1 (by decide) dE;refine EvC.ret ⟨rx,_,_,_,rfl,ab (rfl),?_⟩;exact⟨_,eO (by omega) (by omega) (by omega) (by omega) (L0 _ w1),a_.af aU (hH.erase 2)⟩
   |false=>
    rw[if_neg (by simp)] at dE;rw[dE] at tY;simp only at tY;refine zQ 11 ?_;refine qT hH at0 fun st hH=>?_;dsimp only[u2,u1,u3,u4,setMany,u5,u6,D.cells,Nat.reduceAdd,aG,aF,ah,ag] at hH;refine zQ 4 ?_;obtain⟨hev,pN,_⟩:=kZ (l:=lr) (hH.rows at2) (by omega);refine qv hev ?_;refine zQ 2 ?_;generalize bp lr=m at*;refine zQ 5 ?_
    have cC:∀(st:St) (a:List Rg) (k70:Nat),a=(if nt=true then hU m else m)→a.length≤1048576→S2.bs.length≤k70→Has N S2 st (.lst (.win k70 0 0 1 7) 7 [[.int .i64 2,aA a,.int .i64 0,.int .i64 0,.bool false,.int .i64 0,.int .i64 0]]::.box k (.mem 0 false (aG gs bj {s1 with i:=s1.i+1}))::.lst bj 1 (aP.map ah)::.lst ld 2 (lr.map ag)::H)→
      ∃d ae,b8 .rw false s0 st (.win k70 0 0 1 7)=some (d,ae)∧∃(s':dI),ie gs aP (vW gs s.i s.g) s s' d 2∧Has N S ae (.box k (.mem 0 false (aG gs bj s'))::.lst bj 1 (aP.map ah)::H):=by
     intro st a k70 RK ha hk hH;have hfz:=eX hH at0 (L:=s0.bs.length) (.inl rfl) (fun k hk=>by simp only[D.ref] at hk;rw[←aU];omega);exact⟨_,_,ab hfz,{s1 with i:=s1.i+1},⟨h1,by show s1.g≤4;omega,by show s.i≤s1.i+1;omega,by show s1.i+1≤_;omega,_,rfl,s8 ha (by omega),by simp,.inr ⟨he1,by rw[tY,←RK];show _=PR.ok (_,s1.g) _;rw[h2];rfl,by show 1+2≤4*(s1.i+1-s.i);omega⟩⟩,a_.af aU ((hH.drop 1).erase 2)⟩
    cases nt with
    |true=>
     refine zQ 3 ?_;obtain⟨hev,hla⟩:=oH (l:=m) (cG _ _) (by omega);refine qv hev ?_;refine zQ 5 ?_;refine EvO.c9 (qs:=[(0,_),(1,_)]) rfl rfl rfl rfl ⟨rfl,(ev rfl),(by rfl),rfl,(ev rfl),(by rfl),trivial⟩ (by intro q hq;simp only[List.mem_cons,List.not_mem_nil,or_false] at hq;rcases hq with rfl|rfl<;>exact⟨rfl,by exact Nat.le_of_ble_eq_true rfl⟩) (by show List.foldl _ [_,_,_,_,_,_,_] _=_;dsimp only[List.foldl_cons,List.foldl_nil,u2,u1]<;>rfl) (put_T rfl _) ?_;refine qh (s:=7) (vs:=[_]) hH fun k70 st Gd hH=>?_;refine zQ 2 ?_;obtain⟨d',ae,ju,dn⟩:=cC _ (hU m) k70 rfl (by omega) Gd hH;refine EvC.ret ⟨rx,_,d',ae,rfl,ju,dn⟩
    |false=>
     refine zQ 5 ?_;refine EvO.c9 (qs:=[(0,_),(1,_)]) rfl rfl rfl rfl ⟨rfl,(ev rfl),(by rfl),rfl,(ev rfl),(by rfl),trivial⟩ (by intro q hq;simp only[List.mem_cons,List.not_mem_nil,or_false] at hq;rcases hq with rfl|rfl<;>exact⟨rfl,by exact Nat.le_of_ble_eq_true rfl⟩) (by show List.foldl _ [_,_,_,_,_,_,_] _=_;dsimp only[List.foldl_cons,List.foldl_nil,u2,u1]<;>rfl) (put_T rfl _) ?_;refine qh (s:=7) (vs:=[_]) hH fun k70 st Gd hH=>?_;refine zQ 2 ?_;obtain⟨d',ae,ju,dn⟩:=cC _ m k70 rfl (by omega) Gd hH;refine EvC.ret ⟨rx,_,d',ae,rfl,ju,dn⟩
  |false=>
   rw[hb,if_neg (by simp)] at dE;refine zQ 14 ?_;refine qn ?_;simp only[List.length_map];refine zQ 2 ?_;refine zP (fun hge=>?_) fun hge=>?_
   ·rw[if_pos (by omega)] at dE;refine zQ 4 ?_;obtain⟨_,st,hev,rfl,hH⟩:=dP (s:=s1) s.i 4 (by omega) hH;refine qv hev ?_;refine zQ 2 ?_;obtain⟨w1,w2,w3,w4⟩:=fN (aP:=aP) (s:=s1) (i:=s.i) (e:=4) he1 (by decide) dE;refine EvC.ret ⟨rx,_,_,_,rfl,ab (rfl),?_⟩;exact⟨_,eO (by omega) (by omega) (by omega) (by omega) (L0 _ w1),a_.af aU (hH.erase 2)⟩
   ·rw[if_neg (by omega)] at dE;refine zQ 5 ?_;obtain⟨_,st,hev,s2,⟨i1,i2,i3,i4,a,rfl,i5,i6⟩,hH⟩:=B9 (s:=s1) hok he1 (by omega) hH;have wB:=(dr a).arg N S2;have Dn:=lq a;refine qv hev ?_;refine EvO.happend (s:=2) hH rfl (ev rfl) (ev rfl) (by exact at2) (by exact Arg.rows (by assumption) hH) rfl rfl rfl rfl rfl rfl rfl ⟨(Nat.le_of_ble_eq_true rfl),(Nat.le_of_ble_eq_true rfl)⟩ (fun _=>(put_T rfl _)) (by simp only[List.length_map]<;>omega) (by exact .inr (by assumption)) (fun Fa st hH=>?_);dsimp only[u2,u1,u3,u4,setMany,u5,u6,D.cells,Nat.reduceAdd,aG,aF,ah,ag] at hH;refine zQ 5 ?_
    rcases i6 with i6|⟨i6,i7,i8⟩
    ·have hne:=i6.ne;exact⟨mm-1,by omega,⟨s2,Fa,lr++a,false,rfl,(by rw[List.map_append];exact hH),i1.trans h1,i2.trans h2,by omega,i4,by rw[List.length_append];omega,fun e=>absurd e hne,by rw[if_neg hne];omega,.inl (i6.map fun e w h=>by rw[dE,h])⟩⟩
    ·rw[i8] at dE;simp only at dE;exact⟨mm-1,by omega,⟨s2,Fa,lr++a,false,rfl,(by rw[List.map_append];exact hH),i1.trans h1,i2.trans h2,by omega,i4,by rw[List.length_append];omega,fun e=>by rw[List.length_append];omega,by rw[if_pos i6];omega,.inr ⟨i6,n,by omega,dE⟩⟩⟩
def lx (gs:List (Nat×Nat)) (f:Nat):PR (Int×Int):=
 if(digS (dD gs (f+1)) []).2=0 then .er 4 f
 else if bJ gs (f+1+(digS (dD gs (f+1)) []).2) 44=true then
  (if bJ gs (f+1+(digS (dD gs (f+1)) []).2+1+(digS (dD gs (f+1+(digS (dD gs (f+1)) []).2+1)) []).2) 125=true then
   (if(digS (dD gs (f+1+(digS (dD gs (f+1)) []).2+1)) []).2=0 then
    (if(du (digS (dD gs (f+1)) []).1).2=true then .ok ((du (digS (dD gs (f+1)) []).1).1,-1) (f+1+(digS (dD gs (f+1)) []).2+1+(digS (dD gs (f+1+(digS (dD gs (f+1)) []).2+1)) []).2+1) else .er 2 f)
   else if jT (digS (dD gs (f+1+(digS (dD gs (f+1)) []).2+1)) []).1 (digS (dD gs (f+1)) []).1=true then .er 4 f
   else if(du (digS (dD gs (f+1)) []).1).2=true∧(du (digS (dD gs (f+1+(digS (dD gs (f+1)) []).2+1)) []).1).2=true then .ok ((du (digS (dD gs (f+1)) []).1).1,(du (digS (dD gs (f+1+(digS (dD gs (f+1)) []).2+1)) []).1).1) (f+1+(digS (dD gs (f+1)) []).2+1+(digS (dD gs (f+1+(digS (dD gs (f+1)) []).2+1)) []).2+1) else .er 2 f)
  else .er 4 f)
 else(if bJ gs (f+1+(digS (dD gs (f+1)) []).2) 125=true then
   (if jT (digS (dD gs (f+1)) []).1 (digS (dD gs (f+1)) []).1=true then .er 4 f
   else if(du (digS (dD gs (f+1)) []).1).2=true then .ok ((du (digS (dD gs (f+1)) []).1).1,(du (digS (dD gs (f+1)) []).1).1) (f+1+(digS (dD gs (f+1)) []).2+1) else .er 2 f)
  else .er 4 f)
def lv (gs:List (Nat×Nat)) (f:Nat) (m n:List UInt8) (ok en:Bool) (i:Nat):PR (Int×Int):=
 if ok=false then .er 4 f
 else if bJ gs i 125=false then .er 4 f
 else if en=false∧jT n m=true then .er 4 f
 else if(du m).2=true∧(du (if en=true then[] else n)).2=true then .ok ((du m).1,if en=true then-1 else(du n).1) (i+1)
 else .er 2 f
theorem rG (gs:List (Nat×Nat)) (f:Nat):lx gs f=
  if(digS (dD gs (f+1)) []).2≠0∧bJ gs (f+1+(digS (dD gs (f+1)) []).2) 44=true then
   lv gs f (digS (dD gs (f+1)) []).1 (digS (dD gs (f+1+(digS (dD gs (f+1)) []).2+1)) []).1 true (!decide (0<(digS (dD gs (f+1+(digS (dD gs (f+1)) []).2+1)) []).2)) (f+1+(digS (dD gs (f+1)) []).2+1+(digS (dD gs (f+1+(digS (dD gs (f+1)) []).2+1)) []).2)
  else lv gs f (digS (dD gs (f+1)) []).1 (digS (dD gs (f+1)) []).1 (decide (0<(digS (dD gs (f+1)) []).2)) false (f+1+(digS (dD gs (f+1)) []).2):=by
 unfold lx lv;have oK:(du []).2=true:=rfl;generalize(digS (dD gs (f+1)) [])=A;generalize(digS (dD gs (f+1+A.2+1)) [])=B;generalize bJ gs (f+1+A.2) 44=c1;generalize bJ gs (f+1+A.2) 125=c2;generalize bJ gs (f+1+A.2+1+B.2) 125=c3;generalize jT A.1 A.1=c4;generalize jT B.1 A.1=c5
 by_cases h1:A.2=0
 ·simp[h1]
 ·have Hg:0<A.2:=by omega
  by_cases h2:B.2=0
  ·cases c1<;>cases c2<;>cases c3<;>cases c4<;>cases c5<;>simp[h1,Hg,h2,oK]
  ·have Ml:0<B.2:=by omega
   cases c1<;>cases c2<;>cases c3<;>cases c4<;>cases c5<;>simp[h1,Hg,h2,Ml,oK]
def b6 (op:Int) (ps:List (List Nod)):List Nod:=
 match ps with
 |[]=>[dw 1 0 0 false 0 0 []]
 |[l]=>l
 |ps=>dw op 0 0 false 0 (ps.length:Nat) []::ps.flatten
theorem il:∀l:List (List Nod),b_ l=l.flatten.length
 |[]=>rfl
 |a::l=>by rw[b_,List.flatten_cons,List.length_append,il l]
theorem pF {s0:St} {x:D} {parts:List (List Nod)} (op:Int) (hx:V.Rows s0 1 x (parts.map partC)) (hv:∀l∈parts,∀n∈l,NdV n) (hp:parts.length≤100000) (hs:b_ parts≤100000):Ev pv 56 [.int .i64 op,x] s0 (kT (b6 op parts)) s0∧(∀n∈b6 op parts,NdV n)∧(parts.length=1→(b6 op parts).length≤b_ parts)∧(b6 op parts).length≤b_ parts+1:=by
 suffices hg:∃d,Ev pv 56 [.int .i64 op,x] s0 d s0∧d=kT (b6 op parts)∧(∀n∈b6 op parts,NdV n)∧(parts.length=1→(b6 op parts).length≤b_ parts)∧(b6 op parts).length≤b_ parts+1 by
  obtain⟨d,h1,rfl,h2⟩:=hg;exact⟨h1,h2⟩
 refine Ev.yE rfl MU rfl rfl rfl ?_;refine zE ?_;obtain⟨hSb,hF,hH⟩:=ri s0;generalize enterSt .ro s0=S at*;have hx:=Arg.of hx hSb;refine zQ 8 ?_;refine qn ?_;simp only[List.length_map];refine zQ 7 ?_
 by_cases h0:parts.length=0
 ·have K4:parts=[]:=List.length_eq_zero_iff.1 h0;refine qD rfl (by simp[h0]) ?_;refine zQ 2 ?_;refine EvO.go (d:=.agg [.int .i64 1,.nul,.int .i64 0,.int .i64 0,.bool false,.int .i64 0,.int .i64 0]) (st1:=_) rfl rfl rfl (by dsimp only[Fr.put,u1,u2]<;>rfl) ?_;refine qh (s:=7) (vs:=[_]) hH fun k13 st Rm hH=>?_;refine zQ 2 ?_;have hfz:=eX (L:=s0.bs.length) (a:=[]) hH at0 (.inr ⟨rfl,rfl⟩) (fun k hk=>by have jv:k13+1=k+1:=hk;rw[←hSb];omega);refine EvC.ret ⟨rx,_,_,rfl,rl hSb hH (hfz),?_⟩;rw[K4];exact⟨rfl,s8 (by simp) (by omega),fun h=>by simp at h,by simp[b6]⟩
 have I6:(((parts.length:Nat):Int)==0)=false:=by rw[beq_eq_false_iff_ne];omega
 refine qE rfl (by rw[I6]) ?_;refine zQ 5 ?_
 by_cases h1:parts.length=1
 ·obtain⟨q,hq⟩:∃q,parts[0]?=some q:=⟨parts[0]'(by omega),List.getElem?_eq_getElem _⟩
  have hr1:=l3 hq
  have Ak:parts=[q]:=by
   match parts,h1,hq with
   |[a],_,hq=>simp at hq;rw[hq]
  refine qD rfl (by simp[h1]) ?_;refine zQ 3 ?_;refine qr fun HG Cm=>?_;refine zQ 3 ?_;refine EvC.ret ⟨rx,_,_,rfl,rl hSb hH (rfl),?_⟩;have hj:b6 op parts=q:=by rw[Ak];rfl
  refine⟨by rw[hj];rfl,by rw[hj];exact hv q (List.mem_of_getElem? hq),fun _=>?_,?_⟩<;>rw[hj,Ak]<;>simp[b_]
 have I5:(((parts.length:Nat):Int)==1)=false:=by rw[beq_eq_false_iff_ne];omega
 have hj:b6 op parts=dw op 0 0 false 0 (parts.length:Nat) []::parts.flatten:=by
  match parts,h0,h1 with
  |_::_::_,_,_=>rfl
 rw[hj];refine qE rfl (by rw[I5]) ?_;refine zQ 5 ?_;refine qn ?_;simp only[List.length_map];refine EvO.go (d:=.agg [.int .i64 op,.nul,.int .i64 0,.int .i64 0,.bool false,.int .i64 0,.int .i64 (parts.length:Nat)]) (st1:=_) rfl rfl rfl (by dsimp only[Fr.put,u1,u2]<;>rfl) ?_;refine qh (s:=7) (vs:=[_]) hH fun k23 st Rh hH=>?_;refine zQ 6 ?_;refine qn ?_;simp only[List.length_map];refine zQ 2 ?_;have hH:Has s0.bs.length S st (.lst (.win k23 0 0 1 7) 7 [[.int .i64 op,.nul,.int .i64 0,.int .i64 0,.bool false,.int .i64 0,.int .i64 (parts.length:Nat)]]::[]):=hH;refine zQ 1 ?_;refine EvC.loop (fun mm fr st=>∃(i:Nat) (od:D) (es:List (List D)),fr.clean=⟨27,[bY fr 0,bY fr 1,bY fr 2,bY fr 3,bY fr 4,od,bY fr 6,bY fr 7,bY fr 8,bY fr 9,bY fr 10,bY fr 11,bY fr 12,bY fr 13,bY fr 14,bY fr 15,bY fr 16,bY fr 17,bY fr 18,bY fr 19,bY fr 20,bY fr 21,bY fr 22,bY fr 23,x,.int .i64 (parts.length:Nat),.int .i64 (i:Nat)],[]⟩∧Has s0.bs.length S st [.lst od 7 es]∧(i+mm=parts.length)∧(es.map (·.map nz)=(dw op 0 0 false 0 (parts.length:Nat) []::(parts.take i).flatten).map ay)∧(∀e∈es,∀d∈e,lT d=true)∧(∀k,od.ref=k+1→S.bs.length≤k)) (parts.length) ?_ ?_
 ·refine⟨0,.win k23 0 0 1 7,[[.int .i64 op,.nul,.int .i64 0,.int .i64 0,.bool false,.int .i64 0,.int .i64 (parts.length:Nat)]],rfl,hH,by omega,rfl,?_,fun k hk=>by simp only[D.ref] at hk;omega⟩;intro e he d hd;simp only[List.mem_cons,List.not_mem_nil,or_false] at he;subst he;simp only[List.mem_cons,List.not_mem_nil,or_false] at hd
  rcases hd with rfl|rfl|rfl|rfl|rfl|rfl|rfl<;>rfl
 rintro mm fr st ⟨i,od,es,hfr,hH,hi,oP,ht,q_⟩;rw[hfr];clear hfr;generalize bY fr=ee;clear fr;refine zQ 4 ?_
 by_cases hlt:i<parts.length
 ·obtain⟨q,hq⟩:∃q,parts[i]?=some q:=⟨parts[i]'hlt,List.getElem?_eq_getElem _⟩
  have hr1:=l3 hq;have Ch:=hv q (List.mem_of_getElem? hq)
  have tB:es.length=1+(parts.take i).flatten.length:=by
   have LY:(List.length∘List.map ay:List Nod→Nat)=List.length:=by funext l;simp
   have:=congrArg List.length oP;simp[LY] at this
   simp;omega
  have EO:parts.take (i+1)=parts.take i++[q]:=by rw[List.take_add_one,hq];rfl
  have KF:b_ (parts.take (i+1))=b_ (parts.take i)+q.length:=by rw[EO,bK];simp[b_]
  have KH:b_ (parts.take (i+1))≤b_ parts:=by
   have:=bK (parts.take (i+1)) (parts.drop (i+1));rw[List.take_append_drop] at this;omega
  have KI:=il (parts.take i);refine qq<|qD rfl (by simp;omega) ?_;refine zQ 5 ?_;refine qr fun HE Ck=>?_;refine zQ 6 ?_;refine EvO.gD (s:=7) hH rfl (ev rfl) (ev rfl) at0 ((jP Ch).rows st) rfl rfl rfl rfl rfl rfl rfl ⟨(Nat.le_of_ble_eq_true rfl),(Nat.le_of_ble_eq_true rfl)⟩ (fun _=>(put_T rfl _)) (by rw[List.length_map];omega) (.inl hF) q_ (fun Pb st q_ hH=>?_);dsimp only[u2] at hH;refine zQ 6 ?_;refine⟨mm-1,by omega,⟨i+1,Pb,es++q.map ay,rfl,hH,by omega,by rw[List.map_append,oP,kD Ch,EO,List.flatten_append,List.map_cons,List.map_cons,List.map_append];simp,?_,q_⟩⟩;intro e he
  rcases List.mem_append.1 he with he|he
  ·exact ht e he
  ·exact iw Ch e he
 ·refine qq<|qE rfl (by simp;omega) ?_;refine zQ 6 ?_;have hik:i=parts.length:=by omega
  rw[hik,List.take_length] at oP
  have bV:∀n∈dw op 0 0 false 0 (parts.length:Nat) []::parts.flatten,NdV n:=fun n hn=>by
   rcases List.mem_cons.1 hn with rfl|hn
   ·exact s8 (by simp) (by omega) _ (List.mem_cons_self ..)
   ·obtain⟨l,hl,hn⟩:=List.mem_flatten.1 hn;exact hv l hl n hn
  refine EvC.ret ⟨rx,_,_,rfl,rl hSb hH (dW hH at0 oP ht (fun k hk=>by have:=q_ k hk;rw[←hSb];exact this) (by decide)),?_⟩;have KI:=il parts;exact⟨rfl,bV,by omega,by simp only[List.length_cons];omega⟩
def iV (fr:Go.V.Fr) (k:Nat):Go.V.D:=Go.V.nth .junk fr.loc k
def E7 (gs:List (Nat×Nat)) (aP:List Int) (R:PR (Int×Int)) (s s':dI) (n1 n2:Int):Prop:=
 sA gs s s'∧(ec R aP s'∨s'.e=0∧R=.ok (n1,n2) s'.i)
theorem ui {gs:List (Nat×Nat)} {s:dI} {r:Int} (h:bJ gs s.i r=false):bE gs s r=s:=by
 unfold bE;rw[if_neg (by rw[h];simp)]
theorem km {gs:List (Nat×Nat)} {s:dI} {r:Int} (h:bJ gs s.i r=true):(bE gs s r).i=s.i+1:=by
 unfold bE;rw[if_pos h]
theorem z8 {N k:Nat} {S s0:St} {H:List bG} {gs:List (Nat×Nat)} {bj:D} {aP:List Int} {s:dI} (hok:kh gs aP) (he:s.e=0) (hi:s.i<gs.length) (hH:Has N S s0 (.box k (.mem 0 false (aG gs bj s))::.lst bj 1 (aP.map ah)::H)):
  ∃d ae,Ev pv 82 [.ptr k 0 0] s0 d ae∧∃(n1 n2:Int) (s':dI),d=.tup [.int .i64 n1,.int .i64 n2]∧E7 gs aP (lx gs s.i) s s' n1 n2∧Has N S ae (.box k (.mem 0 false (aG gs bj s'))::.lst bj 1 (aP.map ah)::H):=by
 have kW:=hok.gl;have hpl:=hok.pl;have hne:gs≠[]:=by rintro rfl;simp at hi
 refine Ev.gT rfl Mw rfl rfl rfl ?_;refine zE ?_;have a_:=hH;have hH:=hH.aY;have aU:(enterSt .rw s0).bs=s0.bs:=rfl;generalize enterSt .rw s0=S2 at*;refine zQ 22 ?_;refine qT hH at0 fun st hH=>?_;dsimp only[u2,u1,u3,u4,setMany,u5,u6,D.cells,Nat.reduceAdd,aG,aF,ah,ag] at hH;refine zQ 1 ?_;have hH:Has N S2 st (.box k (.mem 0 false (aG gs bj {s with i:=s.i+1}))::.lst bj 1 (aP.map ah)::H):=hH;have bV:=rG gs s.i
 obtain⟨R,hR⟩:∃R,lx gs s.i=R:=⟨_,rfl⟩
 rw[hR] at bV⊢;clear hR
 have gL:∀(st:St) (s3:dI) (e:Int),e≠0→s3.e=0→sA gs s s3→R=.er e s.i→Has N S2 st (.box k (.mem 0 false (aG gs bj s3))::.lst bj 1 (aP.map ah)::H)→∃d ae,Ev pv 45 [.ptr k 0 0,.int .i64 (s.i:Nat),.int .i64 e] st d ae∧d=.sl []∧∃s4,(∀n1 n2,E7 gs aP R s s4 n1 n2)∧Has N S2 ae (.box k (.mem 0 false (aG gs bj s4))::.lst bj 1 (aP.map ah)::H):=by
  intro st s3 e h0 h1 h2 hv hH;obtain⟨d,ae,hev,h4,hH⟩:=dP (s:=s3) s.i e (by omega) hH;obtain⟨w1,w2,w3,w4⟩:=fN (aP:=aP) (s:=s3) (i:=s.i) (e:=e) h1 h0 hv;exact⟨d,ae,hev,h4,_,fun _ _=>⟨⟨w3.trans h2.1,w4.trans h2.2.1,by rw[w2];exact h2.2.2.1,by rw[w2];exact h2.2.2.2⟩,.inl w1⟩,hH⟩
 obtain⟨A,hA⟩:∃A,digS (dD gs (s.i+1)) []=A:=⟨_,rfl⟩
 refine zQ 3 ?_;obtain⟨_,st,hev,rfl,pN,ES,hH⟩:=pY (s:={s with i:=s.i+1}) kW (by show s.i+1≤_;omega) hne hH;dsimp only at hev pN ES hH;rw[hA] at hev pN ES hH;refine qv hev ?_;refine zQ 6 ?_;rw[hA] at bV;obtain⟨m,a2⟩:=A;clear hA;dsimp only at bV pN ES hH
 obtain⟨s1,qI⟩:∃s1:dI,({s with i:=s.i+1+a2}:dI)=s1:=⟨_,rfl⟩
 have FU:s1.e=0:=by rw[←qI];exact he
 have KL:s1.i=s.i+1+a2:=by rw[←qI]
 have Aj:sA gs s s1:=by rw[←qI];exact⟨rfl,rfl,by show s.i<s.i+1+a2;omega,ES⟩
 have hH:Has N S2 st (.box k (.mem 0 false (aG gs bj s1))::.lst bj 1 (aP.map ah)::H):=by rw[←qI];exact hH
 clear qI;rw[←KL] at bV
 obtain⟨ok,tu⟩:∃ok,decide (0<a2)=ok:=⟨_,rfl⟩
 rw[tu] at bV⊢;refine zQ 8 ?_;refine EvC.fF (fun fr st=>∃(n:List UInt8) (en:Bool) (s3:dI) (tmp:List (Nat×D)),fr=⟨14,[.ptr k 0 0,iV fr 1,iV fr 2,iV fr 3,.int .i64 (s.i:Nat),.str m,.bool ok,.str n,.bool en,iV fr 9,iV fr 10,iV fr 11,iV fr 12,iV fr 13],tmp⟩∧Has N S2 st (.box k (.mem 0 false (aG gs bj s3))::.lst bj 1 (aP.map ah)::H)∧(s3.e=0)∧(sA gs s s3)∧(n.length≤120)∧(R=lv gs s.i m n ok en s3.i)) ?_ ?_
 ·cases ok with
  |false=>
   have Je:a2=0:=by have:=of_decide_eq_false tu;omega
   have fu:false=false:=rfl;refine zQ 9 ?_;exact⟨m,false,s1,_,rfl,hH,FU,Aj,pN,by rw[bV,if_neg (fun h=>h.1 Je)]⟩
  |true=>
   have Je:0<a2:=of_decide_eq_true tu;have fu:true=true:=rfl;obtain⟨k1,k2,k3,k4,k5⟩:=fV (gs:=gs) (s:=s1) (r:=44);have k5:=k5 Aj.2.2.2;have k6:=ui (gs:=gs) (s:=s1) (r:=44);have k7:=km (gs:=gs) (s:=s1) (r:=44);refine zQ 4 ?_;obtain⟨_,st,hev,rfl,hH⟩:=dC (s:=s1) (by omega) 44 hH;refine qv hev ?_ (hg:=wi fu);refine zQ 2 ?_;generalize bE gs s1 44=s2 at*
   have FR:sA gs s s2:=⟨k1.trans Aj.1,k2.trans Aj.2.1,by have:=Aj.2.2.1;omega,k5⟩
   cases hb:bJ gs s1.i 44 with
   |false=>
    have k6:=k6 hb;rw[k6] at hH;refine zQ 2 ?_;exact⟨m,false,s1,_,rfl,hH,FU,Aj,pN,by rw[bV,if_neg (fun h=>by rw[hb] at h;exact absurd h.2 (by simp))]⟩
   |true=>
    have k7:=k7 hb;refine zQ 5 ?_;rw[←k7] at bV
    obtain⟨B,hB⟩:∃B,digS (dD gs s2.i) []=B:=⟨_,rfl⟩
    rw[hB] at bV;refine zQ 3 ?_;obtain⟨_,st,hev,rfl,Ao,hni,hH⟩:=pY (s:=s2) kW k5 hne hH;rw[hB] at hev Ao hni hH;refine qv hev ?_;refine zQ 6 ?_;clear hB;obtain⟨n,b2⟩:=B;dsimp only at bV Ao hni hH;refine zQ 5 ?_;exact⟨n,!decide (0<b2),{s2 with i:=s2.i+b2},_,rfl,hH,k3.trans FU,⟨FR.1,FR.2.1,by have:=FR.2.2.1;show s.i<s2.i+b2;omega,hni⟩,Ao,by rw[bV,if_pos ⟨by omega,hb⟩]⟩
 ·rintro fr st ⟨n,en,s3,tmp,hfr,hH,h1,h2,h3,hG⟩;rw[hfr];clear hfr;generalize iV fr=ee;clear fr;clear bV tu;obtain⟨k1,k2,k3,k4,k5⟩:=fV (gs:=gs) (s:=s3) (r:=125);have k5:=k5 h2.2.2.2
  have Ah:sA gs s (bE gs s3 125):=⟨k1.trans h2.1,k2.trans h2.2.1,by have:=h2.2.2.1;omega,k5⟩
  have Ai:(bE gs s3 125).e=0:=k3.trans h1;have k7:=km (gs:=gs) (s:=s3) (r:=125);unfold lv at hG
  cases ok with
  |false=>
   rw[if_pos rfl] at hG;have bZ:(!false)=true:=rfl;refine zQ 25 ?_;obtain⟨_,st,hev,rfl,s4,QR,hH⟩:=gL _ s3 4 (by decide) h1 h2 hG hH;refine qv hev ?_;refine zQ 6 ?_;refine EvC.ret ⟨rx,_,_,_,rfl,ab (rfl),?_⟩;exact⟨_,_,s4,rfl,QR _ _,a_.af aU hH⟩
  |true=>
   rw[if_neg (by simp)] at hG;have bZ:(!true)=false:=rfl
   cases oO:(!bJ gs s3.i 125) with
   |true=>
    rw[if_pos (by simpa using oO)] at hG;refine zQ 7 ?_;obtain⟨_,st,hev,rfl,hH⟩:=dC (s:=s3) (by omega) 125 hH;refine qv hev ?_ (hg:=wi bZ);refine zQ 12 ?_;generalize bE gs s3 125=s4 at*;refine zQ 5 ?_;obtain⟨_,st,hev,rfl,s5,F9,hH⟩:=gL _ s4 4 (by decide) Ai Ah hG hH;refine qv hev ?_;refine zQ 6 ?_;refine EvC.ret ⟨rx,_,_,_,rfl,ab (rfl),?_⟩;exact⟨_,_,s5,rfl,F9 _ _,a_.af aU hH⟩
   |false=>
    have IV:bJ gs s3.i 125=true:=by simpa using oO
    have k7:=k7 IV;rw[if_neg (by rw[IV];simp)] at hG;rw[←k7] at hG
    cases en with
    |true=>
     rw[if_neg (fun h=>absurd h.1 (by simp))] at hG;have bC:(!true)=false:=rfl;have oJ:=fun st=>kj (s0:=st) m (by omega);have xw:=fun st=>kj (s0:=st) [] (by simp);simp only[if_true] at hG;generalize du m=V1 at*;generalize du []=V2 at*;obtain⟨a1,f1⟩:=V1;obtain⟨b1,f2⟩:=V2;dsimp only at hG oJ xw;refine zQ 7 ?_;obtain⟨_,st,hev,rfl,hH⟩:=dC (s:=s3) (by omega) 125 hH;refine qv hev ?_ (hg:=wi bZ);refine zQ 9 ?_;refine EvO.pickF (wantD_is rfl rfl rfl oO) rfl bC (put_T rfl _) ?_;refine zQ 2 ?_;generalize bE gs s3 125=s4 at*;refine zQ 5 ?_;refine qv ((oJ _)) ?_;refine zQ 18 ?_;refine qv ((xw _)) ?_;refine zQ 8 ?_;refine EvC.cutT 78 (.bool (!f1||!f2)) [] ?_ (fun ff tmp htmp=>?_)
     ·refine zQ 3 ?_;refine EvO.two 75 rfl (fun bZ=>?_) (fun bZ=>?_)
      ·refine zQ 3 ?_;refine EvO.nil (leafT ?_ ?_)
       ·dsimp only[setW,List.foldl,nth,u2,u1]
        all_goals(first|rfl|simp)
       ·refine zF ?_
        all_goals(simp[bZ];done)
      ·refine zQ 3 ?_;refine EvO.nil (leafT ?_ ?_)
       ·dsimp only[setW,List.foldl,nth,u2,u1]
        all_goals(first|rfl|simp)
       ·refine zF ?_
        all_goals(simp[bZ];done)
     dsimp only[setW,List.foldl,nth,u2,u1];refine qc (fun lE=>?_) (fun lE=>?_)<;>try simp only[cs] at lE
     ·rw[if_neg (fun h=>by rw[h.1,h.2] at lE;simp at lE)] at hG;refine zQ 4 ?_;obtain⟨_,st,hev,rfl,s5,F9,hH⟩:=gL _ s4 2 (by decide) Ai Ah hG hH;refine qv hev ?_;refine zQ 6 ?_;refine EvC.ret ⟨rx,_,_,_,rfl,ab (rfl),?_⟩;exact⟨_,_,s5,rfl,F9 _ _,a_.af aU hH⟩
     ·rw[if_pos (by cases f1<;>cases f2<;>simp at lE⊢)] at hG;refine zQ 17 ?_;refine EvC.ret ⟨rx,_,_,_,rfl,ab (rfl),?_⟩;exact⟨_,_,s4,rfl,⟨Ah,.inr ⟨Ai,hG⟩⟩,a_.af aU hH⟩
    |false=>
     have bC:(!false)=true:=rfl;have oJ:=fun st=>kj (s0:=st) m (by omega);have xw:=fun st=>kj (s0:=st) n (by omega);have hle:=fun st=>B3 (s0:=st) n m;have LG:∀(a b:Int),(if false=true then a else b)=b:=fun a b=>if_neg (by simp);have hil:∀(a b:List UInt8),(if false=true then a else b)=b:=fun a b=>if_neg (by simp);rw[LG,hil] at hG;generalize du m=V1 at*;generalize du n=V2 at*;obtain⟨a1,f1⟩:=V1;obtain⟨b1,f2⟩:=V2;dsimp only at hG oJ xw;generalize jT n m=v at*;refine zQ 7 ?_;obtain⟨_,st,hev,rfl,hH⟩:=dC (s:=s3) (by omega) 125 hH;refine qv hev ?_ (hg:=wi bZ);refine zQ 8 ?_;refine qv ((hle _)) ?_ (hg:=wi bC);refine EvO.pickT (wantD_is rfl rfl rfl oO) rfl bC (put_T rfl _) ?_;refine zQ 2 ?_;generalize bE gs s3 125=s4 at*
     cases v with
     |true=>
      rw[if_pos ⟨rfl,rfl⟩] at hG;refine zQ 5 ?_;obtain⟨_,st,hev,rfl,s5,F9,hH⟩:=gL _ s4 4 (by decide) Ai Ah hG hH;refine qv hev ?_;refine zQ 6 ?_;refine EvC.ret ⟨rx,_,_,_,rfl,ab (rfl),?_⟩;exact⟨_,_,s5,rfl,F9 _ _,a_.af aU hH⟩
     |false=>
      rw[if_neg (fun h=>absurd h.2 (by simp))] at hG;refine zQ 5 ?_;refine qv ((oJ _)) ?_;refine zQ 16 ?_;refine qv ((xw _)) ?_;refine zQ 8 ?_;refine EvC.cutT 78 (.bool (!f1||!f2)) [] ?_ (fun ff tmp htmp=>?_)
      ·refine zQ 3 ?_;refine EvO.two 75 rfl (fun bZ=>?_) (fun bZ=>?_)
       ·refine zQ 3 ?_;refine EvO.nil (leafT ?_ ?_)
        ·dsimp only[setW,List.foldl,nth,u2,u1]
         all_goals(first|rfl|simp)
        ·refine zF ?_
         all_goals(simp[bZ];done)
       ·refine zQ 3 ?_;refine EvO.nil (leafT ?_ ?_)
        ·dsimp only[setW,List.foldl,nth,u2,u1]
         all_goals(first|rfl|simp)
        ·refine zF ?_
         all_goals(simp[bZ];done)
      dsimp only[setW,List.foldl,nth,u2,u1];refine qc (fun lE=>?_) (fun lE=>?_)<;>try simp only[cs] at lE
      ·rw[if_neg (fun h=>by rw[h.1,h.2] at lE;simp at lE)] at hG;refine zQ 4 ?_;obtain⟨_,st,hev,rfl,s5,F9,hH⟩:=gL _ s4 2 (by decide) Ai Ah hG hH;refine qv hev ?_;refine zQ 6 ?_;refine EvC.ret ⟨rx,_,_,_,rfl,ab (rfl),?_⟩;exact⟨_,_,s5,rfl,F9 _ _,a_.af aU hH⟩
      ·rw[if_pos (by cases f1<;>cases f2<;>simp at lE⊢)] at hG;refine zQ 15 ?_;refine EvC.ret ⟨rx,_,_,_,rfl,ab (rfl),?_⟩;exact⟨_,_,s4,rfl,⟨Ah,.inr ⟨Ai,hG⟩⟩,a_.af aU hH⟩
def fI (fr:Go.V.Fr) (k:Nat):Go.V.D:=Go.V.nth .junk fr.loc k
abbrev PF:=Nat→Nat→PR (List Nod×Nat)
def jZ (A:PF) (gs:List (Nat×Nat)) (m i g:Nat) (free:Bool) (j:Nat):PR (List Nod×Nat):=
 if m=0 then .er 10 i
 else if free=false∧4≤g then .er 13 i
 else match A j (if free=true then g else g+1) with
  | .er e w=>.er e w
  | .ok (l,g2) j2=>
   if bJ gs j2 41=true then .ok (if free=true then l else dw 6 0 0 false ((g+1:Nat):Int) 1 []::l,g2) (j2+1)
   else .er 4 i
def lH (A:PF) (gs:List (Nat×Nat)) (m i g:Nat):PR (List Nod×Nat):=
 if bJ gs (i+1) 63=true then
  (if bJ gs (i+2) 58=true then jZ A gs m i g true (i+3) else .er 4 i)
 else jZ A gs m i g false (i+1)
theorem ec.to {α:Type} {R:PR α} {aP:List Int} {s s':dI} (h:ec R aP s) (he:s'.e=s.e) (hw:s'.w=s.w):ec R aP s':=by
 obtain⟨e,w,h0,h1,h2,h3⟩:=h;exact⟨e,w,h0,h1,he.trans h2,hw.trans h3⟩
def yd (A:PF) (gs:List (Nat×Nat)) (m:Nat):Prop:=∀{N k:Nat} {S s0:St} {H:List bG} {bj:D} {aP:List Int} {s:dI},kh gs aP→s.e=0→s.i≤gs.length→s.g≤4→s.o+m=20→Has N S s0 (.box k (.mem 0 false (aG gs bj s))::.lst bj 1 (aP.map ah)::H)→
 ∃d ae,Ev pv 44 [.ptr k 0 0] s0 d ae∧∃(s':dI),oV gs aP (A s.i s.g) s s' d∧Has N S ae (.box k (.mem 0 false (aG gs bj s'))::.lst bj 1 (aP.map ah)::H)
theorem Ay {m:Nat} {gs:List (Nat×Nat)} {A:PF} (hA:∀m',m'+1=m→yd A gs m') {N k:Nat} {S s0:St} {H:List bG} {bj:D} {aP:List Int} {s:dI} (hok:kh gs aP) (he:s.e=0) (hi:s.i<gs.length) (hg:s.g≤4) (ho:s.o+m=20) (hH:Has N S s0 (.box k (.mem 0 false (aG gs bj s))::.lst bj 1 (aP.map ah)::H)):
  ∃d ae,Ev pv 86 [.ptr k 0 0] s0 d ae∧∃(s':dI),ie gs aP (lH A gs m s.i s.g) s s' d 2∧Has N S ae (.box k (.mem 0 false (aG gs bj s'))::.lst bj 1 (aP.map ah)::H):=by
 have kW:=hok.gl;have hpl:=hok.pl;refine Ev.gT rfl Mu rfl rfl rfl ?_;refine zE ?_;have a_:=hH;have hH:=hH.aY;have aU:(enterSt .rw s0).bs=s0.bs:=rfl;generalize enterSt .rw s0=S2 at*
 obtain⟨R,hR⟩:∃R,lH A gs m s.i s.g=R:=⟨_,rfl⟩
 rw[hR];unfold lH at hR
 have hwr:∀(st:St) (s3:dI) (e:Int) (H2:List bG),e≠0→s3.e=0→s3.o=s.o→s3.g≤4→s.i≤s3.i→s3.i≤gs.length→R=.er e s.i→Has N S2 st (.box k (.mem 0 false (aG gs bj s3))::.lst bj 1 (aP.map ah)::H2)→∃d ae,Ev pv 45 [.ptr k 0 0,.int .i64 (s.i:Nat),.int .i64 e] st d ae∧d=.sl []∧∃s4,ie gs aP R s s4 (.sl []) 2∧Has N S2 ae (.box k (.mem 0 false (aG gs bj s4))::.lst bj 1 (aP.map ah)::H2):=by
  intro st s3 e H2 h0 h1 h2 h3 h4 h5 hv hH;obtain⟨d,ae,hev,h6,hH⟩:=dP (s:=s3) s.i e (by omega) hH;obtain⟨w1,w2,w3,w4⟩:=fN (aP:=aP) (s:=s3) (i:=s.i) (e:=e) h1 h0 hv;exact⟨d,ae,hev,h6,_,eO (w3.trans h2) (by omega) (by omega) (by omega) w1,hH⟩
 refine zQ 21 ?_;refine qT hH at0 fun st hH=>?_;dsimp only[u2,u1,u3,u4,setMany,u5,u6,D.cells,Nat.reduceAdd,aG,aF,ah,ag,ay] at hH;refine zQ 1 ?_;have hH:Has N S2 st (.box k (.mem 0 false (aG gs bj {s with i:=s.i+1}))::.lst bj 1 (aP.map ah)::H):=hH
 obtain⟨s1,qI⟩:∃s1:dI,({s with i:=s.i+1}:dI)=s1:=⟨_,rfl⟩
 have FT:s1.e=0∧s1.o=s.o∧s1.g=s.g∧s1.i=s.i+1:=by rw[←qI];exact⟨he,rfl,rfl,rfl⟩
 rw[qI] at hH;clear qI;obtain⟨f1,f2,f3,f4⟩:=FT;refine zQ 6 ?_;refine EvC.fF (fun fr st=>∃(free:Bool) (s2:dI) (tmp:List (Nat×D)),fr=⟨7,[.ptr k 0 0,fI fr 1,fI fr 2,.int .i64 (s.i:Nat),.bool free,fI fr 5,fI fr 6],tmp⟩∧Has N S2 st (.box k (.mem 0 false (aG gs bj s2))::.lst bj 1 (aP.map ah)::H)∧(s2.e=0)∧(s2.o=s.o)∧(s2.g=s.g)∧(s.i+1≤s2.i)∧(s2.i≤gs.length)∧(jZ A gs m s.i s.g free s2.i=R)) ?_ ?_
 ·obtain⟨k1,k2,k3,k4,k5⟩:=fV (gs:=gs) (s:=s1) (r:=63);have k5:=k5 (by omega);have k6:=ui (gs:=gs) (s:=s1) (r:=63);have k7:=km (gs:=gs) (s:=s1) (r:=63);refine zQ 2 ?_;obtain⟨_,st,hev,rfl,hH⟩:=dC (s:=s1) (by omega) 63 hH;refine qv hev ?_;refine zQ 1 ?_;generalize bE gs s1 63=s2 at*
  cases hb:bJ gs s1.i 63 with
  |false=>
   refine zQ 2 ?_;exact⟨false,s2,_,rfl,hH,by omega,by omega,by omega,by omega,by omega,(by rw[k6 hb,f4,←hR,if_neg (by rw[←f4,hb];simp)])⟩
  |true=>
   refine zQ 5 ?_;obtain⟨r1,r2,r3,r4,r5⟩:=fV (gs:=gs) (s:=s2) (r:=58);have r5:=r5 k5;have k7:=k7 hb;have r7:=km (gs:=gs) (s:=s2) (r:=58);refine zQ 3 ?_;obtain⟨_,st,hev,rfl,hH⟩:=dC (s:=s2) (by omega) 58 hH;refine qv hev ?_;refine zQ 2 ?_;generalize bE gs s2 58=s3 at*
   cases hb2:bJ gs s2.i 58 with
   |false=>
    refine zQ 5 ?_;obtain⟨_,st,hev,rfl,s4,hN,hH⟩:=hwr _ s3 4 _ (by decide) (by omega) (by omega) (by omega) (by omega) (by omega) (by rw[←hR,if_pos (by rw[←f4];exact hb),if_neg (by rw[show s.i+2=s2.i by omega,hb2];simp)]) hH;refine qv hev ?_;refine zQ 2 ?_;refine EvC.ret ⟨rx,_,_,_,rfl,ab (rfl),?_⟩;exact⟨s4,hN,a_.af aU hH⟩
   |true=>
    refine zQ 2 ?_;exact⟨true,s3,_,rfl,hH,by omega,by omega,by omega,by omega,by omega,(by rw[←hR,if_pos (by rw[←f4];exact hb),if_pos (by rw[show s.i+2=s2.i by omega];exact hb2),show s3.i=s.i+3 by have:=r7 hb2;omega])⟩
 ·rintro fr st ⟨free,s2,tmp,hfr,hH,h1,h2,h3,h4,h5,hG⟩;rw[hfr];clear hfr;generalize fI fr=ee;clear fr;clear hR;refine zQ 9 ?_
  by_cases I1:20≤s2.o
  ·have hcc:decide (((s2.o:Nat):Int)≥20)=true:=by rw[decide_eq_true_eq];omega
   refine qD rfl (by rw[hcc]) ?_;refine zQ 4 ?_;obtain⟨_,st,hev,rfl,s4,hN,hH⟩:=hwr _ s2 10 _ (by decide) h1 h2 (by omega) (by omega) h5 (by rw[←hG];unfold jZ;rw[if_pos (by omega)]) hH;refine qv hev ?_;refine zQ 2 ?_;refine EvC.ret ⟨rx,_,_,_,rfl,ab (rfl),?_⟩;exact⟨s4,hN,a_.af aU hH⟩
  have hcc:decide (((s2.o:Nat):Int)≥20)=false:=by rw[decide_eq_false_iff_not];omega
  refine qE rfl (by rw[hcc]) ?_;refine zQ 3 ?_;refine EvO.go (d:=.agg [.int .i64 6,.nul,.int .i64 0,.int .i64 0,.bool false,.int .i64 0,.int .i64 1]) (st1:=_) rfl rfl rfl (put_T rfl _) ?_;refine qa hH fun k5 st IG hH=>?_;dsimp only[u2,u1,u3,u4,setMany,u5,u6,D.cells,Nat.reduceAdd,aG,aF,ah,ag,ay] at hH;refine qS hH at0 fun st hH=>?_;dsimp only[u2,u1,u3,u4,setMany,u5,u6,D.cells,Nat.reduceAdd,aG,aF,ah,ag,ay] at hH;refine zQ 1 ?_;have hH:Has N S2 st (.box k (.mem 0 false (aG gs bj s2))::.lst bj 1 (aP.map ah)::.box k5 (.mem 0 false [.int .i64 6,.nul,.int .i64 0,.int .i64 0,.bool false,.int .i64 0,.int .i64 1])::H):=mF hH;refine zQ 2 ?_;refine EvC.fF (fun fr st=>∃(cap:Int) (s3:dI) (tmp:List (Nat×D)),fr=⟨7,[.ptr k 0 0,fI fr 1,fI fr 2,.int .i64 (s.i:Nat),.bool free,.ptr k5 0 0,fI fr 6],tmp⟩∧Has N S2 st (.box k (.mem 0 false (aG gs bj s3))::.lst bj 1 (aP.map ah)::.box k5 (.mem 0 false [.int .i64 6,.nul,.int .i64 0,.int .i64 0,.bool false,.int .i64 cap,.int .i64 1])::H)∧(s3.e=0)∧(s3.o=s.o)∧(s3.g≤4)∧(s3.i=s2.i)∧(s3.g=(if free=true then s.g else s.g+1))∧(cap=(if free=true then 0 else((s.g+1:Nat):Int)))∧(¬(free=false∧4≤s.g))) ?_ ?_
  ·refine zQ 4 ?_
   cases free with
   |true=>
    refine zQ 2 ?_;exact⟨0,s2,_,rfl,hH,h1,h2,by omega,rfl,(by rw[if_pos rfl];exact h3),(by rw[if_pos rfl]),(fun h=>absurd h.1 (by simp))⟩
   |false=>
    refine zQ 10 ?_
    by_cases hmany:4≤s2.g
    ·have hcc:decide (((s2.g:Nat):Int)≥4)=true:=by rw[decide_eq_true_eq];omega
     refine qD rfl (by rw[hcc]) ?_;refine zQ 4 ?_;obtain⟨_,st,hev,rfl,s4,hN,hH⟩:=hwr _ s2 13 _ (by decide) h1 h2 (by omega) (by omega) h5 (by rw[←hG];unfold jZ;rw[if_neg (by omega),if_pos ⟨rfl,by omega⟩]) hH;refine qv hev ?_;refine zQ 2 ?_;refine EvC.ret ⟨rx,_,_,_,rfl,ab (rfl),?_⟩;exact⟨s4,hN,a_.af aU (hH.erase 2)⟩
    ·have hcc:decide (((s2.g:Nat):Int)≥4)=false:=by rw[decide_eq_false_iff_not];omega
     refine qE rfl (by rw[hcc]) ?_;refine zQ 10 ?_;refine qT hH at0 fun st hH=>?_;dsimp only[u2,u1,u3,u4,setMany,u5,u6,D.cells,Nat.reduceAdd,aG,aF,ah,ag,ay] at hH;refine zQ 7 ?_;refine qT hH at2 fun st hH=>?_;dsimp only[u2,u1,u3,u4,setMany,u5,u6,D.cells,Nat.reduceAdd,aG,aF,ah,ag,ay] at hH;refine zQ 1 ?_;exact⟨((s2.g+1:Nat):Int),{s2 with g:=s2.g+1},_,rfl,hH,h1,h2,by show s2.g+1≤4;omega,rfl,(by rw[if_neg (by simp)];show s2.g+1=_;omega),(by rw[if_neg (by simp),h3]),(fun h=>by have:=h.2;omega)⟩
  ·rintro fr st ⟨cap,s3,tmp,hfr,hH,e1,e2,e3,e4,e5,e6,e7⟩;rw[hfr];clear hfr;generalize fI fr=ee;clear fr
   have hv:R=match A s3.i s3.g with
    | .er e w=>.er e w
    | .ok (l,g2) j2=>if bJ gs j2 41=true then .ok (if free=true then l else dw 6 0 0 false ((s.g+1:Nat):Int) 1 []::l,g2) (j2+1) else .er 4 s.i:=by
    rw[←hG,e4,e5];unfold jZ;rw[if_neg (by omega),if_neg e7]
   refine zQ 9 ?_;refine qT hH at0 fun st hH=>?_;dsimp only[u2,u1,u3,u4,setMany,u5,u6,D.cells,Nat.reduceAdd,aG,aF,ah,ag,ay] at hH;refine zQ 1 ?_;have hH:Has N S2 st (.box k (.mem 0 false (aG gs bj {s3 with o:=s3.o+1}))::.lst bj 1 (aP.map ah)::.box k5 (.mem 0 false [.int .i64 6,.nul,.int .i64 0,.int .i64 0,.bool false,.int .i64 cap,.int .i64 1])::H):=hH;refine zQ 3 ?_;obtain⟨_,st,hev,s4,⟨a1,a2,a3,a4,l,rfl,a5,a6,a7⟩,hH⟩:=hA (m-1) (by omega) (s:={s3 with o:=s3.o+1}) hok e1 (by show s3.i≤_;omega) e3 (by show s3.o+1+(m-1)=20;omega) hH;refine qv hev ?_;refine zQ 2 ?_;have a7:ec (A s3.i s3.g) aP s4∨s4.e=0∧A s3.i s3.g=.ok (l,s4.g) s4.i:=a7;have a1:s4.o=s3.o+1:=a1;have a3:s3.i≤s4.i:=a3;have a6:l.length≤4*(s4.i-s3.i)+1:=a6;have hla:=(jP a5).arg N S2;refine zQ 6 ?_;refine EvO.jo (z:=((s.o:Nat):Int)) rfl (ev rfl) (ev rfl) (by rw[wrap_i64 (by omega) (by omega)]<;>omega) (put_T rfl _) ?_;refine zQ 2 ?_;refine qT hH at0 fun st hH=>?_;dsimp only[u2,u1,u3,u4,setMany,u5,u6,D.cells,Nat.reduceAdd,aG,aF,ah,ag,ay] at hH;refine zQ 1 ?_
   obtain⟨s5,FQ⟩:∃s5:dI,({s4 with o:=s.o}:dI)=s5:=⟨_,rfl⟩
   have hH:Has N S2 st (.box k (.mem 0 false (aG gs bj s5))::.lst bj 1 (aP.map ah)::.box k5 (.mem 0 false [.int .i64 6,.nul,.int .i64 0,.int .i64 0,.bool false,.int .i64 cap,.int .i64 1])::H):=by rw[←FQ];exact hH
   have FP:s5.o=s.o∧s5.g=s4.g∧s5.i=s4.i∧s5.e=s4.e∧s5.w=s4.w:=by rw[←FQ];exact⟨rfl,rfl,rfl,rfl,rfl⟩
   clear FQ;obtain⟨b1,b2,b3,b4,b5⟩:=FP;refine zQ 2 ?_;refine EvC.fF (fun fr st=>∃(s6:dI) (tmp:List (Nat×D)),fr=⟨7,[.ptr k 0 0,fI fr 1,fI fr 2,fI fr 3,.bool free,.ptr k5 0 0,kT l],tmp⟩∧Has N S2 st (.box k (.mem 0 false (aG gs bj s6))::.lst bj 1 (aP.map ah)::.box k5 (.mem 0 false [.int .i64 6,.nul,.int .i64 0,.int .i64 0,.bool false,.int .i64 cap,.int .i64 1])::H)∧(s6.o=s.o)∧(s6.g≤4)∧(s4.i≤s6.i)∧(s6.i≤gs.length)∧(ec R aP s6∨s6.e=0∧s4.i<s6.i∧R=.ok (if free=true then l else dw 6 0 0 false ((s.g+1:Nat):Int) 1 []::l,s6.g) s6.i)) ?_ ?_
   ·by_cases JV:s5.e=0
    ·have cQ:(s5.e==0)=true:=by simpa using JV
     have a8:A s3.i s3.g=.ok (l,s4.g) s4.i:=by
      rcases a7 with a7|a7
      ·exact absurd (b4.symm.trans JV) a7.ne
      ·exact a7.2
     rw[a8] at hv;simp only at hv;rw[←b3] at hv;obtain⟨k1,k2,k3,k4,Od⟩:=fV (gs:=gs) (s:=s5) (r:=41);have Od:=Od (by omega);have FN:bJ gs s5.i 41=true→(bE gs s5 41).i=s5.i+1:=fun h=>by unfold bE;rw[if_pos h]
     refine zQ 8 ?_;obtain⟨_,st,hev,rfl,hH⟩:=dC (s:=s5) (by omega) 41 hH;refine qv hev ?_ (hg:=wi cQ);refine zQ 3 ?_;generalize bE gs s5 41=s6 at*
     cases hb:bJ gs s5.i 41 with
     |false=>
      refine zQ 5 ?_;obtain⟨_,st,hev,rfl,s7,hN,hH⟩:=hwr _ s6 4 _ (by decide) (by omega) (by omega) (by omega) (by omega) (by omega) (by rw[hv,if_neg (by rw[hb];simp)]) hH;refine qv hev ?_;refine zQ 2 ?_;refine EvC.ret ⟨rx,_,_,_,rfl,ab (rfl),?_⟩;exact⟨s7,hN,a_.af aU (hH.erase 2)⟩
     |true=>
      have FN:=FN hb;refine zQ 2 ?_;exact⟨s6,_,rfl,hH,by omega,by omega,by omega,by omega,.inr ⟨by omega,by omega,by rw[hv,if_pos hb,FN,show s6.g=s4.g by omega]⟩⟩
    ·have cQ:(s5.e==0)=false:=by simpa using JV
     have RN:¬s5.e=0→ec R aP s4:=fun h=>by
      rcases a7 with a7|a7
      ·exact a7.map fun e w hw=>by rw[hv,hw]
      ·exact absurd (b4.trans a7.1) h
     refine zQ 14 ?_;exact⟨s5,_,rfl,hH,b1,by omega,by omega,by omega,.inl ((RN JV).to b4 b5)⟩
   ·rintro fr st ⟨s6,tmp,hfr,hH,c1,c2,c3,c4,c5⟩;rw[hfr];clear hfr;generalize fI fr=ee;clear fr;refine zQ 5 ?_
    cases free with
    |true=>
     refine zQ 6 ?_;refine EvC.ret ⟨rx,_,_,_,rfl,ab (rfl),?_⟩;refine⟨s6,⟨c1,c2,by omega,c4,l,rfl,a5,by omega,?_⟩,a_.af aU (hH.erase 2)⟩
     rcases c5 with c5|⟨c5,c6,c7⟩
     ·exact .inl c5
     ·exact .inr ⟨c5,by rw[c7,if_pos rfl],by omega⟩
    |false=>
     refine zQ 4 ?_;refine EvO.hloadS (m:=7) hH rfl (ev rfl) (by exact at2) (by dsimp only[List.drop_succ_cons,List.drop_zero,List.take_succ_cons,List.take_zero,aG,aF,ah,ag,ay]<;>rfl) rfl rfl (put_T rfl _) ?_;refine qh (s:=7) (vs:=[_]) hH fun k89 st Q0 hH=>?_;dsimp only[u2,u1,u3,u4,setMany,u5,u6,D.cells,Nat.reduceAdd,aG,aF,ah,ag,ay] at hH;refine qm ?_;refine EvO.gD (s:=7) hH rfl (ev rfl) (ev rfl) at0 ((jP a5).rows st) rfl rfl rfl rfl rfl rfl rfl ⟨(Nat.le_of_ble_eq_true rfl),(Nat.le_of_ble_eq_true rfl)⟩ (fun _=>(put_T rfl _)) (by simp only[List.length_map,List.length_cons,List.length_nil];omega) (.inr (kC a5)) (fun k hk=>by have jv:k89+1=k+1:=hk;omega) (fun O8 st q_ hH=>?_);dsimp only[u2] at hH;refine zQ 2 ?_;have hH:Has N S2 st (.lst O8 7 ([.int .i64 6,.nul,.int .i64 0,.int .i64 0,.bool false,.int .i64 cap,.int .i64 1]::l.map ay)::.box k (.mem 0 false (aG gs bj s6))::.lst bj 1 (aP.map ah)::.box k5 (.mem 0 false [.int .i64 6,.nul,.int .i64 0,.int .i64 0,.bool false,.int .i64 cap,.int .i64 1])::H):=hH
     have hfz:=dW (L:=s0.bs.length) (l:=dw 6 0 0 false cap 1 []::l) hH at0 (by rw[List.map_cons,kD a5];rfl) (fun e he d hd=>by
      rcases List.mem_cons.1 he with rfl|he
      ·simp only[List.mem_cons,List.not_mem_nil,or_false] at hd
       rcases hd with rfl|rfl|rfl|rfl|rfl|rfl|rfl<;>rfl
      ·exact iw a5 e he d hd) (fun k hk=>by rw[←aU];exact q_ k hk) (n:=16) (by decide)
     refine EvC.ret ⟨rx,_,_,_,rfl,ab hfz,⟨s6,⟨c1,c2,by omega,c4,_,rfl,?_,by simp only[List.length_cons];omega,?_⟩,a_.af aU ((hH.drop 1).erase 2)⟩⟩
     ·intro n hn
      rcases List.mem_cons.1 hn with rfl|hn
      ·exact⟨rfl,by simp[dw],by simp[dw]⟩
      ·exact a5 n hn
     ·rcases c5 with c5|⟨c5,c6,c7⟩
      ·exact .inl c5
      ·exact .inr ⟨c5,by rw[c7,if_neg (by simp),e6,if_neg (by simp)],by simp only[List.length_cons];omega⟩
def xn (fr:Go.V.Fr) (k:Nat):Go.V.D:=Go.V.nth .junk fr.loc k
noncomputable def HI (r:Int):List Rg:=bp [(r,r)]
noncomputable def iH (A:PF) (gs:List (Nat×Nat)) (m i g:Nat) (r:Int):PR (List Nod×Nat):=
 if r=40 then lH A gs m i g
 else if r=91 then vW gs i g
 else if r=92 then
  match ir gs i with
  | .er e w=>.er e w
  | .ok (a,_) j=>.ok ([xV a],g) j
 else if r=46 then .ok ([xV ot],g) (i+1)
 else if r=94 then .ok ([dw 7 0 0 false 0 0 []],g) (i+1)
 else if r=36 then .ok ([dw 8 0 0 false 0 0 []],g) (i+1)
 else if r=42∨r=43∨r=63∨r=41∨r=93∨r=123∨r=125∨r=124 then .er 4 i
 else .ok ([xV (HI r)],g) (i+1)
noncomputable def n9 (A:PF) (gs:List (Nat×Nat)) (m i g:Nat):PR (List Nod×Nat):=
 match gs[i]? with
 |none=>.er 4 i
 |some q=>if tQ gs i=true then .er 4 i else iH A gs m i g ((q.1:Nat):Int)
def oa (gs:List (Nat×Nat)) (l:List Nod) (g:Nat) (mn mx:Int) (j:Nat):PR (List Nod×Nat):=
 .ok (dw 5 mn mx (bJ gs j 63) 0 1 []::l,g) (if bJ gs j 63=true then j+1 else j)
noncomputable def Fo (gs:List (Nat×Nat)) (l:List Nod) (g j:Nat):PR (List Nod×Nat):=
 if bJ gs j 42=true then oa gs l g 0 (-1) (j+1)
 else if bJ gs j 43=true then oa gs l g 1 (-1) (j+1)
 else if bJ gs j 63=true then oa gs l g 0 1 (j+1)
 else if bJ gs j 123=true then
  match lx gs j with
  | .er e w=>.er e w
  | .ok (mn,mx) j2=>oa gs l g mn mx j2
 else .ok (l,g) j
noncomputable def sN (A:PF) (gs:List (Nat×Nat)) (m i g:Nat):PR (List Nod×Nat):=
 match n9 A gs m i g with
 | .er e w=>.er e w
 | .ok (l,g1) j=>Fo gs l g1 j
theorem C' {m:Nat} {gs:List (Nat×Nat)} {A:PF} (hA:∀m',m'+1=m→yd A gs m') {N k:Nat} {S s0:St} {H:List bG} {bj:D} {aP:List Int} {s:dI} (hok:kh gs aP) (he:s.e=0) (hi:s.i<gs.length) (hg:s.g≤4) (ho:s.o+m=20) (hH:Has N S s0 (.box k (.mem 0 false (aG gs bj s))::.lst bj 1 (aP.map ah)::H)):
  ∃d ae,Ev pv 81 [.ptr k 0 0] s0 d ae∧∃(s':dI),ie gs aP (n9 A gs m s.i s.g) s s' d 2∧Has N S ae (.box k (.mem 0 false (aG gs bj s'))::.lst bj 1 (aP.map ah)::H):=by
 have kW:=hok.gl;have hpl:=hok.pl;refine Ev.gT rfl Mx rfl rfl rfl ?_;refine zE ?_;have a_:=hH;have hH:=hH.aY;have aU:(enterSt .rw s0).bs=s0.bs:=rfl;generalize enterSt .rw s0=S2 at*;have Ct:Arg N S2 2 (eo gs) (gs.map aF):=Arg.pure (fun st=>dt st gs)
 obtain⟨g,vG⟩:∃g,gs[s.i]?=some g:=⟨gs[s.i]'hi,List.getElem?_eq_getElem _⟩
 have hr1:(gs.map aF)[s.i]?=some (aF g):=by rw[List.getElem?_map,vG];rfl
 obtain⟨R,hR⟩:∃R,n9 A gs m s.i s.g=R:=⟨_,rfl⟩
 rw[hR];unfold n9 at hR;rw[vG] at hR;simp only at hR
 have hwr:∀(st:St),R=.er 4 s.i→Has N S2 st (.box k (.mem 0 false (aG gs bj s))::.lst bj 1 (aP.map ah)::H)→∃d ae,Ev pv 45 [.ptr k 0 0,.int .i64 (s.i:Nat),.int .i64 4] st d ae∧d=.sl []∧∃s4,ie gs aP R s s4 (.sl []) 2∧Has N S2 ae (.box k (.mem 0 false (aG gs bj s4))::.lst bj 1 (aP.map ah)::H):=by
  intro st hv hH;obtain⟨d,ae,hev,h6,hH⟩:=dP (s:=s) s.i 4 (by omega) hH;obtain⟨w1,w2,w3,w4⟩:=fN (aP:=aP) (s:=s) (i:=s.i) (e:=4) he (by decide) hv;exact⟨d,ae,hev,h6,_,eO w3 (by omega) (by omega) (by omega) w1,hH⟩
 have fY:∀(st:St) (s1:dI) (op:Int) (w:D) (a:List Rg) (kk:Nat),(w=aA a∨w=.nul∧a=[])→a.length≤1048576→s1.o=s.o→s1.g≤4→s.i<s1.i→s1.i≤gs.length→s1.e=0→R=.ok ([dw op 0 0 false 0 0 a],s1.g) s1.i→S2.bs.length≤kk→Has N S2 st (.lst (.win kk 0 0 1 7) 7 [[.int .i64 op,w,.int .i64 0,.int .i64 0,.bool false,.int .i64 0,.int .i64 0]]::.box k (.mem 0 false (aG gs bj s1))::.lst bj 1 (aP.map ah)::H)→
   ∃d ae,b8 .rw false s0 st (.win kk 0 0 1 7)=some (d,ae)∧∃(s':dI),ie gs aP R s s' d 2∧Has N S ae (.box k (.mem 0 false (aG gs bj s'))::.lst bj 1 (aP.map ah)::H):=by
  intro st s1 op w a kk hw ha h1 h2 h3 h4 he1 hv hk hH;have hfz:=eX hH at0 (L:=s0.bs.length) hw (fun k hk=>by simp only[D.ref] at hk;rw[←aU];omega);refine⟨_,_,ab hfz,s1,⟨h1,h2,by omega,h4,_,rfl,s8 ha (by omega),by simp,?_⟩,a_.af aU (hH.drop 1)⟩;exact .inr ⟨he1,hv,by simp only[List.length_cons,List.length_nil];omega⟩
 refine zQ 17 ?_;obtain⟨_,st,hev,rfl,hH⟩:=x7 (s:=s) s.i hi hH;refine qv hev ?_;refine zQ 1 ?_;refine qc (fun hb=>?_) (fun hb=>?_)<;>try simp only[cs] at hb
 ·rw[if_pos hb] at hR;refine zQ 4 ?_;obtain⟨_,st,hev,rfl,s4,hN,hH⟩:=hwr _ hR.symm hH;refine qv hev ?_;refine zQ 2 ?_;refine EvC.ret ⟨rx,_,_,_,rfl,ab (rfl),?_⟩;exact⟨s4,hN,a_.af aU hH⟩
 rw[if_neg (by rw[hb];simp)] at hR;unfold iH at hR;refine zQ 8 ?_;refine qr fun G4 Am=>?_;refine qf (fo:=0) fun HF Cl=>?_;refine zQ 13 ?_;refine zI (fun GZ=>?_) fun GZ=>?_
 ·rw[if_pos GZ] at hR;refine zQ 3 ?_;obtain⟨_,st,hev,s4,⟨p1,p2,p3,p4,l,rfl,p5,p6,p7⟩,hH⟩:=Ay hA hok he hi hg ho hH;refine qv hev ?_;refine zQ 2 ?_;rw[hR] at p7;refine EvC.ret ⟨rx,_,_,_,rfl,ab (rfl),?_⟩;exact⟨s4,⟨p1,p2,p3,p4,l,rfl,p5,p6,p7⟩,a_.af aU hH⟩
 rw[if_neg GZ] at hR;refine zQ 5 ?_;refine zI (fun wx=>?_) fun wx=>?_
 ·rw[if_pos wx] at hR;refine zQ 3 ?_;obtain⟨_,st,hev,s4,⟨p1,p2,p3,p4,l,rfl,p5,p6,p7⟩,hH⟩:=AM hok he hi hg hH;refine qv hev ?_;refine zQ 2 ?_;rw[hR] at p7;refine EvC.ret ⟨rx,_,_,_,rfl,ab (rfl),?_⟩;exact⟨s4,⟨p1,p2,p3,p4,l,rfl,p5,p6,p7⟩,a_.af aU hH⟩
 rw[if_neg wx] at hR;refine zQ 5 ?_;refine zI (fun GX=>?_) fun GX=>?_
 ·rw[if_pos GX] at hR;refine zQ 3 ?_;obtain⟨_,st,hev,d1,b,s4,rfl,⟨p1,p2,p3,p4,p5⟩,hH⟩:=uj (s:=s) hok he hi hH;refine qv hev ?_;refine zQ 6 ?_
  have Ef:∀(st:St) (w:D) (a:List Rg) (kk:Nat),(w=aA a∨w=.nul∧a=[])→a.length≤8→(ec R aP s4∨s4.e=0∧s.i<s4.i∧R=.ok ([xV a],s4.g) s4.i)→S2.bs.length≤kk→Has N S2 st (.lst (.win kk 0 0 1 7) 7 [[.int .i64 2,w,.int .i64 0,.int .i64 0,.bool false,.int .i64 0,.int .i64 0]]::.box k (.mem 0 false (aG gs bj s4))::.lst bj 1 (aP.map ah)::H)→∃d ae,b8 .rw false s0 st (.win kk 0 0 1 7)=some (d,ae)∧∃(s':dI),ie gs aP R s s' d 2∧Has N S ae (.box k (.mem 0 false (aG gs bj s'))::.lst bj 1 (aP.map ah)::H):=by
   intro st w a kk hw ha p6 hk hH;have hfz:=eX hH at0 (L:=s0.bs.length) hw (fun k hk=>by simp only[D.ref] at hk;rw[←aU];omega);refine⟨_,_,ab hfz,s4,⟨p1,by omega,by omega,p4,_,rfl,s8 (by omega) (by omega),by simp,?_⟩,a_.af aU (hH.drop 1)⟩
   rcases p6 with p6|⟨p6,p7,p8⟩
   ·exact .inl p6
   ·exact .inr ⟨p6,p8,by simp only[List.length_cons,List.length_nil];omega⟩
  rcases p5 with⟨p5,rfl⟩|⟨p5,p6,a,p7,rfl,ha,_⟩
  ·refine zQ 3 ?_;refine EvO.c9 (qs:=[(0,_),(1,_)]) rfl rfl rfl rfl ⟨rfl,(ev rfl),(by rfl),rfl,(ev rfl),(by rfl),trivial⟩ (by intro q hq;simp only[List.mem_cons,List.not_mem_nil,or_false] at hq;rcases hq with rfl|rfl<;>exact⟨rfl,by exact Nat.le_of_ble_eq_true rfl⟩) (by show List.foldl _ [_,_,_,_,_,_,_] _=_;dsimp only[List.foldl_cons,List.foldl_nil,u2,u1]<;>rfl) (put_T rfl _) ?_;refine qh (s:=7) (vs:=[_]) hH fun k54 st Cr hH=>?_;dsimp only[u2,u1,u3,u4,setMany,u5,u6,D.cells,Nat.reduceAdd,aG,aF,ah,ag,ay] at hH;refine zQ 2 ?_;obtain⟨d',ae,ju,dn⟩:=Ef _ .nul [] k54 (.inr ⟨rfl,rfl⟩) (by simp) (.inl (p5.map fun e w h=>by rw[←hR,h])) Cr hH;refine EvC.ret ⟨rx,_,d',ae,rfl,ju,dn⟩
  ·refine zQ 3 ?_;refine EvO.c9 (qs:=[(0,_),(1,_)]) rfl rfl rfl rfl ⟨rfl,(ev rfl),(by rfl),rfl,(ev rfl),(by rfl),trivial⟩ (by intro q hq;simp only[List.mem_cons,List.not_mem_nil,or_false] at hq;rcases hq with rfl|rfl<;>exact⟨rfl,by exact Nat.le_of_ble_eq_true rfl⟩) (by show List.foldl _ [_,_,_,_,_,_,_] _=_;dsimp only[List.foldl_cons,List.foldl_nil,u2,u1]<;>rfl) (put_T rfl _) ?_;refine qh (s:=7) (vs:=[_]) hH fun k54 st Cr hH=>?_;dsimp only[u2,u1,u3,u4,setMany,u5,u6,D.cells,Nat.reduceAdd,aG,aF,ah,ag,ay] at hH;refine zQ 2 ?_;obtain⟨d',ae,ju,dn⟩:=Ef _ (aA a) a k54 (.inl rfl) ha (.inr ⟨p5,p6,by rw[←hR,p7,p2]⟩) Cr hH;refine EvC.ret ⟨rx,_,d',ae,rfl,ju,dn⟩
 rw[if_neg GX] at hR;refine zQ 5 ?_;refine zI (fun GY=>?_) fun GY=>?_
 ·rw[if_pos GY] at hR;refine zQ 9 ?_;refine qT hH at0 fun st hH=>?_;dsimp only[u2,u1,u3,u4,setMany,u5,u6,D.cells,Nat.reduceAdd,aG,aF,ah,ag,ay] at hH;refine zQ 1 ?_;obtain⟨LS,hla⟩:=zf (s0:=st);refine zQ 2 ?_;refine qv (LS) ?_;refine EvO.c9 (qs:=[(0,_),(1,_)]) rfl rfl rfl rfl ⟨rfl,(ev rfl),(by rfl),rfl,(ev rfl),(by rfl),trivial⟩ (by intro q hq;simp only[List.mem_cons,List.not_mem_nil,or_false] at hq;rcases hq with rfl|rfl<;>exact⟨rfl,by exact Nat.le_of_ble_eq_true rfl⟩) (by show List.foldl _ [_,_,_,_,_,_,_] _=_;dsimp only[List.foldl_cons,List.foldl_nil,u2,u1]<;>rfl) (put_T rfl _) ?_;refine qh (s:=7) (vs:=[_]) hH fun k66 st Lu hH=>?_;refine zQ 2 ?_;obtain⟨d',ae,ju,dn⟩:=fY _ {s with i:=s.i+1} 2 (aA ot) ot k66 (.inl rfl) (by omega) rfl hg (by show s.i<s.i+1;omega) (by show s.i+1≤_;omega) he hR.symm Lu hH;refine EvC.ret ⟨rx,_,d',ae,rfl,ju,dn⟩
 rw[if_neg GY] at hR;refine zQ 5 ?_;refine zI (fun GW=>?_) fun GW=>?_
 ·rw[if_pos GW] at hR;refine zQ 9 ?_;refine qT hH at0 fun st hH=>?_;dsimp only[u2,u1,u3,u4,setMany,u5,u6,D.cells,Nat.reduceAdd,aG,aF,ah,ag,ay] at hH;refine zQ 3 ?_;refine EvO.go (d:=.agg [.int .i64 7,.nul,.int .i64 0,.int .i64 0,.bool false,.int .i64 0,.int .i64 0]) (st1:=_) rfl rfl rfl (put_T rfl _) ?_;refine qh (s:=7) (vs:=[_]) hH fun k77 st Lr hH=>?_;refine zQ 2 ?_;obtain⟨d',ae,ju,dn⟩:=fY _ {s with i:=s.i+1} 7 .nul [] k77 (.inr ⟨rfl,rfl⟩) (by simp) rfl hg (by show s.i<s.i+1;omega) (by show s.i+1≤_;omega) he hR.symm Lr hH;refine EvC.ret ⟨rx,_,d',ae,rfl,ju,dn⟩
 rw[if_neg GW] at hR;refine zQ 5 ?_;refine zI (fun G0=>?_) fun G0=>?_
 ·rw[if_pos G0] at hR;refine zQ 9 ?_;refine qT hH at0 fun st hH=>?_;dsimp only[u2,u1,u3,u4,setMany,u5,u6,D.cells,Nat.reduceAdd,aG,aF,ah,ag,ay] at hH;refine zQ 3 ?_;refine EvO.go (d:=.agg [.int .i64 8,.nul,.int .i64 0,.int .i64 0,.bool false,.int .i64 0,.int .i64 0]) (st1:=_) rfl rfl rfl (put_T rfl _) ?_;refine qh (s:=7) (vs:=[_]) hH fun k88 st IE hH=>?_;refine zQ 2 ?_;obtain⟨d',ae,ju,dn⟩:=fY _ {s with i:=s.i+1} 8 .nul [] k88 (.inr ⟨rfl,rfl⟩) (by simp) rfl hg (by show s.i<s.i+1;omega) (by show s.i+1≤_;omega) he hR.symm IE hH;refine EvC.ret ⟨rx,_,d',ae,rfl,ju,dn⟩
 rw[if_neg G0] at hR;have hbad:((((g.1:Nat):Int))=42∨(((g.1:Nat):Int))=43∨(((g.1:Nat):Int))=63∨(((g.1:Nat):Int))=41∨(((g.1:Nat):Int))=93∨(((g.1:Nat):Int))=123∨(((g.1:Nat):Int))=125∨(((g.1:Nat):Int))=124)→R=.er 4 s.i:=fun h=>by rw[←hR,if_pos h]
 refine zQ 6 ?_
 by_cases GJ:((g.1:Nat):Int)=42
 ·refine qD rfl (by simp[GJ]) ?_;refine zQ 1 ?_;refine qD rfl (by simp[GJ]) ?_;refine zQ 4 ?_;obtain⟨_,st,hev,rfl,s4,hN,hH⟩:=hwr _ (hbad (by omega)) hH;refine qv hev ?_;refine zQ 2 ?_;refine EvC.ret ⟨rx,_,_,_,rfl,ab (rfl),?_⟩;exact⟨s4,hN,a_.af aU hH⟩
 refine qE rfl (by simp[GJ]) ?_;refine zQ 5 ?_
 by_cases GI:((g.1:Nat):Int)=43
 ·refine qD rfl (by simp[GI]) ?_;refine zQ 1 ?_;refine qD rfl (by simp[GI]) ?_;refine zQ 4 ?_;obtain⟨_,st,hev,rfl,s4,hN,hH⟩:=hwr _ (hbad (by omega)) hH;refine qv hev ?_;refine zQ 2 ?_;refine EvC.ret ⟨rx,_,_,_,rfl,ab (rfl),?_⟩;exact⟨s4,hN,a_.af aU hH⟩
 refine qE rfl (by simp[GI]) ?_;refine zQ 5 ?_
 by_cases GH:((g.1:Nat):Int)=63
 ·refine qD rfl (by simp[GH]) ?_;refine zQ 1 ?_;refine qD rfl (by simp[GH]) ?_;refine zQ 4 ?_;obtain⟨_,st,hev,rfl,s4,hN,hH⟩:=hwr _ (hbad (by omega)) hH;refine qv hev ?_;refine zQ 2 ?_;refine EvC.ret ⟨rx,_,_,_,rfl,ab (rfl),?_⟩;exact⟨s4,hN,a_.af aU hH⟩
 refine qE rfl (by simp[GH]) ?_;refine zQ 5 ?_
 by_cases GK:((g.1:Nat):Int)=41
 ·refine qD rfl (by simp[GK]) ?_;refine zQ 1 ?_;refine qD rfl (by simp[GK]) ?_;refine zQ 4 ?_;obtain⟨_,st,hev,rfl,s4,hN,hH⟩:=hwr _ (hbad (by omega)) hH;refine qv hev ?_;refine zQ 2 ?_;refine EvC.ret ⟨rx,_,_,_,rfl,ab (rfl),?_⟩;exact⟨s4,hN,a_.af aU hH⟩
 refine qE rfl (by simp[GK]) ?_;refine zQ 5 ?_
 by_cases GG:((g.1:Nat):Int)=93
 ·refine qD rfl (by simp[GG]) ?_;refine zQ 1 ?_;refine qD rfl (by simp[GG]) ?_;refine zQ 4 ?_;obtain⟨_,st,hev,rfl,s4,hN,hH⟩:=hwr _ (hbad (by omega)) hH;refine qv hev ?_;refine zQ 2 ?_;refine EvC.ret ⟨rx,_,_,_,rfl,ab (rfl),?_⟩;exact⟨s4,hN,a_.af aU hH⟩
 refine qE rfl (by simp[GG]) ?_;refine zQ 5 ?_
 by_cases xY:((g.1:Nat):Int)=123
 ·refine qD rfl (by simp[xY]) ?_;refine zQ 1 ?_;refine qD rfl (by simp[xY]) ?_;refine zQ 4 ?_;obtain⟨_,st,hev,rfl,s4,hN,hH⟩:=hwr _ (hbad (by omega)) hH;refine qv hev ?_;refine zQ 2 ?_;refine EvC.ret ⟨rx,_,_,_,rfl,ab (rfl),?_⟩;exact⟨s4,hN,a_.af aU hH⟩
 refine qE rfl (by simp[xY]) ?_;refine zQ 5 ?_
 by_cases xX:((g.1:Nat):Int)=125
 ·refine qD rfl (by simp[xX]) ?_;refine zQ 1 ?_;refine qD rfl (by simp[xX]) ?_;refine zQ 4 ?_;obtain⟨_,st,hev,rfl,s4,hN,hH⟩:=hwr _ (hbad (by omega)) hH;refine qv hev ?_;refine zQ 2 ?_;refine EvC.ret ⟨rx,_,_,_,rfl,ab (rfl),?_⟩;exact⟨s4,hN,a_.af aU hH⟩
 refine qE rfl (by simp[xX]) ?_;refine zQ 4 ?_
 by_cases AO:((g.1:Nat):Int)=124
 ·refine qD rfl (by simp[AO]) ?_;refine zQ 4 ?_;obtain⟨_,st,hev,rfl,s4,hN,hH⟩:=hwr _ (hbad (by omega)) hH;refine qv hev ?_;refine zQ 2 ?_;refine EvC.ret ⟨rx,_,_,_,rfl,ab (rfl),?_⟩;exact⟨s4,hN,a_.af aU hH⟩
 refine qE rfl (by simp[AO]) ?_;rw[if_neg (by omega)] at hR;refine zQ 9 ?_;refine qT hH at0 fun st hH=>?_;dsimp only[u2,u1,u3,u4,setMany,u5,u6,D.cells,Nat.reduceAdd,aG,aF,ah,ag,ay] at hH;refine zQ 1 ?_;obtain⟨_,pN,_⟩:=kZ (s0:=s0) (x:=aA [(((g.1:Nat):Int),((g.1:Nat):Int))]) (l:=[(((g.1:Nat):Int),((g.1:Nat):Int))]) (cG _ _) (by simp);simp only[List.length_cons,List.length_nil] at pN;refine zQ 3 ?_;refine qv (iq _) ?_;refine EvO.c9 (qs:=[(0,_),(1,_)]) rfl rfl rfl rfl ⟨rfl,(ev rfl),(by rfl),rfl,(ev rfl),(by rfl),trivial⟩ (by intro q hq;simp only[List.mem_cons,List.not_mem_nil,or_false] at hq;rcases hq with rfl|rfl<;>exact⟨rfl,by exact Nat.le_of_ble_eq_true rfl⟩) (by show List.foldl _ [_,_,_,_,_,_,_] _=_;dsimp only[List.foldl_cons,List.foldl_nil,u2,u1]<;>rfl) (put_T rfl _) ?_;refine qh (s:=7) (vs:=[_]) hH fun k36 st IK hH=>?_;refine zQ 2 ?_;obtain⟨d',ae,ju,dn⟩:=fY _ {s with i:=s.i+1} 2 _ (bp [(((g.1:Nat):Int),((g.1:Nat):Int))]) k36 (.inl rfl) (by omega) rfl hg (by show s.i<s.i+1;omega) (by show s.i+1≤_;omega) he hR.symm IK hH;refine EvC.ret ⟨rx,_,d',ae,rfl,ju,dn⟩
theorem yt {m:Nat} {gs:List (Nat×Nat)} {A:PF} (hA:∀m',m'+1=m→yd A gs m') {N k:Nat} {S s0:St} {H:List bG} {bj:D} {aP:List Int} {s:dI} (hok:kh gs aP) (he:s.e=0) (hi:s.i<gs.length) (hg:s.g≤4) (ho:s.o+m=20) (hH:Has N S s0 (.box k (.mem 0 false (aG gs bj s))::.lst bj 1 (aP.map ah)::H)):
  ∃d ae,Ev pv 70 [.ptr k 0 0] s0 d ae∧∃(s':dI),ie gs aP (sN A gs m s.i s.g) s s' d 1∧Has N S ae (.box k (.mem 0 false (aG gs bj s'))::.lst bj 1 (aP.map ah)::H):=by
 have kW:=hok.gl;have hpl:=hok.pl;refine Ev.gT rfl MG rfl rfl rfl ?_;refine zE ?_;have a_:=hH;have hH:=hH.aY;have aU:(enterSt .rw s0).bs=s0.bs:=rfl;generalize enterSt .rw s0=S2 at*
 obtain⟨R,hR⟩:∃R,sN A gs m s.i s.g=R:=⟨_,rfl⟩
 rw[hR];unfold sN at hR;refine zQ 7 ?_;obtain⟨_,st,hev,s1,⟨p1,p2,p3,p4,l,rfl,p5,p6,p7⟩,hH⟩:=C' hA hok he hi hg ho hH;refine qv hev ?_;refine zQ 11 ?_
 rcases p7 with p7|⟨p7,p9,p8⟩
 ·have hne:=p7.ne;refine qD rfl (by simp[hne]) ?_;refine zQ 4 ?_;refine EvC.ret ⟨rx,_,_,_,rfl,ab (rfl),?_⟩;exact⟨s1,eO p1 p2 p3 p4 (p7.map fun e w h=>by rw[←hR,h]),a_.af aU hH⟩
 rw[p9] at hR;simp only at hR;unfold Fo at hR;refine qE rfl (by simp[p7]) ?_;refine zQ 3 ?_;refine EvO.go (d:=.agg [.int .i64 5,.nul,.int .i64 0,.int .i64 0,.bool false,.int .i64 0,.int .i64 1]) (st1:=_) rfl rfl rfl (put_T rfl _) ?_;refine qa hH fun k4 st IJ hH=>?_;dsimp only[u2,u1,u3,u4,setMany,u5,u6,D.cells,Nat.reduceAdd,aG,aF,ah,ag,ay] at hH;refine qS hH at0 fun st hH=>?_;dsimp only[u2,u1,u3,u4,setMany,u5,u6,D.cells,Nat.reduceAdd,aG,aF,ah,ag,ay] at hH;refine zQ 1 ?_;have hH:Has N S2 st (.box k (.mem 0 false (aG gs bj s1))::.lst bj 1 (aP.map ah)::.box k4 (.mem 0 false [.int .i64 5,.nul,.int .i64 0,.int .i64 0,.bool false,.int .i64 0,.int .i64 1])::H):=mF hH;refine qq<|EvC.merge (fun fr st=>∃(mn mx:Int) (s2:dI) (tmp:List (Nat×D)),fr=⟨5,[.ptr k 0 0,xn fr 1,xn fr 2,kT l,.ptr k4 0 0],tmp⟩∧Has N S2 st (.box k (.mem 0 false (aG gs bj s2))::.lst bj 1 (aP.map ah)::.box k4 (.mem 0 false [.int .i64 5,.nul,.int .i64 mn,.int .i64 mx,.bool false,.int .i64 0,.int .i64 1])::H)∧(s2.o=s.o)∧(s2.g≤4)∧(s1.i<s2.i)∧(s2.i≤gs.length)∧(ec R aP s2∨s2.e=0∧R=oa gs l s2.g mn mx s2.i)) ?_ ?_
 ·refine zQ 4 ?_;obtain⟨_,st,hev,rfl,hH⟩:=dC (s:=s1) (by omega) 42 hH;refine qv hev ?_;refine zQ 2 ?_
  cases hb1:bJ gs s1.i 42 with
  |true=>
   obtain⟨k1,k2,k3,Ks,k5⟩:=fV (gs:=gs) (s:=s1) (r:=42);have k6:=lU hb1;have k7:=k5 p4;generalize bE gs s1 42=s2 at*;refine zQ 3 ?_;refine qT hH at2 fun st hH=>?_;dsimp only[u2,u1,u3,u4,setMany,u5,u6,D.cells,Nat.reduceAdd,aG,aF,ah,ag,ay] at hH;refine zQ 1 ?_;exact⟨0,-1,s2,_,rfl,hH,by omega,by omega,by omega,k7,.inr ⟨by omega,by rw[←hR,if_pos hb1,k6,show s2.g=s1.g by omega]⟩⟩
  |false=>
   rw[oC hb1] at hH;rw[if_neg (by rw[hb1];simp)] at hR;refine zQ 4 ?_;obtain⟨_,st,hev,rfl,hH⟩:=dC (s:=s1) (by omega) 43 hH;refine qv hev ?_;refine zQ 2 ?_
   cases hb2:bJ gs s1.i 43 with
   |true=>
    obtain⟨k1,k2,k3,Ks,k5⟩:=fV (gs:=gs) (s:=s1) (r:=43);have k6:=lU hb2;have k7:=k5 p4;generalize bE gs s1 43=s2 at*;refine zQ 3 ?_;refine qT hH at2 fun st hH=>?_;dsimp only[u2,u1,u3,u4,setMany,u5,u6,D.cells,Nat.reduceAdd,aG,aF,ah,ag,ay] at hH;refine zQ 1 ?_;refine qT hH at2 fun st hH=>?_;dsimp only[u2,u1,u3,u4,setMany,u5,u6,D.cells,Nat.reduceAdd,aG,aF,ah,ag,ay] at hH;refine zQ 1 ?_;exact⟨1,-1,s2,_,rfl,hH,by omega,by omega,by omega,k7,.inr ⟨by omega,by rw[←hR,if_pos hb2,k6,show s2.g=s1.g by omega]⟩⟩
   |false=>
    rw[oC hb2] at hH;rw[if_neg (by rw[hb2];simp)] at hR;refine zQ 4 ?_;obtain⟨_,st,hev,rfl,hH⟩:=dC (s:=s1) (by omega) 63 hH;refine qv hev ?_;refine zQ 2 ?_
    cases E3:bJ gs s1.i 63 with
    |true=>
     obtain⟨k1,k2,k3,Ks,k5⟩:=fV (gs:=gs) (s:=s1) (r:=63);have k6:=lU E3;have k7:=k5 p4;generalize bE gs s1 63=s2 at*;refine zQ 3 ?_;refine qT hH at2 fun st hH=>?_;dsimp only[u2,u1,u3,u4,setMany,u5,u6,D.cells,Nat.reduceAdd,aG,aF,ah,ag,ay] at hH;refine zQ 1 ?_;exact⟨0,1,s2,_,rfl,hH,by omega,by omega,by omega,k7,.inr ⟨by omega,by rw[←hR,if_pos E3,k6,show s2.g=s1.g by omega]⟩⟩
    |false=>
     rw[oC E3] at hH;rw[if_neg (by rw[E3];simp)] at hR;refine zQ 4 ?_;obtain⟨_,st,hev,rfl,hH⟩:=nV (s:=s1) (by omega) 123 hH;refine qv hev ?_;refine zQ 2 ?_
     cases E2:bJ gs s1.i 123 with
     |true=>
      have hlt:=cE E2;refine zQ 3 ?_;obtain⟨_,st,hev,n1,n2,s2,rfl,⟨⟨m1,m2,m3,m4⟩,m5⟩,hH⟩:=z8 hok p7 hlt hH;refine qv hev ?_;refine zQ 4 ?_;refine qT hH at2 fun st hH=>?_;dsimp only[u2,u1,u3,u4,setMany,u5,u6,D.cells,Nat.reduceAdd,aG,aF,ah,ag,ay] at hH;refine zQ 1 ?_;refine qT hH at2 fun st hH=>?_;dsimp only[u2,u1,u3,u4,setMany,u5,u6,D.cells,Nat.reduceAdd,aG,aF,ah,ag,ay] at hH;refine zQ 1 ?_;rw[if_pos E2] at hR
      have h5:ec R aP s2∨s2.e=0∧R=oa gs l s2.g n1 n2 s2.i:=by
       rcases m5 with m5|⟨m5,m6⟩
       ·exact .inl (m5.map fun e w h=>by rw[←hR,h])
       ·exact .inr ⟨m5,by rw[←hR,m6,m2]⟩
      exact⟨n1,n2,s2,_,rfl,hH,by omega,by omega,m3,m4,h5⟩
     |false=>
      rw[if_neg (by rw[E2];simp)] at hR;refine zQ 6 ?_;refine EvC.ret ⟨rx,_,_,_,rfl,ab (rfl),?_⟩;exact⟨s1,⟨p1,p2,p3,p4,l,rfl,p5,p6,.inr ⟨p7,hR.symm,by omega⟩⟩,a_.af aU (hH.erase 2)⟩
 ·rintro fr st ⟨mn,mx,s2,tmp,hfr,hH,h1,h2,h3,h4,h5⟩;rw[hfr];clear hfr;generalize xn fr=ee;clear fr;refine zQ 9 ?_
  by_cases tD:s2.e=0
  ·refine qE rfl (by simp[tD]) ?_;refine zQ 1 ?_;obtain⟨k1,k2,k3,Ks,k5⟩:=fV (gs:=gs) (s:=s2) (r:=63);have k7:=k5 h4
   have h6:R=oa gs l s2.g mn mx s2.i:=by
    rcases h5 with h5|h5
    ·exact absurd tD h5.ne
    ·exact h5.2
   have Om:(bE gs s2 63).i=if bJ gs s2.i 63=true then s2.i+1 else s2.i:=by unfold bE;split<;>rfl
   unfold oa at h6;rw[←Om] at h6;clear Om;refine zQ 3 ?_;obtain⟨_,st,hev,rfl,hH⟩:=dC (s:=s2) (by omega) 63 hH;refine qv hev ?_;refine zQ 1 ?_;refine qT hH at2 fun st hH=>?_;dsimp only[u2,u1,u3,u4,setMany,u5,u6,D.cells,Nat.reduceAdd,aG,aF,ah,ag,ay] at hH;refine zQ 1 ?_;generalize bE gs s2 63=s3 at*;generalize bJ gs s2.i 63=lz at*;have hla:=(jP p5).arg N S2;refine zQ 2 ?_;refine EvO.hloadS (m:=7) hH rfl (ev rfl) (by exact at2) (by dsimp only[List.drop_succ_cons,List.drop_zero,List.take_succ_cons,List.take_zero,aG,aF,ah,ag,ay]<;>rfl) rfl rfl (put_T rfl _) ?_;refine qh (s:=7) (vs:=[_]) hH fun k46 st IH hH=>?_;refine qm ?_;refine EvO.gD (s:=7) hH rfl (ev rfl) (ev rfl) at0 ((jP p5).rows st) rfl rfl rfl rfl rfl rfl rfl ⟨(Nat.le_of_ble_eq_true rfl),(Nat.le_of_ble_eq_true rfl)⟩ (fun _=>(put_T rfl _)) (by simp only[List.length_map,List.length_cons,List.length_nil];omega) (.inr (kC p5)) (fun k hk=>by have jv:k46+1=k+1:=hk;omega) (fun Hj st q_ hH=>?_);dsimp only[u2] at hH;refine zQ 2 ?_;have hH:Has N S2 st (.lst Hj 7 ([.int .i64 5,.nul,.int .i64 mn,.int .i64 mx,.bool lz,.int .i64 0,.int .i64 1]::l.map ay)::.box k (.mem 0 false (aG gs bj s3))::.lst bj 1 (aP.map ah)::.box k4 (.mem 0 false [.int .i64 5,.nul,.int .i64 mn,.int .i64 mx,.bool lz,.int .i64 0,.int .i64 1])::H):=hH
   have hfz:=dW (L:=s0.bs.length) (l:=dw 5 mn mx lz 0 1 []::l) hH at0 (by rw[List.map_cons,kD p5];rfl) (fun e he d hd=>by
    rcases List.mem_cons.1 he with rfl|he
    ·simp only[List.mem_cons,List.not_mem_nil,or_false] at hd
     rcases hd with rfl|rfl|rfl|rfl|rfl|rfl|rfl<;>rfl
    ·exact iw p5 e he d hd) (fun k hk=>by rw[←aU];exact q_ k hk) (n:=16) (by decide)
   refine EvC.ret ⟨rx,_,_,_,rfl,ab hfz,⟨s3,⟨by omega,by omega,by omega,k7,_,rfl,?_,by simp only[List.length_cons];omega,.inr ⟨by omega,by rw[h6,show s3.g=s2.g by omega],by simp only[List.length_cons];omega⟩⟩,a_.af aU ((hH.drop 1).erase 2)⟩⟩;intro n hn
   rcases List.mem_cons.1 hn with rfl|hn
   ·exact⟨rfl,by simp[dw],by simp[dw]⟩
   ·exact p5 n hn
  ·refine qD rfl (by simp[tD]) ?_;refine zQ 4 ?_;refine EvC.ret ⟨rx,_,_,_,rfl,ab (rfl),?_⟩;exact⟨s2,eO h1 h2 (by omega) h4 (h5.resolve_right fun h=>tD h.1),a_.af aU (hH.erase 2)⟩
def nc (fr:Go.V.Fr) (k:Nat):Go.V.D:=Go.V.nth .junk fr.loc k
noncomputable def tN (A:PF) (gs:List (Nat×Nat)) (m:Nat):Nat→Nat→Nat→List (List Nod)→PR (List Nod×Nat)
 |0,i,g,ps=>.ok (b6 3 ps,g) i
 |n+1,i,g,ps=>
  if i<gs.length∧bJ gs i 124=false∧(bJ gs i 41=false∨m=20) then
   match sN A gs m i g with
   | .er e w=>.er e w
   | .ok (l,g2) j=>tN A gs m n j g2 (ps++[l])
  else .ok (b6 3 ps,g) i
noncomputable def vZ (A:PF) (gs:List (Nat×Nat)) (m i g:Nat):PR (List Nod×Nat):=tN A gs m (gs.length+1) i g []
noncomputable def ov (A:PF) (gs:List (Nat×Nat)) (m:Nat):Nat→Nat→Nat→List (List Nod)→PR (List Nod×Nat)
 |0,i,g,ps=>.ok (b6 4 ps,g) i
 |n+1,i,g,ps=>
  if bJ gs i 124=true then
   match vZ A gs m (i+1) g with
   | .er e w=>.er e w
   | .ok (l,g2) j=>ov A gs m n j g2 (ps++[l])
  else .ok (b6 4 ps,g) i
noncomputable def wk (A:PF) (gs:List (Nat×Nat)) (m:Nat):PF:=fun i g=>
 match vZ A gs m i g with
 | .er e w=>.er e w
 | .ok (l,g1) j=>ov A gs m (gs.length+1) j g1 [l]
noncomputable def qz (gs:List (Nat×Nat)):Nat→PF
 |0=>wk (fun i _=>.er 10 i) gs 0
 |m+1=>wk (qz gs m) gs (m+1)
theorem zj {m:Nat} {gs:List (Nat×Nat)} {A:PF} (hA:∀m',m'+1=m→yd A gs m') {N k:Nat} {S s0:St} {H:List bG} {bj:D} {aP:List Int} {s:dI} (hok:kh gs aP) (he:s.e=0) (hi:s.i≤gs.length) (hg:s.g≤4) (ho:s.o+m=20) (hH:Has N S s0 (.box k (.mem 0 false (aG gs bj s))::.lst bj 1 (aP.map ah)::H)):
  ∃d ae,Ev pv 54 [.ptr k 0 0] s0 d ae∧∃(s':dI),oV gs aP (vZ A gs m s.i s.g) s s' d∧Has N S ae (.box k (.mem 0 false (aG gs bj s'))::.lst bj 1 (aP.map ah)::H):=by
 have kW:=hok.gl;have hpl:=hok.pl;refine Ev.gT rfl MW rfl rfl rfl ?_;refine zE ?_;have a_:=hH;have hH:=hH.aY;have aU:(enterSt .rw s0).bs=s0.bs:=rfl;generalize enterSt .rw s0=S2 at*
 obtain⟨R,hR⟩:∃R,vZ A gs m s.i s.g=R:=⟨_,rfl⟩
 rw[hR];unfold vZ at hR;have Ct:Arg N S2 2 (eo gs) (gs.map aF):=Arg.pure (fun st=>dt st gs);refine zQ 8 ?_;have hH:Has N S2 S2 (.box k (.mem 0 false (aG gs bj s))::.lst bj 1 (aP.map ah)::.lst .nul 1 (([]:List (List Nod)).map partC)::H):=mF (hH.nulE 1);refine zQ 2 ?_;refine EvC.loop (fun mm fr st=>∃(s1:dI) (pd:D) (parts:List (List Nod)),fr.clean=⟨4,[.ptr k 0 0,nc fr 1,nc fr 2,pd],[]⟩∧Has N S2 st (.box k (.mem 0 false (aG gs bj s1))::.lst bj 1 (aP.map ah)::.lst pd 1 (parts.map partC)::H)∧(s1.o=s.o)∧(s1.g≤4)∧(s.i≤s1.i)∧(s1.i≤gs.length)∧(∀l∈parts,∀n∈l,NdV n)∧(b_ parts+parts.length≤4*(s1.i-s.i)+2)∧(s1.e=0→b_ parts+parts.length≤4*(s1.i-s.i))∧(ec R aP s1∨s1.e=0∧∃n,gs.length-s1.i<n∧tN A gs m n s1.i s1.g parts=R)∧(gs.length-s1.i+(if s1.e=0 then 1 else 0)≤mm)) (gs.length+1) ?_ ?_
 ·exact⟨s,.nul,[],rfl,hH,rfl,hg,Nat.le_refl _,hi,fun l hl=>(by cases hl),by simp[b_],fun _=>by simp[b_],.inr ⟨he,gs.length+1,by omega,hR⟩,by split<;>omega⟩
 rintro mm fr st ⟨s1,pd,parts,hfr,hH,h1,h2,h3,h4,h5,h6,h7,h8,nr⟩;rw[hfr];clear hfr;generalize nc fr=ee;clear fr
 have gC:∀st:St,(ec R aP s1∨s1.e=0∧R=.ok (b6 3 parts,s1.g) s1.i)→Has N S2 st (.box k (.mem 0 false (aG gs bj s1))::.lst bj 1 (aP.map ah)::.lst pd 1 (parts.map partC)::H)→∃d,Ev pv 56 [.int .i64 3,pd] st d st∧oV gs aP R s s1 d∧∃l,d=kT l:=by
  intro st hv hH;obtain⟨hev,j1,j2,j3⟩:=pF 3 (hH.rows at2) h5 (by omega) (by omega);refine⟨_,hev,⟨h1,h2,h3,h4,b6 3 parts,rfl,j1,?_,hv⟩,_,rfl⟩
  by_cases q1:parts.length=1
  ·have:=j2 q1;omega
  ·by_cases q0:parts.length=0
   ·have:parts=[]:=List.length_eq_zero_iff.1 q0;rw[this];show 1≤_;omega
   ·omega
 by_cases he1:s1.e=0
 ·obtain⟨n,tV,dE⟩:=(h8.resolve_left fun h=>absurd he1 h.ne).2
  obtain⟨n,rfl⟩:∃m,n=m+1:=⟨n-1,by omega⟩
  unfold tN at dE;rw[if_pos he1] at nr;have h7:=h7 he1;have cQ:(s1.e==0)=true:=by simpa using he1
  by_cases hlt:s1.i<gs.length
  ·have aW:decide (((s1.i:Nat):Int)<((gs.length:Nat):Int))=true:=by rw[decide_eq_true_eq];omega
   cases aZ:(!bJ gs s1.i 124) with
   |false=>
    refine zQ 17 ?_;refine qn ?_ (hg:=wi cQ);simp only[List.length_map];refine zQ 4 ?_;obtain⟨_,st,hev,rfl,hH⟩:=nV (s:=s1) (by omega) 124 hH;refine qv hev ?_ (hg:=wi aW);refine zQ 17 ?_;obtain⟨_,pO,hQ,l,rfl⟩:=gC _ (.inr ⟨he1,by rw[←dE,if_neg (fun h=>by rw[h.2.1] at aZ;simp at aZ)]⟩) hH;refine zQ 3 ?_;refine qv (pO) ?_;refine zQ 2 ?_;refine EvC.ret ⟨rx,_,_,_,rfl,ab (rfl),?_⟩;exact⟨s1,hQ,a_.af aU (hH.erase 2)⟩
   |true=>
    cases aQ:bJ gs s1.i 41 with
    |false=>
     refine zQ 17 ?_;refine qn ?_ (hg:=wi cQ);simp only[List.length_map];refine zQ 4 ?_;obtain⟨_,st,hev,rfl,hH⟩:=nV (s:=s1) (by omega) 124 hH;refine qv hev ?_ (hg:=wi aW);refine zQ 4 ?_;obtain⟨_,st,hev,rfl,hH⟩:=nV (s:=s1) (by omega) 41 hH;refine qv hev ?_ (hg:=wi aZ);refine zQ 6 ?_;refine EvO.pickF (wantD_is rfl rfl rfl aZ) rfl aQ (put_T rfl _) ?_;refine zQ 6 ?_;rw[if_pos ⟨hlt,by simpa using aZ,.inl aQ⟩] at dE;refine zQ 3 ?_;obtain⟨_,st,hev,s2,⟨r1,r2,r3,r4,l,rfl,r5,r6,r7⟩,hH⟩:=yt hA hok (s:=s1) he1 hlt h2 (by omega) hH;refine qv hev ?_;refine qh (s:=1) (vs:=[_]) hH fun k41 st II hH=>?_;dsimp only[u2,u1,u3,u4,setMany,u5,u6,D.cells,Nat.reduceAdd,aG,aF,ah,ag,partC] at hH;refine EvO.happend (s:=1) hH rfl (ev rfl) (ev rfl) (by exact at3) (by exact hH.rows (by exact at0)) rfl rfl rfl rfl rfl rfl rfl ⟨(Nat.le_of_ble_eq_true rfl),(Nat.le_of_ble_eq_true rfl)⟩ (fun _=>(put_T rfl _)) (by simp only[List.length_cons,List.length_nil,List.length_map]<;>omega) (by exact .inr rfl) (fun Hk st hH=>?_);dsimp only[u2,u1,u3,u4,setMany,u5,u6,D.cells,Nat.reduceAdd,aG,aF,ah,ag,partC] at hH;refine zQ 2 ?_;have hH:=hH.drop 1
     have r8:s2.e=0→l.length+1≤4*(s2.i-s1.i):=fun e=>by
      rcases r7 with r7|r7
      ·exact absurd e r7.ne
      ·exact r7.2.2
     have r9:ec R aP s2∨s2.e=0∧∃n,gs.length-s2.i<n∧tN A gs m n s2.i s2.g (parts++[l])=R:=by
      rcases r7 with r7|⟨r7,ED,J9⟩
      ·exact .inl (r7.map fun e w h=>by rw[←dE,h])
      ·rw[ED] at dE;exact .inr ⟨r7,n,by omega,dE⟩
     have HA:gs.length-s2.i+(if s2.e=0 then 1 else 0)≤mm-1:=by
      by_cases e:s2.e=0
      ·have:=r8 e;rw[if_pos e];omega
      ·rw[if_neg e];omega
     refine⟨mm-1,by omega,⟨s2,Hk,parts++[l],rfl,(by rw[List.map_append];exact hH),by omega,r2,by omega,r4,?_,by rw[bK,List.length_append];simp only[b_,List.length_cons,List.length_nil];omega,(fun e=>by have:=r8 e;rw[bK,List.length_append];simp only[b_,List.length_cons,List.length_nil];omega),r9,HA⟩⟩;intro l' hl'
     rcases List.mem_append.1 hl' with hl'|hl'
     ·exact h5 l' hl'
     ·simp only[List.mem_cons,List.not_mem_nil,or_false] at hl';subst hl';exact r5
    |true=>
     refine zQ 17 ?_;refine qn ?_ (hg:=wi cQ);simp only[List.length_map];refine zQ 4 ?_;obtain⟨_,st,hev,rfl,hH⟩:=nV (s:=s1) (by omega) 124 hH;refine qv hev ?_ (hg:=wi aW);refine zQ 4 ?_;obtain⟨_,st,hev,rfl,hH⟩:=nV (s:=s1) (by omega) 41 hH;refine qv hev ?_ (hg:=wi aZ);refine zQ 6 ?_;refine EvO.pickT (wantD_is rfl rfl rfl aZ) rfl aQ (put_T rfl _) ?_;refine zQ 3 ?_
     by_cases fX:0<s1.o
     ·have hcc:(!decide (((s1.o:Nat):Int)>0))=false:=by rw[decide_eq_true (by omega)];rfl
      refine qE rfl (by rw[hcc]) ?_;refine zQ 1 ?_;obtain⟨_,pO,hQ,l,rfl⟩:=gC _ (.inr ⟨he1,by rw[←dE,if_neg (fun h=>by rcases h.2.2 with h|h;rw[aQ] at h;exact absurd h (by simp);omega)]⟩) hH;refine zQ 3 ?_;refine qv (pO) ?_;refine zQ 2 ?_;refine EvC.ret ⟨rx,_,_,_,rfl,ab (rfl),?_⟩;exact⟨s1,hQ,a_.af aU (hH.erase 2)⟩
     ·have hcc:(!decide (((s1.o:Nat):Int)>0))=true:=by rw[decide_eq_false (by omega)];rfl
      refine qD rfl (by rw[hcc]) ?_;refine zQ 2 ?_;rw[if_pos ⟨hlt,by simpa using aZ,.inr (by omega)⟩] at dE;refine zQ 3 ?_;obtain⟨_,st,hev,s2,⟨r1,r2,r3,r4,l,rfl,r5,r6,r7⟩,hH⟩:=yt hA hok (s:=s1) he1 hlt h2 (by omega) hH;refine qv hev ?_;refine qh (s:=1) (vs:=[_]) hH fun k41 st II hH=>?_;dsimp only[u2,u1,u3,u4,setMany,u5,u6,D.cells,Nat.reduceAdd,aG,aF,ah,ag,partC] at hH;refine EvO.happend (s:=1) hH rfl (ev rfl) (ev rfl) (by exact at3) (by exact hH.rows (by exact at0)) rfl rfl rfl rfl rfl rfl rfl ⟨(Nat.le_of_ble_eq_true rfl),(Nat.le_of_ble_eq_true rfl)⟩ (fun _=>(put_T rfl _)) (by simp only[List.length_cons,List.length_nil,List.length_map]<;>omega) (by exact .inr rfl) (fun Hk st hH=>?_);dsimp only[u2,u1,u3,u4,setMany,u5,u6,D.cells,Nat.reduceAdd,aG,aF,ah,ag,partC] at hH;refine zQ 2 ?_;have hH:=hH.drop 1
      have r8:s2.e=0→l.length+1≤4*(s2.i-s1.i):=fun e=>by
       rcases r7 with r7|r7
       ·exact absurd e r7.ne
       ·exact r7.2.2
      have r9:ec R aP s2∨s2.e=0∧∃n,gs.length-s2.i<n∧tN A gs m n s2.i s2.g (parts++[l])=R:=by
       rcases r7 with r7|⟨r7,ED,J9⟩
       ·exact .inl (r7.map fun e w h=>by rw[←dE,h])
       ·rw[ED] at dE;exact .inr ⟨r7,n,by omega,dE⟩
      have HA:gs.length-s2.i+(if s2.e=0 then 1 else 0)≤mm-1:=by
       by_cases e:s2.e=0
       ·have:=r8 e;rw[if_pos e];omega
       ·rw[if_neg e];omega
      refine⟨mm-1,by omega,⟨s2,Hk,parts++[l],rfl,(by rw[List.map_append];exact hH),by omega,r2,by omega,r4,?_,by rw[bK,List.length_append];simp only[b_,List.length_cons,List.length_nil];omega,(fun e=>by have:=r8 e;rw[bK,List.length_append];simp only[b_,List.length_cons,List.length_nil];omega),r9,HA⟩⟩;intro l' hl'
      rcases List.mem_append.1 hl' with hl'|hl'
      ·exact h5 l' hl'
      ·simp only[List.mem_cons,List.not_mem_nil,or_false] at hl';subst hl';exact r5
  ·have aW:decide (((s1.i:Nat):Int)<((gs.length:Nat):Int))=false:=by rw[decide_eq_false_iff_not];omega
   refine zQ 17 ?_;refine qn ?_ (hg:=wi cQ);simp only[List.length_map];refine zQ 22 ?_;obtain⟨_,pO,hQ,l,rfl⟩:=gC _ (.inr ⟨he1,by rw[←dE,if_neg (fun h=>hlt h.1)]⟩) hH;refine zQ 3 ?_;refine qv (pO) ?_;refine zQ 2 ?_;refine EvC.ret ⟨rx,_,_,_,rfl,ab (rfl),?_⟩;exact⟨s1,hQ,a_.af aU (hH.erase 2)⟩
 ·have cQ:(s1.e==0)=false:=by simpa using he1
  refine zQ 40 ?_;obtain⟨_,pO,hQ,l,rfl⟩:=gC _ (.inl (h8.resolve_right fun h=>he1 h.1)) hH;refine zQ 3 ?_;refine qv (pO) ?_;refine zQ 2 ?_;refine EvC.ret ⟨rx,_,_,_,rfl,ab (rfl),?_⟩;exact⟨s1,hQ,a_.af aU (hH.erase 2)⟩
theorem zq {m:Nat} {gs:List (Nat×Nat)} {A:PF} (hA:∀m',m'+1=m→yd A gs m'):yd (wk A gs m) gs m:=by
 intro N k S s0 H bj aP s hok he hi hg ho hH;have kW:=hok.gl;have hpl:=hok.pl;refine Ev.gT rfl M7 rfl rfl rfl ?_;refine zE ?_;have a_:=hH;have hH:=hH.aY;have aU:(enterSt .rw s0).bs=s0.bs:=rfl;generalize enterSt .rw s0=S2 at*
 obtain⟨R,hR⟩:∃R,wk A gs m s.i s.g=R:=⟨_,rfl⟩
 rw[hR];unfold wk at hR;refine zQ 7 ?_;obtain⟨_,st,hev,s1,⟨p1,p2,p3,p4,l,rfl,p5,p6,p7⟩,hH⟩:=zj hA hok he hi hg ho hH;refine qv hev ?_;refine qh (s:=1) (vs:=[_]) hH fun k6 st EX hH=>?_;dsimp only[u2,u1,u3,u4,setMany,u5,u6,D.cells,Nat.reduceAdd,aG,aF,ah,ag,partC] at hH;refine zQ 2 ?_
 have Mh:ec R aP s1∨s1.e=0∧∃n,gs.length-s1.i<n∧ov A gs m n s1.i s1.g [l]=R:=by
  rcases p7 with p7|⟨p7,G3⟩
  ·exact .inl (p7.map fun e w h=>by rw[←hR,h])
  ·rw[G3] at hR;exact .inr ⟨p7,_,by omega,hR⟩
 have hH:Has N S2 st (.box k (.mem 0 false (aG gs bj s1))::.lst bj 1 (aP.map ah)::.lst (.win k6 0 0 1 1) 1 ([l].map partC)::H):=mF hH;refine zQ 2 ?_;refine EvC.loop (fun mm fr st=>∃(s1:dI) (pd:D) (parts:List (List Nod)),fr.clean=⟨4,[.ptr k 0 0,nc fr 1,nc fr 2,pd],[]⟩∧Has N S2 st (.box k (.mem 0 false (aG gs bj s1))::.lst bj 1 (aP.map ah)::.lst pd 1 (parts.map partC)::H)∧(s1.o=s.o)∧(s1.g≤4)∧(s.i≤s1.i)∧(s1.i≤gs.length)∧(∀l∈parts,∀n∈l,NdV n)∧(b_ parts+3*parts.length≤4*(s1.i-s.i)+4)∧(1≤parts.length)∧(ec R aP s1∨s1.e=0∧∃n,gs.length-s1.i<n∧ov A gs m n s1.i s1.g parts=R)∧(gs.length-s1.i≤mm)) (gs.length) ?_ ?_
 ·exact⟨s1,.win k6 0 0 1 1,[l],rfl,hH,p1,p2,p3,p4,(fun l' hl'=>by simp only[List.mem_cons,List.not_mem_nil,or_false] at hl';subst hl';exact p5),by simp only[b_,List.length_cons,List.length_nil];omega,by simp,Mh,by omega⟩
 rintro mm fr st ⟨s1,pd,parts,hfr,hH,h1,h2,h3,h4,h5,h6,h8,h9,nr⟩;rw[hfr];clear hfr;generalize nc fr=ee;clear fr
 have gC:∀st:St,(ec R aP s1∨s1.e=0∧R=.ok (b6 4 parts,s1.g) s1.i)→Has N S2 st (.box k (.mem 0 false (aG gs bj s1))::.lst bj 1 (aP.map ah)::.lst pd 1 (parts.map partC)::H)→∃d,Ev pv 56 [.int .i64 4,pd] st d st∧oV gs aP R s s1 d∧∃l,d=kT l:=by
  intro st hv hH;obtain⟨hev,j1,j2,j3⟩:=pF 4 (hH.rows at2) h5 (by omega) (by omega);refine⟨_,hev,⟨h1,h2,h3,h4,b6 4 parts,rfl,j1,?_,hv⟩,_,rfl⟩
  by_cases q1:parts.length=1
  ·have:=j2 q1;omega
  ·omega
 by_cases he1:s1.e=0
 ·obtain⟨n,tV,dE⟩:=(h9.resolve_left fun h=>absurd he1 h.ne).2
  obtain⟨n,rfl⟩:∃m,n=m+1:=⟨n-1,by omega⟩
  unfold ov at dE;have cQ:(s1.e==0)=true:=by simpa using he1
  obtain⟨k1,k2,k3,k4,k5⟩:=fV (gs:=gs) (s:=s1) (r:=124);have k5:=k5 h4;refine zQ 10 ?_;obtain⟨_,st,hev,rfl,hH⟩:=dC (s:=s1) (by omega) 124 hH;refine qv hev ?_ (hg:=wi cQ);refine zQ 2 ?_
  cases hb:bJ gs s1.i 124 with
  |false=>
   rw[oC hb] at hH;refine zQ 2 ?_;obtain⟨_,pO,hQ,l,rfl⟩:=gC _ (.inr ⟨he1,by rw[←dE,if_neg (by rw[hb];simp)]⟩) hH;refine zQ 3 ?_;refine qv (pO) ?_;refine zQ 2 ?_;refine EvC.ret ⟨rx,_,_,_,rfl,ab (rfl),?_⟩;exact⟨s1,hQ,a_.af aU (hH.erase 2)⟩
  |true=>
   have k6:=lU hb;rw[if_pos hb] at dE;generalize bE gs s1 124=s2 at*;refine zQ 6 ?_;obtain⟨_,st,hev,s3,⟨r1,r2,r3,r4,l,rfl,r5,r6,r7⟩,hH⟩:=zj hA hok (s:=s2) (by omega) k5 (by omega) (by omega) hH;refine qv hev ?_;refine qh (s:=1) (vs:=[_]) hH fun k19 st Rj hH=>?_;dsimp only[u2,u1,u3,u4,setMany,u5,u6,D.cells,Nat.reduceAdd,aG,aF,ah,ag,partC] at hH;refine EvO.happend (s:=1) hH rfl (ev rfl) (ev rfl) (by exact at3) (by exact hH.rows (by exact at0)) rfl rfl rfl rfl rfl rfl rfl ⟨(Nat.le_of_ble_eq_true rfl),(Nat.le_of_ble_eq_true rfl)⟩ (fun _=>(put_T rfl _)) (by simp only[List.length_cons,List.length_nil,List.length_map]<;>omega) (by exact .inr rfl) (fun NZ st hH=>?_);dsimp only[u2,u1,u3,u4,setMany,u5,u6,D.cells,Nat.reduceAdd,aG,aF,ah,ag,partC] at hH;refine zQ 2 ?_;have hH:=hH.drop 1;rw[k6,show s2.g=s1.g by omega] at r7
   have r9:ec R aP s3∨s3.e=0∧∃n,gs.length-s3.i<n∧ov A gs m n s3.i s3.g (parts++[l])=R:=by
    rcases r7 with r7|⟨r7,ED⟩
    ·exact .inl (r7.map fun e w h=>by rw[←dE,h])
    ·rw[ED] at dE;exact .inr ⟨r7,n,by omega,dE⟩
   refine⟨mm-1,by omega,⟨s3,NZ,parts++[l],rfl,(by rw[List.map_append];exact hH),by omega,r2,by omega,r4,?_,by rw[bK,List.length_append];simp only[b_,List.length_cons,List.length_nil];omega,by rw[List.length_append];omega,r9,by omega⟩⟩;intro l' hl'
   rcases List.mem_append.1 hl' with hl'|hl'
   ·exact h5 l' hl'
   ·simp only[List.mem_cons,List.not_mem_nil,or_false] at hl';subst hl';exact r5
 ·have cQ:(s1.e==0)=false:=by simpa using he1
  refine zQ 15 ?_;obtain⟨_,pO,hQ,l,rfl⟩:=gC _ (.inl (h9.resolve_right fun h=>he1 h.1)) hH;refine zQ 3 ?_;refine qv (pO) ?_;refine zQ 2 ?_;refine EvC.ret ⟨rx,_,_,_,rfl,ab (rfl),?_⟩;exact⟨s1,hQ,a_.af aU (hH.erase 2)⟩
theorem EB (gs:List (Nat×Nat)) (m:Nat):yd (qz gs m) gs m:=by
 induction m with
 |zero=>exact zq (fun m' h=>by omega)
 |succ m ih=>exact zq (fun m' h=>by cases h;exact@ih)
def aX (fr:Go.V.Fr) (k:Nat):Go.V.D:=Go.V.nth .junk fr.loc k
def sV:List (Nat×Nat)→Nat→List Int
 |[],_=>[]
 |q::l,a=>((a:Nat):Int)::sV l (a+q.2)
noncomputable def w_ (gs:List (Nat×Nat)) (R:PR (List Nod×Nat)):List Nod×Int×Int:=
 match R with
 | .er e w=>([],e,(sV gs 0).getD w 0)
 | .ok (l,_) j=>if j<gs.length then([],4,(sV gs 0).getD j 0) else(l,0,0)
noncomputable def parseX (b:List UInt8):List Nod×Int×Int:=
 if 120<b.length then([],2,0) else w_ (jc b) (qz (jc b) 20 0 0)
def BF (q:List Nod×Int×Int):D:=.tup [kT q.1,.int .i64 q.2.1,.int .i64 q.2.2]
theorem parseX_ev {s0:St} {b:List UInt8} (hbl:b.length≤1048576):Ev pv 35 [.str b] s0 (BF (parseX b)) s0∧(∀n∈(parseX b).1,NdV n)∧(parseX b).1.length≤500:=by
 suffices hg:∃d,Ev pv 35 [.str b] s0 d s0∧d=BF (parseX b)∧(∀n∈(parseX b).1,NdV n)∧(parseX b).1.length≤500 by
  obtain⟨d,h1,rfl,h2⟩:=hg;exact⟨h1,h2⟩
 obtain⟨X,hX⟩:∃X,parseX b=X:=⟨_,rfl⟩
 rw[hX];unfold parseX at hX;obtain⟨kW,LJ⟩:=wo _ b (Nat.le_refl _);have hev:∀(st:St) (x:D),Bytes st x b→Ev pv 43 [x] st (eo (jc b)) st:=fun st x h=>GO h hbl;generalize jc b=gs at*;refine Ev.yE rfl Nf rfl rfl rfl ?_;refine zE ?_;obtain⟨hSb,hF,hH⟩:=ri s0;generalize enterSt .ro s0=S at*;have Ct:Arg s0.bs.length S 2 (eo gs) (gs.map aF):=Arg.pure (fun st=>dt st gs);refine zQ 10 ?_;refine EvO.slen rfl rfl rfl (by dsimp only[Fr.put,u1,u2]<;>rfl) ?_;refine zQ 2 ?_
 by_cases vD:120<b.length
 ·have hcc:decide (((b.length:Nat):Int)>120)=true:=by rw[decide_eq_true_eq];omega
  refine qD rfl (by rw[hcc]) ?_;refine zQ 6 ?_;refine EvC.ret ⟨rx,_,_,rfl,rl hSb hH (rfl),?_⟩;rw[if_pos vD] at hX;rw[←hX];exact⟨rfl,fun n hn=>(by cases hn),by simp⟩
 rw[if_neg vD] at hX;have hcc:decide (((b.length:Nat):Int)>120)=false:=by rw[decide_eq_false_iff_not];omega
 refine qE rfl (by rw[hcc]) ?_;refine zQ 4 ?_;refine EvO.Cz hH rfl rfl rfl rfl rfl (by omega) (fun _=>by dsimp only[Fr.put,u1,u2]<;>rfl) (fun k14 st Ge hH=>?_);refine qv ((hev _ _ (hH.rows at0))) ?_;refine EvO.go (d:=.agg [eo gs,.nul,.int .i64 0,.int .i64 0,.int .i64 0,.int .i64 0,.int .i64 0]) (st1:=_) rfl rfl rfl (by dsimp only[Fr.put,u1,u2]<;>rfl) ?_;refine qb hH fun k17 st IM hH=>?_;refine zQ 13 ?_;refine qn ?_;simp only[List.length_map];refine zQ 2 ?_;have hH:Has s0.bs.length S st (.box k17 (.mem 0 false [eo gs,.nul,.int .i64 0,.int .i64 0,.int .i64 0,.int .i64 0,.int .i64 0])::.lst .nul 1 (([]:List Int).map ah)::[]):=((hH.erase 1).nulE 1).front at1;refine zQ 1 ?_;refine EvC.loop (fun mm fr st=>∃(i a:Nat) (pd:D) (aP:List Int),fr.clean=⟨24,[aX fr 0,aX fr 1,aX fr 2,aX fr 3,aX fr 4,.ptr k17 0 0,.int .i64 (a:Nat),aX fr 7,aX fr 8,aX fr 9,aX fr 10,aX fr 11,aX fr 12,aX fr 13,aX fr 14,aX fr 15,aX fr 16,aX fr 17,aX fr 18,aX fr 19,aX fr 20,eo gs,.int .i64 (gs.length:Nat),.int .i64 (i:Nat)],[]⟩∧Has s0.bs.length S st [.box k17 (.mem 0 false [eo gs,pd,.int .i64 0,.int .i64 0,.int .i64 0,.int .i64 0,.int .i64 0]),.lst pd 1 (aP.map ah)]∧(i+mm=gs.length)∧(aP.length=i)∧(aP++sV (gs.drop i) a=sV gs 0)∧(a≤120*i)) (gs.length) ?_ ?_
 ·exact⟨0,0,.nul,[],rfl,hH,by omega,rfl,rfl,by omega⟩
 rintro mm fr st ⟨i,a,pd,aP,hfr,hH,hi,hpl,AW,ha⟩;rw[hfr];clear hfr;generalize aX fr=ee;clear fr;refine zQ 4 ?_
 by_cases hlt:i<gs.length
 ·obtain⟨g,hg⟩:∃g,gs[i]?=some g:=⟨gs[i]'hlt,List.getElem?_eq_getElem _⟩
  have hr1:(gs.map aF)[i]?=some (aF g):=by rw[List.getElem?_map,hg];rfl
  have bZ:=LJ g (List.mem_of_getElem? hg)
  have om:gs.drop i=g::gs.drop (i+1):=by
   have:=List.drop_eq_getElem_cons (l:=gs) (i:=i) hlt;rw[this];congr 1;rw[List.getElem?_eq_getElem hlt] at hg;exact Option.some.inj hg
  rw[om] at AW
  have AW:(aP++[((a:Nat):Int)])++sV (gs.drop (i+1)) (a+g.2)=sV gs 0:=by
   rw[List.append_assoc];exact AW
  have lF:decide (((i:Nat):Int)<((gs.length:Nat):Int))=true:=by rw[decide_eq_true_eq];omega
  refine qq<|qD rfl (by rw[lF]) ?_;refine zQ 5 ?_;refine qr fun JH D'=>?_;refine EvO.cx rfl (ev rfl) (by assumption) rfl (put_T rfl _) ?_;refine qa hH fun k8 st hk8 hH=>?_;refine qS hH at0 fun st hH=>?_;dsimp only[u2,u1,u3,u4,setMany,u5,u6,D.cells,Nat.reduceAdd,aG,aF,ah] at hH;refine zQ 9 ?_;refine qh (s:=1) (vs:=[_]) hH fun k33 st IL hH=>?_;refine EvO.happend (s:=1) hH rfl (ev rfl) (ev rfl) (by exact at3) (by exact hH.rows (by exact at0)) rfl rfl rfl rfl rfl rfl rfl ⟨(Nat.le_of_ble_eq_true rfl),(Nat.le_of_ble_eq_true rfl)⟩ (fun _=>(put_T rfl _)) (by simp only[List.length_cons,List.length_nil,List.length_map]<;>omega) (by exact .inl hF) (fun Hl st hH=>?_);dsimp only[u2,u1,u3,u4,setMany,u5,u6,D.cells,Nat.reduceAdd,aG,aF,ah] at hH;refine zQ 2 ?_;refine qT hH at2 (fun st hH=>?_) (jk:=hH.ocells at3);dsimp only[u2,u1,u3,u4,setMany,u5,u6,D.cells,Nat.reduceAdd,aG,aF,ah] at hH;refine zQ 5 ?_;refine EvO.addN rfl (ev rfl) (ev rfl) (by omega) (put_T rfl _) ?_;refine zQ 6 ?_;exact⟨mm-1,by omega,⟨i+1,a+g.2,Hl,aP++[((a:Nat):Int)],rfl,(by rw[List.map_append];exact hH.drop 2),by omega,by rw[List.length_append,hpl];rfl,AW,by omega⟩⟩
 ·have lF:decide (((i:Nat):Int)<((gs.length:Nat):Int))=false:=by rw[decide_eq_false_iff_not];omega
  refine qq<|qE rfl (by rw[lF]) ?_;refine zQ 1 ?_
  have hok:kh gs aP:=⟨by omega,by omega⟩
  have AW:aP=sV gs 0:=by
   rw[List.drop_eq_nil_of_le (by omega)] at AW;rw[←AW];simp[sV]
  have hH:Has s0.bs.length S st (.box k17 (.mem 0 false (aG gs pd ⟨0,0,0,0,0⟩))::.lst pd 1 (aP.map ah)::[]):=hH;refine zQ 3 ?_;obtain⟨_,st,hev,s1,⟨p1,p2,p3,p4,l,rfl,p5,p6,p7⟩,hH⟩:=EB gs 20 (s:=⟨0,0,0,0,0⟩) hok rfl (by simp) (by simp) rfl hH;refine qv hev ?_;refine zQ 2 ?_;have p6:l.length≤4*(s1.i-0)+1:=p6;have p7:ec (qz gs 20 0 0) aP s1∨s1.e=0∧qz gs 20 0 0=.ok (l,s1.g) s1.i:=p7;generalize qz gs 20 0 0=R at*;unfold w_ at hX;rw[←AW] at hX;refine zQ 2 ?_;refine EvC.fF (fun fr st=>∃(s2:dI) (tmp:List (Nat×D)),fr=⟨24,[aX fr 0,aX fr 1,aX fr 2,aX fr 3,aX fr 4,.ptr k17 0 0,aX fr 6,aX fr 7,aX fr 8,kT l,aX fr 10,aX fr 11,aX fr 12,aX fr 13,aX fr 14,aX fr 15,aX fr 16,aX fr 17,aX fr 18,aX fr 19,aX fr 20,aX fr 21,aX fr 22,aX fr 23],tmp⟩∧Has s0.bs.length S st (.box k17 (.mem 0 false (aG gs pd s2))::.lst pd 1 (aP.map ah)::[])∧(s2.e≠0∧X=([],s2.e,s2.w)∨s2.e=0∧X=(l,0,0))) ?_ ?_
  ·by_cases he1:s1.e=0
   ·have cQ:(s1.e==0)=true:=by simpa using he1
    have hR:R=.ok (l,s1.g) s1.i:=by
     rcases p7 with p7|p7
     ·exact absurd he1 p7.ne
     ·exact p7.2
    rw[hR] at hX;simp only at hX;refine zQ 15 ?_;refine qn ?_ (hg:=wi cQ);simp only[List.length_map];refine zQ 3 ?_;refine zP (fun IQ=>?_) fun IQ=>?_
    ·refine zQ 6 ?_;obtain⟨_,st,hev,rfl,hH⟩:=dP (s:=s1) s1.i 4 (by omega) hH;refine qv hev ?_;refine zQ 1 ?_;rw[if_pos (by omega)] at hX;have hw:(gZ aP s1 s1.i 4).e=4∧(gZ aP s1 s1.i 4).w=aP.getD s1.i 0:=by unfold gZ;rw[if_pos he1];exact⟨rfl,rfl⟩
     exact⟨_,_,rfl,hH,.inl ⟨by rw[hw.1];decide,by rw[hw.1,hw.2];exact hX.symm⟩⟩
    ·rw[if_neg (by omega)] at hX;refine zQ 1 ?_;exact⟨s1,_,rfl,hH,.inr ⟨he1,hX.symm⟩⟩
   ·have cQ:(s1.e==0)=false:=by simpa using he1
    refine zQ 19 ?_
    have hE:X=([],s1.e,s1.w):=by
     obtain⟨e,w,h0,h1,h2,h3⟩:=p7.resolve_right fun h=>he1 h.1;rw[h0] at hX;rw[←hX,h2,h3]
    refine zQ 2 ?_;exact⟨s1,_,rfl,hH,.inl ⟨he1,hE⟩⟩
  ·rintro fr st ⟨s2,tmp,hfr,hH,ht⟩;rw[hfr];clear hfr;generalize aX fr=ee;clear fr;refine zQ 9 ?_;refine EvC.cond (by rfl) (fun hne=>?_) (fun hne=>?_)<;>try simp only[bne_iff_ne,bne_eq_false_iff_eq,ne_eq] at hne
   ·refine zQ 14 ?_;refine EvC.ret ⟨rx,_,_,rfl,rl hSb hH (rfl),?_⟩
    rcases ht with⟨h1,h2⟩|⟨h1,h2⟩
    ·rw[h2];exact⟨rfl,fun n hn=>(by cases hn),by simp⟩
    ·exact absurd h1 hne
   ·refine zQ 8 ?_;refine EvC.ret ⟨rx,_,_,rfl,rl hSb hH (rfl),?_⟩
    rcases ht with⟨h1,h2⟩|⟨h1,h2⟩
    ·exact absurd h1 (by omega)
    ·rw[h2];exact⟨rfl,p5,by show l.length≤500;omega⟩
end Go.Proofs.YtajblankjjmonaaGreat
