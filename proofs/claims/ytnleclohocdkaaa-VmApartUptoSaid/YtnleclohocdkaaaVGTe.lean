/-
 The parser of patterns, told exactly: classes; how often; lists of nodes joined.
-/
import Derived.Test.YtnleclohocdkaaaVGHr
import Derived.Test.YtnleclohocdkaaaVGJp
import Derived.Test.YtnleclohocdkaaaVGJh
import Derived.Test.YtnleclohocdkaaaVGQe
set_option maxRecDepth 100000
set_option maxHeartbeats 4000000
set_option linter.unusedSimpArgs false
set_option linter.unusedVariables false
namespace Go.Proofs.Ytnleclohocdkaaa
open Go.V Go
def cq (fr:Go.V.Fr) (k:Nat):Go.V.D:=Go.V.nth .bh fr.loc k
noncomputable def kJ (gs:List (Nat×Nat)) (f:Nat):Nat→Nat→List Rg→Bool→PR (List Rg)
 |0,_,_,_=>.er 4 f
 |n+1,i,l,nn=>
  if dB gs i 93=true then(if nn=true then .er 4 f else .ok l i)
  else if gs.length≤i then .er 4 f
  else match jS gs i with
   | .er e w=>.er e w
   | .ok a j=>kJ gs f n j (l++a) false
noncomputable def El (gs:List (Nat×Nat)) (i:Nat):PR (List Rg):=
 match kJ gs i (gs.length+1) (if dB gs (i+1) 94=true then i+2 else i+1) [] true with
 | .er e w=>.er e w
 | .ok l k=>.ok (if dB gs (i+1) 94=true then oO (cV l) else cV l) (k+1)
def za (a:List Rg):cg:=iR 2 0 0 false 0 0 a
noncomputable def y_ (gs:List (Nat×Nat)) (i g:Nat):PR (List cg×Nat):=
 match El gs i with
 | .er e w=>.er e w
 | .ok a j=>.ok ([za a],g) j
def iY (gs:List (Nat×Nat)) (aN:List Int) (R:PR (List cg×Nat)) (s s':dP) (d:D) (c:Nat):Prop:=
 s'.o=s.o∧s'.g≤4∧s.i≤s'.i∧s'.i≤gs.length∧∃l:List cg,d=uj l∧(∀n∈l,tJ n)∧l.length≤4*(s'.i-s.i)+1∧(et R aN s'∨s'.e=0∧R=.ok (l,s'.g) s'.i∧l.length+c≤4*(s'.i-s.i))
def pk (gs:List (Nat×Nat)) (aN:List Int) (R:PR (List cg×Nat)) (s s':dP) (d:D):Prop:=
 s'.o=s.o∧s'.g≤4∧s.i≤s'.i∧s'.i≤gs.length∧∃l:List cg,d=uj l∧(∀n∈l,tJ n)∧l.length≤4*(s'.i-s.i)+1∧(et R aN s'∨s'.e=0∧R=.ok (l,s'.g) s'.i)
theorem fc {gs:List (Nat×Nat)} {aN:List Int} {R:PR (List cg×Nat)} {s s':dP} {c:Nat} (h1:s'.o=s.o) (h2:s'.g≤4) (h3:s.i≤s'.i) (h4:s'.i≤gs.length) (h5:et R aN s'):iY gs aN R s s' (.sl []) c:=
 ⟨h1,h2,h3,h4,[],rfl,fun n hn=>(by cases hn),by simp,.inl h5⟩
theorem B2 {N k:Nat} {S s0:St} {H:List bm} {gs:List (Nat×Nat)} {bw:D} {aN:List Int} {s:dP} (aY:kN gs aN) (he:s.e=0) (hi:s.i<gs.length) (hg:s.g≤4) (hH:Has N S s0 (.box k (.mem 0 false (aL gs bw s))::.aI bw 1 (aN.map az)::H)):
  ∃d af,Ev pv 122 [.ptr k 0 0] s0 d af∧∃(s':dP),iY gs aN (y_ gs s.i s.g) s s' d 2∧Has N S af (.box k (.mem 0 false (aL gs bw s'))::.aI bw 1 (aN.map az)::H):=by
 have uM:=aY.gl;have gR:=aY.pl;refine Ev.ko rfl K4 rfl rfl rfl ?_;refine zE ?_;have cx:=hH;have hH:=hH.cB;have cw:(ag .rw s0).bs=s0.bs:=rfl;generalize ag .rw s0=S2 at*;have FY:Arg N S2 2 (fq gs) (gs.map aU):=Arg.pure (fun st=>dH st gs);refine zQ 21 ?_;refine qT hH aS fun st hH=>?_;dsimp only[u2,u1,u3,u4,setMany,u5,u6,D.cells,Nat.reduceAdd,aL,aU,az,au] at hH;refine zQ 1 ?_;have hH:Has N S2 st (.box k (.mem 0 false (aL gs bw {s with i:=s.i+1}))::.aI bw 1 (aN.map az)::H):=hH;obtain⟨k1,k2,k3,k4,k5⟩:=gz (gs:=gs) (s:={s with i:=s.i+1}) (r:=94);have k5:=k5 (by show s.i+1≤_;omega);simp only at k1 k2 k3 k4
 have df:(bP gs {s with i:=s.i+1} 94).i=if dB gs (s.i+1) 94=true then s.i+2 else s.i+1:=by
  unfold bP;simp only;split<;>rfl
 refine zQ 3 ?_;obtain⟨_,st,aG,rfl,hH⟩:=dK (s:={s with i:=s.i+1}) (by omega) 94 hH;refine qv aG ?_;refine zQ 2 ?_
 have BF:y_ gs s.i s.g=match kJ gs s.i (gs.length+1) (if dB gs (s.i+1) 94=true then s.i+2 else s.i+1) [] true with
  | .er e w=>.er e w
  | .ok l k=>.ok ([za (if dB gs (s.i+1) 94=true then oO (cV l) else cV l)],s.g) (k+1):=by
  unfold y_ El;cases kJ gs s.i (gs.length+1) (if dB gs (s.i+1) 94=true then s.i+2 else s.i+1) [] true<;>rfl
 rw[←df] at BF
 change y_ gs s.i s.g=match kJ gs s.i (gs.length+1) (bP gs {s with i:=s.i+1} 94).i [] true with
  | .er e w=>.er e w
  | .ok l k=>.ok ([za (if dB gs ({s with i:=s.i+1}:dP).i 94=true then oO (cV l) else cV l)],s.g) (k+1) at BF
 generalize bP gs {s with i:=s.i+1} 94=s1 at*;generalize dB gs ({s with i:=s.i+1}:dP).i 94=nt at*;clear df
 obtain⟨C0,IU⟩:∃C0,kJ gs s.i (gs.length+1) s1.i [] true=C0:=⟨_,rfl⟩
 rw[IU] at BF;have Oa:∀s',et C0 aN s'→et (y_ gs s.i s.g) aN s':=fun s' h=>h.map fun e w hw=>by rw[BF,hw]
 refine zQ 8 ?_
 have hH:Has N S2 st (.box k (.mem 0 false (aL gs bw s1))::.aI bw 1 (aN.map az)::.aI .nul 2 (([]:List Rg).map au)::H):=((hH.e_ 2).front bZ|>.front cU|>fun h=>(h.front bZ))
 refine zQ 2 ?_;refine ah.loop (fun mm fr st=>∃(s1:dP) (ld:D) (lr:List Rg) (nn:Bool),fr.clean=⟨7,[.ptr k 0 0,cq fr 1,cq fr 2,.int .i64 (s.i:Nat),.bool nt,ld,.bool nn],[]⟩∧Has N S2 st (.box k (.mem 0 false (aL gs bw s1))::.aI bw 1 (aN.map az)::.aI ld 2 (lr.map au)::H)∧(s1.o=s.o)∧(s1.g=s.g)∧(s.i<s1.i)∧(s1.i≤gs.length)∧(lr.length≤8*s1.i+8)∧(s1.e=0→lr.length≤8*s1.i)∧(gs.length-s1.i+(if s1.e=0 then 1 else 0)≤mm)∧(et C0 aN s1∨s1.e=0∧∃n,gs.length<n+s1.i∧C0=kJ gs s.i n s1.i lr nn)) (gs.length+1) ?_ ?_
 ·exact⟨s1,.nul,[],true,rfl,hH,k1,k2,by omega,k5,by simp,fun _=>by simp,by split<;>omega,.inr ⟨k3.trans he,gs.length+1,by omega,IU.symm⟩⟩
 rintro mm fr st ⟨s1,ld,lr,nn,hfr,hH,h1,h2,h3,h4,h5,h6,yH,h7⟩;rw[hfr];clear hfr;generalize cq fr=ee;clear fr
 rcases h7 with h7|⟨he1,n,o_,jn⟩
 ·have he1:=h7.ne;have ly:(s1.e==0)=false:=by simpa using he1
  refine zQ 25 ?_;refine qD rfl (by simp[he1]) ?_;refine zQ 4 ?_;refine ah.ret ⟨rx,_,_,_,rfl,ai (rfl),?_⟩;exact⟨_,fc h1 (by omega) (by omega) h4 (Oa _ h7),cx.ay cw (hH.erase 2)⟩
 ·rw[if_pos he1] at yH;have h6:=h6 he1;have ly:(s1.e==0)=true:=by simpa using he1
  obtain⟨n,rfl⟩:∃m,n=m+1:=⟨n-1,by omega⟩
  unfold kJ at jn;refine zQ 10 ?_;obtain⟨_,st,aG,rfl,hH⟩:=oB (s:=s1) (by omega) 93 hH;refine qv aG ?_ (hg:=wi ly);refine zQ 3 ?_
  cases hb:dB gs s1.i 93 with
  |true=>
   have hlt:=qM hb;rw[hb,if_pos rfl] at jn;refine zQ 11 ?_;refine qE rfl (by simp[he1]) ?_;refine zQ 6 ?_
   cases nn with
   |true=>
    rw[if_pos rfl] at jn;refine zQ 5 ?_;obtain⟨_,st,aG,rfl,hH⟩:=dX (s:=s1) s.i 4 (by omega) hH;refine qv aG ?_;refine zQ 2 ?_;obtain⟨w1,w2,w3,w4⟩:=gi (aN:=aN) (s:=s1) (i:=s.i) (e:=4) he1 (by decide) jn;refine ah.ret ⟨rx,_,_,_,rfl,ai (rfl),?_⟩;exact⟨_,fc (by omega) (by omega) (by omega) (by omega) (Oa _ w1),cx.ay cw (hH.erase 2)⟩
   |false=>
    rw[if_neg (by simp)] at jn;rw[jn] at BF;simp only at BF;refine zQ 11 ?_;refine qT hH aS fun st hH=>?_;dsimp only[u2,u1,u3,u4,setMany,u5,u6,D.cells,Nat.reduceAdd,aL,aU,az,au] at hH;refine zQ 4 ?_;obtain⟨aG,Cm,_⟩:=mg (l:=lr) (hH.rows cU) (by omega);refine qv aG ?_;refine zQ 2 ?_;generalize cV lr=m at*;refine zQ 5 ?_
    have gd:∀(st:St) (a:List Rg) (k70:Nat),a=(if nt=true then oO m else m)→a.length≤1048576→S2.bs.length≤k70→Has N S2 st (.aI (.win k70 0 0 1 7) 7 [[.int .i64 2,bf a,.int .i64 0,.int .i64 0,.bool false,.int .i64 0,.int .i64 0]]::.box k (.mem 0 false (aL gs bw {s1 with i:=s1.i+1}))::.aI bw 1 (aN.map az)::.aI ld 2 (lr.map au)::H)→
      ∃d af,cP .rw false s0 st (.win k70 0 0 1 7)=some (d,af)∧∃(s':dP),iY gs aN (y_ gs s.i s.g) s s' d 2∧Has N S af (.box k (.mem 0 false (aL gs bw s'))::.aI bw 1 (aN.map az)::H):=by
     intro st a k70 TL ha hk hH;have hfz:=iK hH aS (L:=s0.bs.length) (.inl rfl) (fun k hk=>by simp only[D.ref] at hk;rw[←cw];omega);exact⟨_,_,ai hfz,{s1 with i:=s1.i+1},⟨h1,by show s1.g≤4;omega,by show s.i≤s1.i+1;omega,by show s1.i+1≤_;omega,_,rfl,Dl ha (by omega),by simp,.inr ⟨he1,by rw[BF,←TL];show _=PR.ok (_,s1.g) _;rw[h2];rfl,by show 1+2≤4*(s1.i+1-s.i);omega⟩⟩,cx.ay cw ((hH.drop 1).erase 2)⟩
    cases nt with
    |true=>
     refine zQ 3 ?_;obtain⟨aG,hla⟩:=uh (l:=m) (fG _ _) (by omega);refine qv aG ?_;refine zQ 5 ?_;refine ab.gm (qs:=[(0,_),(1,_)]) rfl rfl rfl rfl ⟨rfl,(ev rfl),(by rfl),rfl,(ev rfl),(by rfl),trivial⟩ (by intro q hq;simp only[List.mem_cons,List.not_mem_nil,or_false] at hq;rcases hq with rfl|rfl<;>exact⟨rfl,by exact Nat.le_of_ble_eq_true rfl⟩) (by show List.foldl _ [_,_,_,_,_,_,_] _=_;dsimp only[List.foldl_cons,List.foldl_nil,u2,u1]<;>rfl) (aa rfl _) ?_;refine qh (s:=7) (vs:=[_]) hH fun k70 st HL hH=>?_;refine zQ 2 ?_;obtain⟨d',af,uL,ib⟩:=gd _ (oO m) k70 rfl (by omega) HL hH;refine ah.ret ⟨rx,_,d',af,rfl,uL,ib⟩
    |false=>
     refine zQ 5 ?_;refine ab.gm (qs:=[(0,_),(1,_)]) rfl rfl rfl rfl ⟨rfl,(ev rfl),(by rfl),rfl,(ev rfl),(by rfl),trivial⟩ (by intro q hq;simp only[List.mem_cons,List.not_mem_nil,or_false] at hq;rcases hq with rfl|rfl<;>exact⟨rfl,by exact Nat.le_of_ble_eq_true rfl⟩) (by show List.foldl _ [_,_,_,_,_,_,_] _=_;dsimp only[List.foldl_cons,List.foldl_nil,u2,u1]<;>rfl) (aa rfl _) ?_;refine qh (s:=7) (vs:=[_]) hH fun k70 st HL hH=>?_;refine zQ 2 ?_;obtain⟨d',af,uL,ib⟩:=gd _ m k70 rfl (by omega) HL hH;refine ah.ret ⟨rx,_,d',af,rfl,uL,ib⟩
  |false=>
   rw[hb,if_neg (by simp)] at jn;refine zQ 14 ?_;refine qn ?_;simp only[List.length_map];refine zQ 2 ?_;refine zP (fun hge=>?_) fun hge=>?_
   ·rw[if_pos (by omega)] at jn;refine zQ 4 ?_;obtain⟨_,st,aG,rfl,hH⟩:=dX (s:=s1) s.i 4 (by omega) hH;refine qv aG ?_;refine zQ 2 ?_;obtain⟨w1,w2,w3,w4⟩:=gi (aN:=aN) (s:=s1) (i:=s.i) (e:=4) he1 (by decide) jn;refine ah.ret ⟨rx,_,_,_,rfl,ai (rfl),?_⟩;exact⟨_,fc (by omega) (by omega) (by omega) (by omega) (Oa _ w1),cx.ay cw (hH.erase 2)⟩
   ·rw[if_neg (by omega)] at jn;refine zQ 5 ?_;obtain⟨_,st,aG,s2,⟨i1,i2,i3,i4,a,rfl,i5,i6⟩,hH⟩:=Dx (s:=s1) aY he1 (by omega) hH;have M_:=(gQ a).arg N S2;have IB:=ye a;refine qv aG ?_;refine ab.bT (s:=2) hH rfl (ev rfl) (ev rfl) (by exact cU) (by exact Arg.rows (by assumption) hH) rfl rfl rfl rfl rfl rfl rfl ⟨(Nat.le_of_ble_eq_true rfl),(Nat.le_of_ble_eq_true rfl)⟩ (fun _=>(aa rfl _)) (by simp only[List.length_map]<;>omega) (by exact .inr (by assumption)) (fun Py st hH=>?_);dsimp only[u2,u1,u3,u4,setMany,u5,u6,D.cells,Nat.reduceAdd,aL,aU,az,au] at hH;refine zQ 5 ?_
    rcases i6 with i6|⟨i6,i7,i8⟩
    ·have hne:=i6.ne;exact⟨mm-1,by omega,⟨s2,Py,lr++a,false,rfl,(by rw[List.map_append];exact hH),i1.trans h1,i2.trans h2,by omega,i4,by rw[List.length_append];omega,fun e=>absurd e hne,by rw[if_neg hne];omega,.inl (i6.map fun e w h=>by rw[jn,h])⟩⟩
    ·rw[i8] at jn;simp only at jn;exact⟨mm-1,by omega,⟨s2,Py,lr++a,false,rfl,(by rw[List.map_append];exact hH),i1.trans h1,i2.trans h2,by omega,i4,by rw[List.length_append];omega,fun e=>by rw[List.length_append];omega,by rw[if_pos i6];omega,.inr ⟨i6,n,by omega,jn⟩⟩⟩
def pS (gs:List (Nat×Nat)) (f:Nat):PR (Int×Int):=
 if(digS (fR gs (f+1)) []).2=0 then .er 4 f
 else if dB gs (f+1+(digS (fR gs (f+1)) []).2) 44=true then
  (if dB gs (f+1+(digS (fR gs (f+1)) []).2+1+(digS (fR gs (f+1+(digS (fR gs (f+1)) []).2+1)) []).2) 125=true then
   (if(digS (fR gs (f+1+(digS (fR gs (f+1)) []).2+1)) []).2=0 then
    (if(gX (digS (fR gs (f+1)) []).1).2=true then .ok ((gX (digS (fR gs (f+1)) []).1).1,-1) (f+1+(digS (fR gs (f+1)) []).2+1+(digS (fR gs (f+1+(digS (fR gs (f+1)) []).2+1)) []).2+1) else .er 2 f)
   else if oA (digS (fR gs (f+1+(digS (fR gs (f+1)) []).2+1)) []).1 (digS (fR gs (f+1)) []).1=true then .er 4 f
   else if(gX (digS (fR gs (f+1)) []).1).2=true∧(gX (digS (fR gs (f+1+(digS (fR gs (f+1)) []).2+1)) []).1).2=true then .ok ((gX (digS (fR gs (f+1)) []).1).1,(gX (digS (fR gs (f+1+(digS (fR gs (f+1)) []).2+1)) []).1).1) (f+1+(digS (fR gs (f+1)) []).2+1+(digS (fR gs (f+1+(digS (fR gs (f+1)) []).2+1)) []).2+1) else .er 2 f)
  else .er 4 f)
 else(if dB gs (f+1+(digS (fR gs (f+1)) []).2) 125=true then
   (if oA (digS (fR gs (f+1)) []).1 (digS (fR gs (f+1)) []).1=true then .er 4 f
   else if(gX (digS (fR gs (f+1)) []).1).2=true then .ok ((gX (digS (fR gs (f+1)) []).1).1,(gX (digS (fR gs (f+1)) []).1).1) (f+1+(digS (fR gs (f+1)) []).2+1) else .er 2 f)
  else .er 4 f)
def pR (gs:List (Nat×Nat)) (f:Nat) (m n:List UInt8) (ok en:Bool) (i:Nat):PR (Int×Int):=
 if ok=false then .er 4 f
 else if dB gs i 125=false then .er 4 f
 else if en=false∧oA n m=true then .er 4 f
 else if(gX m).2=true∧(gX (if en=true then[] else n)).2=true then .ok ((gX m).1,if en=true then-1 else(gX n).1) (i+1)
 else .er 2 f
theorem Bh (gs:List (Nat×Nat)) (f:Nat):pS gs f=
  if(digS (fR gs (f+1)) []).2≠0∧dB gs (f+1+(digS (fR gs (f+1)) []).2) 44=true then
   pR gs f (digS (fR gs (f+1)) []).1 (digS (fR gs (f+1+(digS (fR gs (f+1)) []).2+1)) []).1 true (!decide (0<(digS (fR gs (f+1+(digS (fR gs (f+1)) []).2+1)) []).2)) (f+1+(digS (fR gs (f+1)) []).2+1+(digS (fR gs (f+1+(digS (fR gs (f+1)) []).2+1)) []).2)
  else pR gs f (digS (fR gs (f+1)) []).1 (digS (fR gs (f+1)) []).1 (decide (0<(digS (fR gs (f+1)) []).2)) false (f+1+(digS (fR gs (f+1)) []).2):=by
 unfold pS pR;have rP:(gX []).2=true:=rfl;generalize(digS (fR gs (f+1)) [])=A;generalize(digS (fR gs (f+1+A.2+1)) [])=B;generalize dB gs (f+1+A.2) 44=c1;generalize dB gs (f+1+A.2) 125=c2;generalize dB gs (f+1+A.2+1+B.2) 125=c3;generalize oA A.1 A.1=c4;generalize oA B.1 A.1=c5
 by_cases h1:A.2=0
 ·simp[h1]
 ·have EW:0<A.2:=by omega
  by_cases h2:B.2=0
  ·cases c1<;>cases c2<;>cases c3<;>cases c4<;>cases c5<;>simp[h1,EW,h2,rP]
  ·have H8:0<B.2:=by omega
   cases c1<;>cases c2<;>cases c3<;>cases c4<;>cases c5<;>simp[h1,EW,h2,H8,rP]
def fK (op:Int) (ps:List (List cg)):List cg:=
 match ps with
 |[]=>[iR 1 0 0 false 0 0 []]
 |[l]=>l
 |ps=>iR op 0 0 false 0 (ps.length:Nat) []::ps.flatten
theorem nf:∀l:List (List cg),eW l=l.flatten.length
 |[]=>rfl
 |a::l=>by rw[eW,List.flatten_cons,List.length_append,nf l]
theorem qI {s0:St} {x:D} {parts:List (List cg)} (op:Int) (hx:V.Rows s0 1 x (parts.map dM)) (hv:∀l∈parts,∀n∈l,tJ n) (hp:parts.length≤100000) (hs:eW parts≤100000):Ev pv 73 [.int .i64 op,x] s0 (uj (fK op parts)) s0∧(∀n∈fK op parts,tJ n)∧(parts.length=1→(fK op parts).length≤eW parts)∧(fK op parts).length≤eW parts+1:=by
 suffices hg:∃d,Ev pv 73 [.int .i64 op,x] s0 d s0∧d=uj (fK op parts)∧(∀n∈fK op parts,tJ n)∧(parts.length=1→(fK op parts).length≤eW parts)∧(fK op parts).length≤eW parts+1 by
  obtain⟨d,h1,rfl,h2⟩:=hg;exact⟨h1,h2⟩
 refine Ev.He rfl OL rfl rfl rfl ?_;refine zE ?_;obtain⟨cD,hF,hH⟩:=ri s0;generalize ag .ro s0=S at*;have hx:=Arg.of hx cD;refine zQ 8 ?_;refine qn ?_;simp only[List.length_map];refine zQ 7 ?_
 by_cases h0:parts.length=0
 ·have R4:parts=[]:=List.length_eq_zero_iff.1 h0;refine qD rfl (by simp[h0]) ?_;refine zQ 2 ?_;refine ab.go (d:=.agg [.int .i64 1,.nul,.int .i64 0,.int .i64 0,.bool false,.int .i64 0,.int .i64 0]) (st1:=_) rfl rfl rfl (by dsimp only[Fr.put,u1,u2]<;>rfl) ?_;refine qh (s:=7) (vs:=[_]) hH fun k13 st HO hH=>?_;refine zQ 2 ?_;have hfz:=iK (L:=s0.bs.length) (a:=[]) hH aS (.inr ⟨rfl,rfl⟩) (fun k hk=>by have jN:k13+1=k+1:=hk;rw[←cD];omega);refine ah.ret ⟨rx,_,_,rfl,rl cD hH (hfz),?_⟩;rw[R4];exact⟨rfl,Dl (by simp) (by omega),fun h=>by simp at h,by simp[fK]⟩
 have KE:(((parts.length:Nat):Int)==0)=false:=by rw[beq_eq_false_iff_ne];omega
 refine qE rfl (by rw[KE]) ?_;refine zQ 5 ?_
 by_cases h1:parts.length=1
 ·obtain⟨q,hq⟩:∃q,parts[0]?=some q:=⟨parts[0]'(by omega),List.getElem?_eq_getElem _⟩
  have iH:=vW hq
  have Cj:parts=[q]:=by
   match parts,h1,hq with
   |[a],_,hq=>simp at hq;rw[hq]
  refine qD rfl (by simp[h1]) ?_;refine zQ 3 ?_;refine qr fun Rh Ny=>?_;refine zQ 3 ?_;refine ah.ret ⟨rx,_,_,rfl,rl cD hH (rfl),?_⟩;have hj:fK op parts=q:=by rw[Cj];rfl
  refine⟨by rw[hj];rfl,by rw[hj];exact hv q (List.mem_of_getElem? hq),fun _=>?_,?_⟩<;>rw[hj,Cj]<;>simp[eW]
 have LH:(((parts.length:Nat):Int)==1)=false:=by rw[beq_eq_false_iff_ne];omega
 have hj:fK op parts=iR op 0 0 false 0 (parts.length:Nat) []::parts.flatten:=by
  match parts,h0,h1 with
  |_::_::_,_,_=>rfl
 rw[hj];refine qE rfl (by rw[LH]) ?_;refine zQ 5 ?_;refine qn ?_;simp only[List.length_map];refine ab.go (d:=.agg [.int .i64 op,.nul,.int .i64 0,.int .i64 0,.bool false,.int .i64 0,.int .i64 (parts.length:Nat)]) (st1:=_) rfl rfl rfl (by dsimp only[Fr.put,u1,u2]<;>rfl) ?_;refine qh (s:=7) (vs:=[_]) hH fun k23 st Ko hH=>?_;refine zQ 6 ?_;refine qn ?_;simp only[List.length_map];refine zQ 2 ?_;have hH:Has s0.bs.length S st (.aI (.win k23 0 0 1 7) 7 [[.int .i64 op,.nul,.int .i64 0,.int .i64 0,.bool false,.int .i64 0,.int .i64 (parts.length:Nat)]]::[]):=hH;refine zQ 1 ?_;refine ah.loop (fun mm fr st=>∃(i:Nat) (od:D) (es:List (List D)),fr.clean=⟨27,[cq fr 0,cq fr 1,cq fr 2,cq fr 3,cq fr 4,od,cq fr 6,cq fr 7,cq fr 8,cq fr 9,cq fr 10,cq fr 11,cq fr 12,cq fr 13,cq fr 14,cq fr 15,cq fr 16,cq fr 17,cq fr 18,cq fr 19,cq fr 20,cq fr 21,cq fr 22,cq fr 23,x,.int .i64 (parts.length:Nat),.int .i64 (i:Nat)],[]⟩∧Has s0.bs.length S st [.aI od 7 es]∧(i+mm=parts.length)∧(es.map (·.map oU)=(iR op 0 0 false 0 (parts.length:Nat) []::(parts.take i).flatten).map aV)∧(∀e∈es,∀d∈e,oh d=true)∧(∀k,od.ref=k+1→S.bs.length≤k)) (parts.length) ?_ ?_
 ·refine⟨0,.win k23 0 0 1 7,[[.int .i64 op,.nul,.int .i64 0,.int .i64 0,.bool false,.int .i64 0,.int .i64 (parts.length:Nat)]],rfl,hH,by omega,rfl,?_,fun k hk=>by simp only[D.ref] at hk;omega⟩;intro e he d hd;simp only[List.mem_cons,List.not_mem_nil,or_false] at he;subst he;simp only[List.mem_cons,List.not_mem_nil,or_false] at hd
  rcases hd with rfl|rfl|rfl|rfl|rfl|rfl|rfl<;>rfl
 rintro mm fr st ⟨i,od,es,hfr,hH,hi,ti,ht,Gy⟩;rw[hfr];clear hfr;generalize cq fr=ee;clear fr;refine zQ 4 ?_
 by_cases hlt:i<parts.length
 ·obtain⟨q,hq⟩:∃q,parts[i]?=some q:=⟨parts[i]'hlt,List.getElem?_eq_getElem _⟩
  have iH:=vW hq;have Nb:=hv q (List.mem_of_getElem? hq)
  have tj:es.length=1+(parts.take i).flatten.length:=by
   have TG:(List.length∘List.map aV:List cg→Nat)=List.length:=by funext l;simp
   have:=congrArg List.length ti;simp[TG] at this
   simp;omega
  have Hn:parts.take (i+1)=parts.take i++[q]:=by rw[List.take_add_one,hq];rfl
  have RL:eW (parts.take (i+1))=eW (parts.take i)+q.length:=by rw[Hn,dv];simp[eW]
  have RS:eW (parts.take (i+1))≤eW parts:=by
   have:=dv (parts.take (i+1)) (parts.drop (i+1));rw[List.take_append_drop] at this;omega
  have M0:=nf (parts.take i);refine qq<|qD rfl (by simp;omega) ?_;refine zQ 5 ?_;refine qr fun UO Sx=>?_;refine zQ 6 ?_;refine ab.rp (s:=7) hH rfl (ev rfl) (ev rfl) aS ((sM Nb).rows st) rfl rfl rfl rfl rfl rfl rfl ⟨(Nat.le_of_ble_eq_true rfl),(Nat.le_of_ble_eq_true rfl)⟩ (fun _=>(aa rfl _)) (by rw[List.length_map];omega) (.inl hF) Gy (fun QU st Gy hH=>?_);dsimp only[u2] at hH;refine zQ 6 ?_;refine⟨mm-1,by omega,⟨i+1,QU,es++q.map aV,rfl,hH,by omega,by rw[List.map_append,ti,ui Nb,Hn,List.flatten_append,List.map_cons,List.map_cons,List.map_append];simp,?_,Gy⟩⟩;intro e he
  rcases List.mem_append.1 he with he|he
  ·exact ht e he
  ·exact pW Nb e he
 ·refine qq<|qE rfl (by simp;omega) ?_;refine zQ 6 ?_;have hik:i=parts.length:=by omega
  rw[hik,List.take_length] at ti
  have eS:∀n∈iR op 0 0 false 0 (parts.length:Nat) []::parts.flatten,tJ n:=fun n hn=>by
   rcases List.mem_cons.1 hn with rfl|hn
   ·exact Dl (by simp) (by omega) _ (List.mem_cons_self ..)
   ·obtain⟨l,hl,hn⟩:=List.mem_flatten.1 hn;exact hv l hl n hn
  refine ah.ret ⟨rx,_,_,rfl,rl cD hH (iJ hH aS ti ht (fun k hk=>by have:=Gy k hk;rw[←cD];exact this) (by decide)),?_⟩;have M0:=nf parts;exact⟨rfl,eS,by omega,by simp only[List.length_cons];omega⟩
def jI (fr:Go.V.Fr) (k:Nat):Go.V.D:=Go.V.nth .bh fr.loc k
def GR (gs:List (Nat×Nat)) (aN:List Int) (R:PR (Int×Int)) (s s':dP) (n1 n2:Int):Prop:=
 tK gs s s'∧(et R aN s'∨s'.e=0∧R=.ok (n1,n2) s'.i)
theorem vw {gs:List (Nat×Nat)} {s:dP} {r:Int} (h:dB gs s.i r=false):bP gs s r=s:=by
 unfold bP;rw[if_neg (by rw[h];simp)]
theorem kT {gs:List (Nat×Nat)} {s:dP} {r:Int} (h:dB gs s.i r=true):(bP gs s r).i=s.i+1:=by
 unfold bP;rw[if_pos h]
theorem Bi {N k:Nat} {S s0:St} {H:List bm} {gs:List (Nat×Nat)} {bw:D} {aN:List Int} {s:dP} (aY:kN gs aN) (he:s.e=0) (hi:s.i<gs.length) (hH:Has N S s0 (.box k (.mem 0 false (aL gs bw s))::.aI bw 1 (aN.map az)::H)):
  ∃d af,Ev pv 112 [.ptr k 0 0] s0 d af∧∃(n1 n2:Int) (s':dP),d=.tup [.int .i64 n1,.int .i64 n2]∧GR gs aN (pS gs s.i) s s' n1 n2∧Has N S af (.box k (.mem 0 false (aL gs bw s'))::.aI bw 1 (aN.map az)::H):=by
 have uM:=aY.gl;have gR:=aY.pl;have hne:gs≠[]:=by rintro rfl;simp at hi
 refine Ev.ko rfl K9 rfl rfl rfl ?_;refine zE ?_;have cx:=hH;have hH:=hH.cB;have cw:(ag .rw s0).bs=s0.bs:=rfl;generalize ag .rw s0=S2 at*;refine zQ 22 ?_;refine qT hH aS fun st hH=>?_;dsimp only[u2,u1,u3,u4,setMany,u5,u6,D.cells,Nat.reduceAdd,aL,aU,az,au] at hH;refine zQ 1 ?_;have hH:Has N S2 st (.box k (.mem 0 false (aL gs bw {s with i:=s.i+1}))::.aI bw 1 (aN.map az)::H):=hH;have eS:=Bh gs s.i
 obtain⟨R,hR⟩:∃R,pS gs s.i=R:=⟨_,rfl⟩
 rw[hR] at eS⊢;clear hR
 have D0:∀(st:St) (s3:dP) (e:Int),e≠0→s3.e=0→tK gs s s3→R=.er e s.i→Has N S2 st (.box k (.mem 0 false (aL gs bw s3))::.aI bw 1 (aN.map az)::H)→∃d af,Ev pv 39 [.ptr k 0 0,.int .i64 (s.i:Nat),.int .i64 e] st d af∧d=.sl []∧∃s4,(∀n1 n2,GR gs aN R s s4 n1 n2)∧Has N S2 af (.box k (.mem 0 false (aL gs bw s4))::.aI bw 1 (aN.map az)::H):=by
  intro st s3 e h0 h1 h2 hv hH;obtain⟨d,af,aG,h4,hH⟩:=dX (s:=s3) s.i e (by omega) hH;obtain⟨w1,w2,w3,w4⟩:=gi (aN:=aN) (s:=s3) (i:=s.i) (e:=e) h1 h0 hv;exact⟨d,af,aG,h4,_,fun _ _=>⟨⟨w3.trans h2.1,w4.trans h2.2.1,by rw[w2];exact h2.2.2.1,by rw[w2];exact h2.2.2.2⟩,.inl w1⟩,hH⟩
 obtain⟨A,hA⟩:∃A,digS (fR gs (s.i+1)) []=A:=⟨_,rfl⟩
 refine zQ 3 ?_;obtain⟨_,st,aG,rfl,Cm,LB,hH⟩:=rD (s:={s with i:=s.i+1}) uM (by show s.i+1≤_;omega) hne hH;dsimp only at aG Cm LB hH;rw[hA] at aG Cm LB hH;refine qv aG ?_;refine zQ 6 ?_;rw[hA] at eS;obtain⟨m,a2⟩:=A;clear hA;dsimp only at eS Cm LB hH
 obtain⟨s1,tg⟩:∃s1:dP,({s with i:=s.i+1+a2}:dP)=s1:=⟨_,rfl⟩
 have Hu:s1.e=0:=by rw[←tg];exact he
 have M4:s1.i=s.i+1+a2:=by rw[←tg]
 have Bz:tK gs s s1:=by rw[←tg];exact⟨rfl,rfl,by show s.i<s.i+1+a2;omega,LB⟩
 have hH:Has N S2 st (.box k (.mem 0 false (aL gs bw s1))::.aI bw 1 (aN.map az)::H):=by rw[←tg];exact hH
 clear tg;rw[←M4] at eS
 obtain⟨ok,FT⟩:∃ok,decide (0<a2)=ok:=⟨_,rfl⟩
 rw[FT] at eS⊢;refine zQ 8 ?_;refine ah.lN (fun fr st=>∃(n:List UInt8) (en:Bool) (s3:dP) (tmp:List (Nat×D)),fr=⟨14,[.ptr k 0 0,jI fr 1,jI fr 2,jI fr 3,.int .i64 (s.i:Nat),.str m,.bool ok,.str n,.bool en,jI fr 9,jI fr 10,jI fr 11,jI fr 12,jI fr 13],tmp⟩∧Has N S2 st (.box k (.mem 0 false (aL gs bw s3))::.aI bw 1 (aN.map az)::H)∧(s3.e=0)∧(tK gs s s3)∧(n.length≤120)∧(R=pR gs s.i m n ok en s3.i)) ?_ ?_
 ·cases ok with
  |false=>
   have Qu:a2=0:=by have:=of_decide_eq_false FT;omega
   have jV:false=false:=rfl;refine zQ 9 ?_;exact⟨m,false,s1,_,rfl,hH,Hu,Bz,Cm,by rw[eS,if_neg (fun h=>h.1 Qu)]⟩
  |true=>
   have Qu:0<a2:=of_decide_eq_true FT;have jV:true=true:=rfl;obtain⟨k1,k2,k3,k4,k5⟩:=gz (gs:=gs) (s:=s1) (r:=44);have k5:=k5 Bz.2.2.2;have k6:=vw (gs:=gs) (s:=s1) (r:=44);have k7:=kT (gs:=gs) (s:=s1) (r:=44);refine zQ 4 ?_;obtain⟨_,st,aG,rfl,hH⟩:=dK (s:=s1) (by omega) 44 hH;refine qv aG ?_ (hg:=wi jV);refine zQ 2 ?_;generalize bP gs s1 44=s2 at*
   have Ht:tK gs s s2:=⟨k1.trans Bz.1,k2.trans Bz.2.1,by have:=Bz.2.2.1;omega,k5⟩
   cases hb:dB gs s1.i 44 with
   |false=>
    have k6:=k6 hb;rw[k6] at hH;refine zQ 2 ?_;exact⟨m,false,s1,_,rfl,hH,Hu,Bz,Cm,by rw[eS,if_neg (fun h=>by rw[hb] at h;exact absurd h.2 (by simp))]⟩
   |true=>
    have k7:=k7 hb;refine zQ 5 ?_;rw[←k7] at eS
    obtain⟨B,hB⟩:∃B,digS (fR gs s2.i) []=B:=⟨_,rfl⟩
    rw[hB] at eS;refine zQ 3 ?_;obtain⟨_,st,aG,rfl,Kb,hni,hH⟩:=rD (s:=s2) uM k5 hne hH;rw[hB] at aG Kb hni hH;refine qv aG ?_;refine zQ 6 ?_;clear hB;obtain⟨n,b2⟩:=B;dsimp only at eS Kb hni hH;refine zQ 5 ?_;exact⟨n,!decide (0<b2),{s2 with i:=s2.i+b2},_,rfl,hH,k3.trans Hu,⟨Ht.1,Ht.2.1,by have:=Ht.2.2.1;show s.i<s2.i+b2;omega,hni⟩,Kb,by rw[eS,if_pos ⟨by omega,hb⟩]⟩
 ·rintro fr st ⟨n,en,s3,tmp,hfr,hH,h1,h2,h3,hG⟩;rw[hfr];clear hfr;generalize jI fr=ee;clear fr;clear eS FT;obtain⟨k1,k2,k3,k4,k5⟩:=gz (gs:=gs) (s:=s3) (r:=125);have k5:=k5 h2.2.2.2
  have Bw:tK gs s (bP gs s3 125):=⟨k1.trans h2.1,k2.trans h2.2.1,by have:=h2.2.2.1;omega,k5⟩
  have Bx:(bP gs s3 125).e=0:=k3.trans h1;have k7:=kT (gs:=gs) (s:=s3) (r:=125);unfold pR at hG
  cases ok with
  |false=>
   rw[if_pos rfl] at hG;have ch:(!false)=true:=rfl;refine zQ 25 ?_;obtain⟨_,st,aG,rfl,s4,SG,hH⟩:=D0 _ s3 4 (by decide) h1 h2 hG hH;refine qv aG ?_;refine zQ 6 ?_;refine ah.ret ⟨rx,_,_,_,rfl,ai (rfl),?_⟩;exact⟨_,_,s4,rfl,SG _ _,cx.ay cw hH⟩
  |true=>
   rw[if_neg (by simp)] at hG;have ch:(!true)=false:=rfl
   cases GI:(!dB gs s3.i 125) with
   |true=>
    rw[if_pos (by simpa using GI)] at hG;refine zQ 7 ?_;obtain⟨_,st,aG,rfl,hH⟩:=dK (s:=s3) (by omega) 125 hH;refine qv aG ?_ (hg:=wi ch);refine zQ 12 ?_;generalize bP gs s3 125=s4 at*;refine zQ 5 ?_;obtain⟨_,st,aG,rfl,s5,HH,hH⟩:=D0 _ s4 4 (by decide) Bx Bw hG hH;refine qv aG ?_;refine zQ 6 ?_;refine ah.ret ⟨rx,_,_,_,rfl,ai (rfl),?_⟩;exact⟨_,_,s5,rfl,HH _ _,cx.ay cw hH⟩
   |false=>
    have Qj:dB gs s3.i 125=true:=by simpa using GI
    have k7:=k7 Qj;rw[if_neg (by rw[Qj];simp)] at hG;rw[←k7] at hG
    cases en with
    |true=>
     rw[if_neg (fun h=>absurd h.1 (by simp))] at hG;have bW:(!true)=false:=rfl;have rO:=fun st=>kQ (s0:=st) m (by omega);have Bt:=fun st=>kQ (s0:=st) [] (by simp);simp only[if_true] at hG;generalize gX m=V1 at*;generalize gX []=V2 at*;obtain⟨a1,f1⟩:=V1;obtain⟨b1,f2⟩:=V2;dsimp only at hG rO Bt;refine zQ 7 ?_;obtain⟨_,st,aG,rfl,hH⟩:=dK (s:=s3) (by omega) 125 hH;refine qv aG ?_ (hg:=wi ch);refine zQ 9 ?_;refine ab.b_ (ax rfl rfl rfl GI) rfl bW (aa rfl _) ?_;refine zQ 2 ?_;generalize bP gs s3 125=s4 at*;refine zQ 5 ?_;refine qv ((rO _)) ?_;refine zQ 18 ?_;refine qv ((Bt _)) ?_;refine zQ 8 ?_;refine ah.lB 78 (.bool (!f1||!f2)) [] ?_ (fun ff tmp gL=>?_)
     ·refine zQ 3 ?_;refine ab.two 75 rfl (fun ch=>?_) (fun ch=>?_)
      ·refine zQ 3 ?_;refine ab.nil (cA ?_ ?_)
       ·dsimp only[aX,List.foldl,nth,u2,u1]
        all_goals(first|rfl|simp)
       ·refine zF ?_
        all_goals(simp[ch];done)
      ·refine zQ 3 ?_;refine ab.nil (cA ?_ ?_)
       ·dsimp only[aX,List.foldl,nth,u2,u1]
        all_goals(first|rfl|simp)
       ·refine zF ?_
        all_goals(simp[ch];done)
     dsimp only[aX,List.foldl,nth,u2,u1];refine qc (fun uN=>?_) (fun uN=>?_)<;>try simp only[cs] at uN
     ·rw[if_neg (fun h=>by rw[h.1,h.2] at uN;simp at uN)] at hG;refine zQ 4 ?_;obtain⟨_,st,aG,rfl,s5,HH,hH⟩:=D0 _ s4 2 (by decide) Bx Bw hG hH;refine qv aG ?_;refine zQ 6 ?_;refine ah.ret ⟨rx,_,_,_,rfl,ai (rfl),?_⟩;exact⟨_,_,s5,rfl,HH _ _,cx.ay cw hH⟩
     ·rw[if_pos (by cases f1<;>cases f2<;>simp at uN⊢)] at hG;refine zQ 17 ?_;refine ah.ret ⟨rx,_,_,_,rfl,ai (rfl),?_⟩;exact⟨_,_,s4,rfl,⟨Bw,.inr ⟨Bx,hG⟩⟩,cx.ay cw hH⟩
    |false=>
     have bW:(!false)=true:=rfl;have rO:=fun st=>kQ (s0:=st) m (by omega);have Bt:=fun st=>kQ (s0:=st) n (by omega);have hle:=fun st=>Dt (s0:=st) n m;have Tm:∀(a b:Int),(if false=true then a else b)=b:=fun a b=>if_neg (by simp);have hil:∀(a b:List UInt8),(if false=true then a else b)=b:=fun a b=>if_neg (by simp);rw[Tm,hil] at hG;generalize gX m=V1 at*;generalize gX n=V2 at*;obtain⟨a1,f1⟩:=V1;obtain⟨b1,f2⟩:=V2;dsimp only at hG rO Bt;generalize oA n m=v at*;refine zQ 7 ?_;obtain⟨_,st,aG,rfl,hH⟩:=dK (s:=s3) (by omega) 125 hH;refine qv aG ?_ (hg:=wi ch);refine zQ 8 ?_;refine qv ((hle _)) ?_ (hg:=wi bW);refine ab.cz (ax rfl rfl rfl GI) rfl bW (aa rfl _) ?_;refine zQ 2 ?_;generalize bP gs s3 125=s4 at*
     cases v with
     |true=>
      rw[if_pos ⟨rfl,rfl⟩] at hG;refine zQ 5 ?_;obtain⟨_,st,aG,rfl,s5,HH,hH⟩:=D0 _ s4 4 (by decide) Bx Bw hG hH;refine qv aG ?_;refine zQ 6 ?_;refine ah.ret ⟨rx,_,_,_,rfl,ai (rfl),?_⟩;exact⟨_,_,s5,rfl,HH _ _,cx.ay cw hH⟩
     |false=>
      rw[if_neg (fun h=>absurd h.2 (by simp))] at hG;refine zQ 5 ?_;refine qv ((rO _)) ?_;refine zQ 16 ?_;refine qv ((Bt _)) ?_;refine zQ 8 ?_;refine ah.lB 78 (.bool (!f1||!f2)) [] ?_ (fun ff tmp gL=>?_)
      ·refine zQ 3 ?_;refine ab.two 75 rfl (fun ch=>?_) (fun ch=>?_)
       ·refine zQ 3 ?_;refine ab.nil (cA ?_ ?_)
        ·dsimp only[aX,List.foldl,nth,u2,u1]
         all_goals(first|rfl|simp)
        ·refine zF ?_
         all_goals(simp[ch];done)
       ·refine zQ 3 ?_;refine ab.nil (cA ?_ ?_)
        ·dsimp only[aX,List.foldl,nth,u2,u1]
         all_goals(first|rfl|simp)
        ·refine zF ?_
         all_goals(simp[ch];done)
      dsimp only[aX,List.foldl,nth,u2,u1];refine qc (fun uN=>?_) (fun uN=>?_)<;>try simp only[cs] at uN
      ·rw[if_neg (fun h=>by rw[h.1,h.2] at uN;simp at uN)] at hG;refine zQ 4 ?_;obtain⟨_,st,aG,rfl,s5,HH,hH⟩:=D0 _ s4 2 (by decide) Bx Bw hG hH;refine qv aG ?_;refine zQ 6 ?_;refine ah.ret ⟨rx,_,_,_,rfl,ai (rfl),?_⟩;exact⟨_,_,s5,rfl,HH _ _,cx.ay cw hH⟩
      ·rw[if_pos (by cases f1<;>cases f2<;>simp at uN⊢)] at hG;refine zQ 15 ?_;refine ah.ret ⟨rx,_,_,_,rfl,ai (rfl),?_⟩;exact⟨_,_,s4,rfl,⟨Bw,.inr ⟨Bx,hG⟩⟩,cx.ay cw hH⟩
def f' (fr:Go.V.Fr) (k:Nat):Go.V.D:=Go.V.nth .bh fr.loc k
abbrev PF:=Nat→Nat→PR (List cg×Nat)
def nQ (A:PF) (gs:List (Nat×Nat)) (m i g:Nat) (free:Bool) (j:Nat):PR (List cg×Nat):=
 if m=0 then .er 10 i
 else if free=false∧4≤g then .er 13 i
 else match A j (if free=true then g else g+1) with
  | .er e w=>.er e w
  | .ok (l,g2) j2=>
   if dB gs j2 41=true then .ok (if free=true then l else iR 6 0 0 false ((g+1:Nat):Int) 1 []::l,g2) (j2+1)
   else .er 4 i
def uR (A:PF) (gs:List (Nat×Nat)) (m i g:Nat):PR (List cg×Nat):=
 if dB gs (i+1) 63=true then
  (if dB gs (i+2) 58=true then nQ A gs m i g true (i+3) else .er 4 i)
 else nQ A gs m i g false (i+1)
theorem et.to {α:Type} {R:PR α} {aN:List Int} {s s':dP} (h:et R aN s) (he:s'.e=s.e) (hw:s'.w=s.w):et R aN s':=by
 obtain⟨e,w,h0,h1,h2,h3⟩:=h;exact⟨e,w,h0,h1,he.trans h2,hw.trans h3⟩
def zp (A:PF) (gs:List (Nat×Nat)) (m:Nat):Prop:=∀{N k:Nat} {S s0:St} {H:List bm} {bw:D} {aN:List Int} {s:dP},kN gs aN→s.e=0→s.i≤gs.length→s.g≤4→s.o+m=20→Has N S s0 (.box k (.mem 0 false (aL gs bw s))::.aI bw 1 (aN.map az)::H)→
 ∃d af,Ev pv 38 [.ptr k 0 0] s0 d af∧∃(s':dP),pk gs aN (A s.i s.g) s s' d∧Has N S af (.box k (.mem 0 false (aL gs bw s'))::.aI bw 1 (aN.map az)::H)
theorem BL {m:Nat} {gs:List (Nat×Nat)} {A:PF} (hA:∀m',m'+1=m→zp A gs m') {N k:Nat} {S s0:St} {H:List bm} {bw:D} {aN:List Int} {s:dP} (aY:kN gs aN) (he:s.e=0) (hi:s.i<gs.length) (hg:s.g≤4) (ho:s.o+m=20) (hH:Has N S s0 (.box k (.mem 0 false (aL gs bw s))::.aI bw 1 (aN.map az)::H)):
  ∃d af,Ev pv 121 [.ptr k 0 0] s0 d af∧∃(s':dP),iY gs aN (uR A gs m s.i s.g) s s' d 2∧Has N S af (.box k (.mem 0 false (aL gs bw s'))::.aI bw 1 (aN.map az)::H):=by
 have uM:=aY.gl;have gR:=aY.pl;refine Ev.ko rfl K5 rfl rfl rfl ?_;refine zE ?_;have cx:=hH;have hH:=hH.cB;have cw:(ag .rw s0).bs=s0.bs:=rfl;generalize ag .rw s0=S2 at*
 obtain⟨R,hR⟩:∃R,uR A gs m s.i s.g=R:=⟨_,rfl⟩
 rw[hR];unfold uR at hR
 have hwr:∀(st:St) (s3:dP) (e:Int) (H2:List bm),e≠0→s3.e=0→s3.o=s.o→s3.g≤4→s.i≤s3.i→s3.i≤gs.length→R=.er e s.i→Has N S2 st (.box k (.mem 0 false (aL gs bw s3))::.aI bw 1 (aN.map az)::H2)→∃d af,Ev pv 39 [.ptr k 0 0,.int .i64 (s.i:Nat),.int .i64 e] st d af∧d=.sl []∧∃s4,iY gs aN R s s4 (.sl []) 2∧Has N S2 af (.box k (.mem 0 false (aL gs bw s4))::.aI bw 1 (aN.map az)::H2):=by
  intro st s3 e H2 h0 h1 h2 h3 h4 h5 hv hH;obtain⟨d,af,aG,h6,hH⟩:=dX (s:=s3) s.i e (by omega) hH;obtain⟨w1,w2,w3,w4⟩:=gi (aN:=aN) (s:=s3) (i:=s.i) (e:=e) h1 h0 hv;exact⟨d,af,aG,h6,_,fc (w3.trans h2) (by omega) (by omega) (by omega) w1,hH⟩
 refine zQ 21 ?_;refine qT hH aS fun st hH=>?_;dsimp only[u2,u1,u3,u4,setMany,u5,u6,D.cells,Nat.reduceAdd,aL,aU,az,au,aV] at hH;refine zQ 1 ?_;have hH:Has N S2 st (.box k (.mem 0 false (aL gs bw {s with i:=s.i+1}))::.aI bw 1 (aN.map az)::H):=hH
 obtain⟨s1,tg⟩:∃s1:dP,({s with i:=s.i+1}:dP)=s1:=⟨_,rfl⟩
 have M5:s1.e=0∧s1.o=s.o∧s1.g=s.g∧s1.i=s.i+1:=by rw[←tg];exact⟨he,rfl,rfl,rfl⟩
 rw[tg] at hH;clear tg;obtain⟨f1,f2,f3,f4⟩:=M5;refine zQ 6 ?_;refine ah.lN (fun fr st=>∃(free:Bool) (s2:dP) (tmp:List (Nat×D)),fr=⟨7,[.ptr k 0 0,f' fr 1,f' fr 2,.int .i64 (s.i:Nat),.bool free,f' fr 5,f' fr 6],tmp⟩∧Has N S2 st (.box k (.mem 0 false (aL gs bw s2))::.aI bw 1 (aN.map az)::H)∧(s2.e=0)∧(s2.o=s.o)∧(s2.g=s.g)∧(s.i+1≤s2.i)∧(s2.i≤gs.length)∧(nQ A gs m s.i s.g free s2.i=R)) ?_ ?_
 ·obtain⟨k1,k2,k3,k4,k5⟩:=gz (gs:=gs) (s:=s1) (r:=63);have k5:=k5 (by omega);have k6:=vw (gs:=gs) (s:=s1) (r:=63);have k7:=kT (gs:=gs) (s:=s1) (r:=63);refine zQ 2 ?_;obtain⟨_,st,aG,rfl,hH⟩:=dK (s:=s1) (by omega) 63 hH;refine qv aG ?_;refine zQ 1 ?_;generalize bP gs s1 63=s2 at*
  cases hb:dB gs s1.i 63 with
  |false=>
   refine zQ 2 ?_;exact⟨false,s2,_,rfl,hH,by omega,by omega,by omega,by omega,by omega,(by rw[k6 hb,f4,←hR,if_neg (by rw[←f4,hb];simp)])⟩
  |true=>
   refine zQ 5 ?_;obtain⟨r1,r2,r3,r4,r5⟩:=gz (gs:=gs) (s:=s2) (r:=58);have r5:=r5 k5;have k7:=k7 hb;have r7:=kT (gs:=gs) (s:=s2) (r:=58);refine zQ 3 ?_;obtain⟨_,st,aG,rfl,hH⟩:=dK (s:=s2) (by omega) 58 hH;refine qv aG ?_;refine zQ 2 ?_;generalize bP gs s2 58=s3 at*
   cases hb2:dB gs s2.i 58 with
   |false=>
    refine zQ 5 ?_;obtain⟨_,st,aG,rfl,s4,hN,hH⟩:=hwr _ s3 4 _ (by decide) (by omega) (by omega) (by omega) (by omega) (by omega) (by rw[←hR,if_pos (by rw[←f4];exact hb),if_neg (by rw[show s.i+2=s2.i by omega,hb2];simp)]) hH;refine qv aG ?_;refine zQ 2 ?_;refine ah.ret ⟨rx,_,_,_,rfl,ai (rfl),?_⟩;exact⟨s4,hN,cx.ay cw hH⟩
   |true=>
    refine zQ 2 ?_;exact⟨true,s3,_,rfl,hH,by omega,by omega,by omega,by omega,by omega,(by rw[←hR,if_pos (by rw[←f4];exact hb),if_pos (by rw[show s.i+2=s2.i by omega];exact hb2),show s3.i=s.i+3 by have:=r7 hb2;omega])⟩
 ·rintro fr st ⟨free,s2,tmp,hfr,hH,h1,h2,h3,h4,h5,hG⟩;rw[hfr];clear hfr;generalize f' fr=ee;clear fr;clear hR;refine zQ 9 ?_
  by_cases Qs:20≤s2.o
  ·have iz:decide (((s2.o:Nat):Int)≥20)=true:=by rw[decide_eq_true_eq];omega
   refine qD rfl (by rw[iz]) ?_;refine zQ 4 ?_;obtain⟨_,st,aG,rfl,s4,hN,hH⟩:=hwr _ s2 10 _ (by decide) h1 h2 (by omega) (by omega) h5 (by rw[←hG];unfold nQ;rw[if_pos (by omega)]) hH;refine qv aG ?_;refine zQ 2 ?_;refine ah.ret ⟨rx,_,_,_,rfl,ai (rfl),?_⟩;exact⟨s4,hN,cx.ay cw hH⟩
  have iz:decide (((s2.o:Nat):Int)≥20)=false:=by rw[decide_eq_false_iff_not];omega
  refine qE rfl (by rw[iz]) ?_;refine zQ 3 ?_;refine ab.go (d:=.agg [.int .i64 6,.nul,.int .i64 0,.int .i64 0,.bool false,.int .i64 0,.int .i64 1]) (st1:=_) rfl rfl rfl (aa rfl _) ?_;refine qa hH fun k5 st II hH=>?_;dsimp only[u2,u1,u3,u4,setMany,u5,u6,D.cells,Nat.reduceAdd,aL,aU,az,au,aV] at hH;refine qS hH aS fun st hH=>?_;dsimp only[u2,u1,u3,u4,setMany,u5,u6,D.cells,Nat.reduceAdd,aL,aU,az,au,aV] at hH;refine zQ 1 ?_;have hH:Has N S2 st (.box k (.mem 0 false (aL gs bw s2))::.aI bw 1 (aN.map az)::.box k5 (.mem 0 false [.int .i64 6,.nul,.int .i64 0,.int .i64 0,.bool false,.int .i64 0,.int .i64 1])::H):=mT hH;refine zQ 2 ?_;refine ah.lN (fun fr st=>∃(cap:Int) (s3:dP) (tmp:List (Nat×D)),fr=⟨7,[.ptr k 0 0,f' fr 1,f' fr 2,.int .i64 (s.i:Nat),.bool free,.ptr k5 0 0,f' fr 6],tmp⟩∧Has N S2 st (.box k (.mem 0 false (aL gs bw s3))::.aI bw 1 (aN.map az)::.box k5 (.mem 0 false [.int .i64 6,.nul,.int .i64 0,.int .i64 0,.bool false,.int .i64 cap,.int .i64 1])::H)∧(s3.e=0)∧(s3.o=s.o)∧(s3.g≤4)∧(s3.i=s2.i)∧(s3.g=(if free=true then s.g else s.g+1))∧(cap=(if free=true then 0 else((s.g+1:Nat):Int)))∧(¬(free=false∧4≤s.g))) ?_ ?_
  ·refine zQ 4 ?_
   cases free with
   |true=>
    refine zQ 2 ?_;exact⟨0,s2,_,rfl,hH,h1,h2,by omega,rfl,(by rw[if_pos rfl];exact h3),(by rw[if_pos rfl]),(fun h=>absurd h.1 (by simp))⟩
   |false=>
    refine zQ 10 ?_
    by_cases Qe:4≤s2.g
    ·have iz:decide (((s2.g:Nat):Int)≥4)=true:=by rw[decide_eq_true_eq];omega
     refine qD rfl (by rw[iz]) ?_;refine zQ 4 ?_;obtain⟨_,st,aG,rfl,s4,hN,hH⟩:=hwr _ s2 13 _ (by decide) h1 h2 (by omega) (by omega) h5 (by rw[←hG];unfold nQ;rw[if_neg (by omega),if_pos ⟨rfl,by omega⟩]) hH;refine qv aG ?_;refine zQ 2 ?_;refine ah.ret ⟨rx,_,_,_,rfl,ai (rfl),?_⟩;exact⟨s4,hN,cx.ay cw (hH.erase 2)⟩
    ·have iz:decide (((s2.g:Nat):Int)≥4)=false:=by rw[decide_eq_false_iff_not];omega
     refine qE rfl (by rw[iz]) ?_;refine zQ 10 ?_;refine qT hH aS fun st hH=>?_;dsimp only[u2,u1,u3,u4,setMany,u5,u6,D.cells,Nat.reduceAdd,aL,aU,az,au,aV] at hH;refine zQ 7 ?_;refine qT hH cU fun st hH=>?_;dsimp only[u2,u1,u3,u4,setMany,u5,u6,D.cells,Nat.reduceAdd,aL,aU,az,au,aV] at hH;refine zQ 1 ?_;exact⟨((s2.g+1:Nat):Int),{s2 with g:=s2.g+1},_,rfl,hH,h1,h2,by show s2.g+1≤4;omega,rfl,(by rw[if_neg (by simp)];show s2.g+1=_;omega),(by rw[if_neg (by simp),h3]),(fun h=>by have:=h.2;omega)⟩
  ·rintro fr st ⟨cap,s3,tmp,hfr,hH,e1,e2,e3,e4,e5,e6,e7⟩;rw[hfr];clear hfr;generalize f' fr=ee;clear fr
   have hv:R=match A s3.i s3.g with
    | .er e w=>.er e w
    | .ok (l,g2) j2=>if dB gs j2 41=true then .ok (if free=true then l else iR 6 0 0 false ((s.g+1:Nat):Int) 1 []::l,g2) (j2+1) else .er 4 s.i:=by
    rw[←hG,e4,e5];unfold nQ;rw[if_neg (by omega),if_neg e7]
   refine zQ 9 ?_;refine qT hH aS fun st hH=>?_;dsimp only[u2,u1,u3,u4,setMany,u5,u6,D.cells,Nat.reduceAdd,aL,aU,az,au,aV] at hH;refine zQ 1 ?_;have hH:Has N S2 st (.box k (.mem 0 false (aL gs bw {s3 with o:=s3.o+1}))::.aI bw 1 (aN.map az)::.box k5 (.mem 0 false [.int .i64 6,.nul,.int .i64 0,.int .i64 0,.bool false,.int .i64 cap,.int .i64 1])::H):=hH;refine zQ 3 ?_;obtain⟨_,st,aG,s4,⟨a1,a2,a3,a4,l,rfl,a5,a6,a7⟩,hH⟩:=hA (m-1) (by omega) (s:={s3 with o:=s3.o+1}) aY e1 (by show s3.i≤_;omega) e3 (by show s3.o+1+(m-1)=20;omega) hH;refine qv aG ?_;refine zQ 2 ?_;have a7:et (A s3.i s3.g) aN s4∨s4.e=0∧A s3.i s3.g=.ok (l,s4.g) s4.i:=a7;have a1:s4.o=s3.o+1:=a1;have a3:s3.i≤s4.i:=a3;have a6:l.length≤4*(s4.i-s3.i)+1:=a6;have hla:=(sM a5).arg N S2;refine zQ 6 ?_;refine ab.oM (z:=((s.o:Nat):Int)) rfl (ev rfl) (ev rfl) (by(try simp only[List.length_reverse,List.length_cons,List.length_nil,List.length_append,List.length_map,List.length_set]);rw[wrap_i64 (by omega) (by omega)]<;>omega) (aa rfl _) ?_;refine zQ 2 ?_;refine qT hH aS fun st hH=>?_;dsimp only[u2,u1,u3,u4,setMany,u5,u6,D.cells,Nat.reduceAdd,aL,aU,az,au,aV] at hH;refine zQ 1 ?_
   obtain⟨s5,M3⟩:∃s5:dP,({s4 with o:=s.o}:dP)=s5:=⟨_,rfl⟩
   have hH:Has N S2 st (.box k (.mem 0 false (aL gs bw s5))::.aI bw 1 (aN.map az)::.box k5 (.mem 0 false [.int .i64 6,.nul,.int .i64 0,.int .i64 0,.bool false,.int .i64 cap,.int .i64 1])::H):=by rw[←M3];exact hH
   have M1:s5.o=s.o∧s5.g=s4.g∧s5.i=s4.i∧s5.e=s4.e∧s5.w=s4.w:=by rw[←M3];exact⟨rfl,rfl,rfl,rfl,rfl⟩
   clear M3;obtain⟨b1,b2,b3,b4,b5⟩:=M1;refine zQ 2 ?_;refine ah.lN (fun fr st=>∃(s6:dP) (tmp:List (Nat×D)),fr=⟨7,[.ptr k 0 0,f' fr 1,f' fr 2,f' fr 3,.bool free,.ptr k5 0 0,uj l],tmp⟩∧Has N S2 st (.box k (.mem 0 false (aL gs bw s6))::.aI bw 1 (aN.map az)::.box k5 (.mem 0 false [.int .i64 6,.nul,.int .i64 0,.int .i64 0,.bool false,.int .i64 cap,.int .i64 1])::H)∧(s6.o=s.o)∧(s6.g≤4)∧(s4.i≤s6.i)∧(s6.i≤gs.length)∧(et R aN s6∨s6.e=0∧s4.i<s6.i∧R=.ok (if free=true then l else iR 6 0 0 false ((s.g+1:Nat):Int) 1 []::l,s6.g) s6.i)) ?_ ?_
   ·by_cases LF:s5.e=0
    ·have ly:(s5.e==0)=true:=by simpa using LF
     have a8:A s3.i s3.g=.ok (l,s4.g) s4.i:=by
      rcases a7 with a7|a7
      ·exact absurd (b4.symm.trans LF) a7.ne
      ·exact a7.2
     rw[a8] at hv;simp only at hv;rw[←b3] at hv;obtain⟨k1,k2,k3,k4,P0⟩:=gz (gs:=gs) (s:=s5) (r:=41);have P0:=P0 (by omega);have hsk:dB gs s5.i 41=true→(bP gs s5 41).i=s5.i+1:=fun h=>by unfold bP;rw[if_pos h]
     refine zQ 8 ?_;obtain⟨_,st,aG,rfl,hH⟩:=dK (s:=s5) (by omega) 41 hH;refine qv aG ?_ (hg:=wi ly);refine zQ 3 ?_;generalize bP gs s5 41=s6 at*
     cases hb:dB gs s5.i 41 with
     |false=>
      refine zQ 5 ?_;obtain⟨_,st,aG,rfl,s7,hN,hH⟩:=hwr _ s6 4 _ (by decide) (by omega) (by omega) (by omega) (by omega) (by omega) (by rw[hv,if_neg (by rw[hb];simp)]) hH;refine qv aG ?_;refine zQ 2 ?_;refine ah.ret ⟨rx,_,_,_,rfl,ai (rfl),?_⟩;exact⟨s7,hN,cx.ay cw (hH.erase 2)⟩
     |true=>
      have hsk:=hsk hb;refine zQ 2 ?_;exact⟨s6,_,rfl,hH,by omega,by omega,by omega,by omega,.inr ⟨by omega,by omega,by rw[hv,if_pos hb,hsk,show s6.g=s4.g by omega]⟩⟩
    ·have ly:(s5.e==0)=false:=by simpa using LF
     have TN:¬s5.e=0→et R aN s4:=fun h=>by
      rcases a7 with a7|a7
      ·exact a7.map fun e w hw=>by rw[hv,hw]
      ·exact absurd (b4.trans a7.1) h
     refine zQ 14 ?_;exact⟨s5,_,rfl,hH,b1,by omega,by omega,by omega,.inl ((TN LF).to b4 b5)⟩
   ·rintro fr st ⟨s6,tmp,hfr,hH,c1,c2,c3,c4,c5⟩;rw[hfr];clear hfr;generalize f' fr=ee;clear fr;refine zQ 5 ?_
    cases free with
    |true=>
     refine zQ 6 ?_;refine ah.ret ⟨rx,_,_,_,rfl,ai (rfl),?_⟩;refine⟨s6,⟨c1,c2,by omega,c4,l,rfl,a5,by omega,?_⟩,cx.ay cw (hH.erase 2)⟩
     rcases c5 with c5|⟨c5,c6,c7⟩
     ·exact .inl c5
     ·exact .inr ⟨c5,by rw[c7,if_pos rfl],by omega⟩
    |false=>
     refine zQ 4 ?_;refine ab.bN (m:=7) hH rfl (ev rfl) (by exact cU) (by dsimp only[List.drop_succ_cons,List.drop_zero,List.take_succ_cons,List.take_zero,aL,aU,az,au,aV]<;>rfl) rfl rfl (aa rfl _) ?_;refine qh (s:=7) (vs:=[_]) hH fun k89 st SO hH=>?_;dsimp only[u2,u1,u3,u4,setMany,u5,u6,D.cells,Nat.reduceAdd,aL,aU,az,au,aV] at hH;refine qm ?_;refine ab.rp (s:=7) hH rfl (ev rfl) (ev rfl) aS ((sM a5).rows st) rfl rfl rfl rfl rfl rfl rfl ⟨(Nat.le_of_ble_eq_true rfl),(Nat.le_of_ble_eq_true rfl)⟩ (fun _=>(aa rfl _)) (by simp only[List.length_map,List.length_cons,List.length_nil];omega) (.inr (sL a5)) (fun k hk=>by have jN:k89+1=k+1:=hk;omega) (fun QM st Gy hH=>?_);dsimp only[u2] at hH;refine zQ 2 ?_;have hH:Has N S2 st (.aI QM 7 ([.int .i64 6,.nul,.int .i64 0,.int .i64 0,.bool false,.int .i64 cap,.int .i64 1]::l.map aV)::.box k (.mem 0 false (aL gs bw s6))::.aI bw 1 (aN.map az)::.box k5 (.mem 0 false [.int .i64 6,.nul,.int .i64 0,.int .i64 0,.bool false,.int .i64 cap,.int .i64 1])::H):=hH
     have hfz:=iJ (L:=s0.bs.length) (l:=iR 6 0 0 false cap 1 []::l) hH aS (by rw[List.map_cons,ui a5];rfl) (fun e he d hd=>by
      rcases List.mem_cons.1 he with rfl|he
      ·simp only[List.mem_cons,List.not_mem_nil,or_false] at hd
       rcases hd with rfl|rfl|rfl|rfl|rfl|rfl|rfl<;>rfl
      ·exact pW a5 e he d hd) (fun k hk=>by rw[←cw];exact Gy k hk) (n:=16) (by decide)
     refine ah.ret ⟨rx,_,_,_,rfl,ai hfz,⟨s6,⟨c1,c2,by omega,c4,_,rfl,?_,by simp only[List.length_cons];omega,?_⟩,cx.ay cw ((hH.drop 1).erase 2)⟩⟩
     ·intro n hn
      rcases List.mem_cons.1 hn with rfl|hn
      ·exact⟨rfl,by simp[iR],by simp[iR]⟩
      ·exact a5 n hn
     ·rcases c5 with c5|⟨c5,c6,c7⟩
      ·exact .inl c5
      ·exact .inr ⟨c5,by rw[c7,if_neg (by simp),e6,if_neg (by simp)],by simp only[List.length_cons];omega⟩
def yy (fr:Go.V.Fr) (k:Nat):Go.V.D:=Go.V.nth .bh fr.loc k
noncomputable def Ms (r:Int):List Rg:=cV [(r,r)]
noncomputable def GP (A:PF) (gs:List (Nat×Nat)) (m i g:Nat) (r:Int):PR (List cg×Nat):=
 if r=40 then uR A gs m i g
 else if r=91 then y_ gs i g
 else if r=92 then
  match lF gs i with
  | .er e w=>.er e w
  | .ok (a,_) j=>.ok ([za a],g) j
 else if r=46 then .ok ([za BV],g) (i+1)
 else if r=94 then .ok ([iR 7 0 0 false 0 0 []],g) (i+1)
 else if r=36 then .ok ([iR 8 0 0 false 0 0 []],g) (i+1)
 else if r=42∨r=43∨r=63∨r=41∨r=93∨r=123∨r=125∨r=124 then .er 4 i
 else .ok ([za (Ms r)],g) (i+1)
noncomputable def AJ (A:PF) (gs:List (Nat×Nat)) (m i g:Nat):PR (List cg×Nat):=
 match gs[i]? with
 |none=>.er 4 i
 |some q=>if B7 gs i=true then .er 4 i else GP A gs m i g ((q.1:Nat):Int)
def vL (gs:List (Nat×Nat)) (l:List cg) (g:Nat) (mn mx:Int) (j:Nat):PR (List cg×Nat):=
 .ok (iR 5 mn mx (dB gs j 63) 0 1 []::l,g) (if dB gs j 63=true then j+1 else j)
noncomputable def I_ (gs:List (Nat×Nat)) (l:List cg) (g j:Nat):PR (List cg×Nat):=
 if dB gs j 42=true then vL gs l g 0 (-1) (j+1)
 else if dB gs j 43=true then vL gs l g 1 (-1) (j+1)
 else if dB gs j 63=true then vL gs l g 0 1 (j+1)
 else if dB gs j 123=true then
  match pS gs j with
  | .er e w=>.er e w
  | .ok (mn,mx) j2=>vL gs l g mn mx j2
 else .ok (l,g) j
noncomputable def Fj (A:PF) (gs:List (Nat×Nat)) (m i g:Nat):PR (List cg×Nat):=
 match AJ A gs m i g with
 | .er e w=>.er e w
 | .ok (l,g1) j=>I_ gs l g1 j
theorem Ey {m:Nat} {gs:List (Nat×Nat)} {A:PF} (hA:∀m',m'+1=m→zp A gs m') {N k:Nat} {S s0:St} {H:List bm} {bw:D} {aN:List Int} {s:dP} (aY:kN gs aN) (he:s.e=0) (hi:s.i<gs.length) (hg:s.g≤4) (ho:s.o+m=20) (hH:Has N S s0 (.box k (.mem 0 false (aL gs bw s))::.aI bw 1 (aN.map az)::H)):
  ∃d af,Ev pv 111 [.ptr k 0 0] s0 d af∧∃(s':dP),iY gs aN (AJ A gs m s.i s.g) s s' d 2∧Has N S af (.box k (.mem 0 false (aL gs bw s'))::.aI bw 1 (aN.map az)::H):=by
 have uM:=aY.gl;have gR:=aY.pl;refine Ev.ko rfl K_ rfl rfl rfl ?_;refine zE ?_;have cx:=hH;have hH:=hH.cB;have cw:(ag .rw s0).bs=s0.bs:=rfl;generalize ag .rw s0=S2 at*;have FY:Arg N S2 2 (fq gs) (gs.map aU):=Arg.pure (fun st=>dH st gs)
 obtain⟨g,Cn⟩:∃g,gs[s.i]?=some g:=⟨gs[s.i]'hi,List.getElem?_eq_getElem _⟩
 have iH:(gs.map aU)[s.i]?=some (aU g):=by rw[List.getElem?_map,Cn];rfl
 obtain⟨R,hR⟩:∃R,AJ A gs m s.i s.g=R:=⟨_,rfl⟩
 rw[hR];unfold AJ at hR;rw[Cn] at hR;simp only at hR
 have hwr:∀(st:St),R=.er 4 s.i→Has N S2 st (.box k (.mem 0 false (aL gs bw s))::.aI bw 1 (aN.map az)::H)→∃d af,Ev pv 39 [.ptr k 0 0,.int .i64 (s.i:Nat),.int .i64 4] st d af∧d=.sl []∧∃s4,iY gs aN R s s4 (.sl []) 2∧Has N S2 af (.box k (.mem 0 false (aL gs bw s4))::.aI bw 1 (aN.map az)::H):=by
  intro st hv hH;obtain⟨d,af,aG,h6,hH⟩:=dX (s:=s) s.i 4 (by omega) hH;obtain⟨w1,w2,w3,w4⟩:=gi (aN:=aN) (s:=s) (i:=s.i) (e:=4) he (by decide) hv;exact⟨d,af,aG,h6,_,fc w3 (by omega) (by omega) (by omega) w1,hH⟩
 have jL:∀(st:St) (s1:dP) (op:Int) (w:D) (a:List Rg) (kk:Nat),(w=bf a∨w=.nul∧a=[])→a.length≤1048576→s1.o=s.o→s1.g≤4→s.i<s1.i→s1.i≤gs.length→s1.e=0→R=.ok ([iR op 0 0 false 0 0 a],s1.g) s1.i→S2.bs.length≤kk→Has N S2 st (.aI (.win kk 0 0 1 7) 7 [[.int .i64 op,w,.int .i64 0,.int .i64 0,.bool false,.int .i64 0,.int .i64 0]]::.box k (.mem 0 false (aL gs bw s1))::.aI bw 1 (aN.map az)::H)→
   ∃d af,cP .rw false s0 st (.win kk 0 0 1 7)=some (d,af)∧∃(s':dP),iY gs aN R s s' d 2∧Has N S af (.box k (.mem 0 false (aL gs bw s'))::.aI bw 1 (aN.map az)::H):=by
  intro st s1 op w a kk hw ha h1 h2 h3 h4 he1 hv hk hH;have hfz:=iK hH aS (L:=s0.bs.length) hw (fun k hk=>by simp only[D.ref] at hk;rw[←cw];omega);refine⟨_,_,ai hfz,s1,⟨h1,h2,by omega,h4,_,rfl,Dl ha (by omega),by simp,?_⟩,cx.ay cw (hH.drop 1)⟩;exact .inr ⟨he1,hv,by simp only[List.length_cons,List.length_nil];omega⟩
 refine zQ 17 ?_;obtain⟨_,st,aG,rfl,hH⟩:=zg (s:=s) s.i hi hH;refine qv aG ?_;refine zQ 1 ?_;refine qc (fun hb=>?_) (fun hb=>?_)<;>try simp only[cs] at hb
 ·rw[if_pos hb] at hR;refine zQ 4 ?_;obtain⟨_,st,aG,rfl,s4,hN,hH⟩:=hwr _ hR.symm hH;refine qv aG ?_;refine zQ 2 ?_;refine ah.ret ⟨rx,_,_,_,rfl,ai (rfl),?_⟩;exact⟨s4,hN,cx.ay cw hH⟩
 rw[if_neg (by rw[hb];simp)] at hR;unfold GP at hR;refine zQ 8 ?_;refine qr fun Ma HA=>?_;refine qf (fo:=0) fun PW JU=>?_;refine zQ 13 ?_;refine zI (fun L8=>?_) fun L8=>?_
 ·rw[if_pos L8] at hR;refine zQ 3 ?_;obtain⟨_,st,aG,s4,⟨p1,p2,p3,p4,l,rfl,p5,p6,p7⟩,hH⟩:=BL hA aY he hi hg ho hH;refine qv aG ?_;refine zQ 2 ?_;rw[hR] at p7;refine ah.ret ⟨rx,_,_,_,rfl,ai (rfl),?_⟩;exact⟨s4,⟨p1,p2,p3,p4,l,rfl,p5,p6,p7⟩,cx.ay cw hH⟩
 rw[if_neg L8] at hR;refine zQ 5 ?_;refine zI (fun Fm=>?_) fun Fm=>?_
 ·rw[if_pos Fm] at hR;refine zQ 3 ?_;obtain⟨_,st,aG,s4,⟨p1,p2,p3,p4,l,rfl,p5,p6,p7⟩,hH⟩:=B2 aY he hi hg hH;refine qv aG ?_;refine zQ 2 ?_;rw[hR] at p7;refine ah.ret ⟨rx,_,_,_,rfl,ai (rfl),?_⟩;exact⟨s4,⟨p1,p2,p3,p4,l,rfl,p5,p6,p7⟩,cx.ay cw hH⟩
 rw[if_neg Fm] at hR;refine zQ 5 ?_;refine zI (fun L6=>?_) fun L6=>?_
 ·rw[if_pos L6] at hR;refine zQ 3 ?_;obtain⟨_,st,aG,d1,b,s4,rfl,⟨p1,p2,p3,p4,p5⟩,hH⟩:=vx (s:=s) aY he hi hH;refine qv aG ?_;refine zQ 6 ?_
  have F1:∀(st:St) (w:D) (a:List Rg) (kk:Nat),(w=bf a∨w=.nul∧a=[])→a.length≤8→(et R aN s4∨s4.e=0∧s.i<s4.i∧R=.ok ([za a],s4.g) s4.i)→S2.bs.length≤kk→Has N S2 st (.aI (.win kk 0 0 1 7) 7 [[.int .i64 2,w,.int .i64 0,.int .i64 0,.bool false,.int .i64 0,.int .i64 0]]::.box k (.mem 0 false (aL gs bw s4))::.aI bw 1 (aN.map az)::H)→∃d af,cP .rw false s0 st (.win kk 0 0 1 7)=some (d,af)∧∃(s':dP),iY gs aN R s s' d 2∧Has N S af (.box k (.mem 0 false (aL gs bw s'))::.aI bw 1 (aN.map az)::H):=by
   intro st w a kk hw ha p6 hk hH;have hfz:=iK hH aS (L:=s0.bs.length) hw (fun k hk=>by simp only[D.ref] at hk;rw[←cw];omega);refine⟨_,_,ai hfz,s4,⟨p1,by omega,by omega,p4,_,rfl,Dl (by omega) (by omega),by simp,?_⟩,cx.ay cw (hH.drop 1)⟩
   rcases p6 with p6|⟨p6,p7,p8⟩
   ·exact .inl p6
   ·exact .inr ⟨p6,p8,by simp only[List.length_cons,List.length_nil];omega⟩
  rcases p5 with⟨p5,rfl⟩|⟨p5,p6,a,p7,rfl,ha,_⟩
  ·refine zQ 3 ?_;refine ab.gm (qs:=[(0,_),(1,_)]) rfl rfl rfl rfl ⟨rfl,(ev rfl),(by rfl),rfl,(ev rfl),(by rfl),trivial⟩ (by intro q hq;simp only[List.mem_cons,List.not_mem_nil,or_false] at hq;rcases hq with rfl|rfl<;>exact⟨rfl,by exact Nat.le_of_ble_eq_true rfl⟩) (by show List.foldl _ [_,_,_,_,_,_,_] _=_;dsimp only[List.foldl_cons,List.foldl_nil,u2,u1]<;>rfl) (aa rfl _) ?_;refine qh (s:=7) (vs:=[_]) hH fun k54 st HN hH=>?_;dsimp only[u2,u1,u3,u4,setMany,u5,u6,D.cells,Nat.reduceAdd,aL,aU,az,au,aV] at hH;refine zQ 2 ?_;obtain⟨d',af,uL,ib⟩:=F1 _ .nul [] k54 (.inr ⟨rfl,rfl⟩) (by simp) (.inl (p5.map fun e w h=>by rw[←hR,h])) HN hH;refine ah.ret ⟨rx,_,d',af,rfl,uL,ib⟩
  ·refine zQ 3 ?_;refine ab.gm (qs:=[(0,_),(1,_)]) rfl rfl rfl rfl ⟨rfl,(ev rfl),(by rfl),rfl,(ev rfl),(by rfl),trivial⟩ (by intro q hq;simp only[List.mem_cons,List.not_mem_nil,or_false] at hq;rcases hq with rfl|rfl<;>exact⟨rfl,by exact Nat.le_of_ble_eq_true rfl⟩) (by show List.foldl _ [_,_,_,_,_,_,_] _=_;dsimp only[List.foldl_cons,List.foldl_nil,u2,u1]<;>rfl) (aa rfl _) ?_;refine qh (s:=7) (vs:=[_]) hH fun k54 st HN hH=>?_;dsimp only[u2,u1,u3,u4,setMany,u5,u6,D.cells,Nat.reduceAdd,aL,aU,az,au,aV] at hH;refine zQ 2 ?_;obtain⟨d',af,uL,ib⟩:=F1 _ (bf a) a k54 (.inl rfl) ha (.inr ⟨p5,p6,by rw[←hR,p7,p2]⟩) HN hH;refine ah.ret ⟨rx,_,d',af,rfl,uL,ib⟩
 rw[if_neg L6] at hR;refine zQ 5 ?_;refine zI (fun L7=>?_) fun L7=>?_
 ·rw[if_pos L7] at hR;refine zQ 9 ?_;refine qT hH aS fun st hH=>?_;dsimp only[u2,u1,u3,u4,setMany,u5,u6,D.cells,Nat.reduceAdd,aL,aU,az,au,aV] at hH;refine zQ 1 ?_;obtain⟨N4,hla⟩:=F9 (s0:=st);refine zQ 2 ?_;refine qv (N4) ?_;refine ab.gm (qs:=[(0,_),(1,_)]) rfl rfl rfl rfl ⟨rfl,(ev rfl),(by rfl),rfl,(ev rfl),(by rfl),trivial⟩ (by intro q hq;simp only[List.mem_cons,List.not_mem_nil,or_false] at hq;rcases hq with rfl|rfl<;>exact⟨rfl,by exact Nat.le_of_ble_eq_true rfl⟩) (by show List.foldl _ [_,_,_,_,_,_,_] _=_;dsimp only[List.foldl_cons,List.foldl_nil,u2,u1]<;>rfl) (aa rfl _) ?_;refine qh (s:=7) (vs:=[_]) hH fun k66 st NL hH=>?_;refine zQ 2 ?_;obtain⟨d',af,uL,ib⟩:=jL _ {s with i:=s.i+1} 2 (bf BV) BV k66 (.inl rfl) (by omega) rfl hg (by show s.i<s.i+1;omega) (by show s.i+1≤_;omega) he hR.symm NL hH;refine ah.ret ⟨rx,_,d',af,rfl,uL,ib⟩
 rw[if_neg L7] at hR;refine zQ 5 ?_;refine zI (fun L5=>?_) fun L5=>?_
 ·rw[if_pos L5] at hR;refine zQ 9 ?_;refine qT hH aS fun st hH=>?_;dsimp only[u2,u1,u3,u4,setMany,u5,u6,D.cells,Nat.reduceAdd,aL,aU,az,au,aV] at hH;refine zQ 3 ?_;refine ab.go (d:=.agg [.int .i64 7,.nul,.int .i64 0,.int .i64 0,.bool false,.int .i64 0,.int .i64 0]) (st1:=_) rfl rfl rfl (aa rfl _) ?_;refine qh (s:=7) (vs:=[_]) hH fun k77 st Kk hH=>?_;refine zQ 2 ?_;obtain⟨d',af,uL,ib⟩:=jL _ {s with i:=s.i+1} 7 .nul [] k77 (.inr ⟨rfl,rfl⟩) (by simp) rfl hg (by show s.i<s.i+1;omega) (by show s.i+1≤_;omega) he hR.symm Kk hH;refine ah.ret ⟨rx,_,d',af,rfl,uL,ib⟩
 rw[if_neg L5] at hR;refine zQ 5 ?_;refine zI (fun L9=>?_) fun L9=>?_
 ·rw[if_pos L9] at hR;refine zQ 9 ?_;refine qT hH aS fun st hH=>?_;dsimp only[u2,u1,u3,u4,setMany,u5,u6,D.cells,Nat.reduceAdd,aL,aU,az,au,aV] at hH;refine zQ 3 ?_;refine ab.go (d:=.agg [.int .i64 8,.nul,.int .i64 0,.int .i64 0,.bool false,.int .i64 0,.int .i64 0]) (st1:=_) rfl rfl rfl (aa rfl _) ?_;refine qh (s:=7) (vs:=[_]) hH fun k88 st Kj hH=>?_;refine zQ 2 ?_;obtain⟨d',af,uL,ib⟩:=jL _ {s with i:=s.i+1} 8 .nul [] k88 (.inr ⟨rfl,rfl⟩) (by simp) rfl hg (by show s.i<s.i+1;omega) (by show s.i+1≤_;omega) he hR.symm Kj hH;refine ah.ret ⟨rx,_,d',af,rfl,uL,ib⟩
 rw[if_neg L9] at hR;have wX:((((g.1:Nat):Int))=42∨(((g.1:Nat):Int))=43∨(((g.1:Nat):Int))=63∨(((g.1:Nat):Int))=41∨(((g.1:Nat):Int))=93∨(((g.1:Nat):Int))=123∨(((g.1:Nat):Int))=125∨(((g.1:Nat):Int))=124)→R=.er 4 s.i:=fun h=>by rw[←hR,if_pos h]
 refine zQ 6 ?_
 by_cases Ps:((g.1:Nat):Int)=42
 ·refine qD rfl (by simp[Ps]) ?_;refine zQ 1 ?_;refine qD rfl (by simp[Ps]) ?_;refine zQ 4 ?_;obtain⟨_,st,aG,rfl,s4,hN,hH⟩:=hwr _ (wX (by omega)) hH;refine qv aG ?_;refine zQ 2 ?_;refine ah.ret ⟨rx,_,_,_,rfl,ai (rfl),?_⟩;exact⟨s4,hN,cx.ay cw hH⟩
 refine qE rfl (by simp[Ps]) ?_;refine zQ 5 ?_
 by_cases Pr:((g.1:Nat):Int)=43
 ·refine qD rfl (by simp[Pr]) ?_;refine zQ 1 ?_;refine qD rfl (by simp[Pr]) ?_;refine zQ 4 ?_;obtain⟨_,st,aG,rfl,s4,hN,hH⟩:=hwr _ (wX (by omega)) hH;refine qv aG ?_;refine zQ 2 ?_;refine ah.ret ⟨rx,_,_,_,rfl,ai (rfl),?_⟩;exact⟨s4,hN,cx.ay cw hH⟩
 refine qE rfl (by simp[Pr]) ?_;refine zQ 5 ?_
 by_cases Pq:((g.1:Nat):Int)=63
 ·refine qD rfl (by simp[Pq]) ?_;refine zQ 1 ?_;refine qD rfl (by simp[Pq]) ?_;refine zQ 4 ?_;obtain⟨_,st,aG,rfl,s4,hN,hH⟩:=hwr _ (wX (by omega)) hH;refine qv aG ?_;refine zQ 2 ?_;refine ah.ret ⟨rx,_,_,_,rfl,ai (rfl),?_⟩;exact⟨s4,hN,cx.ay cw hH⟩
 refine qE rfl (by simp[Pq]) ?_;refine zQ 5 ?_
 by_cases Pt:((g.1:Nat):Int)=41
 ·refine qD rfl (by simp[Pt]) ?_;refine zQ 1 ?_;refine qD rfl (by simp[Pt]) ?_;refine zQ 4 ?_;obtain⟨_,st,aG,rfl,s4,hN,hH⟩:=hwr _ (wX (by omega)) hH;refine qv aG ?_;refine zQ 2 ?_;refine ah.ret ⟨rx,_,_,_,rfl,ai (rfl),?_⟩;exact⟨s4,hN,cx.ay cw hH⟩
 refine qE rfl (by simp[Pt]) ?_;refine zQ 5 ?_
 by_cases Pp:((g.1:Nat):Int)=93
 ·refine qD rfl (by simp[Pp]) ?_;refine zQ 1 ?_;refine qD rfl (by simp[Pp]) ?_;refine zQ 4 ?_;obtain⟨_,st,aG,rfl,s4,hN,hH⟩:=hwr _ (wX (by omega)) hH;refine qv aG ?_;refine zQ 2 ?_;refine ah.ret ⟨rx,_,_,_,rfl,ai (rfl),?_⟩;exact⟨s4,hN,cx.ay cw hH⟩
 refine qE rfl (by simp[Pp]) ?_;refine zQ 5 ?_
 by_cases Ij:((g.1:Nat):Int)=123
 ·refine qD rfl (by simp[Ij]) ?_;refine zQ 1 ?_;refine qD rfl (by simp[Ij]) ?_;refine zQ 4 ?_;obtain⟨_,st,aG,rfl,s4,hN,hH⟩:=hwr _ (wX (by omega)) hH;refine qv aG ?_;refine zQ 2 ?_;refine ah.ret ⟨rx,_,_,_,rfl,ai (rfl),?_⟩;exact⟨s4,hN,cx.ay cw hH⟩
 refine qE rfl (by simp[Ij]) ?_;refine zQ 5 ?_
 by_cases Ii:((g.1:Nat):Int)=125
 ·refine qD rfl (by simp[Ii]) ?_;refine zQ 1 ?_;refine qD rfl (by simp[Ii]) ?_;refine zQ 4 ?_;obtain⟨_,st,aG,rfl,s4,hN,hH⟩:=hwr _ (wX (by omega)) hH;refine qv aG ?_;refine zQ 2 ?_;refine ah.ret ⟨rx,_,_,_,rfl,ai (rfl),?_⟩;exact⟨s4,hN,cx.ay cw hH⟩
 refine qE rfl (by simp[Ii]) ?_;refine zQ 4 ?_
 by_cases Lk:((g.1:Nat):Int)=124
 ·refine qD rfl (by simp[Lk]) ?_;refine zQ 4 ?_;obtain⟨_,st,aG,rfl,s4,hN,hH⟩:=hwr _ (wX (by omega)) hH;refine qv aG ?_;refine zQ 2 ?_;refine ah.ret ⟨rx,_,_,_,rfl,ai (rfl),?_⟩;exact⟨s4,hN,cx.ay cw hH⟩
 refine qE rfl (by simp[Lk]) ?_;rw[if_neg (by omega)] at hR;refine zQ 9 ?_;refine qT hH aS fun st hH=>?_;dsimp only[u2,u1,u3,u4,setMany,u5,u6,D.cells,Nat.reduceAdd,aL,aU,az,au,aV] at hH;refine zQ 1 ?_;obtain⟨_,Cm,_⟩:=mg (s0:=s0) (x:=bf [(((g.1:Nat):Int),((g.1:Nat):Int))]) (l:=[(((g.1:Nat):Int),((g.1:Nat):Int))]) (fG _ _) (by simp);simp only[List.length_cons,List.length_nil] at Cm;refine zQ 3 ?_;refine qv (jc _) ?_;refine ab.gm (qs:=[(0,_),(1,_)]) rfl rfl rfl rfl ⟨rfl,(ev rfl),(by rfl),rfl,(ev rfl),(by rfl),trivial⟩ (by intro q hq;simp only[List.mem_cons,List.not_mem_nil,or_false] at hq;rcases hq with rfl|rfl<;>exact⟨rfl,by exact Nat.le_of_ble_eq_true rfl⟩) (by show List.foldl _ [_,_,_,_,_,_,_] _=_;dsimp only[List.foldl_cons,List.foldl_nil,u2,u1]<;>rfl) (aa rfl _) ?_;refine qh (s:=7) (vs:=[_]) hH fun k36 st Kn hH=>?_;refine zQ 2 ?_;obtain⟨d',af,uL,ib⟩:=jL _ {s with i:=s.i+1} 2 _ (cV [(((g.1:Nat):Int),((g.1:Nat):Int))]) k36 (.inl rfl) (by omega) rfl hg (by show s.i<s.i+1;omega) (by show s.i+1≤_;omega) he hR.symm Kn hH;refine ah.ret ⟨rx,_,d',af,rfl,uL,ib⟩
theorem zM {m:Nat} {gs:List (Nat×Nat)} {A:PF} (hA:∀m',m'+1=m→zp A gs m') {N k:Nat} {S s0:St} {H:List bm} {bw:D} {aN:List Int} {s:dP} (aY:kN gs aN) (he:s.e=0) (hi:s.i<gs.length) (hg:s.g≤4) (ho:s.o+m=20) (hH:Has N S s0 (.box k (.mem 0 false (aL gs bw s))::.aI bw 1 (aN.map az)::H)):
  ∃d af,Ev pv 99 [.ptr k 0 0] s0 d af∧∃(s':dP),iY gs aN (Fj A gs m s.i s.g) s s' d 1∧Has N S af (.box k (.mem 0 false (aL gs bw s'))::.aI bw 1 (aN.map az)::H):=by
 have uM:=aY.gl;have gR:=aY.pl;refine Ev.ko rfl Oy rfl rfl rfl ?_;refine zE ?_;have cx:=hH;have hH:=hH.cB;have cw:(ag .rw s0).bs=s0.bs:=rfl;generalize ag .rw s0=S2 at*
 obtain⟨R,hR⟩:∃R,Fj A gs m s.i s.g=R:=⟨_,rfl⟩
 rw[hR];unfold Fj at hR;refine zQ 7 ?_;obtain⟨_,st,aG,s1,⟨p1,p2,p3,p4,l,rfl,p5,p6,p7⟩,hH⟩:=Ey hA aY he hi hg ho hH;refine qv aG ?_;refine zQ 11 ?_
 rcases p7 with p7|⟨p7,p9,p8⟩
 ·have hne:=p7.ne;refine qD rfl (by simp[hne]) ?_;refine zQ 4 ?_;refine ah.ret ⟨rx,_,_,_,rfl,ai (rfl),?_⟩;exact⟨s1,fc p1 p2 p3 p4 (p7.map fun e w h=>by rw[←hR,h]),cx.ay cw hH⟩
 rw[p9] at hR;simp only at hR;unfold I_ at hR;refine qE rfl (by simp[p7]) ?_;refine zQ 3 ?_;refine ab.go (d:=.agg [.int .i64 5,.nul,.int .i64 0,.int .i64 0,.bool false,.int .i64 0,.int .i64 1]) (st1:=_) rfl rfl rfl (aa rfl _) ?_;refine qa hH fun k4 st NN hH=>?_;dsimp only[u2,u1,u3,u4,setMany,u5,u6,D.cells,Nat.reduceAdd,aL,aU,az,au,aV] at hH;refine qS hH aS fun st hH=>?_;dsimp only[u2,u1,u3,u4,setMany,u5,u6,D.cells,Nat.reduceAdd,aL,aU,az,au,aV] at hH;refine zQ 1 ?_;have hH:Has N S2 st (.box k (.mem 0 false (aL gs bw s1))::.aI bw 1 (aN.map az)::.box k4 (.mem 0 false [.int .i64 5,.nul,.int .i64 0,.int .i64 0,.bool false,.int .i64 0,.int .i64 1])::H):=mT hH;refine qq<|ah.merge (fun fr st=>∃(mn mx:Int) (s2:dP) (tmp:List (Nat×D)),fr=⟨5,[.ptr k 0 0,yy fr 1,yy fr 2,uj l,.ptr k4 0 0],tmp⟩∧Has N S2 st (.box k (.mem 0 false (aL gs bw s2))::.aI bw 1 (aN.map az)::.box k4 (.mem 0 false [.int .i64 5,.nul,.int .i64 mn,.int .i64 mx,.bool false,.int .i64 0,.int .i64 1])::H)∧(s2.o=s.o)∧(s2.g≤4)∧(s1.i<s2.i)∧(s2.i≤gs.length)∧(et R aN s2∨s2.e=0∧R=vL gs l s2.g mn mx s2.i)) ?_ ?_
 ·refine zQ 4 ?_;obtain⟨_,st,aG,rfl,hH⟩:=dK (s:=s1) (by omega) 42 hH;refine qv aG ?_;refine zQ 2 ?_
  cases hb1:dB gs s1.i 42 with
  |true=>
   obtain⟨k1,k2,k3,MD,k5⟩:=gz (gs:=gs) (s:=s1) (r:=42);have k6:=mb hb1;have k7:=k5 p4;generalize bP gs s1 42=s2 at*;refine zQ 3 ?_;refine qT hH cU fun st hH=>?_;dsimp only[u2,u1,u3,u4,setMany,u5,u6,D.cells,Nat.reduceAdd,aL,aU,az,au,aV] at hH;refine zQ 1 ?_;exact⟨0,-1,s2,_,rfl,hH,by omega,by omega,by omega,k7,.inr ⟨by omega,by rw[←hR,if_pos hb1,k6,show s2.g=s1.g by omega]⟩⟩
  |false=>
   rw[o4 hb1] at hH;rw[if_neg (by rw[hb1];simp)] at hR;refine zQ 4 ?_;obtain⟨_,st,aG,rfl,hH⟩:=dK (s:=s1) (by omega) 43 hH;refine qv aG ?_;refine zQ 2 ?_
   cases hb2:dB gs s1.i 43 with
   |true=>
    obtain⟨k1,k2,k3,MD,k5⟩:=gz (gs:=gs) (s:=s1) (r:=43);have k6:=mb hb2;have k7:=k5 p4;generalize bP gs s1 43=s2 at*;refine zQ 3 ?_;refine qT hH cU fun st hH=>?_;dsimp only[u2,u1,u3,u4,setMany,u5,u6,D.cells,Nat.reduceAdd,aL,aU,az,au,aV] at hH;refine zQ 1 ?_;refine qT hH cU fun st hH=>?_;dsimp only[u2,u1,u3,u4,setMany,u5,u6,D.cells,Nat.reduceAdd,aL,aU,az,au,aV] at hH;refine zQ 1 ?_;exact⟨1,-1,s2,_,rfl,hH,by omega,by omega,by omega,k7,.inr ⟨by omega,by rw[←hR,if_pos hb2,k6,show s2.g=s1.g by omega]⟩⟩
   |false=>
    rw[o4 hb2] at hH;rw[if_neg (by rw[hb2];simp)] at hR;refine zQ 4 ?_;obtain⟨_,st,aG,rfl,hH⟩:=dK (s:=s1) (by omega) 63 hH;refine qv aG ?_;refine zQ 2 ?_
    cases HX:dB gs s1.i 63 with
    |true=>
     obtain⟨k1,k2,k3,MD,k5⟩:=gz (gs:=gs) (s:=s1) (r:=63);have k6:=mb HX;have k7:=k5 p4;generalize bP gs s1 63=s2 at*;refine zQ 3 ?_;refine qT hH cU fun st hH=>?_;dsimp only[u2,u1,u3,u4,setMany,u5,u6,D.cells,Nat.reduceAdd,aL,aU,az,au,aV] at hH;refine zQ 1 ?_;exact⟨0,1,s2,_,rfl,hH,by omega,by omega,by omega,k7,.inr ⟨by omega,by rw[←hR,if_pos HX,k6,show s2.g=s1.g by omega]⟩⟩
    |false=>
     rw[o4 HX] at hH;rw[if_neg (by rw[HX];simp)] at hR;refine zQ 4 ?_;obtain⟨_,st,aG,rfl,hH⟩:=oB (s:=s1) (by omega) 123 hH;refine qv aG ?_;refine zQ 2 ?_
     cases Oe:dB gs s1.i 123 with
     |true=>
      have hlt:=qM Oe;refine zQ 3 ?_;obtain⟨_,st,aG,n1,n2,s2,rfl,⟨⟨m1,m2,m3,m4⟩,m5⟩,hH⟩:=Bi aY p7 hlt hH;refine qv aG ?_;refine zQ 4 ?_;refine qT hH cU fun st hH=>?_;dsimp only[u2,u1,u3,u4,setMany,u5,u6,D.cells,Nat.reduceAdd,aL,aU,az,au,aV] at hH;refine zQ 1 ?_;refine qT hH cU fun st hH=>?_;dsimp only[u2,u1,u3,u4,setMany,u5,u6,D.cells,Nat.reduceAdd,aL,aU,az,au,aV] at hH;refine zQ 1 ?_;rw[if_pos Oe] at hR
      have h5:et R aN s2∨s2.e=0∧R=vL gs l s2.g n1 n2 s2.i:=by
       rcases m5 with m5|⟨m5,m6⟩
       ·exact .inl (m5.map fun e w h=>by rw[←hR,h])
       ·exact .inr ⟨m5,by rw[←hR,m6,m2]⟩
      exact⟨n1,n2,s2,_,rfl,hH,by omega,by omega,m3,m4,h5⟩
     |false=>
      rw[if_neg (by rw[Oe];simp)] at hR;refine zQ 6 ?_;refine ah.ret ⟨rx,_,_,_,rfl,ai (rfl),?_⟩;exact⟨s1,⟨p1,p2,p3,p4,l,rfl,p5,p6,.inr ⟨p7,hR.symm,by omega⟩⟩,cx.ay cw (hH.erase 2)⟩
 ·rintro fr st ⟨mn,mx,s2,tmp,hfr,hH,h1,h2,h3,h4,h5⟩;rw[hfr];clear hfr;generalize yy fr=ee;clear fr;refine zQ 9 ?_
  by_cases yN:s2.e=0
  ·refine qE rfl (by simp[yN]) ?_;refine zQ 1 ?_;obtain⟨k1,k2,k3,MD,k5⟩:=gz (gs:=gs) (s:=s2) (r:=63);have k7:=k5 h4
   have h6:R=vL gs l s2.g mn mx s2.i:=by
    rcases h5 with h5|h5
    ·exact absurd yN h5.ne
    ·exact h5.2
   have Iz:(bP gs s2 63).i=if dB gs s2.i 63=true then s2.i+1 else s2.i:=by unfold bP;split<;>rfl
   unfold vL at h6;rw[←Iz] at h6;clear Iz;refine zQ 3 ?_;obtain⟨_,st,aG,rfl,hH⟩:=dK (s:=s2) (by omega) 63 hH;refine qv aG ?_;refine zQ 1 ?_;refine qT hH cU fun st hH=>?_;dsimp only[u2,u1,u3,u4,setMany,u5,u6,D.cells,Nat.reduceAdd,aL,aU,az,au,aV] at hH;refine zQ 1 ?_;generalize bP gs s2 63=s3 at*;generalize dB gs s2.i 63=lz at*;have hla:=(sM p5).arg N S2;refine zQ 2 ?_;refine ab.bN (m:=7) hH rfl (ev rfl) (by exact cU) (by dsimp only[List.drop_succ_cons,List.drop_zero,List.take_succ_cons,List.take_zero,aL,aU,az,au,aV]<;>rfl) rfl rfl (aa rfl _) ?_;refine qh (s:=7) (vs:=[_]) hH fun k46 st NM hH=>?_;refine qm ?_;refine ab.rp (s:=7) hH rfl (ev rfl) (ev rfl) aS ((sM p5).rows st) rfl rfl rfl rfl rfl rfl rfl ⟨(Nat.le_of_ble_eq_true rfl),(Nat.le_of_ble_eq_true rfl)⟩ (fun _=>(aa rfl _)) (by simp only[List.length_map,List.length_cons,List.length_nil];omega) (.inr (sL p5)) (fun k hk=>by have jN:k46+1=k+1:=hk;omega) (fun LU st Gy hH=>?_);dsimp only[u2] at hH;refine zQ 2 ?_;have hH:Has N S2 st (.aI LU 7 ([.int .i64 5,.nul,.int .i64 mn,.int .i64 mx,.bool lz,.int .i64 0,.int .i64 1]::l.map aV)::.box k (.mem 0 false (aL gs bw s3))::.aI bw 1 (aN.map az)::.box k4 (.mem 0 false [.int .i64 5,.nul,.int .i64 mn,.int .i64 mx,.bool lz,.int .i64 0,.int .i64 1])::H):=hH
   have hfz:=iJ (L:=s0.bs.length) (l:=iR 5 mn mx lz 0 1 []::l) hH aS (by rw[List.map_cons,ui p5];rfl) (fun e he d hd=>by
    rcases List.mem_cons.1 he with rfl|he
    ·simp only[List.mem_cons,List.not_mem_nil,or_false] at hd
     rcases hd with rfl|rfl|rfl|rfl|rfl|rfl|rfl<;>rfl
    ·exact pW p5 e he d hd) (fun k hk=>by rw[←cw];exact Gy k hk) (n:=16) (by decide)
   refine ah.ret ⟨rx,_,_,_,rfl,ai hfz,⟨s3,⟨by omega,by omega,by omega,k7,_,rfl,?_,by simp only[List.length_cons];omega,.inr ⟨by omega,by rw[h6,show s3.g=s2.g by omega],by simp only[List.length_cons];omega⟩⟩,cx.ay cw ((hH.drop 1).erase 2)⟩⟩;intro n hn
   rcases List.mem_cons.1 hn with rfl|hn
   ·exact⟨rfl,by simp[iR],by simp[iR]⟩
   ·exact p5 n hn
  ·refine qD rfl (by simp[yN]) ?_;refine zQ 4 ?_;refine ah.ret ⟨rx,_,_,_,rfl,ai (rfl),?_⟩;exact⟨s2,fc h1 h2 (by omega) h4 (h5.resolve_right fun h=>yN h.1),cx.ay cw (hH.erase 2)⟩
def nH (fr:Go.V.Fr) (k:Nat):Go.V.D:=Go.V.nth .bh fr.loc k
noncomputable def B4 (A:PF) (gs:List (Nat×Nat)) (m:Nat):Nat→Nat→Nat→List (List cg)→PR (List cg×Nat)
 |0,i,g,ps=>.ok (fK 3 ps,g) i
 |n+1,i,g,ps=>
  if i<gs.length∧dB gs i 124=false∧(dB gs i 41=false∨m=20) then
   match Fj A gs m i g with
   | .er e w=>.er e w
   | .ok (l,g2) j=>B4 A gs m n j g2 (ps++[l])
  else .ok (fK 3 ps,g) i
noncomputable def Er (A:PF) (gs:List (Nat×Nat)) (m i g:Nat):PR (List cg×Nat):=B4 A gs m (gs.length+1) i g []
noncomputable def B9 (A:PF) (gs:List (Nat×Nat)) (m:Nat):Nat→Nat→Nat→List (List cg)→PR (List cg×Nat)
 |0,i,g,ps=>.ok (fK 4 ps,g) i
 |n+1,i,g,ps=>
  if dB gs i 124=true then
   match Er A gs m (i+1) g with
   | .er e w=>.er e w
   | .ok (l,g2) j=>B9 A gs m n j g2 (ps++[l])
  else .ok (fK 4 ps,g) i
noncomputable def EA (A:PF) (gs:List (Nat×Nat)) (m:Nat):PF:=fun i g=>
 match Er A gs m i g with
 | .er e w=>.er e w
 | .ok (l,g1) j=>B9 A gs m (gs.length+1) j g1 [l]
noncomputable def B_ (gs:List (Nat×Nat)):Nat→PF
 |0=>EA (fun i _=>.er 10 i) gs 0
 |m+1=>EA (B_ gs m) gs (m+1)
theorem Az {m:Nat} {gs:List (Nat×Nat)} {A:PF} (hA:∀m',m'+1=m→zp A gs m') {N k:Nat} {S s0:St} {H:List bm} {bw:D} {aN:List Int} {s:dP} (aY:kN gs aN) (he:s.e=0) (hi:s.i≤gs.length) (hg:s.g≤4) (ho:s.o+m=20) (hH:Has N S s0 (.box k (.mem 0 false (aL gs bw s))::.aI bw 1 (aN.map az)::H)):
  ∃d af,Ev pv 71 [.ptr k 0 0] s0 d af∧∃(s':dP),pk gs aN (Er A gs m s.i s.g) s s' d∧Has N S af (.box k (.mem 0 false (aL gs bw s'))::.aI bw 1 (aN.map az)::H):=by
 have uM:=aY.gl;have gR:=aY.pl;refine Ev.ko rfl ON rfl rfl rfl ?_;refine zE ?_;have cx:=hH;have hH:=hH.cB;have cw:(ag .rw s0).bs=s0.bs:=rfl;generalize ag .rw s0=S2 at*
 obtain⟨R,hR⟩:∃R,Er A gs m s.i s.g=R:=⟨_,rfl⟩
 rw[hR];unfold Er at hR;have FY:Arg N S2 2 (fq gs) (gs.map aU):=Arg.pure (fun st=>dH st gs);refine zQ 8 ?_;have hH:Has N S2 S2 (.box k (.mem 0 false (aL gs bw s))::.aI bw 1 (aN.map az)::.aI .nul 1 (([]:List (List cg)).map dM)::H):=mT (hH.e_ 1);refine zQ 2 ?_;refine ah.loop (fun mm fr st=>∃(s1:dP) (pd:D) (parts:List (List cg)),fr.clean=⟨4,[.ptr k 0 0,nH fr 1,nH fr 2,pd],[]⟩∧Has N S2 st (.box k (.mem 0 false (aL gs bw s1))::.aI bw 1 (aN.map az)::.aI pd 1 (parts.map dM)::H)∧(s1.o=s.o)∧(s1.g≤4)∧(s.i≤s1.i)∧(s1.i≤gs.length)∧(∀l∈parts,∀n∈l,tJ n)∧(eW parts+parts.length≤4*(s1.i-s.i)+2)∧(s1.e=0→eW parts+parts.length≤4*(s1.i-s.i))∧(et R aN s1∨s1.e=0∧∃n,gs.length-s1.i<n∧B4 A gs m n s1.i s1.g parts=R)∧(gs.length-s1.i+(if s1.e=0 then 1 else 0)≤mm)) (gs.length+1) ?_ ?_
 ·exact⟨s,.nul,[],rfl,hH,rfl,hg,Nat.le_refl _,hi,fun l hl=>(by cases hl),by simp[eW],fun _=>by simp[eW],.inr ⟨he,gs.length+1,by omega,hR⟩,by split<;>omega⟩
 rintro mm fr st ⟨s1,pd,parts,hfr,hH,h1,h2,h3,h4,h5,h6,h7,h8,yH⟩;rw[hfr];clear hfr;generalize nH fr=ee;clear fr
 have rj:∀st:St,(et R aN s1∨s1.e=0∧R=.ok (fK 3 parts,s1.g) s1.i)→Has N S2 st (.box k (.mem 0 false (aL gs bw s1))::.aI bw 1 (aN.map az)::.aI pd 1 (parts.map dM)::H)→∃d,Ev pv 73 [.int .i64 3,pd] st d st∧pk gs aN R s s1 d∧∃l,d=uj l:=by
  intro st hv hH;obtain⟨aG,j1,j2,j3⟩:=qI 3 (hH.rows cU) h5 (by omega) (by omega);refine⟨_,aG,⟨h1,h2,h3,h4,fK 3 parts,rfl,j1,?_,hv⟩,_,rfl⟩
  by_cases q1:parts.length=1
  ·have:=j2 q1;omega
  ·by_cases q0:parts.length=0
   ·have:parts=[]:=List.length_eq_zero_iff.1 q0;rw[this];show 1≤_;omega
   ·omega
 by_cases he1:s1.e=0
 ·obtain⟨n,o_,jn⟩:=(h8.resolve_left fun h=>absurd he1 h.ne).2
  obtain⟨n,rfl⟩:∃m,n=m+1:=⟨n-1,by omega⟩
  unfold B4 at jn;rw[if_pos he1] at yH;have h7:=h7 he1;have ly:(s1.e==0)=true:=by simpa using he1
  by_cases hlt:s1.i<gs.length
  ·have cJ:decide (((s1.i:Nat):Int)<((gs.length:Nat):Int))=true:=by rw[decide_eq_true_eq];omega
   cases dR:(!dB gs s1.i 124) with
   |false=>
    refine zQ 17 ?_;refine qn ?_ (hg:=wi ly);simp only[List.length_map];refine zQ 4 ?_;obtain⟨_,st,aG,rfl,hH⟩:=oB (s:=s1) (by omega) 124 hH;refine qv aG ?_ (hg:=wi cJ);refine zQ 17 ?_;obtain⟨_,DS,hQ,l,rfl⟩:=rj _ (.inr ⟨he1,by rw[←jn,if_neg (fun h=>by rw[h.2.1] at dR;simp at dR)]⟩) hH;refine zQ 3 ?_;refine qv (DS) ?_;refine zQ 2 ?_;refine ah.ret ⟨rx,_,_,_,rfl,ai (rfl),?_⟩;exact⟨s1,hQ,cx.ay cw (hH.erase 2)⟩
   |true=>
    cases cZ:dB gs s1.i 41 with
    |false=>
     refine zQ 17 ?_;refine qn ?_ (hg:=wi ly);simp only[List.length_map];refine zQ 4 ?_;obtain⟨_,st,aG,rfl,hH⟩:=oB (s:=s1) (by omega) 124 hH;refine qv aG ?_ (hg:=wi cJ);refine zQ 4 ?_;obtain⟨_,st,aG,rfl,hH⟩:=oB (s:=s1) (by omega) 41 hH;refine qv aG ?_ (hg:=wi dR);refine zQ 6 ?_;refine ab.b_ (ax rfl rfl rfl dR) rfl cZ (aa rfl _) ?_;refine zQ 6 ?_;rw[if_pos ⟨hlt,by simpa using dR,.inl cZ⟩] at jn;refine zQ 3 ?_;obtain⟨_,st,aG,s2,⟨r1,r2,r3,r4,l,rfl,r5,r6,r7⟩,hH⟩:=zM hA aY (s:=s1) he1 hlt h2 (by omega) hH;refine qv aG ?_;refine qh (s:=1) (vs:=[_]) hH fun k41 st Km hH=>?_;dsimp only[u2,u1,u3,u4,setMany,u5,u6,D.cells,Nat.reduceAdd,aL,aU,az,au,dM] at hH;refine ab.bT (s:=1) hH rfl (ev rfl) (ev rfl) (by exact dI) (by exact hH.rows (by exact aS)) rfl rfl rfl rfl rfl rfl rfl ⟨(Nat.le_of_ble_eq_true rfl),(Nat.le_of_ble_eq_true rfl)⟩ (fun _=>(aa rfl _)) (by simp only[List.length_cons,List.length_nil,List.length_map]<;>omega) (by exact .inr rfl) (fun IW st hH=>?_);dsimp only[u2,u1,u3,u4,setMany,u5,u6,D.cells,Nat.reduceAdd,aL,aU,az,au,dM] at hH;refine zQ 2 ?_;have hH:=hH.drop 1
     have r8:s2.e=0→l.length+1≤4*(s2.i-s1.i):=fun e=>by
      rcases r7 with r7|r7
      ·exact absurd e r7.ne
      ·exact r7.2.2
     have r9:et R aN s2∨s2.e=0∧∃n,gs.length-s2.i<n∧B4 A gs m n s2.i s2.g (parts++[l])=R:=by
      rcases r7 with r7|⟨r7,I',Q3⟩
      ·exact .inl (r7.map fun e w h=>by rw[←jn,h])
      ·rw[I'] at jn;exact .inr ⟨r7,n,by omega,jn⟩
     have L4:gs.length-s2.i+(if s2.e=0 then 1 else 0)≤mm-1:=by
      by_cases e:s2.e=0
      ·have:=r8 e;rw[if_pos e];omega
      ·rw[if_neg e];omega
     refine⟨mm-1,by omega,⟨s2,IW,parts++[l],rfl,(by rw[List.map_append];exact hH),by omega,r2,by omega,r4,?_,by rw[dv,List.length_append];simp only[eW,List.length_cons,List.length_nil];omega,(fun e=>by have:=r8 e;rw[dv,List.length_append];simp only[eW,List.length_cons,List.length_nil];omega),r9,L4⟩⟩;intro l' gS
     rcases List.mem_append.1 gS with gS|gS
     ·exact h5 l' gS
     ·simp only[List.mem_cons,List.not_mem_nil,or_false] at gS;subst gS;exact r5
    |true=>
     refine zQ 17 ?_;refine qn ?_ (hg:=wi ly);simp only[List.length_map];refine zQ 4 ?_;obtain⟨_,st,aG,rfl,hH⟩:=oB (s:=s1) (by omega) 124 hH;refine qv aG ?_ (hg:=wi cJ);refine zQ 4 ?_;obtain⟨_,st,aG,rfl,hH⟩:=oB (s:=s1) (by omega) 41 hH;refine qv aG ?_ (hg:=wi dR);refine zQ 6 ?_;refine ab.cz (ax rfl rfl rfl dR) rfl cZ (aa rfl _) ?_;refine zQ 3 ?_
     by_cases fM:0<s1.o
     ·have iz:(!decide (((s1.o:Nat):Int)>0))=false:=by rw[decide_eq_true (by omega)];rfl
      refine qE rfl (by rw[iz]) ?_;refine zQ 1 ?_;obtain⟨_,DS,hQ,l,rfl⟩:=rj _ (.inr ⟨he1,by rw[←jn,if_neg (fun h=>by rcases h.2.2 with h|h;rw[cZ] at h;exact absurd h (by simp);omega)]⟩) hH;refine zQ 3 ?_;refine qv (DS) ?_;refine zQ 2 ?_;refine ah.ret ⟨rx,_,_,_,rfl,ai (rfl),?_⟩;exact⟨s1,hQ,cx.ay cw (hH.erase 2)⟩
     ·have iz:(!decide (((s1.o:Nat):Int)>0))=true:=by rw[decide_eq_false (by omega)];rfl
      refine qD rfl (by rw[iz]) ?_;refine zQ 2 ?_;rw[if_pos ⟨hlt,by simpa using dR,.inr (by omega)⟩] at jn;refine zQ 3 ?_;obtain⟨_,st,aG,s2,⟨r1,r2,r3,r4,l,rfl,r5,r6,r7⟩,hH⟩:=zM hA aY (s:=s1) he1 hlt h2 (by omega) hH;refine qv aG ?_;refine qh (s:=1) (vs:=[_]) hH fun k41 st Km hH=>?_;dsimp only[u2,u1,u3,u4,setMany,u5,u6,D.cells,Nat.reduceAdd,aL,aU,az,au,dM] at hH;refine ab.bT (s:=1) hH rfl (ev rfl) (ev rfl) (by exact dI) (by exact hH.rows (by exact aS)) rfl rfl rfl rfl rfl rfl rfl ⟨(Nat.le_of_ble_eq_true rfl),(Nat.le_of_ble_eq_true rfl)⟩ (fun _=>(aa rfl _)) (by simp only[List.length_cons,List.length_nil,List.length_map]<;>omega) (by exact .inr rfl) (fun IW st hH=>?_);dsimp only[u2,u1,u3,u4,setMany,u5,u6,D.cells,Nat.reduceAdd,aL,aU,az,au,dM] at hH;refine zQ 2 ?_;have hH:=hH.drop 1
      have r8:s2.e=0→l.length+1≤4*(s2.i-s1.i):=fun e=>by
       rcases r7 with r7|r7
       ·exact absurd e r7.ne
       ·exact r7.2.2
      have r9:et R aN s2∨s2.e=0∧∃n,gs.length-s2.i<n∧B4 A gs m n s2.i s2.g (parts++[l])=R:=by
       rcases r7 with r7|⟨r7,I',Q3⟩
       ·exact .inl (r7.map fun e w h=>by rw[←jn,h])
       ·rw[I'] at jn;exact .inr ⟨r7,n,by omega,jn⟩
      have L4:gs.length-s2.i+(if s2.e=0 then 1 else 0)≤mm-1:=by
       by_cases e:s2.e=0
       ·have:=r8 e;rw[if_pos e];omega
       ·rw[if_neg e];omega
      refine⟨mm-1,by omega,⟨s2,IW,parts++[l],rfl,(by rw[List.map_append];exact hH),by omega,r2,by omega,r4,?_,by rw[dv,List.length_append];simp only[eW,List.length_cons,List.length_nil];omega,(fun e=>by have:=r8 e;rw[dv,List.length_append];simp only[eW,List.length_cons,List.length_nil];omega),r9,L4⟩⟩;intro l' gS
      rcases List.mem_append.1 gS with gS|gS
      ·exact h5 l' gS
      ·simp only[List.mem_cons,List.not_mem_nil,or_false] at gS;subst gS;exact r5
  ·have cJ:decide (((s1.i:Nat):Int)<((gs.length:Nat):Int))=false:=by rw[decide_eq_false_iff_not];omega
   refine zQ 17 ?_;refine qn ?_ (hg:=wi ly);simp only[List.length_map];refine zQ 22 ?_;obtain⟨_,DS,hQ,l,rfl⟩:=rj _ (.inr ⟨he1,by rw[←jn,if_neg (fun h=>hlt h.1)]⟩) hH;refine zQ 3 ?_;refine qv (DS) ?_;refine zQ 2 ?_;refine ah.ret ⟨rx,_,_,_,rfl,ai (rfl),?_⟩;exact⟨s1,hQ,cx.ay cw (hH.erase 2)⟩
 ·have ly:(s1.e==0)=false:=by simpa using he1
  refine zQ 40 ?_;obtain⟨_,DS,hQ,l,rfl⟩:=rj _ (.inl (h8.resolve_right fun h=>he1 h.1)) hH;refine zQ 3 ?_;refine qv (DS) ?_;refine zQ 2 ?_;refine ah.ret ⟨rx,_,_,_,rfl,ai (rfl),?_⟩;exact⟨s1,hQ,cx.ay cw (hH.erase 2)⟩
theorem AP {m:Nat} {gs:List (Nat×Nat)} {A:PF} (hA:∀m',m'+1=m→zp A gs m'):zp (EA A gs m) gs m:=by
 intro N k S s0 H bw aN s aY he hi hg ho hH;have uM:=aY.gl;have gR:=aY.pl;refine Ev.ko rfl O3 rfl rfl rfl ?_;refine zE ?_;have cx:=hH;have hH:=hH.cB;have cw:(ag .rw s0).bs=s0.bs:=rfl;generalize ag .rw s0=S2 at*
 obtain⟨R,hR⟩:∃R,EA A gs m s.i s.g=R:=⟨_,rfl⟩
 rw[hR];unfold EA at hR;refine zQ 7 ?_;obtain⟨_,st,aG,s1,⟨p1,p2,p3,p4,l,rfl,p5,p6,p7⟩,hH⟩:=Az hA aY he hi hg ho hH;refine qv aG ?_;refine qh (s:=1) (vs:=[_]) hH fun k6 st HM hH=>?_;dsimp only[u2,u1,u3,u4,setMany,u5,u6,D.cells,Nat.reduceAdd,aL,aU,az,au,dM] at hH;refine zQ 2 ?_
 have T6:et R aN s1∨s1.e=0∧∃n,gs.length-s1.i<n∧B9 A gs m n s1.i s1.g [l]=R:=by
  rcases p7 with p7|⟨p7,Q7⟩
  ·exact .inl (p7.map fun e w h=>by rw[←hR,h])
  ·rw[Q7] at hR;exact .inr ⟨p7,_,by omega,hR⟩
 have hH:Has N S2 st (.box k (.mem 0 false (aL gs bw s1))::.aI bw 1 (aN.map az)::.aI (.win k6 0 0 1 1) 1 ([l].map dM)::H):=mT hH;refine zQ 2 ?_;refine ah.loop (fun mm fr st=>∃(s1:dP) (pd:D) (parts:List (List cg)),fr.clean=⟨4,[.ptr k 0 0,nH fr 1,nH fr 2,pd],[]⟩∧Has N S2 st (.box k (.mem 0 false (aL gs bw s1))::.aI bw 1 (aN.map az)::.aI pd 1 (parts.map dM)::H)∧(s1.o=s.o)∧(s1.g≤4)∧(s.i≤s1.i)∧(s1.i≤gs.length)∧(∀l∈parts,∀n∈l,tJ n)∧(eW parts+3*parts.length≤4*(s1.i-s.i)+4)∧(1≤parts.length)∧(et R aN s1∨s1.e=0∧∃n,gs.length-s1.i<n∧B9 A gs m n s1.i s1.g parts=R)∧(gs.length-s1.i≤mm)) (gs.length) ?_ ?_
 ·exact⟨s1,.win k6 0 0 1 1,[l],rfl,hH,p1,p2,p3,p4,(fun l' gS=>by simp only[List.mem_cons,List.not_mem_nil,or_false] at gS;subst gS;exact p5),by simp only[eW,List.length_cons,List.length_nil];omega,by simp,T6,by omega⟩
 rintro mm fr st ⟨s1,pd,parts,hfr,hH,h1,h2,h3,h4,h5,h6,h8,h9,yH⟩;rw[hfr];clear hfr;generalize nH fr=ee;clear fr
 have rj:∀st:St,(et R aN s1∨s1.e=0∧R=.ok (fK 4 parts,s1.g) s1.i)→Has N S2 st (.box k (.mem 0 false (aL gs bw s1))::.aI bw 1 (aN.map az)::.aI pd 1 (parts.map dM)::H)→∃d,Ev pv 73 [.int .i64 4,pd] st d st∧pk gs aN R s s1 d∧∃l,d=uj l:=by
  intro st hv hH;obtain⟨aG,j1,j2,j3⟩:=qI 4 (hH.rows cU) h5 (by omega) (by omega);refine⟨_,aG,⟨h1,h2,h3,h4,fK 4 parts,rfl,j1,?_,hv⟩,_,rfl⟩
  by_cases q1:parts.length=1
  ·have:=j2 q1;omega
  ·omega
 by_cases he1:s1.e=0
 ·obtain⟨n,o_,jn⟩:=(h9.resolve_left fun h=>absurd he1 h.ne).2
  obtain⟨n,rfl⟩:∃m,n=m+1:=⟨n-1,by omega⟩
  unfold B9 at jn;have ly:(s1.e==0)=true:=by simpa using he1
  obtain⟨k1,k2,k3,k4,k5⟩:=gz (gs:=gs) (s:=s1) (r:=124);have k5:=k5 h4;refine zQ 10 ?_;obtain⟨_,st,aG,rfl,hH⟩:=dK (s:=s1) (by omega) 124 hH;refine qv aG ?_ (hg:=wi ly);refine zQ 2 ?_
  cases hb:dB gs s1.i 124 with
  |false=>
   rw[o4 hb] at hH;refine zQ 2 ?_;obtain⟨_,DS,hQ,l,rfl⟩:=rj _ (.inr ⟨he1,by rw[←jn,if_neg (by rw[hb];simp)]⟩) hH;refine zQ 3 ?_;refine qv (DS) ?_;refine zQ 2 ?_;refine ah.ret ⟨rx,_,_,_,rfl,ai (rfl),?_⟩;exact⟨s1,hQ,cx.ay cw (hH.erase 2)⟩
  |true=>
   have k6:=mb hb;rw[if_pos hb] at jn;generalize bP gs s1 124=s2 at*;refine zQ 6 ?_;obtain⟨_,st,aG,s3,⟨r1,r2,r3,r4,l,rfl,r5,r6,r7⟩,hH⟩:=Az hA aY (s:=s2) (by omega) k5 (by omega) (by omega) hH;refine qv aG ?_;refine qh (s:=1) (vs:=[_]) hH fun k19 st S_ hH=>?_;dsimp only[u2,u1,u3,u4,setMany,u5,u6,D.cells,Nat.reduceAdd,aL,aU,az,au,dM] at hH;refine ab.bT (s:=1) hH rfl (ev rfl) (ev rfl) (by exact dI) (by exact hH.rows (by exact aS)) rfl rfl rfl rfl rfl rfl rfl ⟨(Nat.le_of_ble_eq_true rfl),(Nat.le_of_ble_eq_true rfl)⟩ (fun _=>(aa rfl _)) (by simp only[List.length_cons,List.length_nil,List.length_map]<;>omega) (by exact .inr rfl) (fun Pz st hH=>?_);dsimp only[u2,u1,u3,u4,setMany,u5,u6,D.cells,Nat.reduceAdd,aL,aU,az,au,dM] at hH;refine zQ 2 ?_;have hH:=hH.drop 1;rw[k6,show s2.g=s1.g by omega] at r7
   have r9:et R aN s3∨s3.e=0∧∃n,gs.length-s3.i<n∧B9 A gs m n s3.i s3.g (parts++[l])=R:=by
    rcases r7 with r7|⟨r7,I'⟩
    ·exact .inl (r7.map fun e w h=>by rw[←jn,h])
    ·rw[I'] at jn;exact .inr ⟨r7,n,by omega,jn⟩
   refine⟨mm-1,by omega,⟨s3,Pz,parts++[l],rfl,(by rw[List.map_append];exact hH),by omega,r2,by omega,r4,?_,by rw[dv,List.length_append];simp only[eW,List.length_cons,List.length_nil];omega,by rw[List.length_append];omega,r9,by omega⟩⟩;intro l' gS
   rcases List.mem_append.1 gS with gS|gS
   ·exact h5 l' gS
   ·simp only[List.mem_cons,List.not_mem_nil,or_false] at gS;subst gS;exact r5
 ·have ly:(s1.e==0)=false:=by simpa using he1
  refine zQ 15 ?_;obtain⟨_,DS,hQ,l,rfl⟩:=rj _ (.inl (h9.resolve_right fun h=>he1 h.1)) hH;refine zQ 3 ?_;refine qv (DS) ?_;refine zQ 2 ?_;refine ah.ret ⟨rx,_,_,_,rfl,ai (rfl),?_⟩;exact⟨s1,hQ,cx.ay cw (hH.erase 2)⟩
theorem Gh (gs:List (Nat×Nat)) (m:Nat):zp (B_ gs m) gs m:=by
 induction m with
 |zero=>exact AP (fun m' h=>by omega)
 |succ m ih=>exact AP (fun m' h=>by cases h;exact@ih)
def aZ (fr:Go.V.Fr) (k:Nat):Go.V.D:=Go.V.nth .bh fr.loc k
def uc:List (Nat×Nat)→Nat→List Int
 |[],_=>[]
 |q::l,a=>((a:Nat):Int)::uc l (a+q.2)
noncomputable def C6 (gs:List (Nat×Nat)) (R:PR (List cg×Nat)):List cg×Int×Int:=
 match R with
 | .er e w=>([],e,(uc gs 0).getD w 0)
 | .ok (l,_) j=>if j<gs.length then([],4,(uc gs 0).getD j 0) else(l,0,0)
noncomputable def cW (b:List UInt8):List cg×Int×Int:=
 if 120<b.length then([],2,0) else C6 (cK b) (B_ (cK b) 20 0 0)
def da (q:List cg×Int×Int):D:=.tup [uj q.1,.int .i64 q.2.1,.int .i64 q.2.2]
theorem nv {s0:St} {b:List UInt8} (hbl:b.length≤1048576):Ev pv 11 [.str b] s0 (da (cW b)) s0∧(∀n∈(cW b).1,tJ n)∧(cW b).1.length≤500:=by
 suffices hg:∃d,Ev pv 11 [.str b] s0 d s0∧d=da (cW b)∧(∀n∈(cW b).1,tJ n)∧(cW b).1.length≤500 by
  obtain⟨d,h1,rfl,h2⟩:=hg;exact⟨h1,h2⟩
 obtain⟨X,hX⟩:∃X,cW b=X:=⟨_,rfl⟩
 rw[hX];unfold cW at hX;obtain⟨uM,Tt⟩:=xB _ b (Nat.le_refl _);have aG:∀(st:St) (x:D),Bytes st x b→Ev pv 28 [x] st (fq (cK b)) st:=fun st x h=>EC h hbl;generalize cK b=gs at*;refine Ev.He rfl Pa rfl rfl rfl ?_;refine zE ?_;obtain⟨cD,hF,hH⟩:=ri s0;generalize ag .ro s0=S at*;have FY:Arg s0.bs.length S 2 (fq gs) (gs.map aU):=Arg.pure (fun st=>dH st gs);refine zQ 10 ?_;refine ab.rU rfl rfl rfl (by dsimp only[Fr.put,u1,u2]<;>rfl) ?_;refine zQ 2 ?_
 by_cases GC:120<b.length
 ·have iz:decide (((b.length:Nat):Int)>120)=true:=by rw[decide_eq_true_eq];omega
  refine qD rfl (by rw[iz]) ?_;refine zQ 6 ?_;refine ah.ret ⟨rx,_,_,rfl,rl cD hH (rfl),?_⟩;rw[if_pos GC] at hX;rw[←hX];exact⟨rfl,fun n hn=>(by cases hn),by simp⟩
 rw[if_neg GC] at hX;have iz:decide (((b.length:Nat):Int)>120)=false:=by rw[decide_eq_false_iff_not];omega
 refine qE rfl (by rw[iz]) ?_;refine zQ 4 ?_;refine ab.D2 hH rfl rfl rfl rfl rfl (by omega) (fun _=>by dsimp only[Fr.put,u1,u2]<;>rfl) (fun k14 st Kq hH=>?_);refine qv ((aG _ _ (hH.rows aS))) ?_;refine ab.go (d:=.agg [fq gs,.nul,.int .i64 0,.int .i64 0,.int .i64 0,.int .i64 0,.int .i64 0]) (st1:=_) rfl rfl rfl (by dsimp only[Fr.put,u1,u2]<;>rfl) ?_;refine qb hH fun k17 st Kp hH=>?_;refine zQ 13 ?_;refine qn ?_;simp only[List.length_map];refine zQ 2 ?_;have hH:Has s0.bs.length S st (.box k17 (.mem 0 false [fq gs,.nul,.int .i64 0,.int .i64 0,.int .i64 0,.int .i64 0,.int .i64 0])::.aI .nul 1 (([]:List Int).map az)::[]):=((hH.erase 1).e_ 1).front bZ;refine zQ 1 ?_;refine ah.loop (fun mm fr st=>∃(i a:Nat) (pd:D) (aN:List Int),fr.clean=⟨24,[aZ fr 0,aZ fr 1,aZ fr 2,aZ fr 3,aZ fr 4,.ptr k17 0 0,.int .i64 (a:Nat),aZ fr 7,aZ fr 8,aZ fr 9,aZ fr 10,aZ fr 11,aZ fr 12,aZ fr 13,aZ fr 14,aZ fr 15,aZ fr 16,aZ fr 17,aZ fr 18,aZ fr 19,aZ fr 20,fq gs,.int .i64 (gs.length:Nat),.int .i64 (i:Nat)],[]⟩∧Has s0.bs.length S st [.box k17 (.mem 0 false [fq gs,pd,.int .i64 0,.int .i64 0,.int .i64 0,.int .i64 0,.int .i64 0]),.aI pd 1 (aN.map az)]∧(i+mm=gs.length)∧(aN.length=i)∧(aN++uc (gs.drop i) a=uc gs 0)∧(a≤120*i)) (gs.length) ?_ ?_
 ·exact⟨0,0,.nul,[],rfl,hH,by omega,rfl,rfl,by omega⟩
 rintro mm fr st ⟨i,a,pd,aN,hfr,hH,hi,gR,wO,ha⟩;rw[hfr];clear hfr;generalize aZ fr=ee;clear fr;refine zQ 4 ?_
 by_cases hlt:i<gs.length
 ·obtain⟨g,hg⟩:∃g,gs[i]?=some g:=⟨gs[i]'hlt,List.getElem?_eq_getElem _⟩
  have iH:(gs.map aU)[i]?=some (aU g):=by rw[List.getElem?_map,hg];rfl
  have ch:=Tt g (List.mem_of_getElem? hg)
  have sa:gs.drop i=g::gs.drop (i+1):=by
   have:=List.drop_eq_getElem_cons (l:=gs) (i:=i) hlt;rw[this];congr 1;rw[List.getElem?_eq_getElem hlt] at hg;exact Option.some.inj hg
  rw[sa] at wO
  have wO:(aN++[((a:Nat):Int)])++uc (gs.drop (i+1)) (a+g.2)=uc gs 0:=by
   rw[List.append_assoc];exact wO
  have xM:decide (((i:Nat):Int)<((gs.length:Nat):Int))=true:=by rw[decide_eq_true_eq];omega
  refine qq<|qD rfl (by rw[xM]) ?_;refine zQ 5 ?_;refine qr fun Jd DM=>?_;refine ab.eB rfl (ev rfl) (by assumption) rfl (aa rfl _) ?_;refine qa hH fun k8 st LD hH=>?_;refine qS hH aS fun st hH=>?_;dsimp only[u2,u1,u3,u4,setMany,u5,u6,D.cells,Nat.reduceAdd,aL,aU,az] at hH;refine zQ 9 ?_;refine qh (s:=1) (vs:=[_]) hH fun k33 st NO hH=>?_;refine ab.bT (s:=1) hH rfl (ev rfl) (ev rfl) (by exact dI) (by exact hH.rows (by exact aS)) rfl rfl rfl rfl rfl rfl rfl ⟨(Nat.le_of_ble_eq_true rfl),(Nat.le_of_ble_eq_true rfl)⟩ (fun _=>(aa rfl _)) (by simp only[List.length_cons,List.length_nil,List.length_map]<;>omega) (by exact .inl hF) (fun QT st hH=>?_);dsimp only[u2,u1,u3,u4,setMany,u5,u6,D.cells,Nat.reduceAdd,aL,aU,az] at hH;refine zQ 2 ?_;refine qT hH cU (fun st hH=>?_) (i_:=hH.fI dI);dsimp only[u2,u1,u3,u4,setMany,u5,u6,D.cells,Nat.reduceAdd,aL,aU,az] at hH;refine zQ 5 ?_;refine ab.Lm rfl (ev rfl) (ev rfl) (by omega) (aa rfl _) ?_;refine zQ 6 ?_;exact⟨mm-1,by omega,⟨i+1,a+g.2,QT,aN++[((a:Nat):Int)],rfl,(by rw[List.map_append];exact hH.drop 2),by omega,by rw[List.length_append,gR];rfl,wO,by omega⟩⟩
 ·have xM:decide (((i:Nat):Int)<((gs.length:Nat):Int))=false:=by rw[decide_eq_false_iff_not];omega
  refine qq<|qE rfl (by rw[xM]) ?_;refine zQ 1 ?_
  have aY:kN gs aN:=⟨by omega,by omega⟩
  have wO:aN=uc gs 0:=by
   rw[List.drop_eq_nil_of_le (by omega)] at wO;rw[←wO];simp[uc]
  have hH:Has s0.bs.length S st (.box k17 (.mem 0 false (aL gs pd ⟨0,0,0,0,0⟩))::.aI pd 1 (aN.map az)::[]):=hH;refine zQ 3 ?_;obtain⟨_,st,aG,s1,⟨p1,p2,p3,p4,l,rfl,p5,p6,p7⟩,hH⟩:=Gh gs 20 (s:=⟨0,0,0,0,0⟩) aY rfl (by simp) (by simp) rfl hH;refine qv aG ?_;refine zQ 2 ?_;have p6:l.length≤4*(s1.i-0)+1:=p6;have p7:et (B_ gs 20 0 0) aN s1∨s1.e=0∧B_ gs 20 0 0=.ok (l,s1.g) s1.i:=p7;generalize B_ gs 20 0 0=R at*;unfold C6 at hX;rw[←wO] at hX;refine zQ 2 ?_;refine ah.lN (fun fr st=>∃(s2:dP) (tmp:List (Nat×D)),fr=⟨24,[aZ fr 0,aZ fr 1,aZ fr 2,aZ fr 3,aZ fr 4,.ptr k17 0 0,aZ fr 6,aZ fr 7,aZ fr 8,uj l,aZ fr 10,aZ fr 11,aZ fr 12,aZ fr 13,aZ fr 14,aZ fr 15,aZ fr 16,aZ fr 17,aZ fr 18,aZ fr 19,aZ fr 20,aZ fr 21,aZ fr 22,aZ fr 23],tmp⟩∧Has s0.bs.length S st (.box k17 (.mem 0 false (aL gs pd s2))::.aI pd 1 (aN.map az)::[])∧(s2.e≠0∧X=([],s2.e,s2.w)∨s2.e=0∧X=(l,0,0))) ?_ ?_
  ·by_cases he1:s1.e=0
   ·have ly:(s1.e==0)=true:=by simpa using he1
    have hR:R=.ok (l,s1.g) s1.i:=by
     rcases p7 with p7|p7
     ·exact absurd he1 p7.ne
     ·exact p7.2
    rw[hR] at hX;simp only at hX;refine zQ 15 ?_;refine qn ?_ (hg:=wi ly);simp only[List.length_map];refine zQ 3 ?_;refine zP (fun GF=>?_) fun GF=>?_
    ·refine zQ 6 ?_;obtain⟨_,st,aG,rfl,hH⟩:=dX (s:=s1) s1.i 4 (by omega) hH;refine qv aG ?_;refine zQ 1 ?_;rw[if_pos (by omega)] at hX;have hw:(iP aN s1 s1.i 4).e=4∧(iP aN s1 s1.i 4).w=aN.getD s1.i 0:=by unfold iP;rw[if_pos he1];exact⟨rfl,rfl⟩
     exact⟨_,_,rfl,hH,.inl ⟨by rw[hw.1];decide,by rw[hw.1,hw.2];exact hX.symm⟩⟩
    ·rw[if_neg (by omega)] at hX;refine zQ 1 ?_;exact⟨s1,_,rfl,hH,.inr ⟨he1,hX.symm⟩⟩
   ·have ly:(s1.e==0)=false:=by simpa using he1
    refine zQ 19 ?_
    have hE:X=([],s1.e,s1.w):=by
     obtain⟨e,w,h0,h1,h2,h3⟩:=p7.resolve_right fun h=>he1 h.1;rw[h0] at hX;rw[←hX,h2,h3]
    refine zQ 2 ?_;exact⟨s1,_,rfl,hH,.inl ⟨he1,hE⟩⟩
  ·rintro fr st ⟨s2,tmp,hfr,hH,ht⟩;rw[hfr];clear hfr;generalize aZ fr=ee;clear fr;refine zQ 9 ?_;refine ah.cond (by rfl) (fun hne=>?_) (fun hne=>?_)<;>try simp only[bne_iff_ne,bne_eq_false_iff_eq,ne_eq] at hne
   ·refine zQ 14 ?_;refine ah.ret ⟨rx,_,_,rfl,rl cD hH (rfl),?_⟩
    rcases ht with⟨h1,h2⟩|⟨h1,h2⟩
    ·rw[h2];exact⟨rfl,fun n hn=>(by cases hn),by simp⟩
    ·exact absurd h1 hne
   ·refine zQ 8 ?_;refine ah.ret ⟨rx,_,_,rfl,rl cD hH (rfl),?_⟩
    rcases ht with⟨h1,h2⟩|⟨h1,h2⟩
    ·exact absurd h1 (by omega)
    ·rw[h2];exact⟨rfl,p5,by show l.length≤500;omega⟩
noncomputable def kg (ps:List (List UInt8)):List (List cg):=ps.map fun b=>(cW b).1
theorem vV {ps:List (List UInt8)} {i:Nat} {b:List UInt8} (h:ps[i]?=some b):kg (ps.take (i+1))=kg (ps.take i)++[(cW b).1]:=by
 unfold kg;rw[List.take_add_one,h,Option.toList_some,List.map_append];rfl
end Go.Proofs.Ytnleclohocdkaaa
