/-
 The parser of patterns, told exactly: classes; how often; lists of nodes joined.
-/
import Derived.Test.YtpcicphadikioaaGreatTGHr
import Derived.Test.YtpcicphadikioaaGreatTGEl
import Derived.Test.YtpcicphadikioaaGreatTGJh
set_option maxRecDepth 100000
set_option maxHeartbeats 4000000
set_option linter.unusedSimpArgs false
set_option linter.unusedVariables false
namespace Go.Proofs.YtpcicphadikioaaGreat
open Go.V Go
def b7 (fr:Go.V.Fr) (k:Nat):Go.V.D:=Go.V.nth .aY fr.loc k
noncomputable def ki (gs:List (Nat×Nat)) (f:Nat):Nat→Nat→List Rg→Bool→PR (List Rg)
 |0,_,_,_=>.er 4 f
 |n+1,i,l,nn=>
  if dG gs i 93=true then(if nn=true then .er 4 f else .ok l i)
  else if gs.length≤i then .er 4 f
  else match jI gs i with
   | .er e w=>.er e w
   | .ok a j=>ki gs f n j (l++a) false
noncomputable def Em (gs:List (Nat×Nat)) (i:Nat):PR (List Rg):=
 match ki gs i (gs.length+1) (if dG gs (i+1) 94=true then i+2 else i+1) [] true with
 | .er e w=>.er e w
 | .ok l k=>.ok (if dG gs (i+1) 94=true then oL (bV l) else bV l) (k+1)
def y8 (a:List Rg):bn:=iM 2 0 0 false 0 0 a
noncomputable def y7 (gs:List (Nat×Nat)) (i g:Nat):PR (List bn×Nat):=
 match Em gs i with
 | .er e w=>.er e w
 | .ok a j=>.ok ([y8 a],g) j
def iT (gs:List (Nat×Nat)) (aQ:List Int) (R:PR (List bn×Nat)) (s s':dR) (d:D) (c:Nat):Prop:=
 s'.o=s.o∧s'.g≤4∧s.i≤s'.i∧s'.i≤gs.length∧∃l:List bn,d=pT l∧(∀n∈l,lX n)∧l.length≤4*(s'.i-s.i)+1∧(ef R aQ s'∨s'.e=0∧R=.ok (l,s'.g) s'.i∧l.length+c≤4*(s'.i-s.i))
def pk (gs:List (Nat×Nat)) (aQ:List Int) (R:PR (List bn×Nat)) (s s':dR) (d:D):Prop:=
 s'.o=s.o∧s'.g≤4∧s.i≤s'.i∧s'.i≤gs.length∧∃l:List bn,d=pT l∧(∀n∈l,lX n)∧l.length≤4*(s'.i-s.i)+1∧(ef R aQ s'∨s'.e=0∧R=.ok (l,s'.g) s'.i)
theorem eP {gs:List (Nat×Nat)} {aQ:List Int} {R:PR (List bn×Nat)} {s s':dR} {c:Nat} (h1:s'.o=s.o) (h2:s'.g≤4) (h3:s.i≤s'.i) (h4:s'.i≤gs.length) (h5:ef R aQ s'):iT gs aQ R s s' (.sl []) c:=
 ⟨h1,h2,h3,h4,[],rfl,fun n hn=>(by cases hn),by simp,.inl h5⟩
theorem BV {N k:Nat} {S s0:St} {H:List bh} {gs:List (Nat×Nat)} {bm:D} {aQ:List Int} {s:dR} (eC:km gs aQ) (he:s.e=0) (hi:s.i<gs.length) (hg:s.g≤4) (hH:Has N S s0 (.box k (.mem 0 false (aK gs bm s))::.aD bm 1 (aQ.map az)::H)):
  ∃d ah,Ev pv 89 [.ptr k 0 0] s0 d ah∧∃(s':dR),iT gs aQ (y7 gs s.i s.g) s s' d 2∧Has N S ah (.box k (.mem 0 false (aK gs bm s'))::.aD bm 1 (aQ.map az)::H):=by
 have rM:=eC.gl;have ka:=eC.pl;refine Ev.kT rfl Oj rfl rfl rfl ?_;refine zE ?_;have cm:=hH;have hH:=hH.cq;have b9:(ai .rw s0).bs=s0.bs:=rfl;generalize ai .rw s0=S2 at*;have xH:Arg N S2 2 (gv gs) (gs.map ba):=Arg.pure (fun st=>ej st gs);refine zQ 21 ?_;refine qT hH aG fun st hH=>?_;dsimp only[u2,u1,u3,u4,setMany,u5,u6,D.cells,Nat.reduceAdd,aK,ba,az,av] at hH;refine zQ 1 ?_;have hH:Has N S2 st (.box k (.mem 0 false (aK gs bm {s with i:=s.i+1}))::.aD bm 1 (aQ.map az)::H):=hH;obtain⟨k1,k2,k3,k4,k5⟩:=gC (gs:=gs) (s:={s with i:=s.i+1}) (r:=94);have k5:=k5 (by show s.i+1≤_;omega);simp only at k1 k2 k3 k4
 have hst:(bF gs {s with i:=s.i+1} 94).i=if dG gs (s.i+1) 94=true then s.i+2 else s.i+1:=by
  unfold bF;simp only;split<;>rfl
 refine zQ 3 ?_;obtain⟨_,st,aF,rfl,hH⟩:=dP (s:={s with i:=s.i+1}) (by omega) 94 hH;refine qv aF ?_;refine zQ 2 ?_
 have hcv:y7 gs s.i s.g=match ki gs s.i (gs.length+1) (if dG gs (s.i+1) 94=true then s.i+2 else s.i+1) [] true with
  | .er e w=>.er e w
  | .ok l k=>.ok ([y8 (if dG gs (s.i+1) 94=true then oL (bV l) else bV l)],s.g) (k+1):=by
  unfold y7 Em;cases ki gs s.i (gs.length+1) (if dG gs (s.i+1) 94=true then s.i+2 else s.i+1) [] true<;>rfl
 rw[←hst] at hcv
 change y7 gs s.i s.g=match ki gs s.i (gs.length+1) (bF gs {s with i:=s.i+1} 94).i [] true with
  | .er e w=>.er e w
  | .ok l k=>.ok ([y8 (if dG gs ({s with i:=s.i+1}:dR).i 94=true then oL (bV l) else bV l)],s.g) (k+1) at hcv
 generalize bF gs {s with i:=s.i+1} 94=s1 at*;generalize dG gs ({s with i:=s.i+1}:dR).i 94=nt at*;clear hst
 obtain⟨C0,Ja⟩:∃C0,ki gs s.i (gs.length+1) s1.i [] true=C0:=⟨_,rfl⟩
 rw[Ja] at hcv;have BC:∀s',ef C0 aQ s'→ef (y7 gs s.i s.g) aQ s':=fun s' h=>h.map fun e w hw=>by rw[hcv,hw]
 refine zQ 8 ?_
 have hH:Has N S2 st (.box k (.mem 0 false (aK gs bm s1))::.aD bm 1 (aQ.map az)::.aD .nul 2 (([]:List Rg).map av)::H):=((hH.dU 2).front aV|>.front b8|>fun h=>(h.front aV))
 refine zQ 2 ?_;refine ag.loop (fun mm fr st=>∃(s1:dR) (ld:D) (lr:List Rg) (nn:Bool),fr.clean=⟨7,[.ptr k 0 0,b7 fr 1,b7 fr 2,.int .i64 (s.i:Nat),.bool nt,ld,.bool nn],[]⟩∧Has N S2 st (.box k (.mem 0 false (aK gs bm s1))::.aD bm 1 (aQ.map az)::.aD ld 2 (lr.map av)::H)∧(s1.o=s.o)∧(s1.g=s.g)∧(s.i<s1.i)∧(s1.i≤gs.length)∧(lr.length≤8*s1.i+8)∧(s1.e=0→lr.length≤8*s1.i)∧(gs.length-s1.i+(if s1.e=0 then 1 else 0)≤mm)∧(ef C0 aQ s1∨s1.e=0∧∃n,gs.length<n+s1.i∧C0=ki gs s.i n s1.i lr nn)) (gs.length+1) ?_ ?_
 ·exact⟨s1,.nul,[],true,rfl,hH,k1,k2,by omega,k5,by simp,fun _=>by simp,by split<;>omega,.inr ⟨k3.trans he,gs.length+1,by omega,Ja.symm⟩⟩
 rintro mm fr st ⟨s1,ld,lr,nn,hfr,hH,h1,h2,h3,h4,h5,h6,yM,h7⟩;rw[hfr];clear hfr;generalize b7 fr=ee;clear fr
 rcases h7 with h7|⟨he1,n,u7,gr⟩
 ·have he1:=h7.ne;have fY:(s1.e==0)=false:=by simpa using he1
  refine zQ 25 ?_;refine qD rfl (by simp[he1]) ?_;refine zQ 4 ?_;refine ag.ret ⟨rx,_,_,_,rfl,ak (rfl),?_⟩;exact⟨_,eP h1 (by omega) (by omega) h4 (BC _ h7),cm.ax b9 (hH.erase 2)⟩
 ·rw[if_pos he1] at yM;have h6:=h6 he1;have fY:(s1.e==0)=true:=by simpa using he1
  obtain⟨n,rfl⟩:∃m,n=m+1:=⟨n-1,by omega⟩
  unfold ki at gr;refine zQ 10 ?_;obtain⟨_,st,aF,rfl,hH⟩:=ox (s:=s1) (by omega) 93 hH;refine qv aF ?_ (hg:=wi fY);refine zQ 3 ?_
  cases hb:dG gs s1.i 93 with
  |true=>
   have hlt:=qz hb;rw[hb,if_pos rfl] at gr;refine zQ 11 ?_;refine qE rfl (by simp[he1]) ?_;refine zQ 6 ?_
   cases nn with
   |true=>
    rw[if_pos rfl] at gr;refine zQ 5 ?_;obtain⟨_,st,aF,rfl,hH⟩:=dW (s:=s1) s.i 4 (by omega) hH;refine qv aF ?_;refine zQ 2 ?_;obtain⟨w1,w2,w3,w4⟩:=gb (aQ:=aQ) (s:=s1) (i:=s.i) (e:=4) he1 (by decide) gr;refine ag.ret ⟨rx,_,_,_,rfl,ak (rfl),?_⟩;exact⟨_,eP (by omega) (by omega) (by omega) (by omega) (BC _ w1),cm.ax b9 (hH.erase 2)⟩
   |false=>
    rw[if_neg (by simp)] at gr;rw[gr] at hcv;simp only at hcv;refine zQ 11 ?_;refine qT hH aG fun st hH=>?_;dsimp only[u2,u1,u3,u4,setMany,u5,u6,D.cells,Nat.reduceAdd,aK,ba,az,av] at hH;refine zQ 4 ?_;obtain⟨aF,na,_⟩:=mo (l:=lr) (hH.rows b8) (by omega);refine qv aF ?_;refine zQ 2 ?_;generalize bV lr=m at*;refine zQ 5 ?_
    have gR:∀(st:St) (a:List Rg) (k70:Nat),a=(if nt=true then oL m else m)→a.length≤1048576→S2.bs.length≤k70→Has N S2 st (.aD (.win k70 0 0 1 7) 7 [[.int .i64 2,aL a,.int .i64 0,.int .i64 0,.bool false,.int .i64 0,.int .i64 0]]::.box k (.mem 0 false (aK gs bm {s1 with i:=s1.i+1}))::.aD bm 1 (aQ.map az)::.aD ld 2 (lr.map av)::H)→
      ∃d ah,cK .rw false s0 st (.win k70 0 0 1 7)=some (d,ah)∧∃(s':dR),iT gs aQ (y7 gs s.i s.g) s s' d 2∧Has N S ah (.box k (.mem 0 false (aK gs bm s'))::.aD bm 1 (aQ.map az)::H):=by
     intro st a k70 Tu ha hk hH;have hfz:=iD hH aG (L:=s0.bs.length) (.inl rfl) (fun k hk=>by simp only[D.ref] at hk;rw[←b9];omega);exact⟨_,_,ak hfz,{s1 with i:=s1.i+1},⟨h1,by show s1.g≤4;omega,by show s.i≤s1.i+1;omega,by show s1.i+1≤_;omega,_,rfl,Db ha (by omega),by simp,.inr ⟨he1,by rw[hcv,←Tu];show _=PR.ok (_,s1.g) _;rw[h2];rfl,by show 1+2≤4*(s1.i+1-s.i);omega⟩⟩,cm.ax b9 ((hH.drop 1).erase 2)⟩
    cases nt with
    |true=>
     refine zQ 3 ?_;obtain⟨aF,hla⟩:=tZ (l:=m) (b_ _ _) (by omega);refine qv aF ?_;refine zQ 5 ?_;refine ae.gE (qs:=[(0,_),(1,_)]) rfl rfl rfl rfl ⟨rfl,(ev rfl),(by rfl),rfl,(ev rfl),(by rfl),trivial⟩ (by intro q hq;simp only[List.mem_cons,List.not_mem_nil,or_false] at hq;rcases hq with rfl|rfl<;>exact⟨rfl,by exact Nat.le_of_ble_eq_true rfl⟩) (by show List.foldl _ [_,_,_,_,_,_,_] _=_;dsimp only[List.foldl_cons,List.foldl_nil,u2,u1]<;>rfl) (aa rfl _) ?_;refine qh (s:=7) (vs:=[_]) hH fun k70 st Ia hH=>?_;refine zQ 2 ?_;obtain⟨d',ah,sV,ia⟩:=gR _ (oL m) k70 rfl (by omega) Ia hH;refine ag.ret ⟨rx,_,d',ah,rfl,sV,ia⟩
    |false=>
     refine zQ 5 ?_;refine ae.gE (qs:=[(0,_),(1,_)]) rfl rfl rfl rfl ⟨rfl,(ev rfl),(by rfl),rfl,(ev rfl),(by rfl),trivial⟩ (by intro q hq;simp only[List.mem_cons,List.not_mem_nil,or_false] at hq;rcases hq with rfl|rfl<;>exact⟨rfl,by exact Nat.le_of_ble_eq_true rfl⟩) (by show List.foldl _ [_,_,_,_,_,_,_] _=_;dsimp only[List.foldl_cons,List.foldl_nil,u2,u1]<;>rfl) (aa rfl _) ?_;refine qh (s:=7) (vs:=[_]) hH fun k70 st Ia hH=>?_;refine zQ 2 ?_;obtain⟨d',ah,sV,ia⟩:=gR _ m k70 rfl (by omega) Ia hH;refine ag.ret ⟨rx,_,d',ah,rfl,sV,ia⟩
  |false=>
   rw[hb,if_neg (by simp)] at gr;refine zQ 14 ?_;refine qn ?_;simp only[List.length_map];refine zQ 2 ?_;refine zP (fun hge=>?_) fun hge=>?_
   ·rw[if_pos (by omega)] at gr;refine zQ 4 ?_;obtain⟨_,st,aF,rfl,hH⟩:=dW (s:=s1) s.i 4 (by omega) hH;refine qv aF ?_;refine zQ 2 ?_;obtain⟨w1,w2,w3,w4⟩:=gb (aQ:=aQ) (s:=s1) (i:=s.i) (e:=4) he1 (by decide) gr;refine ag.ret ⟨rx,_,_,_,rfl,ak (rfl),?_⟩;exact⟨_,eP (by omega) (by omega) (by omega) (by omega) (BC _ w1),cm.ax b9 (hH.erase 2)⟩
   ·rw[if_neg (by omega)] at gr;refine zQ 5 ?_;obtain⟨_,st,aF,s2,⟨i1,i2,i3,i4,a,rfl,i5,i6⟩,hH⟩:=Dt (s:=s1) eC he1 (by omega) hH;have Qc:=(fR a).arg N S2;have EW:=yg a;refine qv aF ?_;refine ae.dh (s:=2) hH rfl (ev rfl) (ev rfl) (by exact b8) (by exact Arg.rows (by assumption) hH) rfl rfl rfl rfl rfl rfl rfl ⟨(Nat.le_of_ble_eq_true rfl),(Nat.le_of_ble_eq_true rfl)⟩ (fun _=>(aa rfl _)) (by simp only[List.length_map]<;>omega) (by exact .inr (by assumption)) (fun PE st hH=>?_);dsimp only[u2,u1,u3,u4,setMany,u5,u6,D.cells,Nat.reduceAdd,aK,ba,az,av] at hH;refine zQ 5 ?_
    rcases i6 with i6|⟨i6,i7,i8⟩
    ·have hne:=i6.ne;exact⟨mm-1,by omega,⟨s2,PE,lr++a,false,rfl,(by rw[List.map_append];exact hH),i1.trans h1,i2.trans h2,by omega,i4,by rw[List.length_append];omega,fun e=>absurd e hne,by rw[if_neg hne];omega,.inl (i6.map fun e w h=>by rw[gr,h])⟩⟩
    ·rw[i8] at gr;simp only at gr;exact⟨mm-1,by omega,⟨s2,PE,lr++a,false,rfl,(by rw[List.map_append];exact hH),i1.trans h1,i2.trans h2,by omega,i4,by rw[List.length_append];omega,fun e=>by rw[List.length_append];omega,by rw[if_pos i6];omega,.inr ⟨i6,n,by omega,gr⟩⟩⟩
def pO (gs:List (Nat×Nat)) (f:Nat):PR (Int×Int):=
 if(digS (fI gs (f+1)) []).2=0 then .er 4 f
 else if dG gs (f+1+(digS (fI gs (f+1)) []).2) 44=true then
  (if dG gs (f+1+(digS (fI gs (f+1)) []).2+1+(digS (fI gs (f+1+(digS (fI gs (f+1)) []).2+1)) []).2) 125=true then
   (if(digS (fI gs (f+1+(digS (fI gs (f+1)) []).2+1)) []).2=0 then
    (if(gW (digS (fI gs (f+1)) []).1).2=true then .ok ((gW (digS (fI gs (f+1)) []).1).1,-1) (f+1+(digS (fI gs (f+1)) []).2+1+(digS (fI gs (f+1+(digS (fI gs (f+1)) []).2+1)) []).2+1) else .er 2 f)
   else if ov (digS (fI gs (f+1+(digS (fI gs (f+1)) []).2+1)) []).1 (digS (fI gs (f+1)) []).1=true then .er 4 f
   else if(gW (digS (fI gs (f+1)) []).1).2=true∧(gW (digS (fI gs (f+1+(digS (fI gs (f+1)) []).2+1)) []).1).2=true then .ok ((gW (digS (fI gs (f+1)) []).1).1,(gW (digS (fI gs (f+1+(digS (fI gs (f+1)) []).2+1)) []).1).1) (f+1+(digS (fI gs (f+1)) []).2+1+(digS (fI gs (f+1+(digS (fI gs (f+1)) []).2+1)) []).2+1) else .er 2 f)
  else .er 4 f)
 else(if dG gs (f+1+(digS (fI gs (f+1)) []).2) 125=true then
   (if ov (digS (fI gs (f+1)) []).1 (digS (fI gs (f+1)) []).1=true then .er 4 f
   else if(gW (digS (fI gs (f+1)) []).1).2=true then .ok ((gW (digS (fI gs (f+1)) []).1).1,(gW (digS (fI gs (f+1)) []).1).1) (f+1+(digS (fI gs (f+1)) []).2+1) else .er 2 f)
  else .er 4 f)
def pN (gs:List (Nat×Nat)) (f:Nat) (m n:List UInt8) (ok en:Bool) (i:Nat):PR (Int×Int):=
 if ok=false then .er 4 f
 else if dG gs i 125=false then .er 4 f
 else if en=false∧ov n m=true then .er 4 f
 else if(gW m).2=true∧(gW (if en=true then[] else n)).2=true then .ok ((gW m).1,if en=true then-1 else(gW n).1) (i+1)
 else .er 2 f
theorem A7 (gs:List (Nat×Nat)) (f:Nat):pO gs f=
  if(digS (fI gs (f+1)) []).2≠0∧dG gs (f+1+(digS (fI gs (f+1)) []).2) 44=true then
   pN gs f (digS (fI gs (f+1)) []).1 (digS (fI gs (f+1+(digS (fI gs (f+1)) []).2+1)) []).1 true (!decide (0<(digS (fI gs (f+1+(digS (fI gs (f+1)) []).2+1)) []).2)) (f+1+(digS (fI gs (f+1)) []).2+1+(digS (fI gs (f+1+(digS (fI gs (f+1)) []).2+1)) []).2)
  else pN gs f (digS (fI gs (f+1)) []).1 (digS (fI gs (f+1)) []).1 (decide (0<(digS (fI gs (f+1)) []).2)) false (f+1+(digS (fI gs (f+1)) []).2):=by
 unfold pO pN;have ry:(gW []).2=true:=rfl;generalize(digS (fI gs (f+1)) [])=A;generalize(digS (fI gs (f+1+A.2+1)) [])=B;generalize dG gs (f+1+A.2) 44=c1;generalize dG gs (f+1+A.2) 125=c2;generalize dG gs (f+1+A.2+1+B.2) 125=c3;generalize ov A.1 A.1=c4;generalize ov B.1 A.1=c5
 by_cases h1:A.2=0
 ·simp[h1]
 ·have GZ:0<A.2:=by omega
  by_cases h2:B.2=0
  ·cases c1<;>cases c2<;>cases c3<;>cases c4<;>cases c5<;>simp[h1,GZ,h2,ry]
  ·have LM:0<B.2:=by omega
   cases c1<;>cases c2<;>cases c3<;>cases c4<;>cases c5<;>simp[h1,GZ,h2,LM,ry]
def fw (op:Int) (ps:List (List bn)):List bn:=
 match ps with
 |[]=>[iM 1 0 0 false 0 0 []]
 |[l]=>l
 |ps=>iM op 0 0 false 0 (ps.length:Nat) []::ps.flatten
theorem nh:∀l:List (List bn),eM l=l.flatten.length
 |[]=>rfl
 |a::l=>by rw[eM,List.flatten_cons,List.length_append,nh l]
theorem qk {s0:St} {x:D} {parts:List (List bn)} (op:Int) (hx:V.Rows s0 1 x (parts.map dI)) (hv:∀l∈parts,∀n∈l,lX n) (hp:parts.length≤100000) (hs:eM parts≤100000):Ev pv 46 [.int .i64 op,x] s0 (pT (fw op parts)) s0∧(∀n∈fw op parts,lX n)∧(parts.length=1→(fw op parts).length≤eM parts)∧(fw op parts).length≤eM parts+1:=by
 suffices hg:∃d,Ev pv 46 [.int .i64 op,x] s0 d s0∧d=pT (fw op parts)∧(∀n∈fw op parts,lX n)∧(parts.length=1→(fw op parts).length≤eM parts)∧(fw op parts).length≤eM parts+1 by
  obtain⟨d,h1,rfl,h2⟩:=hg;exact⟨h1,h2⟩
 refine Ev.Bd rfl OS rfl rfl rfl ?_;refine zE ?_;obtain⟨aW,hF,hH⟩:=ri s0;generalize ai .ro s0=S at*;have hx:=Arg.of hx aW;refine zQ 8 ?_;refine qn ?_;simp only[List.length_map];refine zQ 7 ?_
 by_cases h0:parts.length=0
 ·have R4:parts=[]:=List.length_eq_zero_iff.1 h0;refine qD rfl (by simp[h0]) ?_;refine zQ 2 ?_;refine ae.go (d:=.agg [.int .i64 1,.nul,.int .i64 0,.int .i64 0,.bool false,.int .i64 0,.int .i64 0]) (st1:=_) rfl rfl rfl (by dsimp only[Fr.put,u1,u2]<;>rfl) ?_;refine qh (s:=7) (vs:=[_]) hH fun k13 st SS hH=>?_;refine zQ 2 ?_;have hfz:=iD (L:=s0.bs.length) (a:=[]) hH aG (.inr ⟨rfl,rfl⟩) (fun k hk=>by have jA:k13+1=k+1:=hk;rw[←aW];omega);refine ag.ret ⟨rx,_,_,rfl,rl aW hH (hfz),?_⟩;rw[R4];exact⟨rfl,Db (by simp) (by omega),fun h=>by simp at h,by simp[fw]⟩
 have N1:(((parts.length:Nat):Int)==0)=false:=by rw[beq_eq_false_iff_ne];omega
 refine qE rfl (by rw[N1]) ?_;refine zQ 5 ?_
 by_cases h1:parts.length=1
 ·obtain⟨q,hq⟩:∃q,parts[0]?=some q:=⟨parts[0]'(by omega),List.getElem?_eq_getElem _⟩
  have gJ:=vU hq
  have wR:parts=[q]:=by
   match parts,h1,hq with
   |[a],_,hq=>simp at hq;rw[hq]
  refine qD rfl (by simp[h1]) ?_;refine zQ 3 ?_;refine qr fun PZ J9=>?_;refine zQ 3 ?_;refine ag.ret ⟨rx,_,_,rfl,rl aW hH (rfl),?_⟩;have hj:fw op parts=q:=by rw[wR];rfl
  refine⟨by rw[hj];rfl,by rw[hj];exact hv q (List.mem_of_getElem? hq),fun _=>?_,?_⟩<;>rw[hj,wR]<;>simp[eM]
 have KN:(((parts.length:Nat):Int)==1)=false:=by rw[beq_eq_false_iff_ne];omega
 have hj:fw op parts=iM op 0 0 false 0 (parts.length:Nat) []::parts.flatten:=by
  match parts,h0,h1 with
  |_::_::_,_,_=>rfl
 rw[hj];refine qE rfl (by rw[KN]) ?_;refine zQ 5 ?_;refine qn ?_;simp only[List.length_map];refine ae.go (d:=.agg [.int .i64 op,.nul,.int .i64 0,.int .i64 0,.bool false,.int .i64 0,.int .i64 (parts.length:Nat)]) (st1:=_) rfl rfl rfl (by dsimp only[Fr.put,u1,u2]<;>rfl) ?_;refine qh (s:=7) (vs:=[_]) hH fun k23 st SP hH=>?_;refine zQ 6 ?_;refine qn ?_;simp only[List.length_map];refine zQ 2 ?_;have hH:Has s0.bs.length S st (.aD (.win k23 0 0 1 7) 7 [[.int .i64 op,.nul,.int .i64 0,.int .i64 0,.bool false,.int .i64 0,.int .i64 (parts.length:Nat)]]::[]):=hH;refine zQ 1 ?_;refine ag.loop (fun mm fr st=>∃(i:Nat) (od:D) (es:List (List D)),fr.clean=⟨27,[b7 fr 0,b7 fr 1,b7 fr 2,b7 fr 3,b7 fr 4,od,b7 fr 6,b7 fr 7,b7 fr 8,b7 fr 9,b7 fr 10,b7 fr 11,b7 fr 12,b7 fr 13,b7 fr 14,b7 fr 15,b7 fr 16,b7 fr 17,b7 fr 18,b7 fr 19,b7 fr 20,b7 fr 21,b7 fr 22,b7 fr 23,x,.int .i64 (parts.length:Nat),.int .i64 (i:Nat)],[]⟩∧Has s0.bs.length S st [.aD od 7 es]∧(i+mm=parts.length)∧(es.map (·.map lO)=(iM op 0 0 false 0 (parts.length:Nat) []::(parts.take i).flatten).map aE)∧(∀e∈es,∀d∈e,lj d=true)∧(∀k,od.ref=k+1→S.bs.length≤k)) (parts.length) ?_ ?_
 ·refine⟨0,.win k23 0 0 1 7,[[.int .i64 op,.nul,.int .i64 0,.int .i64 0,.bool false,.int .i64 0,.int .i64 (parts.length:Nat)]],rfl,hH,by omega,rfl,?_,fun k hk=>by simp only[D.ref] at hk;omega⟩;intro e he d hd;simp only[List.mem_cons,List.not_mem_nil,or_false] at he;subst he;simp only[List.mem_cons,List.not_mem_nil,or_false] at hd
  rcases hd with rfl|rfl|rfl|rfl|rfl|rfl|rfl<;>rfl
 rintro mm fr st ⟨i,od,es,hfr,hH,hi,sX,ht,gA⟩;rw[hfr];clear hfr;generalize b7 fr=ee;clear fr;refine zQ 4 ?_
 by_cases hlt:i<parts.length
 ·obtain⟨q,hq⟩:∃q,parts[i]?=some q:=⟨parts[i]'hlt,List.getElem?_eq_getElem _⟩
  have gJ:=vU hq;have MN:=hv q (List.mem_of_getElem? hq)
  have rN:es.length=1+(parts.take i).flatten.length:=by
   have Tk:(List.length∘List.map aE:List bn→Nat)=List.length:=by funext l;simp
   have:=congrArg List.length sX;simp[Tk] at this
   simp;omega
  have HJ:parts.take (i+1)=parts.take i++[q]:=by rw[List.take_add_one,hq];rfl
  have RO:eM (parts.take (i+1))=eM (parts.take i)+q.length:=by rw[HJ,dx];simp[eM]
  have RS:eM (parts.take (i+1))≤eM parts:=by
   have:=dx (parts.take (i+1)) (parts.drop (i+1));rw[List.take_append_drop] at this;omega
  have hsf:=nh (parts.take i);refine qq<|qD rfl (by simp;omega) ?_;refine zQ 5 ?_;refine qr fun Rf M7=>?_;refine zQ 6 ?_;refine ae.cj (s:=7) hH rfl (ev rfl) (ev rfl) aG ((ml MN).rows st) rfl rfl rfl rfl rfl rfl rfl ⟨(Nat.le_of_ble_eq_true rfl),(Nat.le_of_ble_eq_true rfl)⟩ (fun _=>(aa rfl _)) (by rw[List.length_map];omega) (.inl hF) gA (fun QR st gA hH=>?_);dsimp only[u2] at hH;refine zQ 6 ?_;refine⟨mm-1,by omega,⟨i+1,QR,es++q.map aE,rfl,hH,by omega,by rw[List.map_append,sX,t_ MN,HJ,List.flatten_append,List.map_cons,List.map_cons,List.map_append];simp,?_,gA⟩⟩;intro e he
  rcases List.mem_append.1 he with he|he
  ·exact ht e he
  ·exact pS MN e he
 ·refine qq<|qE rfl (by simp;omega) ?_;refine zQ 6 ?_;have hik:i=parts.length:=by omega
  rw[hik,List.take_length] at sX
  have hall:∀n∈iM op 0 0 false 0 (parts.length:Nat) []::parts.flatten,lX n:=fun n hn=>by
   rcases List.mem_cons.1 hn with rfl|hn
   ·exact Db (by simp) (by omega) _ (List.mem_cons_self ..)
   ·obtain⟨l,hl,hn⟩:=List.mem_flatten.1 hn;exact hv l hl n hn
  refine ag.ret ⟨rx,_,_,rfl,rl aW hH (iC hH aG sX ht (fun k hk=>by have:=gA k hk;rw[←aW];exact this) (by decide)),?_⟩;have hsf:=nh parts;exact⟨rfl,hall,by omega,by simp only[List.length_cons];omega⟩
def jx (fr:Go.V.Fr) (k:Nat):Go.V.D:=Go.V.nth .aY fr.loc k
def G5 (gs:List (Nat×Nat)) (aQ:List Int) (R:PR (Int×Int)) (s s':dR) (n1 n2:Int):Prop:=
 tD gs s s'∧(ef R aQ s'∨s'.e=0∧R=.ok (n1,n2) s'.i)
theorem vu {gs:List (Nat×Nat)} {s:dR} {r:Int} (h:dG gs s.i r=false):bF gs s r=s:=by
 unfold bF;rw[if_neg (by rw[h];simp)]
theorem ky {gs:List (Nat×Nat)} {s:dR} {r:Int} (h:dG gs s.i r=true):(bF gs s r).i=s.i+1:=by
 unfold bF;rw[if_pos h]
theorem A8 {N k:Nat} {S s0:St} {H:List bh} {gs:List (Nat×Nat)} {bm:D} {aQ:List Int} {s:dR} (eC:km gs aQ) (he:s.e=0) (hi:s.i<gs.length) (hH:Has N S s0 (.box k (.mem 0 false (aK gs bm s))::.aD bm 1 (aQ.map az)::H)):
  ∃d ah,Ev pv 77 [.ptr k 0 0] s0 d ah∧∃(n1 n2:Int) (s':dR),d=.tup [.int .i64 n1,.int .i64 n2]∧G5 gs aQ (pO gs s.i) s s' n1 n2∧Has N S ah (.box k (.mem 0 false (aK gs bm s'))::.aD bm 1 (aQ.map az)::H):=by
 have rM:=eC.gl;have ka:=eC.pl;have hne:gs≠[]:=by rintro rfl;simp at hi
 refine Ev.kT rfl Ox rfl rfl rfl ?_;refine zE ?_;have cm:=hH;have hH:=hH.cq;have b9:(ai .rw s0).bs=s0.bs:=rfl;generalize ai .rw s0=S2 at*;refine zQ 22 ?_;refine qT hH aG fun st hH=>?_;dsimp only[u2,u1,u3,u4,setMany,u5,u6,D.cells,Nat.reduceAdd,aK,ba,az,av] at hH;refine zQ 1 ?_;have hH:Has N S2 st (.box k (.mem 0 false (aK gs bm {s with i:=s.i+1}))::.aD bm 1 (aQ.map az)::H):=hH;have hall:=A7 gs s.i
 obtain⟨R,hR⟩:∃R,pO gs s.i=R:=⟨_,rfl⟩
 rw[hR] at hall⊢;clear hR
 have DY:∀(st:St) (s3:dR) (e:Int),e≠0→s3.e=0→tD gs s s3→R=.er e s.i→Has N S2 st (.box k (.mem 0 false (aK gs bm s3))::.aD bm 1 (aQ.map az)::H)→∃d ah,Ev pv 27 [.ptr k 0 0,.int .i64 (s.i:Nat),.int .i64 e] st d ah∧d=.sl []∧∃s4,(∀n1 n2,G5 gs aQ R s s4 n1 n2)∧Has N S2 ah (.box k (.mem 0 false (aK gs bm s4))::.aD bm 1 (aQ.map az)::H):=by
  intro st s3 e h0 h1 h2 hv hH;obtain⟨d,ah,aF,h4,hH⟩:=dW (s:=s3) s.i e (by omega) hH;obtain⟨w1,w2,w3,w4⟩:=gb (aQ:=aQ) (s:=s3) (i:=s.i) (e:=e) h1 h0 hv;exact⟨d,ah,aF,h4,_,fun _ _=>⟨⟨w3.trans h2.1,w4.trans h2.2.1,by rw[w2];exact h2.2.2.1,by rw[w2];exact h2.2.2.2⟩,.inl w1⟩,hH⟩
 obtain⟨A,hA⟩:∃A,digS (fI gs (s.i+1)) []=A:=⟨_,rfl⟩
 refine zQ 3 ?_;obtain⟨_,st,aF,rfl,na,Lw,hH⟩:=re (s:={s with i:=s.i+1}) rM (by show s.i+1≤_;omega) hne hH;dsimp only at aF na Lw hH;rw[hA] at aF na Lw hH;refine qv aF ?_;refine zQ 6 ?_;rw[hA] at hall;obtain⟨m,a2⟩:=A;clear hA;dsimp only at hall na Lw hH
 obtain⟨s1,F2⟩:∃s1:dR,({s with i:=s.i+1+a2}:dR)=s1:=⟨_,rfl⟩
 have HP:s1.e=0:=by rw[←F2];exact he
 have MG:s1.i=s.i+1+a2:=by rw[←F2]
 have Br:tD gs s s1:=by rw[←F2];exact⟨rfl,rfl,by show s.i<s.i+1+a2;omega,Lw⟩
 have hH:Has N S2 st (.box k (.mem 0 false (aK gs bm s1))::.aD bm 1 (aQ.map az)::H):=by rw[←F2];exact hH
 clear F2;rw[←MG] at hall
 obtain⟨ok,F4⟩:∃ok,decide (0<a2)=ok:=⟨_,rfl⟩
 rw[F4] at hall⊢;refine zQ 8 ?_;refine ag.pV (fun fr st=>∃(n:List UInt8) (en:Bool) (s3:dR) (tmp:List (Nat×D)),fr=⟨14,[.ptr k 0 0,jx fr 1,jx fr 2,jx fr 3,.int .i64 (s.i:Nat),.str m,.bool ok,.str n,.bool en,jx fr 9,jx fr 10,jx fr 11,jx fr 12,jx fr 13],tmp⟩∧Has N S2 st (.box k (.mem 0 false (aK gs bm s3))::.aD bm 1 (aQ.map az)::H)∧(s3.e=0)∧(tD gs s s3)∧(n.length≤120)∧(R=pN gs s.i m n ok en s3.i)) ?_ ?_
 ·cases ok with
  |false=>
   have Qv:a2=0:=by have:=of_decide_eq_false F4;omega
   have wY:false=false:=rfl;refine zQ 9 ?_;exact⟨m,false,s1,_,rfl,hH,HP,Br,na,by rw[hall,if_neg (fun h=>h.1 Qv)]⟩
  |true=>
   have Qv:0<a2:=of_decide_eq_true F4;have wY:true=true:=rfl;obtain⟨k1,k2,k3,k4,k5⟩:=gC (gs:=gs) (s:=s1) (r:=44);have k5:=k5 Br.2.2.2;have k6:=vu (gs:=gs) (s:=s1) (r:=44);have k7:=ky (gs:=gs) (s:=s1) (r:=44);refine zQ 4 ?_;obtain⟨_,st,aF,rfl,hH⟩:=dP (s:=s1) (by omega) 44 hH;refine qv aF ?_ (hg:=wi wY);refine zQ 2 ?_;generalize bF gs s1 44=s2 at*
   have HO:tD gs s s2:=⟨k1.trans Br.1,k2.trans Br.2.1,by have:=Br.2.2.1;omega,k5⟩
   cases hb:dG gs s1.i 44 with
   |false=>
    have k6:=k6 hb;rw[k6] at hH;refine zQ 2 ?_;exact⟨m,false,s1,_,rfl,hH,HP,Br,na,by rw[hall,if_neg (fun h=>by rw[hb] at h;exact absurd h.2 (by simp))]⟩
   |true=>
    have k7:=k7 hb;refine zQ 5 ?_;rw[←k7] at hall
    obtain⟨B,hB⟩:∃B,digS (fI gs s2.i) []=B:=⟨_,rfl⟩
    rw[hB] at hall;refine zQ 3 ?_;obtain⟨_,st,aF,rfl,Kj,hni,hH⟩:=re (s:=s2) rM k5 hne hH;rw[hB] at aF Kj hni hH;refine qv aF ?_;refine zQ 6 ?_;clear hB;obtain⟨n,b2⟩:=B;dsimp only at hall Kj hni hH;refine zQ 5 ?_;exact⟨n,!decide (0<b2),{s2 with i:=s2.i+b2},_,rfl,hH,k3.trans HP,⟨HO.1,HO.2.1,by have:=HO.2.2.1;show s.i<s2.i+b2;omega,hni⟩,Kj,by rw[hall,if_pos ⟨by omega,hb⟩]⟩
 ·rintro fr st ⟨n,en,s3,tmp,hfr,hH,h1,h2,h3,hG⟩;rw[hfr];clear hfr;generalize jx fr=ee;clear fr;clear hall F4;obtain⟨k1,k2,k3,k4,k5⟩:=gC (gs:=gs) (s:=s3) (r:=125);have k5:=k5 h2.2.2.2
  have Bp:tD gs s (bF gs s3 125):=⟨k1.trans h2.1,k2.trans h2.2.1,by have:=h2.2.2.1;omega,k5⟩
  have Bq:(bF gs s3 125).e=0:=k3.trans h1;have k7:=ky (gs:=gs) (s:=s3) (r:=125);unfold pN at hG
  cases ok with
  |false=>
   rw[if_pos rfl] at hG;have bH:(!false)=true:=rfl;refine zQ 25 ?_;obtain⟨_,st,aF,rfl,s4,Sq,hH⟩:=DY _ s3 4 (by decide) h1 h2 hG hH;refine qv aF ?_;refine zQ 6 ?_;refine ag.ret ⟨rx,_,_,_,rfl,ak (rfl),?_⟩;exact⟨_,_,s4,rfl,Sq _ _,cm.ax b9 hH⟩
  |true=>
   rw[if_neg (by simp)] at hG;have bH:(!true)=false:=rfl
   cases LB:(!dG gs s3.i 125) with
   |true=>
    rw[if_pos (by simpa using LB)] at hG;refine zQ 7 ?_;obtain⟨_,st,aF,rfl,hH⟩:=dP (s:=s3) (by omega) 125 hH;refine qv aF ?_ (hg:=wi bH);refine zQ 12 ?_;generalize bF gs s3 125=s4 at*;refine zQ 5 ?_;obtain⟨_,st,aF,rfl,s5,H7,hH⟩:=DY _ s4 4 (by decide) Bq Bp hG hH;refine qv aF ?_;refine zQ 6 ?_;refine ag.ret ⟨rx,_,_,_,rfl,ak (rfl),?_⟩;exact⟨_,_,s5,rfl,H7 _ _,cm.ax b9 hH⟩
   |false=>
    have Qo:dG gs s3.i 125=true:=by simpa using LB
    have k7:=k7 Qo;rw[if_neg (by rw[Qo];simp)] at hG;rw[←k7] at hG
    cases en with
    |true=>
     rw[if_neg (fun h=>absurd h.1 (by simp))] at hG;have gQ:(!true)=false:=rfl;have rv:=fun st=>ko (s0:=st) m (by omega);have Bm:=fun st=>ko (s0:=st) [] (by simp);simp only[if_true] at hG;generalize gW m=V1 at*;generalize gW []=V2 at*;obtain⟨a1,f1⟩:=V1;obtain⟨b1,f2⟩:=V2;dsimp only at hG rv Bm;refine zQ 7 ?_;obtain⟨_,st,aF,rfl,hH⟩:=dP (s:=s3) (by omega) 125 hH;refine qv aF ?_ (hg:=wi bH);refine zQ 9 ?_;refine ae.cp (aj rfl rfl rfl LB) rfl gQ (aa rfl _) ?_;refine zQ 2 ?_;generalize bF gs s3 125=s4 at*;refine zQ 5 ?_;refine qv ((rv _)) ?_;refine zQ 18 ?_;refine qv ((Bm _)) ?_;refine zQ 8 ?_;refine ag.mJ 78 (.bool (!f1||!f2)) [] ?_ (fun ff tmp fg=>?_)
     ·refine zQ 3 ?_;refine ae.two 75 rfl (fun bH=>?_) (fun bH=>?_)
      ·refine zQ 3 ?_;refine ae.nil (dn ?_ ?_)
       ·dsimp only[bd,List.foldl,nth,u2,u1]
        all_goals(first|rfl|simp)
       ·refine zF ?_
        all_goals(simp[bH];done)
      ·refine zQ 3 ?_;refine ae.nil (dn ?_ ?_)
       ·dsimp only[bd,List.foldl,nth,u2,u1]
        all_goals(first|rfl|simp)
       ·refine zF ?_
        all_goals(simp[bH];done)
     dsimp only[bd,List.foldl,nth,u2,u1];refine qc (fun lW=>?_) (fun lW=>?_)<;>try simp only[cs] at lW
     ·rw[if_neg (fun h=>by rw[h.1,h.2] at lW;simp at lW)] at hG;refine zQ 4 ?_;obtain⟨_,st,aF,rfl,s5,H7,hH⟩:=DY _ s4 2 (by decide) Bq Bp hG hH;refine qv aF ?_;refine zQ 6 ?_;refine ag.ret ⟨rx,_,_,_,rfl,ak (rfl),?_⟩;exact⟨_,_,s5,rfl,H7 _ _,cm.ax b9 hH⟩
     ·rw[if_pos (by cases f1<;>cases f2<;>simp at lW⊢)] at hG;refine zQ 17 ?_;refine ag.ret ⟨rx,_,_,_,rfl,ak (rfl),?_⟩;exact⟨_,_,s4,rfl,⟨Bp,.inr ⟨Bq,hG⟩⟩,cm.ax b9 hH⟩
    |false=>
     have gQ:(!false)=true:=rfl;have rv:=fun st=>ko (s0:=st) m (by omega);have Bm:=fun st=>ko (s0:=st) n (by omega);have hle:=fun st=>Di (s0:=st) n m;have S6:∀(a b:Int),(if false=true then a else b)=b:=fun a b=>if_neg (by simp);have hil:∀(a b:List UInt8),(if false=true then a else b)=b:=fun a b=>if_neg (by simp);rw[S6,hil] at hG;generalize gW m=V1 at*;generalize gW n=V2 at*;obtain⟨a1,f1⟩:=V1;obtain⟨b1,f2⟩:=V2;dsimp only at hG rv Bm;generalize ov n m=v at*;refine zQ 7 ?_;obtain⟨_,st,aF,rfl,hH⟩:=dP (s:=s3) (by omega) 125 hH;refine qv aF ?_ (hg:=wi bH);refine zQ 8 ?_;refine qv ((hle _)) ?_ (hg:=wi gQ);refine ae.cF (aj rfl rfl rfl LB) rfl gQ (aa rfl _) ?_;refine zQ 2 ?_;generalize bF gs s3 125=s4 at*
     cases v with
     |true=>
      rw[if_pos ⟨rfl,rfl⟩] at hG;refine zQ 5 ?_;obtain⟨_,st,aF,rfl,s5,H7,hH⟩:=DY _ s4 4 (by decide) Bq Bp hG hH;refine qv aF ?_;refine zQ 6 ?_;refine ag.ret ⟨rx,_,_,_,rfl,ak (rfl),?_⟩;exact⟨_,_,s5,rfl,H7 _ _,cm.ax b9 hH⟩
     |false=>
      rw[if_neg (fun h=>absurd h.2 (by simp))] at hG;refine zQ 5 ?_;refine qv ((rv _)) ?_;refine zQ 16 ?_;refine qv ((Bm _)) ?_;refine zQ 8 ?_;refine ag.mJ 78 (.bool (!f1||!f2)) [] ?_ (fun ff tmp fg=>?_)
      ·refine zQ 3 ?_;refine ae.two 75 rfl (fun bH=>?_) (fun bH=>?_)
       ·refine zQ 3 ?_;refine ae.nil (dn ?_ ?_)
        ·dsimp only[bd,List.foldl,nth,u2,u1]
         all_goals(first|rfl|simp)
        ·refine zF ?_
         all_goals(simp[bH];done)
       ·refine zQ 3 ?_;refine ae.nil (dn ?_ ?_)
        ·dsimp only[bd,List.foldl,nth,u2,u1]
         all_goals(first|rfl|simp)
        ·refine zF ?_
         all_goals(simp[bH];done)
      dsimp only[bd,List.foldl,nth,u2,u1];refine qc (fun lW=>?_) (fun lW=>?_)<;>try simp only[cs] at lW
      ·rw[if_neg (fun h=>by rw[h.1,h.2] at lW;simp at lW)] at hG;refine zQ 4 ?_;obtain⟨_,st,aF,rfl,s5,H7,hH⟩:=DY _ s4 2 (by decide) Bq Bp hG hH;refine qv aF ?_;refine zQ 6 ?_;refine ag.ret ⟨rx,_,_,_,rfl,ak (rfl),?_⟩;exact⟨_,_,s5,rfl,H7 _ _,cm.ax b9 hH⟩
      ·rw[if_pos (by cases f1<;>cases f2<;>simp at lW⊢)] at hG;refine zQ 15 ?_;refine ag.ret ⟨rx,_,_,_,rfl,ak (rfl),?_⟩;exact⟨_,_,s4,rfl,⟨Bp,.inr ⟨Bq,hG⟩⟩,cm.ax b9 hH⟩
def fV (fr:Go.V.Fr) (k:Nat):Go.V.D:=Go.V.nth .aY fr.loc k
abbrev PF:=Nat→Nat→PR (List bn×Nat)
def nM (A:PF) (gs:List (Nat×Nat)) (m i g:Nat) (free:Bool) (j:Nat):PR (List bn×Nat):=
 if m=0 then .er 10 i
 else if free=false∧4≤g then .er 13 i
 else match A j (if free=true then g else g+1) with
  | .er e w=>.er e w
  | .ok (l,g2) j2=>
   if dG gs j2 41=true then .ok (if free=true then l else iM 6 0 0 false ((g+1:Nat):Int) 1 []::l,g2) (j2+1)
   else .er 4 i
def uM (A:PF) (gs:List (Nat×Nat)) (m i g:Nat):PR (List bn×Nat):=
 if dG gs (i+1) 63=true then
  (if dG gs (i+2) 58=true then nM A gs m i g true (i+3) else .er 4 i)
 else nM A gs m i g false (i+1)
theorem ef.to {α:Type} {R:PR α} {aQ:List Int} {s s':dR} (h:ef R aQ s) (he:s'.e=s.e) (hw:s'.w=s.w):ef R aQ s':=by
 obtain⟨e,w,h0,h1,h2,h3⟩:=h;exact⟨e,w,h0,h1,he.trans h2,hw.trans h3⟩
def zi (A:PF) (gs:List (Nat×Nat)) (m:Nat):Prop:=∀{N k:Nat} {S s0:St} {H:List bh} {bm:D} {aQ:List Int} {s:dR},km gs aQ→s.e=0→s.i≤gs.length→s.g≤4→s.o+m=20→Has N S s0 (.box k (.mem 0 false (aK gs bm s))::.aD bm 1 (aQ.map az)::H)→
 ∃d ah,Ev pv 26 [.ptr k 0 0] s0 d ah∧∃(s':dR),pk gs aQ (A s.i s.g) s s' d∧Has N S ah (.box k (.mem 0 false (aK gs bm s'))::.aD bm 1 (aQ.map az)::H)
theorem BF {m:Nat} {gs:List (Nat×Nat)} {A:PF} (hA:∀m',m'+1=m→zi A gs m') {N k:Nat} {S s0:St} {H:List bh} {bm:D} {aQ:List Int} {s:dR} (eC:km gs aQ) (he:s.e=0) (hi:s.i<gs.length) (hg:s.g≤4) (ho:s.o+m=20) (hH:Has N S s0 (.box k (.mem 0 false (aK gs bm s))::.aD bm 1 (aQ.map az)::H)):
  ∃d ah,Ev pv 88 [.ptr k 0 0] s0 d ah∧∃(s':dR),iT gs aQ (uM A gs m s.i s.g) s s' d 2∧Has N S ah (.box k (.mem 0 false (aK gs bm s'))::.aD bm 1 (aQ.map az)::H):=by
 have rM:=eC.gl;have ka:=eC.pl;refine Ev.kT rfl Ol rfl rfl rfl ?_;refine zE ?_;have cm:=hH;have hH:=hH.cq;have b9:(ai .rw s0).bs=s0.bs:=rfl;generalize ai .rw s0=S2 at*
 obtain⟨R,hR⟩:∃R,uM A gs m s.i s.g=R:=⟨_,rfl⟩
 rw[hR];unfold uM at hR
 have hwr:∀(st:St) (s3:dR) (e:Int) (H2:List bh),e≠0→s3.e=0→s3.o=s.o→s3.g≤4→s.i≤s3.i→s3.i≤gs.length→R=.er e s.i→Has N S2 st (.box k (.mem 0 false (aK gs bm s3))::.aD bm 1 (aQ.map az)::H2)→∃d ah,Ev pv 27 [.ptr k 0 0,.int .i64 (s.i:Nat),.int .i64 e] st d ah∧d=.sl []∧∃s4,iT gs aQ R s s4 (.sl []) 2∧Has N S2 ah (.box k (.mem 0 false (aK gs bm s4))::.aD bm 1 (aQ.map az)::H2):=by
  intro st s3 e H2 h0 h1 h2 h3 h4 h5 hv hH;obtain⟨d,ah,aF,h6,hH⟩:=dW (s:=s3) s.i e (by omega) hH;obtain⟨w1,w2,w3,w4⟩:=gb (aQ:=aQ) (s:=s3) (i:=s.i) (e:=e) h1 h0 hv;exact⟨d,ah,aF,h6,_,eP (w3.trans h2) (by omega) (by omega) (by omega) w1,hH⟩
 refine zQ 21 ?_;refine qT hH aG fun st hH=>?_;dsimp only[u2,u1,u3,u4,setMany,u5,u6,D.cells,Nat.reduceAdd,aK,ba,az,av,aE] at hH;refine zQ 1 ?_;have hH:Has N S2 st (.box k (.mem 0 false (aK gs bm {s with i:=s.i+1}))::.aD bm 1 (aQ.map az)::H):=hH
 obtain⟨s1,F2⟩:∃s1:dR,({s with i:=s.i+1}:dR)=s1:=⟨_,rfl⟩
 have MH:s1.e=0∧s1.o=s.o∧s1.g=s.g∧s1.i=s.i+1:=by rw[←F2];exact⟨he,rfl,rfl,rfl⟩
 rw[F2] at hH;clear F2;obtain⟨f1,f2,f3,f4⟩:=MH;refine zQ 6 ?_;refine ag.pV (fun fr st=>∃(free:Bool) (s2:dR) (tmp:List (Nat×D)),fr=⟨7,[.ptr k 0 0,fV fr 1,fV fr 2,.int .i64 (s.i:Nat),.bool free,fV fr 5,fV fr 6],tmp⟩∧Has N S2 st (.box k (.mem 0 false (aK gs bm s2))::.aD bm 1 (aQ.map az)::H)∧(s2.e=0)∧(s2.o=s.o)∧(s2.g=s.g)∧(s.i+1≤s2.i)∧(s2.i≤gs.length)∧(nM A gs m s.i s.g free s2.i=R)) ?_ ?_
 ·obtain⟨k1,k2,k3,k4,k5⟩:=gC (gs:=gs) (s:=s1) (r:=63);have k5:=k5 (by omega);have k6:=vu (gs:=gs) (s:=s1) (r:=63);have k7:=ky (gs:=gs) (s:=s1) (r:=63);refine zQ 2 ?_;obtain⟨_,st,aF,rfl,hH⟩:=dP (s:=s1) (by omega) 63 hH;refine qv aF ?_;refine zQ 1 ?_;generalize bF gs s1 63=s2 at*
  cases hb:dG gs s1.i 63 with
  |false=>
   refine zQ 2 ?_;exact⟨false,s2,_,rfl,hH,by omega,by omega,by omega,by omega,by omega,(by rw[k6 hb,f4,←hR,if_neg (by rw[←f4,hb];simp)])⟩
  |true=>
   refine zQ 5 ?_;obtain⟨r1,r2,r3,r4,r5⟩:=gC (gs:=gs) (s:=s2) (r:=58);have r5:=r5 k5;have k7:=k7 hb;have r7:=ky (gs:=gs) (s:=s2) (r:=58);refine zQ 3 ?_;obtain⟨_,st,aF,rfl,hH⟩:=dP (s:=s2) (by omega) 58 hH;refine qv aF ?_;refine zQ 2 ?_;generalize bF gs s2 58=s3 at*
   cases hb2:dG gs s2.i 58 with
   |false=>
    refine zQ 5 ?_;obtain⟨_,st,aF,rfl,s4,hN,hH⟩:=hwr _ s3 4 _ (by decide) (by omega) (by omega) (by omega) (by omega) (by omega) (by rw[←hR,if_pos (by rw[←f4];exact hb),if_neg (by rw[show s.i+2=s2.i by omega,hb2];simp)]) hH;refine qv aF ?_;refine zQ 2 ?_;refine ag.ret ⟨rx,_,_,_,rfl,ak (rfl),?_⟩;exact⟨s4,hN,cm.ax b9 hH⟩
   |true=>
    refine zQ 2 ?_;exact⟨true,s3,_,rfl,hH,by omega,by omega,by omega,by omega,by omega,(by rw[←hR,if_pos (by rw[←f4];exact hb),if_pos (by rw[show s.i+2=s2.i by omega];exact hb2),show s3.i=s.i+3 by have:=r7 hb2;omega])⟩
 ·rintro fr st ⟨free,s2,tmp,hfr,hH,h1,h2,h3,h4,h5,hG⟩;rw[hfr];clear hfr;generalize fV fr=ee;clear fr;clear hR;refine zQ 9 ?_
  by_cases Qu:20≤s2.o
  ·have fJ:decide (((s2.o:Nat):Int)≥20)=true:=by rw[decide_eq_true_eq];omega
   refine qD rfl (by rw[fJ]) ?_;refine zQ 4 ?_;obtain⟨_,st,aF,rfl,s4,hN,hH⟩:=hwr _ s2 10 _ (by decide) h1 h2 (by omega) (by omega) h5 (by rw[←hG];unfold nM;rw[if_pos (by omega)]) hH;refine qv aF ?_;refine zQ 2 ?_;refine ag.ret ⟨rx,_,_,_,rfl,ak (rfl),?_⟩;exact⟨s4,hN,cm.ax b9 hH⟩
  have fJ:decide (((s2.o:Nat):Int)≥20)=false:=by rw[decide_eq_false_iff_not];omega
  refine qE rfl (by rw[fJ]) ?_;refine zQ 3 ?_;refine ae.go (d:=.agg [.int .i64 6,.nul,.int .i64 0,.int .i64 0,.bool false,.int .i64 0,.int .i64 1]) (st1:=_) rfl rfl rfl (aa rfl _) ?_;refine qa hH fun k5 st DQ hH=>?_;dsimp only[u2,u1,u3,u4,setMany,u5,u6,D.cells,Nat.reduceAdd,aK,ba,az,av,aE] at hH;refine qS hH aG fun st hH=>?_;dsimp only[u2,u1,u3,u4,setMany,u5,u6,D.cells,Nat.reduceAdd,aK,ba,az,av,aE] at hH;refine zQ 1 ?_;have hH:Has N S2 st (.box k (.mem 0 false (aK gs bm s2))::.aD bm 1 (aQ.map az)::.box k5 (.mem 0 false [.int .i64 6,.nul,.int .i64 0,.int .i64 0,.bool false,.int .i64 0,.int .i64 1])::H):=mW hH;refine zQ 2 ?_;refine ag.pV (fun fr st=>∃(cap:Int) (s3:dR) (tmp:List (Nat×D)),fr=⟨7,[.ptr k 0 0,fV fr 1,fV fr 2,.int .i64 (s.i:Nat),.bool free,.ptr k5 0 0,fV fr 6],tmp⟩∧Has N S2 st (.box k (.mem 0 false (aK gs bm s3))::.aD bm 1 (aQ.map az)::.box k5 (.mem 0 false [.int .i64 6,.nul,.int .i64 0,.int .i64 0,.bool false,.int .i64 cap,.int .i64 1])::H)∧(s3.e=0)∧(s3.o=s.o)∧(s3.g≤4)∧(s3.i=s2.i)∧(s3.g=(if free=true then s.g else s.g+1))∧(cap=(if free=true then 0 else((s.g+1:Nat):Int)))∧(¬(free=false∧4≤s.g))) ?_ ?_
  ·refine zQ 4 ?_
   cases free with
   |true=>
    refine zQ 2 ?_;exact⟨0,s2,_,rfl,hH,h1,h2,by omega,rfl,(by rw[if_pos rfl];exact h3),(by rw[if_pos rfl]),(fun h=>absurd h.1 (by simp))⟩
   |false=>
    refine zQ 10 ?_
    by_cases Qk:4≤s2.g
    ·have fJ:decide (((s2.g:Nat):Int)≥4)=true:=by rw[decide_eq_true_eq];omega
     refine qD rfl (by rw[fJ]) ?_;refine zQ 4 ?_;obtain⟨_,st,aF,rfl,s4,hN,hH⟩:=hwr _ s2 13 _ (by decide) h1 h2 (by omega) (by omega) h5 (by rw[←hG];unfold nM;rw[if_neg (by omega),if_pos ⟨rfl,by omega⟩]) hH;refine qv aF ?_;refine zQ 2 ?_;refine ag.ret ⟨rx,_,_,_,rfl,ak (rfl),?_⟩;exact⟨s4,hN,cm.ax b9 (hH.erase 2)⟩
    ·have fJ:decide (((s2.g:Nat):Int)≥4)=false:=by rw[decide_eq_false_iff_not];omega
     refine qE rfl (by rw[fJ]) ?_;refine zQ 10 ?_;refine qT hH aG fun st hH=>?_;dsimp only[u2,u1,u3,u4,setMany,u5,u6,D.cells,Nat.reduceAdd,aK,ba,az,av,aE] at hH;refine zQ 7 ?_;refine qT hH b8 fun st hH=>?_;dsimp only[u2,u1,u3,u4,setMany,u5,u6,D.cells,Nat.reduceAdd,aK,ba,az,av,aE] at hH;refine zQ 1 ?_;exact⟨((s2.g+1:Nat):Int),{s2 with g:=s2.g+1},_,rfl,hH,h1,h2,by show s2.g+1≤4;omega,rfl,(by rw[if_neg (by simp)];show s2.g+1=_;omega),(by rw[if_neg (by simp),h3]),(fun h=>by have:=h.2;omega)⟩
  ·rintro fr st ⟨cap,s3,tmp,hfr,hH,e1,e2,e3,e4,e5,e6,e7⟩;rw[hfr];clear hfr;generalize fV fr=ee;clear fr
   have hv:R=match A s3.i s3.g with
    | .er e w=>.er e w
    | .ok (l,g2) j2=>if dG gs j2 41=true then .ok (if free=true then l else iM 6 0 0 false ((s.g+1:Nat):Int) 1 []::l,g2) (j2+1) else .er 4 s.i:=by
    rw[←hG,e4,e5];unfold nM;rw[if_neg (by omega),if_neg e7]
   refine zQ 9 ?_;refine qT hH aG fun st hH=>?_;dsimp only[u2,u1,u3,u4,setMany,u5,u6,D.cells,Nat.reduceAdd,aK,ba,az,av,aE] at hH;refine zQ 1 ?_;have hH:Has N S2 st (.box k (.mem 0 false (aK gs bm {s3 with o:=s3.o+1}))::.aD bm 1 (aQ.map az)::.box k5 (.mem 0 false [.int .i64 6,.nul,.int .i64 0,.int .i64 0,.bool false,.int .i64 cap,.int .i64 1])::H):=hH;refine zQ 3 ?_;obtain⟨_,st,aF,s4,⟨a1,a2,a3,a4,l,rfl,a5,a6,a7⟩,hH⟩:=hA (m-1) (by omega) (s:={s3 with o:=s3.o+1}) eC e1 (by show s3.i≤_;omega) e3 (by show s3.o+1+(m-1)=20;omega) hH;refine qv aF ?_;refine zQ 2 ?_;have a7:ef (A s3.i s3.g) aQ s4∨s4.e=0∧A s3.i s3.g=.ok (l,s4.g) s4.i:=a7;have a1:s4.o=s3.o+1:=a1;have a3:s3.i≤s4.i:=a3;have a6:l.length≤4*(s4.i-s3.i)+1:=a6;have hla:=(ml a5).arg N S2;refine zQ 6 ?_;refine ae.kQ (z:=((s.o:Nat):Int)) rfl (ev rfl) (ev rfl) (by(try simp only[List.length_reverse,List.length_cons,List.length_nil,List.length_append,List.length_map,List.length_set]);rw[wrap_i64 (by omega) (by omega)]<;>omega) (aa rfl _) ?_;refine zQ 2 ?_;refine qT hH aG fun st hH=>?_;dsimp only[u2,u1,u3,u4,setMany,u5,u6,D.cells,Nat.reduceAdd,aK,ba,az,av,aE] at hH;refine zQ 1 ?_
   obtain⟨s5,ME⟩:∃s5:dR,({s4 with o:=s.o}:dR)=s5:=⟨_,rfl⟩
   have hH:Has N S2 st (.box k (.mem 0 false (aK gs bm s5))::.aD bm 1 (aQ.map az)::.box k5 (.mem 0 false [.int .i64 6,.nul,.int .i64 0,.int .i64 0,.bool false,.int .i64 cap,.int .i64 1])::H):=by rw[←ME];exact hH
   have MD:s5.o=s.o∧s5.g=s4.g∧s5.i=s4.i∧s5.e=s4.e∧s5.w=s4.w:=by rw[←ME];exact⟨rfl,rfl,rfl,rfl,rfl⟩
   clear ME;obtain⟨b1,b2,b3,b4,b5⟩:=MD;refine zQ 2 ?_;refine ag.pV (fun fr st=>∃(s6:dR) (tmp:List (Nat×D)),fr=⟨7,[.ptr k 0 0,fV fr 1,fV fr 2,fV fr 3,.bool free,.ptr k5 0 0,pT l],tmp⟩∧Has N S2 st (.box k (.mem 0 false (aK gs bm s6))::.aD bm 1 (aQ.map az)::.box k5 (.mem 0 false [.int .i64 6,.nul,.int .i64 0,.int .i64 0,.bool false,.int .i64 cap,.int .i64 1])::H)∧(s6.o=s.o)∧(s6.g≤4)∧(s4.i≤s6.i)∧(s6.i≤gs.length)∧(ef R aQ s6∨s6.e=0∧s4.i<s6.i∧R=.ok (if free=true then l else iM 6 0 0 false ((s.g+1:Nat):Int) 1 []::l,s6.g) s6.i)) ?_ ?_
   ·by_cases LD:s5.e=0
    ·have fY:(s5.e==0)=true:=by simpa using LD
     have a8:A s3.i s3.g=.ok (l,s4.g) s4.i:=by
      rcases a7 with a7|a7
      ·exact absurd (b4.symm.trans LD) a7.ne
      ·exact a7.2
     rw[a8] at hv;simp only at hv;rw[←b3] at hv;obtain⟨k1,k2,k3,k4,P3⟩:=gC (gs:=gs) (s:=s5) (r:=41);have P3:=P3 (by omega);have HM:dG gs s5.i 41=true→(bF gs s5 41).i=s5.i+1:=fun h=>by unfold bF;rw[if_pos h]
     refine zQ 8 ?_;obtain⟨_,st,aF,rfl,hH⟩:=dP (s:=s5) (by omega) 41 hH;refine qv aF ?_ (hg:=wi fY);refine zQ 3 ?_;generalize bF gs s5 41=s6 at*
     cases hb:dG gs s5.i 41 with
     |false=>
      refine zQ 5 ?_;obtain⟨_,st,aF,rfl,s7,hN,hH⟩:=hwr _ s6 4 _ (by decide) (by omega) (by omega) (by omega) (by omega) (by omega) (by rw[hv,if_neg (by rw[hb];simp)]) hH;refine qv aF ?_;refine zQ 2 ?_;refine ag.ret ⟨rx,_,_,_,rfl,ak (rfl),?_⟩;exact⟨s7,hN,cm.ax b9 (hH.erase 2)⟩
     |true=>
      have HM:=HM hb;refine zQ 2 ?_;exact⟨s6,_,rfl,hH,by omega,by omega,by omega,by omega,.inr ⟨by omega,by omega,by rw[hv,if_pos hb,HM,show s6.g=s4.g by omega]⟩⟩
    ·have fY:(s5.e==0)=false:=by simpa using LD
     have Tw:¬s5.e=0→ef R aQ s4:=fun h=>by
      rcases a7 with a7|a7
      ·exact a7.map fun e w hw=>by rw[hv,hw]
      ·exact absurd (b4.trans a7.1) h
     refine zQ 14 ?_;exact⟨s5,_,rfl,hH,b1,by omega,by omega,by omega,.inl ((Tw LD).to b4 b5)⟩
   ·rintro fr st ⟨s6,tmp,hfr,hH,c1,c2,c3,c4,c5⟩;rw[hfr];clear hfr;generalize fV fr=ee;clear fr;refine zQ 5 ?_
    cases free with
    |true=>
     refine zQ 6 ?_;refine ag.ret ⟨rx,_,_,_,rfl,ak (rfl),?_⟩;refine⟨s6,⟨c1,c2,by omega,c4,l,rfl,a5,by omega,?_⟩,cm.ax b9 (hH.erase 2)⟩
     rcases c5 with c5|⟨c5,c6,c7⟩
     ·exact .inl c5
     ·exact .inr ⟨c5,by rw[c7,if_pos rfl],by omega⟩
    |false=>
     refine zQ 4 ?_;refine ae.aO (m:=7) hH rfl (ev rfl) (by exact b8) (by dsimp only[List.drop_succ_cons,List.drop_zero,List.take_succ_cons,List.take_zero,aK,ba,az,av,aE]<;>rfl) rfl rfl (aa rfl _) ?_;refine qh (s:=7) (vs:=[_]) hH fun k89 st SB hH=>?_;dsimp only[u2,u1,u3,u4,setMany,u5,u6,D.cells,Nat.reduceAdd,aK,ba,az,av,aE] at hH;refine qm ?_;refine ae.cj (s:=7) hH rfl (ev rfl) (ev rfl) aG ((ml a5).rows st) rfl rfl rfl rfl rfl rfl rfl ⟨(Nat.le_of_ble_eq_true rfl),(Nat.le_of_ble_eq_true rfl)⟩ (fun _=>(aa rfl _)) (by simp only[List.length_map,List.length_cons,List.length_nil];omega) (.inr (sB a5)) (fun k hk=>by have jA:k89+1=k+1:=hk;omega) (fun QL st gA hH=>?_);dsimp only[u2] at hH;refine zQ 2 ?_;have hH:Has N S2 st (.aD QL 7 ([.int .i64 6,.nul,.int .i64 0,.int .i64 0,.bool false,.int .i64 cap,.int .i64 1]::l.map aE)::.box k (.mem 0 false (aK gs bm s6))::.aD bm 1 (aQ.map az)::.box k5 (.mem 0 false [.int .i64 6,.nul,.int .i64 0,.int .i64 0,.bool false,.int .i64 cap,.int .i64 1])::H):=hH
     have hfz:=iC (L:=s0.bs.length) (l:=iM 6 0 0 false cap 1 []::l) hH aG (by rw[List.map_cons,t_ a5];rfl) (fun e he d hd=>by
      rcases List.mem_cons.1 he with rfl|he
      ·simp only[List.mem_cons,List.not_mem_nil,or_false] at hd
       rcases hd with rfl|rfl|rfl|rfl|rfl|rfl|rfl<;>rfl
      ·exact pS a5 e he d hd) (fun k hk=>by rw[←b9];exact gA k hk) (n:=16) (by decide)
     refine ag.ret ⟨rx,_,_,_,rfl,ak hfz,⟨s6,⟨c1,c2,by omega,c4,_,rfl,?_,by simp only[List.length_cons];omega,?_⟩,cm.ax b9 ((hH.drop 1).erase 2)⟩⟩
     ·intro n hn
      rcases List.mem_cons.1 hn with rfl|hn
      ·exact⟨rfl,by simp[iM],by simp[iM]⟩
      ·exact a5 n hn
     ·rcases c5 with c5|⟨c5,c6,c7⟩
      ·exact .inl c5
      ·exact .inr ⟨c5,by rw[c7,if_neg (by simp),e6,if_neg (by simp)],by simp only[List.length_cons];omega⟩
def yF (fr:Go.V.Fr) (k:Nat):Go.V.D:=Go.V.nth .aY fr.loc k
noncomputable def Me (r:Int):List Rg:=bV [(r,r)]
noncomputable def G3 (A:PF) (gs:List (Nat×Nat)) (m i g:Nat) (r:Int):PR (List bn×Nat):=
 if r=40 then uM A gs m i g
 else if r=91 then y7 gs i g
 else if r=92 then
  match lq gs i with
  | .er e w=>.er e w
  | .ok (a,_) j=>.ok ([y8 a],g) j
 else if r=46 then .ok ([y8 BM],g) (i+1)
 else if r=94 then .ok ([iM 7 0 0 false 0 0 []],g) (i+1)
 else if r=36 then .ok ([iM 8 0 0 false 0 0 []],g) (i+1)
 else if r=42∨r=43∨r=63∨r=41∨r=93∨r=123∨r=125∨r=124 then .er 4 i
 else .ok ([y8 (Me r)],g) (i+1)
noncomputable def Az (A:PF) (gs:List (Nat×Nat)) (m i g:Nat):PR (List bn×Nat):=
 match gs[i]? with
 |none=>.er 4 i
 |some q=>if B1 gs i=true then .er 4 i else G3 A gs m i g ((q.1:Nat):Int)
def vN (gs:List (Nat×Nat)) (l:List bn) (g:Nat) (mn mx:Int) (j:Nat):PR (List bn×Nat):=
 .ok (iM 5 mn mx (dG gs j 63) 0 1 []::l,g) (if dG gs j 63=true then j+1 else j)
noncomputable def Jt (gs:List (Nat×Nat)) (l:List bn) (g j:Nat):PR (List bn×Nat):=
 if dG gs j 42=true then vN gs l g 0 (-1) (j+1)
 else if dG gs j 43=true then vN gs l g 1 (-1) (j+1)
 else if dG gs j 63=true then vN gs l g 0 1 (j+1)
 else if dG gs j 123=true then
  match pO gs j with
  | .er e w=>.er e w
  | .ok (mn,mx) j2=>vN gs l g mn mx j2
 else .ok (l,g) j
noncomputable def Fl (A:PF) (gs:List (Nat×Nat)) (m i g:Nat):PR (List bn×Nat):=
 match Az A gs m i g with
 | .er e w=>.er e w
 | .ok (l,g1) j=>Jt gs l g1 j
theorem EF {m:Nat} {gs:List (Nat×Nat)} {A:PF} (hA:∀m',m'+1=m→zi A gs m') {N k:Nat} {S s0:St} {H:List bh} {bm:D} {aQ:List Int} {s:dR} (eC:km gs aQ) (he:s.e=0) (hi:s.i<gs.length) (hg:s.g≤4) (ho:s.o+m=20) (hH:Has N S s0 (.box k (.mem 0 false (aK gs bm s))::.aD bm 1 (aQ.map az)::H)):
  ∃d ah,Ev pv 76 [.ptr k 0 0] s0 d ah∧∃(s':dR),iT gs aQ (Az A gs m s.i s.g) s s' d 2∧Has N S ah (.box k (.mem 0 false (aK gs bm s'))::.aD bm 1 (aQ.map az)::H):=by
 have rM:=eC.gl;have ka:=eC.pl;refine Ev.kT rfl Oy rfl rfl rfl ?_;refine zE ?_;have cm:=hH;have hH:=hH.cq;have b9:(ai .rw s0).bs=s0.bs:=rfl;generalize ai .rw s0=S2 at*;have xH:Arg N S2 2 (gv gs) (gs.map ba):=Arg.pure (fun st=>ej st gs)
 obtain⟨g,Qp⟩:∃g,gs[s.i]?=some g:=⟨gs[s.i]'hi,List.getElem?_eq_getElem _⟩
 have gJ:(gs.map ba)[s.i]?=some (ba g):=by rw[List.getElem?_map,Qp];rfl
 obtain⟨R,hR⟩:∃R,Az A gs m s.i s.g=R:=⟨_,rfl⟩
 rw[hR];unfold Az at hR;rw[Qp] at hR;simp only at hR
 have hwr:∀(st:St),R=.er 4 s.i→Has N S2 st (.box k (.mem 0 false (aK gs bm s))::.aD bm 1 (aQ.map az)::H)→∃d ah,Ev pv 27 [.ptr k 0 0,.int .i64 (s.i:Nat),.int .i64 4] st d ah∧d=.sl []∧∃s4,iT gs aQ R s s4 (.sl []) 2∧Has N S2 ah (.box k (.mem 0 false (aK gs bm s4))::.aD bm 1 (aQ.map az)::H):=by
  intro st hv hH;obtain⟨d,ah,aF,h6,hH⟩:=dW (s:=s) s.i 4 (by omega) hH;obtain⟨w1,w2,w3,w4⟩:=gb (aQ:=aQ) (s:=s) (i:=s.i) (e:=4) he (by decide) hv;exact⟨d,ah,aF,h6,_,eP w3 (by omega) (by omega) (by omega) w1,hH⟩
 have jy:∀(st:St) (s1:dR) (op:Int) (w:D) (a:List Rg) (kk:Nat),(w=aL a∨w=.nul∧a=[])→a.length≤1048576→s1.o=s.o→s1.g≤4→s.i<s1.i→s1.i≤gs.length→s1.e=0→R=.ok ([iM op 0 0 false 0 0 a],s1.g) s1.i→S2.bs.length≤kk→Has N S2 st (.aD (.win kk 0 0 1 7) 7 [[.int .i64 op,w,.int .i64 0,.int .i64 0,.bool false,.int .i64 0,.int .i64 0]]::.box k (.mem 0 false (aK gs bm s1))::.aD bm 1 (aQ.map az)::H)→
   ∃d ah,cK .rw false s0 st (.win kk 0 0 1 7)=some (d,ah)∧∃(s':dR),iT gs aQ R s s' d 2∧Has N S ah (.box k (.mem 0 false (aK gs bm s'))::.aD bm 1 (aQ.map az)::H):=by
  intro st s1 op w a kk hw ha h1 h2 h3 h4 he1 hv hk hH;have hfz:=iD hH aG (L:=s0.bs.length) hw (fun k hk=>by simp only[D.ref] at hk;rw[←b9];omega);refine⟨_,_,ak hfz,s1,⟨h1,h2,by omega,h4,_,rfl,Db ha (by omega),by simp,?_⟩,cm.ax b9 (hH.drop 1)⟩;exact .inr ⟨he1,hv,by simp only[List.length_cons,List.length_nil];omega⟩
 refine zQ 17 ?_;obtain⟨_,st,aF,rfl,hH⟩:=zb (s:=s) s.i hi hH;refine qv aF ?_;refine zQ 1 ?_;refine qc (fun hb=>?_) (fun hb=>?_)<;>try simp only[cs] at hb
 ·rw[if_pos hb] at hR;refine zQ 4 ?_;obtain⟨_,st,aF,rfl,s4,hN,hH⟩:=hwr _ hR.symm hH;refine qv aF ?_;refine zQ 2 ?_;refine ag.ret ⟨rx,_,_,_,rfl,ak (rfl),?_⟩;exact⟨s4,hN,cm.ax b9 hH⟩
 rw[if_neg (by rw[hb];simp)] at hR;unfold G3 at hR;refine zQ 8 ?_;refine qr fun PW J6=>?_;refine qf (fo:=0) fun Rh M8=>?_;refine zQ 13 ?_;refine zI (fun L4=>?_) fun L4=>?_
 ·rw[if_pos L4] at hR;refine zQ 3 ?_;obtain⟨_,st,aF,s4,⟨p1,p2,p3,p4,l,rfl,p5,p6,p7⟩,hH⟩:=BF hA eC he hi hg ho hH;refine qv aF ?_;refine zQ 2 ?_;rw[hR] at p7;refine ag.ret ⟨rx,_,_,_,rfl,ak (rfl),?_⟩;exact⟨s4,⟨p1,p2,p3,p4,l,rfl,p5,p6,p7⟩,cm.ax b9 hH⟩
 rw[if_neg L4] at hR;refine zQ 5 ?_;refine zI (fun Fq=>?_) fun Fq=>?_
 ·rw[if_pos Fq] at hR;refine zQ 3 ?_;obtain⟨_,st,aF,s4,⟨p1,p2,p3,p4,l,rfl,p5,p6,p7⟩,hH⟩:=BV eC he hi hg hH;refine qv aF ?_;refine zQ 2 ?_;rw[hR] at p7;refine ag.ret ⟨rx,_,_,_,rfl,ak (rfl),?_⟩;exact⟨s4,⟨p1,p2,p3,p4,l,rfl,p5,p6,p7⟩,cm.ax b9 hH⟩
 rw[if_neg Fq] at hR;refine zQ 5 ?_;refine zI (fun L1=>?_) fun L1=>?_
 ·rw[if_pos L1] at hR;refine zQ 3 ?_;obtain⟨_,st,aF,d1,b,s4,rfl,⟨p1,p2,p3,p4,p5⟩,hH⟩:=vw (s:=s) eC he hi hH;refine qv aF ?_;refine zQ 6 ?_
  have KI:∀(st:St) (w:D) (a:List Rg) (kk:Nat),(w=aL a∨w=.nul∧a=[])→a.length≤8→(ef R aQ s4∨s4.e=0∧s.i<s4.i∧R=.ok ([y8 a],s4.g) s4.i)→S2.bs.length≤kk→Has N S2 st (.aD (.win kk 0 0 1 7) 7 [[.int .i64 2,w,.int .i64 0,.int .i64 0,.bool false,.int .i64 0,.int .i64 0]]::.box k (.mem 0 false (aK gs bm s4))::.aD bm 1 (aQ.map az)::H)→∃d ah,cK .rw false s0 st (.win kk 0 0 1 7)=some (d,ah)∧∃(s':dR),iT gs aQ R s s' d 2∧Has N S ah (.box k (.mem 0 false (aK gs bm s'))::.aD bm 1 (aQ.map az)::H):=by
   intro st w a kk hw ha p6 hk hH;have hfz:=iD hH aG (L:=s0.bs.length) hw (fun k hk=>by simp only[D.ref] at hk;rw[←b9];omega);refine⟨_,_,ak hfz,s4,⟨p1,by omega,by omega,p4,_,rfl,Db (by omega) (by omega),by simp,?_⟩,cm.ax b9 (hH.drop 1)⟩
   rcases p6 with p6|⟨p6,p7,p8⟩
   ·exact .inl p6
   ·exact .inr ⟨p6,p8,by simp only[List.length_cons,List.length_nil];omega⟩
  rcases p5 with⟨p5,rfl⟩|⟨p5,p6,a,p7,rfl,ha,_⟩
  ·refine zQ 3 ?_;refine ae.gE (qs:=[(0,_),(1,_)]) rfl rfl rfl rfl ⟨rfl,(ev rfl),(by rfl),rfl,(ev rfl),(by rfl),trivial⟩ (by intro q hq;simp only[List.mem_cons,List.not_mem_nil,or_false] at hq;rcases hq with rfl|rfl<;>exact⟨rfl,by exact Nat.le_of_ble_eq_true rfl⟩) (by show List.foldl _ [_,_,_,_,_,_,_] _=_;dsimp only[List.foldl_cons,List.foldl_nil,u2,u1]<;>rfl) (aa rfl _) ?_;refine qh (s:=7) (vs:=[_]) hH fun k54 st Bw hH=>?_;dsimp only[u2,u1,u3,u4,setMany,u5,u6,D.cells,Nat.reduceAdd,aK,ba,az,av,aE] at hH;refine zQ 2 ?_;obtain⟨d',ah,sV,ia⟩:=KI _ .nul [] k54 (.inr ⟨rfl,rfl⟩) (by simp) (.inl (p5.map fun e w h=>by rw[←hR,h])) Bw hH;refine ag.ret ⟨rx,_,d',ah,rfl,sV,ia⟩
  ·refine zQ 3 ?_;refine ae.gE (qs:=[(0,_),(1,_)]) rfl rfl rfl rfl ⟨rfl,(ev rfl),(by rfl),rfl,(ev rfl),(by rfl),trivial⟩ (by intro q hq;simp only[List.mem_cons,List.not_mem_nil,or_false] at hq;rcases hq with rfl|rfl<;>exact⟨rfl,by exact Nat.le_of_ble_eq_true rfl⟩) (by show List.foldl _ [_,_,_,_,_,_,_] _=_;dsimp only[List.foldl_cons,List.foldl_nil,u2,u1]<;>rfl) (aa rfl _) ?_;refine qh (s:=7) (vs:=[_]) hH fun k54 st Bw hH=>?_;dsimp only[u2,u1,u3,u4,setMany,u5,u6,D.cells,Nat.reduceAdd,aK,ba,az,av,aE] at hH;refine zQ 2 ?_;obtain⟨d',ah,sV,ia⟩:=KI _ (aL a) a k54 (.inl rfl) ha (.inr ⟨p5,p6,by rw[←hR,p7,p2]⟩) Bw hH;refine ag.ret ⟨rx,_,d',ah,rfl,sV,ia⟩
 rw[if_neg L1] at hR;refine zQ 5 ?_;refine zI (fun L3=>?_) fun L3=>?_
 ·rw[if_pos L3] at hR;refine zQ 9 ?_;refine qT hH aG fun st hH=>?_;dsimp only[u2,u1,u3,u4,setMany,u5,u6,D.cells,Nat.reduceAdd,aK,ba,az,av,aE] at hH;refine zQ 1 ?_;obtain⟨NS,hla⟩:=Gj (s0:=st);refine zQ 2 ?_;refine qv (NS) ?_;refine ae.gE (qs:=[(0,_),(1,_)]) rfl rfl rfl rfl ⟨rfl,(ev rfl),(by rfl),rfl,(ev rfl),(by rfl),trivial⟩ (by intro q hq;simp only[List.mem_cons,List.not_mem_nil,or_false] at hq;rcases hq with rfl|rfl<;>exact⟨rfl,by exact Nat.le_of_ble_eq_true rfl⟩) (by show List.foldl _ [_,_,_,_,_,_,_] _=_;dsimp only[List.foldl_cons,List.foldl_nil,u2,u1]<;>rfl) (aa rfl _) ?_;refine qh (s:=7) (vs:=[_]) hH fun k66 st Nu hH=>?_;refine zQ 2 ?_;obtain⟨d',ah,sV,ia⟩:=jy _ {s with i:=s.i+1} 2 (aL BM) BM k66 (.inl rfl) (by omega) rfl hg (by show s.i<s.i+1;omega) (by show s.i+1≤_;omega) he hR.symm Nu hH;refine ag.ret ⟨rx,_,d',ah,rfl,sV,ia⟩
 rw[if_neg L3] at hR;refine zQ 5 ?_;refine zI (fun L0=>?_) fun L0=>?_
 ·rw[if_pos L0] at hR;refine zQ 9 ?_;refine qT hH aG fun st hH=>?_;dsimp only[u2,u1,u3,u4,setMany,u5,u6,D.cells,Nat.reduceAdd,aK,ba,az,av,aE] at hH;refine zQ 3 ?_;refine ae.go (d:=.agg [.int .i64 7,.nul,.int .i64 0,.int .i64 0,.bool false,.int .i64 0,.int .i64 0]) (st1:=_) rfl rfl rfl (aa rfl _) ?_;refine qh (s:=7) (vs:=[_]) hH fun k77 st Ns hH=>?_;refine zQ 2 ?_;obtain⟨d',ah,sV,ia⟩:=jy _ {s with i:=s.i+1} 7 .nul [] k77 (.inr ⟨rfl,rfl⟩) (by simp) rfl hg (by show s.i<s.i+1;omega) (by show s.i+1≤_;omega) he hR.symm Ns hH;refine ag.ret ⟨rx,_,d',ah,rfl,sV,ia⟩
 rw[if_neg L0] at hR;refine zQ 5 ?_;refine zI (fun L5=>?_) fun L5=>?_
 ·rw[if_pos L5] at hR;refine zQ 9 ?_;refine qT hH aG fun st hH=>?_;dsimp only[u2,u1,u3,u4,setMany,u5,u6,D.cells,Nat.reduceAdd,aK,ba,az,av,aE] at hH;refine zQ 3 ?_;refine ae.go (d:=.agg [.int .i64 8,.nul,.int .i64 0,.int .i64 0,.bool false,.int .i64 0,.int .i64 0]) (st1:=_) rfl rfl rfl (aa rfl _) ?_;refine qh (s:=7) (vs:=[_]) hH fun k88 st Ky hH=>?_;refine zQ 2 ?_;obtain⟨d',ah,sV,ia⟩:=jy _ {s with i:=s.i+1} 8 .nul [] k88 (.inr ⟨rfl,rfl⟩) (by simp) rfl hg (by show s.i<s.i+1;omega) (by show s.i+1≤_;omega) he hR.symm Ky hH;refine ag.ret ⟨rx,_,d',ah,rfl,sV,ia⟩
 rw[if_neg L5] at hR;have w6:((((g.1:Nat):Int))=42∨(((g.1:Nat):Int))=43∨(((g.1:Nat):Int))=63∨(((g.1:Nat):Int))=41∨(((g.1:Nat):Int))=93∨(((g.1:Nat):Int))=123∨(((g.1:Nat):Int))=125∨(((g.1:Nat):Int))=124)→R=.er 4 s.i:=fun h=>by rw[←hR,if_pos h]
 refine zQ 6 ?_
 by_cases Py:((g.1:Nat):Int)=42
 ·refine qD rfl (by simp[Py]) ?_;refine zQ 1 ?_;refine qD rfl (by simp[Py]) ?_;refine zQ 4 ?_;obtain⟨_,st,aF,rfl,s4,hN,hH⟩:=hwr _ (w6 (by omega)) hH;refine qv aF ?_;refine zQ 2 ?_;refine ag.ret ⟨rx,_,_,_,rfl,ak (rfl),?_⟩;exact⟨s4,hN,cm.ax b9 hH⟩
 refine qE rfl (by simp[Py]) ?_;refine zQ 5 ?_
 by_cases Px:((g.1:Nat):Int)=43
 ·refine qD rfl (by simp[Px]) ?_;refine zQ 1 ?_;refine qD rfl (by simp[Px]) ?_;refine zQ 4 ?_;obtain⟨_,st,aF,rfl,s4,hN,hH⟩:=hwr _ (w6 (by omega)) hH;refine qv aF ?_;refine zQ 2 ?_;refine ag.ret ⟨rx,_,_,_,rfl,ak (rfl),?_⟩;exact⟨s4,hN,cm.ax b9 hH⟩
 refine qE rfl (by simp[Px]) ?_;refine zQ 5 ?_
 by_cases Pw:((g.1:Nat):Int)=63
 ·refine qD rfl (by simp[Pw]) ?_;refine zQ 1 ?_;refine qD rfl (by simp[Pw]) ?_;refine zQ 4 ?_;obtain⟨_,st,aF,rfl,s4,hN,hH⟩:=hwr _ (w6 (by omega)) hH;refine qv aF ?_;refine zQ 2 ?_;refine ag.ret ⟨rx,_,_,_,rfl,ak (rfl),?_⟩;exact⟨s4,hN,cm.ax b9 hH⟩
 refine qE rfl (by simp[Pw]) ?_;refine zQ 5 ?_
 by_cases Pz:((g.1:Nat):Int)=41
 ·refine qD rfl (by simp[Pz]) ?_;refine zQ 1 ?_;refine qD rfl (by simp[Pz]) ?_;refine zQ 4 ?_;obtain⟨_,st,aF,rfl,s4,hN,hH⟩:=hwr _ (w6 (by omega)) hH;refine qv aF ?_;refine zQ 2 ?_;refine ag.ret ⟨rx,_,_,_,rfl,ak (rfl),?_⟩;exact⟨s4,hN,cm.ax b9 hH⟩
 refine qE rfl (by simp[Pz]) ?_;refine zQ 5 ?_
 by_cases Pu:((g.1:Nat):Int)=93
 ·refine qD rfl (by simp[Pu]) ?_;refine zQ 1 ?_;refine qD rfl (by simp[Pu]) ?_;refine zQ 4 ?_;obtain⟨_,st,aF,rfl,s4,hN,hH⟩:=hwr _ (w6 (by omega)) hH;refine qv aF ?_;refine zQ 2 ?_;refine ag.ret ⟨rx,_,_,_,rfl,ak (rfl),?_⟩;exact⟨s4,hN,cm.ax b9 hH⟩
 refine qE rfl (by simp[Pu]) ?_;refine zQ 5 ?_
 by_cases IJ:((g.1:Nat):Int)=123
 ·refine qD rfl (by simp[IJ]) ?_;refine zQ 1 ?_;refine qD rfl (by simp[IJ]) ?_;refine zQ 4 ?_;obtain⟨_,st,aF,rfl,s4,hN,hH⟩:=hwr _ (w6 (by omega)) hH;refine qv aF ?_;refine zQ 2 ?_;refine ag.ret ⟨rx,_,_,_,rfl,ak (rfl),?_⟩;exact⟨s4,hN,cm.ax b9 hH⟩
 refine qE rfl (by simp[IJ]) ?_;refine zQ 5 ?_
 by_cases II:((g.1:Nat):Int)=125
 ·refine qD rfl (by simp[II]) ?_;refine zQ 1 ?_;refine qD rfl (by simp[II]) ?_;refine zQ 4 ?_;obtain⟨_,st,aF,rfl,s4,hN,hH⟩:=hwr _ (w6 (by omega)) hH;refine qv aF ?_;refine zQ 2 ?_;refine ag.ret ⟨rx,_,_,_,rfl,ak (rfl),?_⟩;exact⟨s4,hN,cm.ax b9 hH⟩
 refine qE rfl (by simp[II]) ?_;refine zQ 4 ?_
 by_cases Lh:((g.1:Nat):Int)=124
 ·refine qD rfl (by simp[Lh]) ?_;refine zQ 4 ?_;obtain⟨_,st,aF,rfl,s4,hN,hH⟩:=hwr _ (w6 (by omega)) hH;refine qv aF ?_;refine zQ 2 ?_;refine ag.ret ⟨rx,_,_,_,rfl,ak (rfl),?_⟩;exact⟨s4,hN,cm.ax b9 hH⟩
 refine qE rfl (by simp[Lh]) ?_;rw[if_neg (by omega)] at hR;refine zQ 9 ?_;refine qT hH aG fun st hH=>?_;dsimp only[u2,u1,u3,u4,setMany,u5,u6,D.cells,Nat.reduceAdd,aK,ba,az,av,aE] at hH;refine zQ 1 ?_;obtain⟨_,na,_⟩:=mo (s0:=s0) (x:=aL [(((g.1:Nat):Int),((g.1:Nat):Int))]) (l:=[(((g.1:Nat):Int),((g.1:Nat):Int))]) (b_ _ _) (by simp);simp only[List.length_cons,List.length_nil] at na;refine zQ 3 ?_;refine qv (iX _) ?_;refine ae.gE (qs:=[(0,_),(1,_)]) rfl rfl rfl rfl ⟨rfl,(ev rfl),(by rfl),rfl,(ev rfl),(by rfl),trivial⟩ (by intro q hq;simp only[List.mem_cons,List.not_mem_nil,or_false] at hq;rcases hq with rfl|rfl<;>exact⟨rfl,by exact Nat.le_of_ble_eq_true rfl⟩) (by show List.foldl _ [_,_,_,_,_,_,_] _=_;dsimp only[List.foldl_cons,List.foldl_nil,u2,u1]<;>rfl) (aa rfl _) ?_;refine qh (s:=7) (vs:=[_]) hH fun k36 st KA hH=>?_;refine zQ 2 ?_;obtain⟨d',ah,sV,ia⟩:=jy _ {s with i:=s.i+1} 2 _ (bV [(((g.1:Nat):Int),((g.1:Nat):Int))]) k36 (.inl rfl) (by omega) rfl hg (by show s.i<s.i+1;omega) (by show s.i+1≤_;omega) he hR.symm KA hH;refine ag.ret ⟨rx,_,d',ah,rfl,sV,ia⟩
theorem zC {m:Nat} {gs:List (Nat×Nat)} {A:PF} (hA:∀m',m'+1=m→zi A gs m') {N k:Nat} {S s0:St} {H:List bh} {bm:D} {aQ:List Int} {s:dR} (eC:km gs aQ) (he:s.e=0) (hi:s.i<gs.length) (hg:s.g≤4) (ho:s.o+m=20) (hH:Has N S s0 (.box k (.mem 0 false (aK gs bm s))::.aD bm 1 (aQ.map az)::H)):
  ∃d ah,Ev pv 59 [.ptr k 0 0] s0 d ah∧∃(s':dR),iT gs aQ (Fl A gs m s.i s.g) s s' d 1∧Has N S ah (.box k (.mem 0 false (aK gs bm s'))::.aD bm 1 (aQ.map az)::H):=by
 have rM:=eC.gl;have ka:=eC.pl;refine Ev.kT rfl OK rfl rfl rfl ?_;refine zE ?_;have cm:=hH;have hH:=hH.cq;have b9:(ai .rw s0).bs=s0.bs:=rfl;generalize ai .rw s0=S2 at*
 obtain⟨R,hR⟩:∃R,Fl A gs m s.i s.g=R:=⟨_,rfl⟩
 rw[hR];unfold Fl at hR;refine zQ 7 ?_;obtain⟨_,st,aF,s1,⟨p1,p2,p3,p4,l,rfl,p5,p6,p7⟩,hH⟩:=EF hA eC he hi hg ho hH;refine qv aF ?_;refine zQ 11 ?_
 rcases p7 with p7|⟨p7,p9,p8⟩
 ·have hne:=p7.ne;refine qD rfl (by simp[hne]) ?_;refine zQ 4 ?_;refine ag.ret ⟨rx,_,_,_,rfl,ak (rfl),?_⟩;exact⟨s1,eP p1 p2 p3 p4 (p7.map fun e w h=>by rw[←hR,h]),cm.ax b9 hH⟩
 rw[p9] at hR;simp only at hR;unfold Jt at hR;refine qE rfl (by simp[p7]) ?_;refine zQ 3 ?_;refine ae.go (d:=.agg [.int .i64 5,.nul,.int .i64 0,.int .i64 0,.bool false,.int .i64 0,.int .i64 1]) (st1:=_) rfl rfl rfl (aa rfl _) ?_;refine qa hH fun k4 st I_ hH=>?_;dsimp only[u2,u1,u3,u4,setMany,u5,u6,D.cells,Nat.reduceAdd,aK,ba,az,av,aE] at hH;refine qS hH aG fun st hH=>?_;dsimp only[u2,u1,u3,u4,setMany,u5,u6,D.cells,Nat.reduceAdd,aK,ba,az,av,aE] at hH;refine zQ 1 ?_;have hH:Has N S2 st (.box k (.mem 0 false (aK gs bm s1))::.aD bm 1 (aQ.map az)::.box k4 (.mem 0 false [.int .i64 5,.nul,.int .i64 0,.int .i64 0,.bool false,.int .i64 0,.int .i64 1])::H):=mW hH;refine qq<|ag.merge (fun fr st=>∃(mn mx:Int) (s2:dR) (tmp:List (Nat×D)),fr=⟨5,[.ptr k 0 0,yF fr 1,yF fr 2,pT l,.ptr k4 0 0],tmp⟩∧Has N S2 st (.box k (.mem 0 false (aK gs bm s2))::.aD bm 1 (aQ.map az)::.box k4 (.mem 0 false [.int .i64 5,.nul,.int .i64 mn,.int .i64 mx,.bool false,.int .i64 0,.int .i64 1])::H)∧(s2.o=s.o)∧(s2.g≤4)∧(s1.i<s2.i)∧(s2.i≤gs.length)∧(ef R aQ s2∨s2.e=0∧R=vN gs l s2.g mn mx s2.i)) ?_ ?_
 ·refine zQ 4 ?_;obtain⟨_,st,aF,rfl,hH⟩:=dP (s:=s1) (by omega) 42 hH;refine qv aF ?_;refine zQ 2 ?_
  cases hb1:dG gs s1.i 42 with
  |true=>
   obtain⟨k1,k2,k3,Mj,k5⟩:=gC (gs:=gs) (s:=s1) (r:=42);have k6:=mb hb1;have k7:=k5 p4;generalize bF gs s1 42=s2 at*;refine zQ 3 ?_;refine qT hH b8 fun st hH=>?_;dsimp only[u2,u1,u3,u4,setMany,u5,u6,D.cells,Nat.reduceAdd,aK,ba,az,av,aE] at hH;refine zQ 1 ?_;exact⟨0,-1,s2,_,rfl,hH,by omega,by omega,by omega,k7,.inr ⟨by omega,by rw[←hR,if_pos hb1,k6,show s2.g=s1.g by omega]⟩⟩
  |false=>
   rw[oZ hb1] at hH;rw[if_neg (by rw[hb1];simp)] at hR;refine zQ 4 ?_;obtain⟨_,st,aF,rfl,hH⟩:=dP (s:=s1) (by omega) 43 hH;refine qv aF ?_;refine zQ 2 ?_
   cases hb2:dG gs s1.i 43 with
   |true=>
    obtain⟨k1,k2,k3,Mj,k5⟩:=gC (gs:=gs) (s:=s1) (r:=43);have k6:=mb hb2;have k7:=k5 p4;generalize bF gs s1 43=s2 at*;refine zQ 3 ?_;refine qT hH b8 fun st hH=>?_;dsimp only[u2,u1,u3,u4,setMany,u5,u6,D.cells,Nat.reduceAdd,aK,ba,az,av,aE] at hH;refine zQ 1 ?_;refine qT hH b8 fun st hH=>?_;dsimp only[u2,u1,u3,u4,setMany,u5,u6,D.cells,Nat.reduceAdd,aK,ba,az,av,aE] at hH;refine zQ 1 ?_;exact⟨1,-1,s2,_,rfl,hH,by omega,by omega,by omega,k7,.inr ⟨by omega,by rw[←hR,if_pos hb2,k6,show s2.g=s1.g by omega]⟩⟩
   |false=>
    rw[oZ hb2] at hH;rw[if_neg (by rw[hb2];simp)] at hR;refine zQ 4 ?_;obtain⟨_,st,aF,rfl,hH⟩:=dP (s:=s1) (by omega) 63 hH;refine qv aF ?_;refine zQ 2 ?_
    cases hb3:dG gs s1.i 63 with
    |true=>
     obtain⟨k1,k2,k3,Mj,k5⟩:=gC (gs:=gs) (s:=s1) (r:=63);have k6:=mb hb3;have k7:=k5 p4;generalize bF gs s1 63=s2 at*;refine zQ 3 ?_;refine qT hH b8 fun st hH=>?_;dsimp only[u2,u1,u3,u4,setMany,u5,u6,D.cells,Nat.reduceAdd,aK,ba,az,av,aE] at hH;refine zQ 1 ?_;exact⟨0,1,s2,_,rfl,hH,by omega,by omega,by omega,k7,.inr ⟨by omega,by rw[←hR,if_pos hb3,k6,show s2.g=s1.g by omega]⟩⟩
    |false=>
     rw[oZ hb3] at hH;rw[if_neg (by rw[hb3];simp)] at hR;refine zQ 4 ?_;obtain⟨_,st,aF,rfl,hH⟩:=ox (s:=s1) (by omega) 123 hH;refine qv aF ?_;refine zQ 2 ?_
     cases hb4:dG gs s1.i 123 with
     |true=>
      have hlt:=qz hb4;refine zQ 3 ?_;obtain⟨_,st,aF,n1,n2,s2,rfl,⟨⟨m1,m2,m3,m4⟩,m5⟩,hH⟩:=A8 eC p7 hlt hH;refine qv aF ?_;refine zQ 4 ?_;refine qT hH b8 fun st hH=>?_;dsimp only[u2,u1,u3,u4,setMany,u5,u6,D.cells,Nat.reduceAdd,aK,ba,az,av,aE] at hH;refine zQ 1 ?_;refine qT hH b8 fun st hH=>?_;dsimp only[u2,u1,u3,u4,setMany,u5,u6,D.cells,Nat.reduceAdd,aK,ba,az,av,aE] at hH;refine zQ 1 ?_;rw[if_pos hb4] at hR
      have h5:ef R aQ s2∨s2.e=0∧R=vN gs l s2.g n1 n2 s2.i:=by
       rcases m5 with m5|⟨m5,m6⟩
       ·exact .inl (m5.map fun e w h=>by rw[←hR,h])
       ·exact .inr ⟨m5,by rw[←hR,m6,m2]⟩
      exact⟨n1,n2,s2,_,rfl,hH,by omega,by omega,m3,m4,h5⟩
     |false=>
      rw[if_neg (by rw[hb4];simp)] at hR;refine zQ 6 ?_;refine ag.ret ⟨rx,_,_,_,rfl,ak (rfl),?_⟩;exact⟨s1,⟨p1,p2,p3,p4,l,rfl,p5,p6,.inr ⟨p7,hR.symm,by omega⟩⟩,cm.ax b9 (hH.erase 2)⟩
 ·rintro fr st ⟨mn,mx,s2,tmp,hfr,hH,h1,h2,h3,h4,h5⟩;rw[hfr];clear hfr;generalize yF fr=ee;clear fr;refine zQ 9 ?_
  by_cases xI:s2.e=0
  ·refine qE rfl (by simp[xI]) ?_;refine zQ 1 ?_;obtain⟨k1,k2,k3,Mj,k5⟩:=gC (gs:=gs) (s:=s2) (r:=63);have k7:=k5 h4
   have h6:R=vN gs l s2.g mn mx s2.i:=by
    rcases h5 with h5|h5
    ·exact absurd xI h5.ne
    ·exact h5.2
   have P_:(bF gs s2 63).i=if dG gs s2.i 63=true then s2.i+1 else s2.i:=by unfold bF;split<;>rfl
   unfold vN at h6;rw[←P_] at h6;clear P_;refine zQ 3 ?_;obtain⟨_,st,aF,rfl,hH⟩:=dP (s:=s2) (by omega) 63 hH;refine qv aF ?_;refine zQ 1 ?_;refine qT hH b8 fun st hH=>?_;dsimp only[u2,u1,u3,u4,setMany,u5,u6,D.cells,Nat.reduceAdd,aK,ba,az,av,aE] at hH;refine zQ 1 ?_;generalize bF gs s2 63=s3 at*;generalize dG gs s2.i 63=lz at*;have hla:=(ml p5).arg N S2;refine zQ 2 ?_;refine ae.aO (m:=7) hH rfl (ev rfl) (by exact b8) (by dsimp only[List.drop_succ_cons,List.drop_zero,List.take_succ_cons,List.take_zero,aK,ba,az,av,aE]<;>rfl) rfl rfl (aa rfl _) ?_;refine qh (s:=7) (vs:=[_]) hH fun k46 st Nw hH=>?_;refine qm ?_;refine ae.cj (s:=7) hH rfl (ev rfl) (ev rfl) aG ((ml p5).rows st) rfl rfl rfl rfl rfl rfl rfl ⟨(Nat.le_of_ble_eq_true rfl),(Nat.le_of_ble_eq_true rfl)⟩ (fun _=>(aa rfl _)) (by simp only[List.length_map,List.length_cons,List.length_nil];omega) (.inr (sB p5)) (fun k hk=>by have jA:k46+1=k+1:=hk;omega) (fun LQ st gA hH=>?_);dsimp only[u2] at hH;refine zQ 2 ?_;have hH:Has N S2 st (.aD LQ 7 ([.int .i64 5,.nul,.int .i64 mn,.int .i64 mx,.bool lz,.int .i64 0,.int .i64 1]::l.map aE)::.box k (.mem 0 false (aK gs bm s3))::.aD bm 1 (aQ.map az)::.box k4 (.mem 0 false [.int .i64 5,.nul,.int .i64 mn,.int .i64 mx,.bool lz,.int .i64 0,.int .i64 1])::H):=hH
   have hfz:=iC (L:=s0.bs.length) (l:=iM 5 mn mx lz 0 1 []::l) hH aG (by rw[List.map_cons,t_ p5];rfl) (fun e he d hd=>by
    rcases List.mem_cons.1 he with rfl|he
    ·simp only[List.mem_cons,List.not_mem_nil,or_false] at hd
     rcases hd with rfl|rfl|rfl|rfl|rfl|rfl|rfl<;>rfl
    ·exact pS p5 e he d hd) (fun k hk=>by rw[←b9];exact gA k hk) (n:=16) (by decide)
   refine ag.ret ⟨rx,_,_,_,rfl,ak hfz,⟨s3,⟨by omega,by omega,by omega,k7,_,rfl,?_,by simp only[List.length_cons];omega,.inr ⟨by omega,by rw[h6,show s3.g=s2.g by omega],by simp only[List.length_cons];omega⟩⟩,cm.ax b9 ((hH.drop 1).erase 2)⟩⟩;intro n hn
   rcases List.mem_cons.1 hn with rfl|hn
   ·exact⟨rfl,by simp[iM],by simp[iM]⟩
   ·exact p5 n hn
  ·refine qD rfl (by simp[xI]) ?_;refine zQ 4 ?_;refine ag.ret ⟨rx,_,_,_,rfl,ak (rfl),?_⟩;exact⟨s2,eP h1 h2 (by omega) h4 (h5.resolve_right fun h=>xI h.1),cm.ax b9 (hH.erase 2)⟩
def nD (fr:Go.V.Fr) (k:Nat):Go.V.D:=Go.V.nth .aY fr.loc k
noncomputable def BX (A:PF) (gs:List (Nat×Nat)) (m:Nat):Nat→Nat→Nat→List (List bn)→PR (List bn×Nat)
 |0,i,g,ps=>.ok (fw 3 ps,g) i
 |n+1,i,g,ps=>
  if i<gs.length∧dG gs i 124=false∧(dG gs i 41=false∨m=20) then
   match Fl A gs m i g with
   | .er e w=>.er e w
   | .ok (l,g2) j=>BX A gs m n j g2 (ps++[l])
  else .ok (fw 3 ps,g) i
noncomputable def Es (A:PF) (gs:List (Nat×Nat)) (m i g:Nat):PR (List bn×Nat):=BX A gs m (gs.length+1) i g []
noncomputable def B3 (A:PF) (gs:List (Nat×Nat)) (m:Nat):Nat→Nat→Nat→List (List bn)→PR (List bn×Nat)
 |0,i,g,ps=>.ok (fw 4 ps,g) i
 |n+1,i,g,ps=>
  if dG gs i 124=true then
   match Es A gs m (i+1) g with
   | .er e w=>.er e w
   | .ok (l,g2) j=>B3 A gs m n j g2 (ps++[l])
  else .ok (fw 4 ps,g) i
noncomputable def EI (A:PF) (gs:List (Nat×Nat)) (m:Nat):PF:=fun i g=>
 match Es A gs m i g with
 | .er e w=>.er e w
 | .ok (l,g1) j=>B3 A gs m (gs.length+1) j g1 [l]
noncomputable def B4 (gs:List (Nat×Nat)):Nat→PF
 |0=>EI (fun i _=>.er 10 i) gs 0
 |m+1=>EI (B4 gs m) gs (m+1)
theorem As {m:Nat} {gs:List (Nat×Nat)} {A:PF} (hA:∀m',m'+1=m→zi A gs m') {N k:Nat} {S s0:St} {H:List bh} {bm:D} {aQ:List Int} {s:dR} (eC:km gs aQ) (he:s.e=0) (hi:s.i≤gs.length) (hg:s.g≤4) (ho:s.o+m=20) (hH:Has N S s0 (.box k (.mem 0 false (aK gs bm s))::.aD bm 1 (aQ.map az)::H)):
  ∃d ah,Ev pv 44 [.ptr k 0 0] s0 d ah∧∃(s':dR),pk gs aQ (Es A gs m s.i s.g) s s' d∧Has N S ah (.box k (.mem 0 false (aK gs bm s'))::.aD bm 1 (aQ.map az)::H):=by
 have rM:=eC.gl;have ka:=eC.pl;refine Ev.kT rfl OU rfl rfl rfl ?_;refine zE ?_;have cm:=hH;have hH:=hH.cq;have b9:(ai .rw s0).bs=s0.bs:=rfl;generalize ai .rw s0=S2 at*
 obtain⟨R,hR⟩:∃R,Es A gs m s.i s.g=R:=⟨_,rfl⟩
 rw[hR];unfold Es at hR;have xH:Arg N S2 2 (gv gs) (gs.map ba):=Arg.pure (fun st=>ej st gs);refine zQ 8 ?_;have hH:Has N S2 S2 (.box k (.mem 0 false (aK gs bm s))::.aD bm 1 (aQ.map az)::.aD .nul 1 (([]:List (List bn)).map dI)::H):=mW (hH.dU 1);refine zQ 2 ?_;refine ag.loop (fun mm fr st=>∃(s1:dR) (pd:D) (parts:List (List bn)),fr.clean=⟨4,[.ptr k 0 0,nD fr 1,nD fr 2,pd],[]⟩∧Has N S2 st (.box k (.mem 0 false (aK gs bm s1))::.aD bm 1 (aQ.map az)::.aD pd 1 (parts.map dI)::H)∧(s1.o=s.o)∧(s1.g≤4)∧(s.i≤s1.i)∧(s1.i≤gs.length)∧(∀l∈parts,∀n∈l,lX n)∧(eM parts+parts.length≤4*(s1.i-s.i)+2)∧(s1.e=0→eM parts+parts.length≤4*(s1.i-s.i))∧(ef R aQ s1∨s1.e=0∧∃n,gs.length-s1.i<n∧BX A gs m n s1.i s1.g parts=R)∧(gs.length-s1.i+(if s1.e=0 then 1 else 0)≤mm)) (gs.length+1) ?_ ?_
 ·exact⟨s,.nul,[],rfl,hH,rfl,hg,Nat.le_refl _,hi,fun l hl=>(by cases hl),by simp[eM],fun _=>by simp[eM],.inr ⟨he,gs.length+1,by omega,hR⟩,by split<;>omega⟩
 rintro mm fr st ⟨s1,pd,parts,hfr,hH,h1,h2,h3,h4,h5,h6,h7,h8,yM⟩;rw[hfr];clear hfr;generalize nD fr=ee;clear fr
 have qK:∀st:St,(ef R aQ s1∨s1.e=0∧R=.ok (fw 3 parts,s1.g) s1.i)→Has N S2 st (.box k (.mem 0 false (aK gs bm s1))::.aD bm 1 (aQ.map az)::.aD pd 1 (parts.map dI)::H)→∃d,Ev pv 46 [.int .i64 3,pd] st d st∧pk gs aQ R s s1 d∧∃l,d=pT l:=by
  intro st hv hH;obtain⟨aF,j1,j2,j3⟩:=qk 3 (hH.rows b8) h5 (by omega) (by omega);refine⟨_,aF,⟨h1,h2,h3,h4,fw 3 parts,rfl,j1,?_,hv⟩,_,rfl⟩
  by_cases q1:parts.length=1
  ·have:=j2 q1;omega
  ·by_cases q0:parts.length=0
   ·have:parts=[]:=List.length_eq_zero_iff.1 q0;rw[this];show 1≤_;omega
   ·omega
 by_cases he1:s1.e=0
 ·obtain⟨n,u7,gr⟩:=(h8.resolve_left fun h=>absurd he1 h.ne).2
  obtain⟨n,rfl⟩:∃m,n=m+1:=⟨n-1,by omega⟩
  unfold BX at gr;rw[if_pos he1] at yM;have h7:=h7 he1;have fY:(s1.e==0)=true:=by simpa using he1
  by_cases hlt:s1.i<gs.length
  ·have aR:decide (((s1.i:Nat):Int)<((gs.length:Nat):Int))=true:=by rw[decide_eq_true_eq];omega
   cases bT:(!dG gs s1.i 124) with
   |false=>
    refine zQ 17 ?_;refine qn ?_ (hg:=wi fY);simp only[List.length_map];refine zQ 4 ?_;obtain⟨_,st,aF,rfl,hH⟩:=ox (s:=s1) (by omega) 124 hH;refine qv aF ?_ (hg:=wi aR);refine zQ 17 ?_;obtain⟨_,DR,hQ,l,rfl⟩:=qK _ (.inr ⟨he1,by rw[←gr,if_neg (fun h=>by rw[h.2.1] at bT;simp at bT)]⟩) hH;refine zQ 3 ?_;refine qv (DR) ?_;refine zQ 2 ?_;refine ag.ret ⟨rx,_,_,_,rfl,ak (rfl),?_⟩;exact⟨s1,hQ,cm.ax b9 (hH.erase 2)⟩
   |true=>
    cases cY:dG gs s1.i 41 with
    |false=>
     refine zQ 17 ?_;refine qn ?_ (hg:=wi fY);simp only[List.length_map];refine zQ 4 ?_;obtain⟨_,st,aF,rfl,hH⟩:=ox (s:=s1) (by omega) 124 hH;refine qv aF ?_ (hg:=wi aR);refine zQ 4 ?_;obtain⟨_,st,aF,rfl,hH⟩:=ox (s:=s1) (by omega) 41 hH;refine qv aF ?_ (hg:=wi bT);refine zQ 6 ?_;refine ae.cp (aj rfl rfl rfl bT) rfl cY (aa rfl _) ?_;refine zQ 6 ?_;rw[if_pos ⟨hlt,by simpa using bT,.inl cY⟩] at gr;refine zQ 3 ?_;obtain⟨_,st,aF,s2,⟨r1,r2,r3,r4,l,rfl,r5,r6,r7⟩,hH⟩:=zC hA eC (s:=s1) he1 hlt h2 (by omega) hH;refine qv aF ?_;refine qh (s:=1) (vs:=[_]) hH fun k41 st Kz hH=>?_;dsimp only[u2,u1,u3,u4,setMany,u5,u6,D.cells,Nat.reduceAdd,aK,ba,az,av,dI] at hH;refine ae.dh (s:=1) hH rfl (ev rfl) (ev rfl) (by exact dw) (by exact hH.rows (by exact aG)) rfl rfl rfl rfl rfl rfl rfl ⟨(Nat.le_of_ble_eq_true rfl),(Nat.le_of_ble_eq_true rfl)⟩ (fun _=>(aa rfl _)) (by simp only[List.length_cons,List.length_nil,List.length_map]<;>omega) (by exact .inr rfl) (fun Jf st hH=>?_);dsimp only[u2,u1,u3,u4,setMany,u5,u6,D.cells,Nat.reduceAdd,aK,ba,az,av,dI] at hH;refine zQ 2 ?_;have hH:=hH.drop 1
     have r8:s2.e=0→l.length+1≤4*(s2.i-s1.i):=fun e=>by
      rcases r7 with r7|r7
      ·exact absurd e r7.ne
      ·exact r7.2.2
     have r9:ef R aQ s2∨s2.e=0∧∃n,gs.length-s2.i<n∧BX A gs m n s2.i s2.g (parts++[l])=R:=by
      rcases r7 with r7|⟨r7,Ju,Q0⟩
      ·exact .inl (r7.map fun e w h=>by rw[←gr,h])
      ·rw[Ju] at gr;exact .inr ⟨r7,n,by omega,gr⟩
     have LZ:gs.length-s2.i+(if s2.e=0 then 1 else 0)≤mm-1:=by
      by_cases e:s2.e=0
      ·have:=r8 e;rw[if_pos e];omega
      ·rw[if_neg e];omega
     refine⟨mm-1,by omega,⟨s2,Jf,parts++[l],rfl,(by rw[List.map_append];exact hH),by omega,r2,by omega,r4,?_,by rw[dx,List.length_append];simp only[eM,List.length_cons,List.length_nil];omega,(fun e=>by have:=r8 e;rw[dx,List.length_append];simp only[eM,List.length_cons,List.length_nil];omega),r9,LZ⟩⟩;intro l' jm
     rcases List.mem_append.1 jm with jm|jm
     ·exact h5 l' jm
     ·simp only[List.mem_cons,List.not_mem_nil,or_false] at jm;subst jm;exact r5
    |true=>
     refine zQ 17 ?_;refine qn ?_ (hg:=wi fY);simp only[List.length_map];refine zQ 4 ?_;obtain⟨_,st,aF,rfl,hH⟩:=ox (s:=s1) (by omega) 124 hH;refine qv aF ?_ (hg:=wi aR);refine zQ 4 ?_;obtain⟨_,st,aF,rfl,hH⟩:=ox (s:=s1) (by omega) 41 hH;refine qv aF ?_ (hg:=wi bT);refine zQ 6 ?_;refine ae.cF (aj rfl rfl rfl bT) rfl cY (aa rfl _) ?_;refine zQ 3 ?_
     by_cases hop:0<s1.o
     ·have fJ:(!decide (((s1.o:Nat):Int)>0))=false:=by rw[decide_eq_true (by omega)];rfl
      refine qE rfl (by rw[fJ]) ?_;refine zQ 1 ?_;obtain⟨_,DR,hQ,l,rfl⟩:=qK _ (.inr ⟨he1,by rw[←gr,if_neg (fun h=>by rcases h.2.2 with h|h;rw[cY] at h;exact absurd h (by simp);omega)]⟩) hH;refine zQ 3 ?_;refine qv (DR) ?_;refine zQ 2 ?_;refine ag.ret ⟨rx,_,_,_,rfl,ak (rfl),?_⟩;exact⟨s1,hQ,cm.ax b9 (hH.erase 2)⟩
     ·have fJ:(!decide (((s1.o:Nat):Int)>0))=true:=by rw[decide_eq_false (by omega)];rfl
      refine qD rfl (by rw[fJ]) ?_;refine zQ 2 ?_;rw[if_pos ⟨hlt,by simpa using bT,.inr (by omega)⟩] at gr;refine zQ 3 ?_;obtain⟨_,st,aF,s2,⟨r1,r2,r3,r4,l,rfl,r5,r6,r7⟩,hH⟩:=zC hA eC (s:=s1) he1 hlt h2 (by omega) hH;refine qv aF ?_;refine qh (s:=1) (vs:=[_]) hH fun k41 st Kz hH=>?_;dsimp only[u2,u1,u3,u4,setMany,u5,u6,D.cells,Nat.reduceAdd,aK,ba,az,av,dI] at hH;refine ae.dh (s:=1) hH rfl (ev rfl) (ev rfl) (by exact dw) (by exact hH.rows (by exact aG)) rfl rfl rfl rfl rfl rfl rfl ⟨(Nat.le_of_ble_eq_true rfl),(Nat.le_of_ble_eq_true rfl)⟩ (fun _=>(aa rfl _)) (by simp only[List.length_cons,List.length_nil,List.length_map]<;>omega) (by exact .inr rfl) (fun Jf st hH=>?_);dsimp only[u2,u1,u3,u4,setMany,u5,u6,D.cells,Nat.reduceAdd,aK,ba,az,av,dI] at hH;refine zQ 2 ?_;have hH:=hH.drop 1
      have r8:s2.e=0→l.length+1≤4*(s2.i-s1.i):=fun e=>by
       rcases r7 with r7|r7
       ·exact absurd e r7.ne
       ·exact r7.2.2
      have r9:ef R aQ s2∨s2.e=0∧∃n,gs.length-s2.i<n∧BX A gs m n s2.i s2.g (parts++[l])=R:=by
       rcases r7 with r7|⟨r7,Ju,Q0⟩
       ·exact .inl (r7.map fun e w h=>by rw[←gr,h])
       ·rw[Ju] at gr;exact .inr ⟨r7,n,by omega,gr⟩
      have LZ:gs.length-s2.i+(if s2.e=0 then 1 else 0)≤mm-1:=by
       by_cases e:s2.e=0
       ·have:=r8 e;rw[if_pos e];omega
       ·rw[if_neg e];omega
      refine⟨mm-1,by omega,⟨s2,Jf,parts++[l],rfl,(by rw[List.map_append];exact hH),by omega,r2,by omega,r4,?_,by rw[dx,List.length_append];simp only[eM,List.length_cons,List.length_nil];omega,(fun e=>by have:=r8 e;rw[dx,List.length_append];simp only[eM,List.length_cons,List.length_nil];omega),r9,LZ⟩⟩;intro l' jm
      rcases List.mem_append.1 jm with jm|jm
      ·exact h5 l' jm
      ·simp only[List.mem_cons,List.not_mem_nil,or_false] at jm;subst jm;exact r5
  ·have aR:decide (((s1.i:Nat):Int)<((gs.length:Nat):Int))=false:=by rw[decide_eq_false_iff_not];omega
   refine zQ 17 ?_;refine qn ?_ (hg:=wi fY);simp only[List.length_map];refine zQ 22 ?_;obtain⟨_,DR,hQ,l,rfl⟩:=qK _ (.inr ⟨he1,by rw[←gr,if_neg (fun h=>hlt h.1)]⟩) hH;refine zQ 3 ?_;refine qv (DR) ?_;refine zQ 2 ?_;refine ag.ret ⟨rx,_,_,_,rfl,ak (rfl),?_⟩;exact⟨s1,hQ,cm.ax b9 (hH.erase 2)⟩
 ·have fY:(s1.e==0)=false:=by simpa using he1
  refine zQ 40 ?_;obtain⟨_,DR,hQ,l,rfl⟩:=qK _ (.inl (h8.resolve_right fun h=>he1 h.1)) hH;refine zQ 3 ?_;refine qv (DR) ?_;refine zQ 2 ?_;refine ag.ret ⟨rx,_,_,_,rfl,ak (rfl),?_⟩;exact⟨s1,hQ,cm.ax b9 (hH.erase 2)⟩
theorem AB {m:Nat} {gs:List (Nat×Nat)} {A:PF} (hA:∀m',m'+1=m→zi A gs m'):zi (EI A gs m) gs m:=by
 intro N k S s0 H bm aQ s eC he hi hg ho hH;have rM:=eC.gl;have ka:=eC.pl;refine Ev.kT rfl O7 rfl rfl rfl ?_;refine zE ?_;have cm:=hH;have hH:=hH.cq;have b9:(ai .rw s0).bs=s0.bs:=rfl;generalize ai .rw s0=S2 at*
 obtain⟨R,hR⟩:∃R,EI A gs m s.i s.g=R:=⟨_,rfl⟩
 rw[hR];unfold EI at hR;refine zQ 7 ?_;obtain⟨_,st,aF,s1,⟨p1,p2,p3,p4,l,rfl,p5,p6,p7⟩,hH⟩:=As hA eC he hi hg ho hH;refine qv aF ?_;refine qh (s:=1) (vs:=[_]) hH fun k6 st I9 hH=>?_;dsimp only[u2,u1,u3,u4,setMany,u5,u6,D.cells,Nat.reduceAdd,aK,ba,az,av,dI] at hH;refine zQ 2 ?_
 have TM:ef R aQ s1∨s1.e=0∧∃n,gs.length-s1.i<n∧B3 A gs m n s1.i s1.g [l]=R:=by
  rcases p7 with p7|⟨p7,Q4⟩
  ·exact .inl (p7.map fun e w h=>by rw[←hR,h])
  ·rw[Q4] at hR;exact .inr ⟨p7,_,by omega,hR⟩
 have hH:Has N S2 st (.box k (.mem 0 false (aK gs bm s1))::.aD bm 1 (aQ.map az)::.aD (.win k6 0 0 1 1) 1 ([l].map dI)::H):=mW hH;refine zQ 2 ?_;refine ag.loop (fun mm fr st=>∃(s1:dR) (pd:D) (parts:List (List bn)),fr.clean=⟨4,[.ptr k 0 0,nD fr 1,nD fr 2,pd],[]⟩∧Has N S2 st (.box k (.mem 0 false (aK gs bm s1))::.aD bm 1 (aQ.map az)::.aD pd 1 (parts.map dI)::H)∧(s1.o=s.o)∧(s1.g≤4)∧(s.i≤s1.i)∧(s1.i≤gs.length)∧(∀l∈parts,∀n∈l,lX n)∧(eM parts+3*parts.length≤4*(s1.i-s.i)+4)∧(1≤parts.length)∧(ef R aQ s1∨s1.e=0∧∃n,gs.length-s1.i<n∧B3 A gs m n s1.i s1.g parts=R)∧(gs.length-s1.i≤mm)) (gs.length) ?_ ?_
 ·exact⟨s1,.win k6 0 0 1 1,[l],rfl,hH,p1,p2,p3,p4,(fun l' jm=>by simp only[List.mem_cons,List.not_mem_nil,or_false] at jm;subst jm;exact p5),by simp only[eM,List.length_cons,List.length_nil];omega,by simp,TM,by omega⟩
 rintro mm fr st ⟨s1,pd,parts,hfr,hH,h1,h2,h3,h4,h5,h6,h8,h9,yM⟩;rw[hfr];clear hfr;generalize nD fr=ee;clear fr
 have qK:∀st:St,(ef R aQ s1∨s1.e=0∧R=.ok (fw 4 parts,s1.g) s1.i)→Has N S2 st (.box k (.mem 0 false (aK gs bm s1))::.aD bm 1 (aQ.map az)::.aD pd 1 (parts.map dI)::H)→∃d,Ev pv 46 [.int .i64 4,pd] st d st∧pk gs aQ R s s1 d∧∃l,d=pT l:=by
  intro st hv hH;obtain⟨aF,j1,j2,j3⟩:=qk 4 (hH.rows b8) h5 (by omega) (by omega);refine⟨_,aF,⟨h1,h2,h3,h4,fw 4 parts,rfl,j1,?_,hv⟩,_,rfl⟩
  by_cases q1:parts.length=1
  ·have:=j2 q1;omega
  ·omega
 by_cases he1:s1.e=0
 ·obtain⟨n,u7,gr⟩:=(h9.resolve_left fun h=>absurd he1 h.ne).2
  obtain⟨n,rfl⟩:∃m,n=m+1:=⟨n-1,by omega⟩
  unfold B3 at gr;have fY:(s1.e==0)=true:=by simpa using he1
  obtain⟨k1,k2,k3,k4,k5⟩:=gC (gs:=gs) (s:=s1) (r:=124);have k5:=k5 h4;refine zQ 10 ?_;obtain⟨_,st,aF,rfl,hH⟩:=dP (s:=s1) (by omega) 124 hH;refine qv aF ?_ (hg:=wi fY);refine zQ 2 ?_
  cases hb:dG gs s1.i 124 with
  |false=>
   rw[oZ hb] at hH;refine zQ 2 ?_;obtain⟨_,DR,hQ,l,rfl⟩:=qK _ (.inr ⟨he1,by rw[←gr,if_neg (by rw[hb];simp)]⟩) hH;refine zQ 3 ?_;refine qv (DR) ?_;refine zQ 2 ?_;refine ag.ret ⟨rx,_,_,_,rfl,ak (rfl),?_⟩;exact⟨s1,hQ,cm.ax b9 (hH.erase 2)⟩
  |true=>
   have k6:=mb hb;rw[if_pos hb] at gr;generalize bF gs s1 124=s2 at*;refine zQ 6 ?_;obtain⟨_,st,aF,s3,⟨r1,r2,r3,r4,l,rfl,r5,r6,r7⟩,hH⟩:=As hA eC (s:=s2) (by omega) k5 (by omega) (by omega) hH;refine qv aF ?_;refine qh (s:=1) (vs:=[_]) hH fun k19 st SQ hH=>?_;dsimp only[u2,u1,u3,u4,setMany,u5,u6,D.cells,Nat.reduceAdd,aK,ba,az,av,dI] at hH;refine ae.dh (s:=1) hH rfl (ev rfl) (ev rfl) (by exact dw) (by exact hH.rows (by exact aG)) rfl rfl rfl rfl rfl rfl rfl ⟨(Nat.le_of_ble_eq_true rfl),(Nat.le_of_ble_eq_true rfl)⟩ (fun _=>(aa rfl _)) (by simp only[List.length_cons,List.length_nil,List.length_map]<;>omega) (by exact .inr rfl) (fun PI st hH=>?_);dsimp only[u2,u1,u3,u4,setMany,u5,u6,D.cells,Nat.reduceAdd,aK,ba,az,av,dI] at hH;refine zQ 2 ?_;have hH:=hH.drop 1;rw[k6,show s2.g=s1.g by omega] at r7
   have r9:ef R aQ s3∨s3.e=0∧∃n,gs.length-s3.i<n∧B3 A gs m n s3.i s3.g (parts++[l])=R:=by
    rcases r7 with r7|⟨r7,Ju⟩
    ·exact .inl (r7.map fun e w h=>by rw[←gr,h])
    ·rw[Ju] at gr;exact .inr ⟨r7,n,by omega,gr⟩
   refine⟨mm-1,by omega,⟨s3,PI,parts++[l],rfl,(by rw[List.map_append];exact hH),by omega,r2,by omega,r4,?_,by rw[dx,List.length_append];simp only[eM,List.length_cons,List.length_nil];omega,by rw[List.length_append];omega,r9,by omega⟩⟩;intro l' jm
   rcases List.mem_append.1 jm with jm|jm
   ·exact h5 l' jm
   ·simp only[List.mem_cons,List.not_mem_nil,or_false] at jm;subst jm;exact r5
 ·have fY:(s1.e==0)=false:=by simpa using he1
  refine zQ 15 ?_;obtain⟨_,DR,hQ,l,rfl⟩:=qK _ (.inl (h9.resolve_right fun h=>he1 h.1)) hH;refine zQ 3 ?_;refine qv (DR) ?_;refine zQ 2 ?_;refine ag.ret ⟨rx,_,_,_,rfl,ak (rfl),?_⟩;exact⟨s1,hQ,cm.ax b9 (hH.erase 2)⟩
theorem Gz (gs:List (Nat×Nat)) (m:Nat):zi (B4 gs m) gs m:=by
 induction m with
 |zero=>exact AB (fun m' h=>by omega)
 |succ m ih=>exact AB (fun m' h=>by cases h;exact@ih)
def aU (fr:Go.V.Fr) (k:Nat):Go.V.D:=Go.V.nth .aY fr.loc k
def tT:List (Nat×Nat)→Nat→List Int
 |[],_=>[]
 |q::l,a=>((a:Nat):Int)::tT l (a+q.2)
noncomputable def CT (gs:List (Nat×Nat)) (R:PR (List bn×Nat)):List bn×Int×Int:=
 match R with
 | .er e w=>([],e,(tT gs 0).getD w 0)
 | .ok (l,_) j=>if j<gs.length then([],4,(tT gs 0).getD j 0) else(l,0,0)
noncomputable def bA (b:List UInt8):List bn×Int×Int:=
 if 120<b.length then([],2,0) else CT (nV b) (B4 (nV b) 20 0 0)
def CU (q:List bn×Int×Int):D:=.tup [pT q.1,.int .i64 q.2.1,.int .i64 q.2.2]
theorem nx {s0:St} {b:List UInt8} (hbl:b.length≤1048576):Ev pv 11 [.str b] s0 (CU (bA b)) s0∧(∀n∈(bA b).1,lX n)∧(bA b).1.length≤500:=by
 suffices hg:∃d,Ev pv 11 [.str b] s0 d s0∧d=CU (bA b)∧(∀n∈(bA b).1,lX n)∧(bA b).1.length≤500 by
  obtain⟨d,h1,rfl,h2⟩:=hg;exact⟨h1,h2⟩
 obtain⟨X,hX⟩:∃X,bA b=X:=⟨_,rfl⟩
 rw[hX];unfold bA at hX;obtain⟨rM,S'⟩:=EK _ b (Nat.le_refl _);have aF:∀(st:St) (x:D),Bytes st x b→Ev pv 25 [x] st (gv (nV b)) st:=fun st x h=>IP h hbl;generalize nV b=gs at*;refine Ev.Bd rfl Pk rfl rfl rfl ?_;refine zE ?_;obtain⟨aW,hF,hH⟩:=ri s0;generalize ai .ro s0=S at*;have xH:Arg s0.bs.length S 2 (gv gs) (gs.map ba):=Arg.pure (fun st=>ej st gs);refine zQ 10 ?_;refine ae.jV rfl rfl rfl (by dsimp only[Fr.put,u1,u2]<;>rfl) ?_;refine zQ 2 ?_
 by_cases GV:120<b.length
 ·have fJ:decide (((b.length:Nat):Int)>120)=true:=by rw[decide_eq_true_eq];omega
  refine qD rfl (by rw[fJ]) ?_;refine zQ 6 ?_;refine ag.ret ⟨rx,_,_,rfl,rl aW hH (rfl),?_⟩;rw[if_pos GV] at hX;rw[←hX];exact⟨rfl,fun n hn=>(by cases hn),by simp⟩
 rw[if_neg GV] at hX;have fJ:decide (((b.length:Nat):Int)>120)=false:=by rw[decide_eq_false_iff_not];omega
 refine qE rfl (by rw[fJ]) ?_;refine zQ 4 ?_;refine ae.Il hH rfl rfl rfl rfl rfl (by omega) (fun _=>by dsimp only[Fr.put,u1,u2]<;>rfl) (fun k14 st KC hH=>?_);refine qv ((aF _ _ (hH.rows aG))) ?_;refine ae.go (d:=.agg [gv gs,.nul,.int .i64 0,.int .i64 0,.int .i64 0,.int .i64 0,.int .i64 0]) (st1:=_) rfl rfl rfl (by dsimp only[Fr.put,u1,u2]<;>rfl) ?_;refine qb hH fun k17 st KB hH=>?_;refine zQ 13 ?_;refine qn ?_;simp only[List.length_map];refine zQ 2 ?_;have hH:Has s0.bs.length S st (.box k17 (.mem 0 false [gv gs,.nul,.int .i64 0,.int .i64 0,.int .i64 0,.int .i64 0,.int .i64 0])::.aD .nul 1 (([]:List Int).map az)::[]):=((hH.erase 1).dU 1).front aV;refine zQ 1 ?_;refine ag.loop (fun mm fr st=>∃(i a:Nat) (pd:D) (aQ:List Int),fr.clean=⟨24,[aU fr 0,aU fr 1,aU fr 2,aU fr 3,aU fr 4,.ptr k17 0 0,.int .i64 (a:Nat),aU fr 7,aU fr 8,aU fr 9,aU fr 10,aU fr 11,aU fr 12,aU fr 13,aU fr 14,aU fr 15,aU fr 16,aU fr 17,aU fr 18,aU fr 19,aU fr 20,gv gs,.int .i64 (gs.length:Nat),.int .i64 (i:Nat)],[]⟩∧Has s0.bs.length S st [.box k17 (.mem 0 false [gv gs,pd,.int .i64 0,.int .i64 0,.int .i64 0,.int .i64 0,.int .i64 0]),.aD pd 1 (aQ.map az)]∧(i+mm=gs.length)∧(aQ.length=i)∧(aQ++tT (gs.drop i) a=tT gs 0)∧(a≤120*i)) (gs.length) ?_ ?_
 ·exact⟨0,0,.nul,[],rfl,hH,by omega,rfl,rfl,by omega⟩
 rintro mm fr st ⟨i,a,pd,aQ,hfr,hH,hi,ka,Ca,ha⟩;rw[hfr];clear hfr;generalize aU fr=ee;clear fr;refine zQ 4 ?_
 by_cases hlt:i<gs.length
 ·obtain⟨g,hg⟩:∃g,gs[i]?=some g:=⟨gs[i]'hlt,List.getElem?_eq_getElem _⟩
  have gJ:(gs.map ba)[i]?=some (ba g):=by rw[List.getElem?_map,hg];rfl
  have bH:=S' g (List.mem_of_getElem? hg)
  have BA:gs.drop i=g::gs.drop (i+1):=by
   have:=List.drop_eq_getElem_cons (l:=gs) (i:=i) hlt;rw[this];congr 1;rw[List.getElem?_eq_getElem hlt] at hg;exact Option.some.inj hg
  rw[BA] at Ca
  have Ca:(aQ++[((a:Nat):Int)])++tT (gs.drop (i+1)) (a+g.2)=tT gs 0:=by
   rw[List.append_assoc];exact Ca
  have oC:decide (((i:Nat):Int)<((gs.length:Nat):Int))=true:=by rw[decide_eq_true_eq];omega
  refine qq<|qD rfl (by rw[oC]) ?_;refine zQ 5 ?_;refine qr fun L' HW=>?_;refine ae.cJ rfl (ev rfl) (by assumption) rfl (aa rfl _) ?_;refine qa hH fun k8 st Qm hH=>?_;refine qS hH aG fun st hH=>?_;dsimp only[u2,u1,u3,u4,setMany,u5,u6,D.cells,Nat.reduceAdd,aK,ba,az] at hH;refine zQ 9 ?_;refine qh (s:=1) (vs:=[_]) hH fun k33 st Ny hH=>?_;refine ae.dh (s:=1) hH rfl (ev rfl) (ev rfl) (by exact dw) (by exact hH.rows (by exact aG)) rfl rfl rfl rfl rfl rfl rfl ⟨(Nat.le_of_ble_eq_true rfl),(Nat.le_of_ble_eq_true rfl)⟩ (fun _=>(aa rfl _)) (by simp only[List.length_cons,List.length_nil,List.length_map]<;>omega) (by exact .inl hF) (fun QQ st hH=>?_);dsimp only[u2,u1,u3,u4,setMany,u5,u6,D.cells,Nat.reduceAdd,aK,ba,az] at hH;refine zQ 2 ?_;refine qT hH b8 (fun st hH=>?_) (hcs:=hH.eO dw);dsimp only[u2,u1,u3,u4,setMany,u5,u6,D.cells,Nat.reduceAdd,aK,ba,az] at hH;refine zQ 5 ?_;refine ae.PB rfl (ev rfl) (ev rfl) (by omega) (aa rfl _) ?_;refine zQ 6 ?_;exact⟨mm-1,by omega,⟨i+1,a+g.2,QQ,aQ++[((a:Nat):Int)],rfl,(by rw[List.map_append];exact hH.drop 2),by omega,by rw[List.length_append,ka];rfl,Ca,by omega⟩⟩
 ·have oC:decide (((i:Nat):Int)<((gs.length:Nat):Int))=false:=by rw[decide_eq_false_iff_not];omega
  refine qq<|qE rfl (by rw[oC]) ?_;refine zQ 1 ?_
  have eC:km gs aQ:=⟨by omega,by omega⟩
  have Ca:aQ=tT gs 0:=by
   rw[List.drop_eq_nil_of_le (by omega)] at Ca;rw[←Ca];simp[tT]
  have hH:Has s0.bs.length S st (.box k17 (.mem 0 false (aK gs pd ⟨0,0,0,0,0⟩))::.aD pd 1 (aQ.map az)::[]):=hH;refine zQ 3 ?_;obtain⟨_,st,aF,s1,⟨p1,p2,p3,p4,l,rfl,p5,p6,p7⟩,hH⟩:=Gz gs 20 (s:=⟨0,0,0,0,0⟩) eC rfl (by simp) (by simp) rfl hH;refine qv aF ?_;refine zQ 2 ?_;have p6:l.length≤4*(s1.i-0)+1:=p6;have p7:ef (B4 gs 20 0 0) aQ s1∨s1.e=0∧B4 gs 20 0 0=.ok (l,s1.g) s1.i:=p7;generalize B4 gs 20 0 0=R at*;unfold CT at hX;rw[←Ca] at hX;refine zQ 2 ?_;refine ag.pV (fun fr st=>∃(s2:dR) (tmp:List (Nat×D)),fr=⟨24,[aU fr 0,aU fr 1,aU fr 2,aU fr 3,aU fr 4,.ptr k17 0 0,aU fr 6,aU fr 7,aU fr 8,pT l,aU fr 10,aU fr 11,aU fr 12,aU fr 13,aU fr 14,aU fr 15,aU fr 16,aU fr 17,aU fr 18,aU fr 19,aU fr 20,aU fr 21,aU fr 22,aU fr 23],tmp⟩∧Has s0.bs.length S st (.box k17 (.mem 0 false (aK gs pd s2))::.aD pd 1 (aQ.map az)::[])∧(s2.e≠0∧X=([],s2.e,s2.w)∨s2.e=0∧X=(l,0,0))) ?_ ?_
  ·by_cases he1:s1.e=0
   ·have fY:(s1.e==0)=true:=by simpa using he1
    have hR:R=.ok (l,s1.g) s1.i:=by
     rcases p7 with p7|p7
     ·exact absurd he1 p7.ne
     ·exact p7.2
    rw[hR] at hX;simp only at hX;refine zQ 15 ?_;refine qn ?_ (hg:=wi fY);simp only[List.length_map];refine zQ 3 ?_;refine zP (fun hin=>?_) fun hin=>?_
    ·refine zQ 6 ?_;obtain⟨_,st,aF,rfl,hH⟩:=dW (s:=s1) s1.i 4 (by omega) hH;refine qv aF ?_;refine zQ 1 ?_;rw[if_pos (by omega)] at hX;have hw:(iI aQ s1 s1.i 4).e=4∧(iI aQ s1 s1.i 4).w=aQ.getD s1.i 0:=by unfold iI;rw[if_pos he1];exact⟨rfl,rfl⟩
     exact⟨_,_,rfl,hH,.inl ⟨by rw[hw.1];decide,by rw[hw.1,hw.2];exact hX.symm⟩⟩
    ·rw[if_neg (by omega)] at hX;refine zQ 1 ?_;exact⟨s1,_,rfl,hH,.inr ⟨he1,hX.symm⟩⟩
   ·have fY:(s1.e==0)=false:=by simpa using he1
    refine zQ 19 ?_
    have hE:X=([],s1.e,s1.w):=by
     obtain⟨e,w,h0,h1,h2,h3⟩:=p7.resolve_right fun h=>he1 h.1;rw[h0] at hX;rw[←hX,h2,h3]
    refine zQ 2 ?_;exact⟨s1,_,rfl,hH,.inl ⟨he1,hE⟩⟩
  ·rintro fr st ⟨s2,tmp,hfr,hH,ht⟩;rw[hfr];clear hfr;generalize aU fr=ee;clear fr;refine zQ 9 ?_;refine ag.cond (by rfl) (fun hne=>?_) (fun hne=>?_)<;>try simp only[bne_iff_ne,bne_eq_false_iff_eq,ne_eq] at hne
   ·refine zQ 14 ?_;refine ag.ret ⟨rx,_,_,rfl,rl aW hH (rfl),?_⟩
    rcases ht with⟨h1,h2⟩|⟨h1,h2⟩
    ·rw[h2];exact⟨rfl,fun n hn=>(by cases hn),by simp⟩
    ·exact absurd h1 hne
   ·refine zQ 8 ?_;refine ag.ret ⟨rx,_,_,rfl,rl aW hH (rfl),?_⟩
    rcases ht with⟨h1,h2⟩|⟨h1,h2⟩
    ·exact absurd h1 (by omega)
    ·rw[h2];exact⟨rfl,p5,by show l.length≤500;omega⟩
end Go.Proofs.YtpcicphadikioaaGreat
