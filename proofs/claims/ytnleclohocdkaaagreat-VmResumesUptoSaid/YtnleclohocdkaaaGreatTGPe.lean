/-
 The parser of patterns: lists of nodes; classes; how often.
-/
import Derived.Test.YtnleclohocdkaaaGreatTGHr
import Derived.Test.YtnleclohocdkaaaGreatTGPb
import Derived.Test.YtnleclohocdkaaaGreatTGCa
set_option maxRecDepth 100000
set_option maxHeartbeats 4000000
set_option linter.unusedSimpArgs false
set_option linter.unusedVariables false
namespace Go.Proofs.YtnleclohocdkaaaGreat
open Go.V Go
def wu (fr:Go.V.Fr) (k:Nat):Go.V.D:=Go.V.nth .junk fr.loc k
def NdV (n:Nod):Prop:=n.rd=aX n.rs∧n.rs.length≤1048576∧n.kids≤1048576
def sr (op mn mx:Int) (lz:Bool) (cap kids:Int) (a:List Rg):Nod:=⟨op,aX a,a,mn,mx,lz,cap,kids⟩
def tc (l:List Nod):D:=.sl ((l.map aO).map (iC 7))
theorem Db (l:List Nod):∀e∈l.map aO,e.length=7:=by
 intro e he;obtain⟨x,_,rfl⟩:=List.mem_map.1 he;rfl
theorem lF {l:List Nod} (h:∀n∈l,NdV n):∀e∈l.map aO,∀d∈e,bD d=true:=by
 intro e he d hd;obtain⟨n,hn,rfl⟩:=List.mem_map.1 he;have hr:=(h n hn).1;simp only[aO,hr,List.mem_cons,List.not_mem_nil,or_false] at hd
 rcases hd with rfl|rfl|rfl|rfl|rfl|rfl|rfl<;>rfl
theorem pU {l:List Nod} (h:∀n∈l,NdV n):SlD (tc l) 7 (l.map aO):=SlD.frozen (Db l) (lF h)
theorem G9 {l:List Nod} (h:∀n∈l,NdV n) (hl:l.length≤1048576):(⟨tc l,l⟩:Nl).ok:=by
 refine⟨pU h,fun n hn=>?_,hl⟩;obtain⟨h1,h2,h3⟩:=h n hn;exact⟨by rw[h1];exact gL _,h2,by omega⟩
theorem sm {l:List Nod} (h:∀n∈l,NdV n):(l.map aO).map (·.map mQ)=l.map aO:=by
 rw[List.map_map];refine List.map_congr_left fun n hn=>?_;have hr:=(h n hn).1;show(aO n).map mQ=aO n;unfold aO;rw[hr];rfl
theorem nX {l:List Nod} (h:∀n∈l,NdV n):∀e∈l.map aO,∀d∈e,mb d=true:=by
 intro e he d hd;have:=lF h e he d hd
 cases d<;>first|rfl|exact this
theorem gg {N L j:Nat} {S st:St} {H:List aN} {x:D} {es:List (List D)} {l:List Nod} (hH:Has N S st H) (hj:H[j]?=some (.lst x 7 es)) (he:es.map (·.map mQ)=l.map aO) (ht:∀e∈es,∀d∈e,mb d=true) (hx:∀k,x.ref=k+1→L≤k) {n:Nat} (hn:3≤n):aY st L false n x=some (tc l):=by
 rw[hH.yg hj hx ht hn,he];rfl
theorem gh {N L j:Nat} {S st:St} {H:List aN} {x w:D} {op mn mx cap kids:Int} {lz:Bool} {a:List Rg} (hH:Has N S st H) (hj:H[j]?=some (.lst x 7 [[.int .i64 op,w,.int .i64 mn,.int .i64 mx,.bool lz,.int .i64 cap,.int .i64 kids]])) (hw:w=aX a∨w=.nul∧a=[]) (hx:∀k,x.ref=k+1→L≤k):aY st L false 16 x=some (tc [sr op mn mx lz cap kids a]):=by
 refine gg hH hj ?_ (fun e he d hd=>?_) hx (by decide)
 ·rcases hw with rfl|⟨rfl,rfl⟩<;>rfl
 ·simp only[List.mem_cons,List.not_mem_nil,or_false] at he;subst he;simp only[List.mem_cons,List.not_mem_nil,or_false] at hd
  rcases hw with rfl|⟨rfl,rfl⟩<;>rcases hd with rfl|rfl|rfl|rfl|rfl|rfl|rfl<;>rfl
theorem A8 {op mn mx cap kids:Int} {lz:Bool} {a:List Rg} (h:a.length≤1048576) (hk:kids≤1048576):∀n∈[sr op mn mx lz cap kids a],NdV n:=by
 intro n hn;simp only[List.mem_cons,List.not_mem_nil,or_false] at hn;subst hn;exact⟨rfl,h,hk⟩
def ta (gs:List (Nat×Nat)) (s s':dJ) (d:D):Prop:=
 s'.o=s.o∧s'.g≤4∧s.i≤s'.i∧s'.i≤gs.length∧∃l:List Nod,d=tc l∧(∀n∈l,NdV n)∧l.length≤4*(s'.i-s.i)+1
def gD (gs:List (Nat×Nat)) (s s':dJ) (d:D) (c:Nat):Prop:=
 s'.o=s.o∧s'.g≤4∧s.i≤s'.i∧s'.i≤gs.length∧∃l:List Nod,d=tc l∧(∀n∈l,NdV n)∧l.length≤4*(s'.i-s.i)+1∧(s'.e≠0∨s'.e=0∧l.length+c≤4*(s'.i-s.i))
theorem eJ {gs:List (Nat×Nat)} {s s':dJ} {c:Nat} (h1:s'.o=s.o) (h2:s'.g≤4) (h3:s.i≤s'.i) (h4:s'.i≤gs.length) (h5:s'.e≠0):gD gs s s' (.sl []) c:=
 ⟨h1,h2,h3,h4,[],rfl,fun n hn=>(by cases hn),by simp,.inl h5⟩
theorem B_ {N k:Nat} {S s0:St} {H:List aN} {gs:List (Nat×Nat)} {ba:D} {bo:List Int} {s:dJ} (hok:jj gs bo) (he:s.e=0) (hi:s.i<gs.length) (hg:s.g≤4) (hH:Has N S s0 (.box k (.mem 0 false (aF gs ba s))::.lst ba 1 (bo.map aj)::H)):
  ∃d ae,Ev pv 156 [.ptr k 0 0] s0 d ae∧∃(s':dJ),gD gs s s' d 2∧Has N S ae (.box k (.mem 0 false (aF gs ba s'))::.lst ba 1 (bo.map aj)::H):=by
 have sO:=hok.gl;have hpl:=hok.pl;refine Ev.iB rfl IX rfl rfl rfl ?_;refine zE ?_;have bM:=hH;have hH:=hH.bO;have bL:(enterSt .rw s0).bs=s0.bs:=rfl;generalize enterSt .rw s0=S2 at*;have DQ:Arg N S2 2 (db gs) (gs.map aP):=Arg.pure (fun st=>cN st gs);refine zQ 21 ?_;refine qT hH at0 fun st hH=>?_;dsimp only[u2,u1,u3,u4,setMany,u5,u6,D.cells,Nat.reduceAdd,aF,aP,aj,ai] at hH;refine zQ 1 ?_;have hH:Has N S2 st (.box k (.mem 0 false (aF gs ba {s with i:=s.i+1}))::.lst ba 1 (bo.map aj)::H):=hH;obtain⟨k1,k2,k3,k4,k5⟩:=eZ (gs:=gs) (s:={s with i:=s.i+1}) (r:=94);have k5:=k5 (by show s.i+1≤_;omega);simp only at k1 k2 k3 k4;refine zQ 3 ?_;obtain⟨_,st,hev,rfl,hH⟩:=cP (s:={s with i:=s.i+1}) (by omega) 94 hH;refine qv hev ?_;refine zQ 2 ?_;generalize ch gs {s with i:=s.i+1} 94=s1 at*;generalize gG gs ({s with i:=s.i+1}:dJ).i 94=nt at*;refine zQ 8 ?_
 have hH:Has N S2 st (.box k (.mem 0 false (aF gs ba s1))::.lst ba 1 (bo.map aj)::.lst .nul 2 (([]:List Rg).map ai)::H):=((hH.nulE 2).front at1|>.front at2|>fun h=>(h.front at1))
 refine zQ 2 ?_;refine EvC.loop (fun mm fr st=>∃(s1:dJ) (ld:D) (lr:List Rg) (nn:Bool),fr.clean=⟨7,[.ptr k 0 0,wu fr 1,wu fr 2,.int .i64 (s.i:Nat),.bool nt,ld,.bool nn],[]⟩∧Has N S2 st (.box k (.mem 0 false (aF gs ba s1))::.lst ba 1 (bo.map aj)::.lst ld 2 (lr.map ai)::H)∧(s1.o=s.o)∧(s1.g=s.g)∧(s.i<s1.i)∧(s1.i≤gs.length)∧(lr.length≤8*s1.i+8)∧(s1.e=0→lr.length≤8*s1.i)∧(gs.length-s1.i+(if s1.e=0 then 1 else 0)≤mm)) (gs.length+1) ?_ ?_
 ·exact⟨s1,.nul,[],true,rfl,hH,k1,k2,by omega,k5,by simp,fun _=>by simp,by split<;>omega⟩
 rintro mm fr st ⟨s1,ld,lr,nn,hfr,hH,h1,h2,h3,h4,h5,h6,wA⟩;rw[hfr];clear hfr;generalize wu fr=ee;clear fr
 by_cases jZ:s1.e=0
 ·rw[if_pos jZ] at wA;have h6:=h6 jZ;have gd:(s1.e==0)=true:=by simpa using jZ
  refine zQ 10 ?_;obtain⟨_,st,hev,rfl,hH⟩:=my (s:=s1) (by omega) 93 hH;refine qv hev ?_ (hg:=wi gd);refine zQ 3 ?_
  cases hb:gG gs s1.i 93 with
  |true=>
   have hlt:=ot hb;refine zQ 11 ?_;refine qE rfl (by simp[jZ]) ?_;refine zQ 6 ?_
   cases nn with
   |true=>
    refine zQ 5 ?_;obtain⟨_,st,hev,rfl,hH⟩:=ck (s:=s1) s.i 4 (by omega) hH;refine qv hev ?_;refine zQ 2 ?_;obtain⟨w1,w2,w3,w4⟩:=cy (bo:=bo) (s:=s1) (i:=s.i) (e:=4) jZ (by decide);refine EvC.ret ⟨rx,_,_,_,rfl,af (rfl),?_⟩;exact⟨_,eJ (by omega) (by omega) (by omega) (by omega) w1,bM.ak bL (hH.erase 2)⟩
   |false=>
    refine zQ 11 ?_;refine qT hH at0 fun st hH=>?_;dsimp only[u2,u1,u3,u4,setMany,u5,u6,D.cells,Nat.reduceAdd,aF,aP,aj,ai] at hH;refine zQ 4 ?_;obtain⟨hev,DJ,_⟩:=ki (l:=lr) (hH.rows at2) (by omega);refine qv hev ?_;refine zQ 2 ?_;generalize iX lr=m at*;refine zQ 5 ?_
    have eO:∀(st:St) (a:List Rg) (k70:Nat),a.length≤1048576→S2.bs.length≤k70→Has N S2 st (.lst (.win k70 0 0 1 7) 7 [[.int .i64 2,aX a,.int .i64 0,.int .i64 0,.bool false,.int .i64 0,.int .i64 0]]::.box k (.mem 0 false (aF gs ba {s1 with i:=s1.i+1}))::.lst ba 1 (bo.map aj)::.lst ld 2 (lr.map ai)::H)→
      ∃d ae,b_ .rw false s0 st (.win k70 0 0 1 7)=some (d,ae)∧∃(s':dJ),gD gs s s' d 2∧Has N S ae (.box k (.mem 0 false (aF gs ba s'))::.lst ba 1 (bo.map aj)::H):=by
     intro st a k70 ha hk hH;have hfz:=gh hH at0 (L:=s0.bs.length) (.inl rfl) (fun k hk=>by simp only[D.ref] at hk;rw[←bL];omega);exact⟨_,_,af hfz,{s1 with i:=s1.i+1},⟨h1,by show s1.g≤4;omega,by show s.i≤s1.i+1;omega,by show s1.i+1≤_;omega,_,rfl,A8 ha (by omega),by simp,.inr ⟨jZ,by show 1+2≤4*(s1.i+1-s.i);omega⟩⟩,bM.ak bL ((hH.drop 1).erase 2)⟩
    cases nt with
    |true=>
     refine zQ 3 ?_;obtain⟨_,hev,a,rfl,hla⟩:=A3 (l:=m) (ef _ _) (by omega);refine qv hev ?_;refine zQ 5 ?_;refine EvO.eI (qs:=[(0,_),(1,_)]) rfl rfl rfl rfl ⟨rfl,(ev rfl),(by rfl),rfl,(ev rfl),(by rfl),trivial⟩ (by intro q hq;simp only[List.mem_cons,List.not_mem_nil,or_false] at hq;rcases hq with rfl|rfl<;>exact⟨rfl,by exact Nat.le_of_ble_eq_true rfl⟩) (by show List.foldl _ [_,_,_,_,_,_,_] _=_;dsimp only[List.foldl_cons,List.foldl_nil,u2,u1]<;>rfl) (put_T rfl _) ?_;refine qh (s:=7) (vs:=[_]) hH fun k70 st FH hH=>?_;refine zQ 2 ?_;obtain⟨d',ae,uI,fh⟩:=eO _ a k70 (by omega) FH hH;refine EvC.ret ⟨rx,_,d',ae,rfl,uI,fh⟩
    |false=>
     refine zQ 5 ?_;refine EvO.eI (qs:=[(0,_),(1,_)]) rfl rfl rfl rfl ⟨rfl,(ev rfl),(by rfl),rfl,(ev rfl),(by rfl),trivial⟩ (by intro q hq;simp only[List.mem_cons,List.not_mem_nil,or_false] at hq;rcases hq with rfl|rfl<;>exact⟨rfl,by exact Nat.le_of_ble_eq_true rfl⟩) (by show List.foldl _ [_,_,_,_,_,_,_] _=_;dsimp only[List.foldl_cons,List.foldl_nil,u2,u1]<;>rfl) (put_T rfl _) ?_;refine qh (s:=7) (vs:=[_]) hH fun k70 st FH hH=>?_;refine zQ 2 ?_;obtain⟨d',ae,uI,fh⟩:=eO _ m k70 (by omega) FH hH;refine EvC.ret ⟨rx,_,d',ae,rfl,uI,fh⟩
  |false=>
   refine zQ 14 ?_;refine qn ?_;simp only[List.length_map];refine zQ 2 ?_;refine zP (fun hge=>?_) fun hge=>?_
   ·refine zQ 4 ?_;obtain⟨_,st,hev,rfl,hH⟩:=ck (s:=s1) s.i 4 (by omega) hH;refine qv hev ?_;refine zQ 2 ?_;obtain⟨w1,w2,w3,w4⟩:=cy (bo:=bo) (s:=s1) (i:=s.i) (e:=4) jZ (by decide);refine EvC.ret ⟨rx,_,_,_,rfl,af (rfl),?_⟩;exact⟨_,eJ (by omega) (by omega) (by omega) (by omega) w1,bM.ak bL (hH.erase 2)⟩
   ·refine zQ 5 ?_;obtain⟨_,st,hev,s2,⟨i1,i2,i3,i4,a,rfl,i5,i6⟩,hH⟩:=Dn (s:=s1) hok jZ (by omega) hH;have JA:=(gL a).arg N S2;have Es:=vS a;refine qv hev ?_;refine EvO.happend (s:=2) hH rfl (ev rfl) (ev rfl) (by exact at2) (by exact Arg.rows (by assumption) hH) rfl rfl rfl rfl rfl rfl rfl ⟨(Nat.le_of_ble_eq_true rfl),(Nat.le_of_ble_eq_true rfl)⟩ (fun _=>(put_T rfl _)) (by simp only[List.length_map]<;>omega) (by exact .inr (by assumption)) (fun Ou st hH=>?_);dsimp only[u2,u1,u3,u4,setMany,u5,u6,D.cells,Nat.reduceAdd,aF,aP,aj,ai] at hH;refine zQ 5 ?_;exact⟨mm-1,by omega,⟨s2,Ou,lr++a,false,rfl,(by rw[List.map_append];exact hH),i1.trans h1,i2.trans h2,by omega,i4,by rw[List.length_append];omega,fun e=>by rw[List.length_append];omega,by split<;>omega⟩⟩
 ·have gd:(s1.e==0)=false:=by simpa using jZ
  refine zQ 25 ?_;refine qD rfl (by simp[jZ]) ?_;refine zQ 4 ?_;refine EvC.ret ⟨rx,_,_,_,rfl,af (rfl),?_⟩;exact⟨_,eJ h1 (by omega) (by omega) h4 jZ,bM.ak bL (hH.erase 2)⟩
def ij (fr:Go.V.Fr) (k:Nat):Go.V.D:=Go.V.nth .junk fr.loc k
def pb (gs:List (Nat×Nat)) (s s':dJ):Prop:=s'.o=s.o∧s'.g=s.g∧s.i<s'.i∧s'.i≤gs.length
theorem AZ {N k:Nat} {S s0:St} {H:List aN} {gs:List (Nat×Nat)} {ba:D} {bo:List Int} {s:dJ} (hok:jj gs bo) (he:s.e=0) (hi:s.i<gs.length) (hH:Has N S s0 (.box k (.mem 0 false (aF gs ba s))::.lst ba 1 (bo.map aj)::H)):
  ∃d ae,Ev pv 144 [.ptr k 0 0] s0 d ae∧∃(n1 n2:Int) (s':dJ),d=.tup [.int .i64 n1,.int .i64 n2]∧pb gs s s'∧Has N S ae (.box k (.mem 0 false (aF gs ba s'))::.lst ba 1 (bo.map aj)::H):=by
 have sO:=hok.gl;have hpl:=hok.pl;have hne:gs≠[]:=by rintro rfl;simp at hi
 refine Ev.iB rfl I1 rfl rfl rfl ?_;refine zE ?_;have bM:=hH;have hH:=hH.bO;have bL:(enterSt .rw s0).bs=s0.bs:=rfl;generalize enterSt .rw s0=S2 at*;refine zQ 22 ?_;refine qT hH at0 fun st hH=>?_;dsimp only[u2,u1,u3,u4,setMany,u5,u6,D.cells,Nat.reduceAdd,aF,aP,aj,ai] at hH;refine zQ 1 ?_;have hH:Has N S2 st (.box k (.mem 0 false (aF gs ba {s with i:=s.i+1}))::.lst ba 1 (bo.map aj)::H):=hH
 have BG:∀(st:St) (s3:dJ) (e:Int),e≠0→s3.e=0→pb gs s s3→Has N S2 st (.box k (.mem 0 false (aF gs ba s3))::.lst ba 1 (bo.map aj)::H)→∃d ae,Ev pv 95 [.ptr k 0 0,.int .i64 (s.i:Nat),.int .i64 e] st d ae∧d=.sl []∧∃s4,pb gs s s4∧Has N S2 ae (.box k (.mem 0 false (aF gs ba s4))::.lst ba 1 (bo.map aj)::H):=by
  intro st s3 e h0 h1 h2 hH;obtain⟨d,ae,hev,h4,hH⟩:=ck (s:=s3) s.i e (by omega) hH;obtain⟨w1,w2,w3,w4⟩:=cy (bo:=bo) (s:=s3) (i:=s.i) (e:=e) h1 h0;exact⟨d,ae,hev,h4,_,⟨w3.trans h2.1,w4.trans h2.2.1,by rw[w2];exact h2.2.2.1,by rw[w2];exact h2.2.2.2⟩,hH⟩
 refine zQ 3 ?_;obtain⟨_,st,hev,m,ok,mm,rfl,DJ,Qd,hH⟩:=rm (s:={s with i:=s.i+1}) sO (by show s.i+1≤_;omega) hne hH;refine qv hev ?_;refine zQ 6 ?_
 obtain⟨s1,kZ⟩:∃s1:dJ,({s with i:=s.i+1+mm}:dJ)=s1:=⟨_,rfl⟩
 have Fh:s1.e=0:=by rw[←kZ];exact he
 have Bn:pb gs s s1:=by rw[←kZ];exact⟨rfl,rfl,by show s.i<s.i+1+mm;omega,Qd⟩
 have hH:Has N S2 st (.box k (.mem 0 false (aF gs ba s1))::.lst ba 1 (bo.map aj)::H):=by rw[←kZ];exact hH
 clear kZ;refine zQ 8 ?_;refine EvC.iV (fun fr st=>∃(n:List UInt8) (en:Bool) (s3:dJ) (tmp:List (Nat×D)),fr=⟨14,[.ptr k 0 0,ij fr 1,ij fr 2,ij fr 3,.int .i64 (s.i:Nat),.str m,.bool ok,.str n,.bool en,ij fr 9,ij fr 10,ij fr 11,ij fr 12,ij fr 13],tmp⟩∧Has N S2 st (.box k (.mem 0 false (aF gs ba s3))::.lst ba 1 (bo.map aj)::H)∧(s3.e=0)∧(pb gs s s3)∧(n.length≤120)) ?_ ?_
 ·cases ok with
  |false=>
   have hD:false=false:=rfl;refine zQ 9 ?_;exact⟨m,false,s1,_,rfl,hH,Fh,Bn,DJ⟩
  |true=>
   have hD:true=true:=rfl;obtain⟨k1,k2,k3,k4,k5⟩:=eZ (gs:=gs) (s:=s1) (r:=44);have k5:=k5 Bn.2.2.2;refine zQ 4 ?_;obtain⟨_,st,hev,rfl,hH⟩:=cP (s:=s1) (by omega) 44 hH;refine qv hev ?_ (hg:=wi hD);refine zQ 2 ?_;generalize ch gs s1 44=s2 at*
   have DA:pb gs s s2:=⟨k1.trans Bn.1,k2.trans Bn.2.1,by have:=Bn.2.2.1;omega,k5⟩
   cases hb:gG gs s1.i 44 with
   |false=>
    refine zQ 2 ?_;exact⟨m,false,s2,_,rfl,hH,k3.trans Fh,DA,DJ⟩
   |true=>
    refine zQ 8 ?_;obtain⟨_,st,hev,n,there,Nt,rfl,Lh,hni,hH⟩:=rm (s:=s2) sO k5 hne hH;refine qv hev ?_;refine zQ 11 ?_;exact⟨n,!there,{s2 with i:=s2.i+Nt},_,rfl,hH,k3.trans Fh,⟨DA.1,DA.2.1,by have:=DA.2.2.1;show s.i<s2.i+Nt;omega,hni⟩,Lh⟩
 ·rintro fr st ⟨n,en,s3,tmp,hfr,hH,h1,h2,h3⟩;rw[hfr];clear hfr;generalize ij fr=ee;clear fr;obtain⟨k1,k2,k3,k4,k5⟩:=eZ (gs:=gs) (s:=s3) (r:=125);have k5:=k5 h2.2.2.2
  have zh:pb gs s (ch gs s3 125):=⟨k1.trans h2.1,k2.trans h2.2.1,by have:=h2.2.2.1;omega,k5⟩
  have Dz:(ch gs s3 125).e=0:=k3.trans h1
  cases ok with
  |false=>
   have bU:(!false)=true:=rfl;refine zQ 25 ?_;obtain⟨_,st,hev,rfl,s4,Qg,hH⟩:=BG _ s3 4 (by decide) h1 h2 hH;refine qv hev ?_;refine zQ 6 ?_;refine EvC.ret ⟨rx,_,_,_,rfl,af (rfl),?_⟩;exact⟨_,_,s4,rfl,Qg,bM.ak bL hH⟩
  |true=>
   have bU:(!true)=false:=rfl
   cases GH:(!gG gs s3.i 125) with
   |true=>
    refine zQ 7 ?_;obtain⟨_,st,hev,rfl,hH⟩:=cP (s:=s3) (by omega) 125 hH;refine qv hev ?_ (hg:=wi bU);refine zQ 12 ?_;generalize ch gs s3 125=s4 at*;refine zQ 5 ?_;obtain⟨_,st,hev,rfl,s5,FD,hH⟩:=BG _ s4 4 (by decide) Dz zh hH;refine qv hev ?_;refine zQ 6 ?_;refine EvC.ret ⟨rx,_,_,_,rfl,af (rfl),?_⟩;exact⟨_,_,s5,rfl,FD,bM.ak bL hH⟩
   |false=>
    have fh:True:=trivial
    cases en with
    |true=>
     have cm:(!true)=false:=rfl;refine zQ 7 ?_;obtain⟨_,st,hev,rfl,hH⟩:=cP (s:=s3) (by omega) 125 hH;refine qv hev ?_ (hg:=wi bU);refine zQ 9 ?_;refine EvO.pickF (wantD_is rfl rfl rfl GH) rfl cm (put_T rfl _) ?_;refine zQ 2 ?_;generalize ch gs s3 125=s4 at*;refine zQ 2 ?_;obtain⟨_,Dv,a1,f1,rfl⟩:=j_ (s0:=st) m (by omega);refine zQ 3 ?_;refine qv (Dv) ?_;refine zQ 15 ?_;obtain⟨_,Bj,a2,f2,rfl⟩:=j_ (s0:=st) [] (by simp);refine zQ 3 ?_;refine qv (Bj) ?_;refine zQ 8 ?_;refine EvC.cutT 78 (.bool (!f1||!f2)) [] ?_ (fun ff tmp htmp=>?_)
     ·refine zQ 3 ?_;refine EvO.two 75 rfl (fun bU=>?_) (fun bU=>?_)
      ·refine zQ 3 ?_;refine EvO.nil (leafT ?_ ?_)
       ·dsimp only[setW,List.foldl,nth,u2,u1]
        all_goals(first|rfl|simp)
       ·refine zF ?_
        all_goals(simp[bU];done)
      ·refine zQ 3 ?_;refine EvO.nil (leafT ?_ ?_)
       ·dsimp only[setW,List.foldl,nth,u2,u1]
        all_goals(first|rfl|simp)
       ·refine zF ?_
        all_goals(simp[bU];done)
     dsimp only[setW,List.foldl,nth,u2,u1];refine qc (fun zo=>?_) (fun zo=>?_)<;>try simp only[cs] at zo
     ·refine zQ 4 ?_;obtain⟨_,st,hev,rfl,s5,FD,hH⟩:=BG _ s4 2 (by decide) Dz zh hH;refine qv hev ?_;refine zQ 6 ?_;refine EvC.ret ⟨rx,_,_,_,rfl,af (rfl),?_⟩;exact⟨_,_,s5,rfl,FD,bM.ak bL hH⟩
     ·refine zQ 17 ?_;refine EvC.ret ⟨rx,_,_,_,rfl,af (rfl),?_⟩;exact⟨_,_,s4,rfl,zh,bM.ak bL hH⟩
    |false=>
     have cm:(!false)=true:=rfl;refine zQ 7 ?_;obtain⟨_,st,hev,rfl,hH⟩:=cP (s:=s3) (by omega) 125 hH;refine qv hev ?_ (hg:=wi bU);refine zQ 8 ?_;obtain⟨_,hle,v,rfl⟩:=Dk (s0:=st) n m;refine EvO.hcall (wantD_is rfl rfl rfl cm) rfl hle (put_T rfl _) ?_;refine EvO.pickT (wantD_is rfl rfl rfl GH) rfl cm (put_T rfl _) ?_;refine zQ 2 ?_;generalize ch gs s3 125=s4 at*
     cases v with
     |true=>
      refine zQ 5 ?_;obtain⟨_,st,hev,rfl,s5,FD,hH⟩:=BG _ s4 4 (by decide) Dz zh hH;refine qv hev ?_;refine zQ 6 ?_;refine EvC.ret ⟨rx,_,_,_,rfl,af (rfl),?_⟩;exact⟨_,_,s5,rfl,FD,bM.ak bL hH⟩
     |false=>
      refine zQ 2 ?_;obtain⟨_,Dv,a1,f1,rfl⟩:=j_ (s0:=st) m (by omega);refine zQ 3 ?_;refine qv (Dv) ?_;refine zQ 13 ?_;obtain⟨_,Bj,a2,f2,rfl⟩:=j_ (s0:=st) n (by omega);refine zQ 3 ?_;refine qv (Bj) ?_;refine zQ 8 ?_;refine EvC.cutT 78 (.bool (!f1||!f2)) [] ?_ (fun ff tmp htmp=>?_)
      ·refine zQ 3 ?_;refine EvO.two 75 rfl (fun bU=>?_) (fun bU=>?_)
       ·refine zQ 3 ?_;refine EvO.nil (leafT ?_ ?_)
        ·dsimp only[setW,List.foldl,nth,u2,u1]
         all_goals(first|rfl|simp)
        ·refine zF ?_
         all_goals(simp[bU];done)
       ·refine zQ 3 ?_;refine EvO.nil (leafT ?_ ?_)
        ·dsimp only[setW,List.foldl,nth,u2,u1]
         all_goals(first|rfl|simp)
        ·refine zF ?_
         all_goals(simp[bU];done)
      dsimp only[setW,List.foldl,nth,u2,u1];refine qc (fun zo=>?_) (fun zo=>?_)<;>try simp only[cs] at zo
      ·refine zQ 4 ?_;obtain⟨_,st,hev,rfl,s5,FD,hH⟩:=BG _ s4 2 (by decide) Dz zh hH;refine qv hev ?_;refine zQ 6 ?_;refine EvC.ret ⟨rx,_,_,_,rfl,af (rfl),?_⟩;exact⟨_,_,s5,rfl,FD,bM.ak bL hH⟩
      ·refine zQ 15 ?_;refine EvC.ret ⟨rx,_,_,_,rfl,af (rfl),?_⟩;exact⟨_,_,s4,rfl,zh,bM.ak bL hH⟩
def bW (fr:Go.V.Fr) (k:Nat):Go.V.D:=Go.V.nth .junk fr.loc k
theorem nM:∀{l:List D},(∀d∈l,bD d=true)→refs l=0
 |[],_=>rfl
 |d::l,h=>by
  have h1:=nM (l:=l) fun d hd=>h d (List.mem_cons_of_mem _ hd);have h2:=h d (List.mem_cons_self ..)
  have h3:d.ref=0:=by cases d<;>first|rfl|(simp[bD] at h2)
  simp only[refs,h1,h3,Nat.max_self]
theorem pT {l:List Nod} (h:∀n∈l,NdV n):refs (l.map aO).flatten=0:=
 nM fun d hd=>by
  obtain⟨e,he,x9⟩:=List.mem_flatten.1 hd;exact lF h e he d x9
def partC (l:List Nod):List D:=[tc l]
theorem tU {l:List (List Nod)} {i:Nat} {q:List Nod} (h:l[i]?=some q):(l.map partC)[i]?=some (partC q):=by rw[List.getElem?_map,h];rfl
def dY:List (List Nod)→Nat
 |[]=>0
 |l::ls=>l.length+dY ls
theorem cE:∀a b:List (List Nod),dY (a++b)=dY a+dY b
 |[],b=>by simp[dY]
 |l::a,b=>by rw[List.cons_append,dY,dY,cE a b];omega
theorem qQ {s0:St} {x:D} {parts:List (List Nod)} (op:Int) (hx:V.Rows s0 1 x (parts.map partC)) (hv:∀l∈parts,∀n∈l,NdV n) (hp:parts.length≤100000) (hs:dY parts≤100000):∃d,Ev pv 120 [.int .i64 op,x] s0 d s0∧∃l,d=tc l∧(∀n∈l,NdV n)∧(parts.length=1→l.length≤dY parts)∧l.length≤dY parts+1:=by
 refine Ev.CC rfl I_ rfl rfl rfl ?_;refine zE ?_;obtain⟨hSb,hF,hH⟩:=ri s0;generalize enterSt .ro s0=S at*;have hx:=Arg.of hx hSb;refine zQ 8 ?_;refine qn ?_;simp only[List.length_map];refine zQ 7 ?_
 by_cases h0:parts.length=0
 ·refine qD rfl (by simp[h0]) ?_;refine zQ 2 ?_;refine EvO.go (d:=.agg [.int .i64 1,.nul,.int .i64 0,.int .i64 0,.bool false,.int .i64 0,.int .i64 0]) (st1:=_) rfl rfl rfl (by dsimp only[Fr.put,u1,u2]<;>rfl) ?_;refine qh (s:=7) (vs:=[_]) hH fun k13 st Ia hH=>?_;refine zQ 2 ?_;have hfz:=gh (L:=s0.bs.length) (a:=[]) hH at0 (.inr ⟨rfl,rfl⟩) (fun k hk=>by have iv:k13+1=k+1:=hk;rw[←hSb];omega);refine EvC.ret ⟨rx,_,_,rfl,rl hSb hH (hfz),?_⟩;exact⟨_,rfl,A8 (by simp) (by omega),by omega,by simp⟩
 have LU:(((parts.length:Nat):Int)==0)=false:=by rw[beq_eq_false_iff_ne];omega
 refine qE rfl (by rw[LU]) ?_;refine zQ 5 ?_
 by_cases h1:parts.length=1
 ·obtain⟨q,hq⟩:∃q,parts[0]?=some q:=⟨parts[0]'(by omega),List.getElem?_eq_getElem _⟩
  have hr1:=tU hq
  have DD:parts=[q]:=by
   match parts,h1,hq with
   |[a],_,hq=>simp at hq;rw[hq]
  refine qD rfl (by simp[h1]) ?_;refine zQ 3 ?_;refine qr fun O3 Lb=>?_;refine zQ 3 ?_;refine EvC.ret ⟨rx,_,_,rfl,rl hSb hH (rfl),?_⟩;refine⟨q,rfl,hv q (List.mem_of_getElem? hq),fun _=>?_,?_⟩<;>rw[DD]<;>simp[dY]
 have Q8:(((parts.length:Nat):Int)==1)=false:=by rw[beq_eq_false_iff_ne];omega
 refine qE rfl (by rw[Q8]) ?_;refine zQ 5 ?_;refine qn ?_;simp only[List.length_map];refine EvO.go (d:=.agg [.int .i64 op,.nul,.int .i64 0,.int .i64 0,.bool false,.int .i64 0,.int .i64 (parts.length:Nat)]) (st1:=_) rfl rfl rfl (by dsimp only[Fr.put,u1,u2]<;>rfl) ?_;refine qh (s:=7) (vs:=[_]) hH fun k23 st H_ hH=>?_;refine zQ 6 ?_;refine qn ?_;simp only[List.length_map];refine zQ 2 ?_;have hH:Has s0.bs.length S st (.lst (.win k23 0 0 1 7) 7 [[.int .i64 op,.nul,.int .i64 0,.int .i64 0,.bool false,.int .i64 0,.int .i64 (parts.length:Nat)]]::[]):=hH;refine zQ 1 ?_;refine EvC.loop (fun mm fr st=>∃(i:Nat) (od:D) (es:List (List D)) (lo:List Nod),fr.clean=⟨27,[bW fr 0,bW fr 1,bW fr 2,bW fr 3,bW fr 4,od,bW fr 6,bW fr 7,bW fr 8,bW fr 9,bW fr 10,bW fr 11,bW fr 12,bW fr 13,bW fr 14,bW fr 15,bW fr 16,bW fr 17,bW fr 18,bW fr 19,bW fr 20,bW fr 21,bW fr 22,bW fr 23,x,.int .i64 (parts.length:Nat),.int .i64 (i:Nat)],[]⟩∧Has s0.bs.length S st [.lst od 7 es]∧(i+mm=parts.length)∧(es.map (·.map mQ)=lo.map aO)∧(∀e∈es,∀d∈e,mb d=true)∧(∀n∈lo,NdV n)∧(lo.length=1+dY (parts.take i))∧(∀k,od.ref=k+1→S.bs.length≤k)) (parts.length) ?_ ?_
 ·refine⟨0,.win k23 0 0 1 7,[[.int .i64 op,.nul,.int .i64 0,.int .i64 0,.bool false,.int .i64 0,.int .i64 (parts.length:Nat)]],[sr op 0 0 false 0 (parts.length:Nat) []],rfl,hH,by omega,rfl,?_,A8 (by simp) (by omega),by simp[dY],fun k hk=>by simp only[D.ref] at hk;omega⟩;intro e he d hd;simp only[List.mem_cons,List.not_mem_nil,or_false] at he;subst he;simp only[List.mem_cons,List.not_mem_nil,or_false] at hd
  rcases hd with rfl|rfl|rfl|rfl|rfl|rfl|rfl<;>rfl
 rintro mm fr st ⟨i,od,es,lo,hfr,hH,hi,mO,ht,Ey,hlen,Eu⟩;rw[hfr];clear hfr;generalize bW fr=ee;clear fr;refine zQ 4 ?_
 by_cases hlt:i<parts.length
 ·obtain⟨q,hq⟩:∃q,parts[i]?=some q:=⟨parts[i]'hlt,List.getElem?_eq_getElem _⟩
  have hr1:=tU hq;have JC:=hv q (List.mem_of_getElem? hq);have ng:es.length=lo.length:=by have:=congrArg List.length mO;simpa using this
  have Pn:parts.take (i+1)=parts.take i++[q]:=by rw[List.take_add_one,hq];rfl
  have KE:dY (parts.take (i+1))=dY (parts.take i)+q.length:=by rw[Pn,cE];simp[dY]
  have Pw:dY (parts.take (i+1))≤dY parts:=by
   have:=cE (parts.take (i+1)) (parts.drop (i+1));rw[List.take_append_drop] at this;omega
  refine qq<|qD rfl (by simp;omega) ?_;refine zQ 5 ?_;refine qr fun Sy P6=>?_;refine zQ 6 ?_;refine EvO.oK (s:=7) hH rfl (ev rfl) (ev rfl) at0 ((pU JC).rows st) rfl rfl rfl rfl rfl rfl rfl ⟨(Nat.le_of_ble_eq_true rfl),(Nat.le_of_ble_eq_true rfl)⟩ (fun _=>(put_T rfl _)) (by rw[List.length_map];omega) (.inl hF) Eu (fun Oy st Eu hH=>?_);dsimp only[u2] at hH;refine zQ 6 ?_;refine⟨mm-1,by omega,⟨i+1,Oy,es++q.map aO,lo++q,rfl,hH,by omega,by rw[List.map_append,List.map_append,mO,sm JC],?_,?_,by rw[List.length_append,hlen,KE];omega,Eu⟩⟩
  ·intro e he
   rcases List.mem_append.1 he with he|he
   ·exact ht e he
   ·exact nX JC e he
  ·intro n hn
   rcases List.mem_append.1 hn with hn|hn
   ·exact Ey n hn
   ·exact JC n hn
 ·refine qq<|qE rfl (by simp;omega) ?_;refine zQ 6 ?_;have hik:i=parts.length:=by omega
  rw[hik,List.take_length] at hlen;refine EvC.ret ⟨rx,_,_,rfl,rl hSb hH (gg hH at0 mO ht (fun k hk=>by have:=Eu k hk;rw[←hSb];exact this) (by decide)),?_⟩;exact⟨_,rfl,Ey,by omega,by omega⟩
def eM (fr:Go.V.Fr) (k:Nat):Go.V.D:=Go.V.nth .junk fr.loc k
theorem kU {N:Nat} {S st:St} {H:List aN} {a b c:aN} (h:Has N S st (a::b::c::H)):Has N S st (b::c::a::H):=by
 have h1:=h.front at1;have h2:=h1.front at2;exact h2.front at1
def jE (m:Nat):Prop:=∀{N k:Nat} {S s0:St} {H:List aN} {gs:List (Nat×Nat)} {ba:D} {bo:List Int} {s:dJ},jj gs bo→s.e=0→s.i≤gs.length→s.g≤4→s.o+m=20→Has N S s0 (.box k (.mem 0 false (aF gs ba s))::.lst ba 1 (bo.map aj)::H)→
 ∃d ae,Ev pv 94 [.ptr k 0 0] s0 d ae∧∃(s':dJ),ta gs s s' d∧Has N S ae (.box k (.mem 0 false (aF gs ba s'))::.lst ba 1 (bo.map aj)::H)
theorem BV {m:Nat} (hA:∀m',m'+1=m→jE m') {N k:Nat} {S s0:St} {H:List aN} {gs:List (Nat×Nat)} {ba:D} {bo:List Int} {s:dJ} (hok:jj gs bo) (he:s.e=0) (hi:s.i<gs.length) (hg:s.g≤4) (ho:s.o+m=20) (hH:Has N S s0 (.box k (.mem 0 false (aF gs ba s))::.lst ba 1 (bo.map aj)::H)):
  ∃d ae,Ev pv 155 [.ptr k 0 0] s0 d ae∧∃(s':dJ),gD gs s s' d 2∧Has N S ae (.box k (.mem 0 false (aF gs ba s'))::.lst ba 1 (bo.map aj)::H):=by
 have sO:=hok.gl;have hpl:=hok.pl;refine Ev.iB rfl IY rfl rfl rfl ?_;refine zE ?_;have bM:=hH;have hH:=hH.bO;have bL:(enterSt .rw s0).bs=s0.bs:=rfl;generalize enterSt .rw s0=S2 at*
 have hwr:∀(st:St) (s3:dJ) (e:Int) (H2:List aN),e≠0→s3.e=0→s3.o=s.o→s3.g≤4→s.i≤s3.i→s3.i≤gs.length→Has N S2 st (.box k (.mem 0 false (aF gs ba s3))::.lst ba 1 (bo.map aj)::H2)→∃d ae,Ev pv 95 [.ptr k 0 0,.int .i64 (s.i:Nat),.int .i64 e] st d ae∧d=.sl []∧∃s4,gD gs s s4 (.sl []) 2∧Has N S2 ae (.box k (.mem 0 false (aF gs ba s4))::.lst ba 1 (bo.map aj)::H2):=by
  intro st s3 e H2 h0 h1 h2 h3 h4 h5 hH;obtain⟨d,ae,hev,h6,hH⟩:=ck (s:=s3) s.i e (by omega) hH;obtain⟨w1,w2,w3,w4⟩:=cy (bo:=bo) (s:=s3) (i:=s.i) (e:=e) h1 h0;exact⟨d,ae,hev,h6,_,eJ (w3.trans h2) (by omega) (by omega) (by omega) w1,hH⟩
 refine zQ 21 ?_;refine qT hH at0 fun st hH=>?_;dsimp only[u2,u1,u3,u4,setMany,u5,u6,D.cells,Nat.reduceAdd,aF,aP,aj,ai,aO] at hH;refine zQ 1 ?_;have hH:Has N S2 st (.box k (.mem 0 false (aF gs ba {s with i:=s.i+1}))::.lst ba 1 (bo.map aj)::H):=hH
 obtain⟨s1,kZ⟩:∃s1:dJ,({s with i:=s.i+1}:dJ)=s1:=⟨_,rfl⟩
 have KJ:s1.e=0∧s1.o=s.o∧s1.g=s.g∧s1.i=s.i+1:=by rw[←kZ];exact⟨he,rfl,rfl,rfl⟩
 rw[kZ] at hH;clear kZ;obtain⟨f1,f2,f3,f4⟩:=KJ;refine zQ 6 ?_;refine EvC.iV (fun fr st=>∃(free:Bool) (s2:dJ) (tmp:List (Nat×D)),fr=⟨7,[.ptr k 0 0,eM fr 1,eM fr 2,.int .i64 (s.i:Nat),.bool free,eM fr 5,eM fr 6],tmp⟩∧Has N S2 st (.box k (.mem 0 false (aF gs ba s2))::.lst ba 1 (bo.map aj)::H)∧(s2.e=0)∧(s2.o=s.o)∧(s2.g=s.g)∧(s.i+1≤s2.i)∧(s2.i≤gs.length)) ?_ ?_
 ·obtain⟨k1,k2,k3,k4,k5⟩:=eZ (gs:=gs) (s:=s1) (r:=63);have k5:=k5 (by omega);refine zQ 2 ?_;obtain⟨_,st,hev,rfl,hH⟩:=cP (s:=s1) (by omega) 63 hH;refine qv hev ?_;refine zQ 1 ?_;generalize ch gs s1 63=s2 at*
  cases hb:gG gs s1.i 63 with
  |false=>
   refine zQ 2 ?_;exact⟨false,s2,_,rfl,hH,by omega,by omega,by omega,by omega,by omega⟩
  |true=>
   refine zQ 5 ?_;obtain⟨r1,r2,r3,r4,r5⟩:=eZ (gs:=gs) (s:=s2) (r:=58);have r5:=r5 k5;refine zQ 3 ?_;obtain⟨_,st,hev,rfl,hH⟩:=cP (s:=s2) (by omega) 58 hH;refine qv hev ?_;refine zQ 2 ?_;generalize ch gs s2 58=s3 at*
   cases hb2:gG gs s2.i 58 with
   |false=>
    refine zQ 5 ?_;obtain⟨_,st,hev,rfl,s4,hN,hH⟩:=hwr _ s3 4 _ (by decide) (by omega) (by omega) (by omega) (by omega) (by omega) hH;refine qv hev ?_;refine zQ 2 ?_;refine EvC.ret ⟨rx,_,_,_,rfl,af (rfl),?_⟩;exact⟨s4,hN,bM.ak bL hH⟩
   |true=>
    refine zQ 2 ?_;exact⟨true,s3,_,rfl,hH,by omega,by omega,by omega,by omega,by omega⟩
 ·rintro fr st ⟨free,s2,tmp,hfr,hH,h1,h2,h3,h4,h5⟩;rw[hfr];clear hfr;generalize eM fr=ee;clear fr;refine zQ 9 ?_
  by_cases N2:20≤s2.o
  ·have hcc:decide (((s2.o:Nat):Int)≥20)=true:=by rw[decide_eq_true_eq];omega
   refine qD rfl (by rw[hcc]) ?_;refine zQ 4 ?_;obtain⟨_,st,hev,rfl,s4,hN,hH⟩:=hwr _ s2 10 _ (by decide) h1 h2 (by omega) (by omega) h5 hH;refine qv hev ?_;refine zQ 2 ?_;refine EvC.ret ⟨rx,_,_,_,rfl,af (rfl),?_⟩;exact⟨s4,hN,bM.ak bL hH⟩
  have hcc:decide (((s2.o:Nat):Int)≥20)=false:=by rw[decide_eq_false_iff_not];omega
  refine qE rfl (by rw[hcc]) ?_;refine zQ 3 ?_;refine EvO.go (d:=.agg [.int .i64 6,.nul,.int .i64 0,.int .i64 0,.bool false,.int .i64 0,.int .i64 1]) (st1:=_) rfl rfl rfl (put_T rfl _) ?_;refine qa hH fun k5 st FJ hH=>?_;dsimp only[u2,u1,u3,u4,setMany,u5,u6,D.cells,Nat.reduceAdd,aF,aP,aj,ai,aO] at hH;refine qS hH at0 fun st hH=>?_;dsimp only[u2,u1,u3,u4,setMany,u5,u6,D.cells,Nat.reduceAdd,aF,aP,aj,ai,aO] at hH;refine zQ 1 ?_;have hH:Has N S2 st (.box k (.mem 0 false (aF gs ba s2))::.lst ba 1 (bo.map aj)::.box k5 (.mem 0 false [.int .i64 6,.nul,.int .i64 0,.int .i64 0,.bool false,.int .i64 0,.int .i64 1])::H):=kU hH;refine zQ 2 ?_;refine EvC.iV (fun fr st=>∃(cap:Int) (s3:dJ) (tmp:List (Nat×D)),fr=⟨7,[.ptr k 0 0,eM fr 1,eM fr 2,.int .i64 (s.i:Nat),.bool free,.ptr k5 0 0,eM fr 6],tmp⟩∧Has N S2 st (.box k (.mem 0 false (aF gs ba s3))::.lst ba 1 (bo.map aj)::.box k5 (.mem 0 false [.int .i64 6,.nul,.int .i64 0,.int .i64 0,.bool false,.int .i64 cap,.int .i64 1])::H)∧(s3.e=0)∧(s3.o=s.o)∧(s3.g≤4)∧(s3.i=s2.i)) ?_ ?_
  ·refine zQ 4 ?_
   cases free with
   |true=>
    refine zQ 2 ?_;exact⟨0,s2,_,rfl,hH,h1,h2,by omega,rfl⟩
   |false=>
    refine zQ 10 ?_
    by_cases NQ:4≤s2.g
    ·have hcc:decide (((s2.g:Nat):Int)≥4)=true:=by rw[decide_eq_true_eq];omega
     refine qD rfl (by rw[hcc]) ?_;refine zQ 4 ?_;obtain⟨_,st,hev,rfl,s4,hN,hH⟩:=hwr _ s2 13 _ (by decide) h1 h2 (by omega) (by omega) h5 hH;refine qv hev ?_;refine zQ 2 ?_;refine EvC.ret ⟨rx,_,_,_,rfl,af (rfl),?_⟩;exact⟨s4,hN,bM.ak bL (hH.erase 2)⟩
    ·have hcc:decide (((s2.g:Nat):Int)≥4)=false:=by rw[decide_eq_false_iff_not];omega
     refine qE rfl (by rw[hcc]) ?_;refine zQ 10 ?_;refine qT hH at0 fun st hH=>?_;dsimp only[u2,u1,u3,u4,setMany,u5,u6,D.cells,Nat.reduceAdd,aF,aP,aj,ai,aO] at hH;refine zQ 7 ?_;refine qT hH at2 fun st hH=>?_;dsimp only[u2,u1,u3,u4,setMany,u5,u6,D.cells,Nat.reduceAdd,aF,aP,aj,ai,aO] at hH;refine zQ 1 ?_;exact⟨((s2.g+1:Nat):Int),{s2 with g:=s2.g+1},_,rfl,hH,h1,h2,by show s2.g+1≤4;omega,rfl⟩
  ·rintro fr st ⟨cap,s3,tmp,hfr,hH,e1,e2,e3,e4⟩;rw[hfr];clear hfr;generalize eM fr=ee;clear fr;refine zQ 9 ?_;refine qT hH at0 fun st hH=>?_;dsimp only[u2,u1,u3,u4,setMany,u5,u6,D.cells,Nat.reduceAdd,aF,aP,aj,ai,aO] at hH;refine zQ 1 ?_;have hH:Has N S2 st (.box k (.mem 0 false (aF gs ba {s3 with o:=s3.o+1}))::.lst ba 1 (bo.map aj)::.box k5 (.mem 0 false [.int .i64 6,.nul,.int .i64 0,.int .i64 0,.bool false,.int .i64 cap,.int .i64 1])::H):=hH;refine zQ 3 ?_;obtain⟨_,st,hev,s4,⟨a1,a2,a3,a4,l,rfl,a5,a6⟩,hH⟩:=hA (m-1) (by omega) (s:={s3 with o:=s3.o+1}) hok e1 (by show s3.i≤_;omega) e3 (by show s3.o+1+(m-1)=20;omega) hH;refine qv hev ?_;refine zQ 2 ?_;have a1:s4.o=s3.o+1:=a1;have a3:s3.i≤s4.i:=a3;have a6:l.length≤4*(s4.i-s3.i)+1:=a6;have hla:=(pU a5).arg N S2;refine zQ 6 ?_;refine EvO.kb (z:=((s.o:Nat):Int)) rfl (ev rfl) (ev rfl) (by(try simp only[List.length_reverse,List.length_cons,List.length_nil,List.length_append,List.length_map,List.length_set]);rw[wrap_i64 (by omega) (by omega)]<;>omega) (put_T rfl _) ?_;refine zQ 2 ?_;refine qT hH at0 fun st hH=>?_;dsimp only[u2,u1,u3,u4,setMany,u5,u6,D.cells,Nat.reduceAdd,aF,aP,aj,ai,aO] at hH;refine zQ 1 ?_
   obtain⟨s5,KI⟩:∃s5:dJ,({s4 with o:=s.o}:dJ)=s5:=⟨_,rfl⟩
   have hH:Has N S2 st (.box k (.mem 0 false (aF gs ba s5))::.lst ba 1 (bo.map aj)::.box k5 (.mem 0 false [.int .i64 6,.nul,.int .i64 0,.int .i64 0,.bool false,.int .i64 cap,.int .i64 1])::H):=by rw[←KI];exact hH
   have KH:s5.o=s.o∧s5.g=s4.g∧s5.i=s4.i:=by rw[←KI];exact⟨rfl,rfl,rfl⟩
   clear KI;obtain⟨b1,b2,b3⟩:=KH;refine zQ 2 ?_;refine EvC.iV (fun fr st=>∃(s6:dJ) (tmp:List (Nat×D)),fr=⟨7,[.ptr k 0 0,eM fr 1,eM fr 2,eM fr 3,.bool free,.ptr k5 0 0,tc l],tmp⟩∧Has N S2 st (.box k (.mem 0 false (aF gs ba s6))::.lst ba 1 (bo.map aj)::.box k5 (.mem 0 false [.int .i64 6,.nul,.int .i64 0,.int .i64 0,.bool false,.int .i64 cap,.int .i64 1])::H)∧(s6.o=s.o)∧(s6.g≤4)∧(s4.i≤s6.i)∧(s6.i≤gs.length)∧(s6.e≠0∨s6.e=0∧s4.i<s6.i)) ?_ ?_
   ·by_cases LH:s5.e=0
    ·have gd:(s5.e==0)=true:=by simpa using LH
     obtain⟨k1,k2,k3,k4,Ny⟩:=eZ (gs:=gs) (s:=s5) (r:=41);have Ny:=Ny (by omega);have hsk:gG gs s5.i 41=true→(ch gs s5 41).i=s5.i+1:=fun h=>by unfold ch;rw[if_pos h]
     refine zQ 8 ?_;obtain⟨_,st,hev,rfl,hH⟩:=cP (s:=s5) (by omega) 41 hH;refine qv hev ?_ (hg:=wi gd);refine zQ 3 ?_;generalize ch gs s5 41=s6 at*
     cases hb:gG gs s5.i 41 with
     |false=>
      refine zQ 5 ?_;obtain⟨_,st,hev,rfl,s7,hN,hH⟩:=hwr _ s6 4 _ (by decide) (by omega) (by omega) (by omega) (by omega) (by omega) hH;refine qv hev ?_;refine zQ 2 ?_;refine EvC.ret ⟨rx,_,_,_,rfl,af (rfl),?_⟩;exact⟨s7,hN,bM.ak bL (hH.erase 2)⟩
     |true=>
      have hsk:=hsk hb;refine zQ 2 ?_;exact⟨s6,_,rfl,hH,by omega,by omega,by omega,by omega,.inr ⟨by omega,by omega⟩⟩
    ·have gd:(s5.e==0)=false:=by simpa using LH
     refine zQ 14 ?_;exact⟨s5,_,rfl,hH,b1,by omega,by omega,by omega,.inl LH⟩
   ·rintro fr st ⟨s6,tmp,hfr,hH,c1,c2,c3,c4,c5⟩;rw[hfr];clear hfr;generalize eM fr=ee;clear fr;refine zQ 5 ?_
    cases free with
    |true=>
     refine zQ 6 ?_;refine EvC.ret ⟨rx,_,_,_,rfl,af (rfl),?_⟩;refine⟨s6,⟨c1,c2,by omega,c4,l,rfl,a5,by omega,?_⟩,bM.ak bL (hH.erase 2)⟩
     rcases c5 with c5|⟨c5,c6⟩
     ·exact .inl c5
     ·exact .inr ⟨c5,by omega⟩
    |false=>
     refine zQ 4 ?_;refine EvO.hloadS (m:=7) hH rfl (ev rfl) (by exact at2) (by dsimp only[List.drop_succ_cons,List.drop_zero,List.take_succ_cons,List.take_zero,aF,aP,aj,ai,aO]<;>rfl) rfl rfl (put_T rfl _) ?_;refine qh (s:=7) (vs:=[_]) hH fun k89 st Qo hH=>?_;dsimp only[u2,u1,u3,u4,setMany,u5,u6,D.cells,Nat.reduceAdd,aF,aP,aj,ai,aO] at hH;refine qm ?_;refine EvO.oK (s:=7) hH rfl (ev rfl) (ev rfl) at0 ((pU a5).rows st) rfl rfl rfl rfl rfl rfl rfl ⟨(Nat.le_of_ble_eq_true rfl),(Nat.le_of_ble_eq_true rfl)⟩ (fun _=>(put_T rfl _)) (by simp only[List.length_map,List.length_cons,List.length_nil];omega) (.inr (pT a5)) (fun k hk=>by have iv:k89+1=k+1:=hk;omega) (fun Om st Eu hH=>?_);dsimp only[u2] at hH;refine zQ 2 ?_;have hH:Has N S2 st (.lst Om 7 ([.int .i64 6,.nul,.int .i64 0,.int .i64 0,.bool false,.int .i64 cap,.int .i64 1]::l.map aO)::.box k (.mem 0 false (aF gs ba s6))::.lst ba 1 (bo.map aj)::.box k5 (.mem 0 false [.int .i64 6,.nul,.int .i64 0,.int .i64 0,.bool false,.int .i64 cap,.int .i64 1])::H):=hH
     have hfz:=gg (L:=s0.bs.length) (l:=sr 6 0 0 false cap 1 []::l) hH at0 (by rw[List.map_cons,sm a5];rfl) (fun e he d hd=>by
      rcases List.mem_cons.1 he with rfl|he
      ·simp only[List.mem_cons,List.not_mem_nil,or_false] at hd
       rcases hd with rfl|rfl|rfl|rfl|rfl|rfl|rfl<;>rfl
      ·exact nX a5 e he d hd) (fun k hk=>by rw[←bL];exact Eu k hk) (n:=16) (by decide)
     refine EvC.ret ⟨rx,_,_,_,rfl,af hfz,⟨s6,⟨c1,c2,by omega,c4,_,rfl,?_,by simp only[List.length_cons];omega,?_⟩,bM.ak bL ((hH.drop 1).erase 2)⟩⟩
     ·intro n hn
      rcases List.mem_cons.1 hn with rfl|hn
      ·exact⟨rfl,by simp[sr],by simp[sr]⟩
      ·exact a5 n hn
     ·rcases c5 with c5|⟨c5,c6⟩
      ·exact .inl c5
      ·exact .inr ⟨c5,by simp only[List.length_cons];omega⟩
def wo (fr:Go.V.Fr) (k:Nat):Go.V.D:=Go.V.nth .junk fr.loc k
theorem mZ {gs:List (Nat×Nat)} {s:dJ} {r:Int} (h:gG gs s.i r=false):ch gs s r=s:=by
 unfold ch;rw[if_neg (by rw[h];simp)]
theorem kc {gs:List (Nat×Nat)} {s:dJ} {r:Int} (h:gG gs s.i r=true):(ch gs s r).i=s.i+1:=by
 unfold ch;rw[if_pos h]
theorem D_ {m:Nat} (hA:∀m',m'+1=m→jE m') {N k:Nat} {S s0:St} {H:List aN} {gs:List (Nat×Nat)} {ba:D} {bo:List Int} {s:dJ} (hok:jj gs bo) (he:s.e=0) (hi:s.i<gs.length) (hg:s.g≤4) (ho:s.o+m=20) (hH:Has N S s0 (.box k (.mem 0 false (aF gs ba s))::.lst ba 1 (bo.map aj)::H)):
  ∃d ae,Ev pv 143 [.ptr k 0 0] s0 d ae∧∃(s':dJ),gD gs s s' d 2∧Has N S ae (.box k (.mem 0 false (aF gs ba s'))::.lst ba 1 (bo.map aj)::H):=by
 have sO:=hok.gl;have hpl:=hok.pl;refine Ev.iB rfl I2 rfl rfl rfl ?_;refine zE ?_;have bM:=hH;have hH:=hH.bO;have bL:(enterSt .rw s0).bs=s0.bs:=rfl;generalize enterSt .rw s0=S2 at*;have DQ:Arg N S2 2 (db gs) (gs.map aP):=Arg.pure (fun st=>cN st gs)
 obtain⟨g,Ig⟩:∃g,gs[s.i]?=some g:=⟨gs[s.i]'hi,List.getElem?_eq_getElem _⟩
 have hr1:(gs.map aP)[s.i]?=some (aP g):=by rw[List.getElem?_map,Ig];rfl
 have hwr:∀(st:St),Has N S2 st (.box k (.mem 0 false (aF gs ba s))::.lst ba 1 (bo.map aj)::H)→∃d ae,Ev pv 95 [.ptr k 0 0,.int .i64 (s.i:Nat),.int .i64 4] st d ae∧d=.sl []∧∃s4,gD gs s s4 (.sl []) 2∧Has N S2 ae (.box k (.mem 0 false (aF gs ba s4))::.lst ba 1 (bo.map aj)::H):=by
  intro st hH;obtain⟨d,ae,hev,h6,hH⟩:=ck (s:=s) s.i 4 (by omega) hH;obtain⟨w1,w2,w3,w4⟩:=cy (bo:=bo) (s:=s) (i:=s.i) (e:=4) he (by decide);exact⟨d,ae,hev,h6,_,eJ w3 (by omega) (by omega) (by omega) w1,hH⟩
 have ir:∀(st:St) (s1:dJ) (op:Int) (w:D) (a:List Rg) (kk:Nat),(w=aX a∨w=.nul∧a=[])→a.length≤1048576→s1.o=s.o→s1.g≤4→s.i<s1.i→s1.i≤gs.length→S2.bs.length≤kk→Has N S2 st (.lst (.win kk 0 0 1 7) 7 [[.int .i64 op,w,.int .i64 0,.int .i64 0,.bool false,.int .i64 0,.int .i64 0]]::.box k (.mem 0 false (aF gs ba s1))::.lst ba 1 (bo.map aj)::H)→
   ∃d ae,b_ .rw false s0 st (.win kk 0 0 1 7)=some (d,ae)∧∃(s':dJ),gD gs s s' d 2∧Has N S ae (.box k (.mem 0 false (aF gs ba s'))::.lst ba 1 (bo.map aj)::H):=by
  intro st s1 op w a kk hw ha h1 h2 h3 h4 hk hH;have hfz:=gh hH at0 (L:=s0.bs.length) hw (fun k hk=>by simp only[D.ref] at hk;rw[←bL];omega);refine⟨_,_,af hfz,s1,⟨h1,h2,by omega,h4,_,rfl,A8 ha (by omega),by simp,?_⟩,bM.ak bL (hH.drop 1)⟩
  by_cases he:s1.e=0
  ·exact .inr ⟨he,by simp only[List.length_cons,List.length_nil];omega⟩
  ·exact .inl he
 refine zQ 17 ?_;obtain⟨_,st,hev,rfl,hH⟩:=xc (s:=s) s.i hi hH;refine qv hev ?_;refine zQ 1 ?_;refine qc (fun hb=>?_) (fun hb=>?_)<;>try simp only[cs] at hb
 ·refine zQ 4 ?_;obtain⟨_,st,hev,rfl,s4,hN,hH⟩:=hwr _ hH;refine qv hev ?_;refine zQ 2 ?_;refine EvC.ret ⟨rx,_,_,_,rfl,af (rfl),?_⟩;exact⟨s4,hN,bM.ak bL hH⟩
 refine zQ 8 ?_;refine qr fun J3 Fw=>?_;refine qf (fo:=0) fun J2 Fv=>?_;refine zQ 13 ?_;refine zI (fun OL=>?_) fun OL=>?_
 ·refine zQ 3 ?_;obtain⟨_,st,hev,s4,⟨p1,p2,p3,p4,l,rfl,p5,p6,p7⟩,hH⟩:=BV hA hok he hi hg ho hH;refine qv hev ?_;refine zQ 2 ?_;refine EvC.ret ⟨rx,_,_,_,rfl,af (rfl),?_⟩;exact⟨s4,⟨p1,p2,p3,p4,l,rfl,p5,p6,p7⟩,bM.ak bL hH⟩
 refine zQ 5 ?_;refine zI (fun G3=>?_) fun G3=>?_
 ·refine zQ 3 ?_;obtain⟨_,st,hev,s4,⟨p1,p2,p3,p4,l,rfl,p5,p6,p7⟩,hH⟩:=B_ hok he hi hg hH;refine qv hev ?_;refine zQ 2 ?_;refine EvC.ret ⟨rx,_,_,_,rfl,af (rfl),?_⟩;exact⟨s4,⟨p1,p2,p3,p4,l,rfl,p5,p6,p7⟩,bM.ak bL hH⟩
 refine zQ 5 ?_;refine zI (fun OJ=>?_) fun OJ=>?_
 ·refine zQ 3 ?_;obtain⟨_,st,hev,d1,b,s4,rfl,⟨p1,p2,p3,p4,p5,p6⟩,hH⟩:=xz (s:=s) hok he hi hH;refine qv hev ?_;refine zQ 6 ?_
  have DT:∀(st:St) (w:D) (a:List Rg) (kk:Nat),(w=aX a∨w=.nul∧a=[])→a.length≤8→S2.bs.length≤kk→Has N S2 st (.lst (.win kk 0 0 1 7) 7 [[.int .i64 2,w,.int .i64 0,.int .i64 0,.bool false,.int .i64 0,.int .i64 0]]::.box k (.mem 0 false (aF gs ba s4))::.lst ba 1 (bo.map aj)::H)→∃d ae,b_ .rw false s0 st (.win kk 0 0 1 7)=some (d,ae)∧∃(s':dJ),gD gs s s' d 2∧Has N S ae (.box k (.mem 0 false (aF gs ba s'))::.lst ba 1 (bo.map aj)::H):=by
   intro st w a kk hw ha hk hH;have hfz:=gh hH at0 (L:=s0.bs.length) hw (fun k hk=>by simp only[D.ref] at hk;rw[←bL];omega);refine⟨_,_,af hfz,s4,⟨p1,by omega,by omega,p4,_,rfl,A8 (by omega) (by omega),by simp,?_⟩,bM.ak bL (hH.drop 1)⟩
   rcases p6 with p6|⟨p6,p7,_⟩
   ·exact .inl p6
   ·exact .inr ⟨p6,by simp only[List.length_cons,List.length_nil];omega⟩
  rcases p5 with rfl|⟨a,rfl,ha⟩
  ·refine zQ 3 ?_;refine EvO.eI (qs:=[(0,_),(1,_)]) rfl rfl rfl rfl ⟨rfl,(ev rfl),(by rfl),rfl,(ev rfl),(by rfl),trivial⟩ (by intro q hq;simp only[List.mem_cons,List.not_mem_nil,or_false] at hq;rcases hq with rfl|rfl<;>exact⟨rfl,by exact Nat.le_of_ble_eq_true rfl⟩) (by show List.foldl _ [_,_,_,_,_,_,_] _=_;dsimp only[List.foldl_cons,List.foldl_nil,u2,u1]<;>rfl) (put_T rfl _) ?_;refine qh (s:=7) (vs:=[_]) hH fun k54 st FI hH=>?_;dsimp only[u2,u1,u3,u4,setMany,u5,u6,D.cells,Nat.reduceAdd,aF,aP,aj,ai,aO] at hH;refine zQ 2 ?_;obtain⟨d',ae,uI,fh⟩:=DT _ .nul [] k54 (.inr ⟨rfl,rfl⟩) (by simp) FI hH;refine EvC.ret ⟨rx,_,d',ae,rfl,uI,fh⟩
  ·refine zQ 3 ?_;refine EvO.eI (qs:=[(0,_),(1,_)]) rfl rfl rfl rfl ⟨rfl,(ev rfl),(by rfl),rfl,(ev rfl),(by rfl),trivial⟩ (by intro q hq;simp only[List.mem_cons,List.not_mem_nil,or_false] at hq;rcases hq with rfl|rfl<;>exact⟨rfl,by exact Nat.le_of_ble_eq_true rfl⟩) (by show List.foldl _ [_,_,_,_,_,_,_] _=_;dsimp only[List.foldl_cons,List.foldl_nil,u2,u1]<;>rfl) (put_T rfl _) ?_;refine qh (s:=7) (vs:=[_]) hH fun k54 st FI hH=>?_;dsimp only[u2,u1,u3,u4,setMany,u5,u6,D.cells,Nat.reduceAdd,aF,aP,aj,ai,aO] at hH;refine zQ 2 ?_;obtain⟨d',ae,uI,fh⟩:=DT _ (aX a) a k54 (.inl rfl) ha FI hH;refine EvC.ret ⟨rx,_,d',ae,rfl,uI,fh⟩
 refine zQ 5 ?_;refine zI (fun OK=>?_) fun OK=>?_
 ·refine zQ 9 ?_;refine qT hH at0 fun st hH=>?_;dsimp only[u2,u1,u3,u4,setMany,u5,u6,D.cells,Nat.reduceAdd,aF,aP,aj,ai,aO] at hH;refine zQ 1 ?_;obtain⟨_,LI,a,rfl,hla⟩:=Ga (s0:=st);refine zQ 2 ?_;refine qv (LI) ?_;refine EvO.eI (qs:=[(0,_),(1,_)]) rfl rfl rfl rfl ⟨rfl,(ev rfl),(by rfl),rfl,(ev rfl),(by rfl),trivial⟩ (by intro q hq;simp only[List.mem_cons,List.not_mem_nil,or_false] at hq;rcases hq with rfl|rfl<;>exact⟨rfl,by exact Nat.le_of_ble_eq_true rfl⟩) (by show List.foldl _ [_,_,_,_,_,_,_] _=_;dsimp only[List.foldl_cons,List.foldl_nil,u2,u1]<;>rfl) (put_T rfl _) ?_;refine qh (s:=7) (vs:=[_]) hH fun k66 st Lo hH=>?_;refine zQ 2 ?_;obtain⟨d',ae,uI,fh⟩:=ir _ {s with i:=s.i+1} 2 (aX a) a k66 (.inl rfl) (by omega) rfl hg (by show s.i<s.i+1;omega) (by show s.i+1≤_;omega) Lo hH;refine EvC.ret ⟨rx,_,d',ae,rfl,uI,fh⟩
 refine zQ 5 ?_;refine zI (fun OI=>?_) fun OI=>?_
 ·refine zQ 9 ?_;refine qT hH at0 fun st hH=>?_;dsimp only[u2,u1,u3,u4,setMany,u5,u6,D.cells,Nat.reduceAdd,aF,aP,aj,ai,aO] at hH;refine zQ 3 ?_;refine EvO.go (d:=.agg [.int .i64 7,.nul,.int .i64 0,.int .i64 0,.bool false,.int .i64 0,.int .i64 0]) (st1:=_) rfl rfl rfl (put_T rfl _) ?_;refine qh (s:=7) (vs:=[_]) hH fun k77 st H7 hH=>?_;refine zQ 2 ?_;obtain⟨d',ae,uI,fh⟩:=ir _ {s with i:=s.i+1} 7 .nul [] k77 (.inr ⟨rfl,rfl⟩) (by simp) rfl hg (by show s.i<s.i+1;omega) (by show s.i+1≤_;omega) H7 hH;refine EvC.ret ⟨rx,_,d',ae,rfl,uI,fh⟩
 refine zQ 5 ?_;refine zI (fun OM=>?_) fun OM=>?_
 ·refine zQ 9 ?_;refine qT hH at0 fun st hH=>?_;dsimp only[u2,u1,u3,u4,setMany,u5,u6,D.cells,Nat.reduceAdd,aF,aP,aj,ai,aO] at hH;refine zQ 3 ?_;refine EvO.go (d:=.agg [.int .i64 8,.nul,.int .i64 0,.int .i64 0,.bool false,.int .i64 0,.int .i64 0]) (st1:=_) rfl rfl rfl (put_T rfl _) ?_;refine qh (s:=7) (vs:=[_]) hH fun k88 st H6 hH=>?_;refine zQ 2 ?_;obtain⟨d',ae,uI,fh⟩:=ir _ {s with i:=s.i+1} 8 .nul [] k88 (.inr ⟨rfl,rfl⟩) (by simp) rfl hg (by show s.i<s.i+1;omega) (by show s.i+1≤_;omega) H6 hH;refine EvC.ret ⟨rx,_,d',ae,rfl,uI,fh⟩
 refine zQ 6 ?_
 by_cases M0:((g.1:Nat):Int)=42
 ·refine qD rfl (by simp[M0]) ?_;refine zQ 1 ?_;refine qD rfl (by simp[M0]) ?_;refine zQ 4 ?_;obtain⟨_,st,hev,rfl,s4,hN,hH⟩:=hwr _ hH;refine qv hev ?_;refine zQ 2 ?_;refine EvC.ret ⟨rx,_,_,_,rfl,af (rfl),?_⟩;exact⟨s4,hN,bM.ak bL hH⟩
 refine qE rfl (by simp[M0]) ?_;refine zQ 5 ?_
 by_cases MZ:((g.1:Nat):Int)=43
 ·refine qD rfl (by simp[MZ]) ?_;refine zQ 1 ?_;refine qD rfl (by simp[MZ]) ?_;refine zQ 4 ?_;obtain⟨_,st,hev,rfl,s4,hN,hH⟩:=hwr _ hH;refine qv hev ?_;refine zQ 2 ?_;refine EvC.ret ⟨rx,_,_,_,rfl,af (rfl),?_⟩;exact⟨s4,hN,bM.ak bL hH⟩
 refine qE rfl (by simp[MZ]) ?_;refine zQ 5 ?_
 by_cases MY:((g.1:Nat):Int)=63
 ·refine qD rfl (by simp[MY]) ?_;refine zQ 1 ?_;refine qD rfl (by simp[MY]) ?_;refine zQ 4 ?_;obtain⟨_,st,hev,rfl,s4,hN,hH⟩:=hwr _ hH;refine qv hev ?_;refine zQ 2 ?_;refine EvC.ret ⟨rx,_,_,_,rfl,af (rfl),?_⟩;exact⟨s4,hN,bM.ak bL hH⟩
 refine qE rfl (by simp[MY]) ?_;refine zQ 5 ?_
 by_cases M1:((g.1:Nat):Int)=41
 ·refine qD rfl (by simp[M1]) ?_;refine zQ 1 ?_;refine qD rfl (by simp[M1]) ?_;refine zQ 4 ?_;obtain⟨_,st,hev,rfl,s4,hN,hH⟩:=hwr _ hH;refine qv hev ?_;refine zQ 2 ?_;refine EvC.ret ⟨rx,_,_,_,rfl,af (rfl),?_⟩;exact⟨s4,hN,bM.ak bL hH⟩
 refine qE rfl (by simp[M1]) ?_;refine zQ 5 ?_
 by_cases MX:((g.1:Nat):Int)=93
 ·refine qD rfl (by simp[MX]) ?_;refine zQ 1 ?_;refine qD rfl (by simp[MX]) ?_;refine zQ 4 ?_;obtain⟨_,st,hev,rfl,s4,hN,hH⟩:=hwr _ hH;refine qv hev ?_;refine zQ 2 ?_;refine EvC.ret ⟨rx,_,_,_,rfl,af (rfl),?_⟩;exact⟨s4,hN,bM.ak bL hH⟩
 refine qE rfl (by simp[MX]) ?_;refine zQ 5 ?_
 by_cases Gg:((g.1:Nat):Int)=123
 ·refine qD rfl (by simp[Gg]) ?_;refine zQ 1 ?_;refine qD rfl (by simp[Gg]) ?_;refine zQ 4 ?_;obtain⟨_,st,hev,rfl,s4,hN,hH⟩:=hwr _ hH;refine qv hev ?_;refine zQ 2 ?_;refine EvC.ret ⟨rx,_,_,_,rfl,af (rfl),?_⟩;exact⟨s4,hN,bM.ak bL hH⟩
 refine qE rfl (by simp[Gg]) ?_;refine zQ 5 ?_
 by_cases Gf:((g.1:Nat):Int)=125
 ·refine qD rfl (by simp[Gf]) ?_;refine zQ 1 ?_;refine qD rfl (by simp[Gf]) ?_;refine zQ 4 ?_;obtain⟨_,st,hev,rfl,s4,hN,hH⟩:=hwr _ hH;refine qv hev ?_;refine zQ 2 ?_;refine EvC.ret ⟨rx,_,_,_,rfl,af (rfl),?_⟩;exact⟨s4,hN,bM.ak bL hH⟩
 refine qE rfl (by simp[Gf]) ?_;refine zQ 4 ?_
 by_cases Jm:((g.1:Nat):Int)=124
 ·refine qD rfl (by simp[Jm]) ?_;refine zQ 4 ?_;obtain⟨_,st,hev,rfl,s4,hN,hH⟩:=hwr _ hH;refine qv hev ?_;refine zQ 2 ?_;refine EvC.ret ⟨rx,_,_,_,rfl,af (rfl),?_⟩;exact⟨s4,hN,bM.ak bL hH⟩
 refine qE rfl (by simp[Jm]) ?_;refine zQ 9 ?_;refine qT hH at0 fun st hH=>?_;dsimp only[u2,u1,u3,u4,setMany,u5,u6,D.cells,Nat.reduceAdd,aF,aP,aj,ai,aO] at hH;refine zQ 1 ?_;obtain⟨_,DJ,_⟩:=ki (s0:=s0) (x:=aX [(((g.1:Nat):Int),((g.1:Nat):Int))]) (l:=[(((g.1:Nat):Int),((g.1:Nat):Int))]) (ef _ _) (by simp);simp only[List.length_cons,List.length_nil] at DJ;refine zQ 3 ?_;refine qv (gI _) ?_;refine EvO.eI (qs:=[(0,_),(1,_)]) rfl rfl rfl rfl ⟨rfl,(ev rfl),(by rfl),rfl,(ev rfl),(by rfl),trivial⟩ (by intro q hq;simp only[List.mem_cons,List.not_mem_nil,or_false] at hq;rcases hq with rfl|rfl<;>exact⟨rfl,by exact Nat.le_of_ble_eq_true rfl⟩) (by show List.foldl _ [_,_,_,_,_,_,_] _=_;dsimp only[List.foldl_cons,List.foldl_nil,u2,u1]<;>rfl) (put_T rfl _) ?_;refine qh (s:=7) (vs:=[_]) hH fun k36 st H9 hH=>?_;refine zQ 2 ?_;obtain⟨d',ae,uI,fh⟩:=ir _ {s with i:=s.i+1} 2 _ _ k36 (.inl rfl) (by omega) rfl hg (by show s.i<s.i+1;omega) (by show s.i+1≤_;omega) H9 hH;refine EvC.ret ⟨rx,_,d',ae,rfl,uI,fh⟩
theorem Az {m:Nat} (hA:∀m',m'+1=m→jE m') {N k:Nat} {S s0:St} {H:List aN} {gs:List (Nat×Nat)} {ba:D} {bo:List Int} {s:dJ} (hok:jj gs bo) (he:s.e=0) (hi:s.i<gs.length) (hg:s.g≤4) (ho:s.o+m=20) (hH:Has N S s0 (.box k (.mem 0 false (aF gs ba s))::.lst ba 1 (bo.map aj)::H)):
  ∃d ae,Ev pv 131 [.ptr k 0 0] s0 d ae∧∃(s':dJ),gD gs s s' d 1∧Has N S ae (.box k (.mem 0 false (aF gs ba s'))::.lst ba 1 (bo.map aj)::H):=by
 have sO:=hok.gl;have hpl:=hok.pl;refine Ev.iB rfl I5 rfl rfl rfl ?_;refine zE ?_;have bM:=hH;have hH:=hH.bO;have bL:(enterSt .rw s0).bs=s0.bs:=rfl;generalize enterSt .rw s0=S2 at*;refine zQ 7 ?_;obtain⟨_,st,hev,s1,⟨p1,p2,p3,p4,l,rfl,p5,p6,p7⟩,hH⟩:=D_ hA hok he hi hg ho hH;refine qv hev ?_;refine zQ 11 ?_
 rcases p7 with p7|⟨p7,p8⟩
 ·refine qD rfl (by simp[p7]) ?_;refine zQ 4 ?_;refine EvC.ret ⟨rx,_,_,_,rfl,af (rfl),?_⟩;exact⟨s1,eJ p1 p2 p3 p4 p7,bM.ak bL hH⟩
 refine qE rfl (by simp[p7]) ?_;refine zQ 3 ?_;refine EvO.go (d:=.agg [.int .i64 5,.nul,.int .i64 0,.int .i64 0,.bool false,.int .i64 0,.int .i64 1]) (st1:=_) rfl rfl rfl (put_T rfl _) ?_;refine qa hH fun k4 st JF hH=>?_;dsimp only[u2,u1,u3,u4,setMany,u5,u6,D.cells,Nat.reduceAdd,aF,aP,aj,ai,aO] at hH;refine qS hH at0 fun st hH=>?_;dsimp only[u2,u1,u3,u4,setMany,u5,u6,D.cells,Nat.reduceAdd,aF,aP,aj,ai,aO] at hH;refine zQ 1 ?_;have hH:Has N S2 st (.box k (.mem 0 false (aF gs ba s1))::.lst ba 1 (bo.map aj)::.box k4 (.mem 0 false [.int .i64 5,.nul,.int .i64 0,.int .i64 0,.bool false,.int .i64 0,.int .i64 1])::H):=kU hH;refine qq<|EvC.merge (fun fr st=>∃(mn mx:Int) (s2:dJ) (tmp:List (Nat×D)),fr=⟨5,[.ptr k 0 0,wo fr 1,wo fr 2,tc l,.ptr k4 0 0],tmp⟩∧Has N S2 st (.box k (.mem 0 false (aF gs ba s2))::.lst ba 1 (bo.map aj)::.box k4 (.mem 0 false [.int .i64 5,.nul,.int .i64 mn,.int .i64 mx,.bool false,.int .i64 0,.int .i64 1])::H)∧(s2.o=s.o)∧(s2.g≤4)∧(s1.i<s2.i)∧(s2.i≤gs.length)) ?_ ?_
 ·refine zQ 4 ?_;obtain⟨_,st,hev,rfl,hH⟩:=cP (s:=s1) (by omega) 42 hH;refine qv hev ?_;refine zQ 2 ?_
  cases hb1:gG gs s1.i 42 with
  |true=>
   obtain⟨k1,k2,k3,Kn,k5⟩:=eZ (gs:=gs) (s:=s1) (r:=42);have k6:=kc hb1;have k7:=k5 p4;generalize ch gs s1 42=s2 at*;refine zQ 3 ?_;refine qT hH at2 fun st hH=>?_;dsimp only[u2,u1,u3,u4,setMany,u5,u6,D.cells,Nat.reduceAdd,aF,aP,aj,ai,aO] at hH;refine zQ 1 ?_;exact⟨0,-1,s2,_,rfl,hH,by omega,by omega,by omega,k7⟩
  |false=>
   rw[mZ hb1] at hH;refine zQ 4 ?_;obtain⟨_,st,hev,rfl,hH⟩:=cP (s:=s1) (by omega) 43 hH;refine qv hev ?_;refine zQ 2 ?_
   cases hb2:gG gs s1.i 43 with
   |true=>
    obtain⟨k1,k2,k3,Kn,k5⟩:=eZ (gs:=gs) (s:=s1) (r:=43);have k6:=kc hb2;have k7:=k5 p4;generalize ch gs s1 43=s2 at*;refine zQ 3 ?_;refine qT hH at2 fun st hH=>?_;dsimp only[u2,u1,u3,u4,setMany,u5,u6,D.cells,Nat.reduceAdd,aF,aP,aj,ai,aO] at hH;refine zQ 1 ?_;refine qT hH at2 fun st hH=>?_;dsimp only[u2,u1,u3,u4,setMany,u5,u6,D.cells,Nat.reduceAdd,aF,aP,aj,ai,aO] at hH;refine zQ 1 ?_;exact⟨1,-1,s2,_,rfl,hH,by omega,by omega,by omega,k7⟩
   |false=>
    rw[mZ hb2] at hH;refine zQ 4 ?_;obtain⟨_,st,hev,rfl,hH⟩:=cP (s:=s1) (by omega) 63 hH;refine qv hev ?_;refine zQ 2 ?_
    cases Iv:gG gs s1.i 63 with
    |true=>
     obtain⟨k1,k2,k3,Kn,k5⟩:=eZ (gs:=gs) (s:=s1) (r:=63);have k6:=kc Iv;have k7:=k5 p4;generalize ch gs s1 63=s2 at*;refine zQ 3 ?_;refine qT hH at2 fun st hH=>?_;dsimp only[u2,u1,u3,u4,setMany,u5,u6,D.cells,Nat.reduceAdd,aF,aP,aj,ai,aO] at hH;refine zQ 1 ?_;exact⟨0,1,s2,_,rfl,hH,by omega,by omega,by omega,k7⟩
    |false=>
     rw[mZ Iv] at hH;refine zQ 4 ?_;obtain⟨_,st,hev,rfl,hH⟩:=my (s:=s1) (by omega) 123 hH;refine qv hev ?_;refine zQ 2 ?_
     cases N4:gG gs s1.i 123 with
     |true=>
      have hlt:=ot N4;refine zQ 3 ?_;obtain⟨_,st,hev,n1,n2,s2,rfl,⟨m1,m2,m3,m4⟩,hH⟩:=AZ hok p7 hlt hH;refine qv hev ?_;refine zQ 4 ?_;refine qT hH at2 fun st hH=>?_;dsimp only[u2,u1,u3,u4,setMany,u5,u6,D.cells,Nat.reduceAdd,aF,aP,aj,ai,aO] at hH;refine zQ 1 ?_;refine qT hH at2 fun st hH=>?_;dsimp only[u2,u1,u3,u4,setMany,u5,u6,D.cells,Nat.reduceAdd,aF,aP,aj,ai,aO] at hH;refine zQ 1 ?_;exact⟨n1,n2,s2,_,rfl,hH,by omega,by omega,m3,m4⟩
     |false=>
      refine zQ 6 ?_;refine EvC.ret ⟨rx,_,_,_,rfl,af (rfl),?_⟩;exact⟨s1,⟨p1,p2,p3,p4,l,rfl,p5,p6,.inr ⟨p7,by omega⟩⟩,bM.ak bL (hH.erase 2)⟩
 ·rintro fr st ⟨mn,mx,s2,tmp,hfr,hH,h1,h2,h3,h4⟩;rw[hfr];clear hfr;generalize wo fr=ee;clear fr;refine zQ 9 ?_
  by_cases zp:s2.e=0
  ·refine qE rfl (by simp[zp]) ?_;refine zQ 1 ?_;obtain⟨k1,k2,k3,Kn,k5⟩:=eZ (gs:=gs) (s:=s2) (r:=63);have k7:=k5 h4;refine zQ 3 ?_;obtain⟨_,st,hev,rfl,hH⟩:=cP (s:=s2) (by omega) 63 hH;refine qv hev ?_;refine zQ 1 ?_;refine qT hH at2 fun st hH=>?_;dsimp only[u2,u1,u3,u4,setMany,u5,u6,D.cells,Nat.reduceAdd,aF,aP,aj,ai,aO] at hH;refine zQ 1 ?_;generalize ch gs s2 63=s3 at*;generalize gG gs s2.i 63=lz at*;have hla:=(pU p5).arg N S2;refine zQ 2 ?_;refine EvO.hloadS (m:=7) hH rfl (ev rfl) (by exact at2) (by dsimp only[List.drop_succ_cons,List.drop_zero,List.take_succ_cons,List.take_zero,aF,aP,aj,ai,aO]<;>rfl) rfl rfl (put_T rfl _) ?_;refine qh (s:=7) (vs:=[_]) hH fun k46 st Qy hH=>?_;refine qm ?_;refine EvO.oK (s:=7) hH rfl (ev rfl) (ev rfl) at0 ((pU p5).rows st) rfl rfl rfl rfl rfl rfl rfl ⟨(Nat.le_of_ble_eq_true rfl),(Nat.le_of_ble_eq_true rfl)⟩ (fun _=>(put_T rfl _)) (by simp only[List.length_map,List.length_cons,List.length_nil];omega) (.inr (pT p5)) (fun k hk=>by have iv:k46+1=k+1:=hk;omega) (fun JQ st Eu hH=>?_);dsimp only[u2] at hH;refine zQ 2 ?_;have hH:Has N S2 st (.lst JQ 7 ([.int .i64 5,.nul,.int .i64 mn,.int .i64 mx,.bool lz,.int .i64 0,.int .i64 1]::l.map aO)::.box k (.mem 0 false (aF gs ba s3))::.lst ba 1 (bo.map aj)::.box k4 (.mem 0 false [.int .i64 5,.nul,.int .i64 mn,.int .i64 mx,.bool lz,.int .i64 0,.int .i64 1])::H):=hH
   have hfz:=gg (L:=s0.bs.length) (l:=sr 5 mn mx lz 0 1 []::l) hH at0 (by rw[List.map_cons,sm p5];rfl) (fun e he d hd=>by
    rcases List.mem_cons.1 he with rfl|he
    ·simp only[List.mem_cons,List.not_mem_nil,or_false] at hd
     rcases hd with rfl|rfl|rfl|rfl|rfl|rfl|rfl<;>rfl
    ·exact nX p5 e he d hd) (fun k hk=>by rw[←bL];exact Eu k hk) (n:=16) (by decide)
   refine EvC.ret ⟨rx,_,_,_,rfl,af hfz,⟨s3,⟨by omega,by omega,by omega,k7,_,rfl,?_,by simp only[List.length_cons];omega,.inr ⟨by omega,by simp only[List.length_cons];omega⟩⟩,bM.ak bL ((hH.drop 1).erase 2)⟩⟩;intro n hn
   rcases List.mem_cons.1 hn with rfl|hn
   ·exact⟨rfl,by simp[sr],by simp[sr]⟩
   ·exact p5 n hn
  ·refine qD rfl (by simp[zp]) ?_;refine zQ 4 ?_;refine EvC.ret ⟨rx,_,_,_,rfl,af (rfl),?_⟩;exact⟨s2,eJ h1 h2 (by omega) h4 zp,bM.ak bL (hH.erase 2)⟩
def lN (fr:Go.V.Fr) (k:Nat):Go.V.D:=Go.V.nth .junk fr.loc k
theorem Cc {m:Nat} (hA:∀m',m'+1=m→jE m') {N k:Nat} {S s0:St} {H:List aN} {gs:List (Nat×Nat)} {ba:D} {bo:List Int} {s:dJ} (hok:jj gs bo) (he:s.e=0) (hi:s.i≤gs.length) (hg:s.g≤4) (ho:s.o+m=20) (hH:Has N S s0 (.box k (.mem 0 false (aF gs ba s))::.lst ba 1 (bo.map aj)::H)):
  ∃d ae,Ev pv 118 [.ptr k 0 0] s0 d ae∧∃(s':dJ),ta gs s s' d∧Has N S ae (.box k (.mem 0 false (aF gs ba s'))::.lst ba 1 (bo.map aj)::H):=by
 have sO:=hok.gl;have hpl:=hok.pl;refine Ev.iB rfl Ja rfl rfl rfl ?_;refine zE ?_;have bM:=hH;have hH:=hH.bO;have bL:(enterSt .rw s0).bs=s0.bs:=rfl;generalize enterSt .rw s0=S2 at*;have DQ:Arg N S2 2 (db gs) (gs.map aP):=Arg.pure (fun st=>cN st gs);refine zQ 8 ?_;have hH:Has N S2 S2 (.box k (.mem 0 false (aF gs ba s))::.lst ba 1 (bo.map aj)::.lst .nul 1 (([]:List (List Nod)).map partC)::H):=kU (hH.nulE 1);refine zQ 2 ?_;refine EvC.loop (fun mm fr st=>∃(s1:dJ) (pd:D) (parts:List (List Nod)),fr.clean=⟨4,[.ptr k 0 0,lN fr 1,lN fr 2,pd],[]⟩∧Has N S2 st (.box k (.mem 0 false (aF gs ba s1))::.lst ba 1 (bo.map aj)::.lst pd 1 (parts.map partC)::H)∧(s1.o=s.o)∧(s1.g≤4)∧(s.i≤s1.i)∧(s1.i≤gs.length)∧(∀l∈parts,∀n∈l,NdV n)∧(dY parts+parts.length≤4*(s1.i-s.i)+2)∧(s1.e=0→dY parts+parts.length≤4*(s1.i-s.i))∧(gs.length-s1.i+(if s1.e=0 then 1 else 0)≤mm)) (gs.length+1) ?_ ?_
 ·exact⟨s,.nul,[],rfl,hH,rfl,hg,Nat.le_refl _,hi,fun l hl=>(by cases hl),by simp[dY],fun _=>by simp[dY],by split<;>omega⟩
 rintro mm fr st ⟨s1,pd,parts,hfr,hH,h1,h2,h3,h4,h5,h6,h7,wA⟩;rw[hfr];clear hfr;generalize lN fr=ee;clear fr
 have oH:∀st:St,Has N S2 st (.box k (.mem 0 false (aF gs ba s1))::.lst ba 1 (bo.map aj)::.lst pd 1 (parts.map partC)::H)→∃d,Ev pv 120 [.int .i64 3,pd] st d st∧ta gs s s1 d∧∃l,d=tc l:=by
  intro st hH;obtain⟨_,hev,l,rfl,j1,j2,j3⟩:=qQ 3 (hH.rows at2) h5 (by omega) (by omega);refine⟨_,hev,⟨h1,h2,h3,h4,l,rfl,j1,?_⟩,l,rfl⟩
  by_cases q1:parts.length=1
  ·have:=j2 q1;omega
  ·by_cases q0:parts.length=0
   ·have:parts=[]:=List.length_eq_zero_iff.1 q0;rw[this] at j3 h6;simp[dY] at j3 h6;omega
   ·omega
 by_cases jZ:s1.e=0
 ·rw[if_pos jZ] at wA;have h7:=h7 jZ;have gd:(s1.e==0)=true:=by simpa using jZ
  by_cases hlt:s1.i<gs.length
  ·have bu:decide (((s1.i:Nat):Int)<((gs.length:Nat):Int))=true:=by rw[decide_eq_true_eq];omega
   cases dG:(!gG gs s1.i 124) with
   |false=>
    refine zQ 17 ?_;refine qn ?_ (hg:=wi gd);simp only[List.length_map];refine zQ 4 ?_;obtain⟨_,st,hev,rfl,hH⟩:=my (s:=s1) (by omega) 124 hH;refine qv hev ?_ (hg:=wi bu);refine zQ 17 ?_;obtain⟨_,BB,hQ,l,rfl⟩:=oH _ hH;refine zQ 3 ?_;refine qv (BB) ?_;refine zQ 2 ?_;refine EvC.ret ⟨rx,_,_,_,rfl,af (rfl),?_⟩;exact⟨s1,hQ,bM.ak bL (hH.erase 2)⟩
   |true=>
    cases cv:gG gs s1.i 41 with
    |false=>
     refine zQ 17 ?_;refine qn ?_ (hg:=wi gd);simp only[List.length_map];refine zQ 4 ?_;obtain⟨_,st,hev,rfl,hH⟩:=my (s:=s1) (by omega) 124 hH;refine qv hev ?_ (hg:=wi bu);refine zQ 4 ?_;obtain⟨_,st,hev,rfl,hH⟩:=my (s:=s1) (by omega) 41 hH;refine qv hev ?_ (hg:=wi dG);refine zQ 6 ?_;refine EvO.pickF (wantD_is rfl rfl rfl dG) rfl cv (put_T rfl _) ?_;refine zQ 9 ?_;obtain⟨_,st,hev,s2,⟨r1,r2,r3,r4,l,rfl,r5,r6,r7⟩,hH⟩:=Az hA hok (s:=s1) jZ hlt h2 (by omega) hH;refine qv hev ?_;refine qh (s:=1) (vs:=[_]) hH fun k41 st H8 hH=>?_;dsimp only[u2,u1,u3,u4,setMany,u5,u6,D.cells,Nat.reduceAdd,aF,aP,aj,ai,partC] at hH;refine EvO.happend (s:=1) hH rfl (ev rfl) (ev rfl) (by exact at3) (by exact hH.rows (by exact at0)) rfl rfl rfl rfl rfl rfl rfl ⟨(Nat.le_of_ble_eq_true rfl),(Nat.le_of_ble_eq_true rfl)⟩ (fun _=>(put_T rfl _)) (by simp only[List.length_cons,List.length_nil,List.length_map]<;>omega) (by exact .inr rfl) (fun GN st hH=>?_);dsimp only[u2,u1,u3,u4,setMany,u5,u6,D.cells,Nat.reduceAdd,aF,aP,aj,ai,partC] at hH;refine zQ 2 ?_;have hH:=hH.drop 1;refine⟨mm-1,by omega,⟨s2,GN,parts++[l],rfl,(by rw[List.map_append];exact hH),by omega,r2,by omega,r4,?_,by rw[cE,List.length_append];simp only[dY,List.length_cons,List.length_nil];omega,(fun e=>by rw[cE,List.length_append];simp only[dY,List.length_cons,List.length_nil];omega),by split<;>omega⟩⟩;intro l' hl'
     rcases List.mem_append.1 hl' with hl'|hl'
     ·exact h5 l' hl'
     ·simp only[List.mem_cons,List.not_mem_nil,or_false] at hl';subst hl';exact r5
    |true=>
     refine zQ 17 ?_;refine qn ?_ (hg:=wi gd);simp only[List.length_map];refine zQ 4 ?_;obtain⟨_,st,hev,rfl,hH⟩:=my (s:=s1) (by omega) 124 hH;refine qv hev ?_ (hg:=wi bu);refine zQ 4 ?_;obtain⟨_,st,hev,rfl,hH⟩:=my (s:=s1) (by omega) 41 hH;refine qv hev ?_ (hg:=wi dG);refine zQ 6 ?_;refine EvO.pickT (wantD_is rfl rfl rfl dG) rfl cv (put_T rfl _) ?_;refine zQ 3 ?_
     by_cases eB:0<s1.o
     ·have hcc:(!decide (((s1.o:Nat):Int)>0))=false:=by rw[decide_eq_true (by omega)];rfl
      refine qE rfl (by rw[hcc]) ?_;refine zQ 1 ?_;obtain⟨_,BB,hQ,l,rfl⟩:=oH _ hH;refine zQ 3 ?_;refine qv (BB) ?_;refine zQ 2 ?_;refine EvC.ret ⟨rx,_,_,_,rfl,af (rfl),?_⟩;exact⟨s1,hQ,bM.ak bL (hH.erase 2)⟩
     ·have hcc:(!decide (((s1.o:Nat):Int)>0))=true:=by rw[decide_eq_false (by omega)];rfl
      refine qD rfl (by rw[hcc]) ?_;refine zQ 5 ?_;obtain⟨_,st,hev,s2,⟨r1,r2,r3,r4,l,rfl,r5,r6,r7⟩,hH⟩:=Az hA hok (s:=s1) jZ hlt h2 (by omega) hH;refine qv hev ?_;refine qh (s:=1) (vs:=[_]) hH fun k41 st H8 hH=>?_;dsimp only[u2,u1,u3,u4,setMany,u5,u6,D.cells,Nat.reduceAdd,aF,aP,aj,ai,partC] at hH;refine EvO.happend (s:=1) hH rfl (ev rfl) (ev rfl) (by exact at3) (by exact hH.rows (by exact at0)) rfl rfl rfl rfl rfl rfl rfl ⟨(Nat.le_of_ble_eq_true rfl),(Nat.le_of_ble_eq_true rfl)⟩ (fun _=>(put_T rfl _)) (by simp only[List.length_cons,List.length_nil,List.length_map]<;>omega) (by exact .inr rfl) (fun GN st hH=>?_);dsimp only[u2,u1,u3,u4,setMany,u5,u6,D.cells,Nat.reduceAdd,aF,aP,aj,ai,partC] at hH;refine zQ 2 ?_;have hH:=hH.drop 1;refine⟨mm-1,by omega,⟨s2,GN,parts++[l],rfl,(by rw[List.map_append];exact hH),by omega,r2,by omega,r4,?_,by rw[cE,List.length_append];simp only[dY,List.length_cons,List.length_nil];omega,(fun e=>by rw[cE,List.length_append];simp only[dY,List.length_cons,List.length_nil];omega),by split<;>omega⟩⟩;intro l' hl'
      rcases List.mem_append.1 hl' with hl'|hl'
      ·exact h5 l' hl'
      ·simp only[List.mem_cons,List.not_mem_nil,or_false] at hl';subst hl';exact r5
  ·have bu:decide (((s1.i:Nat):Int)<((gs.length:Nat):Int))=false:=by rw[decide_eq_false_iff_not];omega
   refine zQ 17 ?_;refine qn ?_ (hg:=wi gd);simp only[List.length_map];refine zQ 22 ?_;obtain⟨_,BB,hQ,l,rfl⟩:=oH _ hH;refine zQ 3 ?_;refine qv (BB) ?_;refine zQ 2 ?_;refine EvC.ret ⟨rx,_,_,_,rfl,af (rfl),?_⟩;exact⟨s1,hQ,bM.ak bL (hH.erase 2)⟩
 ·have gd:(s1.e==0)=false:=by simpa using jZ
  refine zQ 40 ?_;obtain⟨_,BB,hQ,l,rfl⟩:=oH _ hH;refine zQ 3 ?_;refine qv (BB) ?_;refine zQ 2 ?_;refine EvC.ret ⟨rx,_,_,_,rfl,af (rfl),?_⟩;exact⟨s1,hQ,bM.ak bL (hH.erase 2)⟩
theorem Ec:∀m:Nat,jE m:=by
 intro m
 induction m using Nat.strongRecOn with
 |ind m ih0=>
 have hA:∀m',m'+1=m→jE m':=fun m' h=>ih0 m' (by omega);intro N k S s0 H gs ba bo s hok he hi hg ho hH;have sO:=hok.gl;have hpl:=hok.pl;refine Ev.iB rfl Mk rfl rfl rfl ?_;refine zE ?_;have bM:=hH;have hH:=hH.bO;have bL:(enterSt .rw s0).bs=s0.bs:=rfl;generalize enterSt .rw s0=S2 at*;refine zQ 7 ?_;obtain⟨_,st,hev,s1,⟨p1,p2,p3,p4,l,rfl,p5,p6⟩,hH⟩:=Cc hA hok he hi hg ho hH;refine qv hev ?_;refine qh (s:=1) (vs:=[_]) hH fun k6 st DP hH=>?_;dsimp only[u2,u1,u3,u4,setMany,u5,u6,D.cells,Nat.reduceAdd,aF,aP,aj,ai,partC] at hH;refine zQ 2 ?_;have hH:Has N S2 st (.box k (.mem 0 false (aF gs ba s1))::.lst ba 1 (bo.map aj)::.lst (.win k6 0 0 1 1) 1 ([l].map partC)::H):=kU hH;refine zQ 2 ?_;refine EvC.loop (fun mm fr st=>∃(s1:dJ) (pd:D) (parts:List (List Nod)),fr.clean=⟨4,[.ptr k 0 0,lN fr 1,lN fr 2,pd],[]⟩∧Has N S2 st (.box k (.mem 0 false (aF gs ba s1))::.lst ba 1 (bo.map aj)::.lst pd 1 (parts.map partC)::H)∧(s1.o=s.o)∧(s1.g≤4)∧(s.i≤s1.i)∧(s1.i≤gs.length)∧(∀l∈parts,∀n∈l,NdV n)∧(dY parts+3*parts.length≤4*(s1.i-s.i)+4)∧(1≤parts.length)∧(gs.length-s1.i≤mm)) (gs.length) ?_ ?_
 ·exact⟨s1,.win k6 0 0 1 1,[l],rfl,hH,p1,p2,p3,p4,(fun l' hl'=>by simp only[List.mem_cons,List.not_mem_nil,or_false] at hl';subst hl';exact p5),by simp only[dY,List.length_cons,List.length_nil];omega,by simp,by omega⟩
 rintro mm fr st ⟨s1,pd,parts,hfr,hH,h1,h2,h3,h4,h5,h6,h8,wA⟩;rw[hfr];clear hfr;generalize lN fr=ee;clear fr
 have oH:∀st:St,Has N S2 st (.box k (.mem 0 false (aF gs ba s1))::.lst ba 1 (bo.map aj)::.lst pd 1 (parts.map partC)::H)→∃d,Ev pv 120 [.int .i64 4,pd] st d st∧ta gs s s1 d∧∃l,d=tc l:=by
  intro st hH;obtain⟨_,hev,l,rfl,j1,j2,j3⟩:=qQ 4 (hH.rows at2) h5 (by omega) (by omega);refine⟨_,hev,⟨h1,h2,h3,h4,l,rfl,j1,?_⟩,l,rfl⟩
  by_cases q1:parts.length=1
  ·have:=j2 q1;omega
  ·omega
 by_cases jZ:s1.e=0
 ·have gd:(s1.e==0)=true:=by simpa using jZ
  obtain⟨k1,k2,k3,k4,k5⟩:=eZ (gs:=gs) (s:=s1) (r:=124);have k5:=k5 h4;refine zQ 10 ?_;obtain⟨_,st,hev,rfl,hH⟩:=cP (s:=s1) (by omega) 124 hH;refine qv hev ?_ (hg:=wi gd);refine zQ 2 ?_
  cases hb:gG gs s1.i 124 with
  |false=>
   rw[mZ hb] at hH;refine zQ 2 ?_;obtain⟨_,BB,hQ,l,rfl⟩:=oH _ hH;refine zQ 3 ?_;refine qv (BB) ?_;refine zQ 2 ?_;refine EvC.ret ⟨rx,_,_,_,rfl,af (rfl),?_⟩;exact⟨s1,hQ,bM.ak bL (hH.erase 2)⟩
  |true=>
   have k6:=kc hb;generalize ch gs s1 124=s2 at*;refine zQ 6 ?_;obtain⟨_,st,hev,s3,⟨r1,r2,r3,r4,l,rfl,r5,r6⟩,hH⟩:=Cc hA hok (s:=s2) (by omega) k5 (by omega) (by omega) hH;refine qv hev ?_;refine qh (s:=1) (vs:=[_]) hH fun k19 st QI hH=>?_;dsimp only[u2,u1,u3,u4,setMany,u5,u6,D.cells,Nat.reduceAdd,aF,aP,aj,ai,partC] at hH;refine EvO.happend (s:=1) hH rfl (ev rfl) (ev rfl) (by exact at3) (by exact hH.rows (by exact at0)) rfl rfl rfl rfl rfl rfl rfl ⟨(Nat.le_of_ble_eq_true rfl),(Nat.le_of_ble_eq_true rfl)⟩ (fun _=>(put_T rfl _)) (by simp only[List.length_cons,List.length_nil,List.length_map]<;>omega) (by exact .inr rfl) (fun M8 st hH=>?_);dsimp only[u2,u1,u3,u4,setMany,u5,u6,D.cells,Nat.reduceAdd,aF,aP,aj,ai,partC] at hH;refine zQ 2 ?_;have hH:=hH.drop 1;refine⟨mm-1,by omega,⟨s3,M8,parts++[l],rfl,(by rw[List.map_append];exact hH),by omega,r2,by omega,r4,?_,by rw[cE,List.length_append];simp only[dY,List.length_cons,List.length_nil];omega,by rw[List.length_append];omega,by omega⟩⟩;intro l' hl'
   rcases List.mem_append.1 hl' with hl'|hl'
   ·exact h5 l' hl'
   ·simp only[List.mem_cons,List.not_mem_nil,or_false] at hl';subst hl';exact r5
 ·have gd:(s1.e==0)=false:=by simpa using jZ
  refine zQ 15 ?_;obtain⟨_,BB,hQ,l,rfl⟩:=oH _ hH;refine zQ 3 ?_;refine qv (BB) ?_;refine zQ 2 ?_;refine EvC.ret ⟨rx,_,_,_,rfl,af (rfl),?_⟩;exact⟨s1,hQ,bM.ak bL (hH.erase 2)⟩
theorem vf:∀(n:Nat) (b:List UInt8),b.length≤n→(gY b).length≤b.length∧∀g∈gY b,g.2≤b.length:=by
 intro n
 induction n with
 |zero=>
  intro b hb;have:b=[]:=List.length_eq_zero_iff.1 (by omega);subst this;rw[o8];exact⟨Nat.le_refl _,fun g hg=>by cases hg⟩
 |succ n ih=>
  intro b hb
  by_cases h:b=[]
  ·subst h;rw[o8];exact⟨Nat.le_refl _,fun g hg=>by cases hg⟩
  ·have hp:=kh b;have hl:=xK h;obtain⟨h1,h2⟩:=ih (b.drop (gM b).2) (by rw[List.length_drop];omega);rw[List.length_drop] at h1 h2;rw[rD h];refine⟨by rw[List.length_cons];omega,fun g hg=>?_⟩
   rcases List.mem_cons.1 hg with rfl|hg
   ·exact hl
   ·have:=h2 g hg;omega
def aQ (fr:Go.V.Fr) (k:Nat):Go.V.D:=Go.V.nth .junk fr.loc k
def Gq (d:D):Prop:=∃(l:List Nod) (e w:Int),d=.tup [tc l,.int .i64 e,.int .i64 w]∧(∀n∈l,NdV n)∧l.length≤500
theorem AL {s0:St} {b:List UInt8} (hbl:b.length≤1048576):∃d,Ev pv 55 [.str b] s0 d s0∧Gq d:=by
 obtain⟨sO,QX⟩:=vf _ b (Nat.le_refl _);have hev:∀(st:St) (x:D),Bytes st x b→Ev pv 15 [x] st (db (gY b)) st:=fun st x h=>Co h hbl;generalize gY b=gs at*;refine Ev.CC rfl Mw rfl rfl rfl ?_;refine zE ?_;obtain⟨hSb,hF,hH⟩:=ri s0;generalize enterSt .ro s0=S at*;have DQ:Arg s0.bs.length S 2 (db gs) (gs.map aP):=Arg.pure (fun st=>cN st gs);refine zQ 10 ?_;refine EvO.slen rfl rfl rfl (by dsimp only[Fr.put,u1,u2]<;>rfl) ?_;refine zQ 2 ?_
 by_cases NR:120<b.length
 ·have hcc:decide (((b.length:Nat):Int)>120)=true:=by rw[decide_eq_true_eq];omega
  refine qD rfl (by rw[hcc]) ?_;refine zQ 6 ?_;refine EvC.ret ⟨rx,_,_,rfl,rl hSb hH (rfl),?_⟩;exact⟨[],2,0,rfl,fun n hn=>(by cases hn),by simp⟩
 have hcc:decide (((b.length:Nat):Int)>120)=false:=by rw[decide_eq_false_iff_not];omega
 refine qE rfl (by rw[hcc]) ?_;refine zQ 4 ?_;refine EvO.BK hH rfl rfl rfl rfl rfl (by omega) (fun _=>by dsimp only[Fr.put,u1,u2]<;>rfl) (fun k14 st FL hH=>?_);refine qv ((hev _ _ (hH.rows at0))) ?_;refine EvO.go (d:=.agg [db gs,.nul,.int .i64 0,.int .i64 0,.int .i64 0,.int .i64 0,.int .i64 0]) (st1:=_) rfl rfl rfl (by dsimp only[Fr.put,u1,u2]<;>rfl) ?_;refine qb hH fun k17 st Ls hH=>?_;refine zQ 13 ?_;refine qn ?_;simp only[List.length_map];refine zQ 2 ?_;have hH:Has s0.bs.length S st (.box k17 (.mem 0 false [db gs,.nul,.int .i64 0,.int .i64 0,.int .i64 0,.int .i64 0,.int .i64 0])::.lst .nul 1 (([]:List Int).map aj)::[]):=((hH.erase 1).nulE 1).front at1;refine zQ 1 ?_;refine EvC.loop (fun mm fr st=>∃(i a:Nat) (pd:D) (bo:List Int),fr.clean=⟨24,[aQ fr 0,aQ fr 1,aQ fr 2,aQ fr 3,aQ fr 4,.ptr k17 0 0,.int .i64 (a:Nat),aQ fr 7,aQ fr 8,aQ fr 9,aQ fr 10,aQ fr 11,aQ fr 12,aQ fr 13,aQ fr 14,aQ fr 15,aQ fr 16,aQ fr 17,aQ fr 18,aQ fr 19,aQ fr 20,db gs,.int .i64 (gs.length:Nat),.int .i64 (i:Nat)],[]⟩∧Has s0.bs.length S st [.box k17 (.mem 0 false [db gs,pd,.int .i64 0,.int .i64 0,.int .i64 0,.int .i64 0,.int .i64 0]),.lst pd 1 (bo.map aj)]∧(i+mm=gs.length)∧(bo.length=i)∧(a≤120*i)) (gs.length) ?_ ?_
 ·exact⟨0,0,.nul,[],rfl,hH,by omega,rfl,by omega⟩
 rintro mm fr st ⟨i,a,pd,bo,hfr,hH,hi,hpl,ha⟩;rw[hfr];clear hfr;generalize aQ fr=ee;clear fr;refine zQ 4 ?_
 by_cases hlt:i<gs.length
 ·obtain⟨g,hg⟩:∃g,gs[i]?=some g:=⟨gs[i]'hlt,List.getElem?_eq_getElem _⟩
  have hr1:(gs.map aP)[i]?=some (aP g):=by rw[List.getElem?_map,hg];rfl
  have bU:=QX g (List.mem_of_getElem? hg);have x_:decide (((i:Nat):Int)<((gs.length:Nat):Int))=true:=by rw[decide_eq_true_eq];omega
  refine qq<|qD rfl (by rw[x_]) ?_;refine zQ 5 ?_;refine qr fun Gu zj=>?_;refine EvO.cq rfl (ev rfl) (by assumption) rfl (put_T rfl _) ?_;refine qa hH fun k8 st hk8 hH=>?_;refine qS hH at0 fun st hH=>?_;dsimp only[u2,u1,u3,u4,setMany,u5,u6,D.cells,Nat.reduceAdd,aF,aP,aj] at hH;refine zQ 9 ?_;refine qh (s:=1) (vs:=[_]) hH fun k33 st Lq hH=>?_;refine EvO.happend (s:=1) hH rfl (ev rfl) (ev rfl) (by exact at3) (by exact hH.rows (by exact at0)) rfl rfl rfl rfl rfl rfl rfl ⟨(Nat.le_of_ble_eq_true rfl),(Nat.le_of_ble_eq_true rfl)⟩ (fun _=>(put_T rfl _)) (by simp only[List.length_cons,List.length_nil,List.length_map]<;>omega) (by exact .inl hF) (fun Ox st hH=>?_);dsimp only[u2,u1,u3,u4,setMany,u5,u6,D.cells,Nat.reduceAdd,aF,aP,aj] at hH;refine zQ 2 ?_;refine qT hH at2 (fun st hH=>?_) (gy:=hH.ocells at3);dsimp only[u2,u1,u3,u4,setMany,u5,u6,D.cells,Nat.reduceAdd,aF,aP,aj] at hH;refine zQ 5 ?_;refine EvO.addN rfl (ev rfl) (ev rfl) (by omega) (put_T rfl _) ?_;refine zQ 6 ?_;exact⟨mm-1,by omega,⟨i+1,a+g.2,Ox,bo++[((a:Nat):Int)],rfl,(by rw[List.map_append];exact hH.drop 2),by omega,by rw[List.length_append,hpl];rfl,by omega⟩⟩
 ·have x_:decide (((i:Nat):Int)<((gs.length:Nat):Int))=false:=by rw[decide_eq_false_iff_not];omega
  refine qq<|qE rfl (by rw[x_]) ?_;refine zQ 1 ?_
  have hok:jj gs bo:=⟨by omega,by omega⟩
  have hH:Has s0.bs.length S st (.box k17 (.mem 0 false (aF gs pd ⟨0,0,0,0,0⟩))::.lst pd 1 (bo.map aj)::[]):=hH;refine zQ 3 ?_;obtain⟨_,st,hev,s1,⟨p1,p2,p3,p4,l,rfl,p5,p6⟩,hH⟩:=Ec 20 (s:=⟨0,0,0,0,0⟩) hok rfl (by simp) (by simp) rfl hH;refine qv hev ?_;refine zQ 2 ?_;have p6:l.length≤4*(s1.i-0)+1:=p6;refine zQ 2 ?_;refine EvC.iV (fun fr st=>∃(s2:dJ) (tmp:List (Nat×D)),fr=⟨24,[aQ fr 0,aQ fr 1,aQ fr 2,aQ fr 3,aQ fr 4,.ptr k17 0 0,aQ fr 6,aQ fr 7,aQ fr 8,tc l,aQ fr 10,aQ fr 11,aQ fr 12,aQ fr 13,aQ fr 14,aQ fr 15,aQ fr 16,aQ fr 17,aQ fr 18,aQ fr 19,aQ fr 20,aQ fr 21,aQ fr 22,aQ fr 23],tmp⟩∧Has s0.bs.length S st (.box k17 (.mem 0 false (aF gs pd s2))::.lst pd 1 (bo.map aj)::[])∧(True)) ?_ ?_
  ·by_cases jZ:s1.e=0
   ·have gd:(s1.e==0)=true:=by simpa using jZ
    refine zQ 15 ?_;refine qn ?_ (hg:=wi gd);simp only[List.length_map];refine zQ 3 ?_;refine zP (fun FN=>?_) fun FN=>?_
    ·refine zQ 6 ?_;obtain⟨_,st,hev,rfl,hH⟩:=ck (s:=s1) s1.i 4 (by omega) hH;refine qv hev ?_;refine zQ 1 ?_;exact⟨_,_,rfl,hH,trivial⟩
    ·refine zQ 1 ?_;exact⟨s1,_,rfl,hH,trivial⟩
   ·have gd:(s1.e==0)=false:=by simpa using jZ
    refine zQ 21 ?_;exact⟨s1,_,rfl,hH,trivial⟩
  ·rintro fr st ⟨s2,tmp,hfr,hH,ht⟩;rw[hfr];clear hfr;generalize aQ fr=ee;clear fr;refine zQ 9 ?_;refine EvC.cond (by rfl) (fun hne=>?_) (fun hne=>?_)<;>try simp only[bne_iff_ne,bne_eq_false_iff_eq,ne_eq] at hne
   ·refine zQ 14 ?_;refine EvC.ret ⟨rx,_,_,rfl,rl hSb hH (rfl),?_⟩;exact⟨[],_,_,rfl,fun n hn=>(by cases hn),by simp⟩
   ·refine zQ 8 ?_;refine EvC.ret ⟨rx,_,_,rfl,rl hSb hH (rfl),?_⟩;exact⟨l,0,0,rfl,p5,by omega⟩
def rY (n:Nod):Bool:=((n.op==2)||((n.rs.length:Nat):Int)==0) &&((n.op==5)||((n.mn==0) &&(n.mx==0) &&!n.lz)) &&((n.op==6)||(n.cap==0))
noncomputable def dL (n:Nod) (g:Int):Int×Bool:=
 if rY n=false then(0,false)
 else if n.op=1∨n.op=7∨n.op=8 then(0,n.kids==0)
 else if n.op=2 then(0,(n.kids==0) &&dM n.rs)
 else if n.op=3∨n.op=4 then(n.kids,decide (n.kids≥2))
 else if n.op=5 then(1,(n.kids==1) &&decide (n.mn≥0) &&decide (n.mn≤30) &&((n.mx==-1)||(decide (n.mx≥n.mn) &&decide (n.mx≤30))))
 else if n.op=6 then(1,(n.kids==1) &&(n.cap==g+1) &&decide (n.cap≤4))
 else(0,false)
def gR (h:Nat→Nat→Option (Nat×Nat)):Nat→Nat→Nat→Option (Nat×Nat)
 |0,at_,g=>some (at_,g)
 |k+1,at_,g=>match h at_ g with
  |some r=>gR h k r.1 r.2
  |none=>none
noncomputable def fH (l:List Nod):Nat→Nat→Nat→Option (Nat×Nat)
 |0,_,_=>none
 |f+1,at_,g=>match l[at_]? with
  |none=>none
  |some n=>if(dL n (g:Nat)).2=true then gR (fH l f) (dL n (g:Nat)).1.toNat (at_+1) (if n.op=6 then g+1 else g) else none
theorem tB {n:Nod} {g:Nat} (h:(dL n (g:Nat)).2=true):uc n (dL n (g:Nat)).1.toNat∧0≤(dL n (g:Nat)).1∧(n.op=6→n.cap=g+1∧n.cap≤4):=by
 unfold dL at h⊢;unfold uc
 by_cases h0:rY n=false
 ·rw[if_pos h0] at h;cases h
 rw[if_neg h0] at h⊢
 by_cases h1:n.op=1∨n.op=7∨n.op=8
 ·rw[if_pos h1] at h⊢;simp only[beq_iff_eq] at h;exact⟨⟨h,.inl ⟨h1,rfl⟩⟩,Int.le_refl _,fun h6=>by omega⟩
 rw[if_neg h1] at h⊢
 by_cases h2:n.op=2
 ·rw[if_pos h2] at h⊢;simp only[Bool.and_eq_true,beq_iff_eq] at h;exact⟨⟨h.1,.inr (.inl ⟨h2,rfl⟩)⟩,Int.le_refl _,fun h6=>by omega⟩
 rw[if_neg h2] at h⊢
 by_cases h3:n.op=3∨n.op=4
 ·rw[if_pos h3] at h⊢;simp only[decide_eq_true_eq] at h;exact⟨⟨by simp only;omega,.inr (.inr (.inl ⟨h3,by simp only;omega⟩))⟩,by simp only;omega,fun h6=>by omega⟩
 rw[if_neg h3] at h⊢
 by_cases h5:n.op=5
 ·rw[if_pos h5] at h⊢;simp only[Bool.and_eq_true,Bool.or_eq_true,beq_iff_eq,decide_eq_true_eq] at h;exact⟨⟨by simp only;omega,.inr (.inr (.inr (.inl ⟨h5,by simp only;rfl,by omega,by omega,by omega⟩)))⟩,by simp only;omega,fun h6=>by omega⟩
 rw[if_neg h5] at h⊢
 by_cases h6:n.op=6
 ·rw[if_pos h6] at h⊢;simp only[Bool.and_eq_true,beq_iff_eq,decide_eq_true_eq] at h;exact⟨⟨by simp only;omega,.inr (.inr (.inr (.inr ⟨h6,by simp only;rfl,by omega,by omega⟩)))⟩,by simp only;omega,fun _=>⟨h.1.2,h.2⟩⟩
 rw[if_neg h6] at h;cases h
theorem ec.cons {α:Type} {L M:List α} {a:α} {at_:Nat} (h:L[at_]?=some a) (h2:ec L (at_+1) M):ec L at_ (a::M):=by
 obtain⟨post,h2⟩:=h2;refine⟨post,?_⟩;have h3:L[at_]'(lt_get h)=a:=Option.some.inj ((List.getElem?_eq_getElem _).symm.trans h);rw[List.drop_eq_getElem_cons (lt_get h),h2,h3];rfl
theorem ec.append {α:Type} {L M M':List α} {at_:Nat} (h:ec L at_ M) (h2:ec L (at_+M.length) M'):ec L at_ (M++M'):=by
 obtain⟨post,h⟩:=h;obtain⟨G5,h2⟩:=h2;refine⟨G5,?_⟩;rw[←List.drop_drop,h,List.drop_left] at h2;rw[h,h2,List.append_assoc]
theorem ec.none {α:Type} (L:List α) (at_:Nat):ec L at_ []:=⟨_,rfl⟩
theorem qN {l:List Nod} {h:Nat→Nat→Option (Nat×Nat)} (ih:∀at_ g r,h at_ g=some r→∃t:Tr,t.ok∧ec l at_ t.flat∧r.1=at_+t.flat.length):∀k at_ g r,gR h k at_ g=some r→∃ts:aW,ts.len=k∧ts.ok∧ec l at_ ts.flat∧r.1=at_+ts.flat.length
 |0,at_,g,r,e=>by
  simp only[gR,Option.some.injEq] at e;subst e;exact⟨.nil,rfl,trivial,ec.none _ _,by simp[aW.flat]⟩
 |k+1,at_,g,r,e=>by
  unfold gR at e
  cases hq:h at_ g with
  |none=>rw[hq] at e;cases e
  |some q=>
   rw[hq] at e;obtain⟨t,t1,t2,t3⟩:=ih _ _ _ hq;obtain⟨ts,u1,u2,u3,u4⟩:=qN ih k _ _ _ e;rw[t3] at u3 u4;exact⟨.cons t ts,by simp[aW.len,u1],by simp only[aW.ok];exact⟨t1,u2⟩,by simp only[aW.flat];exact t2.append u3,by rw[u4];simp only[aW.flat,List.length_append];omega⟩
theorem tY {l:List Nod}:∀f at_ g r,fH l f at_ g=some r→∃t:Tr,t.ok∧ec l at_ t.flat∧r.1=at_+t.flat.length
 |0,_,_,_,e=>by simp[fH] at e
 |f+1,at_,g,r,e=>by
  unfold fH at e
  cases hn:l[at_]? with
  |none=>rw[hn] at e;cases e
  |some n=>
   rw[hn] at e;simp only at e
   split at e
   ·rename_i hs;obtain⟨ts,u1,u2,u3,u4⟩:=qN (tY f) _ _ _ _ e;have:=(tB hs).1;rw[←u1] at this;exact⟨.mk n ts,by simp only[Tr.ok];exact⟨this,u2⟩,by simp only[Tr.flat];exact ec.cons hn u3,by rw[u4];simp only[Tr.flat,List.length_cons];omega⟩
   ·cases e
noncomputable def eG (l:List Nod):Bool:=(decide (1≤l.length) &&decide (l.length≤480)) &&(match fH l 241 0 0 with|some r=>decide (r.1=l.length)|none=>false)
theorem nK {l:List Nod} (h:eG l=true):∃t:Tr,t.ok∧t.flat=l:=by
 unfold eG at h;simp only[Bool.and_eq_true] at h;obtain⟨_,h⟩:=h
 split at h
 ·rename_i r hr;obtain⟨t,h1,⟨post,h2⟩,h3⟩:=tY _ _ _ _ hr;rw[decide_eq_true_eq] at h;refine⟨t,h1,?_⟩;rw[List.drop_zero] at h2;have h4:=congrArg List.length h2;rw[List.length_append] at h4;have h5:post=[]:=List.length_eq_zero_iff.1 (by omega);rw[h2,h5,List.append_nil]
 ·cases h
noncomputable def bR (l:List Nod):Tr:=@dite _ (∃t:Tr,t.ok∧t.flat=l) (Classical.propDecidable _) (fun h=>Classical.choose h) (fun _=>.mk ⟨0,.nul,[],0,0,false,0,0⟩ .nil)
theorem rI {l:List Nod} (h:eG l=true):(bR l).ok∧(bR l).flat=l:=by
 unfold bR;rw[dif_pos (nK h)];exact Classical.choose_spec (nK h)
theorem D9 {n:Nod} {k s:Nat}:min (a_ n (min s 401) k) 401=min (a_ n s k) 401:=by
 by_cases hs:s≤401
 ·rw[Nat.min_eq_left hs]
 ·have hx:min s 401=401:=by omega
  rw[hx];unfold a_
  split
  ·rfl
  ·split
   ·omega
   ·split
    ·omega
    ·split
     ·split
      ·omega
      ·by_cases h0:n.mn.toNat=0
       ·rw[h0]
        by_cases hd:n.mx.toNat-0=0
        ·rw[hd];simp
        ·have h1:=Nat.le_mul_of_pos_left (401+1) (show 0<n.mx.toNat-0 by omega);have h2:=Nat.le_mul_of_pos_left (s+1) (show 0<n.mx.toNat-0 by omega);omega
       ·have h1:=Nat.le_mul_of_pos_left 401 (show 0<n.mn.toNat by omega);have h2:=Nat.le_mul_of_pos_left s (show 0<n.mn.toNat by omega);omega
     ·omega
def dj (t:Tr) (b r:Nat):List az:=cg 4 0 0 []::(aE t (b+1)++[cg 4 1 0 [],cg 7 (r:Nat) 0 []])
theorem jo {t:Tr} {b r:Nat} (h:t.ok):(dj t b r).length=t.sz+3:=by
 unfold dj;rw[List.length_cons,List.length_append,bK t _ h];rfl
structure pe where
 code:List az
 aq:List Int
 e:Int
 w:Int
noncomputable def dr:List (List Nod)→Nat→List az→List Int→pe
 |[],_,c,s=>⟨c,s,0,0⟩
 |l::ls,r,c,s=>if eG l=false then⟨[],[],1,(r:Nat)⟩ else if 400<c.length+min (bR l).sz 401+3 then⟨[],[],12,(r:Nat)⟩ else dr ls (r+1) (c++dj (bR l) c.length r) (s++[((c.length:Nat):Int)])
noncomputable def compileS (rules:List (List Nod)):pe:=if 8<rules.length then⟨[],[],13,8⟩ else dr rules 0 [] []
def pgV (code:List az) (aq:List Int):Pg:=⟨.sl ((code.map aA).map (iC 4)),code,Bg aq,aq⟩
def gZ (i:az):Prop:=i.rd=.sl ((i.rs.map ai).map (iC 2))∧i.rs.length≤1048576
theorem kj (op x y:Int):gZ (cg op x y []):=⟨rfl,by simp[cg]⟩
theorem Ha (op x y:Int) {rs:List Rg} (h:rs.length≤1048576):gZ (cg op x y rs):=⟨rfl,h⟩
theorem Ao (s o:Nat) (lz:Bool):gZ (lj s o lz):=by unfold lj;split<;>exact kj _ _ _
theorem En (e:Nat):gZ (kz e):=kj _ _ _
theorem wx {code:List az} (h:∀i∈code,gZ i):∀e∈code.map aA,∀d∈e,bD d=true:=by
 intro e he d hd;obtain⟨q,hq,rfl⟩:=List.mem_map.1 he;have hr:=(h q hq).1;simp only[aA,hr,List.mem_cons,List.not_mem_nil,or_false] at hd
 rcases hd with rfl|rfl|rfl|rfl<;>rfl
theorem Dr (code:List az):∀e∈code.map aA,e.length=4:=by
 intro e he;obtain⟨q,_,rfl⟩:=List.mem_map.1 he;rfl
theorem AK {code:List az} {aq:List Int} (h:∀i∈code,gZ i) (h1:code.length≤1048576) (h2:aq.length≤1048576):(pgV code aq).ok:=by
 refine⟨SlD.frozen (Dr code) (wx h),uA _,fun i hi=>?_,h1,h2⟩;obtain⟨h3,h4⟩:=h i hi;refine⟨?_,h4⟩;rw[h3];exact SlD.frozen (jt _) (c9 _)
theorem vR {c:Nat→List az} {z:Nat} (hc:∀b,∀i∈c b,gZ i):∀k b,∀i∈dN c z k b,gZ i
 |0,b,i,hi=>by cases hi
 |k+1,b,i,hi=>by
  simp only[dN] at hi
  rcases List.mem_append.1 hi with hi|hi
  ·exact hc b i hi
  ·exact vR hc k _ i hi
theorem AR {sp:Nat→az} {c:Nat→List az} {z:Nat} (hs:∀s,gZ (sp s)) (hc:∀b,∀i∈c b,gZ i):∀k b,∀i∈dF sp c z k b,gZ i
 |0,b,i,hi=>by cases hi
 |k+1,b,i,hi=>by
  simp only[dF] at hi
  rcases List.mem_cons.1 hi with rfl|hi
  ·exact hs _
  ·rcases List.mem_append.1 hi with hi|hi
   ·exact hc _ i hi
   ·exact AR hs hc k _ i hi
mutual
theorem nj:∀(t:Tr) (b:Nat),(∀n∈t.flat,n.rs.length≤1048576)→∀i∈aE t b,gZ i
 | .mk n ks,b,h,i,hi=>by
  simp only[Tr.flat] at h;have hn:=h n (List.mem_cons_self ..);have hk:∀n∈ks.flat,n.rs.length≤1048576:=fun m hm=>h m (List.mem_cons_of_mem _ hm);have hc:=fun b=>Cd ks b hk;have ha:=fun jp (hj:gZ jp) b=>Cm jp hj ks b hk;simp only[aE] at hi
  split at hi
  ·simp only[List.mem_cons,List.not_mem_nil,or_false] at hi;subst hi;exact Ha _ _ _ hn
  split at hi
  ·simp only[List.mem_cons,List.not_mem_nil,or_false] at hi;subst hi;exact kj _ _ _
  split at hi
  ·simp only[List.mem_cons,List.not_mem_nil,or_false] at hi;subst hi;exact kj _ _ _
  split at hi
  ·exact hc b i hi
  split at hi
  ·exact ha _ (En _) b i hi
  split at hi
  ·unfold lx at hi
   split at hi
   ·rcases List.mem_append.1 hi with hi|hi
    ·exact vR hc _ _ i hi
    ·rcases List.mem_cons.1 hi with rfl|hi
     ·exact Ao _ _ _
     ·rcases List.mem_append.1 hi with hi|hi
      ·exact hc _ i hi
      ·simp only[List.mem_cons,List.not_mem_nil,or_false] at hi;subst hi;exact En _
   ·rcases List.mem_append.1 hi with hi|hi
    ·exact vR hc _ _ i hi
    ·exact AR (fun s=>Ao _ _ _) hc _ _ i hi
  split at hi
  ·rcases List.mem_cons.1 hi with rfl|hi
   ·exact kj _ _ _
   ·rcases List.mem_append.1 hi with hi|hi
    ·exact hc _ i hi
    ·simp only[List.mem_cons,List.not_mem_nil,or_false] at hi;subst hi;exact kj _ _ _
  ·cases hi
theorem Cd:∀(ts:aW) (b:Nat),(∀n∈ts.flat,n.rs.length≤1048576)→∀i∈et ts b,gZ i
 | .nil,b,_,i,hi=>by simp[et] at hi
 | .cons t ts,b,h,i,hi=>by
  simp only[aW.flat] at h;simp only[et] at hi
  rcases List.mem_append.1 hi with hi|hi
  ·exact nj t b (fun n hn=>h n (List.mem_append_left _ hn)) i hi
  ·exact Cd ts _ (fun n hn=>h n (List.mem_append_right _ hn)) i hi
theorem Cm (jp:az) (hj:gZ jp):∀(ts:aW) (b:Nat),(∀n∈ts.flat,n.rs.length≤1048576)→∀i∈di jp ts b,gZ i
 | .nil,b,_,i,hi=>by simp[di] at hi
 | .cons t ts,b,h,i,hi=>by
  simp only[aW.flat] at h;have h1:∀n∈t.flat,n.rs.length≤1048576:=fun n hn=>h n (List.mem_append_left _ hn);have h2:∀n∈ts.flat,n.rs.length≤1048576:=fun n hn=>h n (List.mem_append_right _ hn);simp only[di] at hi
  split at hi
  ·exact nj t b h1 i hi
  ·rcases List.mem_cons.1 hi with rfl|hi
   ·exact Ao _ _ _
   ·rcases List.mem_append.1 hi with hi|hi
    ·exact nj t _ h1 i hi
    ·rcases List.mem_cons.1 hi with rfl|hi
     ·exact hj
     ·exact Cm jp hj ts _ h2 i hi
end
theorem CY {t:Tr} {b r:Nat} (h:∀n∈t.flat,n.rs.length≤1048576):∀i∈dj t b r,gZ i:=by
 intro i hi;unfold dj at hi
 rcases List.mem_cons.1 hi with rfl|hi
 ·exact kj _ _ _
 ·rcases List.mem_append.1 hi with hi|hi
  ·exact nj t _ h i hi
  ·simp only[List.mem_cons,List.not_mem_nil,or_false] at hi
   rcases hi with rfl|rfl
   ·exact kj _ _ _
   ·exact kj _ _ _
end Go.Proofs.YtnleclohocdkaaaGreat
