/-
 The parser of patterns: lists of nodes; classes; how often.
-/
import Derived.Test.YtnleclohocdkaaaGreatSGHr
import Derived.Test.YtnleclohocdkaaaGreatSGSk
import Derived.Test.YtnleclohocdkaaaGreatSGUa
set_option maxRecDepth 100000
set_option maxHeartbeats 4000000
set_option linter.unusedSimpArgs false
set_option linter.unusedVariables false
namespace Go.Proofs.YtnleclohocdkaaaGreat
open Go.V Go
def xM (fr:Go.V.Fr) (k:Nat):Go.V.D:=Go.V.nth .junk fr.loc k
def NdV (n:Nod):Prop:=n.rd=a8 n.rs∧n.rs.length≤1048576∧n.kids≤1048576
def tD (op mn mx:Int) (lz:Bool) (cap kids:Int) (a:List Rg):Nod:=⟨op,a8 a,a,mn,mx,lz,cap,kids⟩
def ug (l:List Nod):D:=.sl ((l.map aQ).map (iV 7))
theorem E9 (l:List Nod):∀e∈l.map aQ,e.length=7:=by
 intro e he;obtain⟨x,_,rfl⟩:=List.mem_map.1 he;rfl
theorem mE {l:List Nod} (h:∀n∈l,NdV n):∀e∈l.map aQ,∀d∈e,bC d=true:=by
 intro e he d hd;obtain⟨n,hn,rfl⟩:=List.mem_map.1 he;have hr:=(h n hn).1;simp only[aQ,hr,List.mem_cons,List.not_mem_nil,or_false] at hd
 rcases hd with rfl|rfl|rfl|rfl|rfl|rfl|rfl<;>rfl
theorem sf {l:List Nod} (h:∀n∈l,NdV n):SlD (ug l) 7 (l.map aQ):=SlD.frozen (E9 l) (mE h)
theorem Jl {l:List Nod} (h:∀n∈l,NdV n) (hl:l.length≤1048576):(⟨ug l,l⟩:Nl).ok:=by
 refine⟨sf h,fun n hn=>?_,hl⟩;obtain⟨h1,h2,h3⟩:=h n hn;exact⟨by rw[h1];exact ig _,h2,by omega⟩
theorem tB {l:List Nod} (h:∀n∈l,NdV n):(l.map aQ).map (·.map oa)=l.map aQ:=by
 rw[List.map_map];refine List.map_congr_left fun n hn=>?_;have hr:=(h n hn).1;show(aQ n).map oa=aQ n;unfold aQ;rw[hr];rfl
theorem pe {l:List Nod} (h:∀n∈l,NdV n):∀e∈l.map aQ,∀d∈e,nv d=true:=by
 intro e he d hd;have:=mE h e he d hd
 cases d<;>first|rfl|exact this
theorem gN {N L j:Nat} {S st:St} {H:List aN} {x:D} {es:List (List D)} {l:List Nod} (hH:Has N S st H) (hj:H[j]?=some (.lst x 7 es)) (he:es.map (·.map oa)=l.map aQ) (ht:∀e∈es,∀d∈e,nv d=true) (hx:∀k,x.ref=k+1→L≤k) {n:Nat} (hn:3≤n):aX st L false n x=some (ug l):=by
 rw[hH.zw hj hx ht hn,he];rfl
theorem gO {N L j:Nat} {S st:St} {H:List aN} {x w:D} {op mn mx cap kids:Int} {lz:Bool} {a:List Rg} (hH:Has N S st H) (hj:H[j]?=some (.lst x 7 [[.int .i64 op,w,.int .i64 mn,.int .i64 mx,.bool lz,.int .i64 cap,.int .i64 kids]])) (hw:w=a8 a∨w=.nul∧a=[]) (hx:∀k,x.ref=k+1→L≤k):aX st L false 16 x=some (ug [tD op mn mx lz cap kids a]):=by
 refine gN hH hj ?_ (fun e he d hd=>?_) hx (by decide)
 ·rcases hw with rfl|⟨rfl,rfl⟩<;>rfl
 ·simp only[List.mem_cons,List.not_mem_nil,or_false] at he;subst he;simp only[List.mem_cons,List.not_mem_nil,or_false] at hd
  rcases hw with rfl|⟨rfl,rfl⟩<;>rcases hd with rfl|rfl|rfl|rfl|rfl|rfl|rfl<;>rfl
theorem CB {op mn mx cap kids:Int} {lz:Bool} {a:List Rg} (h:a.length≤1048576) (hk:kids≤1048576):∀n∈[tD op mn mx lz cap kids a],NdV n:=by
 intro n hn;simp only[List.mem_cons,List.not_mem_nil,or_false] at hn;subst hn;exact⟨rfl,h,hk⟩
def uf (gs:List (Nat×Nat)) (s s':dY) (d:D):Prop:=
 s'.o=s.o∧s'.g≤4∧s.i≤s'.i∧s'.i≤gs.length∧∃l:List Nod,d=ug l∧(∀n∈l,NdV n)∧l.length≤4*(s'.i-s.i)+1
def h_ (gs:List (Nat×Nat)) (s s':dY) (d:D) (c:Nat):Prop:=
 s'.o=s.o∧s'.g≤4∧s.i≤s'.i∧s'.i≤gs.length∧∃l:List Nod,d=ug l∧(∀n∈l,NdV n)∧l.length≤4*(s'.i-s.i)+1∧(s'.e≠0∨s'.e=0∧l.length+c≤4*(s'.i-s.i))
theorem fc {gs:List (Nat×Nat)} {s s':dY} {c:Nat} (h1:s'.o=s.o) (h2:s'.g≤4) (h3:s.i≤s'.i) (h4:s'.i≤gs.length) (h5:s'.e≠0):h_ gs s s' (.sl []) c:=
 ⟨h1,h2,h3,h4,[],rfl,fun n hn=>(by cases hn),by simp,.inl h5⟩
theorem DQ {N k:Nat} {S s0:St} {H:List aN} {gs:List (Nat×Nat)} {bc:D} {br:List Int} {s:dY} (hok:jO gs br) (he:s.e=0) (hi:s.i<gs.length) (hg:s.g≤4) (hH:Has N S s0 (.box k (.mem 0 false (aF gs bc s))::.lst bc 1 (br.map ai)::H)):
  ∃d ab,Ev pv 156 [.ptr k 0 0] s0 d ab∧∃(s':dY),h_ gs s s' d 2∧Has N S ab (.box k (.mem 0 false (aF gs bc s'))::.lst bc 1 (br.map ai)::H):=by
 have rE:=hok.gl;have hpl:=hok.pl;refine Ev.fX rfl K2 rfl rfl rfl ?_;refine zE ?_;have bP:=hH;have hH:=hH.bT;have bO:(enterSt .rw s0).bs=s0.bs:=rfl;generalize enterSt .rw s0=S2 at*;have FM:Arg N S2 2 (dv gs) (gs.map aL):=Arg.pure (fun st=>c7 st gs);refine zQ 21 ?_;refine qT hH at0 fun st hH=>?_;dsimp only[u2,u1,u3,u4,setMany,u5,u6,D.cells,Nat.reduceAdd,aF,aL,ai,aj] at hH;refine zQ 1 ?_;have hH:Has N S2 st (.box k (.mem 0 false (aF gs bc {s with i:=s.i+1}))::.lst bc 1 (br.map ai)::H):=hH;obtain⟨k1,k2,k3,k4,k5⟩:=fO (gs:=gs) (s:={s with i:=s.i+1}) (r:=94);have k5:=k5 (by show s.i+1≤_;omega);simp only at k1 k2 k3 k4;refine zQ 3 ?_;obtain⟨_,st,hev,rfl,hH⟩:=c9 (s:={s with i:=s.i+1}) (by omega) 94 hH;refine qv hev ?_;refine zQ 2 ?_;generalize ct gs {s with i:=s.i+1} 94=s1 at*;generalize jz gs ({s with i:=s.i+1}:dY).i 94=nt at*;refine zQ 8 ?_
 have hH:Has N S2 st (.box k (.mem 0 false (aF gs bc s1))::.lst bc 1 (br.map ai)::.lst .nul 2 (([]:List Rg).map aj)::H):=((hH.nulE 2).front at1|>.front at2|>fun h=>(h.front at1))
 refine zQ 2 ?_;refine EvC.loop (fun mm fr st=>∃(s1:dY) (ld:D) (lr:List Rg) (nn:Bool),fr.clean=⟨7,[.ptr k 0 0,xM fr 1,xM fr 2,.int .i64 (s.i:Nat),.bool nt,ld,.bool nn],[]⟩∧Has N S2 st (.box k (.mem 0 false (aF gs bc s1))::.lst bc 1 (br.map ai)::.lst ld 2 (lr.map aj)::H)∧(s1.o=s.o)∧(s1.g=s.g)∧(s.i<s1.i)∧(s1.i≤gs.length)∧(lr.length≤8*s1.i+8)∧(s1.e=0→lr.length≤8*s1.i)∧(gs.length-s1.i+(if s1.e=0 then 1 else 0)≤mm)) (gs.length+1) ?_ ?_
 ·exact⟨s1,.nul,[],true,rfl,hH,k1,k2,by omega,k5,by simp,fun _=>by simp,by split<;>omega⟩
 rintro mm fr st ⟨s1,ld,lr,nn,hfr,hH,h1,h2,h3,h4,h5,h6,xS⟩;rw[hfr];clear hfr;generalize xM fr=ee;clear fr
 by_cases kK:s1.e=0
 ·rw[if_pos kK] at xS;have h6:=h6 kK;have fK:(s1.e==0)=true:=by simpa using kK
  refine zQ 10 ?_;obtain⟨_,st,hev,rfl,hH⟩:=nK (s:=s1) (by omega) 93 hH;refine qv hev ?_ (hg:=wi fK);refine zQ 3 ?_
  cases hb:jz gs s1.i 93 with
  |true=>
   have hlt:=pC hb;refine zQ 11 ?_;refine qE rfl (by simp[kK]) ?_;refine zQ 6 ?_
   cases nn with
   |true=>
    refine zQ 5 ?_;obtain⟨_,st,hev,rfl,hH⟩:=cv (s:=s1) s.i 4 (by omega) hH;refine qv hev ?_;refine zQ 2 ?_;obtain⟨w1,w2,w3,w4⟩:=cH (br:=br) (s:=s1) (i:=s.i) (e:=4) kK (by decide);refine EvC.ret ⟨rx,_,_,_,rfl,ae (rfl),?_⟩;exact⟨_,fc (by omega) (by omega) (by omega) (by omega) w1,bP.ak bO (hH.erase 2)⟩
   |false=>
    refine zQ 11 ?_;refine qT hH at0 fun st hH=>?_;dsimp only[u2,u1,u3,u4,setMany,u5,u6,D.cells,Nat.reduceAdd,aF,aL,ai,aj] at hH;refine zQ 4 ?_;obtain⟨hev,AZ,_⟩:=lu (l:=lr) (hH.rows at2) (by omega);refine qv hev ?_;refine zQ 2 ?_;generalize jv lr=m at*;refine zQ 5 ?_
    have fp:∀(st:St) (a:List Rg) (k70:Nat),a.length≤1048576→S2.bs.length≤k70→Has N S2 st (.lst (.win k70 0 0 1 7) 7 [[.int .i64 2,a8 a,.int .i64 0,.int .i64 0,.bool false,.int .i64 0,.int .i64 0]]::.box k (.mem 0 false (aF gs bc {s1 with i:=s1.i+1}))::.lst bc 1 (br.map ai)::.lst ld 2 (lr.map aj)::H)→
      ∃d ab,bU .rw false s0 st (.win k70 0 0 1 7)=some (d,ab)∧∃(s':dY),h_ gs s s' d 2∧Has N S ab (.box k (.mem 0 false (aF gs bc s'))::.lst bc 1 (br.map ai)::H):=by
     intro st a k70 ha hk hH;have hfz:=gO hH at0 (L:=s0.bs.length) (.inl rfl) (fun k hk=>by simp only[D.ref] at hk;rw[←bO];omega);exact⟨_,_,ae hfz,{s1 with i:=s1.i+1},⟨h1,by show s1.g≤4;omega,by show s.i≤s1.i+1;omega,by show s1.i+1≤_;omega,_,rfl,CB ha (by omega),by simp,.inr ⟨kK,by show 1+2≤4*(s1.i+1-s.i);omega⟩⟩,bP.ak bO ((hH.drop 1).erase 2)⟩
    cases nt with
    |true=>
     refine zQ 3 ?_;obtain⟨_,hev,a,rfl,hla⟩:=Cw (l:=m) (eD _ _) (by omega);refine qv hev ?_;refine zQ 5 ?_;refine EvO.eE (qs:=[(0,_),(1,_)]) rfl rfl rfl rfl ⟨rfl,(ev rfl),(by rfl),rfl,(ev rfl),(by rfl),trivial⟩ (by intro q hq;simp only[List.mem_cons,List.not_mem_nil,or_false] at hq;rcases hq with rfl|rfl<;>exact⟨rfl,by exact Nat.le_of_ble_eq_true rfl⟩) (by show List.foldl _ [_,_,_,_,_,_,_] _=_;dsimp only[List.foldl_cons,List.foldl_nil,u2,u1]<;>rfl) (put_T rfl _) ?_;refine qh (s:=7) (vs:=[_]) hH fun k70 st HI hH=>?_;refine zQ 2 ?_;obtain⟨d',ab,vP,fR⟩:=fp _ a k70 (by omega) HI hH;refine EvC.ret ⟨rx,_,d',ab,rfl,vP,fR⟩
    |false=>
     refine zQ 5 ?_;refine EvO.eE (qs:=[(0,_),(1,_)]) rfl rfl rfl rfl ⟨rfl,(ev rfl),(by rfl),rfl,(ev rfl),(by rfl),trivial⟩ (by intro q hq;simp only[List.mem_cons,List.not_mem_nil,or_false] at hq;rcases hq with rfl|rfl<;>exact⟨rfl,by exact Nat.le_of_ble_eq_true rfl⟩) (by show List.foldl _ [_,_,_,_,_,_,_] _=_;dsimp only[List.foldl_cons,List.foldl_nil,u2,u1]<;>rfl) (put_T rfl _) ?_;refine qh (s:=7) (vs:=[_]) hH fun k70 st HI hH=>?_;refine zQ 2 ?_;obtain⟨d',ab,vP,fR⟩:=fp _ m k70 (by omega) HI hH;refine EvC.ret ⟨rx,_,d',ab,rfl,vP,fR⟩
  |false=>
   refine zQ 14 ?_;refine qn ?_;simp only[List.length_map];refine zQ 2 ?_;refine zP (fun hge=>?_) fun hge=>?_
   ·refine zQ 4 ?_;obtain⟨_,st,hev,rfl,hH⟩:=cv (s:=s1) s.i 4 (by omega) hH;refine qv hev ?_;refine zQ 2 ?_;obtain⟨w1,w2,w3,w4⟩:=cH (br:=br) (s:=s1) (i:=s.i) (e:=4) kK (by decide);refine EvC.ret ⟨rx,_,_,_,rfl,ae (rfl),?_⟩;exact⟨_,fc (by omega) (by omega) (by omega) (by omega) w1,bP.ak bO (hH.erase 2)⟩
   ·refine zQ 5 ?_;obtain⟨_,st,hev,s2,⟨i1,i2,i3,i4,a,rfl,i5,i6⟩,hH⟩:=Fm (s:=s1) hok kK (by omega) hH;have LN:=(ig a).arg N S2;have Ek:=xi a;refine qv hev ?_;refine EvO.happend (s:=2) hH rfl (ev rfl) (ev rfl) (by exact at2) (by exact Arg.rows (by assumption) hH) rfl rfl rfl rfl rfl rfl rfl ⟨(Nat.le_of_ble_eq_true rfl),(Nat.le_of_ble_eq_true rfl)⟩ (fun _=>(put_T rfl _)) (by simp only[List.length_map]<;>omega) (by exact .inr (by assumption)) (fun Q7 st hH=>?_);dsimp only[u2,u1,u3,u4,setMany,u5,u6,D.cells,Nat.reduceAdd,aF,aL,ai,aj] at hH;refine zQ 5 ?_;exact⟨mm-1,by omega,⟨s2,Q7,lr++a,false,rfl,(by rw[List.map_append];exact hH),i1.trans h1,i2.trans h2,by omega,i4,by rw[List.length_append];omega,fun e=>by rw[List.length_append];omega,by split<;>omega⟩⟩
 ·have fK:(s1.e==0)=false:=by simpa using kK
  refine zQ 25 ?_;refine qD rfl (by simp[kK]) ?_;refine zQ 4 ?_;refine EvC.ret ⟨rx,_,_,_,rfl,ae (rfl),?_⟩;exact⟨_,fc h1 (by omega) (by omega) h4 kK,bP.ak bO (hH.erase 2)⟩
def iM (fr:Go.V.Fr) (k:Nat):Go.V.D:=Go.V.nth .junk fr.loc k
def rk (gs:List (Nat×Nat)) (s s':dY):Prop:=s'.o=s.o∧s'.g=s.g∧s.i<s'.i∧s'.i≤gs.length
theorem Cs {N k:Nat} {S s0:St} {H:List aN} {gs:List (Nat×Nat)} {bc:D} {br:List Int} {s:dY} (hok:jO gs br) (he:s.e=0) (hi:s.i<gs.length) (hH:Has N S s0 (.box k (.mem 0 false (aF gs bc s))::.lst bc 1 (br.map ai)::H)):
  ∃d ab,Ev pv 144 [.ptr k 0 0] s0 d ab∧∃(n1 n2:Int) (s':dY),d=.tup [.int .i64 n1,.int .i64 n2]∧rk gs s s'∧Has N S ab (.box k (.mem 0 false (aF gs bc s'))::.lst bc 1 (br.map ai)::H):=by
 have rE:=hok.gl;have hpl:=hok.pl;have hne:gs≠[]:=by rintro rfl;simp at hi
 refine Ev.fX rfl K6 rfl rfl rfl ?_;refine zE ?_;have bP:=hH;have hH:=hH.bT;have bO:(enterSt .rw s0).bs=s0.bs:=rfl;generalize enterSt .rw s0=S2 at*;refine zQ 22 ?_;refine qT hH at0 fun st hH=>?_;dsimp only[u2,u1,u3,u4,setMany,u5,u6,D.cells,Nat.reduceAdd,aF,aL,ai,aj] at hH;refine zQ 1 ?_;have hH:Has N S2 st (.box k (.mem 0 false (aF gs bc {s with i:=s.i+1}))::.lst bc 1 (br.map ai)::H):=hH
 have Dk:∀(st:St) (s3:dY) (e:Int),e≠0→s3.e=0→rk gs s s3→Has N S2 st (.box k (.mem 0 false (aF gs bc s3))::.lst bc 1 (br.map ai)::H)→∃d ab,Ev pv 95 [.ptr k 0 0,.int .i64 (s.i:Nat),.int .i64 e] st d ab∧d=.sl []∧∃s4,rk gs s s4∧Has N S2 ab (.box k (.mem 0 false (aF gs bc s4))::.lst bc 1 (br.map ai)::H):=by
  intro st s3 e h0 h1 h2 hH;obtain⟨d,ab,hev,h4,hH⟩:=cv (s:=s3) s.i e (by omega) hH;obtain⟨w1,w2,w3,w4⟩:=cH (br:=br) (s:=s3) (i:=s.i) (e:=e) h1 h0;exact⟨d,ab,hev,h4,_,⟨w3.trans h2.1,w4.trans h2.2.1,by rw[w2];exact h2.2.2.1,by rw[w2];exact h2.2.2.2⟩,hH⟩
 refine zQ 3 ?_;obtain⟨_,st,hev,m,ok,mm,rfl,AZ,S8,hH⟩:=sO (s:={s with i:=s.i+1}) rE (by show s.i+1≤_;omega) hne hH;refine qv hev ?_;refine zQ 6 ?_
 obtain⟨s1,rp⟩:∃s1:dY,({s with i:=s.i+1+mm}:dY)=s1:=⟨_,rfl⟩
 have Hm:s1.e=0:=by rw[←rp];exact he
 have CW:rk gs s s1:=by rw[←rp];exact⟨rfl,rfl,by show s.i<s.i+1+mm;omega,S8⟩
 have hH:Has N S2 st (.box k (.mem 0 false (aF gs bc s1))::.lst bc 1 (br.map ai)::H):=by rw[←rp];exact hH
 clear rp;refine zQ 8 ?_;refine EvC.mF (fun fr st=>∃(n:List UInt8) (en:Bool) (s3:dY) (tmp:List (Nat×D)),fr=⟨14,[.ptr k 0 0,iM fr 1,iM fr 2,iM fr 3,.int .i64 (s.i:Nat),.str m,.bool ok,.str n,.bool en,iM fr 9,iM fr 10,iM fr 11,iM fr 12,iM fr 13],tmp⟩∧Has N S2 st (.box k (.mem 0 false (aF gs bc s3))::.lst bc 1 (br.map ai)::H)∧(s3.e=0)∧(rk gs s s3)∧(n.length≤120)) ?_ ?_
 ·cases ok with
  |false=>
   have iD:false=false:=rfl;refine zQ 9 ?_;exact⟨m,false,s1,_,rfl,hH,Hm,CW,AZ⟩
  |true=>
   have iD:true=true:=rfl;obtain⟨k1,k2,k3,k4,k5⟩:=fO (gs:=gs) (s:=s1) (r:=44);have k5:=k5 CW.2.2.2;refine zQ 4 ?_;obtain⟨_,st,hev,rfl,hH⟩:=c9 (s:=s1) (by omega) 44 hH;refine qv hev ?_ (hg:=wi iD);refine zQ 2 ?_;generalize ct gs s1 44=s2 at*
   have Fy:rk gs s s2:=⟨k1.trans CW.1,k2.trans CW.2.1,by have:=CW.2.2.1;omega,k5⟩
   cases hb:jz gs s1.i 44 with
   |false=>
    refine zQ 2 ?_;exact⟨m,false,s2,_,rfl,hH,k3.trans Hm,Fy,AZ⟩
   |true=>
    refine zQ 8 ?_;obtain⟨_,st,hev,n,there,Qe,rfl,NG,hni,hH⟩:=sO (s:=s2) rE k5 hne hH;refine qv hev ?_;refine zQ 11 ?_;exact⟨n,!there,{s2 with i:=s2.i+Qe},_,rfl,hH,k3.trans Hm,⟨Fy.1,Fy.2.1,by have:=Fy.2.2.1;show s.i<s2.i+Qe;omega,hni⟩,NG⟩
 ·rintro fr st ⟨n,en,s3,tmp,hfr,hH,h1,h2,h3⟩;rw[hfr];clear hfr;generalize iM fr=ee;clear fr;obtain⟨k1,k2,k3,k4,k5⟩:=fO (gs:=gs) (s:=s3) (r:=125);have k5:=k5 h2.2.2.2
  have AW:rk gs s (ct gs s3 125):=⟨k1.trans h2.1,k2.trans h2.2.1,by have:=h2.2.2.1;omega,k5⟩
  have Fx:(ct gs s3 125).e=0:=k3.trans h1
  cases ok with
  |false=>
   have bS:(!false)=true:=rfl;refine zQ 25 ?_;obtain⟨_,st,hev,rfl,s4,IP,hH⟩:=Dk _ s3 4 (by decide) h1 h2 hH;refine qv hev ?_;refine zQ 6 ?_;refine EvC.ret ⟨rx,_,_,_,rfl,ae (rfl),?_⟩;exact⟨_,_,s4,rfl,IP,bP.ak bO hH⟩
  |true=>
   have bS:(!true)=false:=rfl
   cases IX:(!jz gs s3.i 125) with
   |true=>
    refine zQ 7 ?_;obtain⟨_,st,hev,rfl,hH⟩:=c9 (s:=s3) (by omega) 125 hH;refine qv hev ?_ (hg:=wi bS);refine zQ 12 ?_;generalize ct gs s3 125=s4 at*;refine zQ 5 ?_;obtain⟨_,st,hev,rfl,s5,FL,hH⟩:=Dk _ s4 4 (by decide) Fx AW hH;refine qv hev ?_;refine zQ 6 ?_;refine EvC.ret ⟨rx,_,_,_,rfl,ae (rfl),?_⟩;exact⟨_,_,s5,rfl,FL,bP.ak bO hH⟩
   |false=>
    have fR:True:=trivial
    cases en with
    |true=>
     have cw:(!true)=false:=rfl;refine zQ 7 ?_;obtain⟨_,st,hev,rfl,hH⟩:=c9 (s:=s3) (by omega) 125 hH;refine qv hev ?_ (hg:=wi bS);refine zQ 9 ?_;refine EvO.pickF (wantD_is rfl rfl rfl IX) rfl cw (put_T rfl _) ?_;refine zQ 2 ?_;generalize ct gs s3 125=s4 at*;refine zQ 2 ?_;obtain⟨_,Fu,a1,f1,rfl⟩:=kZ (s0:=st) m (by omega);refine zQ 3 ?_;refine qv (Fu) ?_;refine zQ 15 ?_;obtain⟨_,CQ,a2,f2,rfl⟩:=kZ (s0:=st) [] (by simp);refine zQ 3 ?_;refine qv (CQ) ?_;refine zQ 8 ?_;refine EvC.cutT 78 (.bool (!f1||!f2)) [] ?_ (fun ff tmp htmp=>?_)
     ·refine zQ 3 ?_;refine EvO.two 75 rfl (fun bS=>?_) (fun bS=>?_)
      ·refine zQ 3 ?_;refine EvO.nil (leafT ?_ ?_)
       ·dsimp only[setW,List.foldl,nth,u2,u1]
        all_goals(first|rfl|simp)
       ·refine zF ?_
        all_goals(simp[bS];done)
      ·refine zQ 3 ?_;refine EvO.nil (leafT ?_ ?_)
       ·dsimp only[setW,List.foldl,nth,u2,u1]
        all_goals(first|rfl|simp)
       ·refine zF ?_
        all_goals(simp[bS];done)
     dsimp only[setW,List.foldl,nth,u2,u1];refine qc (fun A3=>?_) (fun A3=>?_)<;>try simp only[cs] at A3
     ·refine zQ 4 ?_;obtain⟨_,st,hev,rfl,s5,FL,hH⟩:=Dk _ s4 2 (by decide) Fx AW hH;refine qv hev ?_;refine zQ 6 ?_;refine EvC.ret ⟨rx,_,_,_,rfl,ae (rfl),?_⟩;exact⟨_,_,s5,rfl,FL,bP.ak bO hH⟩
     ·refine zQ 17 ?_;refine EvC.ret ⟨rx,_,_,_,rfl,ae (rfl),?_⟩;exact⟨_,_,s4,rfl,AW,bP.ak bO hH⟩
    |false=>
     have cw:(!false)=true:=rfl;refine zQ 7 ?_;obtain⟨_,st,hev,rfl,hH⟩:=c9 (s:=s3) (by omega) 125 hH;refine qv hev ?_ (hg:=wi bS);refine zQ 8 ?_;obtain⟨_,hle,v,rfl⟩:=Fj (s0:=st) n m;refine EvO.hcall (wantD_is rfl rfl rfl cw) rfl hle (put_T rfl _) ?_;refine EvO.pickT (wantD_is rfl rfl rfl IX) rfl cw (put_T rfl _) ?_;refine zQ 2 ?_;generalize ct gs s3 125=s4 at*
     cases v with
     |true=>
      refine zQ 5 ?_;obtain⟨_,st,hev,rfl,s5,FL,hH⟩:=Dk _ s4 4 (by decide) Fx AW hH;refine qv hev ?_;refine zQ 6 ?_;refine EvC.ret ⟨rx,_,_,_,rfl,ae (rfl),?_⟩;exact⟨_,_,s5,rfl,FL,bP.ak bO hH⟩
     |false=>
      refine zQ 2 ?_;obtain⟨_,Fu,a1,f1,rfl⟩:=kZ (s0:=st) m (by omega);refine zQ 3 ?_;refine qv (Fu) ?_;refine zQ 13 ?_;obtain⟨_,CQ,a2,f2,rfl⟩:=kZ (s0:=st) n (by omega);refine zQ 3 ?_;refine qv (CQ) ?_;refine zQ 8 ?_;refine EvC.cutT 78 (.bool (!f1||!f2)) [] ?_ (fun ff tmp htmp=>?_)
      ·refine zQ 3 ?_;refine EvO.two 75 rfl (fun bS=>?_) (fun bS=>?_)
       ·refine zQ 3 ?_;refine EvO.nil (leafT ?_ ?_)
        ·dsimp only[setW,List.foldl,nth,u2,u1]
         all_goals(first|rfl|simp)
        ·refine zF ?_
         all_goals(simp[bS];done)
       ·refine zQ 3 ?_;refine EvO.nil (leafT ?_ ?_)
        ·dsimp only[setW,List.foldl,nth,u2,u1]
         all_goals(first|rfl|simp)
        ·refine zF ?_
         all_goals(simp[bS];done)
      dsimp only[setW,List.foldl,nth,u2,u1];refine qc (fun A3=>?_) (fun A3=>?_)<;>try simp only[cs] at A3
      ·refine zQ 4 ?_;obtain⟨_,st,hev,rfl,s5,FL,hH⟩:=Dk _ s4 2 (by decide) Fx AW hH;refine qv hev ?_;refine zQ 6 ?_;refine EvC.ret ⟨rx,_,_,_,rfl,ae (rfl),?_⟩;exact⟨_,_,s5,rfl,FL,bP.ak bO hH⟩
      ·refine zQ 15 ?_;refine EvC.ret ⟨rx,_,_,_,rfl,ae (rfl),?_⟩;exact⟨_,_,s4,rfl,AW,bP.ak bO hH⟩
def cg (fr:Go.V.Fr) (k:Nat):Go.V.D:=Go.V.nth .junk fr.loc k
theorem o0:∀{l:List D},(∀d∈l,bC d=true)→refs l=0
 |[],_=>rfl
 |d::l,h=>by
  have h1:=o0 (l:=l) fun d hd=>h d (List.mem_cons_of_mem _ hd);have h2:=h d (List.mem_cons_self ..)
  have h3:d.ref=0:=by cases d<;>first|rfl|(simp[bC] at h2)
  simp only[refs,h1,h3,Nat.max_self]
theorem sc {l:List Nod} (h:∀n∈l,NdV n):refs (l.map aQ).flatten=0:=
 o0 fun d hd=>by
  obtain⟨e,he,zn⟩:=List.mem_flatten.1 hd;exact mE h e he d zn
def partC (l:List Nod):List D:=[ug l]
theorem va {l:List (List Nod)} {i:Nat} {q:List Nod} (h:l[i]?=some q):(l.map partC)[i]?=some (partC q):=by rw[List.getElem?_map,h];rfl
def eu:List (List Nod)→Nat
 |[]=>0
 |l::ls=>l.length+eu ls
theorem cO:∀a b:List (List Nod),eu (a++b)=eu a+eu b
 |[],b=>by simp[eu]
 |l::a,b=>by rw[List.cons_append,eu,eu,cO a b];omega
theorem sC {s0:St} {x:D} {parts:List (List Nod)} (op:Int) (hx:V.Rows s0 1 x (parts.map partC)) (hv:∀l∈parts,∀n∈l,NdV n) (hp:parts.length≤100000) (hs:eu parts≤100000):∃d,Ev pv 120 [.int .i64 op,x] s0 d s0∧∃l,d=ug l∧(∀n∈l,NdV n)∧(parts.length=1→l.length≤eu parts)∧l.length≤eu parts+1:=by
 refine Ev.CD rfl Le rfl rfl rfl ?_;refine zE ?_;obtain⟨hSb,hF,hH⟩:=ri s0;generalize enterSt .ro s0=S at*;have hx:=Arg.of hx hSb;refine zQ 8 ?_;refine qn ?_;simp only[List.length_map];refine zQ 7 ?_
 by_cases h0:parts.length=0
 ·refine qD rfl (by simp[h0]) ?_;refine zQ 2 ?_;refine EvO.go (d:=.agg [.int .i64 1,.nul,.int .i64 0,.int .i64 0,.bool false,.int .i64 0,.int .i64 0]) (st1:=_) rfl rfl rfl (by dsimp only[Fr.put,u1,u2]<;>rfl) ?_;refine qh (s:=7) (vs:=[_]) hH fun k13 st Kf hH=>?_;refine zQ 2 ?_;have hfz:=gO (L:=s0.bs.length) (a:=[]) hH at0 (.inr ⟨rfl,rfl⟩) (fun k hk=>by have iR:k13+1=k+1:=hk;rw[←hSb];omega);refine EvC.ret ⟨rx,_,_,rfl,rl hSb hH (hfz),?_⟩;exact⟨_,rfl,CB (by simp) (by omega),by omega,by simp⟩
 have Ol:(((parts.length:Nat):Int)==0)=false:=by rw[beq_eq_false_iff_ne];omega
 refine qE rfl (by rw[Ol]) ?_;refine zQ 5 ?_
 by_cases h1:parts.length=1
 ·obtain⟨q,hq⟩:∃q,parts[0]?=some q:=⟨parts[0]'(by omega),List.getElem?_eq_getElem _⟩
  have hr1:=va hq
  have FB:parts=[q]:=by
   match parts,h1,hq with
   |[a],_,hq=>simp at hq;rw[hq]
  refine qD rfl (by simp[h1]) ?_;refine zQ 3 ?_;refine qr fun RK Nz=>?_;refine zQ 3 ?_;refine EvC.ret ⟨rx,_,_,rfl,rl hSb hH (rfl),?_⟩;refine⟨q,rfl,hv q (List.mem_of_getElem? hq),fun _=>?_,?_⟩<;>rw[FB]<;>simp[eu]
 have HU:(((parts.length:Nat):Int)==1)=false:=by rw[beq_eq_false_iff_ne];omega
 refine qE rfl (by rw[HU]) ?_;refine zQ 5 ?_;refine qn ?_;simp only[List.length_map];refine EvO.go (d:=.agg [.int .i64 op,.nul,.int .i64 0,.int .i64 0,.bool false,.int .i64 0,.int .i64 (parts.length:Nat)]) (st1:=_) rfl rfl rfl (by dsimp only[Fr.put,u1,u2]<;>rfl) ?_;refine qh (s:=7) (vs:=[_]) hH fun k23 st Kd hH=>?_;refine zQ 6 ?_;refine qn ?_;simp only[List.length_map];refine zQ 2 ?_;have hH:Has s0.bs.length S st (.lst (.win k23 0 0 1 7) 7 [[.int .i64 op,.nul,.int .i64 0,.int .i64 0,.bool false,.int .i64 0,.int .i64 (parts.length:Nat)]]::[]):=hH;refine zQ 1 ?_;refine EvC.loop (fun mm fr st=>∃(i:Nat) (od:D) (es:List (List D)) (lo:List Nod),fr.clean=⟨27,[cg fr 0,cg fr 1,cg fr 2,cg fr 3,cg fr 4,od,cg fr 6,cg fr 7,cg fr 8,cg fr 9,cg fr 10,cg fr 11,cg fr 12,cg fr 13,cg fr 14,cg fr 15,cg fr 16,cg fr 17,cg fr 18,cg fr 19,cg fr 20,cg fr 21,cg fr 22,cg fr 23,x,.int .i64 (parts.length:Nat),.int .i64 (i:Nat)],[]⟩∧Has s0.bs.length S st [.lst od 7 es]∧(i+mm=parts.length)∧(es.map (·.map oa)=lo.map aQ)∧(∀e∈es,∀d∈e,nv d=true)∧(∀n∈lo,NdV n)∧(lo.length=1+eu (parts.take i))∧(∀k,od.ref=k+1→S.bs.length≤k)) (parts.length) ?_ ?_
 ·refine⟨0,.win k23 0 0 1 7,[[.int .i64 op,.nul,.int .i64 0,.int .i64 0,.bool false,.int .i64 0,.int .i64 (parts.length:Nat)]],[tD op 0 0 false 0 (parts.length:Nat) []],rfl,hH,by omega,rfl,?_,CB (by simp) (by omega),by simp[eu],fun k hk=>by simp only[D.ref] at hk;omega⟩;intro e he d hd;simp only[List.mem_cons,List.not_mem_nil,or_false] at he;subst he;simp only[List.mem_cons,List.not_mem_nil,or_false] at hd
  rcases hd with rfl|rfl|rfl|rfl|rfl|rfl|rfl<;>rfl
 rintro mm fr st ⟨i,od,es,lo,hfr,hH,hi,kW,ht,Gz,hlen,Gx⟩;rw[hfr];clear hfr;generalize cg fr=ee;clear fr;refine zQ 4 ?_
 by_cases hlt:i<parts.length
 ·obtain⟨q,hq⟩:∃q,parts[i]?=some q:=⟨parts[i]'hlt,List.getElem?_eq_getElem _⟩
  have hr1:=va hq;have LP:=hv q (List.mem_of_getElem? hq);have oz:es.length=lo.length:=by have:=congrArg List.length kW;simpa using this
  have JG:parts.take (i+1)=parts.take i++[q]:=by rw[List.take_add_one,hq];rfl
  have MS:eu (parts.take (i+1))=eu (parts.take i)+q.length:=by rw[JG,cO];simp[eu]
  have Sj:eu (parts.take (i+1))≤eu parts:=by
   have:=cO (parts.take (i+1)) (parts.drop (i+1));rw[List.take_append_drop] at this;omega
  refine qq<|qD rfl (by simp;omega) ?_;refine zQ 5 ?_;refine qr fun VE SZ=>?_;refine zQ 6 ?_;refine EvO.pS (s:=7) hH rfl (ev rfl) (ev rfl) at0 ((sf LP).rows st) rfl rfl rfl rfl rfl rfl rfl ⟨(Nat.le_of_ble_eq_true rfl),(Nat.le_of_ble_eq_true rfl)⟩ (fun _=>(put_T rfl _)) (by rw[List.length_map];omega) (.inl hF) Gx (fun Ra st Gx hH=>?_);dsimp only[u2] at hH;refine zQ 6 ?_;refine⟨mm-1,by omega,⟨i+1,Ra,es++q.map aQ,lo++q,rfl,hH,by omega,by rw[List.map_append,List.map_append,kW,tB LP],?_,?_,by rw[List.length_append,hlen,MS];omega,Gx⟩⟩
  ·intro e he
   rcases List.mem_append.1 he with he|he
   ·exact ht e he
   ·exact pe LP e he
  ·intro n hn
   rcases List.mem_append.1 hn with hn|hn
   ·exact Gz n hn
   ·exact LP n hn
 ·refine qq<|qE rfl (by simp;omega) ?_;refine zQ 6 ?_;have hik:i=parts.length:=by omega
  rw[hik,List.take_length] at hlen;refine EvC.ret ⟨rx,_,_,rfl,rl hSb hH (gN hH at0 kW ht (fun k hk=>by have:=Gx k hk;rw[←hSb];exact this) (by decide)),?_⟩;exact⟨_,rfl,Gz,by omega,by omega⟩
def fk (fr:Go.V.Fr) (k:Nat):Go.V.D:=Go.V.nth .junk fr.loc k
theorem l5 {N:Nat} {S st:St} {H:List aN} {a b c:aN} (h:Has N S st (a::b::c::H)):Has N S st (b::c::a::H):=by
 have h1:=h.front at1;have h2:=h1.front at2;exact h2.front at1
def kb (m:Nat):Prop:=∀{N k:Nat} {S s0:St} {H:List aN} {gs:List (Nat×Nat)} {bc:D} {br:List Int} {s:dY},jO gs br→s.e=0→s.i≤gs.length→s.g≤4→s.o+m=20→Has N S s0 (.box k (.mem 0 false (aF gs bc s))::.lst bc 1 (br.map ai)::H)→
 ∃d ab,Ev pv 94 [.ptr k 0 0] s0 d ab∧∃(s':dY),uf gs s s' d∧Has N S ab (.box k (.mem 0 false (aF gs bc s'))::.lst bc 1 (br.map ai)::H)
theorem DA {m:Nat} (hA:∀m',m'+1=m→kb m') {N k:Nat} {S s0:St} {H:List aN} {gs:List (Nat×Nat)} {bc:D} {br:List Int} {s:dY} (hok:jO gs br) (he:s.e=0) (hi:s.i<gs.length) (hg:s.g≤4) (ho:s.o+m=20) (hH:Has N S s0 (.box k (.mem 0 false (aF gs bc s))::.lst bc 1 (br.map ai)::H)):
  ∃d ab,Ev pv 155 [.ptr k 0 0] s0 d ab∧∃(s':dY),h_ gs s s' d 2∧Has N S ab (.box k (.mem 0 false (aF gs bc s'))::.lst bc 1 (br.map ai)::H):=by
 have rE:=hok.gl;have hpl:=hok.pl;refine Ev.fX rfl K3 rfl rfl rfl ?_;refine zE ?_;have bP:=hH;have hH:=hH.bT;have bO:(enterSt .rw s0).bs=s0.bs:=rfl;generalize enterSt .rw s0=S2 at*
 have hwr:∀(st:St) (s3:dY) (e:Int) (H2:List aN),e≠0→s3.e=0→s3.o=s.o→s3.g≤4→s.i≤s3.i→s3.i≤gs.length→Has N S2 st (.box k (.mem 0 false (aF gs bc s3))::.lst bc 1 (br.map ai)::H2)→∃d ab,Ev pv 95 [.ptr k 0 0,.int .i64 (s.i:Nat),.int .i64 e] st d ab∧d=.sl []∧∃s4,h_ gs s s4 (.sl []) 2∧Has N S2 ab (.box k (.mem 0 false (aF gs bc s4))::.lst bc 1 (br.map ai)::H2):=by
  intro st s3 e H2 h0 h1 h2 h3 h4 h5 hH;obtain⟨d,ab,hev,h6,hH⟩:=cv (s:=s3) s.i e (by omega) hH;obtain⟨w1,w2,w3,w4⟩:=cH (br:=br) (s:=s3) (i:=s.i) (e:=e) h1 h0;exact⟨d,ab,hev,h6,_,fc (w3.trans h2) (by omega) (by omega) (by omega) w1,hH⟩
 refine zQ 21 ?_;refine qT hH at0 fun st hH=>?_;dsimp only[u2,u1,u3,u4,setMany,u5,u6,D.cells,Nat.reduceAdd,aF,aL,ai,aj,aQ] at hH;refine zQ 1 ?_;have hH:Has N S2 st (.box k (.mem 0 false (aF gs bc {s with i:=s.i+1}))::.lst bc 1 (br.map ai)::H):=hH
 obtain⟨s1,rp⟩:∃s1:dY,({s with i:=s.i+1}:dY)=s1:=⟨_,rfl⟩
 have M1:s1.e=0∧s1.o=s.o∧s1.g=s.g∧s1.i=s.i+1:=by rw[←rp];exact⟨he,rfl,rfl,rfl⟩
 rw[rp] at hH;clear rp;obtain⟨f1,f2,f3,f4⟩:=M1;refine zQ 6 ?_;refine EvC.mF (fun fr st=>∃(free:Bool) (s2:dY) (tmp:List (Nat×D)),fr=⟨7,[.ptr k 0 0,fk fr 1,fk fr 2,.int .i64 (s.i:Nat),.bool free,fk fr 5,fk fr 6],tmp⟩∧Has N S2 st (.box k (.mem 0 false (aF gs bc s2))::.lst bc 1 (br.map ai)::H)∧(s2.e=0)∧(s2.o=s.o)∧(s2.g=s.g)∧(s.i+1≤s2.i)∧(s2.i≤gs.length)) ?_ ?_
 ·obtain⟨k1,k2,k3,k4,k5⟩:=fO (gs:=gs) (s:=s1) (r:=63);have k5:=k5 (by omega);refine zQ 2 ?_;obtain⟨_,st,hev,rfl,hH⟩:=c9 (s:=s1) (by omega) 63 hH;refine qv hev ?_;refine zQ 1 ?_;generalize ct gs s1 63=s2 at*
  cases hb:jz gs s1.i 63 with
  |false=>
   refine zQ 2 ?_;exact⟨false,s2,_,rfl,hH,by omega,by omega,by omega,by omega,by omega⟩
  |true=>
   refine zQ 5 ?_;obtain⟨r1,r2,r3,r4,r5⟩:=fO (gs:=gs) (s:=s2) (r:=58);have r5:=r5 k5;refine zQ 3 ?_;obtain⟨_,st,hev,rfl,hH⟩:=c9 (s:=s2) (by omega) 58 hH;refine qv hev ?_;refine zQ 2 ?_;generalize ct gs s2 58=s3 at*
   cases hb2:jz gs s2.i 58 with
   |false=>
    refine zQ 5 ?_;obtain⟨_,st,hev,rfl,s4,hN,hH⟩:=hwr _ s3 4 _ (by decide) (by omega) (by omega) (by omega) (by omega) (by omega) hH;refine qv hev ?_;refine zQ 2 ?_;refine EvC.ret ⟨rx,_,_,_,rfl,ae (rfl),?_⟩;exact⟨s4,hN,bP.ak bO hH⟩
   |true=>
    refine zQ 2 ?_;exact⟨true,s3,_,rfl,hH,by omega,by omega,by omega,by omega,by omega⟩
 ·rintro fr st ⟨free,s2,tmp,hfr,hH,h1,h2,h3,h4,h5⟩;rw[hfr];clear hfr;generalize fk fr=ee;clear fr;refine zQ 9 ?_
  by_cases QE:20≤s2.o
  ·have hcc:decide (((s2.o:Nat):Int)≥20)=true:=by rw[decide_eq_true_eq];omega
   refine qD rfl (by rw[hcc]) ?_;refine zQ 4 ?_;obtain⟨_,st,hev,rfl,s4,hN,hH⟩:=hwr _ s2 10 _ (by decide) h1 h2 (by omega) (by omega) h5 hH;refine qv hev ?_;refine zQ 2 ?_;refine EvC.ret ⟨rx,_,_,_,rfl,ae (rfl),?_⟩;exact⟨s4,hN,bP.ak bO hH⟩
  have hcc:decide (((s2.o:Nat):Int)≥20)=false:=by rw[decide_eq_false_iff_not];omega
  refine qE rfl (by rw[hcc]) ?_;refine zQ 3 ?_;refine EvO.go (d:=.agg [.int .i64 6,.nul,.int .i64 0,.int .i64 0,.bool false,.int .i64 0,.int .i64 1]) (st1:=_) rfl rfl rfl (put_T rfl _) ?_;refine qa hH fun k5 st Ep hH=>?_;dsimp only[u2,u1,u3,u4,setMany,u5,u6,D.cells,Nat.reduceAdd,aF,aL,ai,aj,aQ] at hH;refine qS hH at0 fun st hH=>?_;dsimp only[u2,u1,u3,u4,setMany,u5,u6,D.cells,Nat.reduceAdd,aF,aL,ai,aj,aQ] at hH;refine zQ 1 ?_;have hH:Has N S2 st (.box k (.mem 0 false (aF gs bc s2))::.lst bc 1 (br.map ai)::.box k5 (.mem 0 false [.int .i64 6,.nul,.int .i64 0,.int .i64 0,.bool false,.int .i64 0,.int .i64 1])::H):=l5 hH;refine zQ 2 ?_;refine EvC.mF (fun fr st=>∃(cap:Int) (s3:dY) (tmp:List (Nat×D)),fr=⟨7,[.ptr k 0 0,fk fr 1,fk fr 2,.int .i64 (s.i:Nat),.bool free,.ptr k5 0 0,fk fr 6],tmp⟩∧Has N S2 st (.box k (.mem 0 false (aF gs bc s3))::.lst bc 1 (br.map ai)::.box k5 (.mem 0 false [.int .i64 6,.nul,.int .i64 0,.int .i64 0,.bool false,.int .i64 cap,.int .i64 1])::H)∧(s3.e=0)∧(s3.o=s.o)∧(s3.g≤4)∧(s3.i=s2.i)) ?_ ?_
  ·refine zQ 4 ?_
   cases free with
   |true=>
    refine zQ 2 ?_;exact⟨0,s2,_,rfl,hH,h1,h2,by omega,rfl⟩
   |false=>
    refine zQ 10 ?_
    by_cases Qt:4≤s2.g
    ·have hcc:decide (((s2.g:Nat):Int)≥4)=true:=by rw[decide_eq_true_eq];omega
     refine qD rfl (by rw[hcc]) ?_;refine zQ 4 ?_;obtain⟨_,st,hev,rfl,s4,hN,hH⟩:=hwr _ s2 13 _ (by decide) h1 h2 (by omega) (by omega) h5 hH;refine qv hev ?_;refine zQ 2 ?_;refine EvC.ret ⟨rx,_,_,_,rfl,ae (rfl),?_⟩;exact⟨s4,hN,bP.ak bO (hH.erase 2)⟩
    ·have hcc:decide (((s2.g:Nat):Int)≥4)=false:=by rw[decide_eq_false_iff_not];omega
     refine qE rfl (by rw[hcc]) ?_;refine zQ 10 ?_;refine qT hH at0 fun st hH=>?_;dsimp only[u2,u1,u3,u4,setMany,u5,u6,D.cells,Nat.reduceAdd,aF,aL,ai,aj,aQ] at hH;refine zQ 7 ?_;refine qT hH at2 fun st hH=>?_;dsimp only[u2,u1,u3,u4,setMany,u5,u6,D.cells,Nat.reduceAdd,aF,aL,ai,aj,aQ] at hH;refine zQ 1 ?_;exact⟨((s2.g+1:Nat):Int),{s2 with g:=s2.g+1},_,rfl,hH,h1,h2,by show s2.g+1≤4;omega,rfl⟩
  ·rintro fr st ⟨cap,s3,tmp,hfr,hH,e1,e2,e3,e4⟩;rw[hfr];clear hfr;generalize fk fr=ee;clear fr;refine zQ 9 ?_;refine qT hH at0 fun st hH=>?_;dsimp only[u2,u1,u3,u4,setMany,u5,u6,D.cells,Nat.reduceAdd,aF,aL,ai,aj,aQ] at hH;refine zQ 1 ?_;have hH:Has N S2 st (.box k (.mem 0 false (aF gs bc {s3 with o:=s3.o+1}))::.lst bc 1 (br.map ai)::.box k5 (.mem 0 false [.int .i64 6,.nul,.int .i64 0,.int .i64 0,.bool false,.int .i64 cap,.int .i64 1])::H):=hH;refine zQ 3 ?_;obtain⟨_,st,hev,s4,⟨a1,a2,a3,a4,l,rfl,a5,a6⟩,hH⟩:=hA (m-1) (by omega) (s:={s3 with o:=s3.o+1}) hok e1 (by show s3.i≤_;omega) e3 (by show s3.o+1+(m-1)=20;omega) hH;refine qv hev ?_;refine zQ 2 ?_;have a1:s4.o=s3.o+1:=a1;have a3:s3.i≤s4.i:=a3;have a6:l.length≤4*(s4.i-s3.i)+1:=a6;have hla:=(sf a5).arg N S2;refine zQ 6 ?_;refine EvO.ky (z:=((s.o:Nat):Int)) rfl (ev rfl) (ev rfl) (by(try simp only[List.length_reverse,List.length_cons,List.length_nil,List.length_append,List.length_map,List.length_set]);rw[wrap_i64 (by omega) (by omega)]<;>omega) (put_T rfl _) ?_;refine zQ 2 ?_;refine qT hH at0 fun st hH=>?_;dsimp only[u2,u1,u3,u4,setMany,u5,u6,D.cells,Nat.reduceAdd,aF,aL,ai,aj,aQ] at hH;refine zQ 1 ?_
   obtain⟨s5,M0⟩:∃s5:dY,({s4 with o:=s.o}:dY)=s5:=⟨_,rfl⟩
   have hH:Has N S2 st (.box k (.mem 0 false (aF gs bc s5))::.lst bc 1 (br.map ai)::.box k5 (.mem 0 false [.int .i64 6,.nul,.int .i64 0,.int .i64 0,.bool false,.int .i64 cap,.int .i64 1])::H):=by rw[←M0];exact hH
   have MZ:s5.o=s.o∧s5.g=s4.g∧s5.i=s4.i:=by rw[←M0];exact⟨rfl,rfl,rfl⟩
   clear M0;obtain⟨b1,b2,b3⟩:=MZ;refine zQ 2 ?_;refine EvC.mF (fun fr st=>∃(s6:dY) (tmp:List (Nat×D)),fr=⟨7,[.ptr k 0 0,fk fr 1,fk fr 2,fk fr 3,.bool free,.ptr k5 0 0,ug l],tmp⟩∧Has N S2 st (.box k (.mem 0 false (aF gs bc s6))::.lst bc 1 (br.map ai)::.box k5 (.mem 0 false [.int .i64 6,.nul,.int .i64 0,.int .i64 0,.bool false,.int .i64 cap,.int .i64 1])::H)∧(s6.o=s.o)∧(s6.g≤4)∧(s4.i≤s6.i)∧(s6.i≤gs.length)∧(s6.e≠0∨s6.e=0∧s4.i<s6.i)) ?_ ?_
   ·by_cases Oa:s5.e=0
    ·have fK:(s5.e==0)=true:=by simpa using Oa
     obtain⟨k1,k2,k3,k4,Qg⟩:=fO (gs:=gs) (s:=s5) (r:=41);have Qg:=Qg (by omega);have hsk:jz gs s5.i 41=true→(ct gs s5 41).i=s5.i+1:=fun h=>by unfold ct;rw[if_pos h]
     refine zQ 8 ?_;obtain⟨_,st,hev,rfl,hH⟩:=c9 (s:=s5) (by omega) 41 hH;refine qv hev ?_ (hg:=wi fK);refine zQ 3 ?_;generalize ct gs s5 41=s6 at*
     cases hb:jz gs s5.i 41 with
     |false=>
      refine zQ 5 ?_;obtain⟨_,st,hev,rfl,s7,hN,hH⟩:=hwr _ s6 4 _ (by decide) (by omega) (by omega) (by omega) (by omega) (by omega) hH;refine qv hev ?_;refine zQ 2 ?_;refine EvC.ret ⟨rx,_,_,_,rfl,ae (rfl),?_⟩;exact⟨s7,hN,bP.ak bO (hH.erase 2)⟩
     |true=>
      have hsk:=hsk hb;refine zQ 2 ?_;exact⟨s6,_,rfl,hH,by omega,by omega,by omega,by omega,.inr ⟨by omega,by omega⟩⟩
    ·have fK:(s5.e==0)=false:=by simpa using Oa
     refine zQ 14 ?_;exact⟨s5,_,rfl,hH,b1,by omega,by omega,by omega,.inl Oa⟩
   ·rintro fr st ⟨s6,tmp,hfr,hH,c1,c2,c3,c4,c5⟩;rw[hfr];clear hfr;generalize fk fr=ee;clear fr;refine zQ 5 ?_
    cases free with
    |true=>
     refine zQ 6 ?_;refine EvC.ret ⟨rx,_,_,_,rfl,ae (rfl),?_⟩;refine⟨s6,⟨c1,c2,by omega,c4,l,rfl,a5,by omega,?_⟩,bP.ak bO (hH.erase 2)⟩
     rcases c5 with c5|⟨c5,c6⟩
     ·exact .inl c5
     ·exact .inr ⟨c5,by omega⟩
    |false=>
     refine zQ 4 ?_;refine EvO.hloadS (m:=7) hH rfl (ev rfl) (by exact at2) (by dsimp only[List.drop_succ_cons,List.drop_zero,List.take_succ_cons,List.take_zero,aF,aL,ai,aj,aQ]<;>rfl) rfl rfl (put_T rfl _) ?_;refine qh (s:=7) (vs:=[_]) hH fun k89 st Tk hH=>?_;dsimp only[u2,u1,u3,u4,setMany,u5,u6,D.cells,Nat.reduceAdd,aF,aL,ai,aj,aQ] at hH;refine qm ?_;refine EvO.pS (s:=7) hH rfl (ev rfl) (ev rfl) at0 ((sf a5).rows st) rfl rfl rfl rfl rfl rfl rfl ⟨(Nat.le_of_ble_eq_true rfl),(Nat.le_of_ble_eq_true rfl)⟩ (fun _=>(put_T rfl _)) (by simp only[List.length_map,List.length_cons,List.length_nil];omega) (.inr (sc a5)) (fun k hk=>by have iR:k89+1=k+1:=hk;omega) (fun Q0 st Gx hH=>?_);dsimp only[u2] at hH;refine zQ 2 ?_;have hH:Has N S2 st (.lst Q0 7 ([.int .i64 6,.nul,.int .i64 0,.int .i64 0,.bool false,.int .i64 cap,.int .i64 1]::l.map aQ)::.box k (.mem 0 false (aF gs bc s6))::.lst bc 1 (br.map ai)::.box k5 (.mem 0 false [.int .i64 6,.nul,.int .i64 0,.int .i64 0,.bool false,.int .i64 cap,.int .i64 1])::H):=hH
     have hfz:=gN (L:=s0.bs.length) (l:=tD 6 0 0 false cap 1 []::l) hH at0 (by rw[List.map_cons,tB a5];rfl) (fun e he d hd=>by
      rcases List.mem_cons.1 he with rfl|he
      ·simp only[List.mem_cons,List.not_mem_nil,or_false] at hd
       rcases hd with rfl|rfl|rfl|rfl|rfl|rfl|rfl<;>rfl
      ·exact pe a5 e he d hd) (fun k hk=>by rw[←bO];exact Gx k hk) (n:=16) (by decide)
     refine EvC.ret ⟨rx,_,_,_,rfl,ae hfz,⟨s6,⟨c1,c2,by omega,c4,_,rfl,?_,by simp only[List.length_cons];omega,?_⟩,bP.ak bO ((hH.drop 1).erase 2)⟩⟩
     ·intro n hn
      rcases List.mem_cons.1 hn with rfl|hn
      ·exact⟨rfl,by simp[tD],by simp[tD]⟩
      ·exact a5 n hn
     ·rcases c5 with c5|⟨c5,c6⟩
      ·exact .inl c5
      ·exact .inr ⟨c5,by simp only[List.length_cons];omega⟩
def xK (fr:Go.V.Fr) (k:Nat):Go.V.D:=Go.V.nth .junk fr.loc k
theorem om {gs:List (Nat×Nat)} {s:dY} {r:Int} (h:jz gs s.i r=false):ct gs s r=s:=by
 unfold ct;rw[if_neg (by rw[h];simp)]
theorem lf {gs:List (Nat×Nat)} {s:dY} {r:Int} (h:jz gs s.i r=true):(ct gs s r).i=s.i+1:=by
 unfold ct;rw[if_pos h]
theorem Ga {m:Nat} (hA:∀m',m'+1=m→kb m') {N k:Nat} {S s0:St} {H:List aN} {gs:List (Nat×Nat)} {bc:D} {br:List Int} {s:dY} (hok:jO gs br) (he:s.e=0) (hi:s.i<gs.length) (hg:s.g≤4) (ho:s.o+m=20) (hH:Has N S s0 (.box k (.mem 0 false (aF gs bc s))::.lst bc 1 (br.map ai)::H)):
  ∃d ab,Ev pv 143 [.ptr k 0 0] s0 d ab∧∃(s':dY),h_ gs s s' d 2∧Has N S ab (.box k (.mem 0 false (aF gs bc s'))::.lst bc 1 (br.map ai)::H):=by
 have rE:=hok.gl;have hpl:=hok.pl;refine Ev.fX rfl K7 rfl rfl rfl ?_;refine zE ?_;have bP:=hH;have hH:=hH.bT;have bO:(enterSt .rw s0).bs=s0.bs:=rfl;generalize enterSt .rw s0=S2 at*;have FM:Arg N S2 2 (dv gs) (gs.map aL):=Arg.pure (fun st=>c7 st gs)
 obtain⟨g,LW⟩:∃g,gs[s.i]?=some g:=⟨gs[s.i]'hi,List.getElem?_eq_getElem _⟩
 have hr1:(gs.map aL)[s.i]?=some (aL g):=by rw[List.getElem?_map,LW];rfl
 have hwr:∀(st:St),Has N S2 st (.box k (.mem 0 false (aF gs bc s))::.lst bc 1 (br.map ai)::H)→∃d ab,Ev pv 95 [.ptr k 0 0,.int .i64 (s.i:Nat),.int .i64 4] st d ab∧d=.sl []∧∃s4,h_ gs s s4 (.sl []) 2∧Has N S2 ab (.box k (.mem 0 false (aF gs bc s4))::.lst bc 1 (br.map ai)::H):=by
  intro st hH;obtain⟨d,ab,hev,h6,hH⟩:=cv (s:=s) s.i 4 (by omega) hH;obtain⟨w1,w2,w3,w4⟩:=cH (br:=br) (s:=s) (i:=s.i) (e:=4) he (by decide);exact⟨d,ab,hev,h6,_,fc w3 (by omega) (by omega) (by omega) w1,hH⟩
 have iP:∀(st:St) (s1:dY) (op:Int) (w:D) (a:List Rg) (kk:Nat),(w=a8 a∨w=.nul∧a=[])→a.length≤1048576→s1.o=s.o→s1.g≤4→s.i<s1.i→s1.i≤gs.length→S2.bs.length≤kk→Has N S2 st (.lst (.win kk 0 0 1 7) 7 [[.int .i64 op,w,.int .i64 0,.int .i64 0,.bool false,.int .i64 0,.int .i64 0]]::.box k (.mem 0 false (aF gs bc s1))::.lst bc 1 (br.map ai)::H)→
   ∃d ab,bU .rw false s0 st (.win kk 0 0 1 7)=some (d,ab)∧∃(s':dY),h_ gs s s' d 2∧Has N S ab (.box k (.mem 0 false (aF gs bc s'))::.lst bc 1 (br.map ai)::H):=by
  intro st s1 op w a kk hw ha h1 h2 h3 h4 hk hH;have hfz:=gO hH at0 (L:=s0.bs.length) hw (fun k hk=>by simp only[D.ref] at hk;rw[←bO];omega);refine⟨_,_,ae hfz,s1,⟨h1,h2,by omega,h4,_,rfl,CB ha (by omega),by simp,?_⟩,bP.ak bO (hH.drop 1)⟩
  by_cases he:s1.e=0
  ·exact .inr ⟨he,by simp only[List.length_cons,List.length_nil];omega⟩
  ·exact .inl he
 refine zQ 17 ?_;obtain⟨_,st,hev,rfl,hH⟩:=yA (s:=s) s.i hi hH;refine qv hev ?_;refine zQ 1 ?_;refine qc (fun hb=>?_) (fun hb=>?_)<;>try simp only[cs] at hb
 ·refine zQ 4 ?_;obtain⟨_,st,hev,rfl,s4,hN,hH⟩:=hwr _ hH;refine qv hev ?_;refine zQ 2 ?_;refine EvC.ret ⟨rx,_,_,_,rfl,ae (rfl),?_⟩;exact⟨s4,hN,bP.ak bO hH⟩
 refine zQ 8 ?_;refine qr fun LF FD=>?_;refine qf (fo:=0) fun Mo Hx=>?_;refine zQ 13 ?_;refine zI (fun Rq=>?_) fun Rq=>?_
 ·refine zQ 3 ?_;obtain⟨_,st,hev,s4,⟨p1,p2,p3,p4,l,rfl,p5,p6,p7⟩,hH⟩:=DA hA hok he hi hg ho hH;refine qv hev ?_;refine zQ 2 ?_;refine EvC.ret ⟨rx,_,_,_,rfl,ae (rfl),?_⟩;exact⟨s4,⟨p1,p2,p3,p4,l,rfl,p5,p6,p7⟩,bP.ak bO hH⟩
 refine zQ 5 ?_;refine zI (fun Jc=>?_) fun Jc=>?_
 ·refine zQ 3 ?_;obtain⟨_,st,hev,s4,⟨p1,p2,p3,p4,l,rfl,p5,p6,p7⟩,hH⟩:=DQ hok he hi hg hH;refine qv hev ?_;refine zQ 2 ?_;refine EvC.ret ⟨rx,_,_,_,rfl,ae (rfl),?_⟩;exact⟨s4,⟨p1,p2,p3,p4,l,rfl,p5,p6,p7⟩,bP.ak bO hH⟩
 refine zQ 5 ?_;refine zI (fun Ro=>?_) fun Ro=>?_
 ·refine zQ 3 ?_;obtain⟨_,st,hev,d1,b,s4,rfl,⟨p1,p2,p3,p4,p5,p6⟩,hH⟩:=yT (s:=s) hok he hi hH;refine qv hev ?_;refine zQ 6 ?_
  have Dl:∀(st:St) (w:D) (a:List Rg) (kk:Nat),(w=a8 a∨w=.nul∧a=[])→a.length≤8→S2.bs.length≤kk→Has N S2 st (.lst (.win kk 0 0 1 7) 7 [[.int .i64 2,w,.int .i64 0,.int .i64 0,.bool false,.int .i64 0,.int .i64 0]]::.box k (.mem 0 false (aF gs bc s4))::.lst bc 1 (br.map ai)::H)→∃d ab,bU .rw false s0 st (.win kk 0 0 1 7)=some (d,ab)∧∃(s':dY),h_ gs s s' d 2∧Has N S ab (.box k (.mem 0 false (aF gs bc s'))::.lst bc 1 (br.map ai)::H):=by
   intro st w a kk hw ha hk hH;have hfz:=gO hH at0 (L:=s0.bs.length) hw (fun k hk=>by simp only[D.ref] at hk;rw[←bO];omega);refine⟨_,_,ae hfz,s4,⟨p1,by omega,by omega,p4,_,rfl,CB (by omega) (by omega),by simp,?_⟩,bP.ak bO (hH.drop 1)⟩
   rcases p6 with p6|⟨p6,p7,_⟩
   ·exact .inl p6
   ·exact .inr ⟨p6,by simp only[List.length_cons,List.length_nil];omega⟩
  rcases p5 with rfl|⟨a,rfl,ha⟩
  ·refine zQ 3 ?_;refine EvO.eE (qs:=[(0,_),(1,_)]) rfl rfl rfl rfl ⟨rfl,(ev rfl),(by rfl),rfl,(ev rfl),(by rfl),trivial⟩ (by intro q hq;simp only[List.mem_cons,List.not_mem_nil,or_false] at hq;rcases hq with rfl|rfl<;>exact⟨rfl,by exact Nat.le_of_ble_eq_true rfl⟩) (by show List.foldl _ [_,_,_,_,_,_,_] _=_;dsimp only[List.foldl_cons,List.foldl_nil,u2,u1]<;>rfl) (put_T rfl _) ?_;refine qh (s:=7) (vs:=[_]) hH fun k54 st HJ hH=>?_;dsimp only[u2,u1,u3,u4,setMany,u5,u6,D.cells,Nat.reduceAdd,aF,aL,ai,aj,aQ] at hH;refine zQ 2 ?_;obtain⟨d',ab,vP,fR⟩:=Dl _ .nul [] k54 (.inr ⟨rfl,rfl⟩) (by simp) HJ hH;refine EvC.ret ⟨rx,_,d',ab,rfl,vP,fR⟩
  ·refine zQ 3 ?_;refine EvO.eE (qs:=[(0,_),(1,_)]) rfl rfl rfl rfl ⟨rfl,(ev rfl),(by rfl),rfl,(ev rfl),(by rfl),trivial⟩ (by intro q hq;simp only[List.mem_cons,List.not_mem_nil,or_false] at hq;rcases hq with rfl|rfl<;>exact⟨rfl,by exact Nat.le_of_ble_eq_true rfl⟩) (by show List.foldl _ [_,_,_,_,_,_,_] _=_;dsimp only[List.foldl_cons,List.foldl_nil,u2,u1]<;>rfl) (put_T rfl _) ?_;refine qh (s:=7) (vs:=[_]) hH fun k54 st HJ hH=>?_;dsimp only[u2,u1,u3,u4,setMany,u5,u6,D.cells,Nat.reduceAdd,aF,aL,ai,aj,aQ] at hH;refine zQ 2 ?_;obtain⟨d',ab,vP,fR⟩:=Dl _ (a8 a) a k54 (.inl rfl) ha HJ hH;refine EvC.ret ⟨rx,_,d',ab,rfl,vP,fR⟩
 refine zQ 5 ?_;refine zI (fun Rp=>?_) fun Rp=>?_
 ·refine zQ 9 ?_;refine qT hH at0 fun st hH=>?_;dsimp only[u2,u1,u3,u4,setMany,u5,u6,D.cells,Nat.reduceAdd,aF,aL,ai,aj,aQ] at hH;refine zQ 1 ?_;obtain⟨_,Ob,a,rfl,hla⟩:=Ig (s0:=st);refine zQ 2 ?_;refine qv (Ob) ?_;refine EvO.eE (qs:=[(0,_),(1,_)]) rfl rfl rfl rfl ⟨rfl,(ev rfl),(by rfl),rfl,(ev rfl),(by rfl),trivial⟩ (by intro q hq;simp only[List.mem_cons,List.not_mem_nil,or_false] at hq;rcases hq with rfl|rfl<;>exact⟨rfl,by exact Nat.le_of_ble_eq_true rfl⟩) (by show List.foldl _ [_,_,_,_,_,_,_] _=_;dsimp only[List.foldl_cons,List.foldl_nil,u2,u1]<;>rfl) (put_T rfl _) ?_;refine qh (s:=7) (vs:=[_]) hH fun k66 st NO hH=>?_;refine zQ 2 ?_;obtain⟨d',ab,vP,fR⟩:=iP _ {s with i:=s.i+1} 2 (a8 a) a k66 (.inl rfl) (by omega) rfl hg (by show s.i<s.i+1;omega) (by show s.i+1≤_;omega) NO hH;refine EvC.ret ⟨rx,_,d',ab,rfl,vP,fR⟩
 refine zQ 5 ?_;refine zI (fun Rm=>?_) fun Rm=>?_
 ·refine zQ 9 ?_;refine qT hH at0 fun st hH=>?_;dsimp only[u2,u1,u3,u4,setMany,u5,u6,D.cells,Nat.reduceAdd,aF,aL,ai,aj,aQ] at hH;refine zQ 3 ?_;refine EvO.go (d:=.agg [.int .i64 7,.nul,.int .i64 0,.int .i64 0,.bool false,.int .i64 0,.int .i64 0]) (st1:=_) rfl rfl rfl (put_T rfl _) ?_;refine qh (s:=7) (vs:=[_]) hH fun k77 st J' hH=>?_;refine zQ 2 ?_;obtain⟨d',ab,vP,fR⟩:=iP _ {s with i:=s.i+1} 7 .nul [] k77 (.inr ⟨rfl,rfl⟩) (by simp) rfl hg (by show s.i<s.i+1;omega) (by show s.i+1≤_;omega) J' hH;refine EvC.ret ⟨rx,_,d',ab,rfl,vP,fR⟩
 refine zQ 5 ?_;refine zI (fun Rr=>?_) fun Rr=>?_
 ·refine zQ 9 ?_;refine qT hH at0 fun st hH=>?_;dsimp only[u2,u1,u3,u4,setMany,u5,u6,D.cells,Nat.reduceAdd,aF,aL,ai,aj,aQ] at hH;refine zQ 3 ?_;refine EvO.go (d:=.agg [.int .i64 8,.nul,.int .i64 0,.int .i64 0,.bool false,.int .i64 0,.int .i64 0]) (st1:=_) rfl rfl rfl (put_T rfl _) ?_;refine qh (s:=7) (vs:=[_]) hH fun k88 st J_ hH=>?_;refine zQ 2 ?_;obtain⟨d',ab,vP,fR⟩:=iP _ {s with i:=s.i+1} 8 .nul [] k88 (.inr ⟨rfl,rfl⟩) (by simp) rfl hg (by show s.i<s.i+1;omega) (by show s.i+1≤_;omega) J_ hH;refine EvC.ret ⟨rx,_,d',ab,rfl,vP,fR⟩
 refine zQ 6 ?_
 by_cases PT:((g.1:Nat):Int)=42
 ·refine qD rfl (by simp[PT]) ?_;refine zQ 1 ?_;refine qD rfl (by simp[PT]) ?_;refine zQ 4 ?_;obtain⟨_,st,hev,rfl,s4,hN,hH⟩:=hwr _ hH;refine qv hev ?_;refine zQ 2 ?_;refine EvC.ret ⟨rx,_,_,_,rfl,ae (rfl),?_⟩;exact⟨s4,hN,bP.ak bO hH⟩
 refine qE rfl (by simp[PT]) ?_;refine zQ 5 ?_
 by_cases PS:((g.1:Nat):Int)=43
 ·refine qD rfl (by simp[PS]) ?_;refine zQ 1 ?_;refine qD rfl (by simp[PS]) ?_;refine zQ 4 ?_;obtain⟨_,st,hev,rfl,s4,hN,hH⟩:=hwr _ hH;refine qv hev ?_;refine zQ 2 ?_;refine EvC.ret ⟨rx,_,_,_,rfl,ae (rfl),?_⟩;exact⟨s4,hN,bP.ak bO hH⟩
 refine qE rfl (by simp[PS]) ?_;refine zQ 5 ?_
 by_cases PR:((g.1:Nat):Int)=63
 ·refine qD rfl (by simp[PR]) ?_;refine zQ 1 ?_;refine qD rfl (by simp[PR]) ?_;refine zQ 4 ?_;obtain⟨_,st,hev,rfl,s4,hN,hH⟩:=hwr _ hH;refine qv hev ?_;refine zQ 2 ?_;refine EvC.ret ⟨rx,_,_,_,rfl,ae (rfl),?_⟩;exact⟨s4,hN,bP.ak bO hH⟩
 refine qE rfl (by simp[PR]) ?_;refine zQ 5 ?_
 by_cases PU:((g.1:Nat):Int)=41
 ·refine qD rfl (by simp[PU]) ?_;refine zQ 1 ?_;refine qD rfl (by simp[PU]) ?_;refine zQ 4 ?_;obtain⟨_,st,hev,rfl,s4,hN,hH⟩:=hwr _ hH;refine qv hev ?_;refine zQ 2 ?_;refine EvC.ret ⟨rx,_,_,_,rfl,ae (rfl),?_⟩;exact⟨s4,hN,bP.ak bO hH⟩
 refine qE rfl (by simp[PU]) ?_;refine zQ 5 ?_
 by_cases PQ:((g.1:Nat):Int)=93
 ·refine qD rfl (by simp[PQ]) ?_;refine zQ 1 ?_;refine qD rfl (by simp[PQ]) ?_;refine zQ 4 ?_;obtain⟨_,st,hev,rfl,s4,hN,hH⟩:=hwr _ hH;refine qv hev ?_;refine zQ 2 ?_;refine EvC.ret ⟨rx,_,_,_,rfl,ae (rfl),?_⟩;exact⟨s4,hN,bP.ak bO hH⟩
 refine qE rfl (by simp[PQ]) ?_;refine zQ 5 ?_
 by_cases Ip:((g.1:Nat):Int)=123
 ·refine qD rfl (by simp[Ip]) ?_;refine zQ 1 ?_;refine qD rfl (by simp[Ip]) ?_;refine zQ 4 ?_;obtain⟨_,st,hev,rfl,s4,hN,hH⟩:=hwr _ hH;refine qv hev ?_;refine zQ 2 ?_;refine EvC.ret ⟨rx,_,_,_,rfl,ae (rfl),?_⟩;exact⟨s4,hN,bP.ak bO hH⟩
 refine qE rfl (by simp[Ip]) ?_;refine zQ 5 ?_
 by_cases Io:((g.1:Nat):Int)=125
 ·refine qD rfl (by simp[Io]) ?_;refine zQ 1 ?_;refine qD rfl (by simp[Io]) ?_;refine zQ 4 ?_;obtain⟨_,st,hev,rfl,s4,hN,hH⟩:=hwr _ hH;refine qv hev ?_;refine zQ 2 ?_;refine EvC.ret ⟨rx,_,_,_,rfl,ae (rfl),?_⟩;exact⟨s4,hN,bP.ak bO hH⟩
 refine qE rfl (by simp[Io]) ?_;refine zQ 4 ?_
 by_cases Lt:((g.1:Nat):Int)=124
 ·refine qD rfl (by simp[Lt]) ?_;refine zQ 4 ?_;obtain⟨_,st,hev,rfl,s4,hN,hH⟩:=hwr _ hH;refine qv hev ?_;refine zQ 2 ?_;refine EvC.ret ⟨rx,_,_,_,rfl,ae (rfl),?_⟩;exact⟨s4,hN,bP.ak bO hH⟩
 refine qE rfl (by simp[Lt]) ?_;refine zQ 9 ?_;refine qT hH at0 fun st hH=>?_;dsimp only[u2,u1,u3,u4,setMany,u5,u6,D.cells,Nat.reduceAdd,aF,aL,ai,aj,aQ] at hH;refine zQ 1 ?_;obtain⟨_,AZ,_⟩:=lu (s0:=s0) (x:=a8 [(((g.1:Nat):Int),((g.1:Nat):Int))]) (l:=[(((g.1:Nat):Int),((g.1:Nat):Int))]) (eD _ _) (by simp);simp only[List.length_cons,List.length_nil] at AZ;refine zQ 3 ?_;refine qv (ic _) ?_;refine EvO.eE (qs:=[(0,_),(1,_)]) rfl rfl rfl rfl ⟨rfl,(ev rfl),(by rfl),rfl,(ev rfl),(by rfl),trivial⟩ (by intro q hq;simp only[List.mem_cons,List.not_mem_nil,or_false] at hq;rcases hq with rfl|rfl<;>exact⟨rfl,by exact Nat.le_of_ble_eq_true rfl⟩) (by show List.foldl _ [_,_,_,_,_,_,_] _=_;dsimp only[List.foldl_cons,List.foldl_nil,u2,u1]<;>rfl) (put_T rfl _) ?_;refine qh (s:=7) (vs:=[_]) hH fun k36 st Kb hH=>?_;refine zQ 2 ?_;obtain⟨d',ab,vP,fR⟩:=iP _ {s with i:=s.i+1} 2 _ _ k36 (.inl rfl) (by omega) rfl hg (by show s.i<s.i+1;omega) (by show s.i+1≤_;omega) Kb hH;refine EvC.ret ⟨rx,_,d',ab,rfl,vP,fR⟩
theorem B8 {m:Nat} (hA:∀m',m'+1=m→kb m') {N k:Nat} {S s0:St} {H:List aN} {gs:List (Nat×Nat)} {bc:D} {br:List Int} {s:dY} (hok:jO gs br) (he:s.e=0) (hi:s.i<gs.length) (hg:s.g≤4) (ho:s.o+m=20) (hH:Has N S s0 (.box k (.mem 0 false (aF gs bc s))::.lst bc 1 (br.map ai)::H)):
  ∃d ab,Ev pv 131 [.ptr k 0 0] s0 d ab∧∃(s':dY),h_ gs s s' d 1∧Has N S ab (.box k (.mem 0 false (aF gs bc s'))::.lst bc 1 (br.map ai)::H):=by
 have rE:=hok.gl;have hpl:=hok.pl;refine Ev.fX rfl K_ rfl rfl rfl ?_;refine zE ?_;have bP:=hH;have hH:=hH.bT;have bO:(enterSt .rw s0).bs=s0.bs:=rfl;generalize enterSt .rw s0=S2 at*;refine zQ 7 ?_;obtain⟨_,st,hev,s1,⟨p1,p2,p3,p4,l,rfl,p5,p6,p7⟩,hH⟩:=Ga hA hok he hi hg ho hH;refine qv hev ?_;refine zQ 11 ?_
 rcases p7 with p7|⟨p7,p8⟩
 ·refine qD rfl (by simp[p7]) ?_;refine zQ 4 ?_;refine EvC.ret ⟨rx,_,_,_,rfl,ae (rfl),?_⟩;exact⟨s1,fc p1 p2 p3 p4 p7,bP.ak bO hH⟩
 refine qE rfl (by simp[p7]) ?_;refine zQ 3 ?_;refine EvO.go (d:=.agg [.int .i64 5,.nul,.int .i64 0,.int .i64 0,.bool false,.int .i64 0,.int .i64 1]) (st1:=_) rfl rfl rfl (put_T rfl _) ?_;refine qa hH fun k4 st IV hH=>?_;dsimp only[u2,u1,u3,u4,setMany,u5,u6,D.cells,Nat.reduceAdd,aF,aL,ai,aj,aQ] at hH;refine qS hH at0 fun st hH=>?_;dsimp only[u2,u1,u3,u4,setMany,u5,u6,D.cells,Nat.reduceAdd,aF,aL,ai,aj,aQ] at hH;refine zQ 1 ?_;have hH:Has N S2 st (.box k (.mem 0 false (aF gs bc s1))::.lst bc 1 (br.map ai)::.box k4 (.mem 0 false [.int .i64 5,.nul,.int .i64 0,.int .i64 0,.bool false,.int .i64 0,.int .i64 1])::H):=l5 hH;refine qq<|EvC.merge (fun fr st=>∃(mn mx:Int) (s2:dY) (tmp:List (Nat×D)),fr=⟨5,[.ptr k 0 0,xK fr 1,xK fr 2,ug l,.ptr k4 0 0],tmp⟩∧Has N S2 st (.box k (.mem 0 false (aF gs bc s2))::.lst bc 1 (br.map ai)::.box k4 (.mem 0 false [.int .i64 5,.nul,.int .i64 mn,.int .i64 mx,.bool false,.int .i64 0,.int .i64 1])::H)∧(s2.o=s.o)∧(s2.g≤4)∧(s1.i<s2.i)∧(s2.i≤gs.length)) ?_ ?_
 ·refine zQ 4 ?_;obtain⟨_,st,hev,rfl,hH⟩:=c9 (s:=s1) (by omega) 42 hH;refine qv hev ?_;refine zQ 2 ?_
  cases hb1:jz gs s1.i 42 with
  |true=>
   obtain⟨k1,k2,k3,Mw,k5⟩:=fO (gs:=gs) (s:=s1) (r:=42);have k6:=lf hb1;have k7:=k5 p4;generalize ct gs s1 42=s2 at*;refine zQ 3 ?_;refine qT hH at2 fun st hH=>?_;dsimp only[u2,u1,u3,u4,setMany,u5,u6,D.cells,Nat.reduceAdd,aF,aL,ai,aj,aQ] at hH;refine zQ 1 ?_;exact⟨0,-1,s2,_,rfl,hH,by omega,by omega,by omega,k7⟩
  |false=>
   rw[om hb1] at hH;refine zQ 4 ?_;obtain⟨_,st,hev,rfl,hH⟩:=c9 (s:=s1) (by omega) 43 hH;refine qv hev ?_;refine zQ 2 ?_
   cases hb2:jz gs s1.i 43 with
   |true=>
    obtain⟨k1,k2,k3,Mw,k5⟩:=fO (gs:=gs) (s:=s1) (r:=43);have k6:=lf hb2;have k7:=k5 p4;generalize ct gs s1 43=s2 at*;refine zQ 3 ?_;refine qT hH at2 fun st hH=>?_;dsimp only[u2,u1,u3,u4,setMany,u5,u6,D.cells,Nat.reduceAdd,aF,aL,ai,aj,aQ] at hH;refine zQ 1 ?_;refine qT hH at2 fun st hH=>?_;dsimp only[u2,u1,u3,u4,setMany,u5,u6,D.cells,Nat.reduceAdd,aF,aL,ai,aj,aQ] at hH;refine zQ 1 ?_;exact⟨1,-1,s2,_,rfl,hH,by omega,by omega,by omega,k7⟩
   |false=>
    rw[om hb2] at hH;refine zQ 4 ?_;obtain⟨_,st,hev,rfl,hH⟩:=c9 (s:=s1) (by omega) 63 hH;refine qv hev ?_;refine zQ 2 ?_
    cases Kw:jz gs s1.i 63 with
    |true=>
     obtain⟨k1,k2,k3,Mw,k5⟩:=fO (gs:=gs) (s:=s1) (r:=63);have k6:=lf Kw;have k7:=k5 p4;generalize ct gs s1 63=s2 at*;refine zQ 3 ?_;refine qT hH at2 fun st hH=>?_;dsimp only[u2,u1,u3,u4,setMany,u5,u6,D.cells,Nat.reduceAdd,aF,aL,ai,aj,aQ] at hH;refine zQ 1 ?_;exact⟨0,1,s2,_,rfl,hH,by omega,by omega,by omega,k7⟩
    |false=>
     rw[om Kw] at hH;refine zQ 4 ?_;obtain⟨_,st,hev,rfl,hH⟩:=nK (s:=s1) (by omega) 123 hH;refine qv hev ?_;refine zQ 2 ?_
     cases Ua:jz gs s1.i 123 with
     |true=>
      have hlt:=pC Ua;refine zQ 3 ?_;obtain⟨_,st,hev,n1,n2,s2,rfl,⟨m1,m2,m3,m4⟩,hH⟩:=Cs hok p7 hlt hH;refine qv hev ?_;refine zQ 4 ?_;refine qT hH at2 fun st hH=>?_;dsimp only[u2,u1,u3,u4,setMany,u5,u6,D.cells,Nat.reduceAdd,aF,aL,ai,aj,aQ] at hH;refine zQ 1 ?_;refine qT hH at2 fun st hH=>?_;dsimp only[u2,u1,u3,u4,setMany,u5,u6,D.cells,Nat.reduceAdd,aF,aL,ai,aj,aQ] at hH;refine zQ 1 ?_;exact⟨n1,n2,s2,_,rfl,hH,by omega,by omega,m3,m4⟩
     |false=>
      refine zQ 6 ?_;refine EvC.ret ⟨rx,_,_,_,rfl,ae (rfl),?_⟩;exact⟨s1,⟨p1,p2,p3,p4,l,rfl,p5,p6,.inr ⟨p7,by omega⟩⟩,bP.ak bO (hH.erase 2)⟩
 ·rintro fr st ⟨mn,mx,s2,tmp,hfr,hH,h1,h2,h3,h4⟩;rw[hfr];clear hfr;generalize xK fr=ee;clear fr;refine zQ 9 ?_
  by_cases A5:s2.e=0
  ·refine qE rfl (by simp[A5]) ?_;refine zQ 1 ?_;obtain⟨k1,k2,k3,Mw,k5⟩:=fO (gs:=gs) (s:=s2) (r:=63);have k7:=k5 h4;refine zQ 3 ?_;obtain⟨_,st,hev,rfl,hH⟩:=c9 (s:=s2) (by omega) 63 hH;refine qv hev ?_;refine zQ 1 ?_;refine qT hH at2 fun st hH=>?_;dsimp only[u2,u1,u3,u4,setMany,u5,u6,D.cells,Nat.reduceAdd,aF,aL,ai,aj,aQ] at hH;refine zQ 1 ?_;generalize ct gs s2 63=s3 at*;generalize jz gs s2.i 63=lz at*;have hla:=(sf p5).arg N S2;refine zQ 2 ?_;refine EvO.hloadS (m:=7) hH rfl (ev rfl) (by exact at2) (by dsimp only[List.drop_succ_cons,List.drop_zero,List.take_succ_cons,List.take_zero,aF,aL,ai,aj,aQ]<;>rfl) rfl rfl (put_T rfl _) ?_;refine qh (s:=7) (vs:=[_]) hH fun k46 st Tx hH=>?_;refine qm ?_;refine EvO.pS (s:=7) hH rfl (ev rfl) (ev rfl) at0 ((sf p5).rows st) rfl rfl rfl rfl rfl rfl rfl ⟨(Nat.le_of_ble_eq_true rfl),(Nat.le_of_ble_eq_true rfl)⟩ (fun _=>(put_T rfl _)) (by simp only[List.length_map,List.length_cons,List.length_nil];omega) (.inr (sc p5)) (fun k hk=>by have iR:k46+1=k+1:=hk;omega) (fun Ma st Gx hH=>?_);dsimp only[u2] at hH;refine zQ 2 ?_;have hH:Has N S2 st (.lst Ma 7 ([.int .i64 5,.nul,.int .i64 mn,.int .i64 mx,.bool lz,.int .i64 0,.int .i64 1]::l.map aQ)::.box k (.mem 0 false (aF gs bc s3))::.lst bc 1 (br.map ai)::.box k4 (.mem 0 false [.int .i64 5,.nul,.int .i64 mn,.int .i64 mx,.bool lz,.int .i64 0,.int .i64 1])::H):=hH
   have hfz:=gN (L:=s0.bs.length) (l:=tD 5 mn mx lz 0 1 []::l) hH at0 (by rw[List.map_cons,tB p5];rfl) (fun e he d hd=>by
    rcases List.mem_cons.1 he with rfl|he
    ·simp only[List.mem_cons,List.not_mem_nil,or_false] at hd
     rcases hd with rfl|rfl|rfl|rfl|rfl|rfl|rfl<;>rfl
    ·exact pe p5 e he d hd) (fun k hk=>by rw[←bO];exact Gx k hk) (n:=16) (by decide)
   refine EvC.ret ⟨rx,_,_,_,rfl,ae hfz,⟨s3,⟨by omega,by omega,by omega,k7,_,rfl,?_,by simp only[List.length_cons];omega,.inr ⟨by omega,by simp only[List.length_cons];omega⟩⟩,bP.ak bO ((hH.drop 1).erase 2)⟩⟩;intro n hn
   rcases List.mem_cons.1 hn with rfl|hn
   ·exact⟨rfl,by simp[tD],by simp[tD]⟩
   ·exact p5 n hn
  ·refine qD rfl (by simp[A5]) ?_;refine zQ 4 ?_;refine EvC.ret ⟨rx,_,_,_,rfl,ae (rfl),?_⟩;exact⟨s2,fc h1 h2 (by omega) h4 A5,bP.ak bO (hH.erase 2)⟩
def mO (fr:Go.V.Fr) (k:Nat):Go.V.D:=Go.V.nth .junk fr.loc k
theorem DU {m:Nat} (hA:∀m',m'+1=m→kb m') {N k:Nat} {S s0:St} {H:List aN} {gs:List (Nat×Nat)} {bc:D} {br:List Int} {s:dY} (hok:jO gs br) (he:s.e=0) (hi:s.i≤gs.length) (hg:s.g≤4) (ho:s.o+m=20) (hH:Has N S s0 (.box k (.mem 0 false (aF gs bc s))::.lst bc 1 (br.map ai)::H)):
  ∃d ab,Ev pv 118 [.ptr k 0 0] s0 d ab∧∃(s':dY),uf gs s s' d∧Has N S ab (.box k (.mem 0 false (aF gs bc s'))::.lst bc 1 (br.map ai)::H):=by
 have rE:=hok.gl;have hpl:=hok.pl;refine Ev.fX rfl Lg rfl rfl rfl ?_;refine zE ?_;have bP:=hH;have hH:=hH.bT;have bO:(enterSt .rw s0).bs=s0.bs:=rfl;generalize enterSt .rw s0=S2 at*;have FM:Arg N S2 2 (dv gs) (gs.map aL):=Arg.pure (fun st=>c7 st gs);refine zQ 8 ?_;have hH:Has N S2 S2 (.box k (.mem 0 false (aF gs bc s))::.lst bc 1 (br.map ai)::.lst .nul 1 (([]:List (List Nod)).map partC)::H):=l5 (hH.nulE 1);refine zQ 2 ?_;refine EvC.loop (fun mm fr st=>∃(s1:dY) (pd:D) (parts:List (List Nod)),fr.clean=⟨4,[.ptr k 0 0,mO fr 1,mO fr 2,pd],[]⟩∧Has N S2 st (.box k (.mem 0 false (aF gs bc s1))::.lst bc 1 (br.map ai)::.lst pd 1 (parts.map partC)::H)∧(s1.o=s.o)∧(s1.g≤4)∧(s.i≤s1.i)∧(s1.i≤gs.length)∧(∀l∈parts,∀n∈l,NdV n)∧(eu parts+parts.length≤4*(s1.i-s.i)+2)∧(s1.e=0→eu parts+parts.length≤4*(s1.i-s.i))∧(gs.length-s1.i+(if s1.e=0 then 1 else 0)≤mm)) (gs.length+1) ?_ ?_
 ·exact⟨s,.nul,[],rfl,hH,rfl,hg,Nat.le_refl _,hi,fun l hl=>(by cases hl),by simp[eu],fun _=>by simp[eu],by split<;>omega⟩
 rintro mm fr st ⟨s1,pd,parts,hfr,hH,h1,h2,h3,h4,h5,h6,h7,xS⟩;rw[hfr];clear hfr;generalize mO fr=ee;clear fr
 have pN:∀st:St,Has N S2 st (.box k (.mem 0 false (aF gs bc s1))::.lst bc 1 (br.map ai)::.lst pd 1 (parts.map partC)::H)→∃d,Ev pv 120 [.int .i64 3,pd] st d st∧uf gs s s1 d∧∃l,d=ug l:=by
  intro st hH;obtain⟨_,hev,l,rfl,j1,j2,j3⟩:=sC 3 (hH.rows at2) h5 (by omega) (by omega);refine⟨_,hev,⟨h1,h2,h3,h4,l,rfl,j1,?_⟩,l,rfl⟩
  by_cases q1:parts.length=1
  ·have:=j2 q1;omega
  ·by_cases q0:parts.length=0
   ·have:parts=[]:=List.length_eq_zero_iff.1 q0;rw[this] at j3 h6;simp[eu] at j3 h6;omega
   ·omega
 by_cases kK:s1.e=0
 ·rw[if_pos kK] at xS;have h7:=h7 kK;have fK:(s1.e==0)=true:=by simpa using kK
  by_cases hlt:s1.i<gs.length
  ·have bA:decide (((s1.i:Nat):Int)<((gs.length:Nat):Int))=true:=by rw[decide_eq_true_eq];omega
   cases dU:(!jz gs s1.i 124) with
   |false=>
    refine zQ 17 ?_;refine qn ?_ (hg:=wi fK);simp only[List.length_map];refine zQ 4 ?_;obtain⟨_,st,hev,rfl,hH⟩:=nK (s:=s1) (by omega) 124 hH;refine qv hev ?_ (hg:=wi bA);refine zQ 17 ?_;obtain⟨_,Dd,hQ,l,rfl⟩:=pN _ hH;refine zQ 3 ?_;refine qv (Dd) ?_;refine zQ 2 ?_;refine EvC.ret ⟨rx,_,_,_,rfl,ae (rfl),?_⟩;exact⟨s1,hQ,bP.ak bO (hH.erase 2)⟩
   |true=>
    cases cE:jz gs s1.i 41 with
    |false=>
     refine zQ 17 ?_;refine qn ?_ (hg:=wi fK);simp only[List.length_map];refine zQ 4 ?_;obtain⟨_,st,hev,rfl,hH⟩:=nK (s:=s1) (by omega) 124 hH;refine qv hev ?_ (hg:=wi bA);refine zQ 4 ?_;obtain⟨_,st,hev,rfl,hH⟩:=nK (s:=s1) (by omega) 41 hH;refine qv hev ?_ (hg:=wi dU);refine zQ 6 ?_;refine EvO.pickF (wantD_is rfl rfl rfl dU) rfl cE (put_T rfl _) ?_;refine zQ 9 ?_;obtain⟨_,st,hev,s2,⟨r1,r2,r3,r4,l,rfl,r5,r6,r7⟩,hH⟩:=B8 hA hok (s:=s1) kK hlt h2 (by omega) hH;refine qv hev ?_;refine qh (s:=1) (vs:=[_]) hH fun k41 st Ka hH=>?_;dsimp only[u2,u1,u3,u4,setMany,u5,u6,D.cells,Nat.reduceAdd,aF,aL,ai,aj,partC] at hH;refine EvO.happend (s:=1) hH rfl (ev rfl) (ev rfl) (by exact at3) (by exact hH.rows (by exact at0)) rfl rfl rfl rfl rfl rfl rfl ⟨(Nat.le_of_ble_eq_true rfl),(Nat.le_of_ble_eq_true rfl)⟩ (fun _=>(put_T rfl _)) (by simp only[List.length_cons,List.length_nil,List.length_map]<;>omega) (by exact .inr rfl) (fun I5 st hH=>?_);dsimp only[u2,u1,u3,u4,setMany,u5,u6,D.cells,Nat.reduceAdd,aF,aL,ai,aj,partC] at hH;refine zQ 2 ?_;have hH:=hH.drop 1;refine⟨mm-1,by omega,⟨s2,I5,parts++[l],rfl,(by rw[List.map_append];exact hH),by omega,r2,by omega,r4,?_,by rw[cO,List.length_append];simp only[eu,List.length_cons,List.length_nil];omega,(fun e=>by rw[cO,List.length_append];simp only[eu,List.length_cons,List.length_nil];omega),by split<;>omega⟩⟩;intro l' hl'
     rcases List.mem_append.1 hl' with hl'|hl'
     ·exact h5 l' hl'
     ·simp only[List.mem_cons,List.not_mem_nil,or_false] at hl';subst hl';exact r5
    |true=>
     refine zQ 17 ?_;refine qn ?_ (hg:=wi fK);simp only[List.length_map];refine zQ 4 ?_;obtain⟨_,st,hev,rfl,hH⟩:=nK (s:=s1) (by omega) 124 hH;refine qv hev ?_ (hg:=wi bA);refine zQ 4 ?_;obtain⟨_,st,hev,rfl,hH⟩:=nK (s:=s1) (by omega) 41 hH;refine qv hev ?_ (hg:=wi dU);refine zQ 6 ?_;refine EvO.pickT (wantD_is rfl rfl rfl dU) rfl cE (put_T rfl _) ?_;refine zQ 3 ?_
     by_cases eT:0<s1.o
     ·have hcc:(!decide (((s1.o:Nat):Int)>0))=false:=by rw[decide_eq_true (by omega)];rfl
      refine qE rfl (by rw[hcc]) ?_;refine zQ 1 ?_;obtain⟨_,Dd,hQ,l,rfl⟩:=pN _ hH;refine zQ 3 ?_;refine qv (Dd) ?_;refine zQ 2 ?_;refine EvC.ret ⟨rx,_,_,_,rfl,ae (rfl),?_⟩;exact⟨s1,hQ,bP.ak bO (hH.erase 2)⟩
     ·have hcc:(!decide (((s1.o:Nat):Int)>0))=true:=by rw[decide_eq_false (by omega)];rfl
      refine qD rfl (by rw[hcc]) ?_;refine zQ 5 ?_;obtain⟨_,st,hev,s2,⟨r1,r2,r3,r4,l,rfl,r5,r6,r7⟩,hH⟩:=B8 hA hok (s:=s1) kK hlt h2 (by omega) hH;refine qv hev ?_;refine qh (s:=1) (vs:=[_]) hH fun k41 st Ka hH=>?_;dsimp only[u2,u1,u3,u4,setMany,u5,u6,D.cells,Nat.reduceAdd,aF,aL,ai,aj,partC] at hH;refine EvO.happend (s:=1) hH rfl (ev rfl) (ev rfl) (by exact at3) (by exact hH.rows (by exact at0)) rfl rfl rfl rfl rfl rfl rfl ⟨(Nat.le_of_ble_eq_true rfl),(Nat.le_of_ble_eq_true rfl)⟩ (fun _=>(put_T rfl _)) (by simp only[List.length_cons,List.length_nil,List.length_map]<;>omega) (by exact .inr rfl) (fun I5 st hH=>?_);dsimp only[u2,u1,u3,u4,setMany,u5,u6,D.cells,Nat.reduceAdd,aF,aL,ai,aj,partC] at hH;refine zQ 2 ?_;have hH:=hH.drop 1;refine⟨mm-1,by omega,⟨s2,I5,parts++[l],rfl,(by rw[List.map_append];exact hH),by omega,r2,by omega,r4,?_,by rw[cO,List.length_append];simp only[eu,List.length_cons,List.length_nil];omega,(fun e=>by rw[cO,List.length_append];simp only[eu,List.length_cons,List.length_nil];omega),by split<;>omega⟩⟩;intro l' hl'
      rcases List.mem_append.1 hl' with hl'|hl'
      ·exact h5 l' hl'
      ·simp only[List.mem_cons,List.not_mem_nil,or_false] at hl';subst hl';exact r5
  ·have bA:decide (((s1.i:Nat):Int)<((gs.length:Nat):Int))=false:=by rw[decide_eq_false_iff_not];omega
   refine zQ 17 ?_;refine qn ?_ (hg:=wi fK);simp only[List.length_map];refine zQ 22 ?_;obtain⟨_,Dd,hQ,l,rfl⟩:=pN _ hH;refine zQ 3 ?_;refine qv (Dd) ?_;refine zQ 2 ?_;refine EvC.ret ⟨rx,_,_,_,rfl,ae (rfl),?_⟩;exact⟨s1,hQ,bP.ak bO (hH.erase 2)⟩
 ·have fK:(s1.e==0)=false:=by simpa using kK
  refine zQ 40 ?_;obtain⟨_,Dd,hQ,l,rfl⟩:=pN _ hH;refine zQ 3 ?_;refine qv (Dd) ?_;refine zQ 2 ?_;refine EvC.ret ⟨rx,_,_,_,rfl,ae (rfl),?_⟩;exact⟨s1,hQ,bP.ak bO (hH.erase 2)⟩
theorem Ge:∀m:Nat,kb m:=by
 intro m
 induction m using Nat.strongRecOn with
 |ind m ih0=>
 have hA:∀m',m'+1=m→kb m':=fun m' h=>ih0 m' (by omega);intro N k S s0 H gs bc br s hok he hi hg ho hH;have rE:=hok.gl;have hpl:=hok.pl;refine Ev.fX rfl OT rfl rfl rfl ?_;refine zE ?_;have bP:=hH;have hH:=hH.bT;have bO:(enterSt .rw s0).bs=s0.bs:=rfl;generalize enterSt .rw s0=S2 at*;refine zQ 7 ?_;obtain⟨_,st,hev,s1,⟨p1,p2,p3,p4,l,rfl,p5,p6⟩,hH⟩:=DU hA hok he hi hg ho hH;refine qv hev ?_;refine qh (s:=1) (vs:=[_]) hH fun k6 st A0 hH=>?_;dsimp only[u2,u1,u3,u4,setMany,u5,u6,D.cells,Nat.reduceAdd,aF,aL,ai,aj,partC] at hH;refine zQ 2 ?_;have hH:Has N S2 st (.box k (.mem 0 false (aF gs bc s1))::.lst bc 1 (br.map ai)::.lst (.win k6 0 0 1 1) 1 ([l].map partC)::H):=l5 hH;refine zQ 2 ?_;refine EvC.loop (fun mm fr st=>∃(s1:dY) (pd:D) (parts:List (List Nod)),fr.clean=⟨4,[.ptr k 0 0,mO fr 1,mO fr 2,pd],[]⟩∧Has N S2 st (.box k (.mem 0 false (aF gs bc s1))::.lst bc 1 (br.map ai)::.lst pd 1 (parts.map partC)::H)∧(s1.o=s.o)∧(s1.g≤4)∧(s.i≤s1.i)∧(s1.i≤gs.length)∧(∀l∈parts,∀n∈l,NdV n)∧(eu parts+3*parts.length≤4*(s1.i-s.i)+4)∧(1≤parts.length)∧(gs.length-s1.i≤mm)) (gs.length) ?_ ?_
 ·exact⟨s1,.win k6 0 0 1 1,[l],rfl,hH,p1,p2,p3,p4,(fun l' hl'=>by simp only[List.mem_cons,List.not_mem_nil,or_false] at hl';subst hl';exact p5),by simp only[eu,List.length_cons,List.length_nil];omega,by simp,by omega⟩
 rintro mm fr st ⟨s1,pd,parts,hfr,hH,h1,h2,h3,h4,h5,h6,h8,xS⟩;rw[hfr];clear hfr;generalize mO fr=ee;clear fr
 have pN:∀st:St,Has N S2 st (.box k (.mem 0 false (aF gs bc s1))::.lst bc 1 (br.map ai)::.lst pd 1 (parts.map partC)::H)→∃d,Ev pv 120 [.int .i64 4,pd] st d st∧uf gs s s1 d∧∃l,d=ug l:=by
  intro st hH;obtain⟨_,hev,l,rfl,j1,j2,j3⟩:=sC 4 (hH.rows at2) h5 (by omega) (by omega);refine⟨_,hev,⟨h1,h2,h3,h4,l,rfl,j1,?_⟩,l,rfl⟩
  by_cases q1:parts.length=1
  ·have:=j2 q1;omega
  ·omega
 by_cases kK:s1.e=0
 ·have fK:(s1.e==0)=true:=by simpa using kK
  obtain⟨k1,k2,k3,k4,k5⟩:=fO (gs:=gs) (s:=s1) (r:=124);have k5:=k5 h4;refine zQ 10 ?_;obtain⟨_,st,hev,rfl,hH⟩:=c9 (s:=s1) (by omega) 124 hH;refine qv hev ?_ (hg:=wi fK);refine zQ 2 ?_
  cases hb:jz gs s1.i 124 with
  |false=>
   rw[om hb] at hH;refine zQ 2 ?_;obtain⟨_,Dd,hQ,l,rfl⟩:=pN _ hH;refine zQ 3 ?_;refine qv (Dd) ?_;refine zQ 2 ?_;refine EvC.ret ⟨rx,_,_,_,rfl,ae (rfl),?_⟩;exact⟨s1,hQ,bP.ak bO (hH.erase 2)⟩
  |true=>
   have k6:=lf hb;generalize ct gs s1 124=s2 at*;refine zQ 6 ?_;obtain⟨_,st,hev,s3,⟨r1,r2,r3,r4,l,rfl,r5,r6⟩,hH⟩:=DU hA hok (s:=s2) (by omega) k5 (by omega) (by omega) hH;refine qv hev ?_;refine qh (s:=1) (vs:=[_]) hH fun k19 st TI hH=>?_;dsimp only[u2,u1,u3,u4,setMany,u5,u6,D.cells,Nat.reduceAdd,aF,aL,ai,aj,partC] at hH;refine EvO.happend (s:=1) hH rfl (ev rfl) (ev rfl) (by exact at3) (by exact hH.rows (by exact at0)) rfl rfl rfl rfl rfl rfl rfl ⟨(Nat.le_of_ble_eq_true rfl),(Nat.le_of_ble_eq_true rfl)⟩ (fun _=>(put_T rfl _)) (by simp only[List.length_cons,List.length_nil,List.length_map]<;>omega) (by exact .inr rfl) (fun PY st hH=>?_);dsimp only[u2,u1,u3,u4,setMany,u5,u6,D.cells,Nat.reduceAdd,aF,aL,ai,aj,partC] at hH;refine zQ 2 ?_;have hH:=hH.drop 1;refine⟨mm-1,by omega,⟨s3,PY,parts++[l],rfl,(by rw[List.map_append];exact hH),by omega,r2,by omega,r4,?_,by rw[cO,List.length_append];simp only[eu,List.length_cons,List.length_nil];omega,by rw[List.length_append];omega,by omega⟩⟩;intro l' hl'
   rcases List.mem_append.1 hl' with hl'|hl'
   ·exact h5 l' hl'
   ·simp only[List.mem_cons,List.not_mem_nil,or_false] at hl';subst hl';exact r5
 ·have fK:(s1.e==0)=false:=by simpa using kK
  refine zQ 15 ?_;obtain⟨_,Dd,hQ,l,rfl⟩:=pN _ hH;refine zQ 3 ?_;refine qv (Dd) ?_;refine zQ 2 ?_;refine EvC.ret ⟨rx,_,_,_,rfl,ae (rfl),?_⟩;exact⟨s1,hQ,bP.ak bO (hH.erase 2)⟩
theorem D6:∀(n:Nat) (b:List UInt8),b.length≤n→(rb b).length≤b.length∧∀g∈rb b,g.2≤b.length:=by
 intro n
 induction n with
 |zero=>
  intro b hb;have:b=[]:=List.length_eq_zero_iff.1 (by omega);subst this;rw[ra];exact⟨Nat.le_refl _,fun g hg=>by cases hg⟩
 |succ n ih=>
  intro b hb
  by_cases h:b=[]
  ·subst h;rw[ra];exact⟨Nat.le_refl _,fun g hg=>by cases hg⟩
  ·have hp:=fF b;have hl:=oy h;obtain⟨h1,h2⟩:=ih (b.drop (cD b).2) (by rw[List.length_drop];omega);rw[List.length_drop] at h1 h2;rw[s8 h];refine⟨by rw[List.length_cons];omega,fun g hg=>?_⟩
   rcases List.mem_cons.1 hg with rfl|hg
   ·exact hl
   ·have:=h2 g hg;omega
def aR (fr:Go.V.Fr) (k:Nat):Go.V.D:=Go.V.nth .junk fr.loc k
def IA (d:D):Prop:=∃(l:List Nod) (e w:Int),d=.tup [ug l,.int .i64 e,.int .i64 w]∧(∀n∈l,NdV n)∧l.length≤500
theorem Ch {s0:St} {b:List UInt8} (hbl:b.length≤1048576):∃d,Ev pv 55 [.str b] s0 d s0∧IA d:=by
 obtain⟨rE,TW⟩:=D6 _ b (Nat.le_refl _);have hev:∀(st:St) (x:D),Bytes st x b→Ev pv 15 [x] st (dv (rb b)) st:=fun st x h=>Iv h hbl;generalize rb b=gs at*;refine Ev.CD rfl Pb rfl rfl rfl ?_;refine zE ?_;obtain⟨hSb,hF,hH⟩:=ri s0;generalize enterSt .ro s0=S at*;have FM:Arg s0.bs.length S 2 (dv gs) (gs.map aL):=Arg.pure (fun st=>c7 st gs);refine zQ 10 ?_;refine EvO.slen rfl rfl rfl (by dsimp only[Fr.put,u1,u2]<;>rfl) ?_;refine zQ 2 ?_
 by_cases Qu:120<b.length
 ·have hcc:decide (((b.length:Nat):Int)>120)=true:=by rw[decide_eq_true_eq];omega
  refine qD rfl (by rw[hcc]) ?_;refine zQ 6 ?_;refine EvC.ret ⟨rx,_,_,rfl,rl hSb hH (rfl),?_⟩;exact⟨[],2,0,rfl,fun n hn=>(by cases hn),by simp⟩
 have hcc:decide (((b.length:Nat):Int)>120)=false:=by rw[decide_eq_false_iff_not];omega
 refine qE rfl (by rw[hcc]) ?_;refine zQ 4 ?_;refine EvO.HV hH rfl rfl rfl rfl rfl (by omega) (fun _=>by dsimp only[Fr.put,u1,u2]<;>rfl) (fun k14 st HK hH=>?_);refine qv ((hev _ _ (hH.rows at0))) ?_;refine EvO.go (d:=.agg [dv gs,.nul,.int .i64 0,.int .i64 0,.int .i64 0,.int .i64 0,.int .i64 0]) (st1:=_) rfl rfl rfl (by dsimp only[Fr.put,u1,u2]<;>rfl) ?_;refine qb hH fun k17 st Ke hH=>?_;refine zQ 13 ?_;refine qn ?_;simp only[List.length_map];refine zQ 2 ?_;have hH:Has s0.bs.length S st (.box k17 (.mem 0 false [dv gs,.nul,.int .i64 0,.int .i64 0,.int .i64 0,.int .i64 0,.int .i64 0])::.lst .nul 1 (([]:List Int).map ai)::[]):=((hH.erase 1).nulE 1).front at1;refine zQ 1 ?_;refine EvC.loop (fun mm fr st=>∃(i a:Nat) (pd:D) (br:List Int),fr.clean=⟨24,[aR fr 0,aR fr 1,aR fr 2,aR fr 3,aR fr 4,.ptr k17 0 0,.int .i64 (a:Nat),aR fr 7,aR fr 8,aR fr 9,aR fr 10,aR fr 11,aR fr 12,aR fr 13,aR fr 14,aR fr 15,aR fr 16,aR fr 17,aR fr 18,aR fr 19,aR fr 20,dv gs,.int .i64 (gs.length:Nat),.int .i64 (i:Nat)],[]⟩∧Has s0.bs.length S st [.box k17 (.mem 0 false [dv gs,pd,.int .i64 0,.int .i64 0,.int .i64 0,.int .i64 0,.int .i64 0]),.lst pd 1 (br.map ai)]∧(i+mm=gs.length)∧(br.length=i)∧(a≤120*i)) (gs.length) ?_ ?_
 ·exact⟨0,0,.nul,[],rfl,hH,by omega,rfl,by omega⟩
 rintro mm fr st ⟨i,a,pd,br,hfr,hH,hi,hpl,ha⟩;rw[hfr];clear hfr;generalize aR fr=ee;clear fr;refine zQ 4 ?_
 by_cases hlt:i<gs.length
 ·obtain⟨g,hg⟩:∃g,gs[i]?=some g:=⟨gs[i]'hlt,List.getElem?_eq_getElem _⟩
  have hr1:(gs.map aL)[i]?=some (aL g):=by rw[List.getElem?_map,hg];rfl
  have bS:=TW g (List.mem_of_getElem? hg);have pP:decide (((i:Nat):Int)<((gs.length:Nat):Int))=true:=by rw[decide_eq_true_eq];omega
  refine qq<|qD rfl (by rw[pP]) ?_;refine zQ 5 ?_;refine qr fun IE AX=>?_;refine EvO.cu rfl (ev rfl) (by assumption) rfl (put_T rfl _) ?_;refine qa hH fun k8 st hk8 hH=>?_;refine qS hH at0 fun st hH=>?_;dsimp only[u2,u1,u3,u4,setMany,u5,u6,D.cells,Nat.reduceAdd,aF,aL,ai] at hH;refine zQ 9 ?_;refine qh (s:=1) (vs:=[_]) hH fun k33 st NQ hH=>?_;refine EvO.happend (s:=1) hH rfl (ev rfl) (ev rfl) (by exact at3) (by exact hH.rows (by exact at0)) rfl rfl rfl rfl rfl rfl rfl ⟨(Nat.le_of_ble_eq_true rfl),(Nat.le_of_ble_eq_true rfl)⟩ (fun _=>(put_T rfl _)) (by simp only[List.length_cons,List.length_nil,List.length_map]<;>omega) (by exact .inl hF) (fun Q_ st hH=>?_);dsimp only[u2,u1,u3,u4,setMany,u5,u6,D.cells,Nat.reduceAdd,aF,aL,ai] at hH;refine zQ 2 ?_;refine qT hH at2 (fun st hH=>?_) (gM:=hH.ocells at3);dsimp only[u2,u1,u3,u4,setMany,u5,u6,D.cells,Nat.reduceAdd,aF,aL,ai] at hH;refine zQ 5 ?_;refine EvO.addN rfl (ev rfl) (ev rfl) (by omega) (put_T rfl _) ?_;refine zQ 6 ?_;exact⟨mm-1,by omega,⟨i+1,a+g.2,Q_,br++[((a:Nat):Int)],rfl,(by rw[List.map_append];exact hH.drop 2),by omega,by rw[List.length_append,hpl];rfl,by omega⟩⟩
 ·have pP:decide (((i:Nat):Int)<((gs.length:Nat):Int))=false:=by rw[decide_eq_false_iff_not];omega
  refine qq<|qE rfl (by rw[pP]) ?_;refine zQ 1 ?_
  have hok:jO gs br:=⟨by omega,by omega⟩
  have hH:Has s0.bs.length S st (.box k17 (.mem 0 false (aF gs pd ⟨0,0,0,0,0⟩))::.lst pd 1 (br.map ai)::[]):=hH;refine zQ 3 ?_;obtain⟨_,st,hev,s1,⟨p1,p2,p3,p4,l,rfl,p5,p6⟩,hH⟩:=Ge 20 (s:=⟨0,0,0,0,0⟩) hok rfl (by simp) (by simp) rfl hH;refine qv hev ?_;refine zQ 2 ?_;have p6:l.length≤4*(s1.i-0)+1:=p6;refine zQ 2 ?_;refine EvC.mF (fun fr st=>∃(s2:dY) (tmp:List (Nat×D)),fr=⟨24,[aR fr 0,aR fr 1,aR fr 2,aR fr 3,aR fr 4,.ptr k17 0 0,aR fr 6,aR fr 7,aR fr 8,ug l,aR fr 10,aR fr 11,aR fr 12,aR fr 13,aR fr 14,aR fr 15,aR fr 16,aR fr 17,aR fr 18,aR fr 19,aR fr 20,aR fr 21,aR fr 22,aR fr 23],tmp⟩∧Has s0.bs.length S st (.box k17 (.mem 0 false (aF gs pd s2))::.lst pd 1 (br.map ai)::[])∧(True)) ?_ ?_
  ·by_cases kK:s1.e=0
   ·have fK:(s1.e==0)=true:=by simpa using kK
    refine zQ 15 ?_;refine qn ?_ (hg:=wi fK);simp only[List.length_map];refine zQ 3 ?_;refine zP (fun HM=>?_) fun HM=>?_
    ·refine zQ 6 ?_;obtain⟨_,st,hev,rfl,hH⟩:=cv (s:=s1) s1.i 4 (by omega) hH;refine qv hev ?_;refine zQ 1 ?_;exact⟨_,_,rfl,hH,trivial⟩
    ·refine zQ 1 ?_;exact⟨s1,_,rfl,hH,trivial⟩
   ·have fK:(s1.e==0)=false:=by simpa using kK
    refine zQ 21 ?_;exact⟨s1,_,rfl,hH,trivial⟩
  ·rintro fr st ⟨s2,tmp,hfr,hH,ht⟩;rw[hfr];clear hfr;generalize aR fr=ee;clear fr;refine zQ 9 ?_;refine EvC.cond (by rfl) (fun hne=>?_) (fun hne=>?_)<;>try simp only[bne_iff_ne,bne_eq_false_iff_eq,ne_eq] at hne
   ·refine zQ 14 ?_;refine EvC.ret ⟨rx,_,_,rfl,rl hSb hH (rfl),?_⟩;exact⟨[],_,_,rfl,fun n hn=>(by cases hn),by simp⟩
   ·refine zQ 8 ?_;refine EvC.ret ⟨rx,_,_,rfl,rl hSb hH (rfl),?_⟩;exact⟨l,0,0,rfl,p5,by omega⟩
def tu (n:Nod):Bool:=((n.op==2)||((n.rs.length:Nat):Int)==0) &&((n.op==5)||((n.mn==0) &&(n.mx==0) &&!n.lz)) &&((n.op==6)||(n.cap==0))
noncomputable def d_ (n:Nod) (g:Int):Int×Bool:=
 if tu n=false then(0,false)
 else if n.op=1∨n.op=7∨n.op=8 then(0,n.kids==0)
 else if n.op=2 then(0,(n.kids==0) &&ec n.rs)
 else if n.op=3∨n.op=4 then(n.kids,decide (n.kids≥2))
 else if n.op=5 then(1,(n.kids==1) &&decide (n.mn≥0) &&decide (n.mn≤30) &&((n.mx==-1)||(decide (n.mx≥n.mn) &&decide (n.mx≤30))))
 else if n.op=6 then(1,(n.kids==1) &&(n.cap==g+1) &&decide (n.cap≤4))
 else(0,false)
def iu (h:Nat→Nat→Option (Nat×Nat)):Nat→Nat→Nat→Option (Nat×Nat)
 |0,at_,g=>some (at_,g)
 |k+1,at_,g=>match h at_ g with
  |some r=>iu h k r.1 r.2
  |none=>none
noncomputable def gq (l:List Nod):Nat→Nat→Nat→Option (Nat×Nat)
 |0,_,_=>none
 |f+1,at_,g=>match l[at_]? with
  |none=>none
  |some n=>if(d_ n (g:Nat)).2=true then iu (gq l f) (d_ n (g:Nat)).1.toNat (at_+1) (if n.op=6 then g+1 else g) else none
theorem uH {n:Nod} {g:Nat} (h:(d_ n (g:Nat)).2=true):vl n (d_ n (g:Nat)).1.toNat∧0≤(d_ n (g:Nat)).1∧(n.op=6→n.cap=g+1∧n.cap≤4):=by
 unfold d_ at h⊢;unfold vl
 by_cases h0:tu n=false
 ·rw[if_pos h0] at h;cases h
 rw[if_neg h0] at h⊢
 by_cases h1:n.op=1∨n.op=7∨n.op=8
 ·rw[if_pos h1] at h⊢;simp only[beq_iff_eq] at h;exact⟨⟨h,.inl ⟨h1,rfl⟩⟩,Int.le_refl _,fun h6=>by omega⟩
 rw[if_neg h1] at h⊢
 by_cases h2:n.op=2
 ·rw[if_pos h2] at h⊢;simp only[Bool.and_eq_true,beq_iff_eq] at h;exact⟨⟨h.1,.inr (.inl ⟨h2,rfl⟩)⟩,Int.le_refl _,fun h6=>by omega⟩
 rw[if_neg h2] at h⊢
 by_cases h3:n.op=3∨n.op=4
 ·rw[if_pos h3] at h⊢;simp only[decide_eq_true_eq] at h;exact⟨⟨by simp only;omega,.inr (.inr (.inl ⟨h3,by simp only;omega⟩))⟩,by simp only;omega,fun h6=>by omega⟩
 rw[if_neg h3] at h⊢
 by_cases h5:n.op=5
 ·rw[if_pos h5] at h⊢;simp only[Bool.and_eq_true,Bool.or_eq_true,beq_iff_eq,decide_eq_true_eq] at h;exact⟨⟨by simp only;omega,.inr (.inr (.inr (.inl ⟨h5,by simp only;rfl,by omega,by omega,by omega⟩)))⟩,by simp only;omega,fun h6=>by omega⟩
 rw[if_neg h5] at h⊢
 by_cases h6:n.op=6
 ·rw[if_pos h6] at h⊢;simp only[Bool.and_eq_true,beq_iff_eq,decide_eq_true_eq] at h;exact⟨⟨by simp only;omega,.inr (.inr (.inr (.inr ⟨h6,by simp only;rfl,by omega,by omega⟩)))⟩,by simp only;omega,fun _=>⟨h.1.2,h.2⟩⟩
 rw[if_neg h6] at h;cases h
theorem eB.cons {α:Type} {L M:List α} {a:α} {at_:Nat} (h:L[at_]?=some a) (h2:eB L (at_+1) M):eB L at_ (a::M):=by
 obtain⟨post,h2⟩:=h2;refine⟨post,?_⟩;have h3:L[at_]'(lt_get h)=a:=Option.some.inj ((List.getElem?_eq_getElem _).symm.trans h);rw[List.drop_eq_getElem_cons (lt_get h),h2,h3];rfl
theorem eB.append {α:Type} {L M M':List α} {at_:Nat} (h:eB L at_ M) (h2:eB L (at_+M.length) M'):eB L at_ (M++M'):=by
 obtain⟨post,h⟩:=h;obtain⟨Je,h2⟩:=h2;refine⟨Je,?_⟩;rw[←List.drop_drop,h,List.drop_left] at h2;rw[h,h2,List.append_assoc]
theorem eB.none {α:Type} (L:List α) (at_:Nat):eB L at_ []:=⟨_,rfl⟩
theorem sA {l:List Nod} {h:Nat→Nat→Option (Nat×Nat)} (ih:∀at_ g r,h at_ g=some r→∃t:Tr,t.ok∧eB l at_ t.flat∧r.1=at_+t.flat.length):∀k at_ g r,iu h k at_ g=some r→∃ts:a7,ts.len=k∧ts.ok∧eB l at_ ts.flat∧r.1=at_+ts.flat.length
 |0,at_,g,r,e=>by
  simp only[iu,Option.some.injEq] at e;subst e;exact⟨.nil,rfl,trivial,eB.none _ _,by simp[a7.flat]⟩
 |k+1,at_,g,r,e=>by
  unfold iu at e
  cases hq:h at_ g with
  |none=>rw[hq] at e;cases e
  |some q=>
   rw[hq] at e;obtain⟨t,t1,t2,t3⟩:=ih _ _ _ hq;obtain⟨ts,u1,u2,u3,u4⟩:=sA ih k _ _ _ e;rw[t3] at u3 u4;exact⟨.cons t ts,by simp[a7.len,u1],by simp only[a7.ok];exact⟨t1,u2⟩,by simp only[a7.flat];exact t2.append u3,by rw[u4];simp only[a7.flat,List.length_append];omega⟩
theorem ve {l:List Nod}:∀f at_ g r,gq l f at_ g=some r→∃t:Tr,t.ok∧eB l at_ t.flat∧r.1=at_+t.flat.length
 |0,_,_,_,e=>by simp[gq] at e
 |f+1,at_,g,r,e=>by
  unfold gq at e
  cases hn:l[at_]? with
  |none=>rw[hn] at e;cases e
  |some n=>
   rw[hn] at e;simp only at e
   split at e
   ·rename_i hs;obtain⟨ts,u1,u2,u3,u4⟩:=sA (ve f) _ _ _ _ e;have:=(uH hs).1;rw[←u1] at this;exact⟨.mk n ts,by simp only[Tr.ok];exact⟨this,u2⟩,by simp only[Tr.flat];exact eB.cons hn u3,by rw[u4];simp only[Tr.flat,List.length_cons];omega⟩
   ·cases e
noncomputable def e6 (l:List Nod):Bool:=(decide (1≤l.length) &&decide (l.length≤480)) &&(match gq l 241 0 0 with|some r=>decide (r.1=l.length)|none=>false)
theorem oY {l:List Nod} (h:e6 l=true):∃t:Tr,t.ok∧t.flat=l:=by
 unfold e6 at h;simp only[Bool.and_eq_true] at h;obtain⟨_,h⟩:=h
 split at h
 ·rename_i r hr;obtain⟨t,h1,⟨post,h2⟩,h3⟩:=ve _ _ _ _ hr;rw[decide_eq_true_eq] at h;refine⟨t,h1,?_⟩;rw[List.drop_zero] at h2;have h4:=congrArg List.length h2;rw[List.length_append] at h4;have h5:post=[]:=List.length_eq_zero_iff.1 (by omega);rw[h2,h5,List.append_nil]
 ·cases h
noncomputable def bW (l:List Nod):Tr:=@dite _ (∃t:Tr,t.ok∧t.flat=l) (Classical.propDecidable _) (fun h=>Classical.choose h) (fun _=>.mk ⟨0,.nul,[],0,0,false,0,0⟩ .nil)
theorem tb {l:List Nod} (h:e6 l=true):(bW l).ok∧(bW l).flat=l:=by
 unfold bW;rw[dif_pos (oY h)];exact Classical.choose_spec (oY h)
theorem F8 {n:Nod} {k s:Nat}:min (ba n (min s 401) k) 401=min (ba n s k) 401:=by
 by_cases hs:s≤401
 ·rw[Nat.min_eq_left hs]
 ·have hx:min s 401=401:=by omega
  rw[hx];unfold ba
  split
  ·rfl
  ·split
   ·omega
   ·split
    ·omega
    ·split
     ·split
      ·omega
      ·by_cases h0:n.mn.toNat=0
       ·rw[h0]
        by_cases hd:n.mx.toNat-0=0
        ·rw[hd];simp
        ·have h1:=Nat.le_mul_of_pos_left (401+1) (show 0<n.mx.toNat-0 by omega);have h2:=Nat.le_mul_of_pos_left (s+1) (show 0<n.mx.toNat-0 by omega);omega
       ·have h1:=Nat.le_mul_of_pos_left 401 (show 0<n.mn.toNat by omega);have h2:=Nat.le_mul_of_pos_left s (show 0<n.mn.toNat by omega);omega
     ·omega
def dE (t:Tr) (b r:Nat):List aA:=cq 4 0 0 []::(aE t (b+1)++[cq 4 1 0 [],cq 7 (r:Nat) 0 []])
theorem jU {t:Tr} {b r:Nat} (h:t.ok):(dE t b r).length=t.sz+3:=by
 unfold dE;rw[List.length_cons,List.length_append,bN t _ h];rfl
structure rm where
 code:List aA
 ah:List Int
 e:Int
 w:Int
noncomputable def dH:List (List Nod)→Nat→List aA→List Int→rm
 |[],_,c,s=>⟨c,s,0,0⟩
 |l::ls,r,c,s=>if e6 l=false then⟨[],[],1,(r:Nat)⟩ else if 400<c.length+min (bW l).sz 401+3 then⟨[],[],12,(r:Nat)⟩ else dH ls (r+1) (c++dE (bW l) c.length r) (s++[((c.length:Nat):Int)])
noncomputable def compileS (rules:List (List Nod)):rm:=if 8<rules.length then⟨[],[],13,8⟩ else dH rules 0 [] []
def pgV (code:List aA) (ah:List Int):Pg:=⟨.sl ((code.map aB).map (iV 4)),code,CM ah,ah⟩
def iC (i:aA):Prop:=i.rd=.sl ((i.rs.map aj).map (iV 2))∧i.rs.length≤1048576
theorem lv (op x y:Int):iC (cq op x y []):=⟨rfl,by simp[cq]⟩
theorem Jn (op x y:Int) {rs:List Rg} (h:rs.length≤1048576):iC (cq op x y rs):=⟨rfl,h⟩
theorem BT (s o:Nat) (lz:Bool):iC (mf s o lz):=by unfold mf;split<;>exact lv _ _ _
theorem Gp (e:Nat):iC (lE e):=lv _ _ _
theorem xP {code:List aA} (h:∀i∈code,iC i):∀e∈code.map aB,∀d∈e,bC d=true:=by
 intro e he d hd;obtain⟨q,hq,rfl⟩:=List.mem_map.1 he;have hr:=(h q hq).1;simp only[aB,hr,List.mem_cons,List.not_mem_nil,or_false] at hd
 rcases hd with rfl|rfl|rfl|rfl<;>rfl
theorem Fq (code:List aA):∀e∈code.map aB,e.length=4:=by
 intro e he;obtain⟨q,_,rfl⟩:=List.mem_map.1 he;rfl
theorem Cf {code:List aA} {ah:List Int} (h:∀i∈code,iC i) (h1:code.length≤1048576) (h2:ah.length≤1048576):(pgV code ah).ok:=by
 refine⟨SlD.frozen (Fq code) (xP h),vF _,fun i hi=>?_,h1,h2⟩;obtain⟨h3,h4⟩:=h i hi;refine⟨?_,h4⟩;rw[h3];exact SlD.frozen (jW _) (dr _)
theorem xh {c:Nat→List aA} {z:Nat} (hc:∀b,∀i∈c b,iC i):∀k b,∀i∈ef c z k b,iC i
 |0,b,i,hi=>by cases hi
 |k+1,b,i,hi=>by
  simp only[ef] at hi
  rcases List.mem_append.1 hi with hi|hi
  ·exact hc b i hi
  ·exact xh hc k _ i hi
theorem Cm {sp:Nat→aA} {c:Nat→List aA} {z:Nat} (hs:∀s,iC (sp s)) (hc:∀b,∀i∈c b,iC i):∀k b,∀i∈dR sp c z k b,iC i
 |0,b,i,hi=>by cases hi
 |k+1,b,i,hi=>by
  simp only[dR] at hi
  rcases List.mem_cons.1 hi with rfl|hi
  ·exact hs _
  ·rcases List.mem_append.1 hi with hi|hi
   ·exact hc _ i hi
   ·exact Cm hs hc k _ i hi
mutual
theorem oC:∀(t:Tr) (b:Nat),(∀n∈t.flat,n.rs.length≤1048576)→∀i∈aE t b,iC i
 | .mk n ks,b,h,i,hi=>by
  simp only[Tr.flat] at h;have hn:=h n (List.mem_cons_self ..);have hk:∀n∈ks.flat,n.rs.length≤1048576:=fun m hm=>h m (List.mem_cons_of_mem _ hm);have hc:=fun b=>DV ks b hk;have ha:=fun jp (hj:iC jp) b=>D4 jp hj ks b hk;simp only[aE] at hi
  split at hi
  ·simp only[List.mem_cons,List.not_mem_nil,or_false] at hi;subst hi;exact Jn _ _ _ hn
  split at hi
  ·simp only[List.mem_cons,List.not_mem_nil,or_false] at hi;subst hi;exact lv _ _ _
  split at hi
  ·simp only[List.mem_cons,List.not_mem_nil,or_false] at hi;subst hi;exact lv _ _ _
  split at hi
  ·exact hc b i hi
  split at hi
  ·exact ha _ (Gp _) b i hi
  split at hi
  ·unfold mw at hi
   split at hi
   ·rcases List.mem_append.1 hi with hi|hi
    ·exact xh hc _ _ i hi
    ·rcases List.mem_cons.1 hi with rfl|hi
     ·exact BT _ _ _
     ·rcases List.mem_append.1 hi with hi|hi
      ·exact hc _ i hi
      ·simp only[List.mem_cons,List.not_mem_nil,or_false] at hi;subst hi;exact Gp _
   ·rcases List.mem_append.1 hi with hi|hi
    ·exact xh hc _ _ i hi
    ·exact Cm (fun s=>BT _ _ _) hc _ _ i hi
  split at hi
  ·rcases List.mem_cons.1 hi with rfl|hi
   ·exact lv _ _ _
   ·rcases List.mem_append.1 hi with hi|hi
    ·exact hc _ i hi
    ·simp only[List.mem_cons,List.not_mem_nil,or_false] at hi;subst hi;exact lv _ _ _
  ·cases hi
theorem DV:∀(ts:a7) (b:Nat),(∀n∈ts.flat,n.rs.length≤1048576)→∀i∈eN ts b,iC i
 | .nil,b,_,i,hi=>by simp[eN] at hi
 | .cons t ts,b,h,i,hi=>by
  simp only[a7.flat] at h;simp only[eN] at hi
  rcases List.mem_append.1 hi with hi|hi
  ·exact oC t b (fun n hn=>h n (List.mem_append_left _ hn)) i hi
  ·exact DV ts _ (fun n hn=>h n (List.mem_append_right _ hn)) i hi
theorem D4 (jp:aA) (hj:iC jp):∀(ts:a7) (b:Nat),(∀n∈ts.flat,n.rs.length≤1048576)→∀i∈dD jp ts b,iC i
 | .nil,b,_,i,hi=>by simp[dD] at hi
 | .cons t ts,b,h,i,hi=>by
  simp only[a7.flat] at h;have h1:∀n∈t.flat,n.rs.length≤1048576:=fun n hn=>h n (List.mem_append_left _ hn);have h2:∀n∈ts.flat,n.rs.length≤1048576:=fun n hn=>h n (List.mem_append_right _ hn);simp only[dD] at hi
  split at hi
  ·exact oC t b h1 i hi
  ·rcases List.mem_cons.1 hi with rfl|hi
   ·exact BT _ _ _
   ·rcases List.mem_append.1 hi with hi|hi
    ·exact oC t _ h1 i hi
    ·rcases List.mem_cons.1 hi with rfl|hi
     ·exact hj
     ·exact D4 jp hj ts _ h2 i hi
end
theorem EP {t:Tr} {b r:Nat} (h:∀n∈t.flat,n.rs.length≤1048576):∀i∈dE t b r,iC i:=by
 intro i hi;unfold dE at hi
 rcases List.mem_cons.1 hi with rfl|hi
 ·exact lv _ _ _
 ·rcases List.mem_append.1 hi with hi|hi
  ·exact oC t _ h i hi
  ·simp only[List.mem_cons,List.not_mem_nil,or_false] at hi
   rcases hi with rfl|rfl
   ·exact lv _ _ _
   ·exact lv _ _ _
end Go.Proofs.YtnleclohocdkaaaGreat
