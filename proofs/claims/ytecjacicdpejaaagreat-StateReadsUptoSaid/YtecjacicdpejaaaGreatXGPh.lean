/-
 The parser of patterns: groups, one thing, how often, one behind the other, one or the other.
-/
import Derived.Test.YtecjacicdpejaaaGreatXGHr
import Derived.Test.YtecjacicdpejaaaGreatXGJi
import Derived.Test.YtecjacicdpejaaaGreatXGUa
set_option maxRecDepth 100000
set_option maxHeartbeats 4000000
set_option linter.unusedSimpArgs false
set_option linter.unusedVariables false
namespace Go.Proofs.YtecjacicdpejaaaGreat
open Go.V Go
def gP (fr:Go.V.Fr) (k:Nat):Go.V.D:=Go.V.nth .bj fr.loc k
theorem oh {N:Nat} {S st:St} {H:List a_} {a b c:a_} (h:Has N S st (a::b::c::H)):Has N S st (b::c::a::H):=by
 have h1:=h.front bV;have h2:=h1.front fm;exact h2.front bV
def mw (m:Nat):Prop:=∀{N k:Nat} {S s0:St} {H:List a_} {gs:List (Nat×Nat)} {bJ:D} {b_:List Int} {s:fJ},lV gs b_→s.e=0→s.i≤gs.length→s.g≤4→s.o+m=20→Has N S s0 (.box k (.mem 0 false (aQ gs bJ s))::.aC bJ 1 (b_.map ax)::H)→
 ∃d ah,Ev pv 133 [.ptr k 0 0] s0 d ah∧∃(s':fJ),wP gs s s' d∧Has N S ah (.box k (.mem 0 false (aQ gs bJ s'))::.aC bJ 1 (b_.map ax)::H)
theorem FJ {m:Nat} (hA:∀m',m'+1=m→mw m') {N k:Nat} {S s0:St} {H:List a_} {gs:List (Nat×Nat)} {bJ:D} {b_:List Int} {s:fJ} (bq:lV gs b_) (he:s.e=0) (hi:s.i<gs.length) (hg:s.g≤4) (ho:s.o+m=20) (hH:Has N S s0 (.box k (.mem 0 false (aQ gs bJ s))::.aC bJ 1 (b_.map ax)::H)):
  ∃d ah,Ev pv 266 [.ptr k 0 0] s0 d ah∧∃(s':fJ),jK gs s s' d 2∧Has N S ah (.box k (.mem 0 false (aQ gs bJ s'))::.aC bJ 1 (b_.map ax)::H):=by
 have tq:=bq.gl;have jL:=bq.pl;refine Ev.gA rfl Ny rfl rfl rfl ?_;refine zE ?_;have bn:=hH;have hH:=hH.aW;have bh:(ae .rw s0).bs=s0.bs:=rfl;generalize ae .rw s0=S2 at*
 have hwr:∀(st:St) (s3:fJ) (e:Int) (H2:List a_),e≠0→s3.e=0→s3.o=s.o→s3.g≤4→s.i≤s3.i→s3.i≤gs.length→Has N S2 st (.box k (.mem 0 false (aQ gs bJ s3))::.aC bJ 1 (b_.map ax)::H2)→∃d ah,Ev pv 134 [.ptr k 0 0,.int .i64 (s.i:Nat),.int .i64 e] st d ah∧d=.sl []∧∃s4,jK gs s s4 (.sl []) 2∧Has N S2 ah (.box k (.mem 0 false (aQ gs bJ s4))::.aC bJ 1 (b_.map ax)::H2):=by
  intro st s3 e H2 h0 h1 h2 h3 h4 h5 hH;obtain⟨d,ah,aB,h6,hH⟩:=dh (s:=s3) s.i e (by omega) hH;obtain⟨w1,w2,w3,w4⟩:=dA (b_:=b_) (s:=s3) (i:=s.i) (e:=e) h1 h0;exact⟨d,ah,aB,h6,_,gN (w3.trans h2) (by omega) (by omega) (by omega) w1,hH⟩
 refine zQ 21 ?_;refine qT hH aN fun st hH=>?_;dsimp only[u2,u1,u3,u4,setMany,u5,u6,D.cells,Nat.reduceAdd,aQ,bC,ax,au,bf] at hH;refine zQ 1 ?_;have hH:Has N S2 st (.box k (.mem 0 false (aQ gs bJ {s with i:=s.i+1}))::.aC bJ 1 (b_.map ax)::H):=hH
 obtain⟨s1,kR⟩:∃s1:fJ,({s with i:=s.i+1}:fJ)=s1:=⟨_,rfl⟩
 have Qa:s1.e=0∧s1.o=s.o∧s1.g=s.g∧s1.i=s.i+1:=by rw[←kR];exact⟨he,rfl,rfl,rfl⟩
 rw[kR] at hH;clear kR;obtain⟨f1,f2,f3,f4⟩:=Qa;refine zQ 6 ?_;refine ak.ky (fun fr st=>∃(free:Bool) (s2:fJ) (tmp:List (Nat×D)),fr=⟨7,[.ptr k 0 0,gP fr 1,gP fr 2,.int .i64 (s.i:Nat),.bool free,gP fr 5,gP fr 6],tmp⟩∧Has N S2 st (.box k (.mem 0 false (aQ gs bJ s2))::.aC bJ 1 (b_.map ax)::H)∧(s2.e=0)∧(s2.o=s.o)∧(s2.g=s.g)∧(s.i+1≤s2.i)∧(s2.i≤gs.length)) ?_ ?_
 ·obtain⟨k1,k2,k3,k4,k5⟩:=ig (gs:=gs) (s:=s1) (r:=63);have k5:=k5 (by omega);refine zQ 2 ?_;obtain⟨_,st,aB,rfl,hH⟩:=ei (s:=s1) (by omega) 63 hH;refine qv aB ?_;refine zQ 1 ?_;generalize df gs s1 63=s2 at*
  cases hb:j_ gs s1.i 63 with
  |false=>
   refine zQ 2 ?_;exact⟨false,s2,_,rfl,hH,by omega,by omega,by omega,by omega,by omega⟩
  |true=>
   refine zQ 5 ?_;obtain⟨r1,r2,r3,r4,r5⟩:=ig (gs:=gs) (s:=s2) (r:=58);have r5:=r5 k5;refine zQ 3 ?_;obtain⟨_,st,aB,rfl,hH⟩:=ei (s:=s2) (by omega) 58 hH;refine qv aB ?_;refine zQ 2 ?_;generalize df gs s2 58=s3 at*
   cases hb2:j_ gs s2.i 58 with
   |false=>
    refine zQ 5 ?_;obtain⟨_,st,aB,rfl,s4,hN,hH⟩:=hwr _ s3 4 _ (by decide) (by omega) (by omega) (by omega) (by omega) (by omega) hH;refine qv aB ?_;refine zQ 2 ?_;refine ak.ret ⟨rx,_,_,_,rfl,ag (rfl),?_⟩;exact⟨s4,hN,bn.aj bh hH⟩
   |true=>
    refine zQ 2 ?_;exact⟨true,s3,_,rfl,hH,by omega,by omega,by omega,by omega,by omega⟩
 ·rintro fr st ⟨free,s2,tmp,hfr,hH,h1,h2,h3,h4,h5⟩;rw[hfr];clear hfr;generalize gP fr=ee;clear fr;refine zQ 9 ?_
  by_cases TG:20≤s2.o
  ·have iZ:decide (((s2.o:Nat):Int)≥20)=true:=by rw[decide_eq_true_eq];omega
   refine qD rfl (by rw[iZ]) ?_;refine zQ 4 ?_;obtain⟨_,st,aB,rfl,s4,hN,hH⟩:=hwr _ s2 10 _ (by decide) h1 h2 (by omega) (by omega) h5 hH;refine qv aB ?_;refine zQ 2 ?_;refine ak.ret ⟨rx,_,_,_,rfl,ag (rfl),?_⟩;exact⟨s4,hN,bn.aj bh hH⟩
  have iZ:decide (((s2.o:Nat):Int)≥20)=false:=by rw[decide_eq_false_iff_not];omega
  refine qE rfl (by rw[iZ]) ?_;refine zQ 3 ?_;refine aa.go (d:=.agg [.int .i64 6,.nul,.int .i64 0,.int .i64 0,.bool false,.int .i64 0,.int .i64 1]) (st1:=_) rfl rfl rfl (ab rfl _) ?_;refine qa hH fun k5 st K' hH=>?_;dsimp only[u2,u1,u3,u4,setMany,u5,u6,D.cells,Nat.reduceAdd,aQ,bC,ax,au,bf] at hH;refine qS hH aN fun st hH=>?_;dsimp only[u2,u1,u3,u4,setMany,u5,u6,D.cells,Nat.reduceAdd,aQ,bC,ax,au,bf] at hH;refine zQ 1 ?_;have hH:Has N S2 st (.box k (.mem 0 false (aQ gs bJ s2))::.aC bJ 1 (b_.map ax)::.box k5 (.mem 0 false [.int .i64 6,.nul,.int .i64 0,.int .i64 0,.bool false,.int .i64 0,.int .i64 1])::H):=oh hH;refine zQ 2 ?_;refine ak.ky (fun fr st=>∃(cap:Int) (s3:fJ) (tmp:List (Nat×D)),fr=⟨7,[.ptr k 0 0,gP fr 1,gP fr 2,.int .i64 (s.i:Nat),.bool free,.ptr k5 0 0,gP fr 6],tmp⟩∧Has N S2 st (.box k (.mem 0 false (aQ gs bJ s3))::.aC bJ 1 (b_.map ax)::.box k5 (.mem 0 false [.int .i64 6,.nul,.int .i64 0,.int .i64 0,.bool false,.int .i64 cap,.int .i64 1])::H)∧(s3.e=0)∧(s3.o=s.o)∧(s3.g≤4)∧(s3.i=s2.i)) ?_ ?_
  ·refine zQ 4 ?_
   cases free with
   |true=>
    refine zQ 2 ?_;exact⟨0,s2,_,rfl,hH,h1,h2,by omega,rfl⟩
   |false=>
    refine zQ 10 ?_
    by_cases Tt:4≤s2.g
    ·have iZ:decide (((s2.g:Nat):Int)≥4)=true:=by rw[decide_eq_true_eq];omega
     refine qD rfl (by rw[iZ]) ?_;refine zQ 4 ?_;obtain⟨_,st,aB,rfl,s4,hN,hH⟩:=hwr _ s2 13 _ (by decide) h1 h2 (by omega) (by omega) h5 hH;refine qv aB ?_;refine zQ 2 ?_;refine ak.ret ⟨rx,_,_,_,rfl,ag (rfl),?_⟩;exact⟨s4,hN,bn.aj bh (hH.erase 2)⟩
    ·have iZ:decide (((s2.g:Nat):Int)≥4)=false:=by rw[decide_eq_false_iff_not];omega
     refine qE rfl (by rw[iZ]) ?_;refine zQ 10 ?_;refine qT hH aN fun st hH=>?_;dsimp only[u2,u1,u3,u4,setMany,u5,u6,D.cells,Nat.reduceAdd,aQ,bC,ax,au,bf] at hH;refine zQ 7 ?_;refine qT hH fm fun st hH=>?_;dsimp only[u2,u1,u3,u4,setMany,u5,u6,D.cells,Nat.reduceAdd,aQ,bC,ax,au,bf] at hH;refine zQ 1 ?_;exact⟨((s2.g+1:Nat):Int),{s2 with g:=s2.g+1},_,rfl,hH,h1,h2,by show s2.g+1≤4;omega,rfl⟩
  ·rintro fr st ⟨cap,s3,tmp,hfr,hH,e1,e2,e3,e4⟩;rw[hfr];clear hfr;generalize gP fr=ee;clear fr;refine zQ 9 ?_;refine qT hH aN fun st hH=>?_;dsimp only[u2,u1,u3,u4,setMany,u5,u6,D.cells,Nat.reduceAdd,aQ,bC,ax,au,bf] at hH;refine zQ 1 ?_;have hH:Has N S2 st (.box k (.mem 0 false (aQ gs bJ {s3 with o:=s3.o+1}))::.aC bJ 1 (b_.map ax)::.box k5 (.mem 0 false [.int .i64 6,.nul,.int .i64 0,.int .i64 0,.bool false,.int .i64 cap,.int .i64 1])::H):=hH;refine zQ 3 ?_;obtain⟨_,st,aB,s4,⟨a1,a2,a3,a4,l,rfl,a5,a6⟩,hH⟩:=hA (m-1) (by omega) (s:={s3 with o:=s3.o+1}) bq e1 (by show s3.i≤_;omega) e3 (by show s3.o+1+(m-1)=20;omega) hH;refine qv aB ?_;refine zQ 2 ?_;have a1:s4.o=s3.o+1:=a1;have a3:s3.i≤s4.i:=a3;have a6:l.length≤4*(s4.i-s3.i)+1:=a6;have hla:=(uh a5).arg N S2;refine zQ 6 ?_;refine aa.eY (z:=((s.o:Nat):Int)) rfl (ev rfl) (ev rfl) (by rw[wrap_i64 (by omega) (by omega)]<;>omega) (ab rfl _) ?_;refine zQ 2 ?_;refine qT hH aN fun st hH=>?_;dsimp only[u2,u1,u3,u4,setMany,u5,u6,D.cells,Nat.reduceAdd,aQ,bC,ax,au,bf] at hH;refine zQ 1 ?_
   obtain⟨s5,P9⟩:∃s5:fJ,({s4 with o:=s.o}:fJ)=s5:=⟨_,rfl⟩
   have hH:Has N S2 st (.box k (.mem 0 false (aQ gs bJ s5))::.aC bJ 1 (b_.map ax)::.box k5 (.mem 0 false [.int .i64 6,.nul,.int .i64 0,.int .i64 0,.bool false,.int .i64 cap,.int .i64 1])::H):=by rw[←P9];exact hH
   have P8:s5.o=s.o∧s5.g=s4.g∧s5.i=s4.i:=by rw[←P9];exact⟨rfl,rfl,rfl⟩
   clear P9;obtain⟨b1,b2,b3⟩:=P8;refine zQ 2 ?_;refine ak.ky (fun fr st=>∃(s6:fJ) (tmp:List (Nat×D)),fr=⟨7,[.ptr k 0 0,gP fr 1,gP fr 2,gP fr 3,.bool free,.ptr k5 0 0,wS l],tmp⟩∧Has N S2 st (.box k (.mem 0 false (aQ gs bJ s6))::.aC bJ 1 (b_.map ax)::.box k5 (.mem 0 false [.int .i64 6,.nul,.int .i64 0,.int .i64 0,.bool false,.int .i64 cap,.int .i64 1])::H)∧(s6.o=s.o)∧(s6.g≤4)∧(s4.i≤s6.i)∧(s6.i≤gs.length)∧(s6.e≠0∨s6.e=0∧s4.i<s6.i)) ?_ ?_
   ·by_cases Rb:s5.e=0
    ·have cK:(s5.e==0)=true:=by simpa using Rb
     obtain⟨k1,k2,k3,k4,S1⟩:=ig (gs:=gs) (s:=s5) (r:=41);have S1:=S1 (by omega);have hsk:j_ gs s5.i 41=true→(df gs s5 41).i=s5.i+1:=fun h=>by unfold df;rw[if_pos h]
     refine zQ 8 ?_;obtain⟨_,st,aB,rfl,hH⟩:=ei (s:=s5) (by omega) 41 hH;refine qv aB ?_ (hg:=wi cK);refine zQ 3 ?_;generalize df gs s5 41=s6 at*
     cases hb:j_ gs s5.i 41 with
     |false=>
      refine zQ 5 ?_;obtain⟨_,st,aB,rfl,s7,hN,hH⟩:=hwr _ s6 4 _ (by decide) (by omega) (by omega) (by omega) (by omega) (by omega) hH;refine qv aB ?_;refine zQ 2 ?_;refine ak.ret ⟨rx,_,_,_,rfl,ag (rfl),?_⟩;exact⟨s7,hN,bn.aj bh (hH.erase 2)⟩
     |true=>
      have hsk:=hsk hb;refine zQ 2 ?_;exact⟨s6,_,rfl,hH,by omega,by omega,by omega,by omega,.inr ⟨by omega,by omega⟩⟩
    ·have cK:(s5.e==0)=false:=by simpa using Rb
     refine zQ 14 ?_;exact⟨s5,_,rfl,hH,b1,by omega,by omega,by omega,.inl Rb⟩
   ·rintro fr st ⟨s6,tmp,hfr,hH,c1,c2,c3,c4,c5⟩;rw[hfr];clear hfr;generalize gP fr=ee;clear fr;refine zQ 5 ?_
    cases free with
    |true=>
     refine zQ 6 ?_;refine ak.ret ⟨rx,_,_,_,rfl,ag (rfl),?_⟩;refine⟨s6,⟨c1,c2,by omega,c4,l,rfl,a5,by omega,?_⟩,bn.aj bh (hH.erase 2)⟩
     rcases c5 with c5|⟨c5,c6⟩
     ·exact .inl c5
     ·exact .inr ⟨c5,by omega⟩
    |false=>
     refine zQ 4 ?_;refine aa.aL (m:=7) hH rfl (ev rfl) (by exact fm) (by dsimp only[List.drop_succ_cons,List.drop_zero,List.take_succ_cons,List.take_zero,aQ,bC,ax,au,bf]<;>rfl) rfl rfl (ab rfl _) ?_;refine qh (s:=7) (vs:=[_]) hH fun k89 st VS hH=>?_;dsimp only[u2,u1,u3,u4,setMany,u5,u6,D.cells,Nat.reduceAdd,aQ,bC,ax,au,bf] at hH;refine qm ?_;refine aa.j6 (s:=7) hH rfl (ev rfl) (ev rfl) aN ((uh a5).rows st) rfl rfl rfl rfl rfl rfl rfl ⟨(Nat.le_of_ble_eq_true rfl),(Nat.le_of_ble_eq_true rfl)⟩ (fun _=>(ab rfl _)) (by simp only[List.length_map,List.length_cons,List.length_nil];omega) (.inr (ug a5)) (fun k hk=>by have kG:k89+1=k+1:=hk;omega) (fun TY st sE hH=>?_);dsimp only[u2] at hH;refine zQ 2 ?_;have hH:Has N S2 st (.aC TY 7 ([.int .i64 6,.nul,.int .i64 0,.int .i64 0,.bool false,.int .i64 cap,.int .i64 1]::l.map bf)::.box k (.mem 0 false (aQ gs bJ s6))::.aC bJ 1 (b_.map ax)::.box k5 (.mem 0 false [.int .i64 6,.nul,.int .i64 0,.int .i64 0,.bool false,.int .i64 cap,.int .i64 1])::H):=hH
     have hfz:=jw (L:=s0.bs.length) (l:=vL 6 0 0 false cap 1 []::l) hH aN (by rw[List.map_cons,vJ a5];rfl) (fun e he d hd=>by
      rcases List.mem_cons.1 he with rfl|he
      ·simp only[List.mem_cons,List.not_mem_nil,or_false] at hd
       rcases hd with rfl|rfl|rfl|rfl|rfl|rfl|rfl<;>rfl
      ·exact rU a5 e he d hd) (fun k hk=>by rw[←bh];exact sE k hk) (n:=16) (by decide)
     refine ak.ret ⟨rx,_,_,_,rfl,ag hfz,⟨s6,⟨c1,c2,by omega,c4,_,rfl,?_,by simp only[List.length_cons];omega,?_⟩,bn.aj bh ((hH.drop 1).erase 2)⟩⟩
     ·intro n hn
      rcases List.mem_cons.1 hn with rfl|hn
      ·exact⟨rfl,by simp[vL],by simp[vL]⟩
      ·exact a5 n hn
     ·rcases c5 with c5|⟨c5,c6⟩
      ·exact .inl c5
      ·exact .inr ⟨c5,by simp only[List.length_cons];omega⟩
def z6 (fr:Go.V.Fr) (k:Nat):Go.V.D:=Go.V.nth .bj fr.loc k
theorem qJ {gs:List (Nat×Nat)} {s:fJ} {r:Int} (h:j_ gs s.i r=false):df gs s r=s:=by
 unfold df;rw[if_neg (by rw[h];simp)]
theorem nu {gs:List (Nat×Nat)} {s:fJ} {r:Int} (h:j_ gs s.i r=true):(df gs s r).i=s.i+1:=by
 unfold df;rw[if_pos h]
theorem Iu {m:Nat} (hA:∀m',m'+1=m→mw m') {N k:Nat} {S s0:St} {H:List a_} {gs:List (Nat×Nat)} {bJ:D} {b_:List Int} {s:fJ} (bq:lV gs b_) (he:s.e=0) (hi:s.i<gs.length) (hg:s.g≤4) (ho:s.o+m=20) (hH:Has N S s0 (.box k (.mem 0 false (aQ gs bJ s))::.aC bJ 1 (b_.map ax)::H)):
  ∃d ah,Ev pv 247 [.ptr k 0 0] s0 d ah∧∃(s':fJ),jK gs s s' d 2∧Has N S ah (.box k (.mem 0 false (aQ gs bJ s'))::.aC bJ 1 (b_.map ax)::H):=by
 have tq:=bq.gl;have jL:=bq.pl;refine Ev.gA rfl NH rfl rfl rfl ?_;refine zE ?_;have bn:=hH;have hH:=hH.aW;have bh:(ae .rw s0).bs=s0.bs:=rfl;generalize ae .rw s0=S2 at*;have IZ:Arg N S2 2 (hU gs) (gs.map bC):=Arg.pure (fun st=>eR st gs)
 obtain⟨g,Wj⟩:∃g,gs[s.i]?=some g:=⟨gs[s.i]'hi,List.getElem?_eq_getElem _⟩
 have gm:(gs.map bC)[s.i]?=some (bC g):=by rw[List.getElem?_map,Wj];rfl
 have hwr:∀(st:St),Has N S2 st (.box k (.mem 0 false (aQ gs bJ s))::.aC bJ 1 (b_.map ax)::H)→∃d ah,Ev pv 134 [.ptr k 0 0,.int .i64 (s.i:Nat),.int .i64 4] st d ah∧d=.sl []∧∃s4,jK gs s s4 (.sl []) 2∧Has N S2 ah (.box k (.mem 0 false (aQ gs bJ s4))::.aC bJ 1 (b_.map ax)::H):=by
  intro st hH;obtain⟨d,ah,aB,h6,hH⟩:=dh (s:=s) s.i 4 (by omega) hH;obtain⟨w1,w2,w3,w4⟩:=dA (b_:=b_) (s:=s) (i:=s.i) (e:=4) he (by decide);exact⟨d,ah,aB,h6,_,gN w3 (by omega) (by omega) (by omega) w1,hH⟩
 have kD:∀(st:St) (s1:fJ) (op:Int) (w:D) (a:List Rg) (kk:Nat),(w=bt a∨w=.nul∧a=[])→a.length≤1048576→s1.o=s.o→s1.g≤4→s.i<s1.i→s1.i≤gs.length→S2.bs.length≤kk→Has N S2 st (.aC (.win kk 0 0 1 7) 7 [[.int .i64 op,w,.int .i64 0,.int .i64 0,.bool false,.int .i64 0,.int .i64 0]]::.box k (.mem 0 false (aQ gs bJ s1))::.aC bJ 1 (b_.map ax)::H)→
   ∃d ah,da .rw false s0 st (.win kk 0 0 1 7)=some (d,ah)∧∃(s':fJ),jK gs s s' d 2∧Has N S ah (.box k (.mem 0 false (aQ gs bJ s'))::.aC bJ 1 (b_.map ax)::H):=by
  intro st s1 op w a kk hw ha h1 h2 h3 h4 hk hH;have hfz:=jx hH aN (L:=s0.bs.length) hw (fun k hk=>by simp only[D.ref] at hk;rw[←bh];omega);refine⟨_,_,ag hfz,s1,⟨h1,h2,by omega,h4,_,rfl,EL ha (by omega),by simp,?_⟩,bn.aj bh (hH.drop 1)⟩
  by_cases he:s1.e=0
  ·exact .inr ⟨he,by simp only[List.length_cons,List.length_nil];omega⟩
  ·exact .inl he
 refine zQ 17 ?_;obtain⟨_,st,aB,rfl,hH⟩:=AQ (s:=s) s.i hi hH;refine qv aB ?_;refine zQ 1 ?_;refine qc (fun hb=>?_) (fun hb=>?_)<;>try simp only[cs] at hb
 ·refine zQ 4 ?_;obtain⟨_,st,aB,rfl,s4,hN,hH⟩:=hwr _ hH;refine qv aB ?_;refine zQ 2 ?_;refine ak.ret ⟨rx,_,_,_,rfl,ag (rfl),?_⟩;exact⟨s4,hN,bn.aj bh hH⟩
 refine zQ 8 ?_;refine qr fun OU HH=>?_;refine qf (fo:=0) fun OT HG=>?_;refine zQ 13 ?_;refine zI (fun Uf=>?_) fun Uf=>?_
 ·refine zQ 3 ?_;obtain⟨_,st,aB,s4,⟨p1,p2,p3,p4,l,rfl,p5,p6,p7⟩,hH⟩:=FJ hA bq he hi hg ho hH;refine qv aB ?_;refine zQ 2 ?_;refine ak.ret ⟨rx,_,_,_,rfl,ag (rfl),?_⟩;exact⟨s4,⟨p1,p2,p3,p4,l,rfl,p5,p6,p7⟩,bn.aj bh hH⟩
 refine zQ 5 ?_;refine zI (fun Lq=>?_) fun Lq=>?_
 ·refine zQ 3 ?_;obtain⟨_,st,aB,s4,⟨p1,p2,p3,p4,l,rfl,p5,p6,p7⟩,hH⟩:=F8 bq he hi hg hH;refine qv aB ?_;refine zQ 2 ?_;refine ak.ret ⟨rx,_,_,_,rfl,ag (rfl),?_⟩;exact⟨s4,⟨p1,p2,p3,p4,l,rfl,p5,p6,p7⟩,bn.aj bh hH⟩
 refine zQ 5 ?_;refine zI (fun Ud=>?_) fun Ud=>?_
 ·refine zQ 3 ?_;obtain⟨_,st,aB,d1,b,s4,rfl,⟨p1,p2,p3,p4,p5,p6⟩,hH⟩:=A' (s:=s) bq he hi hH;refine qv aB ?_;refine zQ 6 ?_
  have tI:∀(st:St) (w:D) (a:List Rg) (kk:Nat),(w=bt a∨w=.nul∧a=[])→a.length≤8→S2.bs.length≤kk→Has N S2 st (.aC (.win kk 0 0 1 7) 7 [[.int .i64 2,w,.int .i64 0,.int .i64 0,.bool false,.int .i64 0,.int .i64 0]]::.box k (.mem 0 false (aQ gs bJ s4))::.aC bJ 1 (b_.map ax)::H)→∃d ah,da .rw false s0 st (.win kk 0 0 1 7)=some (d,ah)∧∃(s':fJ),jK gs s s' d 2∧Has N S ah (.box k (.mem 0 false (aQ gs bJ s'))::.aC bJ 1 (b_.map ax)::H):=by
   intro st w a kk hw ha hk hH;have hfz:=jx hH aN (L:=s0.bs.length) hw (fun k hk=>by simp only[D.ref] at hk;rw[←bh];omega);refine⟨_,_,ag hfz,s4,⟨p1,by omega,by omega,p4,_,rfl,EL (by omega) (by omega),by simp,?_⟩,bn.aj bh (hH.drop 1)⟩
   rcases p6 with p6|⟨p6,p7,_⟩
   ·exact .inl p6
   ·exact .inr ⟨p6,by simp only[List.length_cons,List.length_nil];omega⟩
  rcases p5 with rfl|⟨a,rfl,ha⟩
  ·refine zQ 3 ?_;refine aa.ij (qs:=[(0,_),(1,_)]) rfl rfl rfl rfl ⟨rfl,(ev rfl),(by rfl),rfl,(ev rfl),(by rfl),trivial⟩ (by intro q hq;simp only[List.mem_cons,List.not_mem_nil,or_false] at hq;rcases hq with rfl|rfl<;>exact⟨rfl,by exact Nat.le_of_ble_eq_true rfl⟩) (by show List.foldl _ [_,_,_,_,_,_,_] _=_;dsimp only[List.foldl_cons,List.foldl_nil,u2,u1]<;>rfl) (ab rfl _) ?_;refine qh (s:=7) (vs:=[_]) hH fun k54 st Ka hH=>?_;dsimp only[u2,u1,u3,u4,setMany,u5,u6,D.cells,Nat.reduceAdd,aQ,bC,ax,au,bf] at hH;refine zQ 2 ?_;obtain⟨d',ah,yq,dK⟩:=tI _ .nul [] k54 (.inr ⟨rfl,rfl⟩) (by simp) Ka hH;refine ak.ret ⟨rx,_,d',ah,rfl,yq,dK⟩
  ·refine zQ 3 ?_;refine aa.ij (qs:=[(0,_),(1,_)]) rfl rfl rfl rfl ⟨rfl,(ev rfl),(by rfl),rfl,(ev rfl),(by rfl),trivial⟩ (by intro q hq;simp only[List.mem_cons,List.not_mem_nil,or_false] at hq;rcases hq with rfl|rfl<;>exact⟨rfl,by exact Nat.le_of_ble_eq_true rfl⟩) (by show List.foldl _ [_,_,_,_,_,_,_] _=_;dsimp only[List.foldl_cons,List.foldl_nil,u2,u1]<;>rfl) (ab rfl _) ?_;refine qh (s:=7) (vs:=[_]) hH fun k54 st Ka hH=>?_;dsimp only[u2,u1,u3,u4,setMany,u5,u6,D.cells,Nat.reduceAdd,aQ,bC,ax,au,bf] at hH;refine zQ 2 ?_;obtain⟨d',ah,yq,dK⟩:=tI _ (bt a) a k54 (.inl rfl) ha Ka hH;refine ak.ret ⟨rx,_,d',ah,rfl,yq,dK⟩
 refine zQ 5 ?_;refine zI (fun Ue=>?_) fun Ue=>?_
 ·refine zQ 9 ?_;refine qT hH aN fun st hH=>?_;dsimp only[u2,u1,u3,u4,setMany,u5,u6,D.cells,Nat.reduceAdd,aQ,bC,ax,au,bf] at hH;refine zQ 1 ?_;obtain⟨_,Re,a,rfl,hla⟩:=Ky (s0:=st);refine zQ 2 ?_;refine qv (Re) ?_;refine aa.ij (qs:=[(0,_),(1,_)]) rfl rfl rfl rfl ⟨rfl,(ev rfl),(by rfl),rfl,(ev rfl),(by rfl),trivial⟩ (by intro q hq;simp only[List.mem_cons,List.not_mem_nil,or_false] at hq;rcases hq with rfl|rfl<;>exact⟨rfl,by exact Nat.le_of_ble_eq_true rfl⟩) (by show List.foldl _ [_,_,_,_,_,_,_] _=_;dsimp only[List.foldl_cons,List.foldl_nil,u2,u1]<;>rfl) (ab rfl _) ?_;refine qh (s:=7) (vs:=[_]) hH fun k66 st QN hH=>?_;refine zQ 2 ?_;obtain⟨d',ah,yq,dK⟩:=kD _ {s with i:=s.i+1} 2 (bt a) a k66 (.inl rfl) (by omega) rfl hg (by show s.i<s.i+1;omega) (by show s.i+1≤_;omega) QN hH;refine ak.ret ⟨rx,_,d',ah,rfl,yq,dK⟩
 refine zQ 5 ?_;refine zI (fun Uc=>?_) fun Uc=>?_
 ·refine zQ 9 ?_;refine qT hH aN fun st hH=>?_;dsimp only[u2,u1,u3,u4,setMany,u5,u6,D.cells,Nat.reduceAdd,aQ,bC,ax,au,bf] at hH;refine zQ 3 ?_;refine aa.go (d:=.agg [.int .i64 7,.nul,.int .i64 0,.int .i64 0,.bool false,.int .i64 0,.int .i64 0]) (st1:=_) rfl rfl rfl (ab rfl _) ?_;refine qh (s:=7) (vs:=[_]) hH fun k77 st QM hH=>?_;refine zQ 2 ?_;obtain⟨d',ah,yq,dK⟩:=kD _ {s with i:=s.i+1} 7 .nul [] k77 (.inr ⟨rfl,rfl⟩) (by simp) rfl hg (by show s.i<s.i+1;omega) (by show s.i+1≤_;omega) QM hH;refine ak.ret ⟨rx,_,d',ah,rfl,yq,dK⟩
 refine zQ 5 ?_;refine zI (fun Ug=>?_) fun Ug=>?_
 ·refine zQ 9 ?_;refine qT hH aN fun st hH=>?_;dsimp only[u2,u1,u3,u4,setMany,u5,u6,D.cells,Nat.reduceAdd,aQ,bC,ax,au,bf] at hH;refine zQ 3 ?_;refine aa.go (d:=.agg [.int .i64 8,.nul,.int .i64 0,.int .i64 0,.bool false,.int .i64 0,.int .i64 0]) (st1:=_) rfl rfl rfl (ab rfl _) ?_;refine qh (s:=7) (vs:=[_]) hH fun k88 st MF hH=>?_;refine zQ 2 ?_;obtain⟨d',ah,yq,dK⟩:=kD _ {s with i:=s.i+1} 8 .nul [] k88 (.inr ⟨rfl,rfl⟩) (by simp) rfl hg (by show s.i<s.i+1;omega) (by show s.i+1≤_;omega) MF hH;refine ak.ret ⟨rx,_,d',ah,rfl,yq,dK⟩
 refine zQ 6 ?_
 by_cases Sp:((g.1:Nat):Int)=42
 ·refine qD rfl (by simp[Sp]) ?_;refine zQ 1 ?_;refine qD rfl (by simp[Sp]) ?_;refine zQ 4 ?_;obtain⟨_,st,aB,rfl,s4,hN,hH⟩:=hwr _ hH;refine qv aB ?_;refine zQ 2 ?_;refine ak.ret ⟨rx,_,_,_,rfl,ag (rfl),?_⟩;exact⟨s4,hN,bn.aj bh hH⟩
 refine qE rfl (by simp[Sp]) ?_;refine zQ 5 ?_
 by_cases Sn:((g.1:Nat):Int)=43
 ·refine qD rfl (by simp[Sn]) ?_;refine zQ 1 ?_;refine qD rfl (by simp[Sn]) ?_;refine zQ 4 ?_;obtain⟨_,st,aB,rfl,s4,hN,hH⟩:=hwr _ hH;refine qv aB ?_;refine zQ 2 ?_;refine ak.ret ⟨rx,_,_,_,rfl,ag (rfl),?_⟩;exact⟨s4,hN,bn.aj bh hH⟩
 refine qE rfl (by simp[Sn]) ?_;refine zQ 5 ?_
 by_cases Sm:((g.1:Nat):Int)=63
 ·refine qD rfl (by simp[Sm]) ?_;refine zQ 1 ?_;refine qD rfl (by simp[Sm]) ?_;refine zQ 4 ?_;obtain⟨_,st,aB,rfl,s4,hN,hH⟩:=hwr _ hH;refine qv aB ?_;refine zQ 2 ?_;refine ak.ret ⟨rx,_,_,_,rfl,ag (rfl),?_⟩;exact⟨s4,hN,bn.aj bh hH⟩
 refine qE rfl (by simp[Sm]) ?_;refine zQ 5 ?_
 by_cases Sq:((g.1:Nat):Int)=41
 ·refine qD rfl (by simp[Sq]) ?_;refine zQ 1 ?_;refine qD rfl (by simp[Sq]) ?_;refine zQ 4 ?_;obtain⟨_,st,aB,rfl,s4,hN,hH⟩:=hwr _ hH;refine qv aB ?_;refine zQ 2 ?_;refine ak.ret ⟨rx,_,_,_,rfl,ag (rfl),?_⟩;exact⟨s4,hN,bn.aj bh hH⟩
 refine qE rfl (by simp[Sq]) ?_;refine zQ 5 ?_
 by_cases Sl:((g.1:Nat):Int)=93
 ·refine qD rfl (by simp[Sl]) ?_;refine zQ 1 ?_;refine qD rfl (by simp[Sl]) ?_;refine zQ 4 ?_;obtain⟨_,st,aB,rfl,s4,hN,hH⟩:=hwr _ hH;refine qv aB ?_;refine zQ 2 ?_;refine ak.ret ⟨rx,_,_,_,rfl,ag (rfl),?_⟩;exact⟨s4,hN,bn.aj bh hH⟩
 refine qE rfl (by simp[Sl]) ?_;refine zQ 5 ?_
 by_cases KF:((g.1:Nat):Int)=123
 ·refine qD rfl (by simp[KF]) ?_;refine zQ 1 ?_;refine qD rfl (by simp[KF]) ?_;refine zQ 4 ?_;obtain⟨_,st,aB,rfl,s4,hN,hH⟩:=hwr _ hH;refine qv aB ?_;refine zQ 2 ?_;refine ak.ret ⟨rx,_,_,_,rfl,ag (rfl),?_⟩;exact⟨s4,hN,bn.aj bh hH⟩
 refine qE rfl (by simp[KF]) ?_;refine zQ 5 ?_
 by_cases KE:((g.1:Nat):Int)=125
 ·refine qD rfl (by simp[KE]) ?_;refine zQ 1 ?_;refine qD rfl (by simp[KE]) ?_;refine zQ 4 ?_;obtain⟨_,st,aB,rfl,s4,hN,hH⟩:=hwr _ hH;refine qv aB ?_;refine zQ 2 ?_;refine ak.ret ⟨rx,_,_,_,rfl,ag (rfl),?_⟩;exact⟨s4,hN,bn.aj bh hH⟩
 refine qE rfl (by simp[KE]) ?_;refine zQ 4 ?_
 by_cases OJ:((g.1:Nat):Int)=124
 ·refine qD rfl (by simp[OJ]) ?_;refine zQ 4 ?_;obtain⟨_,st,aB,rfl,s4,hN,hH⟩:=hwr _ hH;refine qv aB ?_;refine zQ 2 ?_;refine ak.ret ⟨rx,_,_,_,rfl,ag (rfl),?_⟩;exact⟨s4,hN,bn.aj bh hH⟩
 refine qE rfl (by simp[OJ]) ?_;refine zQ 9 ?_;refine qT hH aN fun st hH=>?_;dsimp only[u2,u1,u3,u4,setMany,u5,u6,D.cells,Nat.reduceAdd,aQ,bC,ax,au,bf] at hH;refine zQ 1 ?_;obtain⟨_,CU,_⟩:=nD (s0:=s0) (x:=bt [(((g.1:Nat):Int),((g.1:Nat):Int))]) (l:=[(((g.1:Nat):Int),((g.1:Nat):Int))]) (eO _ _) (by simp);simp only[List.length_cons,List.length_nil] at CU;refine zQ 3 ?_;refine qv (jO _) ?_;refine aa.ij (qs:=[(0,_),(1,_)]) rfl rfl rfl rfl ⟨rfl,(ev rfl),(by rfl),rfl,(ev rfl),(by rfl),trivial⟩ (by intro q hq;simp only[List.mem_cons,List.not_mem_nil,or_false] at hq;rcases hq with rfl|rfl<;>exact⟨rfl,by exact Nat.le_of_ble_eq_true rfl⟩) (by show List.foldl _ [_,_,_,_,_,_,_] _=_;dsimp only[List.foldl_cons,List.foldl_nil,u2,u1]<;>rfl) (ab rfl _) ?_;refine qh (s:=7) (vs:=[_]) hH fun k36 st MI hH=>?_;refine zQ 2 ?_;obtain⟨d',ah,yq,dK⟩:=kD _ {s with i:=s.i+1} 2 _ _ k36 (.inl rfl) (by omega) rfl hg (by show s.i<s.i+1;omega) (by show s.i+1≤_;omega) MI hH;refine ak.ret ⟨rx,_,d',ah,rfl,yq,dK⟩
theorem D6 {m:Nat} (hA:∀m',m'+1=m→mw m') {N k:Nat} {S s0:St} {H:List a_} {gs:List (Nat×Nat)} {bJ:D} {b_:List Int} {s:fJ} (bq:lV gs b_) (he:s.e=0) (hi:s.i<gs.length) (hg:s.g≤4) (ho:s.o+m=20) (hH:Has N S s0 (.box k (.mem 0 false (aQ gs bJ s))::.aC bJ 1 (b_.map ax)::H)):
  ∃d ah,Ev pv 220 [.ptr k 0 0] s0 d ah∧∃(s':fJ),jK gs s s' d 1∧Has N S ah (.box k (.mem 0 false (aQ gs bJ s'))::.aC bJ 1 (b_.map ax)::H):=by
 have tq:=bq.gl;have jL:=bq.pl;refine Ev.gA rfl NP rfl rfl rfl ?_;refine zE ?_;have bn:=hH;have hH:=hH.aW;have bh:(ae .rw s0).bs=s0.bs:=rfl;generalize ae .rw s0=S2 at*;refine zQ 7 ?_;obtain⟨_,st,aB,s1,⟨p1,p2,p3,p4,l,rfl,p5,p6,p7⟩,hH⟩:=Iu hA bq he hi hg ho hH;refine qv aB ?_;refine zQ 11 ?_
 rcases p7 with p7|⟨p7,p8⟩
 ·refine qD rfl (by simp[p7]) ?_;refine zQ 4 ?_;refine ak.ret ⟨rx,_,_,_,rfl,ag (rfl),?_⟩;exact⟨s1,gN p1 p2 p3 p4 p7,bn.aj bh hH⟩
 refine qE rfl (by simp[p7]) ?_;refine zQ 3 ?_;refine aa.go (d:=.agg [.int .i64 5,.nul,.int .i64 0,.int .i64 0,.bool false,.int .i64 0,.int .i64 1]) (st1:=_) rfl rfl rfl (ab rfl _) ?_;refine qa hH fun k4 st La hH=>?_;dsimp only[u2,u1,u3,u4,setMany,u5,u6,D.cells,Nat.reduceAdd,aQ,bC,ax,au,bf] at hH;refine qS hH aN fun st hH=>?_;dsimp only[u2,u1,u3,u4,setMany,u5,u6,D.cells,Nat.reduceAdd,aQ,bC,ax,au,bf] at hH;refine zQ 1 ?_;have hH:Has N S2 st (.box k (.mem 0 false (aQ gs bJ s1))::.aC bJ 1 (b_.map ax)::.box k4 (.mem 0 false [.int .i64 5,.nul,.int .i64 0,.int .i64 0,.bool false,.int .i64 0,.int .i64 1])::H):=oh hH;refine qq<|ak.merge (fun fr st=>∃(mn mx:Int) (s2:fJ) (tmp:List (Nat×D)),fr=⟨5,[.ptr k 0 0,z6 fr 1,z6 fr 2,wS l,.ptr k4 0 0],tmp⟩∧Has N S2 st (.box k (.mem 0 false (aQ gs bJ s2))::.aC bJ 1 (b_.map ax)::.box k4 (.mem 0 false [.int .i64 5,.nul,.int .i64 mn,.int .i64 mx,.bool false,.int .i64 0,.int .i64 1])::H)∧(s2.o=s.o)∧(s2.g≤4)∧(s1.i<s2.i)∧(s2.i≤gs.length)) ?_ ?_
 ·refine zQ 4 ?_;obtain⟨_,st,aB,rfl,hH⟩:=ei (s:=s1) (by omega) 42 hH;refine qv aB ?_;refine zQ 2 ?_
  cases hb1:j_ gs s1.i 42 with
  |true=>
   obtain⟨k1,k2,k3,PT,k5⟩:=ig (gs:=gs) (s:=s1) (r:=42);have k6:=nu hb1;have k7:=k5 p4;generalize df gs s1 42=s2 at*;refine zQ 3 ?_;refine qT hH fm fun st hH=>?_;dsimp only[u2,u1,u3,u4,setMany,u5,u6,D.cells,Nat.reduceAdd,aQ,bC,ax,au,bf] at hH;refine zQ 1 ?_;exact⟨0,-1,s2,_,rfl,hH,by omega,by omega,by omega,k7⟩
  |false=>
   rw[qJ hb1] at hH;refine zQ 4 ?_;obtain⟨_,st,aB,rfl,hH⟩:=ei (s:=s1) (by omega) 43 hH;refine qv aB ?_;refine zQ 2 ?_
   cases hb2:j_ gs s1.i 43 with
   |true=>
    obtain⟨k1,k2,k3,PT,k5⟩:=ig (gs:=gs) (s:=s1) (r:=43);have k6:=nu hb2;have k7:=k5 p4;generalize df gs s1 43=s2 at*;refine zQ 3 ?_;refine qT hH fm fun st hH=>?_;dsimp only[u2,u1,u3,u4,setMany,u5,u6,D.cells,Nat.reduceAdd,aQ,bC,ax,au,bf] at hH;refine zQ 1 ?_;refine qT hH fm fun st hH=>?_;dsimp only[u2,u1,u3,u4,setMany,u5,u6,D.cells,Nat.reduceAdd,aQ,bC,ax,au,bf] at hH;refine zQ 1 ?_;exact⟨1,-1,s2,_,rfl,hH,by omega,by omega,by omega,k7⟩
   |false=>
    rw[qJ hb2] at hH;refine zQ 4 ?_;obtain⟨_,st,aB,rfl,hH⟩:=ei (s:=s1) (by omega) 63 hH;refine qv aB ?_;refine zQ 2 ?_
    cases M6:j_ gs s1.i 63 with
    |true=>
     obtain⟨k1,k2,k3,PT,k5⟩:=ig (gs:=gs) (s:=s1) (r:=63);have k6:=nu M6;have k7:=k5 p4;generalize df gs s1 63=s2 at*;refine zQ 3 ?_;refine qT hH fm fun st hH=>?_;dsimp only[u2,u1,u3,u4,setMany,u5,u6,D.cells,Nat.reduceAdd,aQ,bC,ax,au,bf] at hH;refine zQ 1 ?_;exact⟨0,1,s2,_,rfl,hH,by omega,by omega,by omega,k7⟩
    |false=>
     rw[qJ M6] at hH;refine zQ 4 ?_;obtain⟨_,st,aB,rfl,hH⟩:=pE (s:=s1) (by omega) 123 hH;refine qv aB ?_;refine zQ 2 ?_
     cases Wz:j_ gs s1.i 123 with
     |true=>
      have hlt:=su Wz;refine zQ 3 ?_;obtain⟨_,st,aB,n1,n2,s2,rfl,⟨m1,m2,m3,m4⟩,hH⟩:=Ew bq p7 hlt hH;refine qv aB ?_;refine zQ 4 ?_;refine qT hH fm fun st hH=>?_;dsimp only[u2,u1,u3,u4,setMany,u5,u6,D.cells,Nat.reduceAdd,aQ,bC,ax,au,bf] at hH;refine zQ 1 ?_;refine qT hH fm fun st hH=>?_;dsimp only[u2,u1,u3,u4,setMany,u5,u6,D.cells,Nat.reduceAdd,aQ,bC,ax,au,bf] at hH;refine zQ 1 ?_;exact⟨n1,n2,s2,_,rfl,hH,by omega,by omega,m3,m4⟩
     |false=>
      refine zQ 6 ?_;refine ak.ret ⟨rx,_,_,_,rfl,ag (rfl),?_⟩;exact⟨s1,⟨p1,p2,p3,p4,l,rfl,p5,p6,.inr ⟨p7,by omega⟩⟩,bn.aj bh (hH.erase 2)⟩
 ·rintro fr st ⟨mn,mx,s2,tmp,hfr,hH,h1,h2,h3,h4⟩;rw[hfr];clear hfr;generalize z6 fr=ee;clear fr;refine zQ 9 ?_
  by_cases tu:s2.e=0
  ·refine qE rfl (by simp[tu]) ?_;refine zQ 1 ?_;obtain⟨k1,k2,k3,PT,k5⟩:=ig (gs:=gs) (s:=s2) (r:=63);have k7:=k5 h4;refine zQ 3 ?_;obtain⟨_,st,aB,rfl,hH⟩:=ei (s:=s2) (by omega) 63 hH;refine qv aB ?_;refine zQ 1 ?_;refine qT hH fm fun st hH=>?_;dsimp only[u2,u1,u3,u4,setMany,u5,u6,D.cells,Nat.reduceAdd,aQ,bC,ax,au,bf] at hH;refine zQ 1 ?_;generalize df gs s2 63=s3 at*;generalize j_ gs s2.i 63=lz at*;have hla:=(uh p5).arg N S2;refine zQ 2 ?_;refine aa.aL (m:=7) hH rfl (ev rfl) (by exact fm) (by dsimp only[List.drop_succ_cons,List.drop_zero,List.take_succ_cons,List.take_zero,aQ,bC,ax,au,bf]<;>rfl) rfl rfl (ab rfl _) ?_;refine qh (s:=7) (vs:=[_]) hH fun k46 st V2 hH=>?_;refine qm ?_;refine aa.j6 (s:=7) hH rfl (ev rfl) (ev rfl) aN ((uh p5).rows st) rfl rfl rfl rfl rfl rfl rfl ⟨(Nat.le_of_ble_eq_true rfl),(Nat.le_of_ble_eq_true rfl)⟩ (fun _=>(ab rfl _)) (by simp only[List.length_map,List.length_cons,List.length_nil];omega) (.inr (ug p5)) (fun k hk=>by have kG:k46+1=k+1:=hk;omega) (fun Le st sE hH=>?_);dsimp only[u2] at hH;refine zQ 2 ?_;have hH:Has N S2 st (.aC Le 7 ([.int .i64 5,.nul,.int .i64 mn,.int .i64 mx,.bool lz,.int .i64 0,.int .i64 1]::l.map bf)::.box k (.mem 0 false (aQ gs bJ s3))::.aC bJ 1 (b_.map ax)::.box k4 (.mem 0 false [.int .i64 5,.nul,.int .i64 mn,.int .i64 mx,.bool lz,.int .i64 0,.int .i64 1])::H):=hH
   have hfz:=jw (L:=s0.bs.length) (l:=vL 5 mn mx lz 0 1 []::l) hH aN (by rw[List.map_cons,vJ p5];rfl) (fun e he d hd=>by
    rcases List.mem_cons.1 he with rfl|he
    ·simp only[List.mem_cons,List.not_mem_nil,or_false] at hd
     rcases hd with rfl|rfl|rfl|rfl|rfl|rfl|rfl<;>rfl
    ·exact rU p5 e he d hd) (fun k hk=>by rw[←bh];exact sE k hk) (n:=16) (by decide)
   refine ak.ret ⟨rx,_,_,_,rfl,ag hfz,⟨s3,⟨by omega,by omega,by omega,k7,_,rfl,?_,by simp only[List.length_cons];omega,.inr ⟨by omega,by simp only[List.length_cons];omega⟩⟩,bn.aj bh ((hH.drop 1).erase 2)⟩⟩;intro n hn
   rcases List.mem_cons.1 hn with rfl|hn
   ·exact⟨rfl,by simp[vL],by simp[vL]⟩
   ·exact p5 n hn
  ·refine qD rfl (by simp[tu]) ?_;refine zQ 4 ?_;refine ak.ret ⟨rx,_,_,_,rfl,ag (rfl),?_⟩;exact⟨s2,gN h1 h2 (by omega) h4 tu,bn.aj bh (hH.erase 2)⟩
def oV (fr:Go.V.Fr) (k:Nat):Go.V.D:=Go.V.nth .bj fr.loc k
theorem Gb {m:Nat} (hA:∀m',m'+1=m→mw m') {N k:Nat} {S s0:St} {H:List a_} {gs:List (Nat×Nat)} {bJ:D} {b_:List Int} {s:fJ} (bq:lV gs b_) (he:s.e=0) (hi:s.i≤gs.length) (hg:s.g≤4) (ho:s.o+m=20) (hH:Has N S s0 (.box k (.mem 0 false (aQ gs bJ s))::.aC bJ 1 (b_.map ax)::H)):
  ∃d ah,Ev pv 186 [.ptr k 0 0] s0 d ah∧∃(s':fJ),wP gs s s' d∧Has N S ah (.box k (.mem 0 false (aQ gs bJ s'))::.aC bJ 1 (b_.map ax)::H):=by
 have tq:=bq.gl;have jL:=bq.pl;refine Ev.gA rfl N1 rfl rfl rfl ?_;refine zE ?_;have bn:=hH;have hH:=hH.aW;have bh:(ae .rw s0).bs=s0.bs:=rfl;generalize ae .rw s0=S2 at*;have IZ:Arg N S2 2 (hU gs) (gs.map bC):=Arg.pure (fun st=>eR st gs);refine zQ 8 ?_;have hH:Has N S2 S2 (.box k (.mem 0 false (aQ gs bJ s))::.aC bJ 1 (b_.map ax)::.aC .nul 1 (([]:List (List dI)).map eo)::H):=oh (hH.gf 1);refine zQ 2 ?_;refine ak.loop (fun mm fr st=>∃(s1:fJ) (pd:D) (parts:List (List dI)),fr.clean=⟨4,[.ptr k 0 0,oV fr 1,oV fr 2,pd],[]⟩∧Has N S2 st (.box k (.mem 0 false (aQ gs bJ s1))::.aC bJ 1 (b_.map ax)::.aC pd 1 (parts.map eo)::H)∧(s1.o=s.o)∧(s1.g≤4)∧(s.i≤s1.i)∧(s1.i≤gs.length)∧(∀l∈parts,∀n∈l,wX n)∧(fZ parts+parts.length≤4*(s1.i-s.i)+2)∧(s1.e=0→fZ parts+parts.length≤4*(s1.i-s.i))∧(gs.length-s1.i+(if s1.e=0 then 1 else 0)≤mm)) (gs.length+1) ?_ ?_
 ·exact⟨s,.nul,[],rfl,hH,rfl,hg,Nat.le_refl _,hi,fun l hl=>(by cases hl),by simp[fZ],fun _=>by simp[fZ],by split<;>omega⟩
 rintro mm fr st ⟨s1,pd,parts,hfr,hH,h1,h2,h3,h4,h5,h6,h7,y5⟩;rw[hfr];clear hfr;generalize oV fr=ee;clear fr
 have sF:∀st:St,Has N S2 st (.box k (.mem 0 false (aQ gs bJ s1))::.aC bJ 1 (b_.map ax)::.aC pd 1 (parts.map eo)::H)→∃d,Ev pv 188 [.int .i64 3,pd] st d st∧wP gs s s1 d∧∃l,d=wS l:=by
  intro st hH;obtain⟨_,aB,l,rfl,j1,j2,j3⟩:=uD 3 (hH.rows fm) h5 (by omega) (by omega);refine⟨_,aB,⟨h1,h2,h3,h4,l,rfl,j1,?_⟩,l,rfl⟩
  by_cases q1:parts.length=1
  ·have:=j2 q1;omega
  ·by_cases q0:parts.length=0
   ·have:parts=[]:=List.length_eq_zero_iff.1 q0;rw[this] at j3 h6;simp[fZ] at j3 h6;omega
   ·omega
 by_cases gB:s1.e=0
 ·rw[if_pos gB] at y5;have h7:=h7 gB;have cK:(s1.e==0)=true:=by simpa using gB
  by_cases hlt:s1.i<gs.length
  ·have bZ:decide (((s1.i:Nat):Int)<((gs.length:Nat):Int))=true:=by rw[decide_eq_true_eq];omega
   cases fz:(!j_ gs s1.i 124) with
   |false=>
    refine zQ 17 ?_;refine qn ?_ (hg:=wi cK);simp only[List.length_map];refine zQ 4 ?_;obtain⟨_,st,aB,rfl,hH⟩:=pE (s:=s1) (by omega) 124 hH;refine qv aB ?_ (hg:=wi bZ);refine zQ 17 ?_;obtain⟨_,Fh,hQ,l,rfl⟩:=sF _ hH;refine zQ 3 ?_;refine qv (Fh) ?_;refine zQ 2 ?_;refine ak.ret ⟨rx,_,_,_,rfl,ag (rfl),?_⟩;exact⟨s1,hQ,bn.aj bh (hH.erase 2)⟩
   |true=>
    cases dx:j_ gs s1.i 41 with
    |false=>
     refine zQ 17 ?_;refine qn ?_ (hg:=wi cK);simp only[List.length_map];refine zQ 4 ?_;obtain⟨_,st,aB,rfl,hH⟩:=pE (s:=s1) (by omega) 124 hH;refine qv aB ?_ (hg:=wi bZ);refine zQ 4 ?_;obtain⟨_,st,aB,rfl,hH⟩:=pE (s:=s1) (by omega) 41 hH;refine qv aB ?_ (hg:=wi fz);refine zQ 6 ?_;refine aa.cH (ai rfl rfl rfl fz) rfl dx (ab rfl _) ?_;refine zQ 9 ?_;obtain⟨_,st,aB,s2,⟨r1,r2,r3,r4,l,rfl,r5,r6,r7⟩,hH⟩:=D6 hA bq (s:=s1) gB hlt h2 (by omega) hH;refine qv aB ?_;refine qh (s:=1) (vs:=[_]) hH fun k41 st MG hH=>?_;dsimp only[u2,u1,u3,u4,setMany,u5,u6,D.cells,Nat.reduceAdd,aQ,bC,ax,au,eo] at hH;refine aa.cJ (s:=1) hH rfl (ev rfl) (ev rfl) (by exact gX) (by exact hH.rows (by exact aN)) rfl rfl rfl rfl rfl rfl rfl ⟨(Nat.le_of_ble_eq_true rfl),(Nat.le_of_ble_eq_true rfl)⟩ (fun _=>(ab rfl _)) (by simp only[List.length_cons,List.length_nil,List.length_map]<;>omega) (by exact .inr rfl) (fun Lf st hH=>?_);dsimp only[u2,u1,u3,u4,setMany,u5,u6,D.cells,Nat.reduceAdd,aQ,bC,ax,au,eo] at hH;refine zQ 2 ?_;have hH:=hH.drop 1;refine⟨mm-1,by omega,⟨s2,Lf,parts++[l],rfl,(by rw[List.map_append];exact hH),by omega,r2,by omega,r4,?_,by rw[dJ,List.length_append];simp only[fZ,List.length_cons,List.length_nil];omega,(fun e=>by rw[dJ,List.length_append];simp only[fZ,List.length_cons,List.length_nil];omega),by split<;>omega⟩⟩;intro l' iM
     rcases List.mem_append.1 iM with iM|iM
     ·exact h5 l' iM
     ·simp only[List.mem_cons,List.not_mem_nil,or_false] at iM;subst iM;exact r5
    |true=>
     refine zQ 17 ?_;refine qn ?_ (hg:=wi cK);simp only[List.length_map];refine zQ 4 ?_;obtain⟨_,st,aB,rfl,hH⟩:=pE (s:=s1) (by omega) 124 hH;refine qv aB ?_ (hg:=wi bZ);refine zQ 4 ?_;obtain⟨_,st,aB,rfl,hH⟩:=pE (s:=s1) (by omega) 41 hH;refine qv aB ?_ (hg:=wi fz);refine zQ 6 ?_;refine aa.cQ (ai rfl rfl rfl fz) rfl dx (ab rfl _) ?_;refine zQ 3 ?_
     by_cases gb:0<s1.o
     ·have iZ:(!decide (((s1.o:Nat):Int)>0))=false:=by rw[decide_eq_true (by omega)];rfl
      refine qE rfl (by rw[iZ]) ?_;refine zQ 1 ?_;obtain⟨_,Fh,hQ,l,rfl⟩:=sF _ hH;refine zQ 3 ?_;refine qv (Fh) ?_;refine zQ 2 ?_;refine ak.ret ⟨rx,_,_,_,rfl,ag (rfl),?_⟩;exact⟨s1,hQ,bn.aj bh (hH.erase 2)⟩
     ·have iZ:(!decide (((s1.o:Nat):Int)>0))=true:=by rw[decide_eq_false (by omega)];rfl
      refine qD rfl (by rw[iZ]) ?_;refine zQ 5 ?_;obtain⟨_,st,aB,s2,⟨r1,r2,r3,r4,l,rfl,r5,r6,r7⟩,hH⟩:=D6 hA bq (s:=s1) gB hlt h2 (by omega) hH;refine qv aB ?_;refine qh (s:=1) (vs:=[_]) hH fun k41 st MG hH=>?_;dsimp only[u2,u1,u3,u4,setMany,u5,u6,D.cells,Nat.reduceAdd,aQ,bC,ax,au,eo] at hH;refine aa.cJ (s:=1) hH rfl (ev rfl) (ev rfl) (by exact gX) (by exact hH.rows (by exact aN)) rfl rfl rfl rfl rfl rfl rfl ⟨(Nat.le_of_ble_eq_true rfl),(Nat.le_of_ble_eq_true rfl)⟩ (fun _=>(ab rfl _)) (by simp only[List.length_cons,List.length_nil,List.length_map]<;>omega) (by exact .inr rfl) (fun Lf st hH=>?_);dsimp only[u2,u1,u3,u4,setMany,u5,u6,D.cells,Nat.reduceAdd,aQ,bC,ax,au,eo] at hH;refine zQ 2 ?_;have hH:=hH.drop 1;refine⟨mm-1,by omega,⟨s2,Lf,parts++[l],rfl,(by rw[List.map_append];exact hH),by omega,r2,by omega,r4,?_,by rw[dJ,List.length_append];simp only[fZ,List.length_cons,List.length_nil];omega,(fun e=>by rw[dJ,List.length_append];simp only[fZ,List.length_cons,List.length_nil];omega),by split<;>omega⟩⟩;intro l' iM
      rcases List.mem_append.1 iM with iM|iM
      ·exact h5 l' iM
      ·simp only[List.mem_cons,List.not_mem_nil,or_false] at iM;subst iM;exact r5
  ·have bZ:decide (((s1.i:Nat):Int)<((gs.length:Nat):Int))=false:=by rw[decide_eq_false_iff_not];omega
   refine zQ 17 ?_;refine qn ?_ (hg:=wi cK);simp only[List.length_map];refine zQ 22 ?_;obtain⟨_,Fh,hQ,l,rfl⟩:=sF _ hH;refine zQ 3 ?_;refine qv (Fh) ?_;refine zQ 2 ?_;refine ak.ret ⟨rx,_,_,_,rfl,ag (rfl),?_⟩;exact⟨s1,hQ,bn.aj bh (hH.erase 2)⟩
 ·have cK:(s1.e==0)=false:=by simpa using gB
  refine zQ 40 ?_;obtain⟨_,Fh,hQ,l,rfl⟩:=sF _ hH;refine zQ 3 ?_;refine qv (Fh) ?_;refine zQ 2 ?_;refine ak.ret ⟨rx,_,_,_,rfl,ag (rfl),?_⟩;exact⟨s1,hQ,bn.aj bh (hH.erase 2)⟩
theorem Iy:∀m:Nat,mw m:=by
 intro m
 induction m using Nat.strongRecOn with
 |ind m ih0=>
 have hA:∀m',m'+1=m→mw m':=fun m' h=>ih0 m' (by omega);intro N k S s0 H gs bJ b_ s bq he hi hg ho hH;have tq:=bq.gl;have jL:=bq.pl;refine Ev.gA rfl Ov rfl rfl rfl ?_;refine zE ?_;have bn:=hH;have hH:=hH.aW;have bh:(ae .rw s0).bs=s0.bs:=rfl;generalize ae .rw s0=S2 at*;refine zQ 7 ?_;obtain⟨_,st,aB,s1,⟨p1,p2,p3,p4,l,rfl,p5,p6⟩,hH⟩:=Gb hA bq he hi hg ho hH;refine qv aB ?_;refine qh (s:=1) (vs:=[_]) hH fun k6 st Dx hH=>?_;dsimp only[u2,u1,u3,u4,setMany,u5,u6,D.cells,Nat.reduceAdd,aQ,bC,ax,au,eo] at hH;refine zQ 2 ?_;have hH:Has N S2 st (.box k (.mem 0 false (aQ gs bJ s1))::.aC bJ 1 (b_.map ax)::.aC (.win k6 0 0 1 1) 1 ([l].map eo)::H):=oh hH;refine zQ 2 ?_;refine ak.loop (fun mm fr st=>∃(s1:fJ) (pd:D) (parts:List (List dI)),fr.clean=⟨4,[.ptr k 0 0,oV fr 1,oV fr 2,pd],[]⟩∧Has N S2 st (.box k (.mem 0 false (aQ gs bJ s1))::.aC bJ 1 (b_.map ax)::.aC pd 1 (parts.map eo)::H)∧(s1.o=s.o)∧(s1.g≤4)∧(s.i≤s1.i)∧(s1.i≤gs.length)∧(∀l∈parts,∀n∈l,wX n)∧(fZ parts+3*parts.length≤4*(s1.i-s.i)+4)∧(1≤parts.length)∧(gs.length-s1.i≤mm)) (gs.length) ?_ ?_
 ·exact⟨s1,.win k6 0 0 1 1,[l],rfl,hH,p1,p2,p3,p4,(fun l' iM=>by simp only[List.mem_cons,List.not_mem_nil,or_false] at iM;subst iM;exact p5),by simp only[fZ,List.length_cons,List.length_nil];omega,by simp,by omega⟩
 rintro mm fr st ⟨s1,pd,parts,hfr,hH,h1,h2,h3,h4,h5,h6,h8,y5⟩;rw[hfr];clear hfr;generalize oV fr=ee;clear fr
 have sF:∀st:St,Has N S2 st (.box k (.mem 0 false (aQ gs bJ s1))::.aC bJ 1 (b_.map ax)::.aC pd 1 (parts.map eo)::H)→∃d,Ev pv 188 [.int .i64 4,pd] st d st∧wP gs s s1 d∧∃l,d=wS l:=by
  intro st hH;obtain⟨_,aB,l,rfl,j1,j2,j3⟩:=uD 4 (hH.rows fm) h5 (by omega) (by omega);refine⟨_,aB,⟨h1,h2,h3,h4,l,rfl,j1,?_⟩,l,rfl⟩
  by_cases q1:parts.length=1
  ·have:=j2 q1;omega
  ·omega
 by_cases gB:s1.e=0
 ·have cK:(s1.e==0)=true:=by simpa using gB
  obtain⟨k1,k2,k3,k4,k5⟩:=ig (gs:=gs) (s:=s1) (r:=124);have k5:=k5 h4;refine zQ 10 ?_;obtain⟨_,st,aB,rfl,hH⟩:=ei (s:=s1) (by omega) 124 hH;refine qv aB ?_ (hg:=wi cK);refine zQ 2 ?_
  cases hb:j_ gs s1.i 124 with
  |false=>
   rw[qJ hb] at hH;refine zQ 2 ?_;obtain⟨_,Fh,hQ,l,rfl⟩:=sF _ hH;refine zQ 3 ?_;refine qv (Fh) ?_;refine zQ 2 ?_;refine ak.ret ⟨rx,_,_,_,rfl,ag (rfl),?_⟩;exact⟨s1,hQ,bn.aj bh (hH.erase 2)⟩
  |true=>
   have k6:=nu hb;generalize df gs s1 124=s2 at*;refine zQ 6 ?_;obtain⟨_,st,aB,s3,⟨r1,r2,r3,r4,l,rfl,r5,r6⟩,hH⟩:=Gb hA bq (s:=s2) (by omega) k5 (by omega) (by omega) hH;refine qv aB ?_;refine qh (s:=1) (vs:=[_]) hH fun k19 st QW hH=>?_;dsimp only[u2,u1,u3,u4,setMany,u5,u6,D.cells,Nat.reduceAdd,aQ,bC,ax,au,eo] at hH;refine aa.cJ (s:=1) hH rfl (ev rfl) (ev rfl) (by exact gX) (by exact hH.rows (by exact aN)) rfl rfl rfl rfl rfl rfl rfl ⟨(Nat.le_of_ble_eq_true rfl),(Nat.le_of_ble_eq_true rfl)⟩ (fun _=>(ab rfl _)) (by simp only[List.length_cons,List.length_nil,List.length_map]<;>omega) (by exact .inr rfl) (fun SA st hH=>?_);dsimp only[u2,u1,u3,u4,setMany,u5,u6,D.cells,Nat.reduceAdd,aQ,bC,ax,au,eo] at hH;refine zQ 2 ?_;have hH:=hH.drop 1;refine⟨mm-1,by omega,⟨s3,SA,parts++[l],rfl,(by rw[List.map_append];exact hH),by omega,r2,by omega,r4,?_,by rw[dJ,List.length_append];simp only[fZ,List.length_cons,List.length_nil];omega,by rw[List.length_append];omega,by omega⟩⟩;intro l' iM
   rcases List.mem_append.1 iM with iM|iM
   ·exact h5 l' iM
   ·simp only[List.mem_cons,List.not_mem_nil,or_false] at iM;subst iM;exact r5
 ·have cK:(s1.e==0)=false:=by simpa using gB
  refine zQ 15 ?_;obtain⟨_,Fh,hQ,l,rfl⟩:=sF _ hH;refine zQ 3 ?_;refine qv (Fh) ?_;refine zQ 2 ?_;refine ak.ret ⟨rx,_,_,_,rfl,ag (rfl),?_⟩;exact⟨s1,hQ,bn.aj bh (hH.erase 2)⟩
theorem Gq:∀(n:Nat) (b:List UInt8),b.length≤n→(tg b).length≤b.length∧∀g∈tg b,g.2≤b.length:=by
 intro n
 induction n with
 |zero=>
  intro b hb;have:b=[]:=List.length_eq_zero_iff.1 (by omega);subst this;rw[tf];exact⟨Nat.le_refl _,fun g hg=>by cases hg⟩
 |succ n ih=>
  intro b hb
  by_cases h:b=[]
  ·subst h;rw[tf];exact⟨Nat.le_refl _,fun g hg=>by cases hg⟩
  ·have hp:=nB b;have hl:=Bm h;obtain⟨h1,h2⟩:=ih (b.drop (iG b).2) (by rw[List.length_drop];omega);rw[List.length_drop] at h1 h2;rw[vg h];refine⟨by rw[List.length_cons];omega,fun g hg=>?_⟩
   rcases List.mem_cons.1 hg with rfl|hg
   ·exact hl
   ·have:=h2 g hg;omega
def bp (fr:Go.V.Fr) (k:Nat):Go.V.D:=Go.V.nth .bj fr.loc k
def KQ (d:D):Prop:=∃(l:List dI) (e w:Int),d=.tup [wS l,.int .i64 e,.int .i64 w]∧(∀n∈l,wX n)∧l.length≤500
theorem Ek {s0:St} {b:List UInt8} (hbl:b.length≤1048576):∃d,Ev pv 68 [.str b] s0 d s0∧KQ d:=by
 obtain⟨tq,Wi⟩:=Gq _ b (Nat.le_refl _);have aB:∀(st:St) (x:D),Bytes st x b→Ev pv 132 [x] st (hU (tg b)) st:=fun st x h=>KJ h hbl;generalize tg b=gs at*;refine Ev.Dq rfl RV rfl rfl rfl ?_;refine zE ?_;obtain⟨aP,hF,hH⟩:=ri s0;generalize ae .ro s0=S at*;have IZ:Arg s0.bs.length S 2 (hU gs) (gs.map bC):=Arg.pure (fun st=>eR st gs);refine zQ 10 ?_;refine aa.ze rfl rfl rfl (by dsimp only[Fr.put,u1,u2]<;>rfl) ?_;refine zQ 2 ?_
 by_cases Tx:120<b.length
 ·have iZ:decide (((b.length:Nat):Int)>120)=true:=by rw[decide_eq_true_eq];omega
  refine qD rfl (by rw[iZ]) ?_;refine zQ 6 ?_;refine ak.ret ⟨rx,_,_,rfl,rl aP hH (rfl),?_⟩;exact⟨[],2,0,rfl,fun n hn=>(by cases hn),by simp⟩
 have iZ:decide (((b.length:Nat):Int)>120)=false:=by rw[decide_eq_false_iff_not];omega
 refine qE rfl (by rw[iZ]) ?_;refine zQ 4 ?_;refine aa.An hH rfl rfl rfl rfl rfl (by omega) (fun _=>by dsimp only[Fr.put,u1,u2]<;>rfl) (fun k14 st Kb hH=>?_);refine qv ((aB _ _ (hH.rows aN))) ?_;refine aa.go (d:=.agg [hU gs,.nul,.int .i64 0,.int .i64 0,.int .i64 0,.int .i64 0,.int .i64 0]) (st1:=_) rfl rfl rfl (by dsimp only[Fr.put,u1,u2]<;>rfl) ?_;refine qb hH fun k17 st QX hH=>?_;refine zQ 13 ?_;refine qn ?_;simp only[List.length_map];refine zQ 2 ?_;have hH:Has s0.bs.length S st (.box k17 (.mem 0 false [hU gs,.nul,.int .i64 0,.int .i64 0,.int .i64 0,.int .i64 0,.int .i64 0])::.aC .nul 1 (([]:List Int).map ax)::[]):=((hH.erase 1).gf 1).front bV;refine zQ 1 ?_;refine ak.loop (fun mm fr st=>∃(i a:Nat) (pd:D) (b_:List Int),fr.clean=⟨24,[bp fr 0,bp fr 1,bp fr 2,bp fr 3,bp fr 4,.ptr k17 0 0,.int .i64 (a:Nat),bp fr 7,bp fr 8,bp fr 9,bp fr 10,bp fr 11,bp fr 12,bp fr 13,bp fr 14,bp fr 15,bp fr 16,bp fr 17,bp fr 18,bp fr 19,bp fr 20,hU gs,.int .i64 (gs.length:Nat),.int .i64 (i:Nat)],[]⟩∧Has s0.bs.length S st [.box k17 (.mem 0 false [hU gs,pd,.int .i64 0,.int .i64 0,.int .i64 0,.int .i64 0,.int .i64 0]),.aC pd 1 (b_.map ax)]∧(i+mm=gs.length)∧(b_.length=i)∧(a≤120*i)) (gs.length) ?_ ?_
 ·exact⟨0,0,.nul,[],rfl,hH,by omega,rfl,by omega⟩
 rintro mm fr st ⟨i,a,pd,b_,hfr,hH,hi,jL,ha⟩;rw[hfr];clear hfr;generalize bp fr=ee;clear fr;refine zQ 4 ?_
 by_cases hlt:i<gs.length
 ·obtain⟨g,hg⟩:∃g,gs[i]?=some g:=⟨gs[i]'hlt,List.getElem?_eq_getElem _⟩
  have gm:(gs.map bC)[i]?=some (bC g):=by rw[List.getElem?_map,hg];rfl
  have cu:=Wi g (List.mem_of_getElem? hg);have mI:decide (((i:Nat):Int)<((gs.length:Nat):Int))=true:=by rw[decide_eq_true_eq];omega
  refine qq<|qD rfl (by rw[mI]) ?_;refine zQ 5 ?_;refine qr fun KW CT=>?_;refine aa.cV rfl (ev rfl) (by assumption) rfl (ab rfl _) ?_;refine qa hH fun k8 st J_ hH=>?_;refine qS hH aN fun st hH=>?_;dsimp only[u2,u1,u3,u4,setMany,u5,u6,D.cells,Nat.reduceAdd,aQ,bC,ax] at hH;refine zQ 9 ?_;refine qh (s:=1) (vs:=[_]) hH fun k33 st QU hH=>?_;refine aa.cJ (s:=1) hH rfl (ev rfl) (ev rfl) (by exact gX) (by exact hH.rows (by exact aN)) rfl rfl rfl rfl rfl rfl rfl ⟨(Nat.le_of_ble_eq_true rfl),(Nat.le_of_ble_eq_true rfl)⟩ (fun _=>(ab rfl _)) (by simp only[List.length_cons,List.length_nil,List.length_map]<;>omega) (by exact .inl hF) (fun T5 st hH=>?_);dsimp only[u2,u1,u3,u4,setMany,u5,u6,D.cells,Nat.reduceAdd,aQ,bC,ax] at hH;refine zQ 2 ?_;refine qT hH fm (fun st hH=>?_) (lf:=hH.oM gX);dsimp only[u2,u1,u3,u4,setMany,u5,u6,D.cells,Nat.reduceAdd,aQ,bC,ax] at hH;refine zQ 5 ?_;refine aa.Su rfl (ev rfl) (ev rfl) (by omega) (ab rfl _) ?_;refine zQ 6 ?_;exact⟨mm-1,by omega,⟨i+1,a+g.2,T5,b_++[((a:Nat):Int)],rfl,(by rw[List.map_append];exact hH.drop 2),by omega,by rw[List.length_append,jL];rfl,by omega⟩⟩
 ·have mI:decide (((i:Nat):Int)<((gs.length:Nat):Int))=false:=by rw[decide_eq_false_iff_not];omega
  refine qq<|qE rfl (by rw[mI]) ?_;refine zQ 1 ?_
  have bq:lV gs b_:=⟨by omega,by omega⟩
  have hH:Has s0.bs.length S st (.box k17 (.mem 0 false (aQ gs pd ⟨0,0,0,0,0⟩))::.aC pd 1 (b_.map ax)::[]):=hH;refine zQ 3 ?_;obtain⟨_,st,aB,s1,⟨p1,p2,p3,p4,l,rfl,p5,p6⟩,hH⟩:=Iy 20 (s:=⟨0,0,0,0,0⟩) bq rfl (by simp) (by simp) rfl hH;refine qv aB ?_;refine zQ 2 ?_;have p6:l.length≤4*(s1.i-0)+1:=p6;refine zQ 2 ?_;refine ak.ky (fun fr st=>∃(s2:fJ) (tmp:List (Nat×D)),fr=⟨24,[bp fr 0,bp fr 1,bp fr 2,bp fr 3,bp fr 4,.ptr k17 0 0,bp fr 6,bp fr 7,bp fr 8,wS l,bp fr 10,bp fr 11,bp fr 12,bp fr 13,bp fr 14,bp fr 15,bp fr 16,bp fr 17,bp fr 18,bp fr 19,bp fr 20,bp fr 21,bp fr 22,bp fr 23],tmp⟩∧Has s0.bs.length S st (.box k17 (.mem 0 false (aQ gs pd s2))::.aC pd 1 (b_.map ax)::[])∧(True)) ?_ ?_
  ·by_cases gB:s1.e=0
   ·have cK:(s1.e==0)=true:=by simpa using gB
    refine zQ 15 ?_;refine qn ?_ (hg:=wi cK);simp only[List.length_map];refine zQ 3 ?_;refine zP (fun nf=>?_) fun nf=>?_
    ·refine zQ 6 ?_;obtain⟨_,st,aB,rfl,hH⟩:=dh (s:=s1) s1.i 4 (by omega) hH;refine qv aB ?_;refine zQ 1 ?_;exact⟨_,_,rfl,hH,trivial⟩
    ·refine zQ 1 ?_;exact⟨s1,_,rfl,hH,trivial⟩
   ·have cK:(s1.e==0)=false:=by simpa using gB
    refine zQ 21 ?_;exact⟨s1,_,rfl,hH,trivial⟩
  ·rintro fr st ⟨s2,tmp,hfr,hH,ht⟩;rw[hfr];clear hfr;generalize bp fr=ee;clear fr;refine zQ 9 ?_;refine ak.cond (by rfl) (fun hne=>?_) (fun hne=>?_)<;>try simp only[bne_iff_ne,bne_eq_false_iff_eq,ne_eq] at hne
   ·refine zQ 14 ?_;refine ak.ret ⟨rx,_,_,rfl,rl aP hH (rfl),?_⟩;exact⟨[],_,_,rfl,fun n hn=>(by cases hn),by simp⟩
   ·refine zQ 8 ?_;refine ak.ret ⟨rx,_,_,rfl,rl aP hH (rfl),?_⟩;exact⟨l,0,0,rfl,p5,by omega⟩
def vF (n:dI):Bool:=((n.op==2)||((n.rs.length:Nat):Int)==0) &&((n.op==5)||((n.mn==0) &&(n.mx==0) &&!n.lz)) &&((n.op==6)||(n.cap==0))
noncomputable def fM (n:dI) (g:Int):Int×Bool:=
 if vF n=false then(0,false)
 else if n.op=1∨n.op=7∨n.op=8 then(0,n.kids==0)
 else if n.op=2 then(0,(n.kids==0) &&dO n.rs)
 else if n.op=3∨n.op=4 then(n.kids,decide (n.kids≥2))
 else if n.op=5 then(1,(n.kids==1) &&decide (n.mn≥0) &&decide (n.mn≤30) &&((n.mx==-1)||(decide (n.mx≥n.mn) &&decide (n.mx≤30))))
 else if n.op=6 then(1,(n.kids==1) &&(n.cap==g+1) &&decide (n.cap≤4))
 else(0,false)
def jX (h:Nat→Nat→Option (Nat×Nat)):Nat→Nat→Nat→Option (Nat×Nat)
 |0,at_,g=>some (at_,g)
 |k+1,at_,g=>match h at_ g with
  |some r=>jX h k r.1 r.2
  |none=>none
noncomputable def iR (l:List dI):Nat→Nat→Nat→Option (Nat×Nat)
 |0,_,_=>none
 |f+1,at_,g=>match l[at_]? with
  |none=>none
  |some n=>if(fM n (g:Nat)).2=true then jX (iR l f) (fM n (g:Nat)).1.toNat (at_+1) (if n.op=6 then g+1 else g) else none
theorem xg {n:dI} {g:Nat} (h:(fM n (g:Nat)).2=true):xV n (fM n (g:Nat)).1.toNat∧0≤(fM n (g:Nat)).1∧(n.op=6→n.cap=g+1∧n.cap≤4):=by
 unfold fM at h⊢;unfold xV
 by_cases h0:vF n=false
 ·rw[if_pos h0] at h;cases h
 rw[if_neg h0] at h⊢
 by_cases h1:n.op=1∨n.op=7∨n.op=8
 ·rw[if_pos h1] at h⊢;simp only[beq_iff_eq] at h;exact⟨⟨h,.inl ⟨h1,rfl⟩⟩,Int.le_refl _,fun h6=>by omega⟩
 rw[if_neg h1] at h⊢
 by_cases h2:n.op=2
 ·rw[if_pos h2] at h⊢;simp only[Bool.and_eq_true,beq_iff_eq] at h;exact⟨⟨h.1,.inr (.inl ⟨h2,rfl⟩)⟩,Int.le_refl _,fun h6=>by omega⟩
 rw[if_neg h2] at h⊢
 by_cases h3:n.op=3∨n.op=4
 ·rw[if_pos h3] at h⊢;simp only[decide_eq_true_eq] at h;exact⟨⟨by simp only;omega,.inr (.inr (.inl ⟨h3,by simp only;omega⟩))⟩,by simp only;omega,fun h6=>by omega⟩
 rw[if_neg h3] at h⊢
 by_cases h5:n.op=5
 ·rw[if_pos h5] at h⊢;simp only[Bool.and_eq_true,Bool.or_eq_true,beq_iff_eq,decide_eq_true_eq] at h;exact⟨⟨by simp only;omega,.inr (.inr (.inr (.inl ⟨h5,by simp only;rfl,by omega,by omega,by omega⟩)))⟩,by simp only;omega,fun h6=>by omega⟩
 rw[if_neg h5] at h⊢
 by_cases h6:n.op=6
 ·rw[if_pos h6] at h⊢;simp only[Bool.and_eq_true,beq_iff_eq,decide_eq_true_eq] at h;exact⟨⟨by simp only;omega,.inr (.inr (.inr (.inr ⟨h6,by simp only;rfl,by omega,by omega⟩)))⟩,by simp only;omega,fun _=>⟨h.1.2,h.2⟩⟩
 rw[if_neg h6] at h;cases h
theorem ga.cons {α:Type} {L M:List α} {a:α} {at_:Nat} (h:L[at_]?=some a) (h2:ga L (at_+1) M):ga L at_ (a::M):=by
 obtain⟨post,h2⟩:=h2;refine⟨post,?_⟩;have h3:L[at_]'(bo h)=a:=Option.some.inj ((List.getElem?_eq_getElem _).symm.trans h);rw[List.drop_eq_getElem_cons (bo h),h2,h3];rfl
theorem ga.append {α:Type} {L M M':List α} {at_:Nat} (h:ga L at_ M) (h2:ga L (at_+M.length) M'):ga L at_ (M++M'):=by
 obtain⟨post,h⟩:=h;obtain⟨Lt,h2⟩:=h2;refine⟨Lt,?_⟩;rw[←List.drop_drop,h,List.drop_left] at h2;rw[h,h2,List.append_assoc]
theorem ga.none {α:Type} (L:List α) (at_:Nat):ga L at_ []:=⟨_,rfl⟩
theorem uC {l:List dI} {h:Nat→Nat→Option (Nat×Nat)} (ih:∀at_ g r,h at_ g=some r→∃t:Tr,t.ok∧ga l at_ t.flat∧r.1=at_+t.flat.length):∀k at_ g r,jX h k at_ g=some r→∃ts:bD,ts.len=k∧ts.ok∧ga l at_ ts.flat∧r.1=at_+ts.flat.length
 |0,at_,g,r,e=>by
  simp only[jX,Option.some.injEq] at e;subst e;exact⟨.nil,rfl,trivial,ga.none _ _,by simp[bD.flat]⟩
 |k+1,at_,g,r,e=>by
  unfold jX at e
  cases hq:h at_ g with
  |none=>rw[hq] at e;cases e
  |some q=>
   rw[hq] at e;obtain⟨t,t1,t2,t3⟩:=ih _ _ _ hq;obtain⟨ts,u1,u2,u3,u4⟩:=uC ih k _ _ _ e;rw[t3] at u3 u4;exact⟨.cons t ts,by simp[bD.len,u1],by simp only[bD.ok];exact⟨t1,u2⟩,by simp only[bD.flat];exact t2.append u3,by rw[u4];simp only[bD.flat,List.length_append];omega⟩
theorem xP {l:List dI}:∀f at_ g r,iR l f at_ g=some r→∃t:Tr,t.ok∧ga l at_ t.flat∧r.1=at_+t.flat.length
 |0,_,_,_,e=>by simp[iR] at e
 |f+1,at_,g,r,e=>by
  unfold iR at e
  cases hn:l[at_]? with
  |none=>rw[hn] at e;cases e
  |some n=>
   rw[hn] at e;simp only at e
   split at e
   ·rename_i hs;obtain⟨ts,u1,u2,u3,u4⟩:=uC (xP f) _ _ _ _ e;have:=(xg hs).1;rw[←u1] at this;exact⟨.mk n ts,by simp only[Tr.ok];exact⟨this,u2⟩,by simp only[Tr.flat];exact ga.cons hn u3,by rw[u4];simp only[Tr.flat,List.length_cons];omega⟩
   ·cases e
noncomputable def gL (l:List dI):Bool:=(decide (1≤l.length) &&decide (l.length≤480)) &&(match iR l 241 0 0 with|some r=>decide (r.1=l.length)|none=>false)
theorem rE {l:List dI} (h:gL l=true):∃t:Tr,t.ok∧t.flat=l:=by
 unfold gL at h;simp only[Bool.and_eq_true] at h;obtain⟨_,h⟩:=h
 split at h
 ·rename_i r hr;obtain⟨t,h1,⟨post,h2⟩,h3⟩:=xP _ _ _ _ hr;rw[decide_eq_true_eq] at h;refine⟨t,h1,?_⟩;rw[List.drop_zero] at h2;have h4:=congrArg List.length h2;rw[List.length_append] at h4;have h5:post=[]:=List.length_eq_zero_iff.1 (by omega);rw[h2,h5,List.append_nil]
 ·cases h
noncomputable def cP (l:List dI):Tr:=@dite _ (∃t:Tr,t.ok∧t.flat=l) (Classical.propDecidable _) (fun h=>Classical.choose h) (fun _=>.mk ⟨0,.nul,[],0,0,false,0,0⟩ .nil)
theorem vp {l:List dI} (h:gL l=true):(cP l).ok∧(cP l).flat=l:=by
 unfold cP;rw[dif_pos (rE h)];exact Classical.choose_spec (rE h)
theorem Is {n:dI} {k s:Nat}:min (bH n (min s 401) k) 401=min (bH n s k) 401:=by
 by_cases hs:s≤401
 ·rw[Nat.min_eq_left hs]
 ·have hx:min s 401=401:=by omega
  rw[hx];unfold bH
  split
  ·rfl
  ·split
   ·omega
   ·split
    ·omega
    ·split
     ·split
      ·omega
      ·by_cases h0:n.mn.toNat=0
       ·rw[h0]
        by_cases hd:n.mx.toNat-0=0
        ·rw[hd];simp
        ·have h1:=Nat.le_mul_of_pos_left (401+1) (show 0<n.mx.toNat-0 by omega);have h2:=Nat.le_mul_of_pos_left (s+1) (show 0<n.mx.toNat-0 by omega);omega
       ·have h1:=Nat.le_mul_of_pos_left 401 (show 0<n.mn.toNat by omega);have h2:=Nat.le_mul_of_pos_left s (show 0<n.mn.toNat by omega);omega
     ·omega
def eV (t:Tr) (b r:Nat):List aK:=de 4 0 0 []::(aO t (b+1)++[de 4 1 0 [],de 7 (r:Nat) 0 []])
theorem lZ {t:Tr} {b r:Nat} (h:t.ok):(eV t b r).length=t.sz+3:=by
 unfold eV;rw[List.length_cons,List.length_append,cG t _ h];rfl
structure tl where
 code:List aK
 aq:List Int
 e:Int
 w:Int
noncomputable def eX:List (List dI)→Nat→List aK→List Int→tl
 |[],_,c,s=>⟨c,s,0,0⟩
 |l::ls,r,c,s=>if gL l=false then⟨[],[],1,(r:Nat)⟩ else if 400<c.length+min (cP l).sz 401+3 then⟨[],[],12,(r:Nat)⟩ else eX ls (r+1) (c++eV (cP l) c.length r) (s++[((c.length:Nat):Int)])
noncomputable def bm (rules:List (List dI)):tl:=if 8<rules.length then⟨[],[],13,8⟩ else eX rules 0 [] []
def py (code:List aK) (aq:List Int):Pg:=⟨.sl ((code.map aT).map (j7 4)),code,EZ aq,aq⟩
def j9 (i:aK):Prop:=i.rd=.sl ((i.rs.map au).map (j7 2))∧i.rs.length≤1048576
theorem nE (op x y:Int):j9 (de op x y []):=⟨rfl,by simp[de]⟩
theorem LF (op x y:Int) {rs:List Rg} (h:rs.length≤1048576):j9 (de op x y rs):=⟨rfl,h⟩
theorem DR (s o:Nat) (lz:Bool):j9 (ox s o lz):=by unfold ox;split<;>exact nE _ _ _
theorem IJ (e:Nat):j9 (nK e):=nE _ _ _
theorem Aa {code:List aK} (h:∀i∈code,j9 i):∀e∈code.map aT,∀d∈e,ck d=true:=by
 intro e he d hd;obtain⟨q,hq,rfl⟩:=List.mem_map.1 he;have hr:=(h q hq).1;simp only[aT,hr,List.mem_cons,List.not_mem_nil,or_false] at hd
 rcases hd with rfl|rfl|rfl|rfl<;>rfl
theorem Ht (code:List aK):∀e∈code.map aT,e.length=4:=by
 intro e he;obtain⟨q,_,rfl⟩:=List.mem_map.1 he;rfl
theorem Ei {code:List aK} {aq:List Int} (h:∀i∈code,j9 i) (h1:code.length≤1048576) (h2:aq.length≤1048576):(py code aq).ok:=by
 refine⟨gd.frozen (Ht code) (Aa h),yg _,fun i hi=>?_,h1,h2⟩;obtain⟨h3,h4⟩:=h i hi;refine⟨?_,h4⟩;rw[h3];exact gd.frozen (oE _) (fY _)
theorem zp {c:Nat→List aK} {z:Nat} (hc:∀b,∀i∈c b,j9 i):∀k b,∀i∈fO c z k b,j9 i
 |0,b,i,hi=>by cases hi
 |k+1,b,i,hi=>by
  simp only[fO] at hi
  rcases List.mem_append.1 hi with hi|hi
  ·exact hc b i hi
  ·exact zp hc k _ i hi
theorem En {sp:Nat→aK} {c:Nat→List aK} {z:Nat} (hs:∀s,j9 (sp s)) (hc:∀b,∀i∈c b,j9 i):∀k b,∀i∈fx sp c z k b,j9 i
 |0,b,i,hi=>by cases hi
 |k+1,b,i,hi=>by
  simp only[fx] at hi
  rcases List.mem_cons.1 hi with rfl|hi
  ·exact hs _
  ·rcases List.mem_append.1 hi with hi|hi
   ·exact hc _ i hi
   ·exact En hs hc k _ i hi
mutual
theorem rb:∀(t:Tr) (b:Nat),(∀n∈t.flat,n.rs.length≤1048576)→∀i∈aO t b,j9 i
 | .mk n ks,b,h,i,hi=>by
  simp only[Tr.flat] at h;have hn:=h n (List.mem_cons_self ..);have hk:∀n∈ks.flat,n.rs.length≤1048576:=fun m hm=>h m (List.mem_cons_of_mem _ hm);have hc:=fun b=>Gc ks b hk;have ha:=fun jp (hj:j9 jp) b=>Gn jp hj ks b hk;simp only[aO] at hi
  split at hi
  ·simp only[List.mem_cons,List.not_mem_nil,or_false] at hi;subst hi;exact LF _ _ _ hn
  split at hi
  ·simp only[List.mem_cons,List.not_mem_nil,or_false] at hi;subst hi;exact nE _ _ _
  split at hi
  ·simp only[List.mem_cons,List.not_mem_nil,or_false] at hi;subst hi;exact nE _ _ _
  split at hi
  ·exact hc b i hi
  split at hi
  ·exact ha _ (IJ _) b i hi
  split at hi
  ·unfold oB at hi
   split at hi
   ·rcases List.mem_append.1 hi with hi|hi
    ·exact zp hc _ _ i hi
    ·rcases List.mem_cons.1 hi with rfl|hi
     ·exact DR _ _ _
     ·rcases List.mem_append.1 hi with hi|hi
      ·exact hc _ i hi
      ·simp only[List.mem_cons,List.not_mem_nil,or_false] at hi;subst hi;exact IJ _
   ·rcases List.mem_append.1 hi with hi|hi
    ·exact zp hc _ _ i hi
    ·exact En (fun s=>DR _ _ _) hc _ _ i hi
  split at hi
  ·rcases List.mem_cons.1 hi with rfl|hi
   ·exact nE _ _ _
   ·rcases List.mem_append.1 hi with hi|hi
    ·exact hc _ i hi
    ·simp only[List.mem_cons,List.not_mem_nil,or_false] at hi;subst hi;exact nE _ _ _
  ·cases hi
theorem Gc:∀(ts:bD) (b:Nat),(∀n∈ts.flat,n.rs.length≤1048576)→∀i∈gp ts b,j9 i
 | .nil,b,_,i,hi=>by simp[gp] at hi
 | .cons t ts,b,h,i,hi=>by
  simp only[bD.flat] at h;simp only[gp] at hi
  rcases List.mem_append.1 hi with hi|hi
  ·exact rb t b (fun n hn=>h n (List.mem_append_left _ hn)) i hi
  ·exact Gc ts _ (fun n hn=>h n (List.mem_append_right _ hn)) i hi
theorem Gn (jp:aK) (hj:j9 jp):∀(ts:bD) (b:Nat),(∀n∈ts.flat,n.rs.length≤1048576)→∀i∈eT jp ts b,j9 i
 | .nil,b,_,i,hi=>by simp[eT] at hi
 | .cons t ts,b,h,i,hi=>by
  simp only[bD.flat] at h;have h1:∀n∈t.flat,n.rs.length≤1048576:=fun n hn=>h n (List.mem_append_left _ hn);have h2:∀n∈ts.flat,n.rs.length≤1048576:=fun n hn=>h n (List.mem_append_right _ hn);simp only[eT] at hi
  split at hi
  ·exact rb t b h1 i hi
  ·rcases List.mem_cons.1 hi with rfl|hi
   ·exact DR _ _ _
   ·rcases List.mem_append.1 hi with hi|hi
    ·exact rb t _ h1 i hi
    ·rcases List.mem_cons.1 hi with rfl|hi
     ·exact hj
     ·exact Gn jp hj ts _ h2 i hi
end
theorem G3 {t:Tr} {b r:Nat} (h:∀n∈t.flat,n.rs.length≤1048576):∀i∈eV t b r,j9 i:=by
 intro i hi;unfold eV at hi
 rcases List.mem_cons.1 hi with rfl|hi
 ·exact nE _ _ _
 ·rcases List.mem_append.1 hi with hi|hi
  ·exact rb t _ h i hi
  ·simp only[List.mem_cons,List.not_mem_nil,or_false] at hi
   rcases hi with rfl|rfl
   ·exact nE _ _ _
   ·exact nE _ _ _
def oU (fr:Go.V.Fr) (k:Nat):Go.V.D:=Go.V.nth .bj fr.loc k
theorem Ee {s0:St} {n:dI} (hn:n.ok):Ev pv 249 [.agg (bf n)] s0 (.bool (vF n)) s0:=by
 refine Ev.ia rfl NF rfl rfl rfl ?_;refine zE ?_;obtain⟨aP,hF,hH⟩:=ri s0;generalize ae .ro s0=S at*;have CQ:=hn.1.arg s0.bs.length S;have Ac:=hn.2.1;refine zQ 2 ?_;refine qb hH fun k1 st o6 hH=>?_;dsimp only[u2,u1,u3,u4,setMany,u5,u6,D.cells,Nat.reduceAdd,bf] at hH;refine zQ 10 ?_;refine ak.kW 2 (.bool (((n.op==2)||((n.rs.length:Nat):Int)==0) &&((n.op==5)||((n.mn==0) &&(n.mx==0) &&!n.lz)) &&((n.op==6)||(n.cap==0)))) [] ?_ (fun ff tmp=>?_)
 ·refine zQ 4 ?_;refine aa.two 10 rfl (fun bk=>?_) (fun bk=>?_)
  ·refine zQ 8 ?_;refine aa.two 18 rfl (fun bR=>?_) (fun bR=>?_)
   ·refine zQ 20 ?_;refine aa.two 38 rfl (fun kH=>?_) (fun kH=>?_)
    ·refine zQ 6 ?_;refine aa.nil (aR ?_);refine zG ?_
     all_goals(simp[bk,bR,kH];done)
    ·refine zQ 6 ?_;refine aa.nil (aR ?_);refine zG ?_
     all_goals(simp[bk,bR,kH];done)
   ·refine zQ 4 ?_;refine aa.two 22 rfl (fun lL=>?_) (fun lL=>?_)
    ·refine zQ 3 ?_;refine aa.cQ (ai rfl rfl rfl bR) rfl lL (ab rfl _) ?_;refine zQ 1 ?_;refine aa.two 27 rfl (fun mU=>?_) (fun mU=>?_)
     ·refine zQ 3 ?_;refine aa.cQ (ai rfl rfl rfl bR) rfl mU (ab rfl _) ?_;refine zQ 3 ?_;refine aa.two 34 rfl (fun o8=>?_) (fun o8=>?_)
      ·refine zQ 4 ?_;refine aa.two 38 rfl (fun kH=>?_) (fun kH=>?_)
       ·refine zQ 3 ?_;refine aa.cQ (ai rfl rfl rfl o8) rfl kH (ab rfl _) ?_;refine zQ 2 ?_;refine aa.nil (aR ?_);refine zG ?_
        all_goals(simp[bk,bR,lL,mU,o8,kH];done)
       ·refine zQ 3 ?_;refine aa.cH (ai rfl rfl rfl o8) rfl kH (ab rfl _) ?_;refine zQ 2 ?_;refine aa.nil (aR ?_);refine zG ?_
        all_goals(simp[bk,bR,lL,mU,o8,kH];done)
      ·refine zQ 10 ?_;refine aa.nil (aR ?_);refine zG ?_
       all_goals(simp[bk,bR,lL,mU,o8];done)
     ·refine zQ 3 ?_;refine aa.cH (ai rfl rfl rfl bR) rfl mU (ab rfl _) ?_;refine zQ 13 ?_;refine aa.nil (aR ?_);refine zG ?_
      all_goals(simp[bk,bR,lL,mU];done)
    ·refine zQ 3 ?_;refine aa.cH (ai rfl rfl rfl bR) rfl lL (ab rfl _) ?_;refine zQ 18 ?_;refine aa.nil (aR ?_);refine zG ?_
     all_goals(simp[bk,bR,lL];done)
  ·refine zQ 2 ?_;refine qn ?_ (hg:=wi bk);simp only[List.length_map];refine zQ 3 ?_;refine aa.two 16 rfl (fun ec=>?_) (fun ec=>?_)
   ·refine zQ 2 ?_;refine aa.two 18 rfl (fun bR=>?_) (fun bR=>?_)
    ·refine zQ 13 ?_;refine aa.cQ (ai rfl rfl rfl ec) rfl bR (ab rfl _) ?_;refine zQ 6 ?_;refine aa.two 38 rfl (fun kH=>?_) (fun kH=>?_)
     ·refine zQ 6 ?_;refine aa.nil (aR ?_);refine zG ?_
      all_goals(simp[bk,ec,bR,kH];done)
     ·refine zQ 6 ?_;refine aa.nil (aR ?_);refine zG ?_
      all_goals(simp[bk,ec,bR,kH];done)
    ·refine zQ 4 ?_;refine aa.two 22 rfl (fun lL=>?_) (fun lL=>?_)
     ·refine zQ 3 ?_;refine aa.cQ (ai rfl rfl rfl bR) rfl lL (ab rfl _) ?_;refine zQ 1 ?_;refine aa.two 27 rfl (fun mU=>?_) (fun mU=>?_)
      ·refine zQ 3 ?_;refine aa.cQ (ai rfl rfl rfl bR) rfl mU (ab rfl _) ?_;refine aa.cH (ai rfl rfl rfl ec) rfl bR (ab rfl _) ?_;refine zQ 2 ?_;refine aa.two 34 rfl (fun o8=>?_) (fun o8=>?_)
       ·refine zQ 4 ?_;refine aa.two 38 rfl (fun kH=>?_) (fun kH=>?_)
        ·refine zQ 3 ?_;refine aa.cQ (ai rfl rfl rfl o8) rfl kH (ab rfl _) ?_;refine zQ 2 ?_;refine aa.nil (aR ?_);refine zG ?_
         all_goals(simp[bk,ec,bR,lL,mU,o8,kH];done)
        ·refine zQ 3 ?_;refine aa.cH (ai rfl rfl rfl o8) rfl kH (ab rfl _) ?_;refine zQ 2 ?_;refine aa.nil (aR ?_);refine zG ?_
         all_goals(simp[bk,ec,bR,lL,mU,o8,kH];done)
       ·refine zQ 10 ?_;refine aa.nil (aR ?_);refine zG ?_
        all_goals(simp[bk,ec,bR,lL,mU,o8];done)
      ·refine zQ 3 ?_;refine aa.cH (ai rfl rfl rfl bR) rfl mU (ab rfl _) ?_;refine aa.cH (ai rfl rfl rfl ec) rfl bR (ab rfl _) ?_;refine zQ 12 ?_;refine aa.nil (aR ?_);refine zG ?_
       all_goals(simp[bk,ec,bR,lL,mU];done)
     ·refine zQ 3 ?_;refine aa.cH (ai rfl rfl rfl bR) rfl lL (ab rfl _) ?_;refine zQ 5 ?_;refine aa.cH (ai rfl rfl rfl ec) rfl bR (ab rfl _) ?_;refine zQ 12 ?_;refine aa.nil (aR ?_);refine zG ?_
      all_goals(simp[bk,ec,bR,lL];done)
   ·refine zQ 28 ?_;refine aa.nil (aR ?_);refine zG ?_
    all_goals(simp[bk,ec];done)
 dsimp only[aF,List.foldl,nth,u2,u1];refine ak.ret ⟨rx,_,rfl,rl aP hH (rfl)⟩
theorem zh {s0:St} {n:dI} (hn:n.ok) {g:Nat} (hg:g≤1048576):Ev pv 221 [.agg (bf n),.int .i64 (g:Nat)] s0 (.tup [.int .i64 (fM n (g:Nat)).1,.bool (fM n (g:Nat)).2]) s0:=by
 refine Ev.ia rfl NO rfl rfl rfl ?_;refine zE ?_;obtain⟨aP,hF,hH⟩:=ri s0;generalize ae .ro s0=S at*;have CQ:=hn.1.arg s0.bs.length S;have Ac:=hn.2.1;refine zQ 2 ?_;refine qb hH fun k2 st hk2 hH=>?_;dsimp only[u2,u1,u3,u4,setMany,u5,u6,D.cells,Nat.reduceAdd,bf] at hH;refine zQ 6 ?_;refine aa.aL (m:=7) hH rfl (ev rfl) (by exact aN) (by dsimp only[List.drop_succ_cons,List.drop_zero,List.take_succ_cons,List.take_zero,bf]<;>rfl) rfl rfl (by dsimp only[Fr.put,u1,u2]<;>rfl) ?_;refine qv (Ee hn) ?_;refine zQ 2 ?_;unfold fM
 cases hp:vF n with
 |false=>
  rw[if_pos rfl];refine zQ 6 ?_;refine ak.ret ⟨rx,_,rfl,rl aP hH (rfl)⟩
 |true=>
  rw[if_neg (by simp)];refine zQ 15 ?_
  by_cases q1:n.op=1
  ·rw[if_pos (.inl q1)];refine qD rfl (by simp[q1]) ?_;refine zQ 1 ?_;refine qD rfl (by simp[q1]) ?_;refine zQ 8 ?_;refine ak.ret ⟨rx,_,rfl,rl aP hH (rfl)⟩
  refine qE rfl (by simp[q1]) ?_;refine zQ 5 ?_
  by_cases q7:n.op=7
  ·rw[if_pos (.inr (.inl q7))];refine qD rfl (by simp[q7]) ?_;refine zQ 1 ?_;refine qD rfl (by simp[q7]) ?_;refine zQ 8 ?_;refine ak.ret ⟨rx,_,rfl,rl aP hH (rfl)⟩
  refine qE rfl (by simp[q7]) ?_;refine zQ 4 ?_
  by_cases q8:n.op=8
  ·rw[if_pos (.inr (.inr q8))];refine qD rfl (by simp[q8]) ?_;refine zQ 8 ?_;refine ak.ret ⟨rx,_,rfl,rl aP hH (rfl)⟩
  refine qE rfl (by simp[q8]) ?_;rw[if_neg (by omega)];refine zQ 5 ?_;refine zI (fun q2=>?_) fun q2=>?_
  ·rw[if_pos q2];refine qq<|ak.KB [4,5] (fun ff=>ff 4=.int .i64 0∧ff 5=.bool ((n.kids==0) &&dO n.rs)) ?_ (fun ff tmp CW=>?_)
   ·refine zQ 4 ?_;refine aa.two 23 rfl (fun bk=>?_) (fun bk=>?_)
    ·refine zQ 2 ?_;refine qv (xw (CQ.rows hH) Ac) ?_ (hg:=wi bk);refine zQ 3 ?_;refine aa.nil (lG ?_ ?_)
     ·dsimp only[aF,List.foldl,nth,u2,u1]
     ·dsimp only[nth];refine zF ?_;refine⟨?_,?_⟩<;>(first|rfl|(simp[bk];done))
    ·refine zQ 6 ?_;refine aa.nil (lG ?_ ?_)
     ·dsimp only[aF,List.foldl,nth,u2,u1]
     ·dsimp only[nth];refine zF ?_;refine⟨?_,?_⟩<;>(first|rfl|(simp[bk];done))
   dsimp only[aF,List.foldl,nth,u2,u1];obtain⟨Fp,Fo⟩:=CW;rw[Fp,Fo];refine ak.ret ⟨rx,_,rfl,rl aP hH (rfl)⟩
  rw[if_neg q2];refine zQ 6 ?_
  by_cases q3:n.op=3
  ·rw[if_pos (.inl q3)];refine qD rfl (by simp[q3]) ?_;refine zQ 1 ?_;refine qD rfl (by simp[q3]) ?_;refine zQ 10 ?_;refine ak.ret ⟨rx,_,rfl,rl aP hH (rfl)⟩
  refine qE rfl (by simp[q3]) ?_;refine zQ 4 ?_
  by_cases q4:n.op=4
  ·rw[if_pos (.inr q4)];refine qD rfl (by simp[q4]) ?_;refine zQ 10 ?_;refine ak.ret ⟨rx,_,rfl,rl aP hH (rfl)⟩
  rw[if_neg (by omega)];refine qE rfl (by simp[q4]) ?_;refine zQ 5 ?_;refine zI (fun q5=>?_) fun q5=>?_
  ·rw[if_pos q5];refine qq<|ak.KB [4,5] (fun ff=>ff 4=.int .i64 1∧ff 5=.bool ((n.kids==1) &&decide (n.mn≥0) &&decide (n.mn≤30) &&((n.mx==-1)||(decide (n.mx≥n.mn) &&decide (n.mx≤30))))) ?_ (fun ff tmp CW=>?_)
   ·refine zQ 4 ?_;refine aa.two 41 rfl (fun bk=>?_) (fun bk=>?_)
    ·refine zQ 5 ?_;refine aa.two 46 rfl (fun gW=>?_) (fun gW=>?_)
     ·refine zQ 5 ?_;refine aa.two 51 rfl (fun d_=>?_) (fun d_=>?_)
      ·refine zQ 4 ?_;refine aa.two 55 rfl (fun bZ=>?_) (fun bZ=>?_)
       ·refine zQ 10 ?_;refine aa.cQ (ai rfl rfl rfl d_) rfl bZ (ab rfl _) ?_;refine zQ 3 ?_;refine aa.nil (lG ?_ ?_)
        ·dsimp only[aF,List.foldl,nth,u2,u1]
        ·dsimp only[nth];refine zF ?_;refine⟨?_,?_⟩<;>(first|rfl|(simp[bk,gW,d_,bZ];done))
       ·refine zQ 6 ?_;refine aa.two 61 rfl (fun Aj=>?_) (fun Aj=>?_)
        ·refine zQ 3 ?_;refine aa.cQ (ai rfl rfl rfl bZ) rfl Aj (ab rfl _) ?_;refine aa.cH (ai rfl rfl rfl d_) rfl bZ (ab rfl _) ?_;refine zQ 3 ?_;refine aa.nil (lG ?_ ?_)
         ·dsimp only[aF,List.foldl,nth,u2,u1]
         ·dsimp only[nth];refine zF ?_;refine⟨?_,?_⟩<;>(first|rfl|(simp[bk,gW,d_,bZ,Aj];done))
        ·refine zQ 3 ?_;refine aa.cH (ai rfl rfl rfl bZ) rfl Aj (ab rfl _) ?_;refine aa.cH (ai rfl rfl rfl d_) rfl bZ (ab rfl _) ?_;refine zQ 3 ?_;refine aa.nil (lG ?_ ?_)
         ·dsimp only[aF,List.foldl,nth,u2,u1]
         ·dsimp only[nth];refine zF ?_;refine⟨?_,?_⟩<;>(first|rfl|(simp[bk,gW,d_,bZ,Aj];done))
      ·refine zQ 18 ?_;refine aa.nil (lG ?_ ?_)
       ·dsimp only[aF,List.foldl,nth,u2,u1]
       ·dsimp only[nth];refine zF ?_;refine⟨?_,?_⟩<;>(first|rfl|(simp[bk,gW,d_];done))
     ·refine zQ 23 ?_;refine aa.nil (lG ?_ ?_)
      ·dsimp only[aF,List.foldl,nth,u2,u1]
      ·dsimp only[nth];refine zF ?_;refine⟨?_,?_⟩<;>(first|rfl|(simp[bk,gW];done))
    ·refine zQ 28 ?_;refine aa.nil (lG ?_ ?_)
     ·dsimp only[aF,List.foldl,nth,u2,u1]
     ·dsimp only[nth];refine zF ?_;refine⟨?_,?_⟩<;>(first|rfl|(simp[bk];done))
   dsimp only[aF,List.foldl,nth,u2,u1];obtain⟨Fp,Fo⟩:=CW;rw[Fp,Fo];refine ak.ret ⟨rx,_,rfl,rl aP hH (rfl)⟩
  rw[if_neg q5];refine zQ 5 ?_;refine zI (fun q6=>?_) fun q6=>?_
  ·rw[if_pos q6];refine qq<|ak.KB [4,5] (fun ff=>ff 4=.int .i64 1∧ff 5=.bool ((n.kids==1) &&(n.cap==((g+1:Nat):Int)) &&decide (n.cap≤4))) ?_ (fun ff tmp CW=>?_)
   ·refine zQ 4 ?_;refine aa.two 73 rfl (fun bk=>?_) (fun bk=>?_)
    ·refine zQ 7 ?_;refine aa.two 80 rfl (fun c7=>?_) (fun c7=>?_)
     ·refine zQ 6 ?_;refine aa.nil (lG ?_ ?_)
      ·dsimp only[aF,List.foldl,nth,u2,u1]
      ·dsimp only[nth];refine zF ?_;refine⟨?_,?_⟩<;>(first|rfl|(simp[bk,c7];done))
     ·refine zQ 6 ?_;refine aa.nil (lG ?_ ?_)
      ·dsimp only[aF,List.foldl,nth,u2,u1]
      ·dsimp only[nth];refine zF ?_;refine⟨?_,?_⟩<;>(first|rfl|(simp[bk,c7];done))
    ·refine zQ 13 ?_;refine aa.nil (lG ?_ ?_)
     ·dsimp only[aF,List.foldl,nth,u2,u1]
     ·dsimp only[nth];refine zF ?_;refine⟨?_,?_⟩<;>(first|rfl|(simp[bk];done))
   dsimp only[aF,List.foldl,nth,u2,u1];obtain⟨Fp,Fo⟩:=CW;rw[Fp,Fo];refine ak.ret ⟨rx,_,rfl,rl aP hH (rfl)⟩
  ·rw[if_neg q6];refine zQ 6 ?_;refine ak.ret ⟨rx,_,rfl,rl aP hH (rfl)⟩
theorem xU {n:dI} (h:n.ok):refs (bf n)=0:=by
 have:=h.1.ref;simp only[bf,refs,D.ref,this,Nat.max_self]
def pj (d:D) (at_ g:Nat):List D:=[d,.int .i64 (at_:Nat),.int .i64 (g:Nat)]
theorem Et {l:List dI} {d:D} (hl:l.length≤1048576) (hi:∀n∈l,n.ok) (hd:gd d 7 (l.map bf)):∀(f:Nat) {N k:Nat} {S s0:St} {H:List a_} {at_ g:Nat},f≤241→g≤4→Has N S s0 (.box k (.mem 0 false (pj d at_ g))::H)→
  ∃r ah,Ev pv 189 [.ptr k 0 0,.int .i64 ((241-f:Nat):Int)] s0 r ah∧r=.bool (iR l f at_ g).isSome∧∃a' g',Has N S ah (.box k (.mem 0 false (pj d a' g'))::H)∧g'≤4∧∀q,iR l f at_ g=some q→a'=q.1∧g'=q.2:=by
 intro f
 induction f with
 |zero=>
  intro N k S s0 H at_ g hf hg hH;refine Ev.gA rfl I6 rfl rfl rfl ?_;refine zE ?_;have bn:=hH;have hH:=hH.aW;have bh:(ae .rw s0).bs=s0.bs:=rfl;generalize ae .rw s0=S2 at*;have hc:=hd.arg N S2;refine zQ 6 ?_;refine ak.cY 21 (.bool (decide ((at_:Int)≥(l.length:Nat))||decide (((241-0:Nat):Int)>240))) [] ?_ (fun ff tmp cx=>?_)
  ·refine zQ 8 ?_;refine qn ?_;simp only[List.length_map];refine zQ 2 ?_;refine aa.two 18 rfl (fun c7=>?_) (fun c7=>?_)
   ·refine zQ 3 ?_;refine aa.nil (aJ ?_ ?_)
    ·dsimp only[aF,List.foldl,nth,u2,u1]
     all_goals(first|rfl|simp)
    ·refine zF ?_
     all_goals(simp[c7];done)
   ·refine zQ 3 ?_;refine aa.nil (aJ ?_ ?_)
    ·dsimp only[aF,List.foldl,nth,u2,u1]
     all_goals(first|rfl|simp)
    ·refine zF ?_
     all_goals(simp[c7];done)
  dsimp only[aF,List.foldl,nth,u2,u1];have hT:(decide ((at_:Int)≥(l.length:Nat))||decide (((241-0:Nat):Int)>240))=true:=by simp
  rw[hT] at cx;refine zQ 5 ?_;refine ak.ret ⟨rx,_,_,_,rfl,ag (rfl),?_⟩;exact⟨rfl,_,_,bn.aj bh hH,hg,fun q hq=>by simp[iR] at hq⟩
 |succ f ih=>
  intro N k S s0 H at_ g hf hg hH;refine Ev.gA rfl I6 rfl rfl rfl ?_;refine zE ?_;have bn:=hH;have hH:=hH.aW;have bh:(ae .rw s0).bs=s0.bs:=rfl;generalize ae .rw s0=S2 at*;have hc:=hd.arg N S2;refine zQ 6 ?_;refine ak.cY 21 (.bool (decide ((at_:Int)≥(l.length:Nat))||decide (((241-(f+1):Nat):Int)>240))) [] ?_ (fun ff tmp cx=>?_)
  ·refine zQ 8 ?_;refine qn ?_;simp only[List.length_map];refine zQ 2 ?_;refine aa.two 18 rfl (fun c7=>?_) (fun c7=>?_)
   ·refine zQ 3 ?_;refine aa.nil (aJ ?_ ?_)
    ·dsimp only[aF,List.foldl,nth,u2,u1]
     all_goals(first|rfl|simp)
    ·refine zF ?_
     all_goals(simp_all;done)
   ·refine zQ 3 ?_;refine aa.nil (aJ ?_ ?_)
    ·dsimp only[aF,List.foldl,nth,u2,u1]
     all_goals(first|rfl|simp)
    ·refine zF ?_
     all_goals(simp_all;omega)
  dsimp only[aF,List.foldl,nth,u2,u1]
  by_cases ha:l.length≤at_
  ·have hT:(decide ((at_:Int)≥(l.length:Nat))||decide (((241-(f+1):Nat):Int)>240))=true:=by
    rw[Bool.or_eq_true];exact .inl (by rw[decide_eq_true_eq];omega)
   rw[hT] at cx;have hn:iR l (f+1) at_ g=none:=by unfold iR;rw[List.getElem?_eq_none ha]
   rw[hn];refine zQ 5 ?_;refine ak.ret ⟨rx,_,_,_,rfl,ag (rfl),?_⟩;exact⟨rfl,_,_,bn.aj bh hH,hg,fun q hq=>by cases hq⟩
  ·have hT:(decide ((at_:Int)≥(l.length:Nat))||decide (((241-(f+1):Nat):Int)>240))=false:=by
    rw[Bool.or_eq_false_iff];exact⟨by rw[decide_eq_false_iff_not];omega,by rw[decide_eq_false_iff_not];omega⟩
   rw[hT] at cx
   obtain⟨n,hn⟩:∃n,l[at_]?=some n:=⟨l[at_]'(by omega),List.getElem?_eq_getElem _⟩
   have lb:=hi n (List.mem_of_getElem? hn);have gm:=l_ hn;have IP:=xU lb
   have kD:iR l (f+1) at_ g=if(fM n (g:Nat)).2=true then jX (iR l f) (fM n (g:Nat)).1.toNat (at_+1) (if n.op=6 then g+1 else g) else none:=by
    rw[iR,hn]
   rw[kD];clear kD;refine zQ 12 ?_;refine qr fun SR Mn=>?_;refine aa.cV rfl (ev rfl) (by assumption) rfl (ab rfl _) ?_;refine qa hH fun k5 st K' hH=>?_;dsimp only[u2,u1,u3,u4,setMany,u5,u6,D.cells,Nat.reduceAdd,pj,bf] at hH;refine aa.cM hH rfl (ev rfl) (ev rfl) (by rfl) (by exact rfl) (by exact aN) (by exact rfl) (by exact .inr (by assumption)) (fun st hH=>?_);dsimp only[u2,u1,u3,u4,setMany,u5,u6,D.cells,Nat.reduceAdd,pj,bf] at hH;refine zQ 3 ?_;refine aa.aL (m:=7) hH rfl (ev rfl) (by exact aN) (by dsimp only[List.drop_succ_cons,List.drop_zero,List.take_succ_cons,List.take_zero,pj,bf]<;>rfl) rfl rfl (ab rfl _) ?_;refine zQ 4 ?_;refine qv (zh lb (by omega)) ?_;refine zQ 12 ?_
   cases hsh:(fM n (g:Nat)).2 with
   |false=>
    rw[if_neg (by simp)];refine zQ 5 ?_;refine ak.ret ⟨rx,_,_,_,rfl,ag (rfl),?_⟩;exact⟨rfl,_,_,bn.aj bh (hH.drop 1),hg,fun q hq=>by cases hq⟩
   |true=>
    rw[if_pos rfl];obtain⟨⟨o6,_⟩,hk2,tG⟩:=xg hsh;have La:=lb.2.2;obtain⟨kd,K9⟩:∃kd:Nat,(fM n (g:Nat)).1=(kd:Int):=Int.eq_ofNat_of_zero_le hk2;rw[K9,Int.toNat_natCast];rw[K9,Int.toNat_natCast] at o6;refine zQ 11 ?_;refine qT hH bV fun st hH=>?_;dsimp only[u2,u1,u3,u4,setMany,u5,u6,D.cells,Nat.reduceAdd,pj,bf] at hH;refine zQ 8 ?_;refine ak.merge (fun fr st=>∃(g2:Nat) (tmp:List (Nat×D)),fr=⟨8,[.ptr k 0 0,.int .i64 ((241-(f+1):Nat):Int),oU fr 2,oU fr 3,.bool false,.ptr k5 0 0,.int .i64 (kd:Nat),.bool true],tmp⟩∧Has N S2 st (.box k (.mem 0 false [d,.int .i64 ((at_+1:Nat):Int),.int .i64 (g2:Nat)])::.box k5 (.mem 0 false (bf n))::H)∧(g2=if n.op=6 then g+1 else g)∧(g2≤4)) ?_ ?_
    ·refine zI (fun q6=>?_) fun q6=>?_
     ·have:=tG q6;refine zQ 8 ?_;refine qT hH bV fun st hH=>?_;dsimp only[u2,u1,u3,u4,setMany,u5,u6,D.cells,Nat.reduceAdd,pj,bf] at hH;refine zQ 1 ?_;exact⟨g+1,_,rfl,(by have:=hH.front bV;exact this),by rw[if_pos q6],by omega⟩
     ·refine zQ 1 ?_;exact⟨g,_,rfl,(by have:=hH.front bV;exact this),by rw[if_neg q6],hg⟩
    ·rintro fr st ⟨g2,tmp,hfr,hH,cu,bk⟩;rw[hfr];clear hfr;generalize oU fr=ee;clear fr;rw[←cu];refine zQ 2 ?_;refine ak.loop (fun mm fr st=>∃(kk a2 g4:Nat),fr.clean=⟨8,[.ptr k 0 0,.int .i64 ((241-(f+1):Nat):Int),oU fr 2,oU fr 3,.bool false,.ptr k5 0 0,.int .i64 (kk:Nat),.bool true],[]⟩∧Has N S2 st (.box k (.mem 0 false [d,.int .i64 (a2:Nat),.int .i64 (g4:Nat)])::.box k5 (.mem 0 false (bf n))::H)∧(jX (iR l f) kk a2 g4=jX (iR l f) kd (at_+1) g2)∧(g4≤4)∧(kk=mm)∧(kk≤9223372036854775807)) (kd) ?_ ?_
     ·exact⟨kd,at_+1,g2,rfl,hH,rfl,bk,rfl,by omega⟩
     rintro mm fr st ⟨kk,a2,g4,hfr,hH,hX,cK,K7,hkk⟩;rw[hfr];clear hfr;generalize oU fr=ee;clear fr;refine zQ 6 ?_
     cases kk with
     |zero=>
      refine ak.cond (v:=false) (by dsimp only[Fr.ev,Fr.get,nth,V.look];rfl) (fun h=>by cases h) (fun _=>?_);refine zQ 5 ?_;refine ak.ret ⟨rx,_,_,_,rfl,ag (rfl),?_⟩;exact⟨by rw[←hX];rfl,_,_,bn.aj bh (hH.erase 1),cK,fun q hq=>by rw[←hX] at hq;simp only[jX,Option.some.injEq] at hq;subst hq;exact⟨rfl,rfl⟩⟩
     |succ kk=>
      rw[jX] at hX;refine qD rfl (by simp) ?_;refine zQ 7 ?_;refine aa.eC (z:=((241-f:Nat):Int)) rfl (ev rfl) (ev rfl) (by rw[wrap_i64 (by omega) (by omega)]<;>omega) (ab rfl _) ?_;obtain⟨_,st,aB,rfl,a',g',hH,ju,hq⟩:=ih (at_:=a2) (g:=g4) (by omega) cK hH;refine qv aB ?_;refine zQ 2 ?_
      cases ho:iR l f a2 g4 with
      |none=>
       rw[ho] at hX;refine zQ 5 ?_;refine ak.ret ⟨rx,_,_,_,rfl,ag (rfl),?_⟩;exact⟨by rw[←hX];rfl,_,_,bn.aj bh (hH.erase 1),ju,fun q hq=>by rw[←hX] at hq;cases hq⟩
      |some q=>
       rw[ho] at hX;obtain⟨rfl,rfl⟩:=hq q ho;refine zQ 4 ?_;refine aa.eY (z:=((kk:Nat):Int)) rfl (ev rfl) (ev rfl) (by rw[wrap_i64 (by omega) (by omega)]<;>omega) (ab rfl _) ?_;refine zQ 2 ?_;exact⟨mm-1,by omega,⟨kk,q.1,q.2,rfl,hH,hX,ju,by omega,by omega⟩⟩
theorem Cv {s0:St} {x:Nl} (hx:x.ok):Ev pv 135 [x.d] s0 (.bool (gL x.l)) s0:=by
 refine Ev.ia rfl Ot rfl rfl rfl ?_;refine zE ?_;obtain⟨aP,hF,hH⟩:=ri s0;generalize ae .ro s0=S at*;have hc:=hx.c.arg s0.bs.length S;have hl:=hx.nl;have pK:=hx.c;refine zQ 6 ?_;refine ak.cY 11 (.bool (decide (((x.l.length:Nat):Int)<1)||decide (((x.l.length:Nat):Int)>480))) [] ?_ (fun ff tmp cx=>?_)
 ·refine qm ?_;refine qn ?_;simp only[List.length_map];refine zQ 2 ?_;refine aa.two 7 rfl (fun bk=>?_) (fun bk=>?_)
  ·refine zQ 4 ?_;refine aa.nil (aJ ?_ ?_)
   ·dsimp only[aF,List.foldl,nth,u2,u1]
    all_goals(first|rfl|simp)
   ·refine zF ?_
    all_goals(simp[bk];done)
  ·refine zQ 1 ?_;refine qn ?_ (hg:=wi bk);simp only[List.length_map];refine zQ 2 ?_;refine aa.nil (aJ ?_ ?_)
   ·dsimp only[aF,List.foldl,nth,u2,u1]
    all_goals(first|rfl|simp)
   ·refine zF ?_
    all_goals(simp[bk];done)
 dsimp only[aF,List.foldl,nth,u2,u1]
 by_cases hlen:1≤x.l.length∧x.l.length≤480
 ·have hT:(decide (((x.l.length:Nat):Int)<1)||decide (((x.l.length:Nat):Int)>480))=false:=by
   rw[Bool.or_eq_false_iff];exact⟨by rw[decide_eq_false_iff_not];omega,by rw[decide_eq_false_iff_not];omega⟩
  rw[hT] at cx
  have hR:gL x.l=(match iR x.l 241 0 0 with|some r=>decide (r.1=x.l.length)|none=>false):=by
   unfold gL;rw[decide_eq_true hlen.1,decide_eq_true hlen.2];rfl
  rw[hR];clear hR;refine zQ 5 ?_;refine aa.ij (qs:=[(0,_)]) rfl rfl rfl rfl ⟨rfl,(ev rfl),(by exact(gd.cells (by assumption)).1),trivial⟩ (by intro q hq;simp only[List.mem_cons,List.not_mem_nil,or_false] at hq;rcases hq with rfl<;>exact⟨rfl,by exact Nat.le_of_ble_eq_true rfl⟩) (by show List.foldl _ [_,_,_] _=_;dsimp only[List.foldl_cons,List.foldl_nil,u2,u1]<;>rfl) (ab rfl _) ?_;refine qb hH fun k14 st Kb hH=>?_;refine zQ 2 ?_;have hH:Has s0.bs.length S st (.box k14 (.mem 0 false (pj x.d 0 0))::[]):=hH
  cases cu:(iR x.l 241 0 0).isSome with
  |true=>
   obtain⟨q,hq⟩:=Option.isSome_iff_exists.1 cu;refine zQ 3 ?_;obtain⟨_,st,aB,rfl,a',g',hH,ju,Td⟩:=Et hl hx.i hx.c 241 (by omega) (by omega) hH;refine qv aB ?_;refine zQ 6 ?_;refine qn ?_ (hg:=wi cu);simp only[List.length_map];refine zQ 4 ?_;obtain⟨rfl,rfl⟩:=Td q hq;rw[hq]
   have he:decide (q.1=x.l.length)=(((q.1:Nat):Int)==((x.l.length:Nat):Int)):=by
    rw[Bool.eq_iff_iff];simp only[decide_eq_true_eq,beq_iff_eq];omega
   simp only[he];refine ak.ret ⟨rx,_,rfl,rl aP hH (rfl)⟩
  |false=>
   have hq:iR x.l 241 0 0=none:=by
    cases hq:iR x.l 241 0 0 with
    |none=>rfl
    |some q=>rw[hq] at cu;cases cu
   refine zQ 3 ?_;obtain⟨_,st,aB,rfl,a',g',hH,ju,Td⟩:=Et hl hx.i hx.c 241 (by omega) (by omega) hH;refine qv aB ?_;refine zQ 11 ?_;rw[hq];refine ak.ret ⟨rx,_,rfl,rl aP hH (rfl)⟩
 ·have hT:(decide (((x.l.length:Nat):Int)<1)||decide (((x.l.length:Nat):Int)>480))=true:=by
   rw[Bool.or_eq_true,decide_eq_true_eq,decide_eq_true_eq];omega
  rw[hT] at cx
  have hR:gL x.l=false:=by
   unfold gL
   by_cases h1:1≤x.l.length
   ·rw[decide_eq_true h1,decide_eq_false (fun h2=>hlen ⟨h1,h2⟩)];rfl
   ·rw[decide_eq_false h1];rfl
  rw[hR];refine zQ 5 ?_;refine ak.ret ⟨rx,_,rfl,rl aP hH (rfl)⟩
end Go.Proofs.YtecjacicdpejaaaGreat
