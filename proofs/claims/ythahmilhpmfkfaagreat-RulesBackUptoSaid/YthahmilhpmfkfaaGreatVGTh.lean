/-
 The parser of patterns, told exactly: one thing; how often it stands.
-/
import Derived.Test.YthahmilhpmfkfaaGreatVHr
import Derived.Test.YthahmilhpmfkfaaGreatVGEa
import Derived.Test.YthahmilhpmfkfaaGreatVGQa
import Derived.Test.YthahmilhpmfkfaaGreatVGEj
import Derived.Test.YthahmilhpmfkfaaGreatVGEd
import Derived.Test.YthahmilhpmfkfaaGreatVGQe
set_option maxRecDepth 100000
set_option maxHeartbeats 4000000
set_option linter.unusedSimpArgs false
set_option linter.unusedVariables false
namespace Go.Proofs.YthahmilhpmfkfaaGreat
open Go.V Go
def AG (fr:Go.V.Fr) (k:Nat):Go.V.D:=Go.V.nth .bf fr.loc k
noncomputable def P3 (r:Int):List Rg:=cm [(r,r)]
noncomputable def Kh (A:PF) (gs:List (Nat×Nat)) (m i g:Nat) (r:Int):PR (List bp×Nat):=
 if r=40 then wY A gs m i g
 else if r=91 then Bb gs i g
 else if r=92 then
  match mI gs i with
  | .er e w=>.er e w
  | .ok (a,_) j=>.ok ([Bc a],g) j
 else if r=46 then .ok ([Bc D5],g) (i+1)
 else if r=94 then .ok ([jM 7 0 0 false 0 0 []],g) (i+1)
 else if r=36 then .ok ([jM 8 0 0 false 0 0 []],g) (i+1)
 else if r=42∨r=43∨r=63∨r=41∨r=93∨r=123∨r=125∨r=124 then .er 4 i
 else .ok ([Bc (P3 r)],g) (i+1)
noncomputable def CJ (A:PF) (gs:List (Nat×Nat)) (m i g:Nat):PR (List bp×Nat):=
 match gs[i]? with
 |none=>.er 4 i
 |some q=>if Ei gs i=true then .er 4 i else Kh A gs m i g ((q.1:Nat):Int)
def xV (gs:List (Nat×Nat)) (l:List bp) (g:Nat) (mn mx:Int) (j:Nat):PR (List bp×Nat):=
 .ok (jM 5 mn mx (eR gs j 63) 0 1 []::l,g) (if eR gs j 63=true then j+1 else j)
noncomputable def MJ (gs:List (Nat×Nat)) (l:List bp) (g j:Nat):PR (List bp×Nat):=
 if eR gs j 42=true then xV gs l g 0 (-1) (j+1)
 else if eR gs j 43=true then xV gs l g 1 (-1) (j+1)
 else if eR gs j 63=true then xV gs l g 0 1 (j+1)
 else if eR gs j 123=true then
  match sf gs j with
  | .er e w=>.er e w
  | .ok (mn,mx) j2=>xV gs l g mn mx j2
 else .ok (l,g) j
noncomputable def H9 (A:PF) (gs:List (Nat×Nat)) (m i g:Nat):PR (List bp×Nat):=
 match CJ A gs m i g with
 | .er e w=>.er e w
 | .ok (l,g1) j=>MJ gs l g1 j
theorem Hn {m:Nat} {gs:List (Nat×Nat)} {A:PF} (hA:∀m',m'+1=m→Bn A gs m') {N k:Nat} {S s0:St} {H:List aZ} {bB:D} {a_:List Int} {s:eA} (cn:lS gs a_) (he:s.e=0) (hi:s.i<gs.length) (hg:s.g≤4) (ho:s.o+m=20) (hH:Has N S s0 (.box k (.mem 0 false (aP gs bB s))::.aB bB 1 (a_.map ay)::H)):
  ∃d ah,Ev pv 86 [.ptr k 0 0] s0 d ah∧∃(s':eA),jU gs a_ (CJ A gs m s.i s.g) s s' d 2∧Has N S ah (.box k (.mem 0 false (aP gs bB s'))::.aB bB 1 (a_.map ay)::H):=by
 have tU:=cn.gl;have lg:=cn.pl;refine Ev.jN rfl Sd rfl rfl rfl ?_;refine zE ?_;have bS:=hH;have hH:=hH.bG;have bO:(ag .rw s0).bs=s0.bs:=rfl;generalize ag .rw s0=S2 at*;have zy:Arg N S2 2 (iq gs) (gs.map bq):=Arg.pure (fun st=>eT st gs)
 obtain⟨g,Uj⟩:∃g,gs[s.i]?=some g:=⟨gs[s.i]'hi,List.getElem?_eq_getElem _⟩
 have gr:(gs.map bq)[s.i]?=some (bq g):=by rw[List.getElem?_map,Uj];rfl
 obtain⟨R,hR⟩:∃R,CJ A gs m s.i s.g=R:=⟨_,rfl⟩
 rw[hR];unfold CJ at hR;rw[Uj] at hR;simp only at hR
 have hwr:∀(st:St),R=.er 4 s.i→Has N S2 st (.box k (.mem 0 false (aP gs bB s))::.aB bB 1 (a_.map ay)::H)→∃d ah,Ev pv 43 [.ptr k 0 0,.int .i64 (s.i:Nat),.int .i64 4] st d ah∧d=.sl []∧∃s4,jU gs a_ R s s4 (.sl []) 2∧Has N S2 ah (.box k (.mem 0 false (aP gs bB s4))::.aB bB 1 (a_.map ay)::H):=by
  intro st hv hH;obtain⟨d,ah,aC,h6,hH⟩:=eI (s:=s) s.i 4 (by omega) hH;obtain⟨w1,w2,w3,w4⟩:=g_ (a_:=a_) (s:=s) (i:=s.i) (e:=4) he (by decide) hv;exact⟨d,ah,aC,h6,_,fL w3 (by omega) (by omega) (by omega) w1,hH⟩
 have kH:∀(st:St) (s1:eA) (op:Int) (w:D) (a:List Rg) (kk:Nat),(w=aQ a∨w=.nul∧a=[])→a.length≤1048576→s1.o=s.o→s1.g≤4→s.i<s1.i→s1.i≤gs.length→s1.e=0→R=.ok ([jM op 0 0 false 0 0 a],s1.g) s1.i→S2.bs.length≤kk→Has N S2 st (.aB (.win kk 0 0 1 7) 7 [[.int .i64 op,w,.int .i64 0,.int .i64 0,.bool false,.int .i64 0,.int .i64 0]]::.box k (.mem 0 false (aP gs bB s1))::.aB bB 1 (a_.map ay)::H)→
   ∃d ah,c8 .rw false s0 st (.win kk 0 0 1 7)=some (d,ah)∧∃(s':eA),jU gs a_ R s s' d 2∧Has N S ah (.box k (.mem 0 false (aP gs bB s'))::.aB bB 1 (a_.map ay)::H):=by
  intro st s1 op w a kk hw ha h1 h2 h3 h4 he1 hv hk hH;have hfz:=jA hH aG (L:=s0.bs.length) hw (fun k hk=>by simp only[D.ref] at hk;rw[←bO];omega);refine⟨_,_,ak hfz,s1,⟨h1,h2,by omega,h4,_,rfl,FO ha (by omega),by simp,?_⟩,bS.aq bO (hH.drop 1)⟩;exact .inr ⟨he1,hv,by simp only[List.length_cons,List.length_nil];omega⟩
 refine zQ 17 ?_;obtain⟨_,st,aC,rfl,hH⟩:=Bh (s:=s) s.i hi hH;refine qv aC ?_;refine zQ 1 ?_;refine qc (fun hb=>?_) (fun hb=>?_)<;>try simp only[cs] at hb
 ·rw[if_pos hb] at hR;refine zQ 4 ?_;obtain⟨_,st,aC,rfl,s4,hN,hH⟩:=hwr _ hR.symm hH;refine qv aC ?_;refine zQ 2 ?_;refine ai.ret ⟨rx,_,_,_,rfl,ak (rfl),?_⟩;exact⟨s4,hN,bS.aq bO hH⟩
 rw[if_neg (by rw[hb];simp)] at hR;unfold Kh at hR;refine zQ 8 ?_;refine qr fun TT Nw=>?_;refine qf (fo:=0) fun MQ Gh=>?_;refine zQ 13 ?_;refine zI (fun PS=>?_) fun PS=>?_
 ·rw[if_pos PS] at hR;refine zQ 3 ?_;obtain⟨_,st,aC,s4,⟨p1,p2,p3,p4,l,rfl,p5,p6,p7⟩,hH⟩:=DW hA cn he hi hg ho hH;refine qv aC ?_;refine zQ 2 ?_;rw[hR] at p7;refine ai.ret ⟨rx,_,_,_,rfl,ak (rfl),?_⟩;exact⟨s4,⟨p1,p2,p3,p4,l,rfl,p5,p6,p7⟩,bS.aq bO hH⟩
 rw[if_neg PS] at hR;refine zQ 5 ?_;refine zI (fun Ic=>?_) fun Ic=>?_
 ·rw[if_pos Ic] at hR;refine zQ 3 ?_;obtain⟨_,st,aC,s4,⟨p1,p2,p3,p4,l,rfl,p5,p6,p7⟩,hH⟩:=Ec cn he hi hg hH;refine qv aC ?_;refine zQ 2 ?_;rw[hR] at p7;refine ai.ret ⟨rx,_,_,_,rfl,ak (rfl),?_⟩;exact⟨s4,⟨p1,p2,p3,p4,l,rfl,p5,p6,p7⟩,bS.aq bO hH⟩
 rw[if_neg Ic] at hR;refine zQ 5 ?_;refine zI (fun PN=>?_) fun PN=>?_
 ·rw[if_pos PN] at hR;refine zQ 3 ?_;obtain⟨_,st,aC,d1,b,s4,rfl,⟨p1,p2,p3,p4,p5⟩,hH⟩:=xB (s:=s) cn he hi hH;refine qv aC ?_;refine zQ 6 ?_
  have DS:∀(st:St) (w:D) (a:List Rg) (kk:Nat),(w=aQ a∨w=.nul∧a=[])→a.length≤8→(eO R a_ s4∨s4.e=0∧s.i<s4.i∧R=.ok ([Bc a],s4.g) s4.i)→S2.bs.length≤kk→Has N S2 st (.aB (.win kk 0 0 1 7) 7 [[.int .i64 2,w,.int .i64 0,.int .i64 0,.bool false,.int .i64 0,.int .i64 0]]::.box k (.mem 0 false (aP gs bB s4))::.aB bB 1 (a_.map ay)::H)→∃d ah,c8 .rw false s0 st (.win kk 0 0 1 7)=some (d,ah)∧∃(s':eA),jU gs a_ R s s' d 2∧Has N S ah (.box k (.mem 0 false (aP gs bB s'))::.aB bB 1 (a_.map ay)::H):=by
   intro st w a kk hw ha p6 hk hH;have hfz:=jA hH aG (L:=s0.bs.length) hw (fun k hk=>by simp only[D.ref] at hk;rw[←bO];omega);refine⟨_,_,ak hfz,s4,⟨p1,by omega,by omega,p4,_,rfl,FO (by omega) (by omega),by simp,?_⟩,bS.aq bO (hH.drop 1)⟩
   rcases p6 with p6|⟨p6,p7,p8⟩
   ·exact .inl p6
   ·exact .inr ⟨p6,p8,by simp only[List.length_cons,List.length_nil];omega⟩
  rcases p5 with⟨p5,rfl⟩|⟨p5,p6,a,p7,rfl,ha,_⟩
  ·refine zQ 3 ?_;refine ae.iC (qs:=[(0,_),(1,_)]) rfl rfl rfl rfl ⟨rfl,(ev rfl),(by rfl),rfl,(ev rfl),(by rfl),trivial⟩ (by intro q hq;simp only[List.mem_cons,List.not_mem_nil,or_false] at hq;rcases hq with rfl|rfl<;>exact⟨rfl,by exact Nat.le_of_ble_eq_true rfl⟩) (by show List.foldl _ [_,_,_,_,_,_,_] _=_;dsimp only[List.foldl_cons,List.foldl_nil,u2,u1]<;>rfl) (aa rfl _) ?_;refine qh (s:=7) (vs:=[_]) hH fun k54 st DP hH=>?_;dsimp only[u2,u1,u3,u4,setMany,u5,u6,D.cells,Nat.reduceAdd,aP,bq,ay,av,aH] at hH;refine zQ 2 ?_;obtain⟨d',ah,wQ,ef⟩:=DS _ .nul [] k54 (.inr ⟨rfl,rfl⟩) (by simp) (.inl (p5.map fun e w h=>by rw[←hR,h])) DP hH;refine ai.ret ⟨rx,_,d',ah,rfl,wQ,ef⟩
  ·refine zQ 3 ?_;refine ae.iC (qs:=[(0,_),(1,_)]) rfl rfl rfl rfl ⟨rfl,(ev rfl),(by rfl),rfl,(ev rfl),(by rfl),trivial⟩ (by intro q hq;simp only[List.mem_cons,List.not_mem_nil,or_false] at hq;rcases hq with rfl|rfl<;>exact⟨rfl,by exact Nat.le_of_ble_eq_true rfl⟩) (by show List.foldl _ [_,_,_,_,_,_,_] _=_;dsimp only[List.foldl_cons,List.foldl_nil,u2,u1]<;>rfl) (aa rfl _) ?_;refine qh (s:=7) (vs:=[_]) hH fun k54 st DP hH=>?_;dsimp only[u2,u1,u3,u4,setMany,u5,u6,D.cells,Nat.reduceAdd,aP,bq,ay,av,aH] at hH;refine zQ 2 ?_;obtain⟨d',ah,wQ,ef⟩:=DS _ (aQ a) a k54 (.inl rfl) ha (.inr ⟨p5,p6,by rw[←hR,p7,p2]⟩) DP hH;refine ai.ret ⟨rx,_,d',ah,rfl,wQ,ef⟩
 rw[if_neg PN] at hR;refine zQ 5 ?_;refine zI (fun PQ=>?_) fun PQ=>?_
 ·rw[if_pos PQ] at hR;refine zQ 9 ?_;refine qT hH aG fun st hH=>?_;dsimp only[u2,u1,u3,u4,setMany,u5,u6,D.cells,Nat.reduceAdd,aP,bq,ay,av,aH] at hH;refine zQ 1 ?_;obtain⟨RH,hla⟩:=Jo (s0:=st);refine zQ 2 ?_;refine qv (RH) ?_;refine ae.iC (qs:=[(0,_),(1,_)]) rfl rfl rfl rfl ⟨rfl,(ev rfl),(by rfl),rfl,(ev rfl),(by rfl),trivial⟩ (by intro q hq;simp only[List.mem_cons,List.not_mem_nil,or_false] at hq;rcases hq with rfl|rfl<;>exact⟨rfl,by exact Nat.le_of_ble_eq_true rfl⟩) (by show List.foldl _ [_,_,_,_,_,_,_] _=_;dsimp only[List.foldl_cons,List.foldl_nil,u2,u1]<;>rfl) (aa rfl _) ?_;refine qh (s:=7) (vs:=[_]) hH fun k66 st Ri hH=>?_;refine zQ 2 ?_;obtain⟨d',ah,wQ,ef⟩:=kH _ {s with i:=s.i+1} 2 (aQ D5) D5 k66 (.inl rfl) (by omega) rfl hg (by show s.i<s.i+1;omega) (by show s.i+1≤_;omega) he hR.symm Ri hH;refine ai.ret ⟨rx,_,d',ah,rfl,wQ,ef⟩
 rw[if_neg PQ] at hR;refine zQ 5 ?_;refine zI (fun PM=>?_) fun PM=>?_
 ·rw[if_pos PM] at hR;refine zQ 9 ?_;refine qT hH aG fun st hH=>?_;dsimp only[u2,u1,u3,u4,setMany,u5,u6,D.cells,Nat.reduceAdd,aP,bq,ay,av,aH] at hH;refine zQ 3 ?_;refine ae.go (d:=.agg [.int .i64 7,.nul,.int .i64 0,.int .i64 0,.bool false,.int .i64 0,.int .i64 0]) (st1:=_) rfl rfl rfl (aa rfl _) ?_;refine qh (s:=7) (vs:=[_]) hH fun k77 st Rh hH=>?_;refine zQ 2 ?_;obtain⟨d',ah,wQ,ef⟩:=kH _ {s with i:=s.i+1} 7 .nul [] k77 (.inr ⟨rfl,rfl⟩) (by simp) rfl hg (by show s.i<s.i+1;omega) (by show s.i+1≤_;omega) he hR.symm Rh hH;refine ai.ret ⟨rx,_,d',ah,rfl,wQ,ef⟩
 rw[if_neg PM] at hR;refine zQ 5 ?_;refine zI (fun PT=>?_) fun PT=>?_
 ·rw[if_pos PT] at hR;refine zQ 9 ?_;refine qT hH aG fun st hH=>?_;dsimp only[u2,u1,u3,u4,setMany,u5,u6,D.cells,Nat.reduceAdd,aP,bq,ay,av,aH] at hH;refine zQ 3 ?_;refine ae.go (d:=.agg [.int .i64 8,.nul,.int .i64 0,.int .i64 0,.bool false,.int .i64 0,.int .i64 0]) (st1:=_) rfl rfl rfl (aa rfl _) ?_;refine qh (s:=7) (vs:=[_]) hH fun k88 st NX hH=>?_;refine zQ 2 ?_;obtain⟨d',ah,wQ,ef⟩:=kH _ {s with i:=s.i+1} 8 .nul [] k88 (.inr ⟨rfl,rfl⟩) (by simp) rfl hg (by show s.i<s.i+1;omega) (by show s.i+1≤_;omega) he hR.symm NX hH;refine ai.ret ⟨rx,_,d',ah,rfl,wQ,ef⟩
 rw[if_neg PT] at hR;have yX:((((g.1:Nat):Int))=42∨(((g.1:Nat):Int))=43∨(((g.1:Nat):Int))=63∨(((g.1:Nat):Int))=41∨(((g.1:Nat):Int))=93∨(((g.1:Nat):Int))=123∨(((g.1:Nat):Int))=125∨(((g.1:Nat):Int))=124)→R=.er 4 s.i:=fun h=>by rw[←hR,if_pos h]
 refine zQ 6 ?_
 by_cases Ty:((g.1:Nat):Int)=42
 ·refine qD rfl (by simp[Ty]) ?_;refine zQ 1 ?_;refine qD rfl (by simp[Ty]) ?_;refine zQ 4 ?_;obtain⟨_,st,aC,rfl,s4,hN,hH⟩:=hwr _ (yX (by omega)) hH;refine qv aC ?_;refine zQ 2 ?_;refine ai.ret ⟨rx,_,_,_,rfl,ak (rfl),?_⟩;exact⟨s4,hN,bS.aq bO hH⟩
 refine qE rfl (by simp[Ty]) ?_;refine zQ 5 ?_
 by_cases Tx:((g.1:Nat):Int)=43
 ·refine qD rfl (by simp[Tx]) ?_;refine zQ 1 ?_;refine qD rfl (by simp[Tx]) ?_;refine zQ 4 ?_;obtain⟨_,st,aC,rfl,s4,hN,hH⟩:=hwr _ (yX (by omega)) hH;refine qv aC ?_;refine zQ 2 ?_;refine ai.ret ⟨rx,_,_,_,rfl,ak (rfl),?_⟩;exact⟨s4,hN,bS.aq bO hH⟩
 refine qE rfl (by simp[Tx]) ?_;refine zQ 5 ?_
 by_cases Tw:((g.1:Nat):Int)=63
 ·refine qD rfl (by simp[Tw]) ?_;refine zQ 1 ?_;refine qD rfl (by simp[Tw]) ?_;refine zQ 4 ?_;obtain⟨_,st,aC,rfl,s4,hN,hH⟩:=hwr _ (yX (by omega)) hH;refine qv aC ?_;refine zQ 2 ?_;refine ai.ret ⟨rx,_,_,_,rfl,ak (rfl),?_⟩;exact⟨s4,hN,bS.aq bO hH⟩
 refine qE rfl (by simp[Tw]) ?_;refine zQ 5 ?_
 by_cases Tz:((g.1:Nat):Int)=41
 ·refine qD rfl (by simp[Tz]) ?_;refine zQ 1 ?_;refine qD rfl (by simp[Tz]) ?_;refine zQ 4 ?_;obtain⟨_,st,aC,rfl,s4,hN,hH⟩:=hwr _ (yX (by omega)) hH;refine qv aC ?_;refine zQ 2 ?_;refine ai.ret ⟨rx,_,_,_,rfl,ak (rfl),?_⟩;exact⟨s4,hN,bS.aq bO hH⟩
 refine qE rfl (by simp[Tz]) ?_;refine zQ 5 ?_
 by_cases Tu:((g.1:Nat):Int)=93
 ·refine qD rfl (by simp[Tu]) ?_;refine zQ 1 ?_;refine qD rfl (by simp[Tu]) ?_;refine zQ 4 ?_;obtain⟨_,st,aC,rfl,s4,hN,hH⟩:=hwr _ (yX (by omega)) hH;refine qv aC ?_;refine zQ 2 ?_;refine ai.ret ⟨rx,_,_,_,rfl,ak (rfl),?_⟩;exact⟨s4,hN,bS.aq bO hH⟩
 refine qE rfl (by simp[Tu]) ?_;refine zQ 5 ?_
 by_cases L3:((g.1:Nat):Int)=123
 ·refine qD rfl (by simp[L3]) ?_;refine zQ 1 ?_;refine qD rfl (by simp[L3]) ?_;refine zQ 4 ?_;obtain⟨_,st,aC,rfl,s4,hN,hH⟩:=hwr _ (yX (by omega)) hH;refine qv aC ?_;refine zQ 2 ?_;refine ai.ret ⟨rx,_,_,_,rfl,ak (rfl),?_⟩;exact⟨s4,hN,bS.aq bO hH⟩
 refine qE rfl (by simp[L3]) ?_;refine zQ 5 ?_
 by_cases L2:((g.1:Nat):Int)=125
 ·refine qD rfl (by simp[L2]) ?_;refine zQ 1 ?_;refine qD rfl (by simp[L2]) ?_;refine zQ 4 ?_;obtain⟨_,st,aC,rfl,s4,hN,hH⟩:=hwr _ (yX (by omega)) hH;refine qv aC ?_;refine zQ 2 ?_;refine ai.ret ⟨rx,_,_,_,rfl,ak (rfl),?_⟩;exact⟨s4,hN,bS.aq bO hH⟩
 refine qE rfl (by simp[L2]) ?_;refine zQ 4 ?_
 by_cases OS:((g.1:Nat):Int)=124
 ·refine qD rfl (by simp[OS]) ?_;refine zQ 4 ?_;obtain⟨_,st,aC,rfl,s4,hN,hH⟩:=hwr _ (yX (by omega)) hH;refine qv aC ?_;refine zQ 2 ?_;refine ai.ret ⟨rx,_,_,_,rfl,ak (rfl),?_⟩;exact⟨s4,hN,bS.aq bO hH⟩
 refine qE rfl (by simp[OS]) ?_;rw[if_neg (by omega)] at hR;refine zQ 9 ?_;refine qT hH aG fun st hH=>?_;dsimp only[u2,u1,u3,u4,setMany,u5,u6,D.cells,Nat.reduceAdd,aP,bq,ay,av,aH] at hH;refine zQ 1 ?_;obtain⟨_,oB,_⟩:=nT (s0:=s0) (x:=aQ [(((g.1:Nat):Int),((g.1:Nat):Int))]) (l:=[(((g.1:Nat):Int),((g.1:Nat):Int))]) (cE _ _) (by simp);simp only[List.length_cons,List.length_nil] at oB;refine zQ 3 ?_;refine qv (jZ _) ?_;refine ae.iC (qs:=[(0,_),(1,_)]) rfl rfl rfl rfl ⟨rfl,(ev rfl),(by rfl),rfl,(ev rfl),(by rfl),trivial⟩ (by intro q hq;simp only[List.mem_cons,List.not_mem_nil,or_false] at hq;rcases hq with rfl|rfl<;>exact⟨rfl,by exact Nat.le_of_ble_eq_true rfl⟩) (by show List.foldl _ [_,_,_,_,_,_,_] _=_;dsimp only[List.foldl_cons,List.foldl_nil,u2,u1]<;>rfl) (aa rfl _) ?_;refine qh (s:=7) (vs:=[_]) hH fun k36 st N0 hH=>?_;refine zQ 2 ?_;obtain⟨d',ah,wQ,ef⟩:=kH _ {s with i:=s.i+1} 2 _ (cm [(((g.1:Nat):Int),((g.1:Nat):Int))]) k36 (.inl rfl) (by omega) rfl hg (by show s.i<s.i+1;omega) (by show s.i+1≤_;omega) he hR.symm N0 hH;refine ai.ret ⟨rx,_,d',ah,rfl,wQ,ef⟩
theorem BM {m:Nat} {gs:List (Nat×Nat)} {A:PF} (hA:∀m',m'+1=m→Bn A gs m') {N k:Nat} {S s0:St} {H:List aZ} {bB:D} {a_:List Int} {s:eA} (cn:lS gs a_) (he:s.e=0) (hi:s.i<gs.length) (hg:s.g≤4) (ho:s.o+m=20) (hH:Has N S s0 (.box k (.mem 0 false (aP gs bB s))::.aB bB 1 (a_.map ay)::H)):
  ∃d ah,Ev pv 74 [.ptr k 0 0] s0 d ah∧∃(s':eA),jU gs a_ (H9 A gs m s.i s.g) s s' d 1∧Has N S ah (.box k (.mem 0 false (aP gs bB s'))::.aB bB 1 (a_.map ay)::H):=by
 have tU:=cn.gl;have lg:=cn.pl;refine Ev.jN rfl Sp rfl rfl rfl ?_;refine zE ?_;have bS:=hH;have hH:=hH.bG;have bO:(ag .rw s0).bs=s0.bs:=rfl;generalize ag .rw s0=S2 at*
 obtain⟨R,hR⟩:∃R,H9 A gs m s.i s.g=R:=⟨_,rfl⟩
 rw[hR];unfold H9 at hR;refine zQ 7 ?_;obtain⟨_,st,aC,s1,⟨p1,p2,p3,p4,l,rfl,p5,p6,p7⟩,hH⟩:=Hn hA cn he hi hg ho hH;refine qv aC ?_;refine zQ 11 ?_
 rcases p7 with p7|⟨p7,p9,p8⟩
 ·have hne:=p7.ne;refine qD rfl (by simp[hne]) ?_;refine zQ 4 ?_;refine ai.ret ⟨rx,_,_,_,rfl,ak (rfl),?_⟩;exact⟨s1,fL p1 p2 p3 p4 (p7.map fun e w h=>by rw[←hR,h]),bS.aq bO hH⟩
 rw[p9] at hR;simp only at hR;unfold MJ at hR;refine qE rfl (by simp[p7]) ?_;refine zQ 3 ?_;refine ae.go (d:=.agg [.int .i64 5,.nul,.int .i64 0,.int .i64 0,.bool false,.int .i64 0,.int .i64 1]) (st1:=_) rfl rfl rfl (aa rfl _) ?_;refine qa hH fun k4 st NZ hH=>?_;dsimp only[u2,u1,u3,u4,setMany,u5,u6,D.cells,Nat.reduceAdd,aP,bq,ay,av,aH] at hH;refine qS hH aG fun st hH=>?_;dsimp only[u2,u1,u3,u4,setMany,u5,u6,D.cells,Nat.reduceAdd,aP,bq,ay,av,aH] at hH;refine zQ 1 ?_;have hH:Has N S2 st (.box k (.mem 0 false (aP gs bB s1))::.aB bB 1 (a_.map ay)::.box k4 (.mem 0 false [.int .i64 5,.nul,.int .i64 0,.int .i64 0,.bool false,.int .i64 0,.int .i64 1])::H):=ov hH;refine qq<|ai.merge (fun fr st=>∃(mn mx:Int) (s2:eA) (tmp:List (Nat×D)),fr=⟨5,[.ptr k 0 0,AG fr 1,AG fr 2,sx l,.ptr k4 0 0],tmp⟩∧Has N S2 st (.box k (.mem 0 false (aP gs bB s2))::.aB bB 1 (a_.map ay)::.box k4 (.mem 0 false [.int .i64 5,.nul,.int .i64 mn,.int .i64 mx,.bool false,.int .i64 0,.int .i64 1])::H)∧(s2.o=s.o)∧(s2.g≤4)∧(s1.i<s2.i)∧(s2.i≤gs.length)∧(eO R a_ s2∨s2.e=0∧R=xV gs l s2.g mn mx s2.i)) ?_ ?_
 ·refine zQ 4 ?_;obtain⟨_,st,aC,rfl,hH⟩:=et (s:=s1) (by omega) 42 hH;refine qv aC ?_;refine zQ 2 ?_
  cases hb1:eR gs s1.i 42 with
  |true=>
   obtain⟨k1,k2,k3,Qa,k5⟩:=iz (gs:=gs) (s:=s1) (r:=42);have k6:=nG hb1;have k7:=k5 p4;generalize bV gs s1 42=s2 at*;refine zQ 3 ?_;refine qT hH bE fun st hH=>?_;dsimp only[u2,u1,u3,u4,setMany,u5,u6,D.cells,Nat.reduceAdd,aP,bq,ay,av,aH] at hH;refine zQ 1 ?_;exact⟨0,-1,s2,_,rfl,hH,by omega,by omega,by omega,k7,.inr ⟨by omega,by rw[←hR,if_pos hb1,k6,show s2.g=s1.g by omega]⟩⟩
  |false=>
   rw[rb hb1] at hH;rw[if_neg (by rw[hb1];simp)] at hR;refine zQ 4 ?_;obtain⟨_,st,aC,rfl,hH⟩:=et (s:=s1) (by omega) 43 hH;refine qv aC ?_;refine zQ 2 ?_
   cases hb2:eR gs s1.i 43 with
   |true=>
    obtain⟨k1,k2,k3,Qa,k5⟩:=iz (gs:=gs) (s:=s1) (r:=43);have k6:=nG hb2;have k7:=k5 p4;generalize bV gs s1 43=s2 at*;refine zQ 3 ?_;refine qT hH bE fun st hH=>?_;dsimp only[u2,u1,u3,u4,setMany,u5,u6,D.cells,Nat.reduceAdd,aP,bq,ay,av,aH] at hH;refine zQ 1 ?_;refine qT hH bE fun st hH=>?_;dsimp only[u2,u1,u3,u4,setMany,u5,u6,D.cells,Nat.reduceAdd,aP,bq,ay,av,aH] at hH;refine zQ 1 ?_;exact⟨1,-1,s2,_,rfl,hH,by omega,by omega,by omega,k7,.inr ⟨by omega,by rw[←hR,if_pos hb2,k6,show s2.g=s1.g by omega]⟩⟩
   |false=>
    rw[rb hb2] at hH;rw[if_neg (by rw[hb2];simp)] at hR;refine zQ 4 ?_;obtain⟨_,st,aC,rfl,hH⟩:=et (s:=s1) (by omega) 63 hH;refine qv aC ?_;refine zQ 2 ?_
    cases hb3:eR gs s1.i 63 with
    |true=>
     obtain⟨k1,k2,k3,Qa,k5⟩:=iz (gs:=gs) (s:=s1) (r:=63);have k6:=nG hb3;have k7:=k5 p4;generalize bV gs s1 63=s2 at*;refine zQ 3 ?_;refine qT hH bE fun st hH=>?_;dsimp only[u2,u1,u3,u4,setMany,u5,u6,D.cells,Nat.reduceAdd,aP,bq,ay,av,aH] at hH;refine zQ 1 ?_;exact⟨0,1,s2,_,rfl,hH,by omega,by omega,by omega,k7,.inr ⟨by omega,by rw[←hR,if_pos hb3,k6,show s2.g=s1.g by omega]⟩⟩
    |false=>
     rw[rb hb3] at hH;rw[if_neg (by rw[hb3];simp)] at hR;refine zQ 4 ?_;obtain⟨_,st,aC,rfl,hH⟩:=pT (s:=s1) (by omega) 123 hH;refine qv aC ?_;refine zQ 2 ?_
     cases hb4:eR gs s1.i 123 with
     |true=>
      have hlt:=sJ hb4;refine zQ 3 ?_;obtain⟨_,st,aC,n1,n2,s2,rfl,⟨⟨m1,m2,m3,m4⟩,m5⟩,hH⟩:=Dr cn p7 hlt hH;refine qv aC ?_;refine zQ 4 ?_;refine qT hH bE fun st hH=>?_;dsimp only[u2,u1,u3,u4,setMany,u5,u6,D.cells,Nat.reduceAdd,aP,bq,ay,av,aH] at hH;refine zQ 1 ?_;refine qT hH bE fun st hH=>?_;dsimp only[u2,u1,u3,u4,setMany,u5,u6,D.cells,Nat.reduceAdd,aP,bq,ay,av,aH] at hH;refine zQ 1 ?_;rw[if_pos hb4] at hR
      have h5:eO R a_ s2∨s2.e=0∧R=xV gs l s2.g n1 n2 s2.i:=by
       rcases m5 with m5|⟨m5,m6⟩
       ·exact .inl (m5.map fun e w h=>by rw[←hR,h])
       ·exact .inr ⟨m5,by rw[←hR,m6,m2]⟩
      exact⟨n1,n2,s2,_,rfl,hH,by omega,by omega,m3,m4,h5⟩
     |false=>
      rw[if_neg (by rw[hb4];simp)] at hR;refine zQ 6 ?_;refine ai.ret ⟨rx,_,_,_,rfl,ak (rfl),?_⟩;exact⟨s1,⟨p1,p2,p3,p4,l,rfl,p5,p6,.inr ⟨p7,hR.symm,by omega⟩⟩,bS.aq bO (hH.erase 2)⟩
 ·rintro fr st ⟨mn,mx,s2,tmp,hfr,hH,h1,h2,h3,h4,h5⟩;rw[hfr];clear hfr;generalize AG fr=ee;clear fr;refine zQ 9 ?_
  by_cases Cm:s2.e=0
  ·refine qE rfl (by simp[Cm]) ?_;refine zQ 1 ?_;obtain⟨k1,k2,k3,Qa,k5⟩:=iz (gs:=gs) (s:=s2) (r:=63);have k7:=k5 h4
   have h6:R=xV gs l s2.g mn mx s2.i:=by
    rcases h5 with h5|h5
    ·exact absurd Cm h5.ne
    ·exact h5.2
   have T5:(bV gs s2 63).i=if eR gs s2.i 63=true then s2.i+1 else s2.i:=by unfold bV;split<;>rfl
   unfold xV at h6;rw[←T5] at h6;clear T5;refine zQ 3 ?_;obtain⟨_,st,aC,rfl,hH⟩:=et (s:=s2) (by omega) 63 hH;refine qv aC ?_;refine zQ 1 ?_;refine qT hH bE fun st hH=>?_;dsimp only[u2,u1,u3,u4,setMany,u5,u6,D.cells,Nat.reduceAdd,aP,bq,ay,av,aH] at hH;refine zQ 1 ?_;generalize bV gs s2 63=s3 at*;generalize eR gs s2.i 63=lz at*;have hla:=(nR p5).arg N S2;refine zQ 2 ?_;refine ae.aN (m:=7) hH rfl (ev rfl) (by exact bE) (by dsimp only[List.drop_succ_cons,List.drop_zero,List.take_succ_cons,List.take_zero,aP,bq,ay,av,aH]<;>rfl) rfl rfl (aa rfl _) ?_;refine qh (s:=7) (vs:=[_]) hH fun k46 st WK hH=>?_;refine qm ?_;refine ae.cJ (s:=7) hH rfl (ev rfl) (ev rfl) aG ((nR p5).rows st) rfl rfl rfl rfl rfl rfl rfl ⟨(Nat.le_of_ble_eq_true rfl),(Nat.le_of_ble_eq_true rfl)⟩ (fun _=>(aa rfl _)) (by simp only[List.length_map,List.length_cons,List.length_nil];omega) (.inr (uG p5)) (fun k hk=>by have jy:k46+1=k+1:=hk;omega) (fun PD st gS hH=>?_);dsimp only[u2] at hH;refine zQ 2 ?_;have hH:Has N S2 st (.aB PD 7 ([.int .i64 5,.nul,.int .i64 mn,.int .i64 mx,.bool lz,.int .i64 0,.int .i64 1]::l.map aH)::.box k (.mem 0 false (aP gs bB s3))::.aB bB 1 (a_.map ay)::.box k4 (.mem 0 false [.int .i64 5,.nul,.int .i64 mn,.int .i64 mx,.bool lz,.int .i64 0,.int .i64 1])::H):=hH
   have hfz:=jz (L:=s0.bs.length) (l:=jM 5 mn mx lz 0 1 []::l) hH aG (by rw[List.map_cons,wj p5];rfl) (fun e he d hd=>by
    rcases List.mem_cons.1 he with rfl|he
    ·simp only[List.mem_cons,List.not_mem_nil,or_false] at hd
     rcases hd with rfl|rfl|rfl|rfl|rfl|rfl|rfl<;>rfl
    ·exact sv p5 e he d hd) (fun k hk=>by rw[←bO];exact gS k hk) (n:=16) (by decide)
   refine ai.ret ⟨rx,_,_,_,rfl,ak hfz,⟨s3,⟨by omega,by omega,by omega,k7,_,rfl,?_,by simp only[List.length_cons];omega,.inr ⟨by omega,by rw[h6,show s3.g=s2.g by omega],by simp only[List.length_cons];omega⟩⟩,bS.aq bO ((hH.drop 1).erase 2)⟩⟩;intro n hn
   rcases List.mem_cons.1 hn with rfl|hn
   ·exact⟨rfl,by simp[jM],by simp[jM]⟩
   ·exact p5 n hn
  ·refine qD rfl (by simp[Cm]) ?_;refine zQ 4 ?_;refine ai.ret ⟨rx,_,_,_,rfl,ak (rfl),?_⟩;exact⟨s2,fL h1 h2 (by omega) h4 (h5.resolve_right fun h=>Cm h.1),bS.aq bO (hH.erase 2)⟩
def oY (fr:Go.V.Fr) (k:Nat):Go.V.D:=Go.V.nth .bf fr.loc k
noncomputable def Ee (A:PF) (gs:List (Nat×Nat)) (m:Nat):Nat→Nat→Nat→List (List bp)→PR (List bp×Nat)
 |0,i,g,ps=>.ok (gk 3 ps,g) i
 |n+1,i,g,ps=>
  if i<gs.length∧eR gs i 124=false∧(eR gs i 41=false∨m=20) then
   match H9 A gs m i g with
   | .er e w=>.er e w
   | .ok (l,g2) j=>Ee A gs m n j g2 (ps++[l])
  else .ok (gk 3 ps,g) i
noncomputable def Hd (A:PF) (gs:List (Nat×Nat)) (m i g:Nat):PR (List bp×Nat):=Ee A gs m (gs.length+1) i g []
noncomputable def Ej (A:PF) (gs:List (Nat×Nat)) (m:Nat):Nat→Nat→Nat→List (List bp)→PR (List bp×Nat)
 |0,i,g,ps=>.ok (gk 4 ps,g) i
 |n+1,i,g,ps=>
  if eR gs i 124=true then
   match Hd A gs m (i+1) g with
   | .er e w=>.er e w
   | .ok (l,g2) j=>Ej A gs m n j g2 (ps++[l])
  else .ok (gk 4 ps,g) i
noncomputable def Hq (A:PF) (gs:List (Nat×Nat)) (m:Nat):PF:=fun i g=>
 match Hd A gs m i g with
 | .er e w=>.er e w
 | .ok (l,g1) j=>Ej A gs m (gs.length+1) j g1 [l]
noncomputable def Ek (gs:List (Nat×Nat)):Nat→PF
 |0=>Hq (fun i _=>.er 10 i) gs 0
 |m+1=>Hq (Ek gs m) gs (m+1)
theorem CB {m:Nat} {gs:List (Nat×Nat)} {A:PF} (hA:∀m',m'+1=m→Bn A gs m') {N k:Nat} {S s0:St} {H:List aZ} {bB:D} {a_:List Int} {s:eA} (cn:lS gs a_) (he:s.e=0) (hi:s.i≤gs.length) (hg:s.g≤4) (ho:s.o+m=20) (hH:Has N S s0 (.box k (.mem 0 false (aP gs bB s))::.aB bB 1 (a_.map ay)::H)):
  ∃d ah,Ev pv 60 [.ptr k 0 0] s0 d ah∧∃(s':eA),ru gs a_ (Hd A gs m s.i s.g) s s' d∧Has N S ah (.box k (.mem 0 false (aP gs bB s'))::.aB bB 1 (a_.map ay)::H):=by
 have tU:=cn.gl;have lg:=cn.pl;refine Ev.jN rfl SB rfl rfl rfl ?_;refine zE ?_;have bS:=hH;have hH:=hH.bG;have bO:(ag .rw s0).bs=s0.bs:=rfl;generalize ag .rw s0=S2 at*
 obtain⟨R,hR⟩:∃R,Hd A gs m s.i s.g=R:=⟨_,rfl⟩
 rw[hR];unfold Hd at hR;have zy:Arg N S2 2 (iq gs) (gs.map bq):=Arg.pure (fun st=>eT st gs);refine zQ 8 ?_;have hH:Has N S2 S2 (.box k (.mem 0 false (aP gs bB s))::.aB bB 1 (a_.map ay)::.aB .nul 1 (([]:List (List bp)).map d_)::H):=ov (hH.eC 1);refine zQ 2 ?_;refine ai.loop (fun mm fr st=>∃(s1:eA) (pd:D) (parts:List (List bp)),fr.clean=⟨4,[.ptr k 0 0,oY fr 1,oY fr 2,pd],[]⟩∧Has N S2 st (.box k (.mem 0 false (aP gs bB s1))::.aB bB 1 (a_.map ay)::.aB pd 1 (parts.map d_)::H)∧(s1.o=s.o)∧(s1.g≤4)∧(s.i≤s1.i)∧(s1.i≤gs.length)∧(∀l∈parts,∀n∈l,nz n)∧(fH parts+parts.length≤4*(s1.i-s.i)+2)∧(s1.e=0→fH parts+parts.length≤4*(s1.i-s.i))∧(eO R a_ s1∨s1.e=0∧∃n,gs.length-s1.i<n∧Ee A gs m n s1.i s1.g parts=R)∧(gs.length-s1.i+(if s1.e=0 then 1 else 0)≤mm)) (gs.length+1) ?_ ?_
 ·exact⟨s,.nul,[],rfl,hH,rfl,hg,Nat.le_refl _,hi,fun l hl=>(by cases hl),by simp[fH],fun _=>by simp[fH],.inr ⟨he,gs.length+1,by omega,hR⟩,by split<;>omega⟩
 rintro mm fr st ⟨s1,pd,parts,hfr,hH,h1,h2,h3,h4,h5,h6,h7,h8,AS⟩;rw[hfr];clear hfr;generalize oY fr=ee;clear fr
 have sO:∀st:St,(eO R a_ s1∨s1.e=0∧R=.ok (gk 3 parts,s1.g) s1.i)→Has N S2 st (.box k (.mem 0 false (aP gs bB s1))::.aB bB 1 (a_.map ay)::.aB pd 1 (parts.map d_)::H)→∃d,Ev pv 62 [.int .i64 3,pd] st d st∧ru gs a_ R s s1 d∧∃l,d=sx l:=by
  intro st hv hH;obtain⟨aC,j1,j2,j3⟩:=sG 3 (hH.rows bE) h5 (by omega) (by omega);refine⟨_,aC,⟨h1,h2,h3,h4,gk 3 parts,rfl,j1,?_,hv⟩,_,rfl⟩
  by_cases q1:parts.length=1
  ·have:=j2 q1;omega
  ·by_cases q0:parts.length=0
   ·have:parts=[]:=List.length_eq_zero_iff.1 q0;rw[this];show 1≤_;omega
   ·omega
 by_cases he1:s1.e=0
 ·obtain⟨n,tQ,iR⟩:=(h8.resolve_left fun h=>absurd he1 h.ne).2
  obtain⟨n,rfl⟩:∃m,n=m+1:=⟨n-1,by omega⟩
  unfold Ee at iR;rw[if_pos he1] at AS;have h7:=h7 he1;have dQ:(s1.e==0)=true:=by simpa using he1
  by_cases hlt:s1.i<gs.length
  ·have ba:decide (((s1.i:Nat):Int)<((gs.length:Nat):Int))=true:=by rw[decide_eq_true_eq];omega
   cases ch:(!eR gs s1.i 124) with
   |false=>
    refine zQ 17 ?_;refine qn ?_ (hg:=wi dQ);simp only[List.length_map];refine zQ 4 ?_;obtain⟨_,st,aC,rfl,hH⟩:=pT (s:=s1) (by omega) 124 hH;refine qv aC ?_ (hg:=wi ba);refine zQ 17 ?_;obtain⟨_,Gs,hQ,l,rfl⟩:=sO _ (.inr ⟨he1,by rw[←iR,if_neg (fun h=>by rw[h.2.1] at ch;simp at ch)]⟩) hH;refine zQ 3 ?_;refine qv (Gs) ?_;refine zQ 2 ?_;refine ai.ret ⟨rx,_,_,_,rfl,ak (rfl),?_⟩;exact⟨s1,hQ,bS.aq bO (hH.erase 2)⟩
   |true=>
    cases dp:eR gs s1.i 41 with
    |false=>
     refine zQ 17 ?_;refine qn ?_ (hg:=wi dQ);simp only[List.length_map];refine zQ 4 ?_;obtain⟨_,st,aC,rfl,hH⟩:=pT (s:=s1) (by omega) 124 hH;refine qv aC ?_ (hg:=wi ba);refine zQ 4 ?_;obtain⟨_,st,aC,rfl,hH⟩:=pT (s:=s1) (by omega) 41 hH;refine qv aC ?_ (hg:=wi ch);refine zQ 6 ?_;refine ae.cC (aj rfl rfl rfl ch) rfl dp (aa rfl _) ?_;refine zQ 6 ?_;rw[if_pos ⟨hlt,by simpa using ch,.inl dp⟩] at iR;refine zQ 3 ?_;obtain⟨_,st,aC,s2,⟨r1,r2,r3,r4,l,rfl,r5,r6,r7⟩,hH⟩:=BM hA cn (s:=s1) he1 hlt h2 (by omega) hH;refine qv aC ?_;refine qh (s:=1) (vs:=[_]) hH fun k41 st NY hH=>?_;dsimp only[u2,u1,u3,u4,setMany,u5,u6,D.cells,Nat.reduceAdd,aP,bq,ay,av,d_] at hH;refine ae.ew (s:=1) hH rfl (ev rfl) (ev rfl) (by exact cD) (by exact hH.rows (by exact aG)) rfl rfl rfl rfl rfl rfl rfl ⟨(Nat.le_of_ble_eq_true rfl),(Nat.le_of_ble_eq_true rfl)⟩ (fun _=>(aa rfl _)) (by simp only[List.length_cons,List.length_nil,List.length_map]<;>omega) (by exact .inr rfl) (fun Ms st hH=>?_);dsimp only[u2,u1,u3,u4,setMany,u5,u6,D.cells,Nat.reduceAdd,aP,bq,ay,av,d_] at hH;refine zQ 2 ?_;have hH:=hH.drop 1
     have r8:s2.e=0→l.length+1≤4*(s2.i-s1.i):=fun e=>by
      rcases r7 with r7|r7
      ·exact absurd e r7.ne
      ·exact r7.2.2
     have r9:eO R a_ s2∨s2.e=0∧∃n,gs.length-s2.i<n∧Ee A gs m n s2.i s2.g (parts++[l])=R:=by
      rcases r7 with r7|⟨r7,MK,UZ⟩
      ·exact .inl (r7.map fun e w h=>by rw[←iR,h])
      ·rw[MK] at iR;exact .inr ⟨r7,n,by omega,iR⟩
     have PL:gs.length-s2.i+(if s2.e=0 then 1 else 0)≤mm-1:=by
      by_cases e:s2.e=0
      ·have:=r8 e;rw[if_pos e];omega
      ·rw[if_neg e];omega
     refine⟨mm-1,by omega,⟨s2,Ms,parts++[l],rfl,(by rw[List.map_append];exact hH),by omega,r2,by omega,r4,?_,by rw[dR,List.length_append];simp only[fH,List.length_cons,List.length_nil];omega,(fun e=>by have:=r8 e;rw[dR,List.length_append];simp only[fH,List.length_cons,List.length_nil];omega),r9,PL⟩⟩;intro l' jV
     rcases List.mem_append.1 jV with jV|jV
     ·exact h5 l' jV
     ·simp only[List.mem_cons,List.not_mem_nil,or_false] at jV;subst jV;exact r5
    |true=>
     refine zQ 17 ?_;refine qn ?_ (hg:=wi dQ);simp only[List.length_map];refine zQ 4 ?_;obtain⟨_,st,aC,rfl,hH⟩:=pT (s:=s1) (by omega) 124 hH;refine qv aC ?_ (hg:=wi ba);refine zQ 4 ?_;obtain⟨_,st,aC,rfl,hH⟩:=pT (s:=s1) (by omega) 41 hH;refine qv aC ?_ (hg:=wi ch);refine zQ 6 ?_;refine ae.cQ (aj rfl rfl rfl ch) rfl dp (aa rfl _) ?_;refine zQ 3 ?_
     by_cases hop:0<s1.o
     ·have gu:(!decide (((s1.o:Nat):Int)>0))=false:=by rw[decide_eq_true (by omega)];rfl
      refine qE rfl (by rw[gu]) ?_;refine zQ 1 ?_;obtain⟨_,Gs,hQ,l,rfl⟩:=sO _ (.inr ⟨he1,by rw[←iR,if_neg (fun h=>by rcases h.2.2 with h|h;rw[dp] at h;exact absurd h (by simp);omega)]⟩) hH;refine zQ 3 ?_;refine qv (Gs) ?_;refine zQ 2 ?_;refine ai.ret ⟨rx,_,_,_,rfl,ak (rfl),?_⟩;exact⟨s1,hQ,bS.aq bO (hH.erase 2)⟩
     ·have gu:(!decide (((s1.o:Nat):Int)>0))=true:=by rw[decide_eq_false (by omega)];rfl
      refine qD rfl (by rw[gu]) ?_;refine zQ 2 ?_;rw[if_pos ⟨hlt,by simpa using ch,.inr (by omega)⟩] at iR;refine zQ 3 ?_;obtain⟨_,st,aC,s2,⟨r1,r2,r3,r4,l,rfl,r5,r6,r7⟩,hH⟩:=BM hA cn (s:=s1) he1 hlt h2 (by omega) hH;refine qv aC ?_;refine qh (s:=1) (vs:=[_]) hH fun k41 st NY hH=>?_;dsimp only[u2,u1,u3,u4,setMany,u5,u6,D.cells,Nat.reduceAdd,aP,bq,ay,av,d_] at hH;refine ae.ew (s:=1) hH rfl (ev rfl) (ev rfl) (by exact cD) (by exact hH.rows (by exact aG)) rfl rfl rfl rfl rfl rfl rfl ⟨(Nat.le_of_ble_eq_true rfl),(Nat.le_of_ble_eq_true rfl)⟩ (fun _=>(aa rfl _)) (by simp only[List.length_cons,List.length_nil,List.length_map]<;>omega) (by exact .inr rfl) (fun Ms st hH=>?_);dsimp only[u2,u1,u3,u4,setMany,u5,u6,D.cells,Nat.reduceAdd,aP,bq,ay,av,d_] at hH;refine zQ 2 ?_;have hH:=hH.drop 1
      have r8:s2.e=0→l.length+1≤4*(s2.i-s1.i):=fun e=>by
       rcases r7 with r7|r7
       ·exact absurd e r7.ne
       ·exact r7.2.2
      have r9:eO R a_ s2∨s2.e=0∧∃n,gs.length-s2.i<n∧Ee A gs m n s2.i s2.g (parts++[l])=R:=by
       rcases r7 with r7|⟨r7,MK,UZ⟩
       ·exact .inl (r7.map fun e w h=>by rw[←iR,h])
       ·rw[MK] at iR;exact .inr ⟨r7,n,by omega,iR⟩
      have PL:gs.length-s2.i+(if s2.e=0 then 1 else 0)≤mm-1:=by
       by_cases e:s2.e=0
       ·have:=r8 e;rw[if_pos e];omega
       ·rw[if_neg e];omega
      refine⟨mm-1,by omega,⟨s2,Ms,parts++[l],rfl,(by rw[List.map_append];exact hH),by omega,r2,by omega,r4,?_,by rw[dR,List.length_append];simp only[fH,List.length_cons,List.length_nil];omega,(fun e=>by have:=r8 e;rw[dR,List.length_append];simp only[fH,List.length_cons,List.length_nil];omega),r9,PL⟩⟩;intro l' jV
      rcases List.mem_append.1 jV with jV|jV
      ·exact h5 l' jV
      ·simp only[List.mem_cons,List.not_mem_nil,or_false] at jV;subst jV;exact r5
  ·have ba:decide (((s1.i:Nat):Int)<((gs.length:Nat):Int))=false:=by rw[decide_eq_false_iff_not];omega
   refine zQ 17 ?_;refine qn ?_ (hg:=wi dQ);simp only[List.length_map];refine zQ 22 ?_;obtain⟨_,Gs,hQ,l,rfl⟩:=sO _ (.inr ⟨he1,by rw[←iR,if_neg (fun h=>hlt h.1)]⟩) hH;refine zQ 3 ?_;refine qv (Gs) ?_;refine zQ 2 ?_;refine ai.ret ⟨rx,_,_,_,rfl,ak (rfl),?_⟩;exact⟨s1,hQ,bS.aq bO (hH.erase 2)⟩
 ·have dQ:(s1.e==0)=false:=by simpa using he1
  refine zQ 40 ?_;obtain⟨_,Gs,hQ,l,rfl⟩:=sO _ (.inl (h8.resolve_right fun h=>he1 h.1)) hH;refine zQ 3 ?_;refine qv (Gs) ?_;refine zQ 2 ?_;refine ai.ret ⟨rx,_,_,_,rfl,ak (rfl),?_⟩;exact⟨s1,hQ,bS.aq bO (hH.erase 2)⟩
theorem CO {m:Nat} {gs:List (Nat×Nat)} {A:PF} (hA:∀m',m'+1=m→Bn A gs m'):Bn (Hq A gs m) gs m:=by
 intro N k S s0 H bB a_ s cn he hi hg ho hH;have tU:=cn.gl;have lg:=cn.pl;refine Ev.jN rfl SQ rfl rfl rfl ?_;refine zE ?_;have bS:=hH;have hH:=hH.bG;have bO:(ag .rw s0).bs=s0.bs:=rfl;generalize ag .rw s0=S2 at*
 obtain⟨R,hR⟩:∃R,Hq A gs m s.i s.g=R:=⟨_,rfl⟩
 rw[hR];unfold Hq at hR;refine zQ 7 ?_;obtain⟨_,st,aC,s1,⟨p1,p2,p3,p4,l,rfl,p5,p6,p7⟩,hH⟩:=CB hA cn he hi hg ho hH;refine qv aC ?_;refine qh (s:=1) (vs:=[_]) hH fun k6 st J' hH=>?_;dsimp only[u2,u1,u3,u4,setMany,u5,u6,D.cells,Nat.reduceAdd,aP,bq,ay,av,d_] at hH;refine zQ 2 ?_
 have XJ:eO R a_ s1∨s1.e=0∧∃n,gs.length-s1.i<n∧Ej A gs m n s1.i s1.g [l]=R:=by
  rcases p7 with p7|⟨p7,U3⟩
  ·exact .inl (p7.map fun e w h=>by rw[←hR,h])
  ·rw[U3] at hR;exact .inr ⟨p7,_,by omega,hR⟩
 have hH:Has N S2 st (.box k (.mem 0 false (aP gs bB s1))::.aB bB 1 (a_.map ay)::.aB (.win k6 0 0 1 1) 1 ([l].map d_)::H):=ov hH;refine zQ 2 ?_;refine ai.loop (fun mm fr st=>∃(s1:eA) (pd:D) (parts:List (List bp)),fr.clean=⟨4,[.ptr k 0 0,oY fr 1,oY fr 2,pd],[]⟩∧Has N S2 st (.box k (.mem 0 false (aP gs bB s1))::.aB bB 1 (a_.map ay)::.aB pd 1 (parts.map d_)::H)∧(s1.o=s.o)∧(s1.g≤4)∧(s.i≤s1.i)∧(s1.i≤gs.length)∧(∀l∈parts,∀n∈l,nz n)∧(fH parts+3*parts.length≤4*(s1.i-s.i)+4)∧(1≤parts.length)∧(eO R a_ s1∨s1.e=0∧∃n,gs.length-s1.i<n∧Ej A gs m n s1.i s1.g parts=R)∧(gs.length-s1.i≤mm)) (gs.length) ?_ ?_
 ·exact⟨s1,.win k6 0 0 1 1,[l],rfl,hH,p1,p2,p3,p4,(fun l' jV=>by simp only[List.mem_cons,List.not_mem_nil,or_false] at jV;subst jV;exact p5),by simp only[fH,List.length_cons,List.length_nil];omega,by simp,XJ,by omega⟩
 rintro mm fr st ⟨s1,pd,parts,hfr,hH,h1,h2,h3,h4,h5,h6,h8,h9,AS⟩;rw[hfr];clear hfr;generalize oY fr=ee;clear fr
 have sO:∀st:St,(eO R a_ s1∨s1.e=0∧R=.ok (gk 4 parts,s1.g) s1.i)→Has N S2 st (.box k (.mem 0 false (aP gs bB s1))::.aB bB 1 (a_.map ay)::.aB pd 1 (parts.map d_)::H)→∃d,Ev pv 62 [.int .i64 4,pd] st d st∧ru gs a_ R s s1 d∧∃l,d=sx l:=by
  intro st hv hH;obtain⟨aC,j1,j2,j3⟩:=sG 4 (hH.rows bE) h5 (by omega) (by omega);refine⟨_,aC,⟨h1,h2,h3,h4,gk 4 parts,rfl,j1,?_,hv⟩,_,rfl⟩
  by_cases q1:parts.length=1
  ·have:=j2 q1;omega
  ·omega
 by_cases he1:s1.e=0
 ·obtain⟨n,tQ,iR⟩:=(h9.resolve_left fun h=>absurd he1 h.ne).2
  obtain⟨n,rfl⟩:∃m,n=m+1:=⟨n-1,by omega⟩
  unfold Ej at iR;have dQ:(s1.e==0)=true:=by simpa using he1
  obtain⟨k1,k2,k3,k4,k5⟩:=iz (gs:=gs) (s:=s1) (r:=124);have k5:=k5 h4;refine zQ 10 ?_;obtain⟨_,st,aC,rfl,hH⟩:=et (s:=s1) (by omega) 124 hH;refine qv aC ?_ (hg:=wi dQ);refine zQ 2 ?_
  cases hb:eR gs s1.i 124 with
  |false=>
   rw[rb hb] at hH;refine zQ 2 ?_;obtain⟨_,Gs,hQ,l,rfl⟩:=sO _ (.inr ⟨he1,by rw[←iR,if_neg (by rw[hb];simp)]⟩) hH;refine zQ 3 ?_;refine qv (Gs) ?_;refine zQ 2 ?_;refine ai.ret ⟨rx,_,_,_,rfl,ak (rfl),?_⟩;exact⟨s1,hQ,bS.aq bO (hH.erase 2)⟩
  |true=>
   have k6:=nG hb;rw[if_pos hb] at iR;generalize bV gs s1 124=s2 at*;refine zQ 6 ?_;obtain⟨_,st,aC,s3,⟨r1,r2,r3,r4,l,rfl,r5,r6,r7⟩,hH⟩:=CB hA cn (s:=s2) (by omega) k5 (by omega) (by omega) hH;refine qv aC ?_;refine qh (s:=1) (vs:=[_]) hH fun k19 st WR hH=>?_;dsimp only[u2,u1,u3,u4,setMany,u5,u6,D.cells,Nat.reduceAdd,aP,bq,ay,av,d_] at hH;refine ae.ew (s:=1) hH rfl (ev rfl) (ev rfl) (by exact cD) (by exact hH.rows (by exact aG)) rfl rfl rfl rfl rfl rfl rfl ⟨(Nat.le_of_ble_eq_true rfl),(Nat.le_of_ble_eq_true rfl)⟩ (fun _=>(aa rfl _)) (by simp only[List.length_cons,List.length_nil,List.length_map]<;>omega) (by exact .inr rfl) (fun TH st hH=>?_);dsimp only[u2,u1,u3,u4,setMany,u5,u6,D.cells,Nat.reduceAdd,aP,bq,ay,av,d_] at hH;refine zQ 2 ?_;have hH:=hH.drop 1;rw[k6,show s2.g=s1.g by omega] at r7
   have r9:eO R a_ s3∨s3.e=0∧∃n,gs.length-s3.i<n∧Ej A gs m n s3.i s3.g (parts++[l])=R:=by
    rcases r7 with r7|⟨r7,MK⟩
    ·exact .inl (r7.map fun e w h=>by rw[←iR,h])
    ·rw[MK] at iR;exact .inr ⟨r7,n,by omega,iR⟩
   refine⟨mm-1,by omega,⟨s3,TH,parts++[l],rfl,(by rw[List.map_append];exact hH),by omega,r2,by omega,r4,?_,by rw[dR,List.length_append];simp only[fH,List.length_cons,List.length_nil];omega,by rw[List.length_append];omega,r9,by omega⟩⟩;intro l' jV
   rcases List.mem_append.1 jV with jV|jV
   ·exact h5 l' jV
   ·simp only[List.mem_cons,List.not_mem_nil,or_false] at jV;subst jV;exact r5
 ·have dQ:(s1.e==0)=false:=by simpa using he1
  refine zQ 15 ?_;obtain⟨_,Gs,hQ,l,rfl⟩:=sO _ (.inl (h9.resolve_right fun h=>he1 h.1)) hH;refine zQ 3 ?_;refine qv (Gs) ?_;refine zQ 2 ?_;refine ai.ret ⟨rx,_,_,_,rfl,ak (rfl),?_⟩;exact⟨s1,hQ,bS.aq bO (hH.erase 2)⟩
theorem JJ (gs:List (Nat×Nat)) (m:Nat):Bn (Ek gs m) gs m:=by
 induction m with
 |zero=>exact CO (fun m' h=>by omega)
 |succ m ih=>exact CO (fun m' h=>by cases h;exact@ih)
def bh (fr:Go.V.Fr) (k:Nat):Go.V.D:=Go.V.nth .bf fr.loc k
def vZ:List (Nat×Nat)→Nat→List Int
 |[],_=>[]
 |q::l,a=>((a:Nat):Int)::vZ l (a+q.2)
noncomputable def Ft (gs:List (Nat×Nat)) (R:PR (List bp×Nat)):List bp×Int×Int:=
 match R with
 | .er e w=>([],e,(vZ gs 0).getD w 0)
 | .ok (l,_) j=>if j<gs.length then([],4,(vZ gs 0).getD j 0) else(l,0,0)
noncomputable def bK (b:List UInt8):List bp×Int×Int:=
 if 120<b.length then([],2,0) else Ft (pz b) (Ek (pz b) 20 0 0)
def Fu (q:List bp×Int×Int):D:=.tup [sx q.1,.int .i64 q.2.1,.int .i64 q.2.2]
theorem oP {s0:St} {b:List UInt8} (hbl:b.length≤1048576):Ev pv 18 [.str b] s0 (Fu (bK b)) s0∧(∀n∈(bK b).1,nz n)∧(bK b).1.length≤500:=by
 suffices hg:∃d,Ev pv 18 [.str b] s0 d s0∧d=Fu (bK b)∧(∀n∈(bK b).1,nz n)∧(bK b).1.length≤500 by
  obtain⟨d,h1,rfl,h2⟩:=hg;exact⟨h1,h2⟩
 obtain⟨X,hX⟩:∃X,bK b=X:=⟨_,rfl⟩
 rw[hX];unfold bK at hX;obtain⟨tU,Xa⟩:=Ht _ b (Nat.le_refl _);have aC:∀(st:St) (x:D),Bytes st x b→Ev pv 41 [x] st (iq (pz b)) st:=fun st x h=>L7 h hbl;generalize pz b=gs at*;refine Ev.JW rfl S' rfl rfl rfl ?_;refine zE ?_;obtain⟨aU,hF,hH⟩:=ri s0;generalize ag .ro s0=S at*;have zy:Arg s0.bs.length S 2 (iq gs) (gs.map bq):=Arg.pure (fun st=>eT st gs);refine zQ 10 ?_;refine ae.jY rfl rfl rfl (by dsimp only[Fr.put,u1,u2]<;>rfl) ?_;refine zQ 2 ?_
 by_cases J9:120<b.length
 ·have gu:decide (((b.length:Nat):Int)>120)=true:=by rw[decide_eq_true_eq];omega
  refine qD rfl (by rw[gu]) ?_;refine zQ 6 ?_;refine ai.ret ⟨rx,_,_,rfl,rl aU hH (rfl),?_⟩;rw[if_pos J9] at hX;rw[←hX];exact⟨rfl,fun n hn=>(by cases hn),by simp⟩
 rw[if_neg J9] at hX;have gu:decide (((b.length:Nat):Int)>120)=false:=by rw[decide_eq_false_iff_not];omega
 refine qE rfl (by rw[gu]) ?_;refine zQ 4 ?_;refine ae.Lx hH rfl rfl rfl rfl rfl (by omega) (fun _=>by dsimp only[Fr.put,u1,u2]<;>rfl) (fun k14 st N1 hH=>?_);refine qv ((aC _ _ (hH.rows aG))) ?_;refine ae.go (d:=.agg [iq gs,.nul,.int .i64 0,.int .i64 0,.int .i64 0,.int .i64 0,.int .i64 0]) (st1:=_) rfl rfl rfl (by dsimp only[Fr.put,u1,u2]<;>rfl) ?_;refine qb hH fun k17 st Rq hH=>?_;refine zQ 13 ?_;refine qn ?_;simp only[List.length_map];refine zQ 2 ?_;have hH:Has s0.bs.length S st (.box k17 (.mem 0 false [iq gs,.nul,.int .i64 0,.int .i64 0,.int .i64 0,.int .i64 0,.int .i64 0])::.aB .nul 1 (([]:List Int).map ay)::[]):=((hH.erase 1).eC 1).front aV;refine zQ 1 ?_;refine ai.loop (fun mm fr st=>∃(i a:Nat) (pd:D) (a_:List Int),fr.clean=⟨24,[bh fr 0,bh fr 1,bh fr 2,bh fr 3,bh fr 4,.ptr k17 0 0,.int .i64 (a:Nat),bh fr 7,bh fr 8,bh fr 9,bh fr 10,bh fr 11,bh fr 12,bh fr 13,bh fr 14,bh fr 15,bh fr 16,bh fr 17,bh fr 18,bh fr 19,bh fr 20,iq gs,.int .i64 (gs.length:Nat),.int .i64 (i:Nat)],[]⟩∧Has s0.bs.length S st [.box k17 (.mem 0 false [iq gs,pd,.int .i64 0,.int .i64 0,.int .i64 0,.int .i64 0,.int .i64 0]),.aB pd 1 (a_.map ay)]∧(i+mm=gs.length)∧(a_.length=i)∧(a_++vZ (gs.drop i) a=vZ gs 0)∧(a≤120*i)) (gs.length) ?_ ?_
 ·exact⟨0,0,.nul,[],rfl,hH,by omega,rfl,rfl,by omega⟩
 rintro mm fr st ⟨i,a,pd,a_,hfr,hH,hi,lg,zw,ha⟩;rw[hfr];clear hfr;generalize bh fr=ee;clear fr;refine zQ 4 ?_
 by_cases hlt:i<gs.length
 ·obtain⟨g,hg⟩:∃g,gs[i]?=some g:=⟨gs[i]'hlt,List.getElem?_eq_getElem _⟩
  have gr:(gs.map bq)[i]?=some (bq g):=by rw[List.getElem?_map,hg];rfl
  have bN:=Xa g (List.mem_of_getElem? hg)
  have yU:gs.drop i=g::gs.drop (i+1):=by
   have:=List.drop_eq_getElem_cons (l:=gs) (i:=i) hlt;rw[this];congr 1;rw[List.getElem?_eq_getElem hlt] at hg;exact Option.some.inj hg
  rw[yU] at zw
  have zw:(a_++[((a:Nat):Int)])++vZ (gs.drop (i+1)) (a+g.2)=vZ gs 0:=by
   rw[List.append_assoc];exact zw
  have ny:decide (((i:Nat):Int)<((gs.length:Nat):Int))=true:=by rw[decide_eq_true_eq];omega
  refine qq<|qD rfl (by rw[ny]) ?_;refine zQ 5 ?_;refine qr fun PX K_=>?_;refine ae.cA rfl (ev rfl) (by assumption) rfl (aa rfl _) ?_;refine qa hH fun k8 st Rf hH=>?_;refine qS hH aG fun st hH=>?_;dsimp only[u2,u1,u3,u4,setMany,u5,u6,D.cells,Nat.reduceAdd,aP,bq,ay] at hH;refine zQ 9 ?_;refine qh (s:=1) (vs:=[_]) hH fun k33 st Rk hH=>?_;refine ae.ew (s:=1) hH rfl (ev rfl) (ev rfl) (by exact cD) (by exact hH.rows (by exact aG)) rfl rfl rfl rfl rfl rfl rfl ⟨(Nat.le_of_ble_eq_true rfl),(Nat.le_of_ble_eq_true rfl)⟩ (fun _=>(aa rfl _)) (by simp only[List.length_cons,List.length_nil,List.length_map]<;>omega) (by exact .inl hF) (fun UO st hH=>?_);dsimp only[u2,u1,u3,u4,setMany,u5,u6,D.cells,Nat.reduceAdd,aP,bq,ay] at hH;refine zQ 2 ?_;refine qT hH bE (fun st hH=>?_) (hcs:=hH.gN cD);dsimp only[u2,u1,u3,u4,setMany,u5,u6,D.cells,Nat.reduceAdd,aP,bq,ay] at hH;refine zQ 5 ?_;refine ae.OV rfl (ev rfl) (ev rfl) (by omega) (aa rfl _) ?_;refine zQ 6 ?_;exact⟨mm-1,by omega,⟨i+1,a+g.2,UO,a_++[((a:Nat):Int)],rfl,(by rw[List.map_append];exact hH.drop 2),by omega,by rw[List.length_append,lg];rfl,zw,by omega⟩⟩
 ·have ny:decide (((i:Nat):Int)<((gs.length:Nat):Int))=false:=by rw[decide_eq_false_iff_not];omega
  refine qq<|qE rfl (by rw[ny]) ?_;refine zQ 1 ?_
  have cn:lS gs a_:=⟨by omega,by omega⟩
  have zw:a_=vZ gs 0:=by
   rw[List.drop_eq_nil_of_le (by omega)] at zw;rw[←zw];simp[vZ]
  have hH:Has s0.bs.length S st (.box k17 (.mem 0 false (aP gs pd ⟨0,0,0,0,0⟩))::.aB pd 1 (a_.map ay)::[]):=hH;refine zQ 3 ?_;obtain⟨_,st,aC,s1,⟨p1,p2,p3,p4,l,rfl,p5,p6,p7⟩,hH⟩:=JJ gs 20 (s:=⟨0,0,0,0,0⟩) cn rfl (by simp) (by simp) rfl hH;refine qv aC ?_;refine zQ 2 ?_;have p6:l.length≤4*(s1.i-0)+1:=p6;have p7:eO (Ek gs 20 0 0) a_ s1∨s1.e=0∧Ek gs 20 0 0=.ok (l,s1.g) s1.i:=p7;generalize Ek gs 20 0 0=R at*;unfold Ft at hX;rw[←zw] at hX;refine zQ 2 ?_;refine ai.oU (fun fr st=>∃(s2:eA) (tmp:List (Nat×D)),fr=⟨24,[bh fr 0,bh fr 1,bh fr 2,bh fr 3,bh fr 4,.ptr k17 0 0,bh fr 6,bh fr 7,bh fr 8,sx l,bh fr 10,bh fr 11,bh fr 12,bh fr 13,bh fr 14,bh fr 15,bh fr 16,bh fr 17,bh fr 18,bh fr 19,bh fr 20,bh fr 21,bh fr 22,bh fr 23],tmp⟩∧Has s0.bs.length S st (.box k17 (.mem 0 false (aP gs pd s2))::.aB pd 1 (a_.map ay)::[])∧(s2.e≠0∧X=([],s2.e,s2.w)∨s2.e=0∧X=(l,0,0))) ?_ ?_
  ·by_cases he1:s1.e=0
   ·have dQ:(s1.e==0)=true:=by simpa using he1
    have hR:R=.ok (l,s1.g) s1.i:=by
     rcases p7 with p7|p7
     ·exact absurd he1 p7.ne
     ·exact p7.2
    rw[hR] at hX;simp only at hX;refine zQ 15 ?_;refine qn ?_ (hg:=wi dQ);simp only[List.length_map];refine zQ 3 ?_;refine zP (fun hin=>?_) fun hin=>?_
    ·refine zQ 6 ?_;obtain⟨_,st,aC,rfl,hH⟩:=eI (s:=s1) s1.i 4 (by omega) hH;refine qv aC ?_;refine zQ 1 ?_;rw[if_pos (by omega)] at hX;have hw:(jJ a_ s1 s1.i 4).e=4∧(jJ a_ s1 s1.i 4).w=a_.getD s1.i 0:=by unfold jJ;rw[if_pos he1];exact⟨rfl,rfl⟩
     exact⟨_,_,rfl,hH,.inl ⟨by rw[hw.1];decide,by rw[hw.1,hw.2];exact hX.symm⟩⟩
    ·rw[if_neg (by omega)] at hX;refine zQ 1 ?_;exact⟨s1,_,rfl,hH,.inr ⟨he1,hX.symm⟩⟩
   ·have dQ:(s1.e==0)=false:=by simpa using he1
    refine zQ 19 ?_
    have hE:X=([],s1.e,s1.w):=by
     obtain⟨e,w,h0,h1,h2,h3⟩:=p7.resolve_right fun h=>he1 h.1;rw[h0] at hX;rw[←hX,h2,h3]
    refine zQ 2 ?_;exact⟨s1,_,rfl,hH,.inl ⟨he1,hE⟩⟩
  ·rintro fr st ⟨s2,tmp,hfr,hH,ht⟩;rw[hfr];clear hfr;generalize bh fr=ee;clear fr;refine zQ 9 ?_;refine ai.cond (by rfl) (fun hne=>?_) (fun hne=>?_)<;>try simp only[bne_iff_ne,bne_eq_false_iff_eq,ne_eq] at hne
   ·refine zQ 14 ?_;refine ai.ret ⟨rx,_,_,rfl,rl aU hH (rfl),?_⟩
    rcases ht with⟨h1,h2⟩|⟨h1,h2⟩
    ·rw[h2];exact⟨rfl,fun n hn=>(by cases hn),by simp⟩
    ·exact absurd h1 hne
   ·refine zQ 8 ?_;refine ai.ret ⟨rx,_,_,rfl,rl aU hH (rfl),?_⟩
    rcases ht with⟨h1,h2⟩|⟨h1,h2⟩
    ·exact absurd h1 (by omega)
    ·rw[h2];exact⟨rfl,p5,by show l.length≤500;omega⟩
def cw (fr:Go.V.Fr) (k:Nat):Go.V.D:=Go.V.nth .bf fr.loc k
def Du (c:Int):Bool:=decide (c≥97) &&decide (c≤122)||decide (c≥65) &&decide (c≤90)||decide (c≥48) &&decide (c≤57)||c==45||c==95||c==46
def nS (s:List UInt8):Bool:=!(s==[]) &&decide (s.length≤32) &&s.all fun c=>Du (c.toNat:Nat)
theorem II {t:TypeId} (ht:pv.bZ t=some .string) {s:List UInt8} {i:Nat} {c:UInt8} (h:s[i]?=some c):o_ pv t (.str s) (.int .i64 (i:Nat))=some (.int .u8 (c.toNat:Nat)):=by
 unfold o_;simp only[ht];rw[if_pos (by omega),Int.toNat_natCast,h];rfl
theorem FN {s0:St} {s:List UInt8} (hl:s.length≤1048576):Ev pv 39 [.str s] s0 (.bool (nS s)) s0:=by
 refine Ev.iZ rfl SS rfl rfl rfl ?_;refine zE ?_;obtain⟨aU,hF,hH⟩:=ri s0;generalize ag .ro s0=S at*;refine zQ 6 ?_;refine ai.qX 12 (.bool ((s==[])||decide (((s.length:Nat):Int)>32))) [6,7,8,9,10,11] ?_ (fun ff tmp=>?_)
 ·refine zQ 3 ?_;refine ae.two 8 rfl (fun bN=>?_) (fun bN=>?_)
  ·refine zQ 4 ?_;refine ae.nil (aO ?_);refine zG ?_
   all_goals(simp[bN];done)
  ·refine zQ 1 ?_;refine ae.jY (aj rfl rfl rfl bN) rfl rfl (by dsimp only[Fr.put,u1,u2]<;>rfl) ?_;refine zQ 2 ?_;refine ae.nil (aO ?_);refine zG ?_
   all_goals(simp[bN];done)
 dsimp only[bk,List.foldl,nth,u2,u1];generalize ff 6=e6;generalize ff 7=e7;generalize ff 8=e8;generalize ff 9=e9;generalize ff 10=YS;generalize ff 11=YR
 by_cases h1:s≠[]∧s.length≤32
 ·have hc:((s==[])||decide (((s.length:Nat):Int)>32))=false:=by
   rw[Bool.or_eq_false_iff];exact⟨by simpa using h1.1,by rw[decide_eq_false_iff_not];omega⟩
  have hn:nS s=s.all fun c=>Du (c.toNat:Nat):=by
   unfold nS;rw[decide_eq_true h1.2];simp[h1.1]
  rw[hn];refine qE rfl (by rw[hc]) ?_;refine zQ 5 ?_;refine ae.jY rfl rfl rfl (by dsimp only[Fr.put,u1,u2]<;>rfl) ?_;refine zQ 3 ?_;refine ai.loop (fun mm fr st=>∃(i:Nat),fr.clean=⟨16,[.str s,cw fr 1,cw fr 2,cw fr 3,cw fr 4,cw fr 5,cw fr 6,cw fr 7,cw fr 8,cw fr 9,cw fr 10,cw fr 11,cw fr 12,cw fr 13,.int .i64 (s.length:Nat),.int .i64 (i:Nat)],[]⟩∧Has s0.bs.length S st []∧(i+mm=s.length)∧((s.take i).all (fun c=>Du (c.toNat:Nat))=true)) (s.length) ?_ ?_
  ·exact⟨0,rfl,hH,by omega,rfl⟩
  rintro mm fr st ⟨i,hfr,hH,hi,ht⟩;rw[hfr];clear hfr;generalize cw fr=ee;clear fr;refine zQ 5 ?_;refine zP (fun h2=>?_) fun h2=>?_
  ·refine zQ 1 ?_
   obtain⟨c,hc⟩:∃c,s[i]?=some c:=⟨s[i]'(by omega),List.getElem?_eq_getElem _⟩
   refine zQ 11 ?_;refine ae.go (d:=.int .u8 (c.toNat:Nat)) (st1:=_) rfl rfl (by exact congrArg (Option.map fun d=>(d,_)) (II rfl hc)) (aa rfl _) ?_;refine zQ 3 ?_;refine ai.qX 5 (.bool (decide (((c.toNat:Nat):Int)≥97) &&decide (((c.toNat:Nat):Int)≤122)||decide (((c.toNat:Nat):Int)≥65) &&decide (((c.toNat:Nat):Int)≤90)||decide (((c.toNat:Nat):Int)≥48) &&decide (((c.toNat:Nat):Int)≤57)||((c.toNat:Nat):Int)==45||((c.toNat:Nat):Int)==95||((c.toNat:Nat):Int)==46)) [] ?_ (fun ff tmp=>?_)
   ·refine zQ 3 ?_;refine ae.two 23 rfl (fun bN=>?_) (fun bN=>?_)
    ·refine zQ 4 ?_;refine ae.two 27 rfl (fun jQ=>?_) (fun jQ=>?_)
     ·refine zQ 28 ?_;refine ae.nil (aO ?_);refine zG ?_
      all_goals(simp[bN,jQ];done)
     ·refine zQ 3 ?_;refine ae.two 30 rfl (fun dw=>?_) (fun dw=>?_)
      ·refine zQ 2 ?_;refine ae.cQ (aj rfl rfl rfl jQ) rfl dw (aa rfl _) ?_;refine zQ 2 ?_;refine ae.two 35 rfl (fun dz=>?_) (fun dz=>?_)
       ·refine zQ 20 ?_;refine ae.nil (aO ?_);refine zG ?_
        all_goals(simp[bN,jQ,dw,dz];done)
       ·refine zQ 3 ?_;refine ae.two 38 rfl (fun ba=>?_) (fun ba=>?_)
        ·refine zQ 2 ?_;refine ae.cQ (aj rfl rfl rfl dz) rfl ba (aa rfl _) ?_;refine zQ 2 ?_;refine ae.two 43 rfl (fun ch=>?_) (fun ch=>?_)
         ·refine zQ 12 ?_;refine ae.nil (aO ?_);refine zG ?_
          all_goals(simp[bN,jQ,dw,dz,ba,ch];done)
         ·refine zQ 4 ?_;refine ae.two 47 rfl (fun cG=>?_) (fun cG=>?_)
          ·refine zQ 8 ?_;refine ae.nil (aO ?_);refine zG ?_
           all_goals(simp[bN,jQ,dw,dz,ba,ch,cG];done)
          ·refine zQ 4 ?_;refine ae.two 51 rfl (fun fR=>?_) (fun fR=>?_)
           ·refine zQ 4 ?_;refine ae.nil (aO ?_);refine zG ?_
            all_goals(simp[bN,jQ,dw,dz,ba,ch,cG,fR];done)
           ·refine zQ 4 ?_;refine ae.nil (aO ?_);refine zG ?_
            all_goals(simp[bN,jQ,dw,dz,ba,ch,cG,fR];done)
        ·refine zQ 2 ?_;refine ae.cC (aj rfl rfl rfl dz) rfl ba (aa rfl _) ?_;refine zQ 6 ?_;refine ae.two 47 rfl (fun cG=>?_) (fun cG=>?_)
         ·refine zQ 8 ?_;refine ae.nil (aO ?_);refine zG ?_
          all_goals(simp[bN,jQ,dw,dz,ba,cG];done)
         ·refine zQ 4 ?_;refine ae.two 51 rfl (fun fR=>?_) (fun fR=>?_)
          ·refine zQ 4 ?_;refine ae.nil (aO ?_);refine zG ?_
           all_goals(simp[bN,jQ,dw,dz,ba,cG,fR];done)
          ·refine zQ 4 ?_;refine ae.nil (aO ?_);refine zG ?_
           all_goals(simp[bN,jQ,dw,dz,ba,cG,fR];done)
      ·refine zQ 2 ?_;refine ae.cC (aj rfl rfl rfl jQ) rfl dw (aa rfl _) ?_;refine zQ 5 ?_;refine ae.two 38 rfl (fun ba=>?_) (fun ba=>?_)
       ·refine zQ 5 ?_;refine ae.two 43 rfl (fun ch=>?_) (fun ch=>?_)
        ·refine zQ 12 ?_;refine ae.nil (aO ?_);refine zG ?_
         all_goals(simp[bN,jQ,dw,ba,ch];done)
        ·refine zQ 4 ?_;refine ae.two 47 rfl (fun cG=>?_) (fun cG=>?_)
         ·refine zQ 8 ?_;refine ae.nil (aO ?_);refine zG ?_
          all_goals(simp[bN,jQ,dw,ba,ch,cG];done)
         ·refine zQ 4 ?_;refine ae.two 51 rfl (fun fR=>?_) (fun fR=>?_)
          ·refine zQ 4 ?_;refine ae.nil (aO ?_);refine zG ?_
           all_goals(simp[bN,jQ,dw,ba,ch,cG,fR];done)
          ·refine zQ 4 ?_;refine ae.nil (aO ?_);refine zG ?_
           all_goals(simp[bN,jQ,dw,ba,ch,cG,fR];done)
       ·refine zQ 9 ?_;refine ae.two 47 rfl (fun cG=>?_) (fun cG=>?_)
        ·refine zQ 8 ?_;refine ae.nil (aO ?_);refine zG ?_
         all_goals(simp[bN,jQ,dw,ba,cG];done)
        ·refine zQ 4 ?_;refine ae.two 51 rfl (fun fR=>?_) (fun fR=>?_)
         ·refine zQ 4 ?_;refine ae.nil (aO ?_);refine zG ?_
          all_goals(simp[bN,jQ,dw,ba,cG,fR];done)
         ·refine zQ 4 ?_;refine ae.nil (aO ?_);refine zG ?_
          all_goals(simp[bN,jQ,dw,ba,cG,fR];done)
    ·refine zQ 7 ?_;refine ae.two 30 rfl (fun dw=>?_) (fun dw=>?_)
     ·refine zQ 5 ?_;refine ae.two 35 rfl (fun dz=>?_) (fun dz=>?_)
      ·refine zQ 20 ?_;refine ae.nil (aO ?_);refine zG ?_
       all_goals(simp[bN,dw,dz];done)
      ·refine zQ 3 ?_;refine ae.two 38 rfl (fun ba=>?_) (fun ba=>?_)
       ·refine zQ 2 ?_;refine ae.cQ (aj rfl rfl rfl dz) rfl ba (aa rfl _) ?_;refine zQ 2 ?_;refine ae.two 43 rfl (fun ch=>?_) (fun ch=>?_)
        ·refine zQ 12 ?_;refine ae.nil (aO ?_);refine zG ?_
         all_goals(simp[bN,dw,dz,ba,ch];done)
        ·refine zQ 4 ?_;refine ae.two 47 rfl (fun cG=>?_) (fun cG=>?_)
         ·refine zQ 8 ?_;refine ae.nil (aO ?_);refine zG ?_
          all_goals(simp[bN,dw,dz,ba,ch,cG];done)
         ·refine zQ 4 ?_;refine ae.two 51 rfl (fun fR=>?_) (fun fR=>?_)
          ·refine zQ 4 ?_;refine ae.nil (aO ?_);refine zG ?_
           all_goals(simp[bN,dw,dz,ba,ch,cG,fR];done)
          ·refine zQ 4 ?_;refine ae.nil (aO ?_);refine zG ?_
           all_goals(simp[bN,dw,dz,ba,ch,cG,fR];done)
       ·refine zQ 2 ?_;refine ae.cC (aj rfl rfl rfl dz) rfl ba (aa rfl _) ?_;refine zQ 6 ?_;refine ae.two 47 rfl (fun cG=>?_) (fun cG=>?_)
        ·refine zQ 8 ?_;refine ae.nil (aO ?_);refine zG ?_
         all_goals(simp[bN,dw,dz,ba,cG];done)
        ·refine zQ 4 ?_;refine ae.two 51 rfl (fun fR=>?_) (fun fR=>?_)
         ·refine zQ 4 ?_;refine ae.nil (aO ?_);refine zG ?_
          all_goals(simp[bN,dw,dz,ba,cG,fR];done)
         ·refine zQ 4 ?_;refine ae.nil (aO ?_);refine zG ?_
          all_goals(simp[bN,dw,dz,ba,cG,fR];done)
     ·refine zQ 8 ?_;refine ae.two 38 rfl (fun ba=>?_) (fun ba=>?_)
      ·refine zQ 5 ?_;refine ae.two 43 rfl (fun ch=>?_) (fun ch=>?_)
       ·refine zQ 12 ?_;refine ae.nil (aO ?_);refine zG ?_
        all_goals(simp[bN,dw,ba,ch];done)
       ·refine zQ 4 ?_;refine ae.two 47 rfl (fun cG=>?_) (fun cG=>?_)
        ·refine zQ 8 ?_;refine ae.nil (aO ?_);refine zG ?_
         all_goals(simp[bN,dw,ba,ch,cG];done)
        ·refine zQ 4 ?_;refine ae.two 51 rfl (fun fR=>?_) (fun fR=>?_)
         ·refine zQ 4 ?_;refine ae.nil (aO ?_);refine zG ?_
          all_goals(simp[bN,dw,ba,ch,cG,fR];done)
         ·refine zQ 4 ?_;refine ae.nil (aO ?_);refine zG ?_
          all_goals(simp[bN,dw,ba,ch,cG,fR];done)
      ·refine zQ 9 ?_;refine ae.two 47 rfl (fun cG=>?_) (fun cG=>?_)
       ·refine zQ 8 ?_;refine ae.nil (aO ?_);refine zG ?_
        all_goals(simp[bN,dw,ba,cG];done)
       ·refine zQ 4 ?_;refine ae.two 51 rfl (fun fR=>?_) (fun fR=>?_)
        ·refine zQ 4 ?_;refine ae.nil (aO ?_);refine zG ?_
         all_goals(simp[bN,dw,ba,cG,fR];done)
        ·refine zQ 4 ?_;refine ae.nil (aO ?_);refine zG ?_
         all_goals(simp[bN,dw,ba,cG,fR];done)
   refine zG ?_;have Mi:(decide (((c.toNat:Nat):Int)≥97) &&decide (((c.toNat:Nat):Int)≤122)||decide (((c.toNat:Nat):Int)≥65) &&decide (((c.toNat:Nat):Int)≤90)||decide (((c.toNat:Nat):Int)≥48) &&decide (((c.toNat:Nat):Int)≤57)||((c.toNat:Nat):Int)==45||((c.toNat:Nat):Int)==95||((c.toNat:Nat):Int)==46)=Du (c.toNat:Nat):=rfl;refine zQ 5 ?_
   cases hb:Du (c.toNat:Nat) with
   |true=>
    refine ai.cond (v:=false) (by dsimp only[Fr.ev,Fr.get,nth,V.look];(rw[Mi,hb];rfl)) (fun h=>by cases h) (fun _=>?_);refine zQ 5 ?_;exact⟨mm-1,by omega,⟨i+1,rfl,hH,by omega,(by rw[List.take_add_one,hc,List.all_append,ht];simp[hb])⟩⟩
   |false=>
    refine ai.cond (v:=true) (by dsimp only[Fr.ev,Fr.get,nth,V.look];(rw[Mi,hb];rfl)) (fun _=>?_) (fun h=>by cases h);refine zQ 4 ?_;have hf:(s.all fun c=>Du (c.toNat:Nat))=false:=by rw[List.all_eq_false];exact⟨c,List.mem_of_getElem? hc,by rw[hb];simp⟩
    rw[hf];refine ai.ret ⟨rx,_,rfl,rl aU hH (rfl)⟩
  ·refine zQ 5 ?_;rw[List.take_of_length_le (by omega)] at ht;rw[ht];refine ai.ret ⟨rx,_,rfl,rl aU hH (rfl)⟩
 ·have hc:((s==[])||decide (((s.length:Nat):Int)>32))=true:=by
   rw[Bool.or_eq_true,decide_eq_true_eq]
   by_cases h2:s=[]
   ·exact .inl (by simpa using h2)
   ·exact .inr (by have:¬s.length≤32:=fun h3=>h1 ⟨h2,h3⟩;omega)
  have hn:nS s=false:=by
   unfold nS
   by_cases h2:s=[]
   ·simp[h2]
   ·have:¬s.length≤32:=fun h3=>h1 ⟨h2,h3⟩;rw[decide_eq_false this];simp
  rw[hn];refine qD rfl (by rw[hc]) ?_;refine zQ 4 ?_;refine ai.ret ⟨rx,_,rfl,rl aU hH (rfl)⟩
theorem HR {N:Nat} {S s0:St} {H:List aZ} (hF:S.flr≤N) (hH:Has N S s0 H):
  ∃d ah,Ev pv 38 [] s0 d ah∧∃k,d=.ptr k 0 0∧Has N S ah (.box k (.mem 0 false [.nul])::.aB .nul 2 (([]:List iJ).map de)::H):=by
 refine Ev.jN rfl SU rfl rfl rfl ?_;refine zE ?_;change ai _ _ _ _ s0 _;refine zQ 7 ?_;refine qb hH fun k2 st hk2 hH=>?_;refine zQ 2 ?_;refine ai.ret ⟨rx,_,_,_,rfl,rfl,?_⟩;exact⟨_,rfl,Has.E_ [_] [_] (hH.eC 2)⟩
noncomputable def cF:List iv→Nat→List iJ→List (List bp)→Except (Int×Nat) (List iJ×List (List bp))
 |[],_,T,out=>.ok (T,out)
 |p::ps,i,T,out=>
  if nS p.nm=false then .error (14,i)
  else if dh T p.nm=true then .error (8,i)
  else if(bK p.tx).2.1≠0 then .error ((bK p.tx).2.1,i)
  else cF ps (i+1) (jL T p.nm i) (out++[dF (bK p.tx).1])
theorem Di {l:List iv} {i:Nat} {q:iv} (h:l[i]?=some q):(l.map aY)[i]?=some (aY q):=by rw[List.getElem?_map,h];rfl
def Ii (N:Nat) (S st:St) (H:List aZ) (d:D):Except (Int×Nat) (List iJ×List (List bp))→Prop
 | .error r=>d=.tup [.nul,.pnil,.int .i64 r.1,.int .i64 (r.2:Nat)]∧Has N S st H
 | .ok r=>∃y k xt,d=.tup [y,.ptr k 0 0,.int .i64 0,.int .i64 0]∧Has N S st (.box k (.mem 0 false [xt])::.aB xt 2 (r.1.map de)::.aB y 1 (r.2.map d_)::H)
theorem zX (T:List iJ) (key:List UInt8) (v:Int):(jL T key v).length≤T.length+1:=by
 unfold jL
 split
 ·rw[List.length_set];omega
 ·unfold tN;simp;omega
theorem Dj {N:Nat} {S s0:St} {H:List aZ} {x:D} {l:List iv} {cont:List UInt8} (hF:S.flr≤N) (hx:Arg N S 2 x (l.map aY)) (hl:l.length≤100) (il:∀p∈l,p.fit) (hH:Has N S s0 H):
  ∃d ah,Ev pv 16 [.agg [x,.str cont]] s0 d ah∧Ii N S ah H d (cF l 0 [] []):=by
 have Kb:=ju hx.1;refine Ev.jN rfl Tb rfl rfl rfl ?_;refine zE ?_;change ai _ _ _ _ s0 _;refine zQ 2 ?_;refine qb hH fun k1 st lG hH=>?_;refine zQ 5 ?_;obtain⟨_,st1,aC,kt,rfl,Jc⟩:=HR hF hH;refine zQ 2 ?_;refine qv aC ?_;refine zQ 2 ?_;have hH:=Jc;refine zQ 9 ?_;refine qn ?_;simp only[List.length_map];refine zQ 2 ?_
 have hH:Has N S st1 (.box kt (.mem 0 false [.nul])::.aB .nul 2 (([]:List iJ).map de)::.aB .nul 1 (([]:List (List bp)).map d_)::H):=by
  have h1:=Has.E_ [_] [_,_] (hH.eC 1);exact h1.erase 3
 refine zQ 1 ?_;refine ai.loop (fun mm fr st=>∃(i:Nat) (xt y:D) (T:List iJ) (out:List (List bp)),fr.clean=⟨18,[cw fr 0,cw fr 1,cw fr 2,cw fr 3,cw fr 4,cw fr 5,.ptr kt 0 0,y,cw fr 8,cw fr 9,cw fr 10,cw fr 11,cw fr 12,cw fr 13,cw fr 14,x,.int .i64 (l.length:Nat),.int .i64 (i:Nat)],[]⟩∧Has N S st (.box kt (.mem 0 false [xt])::.aB xt 2 (T.map de)::.aB y 1 (out.map d_)::H)∧(i+mm=l.length)∧(T.length≤i)∧(out.length=i)∧(cF (l.drop i) i T out=cF l 0 [] [])∧(∀k,y.ref=k+1→S.bs.length≤k)) (l.length) ?_ ?_
 ·exact⟨0,.nul,.nul,[],[],rfl,hH,by omega,by simp,rfl,rfl,(fun k hk=>by simp only[D.ref] at hk;omega)⟩
 rintro mm fr st ⟨i,xt,y,T,out,hfr,hH,hi,hT,HD,wK,gS⟩;rw[hfr];clear hfr;generalize cw fr=ee;clear fr;refine zQ 5 ?_;refine zP (fun h1=>?_) fun h1=>?_
 ·refine zQ 1 ?_
  obtain⟨p,hp⟩:∃p,l[i]?=some p:=⟨l[i]'(by omega),List.getElem?_eq_getElem _⟩
  have wJ:=List.mem_of_getElem? hp;obtain⟨wT,wS⟩:=il p wJ;have gr:=Di hp;obtain⟨hil,W5⟩:=List.getElem?_eq_some_iff.1 hp;rw[List.drop_eq_getElem_cons hil,W5] at wK;have I3:=fun st=>FN (s0:=st) (s:=p.nm) wT;have xh:=fun st=>oP (s0:=st) (b:=p.tx) wS;refine zQ 5 ?_;refine qr fun MR Gi=>?_;refine ae.cA rfl (ev rfl) (by assumption) rfl (aa rfl _) ?_;refine qa hH fun k9 st Re hH=>?_;refine qm ?_;refine qS hH aG fun st hH=>?_;dsimp only[u2,u1,u3,u4,setMany,u5,u6,D.cells,Nat.reduceAdd,aY] at hH;refine zQ 1 ?_;have hH:Has N S st (.box kt (.mem 0 false [xt])::.aB xt 2 (T.map de)::.box k9 (.mem 0 false (aY p))::.aB y 1 (out.map d_)::H):=Has.E_ [_] [_,_] hH;refine zQ 5 ?_;refine qv (I3 _) ?_;refine zQ 2 ?_
  cases hb:nS p.nm with
  |false=>
   have n3:cF (p::l.drop (i+1)) i T out=.error (14,i):=by unfold cF;rw[if_pos hb]
   refine ai.cond (v:=true) (by dsimp only[Fr.ev,Fr.get,nth,V.look];rfl) (fun _=>?_) (fun h=>by cases h);refine zQ 8 ?_;refine ai.ret ⟨rx,_,_,_,rfl,rfl,?_⟩;rw[←wK,n3];exact⟨rfl,hH.drop 4⟩
  |true=>
   refine ai.cond (v:=false) (by dsimp only[Fr.ev,Fr.get,nth,V.look];rfl) (fun h=>by cases h) (fun _=>?_);refine zQ 1 ?_;obtain⟨UU,O0,Vw,wW⟩:=EH (key:=p.nm) (v:=(i:Nat)) hH hF (by omega);refine zQ 7 ?_;refine qv (Ev.kU rfl Vw) ?_;refine zQ 2 ?_;have hH:=wW
   cases Qq:dh T p.nm with
   |true=>
    have n3:cF (p::l.drop (i+1)) i T out=.error (8,i):=by unfold cF;rw[if_neg (by rw[hb];simp),if_pos Qq]
    refine ai.cond (v:=true) (by dsimp only[Fr.ev,Fr.get,nth,V.look];rfl) (fun _=>?_) (fun h=>by cases h);refine zQ 8 ?_;refine ai.ret ⟨rx,_,_,_,rfl,rfl,?_⟩;rw[←wK,n3];exact⟨rfl,hH.drop 4⟩
   |false=>
    refine ai.cond (v:=false) (by dsimp only[Fr.ev,Fr.get,nth,V.look];rfl) (fun h=>by cases h) (fun _=>?_);refine zQ 1 ?_;obtain⟨QF,K7,lg⟩:=xh UU;refine zQ 4 ?_;refine ae.cu rfl rfl QF (aa rfl _) ?_;refine zQ 14 ?_
    by_cases he:(bK p.tx).2.1=0
    ·have hc:((bK p.tx).2.1 !=0)=false:=by rw[he];rfl
     have n3:cF (p::l.drop (i+1)) i T out=cF (l.drop (i+1)) (i+1) (jL T p.nm i) (out++[dF (bK p.tx).1]):=by
      conv=>lhs;unfold cF
      rw[if_neg (by rw[hb];simp),if_neg (by rw[Qq];simp),if_neg (fun h=>h he)]
     rw[n3] at wK;have Eu:=fun st=>yw (s0:=st) (nR K7) K7 lg;have kW:=zX T p.nm (i:Nat);refine qE rfl (by rw[hc]) ?_;refine zQ 4 ?_;refine qv (Eu _) ?_;refine qh (s:=1) (vs:=[_]) hH fun k48 st WI hH=>?_;dsimp only[u2,u1,u3,u4,setMany,u5,u6,D.cells,Nat.reduceAdd,aY] at hH;refine ae.cJ (s:=1) hH rfl (ev rfl) (ev rfl) cW (hH.rows aG) rfl rfl rfl rfl rfl rfl rfl ⟨(Nat.le_of_ble_eq_true rfl),(Nat.le_of_ble_eq_true rfl)⟩ (fun _=>(aa rfl _)) (by simp only[List.length_map,List.length_cons,List.length_nil];omega) (.inl hF) gS (fun UN st gS hH=>?_);dsimp only[u1,u2] at hH;refine zQ 2 ?_;have hH:=(hH.drop 1).erase 2;refine zQ 4 ?_;exact⟨mm-1,by omega,⟨i+1,O0,UN,jL T p.nm (i:Nat),out++[dF (bK p.tx).1],rfl,(by rw[List.map_append];exact hH),by omega,by omega,(by rw[List.length_append];simp only[List.length_cons,List.length_nil];omega),wK,gS⟩⟩
    ·have hc:((bK p.tx).2.1 !=0)=true:=by simpa using he
     have n3:cF (p::l.drop (i+1)) i T out=.error ((bK p.tx).2.1,i):=by
      conv=>lhs;unfold cF
      rw[if_neg (by rw[hb];simp),if_neg (by rw[Qq];simp),if_pos he]
     refine qD rfl (by rw[hc]) ?_;refine zQ 9 ?_;refine ai.ret ⟨rx,_,_,_,rfl,rfl,?_⟩;rw[←wK,n3];exact⟨rfl,hH.drop 4⟩
 ·refine zQ 1 ?_;have Pm:i=l.length:=by omega
  rw[Pm,List.drop_length] at wK;refine zQ 9 ?_;refine ai.ret ⟨rx,_,_,_,rfl,rfl,?_⟩;rw[←wK];exact⟨y,kt,xt,rfl,hH⟩
def tL (l:List iv):D:=.sl ((l.map aY).map (kY 2))
theorem Fs (l:List iv):(∀e∈l.map aY,∀d∈e,mG d=true)∧(l.map aY).map (·.map nh)=l.map aY:=by
 constructor
 ·intro e he d hd;obtain⟨q,hq,rfl⟩:=List.mem_map.1 he;simp only[aY,List.mem_cons,List.not_mem_nil,or_false] at hd
  rcases hd with rfl|rfl<;>rfl
 ·rw[List.map_map];rfl
theorem Dg (l:List iv):∀e∈l.map aY,∀d∈e,b_ d=true:=by
 intro e he d hd;obtain⟨q,hq,rfl⟩:=List.mem_map.1 he;simp only[aY,List.mem_cons,List.not_mem_nil,or_false] at hd
 rcases hd with rfl|rfl<;>rfl
theorem Ih (l:List iv):∀e∈l.map aY,e.length=2:=by
 intro e he;obtain⟨q,hq,rfl⟩:=List.mem_map.1 he;rfl
theorem KC (l:List iv):gY (tL l) 2 (l.map aY):=gY.frozen (Ih l) (Dg l)
theorem It {parts:List (List bp)} (h:∀l∈parts,(∀n∈l,nz n)∧l.length≤500):∀r∈parts.map (fun l=>(⟨sx l,l⟩:Nl)),r.ok:=by
 intro r hr;obtain⟨l,hl,rfl⟩:=List.mem_map.1 hr;exact MW (h l hl).1 (by have:=(h l hl).2;omega)
theorem zg {s0:St} {y:D} {parts:List (List bp)} (h:∀l∈parts,(∀n∈l,nz n)∧l.length≤500) (hl:parts.length≤1048576) (hy:V.Rows s0 1 y (parts.map d_)):Ev pv 19 [y] s0 (og (bc parts)) s0:=by
 have hr:(parts.map (fun l=>(⟨sx l,l⟩:Nl))).map Eo=parts.map d_:=by rw[List.map_map];rfl
 have h1:=A_ (s0:=s0) (x:=y) (rules:=parts.map (fun l=>(⟨sx l,l⟩:Nl))) (by rw[hr];exact hy) (It h) (by rw[List.length_map];exact hl);have h2:(parts.map (fun l=>(⟨sx l,l⟩:Nl))).map (·.l)=parts:=by rw[List.map_map];exact List.map_id _
 rwa [h2] at h1
noncomputable def sB (l:List iv) (cont:List UInt8):Except (Int×Int) (List iJ×iK×iK):=
 if 8<l.length then .error (13,8)
 else match cF l 0 [] [] with
 | .error r=>.error (r.1,(r.2:Nat))
 | .ok r=>
  if cont≠[]∧(bK cont).2.1≠0 then .error ((bK cont).2.1,(l.length:Nat))
  else if(bc r.2).e≠0 then .error ((bc r.2).e,(bc r.2).w)
  else if cont≠[]∧(bc [dF (bK cont).1]).e≠0 then .error ((bc [dF (bK cont).1]).e,(l.length:Nat))
  else .ok (r.1,bc r.2,if cont=[] then⟨[],[],0,0⟩ else bc [dF (bK cont).1])
theorem pL:∀(l:List iv) (i:Nat) (T:List iJ) (out:List (List bp)) (r:Int×Nat),cF l i T out=.error r→r.1≠0
 |[],i,T,out,r,h=>by cases h
 |p::l,i,T,out,r,h=>by
  unfold cF at h
  split at h
  ·cases h;show(14:Int)≠0;decide
  split at h
  ·cases h;show(8:Int)≠0;decide
  split at h
  ·rename_i he;cases h;exact he
  ·exact pL l _ _ _ r h
theorem mU (s0:St):∀(l:List iv) (i:Nat) (T:List iJ) (out:List (List bp)) (r:List iJ×List (List bp)),(∀p∈l,p.fit)→(∀l∈out,(∀n∈l,nz n)∧l.length≤500)→cF l i T out=.ok r→(∀l∈r.2,(∀n∈l,nz n)∧l.length≤500)∧r.2.length=out.length+l.length
 |[],i,T,out,r,hf,ho,h=>by cases h;exact⟨ho,rfl⟩
 |p::l,i,T,out,r,hf,ho,h=>by
  unfold cF at h
  split at h
  ·cases h
  split at h
  ·cases h
  split at h
  ·cases h
  ·have xh:=(oP (s0:=s0) (b:=p.tx) (hf p (List.mem_cons_self ..)).2).2;have hs:=uu xh.1 xh.2
   obtain⟨h1,h2⟩:=mU s0 l _ _ _ r (fun q hq=>hf q (List.mem_cons_of_mem _ hq)) (fun k hk=>by
    rcases List.mem_append.1 hk with hk|hk
    ·exact ho k hk
    ·rw[List.mem_singleton.1 hk];exact hs) h
   refine⟨h1,?_⟩;rw[h2,List.length_append,List.length_cons];simp only[List.length_cons,List.length_nil];omega
def aS (fr:Go.V.Fr) (k:Nat):Go.V.D:=Go.V.nth .bf fr.loc k
def kg (x:D) (s:gZ):List D:=[x,.int .i64 (s.at_:Nat),.int .i64 s.e]
theorem Js (c:UInt8) (st:St):jF pv 5 3 (.int .u8 (c.toNat:Nat)) st=some (.int .i64 (c.toNat:Nat),st):=by
 show some (D.int .i64 (aW .i64 (c.toNat:Nat)),st)=_;have h:c.toNat<256:=c.toNat_lt;rw[bH (by simp only[gv];omega)]
theorem Jt (c:UInt8) (st:St):jF pv 5 133 (.int .u8 (c.toNat:Nat)) st=some (.int .u64 (c.toNat:Nat),st):=by
 show some (D.int .u64 (aW .u64 (c.toNat:Nat)),st)=_;have h:c.toNat<256:=c.toNat_lt;rw[bH (by simp only[gv];omega)]
theorem G0 (u:Nat) (h:u<9223372036854775808) (st:St):jF pv 133 3 (.int .u64 (u:Nat)) st=some (.int .i64 (u:Nat),st):=by
 show some (D.int .i64 (aW .i64 (u:Nat)),st)=_;rw[bH (by simp only[gv];omega)]
theorem HW (u:Nat) (h:u*256<18446744073709551616) (st:St):(gW pv .shl 133 (.int .u64 (u:Nat)) (.int .i64 8)).map (fun d=>(d,st))=some (.int .u64 ((u*256:Nat):Int),st):=by
 show Option.map _ (if(8:Int)<0 then none else some (D.int .u64 (aW .u64 ((u:Nat)*2^(min (8:Int).toNat 64)))))=_
 rw[if_neg (by decide),show((u:Nat):Int)*2^(min (8:Int).toNat 64)=((u*256:Nat):Int) by
  rw[show(min (8:Int).toNat 64)=8 from rfl];omega,bH (by simp only[gv];omega)]
 rfl
theorem KF (u c:Nat) (hc:c<256) (h:u*256+c<18446744073709551616) (st:St):(gW pv .or 133 (.int .u64 ((u*256:Nat):Int)) (.int .u64 (c:Nat))).map (fun d=>(d,st))=some (.int .u64 ((u*256+c:Nat):Int),st):=by
 show Option.map _ (some (D.int .u64 (aW .u64 ((BitVec.ofInt 64 ((u*256:Nat):Int)|||BitVec.ofInt 64 ((c:Nat):Int)).toNat:Nat))))=_;rw[BitVec.ofInt_natCast,BitVec.ofInt_natCast,BitVec.toNat_or,BitVec.toNat_ofNat,BitVec.toNat_ofNat,Nat.mod_eq_of_lt (by omega),Nat.mod_eq_of_lt (by omega)]
 have e:u*256|||c=u*256+c:=by
  have:=Nat.shiftLeft_add_eq_or_of_lt (i:=8) (b:=c) hc u;rw[Nat.shiftLeft_eq] at this;exact this.symm
 rw[e,bH (by simp only[gv];omega)];rfl
theorem rK (u:Nat) (st:St):(gW pv .shr 133 (.int .u64 (u:Nat)) (.int .i64 63)).map (fun d=>(d,st))=some (.int .u64 ((u/9223372036854775808:Nat):Int),st):=by
 show Option.map _ (if(63:Int)<0 then none else some (D.int .u64 (Int.fdiv (u:Nat) (2^(min (63:Int).toNat 64)))))=_;rw[if_neg (by decide),show(2:Int)^(min (63:Int).toNat 64)=((9223372036854775808:Nat):Int) from rfl,Int.fdiv_eq_ediv_of_nonneg _ (Int.natCast_nonneg _)];rfl
theorem gV {N k:Nat} {S s0:St} {H:List aZ} {x:D} {s:gZ} (a:Nat) (e:Int) (hH:Has N S s0 (.box k (.mem 0 false (kg x s))::H)):
  ∃d ah,Ev pv 56 [.ptr k 0 0,.int .i64 (a:Nat),.int .i64 e] s0 d ah∧d=.int .i64 0∧Has N S ah (.box k (.mem 0 false (kg x ⟨a,e⟩))::H):=by
 refine Ev.jN rfl SD rfl rfl rfl ?_;refine zE ?_;have bS:=hH;have hH:=hH.bG;have bO:(ag .rw s0).bs=s0.bs:=rfl;generalize ag .rw s0=S2 at*;refine zQ 12 ?_;refine qT hH aG fun st hH=>?_;dsimp only[u2,u1,u3,u4,setMany,u5,u6,D.cells,Nat.reduceAdd,kg] at hH;refine zQ 2 ?_;refine qT hH aG fun st hH=>?_;dsimp only[u2,u1,u3,u4,setMany,u5,u6,D.cells,Nat.reduceAdd,kg] at hH;refine zQ 5 ?_;refine ai.ret ⟨rx,_,_,_,rfl,ak (rfl),?_⟩;exact⟨rfl,bS.aq bO hH⟩
theorem ye {N:Nat} {S st:St} {e:aZ} {H:List aZ} {x:D} {b:List UInt8} (hH:Has N S st (e::.aB x 1 (V.byteCells b)::H)) {l r:Nat} (h:l≤r∧r≤b.length):V.Rows st 1 (qz x l r) (V.byteCells ((b.take r).drop l)):=by
 have:=(hH.rows aV).MN (l:=l) (r:=r) (by rw[aI];exact h);unfold V.byteCells at this⊢;rw[List.map_drop,List.map_take];exact this
theorem Jf {N k:Nat} {S s0:St} {H:List aZ} {x:D} {b:List UInt8} {s:gZ} (hbl:b.length≤1099511627776) (cn:s.at_≤b.length) (hH:Has N S s0 (.box k (.mem 0 false (kg x s))::.aB x 1 (V.byteCells b)::H)):
  ∃d ah,Ev pv 69 [.ptr k 0 0] s0 d ah∧d=.int .i64 (iY b s).1∧Has N S ah (.box k (.mem 0 false (kg x (iY b s).2))::.aB x 1 (V.byteCells b)::H):=by
 refine Ev.jN rfl Ss rfl rfl rfl ?_;refine zE ?_;have bS:=hH;have hH:=hH.bG;have bO:(ag .rw s0).bs=s0.bs:=rfl;generalize ag .rw s0=S2 at*;refine zQ 13 ?_;refine ai.cond (by rfl) (fun he=>?_) (fun he=>?_)<;>try simp only[bne_iff_ne,bne_eq_false_iff_eq,ne_eq] at he
 ·have hv:iY b s=(0,s):=by unfold iY;rw[if_pos he]
  rw[hv];refine zQ 4 ?_;refine ai.ret ⟨rx,_,_,_,rfl,ak (rfl),?_⟩;exact⟨rfl,bS.aq bO hH⟩
 refine zQ 1 ?_;have Xq:b.take b.length=b:=List.take_length
 have ef:∀{st:St} {e:aZ} {H:List aZ},Has N S2 st (e::.aB x 1 (V.byteCells b)::H)→V.Rows st 1 (qz x s.at_ b.length) (V.byteCells (b.drop s.at_)):=fun h=>by
  have:=ye h (l:=s.at_) (r:=b.length) ⟨cn,Nat.le_refl _⟩
  rwa [Xq] at this
 have hv:iY b s=match b.drop s.at_ with
  |[]=>(0,⟨s.at_,3⟩)
  |k::rest=>
   if 8<k.toNat then(0,⟨s.at_,4⟩)
   else if rest.length<k.toNat then(0,⟨s.at_,3⟩)
   else if(0<k.toNat∧rest.head?=some 0)∨9223372036854775808≤kS 0 (rest.take k.toNat) then(0,⟨s.at_,4⟩)
   else((kS 0 (rest.take k.toNat):Nat),⟨s.at_+1+k.toNat,0⟩):=by
  unfold iY;rw[if_neg (by simpa using he)];cases List.drop s.at_ b<;>rfl
 refine zQ 10 ?_;refine ae.prt rfl (ev rfl) (hH.rows aV) rfl rfl (zm (by rw[aI];exact cn)) ⟨by rw[aI];exact cn,by rw[aI];exact Nat.le_refl _⟩ (by dsimp only[Fr.put,u1,u2]<;>rfl) ?_;refine zQ 2 ?_;rw[aI];have hdl:(b.drop s.at_).length=b.length-s.at_:=List.length_drop;have Od:=aI (b.drop s.at_);refine zQ 4 ?_;refine ae.iA rfl (ev rfl) (ef hH) rfl (by dsimp only[Fr.put,u1,u2]<;>rfl) ?_;refine zQ 2 ?_;rw[Od]
 obtain⟨R,hR⟩:∃R,b.drop s.at_=R:=⟨_,rfl⟩
 rw[hR] at hv hdl;simp only[hR] at ef⊢;clear Od
 cases R with
 |nil=>
  simp only at hv;rw[hv];refine ai.cond (v:=true) (by dsimp only[Fr.ev,Fr.get,nth,V.look];rfl) (fun _=>?_) (fun h=>by cases h);refine zQ 7 ?_;obtain⟨_,st,aC,rfl,hH⟩:=gV s.at_ 3 hH;refine qv aC ?_;refine zQ 2 ?_;refine ai.ret ⟨rx,_,_,_,rfl,ak (rfl),?_⟩;exact⟨rfl,bS.aq bO hH⟩
 |cons c rest=>
 simp only at hv;simp only[List.length_cons] at hdl⊢;have Oa:(((rest.length+1:Nat):Int)==0)=false:=by rw[beq_eq_false_iff_ne];omega
 refine qE rfl (by rw[Oa]) ?_;refine zQ 1 ?_;have gr:(V.byteCells (c::rest))[0]?=some [.int .u8 (c.toNat:Nat)]:=rfl;refine zQ 3 ?_;refine ae.oL (i:=0) rfl (ev rfl) (ev rfl) (ef hH) rfl rfl gr (fun _=>by dsimp only[Fr.put,u1,u2]<;>rfl) (fun Ye QU=>?_);refine ae.cO rfl (ev rfl) QU rfl (by dsimp only[Fr.put,u1,u2]<;>rfl) ?_;refine ae.go (d:=.int .i64 (c.toNat:Nat)) (st1:=_) rfl rfl (by exact Js c _) (by dsimp only[Fr.put,u1,u2]<;>rfl) ?_;refine zQ 2 ?_
 obtain⟨kn,hkn⟩:∃kn,c.toNat=kn:=⟨_,rfl⟩
 rw[hkn] at hv⊢;refine zQ 6 ?_;refine zP (fun h8=>?_) fun h8=>?_
 ·rw[if_pos (by omega)] at hv;rw[hv];refine zQ 7 ?_;obtain⟨_,st,aC,rfl,hH⟩:=gV s.at_ 4 hH;refine qv aC ?_;refine zQ 2 ?_;refine ai.ret ⟨rx,_,_,_,rfl,ak (rfl),?_⟩;exact⟨rfl,bS.aq bO hH⟩
 rw[if_neg (by omega)] at hv;refine zQ 5 ?_;refine ae.iA rfl (ev rfl) (ef hH) rfl (by dsimp only[Fr.put,u1,u2]<;>rfl) ?_;refine qm ?_;refine ae.eN (z:=((1+kn:Nat):Int)) rfl (ev rfl) (ev rfl) (by(try simp only[List.length_reverse,List.length_cons,List.length_nil,List.length_append,List.length_map,List.length_set]);rw[wrap_i64 (by omega) (by omega)]<;>omega) (by dsimp only[Fr.put,u1,u2]<;>rfl) ?_;refine zQ 2 ?_;simp only[aI,List.length_cons]
 by_cases hs:rest.length<kn
 ·rw[if_pos hs] at hv;rw[hv];have hc:decide (((rest.length+1:Nat):Int)<((1+kn:Nat):Int))=true:=by rw[decide_eq_true_eq];omega
  refine qD rfl (by rw[hc]) ?_;refine zQ 7 ?_;obtain⟨_,st,aC,rfl,hH⟩:=gV s.at_ 3 hH;refine qv aC ?_;refine zQ 2 ?_;refine ai.ret ⟨rx,_,_,_,rfl,ak (rfl),?_⟩;exact⟨rfl,bS.aq bO hH⟩
 rw[if_neg hs] at hv;have hc:decide (((rest.length+1:Nat):Int)<((1+kn:Nat):Int))=false:=by rw[decide_eq_false_iff_not];omega
 refine qE rfl (by rw[hc]) ?_;refine zQ 1 ?_
 obtain⟨l,hl⟩:∃l,rest.take kn=l:=⟨_,rfl⟩
 have nc:l.length=kn:=by rw[←hl,List.length_take];omega
 rw[hl] at hv
 obtain⟨y,hy⟩:∃y,qz (qz x s.at_ b.length) 1 (1+kn)=y:=⟨_,rfl⟩
 have uW:∀{st:St} {e:aZ} {H:List aZ},Has N S2 st (e::.aB x 1 (V.byteCells b)::H)→V.Rows st 1 y (V.byteCells l):=fun h=>by
  have h2:=(ef h).MN (l:=1) (r:=1+kn) (by rw[aI,List.length_cons];omega);rw[hy] at h2
  have e:((V.byteCells (c::rest)).take (1+kn)).drop 1=V.byteCells l:=by
   rw[←hl,Nat.add_comm 1 kn];unfold V.byteCells;rw[List.map_cons,List.take_succ_cons,List.drop_succ_cons,List.drop_zero,List.map_take]
  rwa [e] at h2
 refine zQ 9 ?_;refine ae.eN (z:=((1+kn:Nat):Int)) rfl (ev rfl) (ev rfl) (by(try simp only[List.length_reverse,List.length_cons,List.length_nil,List.length_append,List.length_map,List.length_set]);rw[wrap_i64 (by omega) (by omega)]<;>omega) (by dsimp only[Fr.put,u1,u2]<;>rfl) ?_;refine ae.prt rfl (ev rfl) (ef hH) rfl rfl (qd (m:=1) (n:=1+kn) (by rw[aI,List.length_cons];omega)) ⟨by omega,by rw[aI,List.length_cons];omega⟩ (by dsimp only[Fr.put,u1,u2]<;>rfl) ?_;rw[hy];refine ae.iA rfl (ev rfl) (uW hH) rfl (by dsimp only[Fr.put,u1,u2]<;>rfl) ?_;rw[aI];refine zQ 2 ?_
 have Ws:∀(i u:Nat),i≤7→u<256^i→u*256+255<18446744073709551616:=fun i u hi hu=>by
  have h1:256^i≤256^7:=Nat.pow_le_pow_right (by decide) hi;have h2:(256:Nat)^7=72057594037927936:=by decide
  omega
 refine zQ 1 ?_;refine ai.loop (fun mm fr st=>∃(i u:Nat),fr.clean=⟨60,[.ptr k 0 0,aS fr 1,aS fr 2,qz x s.at_ b.length,.int .i64 (kn:Nat),.int .u64 (u:Nat),aS fr 6,aS fr 7,aS fr 8,aS fr 9,aS fr 10,aS fr 11,aS fr 12,aS fr 13,aS fr 14,aS fr 15,aS fr 16,aS fr 17,aS fr 18,aS fr 19,aS fr 20,aS fr 21,aS fr 22,aS fr 23,aS fr 24,aS fr 25,aS fr 26,aS fr 27,aS fr 28,aS fr 29,aS fr 30,aS fr 31,aS fr 32,aS fr 33,aS fr 34,aS fr 35,aS fr 36,aS fr 37,aS fr 38,aS fr 39,aS fr 40,aS fr 41,aS fr 42,aS fr 43,aS fr 44,aS fr 45,aS fr 46,aS fr 47,aS fr 48,aS fr 49,aS fr 50,aS fr 51,aS fr 52,aS fr 53,aS fr 54,aS fr 55,aS fr 56,y,.int .i64 (l.length:Nat),.int .i64 (i:Nat)],[]⟩∧Has N S2 st (.box k (.mem 0 false (kg x s))::.aB x 1 (V.byteCells b)::H)∧(i+mm=l.length)∧(kS u (l.drop i)=kS 0 l)∧(u<256^i)) (l.length) ?_ ?_
 ·exact⟨0,0,rfl,hH,by omega,rfl,by decide⟩
 rintro mm fr st ⟨i,u,hfr,hH,hi,hu,Vt⟩;rw[hfr];clear hfr;generalize aS fr=ee;clear fr;refine zQ 4 ?_
 by_cases hlt:i<l.length
 ·have ny:decide (((i:Nat):Int)<((l.length:Nat):Int))=true:=by rw[decide_eq_true_eq];omega
  refine qq<|qD rfl (by rw[ny]) ?_;refine zQ 3 ?_
  obtain⟨q,hq⟩:∃q,l[i]?=some q:=⟨l[i]'hlt,List.getElem?_eq_getElem _⟩
  have qK:(V.byteCells l)[i]?=some [.int .u8 (q.toNat:Nat)]:=by unfold V.byteCells;rw[List.getElem?_map,hq];rfl
  have yU:l.drop i=q::l.drop (i+1):=by
   have:=List.drop_eq_getElem_cons (l:=l) (i:=i) hlt;rw[this];congr 1;rw[List.getElem?_eq_getElem hlt] at hq;exact Option.some.inj hq
  rw[yU] at hu;have IY:q.toNat<256:=q.toNat_lt;have Yl:=Ws i u (by omega) Vt;refine zQ 2 ?_;refine ae.oL rfl (ev rfl) (ev rfl) (uW hH) rfl rfl qK (fun _=>(aa rfl _)) (fun U5 Nr=>?_);refine ae.cO rfl (ev rfl) Nr rfl (aa rfl _) ?_;refine zQ 4 ?_;refine ae.go (d:=.int .u64 ((u*256:Nat):Int)) (st1:=_) rfl rfl (by exact HW u (by omega) _) (aa rfl _) ?_;refine qm ?_;refine ae.go (d:=.int .u64 (q.toNat:Nat)) (st1:=_) rfl rfl (by exact Jt q _) (aa rfl _) ?_;refine ae.go (d:=.int .u64 ((u*256+q.toNat:Nat):Int)) (st1:=_) rfl rfl (by exact KF u q.toNat IY (by omega) _) (aa rfl _) ?_;refine zQ 6 ?_;exact⟨mm-1,by omega,⟨i+1,u*256+q.toNat,rfl,hH,by omega,hu,by rw[Nat.pow_succ];omega⟩⟩
 ·have ny:decide (((i:Nat):Int)<((l.length:Nat):Int))=false:=by rw[decide_eq_false_iff_not];omega
  refine qq<|qE rfl (by rw[ny]) ?_;refine zQ 1 ?_;have hil:i=l.length:=by omega
  rw[hil,List.drop_length] at hu;have hu:u=kS 0 l:=hu;rw[←hu] at hv
  have Vv:u<18446744073709551616:=by
   have h1:256^i≤256^8:=Nat.pow_le_pow_right (by decide) (by omega);have h2:(256:Nat)^8=18446744073709551616:=by decide
   omega
  have hwr:∀st:St,Has N S2 st (.box k (.mem 0 false (kg x s))::.aB x 1 (V.byteCells b)::H)→∃d ah,Ev pv 56 [.ptr k 0 0,.int .i64 (s.at_:Nat),.int .i64 4] st d ah∧d=.int .i64 0∧Has N S2 ah (.box k (.mem 0 false (kg x ⟨s.at_,4⟩))::.aB x 1 (V.byteCells b)::H):=fun st hH=>gV s.at_ 4 hH
  have I_:(((u/9223372036854775808:Nat):Int)==1)=decide (9223372036854775808≤u):=by
   by_cases h:9223372036854775808≤u
   ·have:u/9223372036854775808=1:=by omega
    rw[this,decide_eq_true h];rfl
   ·have:u/9223372036854775808=0:=by omega
    rw[this,decide_eq_false h];rfl
  by_cases YO:kn=0
  ·have bN:decide (((kn:Nat):Int)>0)=false:=by rw[decide_eq_false_iff_not];omega
   have J_:l=[]:=List.length_eq_zero_iff.1 (by omega);have Ng:u=0:=by rw[hu,J_];rfl
   have dx:false=false:=rfl;rw[if_neg (by omega)] at hv;rw[hv];subst Ng;refine zQ 13 ?_;refine ae.go (d:=.int .u64 0) (st1:=_) rfl rfl (by exact rK 0 _) (aa rfl _) ?_;refine zQ 12 ?_;refine ae.eN (z:=((1+kn:Nat):Int)) rfl (ev rfl) (ev rfl) (by(try simp only[List.length_reverse,List.length_cons,List.length_nil,List.length_append,List.length_map,List.length_set]);rw[wrap_i64 (by omega) (by omega)]<;>omega) (aa rfl _) ?_;refine ae.eN (z:=((s.at_+1+kn:Nat):Int)) rfl (ev rfl) (ev rfl) (by(try simp only[List.length_reverse,List.length_cons,List.length_nil,List.length_append,List.length_map,List.length_set]);rw[wrap_i64 (by omega) (by omega)]<;>omega) (aa rfl _) ?_;refine zQ 2 ?_;refine qT hH aG fun st hH=>?_;dsimp only[u2,u1,u3,u4,setMany,u5,u6,D.cells,Nat.reduceAdd,kg] at hH;refine zQ 4 ?_;refine ae.go (d:=.int .i64 (0:Nat)) (st1:=_) rfl rfl (by exact G0 0 (by decide) _) (aa rfl _) ?_;refine zQ 2 ?_;have RG:s.e=0:=by simpa using he
   refine ai.ret ⟨rx,_,_,_,rfl,ak (rfl),?_⟩;rw[RG] at hH;exact⟨rfl,bS.aq bO hH⟩
  ·have bN:decide (((kn:Nat):Int)>0)=true:=by rw[decide_eq_true_eq];omega
   obtain⟨z,JP,rfl⟩:∃z r,rest=z::r:=by
    cases rest with
    |nil=>simp only[List.length_nil] at hs;omega
    |cons z r=>exact⟨z,r,rfl⟩
   have Pa:(V.byteCells (c::z::JP))[1]?=some [.int .u8 (z.toNat:Nat)]:=rfl
   have hz:(((z.toNat:Nat):Int)==0)=decide (z=0):=by
    by_cases h:z=0
    ·subst h;rfl
    ·have:z.toNat≠0:=fun e=>h (by rw[←UInt8.toNat_inj];exact e);rw[decide_eq_false h,beq_eq_false_iff_ne];omega
   by_cases hz0:z=0
   ·have dx:(((z.toNat:Nat):Int)==0)=true:=by rw[hz,decide_eq_true hz0]
    rw[if_pos (.inl ⟨by omega,by rw[hz0];rfl⟩)] at hv;rw[hv];refine zQ 7 ?_;refine ae.oL (i:=1) (aj rfl rfl rfl bN) (ev rfl) (ev rfl) (ef hH) rfl rfl Pa (fun _=>(aa rfl _)) (fun TN Gf=>?_);refine ae.cO (aj rfl rfl rfl bN) (ev rfl) Gf rfl (aa rfl _) ?_;refine zQ 16 ?_;obtain⟨_,st,aC,rfl,hH⟩:=hwr _ hH;refine qv aC ?_;refine zQ 2 ?_;refine ai.ret ⟨rx,_,_,_,rfl,ak (rfl),?_⟩;exact⟨rfl,bS.aq bO hH⟩
   ·have dx:(((z.toNat:Nat):Int)==0)=false:=by rw[hz,decide_eq_false hz0]
    by_cases hbig:9223372036854775808≤u
    ·rw[if_pos (.inr hbig)] at hv;rw[hv];rw[decide_eq_true hbig] at I_;refine zQ 7 ?_;refine ae.oL (i:=1) (aj rfl rfl rfl bN) (ev rfl) (ev rfl) (ef hH) rfl rfl Pa (fun _=>(aa rfl _)) (fun TN Gf=>?_);refine ae.cO (aj rfl rfl rfl bN) (ev rfl) Gf rfl (aa rfl _) ?_;refine zQ 4 ?_;refine ae.go (d:=.int .u64 ((u/9223372036854775808:Nat):Int)) (st1:=_) (aj rfl rfl rfl dx) rfl (by exact rK u _) (aa rfl _) ?_;refine zQ 3 ?_;refine ai.cond (v:=true) (by dsimp only[Fr.ev,Fr.get,nth,V.look];exact congrArg D.bool I_) (fun _=>?_) (fun h=>by cases h);refine zQ 7 ?_;obtain⟨_,st,aC,rfl,hH⟩:=hwr _ hH;refine qv aC ?_;refine zQ 2 ?_;refine ai.ret ⟨rx,_,_,_,rfl,ak (rfl),?_⟩;exact⟨rfl,bS.aq bO hH⟩
    ·have hzz:¬((0<kn∧(z::JP).head?=some 0)∨9223372036854775808≤u):=by
      rintro(⟨_,h⟩|h)
      ·exact hz0 (Option.some.inj h)
      ·exact hbig h
     rw[if_neg hzz] at hv;rw[hv];rw[decide_eq_false hbig] at I_;refine zQ 7 ?_;refine ae.oL (i:=1) (aj rfl rfl rfl bN) (ev rfl) (ev rfl) (ef hH) rfl rfl Pa (fun _=>(aa rfl _)) (fun TN Gf=>?_);refine ae.cO (aj rfl rfl rfl bN) (ev rfl) Gf rfl (aa rfl _) ?_;refine zQ 4 ?_;refine ae.go (d:=.int .u64 ((u/9223372036854775808:Nat):Int)) (st1:=_) (aj rfl rfl rfl dx) rfl (by exact rK u _) (aa rfl _) ?_;refine zQ 3 ?_;refine ai.cond (v:=false) (by dsimp only[Fr.ev,Fr.get,nth,V.look];exact congrArg D.bool I_) (fun h=>by cases h) (fun _=>?_);refine zQ 8 ?_;refine ae.eN (z:=((1+kn:Nat):Int)) rfl (ev rfl) (ev rfl) (by(try simp only[List.length_reverse,List.length_cons,List.length_nil,List.length_append,List.length_map,List.length_set]);rw[wrap_i64 (by omega) (by omega)]<;>omega) (aa rfl _) ?_;refine ae.eN (z:=((s.at_+1+kn:Nat):Int)) rfl (ev rfl) (ev rfl) (by(try simp only[List.length_reverse,List.length_cons,List.length_nil,List.length_append,List.length_map,List.length_set]);rw[wrap_i64 (by omega) (by omega)]<;>omega) (aa rfl _) ?_;refine zQ 2 ?_;refine qT hH aG fun st hH=>?_;dsimp only[u2,u1,u3,u4,setMany,u5,u6,D.cells,Nat.reduceAdd,kg] at hH;refine zQ 4 ?_;refine ae.go (d:=.int .i64 (u:Nat)) (st1:=_) rfl rfl (by exact G0 u (by omega) _) (aa rfl _) ?_;refine zQ 2 ?_;have RG:s.e=0:=by simpa using he
     refine ai.ret ⟨rx,_,_,_,rfl,ak (rfl),?_⟩;rw[RG] at hH;exact⟨rfl,bS.aq bO hH⟩
def dW {α:Type} (one:gZ→α×gZ):Nat→gZ→List α×gZ
 |0,s=>([],s)
 |n+1,s=>if s.e≠0 then([],s) else((one s).1::(dW one n (one s).2).1,(dW one n (one s).2).2)
theorem AK {α:Type} (one:gZ→α×gZ) {s:gZ} (h:s.e≠0):∀n,dW one n s=([],s)
 |0=>rfl
 |n+1=>by unfold dW;rw[if_pos h]
theorem rD {b:List UInt8} {m:Int} {s:gZ} (h:s.at_≤b.length):(b7 b m s).2.at_≤b.length∧0≤(b7 b m s).1∧(b7 b m s).1<9223372036854775808∧((b7 b m s).2.e=0→(b7 b m s).1≤max m 0):=by
 obtain⟨o1,o2,o3,o4,o5⟩:=BT (b:=b) (s:=s) h;unfold b7
 split
 ·exact⟨h,by simp,by simp,fun h=>by simp at h⟩
 ·rename_i hn
  exact⟨o1,o3,o4,fun h=>by
   by_cases h':m<(iY b s).1
   ·exact absurd ⟨h,h'⟩ hn
   ·omega⟩
theorem uT {b:List UInt8} {m:Int} {s:gZ} (h:s.at_≤b.length):(gp b m s).2.at_≤b.length∧0≤(gp b m s).1∧(gp b m s).1<9223372036854775808∧((gp b m s).2.e=0→(gp b m s).1≤max m 0):=by
 obtain⟨o1,o2,o3,o4⟩:=rD (m:=m) h;unfold gp
 split
 ·exact⟨h,o2,o3,fun h=>by simp at h⟩
 ·exact⟨o1,o2,o3,o4⟩
theorem uU {α:Type} {b:List UInt8} {one:gZ→α×gZ} (ho:∀s:gZ,s.at_≤b.length→(one s).2.at_≤b.length):∀n (s:gZ),s.at_≤b.length→(dW one n s).2.at_≤b.length
 |0,s,h=>h
 |n+1,s,h=>by
  unfold dW
  split
  ·exact h
  ·exact uU ho n _ (ho s h)
theorem rH {b:List UInt8} {m:Int} {s:gZ} (h:s.at_≤b.length):(eV b m s).2.at_≤b.length∧((eV b m s).1.length:Int)≤max m 0:=by
 obtain⟨u1,u2,u3,u4⟩:=rD (m:=m) h;unfold eV
 split
 ·exact⟨u1,by simp;omega⟩
 ·split
  ·exact⟨h,by simp;omega⟩
  ·rename_i h1 h2;have h1:=u4 (by simpa using h1);refine⟨?_,?_⟩
   ·show(b7 b m s).2.at_+(b7 b m s).1.toNat≤_;omega
   ·rw[List.length_take];omega
theorem mO:∀(l:List UInt8) (u:Nat),kS u l=u*256^l.length+kS 0 l
 |[],u=>by simp[kS]
 |c::l,u=>by
  simp only[kS,List.length_cons];rw[mO l (u*256+c.toNat),mO l (0*256+c.toNat),Nat.pow_succ,Nat.add_mul,Nat.zero_mul,Nat.zero_add,Nat.mul_assoc,Nat.mul_comm 256];omega
theorem Bs:∀(k m:Nat),kS 0 (xe k m)=m %256^k
 |0,m=>by simp[xe,kS,Nat.mod_one]
 |k+1,m=>by
  simp only[xe]
  have h2:kS 0 (UInt8.ofNat (m/256^k)::xe k m)=(UInt8.ofNat (m/256^k)).toNat*256^(xe k m).length+kS 0 (xe k m):=by
   show kS (0*256+_) _=_;rw[Nat.zero_mul,Nat.zero_add];exact mO _ _
  rw[h2,ot,Bs k m,UInt8.toNat_ofNat'];show m/256^k %256*256^k+m %256^k=m %(256^k*256);rw[show m %(256^k*256)=m %256^k+256^k*(m/256^k %256) from Nat.mod_mul,Nat.mul_comm,Nat.add_comm]
theorem su {b post:List UInt8} {s:gZ} (h:s.e=0) {n:Int} (hn:0≤n∧n<9223372036854775808) (hd:b.drop s.at_=ga n++post):iY b s=(n,⟨s.at_+(ga n).length,0⟩):=by
 obtain⟨m,rfl⟩:∃m:Nat,n=(m:Nat):=⟨n.toNat,by omega⟩
 have hm:m<9223372036854775808:=by omega
 have gT:=F2 m;obtain⟨k1,k2⟩:=B_ (m:=m) (by omega);unfold iY;rw[if_neg (by simpa using h),hd];unfold ga;rw[Int.toNat_natCast,List.cons_append];have hk:(UInt8.ofNat (kB m)).toNat=kB m:=by rw[UInt8.toNat_ofNat',Nat.mod_eq_of_lt (by omega)]
 simp only[hk];have hbl:=ot (kB m) m;have Q3:m %256^kB m=m:=Nat.mod_eq_of_lt (Nat.lt_of_div_eq_zero (Nat.pow_pos (by decide)) k1)
 have KY:(xe (kB m) m++post).take (kB m)=xe (kB m) m:=by
  have:=List.take_left (l₁:=xe (kB m) m) (l₂:=post)
  rwa [hbl] at this
 rw[if_neg (by omega),if_neg (by rw[List.length_append,hbl];omega),KY,Bs,Q3,if_neg]
 ·simp only[List.length_cons,hbl]
  congr 2;omega
 ·rintro(⟨h0,h1⟩|h1)
  ·obtain⟨q,hq⟩:∃q,kB m=q+1:=⟨kB m-1,by omega⟩
   rw[hq] at h1;simp only[xe,List.cons_append,List.head?_cons,Option.some.injEq] at h1;have h3:=k2 q (by omega)
   have h4:m/256^q<256:=by
    rw[hq,Nat.pow_succ,←Nat.div_div_eq_div_mul] at k1;exact Nat.lt_of_div_eq_zero (by decide) k1
   have h5:=congrArg UInt8.toNat h1;rw[UInt8.toNat_ofNat',Nat.mod_eq_of_lt h4] at h5;have h6:m/256^q=0:=h5;omega
  ·omega
theorem lM {b p q:List UInt8} {i:Nat} (h:b.drop i=p++q):b.drop (i+p.length)=q:=by
 rw[←List.drop_drop,h,List.drop_left]
theorem mP {b post:List UInt8} {m:Int} {s:gZ} (h:s.e=0) {t:List UInt8} (ht:(t.length:Int)≤m) (hm:m<1000000) (hd:b.drop s.at_=gg t++post):eV b m s=(t,⟨s.at_+(gg t).length,0⟩):=by
 unfold gg at hd;rw[List.append_assoc] at hd;have hn:=su h (n:=(t.length:Nat)) (by omega) hd
 have hu:b7 b m s=((((t.length:Nat):Int),⟨s.at_+(ga (t.length:Nat)).length,0⟩):Int×gZ):=by
  unfold b7;rw[hn,if_neg (by simp;omega)]
 have qN:=lM hd
 have hle:s.at_+(ga (t.length:Nat)).length+t.length≤b.length:=by
  have:=congrArg List.length qN;rw[List.length_drop,List.length_append] at this;have h3:=congrArg List.length hd;rw[List.length_drop,List.length_append,List.length_append] at h3;have h4:=nP (t.length:Nat);omega
 unfold eV;rw[hu,if_neg (by simp),if_neg (by simp;omega)];simp only[Int.toNat_natCast];rw[qN,List.take_left];unfold gg;rw[List.length_append]
 congr 2;omega
end Go.Proofs.YthahmilhpmfkfaaGreat
