import Derived.Test.YtbdnabmmlbiomaaGreatXGQa
import Derived.Test.YtbdnabmmlbiomaaGreatXGUb
set_option maxRecDepth 100000
set_option maxHeartbeats 4000000
set_option linter.unusedSimpArgs false
set_option linter.unusedVariables false
namespace Go.Proofs.YtbdnabmmlbiomaaGreat
open Go.V Go
def yB (fr:Go.V.Fr) (k:Nat):Go.V.D:=Go.V.nth .bp fr.loc k
theorem pb {gs:List (Nat×Nat)} {s:fk} {r:Int} (h:kZ gs s.i r=false):c9 gs s r=s:=by
 unfold c9;rw[if_neg (by rw[h];simp)]
theorem mA {gs:List (Nat×Nat)} {s:fk} {r:Int} (h:kZ gs s.i r=true):(c9 gs s r).i=s.i+1:=by
 unfold c9;rw[if_pos h]
theorem LJ {m:Nat} (hA:∀m',m'+1=m→lQ m') {N k:Nat} {S s0:St} {H:List bt} {gs:List (Nat×Nat)} {bS:D} {b_:List Int} {s:fk} (bc:lu gs b_) (he:s.e=0) (hi:s.i<gs.length) (hg:s.g≤4) (ho:s.o+m=20) (hH:Has N S s0 (.box k (.mem 0 false (a8 gs bS s))::.aP bS 1 (b_.map ay)::H)):
  ∃d ai,Ev pv 151 [.ptr k 0 0] s0 d ai∧∃(s':fk),ju gs s s' d 2∧Has N S ai (.box k (.mem 0 false (a8 gs bS s'))::.aP bS 1 (b_.map ay)::H):=by
 have s9:=bc.gl;have iq:=bc.pl;refine Ev.il rfl Ub rfl rfl rfl ?_;dsimp only[u3,u4,List.length,Nat.reduceSub,Nat.reduceAdd,w1,w2];have cF:=hH;have hH:=hH.cI;have ct:(ag .rw s0).bs=s0.bs:=rfl;generalize ag .rw s0=S2 at*;have Ad:Arg N S2 2 (dJ gs) (gs.map aQ):=Arg.pure (fun st=>dF st gs)
 obtain⟨g,Qy⟩:∃g,gs[s.i]?=some g:=⟨gs[s.i]'hi,List.getElem?_eq_getElem _⟩
 have gJ:(gs.map aQ)[s.i]?=some (aQ g):=by rw[List.getElem?_map,Qy];rfl
 have hwr:∀(st:St),Has N S2 st (.box k (.mem 0 false (a8 gs bS s))::.aP bS 1 (b_.map ay)::H)→∃d ai,Ev pv 100 [.ptr k 0 0,.int .i64 (s.i:Nat),.int .i64 4] st d ai∧d=.sl []∧∃s4,ju gs s s4 (.sl []) 2∧Has N S2 ai (.box k (.mem 0 false (a8 gs bS s4))::.aP bS 1 (b_.map ay)::H):=by
  intro st hH;obtain⟨d,ai,aK,h6,hH⟩:=dc (s:=s) s.i 4 (by omega) hH;obtain⟨w1,w2,w3,w4⟩:=dt (b_:=b_) (s:=s) (i:=s.i) (e:=4) he (by decide);exact⟨d,ai,aK,h6,_,gq w3 (by omega) (by omega) (by omega) w1,hH⟩
 have ke:∀(st:St) (s1:fk) (op:Int) (w:D) (a:List Rg) (kk:Nat),(w=bJ a∨w=.nul∧a=[])→a.length≤1048576→s1.o=s.o→s1.g≤4→s.i<s1.i→s1.i≤gs.length→S2.bs.length≤kk→Has N S2 st (.aP (.win kk 0 0 1 7) 7 [[.int .i64 op,w,.int .i64 0,.int .i64 0,.bool false,.int .i64 0,.int .i64 0]]::.box k (.mem 0 false (a8 gs bS s1))::.aP bS 1 (b_.map ay)::H)→
   ∃d ai,cB .rw false s0 st (.win kk 0 0 1 7)=some (d,ai)∧∃(s':fk),ju gs s s' d 2∧Has N S ai (.box k (.mem 0 false (a8 gs bS s'))::.aP bS 1 (b_.map ay)::H):=by
  intro st s1 op w a kk hw ha h1 h2 h3 h4 hk hH;have hfz:=i_ hH aB (L:=s0.bs.length) hw (fun k hk=>by simp only[D.ref] at hk;rw[←ct];omega);refine⟨_,_,ak hfz,s1,⟨h1,h2,by omega,h4,_,rfl,Da ha (by omega),by simp,?_⟩,cF.aA ct (hH.drop 1)⟩
  by_cases he:s1.e=0
  ·exact .inr ⟨he,by simp only[List.length_cons,List.length_nil];omega⟩
  ·exact .inl he
 refine qq<|qj fun K hK=>qm ?_;refine qe hK<|qq<|qj fun K hK=>qm ?_;refine qg ?_;refine qp (o:=2) ?_;refine ql hH aB ?_;refine qm ?_;refine qe hK<|qq<|qq<|qj fun K hK=>qm ?_;refine qm ?_;obtain⟨_,st,aK,rfl,hH⟩:=zg (s:=s) s.i hi hH;refine qv aK ?_;refine qe hK ?_;refine qc (fun hb=>?_) (fun hb=>?_)<;>try simp only[cs] at hb
 ·refine qq<|qj fun K hK=>qm ?_;refine qm ?_;obtain⟨_,st,aK,rfl,s4,hN,hH⟩:=hwr _ hH;refine qv aK ?_;refine qm ?_;refine qe hK<|ab.ret ⟨rx,_,_,_,rfl,ak (rfl),?_⟩;exact⟨s4,hN,cF.aA ct hH⟩
 refine ab.skip<|qq<|qj fun K hK=>qm ?_;refine qg ?_;refine qp (o:=0) ?_;refine ql hH aB ?_;refine qm ?_;refine qr fun Vv Qh=>?_;refine qf (fo:=0) fun Vu Qg=>?_;refine qR ?_;refine qm ?_;refine qe hK<|qq<|qj fun K hK=>qm ?_;refine qe hK<|ab.block<|qq<|qj fun K hK=>qg ?_;refine qm ?_;refine qe hK ?_;refine ab.cond (by rfl) (fun YY=>?_) (fun YY=>?_)<;>try simp only[beq_iff_eq,beq_eq_false_iff_ne,ne_eq] at YY
 ·refine qq<|qj fun K hK=>qm ?_;obtain⟨_,st,aK,s4,⟨p1,p2,p3,p4,l,rfl,p5,p6,p7⟩,hH⟩:=D3 hA bc he hi hg ho hH;refine qv aK ?_;refine qm ?_;refine qe hK<|ab.ret ⟨rx,_,_,_,rfl,ak (rfl),?_⟩;exact⟨s4,⟨p1,p2,p3,p4,l,rfl,p5,p6,p7⟩,cF.aA ct hH⟩
 refine qq<|qj fun K hK=>qg ?_;refine qm ?_;refine qe hK ?_;refine ab.cond (by rfl) (fun Rj=>?_) (fun Rj=>?_)<;>try simp only[beq_iff_eq,beq_eq_false_iff_ne,ne_eq] at Rj
 ·refine qq<|qj fun K hK=>qm ?_;obtain⟨_,st,aK,s4,⟨p1,p2,p3,p4,l,rfl,p5,p6,p7⟩,hH⟩:=Eg bc he hi hg hH;refine qv aK ?_;refine qm ?_;refine qe hK<|ab.ret ⟨rx,_,_,_,rfl,ak (rfl),?_⟩;exact⟨s4,⟨p1,p2,p3,p4,l,rfl,p5,p6,p7⟩,cF.aA ct hH⟩
 refine qq<|qj fun K hK=>qg ?_;refine qm ?_;refine qe hK ?_;refine ab.cond (by rfl) (fun YV=>?_) (fun YV=>?_)<;>try simp only[beq_iff_eq,beq_eq_false_iff_ne,ne_eq] at YV
 ·refine qq<|qj fun K hK=>qm ?_;obtain⟨_,st,aK,d1,b,s4,rfl,⟨p1,p2,p3,p4,p5,p6⟩,hH⟩:=zD (s:=s) bc he hi hH;refine qv aK ?_;refine qm ?_;refine qg ?_;refine qg ?_;refine qm ?_;refine qm ?_;refine qe hK ?_
  have TA:∀(st:St) (w:D) (a:List Rg) (kk:Nat),(w=bJ a∨w=.nul∧a=[])→a.length≤8→S2.bs.length≤kk→Has N S2 st (.aP (.win kk 0 0 1 7) 7 [[.int .i64 2,w,.int .i64 0,.int .i64 0,.bool false,.int .i64 0,.int .i64 0]]::.box k (.mem 0 false (a8 gs bS s4))::.aP bS 1 (b_.map ay)::H)→∃d ai,cB .rw false s0 st (.win kk 0 0 1 7)=some (d,ai)∧∃(s':fk),ju gs s s' d 2∧Has N S ai (.box k (.mem 0 false (a8 gs bS s'))::.aP bS 1 (b_.map ay)::H):=by
   intro st w a kk hw ha hk hH;have hfz:=i_ hH aB (L:=s0.bs.length) hw (fun k hk=>by simp only[D.ref] at hk;rw[←ct];omega);refine⟨_,_,ak hfz,s4,⟨p1,by omega,by omega,p4,_,rfl,Da (by omega) (by omega),by simp,?_⟩,cF.aA ct (hH.drop 1)⟩
   rcases p6 with p6|⟨p6,p7,_⟩
   ·exact .inl p6
   ·exact .inr ⟨p6,by simp only[List.length_cons,List.length_nil];omega⟩
  rcases p5 with rfl|⟨a,rfl,ha⟩
  ·refine qq<|qj fun K hK=>qm ?_;refine aa.gd (qs:=[(0,_),(1,_)]) rfl rfl rfl rfl ⟨rfl,(ev rfl),(by rfl),rfl,(ev rfl),(by rfl),trivial⟩ (by intro q hq;simp only[List.mem_cons,List.not_mem_nil,or_false] at hq;rcases hq with rfl|rfl<;>exact⟨rfl,by exact Nat.le_of_ble_eq_true rfl⟩) (by show List.foldl _ [_,_,_,_,_,_,_] _=_;dsimp only[List.foldl_cons,List.foldl_nil,u2,u1]<;>rfl) (ah rfl _) ?_;refine qh (s:=7) (vs:=[_]) hH fun k54 st Qt hH=>?_;dsimp only[u2,u1,u3,u4,setMany,u5,u6,D.cells,Nat.reduceAdd,a8,aQ,ay,ax,bm] at hH;refine qm ?_;refine qe hK ?_;obtain⟨d',ai,uA,gY⟩:=TA _ .nul [] k54 (.inr ⟨rfl,rfl⟩) (by simp) Qt hH;refine ab.ret ⟨rx,_,d',ai,rfl,uA,gY⟩
  ·refine qq<|qj fun K hK=>qm ?_;refine aa.gd (qs:=[(0,_),(1,_)]) rfl rfl rfl rfl ⟨rfl,(ev rfl),(by rfl),rfl,(ev rfl),(by rfl),trivial⟩ (by intro q hq;simp only[List.mem_cons,List.not_mem_nil,or_false] at hq;rcases hq with rfl|rfl<;>exact⟨rfl,by exact Nat.le_of_ble_eq_true rfl⟩) (by show List.foldl _ [_,_,_,_,_,_,_] _=_;dsimp only[List.foldl_cons,List.foldl_nil,u2,u1]<;>rfl) (ah rfl _) ?_;refine qh (s:=7) (vs:=[_]) hH fun k54 st Qt hH=>?_;dsimp only[u2,u1,u3,u4,setMany,u5,u6,D.cells,Nat.reduceAdd,a8,aQ,ay,ax,bm] at hH;refine qm ?_;refine qe hK ?_;obtain⟨d',ai,uA,gY⟩:=TA _ (bJ a) a k54 (.inl rfl) ha Qt hH;refine ab.ret ⟨rx,_,d',ai,rfl,uA,gY⟩
 refine qq<|qj fun K hK=>qg ?_;refine qm ?_;refine qe hK ?_;refine ab.cond (by rfl) (fun YW=>?_) (fun YW=>?_)<;>try simp only[beq_iff_eq,beq_eq_false_iff_ne,ne_eq] at YW
 ·refine qq<|qj fun K hK=>qm ?_;refine qg ?_;refine qp (o:=2) ?_;refine ql hH aB ?_;refine qA ?_;refine qg ?_;refine qp (o:=2) ?_;refine qT hH aB fun st hH=>?_;dsimp only[u2,u1,u3,u4,setMany,u5,u6,D.cells,Nat.reduceAdd,a8,aQ,ay,ax,bm] at hH;refine qe hK ?_;obtain⟨_,Xa,a,rfl,hla⟩:=QY (s0:=st);refine qq<|qj fun K hK=>qv (Xa) ?_;refine aa.gd (qs:=[(0,_),(1,_)]) rfl rfl rfl rfl ⟨rfl,(ev rfl),(by rfl),rfl,(ev rfl),(by rfl),trivial⟩ (by intro q hq;simp only[List.mem_cons,List.not_mem_nil,or_false] at hq;rcases hq with rfl|rfl<;>exact⟨rfl,by exact Nat.le_of_ble_eq_true rfl⟩) (by show List.foldl _ [_,_,_,_,_,_,_] _=_;dsimp only[List.foldl_cons,List.foldl_nil,u2,u1]<;>rfl) (ah rfl _) ?_;refine qh (s:=7) (vs:=[_]) hH fun k66 st WN hH=>?_;refine qm ?_;refine qe hK ?_;obtain⟨d',ai,uA,gY⟩:=ke _ {s with i:=s.i+1} 2 (bJ a) a k66 (.inl rfl) (by omega) rfl hg (by show s.i<s.i+1;omega) (by show s.i+1≤_;omega) WN hH;refine ab.ret ⟨rx,_,d',ai,rfl,uA,gY⟩
 refine qq<|qj fun K hK=>qg ?_;refine qm ?_;refine qe hK ?_;refine ab.cond (by rfl) (fun YU=>?_) (fun YU=>?_)<;>try simp only[beq_iff_eq,beq_eq_false_iff_ne,ne_eq] at YU
 ·refine qq<|qj fun K hK=>qm ?_;refine qg ?_;refine qp (o:=2) ?_;refine ql hH aB ?_;refine qA ?_;refine qg ?_;refine qp (o:=2) ?_;refine qT hH aB fun st hH=>?_;dsimp only[u2,u1,u3,u4,setMany,u5,u6,D.cells,Nat.reduceAdd,a8,aQ,ay,ax,bm] at hH;refine qe hK<|qq<|qj fun K hK=>aa.go (d:=.agg [.int .i64 7,.nul,.int .i64 0,.int .i64 0,.bool false,.int .i64 0,.int .i64 0]) (st1:=_) rfl rfl rfl (ah rfl _) ?_;refine qh (s:=7) (vs:=[_]) hH fun k77 st Ti hH=>?_;refine qm ?_;refine qe hK ?_;obtain⟨d',ai,uA,gY⟩:=ke _ {s with i:=s.i+1} 7 .nul [] k77 (.inr ⟨rfl,rfl⟩) (by simp) rfl hg (by show s.i<s.i+1;omega) (by show s.i+1≤_;omega) Ti hH;refine ab.ret ⟨rx,_,d',ai,rfl,uA,gY⟩
 refine qq<|qj fun K hK=>qg ?_;refine qm ?_;refine qe hK ?_;refine ab.cond (by rfl) (fun YZ=>?_) (fun YZ=>?_)<;>try simp only[beq_iff_eq,beq_eq_false_iff_ne,ne_eq] at YZ
 ·refine qq<|qj fun K hK=>qm ?_;refine qg ?_;refine qp (o:=2) ?_;refine ql hH aB ?_;refine qA ?_;refine qg ?_;refine qp (o:=2) ?_;refine qT hH aB fun st hH=>?_;dsimp only[u2,u1,u3,u4,setMany,u5,u6,D.cells,Nat.reduceAdd,a8,aQ,ay,ax,bm] at hH;refine qe hK<|qq<|qj fun K hK=>aa.go (d:=.agg [.int .i64 8,.nul,.int .i64 0,.int .i64 0,.bool false,.int .i64 0,.int .i64 0]) (st1:=_) rfl rfl rfl (ah rfl _) ?_;refine qh (s:=7) (vs:=[_]) hH fun k88 st Th hH=>?_;refine qm ?_;refine qe hK ?_;obtain⟨d',ai,uA,gY⟩:=ke _ {s with i:=s.i+1} 8 .nul [] k88 (.inr ⟨rfl,rfl⟩) (by simp) rfl hg (by show s.i<s.i+1;omega) (by show s.i+1≤_;omega) Th hH;refine ab.ret ⟨rx,_,d',ai,rfl,uA,gY⟩
 refine qq<|qq<|qj fun K hK=>qg ?_;refine qm ?_;refine qe hK ?_
 by_cases YC:((g.1:Nat):Int)=42
 ·refine qD rfl (by simp[YC]) ?_;refine ab.skip<|qD rfl (by simp[YC]) ?_;refine qq<|qj fun K hK=>qm ?_;refine qm ?_;obtain⟨_,st,aK,rfl,s4,hN,hH⟩:=hwr _ hH;refine qv aK ?_;refine qm ?_;refine qe hK<|ab.ret ⟨rx,_,_,_,rfl,ak (rfl),?_⟩;exact⟨s4,hN,cF.aA ct hH⟩
 refine qE rfl (by simp[YC]) ?_;refine qq<|qj fun K hK=>qg ?_;refine qm ?_;refine qe hK ?_
 by_cases YB:((g.1:Nat):Int)=43
 ·refine qD rfl (by simp[YB]) ?_;refine ab.skip<|qD rfl (by simp[YB]) ?_;refine qq<|qj fun K hK=>qm ?_;refine qm ?_;obtain⟨_,st,aK,rfl,s4,hN,hH⟩:=hwr _ hH;refine qv aK ?_;refine qm ?_;refine qe hK<|ab.ret ⟨rx,_,_,_,rfl,ak (rfl),?_⟩;exact⟨s4,hN,cF.aA ct hH⟩
 refine qE rfl (by simp[YB]) ?_;refine qq<|qj fun K hK=>qg ?_;refine qm ?_;refine qe hK ?_
 by_cases YA:((g.1:Nat):Int)=63
 ·refine qD rfl (by simp[YA]) ?_;refine ab.skip<|qD rfl (by simp[YA]) ?_;refine qq<|qj fun K hK=>qm ?_;refine qm ?_;obtain⟨_,st,aK,rfl,s4,hN,hH⟩:=hwr _ hH;refine qv aK ?_;refine qm ?_;refine qe hK<|ab.ret ⟨rx,_,_,_,rfl,ak (rfl),?_⟩;exact⟨s4,hN,cF.aA ct hH⟩
 refine qE rfl (by simp[YA]) ?_;refine qq<|qj fun K hK=>qg ?_;refine qm ?_;refine qe hK ?_
 by_cases YD:((g.1:Nat):Int)=41
 ·refine qD rfl (by simp[YD]) ?_;refine ab.skip<|qD rfl (by simp[YD]) ?_;refine qq<|qj fun K hK=>qm ?_;refine qm ?_;obtain⟨_,st,aK,rfl,s4,hN,hH⟩:=hwr _ hH;refine qv aK ?_;refine qm ?_;refine qe hK<|ab.ret ⟨rx,_,_,_,rfl,ak (rfl),?_⟩;exact⟨s4,hN,cF.aA ct hH⟩
 refine qE rfl (by simp[YD]) ?_;refine qq<|qj fun K hK=>qg ?_;refine qm ?_;refine qe hK ?_
 by_cases Yz:((g.1:Nat):Int)=93
 ·refine qD rfl (by simp[Yz]) ?_;refine ab.skip<|qD rfl (by simp[Yz]) ?_;refine qq<|qj fun K hK=>qm ?_;refine qm ?_;obtain⟨_,st,aK,rfl,s4,hN,hH⟩:=hwr _ hH;refine qv aK ?_;refine qm ?_;refine qe hK<|ab.ret ⟨rx,_,_,_,rfl,ak (rfl),?_⟩;exact⟨s4,hN,cF.aA ct hH⟩
 refine qE rfl (by simp[Yz]) ?_;refine qq<|qj fun K hK=>qg ?_;refine qm ?_;refine qe hK ?_
 by_cases Q5:((g.1:Nat):Int)=123
 ·refine qD rfl (by simp[Q5]) ?_;refine ab.skip<|qD rfl (by simp[Q5]) ?_;refine qq<|qj fun K hK=>qm ?_;refine qm ?_;obtain⟨_,st,aK,rfl,s4,hN,hH⟩:=hwr _ hH;refine qv aK ?_;refine qm ?_;refine qe hK<|ab.ret ⟨rx,_,_,_,rfl,ak (rfl),?_⟩;exact⟨s4,hN,cF.aA ct hH⟩
 refine qE rfl (by simp[Q5]) ?_;refine qq<|qj fun K hK=>qg ?_;refine qm ?_;refine qe hK ?_
 by_cases Q4:((g.1:Nat):Int)=125
 ·refine qD rfl (by simp[Q4]) ?_;refine ab.skip<|qD rfl (by simp[Q4]) ?_;refine qq<|qj fun K hK=>qm ?_;refine qm ?_;obtain⟨_,st,aK,rfl,s4,hN,hH⟩:=hwr _ hH;refine qv aK ?_;refine qm ?_;refine qe hK<|ab.ret ⟨rx,_,_,_,rfl,ak (rfl),?_⟩;exact⟨s4,hN,cF.aA ct hH⟩
 refine qE rfl (by simp[Q4]) ?_;refine qj fun K hK=>qg ?_;refine qm ?_;refine qe hK ?_
 by_cases UL:((g.1:Nat):Int)=124
 ·refine qD rfl (by simp[UL]) ?_;refine qq<|qj fun K hK=>qm ?_;refine qm ?_;obtain⟨_,st,aK,rfl,s4,hN,hH⟩:=hwr _ hH;refine qv aK ?_;refine qm ?_;refine qe hK<|ab.ret ⟨rx,_,_,_,rfl,ak (rfl),?_⟩;exact⟨s4,hN,cF.aA ct hH⟩
 refine qE rfl (by simp[UL]) ?_;refine qq<|qj fun K hK=>qm ?_;refine qg ?_;refine qp (o:=2) ?_;refine ql hH aB ?_;refine qA ?_;refine qg ?_;refine qp (o:=2) ?_;refine qT hH aB fun st hH=>?_;dsimp only[u2,u1,u3,u4,setMany,u5,u6,D.cells,Nat.reduceAdd,a8,aQ,ay,ax,bm] at hH;refine qe hK ?_;obtain⟨_,Bo,_⟩:=mD (s0:=s0) (x:=bJ [(((g.1:Nat):Int),((g.1:Nat):Int))]) (l:=[(((g.1:Nat):Int),((g.1:Nat):Int))]) (fR _ _) (by simp);simp only[List.length_cons,List.length_nil] at Bo;refine qq<|qj fun K hK=>qm ?_;refine qv (jz _) ?_;refine aa.gd (qs:=[(0,_),(1,_)]) rfl rfl rfl rfl ⟨rfl,(ev rfl),(by rfl),rfl,(ev rfl),(by rfl),trivial⟩ (by intro q hq;simp only[List.mem_cons,List.not_mem_nil,or_false] at hq;rcases hq with rfl|rfl<;>exact⟨rfl,by exact Nat.le_of_ble_eq_true rfl⟩) (by show List.foldl _ [_,_,_,_,_,_,_] _=_;dsimp only[List.foldl_cons,List.foldl_nil,u2,u1]<;>rfl) (ah rfl _) ?_;refine qh (s:=7) (vs:=[_]) hH fun k36 st Tk hH=>?_;refine qm ?_;refine qe hK ?_;obtain⟨d',ai,uA,gY⟩:=ke _ {s with i:=s.i+1} 2 _ _ k36 (.inl rfl) (by omega) rfl hg (by show s.i<s.i+1;omega) (by show s.i+1≤_;omega) Tk hH;refine ab.ret ⟨rx,_,d',ai,rfl,uA,gY⟩
theorem Cw {m:Nat} (hA:∀m',m'+1=m→lQ m') {N k:Nat} {S s0:St} {H:List bt} {gs:List (Nat×Nat)} {bS:D} {b_:List Int} {s:fk} (bc:lu gs b_) (he:s.e=0) (hi:s.i<gs.length) (hg:s.g≤4) (ho:s.o+m=20) (hH:Has N S s0 (.box k (.mem 0 false (a8 gs bS s))::.aP bS 1 (b_.map ay)::H)):
  ∃d ai,Ev pv 144 [.ptr k 0 0] s0 d ai∧∃(s':fk),ju gs s s' d 1∧Has N S ai (.box k (.mem 0 false (a8 gs bS s'))::.aP bS 1 (b_.map ay)::H):=by
 have s9:=bc.gl;have iq:=bc.pl;refine Ev.il rfl Uf rfl rfl rfl ?_;dsimp only[u3,u4,List.length,Nat.reduceSub,Nat.reduceAdd,w1,w2];have cF:=hH;have hH:=hH.cI;have ct:(ag .rw s0).bs=s0.bs:=rfl;generalize ag .rw s0=S2 at*;refine qq<|qj fun K hK=>qm ?_;refine qe hK<|qq<|qj fun K hK=>qm ?_;obtain⟨_,st,aK,s1,⟨p1,p2,p3,p4,l,rfl,p5,p6,p7⟩,hH⟩:=LJ hA bc he hi hg ho hH;refine qv aK ?_;refine qm ?_;refine qe hK<|qq<|qq<|qj fun K hK=>qm ?_;refine qg ?_;refine qp (o:=5) ?_;refine ql hH aB ?_;refine qg ?_;refine qe hK ?_
 rcases p7 with p7|⟨p7,p8⟩
 ·refine qD rfl (by simp[p7]) ?_;refine qq<|qj fun K hK=>qm ?_;refine qe hK<|ab.ret ⟨rx,_,_,_,rfl,ak (rfl),?_⟩;exact⟨s1,gq p1 p2 p3 p4 p7,cF.aA ct hH⟩
 refine qE rfl (by simp[p7]) ?_;refine ab.skip<|qq<|qj fun K hK=>aa.go (d:=.agg [.int .i64 5,.nul,.int .i64 0,.int .i64 0,.bool false,.int .i64 0,.int .i64 1]) (st1:=_) rfl rfl rfl (ah rfl _) ?_;refine qa hH fun k4 st Ry hH=>?_;dsimp only[u2,u1,u3,u4,setMany,u5,u6,D.cells,Nat.reduceAdd,a8,aQ,ay,ax,bm] at hH;refine qS hH aB fun st hH=>?_;dsimp only[u2,u1,u3,u4,setMany,u5,u6,D.cells,Nat.reduceAdd,a8,aQ,ay,ax,bm] at hH;refine qe hK ?_;have hH:Has N S2 st (.box k (.mem 0 false (a8 gs bS s1))::.aP bS 1 (b_.map ay)::.box k4 (.mem 0 false [.int .i64 5,.nul,.int .i64 0,.int .i64 0,.bool false,.int .i64 0,.int .i64 1])::H):=ni hH;refine qq<|ab.merge (fun fr st=>∃(mn mx:Int) (s2:fk) (tmp:List (Nat×D)),fr=⟨5,[.ptr k 0 0,yB fr 1,yB fr 2,uX l,.ptr k4 0 0],tmp⟩∧Has N S2 st (.box k (.mem 0 false (a8 gs bS s2))::.aP bS 1 (b_.map ay)::.box k4 (.mem 0 false [.int .i64 5,.nul,.int .i64 mn,.int .i64 mx,.bool false,.int .i64 0,.int .i64 1])::H)∧(s2.o=s.o)∧(s2.g≤4)∧(s1.i<s2.i)∧(s2.i≤gs.length)) ?_ ?_
 ·refine ab.block<|qq<|qj fun K hK=>qm ?_;obtain⟨_,st,aK,rfl,hH⟩:=er (s:=s1) (by omega) 42 hH;refine qv aK ?_;refine qm ?_;refine qe hK ?_
  cases hb1:kZ gs s1.i 42 with
  |true=>
   obtain⟨k1,k2,k3,VH,k5⟩:=gS (gs:=gs) (s:=s1) (r:=42);have k6:=mA hb1;have k7:=k5 p4;generalize c9 gs s1 42=s2 at*;refine qB ?_;refine qj fun K hK=>qp (o:=3) ?_;refine qT hH dL fun st hH=>?_;dsimp only[u2,u1,u3,u4,setMany,u5,u6,D.cells,Nat.reduceAdd,a8,aQ,ay,ax,bm] at hH;refine qe hK ?_;exact⟨0,-1,s2,_,rfl,hH,by omega,by omega,by omega,k7⟩
  |false=>
   rw[pb hb1] at hH;refine qC ?_;refine qq<|qj fun K hK=>qm ?_;obtain⟨_,st,aK,rfl,hH⟩:=er (s:=s1) (by omega) 43 hH;refine qv aK ?_;refine qm ?_;refine qe hK ?_
   cases hb2:kZ gs s1.i 43 with
   |true=>
    obtain⟨k1,k2,k3,VH,k5⟩:=gS (gs:=gs) (s:=s1) (r:=43);have k6:=mA hb2;have k7:=k5 p4;generalize c9 gs s1 43=s2 at*;refine qB ?_;refine qj fun K hK=>qp (o:=2) ?_;refine qT hH dL fun st hH=>?_;dsimp only[u2,u1,u3,u4,setMany,u5,u6,D.cells,Nat.reduceAdd,a8,aQ,ay,ax,bm] at hH;refine qp (o:=3) ?_;refine qT hH dL fun st hH=>?_;dsimp only[u2,u1,u3,u4,setMany,u5,u6,D.cells,Nat.reduceAdd,a8,aQ,ay,ax,bm] at hH;refine qe hK ?_;exact⟨1,-1,s2,_,rfl,hH,by omega,by omega,by omega,k7⟩
   |false=>
    rw[pb hb2] at hH;refine qC ?_;refine qq<|qj fun K hK=>qm ?_;obtain⟨_,st,aK,rfl,hH⟩:=er (s:=s1) (by omega) 63 hH;refine qv aK ?_;refine qm ?_;refine qe hK ?_
    cases QL:kZ gs s1.i 63 with
    |true=>
     obtain⟨k1,k2,k3,VH,k5⟩:=gS (gs:=gs) (s:=s1) (r:=63);have k6:=mA QL;have k7:=k5 p4;generalize c9 gs s1 63=s2 at*;refine qB ?_;refine qj fun K hK=>qp (o:=3) ?_;refine qT hH dL fun st hH=>?_;dsimp only[u2,u1,u3,u4,setMany,u5,u6,D.cells,Nat.reduceAdd,a8,aQ,ay,ax,bm] at hH;refine qe hK ?_;exact⟨0,1,s2,_,rfl,hH,by omega,by omega,by omega,k7⟩
    |false=>
     rw[pb QL] at hH;refine qC ?_;refine qq<|qj fun K hK=>qm ?_;obtain⟨_,st,aK,rfl,hH⟩:=oH (s:=s1) (by omega) 123 hH;refine qv aK ?_;refine qm ?_;refine qe hK ?_
     cases hb4:kZ gs s1.i 123 with
     |true=>
      have hlt:=qO hb4;refine qB ?_;refine qj fun K hK=>qm ?_;obtain⟨_,st,aK,n1,n2,s2,rfl,⟨m1,m2,m3,m4⟩,hH⟩:=CY bc p7 hlt hH;refine qv aK ?_;refine qm ?_;refine qg ?_;refine qg ?_;refine qp (o:=2) ?_;refine qT hH dL fun st hH=>?_;dsimp only[u2,u1,u3,u4,setMany,u5,u6,D.cells,Nat.reduceAdd,a8,aQ,ay,ax,bm] at hH;refine qp (o:=3) ?_;refine qT hH dL fun st hH=>?_;dsimp only[u2,u1,u3,u4,setMany,u5,u6,D.cells,Nat.reduceAdd,a8,aQ,ay,ax,bm] at hH;refine qe hK ?_;exact⟨n1,n2,s2,_,rfl,hH,by omega,by omega,m3,m4⟩
     |false=>
      refine qC ?_;refine qq<|qj fun K hK=>qm ?_;refine qm ?_;refine qe hK<|ab.ret ⟨rx,_,_,_,rfl,ak (rfl),?_⟩;exact⟨s1,⟨p1,p2,p3,p4,l,rfl,p5,p6,.inr ⟨p7,by omega⟩⟩,cF.aA ct (hH.erase 2)⟩
 ·rintro fr st ⟨mn,mx,s2,tmp,hfr,hH,h1,h2,h3,h4⟩;rw[hfr];clear hfr;generalize yB fr=ee;clear fr;refine qq<|qq<|qj fun K hK=>qm ?_;refine qg ?_;refine qp (o:=5) ?_;refine ql hH aB ?_;refine qg ?_;refine qe hK ?_
  by_cases Bu:s2.e=0
  ·refine qE rfl (by simp[Bu]) ?_;refine ab.skip ?_;obtain⟨k1,k2,k3,VH,k5⟩:=gS (gs:=gs) (s:=s2) (r:=63);have k7:=k5 h4;refine qq<|qj fun K hK=>qm ?_;obtain⟨_,st,aK,rfl,hH⟩:=er (s:=s2) (by omega) 63 hH;refine qv aK ?_;refine qp (o:=4) ?_;refine qT hH dL fun st hH=>?_;dsimp only[u2,u1,u3,u4,setMany,u5,u6,D.cells,Nat.reduceAdd,a8,aQ,ay,ax,bm] at hH;refine qe hK ?_;generalize c9 gs s2 63=s3 at*;generalize kZ gs s2.i 63=lz at*;have hla:=(sM p5).arg N S2;refine qq<|qj fun K hK=>?_;refine aa.aT (m:=7) hH rfl (ev rfl) (by exact dL) (by dsimp only[List.drop_succ_cons,List.drop_zero,List.take_succ_cons,List.take_zero,a8,aQ,ay,ax,bm]<;>rfl) rfl rfl (ah rfl _) ?_;refine qh (s:=7) (vs:=[_]) hH fun k46 st aaV hH=>?_;refine qm ?_;refine aa.re (s:=7) hH rfl (ev rfl) (ev rfl) aB ((sM p5).rows st) rfl rfl rfl rfl rfl rfl rfl ⟨(Nat.le_of_ble_eq_true rfl),(Nat.le_of_ble_eq_true rfl)⟩ (fun _=>(ah rfl _)) (by simp only[List.length_map,List.length_cons,List.length_nil];omega) (.inr (sL p5)) (fun k hk=>by have kg:k46+1=k+1:=hk;omega) (fun Vd st L9 hH=>?_);dsimp only[u2] at hH;refine qm ?_;refine qe hK ?_;have hH:Has N S2 st (.aP Vd 7 ([.int .i64 5,.nul,.int .i64 mn,.int .i64 mx,.bool lz,.int .i64 0,.int .i64 1]::l.map bm)::.box k (.mem 0 false (a8 gs bS s3))::.aP bS 1 (b_.map ay)::.box k4 (.mem 0 false [.int .i64 5,.nul,.int .i64 mn,.int .i64 mx,.bool lz,.int .i64 0,.int .i64 1])::H):=hH
   have hfz:=i7 (L:=s0.bs.length) (l:=tX 5 mn mx lz 0 1 []::l) hH aB (by rw[List.map_cons,tV p5];rfl) (fun e he d hd=>by
    rcases List.mem_cons.1 he with rfl|he
    ·simp only[List.mem_cons,List.not_mem_nil,or_false] at hd
     rcases hd with rfl|rfl|rfl|rfl|rfl|rfl|rfl<;>rfl
    ·exact qz p5 e he d hd) (fun k hk=>by rw[←ct];exact L9 k hk) (n:=16) (by decide)
   refine ab.ret ⟨rx,_,_,_,rfl,ak hfz,⟨s3,⟨by omega,by omega,by omega,k7,_,rfl,?_,by simp only[List.length_cons];omega,.inr ⟨by omega,by simp only[List.length_cons];omega⟩⟩,cF.aA ct ((hH.drop 1).erase 2)⟩⟩;intro n hn
   rcases List.mem_cons.1 hn with rfl|hn
   ·exact⟨rfl,by simp[tX],by simp[tX]⟩
   ·exact p5 n hn
  ·refine qD rfl (by simp[Bu]) ?_;refine qq<|qj fun K hK=>qm ?_;refine qe hK<|ab.ret ⟨rx,_,_,_,rfl,ak (rfl),?_⟩;exact⟨s2,gq h1 h2 (by omega) h4 Bu,cF.aA ct (hH.erase 2)⟩
def nY (fr:Go.V.Fr) (k:Nat):Go.V.D:=Go.V.nth .bp fr.loc k
theorem Ek {m:Nat} (hA:∀m',m'+1=m→lQ m') {N k:Nat} {S s0:St} {H:List bt} {gs:List (Nat×Nat)} {bS:D} {b_:List Int} {s:fk} (bc:lu gs b_) (he:s.e=0) (hi:s.i≤gs.length) (hg:s.g≤4) (ho:s.o+m=20) (hH:Has N S s0 (.box k (.mem 0 false (a8 gs bS s))::.aP bS 1 (b_.map ay)::H)):
  ∃d ai,Ev pv 129 [.ptr k 0 0] s0 d ai∧∃(s':fk),uV gs s s' d∧Has N S ai (.box k (.mem 0 false (a8 gs bS s'))::.aP bS 1 (b_.map ay)::H):=by
 have s9:=bc.gl;have iq:=bc.pl;refine Ev.il rfl Up rfl rfl rfl ?_;dsimp only[u3,u4,List.length,Nat.reduceSub,Nat.reduceAdd,w1,w2];have cF:=hH;have hH:=hH.cI;have ct:(ag .rw s0).bs=s0.bs:=rfl;generalize ag .rw s0=S2 at*;have Ad:Arg N S2 2 (dJ gs) (gs.map aQ):=Arg.pure (fun st=>dF st gs);refine qq ?_;refine qj fun K hK=>?_;refine qm ?_;refine qe hK ?_;refine qq ?_;refine qj fun K hK=>?_;refine qm ?_;refine qe hK ?_;have hH:Has N S2 S2 (.box k (.mem 0 false (a8 gs bS s))::.aP bS 1 (b_.map ay)::.aP .nul 1 (([]:List (List dM)).map eu)::H):=ni (hH.d_ 1);refine qq ?_;refine ab.block ?_;refine ab.loop (fun mm fr st=>∃(s1:fk) (pd:D) (parts:List (List dM)),fr.clean=⟨4,[.ptr k 0 0,nY fr 1,nY fr 2,pd],[]⟩∧Has N S2 st (.box k (.mem 0 false (a8 gs bS s1))::.aP bS 1 (b_.map ay)::.aP pd 1 (parts.map eu)::H)∧(s1.o=s.o)∧(s1.g≤4)∧(s.i≤s1.i)∧(s1.i≤gs.length)∧(∀l∈parts,∀n∈l,vc n)∧(fK parts+parts.length≤4*(s1.i-s.i)+2)∧(s1.e=0→fK parts+parts.length≤4*(s1.i-s.i))∧(gs.length-s1.i+(if s1.e=0 then 1 else 0)≤mm)) (gs.length+1) ?_ ?_
 ·exact⟨s,.nul,[],rfl,hH,rfl,hg,Nat.le_refl _,hi,fun l hl=>(by cases hl),by simp[fK],fun _=>by simp[fK],by split<;>omega⟩
 rintro mm fr st ⟨s1,pd,parts,hfr,hH,h1,h2,h3,h4,h5,h6,h7,yJ⟩;rw[hfr];clear hfr;generalize nY fr=ee;clear fr
 have qY:∀st:St,Has N S2 st (.box k (.mem 0 false (a8 gs bS s1))::.aP bS 1 (b_.map ay)::.aP pd 1 (parts.map eu)::H)→∃d,Ev pv 131 [.int .i64 3,pd] st d st∧uV gs s s1 d∧∃l,d=uX l:=by
  intro st hH;obtain⟨_,aK,l,rfl,j1,j2,j3⟩:=sY 3 (hH.rows dL) h5 (by omega) (by omega);refine⟨_,aK,⟨h1,h2,h3,h4,l,rfl,j1,?_⟩,l,rfl⟩
  by_cases q1:parts.length=1
  ·have:=j2 q1;omega
  ·by_cases q0:parts.length=0
   ·have:parts=[]:=List.length_eq_zero_iff.1 q0;rw[this] at j3 h6;simp[fK] at j3 h6;omega
   ·omega
 by_cases ma:s1.e=0
 ·rw[if_pos ma] at yJ;have h7:=h7 ma;have bd:(s1.e==0)=true:=by simpa using ma
  by_cases hlt:s1.i<gs.length
  ·have bk:decide (((s1.i:Nat):Int)<((gs.length:Nat):Int))=true:=by rw[decide_eq_true_eq];omega
   cases bA:(!kZ gs s1.i 124) with
   |false=>
    refine qq ?_;refine qq ?_;refine qj fun K hK=>?_;refine qm ?_;refine qg ?_;refine qp (o:=5) ?_;refine ql hH aB ?_;refine qg ?_;refine qm ?_;refine qm ?_ (hg:=wi bd);refine qg ?_ (hg:=wi bd);refine qp (o:=2) ?_ (hg:=wi bd);refine ql hH aB ?_ (hg:=wi bd);refine qm ?_ (hg:=wi bd);refine qg ?_ (hg:=wi bd);refine qp (o:=0) ?_ (hg:=wi bd);refine ql hH aB ?_ (hg:=wi bd);refine qn ?_ (hg:=wi bd);simp only[List.length_map];refine qg ?_ (hg:=wi bd);refine qt bd ?_;refine qm ?_;refine qm ?_ (hg:=wi bk);obtain⟨_,st,aK,rfl,hH⟩:=oH (s:=s1) (by omega) 124 hH;refine qv aK ?_ (hg:=wi bk);refine qg ?_ (hg:=wi bk);refine qt bk ?_;refine qm ?_;refine qs ?_ (hg:=wn bA);refine qs ?_ (hg:=wn bA);refine qs ?_ (hg:=wn bA);refine qs ?_;refine qs ?_;refine qs ?_;refine qs ?_;refine qs ?_;refine qs ?_ (hg:=wn bA);refine qs ?_ (hg:=wn bA);refine qu bA ?_;refine qe hK ?_;refine qC ?_;refine ab.exit ?_;obtain⟨_,DN,hQ,l,rfl⟩:=qY _ hH;refine qq ?_;refine qj fun K hK=>?_;refine qm ?_;refine qv (DN) ?_;refine qm ?_;refine qe hK ?_;refine ab.ret ⟨rx,_,_,_,rfl,ak (rfl),?_⟩;exact⟨s1,hQ,cF.aA ct (hH.erase 2)⟩
   |true=>
    cases bn:kZ gs s1.i 41 with
    |false=>
     refine qq ?_;refine qq ?_;refine qj fun K hK=>?_;refine qm ?_;refine qg ?_;refine qp (o:=5) ?_;refine ql hH aB ?_;refine qg ?_;refine qm ?_;refine qm ?_ (hg:=wi bd);refine qg ?_ (hg:=wi bd);refine qp (o:=2) ?_ (hg:=wi bd);refine ql hH aB ?_ (hg:=wi bd);refine qm ?_ (hg:=wi bd);refine qg ?_ (hg:=wi bd);refine qp (o:=0) ?_ (hg:=wi bd);refine ql hH aB ?_ (hg:=wi bd);refine qn ?_ (hg:=wi bd);simp only[List.length_map];refine qg ?_ (hg:=wi bd);refine qt bd ?_;refine qm ?_;refine qm ?_ (hg:=wi bk);obtain⟨_,st,aK,rfl,hH⟩:=oH (s:=s1) (by omega) 124 hH;refine qv aK ?_ (hg:=wi bk);refine qg ?_ (hg:=wi bk);refine qt bk ?_;refine qm ?_;refine qm ?_ (hg:=wi bA);obtain⟨_,st,aK,rfl,hH⟩:=oH (s:=s1) (by omega) 41 hH;refine qv aK ?_ (hg:=wi bA);refine qm ?_ (hg:=wi bA);refine qs ?_ (hg:=wn bn);refine qs ?_ (hg:=wn bn);refine qs ?_ (hg:=wn bn);refine qs ?_ (hg:=wn bn);refine qs ?_ (hg:=wn bn);refine aa.dA (aD rfl rfl rfl bA) rfl bn (ah rfl _) ?_;refine qg ?_ (hg:=wi bA);refine qt bA ?_;refine qe hK ?_;refine qB ?_;refine ab.skip ?_;refine ab.block ?_;refine qj fun K hK=>?_;refine qm ?_;refine qm ?_;obtain⟨_,st,aK,s2,⟨r1,r2,r3,r4,l,rfl,r5,r6,r7⟩,hH⟩:=Cw hA bc (s:=s1) ma hlt h2 (by omega) hH;refine qv aK ?_;refine qh (s:=1) (vs:=[_]) hH fun k41 st Tj hH=>?_;dsimp only[u2,u1,u3,u4,setMany,u5,u6,D.cells,Nat.reduceAdd,a8,aQ,ay,ax,eu] at hH;refine aa.bO (s:=1) hH rfl (ev rfl) (ev rfl) (by exact eQ) (by exact hH.rows (by exact aB)) rfl rfl rfl rfl rfl rfl rfl ⟨(Nat.le_of_ble_eq_true rfl),(Nat.le_of_ble_eq_true rfl)⟩ (fun _=>(ah rfl _)) (by simp only[List.length_cons,List.length_nil,List.length_map]<;>omega) (by exact .inr rfl) (fun RG st hH=>?_);dsimp only[u2,u1,u3,u4,setMany,u5,u6,D.cells,Nat.reduceAdd,a8,aQ,ay,ax,eu] at hH;refine qm ?_;refine qe hK ?_;have hH:=hH.drop 1;refine⟨mm-1,by omega,⟨s2,RG,parts++[l],rfl,(by rw[List.map_append];exact hH),by omega,r2,by omega,r4,?_,by rw[dI,List.length_append];simp only[fK,List.length_cons,List.length_nil];omega,(fun e=>by rw[dI,List.length_append];simp only[fK,List.length_cons,List.length_nil];omega),by split<;>omega⟩⟩;intro l' ir
     rcases List.mem_append.1 ir with ir|ir
     ·exact h5 l' ir
     ·simp only[List.mem_cons,List.not_mem_nil,or_false] at ir;subst ir;exact r5
    |true=>
     refine qq ?_;refine qq ?_;refine qj fun K hK=>?_;refine qm ?_;refine qg ?_;refine qp (o:=5) ?_;refine ql hH aB ?_;refine qg ?_;refine qm ?_;refine qm ?_ (hg:=wi bd);refine qg ?_ (hg:=wi bd);refine qp (o:=2) ?_ (hg:=wi bd);refine ql hH aB ?_ (hg:=wi bd);refine qm ?_ (hg:=wi bd);refine qg ?_ (hg:=wi bd);refine qp (o:=0) ?_ (hg:=wi bd);refine ql hH aB ?_ (hg:=wi bd);refine qn ?_ (hg:=wi bd);simp only[List.length_map];refine qg ?_ (hg:=wi bd);refine qt bd ?_;refine qm ?_;refine qm ?_ (hg:=wi bk);obtain⟨_,st,aK,rfl,hH⟩:=oH (s:=s1) (by omega) 124 hH;refine qv aK ?_ (hg:=wi bk);refine qg ?_ (hg:=wi bk);refine qt bk ?_;refine qm ?_;refine qm ?_ (hg:=wi bA);obtain⟨_,st,aK,rfl,hH⟩:=oH (s:=s1) (by omega) 41 hH;refine qv aK ?_ (hg:=wi bA);refine qm ?_ (hg:=wi bA);refine qm ?_ (hg:=wi bn);refine qg ?_ (hg:=wi bn);refine qp (o:=3) ?_ (hg:=wi bn);refine ql hH aB ?_ (hg:=wi bn);refine qg ?_ (hg:=wi bn);refine aa.eJ (aD rfl rfl rfl bA) rfl bn (ah rfl _) ?_;refine qg ?_ (hg:=wi bA);refine qt bA ?_;refine qe hK ?_
     by_cases gg:0<s1.o
     ·have gL:(!decide (((s1.o:Nat):Int)>0))=false:=by rw[decide_eq_true (by omega)];rfl
      refine qE rfl (by rw[gL]) ?_;refine ab.exit ?_;obtain⟨_,DN,hQ,l,rfl⟩:=qY _ hH;refine qq ?_;refine qj fun K hK=>?_;refine qm ?_;refine qv (DN) ?_;refine qm ?_;refine qe hK ?_;refine ab.ret ⟨rx,_,_,_,rfl,ak (rfl),?_⟩;exact⟨s1,hQ,cF.aA ct (hH.erase 2)⟩
     ·have gL:(!decide (((s1.o:Nat):Int)>0))=true:=by rw[decide_eq_false (by omega)];rfl
      refine qD rfl (by rw[gL]) ?_;refine ab.skip ?_;refine ab.block ?_;refine qj fun K hK=>?_;refine qm ?_;refine qm ?_;obtain⟨_,st,aK,s2,⟨r1,r2,r3,r4,l,rfl,r5,r6,r7⟩,hH⟩:=Cw hA bc (s:=s1) ma hlt h2 (by omega) hH;refine qv aK ?_;refine qh (s:=1) (vs:=[_]) hH fun k41 st Tj hH=>?_;dsimp only[u2,u1,u3,u4,setMany,u5,u6,D.cells,Nat.reduceAdd,a8,aQ,ay,ax,eu] at hH;refine aa.bO (s:=1) hH rfl (ev rfl) (ev rfl) (by exact eQ) (by exact hH.rows (by exact aB)) rfl rfl rfl rfl rfl rfl rfl ⟨(Nat.le_of_ble_eq_true rfl),(Nat.le_of_ble_eq_true rfl)⟩ (fun _=>(ah rfl _)) (by simp only[List.length_cons,List.length_nil,List.length_map]<;>omega) (by exact .inr rfl) (fun RG st hH=>?_);dsimp only[u2,u1,u3,u4,setMany,u5,u6,D.cells,Nat.reduceAdd,a8,aQ,ay,ax,eu] at hH;refine qm ?_;refine qe hK ?_;have hH:=hH.drop 1;refine⟨mm-1,by omega,⟨s2,RG,parts++[l],rfl,(by rw[List.map_append];exact hH),by omega,r2,by omega,r4,?_,by rw[dI,List.length_append];simp only[fK,List.length_cons,List.length_nil];omega,(fun e=>by rw[dI,List.length_append];simp only[fK,List.length_cons,List.length_nil];omega),by split<;>omega⟩⟩;intro l' ir
      rcases List.mem_append.1 ir with ir|ir
      ·exact h5 l' ir
      ·simp only[List.mem_cons,List.not_mem_nil,or_false] at ir;subst ir;exact r5
  ·have bk:decide (((s1.i:Nat):Int)<((gs.length:Nat):Int))=false:=by rw[decide_eq_false_iff_not];omega
   refine qq ?_;refine qq ?_;refine qj fun K hK=>?_;refine qm ?_;refine qg ?_;refine qp (o:=5) ?_;refine ql hH aB ?_;refine qg ?_;refine qm ?_;refine qm ?_ (hg:=wi bd);refine qg ?_ (hg:=wi bd);refine qp (o:=2) ?_ (hg:=wi bd);refine ql hH aB ?_ (hg:=wi bd);refine qm ?_ (hg:=wi bd);refine qg ?_ (hg:=wi bd);refine qp (o:=0) ?_ (hg:=wi bd);refine ql hH aB ?_ (hg:=wi bd);refine qn ?_ (hg:=wi bd);simp only[List.length_map];refine qg ?_ (hg:=wi bd);refine qt bd ?_;refine qm ?_;refine qs ?_ (hg:=wn bk);refine qs ?_ (hg:=wn bk);refine qs ?_ (hg:=wn bk);refine qu bk ?_;refine qm ?_;refine qs ?_;refine qs ?_;refine qs ?_;refine qs ?_;refine qs ?_;refine qs ?_;refine qs ?_;refine qs ?_;refine qs ?_;refine qs ?_;refine qg ?_;refine qe hK ?_;refine qC ?_;refine ab.exit ?_;obtain⟨_,DN,hQ,l,rfl⟩:=qY _ hH;refine qq ?_;refine qj fun K hK=>?_;refine qm ?_;refine qv (DN) ?_;refine qm ?_;refine qe hK ?_;refine ab.ret ⟨rx,_,_,_,rfl,ak (rfl),?_⟩;exact⟨s1,hQ,cF.aA ct (hH.erase 2)⟩
 ·have bd:(s1.e==0)=false:=by simpa using ma
  refine qq ?_;refine qq ?_;refine qj fun K hK=>?_;refine qm ?_;refine qg ?_;refine qp (o:=5) ?_;refine ql hH aB ?_;refine qg ?_;refine qm ?_;refine qs ?_ (hg:=wn bd);refine qs ?_ (hg:=wn bd);refine qs ?_ (hg:=wn bd);refine qs ?_ (hg:=wn bd);refine qs ?_ (hg:=wn bd);refine qs ?_ (hg:=wn bd);refine qs ?_ (hg:=wn bd);refine qs ?_ (hg:=wn bd);refine qs ?_ (hg:=wn bd);refine qs ?_ (hg:=wn bd);refine qu bd ?_;refine qm ?_;refine qs ?_;refine qs ?_;refine qs ?_;refine qg ?_;refine qm ?_;refine qs ?_;refine qs ?_;refine qs ?_;refine qs ?_;refine qs ?_;refine qs ?_;refine qs ?_;refine qs ?_;refine qs ?_;refine qs ?_;refine qg ?_;refine qe hK ?_;refine qC ?_;refine ab.exit ?_;obtain⟨_,DN,hQ,l,rfl⟩:=qY _ hH;refine qq ?_;refine qj fun K hK=>?_;refine qm ?_;refine qv (DN) ?_;refine qm ?_;refine qe hK ?_;refine ab.ret ⟨rx,_,_,_,rfl,ak (rfl),?_⟩;exact⟨s1,hQ,cF.aA ct (hH.erase 2)⟩
theorem LN:∀m:Nat,lQ m:=by
 intro m
 induction m using Nat.strongRecOn with
 |ind m ih0=>
 have hA:∀m',m'+1=m→lQ m':=fun m' h=>ih0 m' (by omega);intro N k S s0 H gs bS b_ s bc he hi hg ho hH;have s9:=bc.gl;have iq:=bc.pl;refine Ev.il rfl XE rfl rfl rfl ?_;dsimp only[u3,u4,List.length,Nat.reduceSub,Nat.reduceAdd,w1,w2];have cF:=hH;have hH:=hH.cI;have ct:(ag .rw s0).bs=s0.bs:=rfl;generalize ag .rw s0=S2 at*;refine qq ?_;refine qj fun K hK=>?_;refine qm ?_;refine qe hK ?_;refine qq ?_;refine qj fun K hK=>?_;refine qm ?_;obtain⟨_,st,aK,s1,⟨p1,p2,p3,p4,l,rfl,p5,p6⟩,hH⟩:=Ek hA bc he hi hg ho hH;refine qv aK ?_;refine qh (s:=1) (vs:=[_]) hH fun k6 st Me hH=>?_;dsimp only[u2,u1,u3,u4,setMany,u5,u6,D.cells,Nat.reduceAdd,a8,aQ,ay,ax,eu] at hH;refine qm ?_;refine qe hK ?_;have hH:Has N S2 st (.box k (.mem 0 false (a8 gs bS s1))::.aP bS 1 (b_.map ay)::.aP (.win k6 0 0 1 1) 1 ([l].map eu)::H):=ni hH;refine qq ?_;refine ab.block ?_;refine ab.loop (fun mm fr st=>∃(s1:fk) (pd:D) (parts:List (List dM)),fr.clean=⟨4,[.ptr k 0 0,nY fr 1,nY fr 2,pd],[]⟩∧Has N S2 st (.box k (.mem 0 false (a8 gs bS s1))::.aP bS 1 (b_.map ay)::.aP pd 1 (parts.map eu)::H)∧(s1.o=s.o)∧(s1.g≤4)∧(s.i≤s1.i)∧(s1.i≤gs.length)∧(∀l∈parts,∀n∈l,vc n)∧(fK parts+3*parts.length≤4*(s1.i-s.i)+4)∧(1≤parts.length)∧(gs.length-s1.i≤mm)) (gs.length) ?_ ?_
 ·exact⟨s1,.win k6 0 0 1 1,[l],rfl,hH,p1,p2,p3,p4,(fun l' ir=>by simp only[List.mem_cons,List.not_mem_nil,or_false] at ir;subst ir;exact p5),by simp only[fK,List.length_cons,List.length_nil];omega,by simp,by omega⟩
 rintro mm fr st ⟨s1,pd,parts,hfr,hH,h1,h2,h3,h4,h5,h6,h8,yJ⟩;rw[hfr];clear hfr;generalize nY fr=ee;clear fr
 have qY:∀st:St,Has N S2 st (.box k (.mem 0 false (a8 gs bS s1))::.aP bS 1 (b_.map ay)::.aP pd 1 (parts.map eu)::H)→∃d,Ev pv 131 [.int .i64 4,pd] st d st∧uV gs s s1 d∧∃l,d=uX l:=by
  intro st hH;obtain⟨_,aK,l,rfl,j1,j2,j3⟩:=sY 4 (hH.rows dL) h5 (by omega) (by omega);refine⟨_,aK,⟨h1,h2,h3,h4,l,rfl,j1,?_⟩,l,rfl⟩
  by_cases q1:parts.length=1
  ·have:=j2 q1;omega
  ·omega
 by_cases ma:s1.e=0
 ·have bd:(s1.e==0)=true:=by simpa using ma
  obtain⟨k1,k2,k3,k4,k5⟩:=gS (gs:=gs) (s:=s1) (r:=124);have k5:=k5 h4;refine qq ?_;refine qq ?_;refine qj fun K hK=>?_;refine qm ?_;refine qg ?_;refine qp (o:=5) ?_;refine ql hH aB ?_;refine qg ?_;refine qm ?_;refine qm ?_ (hg:=wi bd);obtain⟨_,st,aK,rfl,hH⟩:=er (s:=s1) (by omega) 124 hH;refine qv aK ?_ (hg:=wi bd);refine qt bd ?_;refine qe hK ?_
  cases hb:kZ gs s1.i 124 with
  |false=>
   rw[pb hb] at hH;refine qC ?_;refine ab.exit ?_;obtain⟨_,DN,hQ,l,rfl⟩:=qY _ hH;refine qq ?_;refine qj fun K hK=>?_;refine qm ?_;refine qv (DN) ?_;refine qm ?_;refine qe hK ?_;refine ab.ret ⟨rx,_,_,_,rfl,ak (rfl),?_⟩;exact⟨s1,hQ,cF.aA ct (hH.erase 2)⟩
  |true=>
   have k6:=mA hb;generalize c9 gs s1 124=s2 at*;refine qB ?_;refine ab.skip ?_;refine ab.block ?_;refine qj fun K hK=>?_;refine qm ?_;refine qm ?_;obtain⟨_,st,aK,s3,⟨r1,r2,r3,r4,l,rfl,r5,r6⟩,hH⟩:=Ek hA bc (s:=s2) (by omega) k5 (by omega) (by omega) hH;refine qv aK ?_;refine qh (s:=1) (vs:=[_]) hH fun k19 st aa6 hH=>?_;dsimp only[u2,u1,u3,u4,setMany,u5,u6,D.cells,Nat.reduceAdd,a8,aQ,ay,ax,eu] at hH;refine aa.bO (s:=1) hH rfl (ev rfl) (ev rfl) (by exact eQ) (by exact hH.rows (by exact aB)) rfl rfl rfl rfl rfl rfl rfl ⟨(Nat.le_of_ble_eq_true rfl),(Nat.le_of_ble_eq_true rfl)⟩ (fun _=>(ah rfl _)) (by simp only[List.length_cons,List.length_nil,List.length_map]<;>omega) (by exact .inr rfl) (fun YK st hH=>?_);dsimp only[u2,u1,u3,u4,setMany,u5,u6,D.cells,Nat.reduceAdd,a8,aQ,ay,ax,eu] at hH;refine qm ?_;refine qe hK ?_;have hH:=hH.drop 1;refine⟨mm-1,by omega,⟨s3,YK,parts++[l],rfl,(by rw[List.map_append];exact hH),by omega,r2,by omega,r4,?_,by rw[dI,List.length_append];simp only[fK,List.length_cons,List.length_nil];omega,by rw[List.length_append];omega,by omega⟩⟩;intro l' ir
   rcases List.mem_append.1 ir with ir|ir
   ·exact h5 l' ir
   ·simp only[List.mem_cons,List.not_mem_nil,or_false] at ir;subst ir;exact r5
 ·have bd:(s1.e==0)=false:=by simpa using ma
  refine qq ?_;refine qq ?_;refine qj fun K hK=>?_;refine qm ?_;refine qg ?_;refine qp (o:=5) ?_;refine ql hH aB ?_;refine qg ?_;refine qm ?_;refine qs ?_ (hg:=wn bd);refine qs ?_ (hg:=wn bd);refine qu bd ?_;refine qe hK ?_;refine qC ?_;refine ab.exit ?_;obtain⟨_,DN,hQ,l,rfl⟩:=qY _ hH;refine qq ?_;refine qj fun K hK=>?_;refine qm ?_;refine qv (DN) ?_;refine qm ?_;refine qe hK ?_;refine ab.ret ⟨rx,_,_,_,rfl,ak (rfl),?_⟩;exact⟨s1,hQ,cF.aA ct (hH.erase 2)⟩
theorem Ez:∀(n:Nat) (b:List UInt8),b.length≤n→(rL b).length≤b.length∧∀g∈rL b,g.2≤b.length:=by
 intro n
 induction n with
 |zero=>
  intro b hb;have:b=[]:=List.length_eq_zero_iff.1 (by omega);subst this;rw[rK];exact⟨Nat.le_refl _,fun g hg=>by cases hg⟩
 |succ n ih=>
  intro b hb
  by_cases h:b=[]
  ·subst h;rw[rK];exact⟨Nat.le_refl _,fun g hg=>by cases hg⟩
  ·have hp:=fS b;have hl:=mC h;obtain⟨h1,h2⟩:=ih (b.drop (cQ b).2) (by rw[List.length_drop];omega);rw[List.length_drop] at h1 h2;rw[tz h];refine⟨by rw[List.length_cons];omega,fun g hg=>?_⟩
   rcases List.mem_cons.1 hg with rfl|hg
   ·exact hl
   ·have:=h2 g hg;omega
def bw (fr:Go.V.Fr) (k:Nat):Go.V.D:=Go.V.nth .bp fr.loc k
def Re (d:D):Prop:=∃(l:List dM) (e w:Int),d=.tup [uX l,.int .i64 e,.int .i64 w]∧(∀n∈l,vc n)∧l.length≤500
theorem CN {s0:St} {b:List UInt8} (hbl:b.length≤1048576):∃d,Ev pv 51 [.str b] s0 d s0∧Re d:=by
 obtain⟨s9,hgs⟩:=Ez _ b (Nat.le_refl _);have aK:∀(st:St) (x:D),Bytes st x b→Ev pv 13 [x] st (dJ (rL b)) st:=fun st x h=>Q9 h hbl;generalize rL b=gs at*;refine Ev.Dc rfl X4 rfl rfl rfl ?_;dsimp only[u3,u4,List.length,Nat.reduceSub,Nat.reduceAdd,w1,w2];obtain⟨bT,hF,hH⟩:=ri s0;generalize ag .ro s0=S at*;have Ad:Arg s0.bs.length S 2 (dJ gs) (gs.map aQ):=Arg.pure (fun st=>dF st gs);refine qq<|qj fun K hK=>qm ?_;refine qm ?_;refine qm ?_;refine qe hK<|qq<|qq<|qj fun K hK=>qm ?_;refine aa.xI rfl rfl rfl (by dsimp only[Fr.put,u1,u2]<;>rfl) ?_;refine qg ?_;refine qe hK ?_
 by_cases Zs:120<b.length
 ·have gL:decide (((b.length:Nat):Int)>120)=true:=by rw[decide_eq_true_eq];omega
  refine qD rfl (by rw[gL]) ?_;refine qq<|qj fun K hK=>qm ?_;refine qm ?_;refine qm ?_;refine qe hK<|ab.ret ⟨rx,_,_,rfl,rl bT hH (rfl),?_⟩;exact⟨[],2,0,rfl,fun n hn=>(by cases hn),by simp⟩
 have gL:decide (((b.length:Nat):Int)>120)=false:=by rw[decide_eq_false_iff_not];omega
 refine qE rfl (by rw[gL]) ?_;refine ab.skip<|qq<|qj fun K hK=>qm ?_;refine aa.QF hH rfl rfl rfl rfl rfl (by omega) (fun _=>by dsimp only[Fr.put,u1,u2]<;>rfl) (fun k14 st Tn hH=>?_);refine qv ((aK _ _ (hH.rows aB))) ?_;refine aa.go (d:=.agg [dJ gs,.nul,.int .i64 0,.int .i64 0,.int .i64 0,.int .i64 0,.int .i64 0]) (st1:=_) rfl rfl rfl (by dsimp only[Fr.put,u1,u2]<;>rfl) ?_;refine qb hH fun k17 st Tm hH=>?_;refine qm ?_;refine qe hK<|qq<|qj fun K hK=>qm ?_;refine qe hK<|qq<|qq<|qj fun K hK=>qm ?_;refine qg ?_;refine qp (o:=0) ?_;refine ql hH aB ?_;refine qn ?_;simp only[List.length_map];refine qm ?_;refine qe hK ?_;have hH:Has s0.bs.length S st (.box k17 (.mem 0 false [dJ gs,.nul,.int .i64 0,.int .i64 0,.int .i64 0,.int .i64 0,.int .i64 0])::.aP .nul 1 (([]:List Int).map ay)::[]):=((hH.erase 1).d_ 1).front bF;refine ab.block<|ab.loop (fun mm fr st=>∃(i a:Nat) (pd:D) (b_:List Int),fr.clean=⟨24,[bw fr 0,bw fr 1,bw fr 2,bw fr 3,bw fr 4,.ptr k17 0 0,.int .i64 (a:Nat),bw fr 7,bw fr 8,bw fr 9,bw fr 10,bw fr 11,bw fr 12,bw fr 13,bw fr 14,bw fr 15,bw fr 16,bw fr 17,bw fr 18,bw fr 19,bw fr 20,dJ gs,.int .i64 (gs.length:Nat),.int .i64 (i:Nat)],[]⟩∧Has s0.bs.length S st [.box k17 (.mem 0 false [dJ gs,pd,.int .i64 0,.int .i64 0,.int .i64 0,.int .i64 0,.int .i64 0]),.aP pd 1 (b_.map ay)]∧(i+mm=gs.length)∧(b_.length=i)∧(a≤120*i)) (gs.length) ?_ ?_
 ·exact⟨0,0,.nul,[],rfl,hH,by omega,rfl,by omega⟩
 rintro mm fr st ⟨i,a,pd,b_,hfr,hH,hi,iq,ha⟩;rw[hfr];clear hfr;generalize bw fr=ee;clear fr;refine qq<|qj fun K hK=>qg ?_;refine qe hK ?_
 by_cases hlt:i<gs.length
 ·obtain⟨g,hg⟩:∃g,gs[i]?=some g:=⟨gs[i]'hlt,List.getElem?_eq_getElem _⟩
  have gJ:(gs.map aQ)[i]?=some (aQ g):=by rw[List.getElem?_map,hg];rfl
  have bj:=hgs g (List.mem_of_getElem? hg);have nv:decide (((i:Nat):Int)<((gs.length:Nat):Int))=true:=by rw[decide_eq_true_eq];omega
  refine qq<|qD rfl (by rw[nv]) ?_;refine ab.skip<|qq<|ab.block<|qq<|qj fun K hK=>qr fun Sb DG=>?_;refine aa.db rfl (ev rfl) (by assumption) rfl (ah rfl _) ?_;refine qa hH fun k8 st Rx hH=>?_;refine qS hH aB fun st hH=>?_;dsimp only[u2,u1,u3,u4,setMany,u5,u6,D.cells,Nat.reduceAdd,a8,aQ,ay] at hH;refine qe hK<|qq<|qj fun K hK=>qm ?_;refine qm ?_;refine qg ?_;refine qp (o:=1) ?_;refine ql hH bF ?_;refine qm ?_;refine qh (s:=1) (vs:=[_]) hH fun k33 st WQ hH=>?_;refine aa.bO (s:=1) hH rfl (ev rfl) (ev rfl) (by exact eQ) (by exact hH.rows (by exact aB)) rfl rfl rfl rfl rfl rfl rfl ⟨(Nat.le_of_ble_eq_true rfl),(Nat.le_of_ble_eq_true rfl)⟩ (fun _=>(ah rfl _)) (by simp only[List.length_cons,List.length_nil,List.length_map]<;>omega) (by exact .inl hF) (fun x34 st hH=>?_);dsimp only[u2,u1,u3,u4,setMany,u5,u6,D.cells,Nat.reduceAdd,a8,aQ,ay] at hH;refine qg ?_;refine qp (o:=1) ?_;refine qT hH dL (fun st hH=>?_) (h_:=hH.eK eQ);dsimp only[u2,u1,u3,u4,setMany,u5,u6,D.cells,Nat.reduceAdd,a8,aQ,ay] at hH;refine qe hK<|qj fun K hK=>qm ?_;refine qp (o:=1) ?_;refine ql hH bF ?_;refine aa.YG rfl (ev rfl) (ev rfl) (by omega) (ah rfl _) ?_;refine qm ?_;refine qe hK<|qj fun K hK=>qA ?_;refine qm ?_;refine qe hK ?_;exact⟨mm-1,by omega,⟨i+1,a+g.2,x34,b_++[((a:Nat):Int)],rfl,(by rw[List.map_append];exact hH.drop 2),by omega,by rw[List.length_append,iq];rfl,by omega⟩⟩
 ·have nv:decide (((i:Nat):Int)<((gs.length:Nat):Int))=false:=by rw[decide_eq_false_iff_not];omega
  refine qq<|qE rfl (by rw[nv]) ?_;refine ab.exit ?_
  have bc:lu gs b_:=⟨by omega,by omega⟩
  have hH:Has s0.bs.length S st (.box k17 (.mem 0 false (a8 gs pd ⟨0,0,0,0,0⟩))::.aP pd 1 (b_.map ay)::[]):=hH;refine qq<|qj fun K hK=>qm ?_;obtain⟨_,st,aK,s1,⟨p1,p2,p3,p4,l,rfl,p5,p6⟩,hH⟩:=LN 20 (s:=⟨0,0,0,0,0⟩) bc rfl (by simp) (by simp) rfl hH;refine qv aK ?_;refine qm ?_;refine qe hK ?_;have p6:l.length≤4*(s1.i-0)+1:=p6;refine qq<|qq<|ab.j8 (fun fr st=>∃(s2:fk) (tmp:List (Nat×D)),fr=⟨24,[bw fr 0,bw fr 1,bw fr 2,bw fr 3,bw fr 4,.ptr k17 0 0,bw fr 6,bw fr 7,bw fr 8,uX l,bw fr 10,bw fr 11,bw fr 12,bw fr 13,bw fr 14,bw fr 15,bw fr 16,bw fr 17,bw fr 18,bw fr 19,bw fr 20,bw fr 21,bw fr 22,bw fr 23],tmp⟩∧Has s0.bs.length S st (.box k17 (.mem 0 false (a8 gs pd s2))::.aP pd 1 (b_.map ay)::[])∧(True)) ?_ ?_
  ·by_cases ma:s1.e=0
   ·have bd:(s1.e==0)=true:=by simpa using ma
    refine qj fun K hK=>qm ?_;refine qg ?_;refine qp (o:=5) ?_;refine ql hH aB ?_;refine qg ?_;refine qm ?_;refine qm ?_ (hg:=wi bd);refine qg ?_ (hg:=wi bd);refine qp (o:=2) ?_ (hg:=wi bd);refine ql hH aB ?_ (hg:=wi bd);refine qm ?_ (hg:=wi bd);refine qg ?_ (hg:=wi bd);refine qp (o:=0) ?_ (hg:=wi bd);refine ql hH aB ?_ (hg:=wi bd);refine qn ?_ (hg:=wi bd);simp only[List.length_map];refine qg ?_ (hg:=wi bd);refine qt bd ?_;refine qe hK ?_;refine ab.cond (by rfl) (fun EV=>?_) (fun EV=>?_)<;>try simp only[decide_eq_true_eq,decide_eq_false_iff_not] at EV
    ·refine qj fun K hK=>qm ?_;refine qm ?_;refine qg ?_;refine qp (o:=2) ?_;refine ql hH aB ?_;obtain⟨_,st,aK,rfl,hH⟩:=dc (s:=s1) s1.i 4 (by omega) hH;refine qv aK ?_;refine qe hK ?_;exact⟨_,_,rfl,hH,trivial⟩
    ·refine ab.skip ?_;exact⟨s1,_,rfl,hH,trivial⟩
   ·have bd:(s1.e==0)=false:=by simpa using ma
    refine qj fun K hK=>qm ?_;refine qg ?_;refine qp (o:=5) ?_;refine ql hH aB ?_;refine qg ?_;refine qm ?_;refine qs ?_ (hg:=wn bd);refine qs ?_ (hg:=wn bd);refine qs ?_ (hg:=wn bd);refine qs ?_ (hg:=wn bd);refine qs ?_ (hg:=wn bd);refine qs ?_ (hg:=wn bd);refine qs ?_ (hg:=wn bd);refine qs ?_ (hg:=wn bd);refine qs ?_ (hg:=wn bd);refine qs ?_ (hg:=wn bd);refine qu bd ?_;refine qe hK<|qC ?_;refine ab.skip ?_;exact⟨s1,_,rfl,hH,trivial⟩
  ·rintro fr st ⟨s2,tmp,hfr,hH,ht⟩;rw[hfr];clear hfr;generalize bw fr=ee;clear fr;refine qq<|qq<|qj fun K hK=>qm ?_;refine qg ?_;refine qp (o:=5) ?_;refine ql hH aB ?_;refine qg ?_;refine qe hK ?_;refine ab.cond (by rfl) (fun hne=>?_) (fun hne=>?_)<;>try simp only[bne_iff_ne,bne_eq_false_iff_eq,ne_eq] at hne
   ·refine qq<|qj fun K hK=>qm ?_;refine qg ?_;refine qp (o:=5) ?_;refine ql hH aB ?_;refine qm ?_;refine qg ?_;refine qp (o:=6) ?_;refine ql hH aB ?_;refine qm ?_;refine qm ?_;refine qm ?_;refine qe hK<|ab.ret ⟨rx,_,_,rfl,rl bT hH (rfl),?_⟩;exact⟨[],_,_,rfl,fun n hn=>(by cases hn),by simp⟩
   ·refine ab.skip<|qq<|qj fun K hK=>qm ?_;refine qm ?_;refine qm ?_;refine qm ?_;refine qe hK<|ab.ret ⟨rx,_,_,rfl,rl bT hH (rfl),?_⟩;exact⟨l,0,0,rfl,p5,by omega⟩
def tR (n:dM):Bool:=((n.op==2)||((n.rs.length:Nat):Int)==0) &&((n.op==5)||((n.mn==0) &&(n.mx==0) &&!n.lz)) &&((n.op==6)||(n.cap==0))
noncomputable def ft (n:dM) (g:Int):Int×Bool:=
 if tR n=false then(0,false)
 else if n.op=1∨n.op=7∨n.op=8 then(0,n.kids==0)
 else if n.op=2 then(0,(n.kids==0) &&fu n.rs)
 else if n.op=3∨n.op=4 then(n.kids,decide (n.kids≥2))
 else if n.op=5 then(1,(n.kids==1) &&decide (n.mn≥0) &&decide (n.mn≤30) &&((n.mx==-1)||(decide (n.mx≥n.mn) &&decide (n.mx≤30))))
 else if n.op=6 then(1,(n.kids==1) &&(n.cap==g+1) &&decide (n.cap≤4))
 else(0,false)
def jJ (h:Nat→Nat→Option (Nat×Nat)):Nat→Nat→Nat→Option (Nat×Nat)
 |0,at_,g=>some (at_,g)
 |k+1,at_,g=>match h at_ g with
  |some r=>jJ h k r.1 r.2
  |none=>none
noncomputable def iB (l:List dM):Nat→Nat→Nat→Option (Nat×Nat)
 |0,_,_=>none
 |f+1,at_,g=>match l[at_]? with
  |none=>none
  |some n=>if(ft n (g:Nat)).2=true then jJ (iB l f) (ft n (g:Nat)).1.toNat (at_+1) (if n.op=6 then g+1 else g) else none
theorem vj {n:dM} {g:Nat} (h:(ft n (g:Nat)).2=true):v_ n (ft n (g:Nat)).1.toNat∧0≤(ft n (g:Nat)).1∧(n.op=6→n.cap=g+1∧n.cap≤4):=by
 unfold ft at h⊢;unfold v_
 by_cases h0:tR n=false
 ·rw[if_pos h0] at h;cases h
 rw[if_neg h0] at h⊢
 by_cases h1:n.op=1∨n.op=7∨n.op=8
 ·rw[if_pos h1] at h⊢;simp only[beq_iff_eq] at h;exact⟨⟨h,.inl ⟨h1,rfl⟩⟩,Int.le_refl _,fun h6=>by omega⟩
 rw[if_neg h1] at h⊢
 by_cases h2:n.op=2
 ·rw[if_pos h2] at h⊢;simp only[Bool.and_eq_true,beq_iff_eq] at h;exact⟨⟨h.1,.inr (.inl ⟨h2,rfl⟩)⟩,Int.le_refl _,fun h6=>by omega⟩
 rw[if_neg h2] at h⊢
 by_cases h3:n.op=3∨n.op=4
 ·rw[if_pos h3] at h⊢;simp only[decide_eq_true_eq] at h;exact⟨⟨by simp only;omega,.inr (.inr (.inl ⟨h3,by simp only;omega⟩))⟩,by simp only;omega,fun h6=>by omega⟩
 rw[if_neg h3] at h⊢
 by_cases h5:n.op=5
 ·rw[if_pos h5] at h⊢;simp only[Bool.and_eq_true,Bool.or_eq_true,beq_iff_eq,decide_eq_true_eq] at h;exact⟨⟨by simp only;omega,.inr (.inr (.inr (.inl ⟨h5,by simp only;rfl,by omega,by omega,by omega⟩)))⟩,by simp only;omega,fun h6=>by omega⟩
 rw[if_neg h5] at h⊢
 by_cases h6:n.op=6
 ·rw[if_pos h6] at h⊢;simp only[Bool.and_eq_true,beq_iff_eq,decide_eq_true_eq] at h;exact⟨⟨by simp only;omega,.inr (.inr (.inr (.inr ⟨h6,by simp only;rfl,by omega,by omega⟩)))⟩,by simp only;omega,fun _=>⟨h.1.2,h.2⟩⟩
 rw[if_neg h6] at h;cases h
theorem fO.cons {α:Type} {L M:List α} {a:α} {at_:Nat} (h:L[at_]?=some a) (h2:fO L (at_+1) M):fO L at_ (a::M):=by
 obtain⟨post,h2⟩:=h2;refine⟨post,?_⟩;have h3:L[at_]'(bH h)=a:=Option.some.inj ((List.getElem?_eq_getElem _).symm.trans h);rw[List.drop_eq_getElem_cons (bH h),h2,h3];rfl
theorem fO.append {α:Type} {L M M':List α} {at_:Nat} (h:fO L at_ M) (h2:fO L (at_+M.length) M'):fO L at_ (M++M'):=by
 obtain⟨post,h⟩:=h;obtain⟨Sa,h2⟩:=h2;refine⟨Sa,?_⟩;rw[←List.drop_drop,h,List.drop_left] at h2;rw[h,h2,List.append_assoc]
theorem fO.none {α:Type} (L:List α) (at_:Nat):fO L at_ []:=⟨_,rfl⟩
theorem sX {l:List dM} {h:Nat→Nat→Option (Nat×Nat)} (ih:∀at_ g r,h at_ g=some r→∃t:Tr,t.ok∧fO l at_ t.flat∧r.1=at_+t.flat.length):∀k at_ g r,jJ h k at_ g=some r→∃ts:bI,ts.len=k∧ts.ok∧fO l at_ ts.flat∧r.1=at_+ts.flat.length
 |0,at_,g,r,e=>by
  simp only[jJ,Option.some.injEq] at e;subst e;exact⟨.nil,rfl,trivial,fO.none _ _,by simp[bI.flat]⟩
 |k+1,at_,g,r,e=>by
  unfold jJ at e
  cases hq:h at_ g with
  |none=>rw[hq] at e;cases e
  |some q=>
   rw[hq] at e;obtain⟨t,t1,t2,t3⟩:=ih _ _ _ hq;obtain⟨ts,u1,u2,u3,u4⟩:=sX ih k _ _ _ e;rw[t3] at u3 u4;exact⟨.cons t ts,by simp[bI.len,u1],by simp only[bI.ok];exact⟨t1,u2⟩,by simp only[bI.flat];exact t2.append u3,by rw[u4];simp only[bI.flat,List.length_append];omega⟩
theorem vV {l:List dM}:∀f at_ g r,iB l f at_ g=some r→∃t:Tr,t.ok∧fO l at_ t.flat∧r.1=at_+t.flat.length
 |0,_,_,_,e=>by simp[iB] at e
 |f+1,at_,g,r,e=>by
  unfold iB at e
  cases hn:l[at_]? with
  |none=>rw[hn] at e;cases e
  |some n=>
   rw[hn] at e;simp only at e
   split at e
   ·rename_i hs;obtain⟨ts,u1,u2,u3,u4⟩:=sX (vV f) _ _ _ _ e;have:=(vj hs).1;rw[←u1] at this;exact⟨.mk n ts,by simp only[Tr.ok];exact⟨this,u2⟩,by simp only[Tr.flat];exact fO.cons hn u3,by rw[u4];simp only[Tr.flat,List.length_cons];omega⟩
   ·cases e
noncomputable def gm (l:List dM):Bool:=(decide (1≤l.length) &&decide (l.length≤480)) &&(match iB l 241 0 0 with|some r=>decide (r.1=l.length)|none=>false)
theorem pP {l:List dM} (h:gm l=true):∃t:Tr,t.ok∧t.flat=l:=by
 unfold gm at h;simp only[Bool.and_eq_true] at h;obtain⟨_,h⟩:=h
 split at h
 ·rename_i r hr;obtain⟨t,h1,⟨post,h2⟩,h3⟩:=vV _ _ _ _ hr;rw[decide_eq_true_eq] at h;refine⟨t,h1,?_⟩;rw[List.drop_zero] at h2;have h4:=congrArg List.length h2;rw[List.length_append] at h4;have h5:post=[]:=List.length_eq_zero_iff.1 (by omega);rw[h2,h5,List.append_nil]
 ·cases h
noncomputable def cL (l:List dM):Tr:=@dite _ (∃t:Tr,t.ok∧t.flat=l) (Classical.propDecidable _) (fun h=>Classical.choose h) (fun _=>.mk ⟨0,.nul,[],0,0,false,0,0⟩ .nil)
theorem tD {l:List dM} (h:gm l=true):(cL l).ok∧(cL l).flat=l:=by
 unfold cL;rw[dif_pos (pP h)];exact Classical.choose_spec (pP h)
theorem LH {n:dM} {k s:Nat}:min (bQ n (min s 401) k) 401=min (bQ n s k) 401:=by
 by_cases hs:s≤401
 ·rw[Nat.min_eq_left hs]
 ·have hx:min s 401=401:=by omega
  rw[hx];unfold bQ
  split
  ·rfl
  ·split
   ·omega
   ·split
    ·omega
    ·split
     ·split
      ·omega
      ·by_cases h0:n.mn.toNat=0
       ·rw[h0]
        by_cases hd:n.mx.toNat-0=0
        ·rw[hd];simp
        ·have h1:=Nat.le_mul_of_pos_left (401+1) (show 0<n.mx.toNat-0 by omega);have h2:=Nat.le_mul_of_pos_left (s+1) (show 0<n.mx.toNat-0 by omega);omega
       ·have h1:=Nat.le_mul_of_pos_left 401 (show 0<n.mn.toNat by omega);have h2:=Nat.le_mul_of_pos_left s (show 0<n.mn.toNat by omega);omega
     ·omega
def eS (t:Tr) (b r:Nat):List aO:=c8 4 0 0 []::(aX t (b+1)++[c8 4 1 0 [],c8 7 (r:Nat) 0 []])
theorem lB {t:Tr} {b r:Nat} (h:t.ok):(eS t b r).length=t.sz+3:=by
 unfold eS;rw[List.length_cons,List.length_append,cy t _ h];rfl
structure tA where
 code:List aO
 aw:List Int
 e:Int
 w:Int
noncomputable def eV:List (List dM)→Nat→List aO→List Int→tA
 |[],_,c,s=>⟨c,s,0,0⟩
 |l::ls,r,c,s=>if gm l=false then⟨[],[],1,(r:Nat)⟩ else if 400<c.length+min (cL l).sz 401+3 then⟨[],[],12,(r:Nat)⟩ else eV ls (r+1) (c++eS (cL l) c.length r) (s++[((c.length:Nat):Int)])
noncomputable def bB (rules:List (List dM)):tA:=if 8<rules.length then⟨[],[],13,8⟩ else eV rules 0 [] []
def pq (code:List aO) (aw:List Int):Pg:=⟨.sl ((code.map aH).map (ki 4)),code,Dl aw,aw⟩
def jT (i:aO):Prop:=i.rd=.sl ((i.rs.map ax).map (ki 2))∧i.rs.length≤1048576
theorem mE (op x y:Int):jT (c8 op x y []):=⟨rfl,by simp[c8]⟩
theorem Sh (op x y:Int) {rs:List Rg} (h:rs.length≤1048576):jT (c8 op x y rs):=⟨rfl,h⟩
theorem Ci (s o:Nat) (lz:Bool):jT (nE s o lz):=by unfold nE;split<;>exact mE _ _ _
theorem LY (e:Nat):jT (mK e):=mE _ _ _
theorem yE {code:List aO} (h:∀i∈code,jT i):∀e∈code.map aH,∀d∈e,cj d=true:=by
 intro e he d hd;obtain⟨q,hq,rfl⟩:=List.mem_map.1 he;have hr:=(h q hq).1;simp only[aH,hr,List.mem_cons,List.not_mem_nil,or_false] at hd
 rcases hd with rfl|rfl|rfl|rfl<;>rfl
theorem K3 (code:List aO):∀e∈code.map aH,e.length=4:=by
 intro e he;obtain⟨q,_,rfl⟩:=List.mem_map.1 he;rfl
theorem CM {code:List aO} {aw:List Int} (h:∀i∈code,jT i) (h1:code.length≤1048576) (h2:aw.length≤1048576):(pq code aw).ok:=by
 refine⟨eE.frozen (K3 code) (yE h),wx _,fun i hi=>?_,h1,h2⟩;obtain⟨h3,h4⟩:=h i hi;refine⟨?_,h4⟩;rw[h3];exact eE.frozen (lD _) (eH _)
theorem xZ {c:Nat→List aO} {z:Nat} (hc:∀b,∀i∈c b,jT i):∀k b,∀i∈fv c z k b,jT i
 |0,b,i,hi=>by cases hi
 |k+1,b,i,hi=>by
  simp only[fv] at hi
  rcases List.mem_append.1 hi with hi|hi
  ·exact hc b i hi
  ·exact xZ hc k _ i hi
theorem CS {sp:Nat→aO} {c:Nat→List aO} {z:Nat} (hs:∀s,jT (sp s)) (hc:∀b,∀i∈c b,jT i):∀k b,∀i∈fc sp c z k b,jT i
 |0,b,i,hi=>by cases hi
 |k+1,b,i,hi=>by
  simp only[fc] at hi
  rcases List.mem_cons.1 hi with rfl|hi
  ·exact hs _
  ·rcases List.mem_append.1 hi with hi|hi
   ·exact hc _ i hi
   ·exact CS hs hc k _ i hi
mutual
theorem pz:∀(t:Tr) (b:Nat),(∀n∈t.flat,n.rs.length≤1048576)→∀i∈aX t b,jT i
 | .mk n ks,b,h,i,hi=>by
  simp only[Tr.flat] at h;have hn:=h n (List.mem_cons_self ..);have hk:∀n∈ks.flat,n.rs.length≤1048576:=fun m hm=>h m (List.mem_cons_of_mem _ hm);have hc:=fun b=>El ks b hk;have ha:=fun jp (hj:jT jp) b=>Ew jp hj ks b hk;simp only[aX] at hi
  split at hi
  ·simp only[List.mem_cons,List.not_mem_nil,or_false] at hi;subst hi;exact Sh _ _ _ hn
  split at hi
  ·simp only[List.mem_cons,List.not_mem_nil,or_false] at hi;subst hi;exact mE _ _ _
  split at hi
  ·simp only[List.mem_cons,List.not_mem_nil,or_false] at hi;subst hi;exact mE _ _ _
  split at hi
  ·exact hc b i hi
  split at hi
  ·exact ha _ (LY _) b i hi
  split at hi
  ·unfold nK at hi
   split at hi
   ·rcases List.mem_append.1 hi with hi|hi
    ·exact xZ hc _ _ i hi
    ·rcases List.mem_cons.1 hi with rfl|hi
     ·exact Ci _ _ _
     ·rcases List.mem_append.1 hi with hi|hi
      ·exact hc _ i hi
      ·simp only[List.mem_cons,List.not_mem_nil,or_false] at hi;subst hi;exact LY _
   ·rcases List.mem_append.1 hi with hi|hi
    ·exact xZ hc _ _ i hi
    ·exact CS (fun s=>Ci _ _ _) hc _ _ i hi
  split at hi
  ·rcases List.mem_cons.1 hi with rfl|hi
   ·exact mE _ _ _
   ·rcases List.mem_append.1 hi with hi|hi
    ·exact hc _ i hi
    ·simp only[List.mem_cons,List.not_mem_nil,or_false] at hi;subst hi;exact mE _ _ _
  ·cases hi
theorem El:∀(ts:bI) (b:Nat),(∀n∈ts.flat,n.rs.length≤1048576)→∀i∈fZ ts b,jT i
 | .nil,b,_,i,hi=>by simp[fZ] at hi
 | .cons t ts,b,h,i,hi=>by
  simp only[bI.flat] at h;simp only[fZ] at hi
  rcases List.mem_append.1 hi with hi|hi
  ·exact pz t b (fun n hn=>h n (List.mem_append_left _ hn)) i hi
  ·exact El ts _ (fun n hn=>h n (List.mem_append_right _ hn)) i hi
theorem Ew (jp:aO) (hj:jT jp):∀(ts:bI) (b:Nat),(∀n∈ts.flat,n.rs.length≤1048576)→∀i∈eR jp ts b,jT i
 | .nil,b,_,i,hi=>by simp[eR] at hi
 | .cons t ts,b,h,i,hi=>by
  simp only[bI.flat] at h;have h1:∀n∈t.flat,n.rs.length≤1048576:=fun n hn=>h n (List.mem_append_left _ hn);have h2:∀n∈ts.flat,n.rs.length≤1048576:=fun n hn=>h n (List.mem_append_right _ hn);simp only[eR] at hi
  split at hi
  ·exact pz t b h1 i hi
  ·rcases List.mem_cons.1 hi with rfl|hi
   ·exact Ci _ _ _
   ·rcases List.mem_append.1 hi with hi|hi
    ·exact pz t _ h1 i hi
    ·rcases List.mem_cons.1 hi with rfl|hi
     ·exact hj
     ·exact Ew jp hj ts _ h2 i hi
end
theorem Ff {t:Tr} {b r:Nat} (h:∀n∈t.flat,n.rs.length≤1048576):∀i∈eS t b r,jT i:=by
 intro i hi;unfold eS at hi
 rcases List.mem_cons.1 hi with rfl|hi
 ·exact mE _ _ _
 ·rcases List.mem_append.1 hi with hi|hi
  ·exact pz t _ h i hi
  ·simp only[List.mem_cons,List.not_mem_nil,or_false] at hi
   rcases hi with rfl|rfl
   ·exact mE _ _ _
   ·exact mE _ _ _
end Go.Proofs.YtbdnabmmlbiomaaGreat
