/-
 The parser of patterns: one thing; how often.
-/
import Derived.Test.YtbdnabmmlbiomaaXGQa
import Derived.Test.YtbdnabmmlbiomaaXGUb
set_option maxRecDepth 100000
set_option maxHeartbeats 4000000
set_option linter.unusedSimpArgs false
set_option linter.unusedVariables false
namespace Go.Proofs.Ytbdnabmmlbiomaa
open Go.V Go
def wk (fr:Go.V.Fr) (k:Nat):Go.V.D:=Go.V.nth .bw fr.loc k
theorem nZ {gs:List (Nat×Nat)} {s:eO} {r:Int} (h:iJ gs s.i r=false):cT gs s r=s:=by
 unfold cT;rw[if_neg (by rw[h];simp)]
theorem lB {gs:List (Nat×Nat)} {s:eO} {r:Int} (h:iJ gs s.i r=true):(cT gs s r).i=s.i+1:=by
 unfold cT;rw[if_pos h]
theorem Gh {m:Nat} (hA:∀m',m'+1=m→kG m') {N k:Nat} {S s0:St} {H:List bP} {gs:List (Nat×Nat)} {bu:D} {aW:List Int} {s:eO} (ba:kc gs aW) (he:s.e=0) (hi:s.i<gs.length) (hg:s.g≤4) (ho:s.o+m=20) (hH:Has N S s0 (.box k (.mem 0 false (aT gs bu s))::.aL bu 1 (aW.map aq)::H)):
  ∃d ah,Ev pv 77 [.ptr k 0 0] s0 d ah∧∃(s':eO),iI gs s s' d 2∧Has N S ah (.box k (.mem 0 false (aT gs bu s'))::.aL bu 1 (aW.map aq)::H):=by
 have o_:=ba.gl;have fF:=ba.pl;refine Ev.jD rfl Rn rfl rfl rfl ?_;dsimp only[u3,u4,List.length,Nat.reduceSub,Nat.reduceAdd,w1,w2];have cy:=hH;have hH:=hH.cA;have cx:(ak .rw s0).bs=s0.bs:=rfl;generalize ak .rw s0=S2 at*;have Bs:Arg N S2 2 (cu gs) (gs.map a_):=Arg.pure (fun st=>cV st gs)
 obtain⟨g,FZ⟩:∃g,gs[s.i]?=some g:=⟨gs[s.i]'hi,List.getElem?_eq_getElem _⟩
 have hO:(gs.map a_)[s.i]?=some (a_ g):=by rw[List.getElem?_map,FZ];rfl
 have hwr:∀(st:St),Has N S2 st (.box k (.mem 0 false (aT gs bu s))::.aL bu 1 (aW.map aq)::H)→∃d ah,Ev pv 36 [.ptr k 0 0,.int .i64 (s.i:Nat),.int .i64 4] st d ah∧d=.sl []∧∃s4,iI gs s s4 (.sl []) 2∧Has N S2 ah (.box k (.mem 0 false (aT gs bu s4))::.aL bu 1 (aW.map aq)::H):=by
  intro st hH;obtain⟨d,ah,aO,h6,hH⟩:=cW (s:=s) s.i 4 (by omega) hH;obtain⟨w1,w2,w3,w4⟩:=df (aW:=aW) (s:=s) (i:=s.i) (e:=4) he (by decide);exact⟨d,ah,aO,h6,_,fL w3 (by omega) (by omega) (by omega) w1,hH⟩
 have jt:∀(st:St) (s1:eO) (op:Int) (w:D) (a:List Rg) (kk:Nat),(w=bF a∨w=.nul∧a=[])→a.length≤1048576→s1.o=s.o→s1.g≤4→s.i<s1.i→s1.i≤gs.length→S2.bs.length≤kk→Has N S2 st (.aL (.win kk 0 0 1 7) 7 [[.int .i64 op,w,.int .i64 0,.int .i64 0,.bool false,.int .i64 0,.int .i64 0]]::.box k (.mem 0 false (aT gs bu s1))::.aL bu 1 (aW.map aq)::H)→
   ∃d ah,cO .rw false s0 st (.win kk 0 0 1 7)=some (d,ah)∧∃(s':eO),iI gs s s' d 2∧Has N S ah (.box k (.mem 0 false (aT gs bu s'))::.aL bu 1 (aW.map aq)::H):=by
  intro st s1 op w a kk hw ha h1 h2 h3 h4 hk hH;have hfz:=iu hH aB (L:=s0.bs.length) hw (fun k hk=>by simp only[D.ref] at hk;rw[←cx];omega);refine⟨_,_,aj hfz,s1,⟨h1,h2,by omega,h4,_,rfl,A4 ha (by omega),by simp,?_⟩,cy.ax cx (hH.drop 1)⟩
  by_cases he:s1.e=0
  ·exact .inr ⟨he,by simp only[List.length_cons,List.length_nil];omega⟩
  ·exact .inl he
 refine qq<|qj fun K hK=>qm ?_;refine qe hK<|qq<|qj fun K hK=>qm ?_;refine qg ?_;refine qp (o:=2) ?_;refine ql hH aB ?_;refine qm ?_;refine qe hK<|qq<|qq<|qj fun K hK=>qm ?_;refine qm ?_;obtain⟨_,st,aO,rfl,hH⟩:=w_ (s:=s) s.i hi hH;refine qv aO ?_;refine qe hK ?_;refine qc (fun hb=>?_) (fun hb=>?_)<;>try simp only[cs] at hb
 ·refine qq<|qj fun K hK=>qm ?_;refine qm ?_;obtain⟨_,st,aO,rfl,s4,hN,hH⟩:=hwr _ hH;refine qv aO ?_;refine qm ?_;refine qe hK<|af.ret ⟨rx,_,_,_,rfl,aj (rfl),?_⟩;exact⟨s4,hN,cy.ax cx hH⟩
 refine af.skip<|qq<|qj fun K hK=>qm ?_;refine qg ?_;refine qp (o:=0) ?_;refine ql hH aB ?_;refine qm ?_;refine qr fun OL Kx=>?_;refine qf (fo:=0) fun Ur P0=>?_;refine qR ?_;refine qm ?_;refine qe hK<|qq<|qj fun K hK=>qm ?_;refine qe hK<|af.block<|qq<|qj fun K hK=>qg ?_;refine qm ?_;refine qe hK ?_;refine af.cond (by rfl) (fun SI=>?_) (fun SI=>?_)<;>try simp only[beq_iff_eq,beq_eq_false_iff_ne,ne_eq] at SI
 ·refine qq<|qj fun K hK=>qm ?_;obtain⟨_,st,aO,s4,⟨p1,p2,p3,p4,l,rfl,p5,p6,p7⟩,hH⟩:=BF hA ba he hi hg ho hH;refine qv aO ?_;refine qm ?_;refine qe hK<|af.ret ⟨rx,_,_,_,rfl,aj (rfl),?_⟩;exact⟨s4,⟨p1,p2,p3,p4,l,rfl,p5,p6,p7⟩,cy.ax cx hH⟩
 refine qq<|qj fun K hK=>qg ?_;refine qm ?_;refine qe hK ?_;refine af.cond (by rfl) (fun Lq=>?_) (fun Lq=>?_)<;>try simp only[beq_iff_eq,beq_eq_false_iff_ne,ne_eq] at Lq
 ·refine qq<|qj fun K hK=>qm ?_;obtain⟨_,st,aO,s4,⟨p1,p2,p3,p4,l,rfl,p5,p6,p7⟩,hH⟩:=BV ba he hi hg hH;refine qv aO ?_;refine qm ?_;refine qe hK<|af.ret ⟨rx,_,_,_,rfl,aj (rfl),?_⟩;exact⟨s4,⟨p1,p2,p3,p4,l,rfl,p5,p6,p7⟩,cy.ax cx hH⟩
 refine qq<|qj fun K hK=>qg ?_;refine qm ?_;refine qe hK ?_;refine af.cond (by rfl) (fun SF=>?_) (fun SF=>?_)<;>try simp only[beq_iff_eq,beq_eq_false_iff_ne,ne_eq] at SF
 ·refine qq<|qj fun K hK=>qm ?_;obtain⟨_,st,aO,d1,b,s4,rfl,⟨p1,p2,p3,p4,p5,p6⟩,hH⟩:=xA (s:=s) ba he hi hH;refine qv aO ?_;refine qm ?_;refine qg ?_;refine qg ?_;refine qm ?_;refine qm ?_;refine qe hK ?_
  have F2:∀(st:St) (w:D) (a:List Rg) (kk:Nat),(w=bF a∨w=.nul∧a=[])→a.length≤8→S2.bs.length≤kk→Has N S2 st (.aL (.win kk 0 0 1 7) 7 [[.int .i64 2,w,.int .i64 0,.int .i64 0,.bool false,.int .i64 0,.int .i64 0]]::.box k (.mem 0 false (aT gs bu s4))::.aL bu 1 (aW.map aq)::H)→∃d ah,cO .rw false s0 st (.win kk 0 0 1 7)=some (d,ah)∧∃(s':eO),iI gs s s' d 2∧Has N S ah (.box k (.mem 0 false (aT gs bu s'))::.aL bu 1 (aW.map aq)::H):=by
   intro st w a kk hw ha hk hH;have hfz:=iu hH aB (L:=s0.bs.length) hw (fun k hk=>by simp only[D.ref] at hk;rw[←cx];omega);refine⟨_,_,aj hfz,s4,⟨p1,by omega,by omega,p4,_,rfl,A4 (by omega) (by omega),by simp,?_⟩,cy.ax cx (hH.drop 1)⟩
   rcases p6 with p6|⟨p6,p7,_⟩
   ·exact .inl p6
   ·exact .inr ⟨p6,by simp only[List.length_cons,List.length_nil];omega⟩
  rcases p5 with rfl|⟨a,rfl,ha⟩
  ·refine qq<|qj fun K hK=>qm ?_;refine ab.fX (qs:=[(0,_),(1,_)]) rfl rfl rfl rfl ⟨rfl,(ev rfl),(by rfl),rfl,(ev rfl),(by rfl),trivial⟩ (by intro q hq;simp only[List.mem_cons,List.not_mem_nil,or_false] at hq;rcases hq with rfl|rfl<;>exact⟨rfl,by exact Nat.le_of_ble_eq_true rfl⟩) (by show List.foldl _ [_,_,_,_,_,_,_] _=_;dsimp only[List.foldl_cons,List.foldl_nil,u2,u1]<;>rfl) (ae rfl _) ?_;refine qh (s:=7) (vs:=[_]) hH fun k54 st KJ hH=>?_;dsimp only[u2,u1,u3,u4,setMany,u5,u6,D.cells,Nat.reduceAdd,aT,a_,aq,aw,a8] at hH;refine qm ?_;refine qe hK ?_;obtain⟨d',ah,tf,gu⟩:=F2 _ .nul [] k54 (.inr ⟨rfl,rfl⟩) (by simp) KJ hH;refine af.ret ⟨rx,_,d',ah,rfl,tf,gu⟩
  ·refine qq<|qj fun K hK=>qm ?_;refine ab.fX (qs:=[(0,_),(1,_)]) rfl rfl rfl rfl ⟨rfl,(ev rfl),(by rfl),rfl,(ev rfl),(by rfl),trivial⟩ (by intro q hq;simp only[List.mem_cons,List.not_mem_nil,or_false] at hq;rcases hq with rfl|rfl<;>exact⟨rfl,by exact Nat.le_of_ble_eq_true rfl⟩) (by show List.foldl _ [_,_,_,_,_,_,_] _=_;dsimp only[List.foldl_cons,List.foldl_nil,u2,u1]<;>rfl) (ae rfl _) ?_;refine qh (s:=7) (vs:=[_]) hH fun k54 st KJ hH=>?_;dsimp only[u2,u1,u3,u4,setMany,u5,u6,D.cells,Nat.reduceAdd,aT,a_,aq,aw,a8] at hH;refine qm ?_;refine qe hK ?_;obtain⟨d',ah,tf,gu⟩:=F2 _ (bF a) a k54 (.inl rfl) ha KJ hH;refine af.ret ⟨rx,_,d',ah,rfl,tf,gu⟩
 refine qq<|qj fun K hK=>qg ?_;refine qm ?_;refine qe hK ?_;refine af.cond (by rfl) (fun SG=>?_) (fun SG=>?_)<;>try simp only[beq_iff_eq,beq_eq_false_iff_ne,ne_eq] at SG
 ·refine qq<|qj fun K hK=>qm ?_;refine qg ?_;refine qp (o:=2) ?_;refine ql hH aB ?_;refine qA ?_;refine qg ?_;refine qp (o:=2) ?_;refine qT hH aB fun st hH=>?_;dsimp only[u2,u1,u3,u4,setMany,u5,u6,D.cells,Nat.reduceAdd,aT,a_,aq,aw,a8] at hH;refine qe hK ?_;obtain⟨_,QC,a,rfl,hla⟩:=K_ (s0:=st);refine qq<|qj fun K hK=>qv (QC) ?_;refine ab.fX (qs:=[(0,_),(1,_)]) rfl rfl rfl rfl ⟨rfl,(ev rfl),(by rfl),rfl,(ev rfl),(by rfl),trivial⟩ (by intro q hq;simp only[List.mem_cons,List.not_mem_nil,or_false] at hq;rcases hq with rfl|rfl<;>exact⟨rfl,by exact Nat.le_of_ble_eq_true rfl⟩) (by show List.foldl _ [_,_,_,_,_,_,_] _=_;dsimp only[List.foldl_cons,List.foldl_nil,u2,u1]<;>rfl) (ae rfl _) ?_;refine qh (s:=7) (vs:=[_]) hH fun k66 st Ng hH=>?_;refine qm ?_;refine qe hK ?_;obtain⟨d',ah,tf,gu⟩:=jt _ {s with i:=s.i+1} 2 (bF a) a k66 (.inl rfl) (by omega) rfl hg (by show s.i<s.i+1;omega) (by show s.i+1≤_;omega) Ng hH;refine af.ret ⟨rx,_,d',ah,rfl,tf,gu⟩
 refine qq<|qj fun K hK=>qg ?_;refine qm ?_;refine qe hK ?_;refine af.cond (by rfl) (fun SE=>?_) (fun SE=>?_)<;>try simp only[beq_iff_eq,beq_eq_false_iff_ne,ne_eq] at SE
 ·refine qq<|qj fun K hK=>qm ?_;refine qg ?_;refine qp (o:=2) ?_;refine ql hH aB ?_;refine qA ?_;refine qg ?_;refine qp (o:=2) ?_;refine qT hH aB fun st hH=>?_;dsimp only[u2,u1,u3,u4,setMany,u5,u6,D.cells,Nat.reduceAdd,aT,a_,aq,aw,a8] at hH;refine qe hK<|qq<|qj fun K hK=>ab.go (d:=.agg [.int .i64 7,.nul,.int .i64 0,.int .i64 0,.bool false,.int .i64 0,.int .i64 0]) (st1:=_) rfl rfl rfl (ae rfl _) ?_;refine qh (s:=7) (vs:=[_]) hH fun k77 st Nf hH=>?_;refine qm ?_;refine qe hK ?_;obtain⟨d',ah,tf,gu⟩:=jt _ {s with i:=s.i+1} 7 .nul [] k77 (.inr ⟨rfl,rfl⟩) (by simp) rfl hg (by show s.i<s.i+1;omega) (by show s.i+1≤_;omega) Nf hH;refine af.ret ⟨rx,_,d',ah,rfl,tf,gu⟩
 refine qq<|qj fun K hK=>qg ?_;refine qm ?_;refine qe hK ?_;refine af.cond (by rfl) (fun SJ=>?_) (fun SJ=>?_)<;>try simp only[beq_iff_eq,beq_eq_false_iff_ne,ne_eq] at SJ
 ·refine qq<|qj fun K hK=>qm ?_;refine qg ?_;refine qp (o:=2) ?_;refine ql hH aB ?_;refine qA ?_;refine qg ?_;refine qp (o:=2) ?_;refine qT hH aB fun st hH=>?_;dsimp only[u2,u1,u3,u4,setMany,u5,u6,D.cells,Nat.reduceAdd,aT,a_,aq,aw,a8] at hH;refine qe hK<|qq<|qj fun K hK=>ab.go (d:=.agg [.int .i64 8,.nul,.int .i64 0,.int .i64 0,.bool false,.int .i64 0,.int .i64 0]) (st1:=_) rfl rfl rfl (ae rfl _) ?_;refine qh (s:=7) (vs:=[_]) hH fun k88 st Nc hH=>?_;refine qm ?_;refine qe hK ?_;obtain⟨d',ah,tf,gu⟩:=jt _ {s with i:=s.i+1} 8 .nul [] k88 (.inr ⟨rfl,rfl⟩) (by simp) rfl hg (by show s.i<s.i+1;omega) (by show s.i+1≤_;omega) Nc hH;refine af.ret ⟨rx,_,d',ah,rfl,tf,gu⟩
 refine qq<|qq<|qj fun K hK=>qg ?_;refine qm ?_;refine qe hK ?_
 by_cases Sj:((g.1:Nat):Int)=42
 ·refine qD rfl (by simp[Sj]) ?_;refine af.skip<|qD rfl (by simp[Sj]) ?_;refine qq<|qj fun K hK=>qm ?_;refine qm ?_;obtain⟨_,st,aO,rfl,s4,hN,hH⟩:=hwr _ hH;refine qv aO ?_;refine qm ?_;refine qe hK<|af.ret ⟨rx,_,_,_,rfl,aj (rfl),?_⟩;exact⟨s4,hN,cy.ax cx hH⟩
 refine qE rfl (by simp[Sj]) ?_;refine qq<|qj fun K hK=>qg ?_;refine qm ?_;refine qe hK ?_
 by_cases Si:((g.1:Nat):Int)=43
 ·refine qD rfl (by simp[Si]) ?_;refine af.skip<|qD rfl (by simp[Si]) ?_;refine qq<|qj fun K hK=>qm ?_;refine qm ?_;obtain⟨_,st,aO,rfl,s4,hN,hH⟩:=hwr _ hH;refine qv aO ?_;refine qm ?_;refine qe hK<|af.ret ⟨rx,_,_,_,rfl,aj (rfl),?_⟩;exact⟨s4,hN,cy.ax cx hH⟩
 refine qE rfl (by simp[Si]) ?_;refine qq<|qj fun K hK=>qg ?_;refine qm ?_;refine qe hK ?_
 by_cases Sh:((g.1:Nat):Int)=63
 ·refine qD rfl (by simp[Sh]) ?_;refine af.skip<|qD rfl (by simp[Sh]) ?_;refine qq<|qj fun K hK=>qm ?_;refine qm ?_;obtain⟨_,st,aO,rfl,s4,hN,hH⟩:=hwr _ hH;refine qv aO ?_;refine qm ?_;refine qe hK<|af.ret ⟨rx,_,_,_,rfl,aj (rfl),?_⟩;exact⟨s4,hN,cy.ax cx hH⟩
 refine qE rfl (by simp[Sh]) ?_;refine qq<|qj fun K hK=>qg ?_;refine qm ?_;refine qe hK ?_
 by_cases Sk:((g.1:Nat):Int)=41
 ·refine qD rfl (by simp[Sk]) ?_;refine af.skip<|qD rfl (by simp[Sk]) ?_;refine qq<|qj fun K hK=>qm ?_;refine qm ?_;obtain⟨_,st,aO,rfl,s4,hN,hH⟩:=hwr _ hH;refine qv aO ?_;refine qm ?_;refine qe hK<|af.ret ⟨rx,_,_,_,rfl,aj (rfl),?_⟩;exact⟨s4,hN,cy.ax cx hH⟩
 refine qE rfl (by simp[Sk]) ?_;refine qq<|qj fun K hK=>qg ?_;refine qm ?_;refine qe hK ?_
 by_cases Sg:((g.1:Nat):Int)=93
 ·refine qD rfl (by simp[Sg]) ?_;refine af.skip<|qD rfl (by simp[Sg]) ?_;refine qq<|qj fun K hK=>qm ?_;refine qm ?_;obtain⟨_,st,aO,rfl,s4,hN,hH⟩:=hwr _ hH;refine qv aO ?_;refine qm ?_;refine qe hK<|af.ret ⟨rx,_,_,_,rfl,aj (rfl),?_⟩;exact⟨s4,hN,cy.ax cx hH⟩
 refine qE rfl (by simp[Sg]) ?_;refine qq<|qj fun K hK=>qg ?_;refine qm ?_;refine qe hK ?_
 by_cases Ld:((g.1:Nat):Int)=123
 ·refine qD rfl (by simp[Ld]) ?_;refine af.skip<|qD rfl (by simp[Ld]) ?_;refine qq<|qj fun K hK=>qm ?_;refine qm ?_;obtain⟨_,st,aO,rfl,s4,hN,hH⟩:=hwr _ hH;refine qv aO ?_;refine qm ?_;refine qe hK<|af.ret ⟨rx,_,_,_,rfl,aj (rfl),?_⟩;exact⟨s4,hN,cy.ax cx hH⟩
 refine qE rfl (by simp[Ld]) ?_;refine qq<|qj fun K hK=>qg ?_;refine qm ?_;refine qe hK ?_
 by_cases Lc:((g.1:Nat):Int)=125
 ·refine qD rfl (by simp[Lc]) ?_;refine af.skip<|qD rfl (by simp[Lc]) ?_;refine qq<|qj fun K hK=>qm ?_;refine qm ?_;obtain⟨_,st,aO,rfl,s4,hN,hH⟩:=hwr _ hH;refine qv aO ?_;refine qm ?_;refine qe hK<|af.ret ⟨rx,_,_,_,rfl,aj (rfl),?_⟩;exact⟨s4,hN,cy.ax cx hH⟩
 refine qE rfl (by simp[Lc]) ?_;refine qj fun K hK=>qg ?_;refine qm ?_;refine qe hK ?_
 by_cases N2:((g.1:Nat):Int)=124
 ·refine qD rfl (by simp[N2]) ?_;refine qq<|qj fun K hK=>qm ?_;refine qm ?_;obtain⟨_,st,aO,rfl,s4,hN,hH⟩:=hwr _ hH;refine qv aO ?_;refine qm ?_;refine qe hK<|af.ret ⟨rx,_,_,_,rfl,aj (rfl),?_⟩;exact⟨s4,hN,cy.ax cx hH⟩
 refine qE rfl (by simp[N2]) ?_;refine qq<|qj fun K hK=>qm ?_;refine qg ?_;refine qp (o:=2) ?_;refine ql hH aB ?_;refine qA ?_;refine qg ?_;refine qp (o:=2) ?_;refine qT hH aB fun st hH=>?_;dsimp only[u2,u1,u3,u4,setMany,u5,u6,D.cells,Nat.reduceAdd,aT,a_,aq,aw,a8] at hH;refine qe hK ?_;obtain⟨_,FW,_⟩:=lD (s0:=s0) (x:=bF [(((g.1:Nat):Int),((g.1:Nat):Int))]) (l:=[(((g.1:Nat):Int),((g.1:Nat):Int))]) (fh _ _) (by simp);simp only[List.length_cons,List.length_nil] at FW;refine qq<|qj fun K hK=>qm ?_;refine qv (iL _) ?_;refine ab.fX (qs:=[(0,_),(1,_)]) rfl rfl rfl rfl ⟨rfl,(ev rfl),(by rfl),rfl,(ev rfl),(by rfl),trivial⟩ (by intro q hq;simp only[List.mem_cons,List.not_mem_nil,or_false] at hq;rcases hq with rfl|rfl<;>exact⟨rfl,by exact Nat.le_of_ble_eq_true rfl⟩) (by show List.foldl _ [_,_,_,_,_,_,_] _=_;dsimp only[List.foldl_cons,List.foldl_nil,u2,u1]<;>rfl) (ae rfl _) ?_;refine qh (s:=7) (vs:=[_]) hH fun k36 st Ni hH=>?_;refine qm ?_;refine qe hK ?_;obtain⟨d',ah,tf,gu⟩:=jt _ {s with i:=s.i+1} 2 _ _ k36 (.inl rfl) (by omega) rfl hg (by show s.i<s.i+1;omega) (by show s.i+1≤_;omega) Ni hH;refine af.ret ⟨rx,_,d',ah,rfl,tf,gu⟩
theorem AA {m:Nat} (hA:∀m',m'+1=m→kG m') {N k:Nat} {S s0:St} {H:List bP} {gs:List (Nat×Nat)} {bu:D} {aW:List Int} {s:eO} (ba:kc gs aW) (he:s.e=0) (hi:s.i<gs.length) (hg:s.g≤4) (ho:s.o+m=20) (hH:Has N S s0 (.box k (.mem 0 false (aT gs bu s))::.aL bu 1 (aW.map aq)::H)):
  ∃d ah,Ev pv 70 [.ptr k 0 0] s0 d ah∧∃(s':eO),iI gs s s' d 1∧Has N S ah (.box k (.mem 0 false (aT gs bu s'))::.aL bu 1 (aW.map aq)::H):=by
 have o_:=ba.gl;have fF:=ba.pl;refine Ev.jD rfl Rt rfl rfl rfl ?_;dsimp only[u3,u4,List.length,Nat.reduceSub,Nat.reduceAdd,w1,w2];have cy:=hH;have hH:=hH.cA;have cx:(ak .rw s0).bs=s0.bs:=rfl;generalize ak .rw s0=S2 at*;refine qq<|qj fun K hK=>qm ?_;refine qe hK<|qq<|qj fun K hK=>qm ?_;obtain⟨_,st,aO,s1,⟨p1,p2,p3,p4,l,rfl,p5,p6,p7⟩,hH⟩:=Gh hA ba he hi hg ho hH;refine qv aO ?_;refine qm ?_;refine qe hK<|qq<|qq<|qj fun K hK=>qm ?_;refine qg ?_;refine qp (o:=5) ?_;refine ql hH aB ?_;refine qg ?_;refine qe hK ?_
 rcases p7 with p7|⟨p7,p8⟩
 ·refine qD rfl (by simp[p7]) ?_;refine qq<|qj fun K hK=>qm ?_;refine qe hK<|af.ret ⟨rx,_,_,_,rfl,aj (rfl),?_⟩;exact⟨s1,fL p1 p2 p3 p4 p7,cy.ax cx hH⟩
 refine qE rfl (by simp[p7]) ?_;refine af.skip<|qq<|qj fun K hK=>ab.go (d:=.agg [.int .i64 5,.nul,.int .i64 0,.int .i64 0,.bool false,.int .i64 0,.int .i64 1]) (st1:=_) rfl rfl rfl (ae rfl _) ?_;refine qa hH fun k4 st Oi hH=>?_;dsimp only[u2,u1,u3,u4,setMany,u5,u6,D.cells,Nat.reduceAdd,aT,a_,aq,aw,a8] at hH;refine qS hH aB fun st hH=>?_;dsimp only[u2,u1,u3,u4,setMany,u5,u6,D.cells,Nat.reduceAdd,aT,a_,aq,aw,a8] at hH;refine qe hK ?_;have hH:Has N S2 st (.box k (.mem 0 false (aT gs bu s1))::.aL bu 1 (aW.map aq)::.box k4 (.mem 0 false [.int .i64 5,.nul,.int .i64 0,.int .i64 0,.bool false,.int .i64 0,.int .i64 1])::H):=l9 hH;refine qq<|af.merge (fun fr st=>∃(mn mx:Int) (s2:eO) (tmp:List (Nat×D)),fr=⟨5,[.ptr k 0 0,wk fr 1,wk fr 2,tB l,.ptr k4 0 0],tmp⟩∧Has N S2 st (.box k (.mem 0 false (aT gs bu s2))::.aL bu 1 (aW.map aq)::.box k4 (.mem 0 false [.int .i64 5,.nul,.int .i64 mn,.int .i64 mx,.bool false,.int .i64 0,.int .i64 1])::H)∧(s2.o=s.o)∧(s2.g≤4)∧(s1.i<s2.i)∧(s2.i≤gs.length)) ?_ ?_
 ·refine af.block<|qq<|qj fun K hK=>qm ?_;obtain⟨_,st,aO,rfl,hH⟩:=dG (s:=s1) (by omega) 42 hH;refine qv aO ?_;refine qm ?_;refine qe hK ?_
  cases hb1:iJ gs s1.i 42 with
  |true=>
   obtain⟨k1,k2,k3,OW,k5⟩:=gg (gs:=gs) (s:=s1) (r:=42);have k6:=lB hb1;have k7:=k5 p4;generalize cT gs s1 42=s2 at*;refine qB ?_;refine qj fun K hK=>qp (o:=3) ?_;refine qT hH cU fun st hH=>?_;dsimp only[u2,u1,u3,u4,setMany,u5,u6,D.cells,Nat.reduceAdd,aT,a_,aq,aw,a8] at hH;refine qe hK ?_;exact⟨0,-1,s2,_,rfl,hH,by omega,by omega,by omega,k7⟩
  |false=>
   rw[nZ hb1] at hH;refine qC ?_;refine qq<|qj fun K hK=>qm ?_;obtain⟨_,st,aO,rfl,hH⟩:=dG (s:=s1) (by omega) 43 hH;refine qv aO ?_;refine qm ?_;refine qe hK ?_
   cases hb2:iJ gs s1.i 43 with
   |true=>
    obtain⟨k1,k2,k3,OW,k5⟩:=gg (gs:=gs) (s:=s1) (r:=43);have k6:=lB hb2;have k7:=k5 p4;generalize cT gs s1 43=s2 at*;refine qB ?_;refine qj fun K hK=>qp (o:=2) ?_;refine qT hH cU fun st hH=>?_;dsimp only[u2,u1,u3,u4,setMany,u5,u6,D.cells,Nat.reduceAdd,aT,a_,aq,aw,a8] at hH;refine qp (o:=3) ?_;refine qT hH cU fun st hH=>?_;dsimp only[u2,u1,u3,u4,setMany,u5,u6,D.cells,Nat.reduceAdd,aT,a_,aq,aw,a8] at hH;refine qe hK ?_;exact⟨1,-1,s2,_,rfl,hH,by omega,by omega,by omega,k7⟩
   |false=>
    rw[nZ hb2] at hH;refine qC ?_;refine qq<|qj fun K hK=>qm ?_;obtain⟨_,st,aO,rfl,hH⟩:=dG (s:=s1) (by omega) 63 hH;refine qv aO ?_;refine qm ?_;refine qe hK ?_
    cases NL:iJ gs s1.i 63 with
    |true=>
     obtain⟨k1,k2,k3,OW,k5⟩:=gg (gs:=gs) (s:=s1) (r:=63);have k6:=lB NL;have k7:=k5 p4;generalize cT gs s1 63=s2 at*;refine qB ?_;refine qj fun K hK=>qp (o:=3) ?_;refine qT hH cU fun st hH=>?_;dsimp only[u2,u1,u3,u4,setMany,u5,u6,D.cells,Nat.reduceAdd,aT,a_,aq,aw,a8] at hH;refine qe hK ?_;exact⟨0,1,s2,_,rfl,hH,by omega,by omega,by omega,k7⟩
    |false=>
     rw[nZ NL] at hH;refine qC ?_;refine qq<|qj fun K hK=>qm ?_;obtain⟨_,st,aO,rfl,hH⟩:=nC (s:=s1) (by omega) 123 hH;refine qv aO ?_;refine qm ?_;refine qe hK ?_
     cases Ws:iJ gs s1.i 123 with
     |true=>
      have hlt:=o0 Ws;refine qB ?_;refine qj fun K hK=>qm ?_;obtain⟨_,st,aO,n1,n2,s2,rfl,⟨m1,m2,m3,m4⟩,hH⟩:=AX ba p7 hlt hH;refine qv aO ?_;refine qm ?_;refine qg ?_;refine qg ?_;refine qp (o:=2) ?_;refine qT hH cU fun st hH=>?_;dsimp only[u2,u1,u3,u4,setMany,u5,u6,D.cells,Nat.reduceAdd,aT,a_,aq,aw,a8] at hH;refine qp (o:=3) ?_;refine qT hH cU fun st hH=>?_;dsimp only[u2,u1,u3,u4,setMany,u5,u6,D.cells,Nat.reduceAdd,aT,a_,aq,aw,a8] at hH;refine qe hK ?_;exact⟨n1,n2,s2,_,rfl,hH,by omega,by omega,m3,m4⟩
     |false=>
      refine qC ?_;refine qq<|qj fun K hK=>qm ?_;refine qm ?_;refine qe hK<|af.ret ⟨rx,_,_,_,rfl,aj (rfl),?_⟩;exact⟨s1,⟨p1,p2,p3,p4,l,rfl,p5,p6,.inr ⟨p7,by omega⟩⟩,cy.ax cx (hH.erase 2)⟩
 ·rintro fr st ⟨mn,mx,s2,tmp,hfr,hH,h1,h2,h3,h4⟩;rw[hfr];clear hfr;generalize wk fr=ee;clear fr;refine qq<|qq<|qj fun K hK=>qm ?_;refine qg ?_;refine qp (o:=5) ?_;refine ql hH aB ?_;refine qg ?_;refine qe hK ?_
  by_cases zn:s2.e=0
  ·refine qE rfl (by simp[zn]) ?_;refine af.skip ?_;obtain⟨k1,k2,k3,OW,k5⟩:=gg (gs:=gs) (s:=s2) (r:=63);have k7:=k5 h4;refine qq<|qj fun K hK=>qm ?_;obtain⟨_,st,aO,rfl,hH⟩:=dG (s:=s2) (by omega) 63 hH;refine qv aO ?_;refine qp (o:=4) ?_;refine qT hH cU fun st hH=>?_;dsimp only[u2,u1,u3,u4,setMany,u5,u6,D.cells,Nat.reduceAdd,aT,a_,aq,aw,a8] at hH;refine qe hK ?_;generalize cT gs s2 63=s3 at*;generalize iJ gs s2.i 63=lz at*;have hla:=(qZ p5).arg N S2;refine qq<|qj fun K hK=>?_;refine ab.bf (m:=7) hH rfl (ev rfl) (by exact cU) (by dsimp only[List.drop_succ_cons,List.drop_zero,List.take_succ_cons,List.take_zero,aT,a_,aq,aw,a8]<;>rfl) rfl rfl (ae rfl _) ?_;refine qh (s:=7) (vs:=[_]) hH fun k46 st VW hH=>?_;refine qm ?_;refine ab.pj (s:=7) hH rfl (ev rfl) (ev rfl) aB ((qZ p5).rows st) rfl rfl rfl rfl rfl rfl rfl ⟨(Nat.le_of_ble_eq_true rfl),(Nat.le_of_ble_eq_true rfl)⟩ (fun _=>(ae rfl _)) (by simp only[List.length_map,List.length_cons,List.length_nil];omega) (.inr (qY p5)) (fun k hk=>by have jv:k46+1=k+1:=hk;omega) (fun Oz st GG hH=>?_);dsimp only[u2] at hH;refine qm ?_;refine qe hK ?_;have hH:Has N S2 st (.aL Oz 7 ([.int .i64 5,.nul,.int .i64 mn,.int .i64 mx,.bool lz,.int .i64 0,.int .i64 1]::l.map a8)::.box k (.mem 0 false (aT gs bu s3))::.aL bu 1 (aW.map aq)::.box k4 (.mem 0 false [.int .i64 5,.nul,.int .i64 mn,.int .i64 mx,.bool lz,.int .i64 0,.int .i64 1])::H):=hH
   have hfz:=ir (L:=s0.bs.length) (l:=sJ 5 mn mx lz 0 1 []::l) hH aB (by rw[List.map_cons,sG p5];rfl) (fun e he d hd=>by
    rcases List.mem_cons.1 he with rfl|he
    ·simp only[List.mem_cons,List.not_mem_nil,or_false] at hd
     rcases hd with rfl|rfl|rfl|rfl|rfl|rfl|rfl<;>rfl
    ·exact oQ p5 e he d hd) (fun k hk=>by rw[←cx];exact GG k hk) (n:=16) (by decide)
   refine af.ret ⟨rx,_,_,_,rfl,aj hfz,⟨s3,⟨by omega,by omega,by omega,k7,_,rfl,?_,by simp only[List.length_cons];omega,.inr ⟨by omega,by simp only[List.length_cons];omega⟩⟩,cy.ax cx ((hH.drop 1).erase 2)⟩⟩;intro n hn
   rcases List.mem_cons.1 hn with rfl|hn
   ·exact⟨rfl,by simp[sJ],by simp[sJ]⟩
   ·exact p5 n hn
  ·refine qD rfl (by simp[zn]) ?_;refine qq<|qj fun K hK=>qm ?_;refine qe hK<|af.ret ⟨rx,_,_,_,rfl,aj (rfl),?_⟩;exact⟨s2,fL h1 h2 (by omega) h4 zn,cy.ax cx (hH.erase 2)⟩
def mI (fr:Go.V.Fr) (k:Nat):Go.V.D:=Go.V.nth .bw fr.loc k
theorem B0 {m:Nat} (hA:∀m',m'+1=m→kG m') {N k:Nat} {S s0:St} {H:List bP} {gs:List (Nat×Nat)} {bu:D} {aW:List Int} {s:eO} (ba:kc gs aW) (he:s.e=0) (hi:s.i≤gs.length) (hg:s.g≤4) (ho:s.o+m=20) (hH:Has N S s0 (.box k (.mem 0 false (aT gs bu s))::.aL bu 1 (aW.map aq)::H)):
  ∃d ah,Ev pv 57 [.ptr k 0 0] s0 d ah∧∃(s':eO),tx gs s s' d∧Has N S ah (.box k (.mem 0 false (aT gs bu s'))::.aL bu 1 (aW.map aq)::H):=by
 have o_:=ba.gl;have fF:=ba.pl;refine Ev.jD rfl RB rfl rfl rfl ?_;dsimp only[u3,u4,List.length,Nat.reduceSub,Nat.reduceAdd,w1,w2];have cy:=hH;have hH:=hH.cA;have cx:(ak .rw s0).bs=s0.bs:=rfl;generalize ak .rw s0=S2 at*;have Bs:Arg N S2 2 (cu gs) (gs.map a_):=Arg.pure (fun st=>cV st gs);refine qq ?_;refine qj fun K hK=>?_;refine qm ?_;refine qe hK ?_;refine qq ?_;refine qj fun K hK=>?_;refine qm ?_;refine qe hK ?_;have hH:Has N S2 S2 (.box k (.mem 0 false (aT gs bu s))::.aL bu 1 (aW.map aq)::.aL .nul 1 (([]:List (List dr)).map dJ)::H):=l9 (hH.eB 1);refine qq ?_;refine af.block ?_;refine af.loop (fun mm fr st=>∃(s1:eO) (pd:D) (parts:List (List dr)),fr.clean=⟨4,[.ptr k 0 0,mI fr 1,mI fr 2,pd],[]⟩∧Has N S2 st (.box k (.mem 0 false (aT gs bu s1))::.aL bu 1 (aW.map aq)::.aL pd 1 (parts.map dJ)::H)∧(s1.o=s.o)∧(s1.g≤4)∧(s.i≤s1.i)∧(s1.i≤gs.length)∧(∀l∈parts,∀n∈l,tH n)∧(e6 parts+parts.length≤4*(s1.i-s.i)+2)∧(s1.e=0→e6 parts+parts.length≤4*(s1.i-s.i))∧(gs.length-s1.i+(if s1.e=0 then 1 else 0)≤mm)) (gs.length+1) ?_ ?_
 ·exact⟨s,.nul,[],rfl,hH,rfl,hg,Nat.le_refl _,hi,fun l hl=>(by cases hl),by simp[e6],fun _=>by simp[e6],by split<;>omega⟩
 rintro mm fr st ⟨s1,pd,parts,hfr,hH,h1,h2,h3,h4,h5,h6,h7,vA⟩;rw[hfr];clear hfr;generalize mI fr=ee;clear fr
 have pb:∀st:St,Has N S2 st (.box k (.mem 0 false (aT gs bu s1))::.aL bu 1 (aW.map aq)::.aL pd 1 (parts.map dJ)::H)→∃d,Ev pv 59 [.int .i64 3,pd] st d st∧tx gs s s1 d∧∃l,d=tB l:=by
  intro st hH;obtain⟨_,aO,l,rfl,j1,j2,j3⟩:=ry 3 (hH.rows cU) h5 (by omega) (by omega);refine⟨_,aO,⟨h1,h2,h3,h4,l,rfl,j1,?_⟩,l,rfl⟩
  by_cases q1:parts.length=1
  ·have:=j2 q1;omega
  ·by_cases q0:parts.length=0
   ·have:parts=[]:=List.length_eq_zero_iff.1 q0;rw[this] at j3 h6;simp[e6] at j3 h6;omega
   ·omega
 by_cases lf:s1.e=0
 ·rw[if_pos lf] at vA;have h7:=h7 lf;have bA:(s1.e==0)=true:=by simpa using lf
  by_cases hlt:s1.i<gs.length
  ·have a7:decide (((s1.i:Nat):Int)<((gs.length:Nat):Int))=true:=by rw[decide_eq_true_eq];omega
   cases bm:(!iJ gs s1.i 124) with
   |false=>
    refine qq ?_;refine qq ?_;refine qj fun K hK=>?_;refine qm ?_;refine qg ?_;refine qp (o:=5) ?_;refine ql hH aB ?_;refine qg ?_;refine qm ?_;refine qm ?_ (hg:=wi bA);refine qg ?_ (hg:=wi bA);refine qp (o:=2) ?_ (hg:=wi bA);refine ql hH aB ?_ (hg:=wi bA);refine qm ?_ (hg:=wi bA);refine qg ?_ (hg:=wi bA);refine qp (o:=0) ?_ (hg:=wi bA);refine ql hH aB ?_ (hg:=wi bA);refine qn ?_ (hg:=wi bA);simp only[List.length_map];refine qg ?_ (hg:=wi bA);refine qt bA ?_;refine qm ?_;refine qm ?_ (hg:=wi a7);obtain⟨_,st,aO,rfl,hH⟩:=nC (s:=s1) (by omega) 124 hH;refine qv aO ?_ (hg:=wi a7);refine qg ?_ (hg:=wi a7);refine qt a7 ?_;refine qm ?_;refine qs ?_ (hg:=wn bm);refine qs ?_ (hg:=wn bm);refine qs ?_ (hg:=wn bm);refine qs ?_;refine qs ?_;refine qs ?_;refine qs ?_;refine qs ?_;refine qs ?_ (hg:=wn bm);refine qs ?_ (hg:=wn bm);refine qu bm ?_;refine qe hK ?_;refine qC ?_;refine af.exit ?_;obtain⟨_,Bq,hQ,l,rfl⟩:=pb _ hH;refine qq ?_;refine qj fun K hK=>?_;refine qm ?_;refine qv (Bq) ?_;refine qm ?_;refine qe hK ?_;refine af.ret ⟨rx,_,_,_,rfl,aj (rfl),?_⟩;exact⟨s1,hQ,cy.ax cx (hH.erase 2)⟩
   |true=>
    cases bc:iJ gs s1.i 41 with
    |false=>
     refine qq ?_;refine qq ?_;refine qj fun K hK=>?_;refine qm ?_;refine qg ?_;refine qp (o:=5) ?_;refine ql hH aB ?_;refine qg ?_;refine qm ?_;refine qm ?_ (hg:=wi bA);refine qg ?_ (hg:=wi bA);refine qp (o:=2) ?_ (hg:=wi bA);refine ql hH aB ?_ (hg:=wi bA);refine qm ?_ (hg:=wi bA);refine qg ?_ (hg:=wi bA);refine qp (o:=0) ?_ (hg:=wi bA);refine ql hH aB ?_ (hg:=wi bA);refine qn ?_ (hg:=wi bA);simp only[List.length_map];refine qg ?_ (hg:=wi bA);refine qt bA ?_;refine qm ?_;refine qm ?_ (hg:=wi a7);obtain⟨_,st,aO,rfl,hH⟩:=nC (s:=s1) (by omega) 124 hH;refine qv aO ?_ (hg:=wi a7);refine qg ?_ (hg:=wi a7);refine qt a7 ?_;refine qm ?_;refine qm ?_ (hg:=wi bm);obtain⟨_,st,aO,rfl,hH⟩:=nC (s:=s1) (by omega) 41 hH;refine qv aO ?_ (hg:=wi bm);refine qm ?_ (hg:=wi bm);refine qs ?_ (hg:=wn bc);refine qs ?_ (hg:=wn bc);refine qs ?_ (hg:=wn bc);refine qs ?_ (hg:=wn bc);refine qs ?_ (hg:=wn bc);refine ab.da (aD rfl rfl rfl bm) rfl bc (ae rfl _) ?_;refine qg ?_ (hg:=wi bm);refine qt bm ?_;refine qe hK ?_;refine qB ?_;refine af.skip ?_;refine af.block ?_;refine qj fun K hK=>?_;refine qm ?_;refine qm ?_;obtain⟨_,st,aO,s2,⟨r1,r2,r3,r4,l,rfl,r5,r6,r7⟩,hH⟩:=AA hA ba (s:=s1) lf hlt h2 (by omega) hH;refine qv aO ?_;refine qh (s:=1) (vs:=[_]) hH fun k41 st Nh hH=>?_;dsimp only[u2,u1,u3,u4,setMany,u5,u6,D.cells,Nat.reduceAdd,aT,a_,aq,aw,dJ] at hH;refine ab.bZ (s:=1) hH rfl (ev rfl) (ev rfl) (by exact eF) (by exact hH.rows (by exact aB)) rfl rfl rfl rfl rfl rfl rfl ⟨(Nat.le_of_ble_eq_true rfl),(Nat.le_of_ble_eq_true rfl)⟩ (fun _=>(ae rfl _)) (by simp only[List.length_cons,List.length_nil,List.length_map]<;>omega) (by exact .inr rfl) (fun LG st hH=>?_);dsimp only[u2,u1,u3,u4,setMany,u5,u6,D.cells,Nat.reduceAdd,aT,a_,aq,aw,dJ] at hH;refine qm ?_;refine qe hK ?_;have hH:=hH.drop 1;refine⟨mm-1,by omega,⟨s2,LG,parts++[l],rfl,(by rw[List.map_append];exact hH),by omega,r2,by omega,r4,?_,by rw[dq,List.length_append];simp only[e6,List.length_cons,List.length_nil];omega,(fun e=>by rw[dq,List.length_append];simp only[e6,List.length_cons,List.length_nil];omega),by split<;>omega⟩⟩;intro l' gF
     rcases List.mem_append.1 gF with gF|gF
     ·exact h5 l' gF
     ·simp only[List.mem_cons,List.not_mem_nil,or_false] at gF;subst gF;exact r5
    |true=>
     refine qq ?_;refine qq ?_;refine qj fun K hK=>?_;refine qm ?_;refine qg ?_;refine qp (o:=5) ?_;refine ql hH aB ?_;refine qg ?_;refine qm ?_;refine qm ?_ (hg:=wi bA);refine qg ?_ (hg:=wi bA);refine qp (o:=2) ?_ (hg:=wi bA);refine ql hH aB ?_ (hg:=wi bA);refine qm ?_ (hg:=wi bA);refine qg ?_ (hg:=wi bA);refine qp (o:=0) ?_ (hg:=wi bA);refine ql hH aB ?_ (hg:=wi bA);refine qn ?_ (hg:=wi bA);simp only[List.length_map];refine qg ?_ (hg:=wi bA);refine qt bA ?_;refine qm ?_;refine qm ?_ (hg:=wi a7);obtain⟨_,st,aO,rfl,hH⟩:=nC (s:=s1) (by omega) 124 hH;refine qv aO ?_ (hg:=wi a7);refine qg ?_ (hg:=wi a7);refine qt a7 ?_;refine qm ?_;refine qm ?_ (hg:=wi bm);obtain⟨_,st,aO,rfl,hH⟩:=nC (s:=s1) (by omega) 41 hH;refine qv aO ?_ (hg:=wi bm);refine qm ?_ (hg:=wi bm);refine qm ?_ (hg:=wi bc);refine qg ?_ (hg:=wi bc);refine qp (o:=3) ?_ (hg:=wi bc);refine ql hH aB ?_ (hg:=wi bc);refine qg ?_ (hg:=wi bc);refine ab.dI (aD rfl rfl rfl bm) rfl bc (ae rfl _) ?_;refine qg ?_ (hg:=wi bm);refine qt bm ?_;refine qe hK ?_
     by_cases fw:0<s1.o
     ·have ib:(!decide (((s1.o:Nat):Int)>0))=false:=by rw[decide_eq_true (by omega)];rfl
      refine qE rfl (by rw[ib]) ?_;refine af.exit ?_;obtain⟨_,Bq,hQ,l,rfl⟩:=pb _ hH;refine qq ?_;refine qj fun K hK=>?_;refine qm ?_;refine qv (Bq) ?_;refine qm ?_;refine qe hK ?_;refine af.ret ⟨rx,_,_,_,rfl,aj (rfl),?_⟩;exact⟨s1,hQ,cy.ax cx (hH.erase 2)⟩
     ·have ib:(!decide (((s1.o:Nat):Int)>0))=true:=by rw[decide_eq_false (by omega)];rfl
      refine qD rfl (by rw[ib]) ?_;refine af.skip ?_;refine af.block ?_;refine qj fun K hK=>?_;refine qm ?_;refine qm ?_;obtain⟨_,st,aO,s2,⟨r1,r2,r3,r4,l,rfl,r5,r6,r7⟩,hH⟩:=AA hA ba (s:=s1) lf hlt h2 (by omega) hH;refine qv aO ?_;refine qh (s:=1) (vs:=[_]) hH fun k41 st Nh hH=>?_;dsimp only[u2,u1,u3,u4,setMany,u5,u6,D.cells,Nat.reduceAdd,aT,a_,aq,aw,dJ] at hH;refine ab.bZ (s:=1) hH rfl (ev rfl) (ev rfl) (by exact eF) (by exact hH.rows (by exact aB)) rfl rfl rfl rfl rfl rfl rfl ⟨(Nat.le_of_ble_eq_true rfl),(Nat.le_of_ble_eq_true rfl)⟩ (fun _=>(ae rfl _)) (by simp only[List.length_cons,List.length_nil,List.length_map]<;>omega) (by exact .inr rfl) (fun LG st hH=>?_);dsimp only[u2,u1,u3,u4,setMany,u5,u6,D.cells,Nat.reduceAdd,aT,a_,aq,aw,dJ] at hH;refine qm ?_;refine qe hK ?_;have hH:=hH.drop 1;refine⟨mm-1,by omega,⟨s2,LG,parts++[l],rfl,(by rw[List.map_append];exact hH),by omega,r2,by omega,r4,?_,by rw[dq,List.length_append];simp only[e6,List.length_cons,List.length_nil];omega,(fun e=>by rw[dq,List.length_append];simp only[e6,List.length_cons,List.length_nil];omega),by split<;>omega⟩⟩;intro l' gF
      rcases List.mem_append.1 gF with gF|gF
      ·exact h5 l' gF
      ·simp only[List.mem_cons,List.not_mem_nil,or_false] at gF;subst gF;exact r5
  ·have a7:decide (((s1.i:Nat):Int)<((gs.length:Nat):Int))=false:=by rw[decide_eq_false_iff_not];omega
   refine qq ?_;refine qq ?_;refine qj fun K hK=>?_;refine qm ?_;refine qg ?_;refine qp (o:=5) ?_;refine ql hH aB ?_;refine qg ?_;refine qm ?_;refine qm ?_ (hg:=wi bA);refine qg ?_ (hg:=wi bA);refine qp (o:=2) ?_ (hg:=wi bA);refine ql hH aB ?_ (hg:=wi bA);refine qm ?_ (hg:=wi bA);refine qg ?_ (hg:=wi bA);refine qp (o:=0) ?_ (hg:=wi bA);refine ql hH aB ?_ (hg:=wi bA);refine qn ?_ (hg:=wi bA);simp only[List.length_map];refine qg ?_ (hg:=wi bA);refine qt bA ?_;refine qm ?_;refine qs ?_ (hg:=wn a7);refine qs ?_ (hg:=wn a7);refine qs ?_ (hg:=wn a7);refine qu a7 ?_;refine qm ?_;refine qs ?_;refine qs ?_;refine qs ?_;refine qs ?_;refine qs ?_;refine qs ?_;refine qs ?_;refine qs ?_;refine qs ?_;refine qs ?_;refine qg ?_;refine qe hK ?_;refine qC ?_;refine af.exit ?_;obtain⟨_,Bq,hQ,l,rfl⟩:=pb _ hH;refine qq ?_;refine qj fun K hK=>?_;refine qm ?_;refine qv (Bq) ?_;refine qm ?_;refine qe hK ?_;refine af.ret ⟨rx,_,_,_,rfl,aj (rfl),?_⟩;exact⟨s1,hQ,cy.ax cx (hH.erase 2)⟩
 ·have bA:(s1.e==0)=false:=by simpa using lf
  refine qq ?_;refine qq ?_;refine qj fun K hK=>?_;refine qm ?_;refine qg ?_;refine qp (o:=5) ?_;refine ql hH aB ?_;refine qg ?_;refine qm ?_;refine qs ?_ (hg:=wn bA);refine qs ?_ (hg:=wn bA);refine qs ?_ (hg:=wn bA);refine qs ?_ (hg:=wn bA);refine qs ?_ (hg:=wn bA);refine qs ?_ (hg:=wn bA);refine qs ?_ (hg:=wn bA);refine qs ?_ (hg:=wn bA);refine qs ?_ (hg:=wn bA);refine qs ?_ (hg:=wn bA);refine qu bA ?_;refine qm ?_;refine qs ?_;refine qs ?_;refine qs ?_;refine qg ?_;refine qm ?_;refine qs ?_;refine qs ?_;refine qs ?_;refine qs ?_;refine qs ?_;refine qs ?_;refine qs ?_;refine qs ?_;refine qs ?_;refine qs ?_;refine qg ?_;refine qe hK ?_;refine qC ?_;refine af.exit ?_;obtain⟨_,Bq,hQ,l,rfl⟩:=pb _ hH;refine qq ?_;refine qj fun K hK=>?_;refine qm ?_;refine qv (Bq) ?_;refine qm ?_;refine qe hK ?_;refine af.ret ⟨rx,_,_,_,rfl,aj (rfl),?_⟩;exact⟨s1,hQ,cy.ax cx (hH.erase 2)⟩
theorem Gk:∀m:Nat,kG m:=by
 intro m
 induction m using Nat.strongRecOn with
 |ind m ih0=>
 have hA:∀m',m'+1=m→kG m':=fun m' h=>ih0 m' (by omega);intro N k S s0 H gs bu aW s ba he hi hg ho hH;have o_:=ba.gl;have fF:=ba.pl;refine Ev.jD rfl RT rfl rfl rfl ?_;dsimp only[u3,u4,List.length,Nat.reduceSub,Nat.reduceAdd,w1,w2];have cy:=hH;have hH:=hH.cA;have cx:(ak .rw s0).bs=s0.bs:=rfl;generalize ak .rw s0=S2 at*;refine qq ?_;refine qj fun K hK=>?_;refine qm ?_;refine qe hK ?_;refine qq ?_;refine qj fun K hK=>?_;refine qm ?_;obtain⟨_,st,aO,s1,⟨p1,p2,p3,p4,l,rfl,p5,p6⟩,hH⟩:=B0 hA ba he hi hg ho hH;refine qv aO ?_;refine qh (s:=1) (vs:=[_]) hH fun k6 st Cm hH=>?_;dsimp only[u2,u1,u3,u4,setMany,u5,u6,D.cells,Nat.reduceAdd,aT,a_,aq,aw,dJ] at hH;refine qm ?_;refine qe hK ?_;have hH:Has N S2 st (.box k (.mem 0 false (aT gs bu s1))::.aL bu 1 (aW.map aq)::.aL (.win k6 0 0 1 1) 1 ([l].map dJ)::H):=l9 hH;refine qq ?_;refine af.block ?_;refine af.loop (fun mm fr st=>∃(s1:eO) (pd:D) (parts:List (List dr)),fr.clean=⟨4,[.ptr k 0 0,mI fr 1,mI fr 2,pd],[]⟩∧Has N S2 st (.box k (.mem 0 false (aT gs bu s1))::.aL bu 1 (aW.map aq)::.aL pd 1 (parts.map dJ)::H)∧(s1.o=s.o)∧(s1.g≤4)∧(s.i≤s1.i)∧(s1.i≤gs.length)∧(∀l∈parts,∀n∈l,tH n)∧(e6 parts+3*parts.length≤4*(s1.i-s.i)+4)∧(1≤parts.length)∧(gs.length-s1.i≤mm)) (gs.length) ?_ ?_
 ·exact⟨s1,.win k6 0 0 1 1,[l],rfl,hH,p1,p2,p3,p4,(fun l' gF=>by simp only[List.mem_cons,List.not_mem_nil,or_false] at gF;subst gF;exact p5),by simp only[e6,List.length_cons,List.length_nil];omega,by simp,by omega⟩
 rintro mm fr st ⟨s1,pd,parts,hfr,hH,h1,h2,h3,h4,h5,h6,h8,vA⟩;rw[hfr];clear hfr;generalize mI fr=ee;clear fr
 have pb:∀st:St,Has N S2 st (.box k (.mem 0 false (aT gs bu s1))::.aL bu 1 (aW.map aq)::.aL pd 1 (parts.map dJ)::H)→∃d,Ev pv 59 [.int .i64 4,pd] st d st∧tx gs s s1 d∧∃l,d=tB l:=by
  intro st hH;obtain⟨_,aO,l,rfl,j1,j2,j3⟩:=ry 4 (hH.rows cU) h5 (by omega) (by omega);refine⟨_,aO,⟨h1,h2,h3,h4,l,rfl,j1,?_⟩,l,rfl⟩
  by_cases q1:parts.length=1
  ·have:=j2 q1;omega
  ·omega
 by_cases lf:s1.e=0
 ·have bA:(s1.e==0)=true:=by simpa using lf
  obtain⟨k1,k2,k3,k4,k5⟩:=gg (gs:=gs) (s:=s1) (r:=124);have k5:=k5 h4;refine qq ?_;refine qq ?_;refine qj fun K hK=>?_;refine qm ?_;refine qg ?_;refine qp (o:=5) ?_;refine ql hH aB ?_;refine qg ?_;refine qm ?_;refine qm ?_ (hg:=wi bA);obtain⟨_,st,aO,rfl,hH⟩:=dG (s:=s1) (by omega) 124 hH;refine qv aO ?_ (hg:=wi bA);refine qt bA ?_;refine qe hK ?_
  cases hb:iJ gs s1.i 124 with
  |false=>
   rw[nZ hb] at hH;refine qC ?_;refine af.exit ?_;obtain⟨_,Bq,hQ,l,rfl⟩:=pb _ hH;refine qq ?_;refine qj fun K hK=>?_;refine qm ?_;refine qv (Bq) ?_;refine qm ?_;refine qe hK ?_;refine af.ret ⟨rx,_,_,_,rfl,aj (rfl),?_⟩;exact⟨s1,hQ,cy.ax cx (hH.erase 2)⟩
  |true=>
   have k6:=lB hb;generalize cT gs s1 124=s2 at*;refine qB ?_;refine af.skip ?_;refine af.block ?_;refine qj fun K hK=>?_;refine qm ?_;refine qm ?_;obtain⟨_,st,aO,s3,⟨r1,r2,r3,r4,l,rfl,r5,r6⟩,hH⟩:=B0 hA ba (s:=s2) (by omega) k5 (by omega) (by omega) hH;refine qv aO ?_;refine qh (s:=1) (vs:=[_]) hH fun k19 st V7 hH=>?_;dsimp only[u2,u1,u3,u4,setMany,u5,u6,D.cells,Nat.reduceAdd,aT,a_,aq,aw,dJ] at hH;refine ab.bZ (s:=1) hH rfl (ev rfl) (ev rfl) (by exact eF) (by exact hH.rows (by exact aB)) rfl rfl rfl rfl rfl rfl rfl ⟨(Nat.le_of_ble_eq_true rfl),(Nat.le_of_ble_eq_true rfl)⟩ (fun _=>(ae rfl _)) (by simp only[List.length_cons,List.length_nil,List.length_map]<;>omega) (by exact .inr rfl) (fun Ss st hH=>?_);dsimp only[u2,u1,u3,u4,setMany,u5,u6,D.cells,Nat.reduceAdd,aT,a_,aq,aw,dJ] at hH;refine qm ?_;refine qe hK ?_;have hH:=hH.drop 1;refine⟨mm-1,by omega,⟨s3,Ss,parts++[l],rfl,(by rw[List.map_append];exact hH),by omega,r2,by omega,r4,?_,by rw[dq,List.length_append];simp only[e6,List.length_cons,List.length_nil];omega,by rw[List.length_append];omega,by omega⟩⟩;intro l' gF
   rcases List.mem_append.1 gF with gF|gF
   ·exact h5 l' gF
   ·simp only[List.mem_cons,List.not_mem_nil,or_false] at gF;subst gF;exact r5
 ·have bA:(s1.e==0)=false:=by simpa using lf
  refine qq ?_;refine qq ?_;refine qj fun K hK=>?_;refine qm ?_;refine qg ?_;refine qp (o:=5) ?_;refine ql hH aB ?_;refine qg ?_;refine qm ?_;refine qs ?_ (hg:=wn bA);refine qs ?_ (hg:=wn bA);refine qu bA ?_;refine qe hK ?_;refine qC ?_;refine af.exit ?_;obtain⟨_,Bq,hQ,l,rfl⟩:=pb _ hH;refine qq ?_;refine qj fun K hK=>?_;refine qm ?_;refine qv (Bq) ?_;refine qm ?_;refine qe hK ?_;refine af.ret ⟨rx,_,_,_,rfl,aj (rfl),?_⟩;exact⟨s1,hQ,cy.ax cx (hH.erase 2)⟩
theorem l8:∀(n:Nat) (b:List UInt8),b.length≤n→(eX b).length≤b.length∧∀g∈eX b,g.2≤b.length:=by
 intro n
 induction n with
 |zero=>
  intro b hb;have:b=[]:=List.length_eq_zero_iff.1 (by omega);subst this;rw[j_];exact⟨Nat.le_refl _,fun g hg=>by cases hg⟩
 |succ n ih=>
  intro b hb
  by_cases h:b=[]
  ·subst h;rw[j_];exact⟨Nat.le_refl _,fun g hg=>by cases hg⟩
  ·have hp:=iP b;have hl:=xP h;obtain⟨h1,h2⟩:=ih (b.drop (gN b).2) (by rw[List.length_drop];omega);rw[List.length_drop] at h1 h2;rw[mZ h];refine⟨by rw[List.length_cons];omega,fun g hg=>?_⟩
   rcases List.mem_cons.1 hg with rfl|hg
   ·exact hl
   ·have:=h2 g hg;omega
def bk (fr:Go.V.Fr) (k:Nat):Go.V.D:=Go.V.nth .bw fr.loc k
def Lm (d:D):Prop:=∃(l:List dr) (e w:Int),d=.tup [tB l,.int .i64 e,.int .i64 w]∧(∀n∈l,tH n)∧l.length≤500
theorem AM {s0:St} {b:List UInt8} (hbl:b.length≤1048576):∃d,Ev pv 18 [.str b] s0 d s0∧Lm d:=by
 obtain⟨o_,Qs⟩:=l8 _ b (Nat.le_refl _);have aO:∀(st:St) (x:D),Bytes st x b→Ev pv 11 [x] st (cu (eX b)) st:=fun st x h=>xf h hbl;generalize eX b=gs at*;refine Ev.Fu rfl R3 rfl rfl rfl ?_;dsimp only[u3,u4,List.length,Nat.reduceSub,Nat.reduceAdd,w1,w2];obtain⟨cM,hF,hH⟩:=ri s0;generalize ak .ro s0=S at*;have Bs:Arg s0.bs.length S 2 (cu gs) (gs.map a_):=Arg.pure (fun st=>cV st gs);refine qq<|qj fun K hK=>qm ?_;refine qm ?_;refine qm ?_;refine qe hK<|qq<|qq<|qj fun K hK=>qm ?_;refine ab.tO rfl rfl rfl (by dsimp only[Fr.put,u1,u2]<;>rfl) ?_;refine qg ?_;refine qe hK ?_
 by_cases Tf:120<b.length
 ·have ib:decide (((b.length:Nat):Int)>120)=true:=by rw[decide_eq_true_eq];omega
  refine qD rfl (by rw[ib]) ?_;refine qq<|qj fun K hK=>qm ?_;refine qm ?_;refine qm ?_;refine qe hK<|af.ret ⟨rx,_,_,rfl,rl cM hH (rfl),?_⟩;exact⟨[],2,0,rfl,fun n hn=>(by cases hn),by simp⟩
 have ib:decide (((b.length:Nat):Int)>120)=false:=by rw[decide_eq_false_iff_not];omega
 refine qE rfl (by rw[ib]) ?_;refine af.skip<|qq<|qj fun K hK=>qm ?_;refine ab.wI hH rfl rfl rfl rfl rfl (by omega) (fun _=>by dsimp only[Fr.put,u1,u2]<;>rfl) (fun k14 st Nn hH=>?_);refine qv ((aO _ _ (hH.rows aB))) ?_;refine ab.go (d:=.agg [cu gs,.nul,.int .i64 0,.int .i64 0,.int .i64 0,.int .i64 0,.int .i64 0]) (st1:=_) rfl rfl rfl (by dsimp only[Fr.put,u1,u2]<;>rfl) ?_;refine qb hH fun k17 st Ql hH=>?_;refine qm ?_;refine qe hK<|qq<|qj fun K hK=>qm ?_;refine qe hK<|qq<|qq<|qj fun K hK=>qm ?_;refine qg ?_;refine qp (o:=0) ?_;refine ql hH aB ?_;refine qn ?_;simp only[List.length_map];refine qm ?_;refine qe hK ?_;have hH:Has s0.bs.length S st (.box k17 (.mem 0 false [cu gs,.nul,.int .i64 0,.int .i64 0,.int .i64 0,.int .i64 0,.int .i64 0])::.aL .nul 1 (([]:List Int).map aq)::[]):=((hH.erase 1).eB 1).front b4;refine af.block<|af.loop (fun mm fr st=>∃(i a:Nat) (pd:D) (aW:List Int),fr.clean=⟨24,[bk fr 0,bk fr 1,bk fr 2,bk fr 3,bk fr 4,.ptr k17 0 0,.int .i64 (a:Nat),bk fr 7,bk fr 8,bk fr 9,bk fr 10,bk fr 11,bk fr 12,bk fr 13,bk fr 14,bk fr 15,bk fr 16,bk fr 17,bk fr 18,bk fr 19,bk fr 20,cu gs,.int .i64 (gs.length:Nat),.int .i64 (i:Nat)],[]⟩∧Has s0.bs.length S st [.box k17 (.mem 0 false [cu gs,pd,.int .i64 0,.int .i64 0,.int .i64 0,.int .i64 0,.int .i64 0]),.aL pd 1 (aW.map aq)]∧(i+mm=gs.length)∧(aW.length=i)∧(a≤120*i)) (gs.length) ?_ ?_
 ·exact⟨0,0,.nul,[],rfl,hH,by omega,rfl,by omega⟩
 rintro mm fr st ⟨i,a,pd,aW,hfr,hH,hi,fF,ha⟩;rw[hfr];clear hfr;generalize bk fr=ee;clear fr;refine qq<|qj fun K hK=>qg ?_;refine qe hK ?_
 by_cases hlt:i<gs.length
 ·obtain⟨g,hg⟩:∃g,gs[i]?=some g:=⟨gs[i]'hlt,List.getElem?_eq_getElem _⟩
  have hO:(gs.map a_)[i]?=some (a_ g):=by rw[List.getElem?_map,hg];rfl
  have bh:=Qs g (List.mem_of_getElem? hg);have ye:decide (((i:Nat):Int)<((gs.length:Nat):Int))=true:=by rw[decide_eq_true_eq];omega
  refine qq<|qD rfl (by rw[ye]) ?_;refine af.skip<|qq<|af.block<|qq<|qj fun K hK=>qr fun N' FQ=>?_;refine ab.eA rfl (ev rfl) (by assumption) rfl (ae rfl _) ?_;refine qa hH fun k8 st Nd hH=>?_;refine qS hH aB fun st hH=>?_;dsimp only[u2,u1,u3,u4,setMany,u5,u6,D.cells,Nat.reduceAdd,aT,a_,aq] at hH;refine qe hK<|qq<|qj fun K hK=>qm ?_;refine qm ?_;refine qg ?_;refine qp (o:=1) ?_;refine ql hH b4 ?_;refine qm ?_;refine qh (s:=1) (vs:=[_]) hH fun k33 st Qj hH=>?_;refine ab.bZ (s:=1) hH rfl (ev rfl) (ev rfl) (by exact eF) (by exact hH.rows (by exact aB)) rfl rfl rfl rfl rfl rfl rfl ⟨(Nat.le_of_ble_eq_true rfl),(Nat.le_of_ble_eq_true rfl)⟩ (fun _=>(ae rfl _)) (by simp only[List.length_cons,List.length_nil,List.length_map]<;>omega) (by exact .inl hF) (fun TW st hH=>?_);dsimp only[u2,u1,u3,u4,setMany,u5,u6,D.cells,Nat.reduceAdd,aT,a_,aq] at hH;refine qg ?_;refine qp (o:=1) ?_;refine qT hH cU (fun st hH=>?_) (gG:=hH.dV eF);dsimp only[u2,u1,u3,u4,setMany,u5,u6,D.cells,Nat.reduceAdd,aT,a_,aq] at hH;refine qe hK<|qj fun K hK=>qm ?_;refine qp (o:=1) ?_;refine ql hH b4 ?_;refine ab.N4 rfl (ev rfl) (ev rfl) (by omega) (ae rfl _) ?_;refine qm ?_;refine qe hK<|qj fun K hK=>qA ?_;refine qm ?_;refine qe hK ?_;exact⟨mm-1,by omega,⟨i+1,a+g.2,TW,aW++[((a:Nat):Int)],rfl,(by rw[List.map_append];exact hH.drop 2),by omega,by rw[List.length_append,fF];rfl,by omega⟩⟩
 ·have ye:decide (((i:Nat):Int)<((gs.length:Nat):Int))=false:=by rw[decide_eq_false_iff_not];omega
  refine qq<|qE rfl (by rw[ye]) ?_;refine af.exit ?_
  have ba:kc gs aW:=⟨by omega,by omega⟩
  have hH:Has s0.bs.length S st (.box k17 (.mem 0 false (aT gs pd ⟨0,0,0,0,0⟩))::.aL pd 1 (aW.map aq)::[]):=hH;refine qq<|qj fun K hK=>qm ?_;obtain⟨_,st,aO,s1,⟨p1,p2,p3,p4,l,rfl,p5,p6⟩,hH⟩:=Gk 20 (s:=⟨0,0,0,0,0⟩) ba rfl (by simp) (by simp) rfl hH;refine qv aO ?_;refine qm ?_;refine qe hK ?_;have p6:l.length≤4*(s1.i-0)+1:=p6;refine qq<|qq<|af.kY (fun fr st=>∃(s2:eO) (tmp:List (Nat×D)),fr=⟨24,[bk fr 0,bk fr 1,bk fr 2,bk fr 3,bk fr 4,.ptr k17 0 0,bk fr 6,bk fr 7,bk fr 8,tB l,bk fr 10,bk fr 11,bk fr 12,bk fr 13,bk fr 14,bk fr 15,bk fr 16,bk fr 17,bk fr 18,bk fr 19,bk fr 20,bk fr 21,bk fr 22,bk fr 23],tmp⟩∧Has s0.bs.length S st (.box k17 (.mem 0 false (aT gs pd s2))::.aL pd 1 (aW.map aq)::[])∧(True)) ?_ ?_
  ·by_cases lf:s1.e=0
   ·have bA:(s1.e==0)=true:=by simpa using lf
    refine qj fun K hK=>qm ?_;refine qg ?_;refine qp (o:=5) ?_;refine ql hH aB ?_;refine qg ?_;refine qm ?_;refine qm ?_ (hg:=wi bA);refine qg ?_ (hg:=wi bA);refine qp (o:=2) ?_ (hg:=wi bA);refine ql hH aB ?_ (hg:=wi bA);refine qm ?_ (hg:=wi bA);refine qg ?_ (hg:=wi bA);refine qp (o:=0) ?_ (hg:=wi bA);refine ql hH aB ?_ (hg:=wi bA);refine qn ?_ (hg:=wi bA);simp only[List.length_map];refine qg ?_ (hg:=wi bA);refine qt bA ?_;refine qe hK ?_;refine af.cond (by rfl) (fun GL=>?_) (fun GL=>?_)<;>try simp only[decide_eq_true_eq,decide_eq_false_iff_not] at GL
    ·refine qj fun K hK=>qm ?_;refine qm ?_;refine qg ?_;refine qp (o:=2) ?_;refine ql hH aB ?_;obtain⟨_,st,aO,rfl,hH⟩:=cW (s:=s1) s1.i 4 (by omega) hH;refine qv aO ?_;refine qe hK ?_;exact⟨_,_,rfl,hH,trivial⟩
    ·refine af.skip ?_;exact⟨s1,_,rfl,hH,trivial⟩
   ·have bA:(s1.e==0)=false:=by simpa using lf
    refine qj fun K hK=>qm ?_;refine qg ?_;refine qp (o:=5) ?_;refine ql hH aB ?_;refine qg ?_;refine qm ?_;refine qs ?_ (hg:=wn bA);refine qs ?_ (hg:=wn bA);refine qs ?_ (hg:=wn bA);refine qs ?_ (hg:=wn bA);refine qs ?_ (hg:=wn bA);refine qs ?_ (hg:=wn bA);refine qs ?_ (hg:=wn bA);refine qs ?_ (hg:=wn bA);refine qs ?_ (hg:=wn bA);refine qs ?_ (hg:=wn bA);refine qu bA ?_;refine qe hK<|qC ?_;refine af.skip ?_;exact⟨s1,_,rfl,hH,trivial⟩
  ·rintro fr st ⟨s2,tmp,hfr,hH,ht⟩;rw[hfr];clear hfr;generalize bk fr=ee;clear fr;refine qq<|qq<|qj fun K hK=>qm ?_;refine qg ?_;refine qp (o:=5) ?_;refine ql hH aB ?_;refine qg ?_;refine qe hK ?_;refine af.cond (by rfl) (fun hne=>?_) (fun hne=>?_)<;>try simp only[bne_iff_ne,bne_eq_false_iff_eq,ne_eq] at hne
   ·refine qq<|qj fun K hK=>qm ?_;refine qg ?_;refine qp (o:=5) ?_;refine ql hH aB ?_;refine qm ?_;refine qg ?_;refine qp (o:=6) ?_;refine ql hH aB ?_;refine qm ?_;refine qm ?_;refine qm ?_;refine qe hK<|af.ret ⟨rx,_,_,rfl,rl cM hH (rfl),?_⟩;exact⟨[],_,_,rfl,fun n hn=>(by cases hn),by simp⟩
   ·refine af.skip<|qq<|qj fun K hK=>qm ?_;refine qm ?_;refine qm ?_;refine qm ?_;refine qe hK<|af.ret ⟨rx,_,_,rfl,rl cM hH (rfl),?_⟩;exact⟨l,0,0,rfl,p5,by omega⟩
def sC (n:dr):Bool:=((n.op==2)||((n.rs.length:Nat):Int)==0) &&((n.op==5)||((n.mn==0) &&(n.mx==0) &&!n.lz)) &&((n.op==6)||(n.cap==0))
noncomputable def eQ (n:dr) (g:Int):Int×Bool:=
 if sC n=false then(0,false)
 else if n.op=1∨n.op=7∨n.op=8 then(0,n.kids==0)
 else if n.op=2 then(0,(n.kids==0) &&eR n.rs)
 else if n.op=3∨n.op=4 then(n.kids,decide (n.kids≥2))
 else if n.op=5 then(1,(n.kids==1) &&decide (n.mn≥0) &&decide (n.mn≤30) &&((n.mx==-1)||(decide (n.mx≥n.mn) &&decide (n.mx≤30))))
 else if n.op=6 then(1,(n.kids==1) &&(n.cap==g+1) &&decide (n.cap≤4))
 else(0,false)
def iT (h:Nat→Nat→Option (Nat×Nat)):Nat→Nat→Nat→Option (Nat×Nat)
 |0,at_,g=>some (at_,g)
 |k+1,at_,g=>match h at_ g with
  |some r=>iT h k r.1 r.2
  |none=>none
noncomputable def gM (l:List dr):Nat→Nat→Nat→Option (Nat×Nat)
 |0,_,_=>none
 |f+1,at_,g=>match l[at_]? with
  |none=>none
  |some n=>if(eQ n (g:Nat)).2=true then iT (gM l f) (eQ n (g:Nat)).1.toNat (at_+1) (if n.op=6 then g+1 else g) else none
theorem tR {n:dr} {g:Nat} (h:(eQ n (g:Nat)).2=true):uA n (eQ n (g:Nat)).1.toNat∧0≤(eQ n (g:Nat)).1∧(n.op=6→n.cap=g+1∧n.cap≤4):=by
 unfold eQ at h⊢;unfold uA
 by_cases h0:sC n=false
 ·rw[if_pos h0] at h;cases h
 rw[if_neg h0] at h⊢
 by_cases h1:n.op=1∨n.op=7∨n.op=8
 ·rw[if_pos h1] at h⊢;simp only[beq_iff_eq] at h;exact⟨⟨h,.inl ⟨h1,rfl⟩⟩,Int.le_refl _,fun h6=>by omega⟩
 rw[if_neg h1] at h⊢
 by_cases h2:n.op=2
 ·rw[if_pos h2] at h⊢;simp only[Bool.and_eq_true,beq_iff_eq] at h;exact⟨⟨h.1,.inr (.inl ⟨h2,rfl⟩)⟩,Int.le_refl _,fun h6=>by omega⟩
 rw[if_neg h2] at h⊢
 by_cases h3:n.op=3∨n.op=4
 ·rw[if_pos h3] at h⊢;simp only[decide_eq_true_eq] at h;exact⟨⟨by simp only;omega,.inr (.inr (.inl ⟨h3,by simp only;omega⟩))⟩,by simp only;omega,fun h6=>by omega⟩
 rw[if_neg h3] at h⊢
 by_cases h5:n.op=5
 ·rw[if_pos h5] at h⊢;simp only[Bool.and_eq_true,Bool.or_eq_true,beq_iff_eq,decide_eq_true_eq] at h;exact⟨⟨by simp only;omega,.inr (.inr (.inr (.inl ⟨h5,by simp only;rfl,by omega,by omega,by omega⟩)))⟩,by simp only;omega,fun h6=>by omega⟩
 rw[if_neg h5] at h⊢
 by_cases h6:n.op=6
 ·rw[if_pos h6] at h⊢;simp only[Bool.and_eq_true,beq_iff_eq,decide_eq_true_eq] at h;exact⟨⟨by simp only;omega,.inr (.inr (.inr (.inr ⟨h6,by simp only;rfl,by omega,by omega⟩)))⟩,by simp only;omega,fun _=>⟨h.1.2,h.2⟩⟩
 rw[if_neg h6] at h;cases h
theorem fc.cons {α:Type} {L M:List α} {a:α} {at_:Nat} (h:L[at_]?=some a) (h2:fc L (at_+1) M):fc L at_ (a::M):=by
 obtain⟨post,h2⟩:=h2;refine⟨post,?_⟩;have h3:L[at_]'(bj h)=a:=Option.some.inj ((List.getElem?_eq_getElem _).symm.trans h);rw[List.drop_eq_getElem_cons (bj h),h2,h3];rfl
theorem fc.append {α:Type} {L M M':List α} {at_:Nat} (h:fc L at_ M) (h2:fc L (at_+M.length) M'):fc L at_ (M++M'):=by
 obtain⟨post,h⟩:=h;obtain⟨Mi,h2⟩:=h2;refine⟨Mi,?_⟩;rw[←List.drop_drop,h,List.drop_left] at h2;rw[h,h2,List.append_assoc]
theorem fc.none {α:Type} (L:List α) (at_:Nat):fc L at_ []:=⟨_,rfl⟩
theorem rv {l:List dr} {h:Nat→Nat→Option (Nat×Nat)} (ih:∀at_ g r,h at_ g=some r→∃t:Tr,t.ok∧fc l at_ t.flat∧r.1=at_+t.flat.length):∀k at_ g r,iT h k at_ g=some r→∃ts:bE,ts.len=k∧ts.ok∧fc l at_ ts.flat∧r.1=at_+ts.flat.length
 |0,at_,g,r,e=>by
  simp only[iT,Option.some.injEq] at e;subst e;exact⟨.nil,rfl,trivial,fc.none _ _,by simp[bE.flat]⟩
 |k+1,at_,g,r,e=>by
  unfold iT at e
  cases hq:h at_ g with
  |none=>rw[hq] at e;cases e
  |some q=>
   rw[hq] at e;obtain⟨t,t1,t2,t3⟩:=ih _ _ _ hq;obtain⟨ts,u1,u2,u3,u4⟩:=rv ih k _ _ _ e;rw[t3] at u3 u4;exact⟨.cons t ts,by simp[bE.len,u1],by simp only[bE.ok];exact⟨t1,u2⟩,by simp only[bE.flat];exact t2.append u3,by rw[u4];simp only[bE.flat,List.length_append];omega⟩
theorem uu {l:List dr}:∀f at_ g r,gM l f at_ g=some r→∃t:Tr,t.ok∧fc l at_ t.flat∧r.1=at_+t.flat.length
 |0,_,_,_,e=>by simp[gM] at e
 |f+1,at_,g,r,e=>by
  unfold gM at e
  cases hn:l[at_]? with
  |none=>rw[hn] at e;cases e
  |some n=>
   rw[hn] at e;simp only at e
   split at e
   ·rename_i hs;obtain⟨ts,u1,u2,u3,u4⟩:=rv (uu f) _ _ _ _ e;have:=(tR hs).1;rw[←u1] at this;exact⟨.mk n ts,by simp only[Tr.ok];exact⟨this,u2⟩,by simp only[Tr.flat];exact fc.cons hn u3,by rw[u4];simp only[Tr.flat,List.length_cons];omega⟩
   ·cases e
noncomputable def fI (l:List dr):Bool:=(decide (1≤l.length) &&decide (l.length≤480)) &&(match gM l 241 0 0 with|some r=>decide (r.1=l.length)|none=>false)
theorem oE {l:List dr} (h:fI l=true):∃t:Tr,t.ok∧t.flat=l:=by
 unfold fI at h;simp only[Bool.and_eq_true] at h;obtain⟨_,h⟩:=h
 split at h
 ·rename_i r hr;obtain⟨t,h1,⟨post,h2⟩,h3⟩:=uu _ _ _ _ hr;rw[decide_eq_true_eq] at h;refine⟨t,h1,?_⟩;rw[List.drop_zero] at h2;have h4:=congrArg List.length h2;rw[List.length_append] at h4;have h5:post=[]:=List.length_eq_zero_iff.1 (by omega);rw[h2,h5,List.append_nil]
 ·cases h
noncomputable def cE (l:List dr):Tr:=@dite _ (∃t:Tr,t.ok∧t.flat=l) (Classical.propDecidable _) (fun h=>Classical.choose h) (fun _=>.mk ⟨0,.nul,[],0,0,false,0,0⟩ .nil)
theorem sc {l:List dr} (h:fI l=true):(cE l).ok∧(cE l).flat=l:=by
 unfold cE;rw[dif_pos (oE h)];exact Classical.choose_spec (oE h)
theorem Gg {n:dr} {k s:Nat}:min (bL n (min s 401) k) 401=min (bL n s k) 401:=by
 by_cases hs:s≤401
 ·rw[Nat.min_eq_left hs]
 ·have hx:min s 401=401:=by omega
  rw[hx];unfold bL
  split
  ·rfl
  ·split
   ·omega
   ·split
    ·omega
    ·split
     ·split
      ·omega
      ·by_cases h0:n.mn.toNat=0
       ·rw[h0]
        by_cases hd:n.mx.toNat-0=0
        ·rw[hd];simp
        ·have h1:=Nat.le_mul_of_pos_left (401+1) (show 0<n.mx.toNat-0 by omega);have h2:=Nat.le_mul_of_pos_left (s+1) (show 0<n.mx.toNat-0 by omega);omega
       ·have h1:=Nat.le_mul_of_pos_left 401 (show 0<n.mn.toNat by omega);have h2:=Nat.le_mul_of_pos_left s (show 0<n.mn.toNat by omega);omega
     ·omega
def er (t:Tr) (b r:Nat):List aK:=cS 4 0 0 []::(aS t (b+1)++[cS 4 1 0 [],cS 7 (r:Nat) 0 []])
theorem ki {t:Tr} {b r:Nat} (h:t.ok):(er t b r).length=t.sz+3:=by
 unfold er;rw[List.length_cons,List.length_append,ct t _ h];rfl
structure r_ where
 code:List aK
 az:List Int
 e:Int
 w:Int
noncomputable def ez:List (List dr)→Nat→List aK→List Int→r_
 |[],_,c,s=>⟨c,s,0,0⟩
 |l::ls,r,c,s=>if fI l=false then⟨[],[],1,(r:Nat)⟩ else if 400<c.length+min (cE l).sz 401+3 then⟨[],[],12,(r:Nat)⟩ else ez ls (r+1) (c++er (cE l) c.length r) (s++[((c.length:Nat):Int)])
noncomputable def bn (rules:List (List dr)):r_:=if 8<rules.length then⟨[],[],13,8⟩ else ez rules 0 [] []
def oc (code:List aK) (az:List Int):Pg:=⟨.sl ((code.map aG).map (jK 4)),code,Bd az,az⟩
def i_ (i:aK):Prop:=i.rd=.sl ((i.rs.map aw).map (jK 2))∧i.rs.length≤1048576
theorem lE (op x y:Int):i_ (cS op x y []):=⟨rfl,by simp[cS]⟩
theorem Mo (op x y:Int) {rs:List Rg} (h:rs.length≤1048576):i_ (cS op x y rs):=⟨rfl,h⟩
theorem An (s o:Nat) (lz:Bool):i_ (ml s o lz):=by unfold ml;split<;>exact lE _ _ _
theorem Gx (e:Nat):i_ (lI e):=lE _ _ _
theorem wu {code:List aK} (h:∀i∈code,i_ i):∀e∈code.map aG,∀d∈e,cw d=true:=by
 intro e he d hd;obtain⟨q,hq,rfl⟩:=List.mem_map.1 he;have hr:=(h q hq).1;simp only[aG,hr,List.mem_cons,List.not_mem_nil,or_false] at hd
 rcases hd with rfl|rfl|rfl|rfl<;>rfl
theorem FF (code:List aK):∀e∈code.map aG,e.length=4:=by
 intro e he;obtain⟨q,_,rfl⟩:=List.mem_map.1 he;rfl
theorem AL {code:List aK} {az:List Int} (h:∀i∈code,i_ i) (h1:code.length≤1048576) (h2:az.length≤1048576):(oc code az).ok:=by
 refine⟨gY.frozen (FF code) (wu h),uL _,fun i hi=>?_,h1,h2⟩;obtain⟨h3,h4⟩:=h i hi;refine⟨?_,h4⟩;rw[h3];exact gY.frozen (km _) (dU _)
theorem vS {c:Nat→List aK} {z:Nat} (hc:∀b,∀i∈c b,i_ i):∀k b,∀i∈eS c z k b,i_ i
 |0,b,i,hi=>by cases hi
 |k+1,b,i,hi=>by
  simp only[eS] at hi
  rcases List.mem_append.1 hi with hi|hi
  ·exact hc b i hi
  ·exact vS hc k _ i hi
theorem AQ {sp:Nat→aK} {c:Nat→List aK} {z:Nat} (hs:∀s,i_ (sp s)) (hc:∀b,∀i∈c b,i_ i):∀k b,∀i∈eL sp c z k b,i_ i
 |0,b,i,hi=>by cases hi
 |k+1,b,i,hi=>by
  simp only[eL] at hi
  rcases List.mem_cons.1 hi with rfl|hi
  ·exact hs _
  ·rcases List.mem_append.1 hi with hi|hi
   ·exact hc _ i hi
   ·exact AQ hs hc k _ i hi
mutual
theorem oj:∀(t:Tr) (b:Nat),(∀n∈t.flat,n.rs.length≤1048576)→∀i∈aS t b,i_ i
 | .mk n ks,b,h,i,hi=>by
  simp only[Tr.flat] at h;have hn:=h n (List.mem_cons_self ..);have hk:∀n∈ks.flat,n.rs.length≤1048576:=fun m hm=>h m (List.mem_cons_of_mem _ hm);have hc:=fun b=>B1 ks b hk;have ha:=fun jp (hj:i_ jp) b=>B_ jp hj ks b hk;simp only[aS] at hi
  split at hi
  ·simp only[List.mem_cons,List.not_mem_nil,or_false] at hi;subst hi;exact Mo _ _ _ hn
  split at hi
  ·simp only[List.mem_cons,List.not_mem_nil,or_false] at hi;subst hi;exact lE _ _ _
  split at hi
  ·simp only[List.mem_cons,List.not_mem_nil,or_false] at hi;subst hi;exact lE _ _ _
  split at hi
  ·exact hc b i hi
  split at hi
  ·exact ha _ (Gx _) b i hi
  split at hi
  ·unfold my at hi
   split at hi
   ·rcases List.mem_append.1 hi with hi|hi
    ·exact vS hc _ _ i hi
    ·rcases List.mem_cons.1 hi with rfl|hi
     ·exact An _ _ _
     ·rcases List.mem_append.1 hi with hi|hi
      ·exact hc _ i hi
      ·simp only[List.mem_cons,List.not_mem_nil,or_false] at hi;subst hi;exact Gx _
   ·rcases List.mem_append.1 hi with hi|hi
    ·exact vS hc _ _ i hi
    ·exact AQ (fun s=>An _ _ _) hc _ _ i hi
  split at hi
  ·rcases List.mem_cons.1 hi with rfl|hi
   ·exact lE _ _ _
   ·rcases List.mem_append.1 hi with hi|hi
    ·exact hc _ i hi
    ·simp only[List.mem_cons,List.not_mem_nil,or_false] at hi;subst hi;exact lE _ _ _
  ·cases hi
theorem B1:∀(ts:bE) (b:Nat),(∀n∈ts.flat,n.rs.length≤1048576)→∀i∈fp ts b,i_ i
 | .nil,b,_,i,hi=>by simp[fp] at hi
 | .cons t ts,b,h,i,hi=>by
  simp only[bE.flat] at h;simp only[fp] at hi
  rcases List.mem_append.1 hi with hi|hi
  ·exact oj t b (fun n hn=>h n (List.mem_append_left _ hn)) i hi
  ·exact B1 ts _ (fun n hn=>h n (List.mem_append_right _ hn)) i hi
theorem B_ (jp:aK) (hj:i_ jp):∀(ts:bE) (b:Nat),(∀n∈ts.flat,n.rs.length≤1048576)→∀i∈eo jp ts b,i_ i
 | .nil,b,_,i,hi=>by simp[eo] at hi
 | .cons t ts,b,h,i,hi=>by
  simp only[bE.flat] at h;have h1:∀n∈t.flat,n.rs.length≤1048576:=fun n hn=>h n (List.mem_append_left _ hn);have h2:∀n∈ts.flat,n.rs.length≤1048576:=fun n hn=>h n (List.mem_append_right _ hn);simp only[eo] at hi
  split at hi
  ·exact oj t b h1 i hi
  ·rcases List.mem_cons.1 hi with rfl|hi
   ·exact An _ _ _
   ·rcases List.mem_append.1 hi with hi|hi
    ·exact oj t _ h1 i hi
    ·rcases List.mem_cons.1 hi with rfl|hi
     ·exact hj
     ·exact B_ jp hj ts _ h2 i hi
end
theorem CG {t:Tr} {b r:Nat} (h:∀n∈t.flat,n.rs.length≤1048576):∀i∈er t b r,i_ i:=by
 intro i hi;unfold er at hi
 rcases List.mem_cons.1 hi with rfl|hi
 ·exact lE _ _ _
 ·rcases List.mem_append.1 hi with hi|hi
  ·exact oj t _ h i hi
  ·simp only[List.mem_cons,List.not_mem_nil,or_false] at hi
   rcases hi with rfl|rfl
   ·exact lE _ _ _
   ·exact lE _ _ _
end Go.Proofs.Ytbdnabmmlbiomaa
