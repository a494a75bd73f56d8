/-
 The parser of patterns: one thing; how often.
-/
import Derived.Test.YtbdilgkfnacahaaGreatXGQa
import Derived.Test.YtbdilgkfnacahaaGreatXGUb
set_option maxRecDepth 100000
set_option maxHeartbeats 4000000
set_option linter.unusedSimpArgs false
set_option linter.unusedVariables false
namespace Go.Proofs.YtbdilgkfnacahaaGreat
open Go.V Go
def we (fr:Go.V.Fr) (k:Nat):Go.V.D:=Go.V.nth .bu fr.loc k
theorem nI {gs:List (Nat×Nat)} {s:eC} {r:Int} (h:iu gs s.i r=false):cK gs s r=s:=by
 unfold cK;rw[if_neg (by rw[h];simp)]
theorem lg {gs:List (Nat×Nat)} {s:eC} {r:Int} (h:iu gs s.i r=true):(cK gs s r).i=s.i+1:=by
 unfold cK;rw[if_pos h]
theorem GJ {m:Nat} (hA:∀m',m'+1=m→kq m') {N k:Nat} {S s0:St} {H:List bF} {gs:List (Nat×Nat)} {bJ:D} {bT:List Int} {s:eC} (ba:jZ gs bT) (he:s.e=0) (hi:s.i<gs.length) (hg:s.g≤4) (ho:s.o+m=20) (hH:Has N S s0 (.box k (.mem 0 false (aS gs bJ s))::.aM bJ 1 (bT.map av)::H)):
  ∃d ah,Ev pv 96 [.ptr k 0 0] s0 d ah∧∃(s':eC),ir gs s s' d 2∧Has N S ah (.box k (.mem 0 false (aS gs bJ s'))::.aM bJ 1 (bT.map av)::H):=by
 have sP:=ba.gl;have ij:=ba.pl;refine Ev.i7 rfl Re rfl rfl rfl ?_;dsimp only[u3,u4,List.length,Nat.reduceSub,Nat.reduceAdd,w1,w2];have cp:=hH;have hH:=hH.ct;have cn:(ai .rw s0).bs=s0.bs:=rfl;generalize ai .rw s0=S2 at*;have Gm:Arg N S2 2 (eO gs) (gs.map bh):=Arg.pure (fun st=>dr st gs)
 obtain⟨g,QG⟩:∃g,gs[s.i]?=some g:=⟨gs[s.i]'hi,List.getElem?_eq_getElem _⟩
 have gk:(gs.map bh)[s.i]?=some (bh g):=by rw[List.getElem?_map,QG];rfl
 have hwr:∀(st:St),Has N S2 st (.box k (.mem 0 false (aS gs bJ s))::.aM bJ 1 (bT.map av)::H)→∃d ah,Ev pv 66 [.ptr k 0 0,.int .i64 (s.i:Nat),.int .i64 4] st d ah∧d=.sl []∧∃s4,ir gs s s4 (.sl []) 2∧Has N S2 ah (.box k (.mem 0 false (aS gs bJ s4))::.aM bJ 1 (bT.map av)::H):=by
  intro st hH;obtain⟨d,ah,aI,h6,hH⟩:=cL (s:=s) s.i 4 (by omega) hH;obtain⟨w1,w2,w3,w4⟩:=cV (bT:=bT) (s:=s) (i:=s.i) (e:=4) he (by decide);exact⟨d,ah,aI,h6,_,fv w3 (by omega) (by omega) (by omega) w1,hH⟩
 have je:∀(st:St) (s1:eC) (op:Int) (w:D) (a:List Rg) (kk:Nat),(w=bB a∨w=.nul∧a=[])→a.length≤1048576→s1.o=s.o→s1.g≤4→s.i<s1.i→s1.i≤gs.length→S2.bs.length≤kk→Has N S2 st (.aM (.win kk 0 0 1 7) 7 [[.int .i64 op,w,.int .i64 0,.int .i64 0,.bool false,.int .i64 0,.int .i64 0]]::.box k (.mem 0 false (aS gs bJ s1))::.aM bJ 1 (bT.map av)::H)→
   ∃d ah,cF .rw false s0 st (.win kk 0 0 1 7)=some (d,ah)∧∃(s':eC),ir gs s s' d 2∧Has N S ah (.box k (.mem 0 false (aS gs bJ s'))::.aM bJ 1 (bT.map av)::H):=by
  intro st s1 op w a kk hw ha h1 h2 h3 h4 hk hH;have hfz:=g_ hH ax (L:=s0.bs.length) hw (fun k hk=>by simp only[D.ref] at hk;rw[←cn];omega);refine⟨_,_,aj hfz,s1,⟨h1,h2,by omega,h4,_,rfl,AO ha (by omega),by simp,?_⟩,cp.aw cn (hH.drop 1)⟩
  by_cases he:s1.e=0
  ·exact .inr ⟨he,by simp only[List.length_cons,List.length_nil];omega⟩
  ·exact .inl he
 refine qq<|qj fun K hK=>qm ?_;refine qe hK<|qq<|qj fun K hK=>qm ?_;refine qg ?_;refine qp (o:=2) ?_;refine ql hH ax ?_;refine qm ?_;refine qe hK<|qq<|qq<|qj fun K hK=>qm ?_;refine qm ?_;obtain⟨_,st,aI,rfl,hH⟩:=wX (s:=s) s.i hi hH;refine qv aI ?_;refine qe hK ?_;refine qc (fun hb=>?_) (fun hb=>?_)<;>try simp only[cs] at hb
 ·refine qq<|qj fun K hK=>qm ?_;refine qm ?_;obtain⟨_,st,aI,rfl,s4,hN,hH⟩:=hwr _ hH;refine qv aI ?_;refine qm ?_;refine qe hK<|af.ret ⟨rx,_,_,_,rfl,aj (rfl),?_⟩;exact⟨s4,hN,cp.aw cn hH⟩
 refine af.skip<|qq<|qj fun K hK=>qm ?_;refine qg ?_;refine qp (o:=0) ?_;refine ql hH ax ?_;refine qm ?_;refine qr fun Ph KY=>?_;refine qf (fo:=0) fun Pf KW=>?_;refine qR ?_;refine qm ?_;refine qe hK<|qq<|qj fun K hK=>qm ?_;refine qe hK<|af.block<|qq<|qj fun K hK=>qg ?_;refine qm ?_;refine qe hK ?_;refine af.cond (by rfl) (fun SM=>?_) (fun SM=>?_)<;>try simp only[beq_iff_eq,beq_eq_false_iff_ne,ne_eq] at SM
 ·refine qq<|qj fun K hK=>qm ?_;obtain⟨_,st,aI,s4,⟨p1,p2,p3,p4,l,rfl,p5,p6,p7⟩,hH⟩:=Bu hA ba he hi hg ho hH;refine qv aI ?_;refine qm ?_;refine qe hK<|af.ret ⟨rx,_,_,_,rfl,aj (rfl),?_⟩;exact⟨s4,⟨p1,p2,p3,p4,l,rfl,p5,p6,p7⟩,cp.aw cn hH⟩
 refine qq<|qj fun K hK=>qg ?_;refine qm ?_;refine qe hK ?_;refine af.cond (by rfl) (fun LP=>?_) (fun LP=>?_)<;>try simp only[beq_iff_eq,beq_eq_false_iff_ne,ne_eq] at LP
 ·refine qq<|qj fun K hK=>qm ?_;obtain⟨_,st,aI,s4,⟨p1,p2,p3,p4,l,rfl,p5,p6,p7⟩,hH⟩:=BJ ba he hi hg hH;refine qv aI ?_;refine qm ?_;refine qe hK<|af.ret ⟨rx,_,_,_,rfl,aj (rfl),?_⟩;exact⟨s4,⟨p1,p2,p3,p4,l,rfl,p5,p6,p7⟩,cp.aw cn hH⟩
 refine qq<|qj fun K hK=>qg ?_;refine qm ?_;refine qe hK ?_;refine af.cond (by rfl) (fun SJ=>?_) (fun SJ=>?_)<;>try simp only[beq_iff_eq,beq_eq_false_iff_ne,ne_eq] at SJ
 ·refine qq<|qj fun K hK=>qm ?_;obtain⟨_,st,aI,d1,b,s4,rfl,⟨p1,p2,p3,p4,p5,p6⟩,hH⟩:=xl (s:=s) ba he hi hH;refine qv aI ?_;refine qm ?_;refine qg ?_;refine qg ?_;refine qm ?_;refine qm ?_;refine qe hK ?_
  have Gq:∀(st:St) (w:D) (a:List Rg) (kk:Nat),(w=bB a∨w=.nul∧a=[])→a.length≤8→S2.bs.length≤kk→Has N S2 st (.aM (.win kk 0 0 1 7) 7 [[.int .i64 2,w,.int .i64 0,.int .i64 0,.bool false,.int .i64 0,.int .i64 0]]::.box k (.mem 0 false (aS gs bJ s4))::.aM bJ 1 (bT.map av)::H)→∃d ah,cF .rw false s0 st (.win kk 0 0 1 7)=some (d,ah)∧∃(s':eC),ir gs s s' d 2∧Has N S ah (.box k (.mem 0 false (aS gs bJ s'))::.aM bJ 1 (bT.map av)::H):=by
   intro st w a kk hw ha hk hH;have hfz:=g_ hH ax (L:=s0.bs.length) hw (fun k hk=>by simp only[D.ref] at hk;rw[←cn];omega);refine⟨_,_,aj hfz,s4,⟨p1,by omega,by omega,p4,_,rfl,AO (by omega) (by omega),by simp,?_⟩,cp.aw cn (hH.drop 1)⟩
   rcases p6 with p6|⟨p6,p7,_⟩
   ·exact .inl p6
   ·exact .inr ⟨p6,by simp only[List.length_cons,List.length_nil];omega⟩
  rcases p5 with rfl|⟨a,rfl,ha⟩
  ·refine qq<|qj fun K hK=>qm ?_;refine ab.fu (qs:=[(0,_),(1,_)]) rfl rfl rfl rfl ⟨rfl,(ev rfl),(by rfl),rfl,(ev rfl),(by rfl),trivial⟩ (by intro q hq;simp only[List.mem_cons,List.not_mem_nil,or_false] at hq;rcases hq with rfl|rfl<;>exact⟨rfl,by exact Nat.le_of_ble_eq_true rfl⟩) (by show List.foldl _ [_,_,_,_,_,_,_] _=_;dsimp only[List.foldl_cons,List.foldl_nil,u2,u1]<;>rfl) (ag rfl _) ?_;refine qh (s:=7) (vs:=[_]) hH fun k54 st La hH=>?_;dsimp only[u2,u1,u3,u4,setMany,u5,u6,D.cells,Nat.reduceAdd,aS,bh,av,au,bd] at hH;refine qm ?_;refine qe hK ?_;obtain⟨d',ah,sN,gf⟩:=Gq _ .nul [] k54 (.inr ⟨rfl,rfl⟩) (by simp) La hH;refine af.ret ⟨rx,_,d',ah,rfl,sN,gf⟩
  ·refine qq<|qj fun K hK=>qm ?_;refine ab.fu (qs:=[(0,_),(1,_)]) rfl rfl rfl rfl ⟨rfl,(ev rfl),(by rfl),rfl,(ev rfl),(by rfl),trivial⟩ (by intro q hq;simp only[List.mem_cons,List.not_mem_nil,or_false] at hq;rcases hq with rfl|rfl<;>exact⟨rfl,by exact Nat.le_of_ble_eq_true rfl⟩) (by show List.foldl _ [_,_,_,_,_,_,_] _=_;dsimp only[List.foldl_cons,List.foldl_nil,u2,u1]<;>rfl) (ag rfl _) ?_;refine qh (s:=7) (vs:=[_]) hH fun k54 st La hH=>?_;dsimp only[u2,u1,u3,u4,setMany,u5,u6,D.cells,Nat.reduceAdd,aS,bh,av,au,bd] at hH;refine qm ?_;refine qe hK ?_;obtain⟨d',ah,sN,gf⟩:=Gq _ (bB a) a k54 (.inl rfl) ha La hH;refine af.ret ⟨rx,_,d',ah,rfl,sN,gf⟩
 refine qq<|qj fun K hK=>qg ?_;refine qm ?_;refine qe hK ?_;refine af.cond (by rfl) (fun SK=>?_) (fun SK=>?_)<;>try simp only[beq_iff_eq,beq_eq_false_iff_ne,ne_eq] at SK
 ·refine qq<|qj fun K hK=>qm ?_;refine qg ?_;refine qp (o:=2) ?_;refine ql hH ax ?_;refine qA ?_;refine qg ?_;refine qp (o:=2) ?_;refine qT hH ax fun st hH=>?_;dsimp only[u2,u1,u3,u4,setMany,u5,u6,D.cells,Nat.reduceAdd,aS,bh,av,au,bd] at hH;refine qe hK ?_;obtain⟨_,QQ,a,rfl,hla⟩:=Ly (s0:=st);refine qq<|qj fun K hK=>qv (QQ) ?_;refine ab.fu (qs:=[(0,_),(1,_)]) rfl rfl rfl rfl ⟨rfl,(ev rfl),(by rfl),rfl,(ev rfl),(by rfl),trivial⟩ (by intro q hq;simp only[List.mem_cons,List.not_mem_nil,or_false] at hq;rcases hq with rfl|rfl<;>exact⟨rfl,by exact Nat.le_of_ble_eq_true rfl⟩) (by show List.foldl _ [_,_,_,_,_,_,_] _=_;dsimp only[List.foldl_cons,List.foldl_nil,u2,u1]<;>rfl) (ag rfl _) ?_;refine qh (s:=7) (vs:=[_]) hH fun k66 st Qt hH=>?_;refine qm ?_;refine qe hK ?_;obtain⟨d',ah,sN,gf⟩:=je _ {s with i:=s.i+1} 2 (bB a) a k66 (.inl rfl) (by omega) rfl hg (by show s.i<s.i+1;omega) (by show s.i+1≤_;omega) Qt hH;refine af.ret ⟨rx,_,d',ah,rfl,sN,gf⟩
 refine qq<|qj fun K hK=>qg ?_;refine qm ?_;refine qe hK ?_;refine af.cond (by rfl) (fun SI=>?_) (fun SI=>?_)<;>try simp only[beq_iff_eq,beq_eq_false_iff_ne,ne_eq] at SI
 ·refine qq<|qj fun K hK=>qm ?_;refine qg ?_;refine qp (o:=2) ?_;refine ql hH ax ?_;refine qA ?_;refine qg ?_;refine qp (o:=2) ?_;refine qT hH ax fun st hH=>?_;dsimp only[u2,u1,u3,u4,setMany,u5,u6,D.cells,Nat.reduceAdd,aS,bh,av,au,bd] at hH;refine qe hK<|qq<|qj fun K hK=>ab.go (d:=.agg [.int .i64 7,.nul,.int .i64 0,.int .i64 0,.bool false,.int .i64 0,.int .i64 0]) (st1:=_) rfl rfl rfl (ag rfl _) ?_;refine qh (s:=7) (vs:=[_]) hH fun k77 st NK hH=>?_;refine qm ?_;refine qe hK ?_;obtain⟨d',ah,sN,gf⟩:=je _ {s with i:=s.i+1} 7 .nul [] k77 (.inr ⟨rfl,rfl⟩) (by simp) rfl hg (by show s.i<s.i+1;omega) (by show s.i+1≤_;omega) NK hH;refine af.ret ⟨rx,_,d',ah,rfl,sN,gf⟩
 refine qq<|qj fun K hK=>qg ?_;refine qm ?_;refine qe hK ?_;refine af.cond (by rfl) (fun SN=>?_) (fun SN=>?_)<;>try simp only[beq_iff_eq,beq_eq_false_iff_ne,ne_eq] at SN
 ·refine qq<|qj fun K hK=>qm ?_;refine qg ?_;refine qp (o:=2) ?_;refine ql hH ax ?_;refine qA ?_;refine qg ?_;refine qp (o:=2) ?_;refine qT hH ax fun st hH=>?_;dsimp only[u2,u1,u3,u4,setMany,u5,u6,D.cells,Nat.reduceAdd,aS,bh,av,au,bd] at hH;refine qe hK<|qq<|qj fun K hK=>ab.go (d:=.agg [.int .i64 8,.nul,.int .i64 0,.int .i64 0,.bool false,.int .i64 0,.int .i64 0]) (st1:=_) rfl rfl rfl (ag rfl _) ?_;refine qh (s:=7) (vs:=[_]) hH fun k88 st NJ hH=>?_;refine qm ?_;refine qe hK ?_;obtain⟨d',ah,sN,gf⟩:=je _ {s with i:=s.i+1} 8 .nul [] k88 (.inr ⟨rfl,rfl⟩) (by simp) rfl hg (by show s.i<s.i+1;omega) (by show s.i+1≤_;omega) NJ hH;refine af.ret ⟨rx,_,d',ah,rfl,sN,gf⟩
 refine qq<|qq<|qj fun K hK=>qg ?_;refine qm ?_;refine qe hK ?_
 by_cases Sn:((g.1:Nat):Int)=42
 ·refine qD rfl (by simp[Sn]) ?_;refine af.skip<|qD rfl (by simp[Sn]) ?_;refine qq<|qj fun K hK=>qm ?_;refine qm ?_;obtain⟨_,st,aI,rfl,s4,hN,hH⟩:=hwr _ hH;refine qv aI ?_;refine qm ?_;refine qe hK<|af.ret ⟨rx,_,_,_,rfl,aj (rfl),?_⟩;exact⟨s4,hN,cp.aw cn hH⟩
 refine qE rfl (by simp[Sn]) ?_;refine qq<|qj fun K hK=>qg ?_;refine qm ?_;refine qe hK ?_
 by_cases Sm:((g.1:Nat):Int)=43
 ·refine qD rfl (by simp[Sm]) ?_;refine af.skip<|qD rfl (by simp[Sm]) ?_;refine qq<|qj fun K hK=>qm ?_;refine qm ?_;obtain⟨_,st,aI,rfl,s4,hN,hH⟩:=hwr _ hH;refine qv aI ?_;refine qm ?_;refine qe hK<|af.ret ⟨rx,_,_,_,rfl,aj (rfl),?_⟩;exact⟨s4,hN,cp.aw cn hH⟩
 refine qE rfl (by simp[Sm]) ?_;refine qq<|qj fun K hK=>qg ?_;refine qm ?_;refine qe hK ?_
 by_cases Sl:((g.1:Nat):Int)=63
 ·refine qD rfl (by simp[Sl]) ?_;refine af.skip<|qD rfl (by simp[Sl]) ?_;refine qq<|qj fun K hK=>qm ?_;refine qm ?_;obtain⟨_,st,aI,rfl,s4,hN,hH⟩:=hwr _ hH;refine qv aI ?_;refine qm ?_;refine qe hK<|af.ret ⟨rx,_,_,_,rfl,aj (rfl),?_⟩;exact⟨s4,hN,cp.aw cn hH⟩
 refine qE rfl (by simp[Sl]) ?_;refine qq<|qj fun K hK=>qg ?_;refine qm ?_;refine qe hK ?_
 by_cases Sp:((g.1:Nat):Int)=41
 ·refine qD rfl (by simp[Sp]) ?_;refine af.skip<|qD rfl (by simp[Sp]) ?_;refine qq<|qj fun K hK=>qm ?_;refine qm ?_;obtain⟨_,st,aI,rfl,s4,hN,hH⟩:=hwr _ hH;refine qv aI ?_;refine qm ?_;refine qe hK<|af.ret ⟨rx,_,_,_,rfl,aj (rfl),?_⟩;exact⟨s4,hN,cp.aw cn hH⟩
 refine qE rfl (by simp[Sp]) ?_;refine qq<|qj fun K hK=>qg ?_;refine qm ?_;refine qe hK ?_
 by_cases Sk:((g.1:Nat):Int)=93
 ·refine qD rfl (by simp[Sk]) ?_;refine af.skip<|qD rfl (by simp[Sk]) ?_;refine qq<|qj fun K hK=>qm ?_;refine qm ?_;obtain⟨_,st,aI,rfl,s4,hN,hH⟩:=hwr _ hH;refine qv aI ?_;refine qm ?_;refine qe hK<|af.ret ⟨rx,_,_,_,rfl,aj (rfl),?_⟩;exact⟨s4,hN,cp.aw cn hH⟩
 refine qE rfl (by simp[Sk]) ?_;refine qq<|qj fun K hK=>qg ?_;refine qm ?_;refine qe hK ?_
 by_cases LD:((g.1:Nat):Int)=123
 ·refine qD rfl (by simp[LD]) ?_;refine af.skip<|qD rfl (by simp[LD]) ?_;refine qq<|qj fun K hK=>qm ?_;refine qm ?_;obtain⟨_,st,aI,rfl,s4,hN,hH⟩:=hwr _ hH;refine qv aI ?_;refine qm ?_;refine qe hK<|af.ret ⟨rx,_,_,_,rfl,aj (rfl),?_⟩;exact⟨s4,hN,cp.aw cn hH⟩
 refine qE rfl (by simp[LD]) ?_;refine qq<|qj fun K hK=>qg ?_;refine qm ?_;refine qe hK ?_
 by_cases LC:((g.1:Nat):Int)=125
 ·refine qD rfl (by simp[LC]) ?_;refine af.skip<|qD rfl (by simp[LC]) ?_;refine qq<|qj fun K hK=>qm ?_;refine qm ?_;obtain⟨_,st,aI,rfl,s4,hN,hH⟩:=hwr _ hH;refine qv aI ?_;refine qm ?_;refine qe hK<|af.ret ⟨rx,_,_,_,rfl,aj (rfl),?_⟩;exact⟨s4,hN,cp.aw cn hH⟩
 refine qE rfl (by simp[LC]) ?_;refine qj fun K hK=>qg ?_;refine qm ?_;refine qe hK ?_
 by_cases Ow:((g.1:Nat):Int)=124
 ·refine qD rfl (by simp[Ow]) ?_;refine qq<|qj fun K hK=>qm ?_;refine qm ?_;obtain⟨_,st,aI,rfl,s4,hN,hH⟩:=hwr _ hH;refine qv aI ?_;refine qm ?_;refine qe hK<|af.ret ⟨rx,_,_,_,rfl,aj (rfl),?_⟩;exact⟨s4,hN,cp.aw cn hH⟩
 refine qE rfl (by simp[Ow]) ?_;refine qq<|qj fun K hK=>qm ?_;refine qg ?_;refine qp (o:=2) ?_;refine ql hH ax ?_;refine qA ?_;refine qg ?_;refine qp (o:=2) ?_;refine qT hH ax fun st hH=>?_;dsimp only[u2,u1,u3,u4,setMany,u5,u6,D.cells,Nat.reduceAdd,aS,bh,av,au,bd] at hH;refine qe hK ?_;obtain⟨_,Gi,_⟩:=lp (s0:=s0) (x:=bB [(((g.1:Nat):Int),((g.1:Nat):Int))]) (l:=[(((g.1:Nat):Int),((g.1:Nat):Int))]) (eU _ _) (by simp);simp only[List.length_cons,List.length_nil] at Gi;refine qq<|qj fun K hK=>qm ?_;refine qv (iy _) ?_;refine ab.fu (qs:=[(0,_),(1,_)]) rfl rfl rfl rfl ⟨rfl,(ev rfl),(by rfl),rfl,(ev rfl),(by rfl),trivial⟩ (by intro q hq;simp only[List.mem_cons,List.not_mem_nil,or_false] at hq;rcases hq with rfl|rfl<;>exact⟨rfl,by exact Nat.le_of_ble_eq_true rfl⟩) (by show List.foldl _ [_,_,_,_,_,_,_] _=_;dsimp only[List.foldl_cons,List.foldl_nil,u2,u1]<;>rfl) (ag rfl _) ?_;refine qh (s:=7) (vs:=[_]) hH fun k36 st NN hH=>?_;refine qm ?_;refine qe hK ?_;obtain⟨d',ah,sN,gf⟩:=je _ {s with i:=s.i+1} 2 _ _ k36 (.inl rfl) (by omega) rfl hg (by show s.i<s.i+1;omega) (by show s.i+1≤_;omega) NN hH;refine af.ret ⟨rx,_,d',ah,rfl,sN,gf⟩
theorem Ac {m:Nat} (hA:∀m',m'+1=m→kq m') {N k:Nat} {S s0:St} {H:List bF} {gs:List (Nat×Nat)} {bJ:D} {bT:List Int} {s:eC} (ba:jZ gs bT) (he:s.e=0) (hi:s.i<gs.length) (hg:s.g≤4) (ho:s.o+m=20) (hH:Has N S s0 (.box k (.mem 0 false (aS gs bJ s))::.aM bJ 1 (bT.map av)::H)):
  ∃d ah,Ev pv 90 [.ptr k 0 0] s0 d ah∧∃(s':eC),ir gs s s' d 1∧Has N S ah (.box k (.mem 0 false (aS gs bJ s'))::.aM bJ 1 (bT.map av)::H):=by
 have sP:=ba.gl;have ij:=ba.pl;refine Ev.i7 rfl Rj rfl rfl rfl ?_;dsimp only[u3,u4,List.length,Nat.reduceSub,Nat.reduceAdd,w1,w2];have cp:=hH;have hH:=hH.ct;have cn:(ai .rw s0).bs=s0.bs:=rfl;generalize ai .rw s0=S2 at*;refine qq<|qj fun K hK=>qm ?_;refine qe hK<|qq<|qj fun K hK=>qm ?_;obtain⟨_,st,aI,s1,⟨p1,p2,p3,p4,l,rfl,p5,p6,p7⟩,hH⟩:=GJ hA ba he hi hg ho hH;refine qv aI ?_;refine qm ?_;refine qe hK<|qq<|qq<|qj fun K hK=>qm ?_;refine qg ?_;refine qp (o:=5) ?_;refine ql hH ax ?_;refine qg ?_;refine qe hK ?_
 rcases p7 with p7|⟨p7,p8⟩
 ·refine qD rfl (by simp[p7]) ?_;refine qq<|qj fun K hK=>qm ?_;refine qe hK<|af.ret ⟨rx,_,_,_,rfl,aj (rfl),?_⟩;exact⟨s1,fv p1 p2 p3 p4 p7,cp.aw cn hH⟩
 refine qE rfl (by simp[p7]) ?_;refine af.skip<|qq<|qj fun K hK=>ab.go (d:=.agg [.int .i64 5,.nul,.int .i64 0,.int .i64 0,.bool false,.int .i64 0,.int .i64 1]) (st1:=_) rfl rfl rfl (ag rfl _) ?_;refine qa hH fun k4 st NM hH=>?_;dsimp only[u2,u1,u3,u4,setMany,u5,u6,D.cells,Nat.reduceAdd,aS,bh,av,au,bd] at hH;refine qS hH ax fun st hH=>?_;dsimp only[u2,u1,u3,u4,setMany,u5,u6,D.cells,Nat.reduceAdd,aS,bh,av,au,bd] at hH;refine qe hK ?_;have hH:Has N S2 st (.box k (.mem 0 false (aS gs bJ s1))::.aM bJ 1 (bT.map av)::.box k4 (.mem 0 false [.int .i64 5,.nul,.int .i64 0,.int .i64 0,.bool false,.int .i64 0,.int .i64 1])::H):=lQ hH;refine qq<|af.merge (fun fr st=>∃(mn mx:Int) (s2:eC) (tmp:List (Nat×D)),fr=⟨5,[.ptr k 0 0,we fr 1,we fr 2,tg l,.ptr k4 0 0],tmp⟩∧Has N S2 st (.box k (.mem 0 false (aS gs bJ s2))::.aM bJ 1 (bT.map av)::.box k4 (.mem 0 false [.int .i64 5,.nul,.int .i64 mn,.int .i64 mx,.bool false,.int .i64 0,.int .i64 1])::H)∧(s2.o=s.o)∧(s2.g≤4)∧(s1.i<s2.i)∧(s2.i≤gs.length)) ?_ ?_
 ·refine af.block<|qq<|qj fun K hK=>qm ?_;obtain⟨_,st,aI,rfl,hH⟩:=dz (s:=s1) (by omega) 42 hH;refine qv aI ?_;refine qm ?_;refine qe hK ?_
  cases hb1:iu gs s1.i 42 with
  |true=>
   obtain⟨k1,k2,k3,Pt,k5⟩:=fY (gs:=gs) (s:=s1) (r:=42);have k6:=lg hb1;have k7:=k5 p4;generalize cK gs s1 42=s2 at*;refine qB ?_;refine qj fun K hK=>qp (o:=3) ?_;refine qT hH dp fun st hH=>?_;dsimp only[u2,u1,u3,u4,setMany,u5,u6,D.cells,Nat.reduceAdd,aS,bh,av,au,bd] at hH;refine qe hK ?_;exact⟨0,-1,s2,_,rfl,hH,by omega,by omega,by omega,k7⟩
  |false=>
   rw[nI hb1] at hH;refine qC ?_;refine qq<|qj fun K hK=>qm ?_;obtain⟨_,st,aI,rfl,hH⟩:=dz (s:=s1) (by omega) 43 hH;refine qv aI ?_;refine qm ?_;refine qe hK ?_
   cases hb2:iu gs s1.i 43 with
   |true=>
    obtain⟨k1,k2,k3,Pt,k5⟩:=fY (gs:=gs) (s:=s1) (r:=43);have k6:=lg hb2;have k7:=k5 p4;generalize cK gs s1 43=s2 at*;refine qB ?_;refine qj fun K hK=>qp (o:=2) ?_;refine qT hH dp fun st hH=>?_;dsimp only[u2,u1,u3,u4,setMany,u5,u6,D.cells,Nat.reduceAdd,aS,bh,av,au,bd] at hH;refine qp (o:=3) ?_;refine qT hH dp fun st hH=>?_;dsimp only[u2,u1,u3,u4,setMany,u5,u6,D.cells,Nat.reduceAdd,aS,bh,av,au,bd] at hH;refine qe hK ?_;exact⟨1,-1,s2,_,rfl,hH,by omega,by omega,by omega,k7⟩
   |false=>
    rw[nI hb2] at hH;refine qC ?_;refine qq<|qj fun K hK=>qm ?_;obtain⟨_,st,aI,rfl,hH⟩:=dz (s:=s1) (by omega) 63 hH;refine qv aI ?_;refine qm ?_;refine qe hK ?_
    cases N3:iu gs s1.i 63 with
    |true=>
     obtain⟨k1,k2,k3,Pt,k5⟩:=fY (gs:=gs) (s:=s1) (r:=63);have k6:=lg N3;have k7:=k5 p4;generalize cK gs s1 63=s2 at*;refine qB ?_;refine qj fun K hK=>qp (o:=3) ?_;refine qT hH dp fun st hH=>?_;dsimp only[u2,u1,u3,u4,setMany,u5,u6,D.cells,Nat.reduceAdd,aS,bh,av,au,bd] at hH;refine qe hK ?_;exact⟨0,1,s2,_,rfl,hH,by omega,by omega,by omega,k7⟩
    |false=>
     rw[nI N3] at hH;refine qC ?_;refine qq<|qj fun K hK=>qm ?_;obtain⟨_,st,aI,rfl,hH⟩:=nb (s:=s1) (by omega) 123 hH;refine qv aI ?_;refine qm ?_;refine qe hK ?_
     cases Wq:iu gs s1.i 123 with
     |true=>
      have hlt:=oK Wq;refine qB ?_;refine qj fun K hK=>qm ?_;obtain⟨_,st,aI,n1,n2,s2,rfl,⟨m1,m2,m3,m4⟩,hH⟩:=AB ba p7 hlt hH;refine qv aI ?_;refine qm ?_;refine qg ?_;refine qg ?_;refine qp (o:=2) ?_;refine qT hH dp fun st hH=>?_;dsimp only[u2,u1,u3,u4,setMany,u5,u6,D.cells,Nat.reduceAdd,aS,bh,av,au,bd] at hH;refine qp (o:=3) ?_;refine qT hH dp fun st hH=>?_;dsimp only[u2,u1,u3,u4,setMany,u5,u6,D.cells,Nat.reduceAdd,aS,bh,av,au,bd] at hH;refine qe hK ?_;exact⟨n1,n2,s2,_,rfl,hH,by omega,by omega,m3,m4⟩
     |false=>
      refine qC ?_;refine qq<|qj fun K hK=>qm ?_;refine qm ?_;refine qe hK<|af.ret ⟨rx,_,_,_,rfl,aj (rfl),?_⟩;exact⟨s1,⟨p1,p2,p3,p4,l,rfl,p5,p6,.inr ⟨p7,by omega⟩⟩,cp.aw cn (hH.erase 2)⟩
 ·rintro fr st ⟨mn,mx,s2,tmp,hfr,hH,h1,h2,h3,h4⟩;rw[hfr];clear hfr;generalize we fr=ee;clear fr;refine qq<|qq<|qj fun K hK=>qm ?_;refine qg ?_;refine qp (o:=5) ?_;refine ql hH ax ?_;refine qg ?_;refine qe hK ?_
  by_cases y8:s2.e=0
  ·refine qE rfl (by simp[y8]) ?_;refine af.skip ?_;obtain⟨k1,k2,k3,Pt,k5⟩:=fY (gs:=gs) (s:=s2) (r:=63);have k7:=k5 h4;refine qq<|qj fun K hK=>qm ?_;obtain⟨_,st,aI,rfl,hH⟩:=dz (s:=s2) (by omega) 63 hH;refine qv aI ?_;refine qp (o:=4) ?_;refine qT hH dp fun st hH=>?_;dsimp only[u2,u1,u3,u4,setMany,u5,u6,D.cells,Nat.reduceAdd,aS,bh,av,au,bd] at hH;refine qe hK ?_;generalize cK gs s2 63=s3 at*;generalize iu gs s2.i 63=lz at*;have hla:=(qF p5).arg N S2;refine qq<|qj fun K hK=>?_;refine ab.aT (m:=7) hH rfl (ev rfl) (by exact dp) (by dsimp only[List.drop_succ_cons,List.drop_zero,List.take_succ_cons,List.take_zero,aS,bh,av,au,bd]<;>rfl) rfl rfl (ag rfl _) ?_;refine qh (s:=7) (vs:=[_]) hH fun k46 st VO hH=>?_;refine qm ?_;refine ab.oX (s:=7) hH rfl (ev rfl) (ev rfl) ax ((qF p5).rows st) rfl rfl rfl rfl rfl rfl rfl ⟨(Nat.le_of_ble_eq_true rfl),(Nat.le_of_ble_eq_true rfl)⟩ (fun _=>(ag rfl _)) (by simp only[List.length_map,List.length_cons,List.length_nil];omega) (.inr (qz p5)) (fun k hk=>by have jg:k46+1=k+1:=hk;omega) (fun O0 st G5 hH=>?_);dsimp only[u2] at hH;refine qm ?_;refine qe hK ?_;have hH:Has N S2 st (.aM O0 7 ([.int .i64 5,.nul,.int .i64 mn,.int .i64 mx,.bool lz,.int .i64 0,.int .i64 1]::l.map bd)::.box k (.mem 0 false (aS gs bJ s3))::.aM bJ 1 (bT.map av)::.box k4 (.mem 0 false [.int .i64 5,.nul,.int .i64 mn,.int .i64 mx,.bool lz,.int .i64 0,.int .i64 1])::H):=hH
   have hfz:=gZ (L:=s0.bs.length) (l:=sa 5 mn mx lz 0 1 []::l) hH ax (by rw[List.map_cons,rZ p5];rfl) (fun e he d hd=>by
    rcases List.mem_cons.1 he with rfl|he
    ·simp only[List.mem_cons,List.not_mem_nil,or_false] at hd
     rcases hd with rfl|rfl|rfl|rfl|rfl|rfl|rfl<;>rfl
    ·exact oA p5 e he d hd) (fun k hk=>by rw[←cn];exact G5 k hk) (n:=16) (by decide)
   refine af.ret ⟨rx,_,_,_,rfl,aj hfz,⟨s3,⟨by omega,by omega,by omega,k7,_,rfl,?_,by simp only[List.length_cons];omega,.inr ⟨by omega,by simp only[List.length_cons];omega⟩⟩,cp.aw cn ((hH.drop 1).erase 2)⟩⟩;intro n hn
   rcases List.mem_cons.1 hn with rfl|hn
   ·exact⟨rfl,by simp[sa],by simp[sa]⟩
   ·exact p5 n hn
  ·refine qD rfl (by simp[y8]) ?_;refine qq<|qj fun K hK=>qm ?_;refine qe hK<|af.ret ⟨rx,_,_,_,rfl,aj (rfl),?_⟩;exact⟨s2,fv h1 h2 (by omega) h4 y8,cp.aw cn (hH.erase 2)⟩
def ml (fr:Go.V.Fr) (k:Nat):Go.V.D:=Go.V.nth .bu fr.loc k
theorem BN {m:Nat} (hA:∀m',m'+1=m→kq m') {N k:Nat} {S s0:St} {H:List bF} {gs:List (Nat×Nat)} {bJ:D} {bT:List Int} {s:eC} (ba:jZ gs bT) (he:s.e=0) (hi:s.i≤gs.length) (hg:s.g≤4) (ho:s.o+m=20) (hH:Has N S s0 (.box k (.mem 0 false (aS gs bJ s))::.aM bJ 1 (bT.map av)::H)):
  ∃d ah,Ev pv 77 [.ptr k 0 0] s0 d ah∧∃(s':eC),te gs s s' d∧Has N S ah (.box k (.mem 0 false (aS gs bJ s'))::.aM bJ 1 (bT.map av)::H):=by
 have sP:=ba.gl;have ij:=ba.pl;refine Ev.i7 rfl Rr rfl rfl rfl ?_;dsimp only[u3,u4,List.length,Nat.reduceSub,Nat.reduceAdd,w1,w2];have cp:=hH;have hH:=hH.ct;have cn:(ai .rw s0).bs=s0.bs:=rfl;generalize ai .rw s0=S2 at*;have Gm:Arg N S2 2 (eO gs) (gs.map bh):=Arg.pure (fun st=>dr st gs);refine qq ?_;refine qj fun K hK=>?_;refine qm ?_;refine qe hK ?_;refine qq ?_;refine qj fun K hK=>?_;refine qm ?_;refine qe hK ?_;have hH:Has N S2 S2 (.box k (.mem 0 false (aS gs bJ s))::.aM bJ 1 (bT.map av)::.aM .nul 1 (([]:List (List da)).map dB)::H):=lQ (hH.dP 1);refine qq ?_;refine af.block ?_;refine af.loop (fun mm fr st=>∃(s1:eC) (pd:D) (parts:List (List da)),fr.clean=⟨4,[.ptr k 0 0,ml fr 1,ml fr 2,pd],[]⟩∧Has N S2 st (.box k (.mem 0 false (aS gs bJ s1))::.aM bJ 1 (bT.map av)::.aM pd 1 (parts.map dB)::H)∧(s1.o=s.o)∧(s1.g≤4)∧(s.i≤s1.i)∧(s1.i≤gs.length)∧(∀l∈parts,∀n∈l,tn n)∧(eP parts+parts.length≤4*(s1.i-s.i)+2)∧(s1.e=0→eP parts+parts.length≤4*(s1.i-s.i))∧(gs.length-s1.i+(if s1.e=0 then 1 else 0)≤mm)) (gs.length+1) ?_ ?_
 ·exact⟨s,.nul,[],rfl,hH,rfl,hg,Nat.le_refl _,hi,fun l hl=>(by cases hl),by simp[eP],fun _=>by simp[eP],by split<;>omega⟩
 rintro mm fr st ⟨s1,pd,parts,hfr,hH,h1,h2,h3,h4,h5,h6,h7,wv⟩;rw[hfr];clear hfr;generalize ml fr=ee;clear fr
 have oS:∀st:St,Has N S2 st (.box k (.mem 0 false (aS gs bJ s1))::.aM bJ 1 (bT.map av)::.aM pd 1 (parts.map dB)::H)→∃d,Ev pv 79 [.int .i64 3,pd] st d st∧te gs s s1 d∧∃l,d=tg l:=by
  intro st hH;obtain⟨_,aI,l,rfl,j1,j2,j3⟩:=qY 3 (hH.rows dp) h5 (by omega) (by omega);refine⟨_,aI,⟨h1,h2,h3,h4,l,rfl,j1,?_⟩,l,rfl⟩
  by_cases q1:parts.length=1
  ·have:=j2 q1;omega
  ·by_cases q0:parts.length=0
   ·have:parts=[]:=List.length_eq_zero_iff.1 q0;rw[this] at j3 h6;simp[eP] at j3 h6;omega
   ·omega
 by_cases kQ:s1.e=0
 ·rw[if_pos kQ] at wv;have h7:=h7 kQ;have a7:(s1.e==0)=true:=by simpa using kQ
  by_cases hlt:s1.i<gs.length
  ·have bc:decide (((s1.i:Nat):Int)<((gs.length:Nat):Int))=true:=by rw[decide_eq_true_eq];omega
   cases bp:(!iu gs s1.i 124) with
   |false=>
    refine qq ?_;refine qq ?_;refine qj fun K hK=>?_;refine qm ?_;refine qg ?_;refine qp (o:=5) ?_;refine ql hH ax ?_;refine qg ?_;refine qm ?_;refine qm ?_ (hg:=wi a7);refine qg ?_ (hg:=wi a7);refine qp (o:=2) ?_ (hg:=wi a7);refine ql hH ax ?_ (hg:=wi a7);refine qm ?_ (hg:=wi a7);refine qg ?_ (hg:=wi a7);refine qp (o:=0) ?_ (hg:=wi a7);refine ql hH ax ?_ (hg:=wi a7);refine qn ?_ (hg:=wi a7);simp only[List.length_map];refine qg ?_ (hg:=wi a7);refine qt a7 ?_;refine qm ?_;refine qm ?_ (hg:=wi bc);obtain⟨_,st,aI,rfl,hH⟩:=nb (s:=s1) (by omega) 124 hH;refine qv aI ?_ (hg:=wi bc);refine qg ?_ (hg:=wi bc);refine qt bc ?_;refine qm ?_;refine qs ?_ (hg:=wn bp);refine qs ?_ (hg:=wn bp);refine qs ?_ (hg:=wn bp);refine qs ?_;refine qs ?_;refine qs ?_;refine qs ?_;refine qs ?_;refine qs ?_ (hg:=wn bp);refine qs ?_ (hg:=wn bp);refine qu bp ?_;refine qe hK ?_;refine qC ?_;refine af.exit ?_;obtain⟨_,Bh,hQ,l,rfl⟩:=oS _ hH;refine qq ?_;refine qj fun K hK=>?_;refine qm ?_;refine qv (Bh) ?_;refine qm ?_;refine qe hK ?_;refine af.ret ⟨rx,_,_,_,rfl,aj (rfl),?_⟩;exact⟨s1,hQ,cp.aw cn (hH.erase 2)⟩
   |true=>
    cases bf:iu gs s1.i 41 with
    |false=>
     refine qq ?_;refine qq ?_;refine qj fun K hK=>?_;refine qm ?_;refine qg ?_;refine qp (o:=5) ?_;refine ql hH ax ?_;refine qg ?_;refine qm ?_;refine qm ?_ (hg:=wi a7);refine qg ?_ (hg:=wi a7);refine qp (o:=2) ?_ (hg:=wi a7);refine ql hH ax ?_ (hg:=wi a7);refine qm ?_ (hg:=wi a7);refine qg ?_ (hg:=wi a7);refine qp (o:=0) ?_ (hg:=wi a7);refine ql hH ax ?_ (hg:=wi a7);refine qn ?_ (hg:=wi a7);simp only[List.length_map];refine qg ?_ (hg:=wi a7);refine qt a7 ?_;refine qm ?_;refine qm ?_ (hg:=wi bc);obtain⟨_,st,aI,rfl,hH⟩:=nb (s:=s1) (by omega) 124 hH;refine qv aI ?_ (hg:=wi bc);refine qg ?_ (hg:=wi bc);refine qt bc ?_;refine qm ?_;refine qm ?_ (hg:=wi bp);obtain⟨_,st,aI,rfl,hH⟩:=nb (s:=s1) (by omega) 41 hH;refine qv aI ?_ (hg:=wi bp);refine qm ?_ (hg:=wi bp);refine qs ?_ (hg:=wn bf);refine qs ?_ (hg:=wn bf);refine qs ?_ (hg:=wn bf);refine qs ?_ (hg:=wn bf);refine qs ?_ (hg:=wn bf);refine ab.cZ (aC rfl rfl rfl bp) rfl bf (ag rfl _) ?_;refine qg ?_ (hg:=wi bp);refine qt bp ?_;refine qe hK ?_;refine qB ?_;refine af.skip ?_;refine af.block ?_;refine qj fun K hK=>?_;refine qm ?_;refine qm ?_;obtain⟨_,st,aI,s2,⟨r1,r2,r3,r4,l,rfl,r5,r6,r7⟩,hH⟩:=Ac hA ba (s:=s1) kQ hlt h2 (by omega) hH;refine qv aI ?_;refine qh (s:=1) (vs:=[_]) hH fun k41 st NL hH=>?_;dsimp only[u2,u1,u3,u4,setMany,u5,u6,D.cells,Nat.reduceAdd,aS,bh,av,au,dB] at hH;refine ab.bQ (s:=1) hH rfl (ev rfl) (ev rfl) (by exact ef) (by exact hH.rows (by exact ax)) rfl rfl rfl rfl rfl rfl rfl ⟨(Nat.le_of_ble_eq_true rfl),(Nat.le_of_ble_eq_true rfl)⟩ (fun _=>(ag rfl _)) (by simp only[List.length_cons,List.length_nil,List.length_map]<;>omega) (by exact .inr rfl) (fun Ma st hH=>?_);dsimp only[u2,u1,u3,u4,setMany,u5,u6,D.cells,Nat.reduceAdd,aS,bh,av,au,dB] at hH;refine qm ?_;refine qe hK ?_;have hH:=hH.drop 1;refine⟨mm-1,by omega,⟨s2,Ma,parts++[l],rfl,(by rw[List.map_append];exact hH),by omega,r2,by omega,r4,?_,by rw[c_,List.length_append];simp only[eP,List.length_cons,List.length_nil];omega,(fun e=>by rw[c_,List.length_append];simp only[eP,List.length_cons,List.length_nil];omega),by split<;>omega⟩⟩;intro l' gu
     rcases List.mem_append.1 gu with gu|gu
     ·exact h5 l' gu
     ·simp only[List.mem_cons,List.not_mem_nil,or_false] at gu;subst gu;exact r5
    |true=>
     refine qq ?_;refine qq ?_;refine qj fun K hK=>?_;refine qm ?_;refine qg ?_;refine qp (o:=5) ?_;refine ql hH ax ?_;refine qg ?_;refine qm ?_;refine qm ?_ (hg:=wi a7);refine qg ?_ (hg:=wi a7);refine qp (o:=2) ?_ (hg:=wi a7);refine ql hH ax ?_ (hg:=wi a7);refine qm ?_ (hg:=wi a7);refine qg ?_ (hg:=wi a7);refine qp (o:=0) ?_ (hg:=wi a7);refine ql hH ax ?_ (hg:=wi a7);refine qn ?_ (hg:=wi a7);simp only[List.length_map];refine qg ?_ (hg:=wi a7);refine qt a7 ?_;refine qm ?_;refine qm ?_ (hg:=wi bc);obtain⟨_,st,aI,rfl,hH⟩:=nb (s:=s1) (by omega) 124 hH;refine qv aI ?_ (hg:=wi bc);refine qg ?_ (hg:=wi bc);refine qt bc ?_;refine qm ?_;refine qm ?_ (hg:=wi bp);obtain⟨_,st,aI,rfl,hH⟩:=nb (s:=s1) (by omega) 41 hH;refine qv aI ?_ (hg:=wi bp);refine qm ?_ (hg:=wi bp);refine qm ?_ (hg:=wi bf);refine qg ?_ (hg:=wi bf);refine qp (o:=3) ?_ (hg:=wi bf);refine ql hH ax ?_ (hg:=wi bf);refine qg ?_ (hg:=wi bf);refine ab.dO (aC rfl rfl rfl bp) rfl bf (ag rfl _) ?_;refine qg ?_ (hg:=wi bp);refine qt bp ?_;refine qe hK ?_
     by_cases fe:0<s1.o
     ·have gS:(!decide (((s1.o:Nat):Int)>0))=false:=by rw[decide_eq_true (by omega)];rfl
      refine qE rfl (by rw[gS]) ?_;refine af.exit ?_;obtain⟨_,Bh,hQ,l,rfl⟩:=oS _ hH;refine qq ?_;refine qj fun K hK=>?_;refine qm ?_;refine qv (Bh) ?_;refine qm ?_;refine qe hK ?_;refine af.ret ⟨rx,_,_,_,rfl,aj (rfl),?_⟩;exact⟨s1,hQ,cp.aw cn (hH.erase 2)⟩
     ·have gS:(!decide (((s1.o:Nat):Int)>0))=true:=by rw[decide_eq_false (by omega)];rfl
      refine qD rfl (by rw[gS]) ?_;refine af.skip ?_;refine af.block ?_;refine qj fun K hK=>?_;refine qm ?_;refine qm ?_;obtain⟨_,st,aI,s2,⟨r1,r2,r3,r4,l,rfl,r5,r6,r7⟩,hH⟩:=Ac hA ba (s:=s1) kQ hlt h2 (by omega) hH;refine qv aI ?_;refine qh (s:=1) (vs:=[_]) hH fun k41 st NL hH=>?_;dsimp only[u2,u1,u3,u4,setMany,u5,u6,D.cells,Nat.reduceAdd,aS,bh,av,au,dB] at hH;refine ab.bQ (s:=1) hH rfl (ev rfl) (ev rfl) (by exact ef) (by exact hH.rows (by exact ax)) rfl rfl rfl rfl rfl rfl rfl ⟨(Nat.le_of_ble_eq_true rfl),(Nat.le_of_ble_eq_true rfl)⟩ (fun _=>(ag rfl _)) (by simp only[List.length_cons,List.length_nil,List.length_map]<;>omega) (by exact .inr rfl) (fun Ma st hH=>?_);dsimp only[u2,u1,u3,u4,setMany,u5,u6,D.cells,Nat.reduceAdd,aS,bh,av,au,dB] at hH;refine qm ?_;refine qe hK ?_;have hH:=hH.drop 1;refine⟨mm-1,by omega,⟨s2,Ma,parts++[l],rfl,(by rw[List.map_append];exact hH),by omega,r2,by omega,r4,?_,by rw[c_,List.length_append];simp only[eP,List.length_cons,List.length_nil];omega,(fun e=>by rw[c_,List.length_append];simp only[eP,List.length_cons,List.length_nil];omega),by split<;>omega⟩⟩;intro l' gu
      rcases List.mem_append.1 gu with gu|gu
      ·exact h5 l' gu
      ·simp only[List.mem_cons,List.not_mem_nil,or_false] at gu;subst gu;exact r5
  ·have bc:decide (((s1.i:Nat):Int)<((gs.length:Nat):Int))=false:=by rw[decide_eq_false_iff_not];omega
   refine qq ?_;refine qq ?_;refine qj fun K hK=>?_;refine qm ?_;refine qg ?_;refine qp (o:=5) ?_;refine ql hH ax ?_;refine qg ?_;refine qm ?_;refine qm ?_ (hg:=wi a7);refine qg ?_ (hg:=wi a7);refine qp (o:=2) ?_ (hg:=wi a7);refine ql hH ax ?_ (hg:=wi a7);refine qm ?_ (hg:=wi a7);refine qg ?_ (hg:=wi a7);refine qp (o:=0) ?_ (hg:=wi a7);refine ql hH ax ?_ (hg:=wi a7);refine qn ?_ (hg:=wi a7);simp only[List.length_map];refine qg ?_ (hg:=wi a7);refine qt a7 ?_;refine qm ?_;refine qs ?_ (hg:=wn bc);refine qs ?_ (hg:=wn bc);refine qs ?_ (hg:=wn bc);refine qu bc ?_;refine qm ?_;refine qs ?_;refine qs ?_;refine qs ?_;refine qs ?_;refine qs ?_;refine qs ?_;refine qs ?_;refine qs ?_;refine qs ?_;refine qs ?_;refine qg ?_;refine qe hK ?_;refine qC ?_;refine af.exit ?_;obtain⟨_,Bh,hQ,l,rfl⟩:=oS _ hH;refine qq ?_;refine qj fun K hK=>?_;refine qm ?_;refine qv (Bh) ?_;refine qm ?_;refine qe hK ?_;refine af.ret ⟨rx,_,_,_,rfl,aj (rfl),?_⟩;exact⟨s1,hQ,cp.aw cn (hH.erase 2)⟩
 ·have a7:(s1.e==0)=false:=by simpa using kQ
  refine qq ?_;refine qq ?_;refine qj fun K hK=>?_;refine qm ?_;refine qg ?_;refine qp (o:=5) ?_;refine ql hH ax ?_;refine qg ?_;refine qm ?_;refine qs ?_ (hg:=wn a7);refine qs ?_ (hg:=wn a7);refine qs ?_ (hg:=wn a7);refine qs ?_ (hg:=wn a7);refine qs ?_ (hg:=wn a7);refine qs ?_ (hg:=wn a7);refine qs ?_ (hg:=wn a7);refine qs ?_ (hg:=wn a7);refine qs ?_ (hg:=wn a7);refine qs ?_ (hg:=wn a7);refine qu a7 ?_;refine qm ?_;refine qs ?_;refine qs ?_;refine qs ?_;refine qg ?_;refine qm ?_;refine qs ?_;refine qs ?_;refine qs ?_;refine qs ?_;refine qs ?_;refine qs ?_;refine qs ?_;refine qs ?_;refine qs ?_;refine qs ?_;refine qg ?_;refine qe hK ?_;refine qC ?_;refine af.exit ?_;obtain⟨_,Bh,hQ,l,rfl⟩:=oS _ hH;refine qq ?_;refine qj fun K hK=>?_;refine qm ?_;refine qv (Bh) ?_;refine qm ?_;refine qe hK ?_;refine af.ret ⟨rx,_,_,_,rfl,aj (rfl),?_⟩;exact⟨s1,hQ,cp.aw cn (hH.erase 2)⟩
theorem GM:∀m:Nat,kq m:=by
 intro m
 induction m using Nat.strongRecOn with
 |ind m ih0=>
 have hA:∀m',m'+1=m→kq m':=fun m' h=>ih0 m' (by omega);intro N k S s0 H gs bJ bT s ba he hi hg ho hH;have sP:=ba.gl;have ij:=ba.pl;refine Ev.i7 rfl RC rfl rfl rfl ?_;dsimp only[u3,u4,List.length,Nat.reduceSub,Nat.reduceAdd,w1,w2];have cp:=hH;have hH:=hH.ct;have cn:(ai .rw s0).bs=s0.bs:=rfl;generalize ai .rw s0=S2 at*;refine qq ?_;refine qj fun K hK=>?_;refine qm ?_;refine qe hK ?_;refine qq ?_;refine qj fun K hK=>?_;refine qm ?_;obtain⟨_,st,aI,s1,⟨p1,p2,p3,p4,l,rfl,p5,p6⟩,hH⟩:=BN hA ba he hi hg ho hH;refine qv aI ?_;refine qh (s:=1) (vs:=[_]) hH fun k6 st K' hH=>?_;dsimp only[u2,u1,u3,u4,setMany,u5,u6,D.cells,Nat.reduceAdd,aS,bh,av,au,dB] at hH;refine qm ?_;refine qe hK ?_;have hH:Has N S2 st (.box k (.mem 0 false (aS gs bJ s1))::.aM bJ 1 (bT.map av)::.aM (.win k6 0 0 1 1) 1 ([l].map dB)::H):=lQ hH;refine qq ?_;refine af.block ?_;refine af.loop (fun mm fr st=>∃(s1:eC) (pd:D) (parts:List (List da)),fr.clean=⟨4,[.ptr k 0 0,ml fr 1,ml fr 2,pd],[]⟩∧Has N S2 st (.box k (.mem 0 false (aS gs bJ s1))::.aM bJ 1 (bT.map av)::.aM pd 1 (parts.map dB)::H)∧(s1.o=s.o)∧(s1.g≤4)∧(s.i≤s1.i)∧(s1.i≤gs.length)∧(∀l∈parts,∀n∈l,tn n)∧(eP parts+3*parts.length≤4*(s1.i-s.i)+4)∧(1≤parts.length)∧(gs.length-s1.i≤mm)) (gs.length) ?_ ?_
 ·exact⟨s1,.win k6 0 0 1 1,[l],rfl,hH,p1,p2,p3,p4,(fun l' gu=>by simp only[List.mem_cons,List.not_mem_nil,or_false] at gu;subst gu;exact p5),by simp only[eP,List.length_cons,List.length_nil];omega,by simp,by omega⟩
 rintro mm fr st ⟨s1,pd,parts,hfr,hH,h1,h2,h3,h4,h5,h6,h8,wv⟩;rw[hfr];clear hfr;generalize ml fr=ee;clear fr
 have oS:∀st:St,Has N S2 st (.box k (.mem 0 false (aS gs bJ s1))::.aM bJ 1 (bT.map av)::.aM pd 1 (parts.map dB)::H)→∃d,Ev pv 79 [.int .i64 4,pd] st d st∧te gs s s1 d∧∃l,d=tg l:=by
  intro st hH;obtain⟨_,aI,l,rfl,j1,j2,j3⟩:=qY 4 (hH.rows dp) h5 (by omega) (by omega);refine⟨_,aI,⟨h1,h2,h3,h4,l,rfl,j1,?_⟩,l,rfl⟩
  by_cases q1:parts.length=1
  ·have:=j2 q1;omega
  ·omega
 by_cases kQ:s1.e=0
 ·have a7:(s1.e==0)=true:=by simpa using kQ
  obtain⟨k1,k2,k3,k4,k5⟩:=fY (gs:=gs) (s:=s1) (r:=124);have k5:=k5 h4;refine qq ?_;refine qq ?_;refine qj fun K hK=>?_;refine qm ?_;refine qg ?_;refine qp (o:=5) ?_;refine ql hH ax ?_;refine qg ?_;refine qm ?_;refine qm ?_ (hg:=wi a7);obtain⟨_,st,aI,rfl,hH⟩:=dz (s:=s1) (by omega) 124 hH;refine qv aI ?_ (hg:=wi a7);refine qt a7 ?_;refine qe hK ?_
  cases hb:iu gs s1.i 124 with
  |false=>
   rw[nI hb] at hH;refine qC ?_;refine af.exit ?_;obtain⟨_,Bh,hQ,l,rfl⟩:=oS _ hH;refine qq ?_;refine qj fun K hK=>?_;refine qm ?_;refine qv (Bh) ?_;refine qm ?_;refine qe hK ?_;refine af.ret ⟨rx,_,_,_,rfl,aj (rfl),?_⟩;exact⟨s1,hQ,cp.aw cn (hH.erase 2)⟩
  |true=>
   have k6:=lg hb;generalize cK gs s1 124=s2 at*;refine qB ?_;refine af.skip ?_;refine af.block ?_;refine qj fun K hK=>?_;refine qm ?_;refine qm ?_;obtain⟨_,st,aI,s3,⟨r1,r2,r3,r4,l,rfl,r5,r6⟩,hH⟩:=BN hA ba (s:=s2) (by omega) k5 (by omega) (by omega) hH;refine qv aI ?_;refine qh (s:=1) (vs:=[_]) hH fun k19 st V0 hH=>?_;dsimp only[u2,u1,u3,u4,setMany,u5,u6,D.cells,Nat.reduceAdd,aS,bh,av,au,dB] at hH;refine ab.bQ (s:=1) hH rfl (ev rfl) (ev rfl) (by exact ef) (by exact hH.rows (by exact ax)) rfl rfl rfl rfl rfl rfl rfl ⟨(Nat.le_of_ble_eq_true rfl),(Nat.le_of_ble_eq_true rfl)⟩ (fun _=>(ag rfl _)) (by simp only[List.length_cons,List.length_nil,List.length_map]<;>omega) (by exact .inr rfl) (fun Sx st hH=>?_);dsimp only[u2,u1,u3,u4,setMany,u5,u6,D.cells,Nat.reduceAdd,aS,bh,av,au,dB] at hH;refine qm ?_;refine qe hK ?_;have hH:=hH.drop 1;refine⟨mm-1,by omega,⟨s3,Sx,parts++[l],rfl,(by rw[List.map_append];exact hH),by omega,r2,by omega,r4,?_,by rw[c_,List.length_append];simp only[eP,List.length_cons,List.length_nil];omega,by rw[List.length_append];omega,by omega⟩⟩;intro l' gu
   rcases List.mem_append.1 gu with gu|gu
   ·exact h5 l' gu
   ·simp only[List.mem_cons,List.not_mem_nil,or_false] at gu;subst gu;exact r5
 ·have a7:(s1.e==0)=false:=by simpa using kQ
  refine qq ?_;refine qq ?_;refine qj fun K hK=>?_;refine qm ?_;refine qg ?_;refine qp (o:=5) ?_;refine ql hH ax ?_;refine qg ?_;refine qm ?_;refine qs ?_ (hg:=wn a7);refine qs ?_ (hg:=wn a7);refine qu a7 ?_;refine qe hK ?_;refine qC ?_;refine af.exit ?_;obtain⟨_,Bh,hQ,l,rfl⟩:=oS _ hH;refine qq ?_;refine qj fun K hK=>?_;refine qm ?_;refine qv (Bh) ?_;refine qm ?_;refine qe hK ?_;refine af.ret ⟨rx,_,_,_,rfl,aj (rfl),?_⟩;exact⟨s1,hQ,cp.aw cn (hH.erase 2)⟩
theorem vj:∀(n:Nat) (b:List UInt8),b.length≤n→(kB b).length≤b.length∧∀g∈kB b,g.2≤b.length:=by
 intro n
 induction n with
 |zero=>
  intro b hb;have:b=[]:=List.length_eq_zero_iff.1 (by omega);subst this;rw[pq];exact⟨Nat.le_refl _,fun g hg=>by cases hg⟩
 |succ n ih=>
  intro b hb
  by_cases h:b=[]
  ·subst h;rw[pq];exact⟨Nat.le_refl _,fun g hg=>by cases hg⟩
  ·have hp:=ln b;have hl:=xy h;obtain⟨h1,h2⟩:=ih (b.drop (iC b).2) (by rw[List.length_drop];omega);rw[List.length_drop] at h1 h2;rw[rF h];refine⟨by rw[List.length_cons];omega,fun g hg=>?_⟩
   rcases List.mem_cons.1 hg with rfl|hg
   ·exact hl
   ·have:=h2 g hg;omega
def bo (fr:Go.V.Fr) (k:Nat):Go.V.D:=Go.V.nth .bu fr.loc k
def LM (d:D):Prop:=∃(l:List da) (e w:Int),d=.tup [tg l,.int .i64 e,.int .i64 w]∧(∀n∈l,tn n)∧l.length≤500
theorem Aq {s0:St} {b:List UInt8} (hbl:b.length≤1048576):∃d,Ev pv 46 [.str b] s0 d s0∧LM d:=by
 obtain⟨sP,Wa⟩:=vj _ b (Nat.le_refl _);have aI:∀(st:St) (x:D),Bytes st x b→Ev pv 24 [x] st (eO (kB b)) st:=fun st x h=>B0 h hbl;generalize kB b=gs at*;refine Ev.B_ rfl RP rfl rfl rfl ?_;dsimp only[u3,u4,List.length,Nat.reduceSub,Nat.reduceAdd,w1,w2];obtain⟨bZ,hF,hH⟩:=ri s0;generalize ai .ro s0=S at*;have Gm:Arg s0.bs.length S 2 (eO gs) (gs.map bh):=Arg.pure (fun st=>dr st gs);refine qq<|qj fun K hK=>qm ?_;refine qm ?_;refine qm ?_;refine qe hK<|qq<|qq<|qj fun K hK=>qm ?_;refine ab.tw rfl rfl rfl (by dsimp only[Fr.put,u1,u2]<;>rfl) ?_;refine qg ?_;refine qe hK ?_
 by_cases Tj:120<b.length
 ·have gS:decide (((b.length:Nat):Int)>120)=true:=by rw[decide_eq_true_eq];omega
  refine qD rfl (by rw[gS]) ?_;refine qq<|qj fun K hK=>qm ?_;refine qm ?_;refine qm ?_;refine qe hK<|af.ret ⟨rx,_,_,rfl,rl bZ hH (rfl),?_⟩;exact⟨[],2,0,rfl,fun n hn=>(by cases hn),by simp⟩
 have gS:decide (((b.length:Nat):Int)>120)=false:=by rw[decide_eq_false_iff_not];omega
 refine qE rfl (by rw[gS]) ?_;refine af.skip<|qq<|qj fun K hK=>qm ?_;refine ab.Bo hH rfl rfl rfl rfl rfl (by omega) (fun _=>by dsimp only[Fr.put,u1,u2]<;>rfl) (fun k14 st NO hH=>?_);refine qv ((aI _ _ (hH.rows ax))) ?_;refine ab.go (d:=.agg [eO gs,.nul,.int .i64 0,.int .i64 0,.int .i64 0,.int .i64 0,.int .i64 0]) (st1:=_) rfl rfl rfl (by dsimp only[Fr.put,u1,u2]<;>rfl) ?_;refine qb hH fun k17 st Qz hH=>?_;refine qm ?_;refine qe hK<|qq<|qj fun K hK=>qm ?_;refine qe hK<|qq<|qq<|qj fun K hK=>qm ?_;refine qg ?_;refine qp (o:=0) ?_;refine ql hH ax ?_;refine qn ?_;simp only[List.length_map];refine qm ?_;refine qe hK ?_;have hH:Has s0.bs.length S st (.box k17 (.mem 0 false [eO gs,.nul,.int .i64 0,.int .i64 0,.int .i64 0,.int .i64 0,.int .i64 0])::.aM .nul 1 (([]:List Int).map av)::[]):=((hH.erase 1).dP 1).front bC;refine af.block<|af.loop (fun mm fr st=>∃(i a:Nat) (pd:D) (bT:List Int),fr.clean=⟨24,[bo fr 0,bo fr 1,bo fr 2,bo fr 3,bo fr 4,.ptr k17 0 0,.int .i64 (a:Nat),bo fr 7,bo fr 8,bo fr 9,bo fr 10,bo fr 11,bo fr 12,bo fr 13,bo fr 14,bo fr 15,bo fr 16,bo fr 17,bo fr 18,bo fr 19,bo fr 20,eO gs,.int .i64 (gs.length:Nat),.int .i64 (i:Nat)],[]⟩∧Has s0.bs.length S st [.box k17 (.mem 0 false [eO gs,pd,.int .i64 0,.int .i64 0,.int .i64 0,.int .i64 0,.int .i64 0]),.aM pd 1 (bT.map av)]∧(i+mm=gs.length)∧(bT.length=i)∧(a≤120*i)) (gs.length) ?_ ?_
 ·exact⟨0,0,.nul,[],rfl,hH,by omega,rfl,by omega⟩
 rintro mm fr st ⟨i,a,pd,bT,hfr,hH,hi,ij,ha⟩;rw[hfr];clear hfr;generalize bo fr=ee;clear fr;refine qq<|qj fun K hK=>qg ?_;refine qe hK ?_
 by_cases hlt:i<gs.length
 ·obtain⟨g,hg⟩:∃g,gs[i]?=some g:=⟨gs[i]'hlt,List.getElem?_eq_getElem _⟩
  have gk:(gs.map bh)[i]?=some (bh g):=by rw[List.getElem?_map,hg];rfl
  have bk:=Wa g (List.mem_of_getElem? hg);have xP:decide (((i:Nat):Int)<((gs.length:Nat):Int))=true:=by rw[decide_eq_true_eq];omega
  refine qq<|qD rfl (by rw[xP]) ?_;refine af.skip<|qq<|af.block<|qq<|qj fun K hK=>qr fun ML Bc=>?_;refine ab.cY rfl (ev rfl) (by assumption) rfl (ag rfl _) ?_;refine qa hH fun k8 st L6 hH=>?_;refine qS hH ax fun st hH=>?_;dsimp only[u2,u1,u3,u4,setMany,u5,u6,D.cells,Nat.reduceAdd,aS,bh,av] at hH;refine qe hK<|qq<|qj fun K hK=>qm ?_;refine qm ?_;refine qg ?_;refine qp (o:=1) ?_;refine ql hH bC ?_;refine qm ?_;refine qh (s:=1) (vs:=[_]) hH fun k33 st Qv hH=>?_;refine ab.bQ (s:=1) hH rfl (ev rfl) (ev rfl) (by exact ef) (by exact hH.rows (by exact ax)) rfl rfl rfl rfl rfl rfl rfl ⟨(Nat.le_of_ble_eq_true rfl),(Nat.le_of_ble_eq_true rfl)⟩ (fun _=>(ag rfl _)) (by simp only[List.length_cons,List.length_nil,List.length_map]<;>omega) (by exact .inl hF) (fun T1 st hH=>?_);dsimp only[u2,u1,u3,u4,setMany,u5,u6,D.cells,Nat.reduceAdd,aS,bh,av] at hH;refine qg ?_;refine qp (o:=1) ?_;refine qT hH dp (fun st hH=>?_) (gR:=hH.eI ef);dsimp only[u2,u1,u3,u4,setMany,u5,u6,D.cells,Nat.reduceAdd,aS,bh,av] at hH;refine qe hK<|qj fun K hK=>qm ?_;refine qp (o:=1) ?_;refine ql hH bC ?_;refine ab.Ss rfl (ev rfl) (ev rfl) (by omega) (ag rfl _) ?_;refine qm ?_;refine qe hK<|qj fun K hK=>qA ?_;refine qm ?_;refine qe hK ?_;exact⟨mm-1,by omega,⟨i+1,a+g.2,T1,bT++[((a:Nat):Int)],rfl,(by rw[List.map_append];exact hH.drop 2),by omega,by rw[List.length_append,ij];rfl,by omega⟩⟩
 ·have xP:decide (((i:Nat):Int)<((gs.length:Nat):Int))=false:=by rw[decide_eq_false_iff_not];omega
  refine qq<|qE rfl (by rw[xP]) ?_;refine af.exit ?_
  have ba:jZ gs bT:=⟨by omega,by omega⟩
  have hH:Has s0.bs.length S st (.box k17 (.mem 0 false (aS gs pd ⟨0,0,0,0,0⟩))::.aM pd 1 (bT.map av)::[]):=hH;refine qq<|qj fun K hK=>qm ?_;obtain⟨_,st,aI,s1,⟨p1,p2,p3,p4,l,rfl,p5,p6⟩,hH⟩:=GM 20 (s:=⟨0,0,0,0,0⟩) ba rfl (by simp) (by simp) rfl hH;refine qv aI ?_;refine qm ?_;refine qe hK ?_;have p6:l.length≤4*(s1.i-0)+1:=p6;refine qq<|qq<|af.ib (fun fr st=>∃(s2:eC) (tmp:List (Nat×D)),fr=⟨24,[bo fr 0,bo fr 1,bo fr 2,bo fr 3,bo fr 4,.ptr k17 0 0,bo fr 6,bo fr 7,bo fr 8,tg l,bo fr 10,bo fr 11,bo fr 12,bo fr 13,bo fr 14,bo fr 15,bo fr 16,bo fr 17,bo fr 18,bo fr 19,bo fr 20,bo fr 21,bo fr 22,bo fr 23],tmp⟩∧Has s0.bs.length S st (.box k17 (.mem 0 false (aS gs pd s2))::.aM pd 1 (bT.map av)::[])∧(True)) ?_ ?_
  ·by_cases kQ:s1.e=0
   ·have a7:(s1.e==0)=true:=by simpa using kQ
    refine qj fun K hK=>qm ?_;refine qg ?_;refine qp (o:=5) ?_;refine ql hH ax ?_;refine qg ?_;refine qm ?_;refine qm ?_ (hg:=wi a7);refine qg ?_ (hg:=wi a7);refine qp (o:=2) ?_ (hg:=wi a7);refine ql hH ax ?_ (hg:=wi a7);refine qm ?_ (hg:=wi a7);refine qg ?_ (hg:=wi a7);refine qp (o:=0) ?_ (hg:=wi a7);refine ql hH ax ?_ (hg:=wi a7);refine qn ?_ (hg:=wi a7);simp only[List.length_map];refine qg ?_ (hg:=wi a7);refine qt a7 ?_;refine qe hK ?_;refine af.cond (by rfl) (fun Ha=>?_) (fun Ha=>?_)<;>try simp only[decide_eq_true_eq,decide_eq_false_iff_not] at Ha
    ·refine qj fun K hK=>qm ?_;refine qm ?_;refine qg ?_;refine qp (o:=2) ?_;refine ql hH ax ?_;obtain⟨_,st,aI,rfl,hH⟩:=cL (s:=s1) s1.i 4 (by omega) hH;refine qv aI ?_;refine qe hK ?_;exact⟨_,_,rfl,hH,trivial⟩
    ·refine af.skip ?_;exact⟨s1,_,rfl,hH,trivial⟩
   ·have a7:(s1.e==0)=false:=by simpa using kQ
    refine qj fun K hK=>qm ?_;refine qg ?_;refine qp (o:=5) ?_;refine ql hH ax ?_;refine qg ?_;refine qm ?_;refine qs ?_ (hg:=wn a7);refine qs ?_ (hg:=wn a7);refine qs ?_ (hg:=wn a7);refine qs ?_ (hg:=wn a7);refine qs ?_ (hg:=wn a7);refine qs ?_ (hg:=wn a7);refine qs ?_ (hg:=wn a7);refine qs ?_ (hg:=wn a7);refine qs ?_ (hg:=wn a7);refine qs ?_ (hg:=wn a7);refine qu a7 ?_;refine qe hK<|qC ?_;refine af.skip ?_;exact⟨s1,_,rfl,hH,trivial⟩
  ·rintro fr st ⟨s2,tmp,hfr,hH,ht⟩;rw[hfr];clear hfr;generalize bo fr=ee;clear fr;refine qq<|qq<|qj fun K hK=>qm ?_;refine qg ?_;refine qp (o:=5) ?_;refine ql hH ax ?_;refine qg ?_;refine qe hK ?_;refine af.cond (by rfl) (fun hne=>?_) (fun hne=>?_)<;>try simp only[bne_iff_ne,bne_eq_false_iff_eq,ne_eq] at hne
   ·refine qq<|qj fun K hK=>qm ?_;refine qg ?_;refine qp (o:=5) ?_;refine ql hH ax ?_;refine qm ?_;refine qg ?_;refine qp (o:=6) ?_;refine ql hH ax ?_;refine qm ?_;refine qm ?_;refine qm ?_;refine qe hK<|af.ret ⟨rx,_,_,rfl,rl bZ hH (rfl),?_⟩;exact⟨[],_,_,rfl,fun n hn=>(by cases hn),by simp⟩
   ·refine af.skip<|qq<|qj fun K hK=>qm ?_;refine qm ?_;refine qm ?_;refine qm ?_;refine qe hK<|af.ret ⟨rx,_,_,rfl,rl bZ hH (rfl),?_⟩;exact⟨l,0,0,rfl,p5,by omega⟩
def rV (n:da):Bool:=((n.op==2)||((n.rs.length:Nat):Int)==0) &&((n.op==5)||((n.mn==0) &&(n.mx==0) &&!n.lz)) &&((n.op==6)||(n.cap==0))
noncomputable def eE (n:da) (g:Int):Int×Bool:=
 if rV n=false then(0,false)
 else if n.op=1∨n.op=7∨n.op=8 then(0,n.kids==0)
 else if n.op=2 then(0,(n.kids==0) &&eF n.rs)
 else if n.op=3∨n.op=4 then(n.kids,decide (n.kids≥2))
 else if n.op=5 then(1,(n.kids==1) &&decide (n.mn≥0) &&decide (n.mn≤30) &&((n.mx==-1)||(decide (n.mx≥n.mn) &&decide (n.mx≤30))))
 else if n.op=6 then(1,(n.kids==1) &&(n.cap==g+1) &&decide (n.cap≤4))
 else(0,false)
def iG (h:Nat→Nat→Option (Nat×Nat)):Nat→Nat→Nat→Option (Nat×Nat)
 |0,at_,g=>some (at_,g)
 |k+1,at_,g=>match h at_ g with
  |some r=>iG h k r.1 r.2
  |none=>none
noncomputable def gA (l:List da):Nat→Nat→Nat→Option (Nat×Nat)
 |0,_,_=>none
 |f+1,at_,g=>match l[at_]? with
  |none=>none
  |some n=>if(eE n (g:Nat)).2=true then iG (gA l f) (eE n (g:Nat)).1.toNat (at_+1) (if n.op=6 then g+1 else g) else none
theorem tA {n:da} {g:Nat} (h:(eE n (g:Nat)).2=true):ud n (eE n (g:Nat)).1.toNat∧0≤(eE n (g:Nat)).1∧(n.op=6→n.cap=g+1∧n.cap≤4):=by
 unfold eE at h⊢;unfold ud
 by_cases h0:rV n=false
 ·rw[if_pos h0] at h;cases h
 rw[if_neg h0] at h⊢
 by_cases h1:n.op=1∨n.op=7∨n.op=8
 ·rw[if_pos h1] at h⊢;simp only[beq_iff_eq] at h;exact⟨⟨h,.inl ⟨h1,rfl⟩⟩,Int.le_refl _,fun h6=>by omega⟩
 rw[if_neg h1] at h⊢
 by_cases h2:n.op=2
 ·rw[if_pos h2] at h⊢;simp only[Bool.and_eq_true,beq_iff_eq] at h;exact⟨⟨h.1,.inr (.inl ⟨h2,rfl⟩)⟩,Int.le_refl _,fun h6=>by omega⟩
 rw[if_neg h2] at h⊢
 by_cases h3:n.op=3∨n.op=4
 ·rw[if_pos h3] at h⊢;simp only[decide_eq_true_eq] at h;exact⟨⟨by simp only;omega,.inr (.inr (.inl ⟨h3,by simp only;omega⟩))⟩,by simp only;omega,fun h6=>by omega⟩
 rw[if_neg h3] at h⊢
 by_cases h5:n.op=5
 ·rw[if_pos h5] at h⊢;simp only[Bool.and_eq_true,Bool.or_eq_true,beq_iff_eq,decide_eq_true_eq] at h;exact⟨⟨by simp only;omega,.inr (.inr (.inr (.inl ⟨h5,by simp only;rfl,by omega,by omega,by omega⟩)))⟩,by simp only;omega,fun h6=>by omega⟩
 rw[if_neg h5] at h⊢
 by_cases h6:n.op=6
 ·rw[if_pos h6] at h⊢;simp only[Bool.and_eq_true,beq_iff_eq,decide_eq_true_eq] at h;exact⟨⟨by simp only;omega,.inr (.inr (.inr (.inr ⟨h6,by simp only;rfl,by omega,by omega⟩)))⟩,by simp only;omega,fun _=>⟨h.1.2,h.2⟩⟩
 rw[if_neg h6] at h;cases h
theorem eS.cons {α:Type} {L M:List α} {a:α} {at_:Nat} (h:L[at_]?=some a) (h2:eS L (at_+1) M):eS L at_ (a::M):=by
 obtain⟨post,h2⟩:=h2;refine⟨post,?_⟩;have h3:L[at_]'(bz h)=a:=Option.some.inj ((List.getElem?_eq_getElem _).symm.trans h);rw[List.drop_eq_getElem_cons (bz h),h2,h3];rfl
theorem eS.append {α:Type} {L M M':List α} {at_:Nat} (h:eS L at_ M) (h2:eS L (at_+M.length) M'):eS L at_ (M++M'):=by
 obtain⟨post,h⟩:=h;obtain⟨MK,h2⟩:=h2;refine⟨MK,?_⟩;rw[←List.drop_drop,h,List.drop_left] at h2;rw[h,h2,List.append_assoc]
theorem eS.none {α:Type} (L:List α) (at_:Nat):eS L at_ []:=⟨_,rfl⟩
theorem qX {l:List da} {h:Nat→Nat→Option (Nat×Nat)} (ih:∀at_ g r,h at_ g=some r→∃t:Tr,t.ok∧eS l at_ t.flat∧r.1=at_+t.flat.length):∀k at_ g r,iG h k at_ g=some r→∃ts:bA,ts.len=k∧ts.ok∧eS l at_ ts.flat∧r.1=at_+ts.flat.length
 |0,at_,g,r,e=>by
  simp only[iG,Option.some.injEq] at e;subst e;exact⟨.nil,rfl,trivial,eS.none _ _,by simp[bA.flat]⟩
 |k+1,at_,g,r,e=>by
  unfold iG at e
  cases hq:h at_ g with
  |none=>rw[hq] at e;cases e
  |some q=>
   rw[hq] at e;obtain⟨t,t1,t2,t3⟩:=ih _ _ _ hq;obtain⟨ts,u1,u2,u3,u4⟩:=qX ih k _ _ _ e;rw[t3] at u3 u4;exact⟨.cons t ts,by simp[bA.len,u1],by simp only[bA.ok];exact⟨t1,u2⟩,by simp only[bA.flat];exact t2.append u3,by rw[u4];simp only[bA.flat,List.length_append];omega⟩
theorem tY {l:List da}:∀f at_ g r,gA l f at_ g=some r→∃t:Tr,t.ok∧eS l at_ t.flat∧r.1=at_+t.flat.length
 |0,_,_,_,e=>by simp[gA] at e
 |f+1,at_,g,r,e=>by
  unfold gA at e
  cases hn:l[at_]? with
  |none=>rw[hn] at e;cases e
  |some n=>
   rw[hn] at e;simp only at e
   split at e
   ·rename_i hs;obtain⟨ts,u1,u2,u3,u4⟩:=qX (tY f) _ _ _ _ e;have:=(tA hs).1;rw[←u1] at this;exact⟨.mk n ts,by simp only[Tr.ok];exact⟨this,u2⟩,by simp only[Tr.flat];exact eS.cons hn u3,by rw[u4];simp only[Tr.flat,List.length_cons];omega⟩
   ·cases e
noncomputable def ft (l:List da):Bool:=(decide (1≤l.length) &&decide (l.length≤480)) &&(match gA l 241 0 0 with|some r=>decide (r.1=l.length)|none=>false)
theorem oh {l:List da} (h:ft l=true):∃t:Tr,t.ok∧t.flat=l:=by
 unfold ft at h;simp only[Bool.and_eq_true] at h;obtain⟨_,h⟩:=h
 split at h
 ·rename_i r hr;obtain⟨t,h1,⟨post,h2⟩,h3⟩:=tY _ _ _ _ hr;rw[decide_eq_true_eq] at h;refine⟨t,h1,?_⟩;rw[List.drop_zero] at h2;have h4:=congrArg List.length h2;rw[List.length_append] at h4;have h5:post=[]:=List.length_eq_zero_iff.1 (by omega);rw[h2,h5,List.append_nil]
 ·cases h
noncomputable def cw (l:List da):Tr:=@dite _ (∃t:Tr,t.ok∧t.flat=l) (Classical.propDecidable _) (fun h=>Classical.choose h) (fun _=>.mk ⟨0,.nul,[],0,0,false,0,0⟩ .nil)
theorem rI {l:List da} (h:ft l=true):(cw l).ok∧(cw l).flat=l:=by
 unfold cw;rw[dif_pos (oh h)];exact Classical.choose_spec (oh h)
theorem GI {n:da} {k s:Nat}:min (bH n (min s 401) k) 401=min (bH n s k) 401:=by
 by_cases hs:s≤401
 ·rw[Nat.min_eq_left hs]
 ·have hx:min s 401=401:=by omega
  rw[hx];unfold bH
  split
  ·rfl
  ·split
   ·omega
   ·split
    ·omega
    ·split
     ·split
      ·omega
      ·by_cases h0:n.mn.toNat=0
       ·rw[h0]
        by_cases hd:n.mx.toNat-0=0
        ·rw[hd];simp
        ·have h1:=Nat.le_mul_of_pos_left (401+1) (show 0<n.mx.toNat-0 by omega);have h2:=Nat.le_mul_of_pos_left (s+1) (show 0<n.mx.toNat-0 by omega);omega
       ·have h1:=Nat.le_mul_of_pos_left 401 (show 0<n.mn.toNat by omega);have h2:=Nat.le_mul_of_pos_left s (show 0<n.mn.toNat by omega);omega
     ·omega
def dY (t:Tr) (b r:Nat):List aL:=cJ 4 0 0 []::(aQ t (b+1)++[cJ 4 1 0 [],cJ 7 (r:Nat) 0 []])
theorem j7 {t:Tr} {b r:Nat} (h:t.ok):(dY t b r).length=t.sz+3:=by
 unfold dY;rw[List.length_cons,List.length_append,ck t _ h];rfl
structure rG where
 code:List aL
 az:List Int
 e:Int
 w:Int
noncomputable def ec:List (List da)→Nat→List aL→List Int→rG
 |[],_,c,s=>⟨c,s,0,0⟩
 |l::ls,r,c,s=>if ft l=false then⟨[],[],1,(r:Nat)⟩ else if 400<c.length+min (cw l).sz 401+3 then⟨[],[],12,(r:Nat)⟩ else ec ls (r+1) (c++dY (cw l) c.length r) (s++[((c.length:Nat):Int)])
noncomputable def br (rules:List (List da)):rG:=if 8<rules.length then⟨[],[],13,8⟩ else ec rules 0 [] []
def nN (code:List aL) (az:List Int):Pg:=⟨.sl ((code.map aB).map (jr 4)),code,AZ az,az⟩
def iO (i:aL):Prop:=i.rd=.sl ((i.rs.map au).map (jr 2))∧i.rs.length≤1048576
theorem lq (op x y:Int):iO (cJ op x y []):=⟨rfl,by simp[cJ]⟩
theorem MP (op x y:Int) {rs:List Rg} (h:rs.length≤1048576):iO (cJ op x y rs):=⟨rfl,h⟩
theorem zV (s o:Nat) (lz:Bool):iO (l3 s o lz):=by unfold l3;split<;>exact lq _ _ _
theorem GX (e:Nat):iO (ly e):=lq _ _ _
theorem wj {code:List aL} (h:∀i∈code,iO i):∀e∈code.map aB,∀d∈e,b5 d=true:=by
 intro e he d hd;obtain⟨q,hq,rfl⟩:=List.mem_map.1 he;have hr:=(h q hq).1;simp only[aB,hr,List.mem_cons,List.not_mem_nil,or_false] at hd
 rcases hd with rfl|rfl|rfl|rfl<;>rfl
theorem F3 (code:List aL):∀e∈code.map aB,e.length=4:=by
 intro e he;obtain⟨q,_,rfl⟩:=List.mem_map.1 he;rfl
theorem Ap {code:List aL} {az:List Int} (h:∀i∈code,iO i) (h1:code.length≤1048576) (h2:az.length≤1048576):(nN code az).ok:=by
 refine⟨e_.frozen (F3 code) (wj h),uy _,fun i hi=>?_,h1,h2⟩;obtain⟨h3,h4⟩:=h i hi;refine⟨?_,h4⟩;rw[h3];exact e_.frozen (j9 _) (dN _)
theorem vN {c:Nat→List aL} {z:Nat} (hc:∀b,∀i∈c b,iO i):∀k b,∀i∈eG c z k b,iO i
 |0,b,i,hi=>by cases hi
 |k+1,b,i,hi=>by
  simp only[eG] at hi
  rcases List.mem_append.1 hi with hi|hi
  ·exact hc b i hi
  ·exact vN hc k _ i hi
theorem Av {sp:Nat→aL} {c:Nat→List aL} {z:Nat} (hs:∀s,iO (sp s)) (hc:∀b,∀i∈c b,iO i):∀k b,∀i∈ez sp c z k b,iO i
 |0,b,i,hi=>by cases hi
 |k+1,b,i,hi=>by
  simp only[ez] at hi
  rcases List.mem_cons.1 hi with rfl|hi
  ·exact hs _
  ·rcases List.mem_append.1 hi with hi|hi
   ·exact hc _ i hi
   ·exact Av hs hc k _ i hi
mutual
theorem nT:∀(t:Tr) (b:Nat),(∀n∈t.flat,n.rs.length≤1048576)→∀i∈aQ t b,iO i
 | .mk n ks,b,h,i,hi=>by
  simp only[Tr.flat] at h;have hn:=h n (List.mem_cons_self ..);have hk:∀n∈ks.flat,n.rs.length≤1048576:=fun m hm=>h m (List.mem_cons_of_mem _ hm);have hc:=fun b=>BO ks b hk;have ha:=fun jp (hj:iO jp) b=>BX jp hj ks b hk;simp only[aQ] at hi
  split at hi
  ·simp only[List.mem_cons,List.not_mem_nil,or_false] at hi;subst hi;exact MP _ _ _ hn
  split at hi
  ·simp only[List.mem_cons,List.not_mem_nil,or_false] at hi;subst hi;exact lq _ _ _
  split at hi
  ·simp only[List.mem_cons,List.not_mem_nil,or_false] at hi;subst hi;exact lq _ _ _
  split at hi
  ·exact hc b i hi
  split at hi
  ·exact ha _ (GX _) b i hi
  split at hi
  ·unfold l8 at hi
   split at hi
   ·rcases List.mem_append.1 hi with hi|hi
    ·exact vN hc _ _ i hi
    ·rcases List.mem_cons.1 hi with rfl|hi
     ·exact zV _ _ _
     ·rcases List.mem_append.1 hi with hi|hi
      ·exact hc _ i hi
      ·simp only[List.mem_cons,List.not_mem_nil,or_false] at hi;subst hi;exact GX _
   ·rcases List.mem_append.1 hi with hi|hi
    ·exact vN hc _ _ i hi
    ·exact Av (fun s=>zV _ _ _) hc _ _ i hi
  split at hi
  ·rcases List.mem_cons.1 hi with rfl|hi
   ·exact lq _ _ _
   ·rcases List.mem_append.1 hi with hi|hi
    ·exact hc _ i hi
    ·simp only[List.mem_cons,List.not_mem_nil,or_false] at hi;subst hi;exact lq _ _ _
  ·cases hi
theorem BO:∀(ts:bA) (b:Nat),(∀n∈ts.flat,n.rs.length≤1048576)→∀i∈eZ ts b,iO i
 | .nil,b,_,i,hi=>by simp[eZ] at hi
 | .cons t ts,b,h,i,hi=>by
  simp only[bA.flat] at h;simp only[eZ] at hi
  rcases List.mem_append.1 hi with hi|hi
  ·exact nT t b (fun n hn=>h n (List.mem_append_left _ hn)) i hi
  ·exact BO ts _ (fun n hn=>h n (List.mem_append_right _ hn)) i hi
theorem BX (jp:aL) (hj:iO jp):∀(ts:bA) (b:Nat),(∀n∈ts.flat,n.rs.length≤1048576)→∀i∈dX jp ts b,iO i
 | .nil,b,_,i,hi=>by simp[dX] at hi
 | .cons t ts,b,h,i,hi=>by
  simp only[bA.flat] at h;have h1:∀n∈t.flat,n.rs.length≤1048576:=fun n hn=>h n (List.mem_append_left _ hn);have h2:∀n∈ts.flat,n.rs.length≤1048576:=fun n hn=>h n (List.mem_append_right _ hn);simp only[dX] at hi
  split at hi
  ·exact nT t b h1 i hi
  ·rcases List.mem_cons.1 hi with rfl|hi
   ·exact zV _ _ _
   ·rcases List.mem_append.1 hi with hi|hi
    ·exact nT t _ h1 i hi
    ·rcases List.mem_cons.1 hi with rfl|hi
     ·exact hj
     ·exact BX jp hj ts _ h2 i hi
end
theorem Cu {t:Tr} {b r:Nat} (h:∀n∈t.flat,n.rs.length≤1048576):∀i∈dY t b r,iO i:=by
 intro i hi;unfold dY at hi
 rcases List.mem_cons.1 hi with rfl|hi
 ·exact lq _ _ _
 ·rcases List.mem_append.1 hi with hi|hi
  ·exact nT t _ h i hi
  ·simp only[List.mem_cons,List.not_mem_nil,or_false] at hi
   rcases hi with rfl|rfl
   ·exact lq _ _ _
   ·exact lq _ _ _
end Go.Proofs.YtbdilgkfnacahaaGreat
