import Derived.Test.YtbdnabmmlbiomaaGreatWGQa
import Derived.Test.YtbdnabmmlbiomaaGreatWGUb
set_option linter.unusedSimpArgs false
set_option maxRecDepth 100000
set_option maxHeartbeats 4000000
set_option linter.unusedVariables false
namespace Go.Proofs.YtbdnabmmlbiomaaGreat
open Go.V Go
def yB (fr:Go.V.Fr) (k:Nat):Go.V.D:=Go.V.nth .bD fr.loc k
theorem pF {gs:List (Nat×Nat)} {s:fz} {r:Int} (h:lh gs s.i r=false):dq gs s r=s:=by
 unfold dq;rw[if_neg (by rw[h];simp)]
theorem mP {gs:List (Nat×Nat)} {s:fz} {r:Int} (h:lh gs s.i r=true):(dq gs s r).i=s.i+1:=by
 unfold dq;rw[if_pos h]
theorem L0 {m:Nat} (hA:∀m',m'+1=m→l7 m') {N k:Nat} {S s0:St} {H:List bC} {gs:List (Nat×Nat)} {bK:D} {a8:List Int} {s:fz} (bd:lF gs a8) (he:s.e=0) (hi:s.i<gs.length) (hg:s.g≤4) (ho:s.o+m=20) (hH:Has N S s0 (.box k (.mem 0 false (aX gs bK s))::.aM bK 1 (a8.map aq)::H)):
  ∃d ah,Ev pv 151 [.ptr k 0 0] s0 d ah∧∃(s':fz),jE gs s s' d 2∧Has N S ah (.box k (.mem 0 false (aX gs bK s'))::.aM bK 1 (a8.map aq)::H):=by
 have pR:=bd.gl;have fU:=bd.pl;refine Ev.iC rfl Ur rfl rfl rfl ?_;dsimp only[u3,u4,List.length,Nat.reduceSub,Nat.reduceAdd,w1,w2];have cQ:=hH;have hH:=hH.cV;have cG:(ai .rw s0).bs=s0.bs:=rfl;generalize ai .rw s0=S2 at*;have DT:Arg N S2 2 (cB gs) (gs.map a7):=Arg.pure (fun st=>dt st gs)
 obtain⟨g,Lz⟩:∃g,gs[s.i]?=some g:=⟨gs[s.i]'hi,List.getElem?_eq_getElem _⟩
 have iv:(gs.map a7)[s.i]?=some (a7 g):=by rw[List.getElem?_map,Lz];rfl
 have hwr:∀(st:St),Has N S2 st (.box k (.mem 0 false (aX gs bK s))::.aM bK 1 (a8.map aq)::H)→∃d ah,Ev pv 100 [.ptr k 0 0,.int .i64 (s.i:Nat),.int .i64 4] st d ah∧d=.sl []∧∃s4,jE gs s s4 (.sl []) 2∧Has N S2 ah (.box k (.mem 0 false (aX gs bK s4))::.aM bK 1 (a8.map aq)::H):=by
  intro st hH;obtain⟨d,ah,aN,h6,hH⟩:=du (s:=s) s.i 4 (by omega) hH;obtain⟨w1,w2,w3,w4⟩:=dG (a8:=a8) (s:=s) (i:=s.i) (e:=4) he (by decide);exact⟨d,ah,aN,h6,_,gF w3 (by omega) (by omega) (by omega) w1,hH⟩
 have kr:∀(st:St) (s1:fz) (op:Int) (w:D) (a:List Rg) (kk:Nat),(w=bT a∨w=.nul∧a=[])→a.length≤1048576→s1.o=s.o→s1.g≤4→s.i<s1.i→s1.i≤gs.length→S2.bs.length≤kk→Has N S2 st (.aM (.win kk 0 0 1 7) 7 [[.int .i64 op,w,.int .i64 0,.int .i64 0,.bool false,.int .i64 0,.int .i64 0]]::.box k (.mem 0 false (aX gs bK s1))::.aM bK 1 (a8.map aq)::H)→
   ∃d ah,cX .rw false s0 st (.win kk 0 0 1 7)=some (d,ah)∧∃(s':fz),jE gs s s' d 2∧Has N S ah (.box k (.mem 0 false (aX gs bK s'))::.aM bK 1 (a8.map aq)::H):=by
  intro st s1 op w a kk hw ha h1 h2 h3 h4 hk hH;have hfz:=jk hH au (L:=s0.bs.length) hw (fun k hk=>by simp only[D.ref] at hk;rw[←cG];omega);refine⟨_,_,ak hfz,s1,⟨h1,h2,by omega,h4,_,rfl,Dl ha (by omega),by simp,?_⟩,cQ.aA cG (hH.drop 1)⟩
  by_cases he:s1.e=0
  ·exact .inr ⟨he,by simp only[List.length_cons,List.length_nil];omega⟩
  ·exact .inl he
 refine qq<|qj fun K hK=>qm ?_;refine qe hK<|qq<|qj fun K hK=>qm ?_;refine qg ?_;refine qp (o:=2) ?_;refine ql hH au ?_;refine qm ?_;refine qe hK<|qq<|qq<|qj fun K hK=>qm ?_;refine qm ?_;obtain⟨_,st,aN,rfl,hH⟩:=zo (s:=s) s.i hi hH;refine qv aN ?_;refine qe hK ?_;refine qc (fun hb=>?_) (fun hb=>?_)<;>try simp only[cs] at hb
 ·refine qq<|qj fun K hK=>qm ?_;refine qm ?_;obtain⟨_,st,aN,rfl,s4,hN,hH⟩:=hwr _ hH;refine qv aN ?_;refine qm ?_;refine qe hK<|ag.ret ⟨rx,_,_,_,rfl,ak (rfl),?_⟩;exact⟨s4,hN,cQ.aA cG hH⟩
 refine ag.skip<|qq<|qj fun K hK=>qm ?_;refine qg ?_;refine qp (o:=0) ?_;refine ql hH au ?_;refine qm ?_;refine qr fun VH Qw=>?_;refine qf (fo:=0) fun p23 WN=>?_;refine qR ?_;refine qm ?_;refine qe hK<|qq<|qj fun K hK=>qm ?_;refine qe hK<|ag.block<|qq<|qj fun K hK=>qg ?_;refine qm ?_;refine qe hK ?_;refine ag.cond (by rfl) (fun Y6=>?_) (fun Y6=>?_)<;>try simp only[beq_iff_eq,beq_eq_false_iff_ne,ne_eq] at Y6
 ·refine qq<|qj fun K hK=>qm ?_;obtain⟨_,st,aN,s4,⟨p1,p2,p3,p4,l,rfl,p5,p6,p7⟩,hH⟩:=D8 hA bd he hi hg ho hH;refine qv aN ?_;refine qm ?_;refine qe hK<|ag.ret ⟨rx,_,_,_,rfl,ak (rfl),?_⟩;exact⟨s4,⟨p1,p2,p3,p4,l,rfl,p5,p6,p7⟩,cQ.aA cG hH⟩
 refine qq<|qj fun K hK=>qg ?_;refine qm ?_;refine qe hK ?_;refine ag.cond (by rfl) (fun Rv=>?_) (fun Rv=>?_)<;>try simp only[beq_iff_eq,beq_eq_false_iff_ne,ne_eq] at Rv
 ·refine qq<|qj fun K hK=>qm ?_;obtain⟨_,st,aN,s4,⟨p1,p2,p3,p4,l,rfl,p5,p6,p7⟩,hH⟩:=Ep bd he hi hg hH;refine qv aN ?_;refine qm ?_;refine qe hK<|ag.ret ⟨rx,_,_,_,rfl,ak (rfl),?_⟩;exact⟨s4,⟨p1,p2,p3,p4,l,rfl,p5,p6,p7⟩,cQ.aA cG hH⟩
 refine qq<|qj fun K hK=>qg ?_;refine qm ?_;refine qe hK ?_;refine ag.cond (by rfl) (fun Y3=>?_) (fun Y3=>?_)<;>try simp only[beq_iff_eq,beq_eq_false_iff_ne,ne_eq] at Y3
 ·refine qq<|qj fun K hK=>qm ?_;obtain⟨_,st,aN,d1,b,s4,rfl,⟨p1,p2,p3,p4,p5,p6⟩,hH⟩:=zO (s:=s) bd he hi hH;refine qv aN ?_;refine qm ?_;refine qg ?_;refine qg ?_;refine qm ?_;refine qm ?_;refine qe hK ?_
  have TM:∀(st:St) (w:D) (a:List Rg) (kk:Nat),(w=bT a∨w=.nul∧a=[])→a.length≤8→S2.bs.length≤kk→Has N S2 st (.aM (.win kk 0 0 1 7) 7 [[.int .i64 2,w,.int .i64 0,.int .i64 0,.bool false,.int .i64 0,.int .i64 0]]::.box k (.mem 0 false (aX gs bK s4))::.aM bK 1 (a8.map aq)::H)→∃d ah,cX .rw false s0 st (.win kk 0 0 1 7)=some (d,ah)∧∃(s':fz),jE gs s s' d 2∧Has N S ah (.box k (.mem 0 false (aX gs bK s'))::.aM bK 1 (a8.map aq)::H):=by
   intro st w a kk hw ha hk hH;have hfz:=jk hH au (L:=s0.bs.length) hw (fun k hk=>by simp only[D.ref] at hk;rw[←cG];omega);refine⟨_,_,ak hfz,s4,⟨p1,by omega,by omega,p4,_,rfl,Dl (by omega) (by omega),by simp,?_⟩,cQ.aA cG (hH.drop 1)⟩
   rcases p6 with p6|⟨p6,p7,_⟩
   ·exact .inl p6
   ·exact .inr ⟨p6,by simp only[List.length_cons,List.length_nil];omega⟩
  rcases p5 with rfl|⟨a,rfl,ha⟩
  ·refine qq<|qj fun K hK=>qm ?_;refine aa.gu (qs:=[(0,_),(1,_)]) rfl rfl rfl rfl ⟨rfl,(ev rfl),(by rfl),rfl,(ev rfl),(by rfl),trivial⟩ (by intro q hq;simp only[List.mem_cons,List.not_mem_nil,or_false] at hq;rcases hq with rfl|rfl<;>exact⟨rfl,by exact Nat.le_of_ble_eq_true rfl⟩) (by show List.foldl _ [_,_,_,_,_,_,_] _=_;dsimp only[List.foldl_cons,List.foldl_nil,u2,u1]<;>rfl) (ab rfl _) ?_;refine qh (s:=7) (vs:=[_]) hH fun k54 st QJ hH=>?_;dsimp only[u2,u1,u3,u4,setMany,u5,u6,D.cells,Nat.reduceAdd,aX,a7,aq,ay,bt] at hH;refine qm ?_;refine qe hK ?_;obtain⟨d',ah,sN,ib⟩:=TM _ .nul [] k54 (.inr ⟨rfl,rfl⟩) (by simp) QJ hH;refine ag.ret ⟨rx,_,d',ah,rfl,sN,ib⟩
  ·refine qq<|qj fun K hK=>qm ?_;refine aa.gu (qs:=[(0,_),(1,_)]) rfl rfl rfl rfl ⟨rfl,(ev rfl),(by rfl),rfl,(ev rfl),(by rfl),trivial⟩ (by intro q hq;simp only[List.mem_cons,List.not_mem_nil,or_false] at hq;rcases hq with rfl|rfl<;>exact⟨rfl,by exact Nat.le_of_ble_eq_true rfl⟩) (by show List.foldl _ [_,_,_,_,_,_,_] _=_;dsimp only[List.foldl_cons,List.foldl_nil,u2,u1]<;>rfl) (ab rfl _) ?_;refine qh (s:=7) (vs:=[_]) hH fun k54 st QJ hH=>?_;dsimp only[u2,u1,u3,u4,setMany,u5,u6,D.cells,Nat.reduceAdd,aX,a7,aq,ay,bt] at hH;refine qm ?_;refine qe hK ?_;obtain⟨d',ah,sN,ib⟩:=TM _ (bT a) a k54 (.inl rfl) ha QJ hH;refine ag.ret ⟨rx,_,d',ah,rfl,sN,ib⟩
 refine qq<|qj fun K hK=>qg ?_;refine qm ?_;refine qe hK ?_;refine ag.cond (by rfl) (fun Y4=>?_) (fun Y4=>?_)<;>try simp only[beq_iff_eq,beq_eq_false_iff_ne,ne_eq] at Y4
 ·refine qq<|qj fun K hK=>qm ?_;refine qg ?_;refine qp (o:=2) ?_;refine ql hH au ?_;refine qA ?_;refine qg ?_;refine qp (o:=2) ?_;refine qT hH au fun st hH=>?_;dsimp only[u2,u1,u3,u4,setMany,u5,u6,D.cells,Nat.reduceAdd,aX,a7,aq,ay,bt] at hH;refine qe hK ?_;obtain⟨_,Xw,a,rfl,hla⟩:=Q_ (s0:=st);refine qq<|qj fun K hK=>qv (Xw) ?_;refine aa.gu (qs:=[(0,_),(1,_)]) rfl rfl rfl rfl ⟨rfl,(ev rfl),(by rfl),rfl,(ev rfl),(by rfl),trivial⟩ (by intro q hq;simp only[List.mem_cons,List.not_mem_nil,or_false] at hq;rcases hq with rfl|rfl<;>exact⟨rfl,by exact Nat.le_of_ble_eq_true rfl⟩) (by show List.foldl _ [_,_,_,_,_,_,_] _=_;dsimp only[List.foldl_cons,List.foldl_nil,u2,u1]<;>rfl) (ab rfl _) ?_;refine qh (s:=7) (vs:=[_]) hH fun k66 st Tp hH=>?_;refine qm ?_;refine qe hK ?_;obtain⟨d',ah,sN,ib⟩:=kr _ {s with i:=s.i+1} 2 (bT a) a k66 (.inl rfl) (by omega) rfl hg (by show s.i<s.i+1;omega) (by show s.i+1≤_;omega) Tp hH;refine ag.ret ⟨rx,_,d',ah,rfl,sN,ib⟩
 refine qq<|qj fun K hK=>qg ?_;refine qm ?_;refine qe hK ?_;refine ag.cond (by rfl) (fun Y2=>?_) (fun Y2=>?_)<;>try simp only[beq_iff_eq,beq_eq_false_iff_ne,ne_eq] at Y2
 ·refine qq<|qj fun K hK=>qm ?_;refine qg ?_;refine qp (o:=2) ?_;refine ql hH au ?_;refine qA ?_;refine qg ?_;refine qp (o:=2) ?_;refine qT hH au fun st hH=>?_;dsimp only[u2,u1,u3,u4,setMany,u5,u6,D.cells,Nat.reduceAdd,aX,a7,aq,ay,bt] at hH;refine qe hK<|qq<|qj fun K hK=>aa.go (d:=.agg [.int .i64 7,.nul,.int .i64 0,.int .i64 0,.bool false,.int .i64 0,.int .i64 0]) (st1:=_) rfl rfl rfl (ab rfl _) ?_;refine qh (s:=7) (vs:=[_]) hH fun k77 st To hH=>?_;refine qm ?_;refine qe hK ?_;obtain⟨d',ah,sN,ib⟩:=kr _ {s with i:=s.i+1} 7 .nul [] k77 (.inr ⟨rfl,rfl⟩) (by simp) rfl hg (by show s.i<s.i+1;omega) (by show s.i+1≤_;omega) To hH;refine ag.ret ⟨rx,_,d',ah,rfl,sN,ib⟩
 refine qq<|qj fun K hK=>qg ?_;refine qm ?_;refine qe hK ?_;refine ag.cond (by rfl) (fun Y7=>?_) (fun Y7=>?_)<;>try simp only[beq_iff_eq,beq_eq_false_iff_ne,ne_eq] at Y7
 ·refine qq<|qj fun K hK=>qm ?_;refine qg ?_;refine qp (o:=2) ?_;refine ql hH au ?_;refine qA ?_;refine qg ?_;refine qp (o:=2) ?_;refine qT hH au fun st hH=>?_;dsimp only[u2,u1,u3,u4,setMany,u5,u6,D.cells,Nat.reduceAdd,aX,a7,aq,ay,bt] at hH;refine qe hK<|qq<|qj fun K hK=>aa.go (d:=.agg [.int .i64 8,.nul,.int .i64 0,.int .i64 0,.bool false,.int .i64 0,.int .i64 0]) (st1:=_) rfl rfl rfl (ab rfl _) ?_;refine qh (s:=7) (vs:=[_]) hH fun k88 st Tm hH=>?_;refine qm ?_;refine qe hK ?_;obtain⟨d',ah,sN,ib⟩:=kr _ {s with i:=s.i+1} 8 .nul [] k88 (.inr ⟨rfl,rfl⟩) (by simp) rfl hg (by show s.i<s.i+1;omega) (by show s.i+1≤_;omega) Tm hH;refine ag.ret ⟨rx,_,d',ah,rfl,sN,ib⟩
 refine qq<|qq<|qj fun K hK=>qg ?_;refine qm ?_;refine qe hK ?_
 by_cases YN:((g.1:Nat):Int)=42
 ·refine qD rfl (by simp[YN]) ?_;refine ag.skip<|qD rfl (by simp[YN]) ?_;refine qq<|qj fun K hK=>qm ?_;refine qm ?_;obtain⟨_,st,aN,rfl,s4,hN,hH⟩:=hwr _ hH;refine qv aN ?_;refine qm ?_;refine qe hK<|ag.ret ⟨rx,_,_,_,rfl,ak (rfl),?_⟩;exact⟨s4,hN,cQ.aA cG hH⟩
 refine qE rfl (by simp[YN]) ?_;refine qq<|qj fun K hK=>qg ?_;refine qm ?_;refine qe hK ?_
 by_cases YM:((g.1:Nat):Int)=43
 ·refine qD rfl (by simp[YM]) ?_;refine ag.skip<|qD rfl (by simp[YM]) ?_;refine qq<|qj fun K hK=>qm ?_;refine qm ?_;obtain⟨_,st,aN,rfl,s4,hN,hH⟩:=hwr _ hH;refine qv aN ?_;refine qm ?_;refine qe hK<|ag.ret ⟨rx,_,_,_,rfl,ak (rfl),?_⟩;exact⟨s4,hN,cQ.aA cG hH⟩
 refine qE rfl (by simp[YM]) ?_;refine qq<|qj fun K hK=>qg ?_;refine qm ?_;refine qe hK ?_
 by_cases YL:((g.1:Nat):Int)=63
 ·refine qD rfl (by simp[YL]) ?_;refine ag.skip<|qD rfl (by simp[YL]) ?_;refine qq<|qj fun K hK=>qm ?_;refine qm ?_;obtain⟨_,st,aN,rfl,s4,hN,hH⟩:=hwr _ hH;refine qv aN ?_;refine qm ?_;refine qe hK<|ag.ret ⟨rx,_,_,_,rfl,ak (rfl),?_⟩;exact⟨s4,hN,cQ.aA cG hH⟩
 refine qE rfl (by simp[YL]) ?_;refine qq<|qj fun K hK=>qg ?_;refine qm ?_;refine qe hK ?_
 by_cases YO:((g.1:Nat):Int)=41
 ·refine qD rfl (by simp[YO]) ?_;refine ag.skip<|qD rfl (by simp[YO]) ?_;refine qq<|qj fun K hK=>qm ?_;refine qm ?_;obtain⟨_,st,aN,rfl,s4,hN,hH⟩:=hwr _ hH;refine qv aN ?_;refine qm ?_;refine qe hK<|ag.ret ⟨rx,_,_,_,rfl,ak (rfl),?_⟩;exact⟨s4,hN,cQ.aA cG hH⟩
 refine qE rfl (by simp[YO]) ?_;refine qq<|qj fun K hK=>qg ?_;refine qm ?_;refine qe hK ?_
 by_cases YK:((g.1:Nat):Int)=93
 ·refine qD rfl (by simp[YK]) ?_;refine ag.skip<|qD rfl (by simp[YK]) ?_;refine qq<|qj fun K hK=>qm ?_;refine qm ?_;obtain⟨_,st,aN,rfl,s4,hN,hH⟩:=hwr _ hH;refine qv aN ?_;refine qm ?_;refine qe hK<|ag.ret ⟨rx,_,_,_,rfl,ak (rfl),?_⟩;exact⟨s4,hN,cQ.aA cG hH⟩
 refine qE rfl (by simp[YK]) ?_;refine qq<|qj fun K hK=>qg ?_;refine qm ?_;refine qe hK ?_
 by_cases Rh:((g.1:Nat):Int)=123
 ·refine qD rfl (by simp[Rh]) ?_;refine ag.skip<|qD rfl (by simp[Rh]) ?_;refine qq<|qj fun K hK=>qm ?_;refine qm ?_;obtain⟨_,st,aN,rfl,s4,hN,hH⟩:=hwr _ hH;refine qv aN ?_;refine qm ?_;refine qe hK<|ag.ret ⟨rx,_,_,_,rfl,ak (rfl),?_⟩;exact⟨s4,hN,cQ.aA cG hH⟩
 refine qE rfl (by simp[Rh]) ?_;refine qq<|qj fun K hK=>qg ?_;refine qm ?_;refine qe hK ?_
 by_cases Rf:((g.1:Nat):Int)=125
 ·refine qD rfl (by simp[Rf]) ?_;refine ag.skip<|qD rfl (by simp[Rf]) ?_;refine qq<|qj fun K hK=>qm ?_;refine qm ?_;obtain⟨_,st,aN,rfl,s4,hN,hH⟩:=hwr _ hH;refine qv aN ?_;refine qm ?_;refine qe hK<|ag.ret ⟨rx,_,_,_,rfl,ak (rfl),?_⟩;exact⟨s4,hN,cQ.aA cG hH⟩
 refine qE rfl (by simp[Rf]) ?_;refine qj fun K hK=>qg ?_;refine qm ?_;refine qe hK ?_
 by_cases UX:((g.1:Nat):Int)=124
 ·refine qD rfl (by simp[UX]) ?_;refine qq<|qj fun K hK=>qm ?_;refine qm ?_;obtain⟨_,st,aN,rfl,s4,hN,hH⟩:=hwr _ hH;refine qv aN ?_;refine qm ?_;refine qe hK<|ag.ret ⟨rx,_,_,_,rfl,ak (rfl),?_⟩;exact⟨s4,hN,cQ.aA cG hH⟩
 refine qE rfl (by simp[UX]) ?_;refine qq<|qj fun K hK=>qm ?_;refine qg ?_;refine qp (o:=2) ?_;refine ql hH au ?_;refine qA ?_;refine qg ?_;refine qp (o:=2) ?_;refine qT hH au fun st hH=>?_;dsimp only[u2,u1,u3,u4,setMany,u5,u6,D.cells,Nat.reduceAdd,aX,a7,aq,ay,bt] at hH;refine qe hK ?_;obtain⟨_,Bx,_⟩:=mS (s0:=s0) (x:=bT [(((g.1:Nat):Int),((g.1:Nat):Int))]) (l:=[(((g.1:Nat):Int),((g.1:Nat):Int))]) (f_ _ _) (by simp);simp only[List.length_cons,List.length_nil] at Bx;refine qq<|qj fun K hK=>qm ?_;refine qv (jI _) ?_;refine aa.gu (qs:=[(0,_),(1,_)]) rfl rfl rfl rfl ⟨rfl,(ev rfl),(by rfl),rfl,(ev rfl),(by rfl),trivial⟩ (by intro q hq;simp only[List.mem_cons,List.not_mem_nil,or_false] at hq;rcases hq with rfl|rfl<;>exact⟨rfl,by exact Nat.le_of_ble_eq_true rfl⟩) (by show List.foldl _ [_,_,_,_,_,_,_] _=_;dsimp only[List.foldl_cons,List.foldl_nil,u2,u1]<;>rfl) (ab rfl _) ?_;refine qh (s:=7) (vs:=[_]) hH fun k36 st Tt hH=>?_;refine qm ?_;refine qe hK ?_;obtain⟨d',ah,sN,ib⟩:=kr _ {s with i:=s.i+1} 2 _ _ k36 (.inl rfl) (by omega) rfl hg (by show s.i<s.i+1;omega) (by show s.i+1≤_;omega) Tt hH;refine ag.ret ⟨rx,_,d',ah,rfl,sN,ib⟩
theorem CN {m:Nat} (hA:∀m',m'+1=m→l7 m') {N k:Nat} {S s0:St} {H:List bC} {gs:List (Nat×Nat)} {bK:D} {a8:List Int} {s:fz} (bd:lF gs a8) (he:s.e=0) (hi:s.i<gs.length) (hg:s.g≤4) (ho:s.o+m=20) (hH:Has N S s0 (.box k (.mem 0 false (aX gs bK s))::.aM bK 1 (a8.map aq)::H)):
  ∃d ah,Ev pv 144 [.ptr k 0 0] s0 d ah∧∃(s':fz),jE gs s s' d 1∧Has N S ah (.box k (.mem 0 false (aX gs bK s'))::.aM bK 1 (a8.map aq)::H):=by
 have pR:=bd.gl;have fU:=bd.pl;refine Ev.iC rfl Uv rfl rfl rfl ?_;dsimp only[u3,u4,List.length,Nat.reduceSub,Nat.reduceAdd,w1,w2];have cQ:=hH;have hH:=hH.cV;have cG:(ai .rw s0).bs=s0.bs:=rfl;generalize ai .rw s0=S2 at*;refine qq<|qj fun K hK=>qm ?_;refine qe hK<|qq<|qj fun K hK=>qm ?_;obtain⟨_,st,aN,s1,⟨p1,p2,p3,p4,l,rfl,p5,p6,p7⟩,hH⟩:=L0 hA bd he hi hg ho hH;refine qv aN ?_;refine qm ?_;refine qe hK<|qq<|qq<|qj fun K hK=>qm ?_;refine qg ?_;refine qp (o:=5) ?_;refine ql hH au ?_;refine qg ?_;refine qe hK ?_
 rcases p7 with p7|⟨p7,p8⟩
 ·refine qD rfl (by simp[p7]) ?_;refine qq<|qj fun K hK=>qm ?_;refine qe hK<|ag.ret ⟨rx,_,_,_,rfl,ak (rfl),?_⟩;exact⟨s1,gF p1 p2 p3 p4 p7,cQ.aA cG hH⟩
 refine qE rfl (by simp[p7]) ?_;refine ag.skip<|qq<|qj fun K hK=>aa.go (d:=.agg [.int .i64 5,.nul,.int .i64 0,.int .i64 0,.bool false,.int .i64 0,.int .i64 1]) (st1:=_) rfl rfl rfl (ab rfl _) ?_;refine qa hH fun k4 st Vd hH=>?_;dsimp only[u2,u1,u3,u4,setMany,u5,u6,D.cells,Nat.reduceAdd,aX,a7,aq,ay,bt] at hH;refine qS hH au fun st hH=>?_;dsimp only[u2,u1,u3,u4,setMany,u5,u6,D.cells,Nat.reduceAdd,aX,a7,aq,ay,bt] at hH;refine qe hK ?_;have hH:Has N S2 st (.box k (.mem 0 false (aX gs bK s1))::.aM bK 1 (a8.map aq)::.box k4 (.mem 0 false [.int .i64 5,.nul,.int .i64 0,.int .i64 0,.bool false,.int .i64 0,.int .i64 1])::H):=nI hH;refine qq<|ag.merge (fun fr st=>∃(mn mx:Int) (s2:fz) (tmp:List (Nat×D)),fr=⟨5,[.ptr k 0 0,yB fr 1,yB fr 2,vt l,.ptr k4 0 0],tmp⟩∧Has N S2 st (.box k (.mem 0 false (aX gs bK s2))::.aM bK 1 (a8.map aq)::.box k4 (.mem 0 false [.int .i64 5,.nul,.int .i64 mn,.int .i64 mx,.bool false,.int .i64 0,.int .i64 1])::H)∧(s2.o=s.o)∧(s2.g≤4)∧(s1.i<s2.i)∧(s2.i≤gs.length)) ?_ ?_
 ·refine ag.block<|qq<|qj fun K hK=>qm ?_;obtain⟨_,st,aN,rfl,hH⟩:=eB (s:=s1) (by omega) 42 hH;refine qv aN ?_;refine qm ?_;refine qe hK ?_
  cases hb1:lh gs s1.i 42 with
  |true=>
   obtain⟨k1,k2,k3,VQ,k5⟩:=g_ (gs:=gs) (s:=s1) (r:=42);have k6:=mP hb1;have k7:=k5 p4;generalize dq gs s1 42=s2 at*;refine qB ?_;refine qj fun K hK=>qp (o:=3) ?_;refine qT hH ba fun st hH=>?_;dsimp only[u2,u1,u3,u4,setMany,u5,u6,D.cells,Nat.reduceAdd,aX,a7,aq,ay,bt] at hH;refine qe hK ?_;exact⟨0,-1,s2,_,rfl,hH,by omega,by omega,by omega,k7⟩
  |false=>
   rw[pF hb1] at hH;refine qC ?_;refine qq<|qj fun K hK=>qm ?_;obtain⟨_,st,aN,rfl,hH⟩:=eB (s:=s1) (by omega) 43 hH;refine qv aN ?_;refine qm ?_;refine qe hK ?_
   cases hb2:lh gs s1.i 43 with
   |true=>
    obtain⟨k1,k2,k3,VQ,k5⟩:=g_ (gs:=gs) (s:=s1) (r:=43);have k6:=mP hb2;have k7:=k5 p4;generalize dq gs s1 43=s2 at*;refine qB ?_;refine qj fun K hK=>qp (o:=2) ?_;refine qT hH ba fun st hH=>?_;dsimp only[u2,u1,u3,u4,setMany,u5,u6,D.cells,Nat.reduceAdd,aX,a7,aq,ay,bt] at hH;refine qp (o:=3) ?_;refine qT hH ba fun st hH=>?_;dsimp only[u2,u1,u3,u4,setMany,u5,u6,D.cells,Nat.reduceAdd,aX,a7,aq,ay,bt] at hH;refine qe hK ?_;exact⟨1,-1,s2,_,rfl,hH,by omega,by omega,by omega,k7⟩
   |false=>
    rw[pF hb2] at hH;refine qC ?_;refine qq<|qj fun K hK=>qm ?_;obtain⟨_,st,aN,rfl,hH⟩:=eB (s:=s1) (by omega) 63 hH;refine qv aN ?_;refine qm ?_;refine qe hK ?_
    cases TX:lh gs s1.i 63 with
    |true=>
     obtain⟨k1,k2,k3,VQ,k5⟩:=g_ (gs:=gs) (s:=s1) (r:=63);have k6:=mP TX;have k7:=k5 p4;generalize dq gs s1 63=s2 at*;refine qB ?_;refine qj fun K hK=>qp (o:=3) ?_;refine qT hH ba fun st hH=>?_;dsimp only[u2,u1,u3,u4,setMany,u5,u6,D.cells,Nat.reduceAdd,aX,a7,aq,ay,bt] at hH;refine qe hK ?_;exact⟨0,1,s2,_,rfl,hH,by omega,by omega,by omega,k7⟩
    |false=>
     rw[pF TX] at hH;refine qC ?_;refine qq<|qj fun K hK=>qm ?_;obtain⟨_,st,aN,rfl,hH⟩:=o7 (s:=s1) (by omega) 123 hH;refine qv aN ?_;refine qm ?_;refine qe hK ?_
     cases hb4:lh gs s1.i 123 with
     |true=>
      have hlt:=rC hb4;refine qB ?_;refine qj fun K hK=>qm ?_;obtain⟨_,st,aN,n1,n2,s2,rfl,⟨m1,m2,m3,m4⟩,hH⟩:=Dd bd p7 hlt hH;refine qv aN ?_;refine qm ?_;refine qg ?_;refine qg ?_;refine qp (o:=2) ?_;refine qT hH ba fun st hH=>?_;dsimp only[u2,u1,u3,u4,setMany,u5,u6,D.cells,Nat.reduceAdd,aX,a7,aq,ay,bt] at hH;refine qp (o:=3) ?_;refine qT hH ba fun st hH=>?_;dsimp only[u2,u1,u3,u4,setMany,u5,u6,D.cells,Nat.reduceAdd,aX,a7,aq,ay,bt] at hH;refine qe hK ?_;exact⟨n1,n2,s2,_,rfl,hH,by omega,by omega,m3,m4⟩
     |false=>
      refine qC ?_;refine qq<|qj fun K hK=>qm ?_;refine qm ?_;refine qe hK<|ag.ret ⟨rx,_,_,_,rfl,ak (rfl),?_⟩;exact⟨s1,⟨p1,p2,p3,p4,l,rfl,p5,p6,.inr ⟨p7,by omega⟩⟩,cQ.aA cG (hH.erase 2)⟩
 ·rintro fr st ⟨mn,mx,s2,tmp,hfr,hH,h1,h2,h3,h4⟩;rw[hfr];clear hfr;generalize yB fr=ee;clear fr;refine qq<|qq<|qj fun K hK=>qm ?_;refine qg ?_;refine qp (o:=5) ?_;refine ql hH au ?_;refine qg ?_;refine qe hK ?_
  by_cases BF:s2.e=0
  ·refine qE rfl (by simp[BF]) ?_;refine ag.skip ?_;obtain⟨k1,k2,k3,VQ,k5⟩:=g_ (gs:=gs) (s:=s2) (r:=63);have k7:=k5 h4;refine qq<|qj fun K hK=>qm ?_;obtain⟨_,st,aN,rfl,hH⟩:=eB (s:=s2) (by omega) 63 hH;refine qv aN ?_;refine qp (o:=4) ?_;refine qT hH ba fun st hH=>?_;dsimp only[u2,u1,u3,u4,setMany,u5,u6,D.cells,Nat.reduceAdd,aX,a7,aq,ay,bt] at hH;refine qe hK ?_;generalize dq gs s2 63=s3 at*;generalize lh gs s2.i 63=lz at*;have hla:=(tn p5).arg N S2;refine qq<|qj fun K hK=>?_;refine aa.bk (m:=7) hH rfl (ev rfl) (by exact ba) (by dsimp only[List.drop_succ_cons,List.drop_zero,List.take_succ_cons,List.take_zero,aX,a7,aq,ay,bt]<;>rfl) rfl rfl (ab rfl _) ?_;refine qh (s:=7) (vs:=[_]) hH fun k46 st aaS hH=>?_;refine qm ?_;refine aa.rL (s:=7) hH rfl (ev rfl) (ev rfl) au ((tn p5).rows st) rfl rfl rfl rfl rfl rfl rfl ⟨(Nat.le_of_ble_eq_true rfl),(Nat.le_of_ble_eq_true rfl)⟩ (fun _=>(ab rfl _)) (by simp only[List.length_map,List.length_cons,List.length_nil];omega) (.inr (tm p5)) (fun k hk=>by have ky:k46+1=k+1:=hk;omega) (fun Vt st Mm hH=>?_);dsimp only[u2] at hH;refine qm ?_;refine qe hK ?_;have hH:Has N S2 st (.aM Vt 7 ([.int .i64 5,.nul,.int .i64 mn,.int .i64 mx,.bool lz,.int .i64 0,.int .i64 1]::l.map bt)::.box k (.mem 0 false (aX gs bK s3))::.aM bK 1 (a8.map aq)::.box k4 (.mem 0 false [.int .i64 5,.nul,.int .i64 mn,.int .i64 mx,.bool lz,.int .i64 0,.int .i64 1])::H):=hH
   have hfz:=jj (L:=s0.bs.length) (l:=uH 5 mn mx lz 0 1 []::l) hH au (by rw[List.map_cons,uE p5];rfl) (fun e he d hd=>by
    rcases List.mem_cons.1 he with rfl|he
    ·simp only[List.mem_cons,List.not_mem_nil,or_false] at hd
     rcases hd with rfl|rfl|rfl|rfl|rfl|rfl|rfl<;>rfl
    ·exact rj p5 e he d hd) (fun k hk=>by rw[←cG];exact Mm k hk) (n:=16) (by decide)
   refine ag.ret ⟨rx,_,_,_,rfl,ak hfz,⟨s3,⟨by omega,by omega,by omega,k7,_,rfl,?_,by simp only[List.length_cons];omega,.inr ⟨by omega,by simp only[List.length_cons];omega⟩⟩,cQ.aA cG ((hH.drop 1).erase 2)⟩⟩;intro n hn
   rcases List.mem_cons.1 hn with rfl|hn
   ·exact⟨rfl,by simp[uH],by simp[uH]⟩
   ·exact p5 n hn
  ·refine qD rfl (by simp[BF]) ?_;refine qq<|qj fun K hK=>qm ?_;refine qe hK<|ag.ret ⟨rx,_,_,_,rfl,ak (rfl),?_⟩;exact⟨s2,gF h1 h2 (by omega) h4 BF,cQ.aA cG (hH.erase 2)⟩
def oz (fr:Go.V.Fr) (k:Nat):Go.V.D:=Go.V.nth .bD fr.loc k
theorem Eu {m:Nat} (hA:∀m',m'+1=m→l7 m') {N k:Nat} {S s0:St} {H:List bC} {gs:List (Nat×Nat)} {bK:D} {a8:List Int} {s:fz} (bd:lF gs a8) (he:s.e=0) (hi:s.i≤gs.length) (hg:s.g≤4) (ho:s.o+m=20) (hH:Has N S s0 (.box k (.mem 0 false (aX gs bK s))::.aM bK 1 (a8.map aq)::H)):
  ∃d ah,Ev pv 129 [.ptr k 0 0] s0 d ah∧∃(s':fz),vn gs s s' d∧Has N S ah (.box k (.mem 0 false (aX gs bK s'))::.aM bK 1 (a8.map aq)::H):=by
 have pR:=bd.gl;have fU:=bd.pl;refine Ev.iC rfl UD rfl rfl rfl ?_;dsimp only[u3,u4,List.length,Nat.reduceSub,Nat.reduceAdd,w1,w2];have cQ:=hH;have hH:=hH.cV;have cG:(ai .rw s0).bs=s0.bs:=rfl;generalize ai .rw s0=S2 at*;have DT:Arg N S2 2 (cB gs) (gs.map a7):=Arg.pure (fun st=>dt st gs);refine qq ?_;refine qj fun K hK=>?_;refine qm ?_;refine qe hK ?_;refine qq ?_;refine qj fun K hK=>?_;refine qm ?_;refine qe hK ?_;have hH:Has N S2 S2 (.box k (.mem 0 false (aX gs bK s))::.aM bK 1 (a8.map aq)::.aM .nul 1 (([]:List (List dW)).map eD)::H):=nI (hH.er 1);refine qq ?_;refine ag.block ?_;refine ag.loop (fun mm fr st=>∃(s1:fz) (pd:D) (parts:List (List dW)),fr.clean=⟨4,[.ptr k 0 0,oz fr 1,oz fr 2,pd],[]⟩∧Has N S2 st (.box k (.mem 0 false (aX gs bK s1))::.aM bK 1 (a8.map aq)::.aM pd 1 (parts.map eD)::H)∧(s1.o=s.o)∧(s1.g≤4)∧(s.i≤s1.i)∧(s1.i≤gs.length)∧(∀l∈parts,∀n∈l,vB n)∧(fV parts+parts.length≤4*(s1.i-s.i)+2)∧(s1.e=0→fV parts+parts.length≤4*(s1.i-s.i))∧(gs.length-s1.i+(if s1.e=0 then 1 else 0)≤mm)) (gs.length+1) ?_ ?_
 ·exact⟨s,.nul,[],rfl,hH,rfl,hg,Nat.le_refl _,hi,fun l hl=>(by cases hl),by simp[fV],fun _=>by simp[fV],by split<;>omega⟩
 rintro mm fr st ⟨s1,pd,parts,hfr,hH,h1,h2,h3,h4,h5,h6,h7,xO⟩;rw[hfr];clear hfr;generalize oz fr=ee;clear fr
 have rH:∀st:St,Has N S2 st (.box k (.mem 0 false (aX gs bK s1))::.aM bK 1 (a8.map aq)::.aM pd 1 (parts.map eD)::H)→∃d,Ev pv 131 [.int .i64 3,pd] st d st∧vn gs s s1 d∧∃l,d=vt l:=by
  intro st hH;obtain⟨_,aN,l,rfl,j1,j2,j3⟩:=tD 3 (hH.rows ba) h5 (by omega) (by omega);refine⟨_,aN,⟨h1,h2,h3,h4,l,rfl,j1,?_⟩,l,rfl⟩
  by_cases q1:parts.length=1
  ·have:=j2 q1;omega
  ·by_cases q0:parts.length=0
   ·have:parts=[]:=List.length_eq_zero_iff.1 q0;rw[this] at j3 h6;simp[fV] at j3 h6;omega
   ·omega
 by_cases mC:s1.e=0
 ·rw[if_pos mC] at xO;have h7:=h7 mC;have bN:(s1.e==0)=true:=by simpa using mC
  by_cases hlt:s1.i<gs.length
  ·have bn:decide (((s1.i:Nat):Int)<((gs.length:Nat):Int))=true:=by rw[decide_eq_true_eq];omega
   cases bE:(!lh gs s1.i 124) with
   |false=>
    refine qq ?_;refine qq ?_;refine qj fun K hK=>?_;refine qm ?_;refine qg ?_;refine qp (o:=5) ?_;refine ql hH au ?_;refine qg ?_;refine qm ?_;refine qm ?_ (hg:=wi bN);refine qg ?_ (hg:=wi bN);refine qp (o:=2) ?_ (hg:=wi bN);refine ql hH au ?_ (hg:=wi bN);refine qm ?_ (hg:=wi bN);refine qg ?_ (hg:=wi bN);refine qp (o:=0) ?_ (hg:=wi bN);refine ql hH au ?_ (hg:=wi bN);refine qn ?_ (hg:=wi bN);simp only[List.length_map];refine qg ?_ (hg:=wi bN);refine qt bN ?_;refine qm ?_;refine qm ?_ (hg:=wi bn);obtain⟨_,st,aN,rfl,hH⟩:=o7 (s:=s1) (by omega) 124 hH;refine qv aN ?_ (hg:=wi bn);refine qg ?_ (hg:=wi bn);refine qt bn ?_;refine qm ?_;refine qs ?_ (hg:=wn bE);refine qs ?_ (hg:=wn bE);refine qs ?_ (hg:=wn bE);refine qs ?_;refine qs ?_;refine qs ?_;refine qs ?_;refine qs ?_;refine qs ?_ (hg:=wn bE);refine qs ?_ (hg:=wn bE);refine qu bE ?_;refine qe hK ?_;refine qC ?_;refine ag.exit ?_;obtain⟨_,DR,hQ,l,rfl⟩:=rH _ hH;refine qq ?_;refine qj fun K hK=>?_;refine qm ?_;refine qv (DR) ?_;refine qm ?_;refine qe hK ?_;refine ag.ret ⟨rx,_,_,_,rfl,ak (rfl),?_⟩;exact⟨s1,hQ,cQ.aA cG (hH.erase 2)⟩
   |true=>
    cases bu:lh gs s1.i 41 with
    |false=>
     refine qq ?_;refine qq ?_;refine qj fun K hK=>?_;refine qm ?_;refine qg ?_;refine qp (o:=5) ?_;refine ql hH au ?_;refine qg ?_;refine qm ?_;refine qm ?_ (hg:=wi bN);refine qg ?_ (hg:=wi bN);refine qp (o:=2) ?_ (hg:=wi bN);refine ql hH au ?_ (hg:=wi bN);refine qm ?_ (hg:=wi bN);refine qg ?_ (hg:=wi bN);refine qp (o:=0) ?_ (hg:=wi bN);refine ql hH au ?_ (hg:=wi bN);refine qn ?_ (hg:=wi bN);simp only[List.length_map];refine qg ?_ (hg:=wi bN);refine qt bN ?_;refine qm ?_;refine qm ?_ (hg:=wi bn);obtain⟨_,st,aN,rfl,hH⟩:=o7 (s:=s1) (by omega) 124 hH;refine qv aN ?_ (hg:=wi bn);refine qg ?_ (hg:=wi bn);refine qt bn ?_;refine qm ?_;refine qm ?_ (hg:=wi bE);obtain⟨_,st,aN,rfl,hH⟩:=o7 (s:=s1) (by omega) 41 hH;refine qv aN ?_ (hg:=wi bE);refine qm ?_ (hg:=wi bE);refine qs ?_ (hg:=wn bu);refine qs ?_ (hg:=wn bu);refine qs ?_ (hg:=wn bu);refine qs ?_ (hg:=wn bu);refine qs ?_ (hg:=wn bu);refine aa.dr (aC rfl rfl rfl bE) rfl bu (ab rfl _) ?_;refine qg ?_ (hg:=wi bE);refine qt bE ?_;refine qe hK ?_;refine qB ?_;refine ag.skip ?_;refine ag.block ?_;refine qj fun K hK=>?_;refine qm ?_;refine qm ?_;obtain⟨_,st,aN,s2,⟨r1,r2,r3,r4,l,rfl,r5,r6,r7⟩,hH⟩:=CN hA bd (s:=s1) mC hlt h2 (by omega) hH;refine qv aN ?_;refine qh (s:=1) (vs:=[_]) hH fun k41 st Tq hH=>?_;dsimp only[u2,u1,u3,u4,setMany,u5,u6,D.cells,Nat.reduceAdd,aX,a7,aq,ay,eD] at hH;refine aa.bP (s:=1) hH rfl (ev rfl) (ev rfl) (by exact bf) (by exact hH.rows (by exact au)) rfl rfl rfl rfl rfl rfl rfl ⟨(Nat.le_of_ble_eq_true rfl),(Nat.le_of_ble_eq_true rfl)⟩ (fun _=>(ab rfl _)) (by simp only[List.length_cons,List.length_nil,List.length_map]<;>omega) (by exact .inr rfl) (fun RI st hH=>?_);dsimp only[u2,u1,u3,u4,setMany,u5,u6,D.cells,Nat.reduceAdd,aX,a7,aq,ay,eD] at hH;refine qm ?_;refine qe hK ?_;have hH:=hH.drop 1;refine⟨mm-1,by omega,⟨s2,RI,parts++[l],rfl,(by rw[List.map_append];exact hH),by omega,r2,by omega,r4,?_,by rw[dS,List.length_append];simp only[fV,List.length_cons,List.length_nil];omega,(fun e=>by rw[dS,List.length_append];simp only[fV,List.length_cons,List.length_nil];omega),by split<;>omega⟩⟩;intro l' iD
     rcases List.mem_append.1 iD with iD|iD
     ·exact h5 l' iD
     ·simp only[List.mem_cons,List.not_mem_nil,or_false] at iD;subst iD;exact r5
    |true=>
     refine qq ?_;refine qq ?_;refine qj fun K hK=>?_;refine qm ?_;refine qg ?_;refine qp (o:=5) ?_;refine ql hH au ?_;refine qg ?_;refine qm ?_;refine qm ?_ (hg:=wi bN);refine qg ?_ (hg:=wi bN);refine qp (o:=2) ?_ (hg:=wi bN);refine ql hH au ?_ (hg:=wi bN);refine qm ?_ (hg:=wi bN);refine qg ?_ (hg:=wi bN);refine qp (o:=0) ?_ (hg:=wi bN);refine ql hH au ?_ (hg:=wi bN);refine qn ?_ (hg:=wi bN);simp only[List.length_map];refine qg ?_ (hg:=wi bN);refine qt bN ?_;refine qm ?_;refine qm ?_ (hg:=wi bn);obtain⟨_,st,aN,rfl,hH⟩:=o7 (s:=s1) (by omega) 124 hH;refine qv aN ?_ (hg:=wi bn);refine qg ?_ (hg:=wi bn);refine qt bn ?_;refine qm ?_;refine qm ?_ (hg:=wi bE);obtain⟨_,st,aN,rfl,hH⟩:=o7 (s:=s1) (by omega) 41 hH;refine qv aN ?_ (hg:=wi bE);refine qm ?_ (hg:=wi bE);refine qm ?_ (hg:=wi bu);refine qg ?_ (hg:=wi bu);refine qp (o:=3) ?_ (hg:=wi bu);refine ql hH au ?_ (hg:=wi bu);refine qg ?_ (hg:=wi bu);refine aa.dU (aC rfl rfl rfl bE) rfl bu (ab rfl _) ?_;refine qg ?_ (hg:=wi bE);refine qt bE ?_;refine qe hK ?_
     by_cases gv:0<s1.o
     ·have iE:(!decide (((s1.o:Nat):Int)>0))=false:=by rw[decide_eq_true (by omega)];rfl
      refine qE rfl (by rw[iE]) ?_;refine ag.exit ?_;obtain⟨_,DR,hQ,l,rfl⟩:=rH _ hH;refine qq ?_;refine qj fun K hK=>?_;refine qm ?_;refine qv (DR) ?_;refine qm ?_;refine qe hK ?_;refine ag.ret ⟨rx,_,_,_,rfl,ak (rfl),?_⟩;exact⟨s1,hQ,cQ.aA cG (hH.erase 2)⟩
     ·have iE:(!decide (((s1.o:Nat):Int)>0))=true:=by rw[decide_eq_false (by omega)];rfl
      refine qD rfl (by rw[iE]) ?_;refine ag.skip ?_;refine ag.block ?_;refine qj fun K hK=>?_;refine qm ?_;refine qm ?_;obtain⟨_,st,aN,s2,⟨r1,r2,r3,r4,l,rfl,r5,r6,r7⟩,hH⟩:=CN hA bd (s:=s1) mC hlt h2 (by omega) hH;refine qv aN ?_;refine qh (s:=1) (vs:=[_]) hH fun k41 st Tq hH=>?_;dsimp only[u2,u1,u3,u4,setMany,u5,u6,D.cells,Nat.reduceAdd,aX,a7,aq,ay,eD] at hH;refine aa.bP (s:=1) hH rfl (ev rfl) (ev rfl) (by exact bf) (by exact hH.rows (by exact au)) rfl rfl rfl rfl rfl rfl rfl ⟨(Nat.le_of_ble_eq_true rfl),(Nat.le_of_ble_eq_true rfl)⟩ (fun _=>(ab rfl _)) (by simp only[List.length_cons,List.length_nil,List.length_map]<;>omega) (by exact .inr rfl) (fun RI st hH=>?_);dsimp only[u2,u1,u3,u4,setMany,u5,u6,D.cells,Nat.reduceAdd,aX,a7,aq,ay,eD] at hH;refine qm ?_;refine qe hK ?_;have hH:=hH.drop 1;refine⟨mm-1,by omega,⟨s2,RI,parts++[l],rfl,(by rw[List.map_append];exact hH),by omega,r2,by omega,r4,?_,by rw[dS,List.length_append];simp only[fV,List.length_cons,List.length_nil];omega,(fun e=>by rw[dS,List.length_append];simp only[fV,List.length_cons,List.length_nil];omega),by split<;>omega⟩⟩;intro l' iD
      rcases List.mem_append.1 iD with iD|iD
      ·exact h5 l' iD
      ·simp only[List.mem_cons,List.not_mem_nil,or_false] at iD;subst iD;exact r5
  ·have bn:decide (((s1.i:Nat):Int)<((gs.length:Nat):Int))=false:=by rw[decide_eq_false_iff_not];omega
   refine qq ?_;refine qq ?_;refine qj fun K hK=>?_;refine qm ?_;refine qg ?_;refine qp (o:=5) ?_;refine ql hH au ?_;refine qg ?_;refine qm ?_;refine qm ?_ (hg:=wi bN);refine qg ?_ (hg:=wi bN);refine qp (o:=2) ?_ (hg:=wi bN);refine ql hH au ?_ (hg:=wi bN);refine qm ?_ (hg:=wi bN);refine qg ?_ (hg:=wi bN);refine qp (o:=0) ?_ (hg:=wi bN);refine ql hH au ?_ (hg:=wi bN);refine qn ?_ (hg:=wi bN);simp only[List.length_map];refine qg ?_ (hg:=wi bN);refine qt bN ?_;refine qm ?_;refine qs ?_ (hg:=wn bn);refine qs ?_ (hg:=wn bn);refine qs ?_ (hg:=wn bn);refine qu bn ?_;refine qm ?_;refine qs ?_;refine qs ?_;refine qs ?_;refine qs ?_;refine qs ?_;refine qs ?_;refine qs ?_;refine qs ?_;refine qs ?_;refine qs ?_;refine qg ?_;refine qe hK ?_;refine qC ?_;refine ag.exit ?_;obtain⟨_,DR,hQ,l,rfl⟩:=rH _ hH;refine qq ?_;refine qj fun K hK=>?_;refine qm ?_;refine qv (DR) ?_;refine qm ?_;refine qe hK ?_;refine ag.ret ⟨rx,_,_,_,rfl,ak (rfl),?_⟩;exact⟨s1,hQ,cQ.aA cG (hH.erase 2)⟩
 ·have bN:(s1.e==0)=false:=by simpa using mC
  refine qq ?_;refine qq ?_;refine qj fun K hK=>?_;refine qm ?_;refine qg ?_;refine qp (o:=5) ?_;refine ql hH au ?_;refine qg ?_;refine qm ?_;refine qs ?_ (hg:=wn bN);refine qs ?_ (hg:=wn bN);refine qs ?_ (hg:=wn bN);refine qs ?_ (hg:=wn bN);refine qs ?_ (hg:=wn bN);refine qs ?_ (hg:=wn bN);refine qs ?_ (hg:=wn bN);refine qs ?_ (hg:=wn bN);refine qs ?_ (hg:=wn bN);refine qs ?_ (hg:=wn bN);refine qu bN ?_;refine qm ?_;refine qs ?_;refine qs ?_;refine qs ?_;refine qg ?_;refine qm ?_;refine qs ?_;refine qs ?_;refine qs ?_;refine qs ?_;refine qs ?_;refine qs ?_;refine qs ?_;refine qs ?_;refine qs ?_;refine qs ?_;refine qg ?_;refine qe hK ?_;refine qC ?_;refine ag.exit ?_;obtain⟨_,DR,hQ,l,rfl⟩:=rH _ hH;refine qq ?_;refine qj fun K hK=>?_;refine qm ?_;refine qv (DR) ?_;refine qm ?_;refine qe hK ?_;refine ag.ret ⟨rx,_,_,_,rfl,ak (rfl),?_⟩;exact⟨s1,hQ,cQ.aA cG (hH.erase 2)⟩
theorem L7:∀m:Nat,l7 m:=by
 intro m
 induction m using Nat.strongRecOn with
 |ind m ih0=>
 have hA:∀m',m'+1=m→l7 m':=fun m' h=>ih0 m' (by omega);intro N k S s0 H gs bK a8 s bd he hi hg ho hH;have pR:=bd.gl;have fU:=bd.pl;refine Ev.iC rfl X4 rfl rfl rfl ?_;dsimp only[u3,u4,List.length,Nat.reduceSub,Nat.reduceAdd,w1,w2];have cQ:=hH;have hH:=hH.cV;have cG:(ai .rw s0).bs=s0.bs:=rfl;generalize ai .rw s0=S2 at*;refine qq ?_;refine qj fun K hK=>?_;refine qm ?_;refine qe hK ?_;refine qq ?_;refine qj fun K hK=>?_;refine qm ?_;obtain⟨_,st,aN,s1,⟨p1,p2,p3,p4,l,rfl,p5,p6⟩,hH⟩:=Eu hA bd he hi hg ho hH;refine qv aN ?_;refine qh (s:=1) (vs:=[_]) hH fun k6 st E5 hH=>?_;dsimp only[u2,u1,u3,u4,setMany,u5,u6,D.cells,Nat.reduceAdd,aX,a7,aq,ay,eD] at hH;refine qm ?_;refine qe hK ?_;have hH:Has N S2 st (.box k (.mem 0 false (aX gs bK s1))::.aM bK 1 (a8.map aq)::.aM (.win k6 0 0 1 1) 1 ([l].map eD)::H):=nI hH;refine qq ?_;refine ag.block ?_;refine ag.loop (fun mm fr st=>∃(s1:fz) (pd:D) (parts:List (List dW)),fr.clean=⟨4,[.ptr k 0 0,oz fr 1,oz fr 2,pd],[]⟩∧Has N S2 st (.box k (.mem 0 false (aX gs bK s1))::.aM bK 1 (a8.map aq)::.aM pd 1 (parts.map eD)::H)∧(s1.o=s.o)∧(s1.g≤4)∧(s.i≤s1.i)∧(s1.i≤gs.length)∧(∀l∈parts,∀n∈l,vB n)∧(fV parts+3*parts.length≤4*(s1.i-s.i)+4)∧(1≤parts.length)∧(gs.length-s1.i≤mm)) (gs.length) ?_ ?_
 ·exact⟨s1,.win k6 0 0 1 1,[l],rfl,hH,p1,p2,p3,p4,(fun l' iD=>by simp only[List.mem_cons,List.not_mem_nil,or_false] at iD;subst iD;exact p5),by simp only[fV,List.length_cons,List.length_nil];omega,by simp,by omega⟩
 rintro mm fr st ⟨s1,pd,parts,hfr,hH,h1,h2,h3,h4,h5,h6,h8,xO⟩;rw[hfr];clear hfr;generalize oz fr=ee;clear fr
 have rH:∀st:St,Has N S2 st (.box k (.mem 0 false (aX gs bK s1))::.aM bK 1 (a8.map aq)::.aM pd 1 (parts.map eD)::H)→∃d,Ev pv 131 [.int .i64 4,pd] st d st∧vn gs s s1 d∧∃l,d=vt l:=by
  intro st hH;obtain⟨_,aN,l,rfl,j1,j2,j3⟩:=tD 4 (hH.rows ba) h5 (by omega) (by omega);refine⟨_,aN,⟨h1,h2,h3,h4,l,rfl,j1,?_⟩,l,rfl⟩
  by_cases q1:parts.length=1
  ·have:=j2 q1;omega
  ·omega
 by_cases mC:s1.e=0
 ·have bN:(s1.e==0)=true:=by simpa using mC
  obtain⟨k1,k2,k3,k4,k5⟩:=g_ (gs:=gs) (s:=s1) (r:=124);have k5:=k5 h4;refine qq ?_;refine qq ?_;refine qj fun K hK=>?_;refine qm ?_;refine qg ?_;refine qp (o:=5) ?_;refine ql hH au ?_;refine qg ?_;refine qm ?_;refine qm ?_ (hg:=wi bN);obtain⟨_,st,aN,rfl,hH⟩:=eB (s:=s1) (by omega) 124 hH;refine qv aN ?_ (hg:=wi bN);refine qt bN ?_;refine qe hK ?_
  cases hb:lh gs s1.i 124 with
  |false=>
   rw[pF hb] at hH;refine qC ?_;refine ag.exit ?_;obtain⟨_,DR,hQ,l,rfl⟩:=rH _ hH;refine qq ?_;refine qj fun K hK=>?_;refine qm ?_;refine qv (DR) ?_;refine qm ?_;refine qe hK ?_;refine ag.ret ⟨rx,_,_,_,rfl,ak (rfl),?_⟩;exact⟨s1,hQ,cQ.aA cG (hH.erase 2)⟩
  |true=>
   have k6:=mP hb;generalize dq gs s1 124=s2 at*;refine qB ?_;refine ag.skip ?_;refine ag.block ?_;refine qj fun K hK=>?_;refine qm ?_;refine qm ?_;obtain⟨_,st,aN,s3,⟨r1,r2,r3,r4,l,rfl,r5,r6⟩,hH⟩:=Eu hA bd (s:=s2) (by omega) k5 (by omega) (by omega) hH;refine qv aN ?_;refine qh (s:=1) (vs:=[_]) hH fun k19 st aa3 hH=>?_;dsimp only[u2,u1,u3,u4,setMany,u5,u6,D.cells,Nat.reduceAdd,aX,a7,aq,ay,eD] at hH;refine aa.bP (s:=1) hH rfl (ev rfl) (ev rfl) (by exact bf) (by exact hH.rows (by exact au)) rfl rfl rfl rfl rfl rfl rfl ⟨(Nat.le_of_ble_eq_true rfl),(Nat.le_of_ble_eq_true rfl)⟩ (fun _=>(ab rfl _)) (by simp only[List.length_cons,List.length_nil,List.length_map]<;>omega) (by exact .inr rfl) (fun YS st hH=>?_);dsimp only[u2,u1,u3,u4,setMany,u5,u6,D.cells,Nat.reduceAdd,aX,a7,aq,ay,eD] at hH;refine qm ?_;refine qe hK ?_;have hH:=hH.drop 1;refine⟨mm-1,by omega,⟨s3,YS,parts++[l],rfl,(by rw[List.map_append];exact hH),by omega,r2,by omega,r4,?_,by rw[dS,List.length_append];simp only[fV,List.length_cons,List.length_nil];omega,by rw[List.length_append];omega,by omega⟩⟩;intro l' iD
   rcases List.mem_append.1 iD with iD|iD
   ·exact h5 l' iD
   ·simp only[List.mem_cons,List.not_mem_nil,or_false] at iD;subst iD;exact r5
 ·have bN:(s1.e==0)=false:=by simpa using mC
  refine qq ?_;refine qq ?_;refine qj fun K hK=>?_;refine qm ?_;refine qg ?_;refine qp (o:=5) ?_;refine ql hH au ?_;refine qg ?_;refine qm ?_;refine qs ?_ (hg:=wn bN);refine qs ?_ (hg:=wn bN);refine qu bN ?_;refine qe hK ?_;refine qC ?_;refine ag.exit ?_;obtain⟨_,DR,hQ,l,rfl⟩:=rH _ hH;refine qq ?_;refine qj fun K hK=>?_;refine qm ?_;refine qv (DR) ?_;refine qm ?_;refine qe hK ?_;refine ag.ret ⟨rx,_,_,_,rfl,ak (rfl),?_⟩;exact⟨s1,hQ,cQ.aA cG (hH.erase 2)⟩
theorem su:∀(n:Nat) (b:List UInt8),b.length≤n→(ez b).length≤b.length∧∀g∈ez b,g.2≤b.length:=by
 intro n
 induction n with
 |zero=>
  intro b hb;have:b=[]:=List.length_eq_zero_iff.1 (by omega);subst this;rw[jZ];exact⟨Nat.le_refl _,fun g hg=>by cases hg⟩
 |succ n ih=>
  intro b hb
  by_cases h:b=[]
  ·subst h;rw[jZ];exact⟨Nat.le_refl _,fun g hg=>by cases hg⟩
  ·have hp:=eo b;have hl:=lP h;obtain⟨h1,h2⟩:=ih (b.drop (cM b).2) (by rw[List.length_drop];omega);rw[List.length_drop] at h1 h2;rw[iG h];refine⟨by rw[List.length_cons];omega,fun g hg=>?_⟩
   rcases List.mem_cons.1 hg with rfl|hg
   ·exact hl
   ·have:=h2 g hg;omega
def bA (fr:Go.V.Fr) (k:Nat):Go.V.D:=Go.V.nth .bD fr.loc k
def Rp (d:D):Prop:=∃(l:List dW) (e w:Int),d=.tup [vt l,.int .i64 e,.int .i64 w]∧(∀n∈l,vB n)∧l.length≤500
theorem C3 {s0:St} {b:List UInt8} (hbl:b.length≤1048576):∃d,Ev pv 51 [.str b] s0 d s0∧Rp d:=by
 obtain⟨pR,Xk⟩:=su _ b (Nat.le_refl _);have aN:∀(st:St) (x:D),Bytes st x b→Ev pv 13 [x] st (cB (ez b)) st:=fun st x h=>EJ h hbl;generalize ez b=gs at*;refine Ev.E0 rfl Ym rfl rfl rfl ?_;dsimp only[u3,u4,List.length,Nat.reduceSub,Nat.reduceAdd,w1,w2];obtain⟨cA,hF,hH⟩:=ri s0;generalize ai .ro s0=S at*;have DT:Arg s0.bs.length S 2 (cB gs) (gs.map a7):=Arg.pure (fun st=>dt st gs);refine qq<|qj fun K hK=>qm ?_;refine qm ?_;refine qm ?_;refine qe hK<|qq<|qq<|qj fun K hK=>qm ?_;refine aa.kQ rfl rfl rfl (by dsimp only[Fr.put,u1,u2]<;>rfl) ?_;refine qg ?_;refine qe hK ?_
 by_cases ZE:120<b.length
 ·have iE:decide (((b.length:Nat):Int)>120)=true:=by rw[decide_eq_true_eq];omega
  refine qD rfl (by rw[iE]) ?_;refine qq<|qj fun K hK=>qm ?_;refine qm ?_;refine qm ?_;refine qe hK<|ag.ret ⟨rx,_,_,rfl,rl cA hH (rfl),?_⟩;exact⟨[],2,0,rfl,fun n hn=>(by cases hn),by simp⟩
 have iE:decide (((b.length:Nat):Int)>120)=false:=by rw[decide_eq_false_iff_not];omega
 refine qE rfl (by rw[iE]) ?_;refine ag.skip<|qq<|qj fun K hK=>qm ?_;refine aa.D2 hH rfl rfl rfl rfl rfl (by omega) (fun _=>by dsimp only[Fr.put,u1,u2]<;>rfl) (fun k14 st Ty hH=>?_);refine qv ((aN _ _ (hH.rows au))) ?_;refine aa.go (d:=.agg [cB gs,.nul,.int .i64 0,.int .i64 0,.int .i64 0,.int .i64 0,.int .i64 0]) (st1:=_) rfl rfl rfl (by dsimp only[Fr.put,u1,u2]<;>rfl) ?_;refine qb hH fun k17 st Tx hH=>?_;refine qm ?_;refine qe hK<|qq<|qj fun K hK=>qm ?_;refine qe hK<|qq<|qq<|qj fun K hK=>qm ?_;refine qg ?_;refine qp (o:=0) ?_;refine ql hH au ?_;refine qn ?_;simp only[List.length_map];refine qm ?_;refine qe hK ?_;have hH:Has s0.bs.length S st (.box k17 (.mem 0 false [cB gs,.nul,.int .i64 0,.int .i64 0,.int .i64 0,.int .i64 0,.int .i64 0])::.aM .nul 1 (([]:List Int).map aq)::[]):=((hH.erase 1).er 1).front aS;refine ag.block<|ag.loop (fun mm fr st=>∃(i a:Nat) (pd:D) (a8:List Int),fr.clean=⟨24,[bA fr 0,bA fr 1,bA fr 2,bA fr 3,bA fr 4,.ptr k17 0 0,.int .i64 (a:Nat),bA fr 7,bA fr 8,bA fr 9,bA fr 10,bA fr 11,bA fr 12,bA fr 13,bA fr 14,bA fr 15,bA fr 16,bA fr 17,bA fr 18,bA fr 19,bA fr 20,cB gs,.int .i64 (gs.length:Nat),.int .i64 (i:Nat)],[]⟩∧Has s0.bs.length S st [.box k17 (.mem 0 false [cB gs,pd,.int .i64 0,.int .i64 0,.int .i64 0,.int .i64 0,.int .i64 0]),.aM pd 1 (a8.map aq)]∧(i+mm=gs.length)∧(a8.length=i)∧(a≤120*i)) (gs.length) ?_ ?_
 ·exact⟨0,0,.nul,[],rfl,hH,by omega,rfl,by omega⟩
 rintro mm fr st ⟨i,a,pd,a8,hfr,hH,hi,fU,ha⟩;rw[hfr];clear hfr;generalize bA fr=ee;clear fr;refine qq<|qj fun K hK=>qg ?_;refine qe hK ?_
 by_cases hlt:i<gs.length
 ·obtain⟨g,hg⟩:∃g,gs[i]?=some g:=⟨gs[i]'hlt,List.getElem?_eq_getElem _⟩
  have iv:(gs.map a7)[i]?=some (a7 g):=by rw[List.getElem?_map,hg];rfl
  have bz:=Xk g (List.mem_of_getElem? hg);have rJ:decide (((i:Nat):Int)<((gs.length:Nat):Int))=true:=by rw[decide_eq_true_eq];omega
  refine qq<|qD rfl (by rw[rJ]) ?_;refine ag.skip<|qq<|ag.block<|qq<|qj fun K hK=>qr fun U6 Lq=>?_;refine aa.dJ rfl (ev rfl) (by assumption) rfl (ab rfl _) ?_;refine qa hH fun k8 st Tn hH=>?_;refine qS hH au fun st hH=>?_;dsimp only[u2,u1,u3,u4,setMany,u5,u6,D.cells,Nat.reduceAdd,aX,a7,aq] at hH;refine qe hK<|qq<|qj fun K hK=>qm ?_;refine qm ?_;refine qg ?_;refine qp (o:=1) ?_;refine ql hH aS ?_;refine qm ?_;refine qh (s:=1) (vs:=[_]) hH fun k33 st Xa hH=>?_;refine aa.bP (s:=1) hH rfl (ev rfl) (ev rfl) (by exact bf) (by exact hH.rows (by exact au)) rfl rfl rfl rfl rfl rfl rfl ⟨(Nat.le_of_ble_eq_true rfl),(Nat.le_of_ble_eq_true rfl)⟩ (fun _=>(ab rfl _)) (by simp only[List.length_cons,List.length_nil,List.length_map]<;>omega) (by exact .inl hF) (fun x34 st hH=>?_);dsimp only[u2,u1,u3,u4,setMany,u5,u6,D.cells,Nat.reduceAdd,aX,a7,aq] at hH;refine qg ?_;refine qp (o:=1) ?_;refine qT hH ba (fun st hH=>?_) (iS:=hH.cm bf);dsimp only[u2,u1,u3,u4,setMany,u5,u6,D.cells,Nat.reduceAdd,aX,a7,aq] at hH;refine qe hK<|qj fun K hK=>qm ?_;refine qp (o:=1) ?_;refine ql hH aS ?_;refine aa.EL rfl (ev rfl) (ev rfl) (by omega) (ab rfl _) ?_;refine qm ?_;refine qe hK<|qj fun K hK=>qA ?_;refine qm ?_;refine qe hK ?_;exact⟨mm-1,by omega,⟨i+1,a+g.2,x34,a8++[((a:Nat):Int)],rfl,(by rw[List.map_append];exact hH.drop 2),by omega,by rw[List.length_append,fU];rfl,by omega⟩⟩
 ·have rJ:decide (((i:Nat):Int)<((gs.length:Nat):Int))=false:=by rw[decide_eq_false_iff_not];omega
  refine qq<|qE rfl (by rw[rJ]) ?_;refine ag.exit ?_
  have bd:lF gs a8:=⟨by omega,by omega⟩
  have hH:Has s0.bs.length S st (.box k17 (.mem 0 false (aX gs pd ⟨0,0,0,0,0⟩))::.aM pd 1 (a8.map aq)::[]):=hH;refine qq<|qj fun K hK=>qm ?_;obtain⟨_,st,aN,s1,⟨p1,p2,p3,p4,l,rfl,p5,p6⟩,hH⟩:=L7 20 (s:=⟨0,0,0,0,0⟩) bd rfl (by simp) (by simp) rfl hH;refine qv aN ?_;refine qm ?_;refine qe hK ?_;have p6:l.length≤4*(s1.i-0)+1:=p6;refine qq<|qq<|ag.om (fun fr st=>∃(s2:fz) (tmp:List (Nat×D)),fr=⟨24,[bA fr 0,bA fr 1,bA fr 2,bA fr 3,bA fr 4,.ptr k17 0 0,bA fr 6,bA fr 7,bA fr 8,vt l,bA fr 10,bA fr 11,bA fr 12,bA fr 13,bA fr 14,bA fr 15,bA fr 16,bA fr 17,bA fr 18,bA fr 19,bA fr 20,bA fr 21,bA fr 22,bA fr 23],tmp⟩∧Has s0.bs.length S st (.box k17 (.mem 0 false (aX gs pd s2))::.aM pd 1 (a8.map aq)::[])∧(True)) ?_ ?_
  ·by_cases mC:s1.e=0
   ·have bN:(s1.e==0)=true:=by simpa using mC
    refine qj fun K hK=>qm ?_;refine qg ?_;refine qp (o:=5) ?_;refine ql hH au ?_;refine qg ?_;refine qm ?_;refine qm ?_ (hg:=wi bN);refine qg ?_ (hg:=wi bN);refine qp (o:=2) ?_ (hg:=wi bN);refine ql hH au ?_ (hg:=wi bN);refine qm ?_ (hg:=wi bN);refine qg ?_ (hg:=wi bN);refine qp (o:=0) ?_ (hg:=wi bN);refine ql hH au ?_ (hg:=wi bN);refine qn ?_ (hg:=wi bN);simp only[List.length_map];refine qg ?_ (hg:=wi bN);refine qt bN ?_;refine qe hK ?_;refine ag.cond (by rfl) (fun Mq=>?_) (fun Mq=>?_)<;>try simp only[decide_eq_true_eq,decide_eq_false_iff_not] at Mq
    ·refine qj fun K hK=>qm ?_;refine qm ?_;refine qg ?_;refine qp (o:=2) ?_;refine ql hH au ?_;obtain⟨_,st,aN,rfl,hH⟩:=du (s:=s1) s1.i 4 (by omega) hH;refine qv aN ?_;refine qe hK ?_;exact⟨_,_,rfl,hH,trivial⟩
    ·refine ag.skip ?_;exact⟨s1,_,rfl,hH,trivial⟩
   ·have bN:(s1.e==0)=false:=by simpa using mC
    refine qj fun K hK=>qm ?_;refine qg ?_;refine qp (o:=5) ?_;refine ql hH au ?_;refine qg ?_;refine qm ?_;refine qs ?_ (hg:=wn bN);refine qs ?_ (hg:=wn bN);refine qs ?_ (hg:=wn bN);refine qs ?_ (hg:=wn bN);refine qs ?_ (hg:=wn bN);refine qs ?_ (hg:=wn bN);refine qs ?_ (hg:=wn bN);refine qs ?_ (hg:=wn bN);refine qs ?_ (hg:=wn bN);refine qs ?_ (hg:=wn bN);refine qu bN ?_;refine qe hK<|qC ?_;refine ag.skip ?_;exact⟨s1,_,rfl,hH,trivial⟩
  ·rintro fr st ⟨s2,tmp,hfr,hH,ht⟩;rw[hfr];clear hfr;generalize bA fr=ee;clear fr;refine qq<|qq<|qj fun K hK=>qm ?_;refine qg ?_;refine qp (o:=5) ?_;refine ql hH au ?_;refine qg ?_;refine qe hK ?_;refine ag.cond (by rfl) (fun hne=>?_) (fun hne=>?_)<;>try simp only[bne_iff_ne,bne_eq_false_iff_eq,ne_eq] at hne
   ·refine qq<|qj fun K hK=>qm ?_;refine qg ?_;refine qp (o:=5) ?_;refine ql hH au ?_;refine qm ?_;refine qg ?_;refine qp (o:=6) ?_;refine ql hH au ?_;refine qm ?_;refine qm ?_;refine qm ?_;refine qe hK<|ag.ret ⟨rx,_,_,rfl,rl cA hH (rfl),?_⟩;exact⟨[],_,_,rfl,fun n hn=>(by cases hn),by simp⟩
   ·refine ag.skip<|qq<|qj fun K hK=>qm ?_;refine qm ?_;refine qm ?_;refine qm ?_;refine qe hK<|ag.ret ⟨rx,_,_,rfl,rl cA hH (rfl),?_⟩;exact⟨l,0,0,rfl,p5,by omega⟩
def uA (n:dW):Bool:=((n.op==2)||((n.rs.length:Nat):Int)==0) &&((n.op==5)||((n.mn==0) &&(n.mx==0) &&!n.lz)) &&((n.op==6)||(n.cap==0))
noncomputable def fH (n:dW) (g:Int):Int×Bool:=
 if uA n=false then(0,false)
 else if n.op=1∨n.op=7∨n.op=8 then(0,n.kids==0)
 else if n.op=2 then(0,(n.kids==0) &&fI n.rs)
 else if n.op=3∨n.op=4 then(n.kids,decide (n.kids≥2))
 else if n.op=5 then(1,(n.kids==1) &&decide (n.mn≥0) &&decide (n.mn≤30) &&((n.mx==-1)||(decide (n.mx≥n.mn) &&decide (n.mx≤30))))
 else if n.op=6 then(1,(n.kids==1) &&(n.cap==g+1) &&decide (n.cap≤4))
 else(0,false)
def jP (h:Nat→Nat→Option (Nat×Nat)):Nat→Nat→Nat→Option (Nat×Nat)
 |0,at_,g=>some (at_,g)
 |k+1,at_,g=>match h at_ g with
  |some r=>jP h k r.1 r.2
  |none=>none
noncomputable def iP (l:List dW):Nat→Nat→Nat→Option (Nat×Nat)
 |0,_,_=>none
 |f+1,at_,g=>match l[at_]? with
  |none=>none
  |some n=>if(fH n (g:Nat)).2=true then jP (iP l f) (fH n (g:Nat)).1.toNat (at_+1) (if n.op=6 then g+1 else g) else none
theorem vM {n:dW} {g:Nat} (h:(fH n (g:Nat)).2=true):wF n (fH n (g:Nat)).1.toNat∧0≤(fH n (g:Nat)).1∧(n.op=6→n.cap=g+1∧n.cap≤4):=by
 unfold fH at h⊢;unfold wF
 by_cases h0:uA n=false
 ·rw[if_pos h0] at h;cases h
 rw[if_neg h0] at h⊢
 by_cases h1:n.op=1∨n.op=7∨n.op=8
 ·rw[if_pos h1] at h⊢;simp only[beq_iff_eq] at h;exact⟨⟨h,.inl ⟨h1,rfl⟩⟩,Int.le_refl _,fun h6=>by omega⟩
 rw[if_neg h1] at h⊢
 by_cases h2:n.op=2
 ·rw[if_pos h2] at h⊢;simp only[Bool.and_eq_true,beq_iff_eq] at h;exact⟨⟨h.1,.inr (.inl ⟨h2,rfl⟩)⟩,Int.le_refl _,fun h6=>by omega⟩
 rw[if_neg h2] at h⊢
 by_cases h3:n.op=3∨n.op=4
 ·rw[if_pos h3] at h⊢;simp only[decide_eq_true_eq] at h;exact⟨⟨by simp only;omega,.inr (.inr (.inl ⟨h3,by simp only;omega⟩))⟩,by simp only;omega,fun h6=>by omega⟩
 rw[if_neg h3] at h⊢
 by_cases h5:n.op=5
 ·rw[if_pos h5] at h⊢;simp only[Bool.and_eq_true,Bool.or_eq_true,beq_iff_eq,decide_eq_true_eq] at h;exact⟨⟨by simp only;omega,.inr (.inr (.inr (.inl ⟨h5,by simp only;rfl,by omega,by omega,by omega⟩)))⟩,by simp only;omega,fun h6=>by omega⟩
 rw[if_neg h5] at h⊢
 by_cases h6:n.op=6
 ·rw[if_pos h6] at h⊢;simp only[Bool.and_eq_true,beq_iff_eq,decide_eq_true_eq] at h;exact⟨⟨by simp only;omega,.inr (.inr (.inr (.inr ⟨h6,by simp only;rfl,by omega,by omega⟩)))⟩,by simp only;omega,fun _=>⟨h.1.2,h.2⟩⟩
 rw[if_neg h6] at h;cases h
theorem fY.cons {α:Type} {L M:List α} {a:α} {at_:Nat} (h:L[at_]?=some a) (h2:fY L (at_+1) M):fY L at_ (a::M):=by
 obtain⟨post,h2⟩:=h2;refine⟨post,?_⟩;have h3:L[at_]'(bj h)=a:=Option.some.inj ((List.getElem?_eq_getElem _).symm.trans h);rw[List.drop_eq_getElem_cons (bj h),h2,h3];rfl
theorem fY.append {α:Type} {L M M':List α} {at_:Nat} (h:fY L at_ M) (h2:fY L (at_+M.length) M'):fY L at_ (M++M'):=by
 obtain⟨post,h⟩:=h;obtain⟨Sc,h2⟩:=h2;refine⟨Sc,?_⟩;rw[←List.drop_drop,h,List.drop_left] at h2;rw[h,h2,List.append_assoc]
theorem fY.none {α:Type} (L:List α) (at_:Nat):fY L at_ []:=⟨_,rfl⟩
theorem tB {l:List dW} {h:Nat→Nat→Option (Nat×Nat)} (ih:∀at_ g r,h at_ g=some r→∃t:Tr,t.ok∧fY l at_ t.flat∧r.1=at_+t.flat.length):∀k at_ g r,jP h k at_ g=some r→∃ts:bS,ts.len=k∧ts.ok∧fY l at_ ts.flat∧r.1=at_+ts.flat.length
 |0,at_,g,r,e=>by
  simp only[jP,Option.some.injEq] at e;subst e;exact⟨.nil,rfl,trivial,fY.none _ _,by simp[bS.flat]⟩
 |k+1,at_,g,r,e=>by
  unfold jP at e
  cases hq:h at_ g with
  |none=>rw[hq] at e;cases e
  |some q=>
   rw[hq] at e;obtain⟨t,t1,t2,t3⟩:=ih _ _ _ hq;obtain⟨ts,u1,u2,u3,u4⟩:=tB ih k _ _ _ e;rw[t3] at u3 u4;exact⟨.cons t ts,by simp[bS.len,u1],by simp only[bS.ok];exact⟨t1,u2⟩,by simp only[bS.flat];exact t2.append u3,by rw[u4];simp only[bS.flat,List.length_append];omega⟩
theorem wB {l:List dW}:∀f at_ g r,iP l f at_ g=some r→∃t:Tr,t.ok∧fY l at_ t.flat∧r.1=at_+t.flat.length
 |0,_,_,_,e=>by simp[iP] at e
 |f+1,at_,g,r,e=>by
  unfold iP at e
  cases hn:l[at_]? with
  |none=>rw[hn] at e;cases e
  |some n=>
   rw[hn] at e;simp only at e
   split at e
   ·rename_i hs;obtain⟨ts,u1,u2,u3,u4⟩:=tB (wB f) _ _ _ _ e;have:=(vM hs).1;rw[←u1] at this;exact⟨.mk n ts,by simp only[Tr.ok];exact⟨this,u2⟩,by simp only[Tr.flat];exact fY.cons hn u3,by rw[u4];simp only[Tr.flat,List.length_cons];omega⟩
   ·cases e
noncomputable def gD (l:List dW):Bool:=(decide (1≤l.length) &&decide (l.length≤480)) &&(match iP l 241 0 0 with|some r=>decide (r.1=l.length)|none=>false)
theorem qU {l:List dW} (h:gD l=true):∃t:Tr,t.ok∧t.flat=l:=by
 unfold gD at h;simp only[Bool.and_eq_true] at h;obtain⟨_,h⟩:=h
 split at h
 ·rename_i r hr;obtain⟨t,h1,⟨post,h2⟩,h3⟩:=wB _ _ _ _ hr;rw[decide_eq_true_eq] at h;refine⟨t,h1,?_⟩;rw[List.drop_zero] at h2;have h4:=congrArg List.length h2;rw[List.length_append] at h4;have h5:post=[]:=List.length_eq_zero_iff.1 (by omega);rw[h2,h5,List.append_nil]
 ·cases h
noncomputable def cZ (l:List dW):Tr:=@dite _ (∃t:Tr,t.ok∧t.flat=l) (Classical.propDecidable _) (fun h=>Classical.choose h) (fun _=>.mk ⟨0,.nul,[],0,0,false,0,0⟩ .nil)
theorem uf {l:List dW} (h:gD l=true):(cZ l).ok∧(cZ l).flat=l:=by
 unfold cZ;rw[dif_pos (qU h)];exact Classical.choose_spec (qU h)
theorem LW {n:dW} {k s:Nat}:min (bW n (min s 401) k) 401=min (bW n s k) 401:=by
 by_cases hs:s≤401
 ·rw[Nat.min_eq_left hs]
 ·have hx:min s 401=401:=by omega
  rw[hx];unfold bW
  split
  ·rfl
  ·split
   ·omega
   ·split
    ·omega
    ·split
     ·split
      ·omega
      ·by_cases h0:n.mn.toNat=0
       ·rw[h0]
        by_cases hd:n.mx.toNat-0=0
        ·rw[hd];simp
        ·have h1:=Nat.le_mul_of_pos_left (401+1) (show 0<n.mx.toNat-0 by omega);have h2:=Nat.le_mul_of_pos_left (s+1) (show 0<n.mx.toNat-0 by omega);omega
       ·have h1:=Nat.le_mul_of_pos_left 401 (show 0<n.mn.toNat by omega);have h2:=Nat.le_mul_of_pos_left s (show 0<n.mn.toNat by omega);omega
     ·omega
def e5 (t:Tr) (b r:Nat):List aJ:=dp 4 0 0 []::(aV t (b+1)++[dp 4 1 0 [],dp 7 (r:Nat) 0 []])
theorem lK {t:Tr} {b r:Nat} (h:t.ok):(e5 t b r).length=t.sz+3:=by
 unfold e5;rw[List.length_cons,List.length_append,cK t _ h];rfl
structure uc where
 code:List aJ
 az:List Int
 e:Int
 w:Int
noncomputable def fe:List (List dW)→Nat→List aJ→List Int→uc
 |[],_,c,s=>⟨c,s,0,0⟩
 |l::ls,r,c,s=>if gD l=false then⟨[],[],1,(r:Nat)⟩ else if 400<c.length+min (cZ l).sz 401+3 then⟨[],[],12,(r:Nat)⟩ else fe ls (r+1) (c++e5 (cZ l) c.length r) (s++[((c.length:Nat):Int)])
noncomputable def bF (rules:List (List dW)):uc:=if 8<rules.length then⟨[],[],13,8⟩ else fe rules 0 [] []
def pM (code:List aJ) (az:List Int):Pg:=⟨.sl ((code.map aG).map (kH 4)),code,Dx az,az⟩
def j4 (i:aJ):Prop:=i.rd=.sl ((i.rs.map ay).map (kH 2))∧i.rs.length≤1048576
theorem mT (op x y:Int):j4 (dp op x y []):=⟨rfl,by simp[dp]⟩
theorem Si (op x y:Int) {rs:List Rg} (h:rs.length≤1048576):j4 (dp op x y rs):=⟨rfl,h⟩
theorem Cz (s o:Nat) (lz:Bool):j4 (nX s o lz):=by unfold nX;split<;>exact mT _ _ _
theorem Mg (e:Nat):j4 (mZ e):=mT _ _ _
theorem yE {code:List aJ} (h:∀i∈code,j4 i):∀e∈code.map aG,∀d∈e,cy d=true:=by
 intro e he d hd;obtain⟨q,hq,rfl⟩:=List.mem_map.1 he;have hr:=(h q hq).1;simp only[aG,hr,List.mem_cons,List.not_mem_nil,or_false] at hd
 rcases hd with rfl|rfl|rfl|rfl<;>rfl
theorem Le (code:List aJ):∀e∈code.map aG,e.length=4:=by
 intro e he;obtain⟨q,_,rfl⟩:=List.mem_map.1 he;rfl
theorem CZ {code:List aJ} {az:List Int} (h:∀i∈code,j4 i) (h1:code.length≤1048576) (h2:az.length≤1048576):(pM code az).ok:=by
 refine⟨eH.frozen (Le code) (yE h),wS _,fun i hi=>?_,h1,h2⟩;obtain⟨h3,h4⟩:=h i hi;refine⟨?_,h4⟩;rw[h3];exact eH.frozen (lM _) (eO _)
theorem yc {c:Nat→List aJ} {z:Nat} (hc:∀b,∀i∈c b,j4 i):∀k b,∀i∈fJ c z k b,j4 i
 |0,b,i,hi=>by cases hi
 |k+1,b,i,hi=>by
  simp only[fJ] at hi
  rcases List.mem_append.1 hi with hi|hi
  ·exact hc b i hi
  ·exact yc hc k _ i hi
theorem C7 {sp:Nat→aJ} {c:Nat→List aJ} {z:Nat} (hs:∀s,j4 (sp s)) (hc:∀b,∀i∈c b,j4 i):∀k b,∀i∈fx sp c z k b,j4 i
 |0,b,i,hi=>by cases hi
 |k+1,b,i,hi=>by
  simp only[fx] at hi
  rcases List.mem_cons.1 hi with rfl|hi
  ·exact hs _
  ·rcases List.mem_append.1 hi with hi|hi
   ·exact hc _ i hi
   ·exact C7 hs hc k _ i hi
mutual
theorem pV:∀(t:Tr) (b:Nat),(∀n∈t.flat,n.rs.length≤1048576)→∀i∈aV t b,j4 i
 | .mk n ks,b,h,i,hi=>by
  simp only[Tr.flat] at h;have hn:=h n (List.mem_cons_self ..);have hk:∀n∈ks.flat,n.rs.length≤1048576:=fun m hm=>h m (List.mem_cons_of_mem _ hm);have hc:=fun b=>Ew ks b hk;have ha:=fun jp (hj:j4 jp) b=>EH jp hj ks b hk;simp only[aV] at hi
  split at hi
  ·simp only[List.mem_cons,List.not_mem_nil,or_false] at hi;subst hi;exact Si _ _ _ hn
  split at hi
  ·simp only[List.mem_cons,List.not_mem_nil,or_false] at hi;subst hi;exact mT _ _ _
  split at hi
  ·simp only[List.mem_cons,List.not_mem_nil,or_false] at hi;subst hi;exact mT _ _ _
  split at hi
  ·exact hc b i hi
  split at hi
  ·exact ha _ (Mg _) b i hi
  split at hi
  ·unfold n9 at hi
   split at hi
   ·rcases List.mem_append.1 hi with hi|hi
    ·exact yc hc _ _ i hi
    ·rcases List.mem_cons.1 hi with rfl|hi
     ·exact Cz _ _ _
     ·rcases List.mem_append.1 hi with hi|hi
      ·exact hc _ i hi
      ·simp only[List.mem_cons,List.not_mem_nil,or_false] at hi;subst hi;exact Mg _
   ·rcases List.mem_append.1 hi with hi|hi
    ·exact yc hc _ _ i hi
    ·exact C7 (fun s=>Cz _ _ _) hc _ _ i hi
  split at hi
  ·rcases List.mem_cons.1 hi with rfl|hi
   ·exact mT _ _ _
   ·rcases List.mem_append.1 hi with hi|hi
    ·exact hc _ i hi
    ·simp only[List.mem_cons,List.not_mem_nil,or_false] at hi;subst hi;exact mT _ _ _
  ·cases hi
theorem Ew:∀(ts:bS) (b:Nat),(∀n∈ts.flat,n.rs.length≤1048576)→∀i∈gj ts b,j4 i
 | .nil,b,_,i,hi=>by simp[gj] at hi
 | .cons t ts,b,h,i,hi=>by
  simp only[bS.flat] at h;simp only[gj] at hi
  rcases List.mem_append.1 hi with hi|hi
  ·exact pV t b (fun n hn=>h n (List.mem_append_left _ hn)) i hi
  ·exact Ew ts _ (fun n hn=>h n (List.mem_append_right _ hn)) i hi
theorem EH (jp:aJ) (hj:j4 jp):∀(ts:bS) (b:Nat),(∀n∈ts.flat,n.rs.length≤1048576)→∀i∈eZ jp ts b,j4 i
 | .nil,b,_,i,hi=>by simp[eZ] at hi
 | .cons t ts,b,h,i,hi=>by
  simp only[bS.flat] at h;have h1:∀n∈t.flat,n.rs.length≤1048576:=fun n hn=>h n (List.mem_append_left _ hn);have h2:∀n∈ts.flat,n.rs.length≤1048576:=fun n hn=>h n (List.mem_append_right _ hn);simp only[eZ] at hi
  split at hi
  ·exact pV t b h1 i hi
  ·rcases List.mem_cons.1 hi with rfl|hi
   ·exact Cz _ _ _
   ·rcases List.mem_append.1 hi with hi|hi
    ·exact pV t _ h1 i hi
    ·rcases List.mem_cons.1 hi with rfl|hi
     ·exact hj
     ·exact EH jp hj ts _ h2 i hi
end
theorem Fu {t:Tr} {b r:Nat} (h:∀n∈t.flat,n.rs.length≤1048576):∀i∈e5 t b r,j4 i:=by
 intro i hi;unfold e5 at hi
 rcases List.mem_cons.1 hi with rfl|hi
 ·exact mT _ _ _
 ·rcases List.mem_append.1 hi with hi|hi
  ·exact pV t _ h i hi
  ·simp only[List.mem_cons,List.not_mem_nil,or_false] at hi
   rcases hi with rfl|rfl
   ·exact mT _ _ _
   ·exact mT _ _ _
end Go.Proofs.YtbdnabmmlbiomaaGreat
