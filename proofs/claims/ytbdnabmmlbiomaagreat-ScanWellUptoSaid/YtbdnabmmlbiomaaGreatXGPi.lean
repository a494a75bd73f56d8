/-
 The parser of patterns: one thing; how often.
-/
import Derived.Test.YtbdnabmmlbiomaaGreatXGQa
import Derived.Test.YtbdnabmmlbiomaaGreatXGJf
set_option maxRecDepth 100000
set_option maxHeartbeats 4000000
set_option linter.unusedSimpArgs false
set_option linter.unusedVariables false
namespace Go.Proofs.YtbdnabmmlbiomaaGreat
open Go.V Go
def zL (fr:Go.V.Fr) (k:Nat):Go.V.D:=Go.V.nth .bD fr.loc k
theorem qM {gs:List (Nat×Nat)} {s:fU} {r:Int} (h:lP gs s.i r=false):dA gs s r=s:=by
 unfold dA;rw[if_neg (by rw[h];simp)]
theorem nB {gs:List (Nat×Nat)} {s:fU} {r:Int} (h:lP gs s.i r=true):(dA gs s r).i=s.i+1:=by
 unfold dA;rw[if_pos h]
theorem Nb {m:Nat} (hA:∀m',m'+1=m→mw m') {N k:Nat} {S s0:St} {H:List bJ} {gs:List (Nat×Nat)} {bZ:D} {cw:List Int} {s:fU} (bA:l0 gs cw) (he:s.e=0) (hi:s.i<gs.length) (hg:s.g≤4) (ho:s.o+m=20) (hH:Has N S s0 (.box k (.mem 0 false (bm gs bZ s))::.aO bZ 1 (cw.map aw)::H)):
  ∃d ai,Ev pv 151 [.ptr k 0 0] s0 d ai∧∃(s':fU),jO gs s s' d 2∧Has N S ai (.box k (.mem 0 false (bm gs bZ s'))::.aO bZ 1 (cw.map aw)::H):=by
 have uH:=bA.gl;have ib:=bA.pl;refine Ev.iD rfl VU rfl rfl rfl ?_;dsimp only[u3,u4,List.length,Nat.reduceSub,Nat.reduceAdd,w1,w2];have cX:=hH;have hH:=hH.c8;have cL:(ah .rw s0).bs=s0.bs:=rfl;generalize ah .rw s0=S2 at*;have MO:Arg N S2 2 (fP gs) (gs.map bo):=Arg.pure (fun st=>eH st gs)
 obtain⟨g,WW⟩:∃g,gs[s.i]?=some g:=⟨gs[s.i]'hi,List.getElem?_eq_getElem _⟩
 have gB:(gs.map bo)[s.i]?=some (bo g):=by rw[List.getElem?_map,WW];rfl
 have hwr:∀(st:St),Has N S2 st (.box k (.mem 0 false (bm gs bZ s))::.aO bZ 1 (cw.map aw)::H)→∃d ai,Ev pv 100 [.ptr k 0 0,.int .i64 (s.i:Nat),.int .i64 4] st d ai∧d=.sl []∧∃s4,jO gs s s4 (.sl []) 2∧Has N S2 ai (.box k (.mem 0 false (bm gs bZ s4))::.aO bZ 1 (cw.map aw)::H):=by
  intro st hH;obtain⟨d,ai,aL,h6,hH⟩:=dH (s:=s) s.i 4 (by omega) hH;obtain⟨w1,w2,w3,w4⟩:=dV (cw:=cw) (s:=s) (i:=s.i) (e:=4) he (by decide);exact⟨d,ai,aL,h6,_,gY w3 (by omega) (by omega) (by omega) w1,hH⟩
 have kK:∀(st:St) (s1:fU) (op:Int) (w:D) (a:List Rg) (kk:Nat),(w=bS a∨w=.nul∧a=[])→a.length≤1048576→s1.o=s.o→s1.g≤4→s.i<s1.i→s1.i≤gs.length→S2.bs.length≤kk→Has N S2 st (.aO (.win kk 0 0 1 7) 7 [[.int .i64 op,w,.int .i64 0,.int .i64 0,.bool false,.int .i64 0,.int .i64 0]]::.box k (.mem 0 false (bm gs bZ s1))::.aO bZ 1 (cw.map aw)::H)→
   ∃d ai,c_ .rw false s0 st (.win kk 0 0 1 7)=some (d,ai)∧∃(s':fU),jO gs s s' d 2∧Has N S ai (.box k (.mem 0 false (bm gs bZ s'))::.aO bZ 1 (cw.map aw)::H):=by
  intro st s1 op w a kk hw ha h1 h2 h3 h4 hk hH;have hfz:=jx hH av (L:=s0.bs.length) hw (fun k hk=>by simp only[D.ref] at hk;rw[←cL];omega);refine⟨_,_,au hfz,s1,⟨h1,h2,by omega,h4,_,rfl,Ep ha (by omega),by simp,?_⟩,cX.aD cL (hH.drop 1)⟩
  by_cases he:s1.e=0
  ·exact .inr ⟨he,by simp only[List.length_cons,List.length_nil];omega⟩
  ·exact .inl he
 refine qq<|qj fun K hK=>qm ?_;refine qe hK<|qq<|qj fun K hK=>qm ?_;refine qg ?_;refine qp (o:=2) ?_;refine ql hH av ?_;refine qm ?_;refine qe hK<|qq<|qq<|qj fun K hK=>qm ?_;refine qm ?_;obtain⟨_,st,aL,rfl,hH⟩:=Ax (s:=s) s.i hi hH;refine qv aL ?_;refine qe hK ?_;refine qc (fun hb=>?_) (fun hb=>?_)<;>try simp only[cs] at hb
 ·refine qq<|qj fun K hK=>qm ?_;refine qm ?_;obtain⟨_,st,aL,rfl,s4,hN,hH⟩:=hwr _ hH;refine qv aL ?_;refine qm ?_;refine qe hK<|ab.ret ⟨rx,_,_,_,rfl,au (rfl),?_⟩;exact⟨s4,hN,cX.aD cL hH⟩
 refine ab.skip<|qq<|qj fun K hK=>qm ?_;refine qg ?_;refine qp (o:=0) ?_;refine ql hH av ?_;refine qm ?_;refine qr fun TZ ER=>?_;refine qf (fo:=0) fun Xz RW=>?_;refine qR ?_;refine qm ?_;refine qe hK<|qq<|qj fun K hK=>qm ?_;refine qe hK<|ab.block<|qq<|qj fun K hK=>qg ?_;refine qm ?_;refine qe hK ?_;refine ab.cond (by rfl) (fun q40=>?_) (fun q40=>?_)<;>try simp only[beq_iff_eq,beq_eq_false_iff_ne,ne_eq] at q40
 ·refine qq<|qj fun K hK=>qm ?_;obtain⟨_,st,aL,s4,⟨p1,p2,p3,p4,l,rfl,p5,p6,p7⟩,hH⟩:=Fe hA bA he hi hg ho hH;refine qv aL ?_;refine qm ?_;refine qe hK<|ab.ret ⟨rx,_,_,_,rfl,au (rfl),?_⟩;exact⟨s4,⟨p1,p2,p3,p4,l,rfl,p5,p6,p7⟩,cX.aD cL hH⟩
 refine qq<|qj fun K hK=>qg ?_;refine qm ?_;refine qe hK ?_;refine ab.cond (by rfl) (fun SZ=>?_) (fun SZ=>?_)<;>try simp only[beq_iff_eq,beq_eq_false_iff_ne,ne_eq] at SZ
 ·refine qq<|qj fun K hK=>qm ?_;obtain⟨_,st,aL,s4,⟨p1,p2,p3,p4,l,rfl,p5,p6,p7⟩,hH⟩:=Fx bA he hi hg hH;refine qv aL ?_;refine qm ?_;refine qe hK<|ab.ret ⟨rx,_,_,_,rfl,au (rfl),?_⟩;exact⟨s4,⟨p1,p2,p3,p4,l,rfl,p5,p6,p7⟩,cX.aD cL hH⟩
 refine qq<|qj fun K hK=>qg ?_;refine qm ?_;refine qe hK ?_;refine ab.cond (by rfl) (fun q92=>?_) (fun q92=>?_)<;>try simp only[beq_iff_eq,beq_eq_false_iff_ne,ne_eq] at q92
 ·refine qq<|qj fun K hK=>qm ?_;obtain⟨_,st,aL,d1,b,s4,rfl,⟨p1,p2,p3,p4,p5,p6⟩,hH⟩:=AZ (s:=s) bA he hi hH;refine qv aL ?_;refine qm ?_;refine qg ?_;refine qg ?_;refine qm ?_;refine qm ?_;refine qe hK ?_
  have Vc:∀(st:St) (w:D) (a:List Rg) (kk:Nat),(w=bS a∨w=.nul∧a=[])→a.length≤8→S2.bs.length≤kk→Has N S2 st (.aO (.win kk 0 0 1 7) 7 [[.int .i64 2,w,.int .i64 0,.int .i64 0,.bool false,.int .i64 0,.int .i64 0]]::.box k (.mem 0 false (bm gs bZ s4))::.aO bZ 1 (cw.map aw)::H)→∃d ai,c_ .rw false s0 st (.win kk 0 0 1 7)=some (d,ai)∧∃(s':fU),jO gs s s' d 2∧Has N S ai (.box k (.mem 0 false (bm gs bZ s'))::.aO bZ 1 (cw.map aw)::H):=by
   intro st w a kk hw ha hk hH;have hfz:=jx hH av (L:=s0.bs.length) hw (fun k hk=>by simp only[D.ref] at hk;rw[←cL];omega);refine⟨_,_,au hfz,s4,⟨p1,by omega,by omega,p4,_,rfl,Ep (by omega) (by omega),by simp,?_⟩,cX.aD cL (hH.drop 1)⟩
   rcases p6 with p6|⟨p6,p7,_⟩
   ·exact .inl p6
   ·exact .inr ⟨p6,by simp only[List.length_cons,List.length_nil];omega⟩
  rcases p5 with rfl|⟨a,rfl,ha⟩
  ·refine qq<|qj fun K hK=>qm ?_;refine aa.gK (qs:=[(0,_),(1,_)]) rfl rfl rfl rfl ⟨rfl,(ev rfl),(by rfl),rfl,(ev rfl),(by rfl),trivial⟩ (by intro q hq;simp only[List.mem_cons,List.not_mem_nil,or_false] at hq;rcases hq with rfl|rfl<;>exact⟨rfl,by exact Nat.le_of_ble_eq_true rfl⟩) (by show List.foldl _ [_,_,_,_,_,_,_] _=_;dsimp only[List.foldl_cons,List.foldl_nil,u2,u1]<;>rfl) (ae rfl _) ?_;refine qh (s:=7) (vs:=[_]) hH fun k54 st R_ hH=>?_;dsimp only[u2,u1,u3,u4,setMany,u5,u6,D.cells,Nat.reduceAdd,bm,bo,aw,ax,bH] at hH;refine qm ?_;refine qe hK ?_;obtain⟨d',ai,wa,iF⟩:=Vc _ .nul [] k54 (.inr ⟨rfl,rfl⟩) (by simp) R_ hH;refine ab.ret ⟨rx,_,d',ai,rfl,wa,iF⟩
  ·refine qq<|qj fun K hK=>qm ?_;refine aa.gK (qs:=[(0,_),(1,_)]) rfl rfl rfl rfl ⟨rfl,(ev rfl),(by rfl),rfl,(ev rfl),(by rfl),trivial⟩ (by intro q hq;simp only[List.mem_cons,List.not_mem_nil,or_false] at hq;rcases hq with rfl|rfl<;>exact⟨rfl,by exact Nat.le_of_ble_eq_true rfl⟩) (by show List.foldl _ [_,_,_,_,_,_,_] _=_;dsimp only[List.foldl_cons,List.foldl_nil,u2,u1]<;>rfl) (ae rfl _) ?_;refine qh (s:=7) (vs:=[_]) hH fun k54 st R_ hH=>?_;dsimp only[u2,u1,u3,u4,setMany,u5,u6,D.cells,Nat.reduceAdd,bm,bo,aw,ax,bH] at hH;refine qm ?_;refine qe hK ?_;obtain⟨d',ai,wa,iF⟩:=Vc _ (bS a) a k54 (.inl rfl) ha R_ hH;refine ab.ret ⟨rx,_,d',ai,rfl,wa,iF⟩
 refine qq<|qj fun K hK=>qg ?_;refine qm ?_;refine qe hK ?_;refine ab.cond (by rfl) (fun q46=>?_) (fun q46=>?_)<;>try simp only[beq_iff_eq,beq_eq_false_iff_ne,ne_eq] at q46
 ·refine qq<|qj fun K hK=>qm ?_;refine qg ?_;refine qp (o:=2) ?_;refine ql hH av ?_;refine qA ?_;refine qg ?_;refine qp (o:=2) ?_;refine qT hH av fun st hH=>?_;dsimp only[u2,u1,u3,u4,setMany,u5,u6,D.cells,Nat.reduceAdd,bm,bo,aw,ax,bH] at hH;refine qe hK ?_;obtain⟨_,Y2,a,rfl,hla⟩:=SF (s0:=st);refine qq<|qj fun K hK=>qv (Y2) ?_;refine aa.gK (qs:=[(0,_),(1,_)]) rfl rfl rfl rfl ⟨rfl,(ev rfl),(by rfl),rfl,(ev rfl),(by rfl),trivial⟩ (by intro q hq;simp only[List.mem_cons,List.not_mem_nil,or_false] at hq;rcases hq with rfl|rfl<;>exact⟨rfl,by exact Nat.le_of_ble_eq_true rfl⟩) (by show List.foldl _ [_,_,_,_,_,_,_] _=_;dsimp only[List.foldl_cons,List.foldl_nil,u2,u1]<;>rfl) (ae rfl _) ?_;refine qh (s:=7) (vs:=[_]) hH fun k66 st YB hH=>?_;refine qm ?_;refine qe hK ?_;obtain⟨d',ai,wa,iF⟩:=kK _ {s with i:=s.i+1} 2 (bS a) a k66 (.inl rfl) (by omega) rfl hg (by show s.i<s.i+1;omega) (by show s.i+1≤_;omega) YB hH;refine ab.ret ⟨rx,_,d',ai,rfl,wa,iF⟩
 refine qq<|qj fun K hK=>qg ?_;refine qm ?_;refine qe hK ?_;refine ab.cond (by rfl) (fun q94=>?_) (fun q94=>?_)<;>try simp only[beq_iff_eq,beq_eq_false_iff_ne,ne_eq] at q94
 ·refine qq<|qj fun K hK=>qm ?_;refine qg ?_;refine qp (o:=2) ?_;refine ql hH av ?_;refine qA ?_;refine qg ?_;refine qp (o:=2) ?_;refine qT hH av fun st hH=>?_;dsimp only[u2,u1,u3,u4,setMany,u5,u6,D.cells,Nat.reduceAdd,bm,bo,aw,ax,bH] at hH;refine qe hK<|qq<|qj fun K hK=>aa.go (d:=.agg [.int .i64 7,.nul,.int .i64 0,.int .i64 0,.bool false,.int .i64 0,.int .i64 0]) (st1:=_) rfl rfl rfl (ae rfl _) ?_;refine qh (s:=7) (vs:=[_]) hH fun k77 st UZ hH=>?_;refine qm ?_;refine qe hK ?_;obtain⟨d',ai,wa,iF⟩:=kK _ {s with i:=s.i+1} 7 .nul [] k77 (.inr ⟨rfl,rfl⟩) (by simp) rfl hg (by show s.i<s.i+1;omega) (by show s.i+1≤_;omega) UZ hH;refine ab.ret ⟨rx,_,d',ai,rfl,wa,iF⟩
 refine qq<|qj fun K hK=>qg ?_;refine qm ?_;refine qe hK ?_;refine ab.cond (by rfl) (fun q36=>?_) (fun q36=>?_)<;>try simp only[beq_iff_eq,beq_eq_false_iff_ne,ne_eq] at q36
 ·refine qq<|qj fun K hK=>qm ?_;refine qg ?_;refine qp (o:=2) ?_;refine ql hH av ?_;refine qA ?_;refine qg ?_;refine qp (o:=2) ?_;refine qT hH av fun st hH=>?_;dsimp only[u2,u1,u3,u4,setMany,u5,u6,D.cells,Nat.reduceAdd,bm,bo,aw,ax,bH] at hH;refine qe hK<|qq<|qj fun K hK=>aa.go (d:=.agg [.int .i64 8,.nul,.int .i64 0,.int .i64 0,.bool false,.int .i64 0,.int .i64 0]) (st1:=_) rfl rfl rfl (ae rfl _) ?_;refine qh (s:=7) (vs:=[_]) hH fun k88 st UY hH=>?_;refine qm ?_;refine qe hK ?_;obtain⟨d',ai,wa,iF⟩:=kK _ {s with i:=s.i+1} 8 .nul [] k88 (.inr ⟨rfl,rfl⟩) (by simp) rfl hg (by show s.i<s.i+1;omega) (by show s.i+1≤_;omega) UY hH;refine ab.ret ⟨rx,_,d',ai,rfl,wa,iF⟩
 refine qq<|qq<|qj fun K hK=>qg ?_;refine qm ?_;refine qe hK ?_
 by_cases c42:((g.1:Nat):Int)=42
 ·refine qD rfl (by simp[c42]) ?_;refine ab.skip<|qD rfl (by simp[c42]) ?_;refine qq<|qj fun K hK=>qm ?_;refine qm ?_;obtain⟨_,st,aL,rfl,s4,hN,hH⟩:=hwr _ hH;refine qv aL ?_;refine qm ?_;refine qe hK<|ab.ret ⟨rx,_,_,_,rfl,au (rfl),?_⟩;exact⟨s4,hN,cX.aD cL hH⟩
 refine qE rfl (by simp[c42]) ?_;refine qq<|qj fun K hK=>qg ?_;refine qm ?_;refine qe hK ?_
 by_cases c43:((g.1:Nat):Int)=43
 ·refine qD rfl (by simp[c43]) ?_;refine ab.skip<|qD rfl (by simp[c43]) ?_;refine qq<|qj fun K hK=>qm ?_;refine qm ?_;obtain⟨_,st,aL,rfl,s4,hN,hH⟩:=hwr _ hH;refine qv aL ?_;refine qm ?_;refine qe hK<|ab.ret ⟨rx,_,_,_,rfl,au (rfl),?_⟩;exact⟨s4,hN,cX.aD cL hH⟩
 refine qE rfl (by simp[c43]) ?_;refine qq<|qj fun K hK=>qg ?_;refine qm ?_;refine qe hK ?_
 by_cases c63:((g.1:Nat):Int)=63
 ·refine qD rfl (by simp[c63]) ?_;refine ab.skip<|qD rfl (by simp[c63]) ?_;refine qq<|qj fun K hK=>qm ?_;refine qm ?_;obtain⟨_,st,aL,rfl,s4,hN,hH⟩:=hwr _ hH;refine qv aL ?_;refine qm ?_;refine qe hK<|ab.ret ⟨rx,_,_,_,rfl,au (rfl),?_⟩;exact⟨s4,hN,cX.aD cL hH⟩
 refine qE rfl (by simp[c63]) ?_;refine qq<|qj fun K hK=>qg ?_;refine qm ?_;refine qe hK ?_
 by_cases c41:((g.1:Nat):Int)=41
 ·refine qD rfl (by simp[c41]) ?_;refine ab.skip<|qD rfl (by simp[c41]) ?_;refine qq<|qj fun K hK=>qm ?_;refine qm ?_;obtain⟨_,st,aL,rfl,s4,hN,hH⟩:=hwr _ hH;refine qv aL ?_;refine qm ?_;refine qe hK<|ab.ret ⟨rx,_,_,_,rfl,au (rfl),?_⟩;exact⟨s4,hN,cX.aD cL hH⟩
 refine qE rfl (by simp[c41]) ?_;refine qq<|qj fun K hK=>qg ?_;refine qm ?_;refine qe hK ?_
 by_cases c93:((g.1:Nat):Int)=93
 ·refine qD rfl (by simp[c93]) ?_;refine ab.skip<|qD rfl (by simp[c93]) ?_;refine qq<|qj fun K hK=>qm ?_;refine qm ?_;obtain⟨_,st,aL,rfl,s4,hN,hH⟩:=hwr _ hH;refine qv aL ?_;refine qm ?_;refine qe hK<|ab.ret ⟨rx,_,_,_,rfl,au (rfl),?_⟩;exact⟨s4,hN,cX.aD cL hH⟩
 refine qE rfl (by simp[c93]) ?_;refine qq<|qj fun K hK=>qg ?_;refine qm ?_;refine qe hK ?_
 by_cases SL:((g.1:Nat):Int)=123
 ·refine qD rfl (by simp[SL]) ?_;refine ab.skip<|qD rfl (by simp[SL]) ?_;refine qq<|qj fun K hK=>qm ?_;refine qm ?_;obtain⟨_,st,aL,rfl,s4,hN,hH⟩:=hwr _ hH;refine qv aL ?_;refine qm ?_;refine qe hK<|ab.ret ⟨rx,_,_,_,rfl,au (rfl),?_⟩;exact⟨s4,hN,cX.aD cL hH⟩
 refine qE rfl (by simp[SL]) ?_;refine qq<|qj fun K hK=>qg ?_;refine qm ?_;refine qe hK ?_
 by_cases SK:((g.1:Nat):Int)=125
 ·refine qD rfl (by simp[SK]) ?_;refine ab.skip<|qD rfl (by simp[SK]) ?_;refine qq<|qj fun K hK=>qm ?_;refine qm ?_;obtain⟨_,st,aL,rfl,s4,hN,hH⟩:=hwr _ hH;refine qv aL ?_;refine qm ?_;refine qe hK<|ab.ret ⟨rx,_,_,_,rfl,au (rfl),?_⟩;exact⟨s4,hN,cX.aD cL hH⟩
 refine qE rfl (by simp[SK]) ?_;refine qj fun K hK=>qg ?_;refine qm ?_;refine qe hK ?_
 by_cases Wz:((g.1:Nat):Int)=124
 ·refine qD rfl (by simp[Wz]) ?_;refine qq<|qj fun K hK=>qm ?_;refine qm ?_;obtain⟨_,st,aL,rfl,s4,hN,hH⟩:=hwr _ hH;refine qv aL ?_;refine qm ?_;refine qe hK<|ab.ret ⟨rx,_,_,_,rfl,au (rfl),?_⟩;exact⟨s4,hN,cX.aD cL hH⟩
 refine qE rfl (by simp[Wz]) ?_;refine qq<|qj fun K hK=>qm ?_;refine qg ?_;refine qp (o:=2) ?_;refine ql hH av ?_;refine qA ?_;refine qg ?_;refine qp (o:=2) ?_;refine qT hH av fun st hH=>?_;dsimp only[u2,u1,u3,u4,setMany,u5,u6,D.cells,Nat.reduceAdd,bm,bo,aw,ax,bH] at hH;refine qe hK ?_;obtain⟨_,zX,_⟩:=nG (s0:=s0) (x:=bS [(((g.1:Nat):Int),((g.1:Nat):Int))]) (l:=[(((g.1:Nat):Int),((g.1:Nat):Int))]) (fh _ _) (by simp);simp only[List.length_cons,List.length_nil] at zX;refine qq<|qj fun K hK=>qm ?_;refine qv (jV _) ?_;refine aa.gK (qs:=[(0,_),(1,_)]) rfl rfl rfl rfl ⟨rfl,(ev rfl),(by rfl),rfl,(ev rfl),(by rfl),trivial⟩ (by intro q hq;simp only[List.mem_cons,List.not_mem_nil,or_false] at hq;rcases hq with rfl|rfl<;>exact⟨rfl,by exact Nat.le_of_ble_eq_true rfl⟩) (by show List.foldl _ [_,_,_,_,_,_,_] _=_;dsimp only[List.foldl_cons,List.foldl_nil,u2,u1]<;>rfl) (ae rfl _) ?_;refine qh (s:=7) (vs:=[_]) hH fun k36 st U1 hH=>?_;refine qm ?_;refine qe hK ?_;obtain⟨d',ai,wa,iF⟩:=kK _ {s with i:=s.i+1} 2 _ _ k36 (.inl rfl) (by omega) rfl hg (by show s.i<s.i+1;omega) (by show s.i+1≤_;omega) U1 hH;refine ab.ret ⟨rx,_,d',ai,rfl,wa,iF⟩
theorem DS {m:Nat} (hA:∀m',m'+1=m→mw m') {N k:Nat} {S s0:St} {H:List bJ} {gs:List (Nat×Nat)} {bZ:D} {cw:List Int} {s:fU} (bA:l0 gs cw) (he:s.e=0) (hi:s.i<gs.length) (hg:s.g≤4) (ho:s.o+m=20) (hH:Has N S s0 (.box k (.mem 0 false (bm gs bZ s))::.aO bZ 1 (cw.map aw)::H)):
  ∃d ai,Ev pv 144 [.ptr k 0 0] s0 d ai∧∃(s':fU),jO gs s s' d 1∧Has N S ai (.box k (.mem 0 false (bm gs bZ s'))::.aO bZ 1 (cw.map aw)::H):=by
 have uH:=bA.gl;have ib:=bA.pl;refine Ev.iD rfl VZ rfl rfl rfl ?_;dsimp only[u3,u4,List.length,Nat.reduceSub,Nat.reduceAdd,w1,w2];have cX:=hH;have hH:=hH.c8;have cL:(ah .rw s0).bs=s0.bs:=rfl;generalize ah .rw s0=S2 at*;refine qq<|qj fun K hK=>qm ?_;refine qe hK<|qq<|qj fun K hK=>qm ?_;obtain⟨_,st,aL,s1,⟨p1,p2,p3,p4,l,rfl,p5,p6,p7⟩,hH⟩:=Nb hA bA he hi hg ho hH;refine qv aL ?_;refine qm ?_;refine qe hK<|qq<|qq<|qj fun K hK=>qm ?_;refine qg ?_;refine qp (o:=5) ?_;refine ql hH av ?_;refine qg ?_;refine qe hK ?_
 rcases p7 with p7|⟨p7,p8⟩
 ·refine qD rfl (by simp[p7]) ?_;refine qq<|qj fun K hK=>qm ?_;refine qe hK<|ab.ret ⟨rx,_,_,_,rfl,au (rfl),?_⟩;exact⟨s1,gY p1 p2 p3 p4 p7,cX.aD cL hH⟩
 refine qE rfl (by simp[p7]) ?_;refine ab.skip<|qq<|qj fun K hK=>aa.go (d:=.agg [.int .i64 5,.nul,.int .i64 0,.int .i64 0,.bool false,.int .i64 0,.int .i64 1]) (st1:=_) rfl rfl rfl (ae rfl _) ?_;refine qa hH fun k4 st Tf hH=>?_;dsimp only[u2,u1,u3,u4,setMany,u5,u6,D.cells,Nat.reduceAdd,bm,bo,aw,ax,bH] at hH;refine qS hH av fun st hH=>?_;dsimp only[u2,u1,u3,u4,setMany,u5,u6,D.cells,Nat.reduceAdd,bm,bo,aw,ax,bH] at hH;refine qe hK ?_;have hH:Has N S2 st (.box k (.mem 0 false (bm gs bZ s1))::.aO bZ 1 (cw.map aw)::.box k4 (.mem 0 false [.int .i64 5,.nul,.int .i64 0,.int .i64 0,.bool false,.int .i64 0,.int .i64 1])::H):=oo hH;refine qq<|ab.merge (fun fr st=>∃(mn mx:Int) (s2:fU) (tmp:List (Nat×D)),fr=⟨5,[.ptr k 0 0,zL fr 1,zL fr 2,wE l,.ptr k4 0 0],tmp⟩∧Has N S2 st (.box k (.mem 0 false (bm gs bZ s2))::.aO bZ 1 (cw.map aw)::.box k4 (.mem 0 false [.int .i64 5,.nul,.int .i64 mn,.int .i64 mx,.bool false,.int .i64 0,.int .i64 1])::H)∧(s2.o=s.o)∧(s2.g≤4)∧(s1.i<s2.i)∧(s2.i≤gs.length)) ?_ ?_
 ·refine ab.block<|qq<|qj fun K hK=>qm ?_;obtain⟨_,st,aL,rfl,hH⟩:=eO (s:=s1) (by omega) 42 hH;refine qv aL ?_;refine qm ?_;refine qe hK ?_
  cases hb1:lP gs s1.i 42 with
  |true=>
   obtain⟨k1,k2,k3,XJ,k5⟩:=iv (gs:=gs) (s:=s1) (r:=42);have k6:=nB hb1;have k7:=k5 p4;generalize dA gs s1 42=s2 at*;refine qB ?_;refine qj fun K hK=>qp (o:=3) ?_;refine qT hH dF fun st hH=>?_;dsimp only[u2,u1,u3,u4,setMany,u5,u6,D.cells,Nat.reduceAdd,bm,bo,aw,ax,bH] at hH;refine qe hK ?_;exact⟨0,-1,s2,_,rfl,hH,by omega,by omega,by omega,k7⟩
  |false=>
   rw[qM hb1] at hH;refine qC ?_;refine qq<|qj fun K hK=>qm ?_;obtain⟨_,st,aL,rfl,hH⟩:=eO (s:=s1) (by omega) 43 hH;refine qv aL ?_;refine qm ?_;refine qe hK ?_
   cases hb2:lP gs s1.i 43 with
   |true=>
    obtain⟨k1,k2,k3,XJ,k5⟩:=iv (gs:=gs) (s:=s1) (r:=43);have k6:=nB hb2;have k7:=k5 p4;generalize dA gs s1 43=s2 at*;refine qB ?_;refine qj fun K hK=>qp (o:=2) ?_;refine qT hH dF fun st hH=>?_;dsimp only[u2,u1,u3,u4,setMany,u5,u6,D.cells,Nat.reduceAdd,bm,bo,aw,ax,bH] at hH;refine qp (o:=3) ?_;refine qT hH dF fun st hH=>?_;dsimp only[u2,u1,u3,u4,setMany,u5,u6,D.cells,Nat.reduceAdd,bm,bo,aw,ax,bH] at hH;refine qe hK ?_;exact⟨1,-1,s2,_,rfl,hH,by omega,by omega,by omega,k7⟩
   |false=>
    rw[qM hb2] at hH;refine qC ?_;refine qq<|qj fun K hK=>qm ?_;obtain⟨_,st,aL,rfl,hH⟩:=eO (s:=s1) (by omega) 63 hH;refine qv aL ?_;refine qm ?_;refine qe hK ?_
    cases Vl:lP gs s1.i 63 with
    |true=>
     obtain⟨k1,k2,k3,XJ,k5⟩:=iv (gs:=gs) (s:=s1) (r:=63);have k6:=nB Vl;have k7:=k5 p4;generalize dA gs s1 63=s2 at*;refine qB ?_;refine qj fun K hK=>qp (o:=3) ?_;refine qT hH dF fun st hH=>?_;dsimp only[u2,u1,u3,u4,setMany,u5,u6,D.cells,Nat.reduceAdd,bm,bo,aw,ax,bH] at hH;refine qe hK ?_;exact⟨0,1,s2,_,rfl,hH,by omega,by omega,by omega,k7⟩
    |false=>
     rw[qM Vl] at hH;refine qC ?_;refine qq<|qj fun K hK=>qm ?_;obtain⟨_,st,aL,rfl,hH⟩:=pM (s:=s1) (by omega) 123 hH;refine qv aL ?_;refine qm ?_;refine qe hK ?_
     cases hb4:lP gs s1.i 123 with
     |true=>
      have hlt:=sm hb4;refine qB ?_;refine qj fun K hK=>qm ?_;obtain⟨_,st,aL,n1,n2,s2,rfl,⟨m1,m2,m3,m4⟩,hH⟩:=Ed bA p7 hlt hH;refine qv aL ?_;refine qm ?_;refine qg ?_;refine qg ?_;refine qp (o:=2) ?_;refine qT hH dF fun st hH=>?_;dsimp only[u2,u1,u3,u4,setMany,u5,u6,D.cells,Nat.reduceAdd,bm,bo,aw,ax,bH] at hH;refine qp (o:=3) ?_;refine qT hH dF fun st hH=>?_;dsimp only[u2,u1,u3,u4,setMany,u5,u6,D.cells,Nat.reduceAdd,bm,bo,aw,ax,bH] at hH;refine qe hK ?_;exact⟨n1,n2,s2,_,rfl,hH,by omega,by omega,m3,m4⟩
     |false=>
      refine qC ?_;refine qq<|qj fun K hK=>qm ?_;refine qm ?_;refine qe hK<|ab.ret ⟨rx,_,_,_,rfl,au (rfl),?_⟩;exact⟨s1,⟨p1,p2,p3,p4,l,rfl,p5,p6,.inr ⟨p7,by omega⟩⟩,cX.aD cL (hH.erase 2)⟩
 ·rintro fr st ⟨mn,mx,s2,tmp,hfr,hH,h1,h2,h3,h4⟩;rw[hfr];clear hfr;generalize zL fr=ee;clear fr;refine qq<|qq<|qj fun K hK=>qm ?_;refine qg ?_;refine qp (o:=5) ?_;refine ql hH av ?_;refine qg ?_;refine qe hK ?_
  by_cases wI:s2.e=0
  ·refine qE rfl (by simp[wI]) ?_;refine ab.skip ?_;obtain⟨k1,k2,k3,XJ,k5⟩:=iv (gs:=gs) (s:=s2) (r:=63);have k7:=k5 h4;refine qq<|qj fun K hK=>qm ?_;obtain⟨_,st,aL,rfl,hH⟩:=eO (s:=s2) (by omega) 63 hH;refine qv aL ?_;refine qp (o:=4) ?_;refine qT hH dF fun st hH=>?_;dsimp only[u2,u1,u3,u4,setMany,u5,u6,D.cells,Nat.reduceAdd,bm,bo,aw,ax,bH] at hH;refine qe hK ?_;generalize dA gs s2 63=s3 at*;generalize lP gs s2.i 63=lz at*;have hla:=(uh p5).arg N S2;refine qq<|qj fun K hK=>?_;refine aa.aF (m:=7) hH rfl (ev rfl) (by exact dF) (by dsimp only[List.drop_succ_cons,List.drop_zero,List.take_succ_cons,List.take_zero,bm,bo,aw,ax,bH]<;>rfl) rfl rfl (ae rfl _) ?_;refine qh (s:=7) (vs:=[_]) hH fun k46 st abE hH=>?_;refine qm ?_;refine aa.sH (s:=7) hH rfl (ev rfl) (ev rfl) av ((uh p5).rows st) rfl rfl rfl rfl rfl rfl rfl ⟨(Nat.le_of_ble_eq_true rfl),(Nat.le_of_ble_eq_true rfl)⟩ (fun _=>(ae rfl _)) (by simp only[List.length_map,List.length_cons,List.length_nil];omega) (.inr (ug p5)) (fun k hk=>by have kM:k46+1=k+1:=hk;omega) (fun Tq st NF hH=>?_);dsimp only[u2] at hH;refine qm ?_;refine qe hK ?_;have hH:Has N S2 st (.aO Tq 7 ([.int .i64 5,.nul,.int .i64 mn,.int .i64 mx,.bool lz,.int .i64 0,.int .i64 1]::l.map bH)::.box k (.mem 0 false (bm gs bZ s3))::.aO bZ 1 (cw.map aw)::.box k4 (.mem 0 false [.int .i64 5,.nul,.int .i64 mn,.int .i64 mx,.bool lz,.int .i64 0,.int .i64 1])::H):=hH
   have hfz:=jw (L:=s0.bs.length) (l:=vD 5 mn mx lz 0 1 []::l) hH av (by rw[List.map_cons,vB p5];rfl) (fun e he d hd=>by
    rcases List.mem_cons.1 he with rfl|he
    ·simp only[List.mem_cons,List.not_mem_nil,or_false] at hd
     rcases hd with rfl|rfl|rfl|rfl|rfl|rfl|rfl<;>rfl
    ·exact rQ p5 e he d hd) (fun k hk=>by rw[←cL];exact NF k hk) (n:=16) (by decide)
   refine ab.ret ⟨rx,_,_,_,rfl,au hfz,⟨s3,⟨by omega,by omega,by omega,k7,_,rfl,?_,by simp only[List.length_cons];omega,.inr ⟨by omega,by simp only[List.length_cons];omega⟩⟩,cX.aD cL ((hH.drop 1).erase 2)⟩⟩;intro n hn
   rcases List.mem_cons.1 hn with rfl|hn
   ·exact⟨rfl,by simp[vD],by simp[vD]⟩
   ·exact p5 n hn
  ·refine qD rfl (by simp[wI]) ?_;refine qq<|qj fun K hK=>qm ?_;refine qe hK<|ab.ret ⟨rx,_,_,_,rfl,au (rfl),?_⟩;exact⟨s2,gY h1 h2 (by omega) h4 wI,cX.aD cL (hH.erase 2)⟩
def o3 (fr:Go.V.Fr) (k:Nat):Go.V.D:=Go.V.nth .bD fr.loc k
theorem FB {m:Nat} (hA:∀m',m'+1=m→mw m') {N k:Nat} {S s0:St} {H:List bJ} {gs:List (Nat×Nat)} {bZ:D} {cw:List Int} {s:fU} (bA:l0 gs cw) (he:s.e=0) (hi:s.i≤gs.length) (hg:s.g≤4) (ho:s.o+m=20) (hH:Has N S s0 (.box k (.mem 0 false (bm gs bZ s))::.aO bZ 1 (cw.map aw)::H)):
  ∃d ai,Ev pv 129 [.ptr k 0 0] s0 d ai∧∃(s':fU),wC gs s s' d∧Has N S ai (.box k (.mem 0 false (bm gs bZ s'))::.aO bZ 1 (cw.map aw)::H):=by
 have uH:=bA.gl;have ib:=bA.pl;refine Ev.iD rfl V_ rfl rfl rfl ?_;dsimp only[u3,u4,List.length,Nat.reduceSub,Nat.reduceAdd,w1,w2];have cX:=hH;have hH:=hH.c8;have cL:(ah .rw s0).bs=s0.bs:=rfl;generalize ah .rw s0=S2 at*;have MO:Arg N S2 2 (fP gs) (gs.map bo):=Arg.pure (fun st=>eH st gs);refine qq ?_;refine qj fun K hK=>?_;refine qm ?_;refine qe hK ?_;refine qq ?_;refine qj fun K hK=>?_;refine qm ?_;refine qe hK ?_;have hH:Has N S2 S2 (.box k (.mem 0 false (bm gs bZ s))::.aO bZ 1 (cw.map aw)::.aO .nul 1 (([]:List (List ej)).map eP)::H):=oo (hH.ew 1);refine qq ?_;refine ab.block ?_;refine ab.loop (fun mm fr st=>∃(s1:fU) (pd:D) (parts:List (List ej)),fr.clean=⟨4,[.ptr k 0 0,o3 fr 1,o3 fr 2,pd],[]⟩∧Has N S2 st (.box k (.mem 0 false (bm gs bZ s1))::.aO bZ 1 (cw.map aw)::.aO pd 1 (parts.map eP)::H)∧(s1.o=s.o)∧(s1.g≤4)∧(s.i≤s1.i)∧(s1.i≤gs.length)∧(∀l∈parts,∀n∈l,wL n)∧(gm parts+parts.length≤4*(s1.i-s.i)+2)∧(s1.e=0→gm parts+parts.length≤4*(s1.i-s.i))∧(gs.length-s1.i+(if s1.e=0 then 1 else 0)≤mm)) (gs.length+1) ?_ ?_
 ·exact⟨s,.nul,[],rfl,hH,rfl,hg,Nat.le_refl _,hi,fun l hl=>(by cases hl),by simp[gm],fun _=>by simp[gm],by split<;>omega⟩
 rintro mm fr st ⟨s1,pd,parts,hfr,hH,h1,h2,h3,h4,h5,h6,h7,yX⟩;rw[hfr];clear hfr;generalize o3 fr=ee;clear fr
 have sC:∀st:St,Has N S2 st (.box k (.mem 0 false (bm gs bZ s1))::.aO bZ 1 (cw.map aw)::.aO pd 1 (parts.map eP)::H)→∃d,Ev pv 131 [.int .i64 3,pd] st d st∧wC gs s s1 d∧∃l,d=wE l:=by
  intro st hH;obtain⟨_,aL,l,rfl,j1,j2,j3⟩:=uD 3 (hH.rows dF) h5 (by omega) (by omega);refine⟨_,aL,⟨h1,h2,h3,h4,l,rfl,j1,?_⟩,l,rfl⟩
  by_cases q1:parts.length=1
  ·have:=j2 q1;omega
  ·by_cases q0:parts.length=0
   ·have:parts=[]:=List.length_eq_zero_iff.1 q0;rw[this] at j3 h6;simp[gm] at j3 h6;omega
   ·omega
 by_cases kZ:s1.e=0
 ·rw[if_pos kZ] at yX;have h7:=h7 kZ;have bk:(s1.e==0)=true:=by simpa using kZ
  by_cases hlt:s1.i<gs.length
  ·have aW:decide (((s1.i:Nat):Int)<((gs.length:Nat):Int))=true:=by rw[decide_eq_true_eq];omega
   cases bQ:(!lP gs s1.i 124) with
   |false=>
    refine qq ?_;refine qq ?_;refine qj fun K hK=>?_;refine qm ?_;refine qg ?_;refine qp (o:=5) ?_;refine ql hH av ?_;refine qg ?_;refine qm ?_;refine qm ?_ (hg:=wi bk);refine qg ?_ (hg:=wi bk);refine qp (o:=2) ?_ (hg:=wi bk);refine ql hH av ?_ (hg:=wi bk);refine qm ?_ (hg:=wi bk);refine qg ?_ (hg:=wi bk);refine qp (o:=0) ?_ (hg:=wi bk);refine ql hH av ?_ (hg:=wi bk);refine qn ?_ (hg:=wi bk);simp only[List.length_map];refine qg ?_ (hg:=wi bk);refine qt bk ?_;refine qm ?_;refine qm ?_ (hg:=wi aW);obtain⟨_,st,aL,rfl,hH⟩:=pM (s:=s1) (by omega) 124 hH;refine qv aL ?_ (hg:=wi aW);refine qg ?_ (hg:=wi aW);refine qt aW ?_;refine qm ?_;refine qs ?_ (hg:=wn bQ);refine qs ?_ (hg:=wn bQ);refine qs ?_ (hg:=wn bQ);refine qs ?_;refine qs ?_;refine qs ?_;refine qs ?_;refine qs ?_;refine qs ?_ (hg:=wn bQ);refine qs ?_ (hg:=wn bQ);refine qu bQ ?_;refine qe hK ?_;refine qC ?_;refine ab.exit ?_;obtain⟨_,EY,hQ,l,rfl⟩:=sC _ hH;refine qq ?_;refine qj fun K hK=>?_;refine qm ?_;refine qv (EY) ?_;refine qm ?_;refine qe hK ?_;refine ab.ret ⟨rx,_,_,_,rfl,au (rfl),?_⟩;exact⟨s1,hQ,cX.aD cL (hH.erase 2)⟩
   |true=>
    cases bK:lP gs s1.i 41 with
    |false=>
     refine qq ?_;refine qq ?_;refine qj fun K hK=>?_;refine qm ?_;refine qg ?_;refine qp (o:=5) ?_;refine ql hH av ?_;refine qg ?_;refine qm ?_;refine qm ?_ (hg:=wi bk);refine qg ?_ (hg:=wi bk);refine qp (o:=2) ?_ (hg:=wi bk);refine ql hH av ?_ (hg:=wi bk);refine qm ?_ (hg:=wi bk);refine qg ?_ (hg:=wi bk);refine qp (o:=0) ?_ (hg:=wi bk);refine ql hH av ?_ (hg:=wi bk);refine qn ?_ (hg:=wi bk);simp only[List.length_map];refine qg ?_ (hg:=wi bk);refine qt bk ?_;refine qm ?_;refine qm ?_ (hg:=wi aW);obtain⟨_,st,aL,rfl,hH⟩:=pM (s:=s1) (by omega) 124 hH;refine qv aL ?_ (hg:=wi aW);refine qg ?_ (hg:=wi aW);refine qt aW ?_;refine qm ?_;refine qm ?_ (hg:=wi bQ);obtain⟨_,st,aL,rfl,hH⟩:=pM (s:=s1) (by omega) 41 hH;refine qv aL ?_ (hg:=wi bQ);refine qm ?_ (hg:=wi bQ);refine qs ?_ (hg:=wn bK);refine qs ?_ (hg:=wn bK);refine qs ?_ (hg:=wn bK);refine qs ?_ (hg:=wn bK);refine qs ?_ (hg:=wn bK);refine aa.de (aq rfl rfl rfl bQ) rfl bK (ae rfl _) ?_;refine qg ?_ (hg:=wi bQ);refine qt bQ ?_;refine qe hK ?_;refine qB ?_;refine ab.skip ?_;refine ab.block ?_;refine qj fun K hK=>?_;refine qm ?_;refine qm ?_;obtain⟨_,st,aL,s2,⟨r1,r2,r3,r4,l,rfl,r5,r6,r7⟩,hH⟩:=DS hA bA (s:=s1) kZ hlt h2 (by omega) hH;refine qv aL ?_;refine qh (s:=1) (vs:=[_]) hH fun k41 st U0 hH=>?_;dsimp only[u2,u1,u3,u4,setMany,u5,u6,D.cells,Nat.reduceAdd,bm,bo,aw,ax,eP] at hH;refine aa.bL (s:=1) hH rfl (ev rfl) (ev rfl) (by exact fm) (by exact hH.rows (by exact av)) rfl rfl rfl rfl rfl rfl rfl ⟨(Nat.le_of_ble_eq_true rfl),(Nat.le_of_ble_eq_true rfl)⟩ (fun _=>(ae rfl _)) (by simp only[List.length_cons,List.length_nil,List.length_map]<;>omega) (by exact .inr rfl) (fun Tt st hH=>?_);dsimp only[u2,u1,u3,u4,setMany,u5,u6,D.cells,Nat.reduceAdd,bm,bo,aw,ax,eP] at hH;refine qm ?_;refine qe hK ?_;have hH:=hH.drop 1;refine⟨mm-1,by omega,⟨s2,Tt,parts++[l],rfl,(by rw[List.map_append];exact hH),by omega,r2,by omega,r4,?_,by rw[ek,List.length_append];simp only[gm,List.length_cons,List.length_nil];omega,(fun e=>by rw[ek,List.length_append];simp only[gm,List.length_cons,List.length_nil];omega),by split<;>omega⟩⟩;intro l' gP
     rcases List.mem_append.1 gP with gP|gP
     ·exact h5 l' gP
     ·simp only[List.mem_cons,List.not_mem_nil,or_false] at gP;subst gP;exact r5
    |true=>
     refine qq ?_;refine qq ?_;refine qj fun K hK=>?_;refine qm ?_;refine qg ?_;refine qp (o:=5) ?_;refine ql hH av ?_;refine qg ?_;refine qm ?_;refine qm ?_ (hg:=wi bk);refine qg ?_ (hg:=wi bk);refine qp (o:=2) ?_ (hg:=wi bk);refine ql hH av ?_ (hg:=wi bk);refine qm ?_ (hg:=wi bk);refine qg ?_ (hg:=wi bk);refine qp (o:=0) ?_ (hg:=wi bk);refine ql hH av ?_ (hg:=wi bk);refine qn ?_ (hg:=wi bk);simp only[List.length_map];refine qg ?_ (hg:=wi bk);refine qt bk ?_;refine qm ?_;refine qm ?_ (hg:=wi aW);obtain⟨_,st,aL,rfl,hH⟩:=pM (s:=s1) (by omega) 124 hH;refine qv aL ?_ (hg:=wi aW);refine qg ?_ (hg:=wi aW);refine qt aW ?_;refine qm ?_;refine qm ?_ (hg:=wi bQ);obtain⟨_,st,aL,rfl,hH⟩:=pM (s:=s1) (by omega) 41 hH;refine qv aL ?_ (hg:=wi bQ);refine qm ?_ (hg:=wi bQ);refine qm ?_ (hg:=wi bK);refine qg ?_ (hg:=wi bK);refine qp (o:=3) ?_ (hg:=wi bK);refine ql hH av ?_ (hg:=wi bK);refine qg ?_ (hg:=wi bK);refine aa.dI (aq rfl rfl rfl bQ) rfl bK (ae rfl _) ?_;refine qg ?_ (hg:=wi bQ);refine qt bQ ?_;refine qe hK ?_
     by_cases gv:0<s1.o
     ·have jm:(!decide (((s1.o:Nat):Int)>0))=false:=by rw[decide_eq_true (by omega)];rfl
      refine qE rfl (by rw[jm]) ?_;refine ab.exit ?_;obtain⟨_,EY,hQ,l,rfl⟩:=sC _ hH;refine qq ?_;refine qj fun K hK=>?_;refine qm ?_;refine qv (EY) ?_;refine qm ?_;refine qe hK ?_;refine ab.ret ⟨rx,_,_,_,rfl,au (rfl),?_⟩;exact⟨s1,hQ,cX.aD cL (hH.erase 2)⟩
     ·have jm:(!decide (((s1.o:Nat):Int)>0))=true:=by rw[decide_eq_false (by omega)];rfl
      refine qD rfl (by rw[jm]) ?_;refine ab.skip ?_;refine ab.block ?_;refine qj fun K hK=>?_;refine qm ?_;refine qm ?_;obtain⟨_,st,aL,s2,⟨r1,r2,r3,r4,l,rfl,r5,r6,r7⟩,hH⟩:=DS hA bA (s:=s1) kZ hlt h2 (by omega) hH;refine qv aL ?_;refine qh (s:=1) (vs:=[_]) hH fun k41 st U0 hH=>?_;dsimp only[u2,u1,u3,u4,setMany,u5,u6,D.cells,Nat.reduceAdd,bm,bo,aw,ax,eP] at hH;refine aa.bL (s:=1) hH rfl (ev rfl) (ev rfl) (by exact fm) (by exact hH.rows (by exact av)) rfl rfl rfl rfl rfl rfl rfl ⟨(Nat.le_of_ble_eq_true rfl),(Nat.le_of_ble_eq_true rfl)⟩ (fun _=>(ae rfl _)) (by simp only[List.length_cons,List.length_nil,List.length_map]<;>omega) (by exact .inr rfl) (fun Tt st hH=>?_);dsimp only[u2,u1,u3,u4,setMany,u5,u6,D.cells,Nat.reduceAdd,bm,bo,aw,ax,eP] at hH;refine qm ?_;refine qe hK ?_;have hH:=hH.drop 1;refine⟨mm-1,by omega,⟨s2,Tt,parts++[l],rfl,(by rw[List.map_append];exact hH),by omega,r2,by omega,r4,?_,by rw[ek,List.length_append];simp only[gm,List.length_cons,List.length_nil];omega,(fun e=>by rw[ek,List.length_append];simp only[gm,List.length_cons,List.length_nil];omega),by split<;>omega⟩⟩;intro l' gP
      rcases List.mem_append.1 gP with gP|gP
      ·exact h5 l' gP
      ·simp only[List.mem_cons,List.not_mem_nil,or_false] at gP;subst gP;exact r5
  ·have aW:decide (((s1.i:Nat):Int)<((gs.length:Nat):Int))=false:=by rw[decide_eq_false_iff_not];omega
   refine qq ?_;refine qq ?_;refine qj fun K hK=>?_;refine qm ?_;refine qg ?_;refine qp (o:=5) ?_;refine ql hH av ?_;refine qg ?_;refine qm ?_;refine qm ?_ (hg:=wi bk);refine qg ?_ (hg:=wi bk);refine qp (o:=2) ?_ (hg:=wi bk);refine ql hH av ?_ (hg:=wi bk);refine qm ?_ (hg:=wi bk);refine qg ?_ (hg:=wi bk);refine qp (o:=0) ?_ (hg:=wi bk);refine ql hH av ?_ (hg:=wi bk);refine qn ?_ (hg:=wi bk);simp only[List.length_map];refine qg ?_ (hg:=wi bk);refine qt bk ?_;refine qm ?_;refine qs ?_ (hg:=wn aW);refine qs ?_ (hg:=wn aW);refine qs ?_ (hg:=wn aW);refine qu aW ?_;refine qm ?_;refine qs ?_;refine qs ?_;refine qs ?_;refine qs ?_;refine qs ?_;refine qs ?_;refine qs ?_;refine qs ?_;refine qs ?_;refine qs ?_;refine qg ?_;refine qe hK ?_;refine qC ?_;refine ab.exit ?_;obtain⟨_,EY,hQ,l,rfl⟩:=sC _ hH;refine qq ?_;refine qj fun K hK=>?_;refine qm ?_;refine qv (EY) ?_;refine qm ?_;refine qe hK ?_;refine ab.ret ⟨rx,_,_,_,rfl,au (rfl),?_⟩;exact⟨s1,hQ,cX.aD cL (hH.erase 2)⟩
 ·have bk:(s1.e==0)=false:=by simpa using kZ
  refine qq ?_;refine qq ?_;refine qj fun K hK=>?_;refine qm ?_;refine qg ?_;refine qp (o:=5) ?_;refine ql hH av ?_;refine qg ?_;refine qm ?_;refine qs ?_ (hg:=wn bk);refine qs ?_ (hg:=wn bk);refine qs ?_ (hg:=wn bk);refine qs ?_ (hg:=wn bk);refine qs ?_ (hg:=wn bk);refine qs ?_ (hg:=wn bk);refine qs ?_ (hg:=wn bk);refine qs ?_ (hg:=wn bk);refine qs ?_ (hg:=wn bk);refine qs ?_ (hg:=wn bk);refine qu bk ?_;refine qm ?_;refine qs ?_;refine qs ?_;refine qs ?_;refine qg ?_;refine qm ?_;refine qs ?_;refine qs ?_;refine qs ?_;refine qs ?_;refine qs ?_;refine qs ?_;refine qs ?_;refine qs ?_;refine qs ?_;refine qs ?_;refine qg ?_;refine qe hK ?_;refine qC ?_;refine ab.exit ?_;obtain⟨_,EY,hQ,l,rfl⟩:=sC _ hH;refine qq ?_;refine qj fun K hK=>?_;refine qm ?_;refine qv (EY) ?_;refine qm ?_;refine qe hK ?_;refine ab.ret ⟨rx,_,_,_,rfl,au (rfl),?_⟩;exact⟨s1,hQ,cX.aD cL (hH.erase 2)⟩
theorem Ng:∀m:Nat,mw m:=by
 intro m
 induction m using Nat.strongRecOn with
 |ind m ih0=>
 have hA:∀m',m'+1=m→mw m':=fun m' h=>ih0 m' (by omega);intro N k S s0 H gs bZ cw s bA he hi hg ho hH;have uH:=bA.gl;have ib:=bA.pl;refine Ev.iD rfl Zw rfl rfl rfl ?_;dsimp only[u3,u4,List.length,Nat.reduceSub,Nat.reduceAdd,w1,w2];have cX:=hH;have hH:=hH.c8;have cL:(ah .rw s0).bs=s0.bs:=rfl;generalize ah .rw s0=S2 at*;refine qq ?_;refine qj fun K hK=>?_;refine qm ?_;refine qe hK ?_;refine qq ?_;refine qj fun K hK=>?_;refine qm ?_;obtain⟨_,st,aL,s1,⟨p1,p2,p3,p4,l,rfl,p5,p6⟩,hH⟩:=FB hA bA he hi hg ho hH;refine qv aL ?_;refine qh (s:=1) (vs:=[_]) hH fun k6 st F9 hH=>?_;dsimp only[u2,u1,u3,u4,setMany,u5,u6,D.cells,Nat.reduceAdd,bm,bo,aw,ax,eP] at hH;refine qm ?_;refine qe hK ?_;have hH:Has N S2 st (.box k (.mem 0 false (bm gs bZ s1))::.aO bZ 1 (cw.map aw)::.aO (.win k6 0 0 1 1) 1 ([l].map eP)::H):=oo hH;refine qq ?_;refine ab.block ?_;refine ab.loop (fun mm fr st=>∃(s1:fU) (pd:D) (parts:List (List ej)),fr.clean=⟨4,[.ptr k 0 0,o3 fr 1,o3 fr 2,pd],[]⟩∧Has N S2 st (.box k (.mem 0 false (bm gs bZ s1))::.aO bZ 1 (cw.map aw)::.aO pd 1 (parts.map eP)::H)∧(s1.o=s.o)∧(s1.g≤4)∧(s.i≤s1.i)∧(s1.i≤gs.length)∧(∀l∈parts,∀n∈l,wL n)∧(gm parts+3*parts.length≤4*(s1.i-s.i)+4)∧(1≤parts.length)∧(gs.length-s1.i≤mm)) (gs.length) ?_ ?_
 ·exact⟨s1,.win k6 0 0 1 1,[l],rfl,hH,p1,p2,p3,p4,(fun l' gP=>by simp only[List.mem_cons,List.not_mem_nil,or_false] at gP;subst gP;exact p5),by simp only[gm,List.length_cons,List.length_nil];omega,by simp,by omega⟩
 rintro mm fr st ⟨s1,pd,parts,hfr,hH,h1,h2,h3,h4,h5,h6,h8,yX⟩;rw[hfr];clear hfr;generalize o3 fr=ee;clear fr
 have sC:∀st:St,Has N S2 st (.box k (.mem 0 false (bm gs bZ s1))::.aO bZ 1 (cw.map aw)::.aO pd 1 (parts.map eP)::H)→∃d,Ev pv 131 [.int .i64 4,pd] st d st∧wC gs s s1 d∧∃l,d=wE l:=by
  intro st hH;obtain⟨_,aL,l,rfl,j1,j2,j3⟩:=uD 4 (hH.rows dF) h5 (by omega) (by omega);refine⟨_,aL,⟨h1,h2,h3,h4,l,rfl,j1,?_⟩,l,rfl⟩
  by_cases q1:parts.length=1
  ·have:=j2 q1;omega
  ·omega
 by_cases kZ:s1.e=0
 ·have bk:(s1.e==0)=true:=by simpa using kZ
  obtain⟨k1,k2,k3,k4,k5⟩:=iv (gs:=gs) (s:=s1) (r:=124);have k5:=k5 h4;refine qq ?_;refine qq ?_;refine qj fun K hK=>?_;refine qm ?_;refine qg ?_;refine qp (o:=5) ?_;refine ql hH av ?_;refine qg ?_;refine qm ?_;refine qm ?_ (hg:=wi bk);obtain⟨_,st,aL,rfl,hH⟩:=eO (s:=s1) (by omega) 124 hH;refine qv aL ?_ (hg:=wi bk);refine qt bk ?_;refine qe hK ?_
  cases hb:lP gs s1.i 124 with
  |false=>
   rw[qM hb] at hH;refine qC ?_;refine ab.exit ?_;obtain⟨_,EY,hQ,l,rfl⟩:=sC _ hH;refine qq ?_;refine qj fun K hK=>?_;refine qm ?_;refine qv (EY) ?_;refine qm ?_;refine qe hK ?_;refine ab.ret ⟨rx,_,_,_,rfl,au (rfl),?_⟩;exact⟨s1,hQ,cX.aD cL (hH.erase 2)⟩
  |true=>
   have k6:=nB hb;generalize dA gs s1 124=s2 at*;refine qB ?_;refine ab.skip ?_;refine ab.block ?_;refine qj fun K hK=>?_;refine qm ?_;refine qm ?_;obtain⟨_,st,aL,s3,⟨r1,r2,r3,r4,l,rfl,r5,r6⟩,hH⟩:=FB hA bA (s:=s2) (by omega) k5 (by omega) (by omega) hH;refine qv aL ?_;refine qh (s:=1) (vs:=[_]) hH fun k19 st YL hH=>?_;dsimp only[u2,u1,u3,u4,setMany,u5,u6,D.cells,Nat.reduceAdd,bm,bo,aw,ax,eP] at hH;refine aa.bL (s:=1) hH rfl (ev rfl) (ev rfl) (by exact fm) (by exact hH.rows (by exact av)) rfl rfl rfl rfl rfl rfl rfl ⟨(Nat.le_of_ble_eq_true rfl),(Nat.le_of_ble_eq_true rfl)⟩ (fun _=>(ae rfl _)) (by simp only[List.length_cons,List.length_nil,List.length_map]<;>omega) (by exact .inr rfl) (fun x20 st hH=>?_);dsimp only[u2,u1,u3,u4,setMany,u5,u6,D.cells,Nat.reduceAdd,bm,bo,aw,ax,eP] at hH;refine qm ?_;refine qe hK ?_;have hH:=hH.drop 1;refine⟨mm-1,by omega,⟨s3,x20,parts++[l],rfl,(by rw[List.map_append];exact hH),by omega,r2,by omega,r4,?_,by rw[ek,List.length_append];simp only[gm,List.length_cons,List.length_nil];omega,by rw[List.length_append];omega,by omega⟩⟩;intro l' gP
   rcases List.mem_append.1 gP with gP|gP
   ·exact h5 l' gP
   ·simp only[List.mem_cons,List.not_mem_nil,or_false] at gP;subst gP;exact r5
 ·have bk:(s1.e==0)=false:=by simpa using kZ
  refine qq ?_;refine qq ?_;refine qj fun K hK=>?_;refine qm ?_;refine qg ?_;refine qp (o:=5) ?_;refine ql hH av ?_;refine qg ?_;refine qm ?_;refine qs ?_ (hg:=wn bk);refine qs ?_ (hg:=wn bk);refine qu bk ?_;refine qe hK ?_;refine qC ?_;refine ab.exit ?_;obtain⟨_,EY,hQ,l,rfl⟩:=sC _ hH;refine qq ?_;refine qj fun K hK=>?_;refine qm ?_;refine qv (EY) ?_;refine qm ?_;refine qe hK ?_;refine ab.ret ⟨rx,_,_,_,rfl,au (rfl),?_⟩;exact⟨s1,hQ,cX.aD cL (hH.erase 2)⟩
theorem FO:∀(n:Nat) (b:List UInt8),b.length≤n→(tk b).length≤b.length∧∀g∈tk b,g.2≤b.length:=by
 intro n
 induction n with
 |zero=>
  intro b hb;have:b=[]:=List.length_eq_zero_iff.1 (by omega);subst this;rw[tj];exact⟨Nat.le_refl _,fun g hg=>by cases hg⟩
 |succ n ih=>
  intro b hb
  by_cases h:b=[]
  ·subst h;rw[tj];exact⟨Nat.le_refl _,fun g hg=>by cases hg⟩
  ·have hp:=nE b;have hl:=A_ h;obtain⟨h1,h2⟩:=ih (b.drop (iK b).2) (by rw[List.length_drop];omega);rw[List.length_drop] at h1 h2;rw[vb h];refine⟨by rw[List.length_cons];omega,fun g hg=>?_⟩
   rcases List.mem_cons.1 hg with rfl|hg
   ·exact hl
   ·have:=h2 g hg;omega
def bO (fr:Go.V.Fr) (k:Nat):Go.V.D:=Go.V.nth .bD fr.loc k
def SU (d:D):Prop:=∃(l:List ej) (e w:Int),d=.tup [wE l,.int .i64 e,.int .i64 w]∧(∀n∈l,wL n)∧l.length≤500
theorem D6 {s0:St} {b:List UInt8} (hbl:b.length≤1048576):∃d,Ev pv 51 [.str b] s0 d s0∧SU d:=by
 obtain⟨uH,hgs⟩:=FO _ b (Nat.le_refl _);have aL:∀(st:St) (x:D),Bytes st x b→Ev pv 13 [x] st (fP (tk b)) st:=fun st x h=>SP h hbl;generalize tk b=gs at*;refine Ev.Db rfl ZX rfl rfl rfl ?_;dsimp only[u3,u4,List.length,Nat.reduceSub,Nat.reduceAdd,w1,w2];obtain⟨bt,hF,hH⟩:=ri s0;generalize ah .ro s0=S at*;have MO:Arg s0.bs.length S 2 (fP gs) (gs.map bo):=Arg.pure (fun st=>eH st gs);refine qq<|qj fun K hK=>qm ?_;refine qm ?_;refine qm ?_;refine qe hK<|qq<|qq<|qj fun K hK=>qm ?_;refine aa.y8 rfl rfl rfl (by dsimp only[Fr.put,u1,u2]<;>rfl) ?_;refine qg ?_;refine qe hK ?_
 by_cases aaA:120<b.length
 ·have jm:decide (((b.length:Nat):Int)>120)=true:=by rw[decide_eq_true_eq];omega
  refine qD rfl (by rw[jm]) ?_;refine qq<|qj fun K hK=>qm ?_;refine qm ?_;refine qm ?_;refine qe hK<|ab.ret ⟨rx,_,_,rfl,rl bt hH (rfl),?_⟩;exact⟨[],2,0,rfl,fun n hn=>(by cases hn),by simp⟩
 have jm:decide (((b.length:Nat):Int)>120)=false:=by rw[decide_eq_false_iff_not];omega
 refine qE rfl (by rw[jm]) ?_;refine ab.skip<|qq<|qj fun K hK=>qm ?_;refine aa.Sj hH rfl rfl rfl rfl rfl (by omega) (fun _=>by dsimp only[Fr.put,u1,u2]<;>rfl) (fun k14 st Sa hH=>?_);refine qv ((aL _ _ (hH.rows av))) ?_;refine aa.go (d:=.agg [fP gs,.nul,.int .i64 0,.int .i64 0,.int .i64 0,.int .i64 0,.int .i64 0]) (st1:=_) rfl rfl rfl (by dsimp only[Fr.put,u1,u2]<;>rfl) ?_;refine qb hH fun k17 st YN hH=>?_;refine qm ?_;refine qe hK<|qq<|qj fun K hK=>qm ?_;refine qe hK<|qq<|qq<|qj fun K hK=>qm ?_;refine qg ?_;refine qp (o:=0) ?_;refine ql hH av ?_;refine qn ?_;simp only[List.length_map];refine qm ?_;refine qe hK ?_;have hH:Has s0.bs.length S st (.box k17 (.mem 0 false [fP gs,.nul,.int .i64 0,.int .i64 0,.int .i64 0,.int .i64 0,.int .i64 0])::.aO .nul 1 (([]:List Int).map aw)::[]):=((hH.erase 1).ew 1).front bh;refine ab.block<|ab.loop (fun mm fr st=>∃(i a:Nat) (pd:D) (cw:List Int),fr.clean=⟨24,[bO fr 0,bO fr 1,bO fr 2,bO fr 3,bO fr 4,.ptr k17 0 0,.int .i64 (a:Nat),bO fr 7,bO fr 8,bO fr 9,bO fr 10,bO fr 11,bO fr 12,bO fr 13,bO fr 14,bO fr 15,bO fr 16,bO fr 17,bO fr 18,bO fr 19,bO fr 20,fP gs,.int .i64 (gs.length:Nat),.int .i64 (i:Nat)],[]⟩∧Has s0.bs.length S st [.box k17 (.mem 0 false [fP gs,pd,.int .i64 0,.int .i64 0,.int .i64 0,.int .i64 0,.int .i64 0]),.aO pd 1 (cw.map aw)]∧(i+mm=gs.length)∧(cw.length=i)∧(a≤120*i)) (gs.length) ?_ ?_
 ·exact⟨0,0,.nul,[],rfl,hH,by omega,rfl,by omega⟩
 rintro mm fr st ⟨i,a,pd,cw,hfr,hH,hi,ib,ha⟩;rw[hfr];clear hfr;generalize bO fr=ee;clear fr;refine qq<|qj fun K hK=>qg ?_;refine qe hK ?_
 by_cases hlt:i<gs.length
 ·obtain⟨g,hg⟩:∃g,gs[i]?=some g:=⟨gs[i]'hlt,List.getElem?_eq_getElem _⟩
  have gB:(gs.map bo)[i]?=some (bo g):=by rw[List.getElem?_map,hg];rfl
  have aZ:=hgs g (List.mem_of_getElem? hg);have uI:decide (((i:Nat):Int)<((gs.length:Nat):Int))=true:=by rw[decide_eq_true_eq];omega
  refine qq<|qD rfl (by rw[uI]) ?_;refine ab.skip<|qq<|ab.block<|qq<|qj fun K hK=>qr fun S3 CC=>?_;refine aa.cA rfl (ev rfl) (by assumption) rfl (ae rfl _) ?_;refine qa hH fun k8 st Td hH=>?_;refine qS hH av fun st hH=>?_;dsimp only[u2,u1,u3,u4,setMany,u5,u6,D.cells,Nat.reduceAdd,bm,bo,aw] at hH;refine qe hK<|qq<|qj fun K hK=>qm ?_;refine qm ?_;refine qg ?_;refine qp (o:=1) ?_;refine ql hH bh ?_;refine qm ?_;refine qh (s:=1) (vs:=[_]) hH fun k33 st YF hH=>?_;refine aa.bL (s:=1) hH rfl (ev rfl) (ev rfl) (by exact fm) (by exact hH.rows (by exact av)) rfl rfl rfl rfl rfl rfl rfl ⟨(Nat.le_of_ble_eq_true rfl),(Nat.le_of_ble_eq_true rfl)⟩ (fun _=>(ae rfl _)) (by simp only[List.length_cons,List.length_nil,List.length_map]<;>omega) (by exact .inl hF) (fun x34 st hH=>?_);dsimp only[u2,u1,u3,u4,setMany,u5,u6,D.cells,Nat.reduceAdd,bm,bo,aw] at hH;refine qg ?_;refine qp (o:=1) ?_;refine qT hH dF (fun st hH=>?_) (iy:=hH.eJ fm);dsimp only[u2,u1,u3,u4,setMany,u5,u6,D.cells,Nat.reduceAdd,bm,bo,aw] at hH;refine qe hK<|qj fun K hK=>qm ?_;refine qp (o:=1) ?_;refine ql hH bh ?_;refine aa.aap rfl (ev rfl) (ev rfl) (by omega) (ae rfl _) ?_;refine qm ?_;refine qe hK<|qj fun K hK=>qA ?_;refine qm ?_;refine qe hK ?_;exact⟨mm-1,by omega,⟨i+1,a+g.2,x34,cw++[((a:Nat):Int)],rfl,(by rw[List.map_append];exact hH.drop 2),by omega,by rw[List.length_append,ib];rfl,by omega⟩⟩
 ·have uI:decide (((i:Nat):Int)<((gs.length:Nat):Int))=false:=by rw[decide_eq_false_iff_not];omega
  refine qq<|qE rfl (by rw[uI]) ?_;refine ab.exit ?_
  have bA:l0 gs cw:=⟨by omega,by omega⟩
  have hH:Has s0.bs.length S st (.box k17 (.mem 0 false (bm gs pd ⟨0,0,0,0,0⟩))::.aO pd 1 (cw.map aw)::[]):=hH;refine qq<|qj fun K hK=>qm ?_;obtain⟨_,st,aL,s1,⟨p1,p2,p3,p4,l,rfl,p5,p6⟩,hH⟩:=Ng 20 (s:=⟨0,0,0,0,0⟩) bA rfl (by simp) (by simp) rfl hH;refine qv aL ?_;refine qm ?_;refine qe hK ?_;have p6:l.length≤4*(s1.i-0)+1:=p6;refine qq<|qq<|ab.kE (fun fr st=>∃(s2:fU) (tmp:List (Nat×D)),fr=⟨24,[bO fr 0,bO fr 1,bO fr 2,bO fr 3,bO fr 4,.ptr k17 0 0,bO fr 6,bO fr 7,bO fr 8,wE l,bO fr 10,bO fr 11,bO fr 12,bO fr 13,bO fr 14,bO fr 15,bO fr 16,bO fr 17,bO fr 18,bO fr 19,bO fr 20,bO fr 21,bO fr 22,bO fr 23],tmp⟩∧Has s0.bs.length S st (.box k17 (.mem 0 false (bm gs pd s2))::.aO pd 1 (cw.map aw)::[])∧(True)) ?_ ?_
  ·by_cases kZ:s1.e=0
   ·have bk:(s1.e==0)=true:=by simpa using kZ
    refine qj fun K hK=>qm ?_;refine qg ?_;refine qp (o:=5) ?_;refine ql hH av ?_;refine qg ?_;refine qm ?_;refine qm ?_ (hg:=wi bk);refine qg ?_ (hg:=wi bk);refine qp (o:=2) ?_ (hg:=wi bk);refine ql hH av ?_ (hg:=wi bk);refine qm ?_ (hg:=wi bk);refine qg ?_ (hg:=wi bk);refine qp (o:=0) ?_ (hg:=wi bk);refine ql hH av ?_ (hg:=wi bk);refine qn ?_ (hg:=wi bk);simp only[List.length_map];refine qg ?_ (hg:=wi bk);refine qt bk ?_;refine qe hK ?_;refine ab.cond (by rfl) (fun qw=>?_) (fun qw=>?_)<;>try simp only[decide_eq_true_eq,decide_eq_false_iff_not] at qw
    ·refine qj fun K hK=>qm ?_;refine qm ?_;refine qg ?_;refine qp (o:=2) ?_;refine ql hH av ?_;obtain⟨_,st,aL,rfl,hH⟩:=dH (s:=s1) s1.i 4 (by omega) hH;refine qv aL ?_;refine qe hK ?_;exact⟨_,_,rfl,hH,trivial⟩
    ·refine ab.skip ?_;exact⟨s1,_,rfl,hH,trivial⟩
   ·have bk:(s1.e==0)=false:=by simpa using kZ
    refine qj fun K hK=>qm ?_;refine qg ?_;refine qp (o:=5) ?_;refine ql hH av ?_;refine qg ?_;refine qm ?_;refine qs ?_ (hg:=wn bk);refine qs ?_ (hg:=wn bk);refine qs ?_ (hg:=wn bk);refine qs ?_ (hg:=wn bk);refine qs ?_ (hg:=wn bk);refine qs ?_ (hg:=wn bk);refine qs ?_ (hg:=wn bk);refine qs ?_ (hg:=wn bk);refine qs ?_ (hg:=wn bk);refine qs ?_ (hg:=wn bk);refine qu bk ?_;refine qe hK<|qC ?_;refine ab.skip ?_;exact⟨s1,_,rfl,hH,trivial⟩
  ·rintro fr st ⟨s2,tmp,hfr,hH,ht⟩;rw[hfr];clear hfr;generalize bO fr=ee;clear fr;refine qq<|qq<|qj fun K hK=>qm ?_;refine qg ?_;refine qp (o:=5) ?_;refine ql hH av ?_;refine qg ?_;refine qe hK ?_;refine ab.cond (by rfl) (fun hne=>?_) (fun hne=>?_)<;>try simp only[bne_iff_ne,bne_eq_false_iff_eq,ne_eq] at hne
   ·refine qq<|qj fun K hK=>qm ?_;refine qg ?_;refine qp (o:=5) ?_;refine ql hH av ?_;refine qm ?_;refine qg ?_;refine qp (o:=6) ?_;refine ql hH av ?_;refine qm ?_;refine qm ?_;refine qm ?_;refine qe hK<|ab.ret ⟨rx,_,_,rfl,rl bt hH (rfl),?_⟩;exact⟨[],_,_,rfl,fun n hn=>(by cases hn),by simp⟩
   ·refine ab.skip<|qq<|qj fun K hK=>qm ?_;refine qm ?_;refine qm ?_;refine qm ?_;refine qe hK<|ab.ret ⟨rx,_,_,rfl,rl bt hH (rfl),?_⟩;exact⟨l,0,0,rfl,p5,by omega⟩
def vx (n:ej):Bool:=((n.op==2)||((n.rs.length:Nat):Int)==0) &&((n.op==5)||((n.mn==0) &&(n.mx==0) &&!n.lz)) &&((n.op==6)||(n.cap==0))
noncomputable def fW (n:ej) (g:Int):Int×Bool:=
 if vx n=false then(0,false)
 else if n.op=1∨n.op=7∨n.op=8 then(0,n.kids==0)
 else if n.op=2 then(0,(n.kids==0) &&eI n.rs)
 else if n.op=3∨n.op=4 then(n.kids,decide (n.kids≥2))
 else if n.op=5 then(1,(n.kids==1) &&decide (n.mn≥0) &&decide (n.mn≤30) &&((n.mx==-1)||(decide (n.mx≥n.mn) &&decide (n.mx≤30))))
 else if n.op=6 then(1,(n.kids==1) &&(n.cap==g+1) &&decide (n.cap≤4))
 else(0,false)
def j6 (h:Nat→Nat→Option (Nat×Nat)):Nat→Nat→Nat→Option (Nat×Nat)
 |0,at_,g=>some (at_,g)
 |k+1,at_,g=>match h at_ g with
  |some r=>j6 h k r.1 r.2
  |none=>none
noncomputable def iX (l:List ej):Nat→Nat→Nat→Option (Nat×Nat)
 |0,_,_=>none
 |f+1,at_,g=>match l[at_]? with
  |none=>none
  |some n=>if(fW n (g:Nat)).2=true then j6 (iX l f) (fW n (g:Nat)).1.toNat (at_+1) (if n.op=6 then g+1 else g) else none
theorem wX {n:ej} {g:Nat} (h:(fW n (g:Nat)).2=true):xF n (fW n (g:Nat)).1.toNat∧0≤(fW n (g:Nat)).1∧(n.op=6→n.cap=g+1∧n.cap≤4):=by
 unfold fW at h⊢;unfold xF
 by_cases h0:vx n=false
 ·rw[if_pos h0] at h;cases h
 rw[if_neg h0] at h⊢
 by_cases h1:n.op=1∨n.op=7∨n.op=8
 ·rw[if_pos h1] at h⊢;simp only[beq_iff_eq] at h;exact⟨⟨h,.inl ⟨h1,rfl⟩⟩,Int.le_refl _,fun h6=>by omega⟩
 rw[if_neg h1] at h⊢
 by_cases h2:n.op=2
 ·rw[if_pos h2] at h⊢;simp only[Bool.and_eq_true,beq_iff_eq] at h;exact⟨⟨h.1,.inr (.inl ⟨h2,rfl⟩)⟩,Int.le_refl _,fun h6=>by omega⟩
 rw[if_neg h2] at h⊢
 by_cases h3:n.op=3∨n.op=4
 ·rw[if_pos h3] at h⊢;simp only[decide_eq_true_eq] at h;exact⟨⟨by simp only;omega,.inr (.inr (.inl ⟨h3,by simp only;omega⟩))⟩,by simp only;omega,fun h6=>by omega⟩
 rw[if_neg h3] at h⊢
 by_cases h5:n.op=5
 ·rw[if_pos h5] at h⊢;simp only[Bool.and_eq_true,Bool.or_eq_true,beq_iff_eq,decide_eq_true_eq] at h;exact⟨⟨by simp only;omega,.inr (.inr (.inr (.inl ⟨h5,by simp only;rfl,by omega,by omega,by omega⟩)))⟩,by simp only;omega,fun h6=>by omega⟩
 rw[if_neg h5] at h⊢
 by_cases h6:n.op=6
 ·rw[if_pos h6] at h⊢;simp only[Bool.and_eq_true,beq_iff_eq,decide_eq_true_eq] at h;exact⟨⟨by simp only;omega,.inr (.inr (.inr (.inr ⟨h6,by simp only;rfl,by omega,by omega⟩)))⟩,by simp only;omega,fun _=>⟨h.1.2,h.2⟩⟩
 rw[if_neg h6] at h;cases h
theorem gu.cons {α:Type} {L M:List α} {a:α} {at_:Nat} (h:L[at_]?=some a) (h2:gu L (at_+1) M):gu L at_ (a::M):=by
 obtain⟨post,h2⟩:=h2;refine⟨post,?_⟩;have h3:L[at_]'(bC h)=a:=Option.some.inj ((List.getElem?_eq_getElem _).symm.trans h);rw[List.drop_eq_getElem_cons (bC h),h2,h3];rfl
theorem gu.append {α:Type} {L M M':List α} {at_:Nat} (h:gu L at_ M) (h2:gu L (at_+M.length) M'):gu L at_ (M++M'):=by
 obtain⟨post,h⟩:=h;obtain⟨TY,h2⟩:=h2;refine⟨TY,?_⟩;rw[←List.drop_drop,h,List.drop_left] at h2;rw[h,h2,List.append_assoc]
theorem gu.none {α:Type} (L:List α) (at_:Nat):gu L at_ []:=⟨_,rfl⟩
theorem uC {l:List ej} {h:Nat→Nat→Option (Nat×Nat)} (ih:∀at_ g r,h at_ g=some r→∃t:Tr,t.ok∧gu l at_ t.flat∧r.1=at_+t.flat.length):∀k at_ g r,j6 h k at_ g=some r→∃ts:bW,ts.len=k∧ts.ok∧gu l at_ ts.flat∧r.1=at_+ts.flat.length
 |0,at_,g,r,e=>by
  simp only[j6,Option.some.injEq] at e;subst e;exact⟨.nil,rfl,trivial,gu.none _ _,by simp[bW.flat]⟩
 |k+1,at_,g,r,e=>by
  unfold j6 at e
  cases hq:h at_ g with
  |none=>rw[hq] at e;cases e
  |some q=>
   rw[hq] at e;obtain⟨t,t1,t2,t3⟩:=ih _ _ _ hq;obtain⟨ts,u1,u2,u3,u4⟩:=uC ih k _ _ _ e;rw[t3] at u3 u4;exact⟨.cons t ts,by simp[bW.len,u1],by simp only[bW.ok];exact⟨t1,u2⟩,by simp only[bW.flat];exact t2.append u3,by rw[u4];simp only[bW.flat,List.length_append];omega⟩
theorem xA {l:List ej}:∀f at_ g r,iX l f at_ g=some r→∃t:Tr,t.ok∧gu l at_ t.flat∧r.1=at_+t.flat.length
 |0,_,_,_,e=>by simp[iX] at e
 |f+1,at_,g,r,e=>by
  unfold iX at e
  cases hn:l[at_]? with
  |none=>rw[hn] at e;cases e
  |some n=>
   rw[hn] at e;simp only at e
   split at e
   ·rename_i hs;obtain⟨ts,u1,u2,u3,u4⟩:=uC (xA f) _ _ _ _ e;have:=(wX hs).1;rw[←u1] at this;exact⟨.mk n ts,by simp only[Tr.ok];exact⟨this,u2⟩,by simp only[Tr.flat];exact gu.cons hn u3,by rw[u4];simp only[Tr.flat,List.length_cons];omega⟩
   ·cases e
noncomputable def gV (l:List ej):Bool:=(decide (1≤l.length) &&decide (l.length≤480)) &&(match iX l 241 0 0 with|some r=>decide (r.1=l.length)|none=>false)
theorem rE {l:List ej} (h:gV l=true):∃t:Tr,t.ok∧t.flat=l:=by
 unfold gV at h;simp only[Bool.and_eq_true] at h;obtain⟨_,h⟩:=h
 split at h
 ·rename_i r hr;obtain⟨t,h1,⟨post,h2⟩,h3⟩:=xA _ _ _ _ hr;rw[decide_eq_true_eq] at h;refine⟨t,h1,?_⟩;rw[List.drop_zero] at h2;have h4:=congrArg List.length h2;rw[List.length_append] at h4;have h5:post=[]:=List.length_eq_zero_iff.1 (by omega);rw[h2,h5,List.append_nil]
 ·cases h
noncomputable def dc (l:List ej):Tr:=@dite _ (∃t:Tr,t.ok∧t.flat=l) (Classical.propDecidable _) (fun h=>Classical.choose h) (fun _=>.mk ⟨0,.nul,[],0,0,false,0,0⟩ .nil)
theorem ve {l:List ej} (h:gV l=true):(dc l).ok∧(dc l).flat=l:=by
 unfold dc;rw[dif_pos (rE h)];exact Classical.choose_spec (rE h)
theorem M_ {n:ej} {k s:Nat}:min (bY n (min s 401) k) 401=min (bY n s k) 401:=by
 by_cases hs:s≤401
 ·rw[Nat.min_eq_left hs]
 ·have hx:min s 401=401:=by omega
  rw[hx];unfold bY
  split
  ·rfl
  ·split
   ·omega
   ·split
    ·omega
    ·split
     ·split
      ·omega
      ·by_cases h0:n.mn.toNat=0
       ·rw[h0]
        by_cases hd:n.mx.toNat-0=0
        ·rw[hd];simp
        ·have h1:=Nat.le_mul_of_pos_left (401+1) (show 0<n.mx.toNat-0 by omega);have h2:=Nat.le_mul_of_pos_left (s+1) (show 0<n.mx.toNat-0 by omega);omega
       ·have h1:=Nat.le_mul_of_pos_left 401 (show 0<n.mn.toNat by omega);have h2:=Nat.le_mul_of_pos_left s (show 0<n.mn.toNat by omega);omega
     ·omega
def ft (t:Tr) (b r:Nat):List aQ:=dx 4 0 0 []::(bc t (b+1)++[dx 4 1 0 [],dx 7 (r:Nat) 0 []])
theorem l8 {t:Tr} {b r:Nat} (h:t.ok):(ft t b r).length=t.sz+3:=by
 unfold ft;rw[List.length_cons,List.length_append,cS t _ h];rfl
structure tt where
 code:List aQ
 ak:List Int
 e:Int
 w:Int
noncomputable def fw:List (List ej)→Nat→List aQ→List Int→tt
 |[],_,c,s=>⟨c,s,0,0⟩
 |l::ls,r,c,s=>if gV l=false then⟨[],[],1,(r:Nat)⟩ else if 400<c.length+min (dc l).sz 401+3 then⟨[],[],12,(r:Nat)⟩ else fw ls (r+1) (c++ft (dc l) c.length r) (s++[((c.length:Nat):Int)])
noncomputable def bM (rules:List (List ej)):tt:=if 8<rules.length then⟨[],[],13,8⟩ else fw rules 0 [] []
def pH (code:List aQ) (ak:List Int):Pg:=⟨.sl ((code.map aC).map (jR 4)),code,Bj ak,ak⟩
def kg (i:aQ):Prop:=i.rd=.sl ((i.rs.map ax).map (jR 2))∧i.rs.length≤1048576
theorem nH (op x y:Int):kg (dx op x y []):=⟨rfl,by simp[dx]⟩
theorem T5 (op x y:Int) {rs:List Rg} (h:rs.length≤1048576):kg (dx op x y rs):=⟨rfl,h⟩
theorem DA (s o:Nat) (lz:Bool):kg (oC s o lz):=by unfold oC;split<;>exact nH _ _ _
theorem Nv (e:Nat):kg (nO e):=nH _ _ _
theorem zO {code:List aQ} (h:∀i∈code,kg i):∀e∈code.map aC,∀d∈e,cv d=true:=by
 intro e he d hd;obtain⟨q,hq,rfl⟩:=List.mem_map.1 he;have hr:=(h q hq).1;simp only[aC,hr,List.mem_cons,List.not_mem_nil,or_false] at hd
 rcases hd with rfl|rfl|rfl|rfl<;>rfl
theorem Mh (code:List aQ):∀e∈code.map aC,e.length=4:=by
 intro e he;obtain⟨q,_,rfl⟩:=List.mem_map.1 he;rfl
theorem D5 {code:List aQ} {ak:List Int} (h:∀i∈code,kg i) (h1:code.length≤1048576) (h2:ak.length≤1048576):(pH code ak).ok:=by
 refine⟨dr.frozen (Mh code) (zO h),sr _,fun i hi=>?_,h1,h2⟩;obtain⟨h3,h4⟩:=h i hi;refine⟨?_,h4⟩;rw[h3];exact dr.frozen (ma _) (eo _)
theorem zk {c:Nat→List aQ} {z:Nat} (hc:∀b,∀i∈c b,kg i):∀k b,∀i∈fX c z k b,kg i
 |0,b,i,hi=>by cases hi
 |k+1,b,i,hi=>by
  simp only[fX] at hi
  rcases List.mem_append.1 hi with hi|hi
  ·exact hc b i hi
  ·exact zk hc k _ i hi
theorem D9 {sp:Nat→aQ} {c:Nat→List aQ} {z:Nat} (hs:∀s,kg (sp s)) (hc:∀b,∀i∈c b,kg i):∀k b,∀i∈fM sp c z k b,kg i
 |0,b,i,hi=>by cases hi
 |k+1,b,i,hi=>by
  simp only[fM] at hi
  rcases List.mem_cons.1 hi with rfl|hi
  ·exact hs _
  ·rcases List.mem_append.1 hi with hi|hi
   ·exact hc _ i hi
   ·exact D9 hs hc k _ i hi
mutual
theorem rb:∀(t:Tr) (b:Nat),(∀n∈t.flat,n.rs.length≤1048576)→∀i∈bc t b,kg i
 | .mk n ks,b,h,i,hi=>by
  simp only[Tr.flat] at h;have hn:=h n (List.mem_cons_self ..);have hk:∀n∈ks.flat,n.rs.length≤1048576:=fun m hm=>h m (List.mem_cons_of_mem _ hm);have hc:=fun b=>FC ks b hk;have ha:=fun jp (hj:kg jp) b=>FM jp hj ks b hk;simp only[bc] at hi
  split at hi
  ·simp only[List.mem_cons,List.not_mem_nil,or_false] at hi;subst hi;exact T5 _ _ _ hn
  split at hi
  ·simp only[List.mem_cons,List.not_mem_nil,or_false] at hi;subst hi;exact nH _ _ _
  split at hi
  ·simp only[List.mem_cons,List.not_mem_nil,or_false] at hi;subst hi;exact nH _ _ _
  split at hi
  ·exact hc b i hi
  split at hi
  ·exact ha _ (Nv _) b i hi
  split at hi
  ·unfold oH at hi
   split at hi
   ·rcases List.mem_append.1 hi with hi|hi
    ·exact zk hc _ _ i hi
    ·rcases List.mem_cons.1 hi with rfl|hi
     ·exact DA _ _ _
     ·rcases List.mem_append.1 hi with hi|hi
      ·exact hc _ i hi
      ·simp only[List.mem_cons,List.not_mem_nil,or_false] at hi;subst hi;exact Nv _
   ·rcases List.mem_append.1 hi with hi|hi
    ·exact zk hc _ _ i hi
    ·exact D9 (fun s=>DA _ _ _) hc _ _ i hi
  split at hi
  ·rcases List.mem_cons.1 hi with rfl|hi
   ·exact nH _ _ _
   ·rcases List.mem_append.1 hi with hi|hi
    ·exact hc _ i hi
    ·simp only[List.mem_cons,List.not_mem_nil,or_false] at hi;subst hi;exact nH _ _ _
  ·cases hi
theorem FC:∀(ts:bW) (b:Nat),(∀n∈ts.flat,n.rs.length≤1048576)→∀i∈gE ts b,kg i
 | .nil,b,_,i,hi=>by simp[gE] at hi
 | .cons t ts,b,h,i,hi=>by
  simp only[bW.flat] at h;simp only[gE] at hi
  rcases List.mem_append.1 hi with hi|hi
  ·exact rb t b (fun n hn=>h n (List.mem_append_left _ hn)) i hi
  ·exact FC ts _ (fun n hn=>h n (List.mem_append_right _ hn)) i hi
theorem FM (jp:aQ) (hj:kg jp):∀(ts:bW) (b:Nat),(∀n∈ts.flat,n.rs.length≤1048576)→∀i∈fp jp ts b,kg i
 | .nil,b,_,i,hi=>by simp[fp] at hi
 | .cons t ts,b,h,i,hi=>by
  simp only[bW.flat] at h;have h1:∀n∈t.flat,n.rs.length≤1048576:=fun n hn=>h n (List.mem_append_left _ hn);have h2:∀n∈ts.flat,n.rs.length≤1048576:=fun n hn=>h n (List.mem_append_right _ hn);simp only[fp] at hi
  split at hi
  ·exact rb t b h1 i hi
  ·rcases List.mem_cons.1 hi with rfl|hi
   ·exact DA _ _ _
   ·rcases List.mem_append.1 hi with hi|hi
    ·exact rb t _ h1 i hi
    ·rcases List.mem_cons.1 hi with rfl|hi
     ·exact hj
     ·exact FM jp hj ts _ h2 i hi
end
theorem Gq {t:Tr} {b r:Nat} (h:∀n∈t.flat,n.rs.length≤1048576):∀i∈ft t b r,kg i:=by
 intro i hi;unfold ft at hi
 rcases List.mem_cons.1 hi with rfl|hi
 ·exact nH _ _ _
 ·rcases List.mem_append.1 hi with hi|hi
  ·exact rb t _ h i hi
  ·simp only[List.mem_cons,List.not_mem_nil,or_false] at hi
   rcases hi with rfl|rfl
   ·exact nH _ _ _
   ·exact nH _ _ _
end Go.Proofs.YtbdnabmmlbiomaaGreat
