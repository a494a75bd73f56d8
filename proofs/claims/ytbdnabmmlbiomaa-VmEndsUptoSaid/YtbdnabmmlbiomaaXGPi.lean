/-
 The parser of patterns: one thing; how often.
-/
import Derived.Test.YtbdnabmmlbiomaaXGQa
import Derived.Test.YtbdnabmmlbiomaaXGUb
set_option maxRecDepth 100000
set_option maxHeartbeats 4000000
set_option linter.unusedSimpArgs false
set_option linter.unusedVariables false
namespace Go.Proofs.Ytbdnabmmlbiomaa
open Go.V Go
def vQ (fr:Go.V.Fr) (k:Nat):Go.V.D:=Go.V.nth .bp fr.loc k
theorem na {gs:List (Nat×Nat)} {s:eu} {r:Int} (h:hU gs s.i r=false):cI gs s r=s:=by
 unfold cI;rw[if_neg (by rw[h];simp)]
theorem kH {gs:List (Nat×Nat)} {s:eu} {r:Int} (h:hU gs s.i r=true):(cI gs s r).i=s.i+1:=by
 unfold cI;rw[if_pos h]
theorem FM {m:Nat} (hA:∀m',m'+1=m→j4 m') {N k:Nat} {S s0:St} {H:List bC} {gs:List (Nat×Nat)} {bE:D} {bO:List Int} {s:eu} (a_:jF gs bO) (he:s.e=0) (hi:s.i<gs.length) (hg:s.g≤4) (ho:s.o+m=20) (hH:Has N S s0 (.box k (.mem 0 false (aP gs bE s))::.aJ bE 1 (bO.map aw)::H)):
  ∃d ah,Ev pv 77 [.ptr k 0 0] s0 d ah∧∃(s':eu),hO gs s s' d 2∧Has N S ah (.box k (.mem 0 false (aP gs bE s'))::.aJ bE 1 (bO.map aw)::H):=by
 have sB:=a_.gl;have jf:=a_.pl;refine Ev.iY rfl Qx rfl rfl rfl ?_;dsimp only[u3,u4,List.length,Nat.reduceSub,Nat.reduceAdd,w1,w2];have ck:=hH;have hH:=hH.cn;have ch:(ai .rw s0).bs=s0.bs:=rfl;generalize ai .rw s0=S2 at*;have Ft:Arg N S2 2 (eG gs) (gs.map bm):=Arg.pure (fun st=>dj st gs)
 obtain⟨g,PH⟩:∃g,gs[s.i]?=some g:=⟨gs[s.i]'hi,List.getElem?_eq_getElem _⟩
 have gD:(gs.map bm)[s.i]?=some (bm g):=by rw[List.getElem?_map,PH];rfl
 have hwr:∀(st:St),Has N S2 st (.box k (.mem 0 false (aP gs bE s))::.aJ bE 1 (bO.map aw)::H)→∃d ah,Ev pv 36 [.ptr k 0 0,.int .i64 (s.i:Nat),.int .i64 4] st d ah∧d=.sl []∧∃s4,hO gs s s4 (.sl []) 2∧Has N S2 ah (.box k (.mem 0 false (aP gs bE s4))::.aJ bE 1 (bO.map aw)::H):=by
  intro st hH;obtain⟨d,ah,aH,h6,hH⟩:=cK (s:=s) s.i 4 (by omega) hH;obtain⟨w1,w2,w3,w4⟩:=cU (bO:=bO) (s:=s) (i:=s.i) (e:=4) he (by decide);exact⟨d,ah,aH,h6,_,fh w3 (by omega) (by omega) (by omega) w1,hH⟩
 have iL:∀(st:St) (s1:eu) (op:Int) (w:D) (a:List Rg) (kk:Nat),(w=bw a∨w=.nul∧a=[])→a.length≤1048576→s1.o=s.o→s1.g≤4→s.i<s1.i→s1.i≤gs.length→S2.bs.length≤kk→Has N S2 st (.aJ (.win kk 0 0 1 7) 7 [[.int .i64 op,w,.int .i64 0,.int .i64 0,.bool false,.int .i64 0,.int .i64 0]]::.box k (.mem 0 false (aP gs bE s1))::.aJ bE 1 (bO.map aw)::H)→
   ∃d ah,cD .rw false s0 st (.win kk 0 0 1 7)=some (d,ah)∧∃(s':eu),hO gs s s' d 2∧Has N S ah (.box k (.mem 0 false (aP gs bE s'))::.aJ bE 1 (bO.map aw)::H):=by
  intro st s1 op w a kk hw ha h1 h2 h3 h4 hk hH;have hfz:=gP hH ay (L:=s0.bs.length) hw (fun k hk=>by simp only[D.ref] at hk;rw[←ch];omega);refine⟨_,_,aj hfz,s1,⟨h1,h2,by omega,h4,_,rfl,Ap ha (by omega),by simp,?_⟩,ck.av ch (hH.drop 1)⟩
  by_cases he:s1.e=0
  ·exact .inr ⟨he,by simp only[List.length_cons,List.length_nil];omega⟩
  ·exact .inl he
 refine qq<|qj fun K hK=>qm ?_;refine qe hK<|qq<|qj fun K hK=>qm ?_;refine qg ?_;refine qp (o:=2) ?_;refine ql hH ay ?_;refine qm ?_;refine qe hK<|qq<|qq<|qj fun K hK=>qm ?_;refine qm ?_;obtain⟨_,st,aH,rfl,hH⟩:=wI (s:=s) s.i hi hH;refine qv aH ?_;refine qe hK ?_;refine qc (fun hb=>?_) (fun hb=>?_)<;>try simp only[cs] at hb
 ·refine qq<|qj fun K hK=>qm ?_;refine qm ?_;obtain⟨_,st,aH,rfl,s4,hN,hH⟩:=hwr _ hH;refine qv aH ?_;refine qm ?_;refine qe hK<|af.ret ⟨rx,_,_,_,rfl,aj (rfl),?_⟩;exact⟨s4,hN,ck.av ch hH⟩
 refine af.skip<|qq<|qj fun K hK=>qm ?_;refine qg ?_;refine qp (o:=0) ?_;refine ql hH ay ?_;refine qm ?_;refine qr fun Oi J4=>?_;refine qf (fo:=0) fun R3 MF=>?_;refine qR ?_;refine qm ?_;refine qe hK<|qq<|qj fun K hK=>qm ?_;refine qe hK<|af.block<|qq<|qj fun K hK=>qg ?_;refine qm ?_;refine qe hK ?_;refine af.cond (by rfl) (fun RS=>?_) (fun RS=>?_)<;>try simp only[beq_iff_eq,beq_eq_false_iff_ne,ne_eq] at RS
 ·refine qq<|qj fun K hK=>qm ?_;obtain⟨_,st,aH,s4,⟨p1,p2,p3,p4,l,rfl,p5,p6,p7⟩,hH⟩:=Bd hA a_ he hi hg ho hH;refine qv aH ?_;refine qm ?_;refine qe hK<|af.ret ⟨rx,_,_,_,rfl,aj (rfl),?_⟩;exact⟨s4,⟨p1,p2,p3,p4,l,rfl,p5,p6,p7⟩,ck.av ch hH⟩
 refine qq<|qj fun K hK=>qg ?_;refine qm ?_;refine qe hK ?_;refine af.cond (by rfl) (fun K5=>?_) (fun K5=>?_)<;>try simp only[beq_iff_eq,beq_eq_false_iff_ne,ne_eq] at K5
 ·refine qq<|qj fun K hK=>qm ?_;obtain⟨_,st,aH,s4,⟨p1,p2,p3,p4,l,rfl,p5,p6,p7⟩,hH⟩:=Bp a_ he hi hg hH;refine qv aH ?_;refine qm ?_;refine qe hK<|af.ret ⟨rx,_,_,_,rfl,aj (rfl),?_⟩;exact⟨s4,⟨p1,p2,p3,p4,l,rfl,p5,p6,p7⟩,ck.av ch hH⟩
 refine qq<|qj fun K hK=>qg ?_;refine qm ?_;refine qe hK ?_;refine af.cond (by rfl) (fun RP=>?_) (fun RP=>?_)<;>try simp only[beq_iff_eq,beq_eq_false_iff_ne,ne_eq] at RP
 ·refine qq<|qj fun K hK=>qm ?_;obtain⟨_,st,aH,d1,b,s4,rfl,⟨p1,p2,p3,p4,p5,p6⟩,hH⟩:=w7 (s:=s) a_ he hi hH;refine qv aH ?_;refine qm ?_;refine qg ?_;refine qg ?_;refine qm ?_;refine qm ?_;refine qe hK ?_
  have yP:∀(st:St) (w:D) (a:List Rg) (kk:Nat),(w=bw a∨w=.nul∧a=[])→a.length≤8→S2.bs.length≤kk→Has N S2 st (.aJ (.win kk 0 0 1 7) 7 [[.int .i64 2,w,.int .i64 0,.int .i64 0,.bool false,.int .i64 0,.int .i64 0]]::.box k (.mem 0 false (aP gs bE s4))::.aJ bE 1 (bO.map aw)::H)→∃d ah,cD .rw false s0 st (.win kk 0 0 1 7)=some (d,ah)∧∃(s':eu),hO gs s s' d 2∧Has N S ah (.box k (.mem 0 false (aP gs bE s'))::.aJ bE 1 (bO.map aw)::H):=by
   intro st w a kk hw ha hk hH;have hfz:=gP hH ay (L:=s0.bs.length) hw (fun k hk=>by simp only[D.ref] at hk;rw[←ch];omega);refine⟨_,_,aj hfz,s4,⟨p1,by omega,by omega,p4,_,rfl,Ap (by omega) (by omega),by simp,?_⟩,ck.av ch (hH.drop 1)⟩
   rcases p6 with p6|⟨p6,p7,_⟩
   ·exact .inl p6
   ·exact .inr ⟨p6,by simp only[List.length_cons,List.length_nil];omega⟩
  rcases p5 with rfl|⟨a,rfl,ha⟩
  ·refine qq<|qj fun K hK=>qm ?_;refine ab.fe (qs:=[(0,_),(1,_)]) rfl rfl rfl rfl ⟨rfl,(ev rfl),(by rfl),rfl,(ev rfl),(by rfl),trivial⟩ (by intro q hq;simp only[List.mem_cons,List.not_mem_nil,or_false] at hq;rcases hq with rfl|rfl<;>exact⟨rfl,by exact Nat.le_of_ble_eq_true rfl⟩) (by show List.foldl _ [_,_,_,_,_,_,_] _=_;dsimp only[List.foldl_cons,List.foldl_nil,u2,u1]<;>rfl) (ag rfl _) ?_;refine qh (s:=7) (vs:=[_]) hH fun k54 st Kf hH=>?_;dsimp only[u2,u1,u3,u4,setMany,u5,u6,D.cells,Nat.reduceAdd,aP,bm,aw,au,aX] at hH;refine qm ?_;refine qe hK ?_;obtain⟨d',ah,sy,fT⟩:=yP _ .nul [] k54 (.inr ⟨rfl,rfl⟩) (by simp) Kf hH;refine af.ret ⟨rx,_,d',ah,rfl,sy,fT⟩
  ·refine qq<|qj fun K hK=>qm ?_;refine ab.fe (qs:=[(0,_),(1,_)]) rfl rfl rfl rfl ⟨rfl,(ev rfl),(by rfl),rfl,(ev rfl),(by rfl),trivial⟩ (by intro q hq;simp only[List.mem_cons,List.not_mem_nil,or_false] at hq;rcases hq with rfl|rfl<;>exact⟨rfl,by exact Nat.le_of_ble_eq_true rfl⟩) (by show List.foldl _ [_,_,_,_,_,_,_] _=_;dsimp only[List.foldl_cons,List.foldl_nil,u2,u1]<;>rfl) (ag rfl _) ?_;refine qh (s:=7) (vs:=[_]) hH fun k54 st Kf hH=>?_;dsimp only[u2,u1,u3,u4,setMany,u5,u6,D.cells,Nat.reduceAdd,aP,bm,aw,au,aX] at hH;refine qm ?_;refine qe hK ?_;obtain⟨d',ah,sy,fT⟩:=yP _ (bw a) a k54 (.inl rfl) ha Kf hH;refine af.ret ⟨rx,_,d',ah,rfl,sy,fT⟩
 refine qq<|qj fun K hK=>qg ?_;refine qm ?_;refine qe hK ?_;refine af.cond (by rfl) (fun RQ=>?_) (fun RQ=>?_)<;>try simp only[beq_iff_eq,beq_eq_false_iff_ne,ne_eq] at RQ
 ·refine qq<|qj fun K hK=>qm ?_;refine qg ?_;refine qp (o:=2) ?_;refine ql hH ay ?_;refine qA ?_;refine qg ?_;refine qp (o:=2) ?_;refine qT hH ay fun st hH=>?_;dsimp only[u2,u1,u3,u4,setMany,u5,u6,D.cells,Nat.reduceAdd,aP,bm,aw,au,aX] at hH;refine qe hK ?_;obtain⟨_,PR,a,rfl,hla⟩:=KM (s0:=st);refine qq<|qj fun K hK=>qv (PR) ?_;refine ab.fe (qs:=[(0,_),(1,_)]) rfl rfl rfl rfl ⟨rfl,(ev rfl),(by rfl),rfl,(ev rfl),(by rfl),trivial⟩ (by intro q hq;simp only[List.mem_cons,List.not_mem_nil,or_false] at hq;rcases hq with rfl|rfl<;>exact⟨rfl,by exact Nat.le_of_ble_eq_true rfl⟩) (by show List.foldl _ [_,_,_,_,_,_,_] _=_;dsimp only[List.foldl_cons,List.foldl_nil,u2,u1]<;>rfl) (ag rfl _) ?_;refine qh (s:=7) (vs:=[_]) hH fun k66 st Pu hH=>?_;refine qm ?_;refine qe hK ?_;obtain⟨d',ah,sy,fT⟩:=iL _ {s with i:=s.i+1} 2 (bw a) a k66 (.inl rfl) (by omega) rfl hg (by show s.i<s.i+1;omega) (by show s.i+1≤_;omega) Pu hH;refine af.ret ⟨rx,_,d',ah,rfl,sy,fT⟩
 refine qq<|qj fun K hK=>qg ?_;refine qm ?_;refine qe hK ?_;refine af.cond (by rfl) (fun RO=>?_) (fun RO=>?_)<;>try simp only[beq_iff_eq,beq_eq_false_iff_ne,ne_eq] at RO
 ·refine qq<|qj fun K hK=>qm ?_;refine qg ?_;refine qp (o:=2) ?_;refine ql hH ay ?_;refine qA ?_;refine qg ?_;refine qp (o:=2) ?_;refine qT hH ay fun st hH=>?_;dsimp only[u2,u1,u3,u4,setMany,u5,u6,D.cells,Nat.reduceAdd,aP,bm,aw,au,aX] at hH;refine qe hK<|qq<|qj fun K hK=>ab.go (d:=.agg [.int .i64 7,.nul,.int .i64 0,.int .i64 0,.bool false,.int .i64 0,.int .i64 0]) (st1:=_) rfl rfl rfl (ag rfl _) ?_;refine qh (s:=7) (vs:=[_]) hH fun k77 st MX hH=>?_;refine qm ?_;refine qe hK ?_;obtain⟨d',ah,sy,fT⟩:=iL _ {s with i:=s.i+1} 7 .nul [] k77 (.inr ⟨rfl,rfl⟩) (by simp) rfl hg (by show s.i<s.i+1;omega) (by show s.i+1≤_;omega) MX hH;refine af.ret ⟨rx,_,d',ah,rfl,sy,fT⟩
 refine qq<|qj fun K hK=>qg ?_;refine qm ?_;refine qe hK ?_;refine af.cond (by rfl) (fun RT=>?_) (fun RT=>?_)<;>try simp only[beq_iff_eq,beq_eq_false_iff_ne,ne_eq] at RT
 ·refine qq<|qj fun K hK=>qm ?_;refine qg ?_;refine qp (o:=2) ?_;refine ql hH ay ?_;refine qA ?_;refine qg ?_;refine qp (o:=2) ?_;refine qT hH ay fun st hH=>?_;dsimp only[u2,u1,u3,u4,setMany,u5,u6,D.cells,Nat.reduceAdd,aP,bm,aw,au,aX] at hH;refine qe hK<|qq<|qj fun K hK=>ab.go (d:=.agg [.int .i64 8,.nul,.int .i64 0,.int .i64 0,.bool false,.int .i64 0,.int .i64 0]) (st1:=_) rfl rfl rfl (ag rfl _) ?_;refine qh (s:=7) (vs:=[_]) hH fun k88 st MW hH=>?_;refine qm ?_;refine qe hK ?_;obtain⟨d',ah,sy,fT⟩:=iL _ {s with i:=s.i+1} 8 .nul [] k88 (.inr ⟨rfl,rfl⟩) (by simp) rfl hg (by show s.i<s.i+1;omega) (by show s.i+1≤_;omega) MW hH;refine af.ret ⟨rx,_,d',ah,rfl,sy,fT⟩
 refine qq<|qq<|qj fun K hK=>qg ?_;refine qm ?_;refine qe hK ?_
 by_cases Ry:((g.1:Nat):Int)=42
 ·refine qD rfl (by simp[Ry]) ?_;refine af.skip<|qD rfl (by simp[Ry]) ?_;refine qq<|qj fun K hK=>qm ?_;refine qm ?_;obtain⟨_,st,aH,rfl,s4,hN,hH⟩:=hwr _ hH;refine qv aH ?_;refine qm ?_;refine qe hK<|af.ret ⟨rx,_,_,_,rfl,aj (rfl),?_⟩;exact⟨s4,hN,ck.av ch hH⟩
 refine qE rfl (by simp[Ry]) ?_;refine qq<|qj fun K hK=>qg ?_;refine qm ?_;refine qe hK ?_
 by_cases Rx:((g.1:Nat):Int)=43
 ·refine qD rfl (by simp[Rx]) ?_;refine af.skip<|qD rfl (by simp[Rx]) ?_;refine qq<|qj fun K hK=>qm ?_;refine qm ?_;obtain⟨_,st,aH,rfl,s4,hN,hH⟩:=hwr _ hH;refine qv aH ?_;refine qm ?_;refine qe hK<|af.ret ⟨rx,_,_,_,rfl,aj (rfl),?_⟩;exact⟨s4,hN,ck.av ch hH⟩
 refine qE rfl (by simp[Rx]) ?_;refine qq<|qj fun K hK=>qg ?_;refine qm ?_;refine qe hK ?_
 by_cases Rw:((g.1:Nat):Int)=63
 ·refine qD rfl (by simp[Rw]) ?_;refine af.skip<|qD rfl (by simp[Rw]) ?_;refine qq<|qj fun K hK=>qm ?_;refine qm ?_;obtain⟨_,st,aH,rfl,s4,hN,hH⟩:=hwr _ hH;refine qv aH ?_;refine qm ?_;refine qe hK<|af.ret ⟨rx,_,_,_,rfl,aj (rfl),?_⟩;exact⟨s4,hN,ck.av ch hH⟩
 refine qE rfl (by simp[Rw]) ?_;refine qq<|qj fun K hK=>qg ?_;refine qm ?_;refine qe hK ?_
 by_cases Rz:((g.1:Nat):Int)=41
 ·refine qD rfl (by simp[Rz]) ?_;refine af.skip<|qD rfl (by simp[Rz]) ?_;refine qq<|qj fun K hK=>qm ?_;refine qm ?_;obtain⟨_,st,aH,rfl,s4,hN,hH⟩:=hwr _ hH;refine qv aH ?_;refine qm ?_;refine qe hK<|af.ret ⟨rx,_,_,_,rfl,aj (rfl),?_⟩;exact⟨s4,hN,ck.av ch hH⟩
 refine qE rfl (by simp[Rz]) ?_;refine qq<|qj fun K hK=>qg ?_;refine qm ?_;refine qe hK ?_
 by_cases Rv:((g.1:Nat):Int)=93
 ·refine qD rfl (by simp[Rv]) ?_;refine af.skip<|qD rfl (by simp[Rv]) ?_;refine qq<|qj fun K hK=>qm ?_;refine qm ?_;obtain⟨_,st,aH,rfl,s4,hN,hH⟩:=hwr _ hH;refine qv aH ?_;refine qm ?_;refine qe hK<|af.ret ⟨rx,_,_,_,rfl,aj (rfl),?_⟩;exact⟨s4,hN,ck.av ch hH⟩
 refine qE rfl (by simp[Rv]) ?_;refine qq<|qj fun K hK=>qg ?_;refine qm ?_;refine qe hK ?_
 by_cases KS:((g.1:Nat):Int)=123
 ·refine qD rfl (by simp[KS]) ?_;refine af.skip<|qD rfl (by simp[KS]) ?_;refine qq<|qj fun K hK=>qm ?_;refine qm ?_;obtain⟨_,st,aH,rfl,s4,hN,hH⟩:=hwr _ hH;refine qv aH ?_;refine qm ?_;refine qe hK<|af.ret ⟨rx,_,_,_,rfl,aj (rfl),?_⟩;exact⟨s4,hN,ck.av ch hH⟩
 refine qE rfl (by simp[KS]) ?_;refine qq<|qj fun K hK=>qg ?_;refine qm ?_;refine qe hK ?_
 by_cases KR:((g.1:Nat):Int)=125
 ·refine qD rfl (by simp[KR]) ?_;refine af.skip<|qD rfl (by simp[KR]) ?_;refine qq<|qj fun K hK=>qm ?_;refine qm ?_;obtain⟨_,st,aH,rfl,s4,hN,hH⟩:=hwr _ hH;refine qv aH ?_;refine qm ?_;refine qe hK<|af.ret ⟨rx,_,_,_,rfl,aj (rfl),?_⟩;exact⟨s4,hN,ck.av ch hH⟩
 refine qE rfl (by simp[KR]) ?_;refine qj fun K hK=>qg ?_;refine qm ?_;refine qe hK ?_
 by_cases NH:((g.1:Nat):Int)=124
 ·refine qD rfl (by simp[NH]) ?_;refine qq<|qj fun K hK=>qm ?_;refine qm ?_;obtain⟨_,st,aH,rfl,s4,hN,hH⟩:=hwr _ hH;refine qv aH ?_;refine qm ?_;refine qe hK<|af.ret ⟨rx,_,_,_,rfl,aj (rfl),?_⟩;exact⟨s4,hN,ck.av ch hH⟩
 refine qE rfl (by simp[NH]) ?_;refine qq<|qj fun K hK=>qm ?_;refine qg ?_;refine qp (o:=2) ?_;refine ql hH ay ?_;refine qA ?_;refine qg ?_;refine qp (o:=2) ?_;refine qT hH ay fun st hH=>?_;dsimp only[u2,u1,u3,u4,setMany,u5,u6,D.cells,Nat.reduceAdd,aP,bm,aw,au,aX] at hH;refine qe hK ?_;obtain⟨_,Fo,_⟩:=kM (s0:=s0) (x:=bw [(((g.1:Nat):Int),((g.1:Nat):Int))]) (l:=[(((g.1:Nat):Int),((g.1:Nat):Int))]) (eM _ _) (by simp);simp only[List.length_cons,List.length_nil] at Fo;refine qq<|qj fun K hK=>qm ?_;refine qv (ia _) ?_;refine ab.fe (qs:=[(0,_),(1,_)]) rfl rfl rfl rfl ⟨rfl,(ev rfl),(by rfl),rfl,(ev rfl),(by rfl),trivial⟩ (by intro q hq;simp only[List.mem_cons,List.not_mem_nil,or_false] at hq;rcases hq with rfl|rfl<;>exact⟨rfl,by exact Nat.le_of_ble_eq_true rfl⟩) (by show List.foldl _ [_,_,_,_,_,_,_] _=_;dsimp only[List.foldl_cons,List.foldl_nil,u2,u1]<;>rfl) (ag rfl _) ?_;refine qh (s:=7) (vs:=[_]) hH fun k36 st MZ hH=>?_;refine qm ?_;refine qe hK ?_;obtain⟨d',ah,sy,fT⟩:=iL _ {s with i:=s.i+1} 2 _ _ k36 (.inl rfl) (by omega) rfl hg (by show s.i<s.i+1;omega) (by show s.i+1≤_;omega) MZ hH;refine af.ret ⟨rx,_,d',ah,rfl,sy,fT⟩
theorem zP {m:Nat} (hA:∀m',m'+1=m→j4 m') {N k:Nat} {S s0:St} {H:List bC} {gs:List (Nat×Nat)} {bE:D} {bO:List Int} {s:eu} (a_:jF gs bO) (he:s.e=0) (hi:s.i<gs.length) (hg:s.g≤4) (ho:s.o+m=20) (hH:Has N S s0 (.box k (.mem 0 false (aP gs bE s))::.aJ bE 1 (bO.map aw)::H)):
  ∃d ah,Ev pv 70 [.ptr k 0 0] s0 d ah∧∃(s':eu),hO gs s s' d 1∧Has N S ah (.box k (.mem 0 false (aP gs bE s'))::.aJ bE 1 (bO.map aw)::H):=by
 have sB:=a_.gl;have jf:=a_.pl;refine Ev.iY rfl QC rfl rfl rfl ?_;dsimp only[u3,u4,List.length,Nat.reduceSub,Nat.reduceAdd,w1,w2];have ck:=hH;have hH:=hH.cn;have ch:(ai .rw s0).bs=s0.bs:=rfl;generalize ai .rw s0=S2 at*;refine qq<|qj fun K hK=>qm ?_;refine qe hK<|qq<|qj fun K hK=>qm ?_;obtain⟨_,st,aH,s1,⟨p1,p2,p3,p4,l,rfl,p5,p6,p7⟩,hH⟩:=FM hA a_ he hi hg ho hH;refine qv aH ?_;refine qm ?_;refine qe hK<|qq<|qq<|qj fun K hK=>qm ?_;refine qg ?_;refine qp (o:=5) ?_;refine ql hH ay ?_;refine qg ?_;refine qe hK ?_
 rcases p7 with p7|⟨p7,p8⟩
 ·refine qD rfl (by simp[p7]) ?_;refine qq<|qj fun K hK=>qm ?_;refine qe hK<|af.ret ⟨rx,_,_,_,rfl,aj (rfl),?_⟩;exact⟨s1,fh p1 p2 p3 p4 p7,ck.av ch hH⟩
 refine qE rfl (by simp[p7]) ?_;refine af.skip<|qq<|qj fun K hK=>ab.go (d:=.agg [.int .i64 5,.nul,.int .i64 0,.int .i64 0,.bool false,.int .i64 0,.int .i64 1]) (st1:=_) rfl rfl rfl (ag rfl _) ?_;refine qa hH fun k4 st Px hH=>?_;dsimp only[u2,u1,u3,u4,setMany,u5,u6,D.cells,Nat.reduceAdd,aP,bm,aw,au,aX] at hH;refine qS hH ay fun st hH=>?_;dsimp only[u2,u1,u3,u4,setMany,u5,u6,D.cells,Nat.reduceAdd,aP,bm,aw,au,aX] at hH;refine qe hK ?_;have hH:Has N S2 st (.box k (.mem 0 false (aP gs bE s1))::.aJ bE 1 (bO.map aw)::.box k4 (.mem 0 false [.int .i64 5,.nul,.int .i64 0,.int .i64 0,.bool false,.int .i64 0,.int .i64 1])::H):=ly hH;refine qq<|af.merge (fun fr st=>∃(mn mx:Int) (s2:eu) (tmp:List (Nat×D)),fr=⟨5,[.ptr k 0 0,vQ fr 1,vQ fr 2,sW l,.ptr k4 0 0],tmp⟩∧Has N S2 st (.box k (.mem 0 false (aP gs bE s2))::.aJ bE 1 (bO.map aw)::.box k4 (.mem 0 false [.int .i64 5,.nul,.int .i64 mn,.int .i64 mx,.bool false,.int .i64 0,.int .i64 1])::H)∧(s2.o=s.o)∧(s2.g≤4)∧(s1.i<s2.i)∧(s2.i≤gs.length)) ?_ ?_
 ·refine af.block<|qq<|qj fun K hK=>qm ?_;obtain⟨_,st,aH,rfl,hH⟩:=dt (s:=s1) (by omega) 42 hH;refine qv aH ?_;refine qm ?_;refine qe hK ?_
  cases hb1:hU gs s1.i 42 with
  |true=>
   obtain⟨k1,k2,k3,Ox,k5⟩:=fO (gs:=gs) (s:=s1) (r:=42);have k6:=kH hb1;have k7:=k5 p4;generalize cI gs s1 42=s2 at*;refine qB ?_;refine qj fun K hK=>qp (o:=3) ?_;refine qT hH eV fun st hH=>?_;dsimp only[u2,u1,u3,u4,setMany,u5,u6,D.cells,Nat.reduceAdd,aP,bm,aw,au,aX] at hH;refine qe hK ?_;exact⟨0,-1,s2,_,rfl,hH,by omega,by omega,by omega,k7⟩
  |false=>
   rw[na hb1] at hH;refine qC ?_;refine qq<|qj fun K hK=>qm ?_;obtain⟨_,st,aH,rfl,hH⟩:=dt (s:=s1) (by omega) 43 hH;refine qv aH ?_;refine qm ?_;refine qe hK ?_
   cases hb2:hU gs s1.i 43 with
   |true=>
    obtain⟨k1,k2,k3,Ox,k5⟩:=fO (gs:=gs) (s:=s1) (r:=43);have k6:=kH hb2;have k7:=k5 p4;generalize cI gs s1 43=s2 at*;refine qB ?_;refine qj fun K hK=>qp (o:=2) ?_;refine qT hH eV fun st hH=>?_;dsimp only[u2,u1,u3,u4,setMany,u5,u6,D.cells,Nat.reduceAdd,aP,bm,aw,au,aX] at hH;refine qp (o:=3) ?_;refine qT hH eV fun st hH=>?_;dsimp only[u2,u1,u3,u4,setMany,u5,u6,D.cells,Nat.reduceAdd,aP,bm,aw,au,aX] at hH;refine qe hK ?_;exact⟨1,-1,s2,_,rfl,hH,by omega,by omega,by omega,k7⟩
   |false=>
    rw[na hb2] at hH;refine qC ?_;refine qq<|qj fun K hK=>qm ?_;obtain⟨_,st,aH,rfl,hH⟩:=dt (s:=s1) (by omega) 63 hH;refine qv aH ?_;refine qm ?_;refine qe hK ?_
    cases Fw:hU gs s1.i 63 with
    |true=>
     obtain⟨k1,k2,k3,Ox,k5⟩:=fO (gs:=gs) (s:=s1) (r:=63);have k6:=kH Fw;have k7:=k5 p4;generalize cI gs s1 63=s2 at*;refine qB ?_;refine qj fun K hK=>qp (o:=3) ?_;refine qT hH eV fun st hH=>?_;dsimp only[u2,u1,u3,u4,setMany,u5,u6,D.cells,Nat.reduceAdd,aP,bm,aw,au,aX] at hH;refine qe hK ?_;exact⟨0,1,s2,_,rfl,hH,by omega,by omega,by omega,k7⟩
    |false=>
     rw[na Fw] at hH;refine qC ?_;refine qq<|qj fun K hK=>qm ?_;obtain⟨_,st,aH,rfl,hH⟩:=mC (s:=s1) (by omega) 123 hH;refine qv aH ?_;refine qm ?_;refine qe hK ?_
     cases P3:hU gs s1.i 123 with
     |true=>
      have hlt:=om P3;refine qB ?_;refine qj fun K hK=>qm ?_;obtain⟨_,st,aH,n1,n2,s2,rfl,⟨m1,m2,m3,m4⟩,hH⟩:=Ah a_ p7 hlt hH;refine qv aH ?_;refine qm ?_;refine qg ?_;refine qg ?_;refine qp (o:=2) ?_;refine qT hH eV fun st hH=>?_;dsimp only[u2,u1,u3,u4,setMany,u5,u6,D.cells,Nat.reduceAdd,aP,bm,aw,au,aX] at hH;refine qp (o:=3) ?_;refine qT hH eV fun st hH=>?_;dsimp only[u2,u1,u3,u4,setMany,u5,u6,D.cells,Nat.reduceAdd,aP,bm,aw,au,aX] at hH;refine qe hK ?_;exact⟨n1,n2,s2,_,rfl,hH,by omega,by omega,m3,m4⟩
     |false=>
      refine qC ?_;refine qq<|qj fun K hK=>qm ?_;refine qm ?_;refine qe hK<|af.ret ⟨rx,_,_,_,rfl,aj (rfl),?_⟩;exact⟨s1,⟨p1,p2,p3,p4,l,rfl,p5,p6,.inr ⟨p7,by omega⟩⟩,ck.av ch (hH.erase 2)⟩
 ·rintro fr st ⟨mn,mx,s2,tmp,hfr,hH,h1,h2,h3,h4⟩;rw[hfr];clear hfr;generalize vQ fr=ee;clear fr;refine qq<|qq<|qj fun K hK=>qm ?_;refine qg ?_;refine qp (o:=5) ?_;refine ql hH ay ?_;refine qg ?_;refine qe hK ?_
  by_cases yQ:s2.e=0
  ·refine qE rfl (by simp[yQ]) ?_;refine af.skip ?_;obtain⟨k1,k2,k3,Ox,k5⟩:=fO (gs:=gs) (s:=s2) (r:=63);have k7:=k5 h4;refine qq<|qj fun K hK=>qm ?_;obtain⟨_,st,aH,rfl,hH⟩:=dt (s:=s2) (by omega) 63 hH;refine qv aH ?_;refine qp (o:=4) ?_;refine qT hH eV fun st hH=>?_;dsimp only[u2,u1,u3,u4,setMany,u5,u6,D.cells,Nat.reduceAdd,aP,bm,aw,au,aX] at hH;refine qe hK ?_;generalize cI gs s2 63=s3 at*;generalize hU gs s2.i 63=lz at*;have hla:=(pM p5).arg N S2;refine qq<|qj fun K hK=>?_;refine ab.bN (m:=7) hH rfl (ev rfl) (by exact eV) (by dsimp only[List.drop_succ_cons,List.drop_zero,List.take_succ_cons,List.take_zero,aP,bm,aw,au,aX]<;>rfl) rfl rfl (ag rfl _) ?_;refine qh (s:=7) (vs:=[_]) hH fun k46 st UY hH=>?_;refine qm ?_;refine ab.oD (s:=7) hH rfl (ev rfl) (ev rfl) ay ((pM p5).rows st) rfl rfl rfl rfl rfl rfl rfl ⟨(Nat.le_of_ble_eq_true rfl),(Nat.le_of_ble_eq_true rfl)⟩ (fun _=>(ag rfl _)) (by simp only[List.length_map,List.length_cons,List.length_nil];omega) (.inr (pL p5)) (fun k hk=>by have iN:k46+1=k+1:=hk;omega) (fun N_ st F6 hH=>?_);dsimp only[u2] at hH;refine qm ?_;refine qe hK ?_;have hH:Has N S2 st (.aJ N_ 7 ([.int .i64 5,.nul,.int .i64 mn,.int .i64 mx,.bool lz,.int .i64 0,.int .i64 1]::l.map aX)::.box k (.mem 0 false (aP gs bE s3))::.aJ bE 1 (bO.map aw)::.box k4 (.mem 0 false [.int .i64 5,.nul,.int .i64 mn,.int .i64 mx,.bool lz,.int .i64 0,.int .i64 1])::H):=hH
   have hfz:=gO (L:=s0.bs.length) (l:=rM 5 mn mx lz 0 1 []::l) hH ay (by rw[List.map_cons,rK p5];rfl) (fun e he d hd=>by
    rcases List.mem_cons.1 he with rfl|he
    ·simp only[List.mem_cons,List.not_mem_nil,or_false] at hd
     rcases hd with rfl|rfl|rfl|rfl|rfl|rfl|rfl<;>rfl
    ·exact nW p5 e he d hd) (fun k hk=>by rw[←ch];exact F6 k hk) (n:=16) (by decide)
   refine af.ret ⟨rx,_,_,_,rfl,aj hfz,⟨s3,⟨by omega,by omega,by omega,k7,_,rfl,?_,by simp only[List.length_cons];omega,.inr ⟨by omega,by simp only[List.length_cons];omega⟩⟩,ck.av ch ((hH.drop 1).erase 2)⟩⟩;intro n hn
   rcases List.mem_cons.1 hn with rfl|hn
   ·exact⟨rfl,by simp[rM],by simp[rM]⟩
   ·exact p5 n hn
  ·refine qD rfl (by simp[yQ]) ?_;refine qq<|qj fun K hK=>qm ?_;refine qe hK<|af.ret ⟨rx,_,_,_,rfl,aj (rfl),?_⟩;exact⟨s2,fh h1 h2 (by omega) h4 yQ,ck.av ch (hH.erase 2)⟩
def lX (fr:Go.V.Fr) (k:Nat):Go.V.D:=Go.V.nth .bp fr.loc k
theorem Bt {m:Nat} (hA:∀m',m'+1=m→j4 m') {N k:Nat} {S s0:St} {H:List bC} {gs:List (Nat×Nat)} {bE:D} {bO:List Int} {s:eu} (a_:jF gs bO) (he:s.e=0) (hi:s.i≤gs.length) (hg:s.g≤4) (ho:s.o+m=20) (hH:Has N S s0 (.box k (.mem 0 false (aP gs bE s))::.aJ bE 1 (bO.map aw)::H)):
  ∃d ah,Ev pv 57 [.ptr k 0 0] s0 d ah∧∃(s':eu),sU gs s s' d∧Has N S ah (.box k (.mem 0 false (aP gs bE s'))::.aJ bE 1 (bO.map aw)::H):=by
 have sB:=a_.gl;have jf:=a_.pl;refine Ev.iY rfl QK rfl rfl rfl ?_;dsimp only[u3,u4,List.length,Nat.reduceSub,Nat.reduceAdd,w1,w2];have ck:=hH;have hH:=hH.cn;have ch:(ai .rw s0).bs=s0.bs:=rfl;generalize ai .rw s0=S2 at*;have Ft:Arg N S2 2 (eG gs) (gs.map bm):=Arg.pure (fun st=>dj st gs);refine qq ?_;refine qj fun K hK=>?_;refine qm ?_;refine qe hK ?_;refine qq ?_;refine qj fun K hK=>?_;refine qm ?_;refine qe hK ?_;have hH:Has N S2 S2 (.box k (.mem 0 false (aP gs bE s))::.aJ bE 1 (bO.map aw)::.aJ .nul 1 (([]:List (List c_)).map du)::H):=ly (hH.eo 1);refine qq ?_;refine af.block ?_;refine af.loop (fun mm fr st=>∃(s1:eu) (pd:D) (parts:List (List c_)),fr.clean=⟨4,[.ptr k 0 0,lX fr 1,lX fr 2,pd],[]⟩∧Has N S2 st (.box k (.mem 0 false (aP gs bE s1))::.aJ bE 1 (bO.map aw)::.aJ pd 1 (parts.map du)::H)∧(s1.o=s.o)∧(s1.g≤4)∧(s.i≤s1.i)∧(s1.i≤gs.length)∧(∀l∈parts,∀n∈l,s_ n)∧(eI parts+parts.length≤4*(s1.i-s.i)+2)∧(s1.e=0→eI parts+parts.length≤4*(s1.i-s.i))∧(gs.length-s1.i+(if s1.e=0 then 1 else 0)≤mm)) (gs.length+1) ?_ ?_
 ·exact⟨s,.nul,[],rfl,hH,rfl,hg,Nat.le_refl _,hi,fun l hl=>(by cases hl),by simp[eI],fun _=>by simp[eI],by split<;>omega⟩
 rintro mm fr st ⟨s1,pd,parts,hfr,hH,h1,h2,h3,h4,h5,h6,h7,vX⟩;rw[hfr];clear hfr;generalize lX fr=ee;clear fr
 have oy:∀st:St,Has N S2 st (.box k (.mem 0 false (aP gs bE s1))::.aJ bE 1 (bO.map aw)::.aJ pd 1 (parts.map du)::H)→∃d,Ev pv 59 [.int .i64 3,pd] st d st∧sU gs s s1 d∧∃l,d=sW l:=by
  intro st hH;obtain⟨_,aH,l,rfl,j1,j2,j3⟩:=qk 3 (hH.rows eV) h5 (by omega) (by omega);refine⟨_,aH,⟨h1,h2,h3,h4,l,rfl,j1,?_⟩,l,rfl⟩
  by_cases q1:parts.length=1
  ·have:=j2 q1;omega
  ·by_cases q0:parts.length=0
   ·have:parts=[]:=List.length_eq_zero_iff.1 q0;rw[this] at j3 h6;simp[eI] at j3 h6;omega
   ·omega
 by_cases kr:s1.e=0
 ·rw[if_pos kr] at vX;have h7:=h7 kr;have bc:(s1.e==0)=true:=by simpa using kr
  by_cases hlt:s1.i<gs.length
  ·have aW:decide (((s1.i:Nat):Int)<((gs.length:Nat):Int))=true:=by rw[decide_eq_true_eq];omega
   cases bh:(!hU gs s1.i 124) with
   |false=>
    refine qq ?_;refine qq ?_;refine qj fun K hK=>?_;refine qm ?_;refine qg ?_;refine qp (o:=5) ?_;refine ql hH ay ?_;refine qg ?_;refine qm ?_;refine qm ?_ (hg:=wi bc);refine qg ?_ (hg:=wi bc);refine qp (o:=2) ?_ (hg:=wi bc);refine ql hH ay ?_ (hg:=wi bc);refine qm ?_ (hg:=wi bc);refine qg ?_ (hg:=wi bc);refine qp (o:=0) ?_ (hg:=wi bc);refine ql hH ay ?_ (hg:=wi bc);refine qn ?_ (hg:=wi bc);simp only[List.length_map];refine qg ?_ (hg:=wi bc);refine qt bc ?_;refine qm ?_;refine qm ?_ (hg:=wi aW);obtain⟨_,st,aH,rfl,hH⟩:=mC (s:=s1) (by omega) 124 hH;refine qv aH ?_ (hg:=wi aW);refine qg ?_ (hg:=wi aW);refine qt aW ?_;refine qm ?_;refine qs ?_ (hg:=wn bh);refine qs ?_ (hg:=wn bh);refine qs ?_ (hg:=wn bh);refine qs ?_;refine qs ?_;refine qs ?_;refine qs ?_;refine qs ?_;refine qs ?_ (hg:=wn bh);refine qs ?_ (hg:=wn bh);refine qu bh ?_;refine qe hK ?_;refine qC ?_;refine af.exit ?_;obtain⟨_,AY,hQ,l,rfl⟩:=oy _ hH;refine qq ?_;refine qj fun K hK=>?_;refine qm ?_;refine qv (AY) ?_;refine qm ?_;refine qe hK ?_;refine af.ret ⟨rx,_,_,_,rfl,aj (rfl),?_⟩;exact⟨s1,hQ,ck.av ch (hH.erase 2)⟩
   |true=>
    cases aY:hU gs s1.i 41 with
    |false=>
     refine qq ?_;refine qq ?_;refine qj fun K hK=>?_;refine qm ?_;refine qg ?_;refine qp (o:=5) ?_;refine ql hH ay ?_;refine qg ?_;refine qm ?_;refine qm ?_ (hg:=wi bc);refine qg ?_ (hg:=wi bc);refine qp (o:=2) ?_ (hg:=wi bc);refine ql hH ay ?_ (hg:=wi bc);refine qm ?_ (hg:=wi bc);refine qg ?_ (hg:=wi bc);refine qp (o:=0) ?_ (hg:=wi bc);refine ql hH ay ?_ (hg:=wi bc);refine qn ?_ (hg:=wi bc);simp only[List.length_map];refine qg ?_ (hg:=wi bc);refine qt bc ?_;refine qm ?_;refine qm ?_ (hg:=wi aW);obtain⟨_,st,aH,rfl,hH⟩:=mC (s:=s1) (by omega) 124 hH;refine qv aH ?_ (hg:=wi aW);refine qg ?_ (hg:=wi aW);refine qt aW ?_;refine qm ?_;refine qm ?_ (hg:=wi bh);obtain⟨_,st,aH,rfl,hH⟩:=mC (s:=s1) (by omega) 41 hH;refine qv aH ?_ (hg:=wi bh);refine qm ?_ (hg:=wi bh);refine qs ?_ (hg:=wn aY);refine qs ?_ (hg:=wn aY);refine qs ?_ (hg:=wn aY);refine qs ?_ (hg:=wn aY);refine qs ?_ (hg:=wn aY);refine ab.cX (aB rfl rfl rfl bh) rfl aY (ag rfl _) ?_;refine qg ?_ (hg:=wi bh);refine qt bh ?_;refine qe hK ?_;refine qB ?_;refine af.skip ?_;refine af.block ?_;refine qj fun K hK=>?_;refine qm ?_;refine qm ?_;obtain⟨_,st,aH,s2,⟨r1,r2,r3,r4,l,rfl,r5,r6,r7⟩,hH⟩:=zP hA a_ (s:=s1) kr hlt h2 (by omega) hH;refine qv aH ?_;refine qh (s:=1) (vs:=[_]) hH fun k41 st MY hH=>?_;dsimp only[u2,u1,u3,u4,setMany,u5,u6,D.cells,Nat.reduceAdd,aP,bm,aw,au,du] at hH;refine ab.bR (s:=1) hH rfl (ev rfl) (ev rfl) (by exact gG) (by exact hH.rows (by exact ay)) rfl rfl rfl rfl rfl rfl rfl ⟨(Nat.le_of_ble_eq_true rfl),(Nat.le_of_ble_eq_true rfl)⟩ (fun _=>(ag rfl _)) (by simp only[List.length_cons,List.length_nil,List.length_map]<;>omega) (by exact .inr rfl) (fun Lh st hH=>?_);dsimp only[u2,u1,u3,u4,setMany,u5,u6,D.cells,Nat.reduceAdd,aP,bm,aw,au,du] at hH;refine qm ?_;refine qe hK ?_;have hH:=hH.drop 1;refine⟨mm-1,by omega,⟨s2,Lh,parts++[l],rfl,(by rw[List.map_append];exact hH),by omega,r2,by omega,r4,?_,by rw[c8,List.length_append];simp only[eI,List.length_cons,List.length_nil];omega,(fun e=>by rw[c8,List.length_append];simp only[eI,List.length_cons,List.length_nil];omega),by split<;>omega⟩⟩;intro l' gb
     rcases List.mem_append.1 gb with gb|gb
     ·exact h5 l' gb
     ·simp only[List.mem_cons,List.not_mem_nil,or_false] at gb;subst gb;exact r5
    |true=>
     refine qq ?_;refine qq ?_;refine qj fun K hK=>?_;refine qm ?_;refine qg ?_;refine qp (o:=5) ?_;refine ql hH ay ?_;refine qg ?_;refine qm ?_;refine qm ?_ (hg:=wi bc);refine qg ?_ (hg:=wi bc);refine qp (o:=2) ?_ (hg:=wi bc);refine ql hH ay ?_ (hg:=wi bc);refine qm ?_ (hg:=wi bc);refine qg ?_ (hg:=wi bc);refine qp (o:=0) ?_ (hg:=wi bc);refine ql hH ay ?_ (hg:=wi bc);refine qn ?_ (hg:=wi bc);simp only[List.length_map];refine qg ?_ (hg:=wi bc);refine qt bc ?_;refine qm ?_;refine qm ?_ (hg:=wi aW);obtain⟨_,st,aH,rfl,hH⟩:=mC (s:=s1) (by omega) 124 hH;refine qv aH ?_ (hg:=wi aW);refine qg ?_ (hg:=wi aW);refine qt aW ?_;refine qm ?_;refine qm ?_ (hg:=wi bh);obtain⟨_,st,aH,rfl,hH⟩:=mC (s:=s1) (by omega) 41 hH;refine qv aH ?_ (hg:=wi bh);refine qm ?_ (hg:=wi bh);refine qm ?_ (hg:=wi aY);refine qg ?_ (hg:=wi aY);refine qp (o:=3) ?_ (hg:=wi aY);refine ql hH ay ?_ (hg:=wi aY);refine qg ?_ (hg:=wi aY);refine ab.dG (aB rfl rfl rfl bh) rfl aY (ag rfl _) ?_;refine qg ?_ (hg:=wi bh);refine qt bh ?_;refine qe hK ?_
     by_cases eU:0<s1.o
     ·have gE:(!decide (((s1.o:Nat):Int)>0))=false:=by rw[decide_eq_true (by omega)];rfl
      refine qE rfl (by rw[gE]) ?_;refine af.exit ?_;obtain⟨_,AY,hQ,l,rfl⟩:=oy _ hH;refine qq ?_;refine qj fun K hK=>?_;refine qm ?_;refine qv (AY) ?_;refine qm ?_;refine qe hK ?_;refine af.ret ⟨rx,_,_,_,rfl,aj (rfl),?_⟩;exact⟨s1,hQ,ck.av ch (hH.erase 2)⟩
     ·have gE:(!decide (((s1.o:Nat):Int)>0))=true:=by rw[decide_eq_false (by omega)];rfl
      refine qD rfl (by rw[gE]) ?_;refine af.skip ?_;refine af.block ?_;refine qj fun K hK=>?_;refine qm ?_;refine qm ?_;obtain⟨_,st,aH,s2,⟨r1,r2,r3,r4,l,rfl,r5,r6,r7⟩,hH⟩:=zP hA a_ (s:=s1) kr hlt h2 (by omega) hH;refine qv aH ?_;refine qh (s:=1) (vs:=[_]) hH fun k41 st MY hH=>?_;dsimp only[u2,u1,u3,u4,setMany,u5,u6,D.cells,Nat.reduceAdd,aP,bm,aw,au,du] at hH;refine ab.bR (s:=1) hH rfl (ev rfl) (ev rfl) (by exact gG) (by exact hH.rows (by exact ay)) rfl rfl rfl rfl rfl rfl rfl ⟨(Nat.le_of_ble_eq_true rfl),(Nat.le_of_ble_eq_true rfl)⟩ (fun _=>(ag rfl _)) (by simp only[List.length_cons,List.length_nil,List.length_map]<;>omega) (by exact .inr rfl) (fun Lh st hH=>?_);dsimp only[u2,u1,u3,u4,setMany,u5,u6,D.cells,Nat.reduceAdd,aP,bm,aw,au,du] at hH;refine qm ?_;refine qe hK ?_;have hH:=hH.drop 1;refine⟨mm-1,by omega,⟨s2,Lh,parts++[l],rfl,(by rw[List.map_append];exact hH),by omega,r2,by omega,r4,?_,by rw[c8,List.length_append];simp only[eI,List.length_cons,List.length_nil];omega,(fun e=>by rw[c8,List.length_append];simp only[eI,List.length_cons,List.length_nil];omega),by split<;>omega⟩⟩;intro l' gb
      rcases List.mem_append.1 gb with gb|gb
      ·exact h5 l' gb
      ·simp only[List.mem_cons,List.not_mem_nil,or_false] at gb;subst gb;exact r5
  ·have aW:decide (((s1.i:Nat):Int)<((gs.length:Nat):Int))=false:=by rw[decide_eq_false_iff_not];omega
   refine qq ?_;refine qq ?_;refine qj fun K hK=>?_;refine qm ?_;refine qg ?_;refine qp (o:=5) ?_;refine ql hH ay ?_;refine qg ?_;refine qm ?_;refine qm ?_ (hg:=wi bc);refine qg ?_ (hg:=wi bc);refine qp (o:=2) ?_ (hg:=wi bc);refine ql hH ay ?_ (hg:=wi bc);refine qm ?_ (hg:=wi bc);refine qg ?_ (hg:=wi bc);refine qp (o:=0) ?_ (hg:=wi bc);refine ql hH ay ?_ (hg:=wi bc);refine qn ?_ (hg:=wi bc);simp only[List.length_map];refine qg ?_ (hg:=wi bc);refine qt bc ?_;refine qm ?_;refine qs ?_ (hg:=wn aW);refine qs ?_ (hg:=wn aW);refine qs ?_ (hg:=wn aW);refine qu aW ?_;refine qm ?_;refine qs ?_;refine qs ?_;refine qs ?_;refine qs ?_;refine qs ?_;refine qs ?_;refine qs ?_;refine qs ?_;refine qs ?_;refine qs ?_;refine qg ?_;refine qe hK ?_;refine qC ?_;refine af.exit ?_;obtain⟨_,AY,hQ,l,rfl⟩:=oy _ hH;refine qq ?_;refine qj fun K hK=>?_;refine qm ?_;refine qv (AY) ?_;refine qm ?_;refine qe hK ?_;refine af.ret ⟨rx,_,_,_,rfl,aj (rfl),?_⟩;exact⟨s1,hQ,ck.av ch (hH.erase 2)⟩
 ·have bc:(s1.e==0)=false:=by simpa using kr
  refine qq ?_;refine qq ?_;refine qj fun K hK=>?_;refine qm ?_;refine qg ?_;refine qp (o:=5) ?_;refine ql hH ay ?_;refine qg ?_;refine qm ?_;refine qs ?_ (hg:=wn bc);refine qs ?_ (hg:=wn bc);refine qs ?_ (hg:=wn bc);refine qs ?_ (hg:=wn bc);refine qs ?_ (hg:=wn bc);refine qs ?_ (hg:=wn bc);refine qs ?_ (hg:=wn bc);refine qs ?_ (hg:=wn bc);refine qs ?_ (hg:=wn bc);refine qs ?_ (hg:=wn bc);refine qu bc ?_;refine qm ?_;refine qs ?_;refine qs ?_;refine qs ?_;refine qg ?_;refine qm ?_;refine qs ?_;refine qs ?_;refine qs ?_;refine qs ?_;refine qs ?_;refine qs ?_;refine qs ?_;refine qs ?_;refine qs ?_;refine qs ?_;refine qg ?_;refine qe hK ?_;refine qC ?_;refine af.exit ?_;obtain⟨_,AY,hQ,l,rfl⟩:=oy _ hH;refine qq ?_;refine qj fun K hK=>?_;refine qm ?_;refine qv (AY) ?_;refine qm ?_;refine qe hK ?_;refine af.ret ⟨rx,_,_,_,rfl,aj (rfl),?_⟩;exact⟨s1,hQ,ck.av ch (hH.erase 2)⟩
theorem FP:∀m:Nat,j4 m:=by
 intro m
 induction m using Nat.strongRecOn with
 |ind m ih0=>
 have hA:∀m',m'+1=m→j4 m':=fun m' h=>ih0 m' (by omega);intro N k S s0 H gs bE bO s a_ he hi hg ho hH;have sB:=a_.gl;have jf:=a_.pl;refine Ev.iY rfl Q3 rfl rfl rfl ?_;dsimp only[u3,u4,List.length,Nat.reduceSub,Nat.reduceAdd,w1,w2];have ck:=hH;have hH:=hH.cn;have ch:(ai .rw s0).bs=s0.bs:=rfl;generalize ai .rw s0=S2 at*;refine qq ?_;refine qj fun K hK=>?_;refine qm ?_;refine qe hK ?_;refine qq ?_;refine qj fun K hK=>?_;refine qm ?_;obtain⟨_,st,aH,s1,⟨p1,p2,p3,p4,l,rfl,p5,p6⟩,hH⟩:=Bt hA a_ he hi hg ho hH;refine qv aH ?_;refine qh (s:=1) (vs:=[_]) hH fun k6 st Ke hH=>?_;dsimp only[u2,u1,u3,u4,setMany,u5,u6,D.cells,Nat.reduceAdd,aP,bm,aw,au,du] at hH;refine qm ?_;refine qe hK ?_;have hH:Has N S2 st (.box k (.mem 0 false (aP gs bE s1))::.aJ bE 1 (bO.map aw)::.aJ (.win k6 0 0 1 1) 1 ([l].map du)::H):=ly hH;refine qq ?_;refine af.block ?_;refine af.loop (fun mm fr st=>∃(s1:eu) (pd:D) (parts:List (List c_)),fr.clean=⟨4,[.ptr k 0 0,lX fr 1,lX fr 2,pd],[]⟩∧Has N S2 st (.box k (.mem 0 false (aP gs bE s1))::.aJ bE 1 (bO.map aw)::.aJ pd 1 (parts.map du)::H)∧(s1.o=s.o)∧(s1.g≤4)∧(s.i≤s1.i)∧(s1.i≤gs.length)∧(∀l∈parts,∀n∈l,s_ n)∧(eI parts+3*parts.length≤4*(s1.i-s.i)+4)∧(1≤parts.length)∧(gs.length-s1.i≤mm)) (gs.length) ?_ ?_
 ·exact⟨s1,.win k6 0 0 1 1,[l],rfl,hH,p1,p2,p3,p4,(fun l' gb=>by simp only[List.mem_cons,List.not_mem_nil,or_false] at gb;subst gb;exact p5),by simp only[eI,List.length_cons,List.length_nil];omega,by simp,by omega⟩
 rintro mm fr st ⟨s1,pd,parts,hfr,hH,h1,h2,h3,h4,h5,h6,h8,vX⟩;rw[hfr];clear hfr;generalize lX fr=ee;clear fr
 have oy:∀st:St,Has N S2 st (.box k (.mem 0 false (aP gs bE s1))::.aJ bE 1 (bO.map aw)::.aJ pd 1 (parts.map du)::H)→∃d,Ev pv 59 [.int .i64 4,pd] st d st∧sU gs s s1 d∧∃l,d=sW l:=by
  intro st hH;obtain⟨_,aH,l,rfl,j1,j2,j3⟩:=qk 4 (hH.rows eV) h5 (by omega) (by omega);refine⟨_,aH,⟨h1,h2,h3,h4,l,rfl,j1,?_⟩,l,rfl⟩
  by_cases q1:parts.length=1
  ·have:=j2 q1;omega
  ·omega
 by_cases kr:s1.e=0
 ·have bc:(s1.e==0)=true:=by simpa using kr
  obtain⟨k1,k2,k3,k4,k5⟩:=fO (gs:=gs) (s:=s1) (r:=124);have k5:=k5 h4;refine qq ?_;refine qq ?_;refine qj fun K hK=>?_;refine qm ?_;refine qg ?_;refine qp (o:=5) ?_;refine ql hH ay ?_;refine qg ?_;refine qm ?_;refine qm ?_ (hg:=wi bc);obtain⟨_,st,aH,rfl,hH⟩:=dt (s:=s1) (by omega) 124 hH;refine qv aH ?_ (hg:=wi bc);refine qt bc ?_;refine qe hK ?_
  cases hb:hU gs s1.i 124 with
  |false=>
   rw[na hb] at hH;refine qC ?_;refine af.exit ?_;obtain⟨_,AY,hQ,l,rfl⟩:=oy _ hH;refine qq ?_;refine qj fun K hK=>?_;refine qm ?_;refine qv (AY) ?_;refine qm ?_;refine qe hK ?_;refine af.ret ⟨rx,_,_,_,rfl,aj (rfl),?_⟩;exact⟨s1,hQ,ck.av ch (hH.erase 2)⟩
  |true=>
   have k6:=kH hb;generalize cI gs s1 124=s2 at*;refine qB ?_;refine af.skip ?_;refine af.block ?_;refine qj fun K hK=>?_;refine qm ?_;refine qm ?_;obtain⟨_,st,aH,s3,⟨r1,r2,r3,r4,l,rfl,r5,r6⟩,hH⟩:=Bt hA a_ (s:=s2) (by omega) k5 (by omega) (by omega) hH;refine qv aH ?_;refine qh (s:=1) (vs:=[_]) hH fun k19 st U8 hH=>?_;dsimp only[u2,u1,u3,u4,setMany,u5,u6,D.cells,Nat.reduceAdd,aP,bm,aw,au,du] at hH;refine ab.bR (s:=1) hH rfl (ev rfl) (ev rfl) (by exact gG) (by exact hH.rows (by exact ay)) rfl rfl rfl rfl rfl rfl rfl ⟨(Nat.le_of_ble_eq_true rfl),(Nat.le_of_ble_eq_true rfl)⟩ (fun _=>(ag rfl _)) (by simp only[List.length_cons,List.length_nil,List.length_map]<;>omega) (by exact .inr rfl) (fun RF st hH=>?_);dsimp only[u2,u1,u3,u4,setMany,u5,u6,D.cells,Nat.reduceAdd,aP,bm,aw,au,du] at hH;refine qm ?_;refine qe hK ?_;have hH:=hH.drop 1;refine⟨mm-1,by omega,⟨s3,RF,parts++[l],rfl,(by rw[List.map_append];exact hH),by omega,r2,by omega,r4,?_,by rw[c8,List.length_append];simp only[eI,List.length_cons,List.length_nil];omega,by rw[List.length_append];omega,by omega⟩⟩;intro l' gb
   rcases List.mem_append.1 gb with gb|gb
   ·exact h5 l' gb
   ·simp only[List.mem_cons,List.not_mem_nil,or_false] at gb;subst gb;exact r5
 ·have bc:(s1.e==0)=false:=by simpa using kr
  refine qq ?_;refine qq ?_;refine qj fun K hK=>?_;refine qm ?_;refine qg ?_;refine qp (o:=5) ?_;refine ql hH ay ?_;refine qg ?_;refine qm ?_;refine qs ?_ (hg:=wn bc);refine qs ?_ (hg:=wn bc);refine qu bc ?_;refine qe hK ?_;refine qC ?_;refine af.exit ?_;obtain⟨_,AY,hQ,l,rfl⟩:=oy _ hH;refine qq ?_;refine qj fun K hK=>?_;refine qm ?_;refine qv (AY) ?_;refine qm ?_;refine qe hK ?_;refine af.ret ⟨rx,_,_,_,rfl,aj (rfl),?_⟩;exact⟨s1,hQ,ck.av ch (hH.erase 2)⟩
theorem uY:∀(n:Nat) (b:List UInt8),b.length≤n→(j_ b).length≤b.length∧∀g∈j_ b,g.2≤b.length:=by
 intro n
 induction n with
 |zero=>
  intro b hb;have:b=[]:=List.length_eq_zero_iff.1 (by omega);subst this;rw[oY];exact⟨Nat.le_refl _,fun g hg=>by cases hg⟩
 |succ n ih=>
  intro b hb
  by_cases h:b=[]
  ·subst h;rw[oY];exact⟨Nat.le_refl _,fun g hg=>by cases hg⟩
  ·have hp:=kL b;have hl:=xh h;obtain⟨h1,h2⟩:=ih (b.drop (ig b).2) (by rw[List.length_drop];omega);rw[List.length_drop] at h1 h2;rw[rh h];refine⟨by rw[List.length_cons];omega,fun g hg=>?_⟩
   rcases List.mem_cons.1 hg with rfl|hg
   ·exact hl
   ·have:=h2 g hg;omega
def ba (fr:Go.V.Fr) (k:Nat):Go.V.D:=Go.V.nth .bp fr.loc k
def K2 (d:D):Prop:=∃(l:List c_) (e w:Int),d=.tup [sW l,.int .i64 e,.int .i64 w]∧(∀n∈l,s_ n)∧l.length≤500
theorem z7 {s0:St} {b:List UInt8} (hbl:b.length≤1048576):∃d,Ev pv 18 [.str b] s0 d s0∧K2 d:=by
 obtain⟨sB,Vj⟩:=uY _ b (Nat.le_refl _);have aH:∀(st:St) (x:D),Bytes st x b→Ev pv 11 [x] st (eG (j_ b)) st:=fun st x h=>BG h hbl;generalize j_ b=gs at*;refine Ev.ET rfl Rc rfl rfl rfl ?_;dsimp only[u3,u4,List.length,Nat.reduceSub,Nat.reduceAdd,w1,w2];obtain⟨b_,hF,hH⟩:=ri s0;generalize ai .ro s0=S at*;have Ft:Arg s0.bs.length S 2 (eG gs) (gs.map bm):=Arg.pure (fun st=>dj st gs);refine qq<|qj fun K hK=>qm ?_;refine qm ?_;refine qm ?_;refine qe hK<|qq<|qq<|qj fun K hK=>qm ?_;refine ab.tf rfl rfl rfl (by dsimp only[Fr.put,u1,u2]<;>rfl) ?_;refine qg ?_;refine qe hK ?_
 by_cases Sm:120<b.length
 ·have gE:decide (((b.length:Nat):Int)>120)=true:=by rw[decide_eq_true_eq];omega
  refine qD rfl (by rw[gE]) ?_;refine qq<|qj fun K hK=>qm ?_;refine qm ?_;refine qm ?_;refine qe hK<|af.ret ⟨rx,_,_,rfl,rl b_ hH (rfl),?_⟩;exact⟨[],2,0,rfl,fun n hn=>(by cases hn),by simp⟩
 have gE:decide (((b.length:Nat):Int)>120)=false:=by rw[decide_eq_false_iff_not];omega
 refine qE rfl (by rw[gE]) ?_;refine af.skip<|qq<|qj fun K hK=>qm ?_;refine ab.A7 hH rfl rfl rfl rfl rfl (by omega) (fun _=>by dsimp only[Fr.put,u1,u2]<;>rfl) (fun k14 st M1 hH=>?_);refine qv ((aH _ _ (hH.rows ay))) ?_;refine ab.go (d:=.agg [eG gs,.nul,.int .i64 0,.int .i64 0,.int .i64 0,.int .i64 0,.int .i64 0]) (st1:=_) rfl rfl rfl (by dsimp only[Fr.put,u1,u2]<;>rfl) ?_;refine qb hH fun k17 st PA hH=>?_;refine qm ?_;refine qe hK<|qq<|qj fun K hK=>qm ?_;refine qe hK<|qq<|qq<|qj fun K hK=>qm ?_;refine qg ?_;refine qp (o:=0) ?_;refine ql hH ay ?_;refine qn ?_;simp only[List.length_map];refine qm ?_;refine qe hK ?_;have hH:Has s0.bs.length S st (.box k17 (.mem 0 false [eG gs,.nul,.int .i64 0,.int .i64 0,.int .i64 0,.int .i64 0,.int .i64 0])::.aJ .nul 1 (([]:List Int).map aw)::[]):=((hH.erase 1).eo 1).front b5;refine af.block<|af.loop (fun mm fr st=>∃(i a:Nat) (pd:D) (bO:List Int),fr.clean=⟨24,[ba fr 0,ba fr 1,ba fr 2,ba fr 3,ba fr 4,.ptr k17 0 0,.int .i64 (a:Nat),ba fr 7,ba fr 8,ba fr 9,ba fr 10,ba fr 11,ba fr 12,ba fr 13,ba fr 14,ba fr 15,ba fr 16,ba fr 17,ba fr 18,ba fr 19,ba fr 20,eG gs,.int .i64 (gs.length:Nat),.int .i64 (i:Nat)],[]⟩∧Has s0.bs.length S st [.box k17 (.mem 0 false [eG gs,pd,.int .i64 0,.int .i64 0,.int .i64 0,.int .i64 0,.int .i64 0]),.aJ pd 1 (bO.map aw)]∧(i+mm=gs.length)∧(bO.length=i)∧(a≤120*i)) (gs.length) ?_ ?_
 ·exact⟨0,0,.nul,[],rfl,hH,by omega,rfl,by omega⟩
 rintro mm fr st ⟨i,a,pd,bO,hfr,hH,hi,jf,ha⟩;rw[hfr];clear hfr;generalize ba fr=ee;clear fr;refine qq<|qj fun K hK=>qg ?_;refine qe hK ?_
 by_cases hlt:i<gs.length
 ·obtain⟨g,hg⟩:∃g,gs[i]?=some g:=⟨gs[i]'hlt,List.getElem?_eq_getElem _⟩
  have gD:(gs.map bm)[i]?=some (bm g):=by rw[List.getElem?_map,hg];rfl
  have bf:=Vj g (List.mem_of_getElem? hg);have xB:decide (((i:Nat):Int)<((gs.length:Nat):Int))=true:=by rw[decide_eq_true_eq];omega
  refine qq<|qD rfl (by rw[xB]) ?_;refine af.skip<|qq<|af.block<|qq<|qj fun K hK=>qr fun LW AR=>?_;refine ab.dE rfl (ev rfl) (by assumption) rfl (ag rfl _) ?_;refine qa hH fun k8 st NY hH=>?_;refine qS hH ay fun st hH=>?_;dsimp only[u2,u1,u3,u4,setMany,u5,u6,D.cells,Nat.reduceAdd,aP,bm,aw] at hH;refine qe hK<|qq<|qj fun K hK=>qm ?_;refine qm ?_;refine qg ?_;refine qp (o:=1) ?_;refine ql hH b5 ?_;refine qm ?_;refine qh (s:=1) (vs:=[_]) hH fun k33 st Py hH=>?_;refine ab.bR (s:=1) hH rfl (ev rfl) (ev rfl) (by exact gG) (by exact hH.rows (by exact ay)) rfl rfl rfl rfl rfl rfl rfl ⟨(Nat.le_of_ble_eq_true rfl),(Nat.le_of_ble_eq_true rfl)⟩ (fun _=>(ag rfl _)) (by simp only[List.length_cons,List.length_nil,List.length_map]<;>omega) (by exact .inl hF) (fun S4 st hH=>?_);dsimp only[u2,u1,u3,u4,setMany,u5,u6,D.cells,Nat.reduceAdd,aP,bm,aw] at hH;refine qg ?_;refine qp (o:=1) ?_;refine qT hH eV (fun st hH=>?_) (hY:=hH.fP gG);dsimp only[u2,u1,u3,u4,setMany,u5,u6,D.cells,Nat.reduceAdd,aP,bm,aw] at hH;refine qe hK<|qj fun K hK=>qm ?_;refine qp (o:=1) ?_;refine ql hH b5 ?_;refine ab.RC rfl (ev rfl) (ev rfl) (by omega) (ag rfl _) ?_;refine qm ?_;refine qe hK<|qj fun K hK=>qA ?_;refine qm ?_;refine qe hK ?_;exact⟨mm-1,by omega,⟨i+1,a+g.2,S4,bO++[((a:Nat):Int)],rfl,(by rw[List.map_append];exact hH.drop 2),by omega,by rw[List.length_append,jf];rfl,by omega⟩⟩
 ·have xB:decide (((i:Nat):Int)<((gs.length:Nat):Int))=false:=by rw[decide_eq_false_iff_not];omega
  refine qq<|qE rfl (by rw[xB]) ?_;refine af.exit ?_
  have a_:jF gs bO:=⟨by omega,by omega⟩
  have hH:Has s0.bs.length S st (.box k17 (.mem 0 false (aP gs pd ⟨0,0,0,0,0⟩))::.aJ pd 1 (bO.map aw)::[]):=hH;refine qq<|qj fun K hK=>qm ?_;obtain⟨_,st,aH,s1,⟨p1,p2,p3,p4,l,rfl,p5,p6⟩,hH⟩:=FP 20 (s:=⟨0,0,0,0,0⟩) a_ rfl (by simp) (by simp) rfl hH;refine qv aH ?_;refine qm ?_;refine qe hK ?_;have p6:l.length≤4*(s1.i-0)+1:=p6;refine qq<|qq<|af.ki (fun fr st=>∃(s2:eu) (tmp:List (Nat×D)),fr=⟨24,[ba fr 0,ba fr 1,ba fr 2,ba fr 3,ba fr 4,.ptr k17 0 0,ba fr 6,ba fr 7,ba fr 8,sW l,ba fr 10,ba fr 11,ba fr 12,ba fr 13,ba fr 14,ba fr 15,ba fr 16,ba fr 17,ba fr 18,ba fr 19,ba fr 20,ba fr 21,ba fr 22,ba fr 23],tmp⟩∧Has s0.bs.length S st (.box k17 (.mem 0 false (aP gs pd s2))::.aJ pd 1 (bO.map aw)::[])∧(True)) ?_ ?_
  ·by_cases kr:s1.e=0
   ·have bc:(s1.e==0)=true:=by simpa using kr
    refine qj fun K hK=>qm ?_;refine qg ?_;refine qp (o:=5) ?_;refine ql hH ay ?_;refine qg ?_;refine qm ?_;refine qm ?_ (hg:=wi bc);refine qg ?_ (hg:=wi bc);refine qp (o:=2) ?_ (hg:=wi bc);refine ql hH ay ?_ (hg:=wi bc);refine qm ?_ (hg:=wi bc);refine qg ?_ (hg:=wi bc);refine qp (o:=0) ?_ (hg:=wi bc);refine ql hH ay ?_ (hg:=wi bc);refine qn ?_ (hg:=wi bc);simp only[List.length_map];refine qg ?_ (hg:=wi bc);refine qt bc ?_;refine qe hK ?_;refine af.cond (by rfl) (fun Gb=>?_) (fun Gb=>?_)<;>try simp only[decide_eq_true_eq,decide_eq_false_iff_not] at Gb
    ·refine qj fun K hK=>qm ?_;refine qm ?_;refine qg ?_;refine qp (o:=2) ?_;refine ql hH ay ?_;obtain⟨_,st,aH,rfl,hH⟩:=cK (s:=s1) s1.i 4 (by omega) hH;refine qv aH ?_;refine qe hK ?_;exact⟨_,_,rfl,hH,trivial⟩
    ·refine af.skip ?_;exact⟨s1,_,rfl,hH,trivial⟩
   ·have bc:(s1.e==0)=false:=by simpa using kr
    refine qj fun K hK=>qm ?_;refine qg ?_;refine qp (o:=5) ?_;refine ql hH ay ?_;refine qg ?_;refine qm ?_;refine qs ?_ (hg:=wn bc);refine qs ?_ (hg:=wn bc);refine qs ?_ (hg:=wn bc);refine qs ?_ (hg:=wn bc);refine qs ?_ (hg:=wn bc);refine qs ?_ (hg:=wn bc);refine qs ?_ (hg:=wn bc);refine qs ?_ (hg:=wn bc);refine qs ?_ (hg:=wn bc);refine qs ?_ (hg:=wn bc);refine qu bc ?_;refine qe hK<|qC ?_;refine af.skip ?_;exact⟨s1,_,rfl,hH,trivial⟩
  ·rintro fr st ⟨s2,tmp,hfr,hH,ht⟩;rw[hfr];clear hfr;generalize ba fr=ee;clear fr;refine qq<|qq<|qj fun K hK=>qm ?_;refine qg ?_;refine qp (o:=5) ?_;refine ql hH ay ?_;refine qg ?_;refine qe hK ?_;refine af.cond (by rfl) (fun hne=>?_) (fun hne=>?_)<;>try simp only[bne_iff_ne,bne_eq_false_iff_eq,ne_eq] at hne
   ·refine qq<|qj fun K hK=>qm ?_;refine qg ?_;refine qp (o:=5) ?_;refine ql hH ay ?_;refine qm ?_;refine qg ?_;refine qp (o:=6) ?_;refine ql hH ay ?_;refine qm ?_;refine qm ?_;refine qm ?_;refine qe hK<|af.ret ⟨rx,_,_,rfl,rl b_ hH (rfl),?_⟩;exact⟨[],_,_,rfl,fun n hn=>(by cases hn),by simp⟩
   ·refine af.skip<|qq<|qj fun K hK=>qm ?_;refine qm ?_;refine qm ?_;refine qm ?_;refine qe hK<|af.ret ⟨rx,_,_,rfl,rl b_ hH (rfl),?_⟩;exact⟨l,0,0,rfl,p5,by omega⟩
def rF (n:c_):Bool:=((n.op==2)||((n.rs.length:Nat):Int)==0) &&((n.op==5)||((n.mn==0) &&(n.mx==0) &&!n.lz)) &&((n.op==6)||(n.cap==0))
noncomputable def ez (n:c_) (g:Int):Int×Bool:=
 if rF n=false then(0,false)
 else if n.op=1∨n.op=7∨n.op=8 then(0,n.kids==0)
 else if n.op=2 then(0,(n.kids==0) &&eA n.rs)
 else if n.op=3∨n.op=4 then(n.kids,decide (n.kids≥2))
 else if n.op=5 then(1,(n.kids==1) &&decide (n.mn≥0) &&decide (n.mn≤30) &&((n.mx==-1)||(decide (n.mx≥n.mn) &&decide (n.mx≤30))))
 else if n.op=6 then(1,(n.kids==1) &&(n.cap==g+1) &&decide (n.cap≤4))
 else(0,false)
def ir (h:Nat→Nat→Option (Nat×Nat)):Nat→Nat→Nat→Option (Nat×Nat)
 |0,at_,g=>some (at_,g)
 |k+1,at_,g=>match h at_ g with
  |some r=>ir h k r.1 r.2
  |none=>none
noncomputable def gi (l:List c_):Nat→Nat→Nat→Option (Nat×Nat)
 |0,_,_=>none
 |f+1,at_,g=>match l[at_]? with
  |none=>none
  |some n=>if(ez n (g:Nat)).2=true then ir (gi l f) (ez n (g:Nat)).1.toNat (at_+1) (if n.op=6 then g+1 else g) else none
theorem ti {n:c_} {g:Nat} (h:(ez n (g:Nat)).2=true):tS n (ez n (g:Nat)).1.toNat∧0≤(ez n (g:Nat)).1∧(n.op=6→n.cap=g+1∧n.cap≤4):=by
 unfold ez at h⊢;unfold tS
 by_cases h0:rF n=false
 ·rw[if_pos h0] at h;cases h
 rw[if_neg h0] at h⊢
 by_cases h1:n.op=1∨n.op=7∨n.op=8
 ·rw[if_pos h1] at h⊢;simp only[beq_iff_eq] at h;exact⟨⟨h,.inl ⟨h1,rfl⟩⟩,Int.le_refl _,fun h6=>by omega⟩
 rw[if_neg h1] at h⊢
 by_cases h2:n.op=2
 ·rw[if_pos h2] at h⊢;simp only[Bool.and_eq_true,beq_iff_eq] at h;exact⟨⟨h.1,.inr (.inl ⟨h2,rfl⟩)⟩,Int.le_refl _,fun h6=>by omega⟩
 rw[if_neg h2] at h⊢
 by_cases h3:n.op=3∨n.op=4
 ·rw[if_pos h3] at h⊢;simp only[decide_eq_true_eq] at h;exact⟨⟨by simp only;omega,.inr (.inr (.inl ⟨h3,by simp only;omega⟩))⟩,by simp only;omega,fun h6=>by omega⟩
 rw[if_neg h3] at h⊢
 by_cases h5:n.op=5
 ·rw[if_pos h5] at h⊢;simp only[Bool.and_eq_true,Bool.or_eq_true,beq_iff_eq,decide_eq_true_eq] at h;exact⟨⟨by simp only;omega,.inr (.inr (.inr (.inl ⟨h5,by simp only;rfl,by omega,by omega,by omega⟩)))⟩,by simp only;omega,fun h6=>by omega⟩
 rw[if_neg h5] at h⊢
 by_cases h6:n.op=6
 ·rw[if_pos h6] at h⊢;simp only[Bool.and_eq_true,beq_iff_eq,decide_eq_true_eq] at h;exact⟨⟨by simp only;omega,.inr (.inr (.inr (.inr ⟨h6,by simp only;rfl,by omega,by omega⟩)))⟩,by simp only;omega,fun _=>⟨h.1.2,h.2⟩⟩
 rw[if_neg h6] at h;cases h
theorem eL.cons {α:Type} {L M:List α} {a:α} {at_:Nat} (h:L[at_]?=some a) (h2:eL L (at_+1) M):eL L at_ (a::M):=by
 obtain⟨post,h2⟩:=h2;refine⟨post,?_⟩;have h3:L[at_]'(bt h)=a:=Option.some.inj ((List.getElem?_eq_getElem _).symm.trans h);rw[List.drop_eq_getElem_cons (bt h),h2,h3];rfl
theorem eL.append {α:Type} {L M M':List α} {at_:Nat} (h:eL L at_ M) (h2:eL L (at_+M.length) M'):eL L at_ (M++M'):=by
 obtain⟨post,h⟩:=h;obtain⟨LU,h2⟩:=h2;refine⟨LU,?_⟩;rw[←List.drop_drop,h,List.drop_left] at h2;rw[h,h2,List.append_assoc]
theorem eL.none {α:Type} (L:List α) (at_:Nat):eL L at_ []:=⟨_,rfl⟩
theorem p_ {l:List c_} {h:Nat→Nat→Option (Nat×Nat)} (ih:∀at_ g r,h at_ g=some r→∃t:Tr,t.ok∧eL l at_ t.flat∧r.1=at_+t.flat.length):∀k at_ g r,ir h k at_ g=some r→∃ts:bu,ts.len=k∧ts.ok∧eL l at_ ts.flat∧r.1=at_+ts.flat.length
 |0,at_,g,r,e=>by
  simp only[ir,Option.some.injEq] at e;subst e;exact⟨.nil,rfl,trivial,eL.none _ _,by simp[bu.flat]⟩
 |k+1,at_,g,r,e=>by
  unfold ir at e
  cases hq:h at_ g with
  |none=>rw[hq] at e;cases e
  |some q=>
   rw[hq] at e;obtain⟨t,t1,t2,t3⟩:=ih _ _ _ hq;obtain⟨ts,u1,u2,u3,u4⟩:=p_ ih k _ _ _ e;rw[t3] at u3 u4;exact⟨.cons t ts,by simp[bu.len,u1],by simp only[bu.ok];exact⟨t1,u2⟩,by simp only[bu.flat];exact t2.append u3,by rw[u4];simp only[bu.flat,List.length_append];omega⟩
theorem tM {l:List c_}:∀f at_ g r,gi l f at_ g=some r→∃t:Tr,t.ok∧eL l at_ t.flat∧r.1=at_+t.flat.length
 |0,_,_,_,e=>by simp[gi] at e
 |f+1,at_,g,r,e=>by
  unfold gi at e
  cases hn:l[at_]? with
  |none=>rw[hn] at e;cases e
  |some n=>
   rw[hn] at e;simp only at e
   split at e
   ·rename_i hs;obtain⟨ts,u1,u2,u3,u4⟩:=p_ (tM f) _ _ _ _ e;have:=(ti hs).1;rw[←u1] at this;exact⟨.mk n ts,by simp only[Tr.ok];exact⟨this,u2⟩,by simp only[Tr.flat];exact eL.cons hn u3,by rw[u4];simp only[Tr.flat,List.length_cons];omega⟩
   ·cases e
noncomputable def e_ (l:List c_):Bool:=(decide (1≤l.length) &&decide (l.length≤480)) &&(match gi l 241 0 0 with|some r=>decide (r.1=l.length)|none=>false)
theorem nK {l:List c_} (h:e_ l=true):∃t:Tr,t.ok∧t.flat=l:=by
 unfold e_ at h;simp only[Bool.and_eq_true] at h;obtain⟨_,h⟩:=h
 split at h
 ·rename_i r hr;obtain⟨t,h1,⟨post,h2⟩,h3⟩:=tM _ _ _ _ hr;rw[decide_eq_true_eq] at h;refine⟨t,h1,?_⟩;rw[List.drop_zero] at h2;have h4:=congrArg List.length h2;rw[List.length_append] at h4;have h5:post=[]:=List.length_eq_zero_iff.1 (by omega);rw[h2,h5,List.append_nil]
 ·cases h
noncomputable def ct (l:List c_):Tr:=@dite _ (∃t:Tr,t.ok∧t.flat=l) (Classical.propDecidable _) (fun h=>Classical.choose h) (fun _=>.mk ⟨0,.nul,[],0,0,false,0,0⟩ .nil)
theorem rm {l:List c_} (h:e_ l=true):(ct l).ok∧(ct l).flat=l:=by
 unfold ct;rw[dif_pos (nK h)];exact Classical.choose_spec (nK h)
theorem FL {n:c_} {k s:Nat}:min (bD n (min s 401) k) 401=min (bD n s k) 401:=by
 by_cases hs:s≤401
 ·rw[Nat.min_eq_left hs]
 ·have hx:min s 401=401:=by omega
  rw[hx];unfold bD
  split
  ·rfl
  ·split
   ·omega
   ·split
    ·omega
    ·split
     ·split
      ·omega
      ·by_cases h0:n.mn.toNat=0
       ·rw[h0]
        by_cases hd:n.mx.toNat-0=0
        ·rw[hd];simp
        ·have h1:=Nat.le_mul_of_pos_left (401+1) (show 0<n.mx.toNat-0 by omega);have h2:=Nat.le_mul_of_pos_left (s+1) (show 0<n.mx.toNat-0 by omega);omega
       ·have h1:=Nat.le_mul_of_pos_left 401 (show 0<n.mn.toNat by omega);have h2:=Nat.le_mul_of_pos_left s (show 0<n.mn.toNat by omega);omega
     ·omega
def dQ (t:Tr) (b r:Nat):List aG:=cH 4 0 0 []::(aO t (b+1)++[cH 4 1 0 [],cH 7 (r:Nat) 0 []])
theorem jK {t:Tr} {b r:Nat} (h:t.ok):(dQ t b r).length=t.sz+3:=by
 unfold dQ;rw[List.length_cons,List.length_append,b9 t _ h];rfl
structure rj where
 code:List aG
 az:List Int
 e:Int
 w:Int
noncomputable def dU:List (List c_)→Nat→List aG→List Int→rj
 |[],_,c,s=>⟨c,s,0,0⟩
 |l::ls,r,c,s=>if e_ l=false then⟨[],[],1,(r:Nat)⟩ else if 400<c.length+min (ct l).sz 401+3 then⟨[],[],12,(r:Nat)⟩ else dU ls (r+1) (c++dQ (ct l) c.length r) (s++[((c.length:Nat):Int)])
noncomputable def bj (rules:List (List c_)):rj:=if 8<rules.length then⟨[],[],13,8⟩ else dU rules 0 [] []
def ng (code:List aG) (az:List Int):Pg:=⟨.sl ((code.map aM).map (ja 4)),code,AD az,az⟩
def iz (i:aG):Prop:=i.rd=.sl ((i.rs.map au).map (ja 2))∧i.rs.length≤1048576
theorem kN (op x y:Int):iz (cH op x y []):=⟨rfl,by simp[cH]⟩
theorem L1 (op x y:Int) {rs:List Rg} (h:rs.length≤1048576):iz (cH op x y rs):=⟨rfl,h⟩
theorem zE (s o:Nat) (lz:Bool):iz (lG s o lz):=by unfold lG;split<;>exact kN _ _ _
theorem FY (e:Nat):iz (kR e):=kN _ _ _
theorem vT {code:List aG} (h:∀i∈code,iz i):∀e∈code.map aM,∀d∈e,bX d=true:=by
 intro e he d hd;obtain⟨q,hq,rfl⟩:=List.mem_map.1 he;have hr:=(h q hq).1;simp only[aM,hr,List.mem_cons,List.not_mem_nil,or_false] at hd
 rcases hd with rfl|rfl|rfl|rfl<;>rfl
theorem E4 (code:List aG):∀e∈code.map aM,e.length=4:=by
 intro e he;obtain⟨q,_,rfl⟩:=List.mem_map.1 he;rfl
theorem z6 {code:List aG} {az:List Int} (h:∀i∈code,iz i) (h1:code.length≤1048576) (h2:az.length≤1048576):(ng code az).ok:=by
 refine⟨fK.frozen (E4 code) (vT h),ug _,fun i hi=>?_,h1,h2⟩;obtain⟨h3,h4⟩:=h i hi;refine⟨?_,h4⟩;rw[h3];exact fK.frozen (jM _) (dF _)
theorem vA {c:Nat→List aG} {z:Nat} (hc:∀b,∀i∈c b,iz i):∀k b,∀i∈eB c z k b,iz i
 |0,b,i,hi=>by cases hi
 |k+1,b,i,hi=>by
  simp only[eB] at hi
  rcases List.mem_append.1 hi with hi|hi
  ·exact hc b i hi
  ·exact vA hc k _ i hi
theorem Ab {sp:Nat→aG} {c:Nat→List aG} {z:Nat} (hs:∀s,iz (sp s)) (hc:∀b,∀i∈c b,iz i):∀k b,∀i∈ek sp c z k b,iz i
 |0,b,i,hi=>by cases hi
 |k+1,b,i,hi=>by
  simp only[ek] at hi
  rcases List.mem_cons.1 hi with rfl|hi
  ·exact hs _
  ·rcases List.mem_append.1 hi with hi|hi
   ·exact hc _ i hi
   ·exact Ab hs hc k _ i hi
mutual
theorem np:∀(t:Tr) (b:Nat),(∀n∈t.flat,n.rs.length≤1048576)→∀i∈aO t b,iz i
 | .mk n ks,b,h,i,hi=>by
  simp only[Tr.flat] at h;have hn:=h n (List.mem_cons_self ..);have hk:∀n∈ks.flat,n.rs.length≤1048576:=fun m hm=>h m (List.mem_cons_of_mem _ hm);have hc:=fun b=>Bu ks b hk;have ha:=fun jp (hj:iz jp) b=>BE jp hj ks b hk;simp only[aO] at hi
  split at hi
  ·simp only[List.mem_cons,List.not_mem_nil,or_false] at hi;subst hi;exact L1 _ _ _ hn
  split at hi
  ·simp only[List.mem_cons,List.not_mem_nil,or_false] at hi;subst hi;exact kN _ _ _
  split at hi
  ·simp only[List.mem_cons,List.not_mem_nil,or_false] at hi;subst hi;exact kN _ _ _
  split at hi
  ·exact hc b i hi
  split at hi
  ·exact ha _ (FY _) b i hi
  split at hi
  ·unfold lL at hi
   split at hi
   ·rcases List.mem_append.1 hi with hi|hi
    ·exact vA hc _ _ i hi
    ·rcases List.mem_cons.1 hi with rfl|hi
     ·exact zE _ _ _
     ·rcases List.mem_append.1 hi with hi|hi
      ·exact hc _ i hi
      ·simp only[List.mem_cons,List.not_mem_nil,or_false] at hi;subst hi;exact FY _
   ·rcases List.mem_append.1 hi with hi|hi
    ·exact vA hc _ _ i hi
    ·exact Ab (fun s=>zE _ _ _) hc _ _ i hi
  split at hi
  ·rcases List.mem_cons.1 hi with rfl|hi
   ·exact kN _ _ _
   ·rcases List.mem_append.1 hi with hi|hi
    ·exact hc _ i hi
    ·simp only[List.mem_cons,List.not_mem_nil,or_false] at hi;subst hi;exact kN _ _ _
  ·cases hi
theorem Bu:∀(ts:bu) (b:Nat),(∀n∈ts.flat,n.rs.length≤1048576)→∀i∈eQ ts b,iz i
 | .nil,b,_,i,hi=>by simp[eQ] at hi
 | .cons t ts,b,h,i,hi=>by
  simp only[bu.flat] at h;simp only[eQ] at hi
  rcases List.mem_append.1 hi with hi|hi
  ·exact np t b (fun n hn=>h n (List.mem_append_left _ hn)) i hi
  ·exact Bu ts _ (fun n hn=>h n (List.mem_append_right _ hn)) i hi
theorem BE (jp:aG) (hj:iz jp):∀(ts:bu) (b:Nat),(∀n∈ts.flat,n.rs.length≤1048576)→∀i∈dP jp ts b,iz i
 | .nil,b,_,i,hi=>by simp[dP] at hi
 | .cons t ts,b,h,i,hi=>by
  simp only[bu.flat] at h;have h1:∀n∈t.flat,n.rs.length≤1048576:=fun n hn=>h n (List.mem_append_left _ hn);have h2:∀n∈ts.flat,n.rs.length≤1048576:=fun n hn=>h n (List.mem_append_right _ hn);simp only[dP] at hi
  split at hi
  ·exact np t b h1 i hi
  ·rcases List.mem_cons.1 hi with rfl|hi
   ·exact zE _ _ _
   ·rcases List.mem_append.1 hi with hi|hi
    ·exact np t _ h1 i hi
    ·rcases List.mem_cons.1 hi with rfl|hi
     ·exact hj
     ·exact BE jp hj ts _ h2 i hi
end
theorem Ca {t:Tr} {b r:Nat} (h:∀n∈t.flat,n.rs.length≤1048576):∀i∈dQ t b r,iz i:=by
 intro i hi;unfold dQ at hi
 rcases List.mem_cons.1 hi with rfl|hi
 ·exact kN _ _ _
 ·rcases List.mem_append.1 hi with hi|hi
  ·exact np t _ h i hi
  ·simp only[List.mem_cons,List.not_mem_nil,or_false] at hi
   rcases hi with rfl|rfl
   ·exact kN _ _ _
   ·exact kN _ _ _
end Go.Proofs.Ytbdnabmmlbiomaa
