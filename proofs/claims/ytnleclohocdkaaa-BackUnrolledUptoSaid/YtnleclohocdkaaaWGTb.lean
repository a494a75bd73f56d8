/-
 The parser of patterns, told exactly: ranges left out, a dot, numbers' digits; what a part of the parser answers.
-/
import Derived.Test.YtnleclohocdkaaaWGM3
import Derived.Test.YtnleclohocdkaaaWDig
import Derived.Test.YtnleclohocdkaaaWGPc
set_option maxRecDepth 100000
set_option maxHeartbeats 4000000
set_option linter.unusedSimpArgs false
set_option linter.unusedVariables false
namespace Go.Proofs.Ytnleclohocdkaaa
open Go.V Go
def eQ (fr:Go.V.Fr) (k:Nat):Go.V.D:=Go.V.nth .bG fr.loc k
inductive PR (α:Type) where
 |ok (a:α) (i:Nat)
 |er (e:Int) (w:Nat)
def vL:List Rg→Int→List Rg
 |[],n=>[(n,1114111)]
 |q::m,n=>(n,bO .i32 (q.1-1))::vL m (bO .i32 (q.2+1))
noncomputable def ov (l:List Rg):List Rg:=da (vL (da l) 0)
theorem vK:∀(l:List Rg) (n:Int),(vL l n).length=l.length+1
 |[],_=>rfl
 |q::m,n=>by simp only[vL,List.length_cons,vK m]
theorem tE {s0:St} {x:D} {l:List Rg} (hx:V.Rows s0 2 x (l.map aw)) (hl:l.length≤131072):Ev pv 132 [x] s0 (bB (ov l)) s0∧(ov l).length≤4*l.length+2:=by
 suffices hg:∃d,Ev pv 132 [x] s0 d s0∧d=bB (ov l)∧(ov l).length≤4*l.length+2 by
  obtain⟨d,h1,rfl,h2⟩:=hg;exact⟨h1,h2⟩
 have hN:ov l=da (vL (da l) 0):=rfl;refine Ev.Ec rfl I9 rfl rfl rfl ?_;dsimp only[u3,u4,List.length,Nat.reduceSub,Nat.reduceAdd,w1,w2];obtain⟨cE,hF,hH⟩:=ri s0;generalize aj .ro s0=S at*;have hx:=Arg.of hx cE;refine qq<|qj fun K hK=>qm ?_;refine qe hK<|qq<|qj fun K hK=>qm ?_;refine qe hK<|qq<|qj fun K hK=>qm ?_;refine qe hK ?_;obtain⟨aM,Bu,_⟩:=mi (hx.rows hH) (by omega);have hla:=(hU (da l)).arg s0.bs.length S;generalize da l=m at*;refine qq<|qq<|qj fun K hK=>qm ?_;refine qv (aM) ?_;refine qn ?_;simp only[List.length_map];refine qm ?_;refine qe hK ?_;have hH:=hH.gH 2;refine af.block<|af.loop (fun mm fr st=>∃(i:Nat) (n:Int) (o:D) (out:List Rg),fr.clean=⟨11,[eQ fr 0,eQ fr 1,eQ fr 2,o,.int .i32 n,eQ fr 5,eQ fr 6,eQ fr 7,bB m,.int .i64 (m.length:Nat),.int .i64 (i:Nat)],[]⟩∧Has s0.bs.length S st [.aR o 2 (out.map aw)]∧(i+mm=m.length)∧(out.length=i)∧(out++vL (m.drop i) n=vL m 0)) (m.length) ?_ ?_
 ·exact⟨0,0,.nul,[],rfl,hH,by omega,rfl,rfl⟩
 rintro mm fr st ⟨i,n,o,out,hfr,hH,hi,ho,hn⟩;rw[hfr];clear hfr;generalize eQ fr=ee;clear fr;refine qq<|qj fun K hK=>qg ?_;refine qe hK<|qq ?_;refine af.cond (by rfl) (fun h1=>?_) (fun h1=>?_)<;>try simp only[decide_eq_true_eq,decide_eq_false_iff_not] at h1
 ·refine af.skip ?_
  obtain⟨q,hq⟩:∃q,m[i]?=some q:=⟨m[i]'(by omega),List.getElem?_eq_getElem _⟩
  have hr:=gi hq
  have wy:m.drop i=q::m.drop (i+1):=by
   have:=List.drop_eq_getElem_cons (l:=m) (i:=i) (by omega);rw[this];congr 1;rw[List.getElem?_eq_getElem (by omega)] at hq;exact Option.some.inj hq
  rw[wy] at hn;refine qq<|af.block<|qq<|qj fun K hK=>qr fun Kl Ga=>?_;refine ab.fk rfl (ev rfl) (by assumption) rfl (aa rfl _) ?_;refine qa hH fun k6 st Fl hH=>?_;refine qS hH aC fun st hH=>?_;dsimp only[u2,u1,u3,u4,setMany,u5,u6,D.cells,Nat.reduceAdd,aw] at hH;refine qe hK<|qq<|qj fun K hK=>qm ?_;refine qm ?_;refine qp (o:=0) ?_;refine ql hH aC ?_;refine ab.mb (z:=bO .i32 (q.1-1)) rfl (ev rfl) (ev rfl) rfl (aa rfl _) ?_;refine ab.ir (qs:=[(0,_),(1,_)]) rfl rfl rfl rfl ⟨rfl,(ev rfl),(by rfl),rfl,(ev rfl),(by rfl),trivial⟩ (by intro q hq;simp only[List.mem_cons,List.not_mem_nil,or_false] at hq;rcases hq with rfl|rfl<;>exact⟨rfl,by exact Nat.le_of_ble_eq_true rfl⟩) (by show List.foldl _ [_,_] _=_;dsimp only[List.foldl_cons,List.foldl_nil,u2,u1]<;>rfl) (aa rfl _) ?_;refine qh (s:=2) (vs:=[_]) hH fun k20 st P_ hH=>?_;refine ab.cT (s:=2) hH rfl (ev rfl) (ev rfl) (by exact dx) (by exact hH.rows (by exact aC)) rfl rfl rfl rfl rfl rfl rfl ⟨(Nat.le_of_ble_eq_true rfl),(Nat.le_of_ble_eq_true rfl)⟩ (fun _=>(aa rfl _)) (by simp only[List.length_cons,List.length_nil,List.length_map]<;>omega) (by exact .inl hF) (fun Ra st hH=>?_);dsimp only[u2,u1,u3,u4,setMany,u5,u6,D.cells,Nat.reduceAdd,aw] at hH;refine qm ?_;refine qe hK<|qj fun K hK=>qp (o:=1) ?_;refine ql hH cp ?_;refine ab.lG (z:=bO .i32 (q.2+1)) rfl (ev rfl) (ev rfl) rfl (aa rfl _) ?_;refine qm ?_;refine qe hK<|qj fun K hK=>qA ?_;refine qm ?_;refine qe hK ?_;exact⟨mm-1,by omega,⟨i+1,_,_,out++[(n,bO .i32 (q.1-1))],rfl,(by rw[List.map_append];exact hH.drop 2),by omega,by simp[ho],(by rw[←hn,List.append_assoc];rfl)⟩⟩
 ·refine af.exit ?_;have wx:m.drop i=[]:=List.drop_eq_nil_of_le (by omega);rw[wx] at hn;have hn:out++[(n,1114111)]=vL m 0:=hn;refine qq<|qj fun K hK=>qm ?_;refine qm ?_;refine ab.ir (qs:=[(0,_),(1,_)]) rfl rfl rfl rfl ⟨rfl,(ev rfl),(by rfl),rfl,(ev rfl),(by rfl),trivial⟩ (by intro q hq;simp only[List.mem_cons,List.not_mem_nil,or_false] at hq;rcases hq with rfl|rfl<;>exact⟨rfl,by exact Nat.le_of_ble_eq_true rfl⟩) (by show List.foldl _ [_,_] _=_;dsimp only[List.foldl_cons,List.foldl_nil,u2,u1]<;>rfl) (aa rfl _) ?_;refine qh (s:=2) (vs:=[_]) hH fun k29 st P7 hH=>?_;refine ab.cT (s:=2) hH rfl (ev rfl) (ev rfl) (by exact cp) (by exact hH.rows (by exact aC)) rfl rfl rfl rfl rfl rfl rfl ⟨(Nat.le_of_ble_eq_true rfl),(Nat.le_of_ble_eq_true rfl)⟩ (fun _=>(aa rfl _)) (by simp only[List.length_cons,List.length_nil,List.length_map]<;>omega) (by exact .inl hF) (fun Q9 st hH=>?_);dsimp only[u2,u1,u3,u4,setMany,u5,u6,D.cells,Nat.reduceAdd,aw] at hH;obtain⟨aM,ub,_⟩:=mi (l:=out++[(n,1114111)]) (by rw[List.map_append];exact hH.rows cp) (by simp;omega);refine qv aM ?_;refine qm ?_;refine qe hK ?_;rw[hn] at ub⊢;refine af.ret ⟨rx,_,_,rfl,rl cE hH (rfl),?_⟩;rw[vK] at ub;exact⟨by rw[hN];rfl,by rw[hN];omega⟩
noncomputable def A_:List Rg:=ov [(10,10)]
theorem EM {s0:St}:Ev pv 124 [] s0 (bB A_) s0∧A_.length≤6:=by
 have hl:(ov [(10,10)]).length≤4*1+2:=(tE (s0:=s0) (hU [(10,10)]|>.rows s0) (by simp)).2;refine⟨?_,hl⟩;unfold A_;refine Ev.pJ rfl Jc rfl rfl rfl ?_;dsimp only[u3,u4,List.length,Nat.reduceSub,Nat.reduceAdd,w1,w2];obtain⟨cE,hF,hH⟩:=ri s0;generalize aj .ro s0=S at*;refine qq<|qj fun K hK=>qm ?_;refine qe hK<|qq<|qj fun K hK=>?_;refine ab.ir (qs:=[(0,_),(1,_)]) rfl rfl rfl rfl ⟨rfl,(ev rfl),(by rfl),rfl,(ev rfl),(by rfl),trivial⟩ (by intro q hq;simp only[List.mem_cons,List.not_mem_nil,or_false] at hq;rcases hq with rfl|rfl<;>exact⟨rfl,by exact Nat.le_of_ble_eq_true rfl⟩) (by show List.foldl _ [_,_] _=_;dsimp only[List.foldl_cons,List.foldl_nil,u2,u1]<;>rfl) (aa rfl _) ?_;refine qh (s:=2) (vs:=[_]) hH fun k2 st hk2 hH=>?_;obtain⟨aM,_⟩:=tE (l:=[(10,10)]) (hH.rows aC) (by simp);refine qv aM ?_;refine qm ?_;refine qe hK<|af.ret ⟨rx,_,rfl,rl cE hH (rfl)⟩
def oc (a b:List UInt8):Bool:=decide ((a.length:Int)<b.length)||(((a.length:Int)==b.length) &&Op.bytesLess a b)
theorem Co {s0:St} (a b:List UInt8):Ev pv 127 [.str a,.str b] s0 (.bool (oc a b)) s0:=by
 unfold oc;refine Ev.pJ rfl Ja rfl rfl rfl ?_;dsimp only[u3,u4,List.length,Nat.reduceSub,Nat.reduceAdd,w1,w2];obtain⟨cE,hF,hH⟩:=ri s0;generalize aj .ro s0=S at*;refine qq<|qj fun K hK=>qm ?_;refine qe hK<|qq<|af.lE 4 (.bool (decide ((a.length:Int)<b.length)||(((a.length:Int)==b.length) &&Op.bytesLess a b))) [] ?_ (fun ff tmp=>?_)
 ·refine qm ?_;refine ab.tj rfl rfl rfl (aa rfl _) ?_;refine qm ?_;refine ab.tj rfl rfl rfl (aa rfl _) ?_;refine qg ?_;refine qm ?_;refine ab.two 10 rfl (fun bC=>?_) (fun bC=>?_)
  ·refine qs ?_ (hg:=wn bC);refine qs ?_ (hg:=wn bC);refine qs ?_ (hg:=wn bC);refine qs ?_ (hg:=wn bC);refine qs ?_ (hg:=wn bC);refine qs ?_ (hg:=wn bC);refine qs ?_;refine qs ?_;refine qs ?_;refine qs ?_ (hg:=wn bC);refine qt bC ?_;refine qm ?_;refine ab.nil (aQ ?_);dsimp only[aI,List.foldl,nth,u2,u1];dsimp only[Fr.az,Fr.put,Fr.clean,Fr.ev,Fr.get,nth,V.look,u1,u2,v1,v2,v3,v4,v5,v6,v7,List.length,u3,u4,Nat.reduceSub,Nat.reduceAdd,List.map]
   all_goals(simp_all;done)
  ·refine qm ?_ (hg:=wi bC);refine ab.tj (ah rfl rfl rfl bC) rfl rfl (aa rfl _) ?_;refine qm ?_ (hg:=wi bC);refine ab.tj (ah rfl rfl rfl bC) rfl rfl (aa rfl _) ?_;refine qg ?_ (hg:=wi bC);refine qm ?_ (hg:=wi bC);refine ab.two 16 rfl (fun bU=>?_) (fun bU=>?_)
   ·refine qm ?_ (hg:=wi bU);refine qm ?_ (hg:=wi bU);refine qg ?_ (hg:=wi bU);refine ab.b_ (ah rfl rfl rfl bC) rfl bU (aa rfl _) ?_;refine qu bC ?_;refine qm ?_;refine ab.nil (aQ ?_);dsimp only[aI,List.foldl,nth,u2,u1];dsimp only[Fr.az,Fr.put,Fr.clean,Fr.ev,Fr.get,nth,V.look,u1,u2,v1,v2,v3,v4,v5,v6,v7,List.length,u3,u4,Nat.reduceSub,Nat.reduceAdd,List.map]
    all_goals(simp_all;done)
   ·refine qs ?_ (hg:=wn bU);refine qs ?_ (hg:=wn bU);refine qs ?_ (hg:=wn bU);refine ab.bM (ah rfl rfl rfl bC) rfl bU (aa rfl _) ?_;refine qu bC ?_;refine qm ?_;refine ab.nil (aQ ?_);dsimp only[aI,List.foldl,nth,u2,u1];dsimp only[Fr.az,Fr.put,Fr.clean,Fr.ev,Fr.get,nth,V.look,u1,u2,v1,v2,v3,v4,v5,v6,v7,List.length,u3,u4,Nat.reduceSub,Nat.reduceAdd,List.map]
    all_goals(simp_all;done)
 dsimp only[aI,List.foldl,nth,u2,u1];refine af.ret ⟨rx,_,rfl,rl cE hH (rfl)⟩
def Ac:List UInt8→Int→Int
 |[],n=>n
 |c::l,n=>Ac l (bO .i64 (bO .i64 (10*n)+bO .i64 (bO .u8 ((c.toNat:Nat)-48))))
def ia (b:List UInt8):Int×Bool:=if 2<b.length then(0,false) else(Ac b 0,decide (Ac b 0≤30))
theorem kR {s0:St} (b:List UInt8) (hb:b.length≤1048576):Ev pv 128 [.str b] s0 (.tup [.int .i64 (ia b).1,.bool (ia b).2]) s0:=by
 suffices hg:∃d,Ev pv 128 [.str b] s0 d s0∧d=.tup [.int .i64 (ia b).1,.bool (ia b).2] by
  obtain⟨d,h1,rfl⟩:=hg;exact h1
 unfold ia;refine Ev.Ec rfl I' rfl rfl rfl ?_;dsimp only[u3,u4,List.length,Nat.reduceSub,Nat.reduceAdd,w1,w2];obtain⟨cE,hF,hH⟩:=ri s0;generalize aj .ro s0=S at*;refine qq<|qj fun K hK=>qm ?_;refine qm ?_;refine qe hK<|qq<|qq<|qj fun K hK=>qm ?_;refine ab.tj rfl rfl rfl (by dsimp only[Fr.put,u1,u2]<;>rfl) ?_;refine qg ?_;refine qe hK ?_;refine af.cond (by rfl) (fun h0=>?_) (fun h0=>?_)<;>try simp only[decide_eq_true_eq,decide_eq_false_iff_not] at h0
 ·rw[if_pos (by omega)];refine qq<|qj fun K hK=>qm ?_;refine qm ?_;refine qe hK<|af.ret ⟨rx,_,_,rfl,rl cE hH (rfl),?_⟩
  rfl
 ·rw[if_neg (by omega)];refine af.skip<|qq<|qj fun K hK=>qm ?_;refine qe hK<|qq<|qq<|qj fun K hK=>qm ?_;refine ab.tj rfl rfl rfl (by dsimp only[Fr.put,u1,u2]<;>rfl) ?_;refine qm ?_;refine qe hK<|af.block<|af.loop (fun mm fr st=>∃(i:Nat) (n:Int),fr.clean=⟨12,[.str b,eQ fr 1,eQ fr 2,eQ fr 3,.int .i64 n,eQ fr 5,eQ fr 6,eQ fr 7,eQ fr 8,eQ fr 9,.int .i64 (b.length:Nat),.int .i64 (i:Nat)],[]⟩∧Has s0.bs.length S st []∧(i+mm=b.length)∧(Ac (b.drop i) n=Ac b 0)) (b.length) ?_ ?_
  ·exact⟨0,0,rfl,hH,by omega,rfl⟩
  rintro mm fr st ⟨i,n,hfr,hH,hi,hn⟩;rw[hfr];clear hfr;generalize eQ fr=ee;clear fr;refine qq<|qj fun K hK=>qg ?_;refine qe hK<|qq ?_;refine af.cond (by rfl) (fun h1=>?_) (fun h1=>?_)<;>try simp only[decide_eq_true_eq,decide_eq_false_iff_not] at h1
  ·refine af.skip ?_
   obtain⟨c,hc⟩:∃c,b[i]?=some c:=⟨b[i]'(by omega),List.getElem?_eq_getElem _⟩
   have wy:b.drop i=c::b.drop (i+1):=by
    have:=List.drop_eq_getElem_cons (l:=b) (i:=i) (by omega);rw[this];congr 1;rw[List.getElem?_eq_getElem (by omega)] at hc;exact Option.some.inj hc
   rw[wy] at hn;refine qq<|af.block<|qq<|qj fun K hK=>qm ?_;refine qm ?_;refine qe hK<|qj fun K hK=>qm ?_;refine ab.tH (z:=bO .i64 (10*n)) rfl (ev rfl) (ev rfl) rfl (aa rfl _) ?_;refine qm ?_;refine qm ?_;refine ab.Kf rfl (ev rfl) (ev rfl) rfl (by assumption) (aa rfl _) ?_;refine ab.go (d:=.int .u8 (bO .u8 ((c.toNat:Nat)-48))) (st1:=_) rfl rfl rfl (aa rfl _) ?_;refine qg ?_;refine ab.lG (z:=bO .i64 (bO .i64 (10*n)+bO .i64 (bO .u8 ((c.toNat:Nat)-48)))) rfl (ev rfl) (ev rfl) rfl (aa rfl _) ?_;refine qm ?_;refine qe hK<|qj fun K hK=>qA ?_;refine qm ?_;refine qe hK ?_;exact⟨mm-1,by omega,⟨i+1,_,rfl,hH,by omega,hn⟩⟩
  ·refine af.exit ?_;have wx:b.drop i=[]:=List.drop_eq_nil_of_le (by omega);rw[wx] at hn;have hn:n=Ac b 0:=hn;rw[←hn];refine qq<|qj fun K hK=>qm ?_;refine qm ?_;refine qg ?_;refine qm ?_;refine qm ?_;refine qe hK<|af.ret ⟨rx,_,_,rfl,rl cE hH (rfl),?_⟩
   rfl
def eH {α:Type} (R:PR α) (aS:List Int) (s':dW):Prop:=∃e w,R=.er e w∧e≠0∧s'.e=e∧s'.w=aS.getD w 0
theorem eH.ne {α:Type} {R:PR α} {aS:List Int} {s':dW} (h:eH R aS s'):s'.e≠0:=by
 obtain⟨e,w,_,h1,h2,_⟩:=h;rw[h2];exact h1
theorem eH.map {α β:Type} {R:PR α} {R':PR β} {aS:List Int} {s':dW} (h:eH R aS s') (hR:∀e w,R=.er e w→R'=.er e w):eH R' aS s':=by
 obtain⟨e,w,h0,h1,h2,h3⟩:=h;exact⟨e,w,hR e w h0,h1,h2,h3⟩
theorem gC {α:Type} {R:PR α} {aS:List Int} {s:dW} {i:Nat} {e:Int} (he:s.e=0) (h:e≠0) (hR:R=.er e i):eH R aS (iZ aS s i e)∧(iZ aS s i e).i=s.i∧(iZ aS s i e).o=s.o∧(iZ aS s i e).g=s.g:=by
 unfold iZ;rw[if_pos he];exact⟨⟨e,i,hR,h,rfl,rfl⟩,rfl,rfl,rfl⟩
def dY (gs:List (Nat×Nat)) (i:Nat):List Int:=(gs.map fun g=>((g.1:Nat):Int)).drop i
theorem qO {N k:Nat} {S s0:St} {H:List cx} {gs:List (Nat×Nat)} {bz:D} {s:dW} (qk:gs.length≤120) (hi:s.i≤gs.length) (hne:gs≠[]) (hH:Has N S s0 (.box k (.mem 0 false (aU gs bz s))::H)):
  ∃d ag,Ev pv 126 [.ptr k 0 0] s0 d ag∧d=.tup [.str (digS (dY gs s.i) []).1,.bool (decide (0<(digS (dY gs s.i) []).2))]∧(digS (dY gs s.i) []).1.length≤120∧s.i+(digS (dY gs s.i) []).2≤gs.length∧Has N S ag (.box k (.mem 0 false (aU gs bz {s with i:=s.i+(digS (dY gs s.i) []).2}))::H):=by
 have hb:=hH.at aC;have hw:=jA (cs:=[.int .i64 0]) hH (hH.ge aC).1 (.inr rfl);have hl:=mD (dY gs s.i) [];unfold dY at*;obtain⟨h1,h2⟩:=hl;simp only[List.length_drop,List.length_map,List.length_nil] at h1 h2;refine⟨_,_,Ev.gj rfl ?_,rfl,by omega,by omega,hH.BT (ay:=0) aC⟩
 have hd:decide ((gs.map fun g=>((g.1:Nat):Int))≠[]∧(0:Int)≤(s.i:Nat)∧((s.i:Nat):Int).toNat≤(gs.map fun g=>((g.1:Nat):Int)).length∧(gs.map fun g=>((g.1:Nat):Int)).length<1099511627776)=true:=by
  rw[decide_eq_true];refine⟨by simpa using hne,by omega,by simp;omega,by simp;omega⟩
 show yj [.ptr k 0 0] s0=_;simp only[yj,St.mem_of hb];show(match jJ ((gs.map bq).map (lL 2)) with|some rs=>EN s0 k 0 0 rs (s.i:Nat)|none=>none)=_;rw[nY];simp only[EN,hd];have hwr:=lN (cs:=[.int .i64 ((s.i+(digS ((gs.map fun g=>((g.1:Nat):Int)).drop s.i) []).2:Nat))]) (off:=2) hb (by show 2+1≤7;omega) hw;simp only[Int.toNat_natCast,Nat.zero_add];rw[hwr]
 rfl
noncomputable def fJ (gs:List (Nat×Nat)) (f:Nat):PR (List Rg×Bool):=
 match gs[f+1]? with
 |none=>.er 4 f
 |some g=>
  if nQ gs (f+1)=true then .er 4 (f+1)
  else if((g.1:Nat):Int)=110 then .ok (da [(10,10)],true) (f+2)
  else if((g.1:Nat):Int)=116 then .ok (da [(9,9)],true) (f+2)
  else if((g.1:Nat):Int)=114 then .ok (da [(13,13)],true) (f+2)
  else if((g.1:Nat):Int)=100 then .ok (da [(48,57)],false) (f+2)
  else if((g.1:Nat):Int)=115 then .ok (da [(9,10),(13,13),(32,32)],false) (f+2)
  else if((g.1:Nat):Int)=119 then .ok (da [(48,57),(65,90),(95,95),(97,122)],false) (f+2)
  else if(33≤((g.1:Nat):Int)∧((g.1:Nat):Int)≤47∨58≤((g.1:Nat):Int)∧((g.1:Nat):Int)≤64∨91≤((g.1:Nat):Int)∧((g.1:Nat):Int)≤96∨123≤((g.1:Nat):Int)∧((g.1:Nat):Int)≤126) then .ok (da [(((g.1:Nat):Int),((g.1:Nat):Int))],true) (f+2)
  else .er 4 f
def Fw (gs:List (Nat×Nat)) (aS:List Int) (R:PR (List Rg×Bool)) (s s':dW) (d1:D) (b:Bool):Prop:=
 s'.o=s.o∧s'.g=s.g∧s.i≤s'.i∧s'.i≤gs.length∧(eH R aS s'∧d1=.nul∨s'.e=0∧s.i<s'.i∧∃a,R=.ok (a,b) s'.i∧d1=bB a∧a.length≤8∧a≠[])
theorem uT {N k:Nat} {S s0:St} {H:List cx} {gs:List (Nat×Nat)} {bz:D} {aS:List Int} {s:dW} (cH:kO gs aS) (he:s.e=0) (hi:s.i<gs.length) (hH:Has N S s0 (.box k (.mem 0 false (aU gs bz s))::.aR bz 1 (aS.map au)::H)):
  ∃d ag,Ev pv 123 [.ptr k 0 0] s0 d ag∧∃(d1:D) (b:Bool) (s':dW),d=.tup [d1,.bool b]∧Fw gs aS (fJ gs s.i) s s' d1 b∧Has N S ag (.box k (.mem 0 false (aU gs bz s'))::.aR bz 1 (aS.map au)::H):=by
 have qk:=cH.gl;have jT:=cH.pl;refine Ev.ow rfl Jd rfl rfl rfl ?_;dsimp only[u3,u4,List.length,Nat.reduceSub,Nat.reduceAdd,w1,w2];have cU:=hH;have hH:=hH.cV;have cF:(aj .rw s0).bs=s0.bs:=rfl;generalize aj .rw s0=S2 at*;have Bv:Arg N S2 2 (cO gs) (gs.map bq):=Arg.pure (fun st=>dw st gs);refine qq<|qj fun K hK=>qm ?_;refine qm ?_;refine qe hK<|qq<|qj fun K hK=>qm ?_;refine qg ?_;refine qp (o:=2) ?_;refine ql hH aC ?_;refine qm ?_;refine qe hK<|qq<|qj fun K hK=>qm ?_;refine qg ?_;refine qp (o:=2) ?_;refine ql hH aC ?_;refine qA ?_;refine qg ?_;refine qp (o:=2) ?_;refine qT hH aC fun st hH=>?_;dsimp only[u2,u1,u3,u4,setMany,u5,u6,D.cells,Nat.reduceAdd,aU,bq,au,aw] at hH;refine qe hK<|qq<|qq<|qj fun K hK=>qm ?_;refine qg ?_;refine qp (o:=2) ?_;refine ql hH aC ?_;refine qm ?_;refine qg ?_;refine qp (o:=0) ?_;refine ql hH aC ?_;refine qn ?_;simp only[List.length_map];refine qg ?_;refine qe hK ?_;refine af.cond (by rfl) (fun h0=>?_) (fun h0=>?_)<;>try simp only[decide_eq_true_eq,decide_eq_false_iff_not] at h0
 ·have hv:fJ gs s.i=.er 4 s.i:=by
   unfold fJ;rw[List.getElem?_eq_none (by omega)]
  refine qq<|qj fun K hK=>qm ?_;refine qm ?_;obtain⟨_,st,aM,rfl,hH⟩:=ef (s:={s with i:=s.i+1}) s.i 4 (by omega) hH;refine qv aM ?_;refine qe hK<|qq<|qj fun K hK=>qm ?_;refine qm ?_;refine qe hK ?_;obtain⟨h1,h2,h3,h4⟩:=gC (aS:=aS) (s:={s with i:=s.i+1}) (i:=s.i) (e:=4) he (by decide) hv;refine af.ret ⟨rx,_,_,_,rfl,ak (rfl),?_⟩;exact⟨_,_,_,rfl,⟨h3,h4,by rw[h2];simp,by rw[h2];exact hi,.inl ⟨h1,rfl⟩⟩,cU.ax cF hH⟩
 ·obtain⟨g,hg⟩:∃g,gs[s.i+1]?=some g:=⟨gs[s.i+1]'(by omega),List.getElem?_eq_getElem _⟩
  have jx:(gs.map bq)[s.i+1]?=some (bq g):=by rw[List.getElem?_map,hg];rfl
  have hlt:=bn hg;have hv:fJ gs s.i=fJ gs s.i:=rfl
  conv at hv=>rhs;unfold fJ;simp only[hg]
  refine af.skip<|qq<|qq<|qj fun K hK=>qm ?_;refine qm ?_;refine qg ?_;refine qp (o:=2) ?_;refine ql hH aC ?_;obtain⟨_,st,aM,rfl,hH⟩:=yC (s:={s with i:=s.i+1}) (s.i+1) hlt hH;refine qv aM ?_;refine qe hK ?_;dsimp only[aU] at hH;refine qc (fun hb=>?_) (fun hb=>?_)<;>try simp only[cs] at hb
  ·rw[if_pos hb] at hv;refine qq<|qj fun K hK=>qm ?_;refine qm ?_;refine qg ?_;refine qp (o:=2) ?_;refine ql hH aC ?_;obtain⟨_,st,aM,rfl,hH⟩:=ef (s:={s with i:=s.i+1}) (s.i+1) 4 (by omega) hH;refine qv aM ?_;refine qe hK<|qq<|qj fun K hK=>qm ?_;refine qm ?_;refine qe hK ?_;obtain⟨h1,h2,h3,h4⟩:=gC (aS:=aS) (s:={s with i:=s.i+1}) (i:=s.i+1) (e:=4) he (by decide) hv;refine af.ret ⟨rx,_,_,_,rfl,ak (rfl),?_⟩;exact⟨_,_,_,rfl,⟨h3,h4,by rw[h2];simp,by rw[h2];exact hi,.inl ⟨h1,rfl⟩⟩,cU.ax cF hH⟩
  ·rw[if_neg (by rw[hb];simp)] at hv;refine af.skip<|qq<|qj fun K hK=>qm ?_;refine qg ?_;refine qp (o:=0) ?_;refine ql hH aC ?_;refine qm ?_;refine qg ?_;refine qp (o:=2) ?_;refine ql hH aC ?_;refine qr fun Ol K'=>?_;refine qf (fo:=0) fun Oj K_=>?_;refine qR ?_;refine qm ?_;refine qe hK<|qq<|qj fun K hK=>qm ?_;refine qg ?_;refine qp (o:=2) ?_;refine ql hH aC ?_;refine qA ?_;refine qg ?_;refine qp (o:=2) ?_;refine qT hH aC fun st hH=>?_;dsimp only[u2,u1,u3,u4,setMany,u5,u6,D.cells,Nat.reduceAdd,aU,bq,au,aw] at hH;refine qe hK<|qq<|qq<|qj fun K hK=>qm ?_;refine qe hK ?_
   have fZ:∀(a:List Rg) (b:Bool),fJ gs s.i=.ok (a,b) (s.i+2)→a.length≤8→a≠[]→Fw gs aS (fJ gs s.i) s {s with i:=s.i+1+1} (bB a) b:=fun a b h0 h1 h2=>⟨rfl,rfl,by show s.i≤s.i+1+1;omega,by show s.i+1+1≤_;omega,.inr ⟨he,by show s.i<s.i+1+1;omega,a,h0,rfl,h1,h2⟩⟩
   have jU:∀(r:Int),0≤r→r<55296→(da [(r,r)]).length≤8∧da [(r,r)]≠[]:=by
    intro r h1 h2;obtain⟨_,h3,h4⟩:=mi (s0:=s0) (x:=bB [(r,r)]) (l:=[(r,r)]) (fL _ _) (by simp);exact⟨by simp at h3;omega,vT h1 h2 h4⟩
   refine af.block<|qq<|qj fun K hK=>qg ?_;refine qm ?_;refine qe hK ?_;refine af.cond (by rfl) (fun q1=>?_) (fun q1=>?_)<;>try simp only[beq_iff_eq,beq_eq_false_iff_ne,ne_eq] at q1
   ·rw[if_pos q1] at hv;refine qq<|qj fun K hK=>qv (jm 10) ?_;refine qm ?_;refine qm ?_;refine qe hK<|af.ret ⟨rx,_,_,_,rfl,ak (rfl),?_⟩;exact⟨_,_,_,rfl,fZ _ _ hv (jU 10 (by decide) (by decide)).1 (jU 10 (by decide) (by decide)).2,cU.ax cF hH⟩
   ·rw[if_neg q1] at hv;refine qq<|qj fun K hK=>qg ?_;refine qm ?_;refine qe hK ?_;refine af.cond (by rfl) (fun q2=>?_) (fun q2=>?_)<;>try simp only[beq_iff_eq,beq_eq_false_iff_ne,ne_eq] at q2
    ·rw[if_pos q2] at hv;refine qq<|qj fun K hK=>qv (jm 9) ?_;refine qm ?_;refine qm ?_;refine qe hK<|af.ret ⟨rx,_,_,_,rfl,ak (rfl),?_⟩;exact⟨_,_,_,rfl,fZ _ _ hv (jU 9 (by decide) (by decide)).1 (jU 9 (by decide) (by decide)).2,cU.ax cF hH⟩
    ·rw[if_neg q2] at hv;refine qq<|qj fun K hK=>qg ?_;refine qm ?_;refine qe hK ?_;refine af.cond (by rfl) (fun q3=>?_) (fun q3=>?_)<;>try simp only[beq_iff_eq,beq_eq_false_iff_ne,ne_eq] at q3
     ·rw[if_pos q3] at hv;refine qq<|qj fun K hK=>qv (jm 13) ?_;refine qm ?_;refine qm ?_;refine qe hK<|af.ret ⟨rx,_,_,_,rfl,ak (rfl),?_⟩;exact⟨_,_,_,rfl,fZ _ _ hv (jU 13 (by decide) (by decide)).1 (jU 13 (by decide) (by decide)).2,cU.ax cF hH⟩
     ·rw[if_neg q3] at hv;refine qq<|qj fun K hK=>qg ?_;refine qm ?_;refine qe hK ?_;refine af.cond (by rfl) (fun q4=>?_) (fun q4=>?_)<;>try simp only[beq_iff_eq,beq_eq_false_iff_ne,ne_eq] at q4
      ·rw[if_pos q4] at hv;refine qq<|qj fun K hK=>?_;refine ab.ir (qs:=[(0,_),(1,_)]) rfl rfl rfl rfl ⟨rfl,(ev rfl),(by rfl),rfl,(ev rfl),(by rfl),trivial⟩ (by intro q hq;simp only[List.mem_cons,List.not_mem_nil,or_false] at hq;rcases hq with rfl|rfl<;>exact⟨rfl,by exact Nat.le_of_ble_eq_true rfl⟩) (by show List.foldl _ [_,_] _=_;dsimp only[List.foldl_cons,List.foldl_nil,u2,u1]<;>rfl) (aa rfl _) ?_;refine qh (s:=2) (vs:=[_]) hH fun k73 st PW hH=>?_;obtain⟨aM,hl,He⟩:=mi (l:=[(48,57)]) (hH.rows aC) (by simp);refine qv aM ?_;refine qm ?_;refine qm ?_;refine qe hK<|af.ret ⟨rx,_,_,_,rfl,ak (rfl),?_⟩;exact⟨_,_,_,rfl,fZ _ _ hv (by simp at hl;omega) (tQ (r:=48) (by decide) (by decide) ⟨_,List.mem_cons_self ..,by decide,by decide⟩ He),cU.ax cF (hH.drop 1)⟩
      ·rw[if_neg q4] at hv;refine qq<|qj fun K hK=>qg ?_;refine qm ?_;refine qe hK ?_;refine af.cond (by rfl) (fun q5=>?_) (fun q5=>?_)<;>try simp only[beq_iff_eq,beq_eq_false_iff_ne,ne_eq] at q5
       ·rw[if_pos q5] at hv;refine qq<|qj fun K hK=>?_;refine ab.ir (qs:=[(0,_),(1,_)]) rfl rfl rfl rfl ⟨rfl,(ev rfl),(by rfl),rfl,(ev rfl),(by rfl),trivial⟩ (by intro q hq;simp only[List.mem_cons,List.not_mem_nil,or_false] at hq;rcases hq with rfl|rfl<;>exact⟨rfl,by exact Nat.le_of_ble_eq_true rfl⟩) (by show List.foldl _ [_,_] _=_;dsimp only[List.foldl_cons,List.foldl_nil,u2,u1]<;>rfl) (aa rfl _) ?_;refine ab.ir (qs:=[(0,_),(1,_)]) rfl rfl rfl rfl ⟨rfl,(ev rfl),(by rfl),rfl,(ev rfl),(by rfl),trivial⟩ (by intro q hq;simp only[List.mem_cons,List.not_mem_nil,or_false] at hq;rcases hq with rfl|rfl<;>exact⟨rfl,by exact Nat.le_of_ble_eq_true rfl⟩) (by show List.foldl _ [_,_] _=_;dsimp only[List.foldl_cons,List.foldl_nil,u2,u1]<;>rfl) (aa rfl _) ?_;refine ab.ir (qs:=[(0,_),(1,_)]) rfl rfl rfl rfl ⟨rfl,(ev rfl),(by rfl),rfl,(ev rfl),(by rfl),trivial⟩ (by intro q hq;simp only[List.mem_cons,List.not_mem_nil,or_false] at hq;rcases hq with rfl|rfl<;>exact⟨rfl,by exact Nat.le_of_ble_eq_true rfl⟩) (by show List.foldl _ [_,_] _=_;dsimp only[List.foldl_cons,List.foldl_nil,u2,u1]<;>rfl) (aa rfl _) ?_;refine qh (s:=2) (vs:=[_,_,_]) hH fun k80 st Lr hH=>?_;obtain⟨aM,hl,He⟩:=mi (l:=[(9,10),(13,13),(32,32)]) (hH.rows aC) (by simp);refine qv aM ?_;refine qm ?_;refine qm ?_;refine qe hK<|af.ret ⟨rx,_,_,_,rfl,ak (rfl),?_⟩;exact⟨_,_,_,rfl,fZ _ _ hv (by simp at hl;omega) (tQ (r:=9) (by decide) (by decide) ⟨_,List.mem_cons_self ..,by decide,by decide⟩ He),cU.ax cF (hH.drop 1)⟩
       ·rw[if_neg q5] at hv;refine qq<|qj fun K hK=>qg ?_;refine qm ?_;refine qe hK ?_;refine af.cond (by rfl) (fun q6=>?_) (fun q6=>?_)<;>try simp only[beq_iff_eq,beq_eq_false_iff_ne,ne_eq] at q6
        ·rw[if_pos q6] at hv;refine qq<|qj fun K hK=>?_;refine ab.ir (qs:=[(0,_),(1,_)]) rfl rfl rfl rfl ⟨rfl,(ev rfl),(by rfl),rfl,(ev rfl),(by rfl),trivial⟩ (by intro q hq;simp only[List.mem_cons,List.not_mem_nil,or_false] at hq;rcases hq with rfl|rfl<;>exact⟨rfl,by exact Nat.le_of_ble_eq_true rfl⟩) (by show List.foldl _ [_,_] _=_;dsimp only[List.foldl_cons,List.foldl_nil,u2,u1]<;>rfl) (aa rfl _) ?_;refine ab.ir (qs:=[(0,_),(1,_)]) rfl rfl rfl rfl ⟨rfl,(ev rfl),(by rfl),rfl,(ev rfl),(by rfl),trivial⟩ (by intro q hq;simp only[List.mem_cons,List.not_mem_nil,or_false] at hq;rcases hq with rfl|rfl<;>exact⟨rfl,by exact Nat.le_of_ble_eq_true rfl⟩) (by show List.foldl _ [_,_] _=_;dsimp only[List.foldl_cons,List.foldl_nil,u2,u1]<;>rfl) (aa rfl _) ?_;refine ab.ir (qs:=[(0,_),(1,_)]) rfl rfl rfl rfl ⟨rfl,(ev rfl),(by rfl),rfl,(ev rfl),(by rfl),trivial⟩ (by intro q hq;simp only[List.mem_cons,List.not_mem_nil,or_false] at hq;rcases hq with rfl|rfl<;>exact⟨rfl,by exact Nat.le_of_ble_eq_true rfl⟩) (by show List.foldl _ [_,_] _=_;dsimp only[List.foldl_cons,List.foldl_nil,u2,u1]<;>rfl) (aa rfl _) ?_;refine ab.ir (qs:=[(0,_),(1,_)]) rfl rfl rfl rfl ⟨rfl,(ev rfl),(by rfl),rfl,(ev rfl),(by rfl),trivial⟩ (by intro q hq;simp only[List.mem_cons,List.not_mem_nil,or_false] at hq;rcases hq with rfl|rfl<;>exact⟨rfl,by exact Nat.le_of_ble_eq_true rfl⟩) (by show List.foldl _ [_,_] _=_;dsimp only[List.foldl_cons,List.foldl_nil,u2,u1]<;>rfl) (aa rfl _) ?_;refine qh (s:=2) (vs:=[_,_,_,_]) hH fun k88 st Iv hH=>?_;obtain⟨aM,hl,He⟩:=mi (l:=[(48,57),(65,90),(95,95),(97,122)]) (hH.rows aC) (by simp);refine qv aM ?_;refine qm ?_;refine qm ?_;refine qe hK<|af.ret ⟨rx,_,_,_,rfl,ak (rfl),?_⟩;exact⟨_,_,_,rfl,fZ _ _ hv (by simp at hl;omega) (tQ (r:=48) (by decide) (by decide) ⟨_,List.mem_cons_self ..,by decide,by decide⟩ He),cU.ax cF (hH.drop 1)⟩
        ·rw[if_neg q6] at hv;refine af.skip<|qq<|qq<|qj fun K hK=>qm ?_;refine qv (Ee _) ?_;refine qg ?_;refine qe hK ?_;refine af.cond (by rfl) (fun q7=>?_) (fun q7=>?_)<;>try simp only[decide_eq_true_eq,decide_eq_false_iff_not,Bool.not_eq_true',Bool.not_eq_false'] at q7
         ·rw[if_neg q7] at hv;refine qq<|qj fun K hK=>qm ?_;refine qm ?_;obtain⟨_,st,aM,rfl,hH⟩:=ef (s:={s with i:=s.i+1+1}) s.i 4 (by omega) hH;refine qv aM ?_;refine qe hK<|qq<|qj fun K hK=>qm ?_;refine qm ?_;refine qe hK ?_;obtain⟨h1,h2,h3,h4⟩:=gC (aS:=aS) (s:={s with i:=s.i+1+1}) (i:=s.i) (e:=4) he (by decide) hv;refine af.ret ⟨rx,_,_,_,rfl,ak (rfl),?_⟩;exact⟨_,_,_,rfl,⟨h3,h4,by rw[h2];show s.i≤s.i+1+1;omega,by rw[h2];show s.i+1+1≤_;omega,.inl ⟨h1,rfl⟩⟩,cU.ax cF hH⟩
         ·rw[if_pos q7] at hv;refine af.skip<|qq<|qj fun K hK=>qm ?_;refine qv (jm _) ?_;refine qm ?_;refine qm ?_;refine qe hK ?_;have hm:=jU ((g.1:Nat):Int) (by omega) (by omega);refine af.ret ⟨rx,_,_,_,rfl,ak (rfl),?_⟩;exact⟨_,_,_,rfl,fZ _ _ hv hm.1 hm.2,cU.ax cF hH⟩
def xX (fr:Go.V.Fr) (k:Nat):Go.V.D:=Go.V.nth .bG fr.loc k
noncomputable def gG (gs:List (Nat×Nat)) (i:Nat):PR (Option (List Rg×Bool)):=
 match gs[i]? with
 |none=>.er 4 i
 |some g=>
  if nQ gs i=true then .er 4 i
  else if((g.1:Nat):Int)=92 then
   match fJ gs i with
   | .ok (a,b) j=>.ok (some (a,b)) j
   | .er e w=>.er e w
  else if((g.1:Nat):Int)=91∨((g.1:Nat):Int)=93∨((g.1:Nat):Int)=45 then .ok none i
  else .ok (some ([(((g.1:Nat):Int),((g.1:Nat):Int))],true)) (i+1)
def Jy (gs:List (Nat×Nat)) (aS:List Int) (R:PR (Option (List Rg×Bool))) (s s':dW) (d1:D) (b:Bool):Prop:=
 s'.o=s.o∧s'.g=s.g∧s.i≤s'.i∧s'.i≤gs.length∧(eH R aS s'∧d1=.nul∨(s'=s∧R=.ok none s.i∧d1=.nul∧b=false)∨(s'.e=0∧s.i<s'.i∧∃a,R=.ok (some (a,b)) s'.i∧d1=bB a∧a.length≤8∧a≠[]))
theorem vA {N k:Nat} {S s0:St} {H:List cx} {gs:List (Nat×Nat)} {bz:D} {aS:List Int} {s:dW} (cH:kO gs aS) (he:s.e=0) (hi:s.i<gs.length) (hH:Has N S s0 (.box k (.mem 0 false (aU gs bz s))::.aR bz 1 (aS.map au)::H)):
  ∃d ag,Ev pv 147 [.ptr k 0 0] s0 d ag∧∃(d1:D) (b:Bool) (s':dW),d=.tup [d1,.bool b]∧Jy gs aS (gG gs s.i) s s' d1 b∧Has N S ag (.box k (.mem 0 false (aU gs bz s'))::.aR bz 1 (aS.map au)::H):=by
 have qk:=cH.gl;have jT:=cH.pl;refine Ev.ow rfl I7 rfl rfl rfl ?_;dsimp only[u3,u4,List.length,Nat.reduceSub,Nat.reduceAdd,w1,w2];have cU:=hH;have hH:=hH.cV;have cF:(aj .rw s0).bs=s0.bs:=rfl;generalize aj .rw s0=S2 at*;have Bv:Arg N S2 2 (cO gs) (gs.map bq):=Arg.pure (fun st=>dw st gs)
 obtain⟨g,hg⟩:∃g,gs[s.i]?=some g:=⟨gs[s.i]'hi,List.getElem?_eq_getElem _⟩
 have jx:(gs.map bq)[s.i]?=some (bq g):=by rw[List.getElem?_map,hg];rfl
 have hv:gG gs s.i=gG gs s.i:=rfl
 conv at hv=>rhs;unfold gG;simp only[hg]
 refine qq<|qj fun K hK=>qm ?_;refine qm ?_;refine qe hK<|qq<|qq<|qj fun K hK=>qm ?_;refine qm ?_;refine qg ?_;refine qp (o:=2) ?_;refine ql hH aC ?_;obtain⟨_,st,aM,rfl,hH⟩:=yC (s:=s) s.i hi hH;refine qv aM ?_;refine qe hK ?_;refine qc (fun hb=>?_) (fun hb=>?_)<;>try simp only[cs] at hb
 ·rw[if_pos hb] at hv;refine qq<|qj fun K hK=>qm ?_;refine qm ?_;refine qg ?_;refine qp (o:=2) ?_;refine ql hH aC ?_;obtain⟨_,st,aM,rfl,hH⟩:=ef (s:=s) s.i 4 (by omega) hH;refine qv aM ?_;refine qe hK<|qq<|qj fun K hK=>qm ?_;refine qm ?_;refine qe hK ?_;obtain⟨h1,h2,h3,h4⟩:=gC (aS:=aS) (s:=s) (i:=s.i) (e:=4) he (by decide) hv;refine af.ret ⟨rx,_,_,_,rfl,ak (rfl),?_⟩;exact⟨_,_,_,rfl,⟨h3,h4,by rw[h2];exact Nat.le_refl _,by rw[h2];omega,.inl ⟨h1,rfl⟩⟩,cU.ax cF hH⟩
 ·rw[if_neg (by rw[hb];simp)] at hv;refine af.skip<|qq<|qj fun K hK=>qm ?_;refine qg ?_;refine qp (o:=0) ?_;refine ql hH aC ?_;refine qm ?_;refine qg ?_;refine qp (o:=2) ?_;refine ql hH aC ?_;refine qr fun Kk F'=>?_;refine qf (fo:=0) fun RE PC=>?_;refine qR ?_;refine qm ?_;refine qe hK<|qq<|qj fun K hK=>qm ?_;refine qe hK<|af.block<|qq<|qj fun K hK=>qg ?_;refine qm ?_;refine qe hK ?_;refine af.cond (by rfl) (fun q1=>?_) (fun q1=>?_)<;>try simp only[beq_iff_eq,beq_eq_false_iff_ne,ne_eq] at q1
  ·rw[if_pos q1] at hv;refine qq<|qj fun K hK=>qm ?_;obtain⟨_,st,aM,d1,b,s',rfl,⟨p1,p2,p3,p4,p5⟩,hH⟩:=uT (s:=s) cH he hi hH;refine qv aM ?_;refine qg ?_;refine qg ?_;refine qm ?_;refine qm ?_;refine qe hK ?_
   rcases p5 with⟨p5,rfl⟩|⟨p5,p6,a,p7,rfl,p8,p9⟩
   ·refine af.ret ⟨rx,_,_,_,rfl,ak (rfl),?_⟩;exact⟨_,_,_,rfl,⟨p1,p2,p3,p4,.inl ⟨p5.map fun e w h=>by rw[hv,h],rfl⟩⟩,cU.ax cF hH⟩
   ·refine af.ret ⟨rx,_,_,_,rfl,ak (rfl),?_⟩;exact⟨_,_,_,rfl,⟨p1,p2,p3,p4,.inr (.inr ⟨p5,p6,a,by rw[hv,p7],rfl,p8,p9⟩)⟩,cU.ax cF hH⟩
  ·rw[if_neg q1] at hv;refine qq<|qq<|qj fun K hK=>qg ?_;refine qm ?_;refine qe hK ?_
   by_cases DB:((g.1:Nat):Int)=91
   ·rw[if_pos (.inl DB)] at hv;refine qD rfl (by simp[DB]) ?_;refine af.skip<|qD rfl (by simp[DB]) ?_;refine qq<|qj fun K hK=>qm ?_;refine qm ?_;refine qe hK<|af.ret ⟨rx,_,_,_,rfl,ak (rfl),?_⟩;exact⟨_,_,s,rfl,⟨rfl,rfl,Nat.le_refl _,by omega,.inr (.inl ⟨rfl,hv,rfl,rfl⟩)⟩,cU.ax cF hH⟩
   refine qE rfl (by simp[DB]) ?_;refine qq<|qj fun K hK=>qg ?_;refine qm ?_;refine qe hK ?_
   by_cases HG:((g.1:Nat):Int)=93
   ·rw[if_pos (.inr (.inl HG))] at hv;refine qD rfl (by simp[HG]) ?_;refine af.skip<|qD rfl (by simp[HG]) ?_;refine qq<|qj fun K hK=>qm ?_;refine qm ?_;refine qe hK<|af.ret ⟨rx,_,_,_,rfl,ak (rfl),?_⟩;exact⟨_,_,s,rfl,⟨rfl,rfl,Nat.le_refl _,by omega,.inr (.inl ⟨rfl,hv,rfl,rfl⟩)⟩,cU.ax cF hH⟩
   refine qE rfl (by simp[HG]) ?_;refine qj fun K hK=>qg ?_;refine qm ?_;refine qe hK ?_
   by_cases JF:((g.1:Nat):Int)=45
   ·rw[if_pos (.inr (.inr JF))] at hv;refine qD rfl (by simp[JF]) ?_;refine qq<|qj fun K hK=>qm ?_;refine qm ?_;refine qe hK<|af.ret ⟨rx,_,_,_,rfl,ak (rfl),?_⟩;exact⟨_,_,s,rfl,⟨rfl,rfl,Nat.le_refl _,by omega,.inr (.inl ⟨rfl,hv,rfl,rfl⟩)⟩,cU.ax cF hH⟩
   refine qE rfl (by simp[JF]) ?_;rw[if_neg (by rintro(h|h|h);exact DB h;exact HG h;exact JF h)] at hv;refine qq<|qj fun K hK=>qm ?_;refine qg ?_;refine qp (o:=2) ?_;refine ql hH aC ?_;refine qA ?_;refine qg ?_;refine qp (o:=2) ?_;refine qT hH aC fun st hH=>?_;dsimp only[u2,u1,u3,u4,setMany,u5,u6,D.cells,Nat.reduceAdd,aU,bq,au,aw] at hH;refine qe hK<|qq<|qj fun K hK=>qm ?_;refine qm ?_;refine ab.ir (qs:=[(0,_),(1,_)]) rfl rfl rfl rfl ⟨rfl,(ev rfl),(by rfl),rfl,(ev rfl),(by rfl),trivial⟩ (by intro q hq;simp only[List.mem_cons,List.not_mem_nil,or_false] at hq;rcases hq with rfl|rfl<;>exact⟨rfl,by exact Nat.le_of_ble_eq_true rfl⟩) (by show List.foldl _ [_,_] _=_;dsimp only[List.foldl_cons,List.foldl_nil,u2,u1]<;>rfl) (aa rfl _) ?_;refine qh (s:=2) (vs:=[_]) hH fun k39 st P5 hH=>?_;refine qm ?_;refine qm ?_;refine qe hK ?_;have hH:Has N S2 st (.aR (.win k39 0 0 1 2) 2 (([((g.1:Nat),(g.1:Nat))]:List Rg).map aw)::.box k (.mem 0 false (aU gs bz {s with i:=s.i+1}))::.aR bz 1 (aS.map au)::H):=hH;have hfz:=oi hH aC (L:=s0.bs.length) (n:=15) (fun k hk=>by simp only[D.ref] at hk;rw[←cF];omega) (by decide)
   have LI:bQ st s0.bs.length true 16 (rE [.win k39 0 0 1 2,.bool true])=some (.tup [bB [(((g.1:Nat):Int),((g.1:Nat):Int))],.bool true]):=by
    show(ju (bQ st s0.bs.length true 15) [.win k39 0 0 1 2,.bool true]).map D.tup=_;simp only[ju,A7,hfz];rfl
   refine af.ret ⟨rx,_,_,_,rfl,ak LI,⟨_,_,{s with i:=s.i+1},rfl,⟨rfl,rfl,?_,?_,.inr (.inr ⟨he,?_,_,hv,rfl,by simp,by simp⟩)⟩,cU.ax cF (hH.drop 1)⟩⟩
   ·show s.i≤s.i+1;omega
   ·show s.i+1≤_;omega
   ·show s.i<s.i+1;omega
def vV:List Rg→Int
 |[]=>0
 |q::_=>q.1
noncomputable def fw (gs:List (Nat×Nat)) (i:Nat):PR (List Rg):=
 match gG gs i with
 | .er e w=>.er e w
 | .ok none _=>.er 4 i
 | .ok (some (a,one)) j=>
  if ct gs j 45=true then
   if j+1<gs.length then
    match gG gs (j+1) with
    | .er e w=>.er e w
    | .ok none _=>.er 4 i
    | .ok (some (b,two)) l=>if one=true∧two=true∧vV a≤vV b then .ok [(vV a,vV b)] l else .er 4 i
   else .er 4 i
  else .ok a j
def Fz (gs:List (Nat×Nat)) (aS:List Int) (R:PR (List Rg)) (s s':dW) (d:D):Prop:=
 s'.o=s.o∧s'.g=s.g∧s.i≤s'.i∧s'.i≤gs.length∧∃a:List Rg,d=bB a∧a.length≤8∧(eH R aS s'∨s'.e=0∧s.i<s'.i∧R=.ok a s'.i)
theorem Cv {N k:Nat} {S s0:St} {H:List cx} {gs:List (Nat×Nat)} {bz:D} {aS:List Int} {s:dW} (cH:kO gs aS) (he:s.e=0) (hi:s.i<gs.length) (hH:Has N S s0 (.box k (.mem 0 false (aU gs bz s))::.aR bz 1 (aS.map au)::H)):
  ∃d ag,Ev pv 131 [.ptr k 0 0] s0 d ag∧∃(s':dW),Fz gs aS (fw gs s.i) s s' d∧Has N S ag (.box k (.mem 0 false (aU gs bz s'))::.aR bz 1 (aS.map au)::H):=by
 have qk:=cH.gl;have jT:=cH.pl;refine Ev.ow rfl I_ rfl rfl rfl ?_;dsimp only[u3,u4,List.length,Nat.reduceSub,Nat.reduceAdd,w1,w2];have cU:=hH;have hH:=hH.cV;have cF:(aj .rw s0).bs=s0.bs:=rfl;generalize aj .rw s0=S2 at*;have Bv:Arg N S2 2 (cO gs) (gs.map bq):=Arg.pure (fun st=>dw st gs)
 have hwr:∀(st:St) (s3:dW),s3.e=0→fw gs s.i=.er 4 s.i→s3.o=s.o→s3.g=s.g→s.i≤s3.i→s3.i≤gs.length→Has N S2 st (.box k (.mem 0 false (aU gs bz s3))::.aR bz 1 (aS.map au)::H)→∃d ag,Ev pv 39 [.ptr k 0 0,.int .i64 (s.i:Nat),.int .i64 4] st d ag∧d=.sl []∧∃s4:dW,s4.e≠0∧Fz gs aS (fw gs s.i) s s4 (.sl [])∧Has N S2 ag (.box k (.mem 0 false (aU gs bz s4))::.aR bz 1 (aS.map au)::H):=by
  intro st s3 h1 hv h2 h3 h4 h5 hH;obtain⟨d,ag,aM,h6,hH⟩:=ef (s:=s3) s.i 4 (by omega) hH;obtain⟨w1,w2,w3,w4⟩:=gC (aS:=aS) (s:=s3) (i:=s.i) (e:=4) h1 (by decide) hv;exact⟨d,ag,aM,h6,_,w1.ne,⟨w3.trans h2,w4.trans h3,by omega,by omega,[],rfl,by simp,.inl w1⟩,hH⟩
 have rz:fw gs s.i=match gG gs s.i with
  | .er e w=>.er e w
  | .ok none _=>.er 4 s.i
  | .ok (some (a,one)) j=>
   if ct gs j 45=true then
    if j+1<gs.length then
     match gG gs (j+1) with
     | .er e w=>.er e w
     | .ok none _=>.er 4 s.i
     | .ok (some (b,two)) l=>if one=true∧two=true∧vV a≤vV b then .ok [(vV a,vV b)] l else .er 4 s.i
    else .er 4 s.i
   else .ok a j:=rfl
 refine qq<|qj fun K hK=>qm ?_;refine qe hK<|qq<|qj fun K hK=>qm ?_;refine qg ?_;refine qp (o:=2) ?_;refine ql hH aC ?_;refine qm ?_;refine qe hK<|qq<|qj fun K hK=>qm ?_;obtain⟨_,st,aM,d1,b,s1,rfl,⟨p1,p2,p3,p4,p5⟩,hH⟩:=vA (s:=s) cH he hi hH;refine qv aM ?_;refine qm ?_;refine qg ?_;refine qg ?_;refine qm ?_;refine qm ?_;refine qe hK<|qq<|qq<|qj fun K hK=>qm ?_;refine qg ?_;refine qp (o:=5) ?_;refine ql hH aC ?_;refine qg ?_;refine qe hK ?_
 rcases p5 with⟨p5,rfl⟩|⟨e1,e2,rfl,rfl⟩|⟨p6,p7,a,e2,rfl,p8,p9⟩
 ·have hne:=p5.ne;refine qD rfl (by simp[hne]) ?_;refine qq<|qj fun K hK=>qm ?_;refine qe hK<|af.ret ⟨rx,_,_,_,rfl,ak (rfl),?_⟩;exact⟨s1,⟨p1,p2,p3,p4,[],rfl,by simp,.inl (p5.map fun e w h=>by rw[rz,h])⟩,cU.ax cF hH⟩
 ·rw[e2] at rz;simp only at rz;have e3:s1.e=0:=by rw[e1];exact he
  refine qE rfl (by simp[e3]) ?_;refine af.skip<|qq<|qq<|qj fun K hK=>qm ?_;refine ab.go (d:=.bool true) (st1:=_) rfl rfl rfl (aa rfl _) ?_;refine qe hK<|qB ?_;refine qq<|qj fun K hK=>qm ?_;refine qm ?_;obtain⟨_,st,aM,rfl,s4,PG,hX,hH⟩:=hwr _ s1 e3 rz p1 p2 p3 p4 hH;refine qv aM ?_;refine qe hK<|qq<|qj fun K hK=>qm ?_;refine qe hK<|af.ret ⟨rx,_,_,_,rfl,ak (rfl),?_⟩;exact⟨s4,hX,cU.ax cF hH⟩
 ·rw[e2] at rz;simp only at rz;obtain⟨q,a',rfl⟩:∃q a',a=q::a':=List.exists_cons_of_ne_nil p9;refine qE rfl (by simp[p6]) ?_;refine af.skip<|qq<|qq<|qj fun K hK=>qm ?_;refine ab.go (d:=.bool false) (st1:=_) rfl rfl rfl (aa rfl _) ?_;refine qe hK<|qC ?_;refine af.skip ?_;obtain⟨k1,k2,k3,k4,k5⟩:=gO (gs:=gs) (s:=s1) (r:=45);have k5:=k5 p4;refine qq<|qq<|qj fun K hK=>qm ?_;obtain⟨_,st,aM,rfl,hH⟩:=dS (s:=s1) (by omega) 45 hH;refine qv aM ?_;refine qg ?_;refine qe hK ?_;have hsk:ct gs s1.i 45=true→(b9 gs s1 45).i=s1.i+1:=fun h=>by unfold b9;rw[if_pos h]
  have F4:ct gs s1.i 45=false→(b9 gs s1 45).i=s1.i:=fun h=>by unfold b9;rw[if_neg (by rw[h];simp)]
  generalize b9 gs s1 45=s2 at*
  cases hb:ct gs s1.i 45 with
  |false=>
   have F4:=F4 hb;rw[hb,if_neg (by simp),←F4] at rz;refine qB ?_;refine qq<|qj fun K hK=>qm ?_;refine qm ?_;refine qe hK<|af.ret ⟨rx,_,_,_,rfl,ak (rfl),?_⟩;exact⟨s2,⟨k1.trans p1,k2.trans p2,by omega,k5,q::a',rfl,p8,.inr ⟨k3.trans p6,by omega,rz⟩⟩,cU.ax cF hH⟩
  |true=>
   have hsk:=hsk hb;rw[hb,if_pos rfl,←hsk] at rz;refine qC ?_;refine af.skip<|qq<|qj fun K hK=>qm ?_;refine qe hK<|qq<|qj fun K hK=>qm ?_;refine qe hK<|qq<|qq<|qj fun K hK=>qm ?_;refine qg ?_;refine qp (o:=2) ?_;refine ql hH aC ?_;refine qm ?_;refine qg ?_;refine qp (o:=0) ?_;refine ql hH aC ?_;refine qn ?_;simp only[List.length_map];refine qg ?_;refine qe hK<|af.merge (fun fr st=>∃(d2:D) (two:Bool) (s3:dW) (tmp:List (Nat×D)),fr=⟨8,[.ptr k 0 0,xX fr 1,xX fr 2,.int .i64 (s.i:Nat),bB (q::a'),.bool b,d2,.bool two],tmp⟩∧Has N S2 st (.box k (.mem 0 false (aU gs bz s3))::.aR bz 1 (aS.map au)::H)∧(s3.o=s.o)∧(s3.g=s.g)∧(s2.i≤s3.i)∧(s3.i≤gs.length)∧(eH (fw gs s.i) aS s3∨s3.e=0∧(two=false∧fw gs s.i=.er 4 s.i∨∃a2:List Rg,d2=bB a2∧a2≠[]∧fw gs s.i=if b=true∧two=true∧vV (q::a')≤vV a2 then .ok [(vV (q::a'),vV a2)] s3.i else .er 4 s.i))) ?_ ?_
   ·refine af.cond (by rfl) (fun hlt=>?_) (fun hlt=>?_)<;>try simp only[decide_eq_true_eq,decide_eq_false_iff_not] at hlt
    ·have Is:s2.i<gs.length:=by omega
     rw[if_pos Is] at rz;refine qj fun K hK=>qm ?_;obtain⟨_,st,aM,d2,two,s3,rfl,⟨r1,r2,r3,r4,r5⟩,hH⟩:=vA (s:=s2) cH (k3.trans p6) (by omega) hH;refine qv aM ?_;refine qm ?_;refine qg ?_;refine qg ?_;refine qm ?_;refine qm ?_;refine qe hK ?_
     rcases r5 with⟨r5,rfl⟩|⟨e4,e5,rfl,rfl⟩|⟨r6,r7,a2,e5,rfl,r8,r9⟩
     ·exact⟨.nul,two,s3,_,rfl,hH,r1.trans (k1.trans p1),r2.trans (k2.trans p2),r3,r4,.inl (r5.map fun e w h=>by rw[rz,h])⟩
     ·rw[e5] at rz;simp only at rz;exact⟨.nul,false,s3,_,rfl,hH,r1.trans (k1.trans p1),r2.trans (k2.trans p2),r3,r4,.inr ⟨by rw[e4];exact k3.trans p6,.inl ⟨rfl,rz⟩⟩⟩
     ·rw[e5] at rz;simp only at rz;exact⟨bB a2,two,s3,_,rfl,hH,r1.trans (k1.trans p1),r2.trans (k2.trans p2),r3,r4,.inr ⟨r6,.inr ⟨a2,rfl,r9,rz⟩⟩⟩
    ·rw[if_neg (by omega)] at rz;refine af.skip ?_;exact⟨.nul,false,s2,_,rfl,hH,k1.trans p1,k2.trans p2,Nat.le_refl _,k5,.inr ⟨k3.trans p6,.inl ⟨rfl,rz⟩⟩⟩
   ·rintro fr st ⟨d2,two,s3,tmp,hfr,hH,h1,h2,h3,h4,h5⟩;rw[hfr];clear hfr;generalize xX fr=ee;clear fr
    rcases h5 with h5|⟨h5,h6⟩
    ·have hne:=h5.ne;have bC:(s3.e==0)=false:=by simpa using hne
     refine qq<|qq<|qj fun K hK=>qm ?_;refine qg ?_;refine qp (o:=5) ?_;refine ql hH aC ?_;refine qg ?_;refine qm ?_;refine qs ?_ (hg:=wn bC);refine qs ?_ (hg:=wn bC);refine qs ?_ (hg:=wn bC);refine qs ?_;refine qs ?_;refine qs ?_ (hg:=wn bC);refine qs ?_ (hg:=wn bC);refine qs ?_;refine qs ?_;refine qs ?_;refine qs ?_;refine qs ?_;refine qs ?_;refine qs ?_;refine qs ?_;refine qs ?_;refine qs ?_ (hg:=wn bC);refine qu bC ?_;refine qe hK<|qC ?_;refine af.skip<|qq<|qq<|qj fun K hK=>qm ?_;refine qg ?_;refine qp (o:=5) ?_;refine ql hH aC ?_;refine qg ?_;refine qe hK<|qD rfl (by simp[hne]) ?_;refine qq<|qj fun K hK=>qm ?_;refine qe hK<|af.ret ⟨rx,_,_,_,rfl,ak (rfl),?_⟩;exact⟨s3,⟨h1,h2,by omega,h4,[],rfl,by simp,.inl h5⟩,cU.ax cF hH⟩
    ·have bC:(s3.e==0)=true:=by simpa using h5
     cases b with
     |false=>
      have ox:fw gs s.i=.er 4 s.i:=by
       rcases h6 with⟨_,h⟩|⟨a2,_,_,h⟩
       ·exact h
       ·rw[h,if_neg (by simp)]
      have fe:(!false)=true:=rfl;refine qq<|qq<|qj fun K hK=>qm ?_;refine qg ?_;refine qp (o:=5) ?_;refine ql hH aC ?_;refine qg ?_;refine qm ?_;refine qm ?_ (hg:=wi bC);refine qg ?_ (hg:=wi bC);refine qm ?_ (hg:=wi bC);refine qs ?_ (hg:=wn fe);refine qs ?_ (hg:=wn fe);refine ab.b_ (ah rfl rfl rfl bC) rfl fe (aa rfl _) ?_;refine qm ?_ (hg:=wi bC);refine qs ?_;refine qs ?_;refine qs ?_;refine qs ?_;refine qs ?_;refine qs ?_;refine qs ?_;refine qs ?_;refine qs ?_;refine qg ?_ (hg:=wi bC);refine qt bC ?_;refine qe hK<|qB ?_;refine qj fun K hK=>qm ?_;refine qm ?_;obtain⟨_,st,aM,rfl,s4,w1,hX,hH⟩:=hwr _ s3 h5 ox h1 h2 (by omega) h4 hH;refine qv aM ?_;refine qe hK<|qq<|qq<|qj fun K hK=>qm ?_;refine qg ?_;refine qp (o:=5) ?_;refine ql hH aC ?_;refine qg ?_;refine qe hK<|qD rfl (by simp[w1]) ?_;refine qq<|qj fun K hK=>qm ?_;refine qe hK<|af.ret ⟨rx,_,_,_,rfl,ak (rfl),?_⟩;exact⟨s4,hX,cU.ax cF hH⟩
     |true=>
      have fe:(!true)=false:=rfl
      cases two with
      |false=>
       have ox:fw gs s.i=.er 4 s.i:=by
        rcases h6 with⟨_,h⟩|⟨a2,_,_,h⟩
        ·exact h
        ·rw[h,if_neg (by simp)]
       have je:(!false)=true:=rfl;refine qq<|qq<|qj fun K hK=>qm ?_;refine qg ?_;refine qp (o:=5) ?_;refine ql hH aC ?_;refine qg ?_;refine qm ?_;refine qm ?_ (hg:=wi bC);refine qg ?_ (hg:=wi bC);refine qm ?_ (hg:=wi bC);refine qm ?_ (hg:=wi fe);refine qg ?_ (hg:=wi fe);refine ab.bM (ah rfl rfl rfl bC) rfl fe (aa rfl _) ?_;refine qm ?_ (hg:=wi bC);refine qs ?_ (hg:=wn je);refine qs ?_ (hg:=wn je);refine qs ?_ (hg:=wn je);refine qs ?_ (hg:=wn je);refine qs ?_ (hg:=wn je);refine qs ?_ (hg:=wn je);refine qs ?_ (hg:=wn je);refine qs ?_ (hg:=wn je);refine qs ?_ (hg:=wn je);refine ab.b_ (ah rfl rfl rfl bC) rfl je (aa rfl _) ?_;refine qt bC ?_;refine qe hK<|qB ?_;refine qj fun K hK=>qm ?_;refine qm ?_;obtain⟨_,st,aM,rfl,s4,w1,hX,hH⟩:=hwr _ s3 h5 ox h1 h2 (by omega) h4 hH;refine qv aM ?_;refine qe hK<|qq<|qq<|qj fun K hK=>qm ?_;refine qg ?_;refine qp (o:=5) ?_;refine ql hH aC ?_;refine qg ?_;refine qe hK<|qD rfl (by simp[w1]) ?_;refine qq<|qj fun K hK=>qm ?_;refine qe hK<|af.ret ⟨rx,_,_,_,rfl,ak (rfl),?_⟩;exact⟨s4,hX,cU.ax cF hH⟩
      |true=>
       have je:(!true)=false:=rfl
       obtain⟨a2,rfl,h7,ox⟩:∃a2:List Rg,d2=bB a2∧a2≠[]∧fw gs s.i=if true=true∧true=true∧vV (q::a')≤vV a2 then .ok [(vV (q::a'),vV a2)] s3.i else .er 4 s.i:=by
        rcases h6 with h6|h6
        ·cases h6.1
        ·exact h6
       obtain⟨q2,NY,rfl⟩:∃q a',a2=q::a':=List.exists_cons_of_ne_nil h7
       have ox:fw gs s.i=if q.1≤q2.1 then .ok [(q.1,q2.1)] s3.i else .er 4 s.i:=by
        rw[ox];simp[vV]
       have JO:=(hU (q::a')).arg N S2;have O6:=(hU (q2::NY)).arg N S2;have JP:((q::a').map aw)[0]?=some (aw q):=rfl;have jx:((q2::NY).map aw)[0]?=some (aw q2):=rfl;refine qq<|qq<|qj fun K hK=>qm ?_;refine qg ?_;refine qp (o:=5) ?_;refine ql hH aC ?_;refine qg ?_;refine qm ?_;refine qm ?_ (hg:=wi bC);refine qg ?_ (hg:=wi bC);refine qm ?_ (hg:=wi bC);refine qm ?_ (hg:=wi fe);refine qg ?_ (hg:=wi fe);refine ab.bM (ah rfl rfl rfl bC) rfl fe (aa rfl _) ?_;refine qm ?_ (hg:=wi bC);refine qm ?_ (hg:=wi je);refine qr (fun Rr Pp=>?_) (hg:=wi je);refine qf (fo:=0) (fun Rq Po=>?_) (hg:=wi je);refine qR ?_ (hg:=wi je);refine qm ?_ (hg:=wi je);refine qr (fun Oi K9=>?_) (hg:=wi je);refine qf (fo:=0) (fun Ro Pm=>?_) (hg:=wi je);refine qR ?_ (hg:=wi je);refine qg ?_ (hg:=wi je);refine ab.bM (ah rfl rfl rfl bC) rfl je (aa rfl _) ?_;refine qt bC ?_;refine qe hK ?_;refine af.cond (by rfl) (fun hgt=>?_) (fun hgt=>?_)<;>try simp only[decide_eq_true_eq,decide_eq_false_iff_not] at hgt
       ·rw[if_neg (by omega)] at ox;refine qj fun K hK=>qm ?_;refine qm ?_;obtain⟨_,st,aM,rfl,s4,w1,hX,hH⟩:=hwr _ s3 h5 ox h1 h2 (by omega) h4 hH;refine qv aM ?_;refine qe hK<|qq<|qq<|qj fun K hK=>qm ?_;refine qg ?_;refine qp (o:=5) ?_;refine ql hH aC ?_;refine qg ?_;refine qe hK<|qD rfl (by simp[w1]) ?_;refine qq<|qj fun K hK=>qm ?_;refine qe hK<|af.ret ⟨rx,_,_,_,rfl,ak (rfl),?_⟩;exact⟨s4,hX,cU.ax cF hH⟩
       ·rw[if_pos (by omega)] at ox;refine af.skip<|qq<|qq<|qj fun K hK=>qm ?_;refine qg ?_;refine qp (o:=5) ?_;refine ql hH aC ?_;refine qg ?_;refine qe hK<|qE rfl (by simp[h5]) ?_;refine af.skip<|qq<|qj fun K hK=>qm ?_;refine qr fun Of K7=>?_;refine qf (fo:=0) fun Rk Ph=>?_;refine qR ?_;refine qm ?_;refine qr fun Rj Pf=>?_;refine qf (fo:=0) fun Ri Pc=>?_;refine qR ?_;refine ab.ir (qs:=[(0,_),(1,_)]) rfl rfl rfl rfl ⟨rfl,(ev rfl),(by rfl),rfl,(ev rfl),(by rfl),trivial⟩ (by intro q hq;simp only[List.mem_cons,List.not_mem_nil,or_false] at hq;rcases hq with rfl|rfl<;>exact⟨rfl,by exact Nat.le_of_ble_eq_true rfl⟩) (by show List.foldl _ [_,_] _=_;dsimp only[List.foldl_cons,List.foldl_nil,u2,u1]<;>rfl) (aa rfl _) ?_;refine qh (s:=2) (vs:=[_]) hH fun k87 st PU hH=>?_;dsimp only[u2,u1,u3,u4,setMany,u5,u6,D.cells,Nat.reduceAdd,aU,bq,au,aw] at hH;refine qm ?_;refine qe hK ?_;have hH:Has N S2 st (.aR (.win k87 0 0 1 2) 2 (([(q.1,q2.1)]:List Rg).map aw)::.box k (.mem 0 false (aU gs bz s3))::.aR bz 1 (aS.map au)::H):=hH;have hfz:=oi hH aC (L:=s0.bs.length) (n:=16) (fun k hk=>by simp only[D.ref] at hk;rw[←cF];omega) (by decide);refine af.ret ⟨rx,_,_,_,rfl,ak hfz,⟨s3,⟨h1,h2,by omega,h4,[(q.1,q2.1)],rfl,by simp,.inr ⟨h5,by omega,ox⟩⟩,cU.ax cF (hH.drop 1)⟩⟩
def cA (fr:Go.V.Fr) (k:Nat):Go.V.D:=Go.V.nth .bG fr.loc k
noncomputable def eS (gs:List (Nat×Nat)) (f:Nat):Nat→Nat→List Rg→Bool→PR (List Rg)
 |0,_,_,_=>.er 4 f
 |n+1,i,l,nn=>
  if ct gs i 93=true then(if nn=true then .er 4 f else .ok l i)
  else if gs.length≤i then .er 4 f
  else match fw gs i with
   | .er e w=>.er e w
   | .ok a j=>eS gs f n j (l++a) false
noncomputable def kG (gs:List (Nat×Nat)) (i:Nat):PR (List Rg):=
 match eS gs i (gs.length+1) (if ct gs (i+1) 94=true then i+2 else i+1) [] true with
 | .er e w=>.er e w
 | .ok l k=>.ok (if ct gs (i+1) 94=true then ov (da l) else da l) (k+1)
def yw (a:List Rg):bF:=fy 2 0 0 false 0 0 a
noncomputable def lY (gs:List (Nat×Nat)) (i g:Nat):PR (List bF×Nat):=
 match kG gs i with
 | .er e w=>.er e w
 | .ok a j=>.ok ([yw a],g) j
def jj (gs:List (Nat×Nat)) (aS:List Int) (R:PR (List bF×Nat)) (s s':dW) (d:D) (c:Nat):Prop:=
 s'.o=s.o∧s'.g≤4∧s.i≤s'.i∧s'.i≤gs.length∧∃l:List bF,d=ry l∧(∀n∈l,rP n)∧l.length≤4*(s'.i-s.i)+1∧(eH R aS s'∨s'.e=0∧R=.ok (l,s'.g) s'.i∧l.length+c≤4*(s'.i-s.i))
def oX (gs:List (Nat×Nat)) (aS:List Int) (R:PR (List bF×Nat)) (s s':dW) (d:D):Prop:=
 s'.o=s.o∧s'.g≤4∧s.i≤s'.i∧s'.i≤gs.length∧∃l:List bF,d=ry l∧(∀n∈l,rP n)∧l.length≤4*(s'.i-s.i)+1∧(eH R aS s'∨s'.e=0∧R=.ok (l,s'.g) s'.i)
theorem fp {gs:List (Nat×Nat)} {aS:List Int} {R:PR (List bF×Nat)} {s s':dW} {c:Nat} (h1:s'.o=s.o) (h2:s'.g≤4) (h3:s.i≤s'.i) (h4:s'.i≤gs.length) (h5:eH R aS s'):jj gs aS R s s' (.sl []) c:=
 ⟨h1,h2,h3,h4,[],rfl,fun n hn=>(by cases hn),by simp,.inl h5⟩
theorem Bh {N k:Nat} {S s0:St} {H:List cx} {gs:List (Nat×Nat)} {bz:D} {aS:List Int} {s:dW} (cH:kO gs aS) (he:s.e=0) (hi:s.i<gs.length) (hg:s.g≤4) (hH:Has N S s0 (.box k (.mem 0 false (aU gs bz s))::.aR bz 1 (aS.map au)::H)):
  ∃d ag,Ev pv 122 [.ptr k 0 0] s0 d ag∧∃(s':dW),jj gs aS (lY gs s.i s.g) s s' d 2∧Has N S ag (.box k (.mem 0 false (aU gs bz s'))::.aR bz 1 (aS.map au)::H):=by
 have qk:=cH.gl;have jT:=cH.pl;refine Ev.ow rfl Je rfl rfl rfl ?_;dsimp only[u3,u4,List.length,Nat.reduceSub,Nat.reduceAdd,w1,w2];have cU:=hH;have hH:=hH.cV;have cF:(aj .rw s0).bs=s0.bs:=rfl;generalize aj .rw s0=S2 at*;have Bv:Arg N S2 2 (cO gs) (gs.map bq):=Arg.pure (fun st=>dw st gs);refine qq<|qj fun K hK=>qm ?_;refine qe hK<|qq<|qj fun K hK=>qm ?_;refine qg ?_;refine qp (o:=2) ?_;refine ql hH aC ?_;refine qm ?_;refine qe hK<|qq<|qj fun K hK=>qm ?_;refine qg ?_;refine qp (o:=2) ?_;refine ql hH aC ?_;refine qA ?_;refine qg ?_;refine qp (o:=2) ?_;refine qT hH aC fun st hH=>?_;dsimp only[u2,u1,u3,u4,setMany,u5,u6,D.cells,Nat.reduceAdd,aU,bq,au,aw] at hH;refine qe hK ?_;have hH:Has N S2 st (.box k (.mem 0 false (aU gs bz {s with i:=s.i+1}))::.aR bz 1 (aS.map au)::H):=hH;obtain⟨k1,k2,k3,k4,k5⟩:=gO (gs:=gs) (s:={s with i:=s.i+1}) (r:=94);have k5:=k5 (by show s.i+1≤_;omega);simp only at k1 k2 k3 k4
 have gv:(b9 gs {s with i:=s.i+1} 94).i=if ct gs (s.i+1) 94=true then s.i+2 else s.i+1:=by
  unfold b9;simp only;split<;>rfl
 refine qq<|qj fun K hK=>qm ?_;obtain⟨_,st,aM,rfl,hH⟩:=dS (s:={s with i:=s.i+1}) (by omega) 94 hH;refine qv aM ?_;refine qm ?_;refine qe hK ?_
 have AX:lY gs s.i s.g=match eS gs s.i (gs.length+1) (if ct gs (s.i+1) 94=true then s.i+2 else s.i+1) [] true with
  | .er e w=>.er e w
  | .ok l k=>.ok ([yw (if ct gs (s.i+1) 94=true then ov (da l) else da l)],s.g) (k+1):=by
  unfold lY kG;cases eS gs s.i (gs.length+1) (if ct gs (s.i+1) 94=true then s.i+2 else s.i+1) [] true<;>rfl
 rw[←gv] at AX
 change lY gs s.i s.g=match eS gs s.i (gs.length+1) (b9 gs {s with i:=s.i+1} 94).i [] true with
  | .er e w=>.er e w
  | .ok l k=>.ok ([yw (if ct gs ({s with i:=s.i+1}:dW).i 94=true then ov (da l) else da l)],s.g) (k+1) at AX
 generalize b9 gs {s with i:=s.i+1} 94=s1 at*;generalize ct gs ({s with i:=s.i+1}:dW).i 94=nt at*;clear gv
 obtain⟨C0,Hn⟩:∃C0,eS gs s.i (gs.length+1) s1.i [] true=C0:=⟨_,rfl⟩
 rw[Hn] at AX;have LV:∀s',eH C0 aS s'→eH (lY gs s.i s.g) aS s':=fun s' h=>h.map fun e w hw=>by rw[AX,hw]
 refine qq<|qj fun K hK=>qm ?_;refine qe hK<|qq<|qj fun K hK=>qm ?_;refine qe hK ?_
 have hH:Has N S2 st (.box k (.mem 0 false (aU gs bz s1))::.aR bz 1 (aS.map au)::.aR .nul 2 (([]:List Rg).map aw)::H):=((hH.gH 2).front cp|>.front dx|>fun h=>(h.front cp))
 refine qq<|af.block<|af.loop (fun mm fr st=>∃(s1:dW) (ld:D) (lr:List Rg) (nn:Bool),fr.clean=⟨7,[.ptr k 0 0,cA fr 1,cA fr 2,.int .i64 (s.i:Nat),.bool nt,ld,.bool nn],[]⟩∧Has N S2 st (.box k (.mem 0 false (aU gs bz s1))::.aR bz 1 (aS.map au)::.aR ld 2 (lr.map aw)::H)∧(s1.o=s.o)∧(s1.g=s.g)∧(s.i<s1.i)∧(s1.i≤gs.length)∧(lr.length≤8*s1.i+8)∧(s1.e=0→lr.length≤8*s1.i)∧(gs.length-s1.i+(if s1.e=0 then 1 else 0)≤mm)∧(eH C0 aS s1∨s1.e=0∧∃n,gs.length<n+s1.i∧C0=eS gs s.i n s1.i lr nn)) (gs.length+1) ?_ ?_
 ·exact⟨s1,.nul,[],true,rfl,hH,k1,k2,by omega,k5,by simp,fun _=>by simp,by split<;>omega,.inr ⟨k3.trans he,gs.length+1,by omega,Hn.symm⟩⟩
 rintro mm fr st ⟨s1,ld,lr,nn,hfr,hH,h1,h2,h3,h4,h5,h6,w9,h7⟩;rw[hfr];clear hfr;generalize cA fr=ee;clear fr
 rcases h7 with h7|⟨he1,n,x6,hY⟩
 ·have he1:=h7.ne;have bC:(s1.e==0)=false:=by simpa using he1
  refine qq<|qq<|qj fun K hK=>qm ?_;refine qg ?_;refine qp (o:=5) ?_;refine ql hH aC ?_;refine qg ?_;refine qm ?_;refine qs ?_ (hg:=wn bC);refine qs ?_ (hg:=wn bC);refine qs ?_ (hg:=wn bC);refine qu bC ?_;refine qe hK<|qC ?_;refine af.exit<|qq<|qq<|qj fun K hK=>qm ?_;refine qg ?_;refine qp (o:=5) ?_;refine ql hH aC ?_;refine qg ?_;refine qe hK<|qD rfl (by simp[he1]) ?_;refine qq<|qj fun K hK=>qm ?_;refine qe hK<|af.ret ⟨rx,_,_,_,rfl,ak (rfl),?_⟩;exact⟨_,fp h1 (by omega) (by omega) h4 (LV _ h7),cU.ax cF (hH.erase 2)⟩
 ·rw[if_pos he1] at w9;have h6:=h6 he1;have bC:(s1.e==0)=true:=by simpa using he1
  obtain⟨n,rfl⟩:∃m,n=m+1:=⟨n-1,by omega⟩
  unfold eS at hY;refine qq<|qq<|qj fun K hK=>qm ?_;refine qg ?_;refine qp (o:=5) ?_;refine ql hH aC ?_;refine qg ?_;refine qm ?_;refine qm ?_ (hg:=wi bC);obtain⟨_,st,aM,rfl,hH⟩:=oe (s:=s1) (by omega) 93 hH;refine qv aM ?_ (hg:=wi bC);refine qg ?_ (hg:=wi bC);refine qt bC ?_;refine qe hK ?_
  cases hb:ct gs s1.i 93 with
  |true=>
   have hlt:=dF hb;rw[hb,if_pos rfl] at hY;refine qC ?_;refine af.exit<|qq<|qq<|qj fun K hK=>qm ?_;refine qg ?_;refine qp (o:=5) ?_;refine ql hH aC ?_;refine qg ?_;refine qe hK<|qE rfl (by simp[he1]) ?_;refine af.skip<|qq<|qq<|qj fun K hK=>qm ?_;refine qe hK ?_
   cases nn with
   |true=>
    rw[if_pos rfl] at hY;refine qB ?_;refine qq<|qj fun K hK=>qm ?_;refine qm ?_;obtain⟨_,st,aM,rfl,hH⟩:=ef (s:=s1) s.i 4 (by omega) hH;refine qv aM ?_;refine qm ?_;refine qe hK ?_;obtain⟨w1,w2,w3,w4⟩:=gC (aS:=aS) (s:=s1) (i:=s.i) (e:=4) he1 (by decide) hY;refine af.ret ⟨rx,_,_,_,rfl,ak (rfl),?_⟩;exact⟨_,fp (by omega) (by omega) (by omega) (by omega) (LV _ w1),cU.ax cF (hH.erase 2)⟩
   |false=>
    rw[if_neg (by simp)] at hY;rw[hY] at AX;simp only at AX;refine qC ?_;refine af.skip<|qq<|qj fun K hK=>qm ?_;refine qg ?_;refine qp (o:=2) ?_;refine ql hH aC ?_;refine qA ?_;refine qg ?_;refine qp (o:=2) ?_;refine qT hH aC fun st hH=>?_;dsimp only[u2,u1,u3,u4,setMany,u5,u6,D.cells,Nat.reduceAdd,aU,bq,au,aw] at hH;refine qe hK<|qq<|qj fun K hK=>qm ?_;obtain⟨aM,Bu,_⟩:=mi (l:=lr) (hH.rows dx) (by omega);refine qv aM ?_;refine qm ?_;refine qe hK ?_;generalize da lr=m at*;refine qq<|qq<|qj fun K hK=>qm ?_;refine qe hK ?_
    have fZ:∀(st:St) (a:List Rg) (k70:Nat),a=(if nt=true then ov m else m)→a.length≤1048576→S2.bs.length≤k70→Has N S2 st (.aR (.win k70 0 0 1 7) 7 [[.int .i64 2,bB a,.int .i64 0,.int .i64 0,.bool false,.int .i64 0,.int .i64 0]]::.box k (.mem 0 false (aU gs bz {s1 with i:=s1.i+1}))::.aR bz 1 (aS.map au)::.aR ld 2 (lr.map aw)::H)→
      ∃d ag,cY .rw false s0 st (.win k70 0 0 1 7)=some (d,ag)∧∃(s':dW),jj gs aS (lY gs s.i s.g) s s' d 2∧Has N S ag (.box k (.mem 0 false (aU gs bz s'))::.aR bz 1 (aS.map au)::H):=by
     intro st a k70 Qx ha hk hH;have hfz:=iT hH aC (L:=s0.bs.length) (.inl rfl) (fun k hk=>by simp only[D.ref] at hk;rw[←cF];omega);exact⟨_,_,ak hfz,{s1 with i:=s1.i+1},⟨h1,by show s1.g≤4;omega,by show s.i≤s1.i+1;omega,by show s1.i+1≤_;omega,_,rfl,Ci ha (by omega),by simp,.inr ⟨he1,by rw[AX,←Qx];show _=PR.ok (_,s1.g) _;rw[h2];rfl,by show 1+2≤4*(s1.i+1-s.i);omega⟩⟩,cU.ax cF ((hH.drop 1).erase 2)⟩
    cases nt with
    |true=>
     refine qB ?_;refine qj fun K hK=>qm ?_;obtain⟨aM,hla⟩:=tE (l:=m) (fL _ _) (by omega);refine qv aM ?_;refine qm ?_;refine qe hK<|qq<|qj fun K hK=>qm ?_;refine ab.ir (qs:=[(0,_),(1,_)]) rfl rfl rfl rfl ⟨rfl,(ev rfl),(by rfl),rfl,(ev rfl),(by rfl),trivial⟩ (by intro q hq;simp only[List.mem_cons,List.not_mem_nil,or_false] at hq;rcases hq with rfl|rfl<;>exact⟨rfl,by exact Nat.le_of_ble_eq_true rfl⟩) (by show List.foldl _ [_,_,_,_,_,_,_] _=_;dsimp only[List.foldl_cons,List.foldl_nil,u2,u1]<;>rfl) (aa rfl _) ?_;refine qh (s:=7) (vs:=[_]) hH fun k70 st Gj hH=>?_;refine qm ?_;refine qe hK ?_;obtain⟨d',ag,wo,iz⟩:=fZ _ (ov m) k70 rfl (by omega) Gj hH;refine af.ret ⟨rx,_,d',ag,rfl,wo,iz⟩
    |false=>
     refine qC ?_;refine af.skip<|qq<|qj fun K hK=>qm ?_;refine ab.ir (qs:=[(0,_),(1,_)]) rfl rfl rfl rfl ⟨rfl,(ev rfl),(by rfl),rfl,(ev rfl),(by rfl),trivial⟩ (by intro q hq;simp only[List.mem_cons,List.not_mem_nil,or_false] at hq;rcases hq with rfl|rfl<;>exact⟨rfl,by exact Nat.le_of_ble_eq_true rfl⟩) (by show List.foldl _ [_,_,_,_,_,_,_] _=_;dsimp only[List.foldl_cons,List.foldl_nil,u2,u1]<;>rfl) (aa rfl _) ?_;refine qh (s:=7) (vs:=[_]) hH fun k70 st Gj hH=>?_;refine qm ?_;refine qe hK ?_;obtain⟨d',ag,wo,iz⟩:=fZ _ m k70 rfl (by omega) Gj hH;refine af.ret ⟨rx,_,d',ag,rfl,wo,iz⟩
  |false=>
   rw[hb,if_neg (by simp)] at hY;refine qB ?_;refine af.skip<|af.block<|qq<|qq<|qj fun K hK=>qm ?_;refine qg ?_;refine qp (o:=2) ?_;refine ql hH aC ?_;refine qm ?_;refine qg ?_;refine qp (o:=0) ?_;refine ql hH aC ?_;refine qn ?_;simp only[List.length_map];refine qg ?_;refine qe hK ?_;refine af.cond (by rfl) (fun hge=>?_) (fun hge=>?_)<;>try simp only[decide_eq_true_eq,decide_eq_false_iff_not] at hge
   ·rw[if_pos (by omega)] at hY;refine qq<|qj fun K hK=>qm ?_;refine qm ?_;obtain⟨_,st,aM,rfl,hH⟩:=ef (s:=s1) s.i 4 (by omega) hH;refine qv aM ?_;refine qm ?_;refine qe hK ?_;obtain⟨w1,w2,w3,w4⟩:=gC (aS:=aS) (s:=s1) (i:=s.i) (e:=4) he1 (by decide) hY;refine af.ret ⟨rx,_,_,_,rfl,ak (rfl),?_⟩;exact⟨_,fp (by omega) (by omega) (by omega) (by omega) (LV _ w1),cU.ax cF (hH.erase 2)⟩
   ·rw[if_neg (by omega)] at hY;refine af.skip<|qq<|qj fun K hK=>qm ?_;refine qm ?_;obtain⟨_,st,aM,s2,⟨i1,i2,i3,i4,a,rfl,i5,i6⟩,hH⟩:=Cv (s:=s1) cH he1 (by omega) hH;have JO:=(hU a).arg N S2;have JN:=xy a;refine qv aM ?_;refine ab.cT (s:=2) hH rfl (ev rfl) (ev rfl) (by exact dx) (by exact Arg.rows (by assumption) hH) rfl rfl rfl rfl rfl rfl rfl ⟨(Nat.le_of_ble_eq_true rfl),(Nat.le_of_ble_eq_true rfl)⟩ (fun _=>(aa rfl _)) (by simp only[List.length_map]<;>omega) (by exact .inr (by assumption)) (fun MX st hH=>?_);dsimp only[u2,u1,u3,u4,setMany,u5,u6,D.cells,Nat.reduceAdd,aU,bq,au,aw] at hH;refine qm ?_;refine qe hK<|qj fun K hK=>qm ?_;refine qe hK ?_
    rcases i6 with i6|⟨i6,i7,i8⟩
    ·have hne:=i6.ne;exact⟨mm-1,by omega,⟨s2,MX,lr++a,false,rfl,(by rw[List.map_append];exact hH),i1.trans h1,i2.trans h2,by omega,i4,by rw[List.length_append];omega,fun e=>absurd e hne,by rw[if_neg hne];omega,.inl (i6.map fun e w h=>by rw[hY,h])⟩⟩
    ·rw[i8] at hY;simp only at hY;exact⟨mm-1,by omega,⟨s2,MX,lr++a,false,rfl,(by rw[List.map_append];exact hH),i1.trans h1,i2.trans h2,by omega,i4,by rw[List.length_append];omega,fun e=>by rw[List.length_append];omega,by rw[if_pos i6];omega,.inr ⟨i6,n,by omega,hY⟩⟩⟩
def dQ (gs:List (Nat×Nat)) (f:Nat):PR (Int×Int):=
 if(digS (dY gs (f+1)) []).2=0 then .er 4 f
 else if ct gs (f+1+(digS (dY gs (f+1)) []).2) 44=true then
  (if ct gs (f+1+(digS (dY gs (f+1)) []).2+1+(digS (dY gs (f+1+(digS (dY gs (f+1)) []).2+1)) []).2) 125=true then
   (if(digS (dY gs (f+1+(digS (dY gs (f+1)) []).2+1)) []).2=0 then
    (if(ia (digS (dY gs (f+1)) []).1).2=true then .ok ((ia (digS (dY gs (f+1)) []).1).1,-1) (f+1+(digS (dY gs (f+1)) []).2+1+(digS (dY gs (f+1+(digS (dY gs (f+1)) []).2+1)) []).2+1) else .er 2 f)
   else if oc (digS (dY gs (f+1+(digS (dY gs (f+1)) []).2+1)) []).1 (digS (dY gs (f+1)) []).1=true then .er 4 f
   else if(ia (digS (dY gs (f+1)) []).1).2=true∧(ia (digS (dY gs (f+1+(digS (dY gs (f+1)) []).2+1)) []).1).2=true then .ok ((ia (digS (dY gs (f+1)) []).1).1,(ia (digS (dY gs (f+1+(digS (dY gs (f+1)) []).2+1)) []).1).1) (f+1+(digS (dY gs (f+1)) []).2+1+(digS (dY gs (f+1+(digS (dY gs (f+1)) []).2+1)) []).2+1) else .er 2 f)
  else .er 4 f)
 else(if ct gs (f+1+(digS (dY gs (f+1)) []).2) 125=true then
   (if oc (digS (dY gs (f+1)) []).1 (digS (dY gs (f+1)) []).1=true then .er 4 f
   else if(ia (digS (dY gs (f+1)) []).1).2=true then .ok ((ia (digS (dY gs (f+1)) []).1).1,(ia (digS (dY gs (f+1)) []).1).1) (f+1+(digS (dY gs (f+1)) []).2+1) else .er 2 f)
  else .er 4 f)
def pD (gs:List (Nat×Nat)) (f:Nat) (m n:List UInt8) (ok en:Bool) (i:Nat):PR (Int×Int):=
 if ok=false then .er 4 f
 else if ct gs i 125=false then .er 4 f
 else if en=false∧oc n m=true then .er 4 f
 else if(ia m).2=true∧(ia (if en=true then[] else n)).2=true then .ok ((ia m).1,if en=true then-1 else(ia n).1) (i+1)
 else .er 2 f
theorem Ay (gs:List (Nat×Nat)) (f:Nat):dQ gs f=
  if(digS (dY gs (f+1)) []).2≠0∧ct gs (f+1+(digS (dY gs (f+1)) []).2) 44=true then
   pD gs f (digS (dY gs (f+1)) []).1 (digS (dY gs (f+1+(digS (dY gs (f+1)) []).2+1)) []).1 true (!decide (0<(digS (dY gs (f+1+(digS (dY gs (f+1)) []).2+1)) []).2)) (f+1+(digS (dY gs (f+1)) []).2+1+(digS (dY gs (f+1+(digS (dY gs (f+1)) []).2+1)) []).2)
  else pD gs f (digS (dY gs (f+1)) []).1 (digS (dY gs (f+1)) []).1 (decide (0<(digS (dY gs (f+1)) []).2)) false (f+1+(digS (dY gs (f+1)) []).2):=by
 unfold dQ pD;have rz:(ia []).2=true:=rfl;generalize(digS (dY gs (f+1)) [])=A;generalize(digS (dY gs (f+1+A.2+1)) [])=B;generalize ct gs (f+1+A.2) 44=c1;generalize ct gs (f+1+A.2) 125=c2;generalize ct gs (f+1+A.2+1+B.2) 125=c3;generalize oc A.1 A.1=c4;generalize oc B.1 A.1=c5
 by_cases h1:A.2=0
 ·simp[h1]
 ·have Fu:0<A.2:=by omega
  by_cases h2:B.2=0
  ·cases c1<;>cases c2<;>cases c3<;>cases c4<;>cases c5<;>simp[h1,Fu,h2,rz]
  ·have J8:0<B.2:=by omega
   cases c1<;>cases c2<;>cases c3<;>cases c4<;>cases c5<;>simp[h1,Fu,h2,J8,rz]
def ew (op:Int) (ps:List (List bF)):List bF:=
 match ps with
 |[]=>[fy 1 0 0 false 0 0 []]
 |[l]=>l
 |ps=>fy op 0 0 false 0 (ps.length:Nat) []::ps.flatten
theorem nc:∀l:List (List bF),fh l=l.flatten.length
 |[]=>rfl
 |a::l=>by rw[fh,List.flatten_cons,List.length_append,nc l]
theorem pR {s0:St} {x:D} {parts:List (List bF)} (op:Int) (hx:V.Rows s0 1 x (parts.map dN)) (hv:∀l∈parts,∀n∈l,rP n) (hp:parts.length≤100000) (hs:fh parts≤100000):Ev pv 73 [.int .i64 op,x] s0 (ry (ew op parts)) s0∧(∀n∈ew op parts,rP n)∧(parts.length=1→(ew op parts).length≤fh parts)∧(ew op parts).length≤fh parts+1:=by
 suffices hg:∃d,Ev pv 73 [.int .i64 op,x] s0 d s0∧d=ry (ew op parts)∧(∀n∈ew op parts,rP n)∧(parts.length=1→(ew op parts).length≤fh parts)∧(ew op parts).length≤fh parts+1 by
  obtain⟨d,h1,rfl,h2⟩:=hg;exact⟨h1,h2⟩
 refine Ev.Ec rfl Mf rfl rfl rfl ?_;dsimp only[u3,u4,List.length,Nat.reduceSub,Nat.reduceAdd,w1,w2];obtain⟨cE,hF,hH⟩:=ri s0;generalize aj .ro s0=S at*;have hx:=Arg.of hx cE;refine qq<|qj fun K hK=>qm ?_;refine qe hK<|qq<|qq<|qj fun K hK=>qm ?_;refine qn ?_;simp only[List.length_map];refine qe hK<|af.block<|qq<|qj fun K hK=>qg ?_;refine qm ?_;refine qe hK ?_
 by_cases h0:parts.length=0
 ·have JS:parts=[]:=List.length_eq_zero_iff.1 h0;refine qD rfl (by simp[h0]) ?_;refine qq<|qj fun K hK=>?_;refine ab.go (d:=.agg [.int .i64 1,.nul,.int .i64 0,.int .i64 0,.bool false,.int .i64 0,.int .i64 0]) (st1:=_) rfl rfl rfl (by dsimp only[Fr.put,u1,u2]<;>rfl) ?_;refine qh (s:=7) (vs:=[_]) hH fun k13 st Ez hH=>?_;refine qm ?_;refine qe hK ?_;have hfz:=iT (L:=s0.bs.length) (a:=[]) hH aC (.inr ⟨rfl,rfl⟩) (fun k hk=>by have jW:k13+1=k+1:=hk;rw[←cE];omega);refine af.ret ⟨rx,_,_,rfl,rl cE hH (hfz),?_⟩;rw[JS];exact⟨rfl,Ci (by simp) (by omega),fun h=>by simp at h,by simp[ew]⟩
 have IU:(((parts.length:Nat):Int)==0)=false:=by rw[beq_eq_false_iff_ne];omega
 refine qE rfl (by rw[IU]) ?_;refine qq<|qj fun K hK=>qg ?_;refine qm ?_;refine qe hK ?_
 by_cases h1:parts.length=1
 ·obtain⟨q,hq⟩:∃q,parts[0]?=some q:=⟨parts[0]'(by omega),List.getElem?_eq_getElem _⟩
  have jx:=vx hq
  have DE:parts=[q]:=by
   match parts,h1,hq with
   |[a],_,hq=>simp at hq;rw[hq]
  refine qD rfl (by simp[h1]) ?_;refine qq<|qj fun K hK=>qm ?_;refine qr fun Ow Lh=>?_;refine qR ?_;refine qm ?_;refine qe hK<|af.ret ⟨rx,_,_,rfl,rl cE hH (rfl),?_⟩;have hj:ew op parts=q:=by rw[DE];rfl
  refine⟨by rw[hj];rfl,by rw[hj];exact hv q (List.mem_of_getElem? hq),fun _=>?_,?_⟩<;>rw[hj,DE]<;>simp[fh]
 have LW:(((parts.length:Nat):Int)==1)=false:=by rw[beq_eq_false_iff_ne];omega
 have hj:ew op parts=fy op 0 0 false 0 (parts.length:Nat) []::parts.flatten:=by
  match parts,h0,h1 with
  |_::_::_,_,_=>rfl
 rw[hj];refine qE rfl (by rw[LW]) ?_;refine af.skip<|qq<|qj fun K hK=>qm ?_;refine qm ?_;refine qn ?_;simp only[List.length_map];refine ab.go (d:=.agg [.int .i64 op,.nul,.int .i64 0,.int .i64 0,.bool false,.int .i64 0,.int .i64 (parts.length:Nat)]) (st1:=_) rfl rfl rfl (by dsimp only[Fr.put,u1,u2]<;>rfl) ?_;refine qh (s:=7) (vs:=[_]) hH fun k23 st P8 hH=>?_;refine qm ?_;refine qe hK<|qq<|qq<|qj fun K hK=>qm ?_;refine qn ?_;simp only[List.length_map];refine qm ?_;refine qe hK ?_;have hH:Has s0.bs.length S st (.aR (.win k23 0 0 1 7) 7 [[.int .i64 op,.nul,.int .i64 0,.int .i64 0,.bool false,.int .i64 0,.int .i64 (parts.length:Nat)]]::[]):=hH;refine af.block<|af.loop (fun mm fr st=>∃(i:Nat) (od:D) (es:List (List D)),fr.clean=⟨27,[cA fr 0,cA fr 1,cA fr 2,cA fr 3,cA fr 4,od,cA fr 6,cA fr 7,cA fr 8,cA fr 9,cA fr 10,cA fr 11,cA fr 12,cA fr 13,cA fr 14,cA fr 15,cA fr 16,cA fr 17,cA fr 18,cA fr 19,cA fr 20,cA fr 21,cA fr 22,cA fr 23,x,.int .i64 (parts.length:Nat),.int .i64 (i:Nat)],[]⟩∧Has s0.bs.length S st [.aR od 7 es]∧(i+mm=parts.length)∧(es.map (·.map oC)=(fy op 0 0 false 0 (parts.length:Nat) []::(parts.take i).flatten).map a_)∧(∀e∈es,∀d∈e,nW d=true)∧(∀k,od.ref=k+1→S.bs.length≤k)) (parts.length) ?_ ?_
 ·refine⟨0,.win k23 0 0 1 7,[[.int .i64 op,.nul,.int .i64 0,.int .i64 0,.bool false,.int .i64 0,.int .i64 (parts.length:Nat)]],rfl,hH,by omega,rfl,?_,fun k hk=>by simp only[D.ref] at hk;omega⟩;intro e he d hd;simp only[List.mem_cons,List.not_mem_nil,or_false] at he;subst he;simp only[List.mem_cons,List.not_mem_nil,or_false] at hd
  rcases hd with rfl|rfl|rfl|rfl|rfl|rfl|rfl<;>rfl
 rintro mm fr st ⟨i,od,es,hfr,hH,hi,xb,ht,Fg⟩;rw[hfr];clear hfr;generalize cA fr=ee;clear fr;refine qq<|qj fun K hK=>qg ?_;refine qe hK ?_
 by_cases hlt:i<parts.length
 ·obtain⟨q,hq⟩:∃q,parts[i]?=some q:=⟨parts[i]'hlt,List.getElem?_eq_getElem _⟩
  have jx:=vx hq;have K1:=hv q (List.mem_of_getElem? hq)
  have uG:es.length=1+(parts.take i).flatten.length:=by
   have Qq:(List.length∘List.map a_:List bF→Nat)=List.length:=by funext l;simp
   have:=congrArg List.length xb;simp[Qq] at this
   simp;omega
  have H4:parts.take (i+1)=parts.take i++[q]:=by rw[List.take_add_one,hq];rfl
  have OX:fh (parts.take (i+1))=fh (parts.take i)+q.length:=by rw[H4,dA];simp[fh]
  have OZ:fh (parts.take (i+1))≤fh parts:=by
   have:=dA (parts.take (i+1)) (parts.drop (i+1));rw[List.take_append_drop] at this;omega
  have O1:=nc (parts.take i);refine qq<|qD rfl (by simp;omega) ?_;refine af.skip<|qq<|af.block<|qq<|qj fun K hK=>qr fun RC PA=>?_;refine qR ?_;refine qm ?_;refine qe hK<|qj fun K hK=>qm ?_;refine qm ?_;refine ab.qH (s:=7) hH rfl (ev rfl) (ev rfl) aC ((pI K1).rows st) rfl rfl rfl rfl rfl rfl rfl ⟨(Nat.le_of_ble_eq_true rfl),(Nat.le_of_ble_eq_true rfl)⟩ (fun _=>(aa rfl _)) (by rw[List.length_map];omega) (.inl hF) Fg (fun N7 st Fg hH=>?_);dsimp only[u2] at hH;refine qm ?_;refine qe hK<|qj fun K hK=>qA ?_;refine qm ?_;refine qe hK ?_;refine⟨mm-1,by omega,⟨i+1,N7,es++q.map a_,rfl,hH,by omega,by rw[List.map_append,xb,tF K1,H4,List.flatten_append,List.map_cons,List.map_cons,List.map_append];simp,?_,Fg⟩⟩;intro e he
  rcases List.mem_append.1 he with he|he
  ·exact ht e he
  ·exact pH K1 e he
 ·refine qq<|qE rfl (by simp;omega) ?_;refine af.exit<|qq<|qj fun K hK=>qm ?_;refine qm ?_;refine qe hK ?_;have hik:i=parts.length:=by omega
  rw[hik,List.take_length] at xb
  have fU:∀n∈fy op 0 0 false 0 (parts.length:Nat) []::parts.flatten,rP n:=fun n hn=>by
   rcases List.mem_cons.1 hn with rfl|hn
   ·exact Ci (by simp) (by omega) _ (List.mem_cons_self ..)
   ·obtain⟨l,hl,hn⟩:=List.mem_flatten.1 hn;exact hv l hl n hn
  refine af.ret ⟨rx,_,_,rfl,rl cE hH (iS hH aC xb ht (fun k hk=>by have:=Fg k hk;rw[←cE];exact this) (by decide)),?_⟩;have O1:=nc parts;exact⟨rfl,fU,by omega,by simp only[List.length_cons];omega⟩
def jQ (fr:Go.V.Fr) (k:Nat):Go.V.D:=Go.V.nth .bG fr.loc k
def Fy (gs:List (Nat×Nat)) (aS:List Int) (R:PR (Int×Int)) (s s':dW) (n1 n2:Int):Prop:=
 tc gs s s'∧(eH R aS s'∨s'.e=0∧R=.ok (n1,n2) s'.i)
theorem uQ {gs:List (Nat×Nat)} {s:dW} {r:Int} (h:ct gs s.i r=false):b9 gs s r=s:=by
 unfold b9;rw[if_neg (by rw[h];simp)]
theorem kU {gs:List (Nat×Nat)} {s:dW} {r:Int} (h:ct gs s.i r=true):(b9 gs s r).i=s.i+1:=by
 unfold b9;rw[if_pos h]
theorem AB {N k:Nat} {S s0:St} {H:List cx} {gs:List (Nat×Nat)} {bz:D} {aS:List Int} {s:dW} (cH:kO gs aS) (he:s.e=0) (hi:s.i<gs.length) (hH:Has N S s0 (.box k (.mem 0 false (aU gs bz s))::.aR bz 1 (aS.map au)::H)):
  ∃d ag,Ev pv 112 [.ptr k 0 0] s0 d ag∧∃(n1 n2:Int) (s':dW),d=.tup [.int .i64 n1,.int .i64 n2]∧Fy gs aS (dQ gs s.i) s s' n1 n2∧Has N S ag (.box k (.mem 0 false (aU gs bz s'))::.aR bz 1 (aS.map au)::H):=by
 have qk:=cH.gl;have jT:=cH.pl;have hne:gs≠[]:=by rintro rfl;simp at hi
 refine Ev.ow rfl Jj rfl rfl rfl ?_;dsimp only[u3,u4,List.length,Nat.reduceSub,Nat.reduceAdd,w1,w2];have cU:=hH;have hH:=hH.cV;have cF:(aj .rw s0).bs=s0.bs:=rfl;generalize aj .rw s0=S2 at*;refine qq<|qj fun K hK=>qm ?_;refine qm ?_;refine qe hK<|qq<|qj fun K hK=>qm ?_;refine qg ?_;refine qp (o:=2) ?_;refine ql hH aC ?_;refine qm ?_;refine qe hK<|qq<|qj fun K hK=>qm ?_;refine qg ?_;refine qp (o:=2) ?_;refine ql hH aC ?_;refine qA ?_;refine qg ?_;refine qp (o:=2) ?_;refine qT hH aC fun st hH=>?_;dsimp only[u2,u1,u3,u4,setMany,u5,u6,D.cells,Nat.reduceAdd,aU,bq,au,aw] at hH;refine qe hK ?_;have hH:Has N S2 st (.box k (.mem 0 false (aU gs bz {s with i:=s.i+1}))::.aR bz 1 (aS.map au)::H):=hH;have fU:=Ay gs s.i
 obtain⟨R,hR⟩:∃R,dQ gs s.i=R:=⟨_,rfl⟩
 rw[hR] at fU⊢;clear hR
 have CM:∀(st:St) (s3:dW) (e:Int),e≠0→s3.e=0→tc gs s s3→R=.er e s.i→Has N S2 st (.box k (.mem 0 false (aU gs bz s3))::.aR bz 1 (aS.map au)::H)→∃d ag,Ev pv 39 [.ptr k 0 0,.int .i64 (s.i:Nat),.int .i64 e] st d ag∧d=.sl []∧∃s4,(∀n1 n2,Fy gs aS R s s4 n1 n2)∧Has N S2 ag (.box k (.mem 0 false (aU gs bz s4))::.aR bz 1 (aS.map au)::H):=by
  intro st s3 e h0 h1 h2 hv hH;obtain⟨d,ag,aM,h4,hH⟩:=ef (s:=s3) s.i e (by omega) hH;obtain⟨w1,w2,w3,w4⟩:=gC (aS:=aS) (s:=s3) (i:=s.i) (e:=e) h1 h0 hv;exact⟨d,ag,aM,h4,_,fun _ _=>⟨⟨w3.trans h2.1,w4.trans h2.2.1,by rw[w2];exact h2.2.2.1,by rw[w2];exact h2.2.2.2⟩,.inl w1⟩,hH⟩
 obtain⟨A,hA⟩:∃A,digS (dY gs (s.i+1)) []=A:=⟨_,rfl⟩
 refine qq<|qj fun K hK=>qm ?_;obtain⟨_,st,aM,rfl,Bu,JT,hH⟩:=qO (s:={s with i:=s.i+1}) qk (by show s.i+1≤_;omega) hne hH;dsimp only at aM Bu JT hH;rw[hA] at aM Bu JT hH;refine qv aM ?_;refine qm ?_;refine qg ?_;refine qg ?_;refine qm ?_;refine qm ?_;refine qe hK ?_;rw[hA] at fU;obtain⟨m,a2⟩:=A;clear hA;dsimp only at fU Bu JT hH
 obtain⟨s1,sJ⟩:∃s1:dW,({s with i:=s.i+1+a2}:dW)=s1:=⟨_,rfl⟩
 have F7:s1.e=0:=by rw[←sJ];exact he
 have KS:s1.i=s.i+1+a2:=by rw[←sJ]
 have AU:tc gs s s1:=by rw[←sJ];exact⟨rfl,rfl,by show s.i<s.i+1+a2;omega,JT⟩
 have hH:Has N S2 st (.box k (.mem 0 false (aU gs bz s1))::.aR bz 1 (aS.map au)::H):=by rw[←sJ];exact hH
 clear sJ;rw[←KS] at fU
 obtain⟨ok,Es⟩:∃ok,decide (0<a2)=ok:=⟨_,rfl⟩
 rw[Es] at fU⊢;refine qq<|qj fun K hK=>qm ?_;refine qm ?_;refine qm ?_;refine qe hK<|qq<|qq<|af.pK (fun fr st=>∃(n:List UInt8) (en:Bool) (s3:dW) (tmp:List (Nat×D)),fr=⟨14,[.ptr k 0 0,jQ fr 1,jQ fr 2,jQ fr 3,.int .i64 (s.i:Nat),.str m,.bool ok,.str n,.bool en,jQ fr 9,jQ fr 10,jQ fr 11,jQ fr 12,jQ fr 13],tmp⟩∧Has N S2 st (.box k (.mem 0 false (aU gs bz s3))::.aR bz 1 (aS.map au)::H)∧(s3.e=0)∧(tc gs s s3)∧(n.length≤120)∧(R=pD gs s.i m n ok en s3.i)) ?_ ?_
 ·cases ok with
  |false=>
   have NO:a2=0:=by have:=of_decide_eq_false Es;omega
   have dH:false=false:=rfl;refine qj fun K hK=>qm ?_;refine qm ?_;refine qs ?_ (hg:=wn dH);refine qs ?_ (hg:=wn dH);refine qu dH ?_;refine qe hK<|qC ?_;refine af.skip ?_;exact⟨m,false,s1,_,rfl,hH,F7,AU,Bu,by rw[fU,if_neg (fun h=>h.1 NO)]⟩
  |true=>
   have NO:0<a2:=of_decide_eq_true Es;have dH:true=true:=rfl;obtain⟨k1,k2,k3,k4,k5⟩:=gO (gs:=gs) (s:=s1) (r:=44);have k5:=k5 AU.2.2.2;have k6:=uQ (gs:=gs) (s:=s1) (r:=44);have k7:=kU (gs:=gs) (s:=s1) (r:=44);refine qj fun K hK=>qm ?_;refine qm ?_;refine qm ?_ (hg:=wi dH);obtain⟨_,st,aM,rfl,hH⟩:=dS (s:=s1) (by omega) 44 hH;refine qv aM ?_ (hg:=wi dH);refine qt dH ?_;refine qe hK ?_;generalize b9 gs s1 44=s2 at*
   have F6:tc gs s s2:=⟨k1.trans AU.1,k2.trans AU.2.1,by have:=AU.2.2.1;omega,k5⟩
   cases hb:ct gs s1.i 44 with
   |false=>
    have k6:=k6 hb;rw[k6] at hH;refine qC ?_;refine af.skip ?_;exact⟨m,false,s1,_,rfl,hH,F7,AU,Bu,by rw[fU,if_neg (fun h=>by rw[hb] at h;exact absurd h.2 (by simp))]⟩
   |true=>
    have k7:=k7 hb;refine qB ?_;refine qq<|qj fun K hK=>qm ?_;refine qe hK ?_;rw[←k7] at fU
    obtain⟨B,hB⟩:∃B,digS (dY gs s2.i) []=B:=⟨_,rfl⟩
    rw[hB] at fU;refine qq<|qj fun K hK=>qm ?_;obtain⟨_,st,aM,rfl,Il,hni,hH⟩:=qO (s:=s2) qk k5 hne hH;rw[hB] at aM Il hni hH;refine qv aM ?_;refine qm ?_;refine qg ?_;refine qg ?_;refine qm ?_;refine qm ?_;refine qe hK ?_;clear hB;obtain⟨n,b2⟩:=B;dsimp only at fU Il hni hH;refine qj fun K hK=>qm ?_;refine qg ?_;refine qm ?_;refine qe hK ?_;exact⟨n,!decide (0<b2),{s2 with i:=s2.i+b2},_,rfl,hH,k3.trans F7,⟨F6.1,F6.2.1,by have:=F6.2.2.1;show s.i<s2.i+b2;omega,hni⟩,Il,by rw[fU,if_pos ⟨by omega,hb⟩]⟩
 ·rintro fr st ⟨n,en,s3,tmp,hfr,hH,h1,h2,h3,hG⟩;rw[hfr];clear hfr;generalize jQ fr=ee;clear fr;clear fU Es;obtain⟨k1,k2,k3,k4,k5⟩:=gO (gs:=gs) (s:=s3) (r:=125);have k5:=k5 h2.2.2.2
  have AR:tc gs s (b9 gs s3 125):=⟨k1.trans h2.1,k2.trans h2.2.1,by have:=h2.2.2.1;omega,k5⟩
  have AS:(b9 gs s3 125).e=0:=k3.trans h1;have k7:=kU (gs:=gs) (s:=s3) (r:=125);unfold pD at hG
  cases ok with
  |false=>
   rw[if_pos rfl] at hG;have bd:(!false)=true:=rfl;refine qq<|qq<|qj fun K hK=>qm ?_;refine qg ?_;refine qm ?_;refine qs ?_ (hg:=wn bd);refine qs ?_ (hg:=wn bd);refine qs ?_ (hg:=wn bd);refine qt bd ?_;refine qm ?_;refine qs ?_;refine qs ?_;refine qs ?_;refine qs ?_;refine qs ?_;refine qs ?_;refine qs ?_;refine qg ?_;refine qe hK<|qB ?_;refine qq<|qj fun K hK=>qm ?_;refine qm ?_;obtain⟨_,st,aM,rfl,s4,PK,hH⟩:=CM _ s3 4 (by decide) h1 h2 hG hH;refine qv aM ?_;refine qe hK<|qq<|qj fun K hK=>qm ?_;refine qm ?_;refine qe hK<|af.ret ⟨rx,_,_,_,rfl,ak (rfl),?_⟩;exact⟨_,_,s4,rfl,PK _ _,cU.ax cF hH⟩
  |true=>
   rw[if_neg (by simp)] at hG;have bd:(!true)=false:=rfl
   cases lC:(!ct gs s3.i 125) with
   |true=>
    rw[if_pos (by simpa using lC)] at hG;refine qq<|qq<|qj fun K hK=>qm ?_;refine qg ?_;refine qm ?_;refine qm ?_ (hg:=wi bd);obtain⟨_,st,aM,rfl,hH⟩:=dS (s:=s3) (by omega) 125 hH;refine qv aM ?_ (hg:=wi bd);refine qg ?_ (hg:=wi bd);refine qu bd ?_;refine qm ?_;refine qs ?_ (hg:=wn lC);refine qs ?_ (hg:=wn lC);refine qs ?_ (hg:=wn lC);refine qs ?_;refine qs ?_;refine qs ?_;refine qs ?_ (hg:=wn lC);refine qt lC ?_;refine qe hK ?_;generalize b9 gs s3 125=s4 at*;refine qB ?_;refine qq<|qj fun K hK=>qm ?_;refine qm ?_;obtain⟨_,st,aM,rfl,s5,Gf,hH⟩:=CM _ s4 4 (by decide) AS AR hG hH;refine qv aM ?_;refine qe hK<|qq<|qj fun K hK=>qm ?_;refine qm ?_;refine qe hK<|af.ret ⟨rx,_,_,_,rfl,ak (rfl),?_⟩;exact⟨_,_,s5,rfl,Gf _ _,cU.ax cF hH⟩
   |false=>
    have NG:ct gs s3.i 125=true:=by simpa using lC
    have k7:=k7 NG;rw[if_neg (by rw[NG];simp)] at hG;rw[←k7] at hG
    cases en with
    |true=>
     rw[if_neg (fun h=>absurd h.1 (by simp))] at hG;have aT:(!true)=false:=rfl;have ox:=fun st=>kR (s0:=st) m (by omega);have w8:=fun st=>kR (s0:=st) [] (by simp);simp only[if_true] at hG;generalize ia m=V1 at*;generalize ia []=V2 at*;obtain⟨a1,f1⟩:=V1;obtain⟨b1,f2⟩:=V2;dsimp only at hG ox w8;refine qq<|qq<|qj fun K hK=>qm ?_;refine qg ?_;refine qm ?_;refine qm ?_ (hg:=wi bd);obtain⟨_,st,aM,rfl,hH⟩:=dS (s:=s3) (by omega) 125 hH;refine qv aM ?_ (hg:=wi bd);refine qg ?_ (hg:=wi bd);refine qu bd ?_;refine qm ?_;refine qm ?_ (hg:=wi lC);refine qg ?_ (hg:=wi lC);refine qm ?_ (hg:=wi lC);refine qs ?_ (hg:=wn aT);refine qs ?_ (hg:=wn aT);refine qs ?_ (hg:=wn aT);refine ab.bM (ah rfl rfl rfl lC) rfl aT (aa rfl _) ?_;refine qu lC ?_;refine qe hK ?_;generalize b9 gs s3 125=s4 at*;refine qC ?_;refine af.skip<|qq<|qj fun K hK=>qm ?_;refine qv ((ox _)) ?_;refine qm ?_;refine qg ?_;refine qg ?_;refine qm ?_;refine qm ?_;refine qe hK<|qq<|qq<|qj fun K hK=>qm ?_;refine qe hK<|qB ?_;refine qj fun K hK=>qm ?_;refine qe hK<|qq<|qj fun K hK=>qm ?_;refine qv ((w8 _)) ?_;refine qm ?_;refine qg ?_;refine qg ?_;refine qm ?_;refine qm ?_;refine qe hK<|qq<|qq<|af.qV 78 (.bool (!f1||!f2)) [] ?_ (fun ff tmp lU=>?_)
     ·refine qm ?_;refine qg ?_;refine qm ?_;refine ab.two 75 rfl (fun bd=>?_) (fun bd=>?_)
      ·refine qs ?_ (hg:=wn bd);refine qs ?_ (hg:=wn bd);refine qt bd ?_;refine ab.nil (fP ?_ ?_)
       ·dsimp only[aI,List.foldl,nth,u2,u1]
        all_goals(first|rfl|simp)
       ·dsimp only[Fr.az,Fr.put,Fr.clean,Fr.ev,Fr.get,nth,V.look,u1,u2,v1,v2,v3,v4,v5,v6,v7,List.length,u3,u4,Nat.reduceSub,Nat.reduceAdd,List.map]
        all_goals(simp[bd];done)
      ·refine qm ?_ (hg:=wi bd);refine qg ?_ (hg:=wi bd);refine qu bd ?_;refine ab.nil (fP ?_ ?_)
       ·dsimp only[aI,List.foldl,nth,u2,u1]
        all_goals(first|rfl|simp)
       ·dsimp only[Fr.az,Fr.put,Fr.clean,Fr.ev,Fr.get,nth,V.look,u1,u2,v1,v2,v3,v4,v5,v6,v7,List.length,u3,u4,Nat.reduceSub,Nat.reduceAdd,List.map]
        all_goals(simp[bd];done)
     dsimp only[aI,List.foldl,nth,u2,u1];refine qc (fun ud=>?_) (fun ud=>?_)<;>try simp only[cs] at ud
     ·rw[if_neg (fun h=>by rw[h.1,h.2] at ud;simp at ud)] at hG;refine qq<|qj fun K hK=>qm ?_;refine qm ?_;obtain⟨_,st,aM,rfl,s5,Gf,hH⟩:=CM _ s4 2 (by decide) AS AR hG hH;refine qv aM ?_;refine qe hK<|qq<|qj fun K hK=>qm ?_;refine qm ?_;refine qe hK<|af.ret ⟨rx,_,_,_,rfl,ak (rfl),?_⟩;exact⟨_,_,s5,rfl,Gf _ _,cU.ax cF hH⟩
     ·rw[if_pos (by cases f1<;>cases f2<;>simp at ud⊢)] at hG;refine af.skip<|qq<|qq<|qj fun K hK=>qm ?_;refine qe hK<|qB ?_;refine qj fun K hK=>qm ?_;refine qe hK<|qq<|qj fun K hK=>qm ?_;refine qm ?_;refine qm ?_;refine qm ?_;refine qe hK<|af.ret ⟨rx,_,_,_,rfl,ak (rfl),?_⟩;exact⟨_,_,s4,rfl,⟨AR,.inr ⟨AS,hG⟩⟩,cU.ax cF hH⟩
    |false=>
     have aT:(!false)=true:=rfl;have ox:=fun st=>kR (s0:=st) m (by omega);have w8:=fun st=>kR (s0:=st) n (by omega);have hle:=fun st=>Co (s0:=st) n m;have Qg:∀(a b:Int),(if false=true then a else b)=b:=fun a b=>if_neg (by simp);have hil:∀(a b:List UInt8),(if false=true then a else b)=b:=fun a b=>if_neg (by simp);rw[Qg,hil] at hG;generalize ia m=V1 at*;generalize ia n=V2 at*;obtain⟨a1,f1⟩:=V1;obtain⟨b1,f2⟩:=V2;dsimp only at hG ox w8;generalize oc n m=v at*;refine qq<|qq<|qj fun K hK=>qm ?_;refine qg ?_;refine qm ?_;refine qm ?_ (hg:=wi bd);obtain⟨_,st,aM,rfl,hH⟩:=dS (s:=s3) (by omega) 125 hH;refine qv aM ?_ (hg:=wi bd);refine qg ?_ (hg:=wi bd);refine qu bd ?_;refine qm ?_;refine qm ?_ (hg:=wi lC);refine qg ?_ (hg:=wi lC);refine qm ?_ (hg:=wi lC);refine qm ?_ (hg:=wi aT);refine qm ?_ (hg:=wi aT);refine qv ((hle _)) ?_ (hg:=wi aT);refine ab.b_ (ah rfl rfl rfl lC) rfl aT (aa rfl _) ?_;refine qu lC ?_;refine qe hK ?_;generalize b9 gs s3 125=s4 at*
     cases v with
     |true=>
      rw[if_pos ⟨rfl,rfl⟩] at hG;refine qB ?_;refine qq<|qj fun K hK=>qm ?_;refine qm ?_;obtain⟨_,st,aM,rfl,s5,Gf,hH⟩:=CM _ s4 4 (by decide) AS AR hG hH;refine qv aM ?_;refine qe hK<|qq<|qj fun K hK=>qm ?_;refine qm ?_;refine qe hK<|af.ret ⟨rx,_,_,_,rfl,ak (rfl),?_⟩;exact⟨_,_,s5,rfl,Gf _ _,cU.ax cF hH⟩
     |false=>
      rw[if_neg (fun h=>absurd h.2 (by simp))] at hG;refine qC ?_;refine af.skip<|qq<|qj fun K hK=>qm ?_;refine qv ((ox _)) ?_;refine qm ?_;refine qg ?_;refine qg ?_;refine qm ?_;refine qm ?_;refine qe hK<|qq<|qq<|qj fun K hK=>qm ?_;refine qe hK<|qC ?_;refine af.skip<|qq<|qj fun K hK=>qm ?_;refine qv ((w8 _)) ?_;refine qm ?_;refine qg ?_;refine qg ?_;refine qm ?_;refine qm ?_;refine qe hK<|qq<|qq<|af.qV 78 (.bool (!f1||!f2)) [] ?_ (fun ff tmp lU=>?_)
      ·refine qm ?_;refine qg ?_;refine qm ?_;refine ab.two 75 rfl (fun bd=>?_) (fun bd=>?_)
       ·refine qs ?_ (hg:=wn bd);refine qs ?_ (hg:=wn bd);refine qt bd ?_;refine ab.nil (fP ?_ ?_)
        ·dsimp only[aI,List.foldl,nth,u2,u1]
         all_goals(first|rfl|simp)
        ·dsimp only[Fr.az,Fr.put,Fr.clean,Fr.ev,Fr.get,nth,V.look,u1,u2,v1,v2,v3,v4,v5,v6,v7,List.length,u3,u4,Nat.reduceSub,Nat.reduceAdd,List.map]
         all_goals(simp[bd];done)
       ·refine qm ?_ (hg:=wi bd);refine qg ?_ (hg:=wi bd);refine qu bd ?_;refine ab.nil (fP ?_ ?_)
        ·dsimp only[aI,List.foldl,nth,u2,u1]
         all_goals(first|rfl|simp)
        ·dsimp only[Fr.az,Fr.put,Fr.clean,Fr.ev,Fr.get,nth,V.look,u1,u2,v1,v2,v3,v4,v5,v6,v7,List.length,u3,u4,Nat.reduceSub,Nat.reduceAdd,List.map]
         all_goals(simp[bd];done)
      dsimp only[aI,List.foldl,nth,u2,u1];refine qc (fun ud=>?_) (fun ud=>?_)<;>try simp only[cs] at ud
      ·rw[if_neg (fun h=>by rw[h.1,h.2] at ud;simp at ud)] at hG;refine qq<|qj fun K hK=>qm ?_;refine qm ?_;obtain⟨_,st,aM,rfl,s5,Gf,hH⟩:=CM _ s4 2 (by decide) AS AR hG hH;refine qv aM ?_;refine qe hK<|qq<|qj fun K hK=>qm ?_;refine qm ?_;refine qe hK<|af.ret ⟨rx,_,_,_,rfl,ak (rfl),?_⟩;exact⟨_,_,s5,rfl,Gf _ _,cU.ax cF hH⟩
      ·rw[if_pos (by cases f1<;>cases f2<;>simp at ud⊢)] at hG;refine af.skip<|qq<|qq<|qj fun K hK=>qm ?_;refine qe hK<|qC ?_;refine af.skip<|qq<|qj fun K hK=>qm ?_;refine qm ?_;refine qm ?_;refine qm ?_;refine qe hK<|af.ret ⟨rx,_,_,_,rfl,ak (rfl),?_⟩;exact⟨_,_,s4,rfl,⟨AR,.inr ⟨AS,hG⟩⟩,cU.ax cF hH⟩
end Go.Proofs.Ytnleclohocdkaaa
