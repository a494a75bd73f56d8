import Derived.Test.YtbdnabmmlbiomaaGreatXGCa
import Derived.Test.YtbdnabmmlbiomaaGreatXGKa
import Derived.Test.YtbdnabmmlbiomaaGreatXDgp
import Derived.Test.YtbdnabmmlbiomaaGreatXM2
set_option maxRecDepth 100000
set_option maxHeartbeats 4000000
set_option linter.unusedSimpArgs false
set_option linter.unusedVariables false
namespace Go.Proofs.YtbdnabmmlbiomaaGreat
open Go.V Go
def cQ (b:List UInt8):Nat×Nat:=if(c7 b).2.1=0 then(65533,1) else((c7 b).1,(c7 b).2.1)
def BT:Nat→List UInt8→List (Nat×Nat)
 |0,_=>[]
 |_+1,[]=>[]
 |n+1,b=>cQ b::BT n (b.drop (cQ b).2)
def rL (b:List UInt8):List (Nat×Nat):=BT b.length b
theorem fS (b:List UInt8):1≤(cQ b).2:=by
 unfold cQ;split
 ·simp
 ·simp only;omega
theorem ot : ∀ (n : Nat) (b : List UInt8), b.length ≤ n → BT n b = rL b
 | 0, [], _ => rfl
 | 0, _ :: _, h => by simp at h
 | n + 1, [], _ => rfl
 | n + 1, c :: b, h => by
  have hp := fS (c :: b);have h1 : ((c :: b).drop (cQ (c :: b)).2).length ≤ b.length := by rw [List.length_drop]; simp only [List.length_cons]; omega
  simp only [List.length_cons] at h;show cQ (c :: b) :: BT n ((c :: b).drop _) = cQ (c :: b) :: BT b.length ((c :: b).drop _);rw [ot n _ (by omega)]
  rcases Nat.lt_or_ge n b.length with h2 | h2
  ·omega
  ·rw [ot b.length _ h1]
termination_by n b => b.length
decreasing_by all_goals (simp_wf; omega)
theorem rK:rL []=[]:=rfl
theorem tz {b:List UInt8} (h:b≠[]):rL b=cQ b::rL (b.drop (cQ b).2):=by
 match b,h with
 |c::b,_=>
  show cQ (c::b)::BT b.length ((c::b).drop _)=_;rw[ot];have hp:=fS (c::b);rw[List.length_drop];simp only[List.length_cons];omega
def aQ (g:Nat×Nat):List D:=[.int .i32 (g.1:Nat),.int .i64 (g.2:Nat)]
def dJ (l:List (Nat×Nat)):D:=.sl ((l.map aQ).map (ki 2))
theorem D4 {l:List (Nat×Nat)}:∀e∈l.map aQ,e.length=2:=by
 intro e he;obtain⟨g,_,rfl⟩:=List.mem_map.1 he;rfl
theorem iJ {l:List (Nat×Nat)}:∀e∈l.map aQ,∀d∈e,cj d=true:=by
 intro e he d hd;obtain⟨g,_,rfl⟩:=List.mem_map.1 he;simp only[aQ,List.mem_cons,List.not_mem_nil,or_false] at hd
 rcases hd with rfl|rfl<;>rfl
theorem dF (st:St) (l:List (Nat×Nat)):V.Rows st 2 (dJ l) (l.map aQ):=Rows.p_ D4 iJ
theorem vt:∀(left n r lo hi:Nat) (b:List UInt8),(gh left n r lo hi b).2.1≠0→(gh left n r lo hi b).2.1=n∧left≤b.length
 |0,n,r,lo,hi,b,h=>by simp[gh]
 |left+1,n,r,lo,hi,[],h=>by simp[gh] at h
 |left+1,n,r,lo,hi,x::xs,h=>by
  simp only[gh] at h⊢
  split at h
  ·simp at h
  ·rename_i hc;rw[if_neg hc];have:=vt left n _ _ _ xs h;exact⟨this.1,by simp;omega⟩
theorem mC {b:List UInt8} (h:b≠[]):(cQ b).2≤b.length:=by
 match b,h with
 |c::xs,_=>
  unfold cQ
  split
  ·simp
  ·rename_i hz;simp only[c7] at hz⊢
   split at hz
   ·simp at hz
   ·rename_i hk;rw[if_neg hk];have:=vt _ _ _ _ _ _ hz;rw[this.1];simp;omega
theorem Q9 {st:St} {x:D} {b:List UInt8} (hb:Bytes st x b) (hlen:b.length≤1048576):Ev pv 13 [x] st (dJ (rL b)) st:=by
 refine Ev.iS rfl Yo rfl rfl rfl ?_;dsimp only[u3,u4,List.length,Nat.reduceSub,Nat.reduceAdd,w1,w2];have hx:=hb.ref;refine qy ?_;(repeat refine qq ?_);(generalize hK:aI _ _ _ _=K);refine ab.br ?_;(repeat(refine xL ?_));refine aa.nil ?_;dsimp only[Fr.aj,Fr.put,Fr.clean,Fr.ev,Fr.get,nth,V.look,u1,u2,v1,v2,v3,v4,v5,v6,v7,List.length,u3,u4,Nat.reduceSub,Nat.reduceAdd,List.map];subst hK;refine qy ?_;(repeat refine qq ?_);(generalize hK:aI _ _ _ _=K);refine ab.br ?_;(repeat(refine xL ?_));refine aa.nil ?_;dsimp only[Fr.aj,Fr.put,Fr.clean,Fr.ev,Fr.get,nth,V.look,u1,u2,v1,v2,v3,v4,v5,v6,v7,List.length,u3,u4,Nat.reduceSub,Nat.reduceAdd,List.map];subst hK;refine qy ?_;refine ab.seq (ab.block ?_)
 refine ab.loop (fun j fr ai=>∃(y out r n:D) (b':List UInt8) (done:List (Nat×Nat)),fr.clean=⟨6,[y,.tup [],.nul,out,r,n],[]⟩∧Ex st.bs.length (ag .ro st) ai∧Bytes ai y b'∧y.ref≤st.bs.length∧
  Acc st.bs.length ai 2 out (done.map aQ)∧j=b'.length∧done++rL b'=rL b∧done.length+b'.length≤b.length) b.length
  ⟨x,.nul,_,_,b,[],rfl,Ex.refl _ _,hb.enter .ro,hx,.nul,rfl,rfl,by simp⟩ ?_
 rintro j fr ai ⟨y,out,r,n,b',done,hfr,hex,hy,Zc,iI,rfl,mT,hl⟩;rw[hfr];refine qy ?_;(repeat refine qq ?_);(generalize hK:aI _ _ _ _=K);refine ab.br ?_
 (refine xT ?_)
 refine aa.len rfl rfl rfl hy rfl ?_;(repeat(refine xT ?_));refine aa.nil ?_;dsimp only[Fr.aj,Fr.put,Fr.clean,Fr.ev,Fr.get,nth,V.look,u1,u2,v1,v2,v3,v4,v5,v6,v7,List.length,u3,u4,Nat.reduceSub,Nat.reduceAdd,List.map];subst hK;refine qy ?_;rw[aG];refine qy ?_;(repeat refine qq ?_);refine qc (fun h1=>?_) (fun h1=>?_)<;>try simp only[cs] at h1
 ·refine ab.skip ?_;have mS:b'≠[]:=by rintro rfl;simp at h1
  (refine qy ?_);(repeat refine qq ?_);refine ab.block ?_;refine qy ?_;(repeat refine qq ?_);(generalize hK:aI _ _ _ _=K);refine ab.br ?_
  (refine xT ?_)
  refine aa.iL rfl rfl rfl (rk hy) ?_;(repeat(first|refine xT ?_|refine xL ?_));refine aa.nil ?_;dsimp only[Fr.aj,Fr.put,Fr.clean,Fr.ev,Fr.get,nth,V.look,u1,u2,v1,v2,v3,v4,v5,v6,v7,List.length,u3,u4,Nat.reduceSub,Nat.reduceAdd,List.map];subst hK;refine qy ?_;generalize hf:c7 b'=F at*;obtain⟨r0,n0,bg⟩:=F;refine qy ?_;(repeat refine qq ?_);(generalize hK:aI _ _ _ _=K);refine ab.br ?_;(repeat(refine xT ?_));refine aa.nil ?_;dsimp only[Fr.aj,Fr.put,Fr.clean,Fr.ev,Fr.get,nth,V.look,u1,u2,v1,v2,v3,v4,v5,v6,v7,List.length,u3,u4,Nat.reduceSub,Nat.reduceAdd,List.map];subst hK;refine qy ?_;generalize hK:aI _ _ _ _=K
  have H:∀m,K .next ⟨6,[y,.tup [],.nul,out,.int .i32 ((cQ b').1:Nat),.int .i64 ((cQ b').2:Nat)],m⟩ ai:=by
   intro m;subst hK;generalize hg:cQ b'=g;have hp:=fS b';have hle:=mC mS;rw[hg] at hp hle;refine qy ?_;(repeat refine qq ?_);(generalize hK:aI _ _ _ _=K);refine ab.br ?_
   (refine xT ?_)
   (refine xT ?_)
   (refine xT ?_)
   refine aa.T rfl rfl rfl (d:=.agg (aQ g)) (st1:=ai) rfl<|aa.T rfl rfl rfl (d:=.win ai.bs.length 0 0 1 2) (st1:=ai.push (.mem 0 true (aQ g))) rfl ?_;have hN:st.bs.length≤ai.bs.length:=hex.len;have wQ:=hex.trans (Ex.push hN (.mem 0 true (aQ g)));refine aa.append rfl rfl rfl rfl (iI.push _) (Rows.one rfl) rfl rfl rfl rfl rfl rfl rfl (by decide) wQ.len (by rw[wQ.flr];exact Nat.le_refl _) (by rw[wQ.ro];exact Nat.le_refl _) (by simp only[List.length_map,List.length_cons,List.length_nil];show(done.length+1)*16≤_;omega) fun yh st2 rf hY _ _ _=>?_;(repeat(refine xL ?_));refine aa.nil ?_;dsimp only[Fr.aj,Fr.put,Fr.clean,Fr.ev,Fr.get,nth,V.look,u1,u2,v1,v2,v3,v4,v5,v6,v7,List.length,u3,u4,Nat.reduceSub,Nat.reduceAdd,List.map];subst hK;refine qy ?_;have QA:=wQ.trans hY;have uZ:Bytes st2 y b':=Rows.ex ((Ex.push hN _).trans hY) hy Zc;refine qy ?_;(repeat refine qq ?_);(generalize hK:aI _ _ _ _=K);refine ab.br ?_
   (refine xT ?_)
   (refine xT ?_)
   refine aa.slice rfl rfl rfl uZ rfl rfl (l:=g.2) (r:=b'.length) ?_ ⟨by omega,by rw[aG];omega⟩ fun y2 Bh Sy=>?_
   ·show bK (byteCells b').length (some (.int .i64 (g.2:Nat))) none=_;rw[aG];simp only[bK,dZ,f_,Option.bind_some];rw[if_pos ⟨by omega,by omega⟩];rfl
   (repeat(refine xL ?_));refine aa.nil ?_;dsimp only[Fr.aj,Fr.put,Fr.clean,Fr.ev,Fr.get,nth,V.look,u1,u2,v1,v2,v3,v4,v5,v6,v7,List.length,u3,u4,Nat.reduceSub,Nat.reduceAdd,List.map];subst hK;refine⟨(b'.drop g.2).length,by rw[List.length_drop];omega,y2,yh,_,_,b'.drop g.2,done++[g],rfl,QA,?_,Nat.le_trans Sy Zc,?_,rfl,?_,?_⟩
   ·have:((byteCells b').take b'.length).drop g.2=byteCells (b'.drop g.2):=by
     rw[←aG,List.take_length];simp[byteCells]
    unfold Bytes;rw[←this];exact Bh
   ·rw[List.map_append];exact rf
   ·rw[List.append_assoc,List.singleton_append,←mT,tz mS,hg]
   ·rw[List.length_append,List.length_drop];simp only[List.length_cons,List.length_nil];omega
  (refine qy ?_);(repeat refine qq ?_);refine qc (fun h2=>?_) (fun h2=>?_)<;>try simp only[cs] at h2
  ·refine ab.br ?_;(repeat(refine xL ?_));refine aa.nil ?_;dsimp only[Fr.aj,Fr.put,Fr.clean,Fr.ev,Fr.get,nth,V.look,u1,u2,v1,v2,v3,v4,v5,v6,v7,List.length,u3,u4,Nat.reduceSub,Nat.reduceAdd,List.map];have:cQ b'=(65533,1):=by unfold cQ;rw[hf,if_pos (by simpa using h2)]
   rw[this] at H;exact H _
  ·refine ab.skip ?_;have:cQ b'=(r0,n0):=by unfold cQ;rw[hf,if_neg (by simpa using h2)]
   rw[this] at H;exact H _
 ·refine ab.exit ?_
  have mS:b'=[]:=by cases b' with|nil=>rfl|cons _ _=>simp at h1<;>omega
  subst mS;rw[rK,List.append_nil] at mT;refine qy ?_;(repeat refine qq ?_);(generalize hK:aI _ _ _ _=K);refine ab.br ?_;(repeat(first|refine xT ?_|refine xL ?_));refine aa.nil ?_;dsimp only[Fr.aj,Fr.put,Fr.clean,Fr.ev,Fr.get,nth,V.look,u1,u2,v1,v2,v3,v4,v5,v6,v7,List.length,u3,u4,Nat.reduceSub,Nat.reduceAdd,List.map];subst hK;refine qy ?_;refine ab.ret ⟨rx,_,rfl,aJ (by simp) (hex.take rfl) ?_⟩;rw[←mT];exact iI.freeze iJ (n:=15) (by decide)
structure fk where
 i:Nat
 o:Nat
 g:Nat
 e:Int
 w:Int
def a8 (gs:List (Nat×Nat)) (bS:D) (s:fk):List D:=[dJ gs,bS,.int .i64 (s.i:Nat),.int .i64 (s.o:Nat),.int .i64 (s.g:Nat),.int .i64 s.e,.int .i64 s.w]
def kZ (gs:List (Nat×Nat)) (i:Nat) (r:Int):Bool:=match gs[i]? with
 |some g=>((g.1:Nat):Int)==r
 |none=>false
theorem qO {gs:List (Nat×Nat)} {i:Nat} {r:Int} (h:kZ gs i r=true):i<gs.length:=by
 unfold kZ at h
 split at h
 ·exact bH (by assumption)
 ·cases h
def c9 (gs:List (Nat×Nat)) (s:fk) (r:Int):fk:=if kZ gs s.i r=true then{s with i:=s.i+1} else s
def Q7 (gs:List (Nat×Nat)) (i:Nat):Bool:=match gs[i]? with
 |some g=>((g.1:Nat):Int)==65533 &&((g.2:Nat):Int)==1
 |none=>false
def jg (b_:List Int) (s:fk) (i:Nat) (e:Int):fk:=if s.e=0 then{s with e:=e,w:=b_.getD i 0} else s
theorem oH {N k:Nat} {S s0:St} {H:List bt} {gs:List (Nat×Nat)} {bS:D} {s:fk} (s9:gs.length≤1048576) (r:Int) (hH:Has N S s0 (.box k (.mem 0 false (a8 gs bS s))::H)):
  ∃d ai,Ev pv 143 [.ptr k 0 0,.int .i32 r] s0 d ai∧d=.bool (kZ gs s.i r)∧Has N S ai (.box k (.mem 0 false (a8 gs bS s))::H):=by
 refine Ev.il rfl Ug rfl rfl rfl ?_;dsimp only[u3,u4,List.length,Nat.reduceSub,Nat.reduceAdd,w1,w2];have cF:=hH;have hH:=hH.cI;have ct:(ag .rw s0).bs=s0.bs:=rfl;generalize ag .rw s0=S2 at*;have Ad:Arg N S2 2 (dJ gs) (gs.map aQ):=Arg.pure (fun st=>dF st gs);refine qq<|qj fun K hK=>qm ?_;refine qe hK ?_
 by_cases ha:s.i<gs.length
 ·obtain⟨g,hg⟩:∃g,gs[s.i]?=some g:=⟨gs[s.i]'ha,List.getElem?_eq_getElem _⟩
  have gJ:(gs.map aQ)[s.i]?=some (aQ g):=by rw[List.getElem?_map,hg];rfl
  have bh:decide ((s.i:Int)<(gs.length:Nat))=true:=by rw[decide_eq_true];simp;omega
  have hv:kZ gs s.i r=(((g.1:Nat):Int)==r):=by unfold kZ;rw[hg]
  refine qq<|ab.mX 4 (.bool (((g.1:Nat):Int)==r)) [] ?_ (fun ff tmp=>?_)
  ·refine qm ?_;refine qg ?_;refine qp (o:=2) ?_;refine ql hH aB ?_;refine qm ?_;refine qg ?_;refine qp (o:=0) ?_;refine ql hH aB ?_;refine qn ?_;simp only[List.length_map];refine qg ?_;refine qm ?_;refine qm ?_ (hg:=wi bh);refine qg ?_ (hg:=wi bh);refine qp (o:=0) ?_ (hg:=wi bh);refine ql hH aB ?_ (hg:=wi bh);refine qm ?_ (hg:=wi bh);refine qg ?_ (hg:=wi bh);refine qp (o:=2) ?_ (hg:=wi bh);refine ql hH aB ?_ (hg:=wi bh);refine qr (fun Rl Bn=>?_) (hg:=wi bh);refine qf (fo:=0) (fun Sb DG=>?_) (hg:=wi bh);refine qR ?_ (hg:=wi bh);refine qm ?_ (hg:=wi bh);refine qg ?_ (hg:=wi bh);refine qt bh ?_;refine qm ?_;refine aa.nil (bf ?_);dsimp only[aR,List.foldl,nth,u2,u1];dsimp only[Fr.aj,Fr.put,Fr.clean,Fr.ev,Fr.get,nth,look,u1,u2,v1,v2,v4]
   all_goals(rfl)
  dsimp only[aR,List.foldl,nth,u2,u1];refine ab.ret ⟨rx,_,_,_,rfl,ak (rfl),?_⟩;exact⟨by rw[hv];rfl,cF.aA ct hH⟩
 ·have bh:decide ((s.i:Int)<(gs.length:Nat))=false:=by rw[decide_eq_false];simp;omega
  have hv:kZ gs s.i r=false:=by
   cases h:kZ gs s.i r with
   |true=>exact absurd (qO h) ha
   |false=>rfl
  refine qq<|ab.mX 4 (.bool false) [] ?_ (fun ff tmp=>?_)
  ·refine qm ?_;refine qg ?_;refine qp (o:=2) ?_;refine ql hH aB ?_;refine qm ?_;refine qg ?_;refine qp (o:=0) ?_;refine ql hH aB ?_;refine qn ?_;simp only[List.length_map];refine qg ?_;refine qm ?_;refine qs ?_ (hg:=wn bh);refine qs ?_ (hg:=wn bh);refine qs ?_ (hg:=wn bh);refine qs ?_ (hg:=wn bh);refine qs ?_ (hg:=wn bh);refine qs ?_ (hg:=wn bh);refine qs ?_ (hg:=wn bh);refine qs ?_ (hg:=wn bh);refine qs ?_ (hg:=wn bh);refine qs ?_ (hg:=wn bh);refine qs ?_ (hg:=wn bh);refine qs ?_ (hg:=wn bh);refine qs ?_ (hg:=wn bh);refine qu bh ?_;refine qm ?_;refine aa.nil (bf ?_);dsimp only[aR,List.foldl,nth,u2,u1];dsimp only[Fr.aj,Fr.put,Fr.clean,Fr.ev,Fr.get,nth,look,u1,u2,v1,v2,v4]
   all_goals(first|rfl|(simp[bh];done)|(simp_all;done)|(simp[bh];omega)|(simp_all;omega))
  dsimp only[aR,List.foldl,nth,u2,u1];refine ab.ret ⟨rx,_,_,_,rfl,ak (rfl),?_⟩;exact⟨by rw[hv];rfl,cF.aA ct hH⟩
theorem er {N k:Nat} {S s0:St} {H:List bt} {gs:List (Nat×Nat)} {bS:D} {s:fk} (s9:gs.length≤1048576) (r:Int) (hH:Has N S s0 (.box k (.mem 0 false (a8 gs bS s))::H)):
  ∃d ai,Ev pv 130 [.ptr k 0 0,.int .i32 r] s0 d ai∧d=.bool (kZ gs s.i r)∧Has N S ai (.box k (.mem 0 false (a8 gs bS (c9 gs s r)))::H):=by
 refine Ev.il rfl Uo rfl rfl rfl ?_;dsimp only[u3,u4,List.length,Nat.reduceSub,Nat.reduceAdd,w1,w2];have cF:=hH;have hH:=hH.cI;have ct:(ag .rw s0).bs=s0.bs:=rfl;generalize ag .rw s0=S2 at*;refine qq<|qj fun K hK=>qm ?_;refine qe hK<|qq<|qq<|qj fun K hK=>qm ?_;refine qm ?_;obtain⟨_,st,aK,rfl,hH⟩:=oH s9 r hH;refine qv aK ?_;refine qe hK ?_;unfold c9
 cases hb:kZ gs s.i r with
 |true=>
  have hlt:=qO hb;dsimp only[a8] at hH;rw[if_pos rfl];refine qB ?_;refine qq<|qj fun K hK=>qm ?_;refine qg ?_;refine qp (o:=2) ?_;refine ql hH aB ?_;refine qA ?_;refine qg ?_;refine qp (o:=2) ?_;refine qT hH aB fun st hH=>?_;dsimp only[u2,u1,u3,u4,setMany,u5,u6,D.cells,Nat.reduceAdd,a8,aQ,ay] at hH;refine qe hK<|qq<|qj fun K hK=>qm ?_;refine qe hK<|ab.ret ⟨rx,_,_,_,rfl,ak (rfl),?_⟩;exact⟨rfl,cF.aA ct hH⟩
 |false=>
  rw[if_neg (by simp)];refine qC ?_;refine ab.skip<|qq<|qj fun K hK=>qm ?_;refine qe hK<|ab.ret ⟨rx,_,_,_,rfl,ak (rfl),?_⟩;exact⟨rfl,cF.aA ct hH⟩
theorem zg {N k:Nat} {S s0:St} {H:List bt} {gs:List (Nat×Nat)} {bS:D} {s:fk} (i:Nat) (hi:i<gs.length) (hH:Has N S s0 (.box k (.mem 0 false (a8 gs bS s))::H)):
  ∃d ai,Ev pv 166 [.ptr k 0 0,.int .i64 (i:Nat)] s0 d ai∧d=.bool (Q7 gs i)∧Has N S ai (.box k (.mem 0 false (a8 gs bS s))::H):=by
 refine Ev.il rfl T9 rfl rfl rfl ?_;dsimp only[u3,u4,List.length,Nat.reduceSub,Nat.reduceAdd,w1,w2];have cF:=hH;have hH:=hH.cI;have ct:(ag .rw s0).bs=s0.bs:=rfl;generalize ag .rw s0=S2 at*;have Ad:Arg N S2 2 (dJ gs) (gs.map aQ):=Arg.pure (fun st=>dF st gs);refine qq<|qj fun K hK=>qm ?_;refine qe hK ?_
 obtain⟨g,hg⟩:∃g,gs[i]?=some g:=⟨gs[i]'hi,List.getElem?_eq_getElem _⟩
 have gJ:(gs.map aQ)[i]?=some (aQ g):=by rw[List.getElem?_map,hg];rfl
 have hv:Q7 gs i=(((g.1:Nat):Int)==65533 &&((g.2:Nat):Int)==1):=by unfold Q7;rw[hg]
 refine qq<|ab.mX 4 (.bool (((g.1:Nat):Int)==65533 &&((g.2:Nat):Int)==1)) [] ?_ (fun ff tmp=>?_)
 ·refine qm ?_;refine qg ?_;refine qp (o:=0) ?_;refine ql hH aB ?_;refine qm ?_;refine qr fun Sc DH=>?_;refine qf (fo:=0) fun Y9 S6=>?_;refine qR ?_;refine qg ?_;refine qm ?_;refine aa.two 14 rfl (fun cH=>?_) (fun cH=>?_)
  ·refine qm ?_ (hg:=wi cH);refine qg ?_ (hg:=wi cH);refine qp (o:=0) ?_ (hg:=wi cH);refine ql hH aB ?_ (hg:=wi cH);refine qm ?_ (hg:=wi cH);refine qr (fun US Lf=>?_) (hg:=wi cH);refine qf (fo:=1) (fun UR Le=>?_) (hg:=wi cH);refine qR ?_ (hg:=wi cH);refine qg ?_ (hg:=wi cH);refine qt cH ?_;refine qm ?_;refine aa.nil (bf ?_);dsimp only[aR,List.foldl,nth,u2,u1];dsimp only[Fr.aj,Fr.put,Fr.clean,Fr.ev,Fr.get,nth,V.look,u1,u2,v1,v2,v3,v4,v5,v6,v7,List.length,u3,u4,Nat.reduceSub,Nat.reduceAdd,List.map]
   all_goals(simp[cH];done)
  ·refine qs ?_ (hg:=wn cH);refine qs ?_ (hg:=wn cH);refine qs ?_ (hg:=wn cH);refine qs ?_ (hg:=wn cH);refine qs ?_ (hg:=wn cH);refine qs ?_ (hg:=wn cH);refine qs ?_ (hg:=wn cH);refine qs ?_ (hg:=wn cH);refine qs ?_ (hg:=wn cH);refine qu cH ?_;refine qm ?_;refine aa.nil (bf ?_);dsimp only[aR,List.foldl,nth,u2,u1];dsimp only[Fr.aj,Fr.put,Fr.clean,Fr.ev,Fr.get,nth,V.look,u1,u2,v1,v2,v3,v4,v5,v6,v7,List.length,u3,u4,Nat.reduceSub,Nat.reduceAdd,List.map]
   all_goals(simp[cH];done)
 dsimp only[aR,List.foldl,nth,u2,u1];refine ab.ret ⟨rx,_,_,_,rfl,ak (rfl),?_⟩;exact⟨by rw[hv];rfl,cF.aA ct hH⟩
theorem dc {N k:Nat} {S s0:St} {H:List bt} {gs:List (Nat×Nat)} {bS:D} {b_:List Int} {s:fk} (i:Nat) (e:Int) (hi:i<b_.length) (hH:Has N S s0 (.box k (.mem 0 false (a8 gs bS s))::.aP bS 1 (b_.map ay)::H)):
  ∃d ai,Ev pv 100 [.ptr k 0 0,.int .i64 (i:Nat),.int .i64 e] s0 d ai∧d=.sl []∧Has N S ai (.box k (.mem 0 false (a8 gs bS (jg b_ s i e)))::.aP bS 1 (b_.map ay)::H):=by
 refine Ev.il rfl UH rfl rfl rfl ?_;dsimp only[u3,u4,List.length,Nat.reduceSub,Nat.reduceAdd,w1,w2];have cF:=hH;have hH:=hH.cI;have ct:(ag .rw s0).bs=s0.bs:=rfl;generalize ag .rw s0=S2 at*;refine qq<|qj fun K hK=>qm ?_;refine qe hK ?_
 obtain⟨v,hv⟩:∃v,b_[i]?=some v:=⟨b_[i]'hi,List.getElem?_eq_getElem _⟩
 have gJ:=eO hv;unfold jg;refine qq<|qq<|qj fun K hK=>qm ?_;refine qg ?_;refine qp (o:=5) ?_;refine ql hH aB ?_;refine qg ?_;refine qe hK ?_;refine ab.cond (by rfl) (fun h0=>?_) (fun h0=>?_)<;>try simp only[beq_iff_eq,beq_eq_false_iff_ne,ne_eq] at h0
 ·rw[if_pos h0];have Lm:b_.getD i 0=v:=by rw[List.getD_eq_getElem?_getD,hv];rfl
  refine qj fun K hK=>qm ?_;refine qm ?_;refine qm ?_;refine qm ?_;refine qg ?_;refine qp (o:=1) ?_;refine ql hH aB ?_;refine qm ?_;refine qi hH bF fun US Lf=>?_;refine qo hH bF ?_;refine qg ?_;refine qp (o:=5) ?_;refine qT hH aB fun st hH=>?_;dsimp only[u2,u1,u3,u4,setMany,u5,u6,D.cells,Nat.reduceAdd,a8,aQ,ay] at hH;refine qg ?_;refine qp (o:=6) ?_;refine qT hH aB fun st hH=>?_;dsimp only[u2,u1,u3,u4,setMany,u5,u6,D.cells,Nat.reduceAdd,a8,aQ,ay] at hH;refine qe hK<|qq<|qj fun K hK=>qm ?_;refine qe hK<|ab.ret ⟨rx,_,_,_,rfl,ak (rfl),?_⟩;exact⟨rfl,by rw[Lm];exact cF.aA ct hH⟩
 ·rw[if_neg h0];refine ab.skip<|qq<|qj fun K hK=>qm ?_;refine qe hK<|ab.ret ⟨rx,_,_,_,rfl,ak (rfl),?_⟩;exact⟨rfl,cF.aA ct hH⟩
def eX (fr:Go.V.Fr) (k:Nat):Go.V.D:=Go.V.nth .bp fr.loc k
noncomputable def kU (l:List Rg):List Rg:=@dite _ (∃a,gB l a) (Classical.propDecidable _) (fun h=>Classical.choose h) (fun _=>[])
theorem Df {l a:List Rg} (h:gB l a):kU l=a:=by
 have hx:∃a,gB l a:=⟨a,h⟩
 unfold kU;rw[dif_pos hx];exact(Classical.choose_spec hx).unique h
theorem mD {s0:St} {x:D} {l:List Rg} (hx:V.Rows s0 2 x (l.map ax)) (hl:l.length≤1048576):Ev pv 146 [x] s0 (bJ (kU l)) s0∧(kU l).length≤2*l.length∧gB l (kU l):=by
 obtain⟨_,aK,all,rfl,hperm,oJ⟩:=zT hx (by omega);have hM:gB l (all.foldl dD []).reverse:=qI (fun x=>hperm.mem_iff) oJ;have hlen:=hperm.length_eq;have ml:=jb l;have jq:=qN all;rw[Df hM];exact⟨aK,by rw[List.length_reverse];omega,hM⟩
theorem jB (l:List Rg):eE (bJ l) 2 (l.map ax):=by
 rw[←iz];refine eE.frozen ?_ ?_
 ·intro e he;obtain⟨x,_,rfl⟩:=List.mem_map.1 he;rfl
 ·intro e he d hd;obtain⟨x,_,rfl⟩:=List.mem_map.1 he;simp only[ax,List.mem_cons,List.not_mem_nil,or_false] at hd
  rcases hd with rfl|rfl<;>rfl
theorem ub {r:Int} {l a:List Rg} (h0:0≤r) (h1:r<55296) (hr:fL l r) (h:gB l a):a≠[]:=by
 rintro rfl;have:=(h.2 r).2 ⟨by unfold nZ;omega,hr⟩;obtain⟨x,hx,_⟩:=this;cases hx
theorem wh {r:Int} (h0:0≤r) (h1:r<55296) {a:List Rg} (h:gB [(r,r)] a):a≠[]:=by
 rintro rfl;have:=(h.2 r).2 ⟨?_,?_⟩
 ·obtain⟨x,hx,_⟩:=this;cases hx
 ·unfold nZ;omega
 ·exact⟨(r,r),List.mem_cons_self ..,by simp⟩
theorem jz {s0:St} (r:Int):Ev pv 171 [.int .i32 r] s0 (bJ (kU [(r,r)])) s0:=by
 refine Ev.iS rfl T4 rfl rfl rfl ?_;dsimp only[u3,u4,List.length,Nat.reduceSub,Nat.reduceAdd,w1,w2];obtain⟨bT,hF,hH⟩:=ri s0;generalize ag .ro s0=S at*;refine qq<|qj fun K hK=>qm ?_;refine qe hK<|qq<|qj fun K hK=>qm ?_;refine qm ?_;refine aa.gd (qs:=[(0,_),(1,_)]) rfl rfl rfl rfl ⟨rfl,(ev rfl),(by rfl),rfl,(ev rfl),(by rfl),trivial⟩ (by intro q hq;simp only[List.mem_cons,List.not_mem_nil,or_false] at hq;rcases hq with rfl|rfl<;>exact⟨rfl,by exact Nat.le_of_ble_eq_true rfl⟩) (by show List.foldl _ [_,_] _=_;dsimp only[List.foldl_cons,List.foldl_nil,u2,u1]<;>rfl) (ah rfl _) ?_;refine qh (s:=2) (vs:=[_]) hH fun k6 st Me hH=>?_;obtain⟨aK,hl,_⟩:=mD (l:=[(r,r)]) (hH.rows aB) (by simp);refine qv aK ?_;refine qm ?_;refine qe hK<|ab.ret ⟨rx,_,rfl,rl bT hH (rfl)⟩
theorem C6 {s0:St} {x:D} {l:List Rg} (hx:V.Rows s0 2 x (l.map ax)) (hl:l.length≤131072):∃d,Ev pv 182 [x] s0 d s0∧∃a:List Rg,d=bJ a∧a.length≤4*l.length+2:=by
 refine Ev.Dc rfl T0 rfl rfl rfl ?_;dsimp only[u3,u4,List.length,Nat.reduceSub,Nat.reduceAdd,w1,w2];obtain⟨bT,hF,hH⟩:=ri s0;generalize ag .ro s0=S at*;have hx:=Arg.of hx bT;refine qq<|qj fun K hK=>qm ?_;refine qe hK<|qq<|qj fun K hK=>qm ?_;refine qe hK<|qq<|qj fun K hK=>qm ?_;refine qe hK ?_;obtain⟨aK,Bo,_⟩:=mD (hx.rows hH) (by omega);have hla:=(jB (kU l)).arg s0.bs.length S;generalize kU l=m at*;refine qq<|qq<|qj fun K hK=>qm ?_;refine qv (aK) ?_;refine qn ?_;simp only[List.length_map];refine qm ?_;refine qe hK ?_;have hH:=hH.d_ 2;refine ab.block<|ab.loop (fun mm fr st=>∃(i:Nat) (n:Int) (o:D) (out:List Rg),fr.clean=⟨11,[eX fr 0,eX fr 1,eX fr 2,o,.int .i32 n,eX fr 5,eX fr 6,eX fr 7,bJ m,.int .i64 (m.length:Nat),.int .i64 (i:Nat)],[]⟩∧Has s0.bs.length S st [.aP o 2 (out.map ax)]∧(i+mm=m.length)∧(out.length=i)) (m.length) ?_ ?_
 ·exact⟨0,0,.nul,[],rfl,hH,by omega,rfl⟩
 rintro mm fr st ⟨i,n,o,out,hfr,hH,hi,ho⟩;rw[hfr];clear hfr;generalize eX fr=ee;clear fr;refine qq<|qj fun K hK=>qg ?_;refine qe hK<|qq ?_;refine ab.cond (by rfl) (fun h1=>?_) (fun h1=>?_)<;>try simp only[decide_eq_true_eq,decide_eq_false_iff_not] at h1
 ·refine ab.skip ?_
  obtain⟨q,hq⟩:∃q,m[i]?=some q:=⟨m[i]'(by omega),List.getElem?_eq_getElem _⟩
  have hr:=fH hq;refine qq<|ab.block<|qq<|qj fun K hK=>qr fun Y8 S5=>?_;refine aa.db rfl (ev rfl) (by assumption) rfl (ah rfl _) ?_;refine qa hH fun k6 st Me hH=>?_;refine qS hH aB fun st hH=>?_;dsimp only[u2,u1,u3,u4,setMany,u5,u6,D.cells,Nat.reduceAdd,ax] at hH;refine qe hK<|qq<|qj fun K hK=>qm ?_;refine qm ?_;refine qp (o:=0) ?_;refine ql hH aB ?_;refine aa.oS (z:=bM .i32 (q.1-1)) rfl (ev rfl) (ev rfl) rfl (ah rfl _) ?_;refine aa.gd (qs:=[(0,_),(1,_)]) rfl rfl rfl rfl ⟨rfl,(ev rfl),(by rfl),rfl,(ev rfl),(by rfl),trivial⟩ (by intro q hq;simp only[List.mem_cons,List.not_mem_nil,or_false] at hq;rcases hq with rfl|rfl<;>exact⟨rfl,by exact Nat.le_of_ble_eq_true rfl⟩) (by show List.foldl _ [_,_] _=_;dsimp only[List.foldl_cons,List.foldl_nil,u2,u1]<;>rfl) (ah rfl _) ?_;refine qh (s:=2) (vs:=[_]) hH fun k20 st WT hH=>?_;refine aa.bO (s:=2) hH rfl (ev rfl) (ev rfl) (by exact dL) (by exact hH.rows (by exact aB)) rfl rfl rfl rfl rfl rfl rfl ⟨(Nat.le_of_ble_eq_true rfl),(Nat.le_of_ble_eq_true rfl)⟩ (fun _=>(ah rfl _)) (by simp only[List.length_cons,List.length_nil,List.length_map]<;>omega) (by exact .inl hF) (fun x21 st hH=>?_);dsimp only[u2,u1,u3,u4,setMany,u5,u6,D.cells,Nat.reduceAdd,ax] at hH;refine qm ?_;refine qe hK<|qj fun K hK=>qp (o:=1) ?_;refine ql hH bF ?_;refine aa.lq (z:=bM .i32 (q.2+1)) rfl (ev rfl) (ev rfl) rfl (ah rfl _) ?_;refine qm ?_;refine qe hK<|qj fun K hK=>qA ?_;refine qm ?_;refine qe hK ?_;exact⟨mm-1,by omega,⟨i+1,_,_,out++[(n,bM .i32 (q.1-1))],rfl,(by rw[List.map_append];exact hH.drop 2),by omega,by simp[ho]⟩⟩
 ·refine ab.exit<|qq<|qj fun K hK=>qm ?_;refine qm ?_;refine aa.gd (qs:=[(0,_),(1,_)]) rfl rfl rfl rfl ⟨rfl,(ev rfl),(by rfl),rfl,(ev rfl),(by rfl),trivial⟩ (by intro q hq;simp only[List.mem_cons,List.not_mem_nil,or_false] at hq;rcases hq with rfl|rfl<;>exact⟨rfl,by exact Nat.le_of_ble_eq_true rfl⟩) (by show List.foldl _ [_,_] _=_;dsimp only[List.foldl_cons,List.foldl_nil,u2,u1]<;>rfl) (ah rfl _) ?_;refine qh (s:=2) (vs:=[_]) hH fun k29 st aa1 hH=>?_;refine aa.bO (s:=2) hH rfl (ev rfl) (ev rfl) (by exact bF) (by exact hH.rows (by exact aB)) rfl rfl rfl rfl rfl rfl rfl ⟨(Nat.le_of_ble_eq_true rfl),(Nat.le_of_ble_eq_true rfl)⟩ (fun _=>(ah rfl _)) (by simp only[List.length_cons,List.length_nil,List.length_map]<;>omega) (by exact .inl hF) (fun x30 st hH=>?_);dsimp only[u2,u1,u3,u4,setMany,u5,u6,D.cells,Nat.reduceAdd,ax] at hH;obtain⟨aK,kG,_⟩:=mD (l:=out++[(n,1114111)]) (by rw[List.map_append];exact hH.rows bF) (by simp;omega);refine qv aK ?_;refine qm ?_;refine qe hK<|ab.ret ⟨rx,_,_,rfl,rl bT hH (rfl),?_⟩;exact⟨_,rfl,by simp at kG;omega⟩
theorem QY {s0:St}:∃d,Ev pv 170 [] s0 d s0∧∃a:List Rg,d=bJ a∧a.length≤6:=by
 refine Ev.Dc rfl T5 rfl rfl rfl ?_;dsimp only[u3,u4,List.length,Nat.reduceSub,Nat.reduceAdd,w1,w2];obtain⟨bT,hF,hH⟩:=ri s0;generalize ag .ro s0=S at*;refine qq<|qj fun K hK=>qm ?_;refine qe hK<|qq<|qj fun K hK=>?_;refine aa.gd (qs:=[(0,_),(1,_)]) rfl rfl rfl rfl ⟨rfl,(ev rfl),(by rfl),rfl,(ev rfl),(by rfl),trivial⟩ (by intro q hq;simp only[List.mem_cons,List.not_mem_nil,or_false] at hq;rcases hq with rfl|rfl<;>exact⟨rfl,by exact Nat.le_of_ble_eq_true rfl⟩) (by show List.foldl _ [_,_] _=_;dsimp only[List.foldl_cons,List.foldl_nil,u2,u1]<;>rfl) (ah rfl _) ?_;refine qh (s:=2) (vs:=[_]) hH fun k2 st hk2 hH=>?_;obtain⟨_,aK,a,rfl,hl⟩:=C6 (l:=[(10,10)]) (hH.rows aB) (by simp);refine qv aK ?_;refine qm ?_;refine qe hK<|ab.ret ⟨rx,_,_,rfl,rl bT hH (rfl),?_⟩;exact⟨a,rfl,hl⟩
theorem KU {s0:St} (r:Int):Ev pv 183 [.int .i32 r] s0 (.bool (decide (33≤r∧r≤47∨58≤r∧r≤64∨91≤r∧r≤96∨123≤r∧r≤126))) s0:=by
 refine Ev.iS rfl TZ rfl rfl rfl ?_;dsimp only[u3,u4,List.length,Nat.reduceSub,Nat.reduceAdd,w1,w2];obtain⟨bT,hF,hH⟩:=ri s0;generalize ag .ro s0=S at*;refine qq<|qj fun K hK=>qm ?_;refine qe hK<|qq<|ab.mX 2 (.bool (decide (33≤r∧r≤47∨58≤r∧r≤64∨91≤r∧r≤96∨123≤r∧r≤126))) [] ?_ (fun ff tmp=>?_)
 ·refine qm ?_;refine qg ?_;refine qm ?_;refine aa.two 5 rfl (fun bj=>?_) (fun bj=>?_)
  ·refine qm ?_ (hg:=wi bj);refine qg ?_ (hg:=wi bj);refine qt bj ?_;refine qm ?_;refine aa.two 9 rfl (fun eP=>?_) (fun eP=>?_)
   ·refine qs ?_ (hg:=wn eP);refine qs ?_ (hg:=wn eP);refine qs ?_ (hg:=wn eP);refine qs ?_;refine qs ?_;refine qs ?_ (hg:=wn eP);refine qt eP ?_;refine qm ?_;refine qs ?_;refine qs ?_;refine qs ?_;refine qs ?_;refine qs ?_;refine qs ?_;refine qg ?_;refine qm ?_;refine qs ?_;refine qs ?_;refine qs ?_;refine qs ?_;refine qs ?_;refine qs ?_;refine qg ?_;refine qm ?_;refine aa.nil (bf ?_);dsimp only[aR,List.foldl,nth,u2,u1];dsimp only[Fr.aj,Fr.put,Fr.clean,Fr.ev,Fr.get,nth,V.look,u1,u2,v1,v2,v3,v4,v5,v6,v7,List.length,u3,u4,Nat.reduceSub,Nat.reduceAdd,List.map]
    all_goals(simp[bj,eP];done)
   ·refine qm ?_ (hg:=wi eP);refine qg ?_ (hg:=wi eP);refine qm ?_ (hg:=wi eP);refine aa.two 12 rfl (fun cH=>?_) (fun cH=>?_)
    ·refine qm ?_ (hg:=wi cH);refine qg ?_ (hg:=wi cH);refine aa.eJ (aD rfl rfl rfl eP) rfl cH (ah rfl _) ?_;refine qu eP ?_;refine qm ?_;refine aa.two 17 rfl (fun dS=>?_) (fun dS=>?_)
     ·refine qs ?_ (hg:=wn dS);refine qs ?_ (hg:=wn dS);refine qs ?_ (hg:=wn dS);refine qs ?_;refine qs ?_;refine qs ?_ (hg:=wn dS);refine qt dS ?_;refine qm ?_;refine qs ?_;refine qs ?_;refine qs ?_;refine qs ?_;refine qs ?_;refine qs ?_;refine qg ?_;refine qm ?_;refine aa.nil (bf ?_);dsimp only[aR,List.foldl,nth,u2,u1];dsimp only[Fr.aj,Fr.put,Fr.clean,Fr.ev,Fr.get,nth,V.look,u1,u2,v1,v2,v3,v4,v5,v6,v7,List.length,u3,u4,Nat.reduceSub,Nat.reduceAdd,List.map]
      all_goals(simp[bj,eP,cH,dS];done)
     ·refine qm ?_ (hg:=wi dS);refine qg ?_ (hg:=wi dS);refine qm ?_ (hg:=wi dS);refine aa.two 20 rfl (fun bk=>?_) (fun bk=>?_)
      ·refine qm ?_ (hg:=wi bk);refine qg ?_ (hg:=wi bk);refine aa.eJ (aD rfl rfl rfl dS) rfl bk (ah rfl _) ?_;refine qu dS ?_;refine qm ?_;refine aa.two 25 rfl (fun bA=>?_) (fun bA=>?_)
       ·refine qs ?_ (hg:=wn bA);refine qs ?_ (hg:=wn bA);refine qs ?_ (hg:=wn bA);refine qs ?_;refine qs ?_;refine qs ?_ (hg:=wn bA);refine qt bA ?_;refine qm ?_;refine aa.nil (bf ?_);dsimp only[aR,List.foldl,nth,u2,u1];dsimp only[Fr.aj,Fr.put,Fr.clean,Fr.ev,Fr.get,nth,V.look,u1,u2,v1,v2,v3,v4,v5,v6,v7,List.length,u3,u4,Nat.reduceSub,Nat.reduceAdd,List.map]
        all_goals(simp[bj,eP,cH,dS,bk,bA];done)
       ·refine qm ?_ (hg:=wi bA);refine qg ?_ (hg:=wi bA);refine qm ?_ (hg:=wi bA);refine aa.two 28 rfl (fun bn=>?_) (fun bn=>?_)
        ·refine qm ?_ (hg:=wi bn);refine qg ?_ (hg:=wi bn);refine aa.eJ (aD rfl rfl rfl bA) rfl bn (ah rfl _) ?_;refine qu bA ?_;refine qm ?_;refine aa.nil (bf ?_);dsimp only[aR,List.foldl,nth,u2,u1];dsimp only[Fr.aj,Fr.put,Fr.clean,Fr.ev,Fr.get,nth,V.look,u1,u2,v1,v2,v3,v4,v5,v6,v7,List.length,u3,u4,Nat.reduceSub,Nat.reduceAdd,List.map]
         all_goals(simp[bj,eP,cH,dS,bk,bA,bn];done)
        ·refine qs ?_ (hg:=wn bn);refine qs ?_ (hg:=wn bn);refine aa.dA (aD rfl rfl rfl bA) rfl bn (ah rfl _) ?_;refine qu bA ?_;refine qm ?_;refine aa.nil (bf ?_);dsimp only[aR,List.foldl,nth,u2,u1];dsimp only[Fr.aj,Fr.put,Fr.clean,Fr.ev,Fr.get,nth,V.look,u1,u2,v1,v2,v3,v4,v5,v6,v7,List.length,u3,u4,Nat.reduceSub,Nat.reduceAdd,List.map]
         all_goals(simp[bj,eP,cH,dS,bk,bA,bn];done)
      ·refine qs ?_ (hg:=wn bk);refine qs ?_ (hg:=wn bk);refine aa.dA (aD rfl rfl rfl dS) rfl bk (ah rfl _) ?_;refine qu dS ?_;refine qm ?_;refine qm ?_;refine qg ?_;refine qm ?_;refine aa.two 28 rfl (fun bn=>?_) (fun bn=>?_)
       ·refine qm ?_ (hg:=wi bn);refine qg ?_ (hg:=wi bn);refine qt bn ?_;refine qg ?_;refine qm ?_;refine aa.nil (bf ?_);dsimp only[aR,List.foldl,nth,u2,u1];dsimp only[Fr.aj,Fr.put,Fr.clean,Fr.ev,Fr.get,nth,V.look,u1,u2,v1,v2,v3,v4,v5,v6,v7,List.length,u3,u4,Nat.reduceSub,Nat.reduceAdd,List.map]
        all_goals(simp[bj,eP,cH,dS,bk,bn];done)
       ·refine qs ?_ (hg:=wn bn);refine qs ?_ (hg:=wn bn);refine qu bn ?_;refine qg ?_;refine qm ?_;refine aa.nil (bf ?_);dsimp only[aR,List.foldl,nth,u2,u1];dsimp only[Fr.aj,Fr.put,Fr.clean,Fr.ev,Fr.get,nth,V.look,u1,u2,v1,v2,v3,v4,v5,v6,v7,List.length,u3,u4,Nat.reduceSub,Nat.reduceAdd,List.map]
        all_goals(simp[bj,eP,cH,dS,bk,bn];done)
    ·refine qs ?_ (hg:=wn cH);refine qs ?_ (hg:=wn cH);refine aa.dA (aD rfl rfl rfl eP) rfl cH (ah rfl _) ?_;refine qu eP ?_;refine qm ?_;refine qm ?_;refine qg ?_;refine qm ?_;refine aa.two 20 rfl (fun bk=>?_) (fun bk=>?_)
     ·refine qm ?_ (hg:=wi bk);refine qg ?_ (hg:=wi bk);refine qt bk ?_;refine qg ?_;refine qm ?_;refine aa.two 25 rfl (fun bA=>?_) (fun bA=>?_)
      ·refine qs ?_ (hg:=wn bA);refine qs ?_ (hg:=wn bA);refine qs ?_ (hg:=wn bA);refine qs ?_;refine qs ?_;refine qs ?_ (hg:=wn bA);refine qt bA ?_;refine qm ?_;refine aa.nil (bf ?_);dsimp only[aR,List.foldl,nth,u2,u1];dsimp only[Fr.aj,Fr.put,Fr.clean,Fr.ev,Fr.get,nth,V.look,u1,u2,v1,v2,v3,v4,v5,v6,v7,List.length,u3,u4,Nat.reduceSub,Nat.reduceAdd,List.map]
       all_goals(simp[bj,eP,cH,bk,bA];done)
      ·refine qm ?_ (hg:=wi bA);refine qg ?_ (hg:=wi bA);refine qm ?_ (hg:=wi bA);refine aa.two 28 rfl (fun bn=>?_) (fun bn=>?_)
       ·refine qm ?_ (hg:=wi bn);refine qg ?_ (hg:=wi bn);refine aa.eJ (aD rfl rfl rfl bA) rfl bn (ah rfl _) ?_;refine qu bA ?_;refine qm ?_;refine aa.nil (bf ?_);dsimp only[aR,List.foldl,nth,u2,u1];dsimp only[Fr.aj,Fr.put,Fr.clean,Fr.ev,Fr.get,nth,V.look,u1,u2,v1,v2,v3,v4,v5,v6,v7,List.length,u3,u4,Nat.reduceSub,Nat.reduceAdd,List.map]
        all_goals(simp[bj,eP,cH,bk,bA,bn];done)
       ·refine qs ?_ (hg:=wn bn);refine qs ?_ (hg:=wn bn);refine aa.dA (aD rfl rfl rfl bA) rfl bn (ah rfl _) ?_;refine qu bA ?_;refine qm ?_;refine aa.nil (bf ?_);dsimp only[aR,List.foldl,nth,u2,u1];dsimp only[Fr.aj,Fr.put,Fr.clean,Fr.ev,Fr.get,nth,V.look,u1,u2,v1,v2,v3,v4,v5,v6,v7,List.length,u3,u4,Nat.reduceSub,Nat.reduceAdd,List.map]
        all_goals(simp[bj,eP,cH,bk,bA,bn];done)
     ·refine qs ?_ (hg:=wn bk);refine qs ?_ (hg:=wn bk);refine qu bk ?_;refine qg ?_;refine qm ?_;refine qm ?_;refine qg ?_;refine qm ?_;refine aa.two 28 rfl (fun bn=>?_) (fun bn=>?_)
      ·refine qm ?_ (hg:=wi bn);refine qg ?_ (hg:=wi bn);refine qt bn ?_;refine qg ?_;refine qm ?_;refine aa.nil (bf ?_);dsimp only[aR,List.foldl,nth,u2,u1];dsimp only[Fr.aj,Fr.put,Fr.clean,Fr.ev,Fr.get,nth,V.look,u1,u2,v1,v2,v3,v4,v5,v6,v7,List.length,u3,u4,Nat.reduceSub,Nat.reduceAdd,List.map]
       all_goals(simp[bj,eP,cH,bk,bn];done)
      ·refine qs ?_ (hg:=wn bn);refine qs ?_ (hg:=wn bn);refine qu bn ?_;refine qg ?_;refine qm ?_;refine aa.nil (bf ?_);dsimp only[aR,List.foldl,nth,u2,u1];dsimp only[Fr.aj,Fr.put,Fr.clean,Fr.ev,Fr.get,nth,V.look,u1,u2,v1,v2,v3,v4,v5,v6,v7,List.length,u3,u4,Nat.reduceSub,Nat.reduceAdd,List.map]
       all_goals(simp[bj,eP,cH,bk,bn];done)
  ·refine qs ?_ (hg:=wn bj);refine qs ?_ (hg:=wn bj);refine qu bj ?_;refine qm ?_;refine qm ?_;refine qg ?_;refine qm ?_;refine aa.two 12 rfl (fun cH=>?_) (fun cH=>?_)
   ·refine qm ?_ (hg:=wi cH);refine qg ?_ (hg:=wi cH);refine qt cH ?_;refine qg ?_;refine qm ?_;refine aa.two 17 rfl (fun dS=>?_) (fun dS=>?_)
    ·refine qs ?_ (hg:=wn dS);refine qs ?_ (hg:=wn dS);refine qs ?_ (hg:=wn dS);refine qs ?_;refine qs ?_;refine qs ?_ (hg:=wn dS);refine qt dS ?_;refine qm ?_;refine qs ?_;refine qs ?_;refine qs ?_;refine qs ?_;refine qs ?_;refine qs ?_;refine qg ?_;refine qm ?_;refine aa.nil (bf ?_);dsimp only[aR,List.foldl,nth,u2,u1];dsimp only[Fr.aj,Fr.put,Fr.clean,Fr.ev,Fr.get,nth,V.look,u1,u2,v1,v2,v3,v4,v5,v6,v7,List.length,u3,u4,Nat.reduceSub,Nat.reduceAdd,List.map]
     all_goals(simp[bj,cH,dS];done)
    ·refine qm ?_ (hg:=wi dS);refine qg ?_ (hg:=wi dS);refine qm ?_ (hg:=wi dS);refine aa.two 20 rfl (fun bk=>?_) (fun bk=>?_)
     ·refine qm ?_ (hg:=wi bk);refine qg ?_ (hg:=wi bk);refine aa.eJ (aD rfl rfl rfl dS) rfl bk (ah rfl _) ?_;refine qu dS ?_;refine qm ?_;refine aa.two 25 rfl (fun bA=>?_) (fun bA=>?_)
      ·refine qs ?_ (hg:=wn bA);refine qs ?_ (hg:=wn bA);refine qs ?_ (hg:=wn bA);refine qs ?_;refine qs ?_;refine qs ?_ (hg:=wn bA);refine qt bA ?_;refine qm ?_;refine aa.nil (bf ?_);dsimp only[aR,List.foldl,nth,u2,u1];dsimp only[Fr.aj,Fr.put,Fr.clean,Fr.ev,Fr.get,nth,V.look,u1,u2,v1,v2,v3,v4,v5,v6,v7,List.length,u3,u4,Nat.reduceSub,Nat.reduceAdd,List.map]
       all_goals(simp[bj,cH,dS,bk,bA];done)
      ·refine qm ?_ (hg:=wi bA);refine qg ?_ (hg:=wi bA);refine qm ?_ (hg:=wi bA);refine aa.two 28 rfl (fun bn=>?_) (fun bn=>?_)
       ·refine qm ?_ (hg:=wi bn);refine qg ?_ (hg:=wi bn);refine aa.eJ (aD rfl rfl rfl bA) rfl bn (ah rfl _) ?_;refine qu bA ?_;refine qm ?_;refine aa.nil (bf ?_);dsimp only[aR,List.foldl,nth,u2,u1];dsimp only[Fr.aj,Fr.put,Fr.clean,Fr.ev,Fr.get,nth,V.look,u1,u2,v1,v2,v3,v4,v5,v6,v7,List.length,u3,u4,Nat.reduceSub,Nat.reduceAdd,List.map]
        all_goals(simp[bj,cH,dS,bk,bA,bn];done)
       ·refine qs ?_ (hg:=wn bn);refine qs ?_ (hg:=wn bn);refine aa.dA (aD rfl rfl rfl bA) rfl bn (ah rfl _) ?_;refine qu bA ?_;refine qm ?_;refine aa.nil (bf ?_);dsimp only[aR,List.foldl,nth,u2,u1];dsimp only[Fr.aj,Fr.put,Fr.clean,Fr.ev,Fr.get,nth,V.look,u1,u2,v1,v2,v3,v4,v5,v6,v7,List.length,u3,u4,Nat.reduceSub,Nat.reduceAdd,List.map]
        all_goals(simp[bj,cH,dS,bk,bA,bn];done)
     ·refine qs ?_ (hg:=wn bk);refine qs ?_ (hg:=wn bk);refine aa.dA (aD rfl rfl rfl dS) rfl bk (ah rfl _) ?_;refine qu dS ?_;refine qm ?_;refine qm ?_;refine qg ?_;refine qm ?_;refine aa.two 28 rfl (fun bn=>?_) (fun bn=>?_)
      ·refine qm ?_ (hg:=wi bn);refine qg ?_ (hg:=wi bn);refine qt bn ?_;refine qg ?_;refine qm ?_;refine aa.nil (bf ?_);dsimp only[aR,List.foldl,nth,u2,u1];dsimp only[Fr.aj,Fr.put,Fr.clean,Fr.ev,Fr.get,nth,V.look,u1,u2,v1,v2,v3,v4,v5,v6,v7,List.length,u3,u4,Nat.reduceSub,Nat.reduceAdd,List.map]
       all_goals(simp[bj,cH,dS,bk,bn];done)
      ·refine qs ?_ (hg:=wn bn);refine qs ?_ (hg:=wn bn);refine qu bn ?_;refine qg ?_;refine qm ?_;refine aa.nil (bf ?_);dsimp only[aR,List.foldl,nth,u2,u1];dsimp only[Fr.aj,Fr.put,Fr.clean,Fr.ev,Fr.get,nth,V.look,u1,u2,v1,v2,v3,v4,v5,v6,v7,List.length,u3,u4,Nat.reduceSub,Nat.reduceAdd,List.map]
       all_goals(simp[bj,cH,dS,bk,bn];done)
   ·refine qs ?_ (hg:=wn cH);refine qs ?_ (hg:=wn cH);refine qu cH ?_;refine qg ?_;refine qm ?_;refine qm ?_;refine qg ?_;refine qm ?_;refine aa.two 20 rfl (fun bk=>?_) (fun bk=>?_)
    ·refine qm ?_ (hg:=wi bk);refine qg ?_ (hg:=wi bk);refine qt bk ?_;refine qg ?_;refine qm ?_;refine aa.two 25 rfl (fun bA=>?_) (fun bA=>?_)
     ·refine qs ?_ (hg:=wn bA);refine qs ?_ (hg:=wn bA);refine qs ?_ (hg:=wn bA);refine qs ?_;refine qs ?_;refine qs ?_ (hg:=wn bA);refine qt bA ?_;refine qm ?_;refine aa.nil (bf ?_);dsimp only[aR,List.foldl,nth,u2,u1];dsimp only[Fr.aj,Fr.put,Fr.clean,Fr.ev,Fr.get,nth,V.look,u1,u2,v1,v2,v3,v4,v5,v6,v7,List.length,u3,u4,Nat.reduceSub,Nat.reduceAdd,List.map]
      all_goals(simp[bj,cH,bk,bA];done)
     ·refine qm ?_ (hg:=wi bA);refine qg ?_ (hg:=wi bA);refine qm ?_ (hg:=wi bA);refine aa.two 28 rfl (fun bn=>?_) (fun bn=>?_)
      ·refine qm ?_ (hg:=wi bn);refine qg ?_ (hg:=wi bn);refine aa.eJ (aD rfl rfl rfl bA) rfl bn (ah rfl _) ?_;refine qu bA ?_;refine qm ?_;refine aa.nil (bf ?_);dsimp only[aR,List.foldl,nth,u2,u1];dsimp only[Fr.aj,Fr.put,Fr.clean,Fr.ev,Fr.get,nth,V.look,u1,u2,v1,v2,v3,v4,v5,v6,v7,List.length,u3,u4,Nat.reduceSub,Nat.reduceAdd,List.map]
       all_goals(simp[bj,cH,bk,bA,bn];done)
      ·refine qs ?_ (hg:=wn bn);refine qs ?_ (hg:=wn bn);refine aa.dA (aD rfl rfl rfl bA) rfl bn (ah rfl _) ?_;refine qu bA ?_;refine qm ?_;refine aa.nil (bf ?_);dsimp only[aR,List.foldl,nth,u2,u1];dsimp only[Fr.aj,Fr.put,Fr.clean,Fr.ev,Fr.get,nth,V.look,u1,u2,v1,v2,v3,v4,v5,v6,v7,List.length,u3,u4,Nat.reduceSub,Nat.reduceAdd,List.map]
       all_goals(simp[bj,cH,bk,bA,bn];done)
    ·refine qs ?_ (hg:=wn bk);refine qs ?_ (hg:=wn bk);refine qu bk ?_;refine qg ?_;refine qm ?_;refine qm ?_;refine qg ?_;refine qm ?_;refine aa.two 28 rfl (fun bn=>?_) (fun bn=>?_)
     ·refine qm ?_ (hg:=wi bn);refine qg ?_ (hg:=wi bn);refine qt bn ?_;refine qg ?_;refine qm ?_;refine aa.nil (bf ?_);dsimp only[aR,List.foldl,nth,u2,u1];dsimp only[Fr.aj,Fr.put,Fr.clean,Fr.ev,Fr.get,nth,V.look,u1,u2,v1,v2,v3,v4,v5,v6,v7,List.length,u3,u4,Nat.reduceSub,Nat.reduceAdd,List.map]
      all_goals(simp[bj,cH,bk,bn];done)
     ·refine qs ?_ (hg:=wn bn);refine qs ?_ (hg:=wn bn);refine qu bn ?_;refine qg ?_;refine qm ?_;refine aa.nil (bf ?_);dsimp only[aR,List.foldl,nth,u2,u1];dsimp only[Fr.aj,Fr.put,Fr.clean,Fr.ev,Fr.get,nth,V.look,u1,u2,v1,v2,v3,v4,v5,v6,v7,List.length,u3,u4,Nat.reduceSub,Nat.reduceAdd,List.map]
      all_goals(simp[bj,cH,bk,bn];done)
 dsimp only[aR,List.foldl,nth,u2,u1];refine ab.ret ⟨rx,_,rfl,rl bT hH (rfl)⟩
theorem KV {s0:St} (a b:List UInt8):∃d,Ev pv 173 [.str a,.str b] s0 d s0∧∃v:Bool,d=.bool v:=by
 refine Ev.Dc rfl T3 rfl rfl rfl ?_;dsimp only[u3,u4,List.length,Nat.reduceSub,Nat.reduceAdd,w1,w2];obtain⟨bT,hF,hH⟩:=ri s0;generalize ag .ro s0=S at*;refine qq<|qj fun K hK=>qm ?_;refine qe hK<|qq<|ab.mX 4 (.bool (decide ((a.length:Int)<b.length)||(((a.length:Int)==b.length) &&Op.bytesLess a b))) [] ?_ (fun ff tmp=>?_)
 ·refine qm ?_;refine aa.xI rfl rfl rfl (ah rfl _) ?_;refine qm ?_;refine aa.xI rfl rfl rfl (ah rfl _) ?_;refine qg ?_;refine qm ?_;refine aa.two 10 rfl (fun bd=>?_) (fun bd=>?_)
  ·refine qs ?_ (hg:=wn bd);refine qs ?_ (hg:=wn bd);refine qs ?_ (hg:=wn bd);refine qs ?_ (hg:=wn bd);refine qs ?_ (hg:=wn bd);refine qs ?_ (hg:=wn bd);refine qs ?_;refine qs ?_;refine qs ?_;refine qs ?_ (hg:=wn bd);refine qt bd ?_;refine qm ?_;refine aa.nil (bf ?_);dsimp only[aR,List.foldl,nth,u2,u1];dsimp only[Fr.aj,Fr.put,Fr.clean,Fr.ev,Fr.get,nth,V.look,u1,u2,v1,v2,v3,v4,v5,v6,v7,List.length,u3,u4,Nat.reduceSub,Nat.reduceAdd,List.map]
   all_goals(simp_all;done)
  ·refine qm ?_ (hg:=wi bd);refine aa.xI (aD rfl rfl rfl bd) rfl rfl (ah rfl _) ?_;refine qm ?_ (hg:=wi bd);refine aa.xI (aD rfl rfl rfl bd) rfl rfl (ah rfl _) ?_;refine qg ?_ (hg:=wi bd);refine qm ?_ (hg:=wi bd);refine aa.two 16 rfl (fun bo=>?_) (fun bo=>?_)
   ·refine qm ?_ (hg:=wi bo);refine qm ?_ (hg:=wi bo);refine qg ?_ (hg:=wi bo);refine aa.eJ (aD rfl rfl rfl bd) rfl bo (ah rfl _) ?_;refine qu bd ?_;refine qm ?_;refine aa.nil (bf ?_);dsimp only[aR,List.foldl,nth,u2,u1];dsimp only[Fr.aj,Fr.put,Fr.clean,Fr.ev,Fr.get,nth,V.look,u1,u2,v1,v2,v3,v4,v5,v6,v7,List.length,u3,u4,Nat.reduceSub,Nat.reduceAdd,List.map]
    all_goals(simp_all;done)
   ·refine qs ?_ (hg:=wn bo);refine qs ?_ (hg:=wn bo);refine qs ?_ (hg:=wn bo);refine aa.dA (aD rfl rfl rfl bd) rfl bo (ah rfl _) ?_;refine qu bd ?_;refine qm ?_;refine aa.nil (bf ?_);dsimp only[aR,List.foldl,nth,u2,u1];dsimp only[Fr.aj,Fr.put,Fr.clean,Fr.ev,Fr.get,nth,V.look,u1,u2,v1,v2,v3,v4,v5,v6,v7,List.length,u3,u4,Nat.reduceSub,Nat.reduceAdd,List.map]
    all_goals(simp_all;done)
 dsimp only[aR,List.foldl,nth,u2,u1];refine ab.ret ⟨rx,_,_,rfl,rl bT hH (rfl),?_⟩;exact⟨_,rfl⟩
theorem mw {s0:St} (b:List UInt8) (hb:b.length≤1048576):∃d,Ev pv 174 [.str b] s0 d s0∧∃(n:Int) (v:Bool),d=.tup [.int .i64 n,.bool v]:=by
 refine Ev.Dc rfl T2 rfl rfl rfl ?_;dsimp only[u3,u4,List.length,Nat.reduceSub,Nat.reduceAdd,w1,w2];obtain⟨bT,hF,hH⟩:=ri s0;generalize ag .ro s0=S at*;refine qq<|qj fun K hK=>qm ?_;refine qm ?_;refine qe hK<|qq<|qq<|qj fun K hK=>qm ?_;refine aa.xI rfl rfl rfl (by dsimp only[Fr.put,u1,u2]<;>rfl) ?_;refine qg ?_;refine qe hK ?_;refine ab.cond (by rfl) (fun h0=>?_) (fun h0=>?_)<;>try simp only[decide_eq_true_eq,decide_eq_false_iff_not] at h0
 ·refine qq<|qj fun K hK=>qm ?_;refine qm ?_;refine qe hK<|ab.ret ⟨rx,_,_,rfl,rl bT hH (rfl),?_⟩;exact⟨_,_,rfl⟩
 ·refine ab.skip<|qq<|qj fun K hK=>qm ?_;refine qe hK<|qq<|qq<|qj fun K hK=>qm ?_;refine aa.xI rfl rfl rfl (by dsimp only[Fr.put,u1,u2]<;>rfl) ?_;refine qm ?_;refine qe hK<|ab.block<|ab.loop (fun mm fr st=>∃(i:Nat) (n:Int),fr.clean=⟨12,[.str b,eX fr 1,eX fr 2,eX fr 3,.int .i64 n,eX fr 5,eX fr 6,eX fr 7,eX fr 8,eX fr 9,.int .i64 (b.length:Nat),.int .i64 (i:Nat)],[]⟩∧Has s0.bs.length S st []∧(i+mm=b.length)) (b.length) ?_ ?_
  ·exact⟨0,0,rfl,hH,by omega⟩
  rintro mm fr st ⟨i,n,hfr,hH,hi⟩;rw[hfr];clear hfr;generalize eX fr=ee;clear fr;refine qq<|qj fun K hK=>qg ?_;refine qe hK<|qq ?_;refine ab.cond (by rfl) (fun h1=>?_) (fun h1=>?_)<;>try simp only[decide_eq_true_eq,decide_eq_false_iff_not] at h1
  ·refine ab.skip ?_
   obtain⟨c,hc⟩:∃c,b[i]?=some c:=⟨b[i]'(by omega),List.getElem?_eq_getElem _⟩
   refine qq<|ab.block<|qq<|qj fun K hK=>qm ?_;refine qm ?_;refine qe hK<|qj fun K hK=>qm ?_;refine aa.yp (z:=bM .i64 (10*n)) rfl (ev rfl) (ev rfl) rfl (ah rfl _) ?_;refine qm ?_;refine qm ?_;refine aa.Vn rfl (ev rfl) (ev rfl) rfl (by assumption) (ah rfl _) ?_;refine aa.go (d:=.int .u8 (bM .u8 ((c.toNat:Nat)-48))) (st1:=_) rfl rfl rfl (ah rfl _) ?_;refine qg ?_;refine aa.lq (z:=bM .i64 (bM .i64 (10*n)+bM .i64 (bM .u8 ((c.toNat:Nat)-48)))) rfl (ev rfl) (ev rfl) rfl (ah rfl _) ?_;refine qm ?_;refine qe hK<|qj fun K hK=>qA ?_;refine qm ?_;refine qe hK ?_;exact⟨mm-1,by omega,⟨i+1,_,rfl,hH,by omega⟩⟩
  ·refine ab.exit<|qq<|qj fun K hK=>qm ?_;refine qm ?_;refine qg ?_;refine qm ?_;refine qm ?_;refine qe hK<|ab.ret ⟨rx,_,_,rfl,rl bT hH (rfl),?_⟩;exact⟨_,_,rfl⟩
theorem oB:∀gs:List (Nat×Nat),jZ ((gs.map aQ).map (ki 2))=some (gs.map fun g=>((g.1:Nat):Int))
 |[]=>rfl
 |g::gs=>by
  have ih:=oB gs;simp only[List.map_cons];show(match jZ ((gs.map aQ).map (ki 2)) with|some rs=>some (((g.1:Nat):Int)::rs)|none=>none)=_;rw[ih]
theorem w9:∀(rs:List Int) (acc:List UInt8),(digS rs acc).2≤rs.length∧(digS rs acc).1.length≤acc.length+(digS rs acc).2
 |[],acc=>by simp[digS]
 |r::rs,acc=>by
  unfold digS
  split
  ·have h:=w9 rs (if 48<r∨acc≠[] then acc++[UInt8.ofNat r.toNat] else acc);simp only[List.length_cons]
   have hl:(if 48<r∨acc≠[] then acc++[UInt8.ofNat r.toNat] else acc).length≤acc.length+1:=by
    split<;>simp
   omega
  ·simp
structure lu (gs:List (Nat×Nat)) (b_:List Int):Prop where
 gl:gs.length≤120
 pl:b_.length=gs.length
theorem tj {N k:Nat} {S s0:St} {H:List bt} {gs:List (Nat×Nat)} {bS:D} {s:fk} (s9:gs.length≤120) (hi:s.i≤gs.length) (hne:gs≠[]) (hH:Has N S s0 (.box k (.mem 0 false (a8 gs bS s))::H)):
  ∃d ai,Ev pv 172 [.ptr k 0 0] s0 d ai∧∃(t:List UInt8) (v:Bool) (m:Nat),d=.tup [.str t,.bool v]∧t.length≤120∧s.i+m≤gs.length∧Has N S ai (.box k (.mem 0 false (a8 gs bS {s with i:=s.i+m}))::H):=by
 have hb:=hH.at aB;have hw:=jQ (cs:=[.int .i64 0]) hH (hH.ge aB).1 (.inr rfl);have hl:=w9 ((gs.map fun g=>((g.1:Nat):Int)).drop s.i) [];obtain⟨h1,h2⟩:=hl;simp only[List.length_drop,List.length_map,List.length_nil] at h1 h2;refine⟨_,_,Ev.j6 rfl ?_,(digS ((gs.map fun g=>((g.1:Nat):Int)).drop s.i) []).1,decide (0<(digS ((gs.map fun g=>((g.1:Nat):Int)).drop s.i) []).2),(digS ((gs.map fun g=>((g.1:Nat):Int)).drop s.i) []).2,rfl,by omega,by omega,hH.tG (az:=0) aB⟩
 have hd:decide ((gs.map fun g=>((g.1:Nat):Int))≠[]∧(0:Int)≤(s.i:Nat)∧((s.i:Nat):Int).toNat≤(gs.map fun g=>((g.1:Nat):Int)).length∧(gs.map fun g=>((g.1:Nat):Int)).length<1099511627776)=true:=by
  rw[decide_eq_true];refine⟨by simpa using hne,by omega,by simp;omega,by simp;omega⟩
 show BJ [.ptr k 0 0] s0=_;simp only[BJ,St.mem_of hb];show(match jZ ((gs.map aQ).map (ki 2)) with|some rs=>LA s0 k 0 0 rs (s.i:Nat)|none=>none)=_;rw[oB];simp only[LA,hd];have hwr:=kI (cs:=[.int .i64 ((s.i+(digS ((gs.map fun g=>((g.1:Nat):Int)).drop s.i) []).2:Nat))]) (off:=2) hb (by show 2+1≤7;omega) hw;simp only[Int.toNat_natCast,Nat.zero_add];rw[hwr]
 rfl
def EC (gs:List (Nat×Nat)) (s s':fk) (d1:D) (b:Bool):Prop:=
 s'.o=s.o∧s'.g=s.g∧s.i≤s'.i∧s'.i≤gs.length∧(d1=.nul∨∃a,d1=bJ a∧a.length≤8)∧(s'.e≠0∨s'.e=0∧s.i<s'.i∧∃a,d1=bJ a∧a.length≤8∧a≠[])
theorem dt {b_:List Int} {s:fk} {i:Nat} {e:Int} (he:s.e=0) (h:e≠0):(jg b_ s i e).e≠0∧(jg b_ s i e).i=s.i∧(jg b_ s i e).o=s.o∧(jg b_ s i e).g=s.g:=by
 unfold jg;rw[if_pos he];exact⟨h,rfl,rfl,rfl⟩
theorem zD {N k:Nat} {S s0:St} {H:List bt} {gs:List (Nat×Nat)} {bS:D} {b_:List Int} {s:fk} (bc:lu gs b_) (he:s.e=0) (hi:s.i<gs.length) (hH:Has N S s0 (.box k (.mem 0 false (a8 gs bS s))::.aP bS 1 (b_.map ay)::H)):
  ∃d ai,Ev pv 169 [.ptr k 0 0] s0 d ai∧∃(d1:D) (b:Bool) (s':fk),d=.tup [d1,.bool b]∧EC gs s s' d1 b∧Has N S ai (.box k (.mem 0 false (a8 gs bS s'))::.aP bS 1 (b_.map ay)::H):=by
 have s9:=bc.gl;have iq:=bc.pl;refine Ev.il rfl T6 rfl rfl rfl ?_;dsimp only[u3,u4,List.length,Nat.reduceSub,Nat.reduceAdd,w1,w2];have cF:=hH;have hH:=hH.cI;have ct:(ag .rw s0).bs=s0.bs:=rfl;generalize ag .rw s0=S2 at*;have Ad:Arg N S2 2 (dJ gs) (gs.map aQ):=Arg.pure (fun st=>dF st gs);refine qq<|qj fun K hK=>qm ?_;refine qm ?_;refine qe hK<|qq<|qj fun K hK=>qm ?_;refine qg ?_;refine qp (o:=2) ?_;refine ql hH aB ?_;refine qm ?_;refine qe hK<|qq<|qj fun K hK=>qm ?_;refine qg ?_;refine qp (o:=2) ?_;refine ql hH aB ?_;refine qA ?_;refine qg ?_;refine qp (o:=2) ?_;refine qT hH aB fun st hH=>?_;dsimp only[u2,u1,u3,u4,setMany,u5,u6,D.cells,Nat.reduceAdd,a8,aQ,ay,ax] at hH;refine qe hK<|qq<|qq<|qj fun K hK=>qm ?_;refine qg ?_;refine qp (o:=2) ?_;refine ql hH aB ?_;refine qm ?_;refine qg ?_;refine qp (o:=0) ?_;refine ql hH aB ?_;refine qn ?_;simp only[List.length_map];refine qg ?_;refine qe hK ?_;refine ab.cond (by rfl) (fun h0=>?_) (fun h0=>?_)<;>try simp only[decide_eq_true_eq,decide_eq_false_iff_not] at h0
 ·refine qq<|qj fun K hK=>qm ?_;refine qm ?_;obtain⟨_,st,aK,rfl,hH⟩:=dc (s:={s with i:=s.i+1}) s.i 4 (by omega) hH;refine qv aK ?_;refine qe hK<|qq<|qj fun K hK=>qm ?_;refine qm ?_;refine qe hK ?_;obtain⟨h1,h2,h3,h4⟩:=dt (b_:=b_) (s:={s with i:=s.i+1}) (i:=s.i) (e:=4) he (by decide);refine ab.ret ⟨rx,_,_,_,rfl,ak (rfl),?_⟩;exact⟨_,_,_,rfl,⟨h3,h4,by rw[h2];simp,by rw[h2];exact hi,.inl rfl,.inl h1⟩,cF.aA ct hH⟩
 ·obtain⟨g,hg⟩:∃g,gs[s.i+1]?=some g:=⟨gs[s.i+1]'(by omega),List.getElem?_eq_getElem _⟩
  have gJ:(gs.map aQ)[s.i+1]?=some (aQ g):=by rw[List.getElem?_map,hg];rfl
  have hlt:=bH hg;refine ab.skip<|qq<|qq<|qj fun K hK=>qm ?_;refine qm ?_;refine qg ?_;refine qp (o:=2) ?_;refine ql hH aB ?_;obtain⟨_,st,aK,rfl,hH⟩:=zg (s:={s with i:=s.i+1}) (s.i+1) hlt hH;refine qv aK ?_;refine qe hK ?_;dsimp only[a8] at hH;refine qc (fun hb=>?_) (fun hb=>?_)<;>try simp only[cs] at hb
  ·refine qq<|qj fun K hK=>qm ?_;refine qm ?_;refine qg ?_;refine qp (o:=2) ?_;refine ql hH aB ?_;obtain⟨_,st,aK,rfl,hH⟩:=dc (s:={s with i:=s.i+1}) (s.i+1) 4 (by omega) hH;refine qv aK ?_;refine qe hK<|qq<|qj fun K hK=>qm ?_;refine qm ?_;refine qe hK ?_;obtain⟨h1,h2,h3,h4⟩:=dt (b_:=b_) (s:={s with i:=s.i+1}) (i:=s.i+1) (e:=4) he (by decide);refine ab.ret ⟨rx,_,_,_,rfl,ak (rfl),?_⟩;exact⟨_,_,_,rfl,⟨h3,h4,by rw[h2];simp,by rw[h2];exact hi,.inl rfl,.inl h1⟩,cF.aA ct hH⟩
  ·refine ab.skip<|qq<|qj fun K hK=>qm ?_;refine qg ?_;refine qp (o:=0) ?_;refine ql hH aB ?_;refine qm ?_;refine qg ?_;refine qp (o:=2) ?_;refine ql hH aB ?_;refine qr fun Y2 SX=>?_;refine qf (fo:=0) fun p51 Wr=>?_;refine qR ?_;refine qm ?_;refine qe hK<|qq<|qj fun K hK=>qm ?_;refine qg ?_;refine qp (o:=2) ?_;refine ql hH aB ?_;refine qA ?_;refine qg ?_;refine qp (o:=2) ?_;refine qT hH aB fun st hH=>?_;dsimp only[u2,u1,u3,u4,setMany,u5,u6,D.cells,Nat.reduceAdd,a8,aQ,ay,ax] at hH;refine qe hK<|qq<|qq<|qj fun K hK=>qm ?_;refine qe hK ?_
   have gy:∀(a:List Rg) (b:Bool),a.length≤8→a≠[]→EC gs s {s with i:=s.i+1+1} (bJ a) b:=fun a b h1 h2=>⟨rfl,rfl,by show s.i≤s.i+1+1;omega,by show s.i+1+1≤_;omega,.inr ⟨a,rfl,h1⟩,.inr ⟨he,by show s.i<s.i+1+1;omega,a,rfl,h1,h2⟩⟩
   have ke:∀(r:Int),0≤r→r<55296→(kU [(r,r)]).length≤8∧kU [(r,r)]≠[]:=by
    intro r h1 h2;obtain⟨_,h3,h4⟩:=mD (s0:=s0) (x:=bJ [(r,r)]) (l:=[(r,r)]) (fR _ _) (by simp);exact⟨by simp at h3;omega,wh h1 h2 h4⟩
   refine ab.block<|qq<|qj fun K hK=>qg ?_;refine qm ?_;refine qe hK ?_;refine ab.cond (by rfl) (fun q1=>?_) (fun q1=>?_)<;>try simp only[beq_iff_eq,beq_eq_false_iff_ne,ne_eq] at q1
   ·refine qq<|qj fun K hK=>qv (jz 10) ?_;refine qm ?_;refine qm ?_;refine qe hK<|ab.ret ⟨rx,_,_,_,rfl,ak (rfl),?_⟩;exact⟨_,_,_,rfl,gy _ _ (ke 10 (by decide) (by decide)).1 (ke 10 (by decide) (by decide)).2,cF.aA ct hH⟩
   ·refine qq<|qj fun K hK=>qg ?_;refine qm ?_;refine qe hK ?_;refine ab.cond (by rfl) (fun q2=>?_) (fun q2=>?_)<;>try simp only[beq_iff_eq,beq_eq_false_iff_ne,ne_eq] at q2
    ·refine qq<|qj fun K hK=>qv (jz 9) ?_;refine qm ?_;refine qm ?_;refine qe hK<|ab.ret ⟨rx,_,_,_,rfl,ak (rfl),?_⟩;exact⟨_,_,_,rfl,gy _ _ (ke 9 (by decide) (by decide)).1 (ke 9 (by decide) (by decide)).2,cF.aA ct hH⟩
    ·refine qq<|qj fun K hK=>qg ?_;refine qm ?_;refine qe hK ?_;refine ab.cond (by rfl) (fun q3=>?_) (fun q3=>?_)<;>try simp only[beq_iff_eq,beq_eq_false_iff_ne,ne_eq] at q3
     ·refine qq<|qj fun K hK=>qv (jz 13) ?_;refine qm ?_;refine qm ?_;refine qe hK<|ab.ret ⟨rx,_,_,_,rfl,ak (rfl),?_⟩;exact⟨_,_,_,rfl,gy _ _ (ke 13 (by decide) (by decide)).1 (ke 13 (by decide) (by decide)).2,cF.aA ct hH⟩
     ·refine qq<|qj fun K hK=>qg ?_;refine qm ?_;refine qe hK ?_;refine ab.cond (by rfl) (fun q4=>?_) (fun q4=>?_)<;>try simp only[beq_iff_eq,beq_eq_false_iff_ne,ne_eq] at q4
      ·refine qq<|qj fun K hK=>?_;refine aa.gd (qs:=[(0,_),(1,_)]) rfl rfl rfl rfl ⟨rfl,(ev rfl),(by rfl),rfl,(ev rfl),(by rfl),trivial⟩ (by intro q hq;simp only[List.mem_cons,List.not_mem_nil,or_false] at hq;rcases hq with rfl|rfl<;>exact⟨rfl,by exact Nat.le_of_ble_eq_true rfl⟩) (by show List.foldl _ [_,_] _=_;dsimp only[List.foldl_cons,List.foldl_nil,u2,u1]<;>rfl) (ah rfl _) ?_;refine qh (s:=2) (vs:=[_]) hH fun k73 st aaP hH=>?_;obtain⟨aK,hl,Ma⟩:=mD (l:=[(48,57)]) (hH.rows aB) (by simp);refine qv aK ?_;refine qm ?_;refine qm ?_;refine qe hK<|ab.ret ⟨rx,_,_,_,rfl,ak (rfl),?_⟩;exact⟨_,_,_,rfl,gy _ _ (by simp at hl;omega) (ub (r:=48) (by decide) (by decide) ⟨_,List.mem_cons_self ..,by decide,by decide⟩ Ma),cF.aA ct (hH.drop 1)⟩
      ·refine qq<|qj fun K hK=>qg ?_;refine qm ?_;refine qe hK ?_;refine ab.cond (by rfl) (fun q5=>?_) (fun q5=>?_)<;>try simp only[beq_iff_eq,beq_eq_false_iff_ne,ne_eq] at q5
       ·refine qq<|qj fun K hK=>?_;refine aa.gd (qs:=[(0,_),(1,_)]) rfl rfl rfl rfl ⟨rfl,(ev rfl),(by rfl),rfl,(ev rfl),(by rfl),trivial⟩ (by intro q hq;simp only[List.mem_cons,List.not_mem_nil,or_false] at hq;rcases hq with rfl|rfl<;>exact⟨rfl,by exact Nat.le_of_ble_eq_true rfl⟩) (by show List.foldl _ [_,_] _=_;dsimp only[List.foldl_cons,List.foldl_nil,u2,u1]<;>rfl) (ah rfl _) ?_;refine aa.gd (qs:=[(0,_),(1,_)]) rfl rfl rfl rfl ⟨rfl,(ev rfl),(by rfl),rfl,(ev rfl),(by rfl),trivial⟩ (by intro q hq;simp only[List.mem_cons,List.not_mem_nil,or_false] at hq;rcases hq with rfl|rfl<;>exact⟨rfl,by exact Nat.le_of_ble_eq_true rfl⟩) (by show List.foldl _ [_,_] _=_;dsimp only[List.foldl_cons,List.foldl_nil,u2,u1]<;>rfl) (ah rfl _) ?_;refine aa.gd (qs:=[(0,_),(1,_)]) rfl rfl rfl rfl ⟨rfl,(ev rfl),(by rfl),rfl,(ev rfl),(by rfl),trivial⟩ (by intro q hq;simp only[List.mem_cons,List.not_mem_nil,or_false] at hq;rcases hq with rfl|rfl<;>exact⟨rfl,by exact Nat.le_of_ble_eq_true rfl⟩) (by show List.foldl _ [_,_] _=_;dsimp only[List.foldl_cons,List.foldl_nil,u2,u1]<;>rfl) (ah rfl _) ?_;refine qh (s:=2) (vs:=[_,_,_]) hH fun k80 st aaN hH=>?_;obtain⟨aK,hl,Ma⟩:=mD (l:=[(9,10),(13,13),(32,32)]) (hH.rows aB) (by simp);refine qv aK ?_;refine qm ?_;refine qm ?_;refine qe hK<|ab.ret ⟨rx,_,_,_,rfl,ak (rfl),?_⟩;exact⟨_,_,_,rfl,gy _ _ (by simp at hl;omega) (ub (r:=9) (by decide) (by decide) ⟨_,List.mem_cons_self ..,by decide,by decide⟩ Ma),cF.aA ct (hH.drop 1)⟩
       ·refine qq<|qj fun K hK=>qg ?_;refine qm ?_;refine qe hK ?_;refine ab.cond (by rfl) (fun q6=>?_) (fun q6=>?_)<;>try simp only[beq_iff_eq,beq_eq_false_iff_ne,ne_eq] at q6
        ·refine qq<|qj fun K hK=>?_;refine aa.gd (qs:=[(0,_),(1,_)]) rfl rfl rfl rfl ⟨rfl,(ev rfl),(by rfl),rfl,(ev rfl),(by rfl),trivial⟩ (by intro q hq;simp only[List.mem_cons,List.not_mem_nil,or_false] at hq;rcases hq with rfl|rfl<;>exact⟨rfl,by exact Nat.le_of_ble_eq_true rfl⟩) (by show List.foldl _ [_,_] _=_;dsimp only[List.foldl_cons,List.foldl_nil,u2,u1]<;>rfl) (ah rfl _) ?_;refine aa.gd (qs:=[(0,_),(1,_)]) rfl rfl rfl rfl ⟨rfl,(ev rfl),(by rfl),rfl,(ev rfl),(by rfl),trivial⟩ (by intro q hq;simp only[List.mem_cons,List.not_mem_nil,or_false] at hq;rcases hq with rfl|rfl<;>exact⟨rfl,by exact Nat.le_of_ble_eq_true rfl⟩) (by show List.foldl _ [_,_] _=_;dsimp only[List.foldl_cons,List.foldl_nil,u2,u1]<;>rfl) (ah rfl _) ?_;refine aa.gd (qs:=[(0,_),(1,_)]) rfl rfl rfl rfl ⟨rfl,(ev rfl),(by rfl),rfl,(ev rfl),(by rfl),trivial⟩ (by intro q hq;simp only[List.mem_cons,List.not_mem_nil,or_false] at hq;rcases hq with rfl|rfl<;>exact⟨rfl,by exact Nat.le_of_ble_eq_true rfl⟩) (by show List.foldl _ [_,_] _=_;dsimp only[List.foldl_cons,List.foldl_nil,u2,u1]<;>rfl) (ah rfl _) ?_;refine aa.gd (qs:=[(0,_),(1,_)]) rfl rfl rfl rfl ⟨rfl,(ev rfl),(by rfl),rfl,(ev rfl),(by rfl),trivial⟩ (by intro q hq;simp only[List.mem_cons,List.not_mem_nil,or_false] at hq;rcases hq with rfl|rfl<;>exact⟨rfl,by exact Nat.le_of_ble_eq_true rfl⟩) (by show List.foldl _ [_,_] _=_;dsimp only[List.foldl_cons,List.foldl_nil,u2,u1]<;>rfl) (ah rfl _) ?_;refine qh (s:=2) (vs:=[_,_,_,_]) hH fun k88 st Th hH=>?_;obtain⟨aK,hl,Ma⟩:=mD (l:=[(48,57),(65,90),(95,95),(97,122)]) (hH.rows aB) (by simp);refine qv aK ?_;refine qm ?_;refine qm ?_;refine qe hK<|ab.ret ⟨rx,_,_,_,rfl,ak (rfl),?_⟩;exact⟨_,_,_,rfl,gy _ _ (by simp at hl;omega) (ub (r:=48) (by decide) (by decide) ⟨_,List.mem_cons_self ..,by decide,by decide⟩ Ma),cF.aA ct (hH.drop 1)⟩
        ·refine ab.skip<|qq<|qq<|qj fun K hK=>qm ?_;refine qv (KU _) ?_;refine qg ?_;refine qe hK ?_;refine ab.cond (by rfl) (fun q7=>?_) (fun q7=>?_)<;>try simp only[decide_eq_true_eq,decide_eq_false_iff_not,Bool.not_eq_true',Bool.not_eq_false'] at q7
         ·refine qq<|qj fun K hK=>qm ?_;refine qm ?_;obtain⟨_,st,aK,rfl,hH⟩:=dc (s:={s with i:=s.i+1+1}) s.i 4 (by omega) hH;refine qv aK ?_;refine qe hK<|qq<|qj fun K hK=>qm ?_;refine qm ?_;refine qe hK ?_;obtain⟨h1,h2,h3,h4⟩:=dt (b_:=b_) (s:={s with i:=s.i+1+1}) (i:=s.i) (e:=4) he (by decide);refine ab.ret ⟨rx,_,_,_,rfl,ak (rfl),?_⟩;exact⟨_,_,_,rfl,⟨h3,h4,by rw[h2];show s.i≤s.i+1+1;omega,by rw[h2];show s.i+1+1≤_;omega,.inl rfl,.inl h1⟩,cF.aA ct hH⟩
         ·refine ab.skip<|qq<|qj fun K hK=>qm ?_;refine qv (jz _) ?_;refine qm ?_;refine qm ?_;refine qe hK ?_;have hm:=ke ((g.1:Nat):Int) (by omega) (by omega);refine ab.ret ⟨rx,_,_,_,rfl,ak (rfl),?_⟩;exact⟨_,_,_,rfl,gy _ _ hm.1 hm.2,cF.aA ct hH⟩
def aS (fr:Go.V.Fr) (k:Nat):Go.V.D:=Go.V.nth .bp fr.loc k
def bR (b:Bool):List D:=[.bool b]
theorem rF {l:List Bool} {i:Nat} {q:Bool} (h:l[i]?=some q):(l.map bR)[i]?=some (bR q):=by rw[List.getElem?_map,h];rfl
theorem rE (l:List Bool):∀e∈l.map bR,∀d∈e,cj d=true:=by
 intro e he d hd;obtain⟨x,_,rfl⟩:=List.mem_map.1 he;simp only[bR,List.mem_cons,List.not_mem_nil,or_false] at hd;subst hd;rfl
theorem Er (l:List Bool):∀e∈l.map bR,e.length=1:=by
 intro e he;obtain⟨x,_,rfl⟩:=List.mem_map.1 he;rfl
def zf (l:List Bool):D:=.sl ((l.map bR).map (ki 1))
theorem BQ (l:List Bool):eE (zf l) 1 (l.map bR):=eE.frozen (Er l) (rE l)
theorem n4 (l:List Int):∀e∈l.map ay,∀d∈e,cj d=true:=by
 intro e he d hd;obtain⟨x,_,rfl⟩:=List.mem_map.1 he;simp only[ay,List.mem_cons,List.not_mem_nil,or_false] at hd;subst hd;rfl
theorem K2 (l:List Int):∀e∈l.map ay,e.length=1:=by
 intro e he;obtain⟨x,_,rfl⟩:=List.mem_map.1 he;rfl
def Dl (l:List Int):D:=.sl ((l.map ay).map (ki 1))
theorem wx (l:List Int):eE (Dl l) 1 (l.map ay):=eE.frozen (K2 l) (n4 l)
def cM (pc:Nat) (i:aO):List Int:=
 if i.op=2 then[i.x,i.y] else if i.op=3 then[i.x] else if i.op=7 then[] else[((pc+1:Nat):Int)]
def je (code:List aO):Prop:=∀pc i,code[pc]?=some i→∀v∈cM pc i,0≤v∧v<code.length
theorem vi {n ns pc:Nat} {i:aO} (h:dO n ns pc i=true):∀v∈cM pc i,0≤v∧v<n:=by
 intro v hv
 have ew:∀a b:Int,qU a b=true→0≤a∧a<b:=fun a b h=>by
  unfold qU at h;simp only[Bool.and_eq_true,decide_eq_true_eq] at h;exact⟨h.1,h.2⟩
 unfold dO at h;unfold cM at hv
 split at h
 ·rename_i h1;rw[if_neg (by omega),if_neg (by omega),if_neg (by omega)] at hv;simp only[Bool.and_eq_true,decide_eq_true_eq] at h;simp only[List.mem_cons,List.not_mem_nil,or_false] at hv;subst hv;omega
 ·simp only[Bool.and_eq_true] at h;obtain⟨_,h⟩:=h
  split at h
  ·rename_i h2;rw[if_pos h2] at hv;simp only[Bool.and_eq_true] at h;simp only[List.mem_cons,List.not_mem_nil,or_false] at hv
   rcases hv with rfl|rfl
   ·exact ew _ _ h.1
   ·exact ew _ _ h.2
  ·rename_i h2;rw[if_neg h2] at hv;simp only[Bool.and_eq_true] at h;obtain⟨_,h⟩:=h
   split at h
   ·rename_i h3;rw[if_pos h3] at hv;simp only[List.mem_cons,List.not_mem_nil,or_false] at hv;subst hv;exact ew _ _ h
   ·rename_i h3;rw[if_neg h3] at hv
    split at h
    ·rename_i h4;rw[if_neg (by omega)] at hv;simp only[Bool.and_eq_true,decide_eq_true_eq] at h;simp only[List.mem_cons,List.not_mem_nil,or_false] at hv;subst hv;omega
    ·split at h
     ·rename_i h5;rw[if_neg (by omega)] at hv;simp only[Bool.and_eq_true,decide_eq_true_eq] at h;simp only[List.mem_cons,List.not_mem_nil,or_false] at hv;subst hv;omega
     ·split at h
      ·rename_i h7;rw[if_pos h7] at hv;cases hv
      ·cases h
def yY (code:List aO):Nat→List Bool→List Int→List Bool
 |0,seen,_=>seen
 |_+1,seen,[]=>seen
 |f+1,seen,v::gR=>match seen[v.toNat]? with
  |some false=>match code[v.toNat]? with
   |some i=>yY code f (seen.set v.toNat true) ((cM v.toNat i).reverse++gR)
   |none=>seen
  |_=>yY code f seen gR
def cA (code:List aO) (start:Int):List Bool:=yY code (3*code.length+1) (List.replicate code.length false) [start]
theorem uM (code:List aO):∀(f:Nat) (seen:List Bool) (gR:List Int),(yY code f seen gR).length=seen.length
 |0,_,_=>rfl
 |_+1,_,[]=>rfl
 |f+1,seen,v::gR=>by
  unfold yY
  split
  ·split
   ·rw[uM code f];simp
   ·rfl
  ·exact uM code f seen gR
theorem x0 (code:List aO) (s:Int):(cA code s).length=code.length:=by
 unfold cA;rw[uM];simp
theorem count_set {seen:List Bool} {k:Nat} (h:seen[k]?=some false):(seen.set k true).count false+1=seen.count false:=by
 induction seen generalizing k with
 |nil=>simp at h
 |cons b l ih=>
  cases k with
  |zero=>simp at h;subst h;simp
  |succ k=>
   have:=ih (k:=k) (by simpa using h);simp only[List.set_cons_succ,List.count_cons];omega
theorem wa (pc:Nat) (i:aO):(cM pc i).length≤2:=by
 unfold cM;split
 ·simp
 ·split
  ·simp
  ·split<;>simp
theorem Ce (v:Int) (r:List Int):((v::r).reverse.map ay)[r.length]?=some (ay v):=by
 rw[List.getElem?_map,List.reverse_cons,List.getElem?_append_right (by simp)];simp
theorem E9 (v:Int) (r:List Int):(((v::r).reverse.map ay).take r.length).drop 0=r.reverse.map ay:=by
 rw[List.reverse_cons,List.map_append,List.drop_zero,List.take_left' (by simp)]
theorem Lv {s0:St} {cd:D} {code:List aO} {start:Int} (pw:eE cd 4 (code.map aH)) (hlen:code.length≤1048576) (hcl:je code) (gf:0≤start∧start<code.length):Ev pv 106 [cd,.int .i64 start] s0 (zf (cA code start)) s0:=by
 refine Ev.iS rfl UB rfl rfl rfl ?_;dsimp only[u3,u4,List.length,Nat.reduceSub,Nat.reduceAdd,w1,w2];obtain⟨bT,hF,hH⟩:=ri s0;generalize ag .ro s0=S at*;have hc:=pw.arg s0.bs.length S;refine qq<|qj fun K hK=>qm ?_;refine qe hK<|qq<|qj fun K hK=>qm ?_;refine qn ?_;simp only[List.length_map];refine aa.wL (s:=1) hH rfl rfl rfl rfl rfl rfl rfl rfl (Nat.le_of_ble_eq_true rfl) (by omega) (fun _=>by dsimp only[Fr.put,u1,u2]<;>rfl) (fun k11 st Qv hH=>?_);refine qm ?_;refine qe hK<|qq<|qj fun K hK=>qm ?_;refine qh (s:=1) (vs:=[_]) hH fun k13 st To hH=>?_;refine qm ?_;refine qe hK<|qq<|ab.block<|ab.loop (fun mm fr st=>∃(y z:D) (seen:List Bool) (gR:List Int),fr.clean=⟨41,[cd,aS fr 1,aS fr 2,aS fr 3,.nul,y,z,aS fr 7,aS fr 8,aS fr 9,aS fr 10,aS fr 11,aS fr 12,aS fr 13,aS fr 14,aS fr 15,aS fr 16,aS fr 17,aS fr 18,aS fr 19,aS fr 20,aS fr 21,aS fr 22,aS fr 23,aS fr 24,aS fr 25,aS fr 26,aS fr 27,aS fr 28,aS fr 29,aS fr 30,aS fr 31,aS fr 32,aS fr 33,aS fr 34,aS fr 35,aS fr 36,aS fr 37,aS fr 38,aS fr 39,aS fr 40],[]⟩∧Has s0.bs.length S st [.aP z 1 (gR.reverse.map ay),.aP y 1 (seen.map bR)]∧(yY code mm seen gR=cA code start)∧(3*seen.count false+gR.length≤mm)∧(seen.length=code.length)∧(∀v∈gR,0≤v∧v<(code.length:Int))∧(mm≤3*code.length+1)) (3*code.length+1) ?_ ?_
 ·exact⟨_,_,List.replicate code.length false,[start],rfl,(by rw[List.map_replicate];exact hH),rfl,by simp,by simp,by simpa using gf,by omega⟩
 rintro mm fr st ⟨y,z,seen,gR,hfr,hH,hd,hm,iT,hsk,yJ⟩;rw[hfr];clear hfr;generalize aS fr=ee;clear fr
 rcases gR with _|⟨v,gR⟩
 ·refine qq<|qq<|qj fun K hK=>qm ?_;refine qn ?_ (hR:=hH.rows aB);simp only[List.length_map,List.length_nil,List.length_reverse];refine qg ?_;refine qe hK<|ab.cond (v:=false) (by dsimp only[Fr.ev,Fr.get,nth,V.look];rfl) (fun h=>by cases h) (fun _=>?_);refine ab.exit<|qq<|qj fun K hK=>qm ?_;refine qm ?_;refine qe hK ?_;have gy:seen=cA code start:=by rw[←hd];cases mm<;>rfl
  rw[←gy];refine ab.ret ⟨rx,_,rfl,rl bT hH ?_⟩;exact hH.freeze bF (rE _) (n:=15) (by decide)
 ·have hv:=hsk v (List.mem_cons_self ..);obtain⟨k,rfl⟩:=Int.eq_ofNat_of_zero_le hv.1;have hk:k<code.length:=by omega
  simp only[List.length_cons] at hm
  obtain⟨mm,rfl⟩:∃m',mm=m'+1:=⟨mm-1,by omega⟩
  obtain⟨b,hb⟩:∃b,seen[k]?=some b:=⟨seen[k]'(by omega),List.getElem?_eq_getElem _⟩
  obtain⟨i,hi⟩:∃i,code[k]?=some i:=⟨code[k]'(by omega),List.getElem?_eq_getElem _⟩
  have gJ:=Ce (k:Int) gR;have o3:=rF hb;have hr3:=gD hi;refine qq<|qq<|qj fun K hK=>qm ?_;refine qn ?_ (hR:=hH.rows aB);simp only[List.length_map,List.length_cons,List.length_reverse];refine qg ?_;refine qe hK<|qD rfl (by simp) ?_;refine ab.skip<|ab.block<|qq<|qj fun K hK=>qm ?_;refine qm ?_;refine qn ?_ (hR:=hH.rows aB);simp only[List.length_map,List.length_cons,List.length_reverse];refine aa.oS (z:=((gR.length:Nat):Int)) rfl (ev rfl) (ev rfl) (by rw[wrap_i64 (by omega) (by omega)]<;>omega) (by dsimp only[Fr.put,u1,u2]<;>rfl) ?_;refine qi hH aB fun UR Le=>?_;refine qo hH aB ?_;refine qm ?_;refine qe hK<|qq<|qj fun K hK=>qm ?_;refine qm ?_;refine qn ?_ (hR:=hH.rows aB);simp only[List.length_map,List.length_cons,List.length_reverse];refine aa.oS (z:=((gR.length:Nat):Int)) rfl (ev rfl) (ev rfl) (by rw[wrap_i64 (by omega) (by omega)]<;>omega) (by dsimp only[Fr.put,u1,u2]<;>rfl) ?_;refine aa.CQ hH rfl (ev rfl) (by exact aB) rfl rfl (lP (by simp only[List.length_map,List.length_reverse,List.length_cons];omega)) ⟨(by omega),(by simp only[List.length_map,List.length_reverse,List.length_cons];omega)⟩ (fun _=>by dsimp only[Fr.put,u1,u2]<;>rfl) (fun y27 hH=>?_);refine qm ?_;refine qe hK ?_;dsimp only[u2] at hH;rw[E9] at hH;have gf:∀w∈gR,0≤w∧w<(code.length:Int):=fun w hw=>hsk w (List.mem_cons_of_mem _ hw);refine qq<|qq<|qj fun K hK=>qm ?_;refine qm ?_;refine qi hH bF fun Vt Qf=>?_;refine qo hH bF ?_;refine qe hK ?_
  cases b with
  |true=>
   refine qB ?_;refine ab.exit ?_;simp only[yY,Int.toNat_natCast,hb] at hd;exact⟨mm,by omega,⟨_,_,seen,gR,rfl,hH,hd,by omega,iT,gf,by omega⟩⟩
  |false=>
   have wR:=count_set hb;have gT:(seen.set k true).map bR=(seen.map bR).set k [.bool true]:=by rw[List.map_set];rfl
   simp only[yY,Int.toNat_natCast,hb,hi] at hd;have hnx:=hcl k i hi;have U1:=wa k i
   have V4:∀w∈(cM k i).reverse++gR,0≤w∧w<(code.length:Int):=fun w hw=>by
    rcases List.mem_append.1 hw with hw|hw
    ·exact hnx w (List.mem_reverse.1 hw)
    ·exact gf w hw
   have V':(((cM k i).reverse++gR).reverse).map ay=gR.reverse.map ay++(cM k i).map ay:=by
    rw[List.reverse_append,List.reverse_reverse,List.map_append]
   refine qC ?_;refine ab.skip<|qq<|qj fun K hK=>qm ?_;refine qm ?_;refine qi hH bF fun p34 aaC=>?_;refine aa.l4 hH rfl (ev rfl) (ev rfl) (by assumption) rfl rfl (by exact bF) (by assumption) (Nat.le_of_ble_eq_true rfl) (by exact .inl hF) (fun st hH=>?_);dsimp only[u2,u1,u3,u4,setMany,u5,u6,D.cells,Nat.reduceAdd,aH,ay,bR] at hH;refine qe hK<|qq<|qj fun K hK=>qm ?_;refine qm ?_;refine qr fun Y6 S3=>?_;refine aa.db rfl (ev rfl) (by assumption) rfl (by dsimp only[Fr.put,u1,u2]<;>rfl) ?_;refine qa hH fun k8 st Rx hH=>?_;refine qS hH aB fun st hH=>?_;dsimp only[u2,u1,u3,u4,setMany,u5,u6,D.cells,Nat.reduceAdd,aH,ay,bR] at hH;refine qe hK<|qq<|qj fun K hK=>qp (o:=0) ?_;refine ql hH aB ?_;refine qe hK<|ab.merge (fun fr st=>∃(z:D) (tmp:List (Nat×D)),fr=⟨41,[cd,aS fr 1,aS fr 2,aS fr 3,.nul,y,z,aS fr 7,aS fr 8,aS fr 9,aS fr 10,aS fr 11,aS fr 12,aS fr 13,aS fr 14,aS fr 15,aS fr 16,aS fr 17,aS fr 18,aS fr 19,aS fr 20,aS fr 21,aS fr 22,aS fr 23,aS fr 24,aS fr 25,aS fr 26,aS fr 27,aS fr 28,aS fr 29,aS fr 30,aS fr 31,aS fr 32,aS fr 33,aS fr 34,aS fr 35,aS fr 36,aS fr 37,aS fr 38,aS fr 39,aS fr 40],tmp⟩∧Has s0.bs.length S st [.aP z 1 (gR.reverse.map ay++(cM k i).map ay),.aP y 1 ((seen.map bR).set k [.bool true])]) ?_ ?_
   ·refine ab.block<|qq<|qj fun K hK=>qg ?_;refine qm ?_;refine qe hK ?_;refine ab.cond (by rfl) (fun h2=>?_) (fun h2=>?_)<;>try simp only[beq_iff_eq,beq_eq_false_iff_ne,ne_eq] at h2
    ·have:cM k i=[i.x,i.y]:=by unfold cM;rw[if_pos h2]
     rw[this];refine qj fun K hK=>qm ?_;refine qp (o:=1) ?_;refine ql hH aB ?_;refine qp (o:=2) ?_;refine ql hH aB ?_;refine qh (s:=1) (vs:=[_,_]) hH fun k53 st aaT hH=>?_;refine aa.bO (s:=1) hH rfl (ev rfl) (ev rfl) (by exact dL) (by exact hH.rows (by exact aB)) rfl rfl rfl rfl rfl rfl rfl ⟨(Nat.le_of_ble_eq_true rfl),(Nat.le_of_ble_eq_true rfl)⟩ (fun _=>(ah rfl _)) (by simp only[List.length_cons,List.length_nil,List.length_map,List.length_reverse]<;>omega) (by exact .inl hF) (fun x54 st hH=>?_);dsimp only[u2,u1,u3,u4,setMany,u5,u6,D.cells,Nat.reduceAdd,aH,ay,bR] at hH;refine qm ?_;refine qe hK ?_;exact⟨_,_,rfl,(by have:=hH.drop 2;exact this)⟩
    ·refine qq<|qj fun K hK=>qg ?_;refine qm ?_;refine qe hK ?_;refine ab.cond (by rfl) (fun h3=>?_) (fun h3=>?_)<;>try simp only[beq_iff_eq,beq_eq_false_iff_ne,ne_eq] at h3
     ·have:cM k i=[i.x]:=by unfold cM;rw[if_neg h2,if_pos h3]
      rw[this];refine qj fun K hK=>qm ?_;refine qp (o:=1) ?_;refine ql hH aB ?_;refine qh (s:=1) (vs:=[_]) hH fun k60 st aaR hH=>?_;refine aa.bO (s:=1) hH rfl (ev rfl) (ev rfl) (by exact dL) (by exact hH.rows (by exact aB)) rfl rfl rfl rfl rfl rfl rfl ⟨(Nat.le_of_ble_eq_true rfl),(Nat.le_of_ble_eq_true rfl)⟩ (fun _=>(ah rfl _)) (by simp only[List.length_cons,List.length_nil,List.length_map,List.length_reverse]<;>omega) (by exact .inl hF) (fun x61 st hH=>?_);dsimp only[u2,u1,u3,u4,setMany,u5,u6,D.cells,Nat.reduceAdd,aH,ay,bR] at hH;refine qm ?_;refine qe hK ?_;exact⟨_,_,rfl,(by have:=hH.drop 2;exact this)⟩
     ·refine qq<|qj fun K hK=>qg ?_;refine qm ?_;refine qe hK ?_;refine ab.cond (by rfl) (fun h7=>?_) (fun h7=>?_)<;>try simp only[beq_iff_eq,beq_eq_false_iff_ne,ne_eq] at h7
      ·have:cM k i=[]:=by unfold cM;rw[if_neg h2,if_neg h3,if_pos h7]
       rw[this,List.map_nil,List.append_nil];refine ab.skip ?_;exact⟨_,_,rfl,(by have:=hH.drop 1;exact this)⟩
      ·have:cM k i=[((k+1:Nat):Int)]:=by unfold cM;rw[if_neg h2,if_neg h3,if_neg h7]
       rw[this];refine qj fun K hK=>qm ?_;refine qm ?_;refine qA ?_;refine qh (s:=1) (vs:=[_]) hH fun k44 st aaW hH=>?_;refine aa.bO (s:=1) hH rfl (ev rfl) (ev rfl) (by exact dL) (by exact hH.rows (by exact aB)) rfl rfl rfl rfl rfl rfl rfl ⟨(Nat.le_of_ble_eq_true rfl),(Nat.le_of_ble_eq_true rfl)⟩ (fun _=>(ah rfl _)) (by simp only[List.length_cons,List.length_nil,List.length_map,List.length_reverse]<;>omega) (by exact .inl hF) (fun x45 st hH=>?_);dsimp only[u2,u1,u3,u4,setMany,u5,u6,D.cells,Nat.reduceAdd,aH,ay,bR] at hH;refine qm ?_;refine qe hK ?_;exact⟨_,_,rfl,(by have:=hH.drop 2;exact this)⟩
   ·rintro fr st ⟨z,tmp,hfr,hH⟩;rw[hfr];clear hfr;generalize aS fr=ee;clear fr;exact⟨mm,by omega,⟨y,z,seen.set k true,(cM k i).reverse++gR,rfl,(by rw[V',gT];exact hH),hd,by simp only[List.length_append,List.length_reverse];omega,by simp only[List.length_set];exact iT,V4,by omega⟩⟩
def aq (fr:Go.V.Fr) (k:Nat):Go.V.D:=Go.V.nth .bp fr.loc k
noncomputable def dec (q:Prop):Bool:=@decide q (Classical.propDecidable q)
theorem uP {q:Prop} (h:q):dec q=true:=@decide_eq_true q (Classical.propDecidable q) h
theorem uQ {q:Prop} (h:¬q):dec q=false:=@decide_eq_false q (Classical.propDecidable q) h
def pV (p:Pg) (r:Nat) (s:Int) (n:Nat):Prop:=∀pc i,pc<n→(cA p.code s)[pc]?=some true→p.code[pc]?=some i→i.op=7→i.x=(r:Int)
structure bz (p:Pg):Prop where
 cl:p.code.length≤400
 sl:p.aw.length≤8
 sh:∀pc i,p.code[pc]?=some i→dO p.code.length p.aw.length pc i=true
 st:∀v∈p.aw,0≤v∧v<(p.code.length:Int)
 fo:∀r s,p.aw[r]?=some s→pV p r s p.code.length
theorem oj {p:Pg} (h:∀pc i,p.code[pc]?=some i→dO p.code.length p.aw.length pc i=true):je p.code:=
 fun pc i hi=>vi (h pc i hi)
theorem bz.closed {p:Pg} (h:bz p):je p.code:=oj h.sh
theorem ew {a b:Int}:qU a b=true↔0≤a∧a<b:=by
 unfold qU;simp only[Bool.and_eq_true,decide_eq_true_eq,ge_iff_le]
theorem sm {s0:St} {p:Pg} (hp:p.ok):Ev pv 58 [p.d] s0 (.bool (dec (bz p))) s0:=by
 refine Ev.iS rfl X0 rfl rfl rfl ?_;dsimp only[u3,u4,List.length,Nat.reduceSub,Nat.reduceAdd,w1,w2];obtain⟨bT,hF,hH⟩:=ri s0;generalize ag .ro s0=S at*;have hc:=hp.c.arg s0.bs.length S;have hs:=hp.s.arg s0.bs.length S;have pw:=hp.c;have hlen:=hp.cl;have SJ:=hp.sl;unfold Pg.d;refine qq<|qj fun K hK=>qb hH fun k1 st o5 hH=>?_;dsimp only[u2,u1,u3,u4,setMany,u5,u6,D.cells,Nat.reduceAdd,Pg.cs,aH,ay,bR] at hH;refine qm ?_;refine qe hK<|qq<|qq<|ab.mX 17 (.bool (decide ((p.code.length:Int)>400)||decide ((p.aw.length:Int)>8))) [8,9,10,11,12,13,14,15,16] ?_ (fun ff tmp=>?_)
 ·refine qp (o:=0) ?_;refine ql hH aB ?_;refine qn ?_;simp only[List.length_map];refine qg ?_;refine qm ?_;refine aa.two 12 rfl (fun fg=>?_) (fun fg=>?_)
  ·refine qs ?_ (hg:=wn fg);refine qs ?_ (hg:=wn fg);refine qs ?_ (hg:=wn fg);refine qs ?_ (hg:=wn fg);refine qt fg ?_;refine aa.nil (bf ?_);dsimp only[aR,List.foldl,nth,u2,u1];dsimp only[Fr.aj,Fr.put,Fr.clean,Fr.ev,Fr.get,nth,V.look,u1,u2,v1,v2,v3,v4,v5,v6,v7,List.length,u3,u4,Nat.reduceSub,Nat.reduceAdd,List.map]
   all_goals(simp[fg];done)
  ·refine qp (o:=1) ?_ (hg:=wi fg);refine ql hH aB ?_ (hg:=wi fg);refine qn ?_ (hg:=wi fg);simp only[List.length_map];refine qg ?_ (hg:=wi fg);refine qu fg ?_;refine aa.nil (bf ?_);dsimp only[aR,List.foldl,nth,u2,u1];dsimp only[Fr.aj,Fr.put,Fr.clean,Fr.ev,Fr.get,nth,V.look,u1,u2,v1,v2,v3,v4,v5,v6,v7,List.length,u3,u4,Nat.reduceSub,Nat.reduceAdd,List.map]
   all_goals(simp[fg];done)
 dsimp only[aR,List.foldl,nth,u2,u1];generalize ff 8=e8;generalize ff 9=e9;generalize ff 10=e10;generalize ff 11=e11;generalize ff 12=e12;generalize ff 13=e13;generalize ff 14=e14;generalize ff 15=e15;generalize ff 16=e16;refine qc (fun h0=>?_) (fun h0=>?_)<;>try simp only[cs] at h0
 ·rw[uQ (fun h=>by have:=h.cl;have:=h.sl;simp at h0;omega)];refine qq<|qj fun K hK=>qm ?_;refine qe hK<|ab.ret ⟨rx,_,rfl,rl bT hH (rfl)⟩
 ·have h0:p.code.length≤400∧p.aw.length≤8:=by simp at h0;omega
  refine ab.skip<|qq<|qq<|qj fun K hK=>qp (o:=0) ?_;refine ql hH aB ?_;refine qn ?_;simp only[List.length_map];refine qm ?_;refine qe hK<|ab.block<|ab.loop (fun mm fr st=>∃(i:Nat),fr.clean=⟨49,[aq fr 0,.ptr k1 0 0,.bool false,aq fr 3,aq fr 4,aq fr 5,aq fr 6,aq fr 7,aq fr 8,aq fr 9,aq fr 10,aq fr 11,aq fr 12,aq fr 13,aq fr 14,aq fr 15,aq fr 16,aq fr 17,aq fr 18,aq fr 19,.int .i64 (p.code.length:Nat),.int .i64 (i:Nat),aq fr 22,aq fr 23,aq fr 24,aq fr 25,aq fr 26,aq fr 27,aq fr 28,aq fr 29,aq fr 30,aq fr 31,aq fr 32,aq fr 33,aq fr 34,aq fr 35,aq fr 36,aq fr 37,aq fr 38,aq fr 39,aq fr 40,aq fr 41,aq fr 42,aq fr 43,aq fr 44,aq fr 45,aq fr 46,aq fr 47,aq fr 48],[]⟩∧Has s0.bs.length S st [.box k1 (.mem 0 false [p.cd,p.sd])]∧(i+mm=p.code.length)∧(∀pc q,pc<i→p.code[pc]?=some q→dO p.code.length p.aw.length pc q=true)) (p.code.length) ?_ ?_
  ·exact⟨0,rfl,hH,by omega,by intro pc q h;omega⟩
  rintro mm fr st ⟨i,hfr,hH,hi,hsh⟩;rw[hfr];clear hfr;generalize aq fr=ee;clear fr;refine qq<|qj fun K hK=>qg ?_;refine qe hK<|qq ?_;refine ab.cond (by rfl) (fun h1=>?_) (fun h1=>?_)<;>try simp only[decide_eq_true_eq,decide_eq_false_iff_not] at h1
  ·refine ab.skip ?_
   obtain⟨q,hq⟩:∃q,p.code[i]?=some q:=⟨p.code[i]'(by omega),List.getElem?_eq_getElem _⟩
   refine qq<|ab.block<|qq<|qj fun K hK=>qm ?_;refine qm ?_;refine qe hK<|qq<|qj fun K hK=>?_;refine aa.aT (m:=2) hH rfl (ev rfl) (by exact aB) (by dsimp only[List.drop_succ_cons,List.drop_zero,List.take_succ_cons,List.take_zero,Pg.cs,aH,ay,bR]<;>rfl) rfl rfl (by dsimp only[Fr.put,u1,u2]<;>rfl) ?_;refine qm ?_;refine qv (AE (p:=p) hp hq) ?_;refine qg ?_;refine qe hK ?_;refine ab.cond (by rfl) (fun h2=>?_) (fun h2=>?_)<;>try simp only[Bool.not_eq_true',Bool.not_eq_false'] at h2
   ·rw[uQ (fun h=>by have:=h.sh i q hq;rw[this] at h2;cases h2)];refine qq<|qj fun K hK=>qm ?_;refine qe hK<|ab.ret ⟨rx,_,rfl,rl bT hH (rfl)⟩
   ·refine ab.skip<|qj fun K hK=>qA ?_;refine qm ?_;refine qe hK ?_;refine⟨mm-1,by omega,⟨i+1,rfl,hH,by omega,?_⟩⟩;intro pc q' DE r_
    by_cases he:pc=i
    ·subst he;rw[hq] at r_;cases r_;simpa using h2
    ·exact hsh pc q' (by omega) r_
  ·refine ab.exit ?_;have hsh:∀pc q,p.code[pc]?=some q→dO p.code.length p.aw.length pc q=true:=fun pc q hq=>hsh pc q (by have:=bH hq;omega) hq;have hcl:=oj hsh;refine qq<|qq<|qj fun K hK=>qp (o:=1) ?_;refine ql hH aB ?_;refine qn ?_;simp only[List.length_map];refine qm ?_;refine qe hK<|ab.block<|ab.loop (fun mm fr st=>∃(r:Nat),fr.clean=⟨49,[aq fr 0,.ptr k1 0 0,.bool false,aq fr 3,aq fr 4,aq fr 5,aq fr 6,aq fr 7,aq fr 8,aq fr 9,aq fr 10,aq fr 11,aq fr 12,aq fr 13,aq fr 14,aq fr 15,aq fr 16,aq fr 17,aq fr 18,aq fr 19,aq fr 20,aq fr 21,aq fr 22,aq fr 23,aq fr 24,aq fr 25,aq fr 26,aq fr 27,aq fr 28,aq fr 29,p.sd,.int .i64 (p.aw.length:Nat),.int .i64 (r:Nat),aq fr 33,aq fr 34,aq fr 35,aq fr 36,aq fr 37,aq fr 38,aq fr 39,aq fr 40,aq fr 41,aq fr 42,aq fr 43,aq fr 44,aq fr 45,aq fr 46,aq fr 47,aq fr 48],[]⟩∧Has s0.bs.length S st [.box k1 (.mem 0 false [p.cd,p.sd])]∧(r+mm=p.aw.length)∧(∀r' s,r'<r→p.aw[r']?=some s→(0≤s∧s<(p.code.length:Int))∧pV p r' s p.code.length)) (p.aw.length) ?_ ?_
   ·exact⟨0,rfl,hH,by omega,by intro pc q h;omega⟩
   rintro mm fr st ⟨r,hfr,hH,hi,bc⟩;rw[hfr];clear hfr;generalize aq fr=ee;clear fr;refine qq<|qj fun K hK=>qg ?_;refine qe hK<|qq ?_;refine ab.cond (by rfl) (fun h3=>?_) (fun h3=>?_)<;>try simp only[decide_eq_true_eq,decide_eq_false_iff_not] at h3
   ·refine ab.skip ?_
    obtain⟨s,uq⟩:∃s,p.aw[r]?=some s:=⟨p.aw[r]'(by omega),List.getElem?_eq_getElem _⟩
    have UX:=eO uq;refine qq<|ab.block<|qq<|qj fun K hK=>qm ?_;refine qr fun UQ Ld=>?_;refine qR ?_;refine qm ?_;refine qm ?_;refine qe hK<|qq<|qq<|qj fun K hK=>qm ?_;refine qp (o:=0) ?_;refine ql hH aB ?_;refine qn ?_;simp only[List.length_map];refine qv (ig _ _) ?_;refine qg ?_;refine qe hK ?_;refine ab.cond (by rfl) (fun h4=>?_) (fun h4=>?_)<;>try simp only[Bool.not_eq_true',Bool.not_eq_false'] at h4
    ·rw[uQ (fun h=>by have:=ew.2 (h.st s (List.mem_of_getElem? uq));rw[this] at h4;cases h4)];refine qq<|qj fun K hK=>qm ?_;refine qe hK<|ab.ret ⟨rx,_,rfl,rl bT hH (rfl)⟩
    ·have SK:=ew.1 (show qU s p.code.length=true by simpa using h4);refine ab.skip ?_;have oZ:=x0 p.code s;have Wb:=(BQ (cA p.code s)).arg s0.bs.length S;refine qq<|qj fun K hK=>qp (o:=0) ?_;refine ql hH aB ?_;refine qm ?_;refine qv (Lv pw hlen hcl SK) ?_;refine qn ?_;simp only[List.length_map];refine qm ?_;refine qe hK<|ab.block<|ab.loop (fun mm fr st=>∃(i:Nat),fr.clean=⟨49,[aq fr 0,.ptr k1 0 0,.bool false,aq fr 3,.int .i64 (r:Nat),aq fr 5,aq fr 6,aq fr 7,aq fr 8,aq fr 9,aq fr 10,aq fr 11,aq fr 12,aq fr 13,aq fr 14,aq fr 15,aq fr 16,aq fr 17,aq fr 18,aq fr 19,aq fr 20,aq fr 21,aq fr 22,aq fr 23,aq fr 24,aq fr 25,aq fr 26,aq fr 27,aq fr 28,aq fr 29,p.sd,.int .i64 (p.aw.length:Nat),.int .i64 (r:Nat),aq fr 33,aq fr 34,aq fr 35,aq fr 36,aq fr 37,aq fr 38,aq fr 39,aq fr 40,aq fr 41,aq fr 42,aq fr 43,aq fr 44,aq fr 45,zf (cA p.code s),.int .i64 ((cA p.code s).length:Nat),.int .i64 (i:Nat)],[]⟩∧Has s0.bs.length S st [.box k1 (.mem 0 false [p.cd,p.sd])]∧(i+mm=p.code.length)∧(pV p r s i)) (p.code.length) ?_ ?_
     ·exact⟨0,rfl,hH,by omega,by intro pc q h;omega⟩
     rintro mm fr st ⟨i,hfr,hH,hj,hom⟩;rw[hfr];clear hfr;generalize aq fr=ee;clear fr;refine qq<|qj fun K hK=>qg ?_;refine qe hK<|qq ?_;refine ab.cond (by rfl) (fun h5=>?_) (fun h5=>?_)<;>try simp only[decide_eq_true_eq,decide_eq_false_iff_not] at h5
     ·refine ab.skip ?_
      obtain⟨b,hb⟩:∃b,(cA p.code s)[i]?=some b:=⟨(cA p.code s)[i]'(by omega),List.getElem?_eq_getElem _⟩
      obtain⟨q,hq⟩:∃q,p.code[i]?=some q:=⟨p.code[i]'(by omega),List.getElem?_eq_getElem _⟩
      have gJ:=rF hb;have o3:=gD hq;refine qq<|ab.block<|qq<|qj fun K hK=>qm ?_;refine qr fun p51 Wr=>?_;refine qR ?_;refine qm ?_;refine qm ?_;refine qe hK<|qq<|ab.kB 72 (.bool ((b &&(q.op==7)) &&(q.x !=(r:Int)))) [] ?_ (fun ff tmp hU=>?_)
      ·refine qm ?_;refine qm ?_;refine aa.two 54 rfl (fun cW=>?_) (fun cW=>?_)
       ·refine qp (o:=0) ?_ (hg:=wi cW);refine ql hH aB ?_ (hg:=wi cW);refine qm ?_ (hg:=wi cW);refine qr (fun p58 aay=>?_) (hg:=wi cW);refine qf (fo:=0) (fun p59 Wn=>?_) (hg:=wi cW);refine qR ?_ (hg:=wi cW);refine qg ?_ (hg:=wi cW);refine qt cW ?_;refine qm ?_;refine aa.two 63 rfl (fun bh=>?_) (fun bh=>?_)
        ·refine qp (o:=0) ?_ (hg:=wi bh);refine ql hH aB ?_ (hg:=wi bh);refine qm ?_ (hg:=wi bh);refine qr (fun p67 aau=>?_) (hg:=wi bh);refine qf (fo:=1) (fun p68 aat=>?_) (hg:=wi bh);refine qR ?_ (hg:=wi bh);refine qm ?_ (hg:=wi bh);refine qg ?_ (hg:=wi bh);refine qt bh ?_;refine aa.nil (c_ ?_ ?_)
         ·dsimp only[aR,List.foldl,nth,u2,u1]
          all_goals(first|rfl|simp)
         ·dsimp only[Fr.aj,Fr.put,Fr.clean,Fr.ev,Fr.get,nth,V.look,u1,u2,v1,v2,v3,v4,v5,v6,v7,List.length,u3,u4,Nat.reduceSub,Nat.reduceAdd,List.map]
          all_goals(simp[cW,bh];done)
        ·refine qs ?_ (hg:=wn bh);refine qs ?_ (hg:=wn bh);refine qs ?_ (hg:=wn bh);refine qs ?_ (hg:=wn bh);refine qs ?_ (hg:=wn bh);refine qs ?_ (hg:=wn bh);refine qs ?_ (hg:=wn bh);refine qs ?_ (hg:=wn bh);refine qu bh ?_;refine aa.nil (c_ ?_ ?_)
         ·dsimp only[aR,List.foldl,nth,u2,u1]
          all_goals(first|rfl|simp)
         ·dsimp only[Fr.aj,Fr.put,Fr.clean,Fr.ev,Fr.get,nth,V.look,u1,u2,v1,v2,v3,v4,v5,v6,v7,List.length,u3,u4,Nat.reduceSub,Nat.reduceAdd,List.map]
          all_goals(simp[cW,bh];done)
       ·refine qs ?_ (hg:=wn cW);refine qs ?_ (hg:=wn cW);refine qs ?_ (hg:=wn cW);refine qs ?_ (hg:=wn cW);refine qs ?_ (hg:=wn cW);refine qs ?_ (hg:=wn cW);refine qs ?_ (hg:=wn cW);refine qu cW ?_;refine qm ?_;refine qs ?_;refine qs ?_;refine qs ?_;refine qs ?_;refine qs ?_;refine qs ?_;refine qs ?_;refine qs ?_;refine qg ?_;refine aa.nil (c_ ?_ ?_)
        ·dsimp only[aR,List.foldl,nth,u2,u1]
         all_goals(first|rfl|simp)
        ·dsimp only[Fr.aj,Fr.put,Fr.clean,Fr.ev,Fr.get,nth,V.look,u1,u2,v1,v2,v3,v4,v5,v6,v7,List.length,u3,u4,Nat.reduceSub,Nat.reduceAdd,List.map]
         all_goals(simp[cW];done)
      dsimp only[aR,List.foldl,nth,u2,u1];dsimp only[Fr.aj,Fr.put,Fr.clean,Fr.ev,Fr.get,nth,V.look,u1,u2,v1,v2,v3,v4,v5,v6,v7,List.length,u3,u4,Nat.reduceSub,Nat.reduceAdd,List.map];refine qc (fun h6=>?_) (fun h6=>?_)<;>try simp only[cs] at h6
      ·rw[uQ (fun h=>by
        have h7:=h.fo r s uq i q (by omega);simp only[Bool.and_eq_true,beq_iff_eq,bne_iff_ne,ne_eq] at h6;obtain⟨⟨rfl,h8⟩,h9⟩:=h6
        exact h9 (h7 hb hq h8))]
       refine qq<|qj fun K hK=>qm ?_;refine qe hK<|ab.ret ⟨rx,_,rfl,rl bT hH (rfl)⟩
      ·refine ab.skip<|qj fun K hK=>qA ?_;refine qm ?_;refine qe hK ?_;refine⟨mm-1,by omega,⟨i+1,rfl,hH,by omega,?_⟩⟩;intro pc q' DE hre r_ gg
       by_cases he:pc=i
       ·subst he;rw[hq] at r_;cases r_;rw[hb] at hre;cases hre;simp[gg] at h6;exact h6
       ·exact hom pc q' (by omega) hre r_ gg
     ·refine ab.exit<|qj fun K hK=>qA ?_;refine qm ?_;refine qe hK ?_;refine⟨p.aw.length-(r+1),by omega,⟨r+1,rfl,hH,by omega,?_⟩⟩;intro r' s' Rq ur
      by_cases he:r'=r
      ·subst he;rw[uq] at ur;cases ur;exact⟨SK,fun pc q DE=>hom pc q (by omega)⟩
      ·exact bc r' s' (by omega) ur
   ·refine ab.exit ?_
    rw[uP ⟨h0.1,h0.2,hsh,fun v hv=>by
     obtain⟨r',Rq⟩:=List.getElem?_of_mem hv
     exact(bc r' v (by have:=bH Rq;omega) Rq).1,fun r' s' ur=>(bc r' s' (by have:=bH ur;omega) ur).2⟩]
    refine qq<|qj fun K hK=>qm ?_;refine qe hK<|ab.ret ⟨rx,_,rfl,rl bT hH (rfl)⟩
def qw:Nat→List Bool→List Int
 |_,[]=>[]
 |i,b::l=>(if b then[(i:Int)] else[])++qw (i+1) l
noncomputable def pT (p:Pg) (RN:Int):List Int:=if dec (bz p) &&qU RN p.aw.length then qw 0 (cA p.code (p.aw.getD RN.toNat 0)) else[]
def dK (i:aO):aO:=⟨i.op,i.x,i.y,.sl ((i.rs.map ax).map (ki 2)),i.rs⟩
theorem Ed {i:aO} (h:i.ok):(dK i).ok:=⟨eE.frozen (lD _) (eH _),h.2⟩
def ry (q:aO):List D:=aH (dK q)
end Go.Proofs.YtbdnabmmlbiomaaGreat
