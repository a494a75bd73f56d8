import Derived.Test.YtbdnabmmlbiomaaGreatWGCa
import Derived.Test.YtbdnabmmlbiomaaGreatWGKa
import Derived.Test.YtbdnabmmlbiomaaGreatWDgp
import Derived.Test.YtbdnabmmlbiomaaGreatWM2
set_option linter.unusedSimpArgs false
set_option maxRecDepth 100000
set_option maxHeartbeats 4000000
set_option linter.unusedVariables false
namespace Go.Proofs.YtbdnabmmlbiomaaGreat
open Go.V Go
def cM (b:List UInt8):Nat×Nat:=if(cC b).2.1=0 then(65533,1) else((cC b).1,(cC b).2.1)
def B7:Nat→List UInt8→List (Nat×Nat)
 |0,_=>[]
 |_+1,[]=>[]
 |n+1,b=>cM b::B7 n (b.drop (cM b).2)
def ez (b:List UInt8):List (Nat×Nat):=B7 b.length b
theorem eo (b:List UInt8):1≤(cM b).2:=by
 unfold cM;split
 ·simp
 ·simp only;omega
theorem oQ : ∀ (n : Nat) (b : List UInt8), b.length ≤ n → B7 n b = ez b
 | 0, [], _ => rfl
 | 0, _ :: _, h => by simp at h
 | n + 1, [], _ => rfl
 | n + 1, c :: b, h => by
  have hp := eo (c :: b);have h1 : ((c :: b).drop (cM (c :: b)).2).length ≤ b.length := by rw [List.length_drop]; simp only [List.length_cons]; omega
  simp only [List.length_cons] at h;show cM (c :: b) :: B7 n ((c :: b).drop _) = cM (c :: b) :: B7 b.length ((c :: b).drop _);rw [oQ n _ (by omega)]
  rcases Nat.lt_or_ge n b.length with h2 | h2
  ·omega
  ·rw [oQ b.length _ h1]
termination_by n b => b.length
decreasing_by all_goals (simp_wf; omega)
theorem jZ:ez []=[]:=rfl
theorem iG {b:List UInt8} (h:b≠[]):ez b=cM b::ez (b.drop (cM b).2):=by
 match b,h with
 |c::b,_=>
  show cM (c::b)::B7 b.length ((c::b).drop _)=_;rw[oQ];have hp:=eo (c::b);rw[List.length_drop];simp only[List.length_cons];omega
def a7 (g:Nat×Nat):List D:=[.int .i32 (g.1:Nat),.int .i64 (g.2:Nat)]
def cB (l:List (Nat×Nat)):D:=.sl ((l.map a7).map (kH 2))
theorem D9 {l:List (Nat×Nat)}:∀e∈l.map a7,e.length=2:=by
 intro e he;obtain⟨g,_,rfl⟩:=List.mem_map.1 he;rfl
theorem kA {l:List (Nat×Nat)}:∀e∈l.map a7,∀d∈e,cy d=true:=by
 intro e he d hd;obtain⟨g,_,rfl⟩:=List.mem_map.1 he;simp only[a7,List.mem_cons,List.not_mem_nil,or_false] at hd
 rcases hd with rfl|rfl<;>rfl
theorem dt (st:St) (l:List (Nat×Nat)):V.Rows st 2 (cB l) (l.map a7):=Rows.re D9 kA
theorem qJ:∀(left n r lo hi:Nat) (b:List UInt8),(eC left n r lo hi b).2.1≠0→(eC left n r lo hi b).2.1=n∧left≤b.length
 |0,n,r,lo,hi,b,h=>by simp[eC]
 |left+1,n,r,lo,hi,[],h=>by simp[eC] at h
 |left+1,n,r,lo,hi,x::xs,h=>by
  simp only[eC] at h⊢
  split at h
  ·simp at h
  ·rename_i hc;rw[if_neg hc];have:=qJ left n _ _ _ xs h;exact⟨this.1,by simp;omega⟩
theorem lP {b:List UInt8} (h:b≠[]):(cM b).2≤b.length:=by
 match b,h with
 |c::xs,_=>
  unfold cM
  split
  ·simp
  ·rename_i hz;simp only[cC] at hz⊢
   split at hz
   ·simp at hz
   ·rename_i hk;rw[if_neg hk];have:=qJ _ _ _ _ _ _ hz;rw[this.1];simp;omega
theorem EJ {st:St} {x:D} {b:List UInt8} (hb:Bytes st x b) (hlen:b.length≤1048576):Ev pv 13 [x] st (cB (ez b)) st:=by
 refine Ev.oj rfl Yz rfl rfl rfl ?_;dsimp only[u3,u4,List.length,Nat.reduceSub,Nat.reduceAdd,w1,w2];have hx:=hb.ref;refine qy ?_;(repeat refine qq ?_);(generalize hK:aT _ _ _ _=K);refine ag.ct ?_;(repeat(refine xL ?_));refine aa.nil ?_;dsimp only[Fr.aE,Fr.put,Fr.clean,Fr.ev,Fr.get,nth,V.look,u1,u2,v1,v2,v3,v4,v5,v6,v7,List.length,u3,u4,Nat.reduceSub,Nat.reduceAdd,List.map];subst hK;refine qy ?_;(repeat refine qq ?_);(generalize hK:aT _ _ _ _=K);refine ag.ct ?_;(repeat(refine xL ?_));refine aa.nil ?_;dsimp only[Fr.aE,Fr.put,Fr.clean,Fr.ev,Fr.get,nth,V.look,u1,u2,v1,v2,v3,v4,v5,v6,v7,List.length,u3,u4,Nat.reduceSub,Nat.reduceAdd,List.map];subst hK;refine qy ?_;refine ag.seq (ag.block ?_)
 refine ag.loop (fun j fr ah=>∃(y out r n:D) (b':List UInt8) (done:List (Nat×Nat)),fr.clean=⟨6,[y,.tup [],.nul,out,r,n],[]⟩∧Ex st.bs.length (ai .ro st) ah∧Bytes ah y b'∧y.ref≤st.bs.length∧
  Acc st.bs.length ah 2 out (done.map a7)∧j=b'.length∧done++ez b'=ez b∧done.length+b'.length≤b.length) b.length
  ⟨x,.nul,_,_,b,[],rfl,Ex.refl _ _,hb.enter .ro,hx,.nul,rfl,rfl,by simp⟩ ?_
 rintro j fr ah ⟨y,out,r,n,b',done,hfr,hex,hy,Zp,ma,rfl,lu,hl⟩;rw[hfr];refine qy ?_;(repeat refine qq ?_);(generalize hK:aT _ _ _ _=K);refine ag.ct ?_
 (refine xT ?_)
 refine aa.len rfl rfl rfl hy rfl ?_;(repeat(refine xT ?_));refine aa.nil ?_;dsimp only[Fr.aE,Fr.put,Fr.clean,Fr.ev,Fr.get,nth,V.look,u1,u2,v1,v2,v3,v4,v5,v6,v7,List.length,u3,u4,Nat.reduceSub,Nat.reduceAdd,List.map];subst hK;refine qy ?_;rw[bM];refine qy ?_;(repeat refine qq ?_);refine qc (fun h1=>?_) (fun h1=>?_)<;>try simp only[cs] at h1
 ·refine ag.skip ?_;have oI:b'≠[]:=by rintro rfl;simp at h1
  (refine qy ?_);(repeat refine qq ?_);refine ag.block ?_;refine qy ?_;(repeat refine qq ?_);(generalize hK:aT _ _ _ _=K);refine ag.ct ?_
  (refine xT ?_)
  refine aa.sa rfl rfl rfl (rN hy) ?_;(repeat(first|refine xT ?_|refine xL ?_));refine aa.nil ?_;dsimp only[Fr.aE,Fr.put,Fr.clean,Fr.ev,Fr.get,nth,V.look,u1,u2,v1,v2,v3,v4,v5,v6,v7,List.length,u3,u4,Nat.reduceSub,Nat.reduceAdd,List.map];subst hK;refine qy ?_;generalize hf:cC b'=F at*;obtain⟨r0,n0,bg⟩:=F;refine qy ?_;(repeat refine qq ?_);(generalize hK:aT _ _ _ _=K);refine ag.ct ?_;(repeat(refine xT ?_));refine aa.nil ?_;dsimp only[Fr.aE,Fr.put,Fr.clean,Fr.ev,Fr.get,nth,V.look,u1,u2,v1,v2,v3,v4,v5,v6,v7,List.length,u3,u4,Nat.reduceSub,Nat.reduceAdd,List.map];subst hK;refine qy ?_;generalize hK:aT _ _ _ _=K
  have H:∀m,K .next ⟨6,[y,.tup [],.nul,out,.int .i32 ((cM b').1:Nat),.int .i64 ((cM b').2:Nat)],m⟩ ah:=by
   intro m;subst hK;generalize hg:cM b'=g;have hp:=eo b';have hle:=lP oI;rw[hg] at hp hle;refine qy ?_;(repeat refine qq ?_);(generalize hK:aT _ _ _ _=K);refine ag.ct ?_
   (refine xT ?_)
   (refine xT ?_)
   (refine xT ?_)
   refine aa.T rfl rfl rfl (d:=.agg (a7 g)) (st1:=ah) rfl<|aa.T rfl rfl rfl (d:=.win ah.bs.length 0 0 1 2) (st1:=ah.push (.mem 0 true (a7 g))) rfl ?_;have hN:st.bs.length≤ah.bs.length:=hex.len;have LB:=hex.trans (Ex.push hN (.mem 0 true (a7 g)));refine aa.append rfl rfl rfl rfl (ma.push _) (Rows.one rfl) rfl rfl rfl rfl rfl rfl rfl (by decide) LB.len (by rw[LB.flr];exact Nat.le_refl _) (by rw[LB.ro];exact Nat.le_refl _) (by simp only[List.length_map,List.length_cons,List.length_nil];show(done.length+1)*16≤_;omega) fun C6 st2 xf w_ _ _ _=>?_;(repeat(refine xL ?_));refine aa.nil ?_;dsimp only[Fr.aE,Fr.put,Fr.clean,Fr.ev,Fr.get,nth,V.look,u1,u2,v1,v2,v3,v4,v5,v6,v7,List.length,u3,u4,Nat.reduceSub,Nat.reduceAdd,List.map];subst hK;refine qy ?_;have Xq:=LB.trans w_;have uU:Bytes st2 y b':=Rows.ex ((Ex.push hN _).trans w_) hy Zp;refine qy ?_;(repeat refine qq ?_);(generalize hK:aT _ _ _ _=K);refine ag.ct ?_
   (refine xT ?_)
   (refine xT ?_)
   refine aa.slice rfl rfl rfl uU rfl rfl (l:=g.2) (r:=b'.length) ?_ ⟨by omega,by rw[bM];omega⟩ fun y2 Lf VV=>?_
   ·show cv (byteCells b').length (some (.int .i64 (g.2:Nat))) none=_;rw[bM];simp only[cv,gR,jC,Option.bind_some];rw[if_pos ⟨by omega,by omega⟩];rfl
   (repeat(refine xL ?_));refine aa.nil ?_;dsimp only[Fr.aE,Fr.put,Fr.clean,Fr.ev,Fr.get,nth,V.look,u1,u2,v1,v2,v3,v4,v5,v6,v7,List.length,u3,u4,Nat.reduceSub,Nat.reduceAdd,List.map];subst hK;refine⟨(b'.drop g.2).length,by rw[List.length_drop];omega,y2,C6,_,_,b'.drop g.2,done++[g],rfl,Xq,?_,Nat.le_trans VV Zp,?_,rfl,?_,?_⟩
   ·have:((byteCells b').take b'.length).drop g.2=byteCells (b'.drop g.2):=by
     rw[←bM,List.take_length];simp[byteCells]
    unfold Bytes;rw[←this];exact Lf
   ·rw[List.map_append];exact xf
   ·rw[List.append_assoc,List.singleton_append,←lu,iG oI,hg]
   ·rw[List.length_append,List.length_drop];simp only[List.length_cons,List.length_nil];omega
  (refine qy ?_);(repeat refine qq ?_);refine qc (fun h2=>?_) (fun h2=>?_)<;>try simp only[cs] at h2
  ·refine ag.ct ?_;(repeat(refine xL ?_));refine aa.nil ?_;dsimp only[Fr.aE,Fr.put,Fr.clean,Fr.ev,Fr.get,nth,V.look,u1,u2,v1,v2,v3,v4,v5,v6,v7,List.length,u3,u4,Nat.reduceSub,Nat.reduceAdd,List.map];have:cM b'=(65533,1):=by unfold cM;rw[hf,if_pos (by simpa using h2)]
   rw[this] at H;exact H _
  ·refine ag.skip ?_;have:cM b'=(r0,n0):=by unfold cM;rw[hf,if_neg (by simpa using h2)]
   rw[this] at H;exact H _
 ·refine ag.exit ?_
  have oI:b'=[]:=by cases b' with|nil=>rfl|cons _ _=>simp at h1<;>omega
  subst oI;rw[jZ,List.append_nil] at lu;refine qy ?_;(repeat refine qq ?_);(generalize hK:aT _ _ _ _=K);refine ag.ct ?_;(repeat(first|refine xT ?_|refine xL ?_));refine aa.nil ?_;dsimp only[Fr.aE,Fr.put,Fr.clean,Fr.ev,Fr.get,nth,V.look,u1,u2,v1,v2,v3,v4,v5,v6,v7,List.length,u3,u4,Nat.reduceSub,Nat.reduceAdd,List.map];subst hK;refine qy ?_;refine ag.ret ⟨rx,_,rfl,bO (by simp) (hex.take rfl) ?_⟩;rw[←lu];exact ma.freeze kA (n:=15) (by decide)
structure fz where
 i:Nat
 o:Nat
 g:Nat
 e:Int
 w:Int
def aX (gs:List (Nat×Nat)) (bK:D) (s:fz):List D:=[cB gs,bK,.int .i64 (s.i:Nat),.int .i64 (s.o:Nat),.int .i64 (s.g:Nat),.int .i64 s.e,.int .i64 s.w]
def lh (gs:List (Nat×Nat)) (i:Nat) (r:Int):Bool:=match gs[i]? with
 |some g=>((g.1:Nat):Int)==r
 |none=>false
theorem rC {gs:List (Nat×Nat)} {i:Nat} {r:Int} (h:lh gs i r=true):i<gs.length:=by
 unfold lh at h
 split at h
 ·exact bj (by assumption)
 ·cases h
def dq (gs:List (Nat×Nat)) (s:fz) (r:Int):fz:=if lh gs s.i r=true then{s with i:=s.i+1} else s
def Rl (gs:List (Nat×Nat)) (i:Nat):Bool:=match gs[i]? with
 |some g=>((g.1:Nat):Int)==65533 &&((g.2:Nat):Int)==1
 |none=>false
def jr (a8:List Int) (s:fz) (i:Nat) (e:Int):fz:=if s.e=0 then{s with e:=e,w:=a8.getD i 0} else s
theorem o7 {N k:Nat} {S s0:St} {H:List bC} {gs:List (Nat×Nat)} {bK:D} {s:fz} (pR:gs.length≤1048576) (r:Int) (hH:Has N S s0 (.box k (.mem 0 false (aX gs bK s))::H)):
  ∃d ah,Ev pv 143 [.ptr k 0 0,.int .i32 r] s0 d ah∧d=.bool (lh gs s.i r)∧Has N S ah (.box k (.mem 0 false (aX gs bK s))::H):=by
 refine Ev.iC rfl Uw rfl rfl rfl ?_;dsimp only[u3,u4,List.length,Nat.reduceSub,Nat.reduceAdd,w1,w2];have cQ:=hH;have hH:=hH.cV;have cG:(ai .rw s0).bs=s0.bs:=rfl;generalize ai .rw s0=S2 at*;have DT:Arg N S2 2 (cB gs) (gs.map a7):=Arg.pure (fun st=>dt st gs);refine qq<|qj fun K hK=>qm ?_;refine qe hK ?_
 by_cases ha:s.i<gs.length
 ·obtain⟨g,hg⟩:∃g,gs[s.i]?=some g:=⟨gs[s.i]'ha,List.getElem?_eq_getElem _⟩
  have iv:(gs.map a7)[s.i]?=some (a7 g):=by rw[List.getElem?_map,hg];rfl
  have bh:decide ((s.i:Int)<(gs.length:Nat))=true:=by rw[decide_eq_true];simp;omega
  have hv:lh gs s.i r=(((g.1:Nat):Int)==r):=by unfold lh;rw[hg]
  refine qq<|ag.mH 4 (.bool (((g.1:Nat):Int)==r)) [] ?_ (fun ff tmp=>?_)
  ·refine qm ?_;refine qg ?_;refine qp (o:=2) ?_;refine ql hH au ?_;refine qm ?_;refine qg ?_;refine qp (o:=0) ?_;refine ql hH au ?_;refine qn ?_;simp only[List.length_map];refine qg ?_;refine qm ?_;refine qm ?_ (hg:=wi bh);refine qg ?_ (hg:=wi bh);refine qp (o:=0) ?_ (hg:=wi bh);refine ql hH au ?_ (hg:=wi bh);refine qm ?_ (hg:=wi bh);refine qg ?_ (hg:=wi bh);refine qp (o:=2) ?_ (hg:=wi bh);refine ql hH au ?_ (hg:=wi bh);refine qr (fun U7 Lr=>?_) (hg:=wi bh);refine qf (fo:=0) (fun U6 Lq=>?_) (hg:=wi bh);refine qR ?_ (hg:=wi bh);refine qm ?_ (hg:=wi bh);refine qg ?_ (hg:=wi bh);refine qt bh ?_;refine qm ?_;refine aa.nil (bc ?_);dsimp only[aO,List.foldl,nth,u2,u1];dsimp only[Fr.aE,Fr.put,Fr.clean,Fr.ev,Fr.get,nth,look,u1,u2,v1,v2,v4]
   all_goals(rfl)
  dsimp only[aO,List.foldl,nth,u2,u1];refine ag.ret ⟨rx,_,_,_,rfl,ak (rfl),?_⟩;exact⟨by rw[hv];rfl,cQ.aA cG hH⟩
 ·have bh:decide ((s.i:Int)<(gs.length:Nat))=false:=by rw[decide_eq_false];simp;omega
  have hv:lh gs s.i r=false:=by
   cases h:lh gs s.i r with
   |true=>exact absurd (rC h) ha
   |false=>rfl
  refine qq<|ag.mH 4 (.bool false) [] ?_ (fun ff tmp=>?_)
  ·refine qm ?_;refine qg ?_;refine qp (o:=2) ?_;refine ql hH au ?_;refine qm ?_;refine qg ?_;refine qp (o:=0) ?_;refine ql hH au ?_;refine qn ?_;simp only[List.length_map];refine qg ?_;refine qm ?_;refine qs ?_ (hg:=wn bh);refine qs ?_ (hg:=wn bh);refine qs ?_ (hg:=wn bh);refine qs ?_ (hg:=wn bh);refine qs ?_ (hg:=wn bh);refine qs ?_ (hg:=wn bh);refine qs ?_ (hg:=wn bh);refine qs ?_ (hg:=wn bh);refine qs ?_ (hg:=wn bh);refine qs ?_ (hg:=wn bh);refine qs ?_ (hg:=wn bh);refine qs ?_ (hg:=wn bh);refine qs ?_ (hg:=wn bh);refine qu bh ?_;refine qm ?_;refine aa.nil (bc ?_);dsimp only[aO,List.foldl,nth,u2,u1];dsimp only[Fr.aE,Fr.put,Fr.clean,Fr.ev,Fr.get,nth,look,u1,u2,v1,v2,v4]
   all_goals(first|rfl|(simp[bh];done)|(simp_all;done)|(simp[bh];omega)|(simp_all;omega))
  dsimp only[aO,List.foldl,nth,u2,u1];refine ag.ret ⟨rx,_,_,_,rfl,ak (rfl),?_⟩;exact⟨by rw[hv];rfl,cQ.aA cG hH⟩
theorem eB {N k:Nat} {S s0:St} {H:List bC} {gs:List (Nat×Nat)} {bK:D} {s:fz} (pR:gs.length≤1048576) (r:Int) (hH:Has N S s0 (.box k (.mem 0 false (aX gs bK s))::H)):
  ∃d ah,Ev pv 130 [.ptr k 0 0,.int .i32 r] s0 d ah∧d=.bool (lh gs s.i r)∧Has N S ah (.box k (.mem 0 false (aX gs bK (dq gs s r)))::H):=by
 refine Ev.iC rfl UC rfl rfl rfl ?_;dsimp only[u3,u4,List.length,Nat.reduceSub,Nat.reduceAdd,w1,w2];have cQ:=hH;have hH:=hH.cV;have cG:(ai .rw s0).bs=s0.bs:=rfl;generalize ai .rw s0=S2 at*;refine qq<|qj fun K hK=>qm ?_;refine qe hK<|qq<|qq<|qj fun K hK=>qm ?_;refine qm ?_;obtain⟨_,st,aN,rfl,hH⟩:=o7 pR r hH;refine qv aN ?_;refine qe hK ?_;unfold dq
 cases hb:lh gs s.i r with
 |true=>
  have hlt:=rC hb;dsimp only[aX] at hH;rw[if_pos rfl];refine qB ?_;refine qq<|qj fun K hK=>qm ?_;refine qg ?_;refine qp (o:=2) ?_;refine ql hH au ?_;refine qA ?_;refine qg ?_;refine qp (o:=2) ?_;refine qT hH au fun st hH=>?_;dsimp only[u2,u1,u3,u4,setMany,u5,u6,D.cells,Nat.reduceAdd,aX,a7,aq] at hH;refine qe hK<|qq<|qj fun K hK=>qm ?_;refine qe hK<|ag.ret ⟨rx,_,_,_,rfl,ak (rfl),?_⟩;exact⟨rfl,cQ.aA cG hH⟩
 |false=>
  rw[if_neg (by simp)];refine qC ?_;refine ag.skip<|qq<|qj fun K hK=>qm ?_;refine qe hK<|ag.ret ⟨rx,_,_,_,rfl,ak (rfl),?_⟩;exact⟨rfl,cQ.aA cG hH⟩
theorem zo {N k:Nat} {S s0:St} {H:List bC} {gs:List (Nat×Nat)} {bK:D} {s:fz} (i:Nat) (hi:i<gs.length) (hH:Has N S s0 (.box k (.mem 0 false (aX gs bK s))::H)):
  ∃d ah,Ev pv 166 [.ptr k 0 0,.int .i64 (i:Nat)] s0 d ah∧d=.bool (Rl gs i)∧Has N S ah (.box k (.mem 0 false (aX gs bK s))::H):=by
 refine Ev.iC rfl Uo rfl rfl rfl ?_;dsimp only[u3,u4,List.length,Nat.reduceSub,Nat.reduceAdd,w1,w2];have cQ:=hH;have hH:=hH.cV;have cG:(ai .rw s0).bs=s0.bs:=rfl;generalize ai .rw s0=S2 at*;have DT:Arg N S2 2 (cB gs) (gs.map a7):=Arg.pure (fun st=>dt st gs);refine qq<|qj fun K hK=>qm ?_;refine qe hK ?_
 obtain⟨g,hg⟩:∃g,gs[i]?=some g:=⟨gs[i]'hi,List.getElem?_eq_getElem _⟩
 have iv:(gs.map a7)[i]?=some (a7 g):=by rw[List.getElem?_map,hg];rfl
 have hv:Rl gs i=(((g.1:Nat):Int)==65533 &&((g.2:Nat):Int)==1):=by unfold Rl;rw[hg]
 refine qq<|ag.mH 4 (.bool (((g.1:Nat):Int)==65533 &&((g.2:Nat):Int)==1)) [] ?_ (fun ff tmp=>?_)
 ·refine qm ?_;refine qg ?_;refine qp (o:=0) ?_;refine ql hH au ?_;refine qm ?_;refine qr fun Sd DK=>?_;refine qf (fo:=0) fun Zh Tb=>?_;refine qR ?_;refine qg ?_;refine qm ?_;refine aa.two 14 rfl (fun cx=>?_) (fun cx=>?_)
  ·refine qm ?_ (hg:=wi cx);refine qg ?_ (hg:=wi cx);refine qp (o:=0) ?_ (hg:=wi cx);refine ql hH au ?_ (hg:=wi cx);refine qm ?_ (hg:=wi cx);refine qr (fun Zd S9=>?_) (hg:=wi cx);refine qf (fo:=1) (fun VI Qx=>?_) (hg:=wi cx);refine qR ?_ (hg:=wi cx);refine qg ?_ (hg:=wi cx);refine qt cx ?_;refine qm ?_;refine aa.nil (bc ?_);dsimp only[aO,List.foldl,nth,u2,u1];dsimp only[Fr.aE,Fr.put,Fr.clean,Fr.ev,Fr.get,nth,V.look,u1,u2,v1,v2,v3,v4,v5,v6,v7,List.length,u3,u4,Nat.reduceSub,Nat.reduceAdd,List.map]
   all_goals(simp[cx];done)
  ·refine qs ?_ (hg:=wn cx);refine qs ?_ (hg:=wn cx);refine qs ?_ (hg:=wn cx);refine qs ?_ (hg:=wn cx);refine qs ?_ (hg:=wn cx);refine qs ?_ (hg:=wn cx);refine qs ?_ (hg:=wn cx);refine qs ?_ (hg:=wn cx);refine qs ?_ (hg:=wn cx);refine qu cx ?_;refine qm ?_;refine aa.nil (bc ?_);dsimp only[aO,List.foldl,nth,u2,u1];dsimp only[Fr.aE,Fr.put,Fr.clean,Fr.ev,Fr.get,nth,V.look,u1,u2,v1,v2,v3,v4,v5,v6,v7,List.length,u3,u4,Nat.reduceSub,Nat.reduceAdd,List.map]
   all_goals(simp[cx];done)
 dsimp only[aO,List.foldl,nth,u2,u1];refine ag.ret ⟨rx,_,_,_,rfl,ak (rfl),?_⟩;exact⟨by rw[hv];rfl,cQ.aA cG hH⟩
theorem du {N k:Nat} {S s0:St} {H:List bC} {gs:List (Nat×Nat)} {bK:D} {a8:List Int} {s:fz} (i:Nat) (e:Int) (hi:i<a8.length) (hH:Has N S s0 (.box k (.mem 0 false (aX gs bK s))::.aM bK 1 (a8.map aq)::H)):
  ∃d ah,Ev pv 100 [.ptr k 0 0,.int .i64 (i:Nat),.int .i64 e] s0 d ah∧d=.sl []∧Has N S ah (.box k (.mem 0 false (aX gs bK (jr a8 s i e)))::.aM bK 1 (a8.map aq)::H):=by
 refine Ev.iC rfl UT rfl rfl rfl ?_;dsimp only[u3,u4,List.length,Nat.reduceSub,Nat.reduceAdd,w1,w2];have cQ:=hH;have hH:=hH.cV;have cG:(ai .rw s0).bs=s0.bs:=rfl;generalize ai .rw s0=S2 at*;refine qq<|qj fun K hK=>qm ?_;refine qe hK ?_
 obtain⟨v,hv⟩:∃v,a8[i]?=some v:=⟨a8[i]'hi,List.getElem?_eq_getElem _⟩
 have iv:=eX hv;unfold jr;refine qq<|qq<|qj fun K hK=>qm ?_;refine qg ?_;refine qp (o:=5) ?_;refine ql hH au ?_;refine qg ?_;refine qe hK ?_;refine ag.cond (by rfl) (fun h0=>?_) (fun h0=>?_)<;>try simp only[beq_iff_eq,beq_eq_false_iff_ne,ne_eq] at h0
 ·rw[if_pos h0];have yO:a8.getD i 0=v:=by rw[List.getD_eq_getElem?_getD,hv];rfl
  refine qj fun K hK=>qm ?_;refine qm ?_;refine qm ?_;refine qm ?_;refine qg ?_;refine qp (o:=1) ?_;refine ql hH au ?_;refine qm ?_;refine qi hH aS fun Zd S9=>?_;refine qo hH aS ?_;refine qg ?_;refine qp (o:=5) ?_;refine qT hH au fun st hH=>?_;dsimp only[u2,u1,u3,u4,setMany,u5,u6,D.cells,Nat.reduceAdd,aX,a7,aq] at hH;refine qg ?_;refine qp (o:=6) ?_;refine qT hH au fun st hH=>?_;dsimp only[u2,u1,u3,u4,setMany,u5,u6,D.cells,Nat.reduceAdd,aX,a7,aq] at hH;refine qe hK<|qq<|qj fun K hK=>qm ?_;refine qe hK<|ag.ret ⟨rx,_,_,_,rfl,ak (rfl),?_⟩;exact⟨rfl,by rw[yO];exact cQ.aA cG hH⟩
 ·rw[if_neg h0];refine ag.skip<|qq<|qj fun K hK=>qm ?_;refine qe hK<|ag.ret ⟨rx,_,_,_,rfl,ak (rfl),?_⟩;exact⟨rfl,cQ.aA cG hH⟩
def fk (fr:Go.V.Fr) (k:Nat):Go.V.D:=Go.V.nth .bD fr.loc k
noncomputable def k_ (l:List Rg):List Rg:=@dite _ (∃a,gO l a) (Classical.propDecidable _) (fun h=>Classical.choose h) (fun _=>[])
theorem Dq {l a:List Rg} (h:gO l a):k_ l=a:=by
 have hx:∃a,gO l a:=⟨a,h⟩
 unfold k_;rw[dif_pos hx];exact(Classical.choose_spec hx).unique h
theorem mS {s0:St} {x:D} {l:List Rg} (hx:V.Rows s0 2 x (l.map ay)) (hl:l.length≤1048576):Ev pv 146 [x] s0 (bT (k_ l)) s0∧(k_ l).length≤2*l.length∧gO l (k_ l):=by
 obtain⟨_,aN,all,rfl,hperm,o9⟩:=Ad hx (by omega);have hM:gO l (all.foldl dL []).reverse:=rn (fun x=>hperm.mem_iff) o9;have hlen:=hperm.length_eq;have px:=jm l;have kL:=rA all;rw[Dq hM];exact⟨aN,by rw[List.length_reverse];omega,hM⟩
theorem jK (l:List Rg):eH (bT l) 2 (l.map ay):=by
 rw[←iM];refine eH.frozen ?_ ?_
 ·intro e he;obtain⟨x,_,rfl⟩:=List.mem_map.1 he;rfl
 ·intro e he d hd;obtain⟨x,_,rfl⟩:=List.mem_map.1 he;simp only[ay,List.mem_cons,List.not_mem_nil,or_false] at hd
  rcases hd with rfl|rfl<;>rfl
theorem uM {r:Int} {l a:List Rg} (h0:0≤r) (h1:r<55296) (hr:fW l r) (h:gO l a):a≠[]:=by
 rintro rfl;have:=(h.2 r).2 ⟨by unfold oA;omega,hr⟩;obtain⟨x,hx,_⟩:=this;cases hx
theorem wM {r:Int} (h0:0≤r) (h1:r<55296) {a:List Rg} (h:gO [(r,r)] a):a≠[]:=by
 rintro rfl;have:=(h.2 r).2 ⟨?_,?_⟩
 ·obtain⟨x,hx,_⟩:=this;cases hx
 ·unfold oA;omega
 ·exact⟨(r,r),List.mem_cons_self ..,by simp⟩
theorem jI {s0:St} (r:Int):Ev pv 171 [.int .i32 r] s0 (bT (k_ [(r,r)])) s0:=by
 refine Ev.oj rfl Uj rfl rfl rfl ?_;dsimp only[u3,u4,List.length,Nat.reduceSub,Nat.reduceAdd,w1,w2];obtain⟨cA,hF,hH⟩:=ri s0;generalize ai .ro s0=S at*;refine qq<|qj fun K hK=>qm ?_;refine qe hK<|qq<|qj fun K hK=>qm ?_;refine qm ?_;refine aa.gu (qs:=[(0,_),(1,_)]) rfl rfl rfl rfl ⟨rfl,(ev rfl),(by rfl),rfl,(ev rfl),(by rfl),trivial⟩ (by intro q hq;simp only[List.mem_cons,List.not_mem_nil,or_false] at hq;rcases hq with rfl|rfl<;>exact⟨rfl,by exact Nat.le_of_ble_eq_true rfl⟩) (by show List.foldl _ [_,_] _=_;dsimp only[List.foldl_cons,List.foldl_nil,u2,u1]<;>rfl) (ab rfl _) ?_;refine qh (s:=2) (vs:=[_]) hH fun k6 st E5 hH=>?_;obtain⟨aN,hl,_⟩:=mS (l:=[(r,r)]) (hH.rows au) (by simp);refine qv aN ?_;refine qm ?_;refine qe hK<|ag.ret ⟨rx,_,rfl,rl cA hH (rfl)⟩
theorem Dh {s0:St} {x:D} {l:List Rg} (hx:V.Rows s0 2 x (l.map ay)) (hl:l.length≤131072):∃d,Ev pv 182 [x] s0 d s0∧∃a:List Rg,d=bT a∧a.length≤4*l.length+2:=by
 refine Ev.E0 rfl Uf rfl rfl rfl ?_;dsimp only[u3,u4,List.length,Nat.reduceSub,Nat.reduceAdd,w1,w2];obtain⟨cA,hF,hH⟩:=ri s0;generalize ai .ro s0=S at*;have hx:=Arg.of hx cA;refine qq<|qj fun K hK=>qm ?_;refine qe hK<|qq<|qj fun K hK=>qm ?_;refine qe hK<|qq<|qj fun K hK=>qm ?_;refine qe hK ?_;obtain⟨aN,Bx,_⟩:=mS (hx.rows hH) (by omega);have hla:=(jK (k_ l)).arg s0.bs.length S;generalize k_ l=m at*;refine qq<|qq<|qj fun K hK=>qm ?_;refine qv (aN) ?_;refine qn ?_;simp only[List.length_map];refine qm ?_;refine qe hK ?_;have hH:=hH.er 2;refine ag.block<|ag.loop (fun mm fr st=>∃(i:Nat) (n:Int) (o:D) (out:List Rg),fr.clean=⟨11,[fk fr 0,fk fr 1,fk fr 2,o,.int .i32 n,fk fr 5,fk fr 6,fk fr 7,bT m,.int .i64 (m.length:Nat),.int .i64 (i:Nat)],[]⟩∧Has s0.bs.length S st [.aM o 2 (out.map ay)]∧(i+mm=m.length)∧(out.length=i)) (m.length) ?_ ?_
 ·exact⟨0,0,.nul,[],rfl,hH,by omega,rfl⟩
 rintro mm fr st ⟨i,n,o,out,hfr,hH,hi,ho⟩;rw[hfr];clear hfr;generalize fk fr=ee;clear fr;refine qq<|qj fun K hK=>qg ?_;refine qe hK<|qq ?_;refine ag.cond (by rfl) (fun h1=>?_) (fun h1=>?_)<;>try simp only[decide_eq_true_eq,decide_eq_false_iff_not] at h1
 ·refine ag.skip ?_
  obtain⟨q,hq⟩:∃q,m[i]?=some q:=⟨m[i]'(by omega),List.getElem?_eq_getElem _⟩
  have hr:=gE hq;refine qq<|ag.block<|qq<|qj fun K hK=>qr fun Zg Ta=>?_;refine aa.dJ rfl (ev rfl) (by assumption) rfl (ab rfl _) ?_;refine qa hH fun k6 st E5 hH=>?_;refine qS hH au fun st hH=>?_;dsimp only[u2,u1,u3,u4,setMany,u5,u6,D.cells,Nat.reduceAdd,ay] at hH;refine qe hK<|qq<|qj fun K hK=>qm ?_;refine qm ?_;refine qp (o:=0) ?_;refine ql hH au ?_;refine aa.mO (z:=cp .i32 (q.1-1)) rfl (ev rfl) (ev rfl) rfl (ab rfl _) ?_;refine aa.gu (qs:=[(0,_),(1,_)]) rfl rfl rfl rfl ⟨rfl,(ev rfl),(by rfl),rfl,(ev rfl),(by rfl),trivial⟩ (by intro q hq;simp only[List.mem_cons,List.not_mem_nil,or_false] at hq;rcases hq with rfl|rfl<;>exact⟨rfl,by exact Nat.le_of_ble_eq_true rfl⟩) (by show List.foldl _ [_,_] _=_;dsimp only[List.foldl_cons,List.foldl_nil,u2,u1]<;>rfl) (ab rfl _) ?_;refine qh (s:=2) (vs:=[_]) hH fun k20 st Xb hH=>?_;refine aa.bP (s:=2) hH rfl (ev rfl) (ev rfl) (by exact ba) (by exact hH.rows (by exact au)) rfl rfl rfl rfl rfl rfl rfl ⟨(Nat.le_of_ble_eq_true rfl),(Nat.le_of_ble_eq_true rfl)⟩ (fun _=>(ab rfl _)) (by simp only[List.length_cons,List.length_nil,List.length_map]<;>omega) (by exact .inl hF) (fun x21 st hH=>?_);dsimp only[u2,u1,u3,u4,setMany,u5,u6,D.cells,Nat.reduceAdd,ay] at hH;refine qm ?_;refine qe hK<|qj fun K hK=>qp (o:=1) ?_;refine ql hH aS ?_;refine aa.lE (z:=cp .i32 (q.2+1)) rfl (ev rfl) (ev rfl) rfl (ab rfl _) ?_;refine qm ?_;refine qe hK<|qj fun K hK=>qA ?_;refine qm ?_;refine qe hK ?_;exact⟨mm-1,by omega,⟨i+1,_,_,out++[(n,cp .i32 (q.1-1))],rfl,(by rw[List.map_append];exact hH.drop 2),by omega,by simp[ho]⟩⟩
 ·refine ag.exit<|qq<|qj fun K hK=>qm ?_;refine qm ?_;refine aa.gu (qs:=[(0,_),(1,_)]) rfl rfl rfl rfl ⟨rfl,(ev rfl),(by rfl),rfl,(ev rfl),(by rfl),trivial⟩ (by intro q hq;simp only[List.mem_cons,List.not_mem_nil,or_false] at hq;rcases hq with rfl|rfl<;>exact⟨rfl,by exact Nat.le_of_ble_eq_true rfl⟩) (by show List.foldl _ [_,_] _=_;dsimp only[List.foldl_cons,List.foldl_nil,u2,u1]<;>rfl) (ab rfl _) ?_;refine qh (s:=2) (vs:=[_]) hH fun k29 st aaX hH=>?_;refine aa.bP (s:=2) hH rfl (ev rfl) (ev rfl) (by exact aS) (by exact hH.rows (by exact au)) rfl rfl rfl rfl rfl rfl rfl ⟨(Nat.le_of_ble_eq_true rfl),(Nat.le_of_ble_eq_true rfl)⟩ (fun _=>(ab rfl _)) (by simp only[List.length_cons,List.length_nil,List.length_map]<;>omega) (by exact .inl hF) (fun x30 st hH=>?_);dsimp only[u2,u1,u3,u4,setMany,u5,u6,D.cells,Nat.reduceAdd,ay] at hH;obtain⟨aN,mh,_⟩:=mS (l:=out++[(n,1114111)]) (by rw[List.map_append];exact hH.rows aS) (by simp;omega);refine qv aN ?_;refine qm ?_;refine qe hK<|ag.ret ⟨rx,_,_,rfl,rl cA hH (rfl),?_⟩;exact⟨_,rfl,by simp at mh;omega⟩
theorem Q_ {s0:St}:∃d,Ev pv 170 [] s0 d s0∧∃a:List Rg,d=bT a∧a.length≤6:=by
 refine Ev.E0 rfl Uk rfl rfl rfl ?_;dsimp only[u3,u4,List.length,Nat.reduceSub,Nat.reduceAdd,w1,w2];obtain⟨cA,hF,hH⟩:=ri s0;generalize ai .ro s0=S at*;refine qq<|qj fun K hK=>qm ?_;refine qe hK<|qq<|qj fun K hK=>?_;refine aa.gu (qs:=[(0,_),(1,_)]) rfl rfl rfl rfl ⟨rfl,(ev rfl),(by rfl),rfl,(ev rfl),(by rfl),trivial⟩ (by intro q hq;simp only[List.mem_cons,List.not_mem_nil,or_false] at hq;rcases hq with rfl|rfl<;>exact⟨rfl,by exact Nat.le_of_ble_eq_true rfl⟩) (by show List.foldl _ [_,_] _=_;dsimp only[List.foldl_cons,List.foldl_nil,u2,u1]<;>rfl) (ab rfl _) ?_;refine qh (s:=2) (vs:=[_]) hH fun k2 st hk2 hH=>?_;obtain⟨_,aN,a,rfl,hl⟩:=Dh (l:=[(10,10)]) (hH.rows au) (by simp);refine qv aN ?_;refine qm ?_;refine qe hK<|ag.ret ⟨rx,_,_,rfl,rl cA hH (rfl),?_⟩;exact⟨a,rfl,hl⟩
theorem K9 {s0:St} (r:Int):Ev pv 183 [.int .i32 r] s0 (.bool (decide (33≤r∧r≤47∨58≤r∧r≤64∨91≤r∧r≤96∨123≤r∧r≤126))) s0:=by
 refine Ev.oj rfl Ue rfl rfl rfl ?_;dsimp only[u3,u4,List.length,Nat.reduceSub,Nat.reduceAdd,w1,w2];obtain⟨cA,hF,hH⟩:=ri s0;generalize ai .ro s0=S at*;refine qq<|qj fun K hK=>qm ?_;refine qe hK<|qq<|ag.mH 2 (.bool (decide (33≤r∧r≤47∨58≤r∧r≤64∨91≤r∧r≤96∨123≤r∧r≤126))) [] ?_ (fun ff tmp=>?_)
 ·refine qm ?_;refine qg ?_;refine qm ?_;refine aa.two 5 rfl (fun bz=>?_) (fun bz=>?_)
  ·refine qm ?_ (hg:=wi bz);refine qg ?_ (hg:=wi bz);refine qt bz ?_;refine qm ?_;refine aa.two 9 rfl (fun eY=>?_) (fun eY=>?_)
   ·refine qs ?_ (hg:=wn eY);refine qs ?_ (hg:=wn eY);refine qs ?_ (hg:=wn eY);refine qs ?_;refine qs ?_;refine qs ?_ (hg:=wn eY);refine qt eY ?_;refine qm ?_;refine qs ?_;refine qs ?_;refine qs ?_;refine qs ?_;refine qs ?_;refine qs ?_;refine qg ?_;refine qm ?_;refine qs ?_;refine qs ?_;refine qs ?_;refine qs ?_;refine qs ?_;refine qs ?_;refine qg ?_;refine qm ?_;refine aa.nil (bc ?_);dsimp only[aO,List.foldl,nth,u2,u1];dsimp only[Fr.aE,Fr.put,Fr.clean,Fr.ev,Fr.get,nth,V.look,u1,u2,v1,v2,v3,v4,v5,v6,v7,List.length,u3,u4,Nat.reduceSub,Nat.reduceAdd,List.map]
    all_goals(simp[bz,eY];done)
   ·refine qm ?_ (hg:=wi eY);refine qg ?_ (hg:=wi eY);refine qm ?_ (hg:=wi eY);refine aa.two 12 rfl (fun cx=>?_) (fun cx=>?_)
    ·refine qm ?_ (hg:=wi cx);refine qg ?_ (hg:=wi cx);refine aa.dU (aC rfl rfl rfl eY) rfl cx (ab rfl _) ?_;refine qu eY ?_;refine qm ?_;refine aa.two 17 rfl (fun ec=>?_) (fun ec=>?_)
     ·refine qs ?_ (hg:=wn ec);refine qs ?_ (hg:=wn ec);refine qs ?_ (hg:=wn ec);refine qs ?_;refine qs ?_;refine qs ?_ (hg:=wn ec);refine qt ec ?_;refine qm ?_;refine qs ?_;refine qs ?_;refine qs ?_;refine qs ?_;refine qs ?_;refine qs ?_;refine qg ?_;refine qm ?_;refine aa.nil (bc ?_);dsimp only[aO,List.foldl,nth,u2,u1];dsimp only[Fr.aE,Fr.put,Fr.clean,Fr.ev,Fr.get,nth,V.look,u1,u2,v1,v2,v3,v4,v5,v6,v7,List.length,u3,u4,Nat.reduceSub,Nat.reduceAdd,List.map]
      all_goals(simp[bz,eY,cx,ec];done)
     ·refine qm ?_ (hg:=wi ec);refine qg ?_ (hg:=wi ec);refine qm ?_ (hg:=wi ec);refine aa.two 20 rfl (fun bn=>?_) (fun bn=>?_)
      ·refine qm ?_ (hg:=wi bn);refine qg ?_ (hg:=wi bn);refine aa.dU (aC rfl rfl rfl ec) rfl bn (ab rfl _) ?_;refine qu ec ?_;refine qm ?_;refine aa.two 25 rfl (fun bE=>?_) (fun bE=>?_)
       ·refine qs ?_ (hg:=wn bE);refine qs ?_ (hg:=wn bE);refine qs ?_ (hg:=wn bE);refine qs ?_;refine qs ?_;refine qs ?_ (hg:=wn bE);refine qt bE ?_;refine qm ?_;refine aa.nil (bc ?_);dsimp only[aO,List.foldl,nth,u2,u1];dsimp only[Fr.aE,Fr.put,Fr.clean,Fr.ev,Fr.get,nth,V.look,u1,u2,v1,v2,v3,v4,v5,v6,v7,List.length,u3,u4,Nat.reduceSub,Nat.reduceAdd,List.map]
        all_goals(simp[bz,eY,cx,ec,bn,bE];done)
       ·refine qm ?_ (hg:=wi bE);refine qg ?_ (hg:=wi bE);refine qm ?_ (hg:=wi bE);refine aa.two 28 rfl (fun bu=>?_) (fun bu=>?_)
        ·refine qm ?_ (hg:=wi bu);refine qg ?_ (hg:=wi bu);refine aa.dU (aC rfl rfl rfl bE) rfl bu (ab rfl _) ?_;refine qu bE ?_;refine qm ?_;refine aa.nil (bc ?_);dsimp only[aO,List.foldl,nth,u2,u1];dsimp only[Fr.aE,Fr.put,Fr.clean,Fr.ev,Fr.get,nth,V.look,u1,u2,v1,v2,v3,v4,v5,v6,v7,List.length,u3,u4,Nat.reduceSub,Nat.reduceAdd,List.map]
         all_goals(simp[bz,eY,cx,ec,bn,bE,bu];done)
        ·refine qs ?_ (hg:=wn bu);refine qs ?_ (hg:=wn bu);refine aa.dr (aC rfl rfl rfl bE) rfl bu (ab rfl _) ?_;refine qu bE ?_;refine qm ?_;refine aa.nil (bc ?_);dsimp only[aO,List.foldl,nth,u2,u1];dsimp only[Fr.aE,Fr.put,Fr.clean,Fr.ev,Fr.get,nth,V.look,u1,u2,v1,v2,v3,v4,v5,v6,v7,List.length,u3,u4,Nat.reduceSub,Nat.reduceAdd,List.map]
         all_goals(simp[bz,eY,cx,ec,bn,bE,bu];done)
      ·refine qs ?_ (hg:=wn bn);refine qs ?_ (hg:=wn bn);refine aa.dr (aC rfl rfl rfl ec) rfl bn (ab rfl _) ?_;refine qu ec ?_;refine qm ?_;refine qm ?_;refine qg ?_;refine qm ?_;refine aa.two 28 rfl (fun bu=>?_) (fun bu=>?_)
       ·refine qm ?_ (hg:=wi bu);refine qg ?_ (hg:=wi bu);refine qt bu ?_;refine qg ?_;refine qm ?_;refine aa.nil (bc ?_);dsimp only[aO,List.foldl,nth,u2,u1];dsimp only[Fr.aE,Fr.put,Fr.clean,Fr.ev,Fr.get,nth,V.look,u1,u2,v1,v2,v3,v4,v5,v6,v7,List.length,u3,u4,Nat.reduceSub,Nat.reduceAdd,List.map]
        all_goals(simp[bz,eY,cx,ec,bn,bu];done)
       ·refine qs ?_ (hg:=wn bu);refine qs ?_ (hg:=wn bu);refine qu bu ?_;refine qg ?_;refine qm ?_;refine aa.nil (bc ?_);dsimp only[aO,List.foldl,nth,u2,u1];dsimp only[Fr.aE,Fr.put,Fr.clean,Fr.ev,Fr.get,nth,V.look,u1,u2,v1,v2,v3,v4,v5,v6,v7,List.length,u3,u4,Nat.reduceSub,Nat.reduceAdd,List.map]
        all_goals(simp[bz,eY,cx,ec,bn,bu];done)
    ·refine qs ?_ (hg:=wn cx);refine qs ?_ (hg:=wn cx);refine aa.dr (aC rfl rfl rfl eY) rfl cx (ab rfl _) ?_;refine qu eY ?_;refine qm ?_;refine qm ?_;refine qg ?_;refine qm ?_;refine aa.two 20 rfl (fun bn=>?_) (fun bn=>?_)
     ·refine qm ?_ (hg:=wi bn);refine qg ?_ (hg:=wi bn);refine qt bn ?_;refine qg ?_;refine qm ?_;refine aa.two 25 rfl (fun bE=>?_) (fun bE=>?_)
      ·refine qs ?_ (hg:=wn bE);refine qs ?_ (hg:=wn bE);refine qs ?_ (hg:=wn bE);refine qs ?_;refine qs ?_;refine qs ?_ (hg:=wn bE);refine qt bE ?_;refine qm ?_;refine aa.nil (bc ?_);dsimp only[aO,List.foldl,nth,u2,u1];dsimp only[Fr.aE,Fr.put,Fr.clean,Fr.ev,Fr.get,nth,V.look,u1,u2,v1,v2,v3,v4,v5,v6,v7,List.length,u3,u4,Nat.reduceSub,Nat.reduceAdd,List.map]
       all_goals(simp[bz,eY,cx,bn,bE];done)
      ·refine qm ?_ (hg:=wi bE);refine qg ?_ (hg:=wi bE);refine qm ?_ (hg:=wi bE);refine aa.two 28 rfl (fun bu=>?_) (fun bu=>?_)
       ·refine qm ?_ (hg:=wi bu);refine qg ?_ (hg:=wi bu);refine aa.dU (aC rfl rfl rfl bE) rfl bu (ab rfl _) ?_;refine qu bE ?_;refine qm ?_;refine aa.nil (bc ?_);dsimp only[aO,List.foldl,nth,u2,u1];dsimp only[Fr.aE,Fr.put,Fr.clean,Fr.ev,Fr.get,nth,V.look,u1,u2,v1,v2,v3,v4,v5,v6,v7,List.length,u3,u4,Nat.reduceSub,Nat.reduceAdd,List.map]
        all_goals(simp[bz,eY,cx,bn,bE,bu];done)
       ·refine qs ?_ (hg:=wn bu);refine qs ?_ (hg:=wn bu);refine aa.dr (aC rfl rfl rfl bE) rfl bu (ab rfl _) ?_;refine qu bE ?_;refine qm ?_;refine aa.nil (bc ?_);dsimp only[aO,List.foldl,nth,u2,u1];dsimp only[Fr.aE,Fr.put,Fr.clean,Fr.ev,Fr.get,nth,V.look,u1,u2,v1,v2,v3,v4,v5,v6,v7,List.length,u3,u4,Nat.reduceSub,Nat.reduceAdd,List.map]
        all_goals(simp[bz,eY,cx,bn,bE,bu];done)
     ·refine qs ?_ (hg:=wn bn);refine qs ?_ (hg:=wn bn);refine qu bn ?_;refine qg ?_;refine qm ?_;refine qm ?_;refine qg ?_;refine qm ?_;refine aa.two 28 rfl (fun bu=>?_) (fun bu=>?_)
      ·refine qm ?_ (hg:=wi bu);refine qg ?_ (hg:=wi bu);refine qt bu ?_;refine qg ?_;refine qm ?_;refine aa.nil (bc ?_);dsimp only[aO,List.foldl,nth,u2,u1];dsimp only[Fr.aE,Fr.put,Fr.clean,Fr.ev,Fr.get,nth,V.look,u1,u2,v1,v2,v3,v4,v5,v6,v7,List.length,u3,u4,Nat.reduceSub,Nat.reduceAdd,List.map]
       all_goals(simp[bz,eY,cx,bn,bu];done)
      ·refine qs ?_ (hg:=wn bu);refine qs ?_ (hg:=wn bu);refine qu bu ?_;refine qg ?_;refine qm ?_;refine aa.nil (bc ?_);dsimp only[aO,List.foldl,nth,u2,u1];dsimp only[Fr.aE,Fr.put,Fr.clean,Fr.ev,Fr.get,nth,V.look,u1,u2,v1,v2,v3,v4,v5,v6,v7,List.length,u3,u4,Nat.reduceSub,Nat.reduceAdd,List.map]
       all_goals(simp[bz,eY,cx,bn,bu];done)
  ·refine qs ?_ (hg:=wn bz);refine qs ?_ (hg:=wn bz);refine qu bz ?_;refine qm ?_;refine qm ?_;refine qg ?_;refine qm ?_;refine aa.two 12 rfl (fun cx=>?_) (fun cx=>?_)
   ·refine qm ?_ (hg:=wi cx);refine qg ?_ (hg:=wi cx);refine qt cx ?_;refine qg ?_;refine qm ?_;refine aa.two 17 rfl (fun ec=>?_) (fun ec=>?_)
    ·refine qs ?_ (hg:=wn ec);refine qs ?_ (hg:=wn ec);refine qs ?_ (hg:=wn ec);refine qs ?_;refine qs ?_;refine qs ?_ (hg:=wn ec);refine qt ec ?_;refine qm ?_;refine qs ?_;refine qs ?_;refine qs ?_;refine qs ?_;refine qs ?_;refine qs ?_;refine qg ?_;refine qm ?_;refine aa.nil (bc ?_);dsimp only[aO,List.foldl,nth,u2,u1];dsimp only[Fr.aE,Fr.put,Fr.clean,Fr.ev,Fr.get,nth,V.look,u1,u2,v1,v2,v3,v4,v5,v6,v7,List.length,u3,u4,Nat.reduceSub,Nat.reduceAdd,List.map]
     all_goals(simp[bz,cx,ec];done)
    ·refine qm ?_ (hg:=wi ec);refine qg ?_ (hg:=wi ec);refine qm ?_ (hg:=wi ec);refine aa.two 20 rfl (fun bn=>?_) (fun bn=>?_)
     ·refine qm ?_ (hg:=wi bn);refine qg ?_ (hg:=wi bn);refine aa.dU (aC rfl rfl rfl ec) rfl bn (ab rfl _) ?_;refine qu ec ?_;refine qm ?_;refine aa.two 25 rfl (fun bE=>?_) (fun bE=>?_)
      ·refine qs ?_ (hg:=wn bE);refine qs ?_ (hg:=wn bE);refine qs ?_ (hg:=wn bE);refine qs ?_;refine qs ?_;refine qs ?_ (hg:=wn bE);refine qt bE ?_;refine qm ?_;refine aa.nil (bc ?_);dsimp only[aO,List.foldl,nth,u2,u1];dsimp only[Fr.aE,Fr.put,Fr.clean,Fr.ev,Fr.get,nth,V.look,u1,u2,v1,v2,v3,v4,v5,v6,v7,List.length,u3,u4,Nat.reduceSub,Nat.reduceAdd,List.map]
       all_goals(simp[bz,cx,ec,bn,bE];done)
      ·refine qm ?_ (hg:=wi bE);refine qg ?_ (hg:=wi bE);refine qm ?_ (hg:=wi bE);refine aa.two 28 rfl (fun bu=>?_) (fun bu=>?_)
       ·refine qm ?_ (hg:=wi bu);refine qg ?_ (hg:=wi bu);refine aa.dU (aC rfl rfl rfl bE) rfl bu (ab rfl _) ?_;refine qu bE ?_;refine qm ?_;refine aa.nil (bc ?_);dsimp only[aO,List.foldl,nth,u2,u1];dsimp only[Fr.aE,Fr.put,Fr.clean,Fr.ev,Fr.get,nth,V.look,u1,u2,v1,v2,v3,v4,v5,v6,v7,List.length,u3,u4,Nat.reduceSub,Nat.reduceAdd,List.map]
        all_goals(simp[bz,cx,ec,bn,bE,bu];done)
       ·refine qs ?_ (hg:=wn bu);refine qs ?_ (hg:=wn bu);refine aa.dr (aC rfl rfl rfl bE) rfl bu (ab rfl _) ?_;refine qu bE ?_;refine qm ?_;refine aa.nil (bc ?_);dsimp only[aO,List.foldl,nth,u2,u1];dsimp only[Fr.aE,Fr.put,Fr.clean,Fr.ev,Fr.get,nth,V.look,u1,u2,v1,v2,v3,v4,v5,v6,v7,List.length,u3,u4,Nat.reduceSub,Nat.reduceAdd,List.map]
        all_goals(simp[bz,cx,ec,bn,bE,bu];done)
     ·refine qs ?_ (hg:=wn bn);refine qs ?_ (hg:=wn bn);refine aa.dr (aC rfl rfl rfl ec) rfl bn (ab rfl _) ?_;refine qu ec ?_;refine qm ?_;refine qm ?_;refine qg ?_;refine qm ?_;refine aa.two 28 rfl (fun bu=>?_) (fun bu=>?_)
      ·refine qm ?_ (hg:=wi bu);refine qg ?_ (hg:=wi bu);refine qt bu ?_;refine qg ?_;refine qm ?_;refine aa.nil (bc ?_);dsimp only[aO,List.foldl,nth,u2,u1];dsimp only[Fr.aE,Fr.put,Fr.clean,Fr.ev,Fr.get,nth,V.look,u1,u2,v1,v2,v3,v4,v5,v6,v7,List.length,u3,u4,Nat.reduceSub,Nat.reduceAdd,List.map]
       all_goals(simp[bz,cx,ec,bn,bu];done)
      ·refine qs ?_ (hg:=wn bu);refine qs ?_ (hg:=wn bu);refine qu bu ?_;refine qg ?_;refine qm ?_;refine aa.nil (bc ?_);dsimp only[aO,List.foldl,nth,u2,u1];dsimp only[Fr.aE,Fr.put,Fr.clean,Fr.ev,Fr.get,nth,V.look,u1,u2,v1,v2,v3,v4,v5,v6,v7,List.length,u3,u4,Nat.reduceSub,Nat.reduceAdd,List.map]
       all_goals(simp[bz,cx,ec,bn,bu];done)
   ·refine qs ?_ (hg:=wn cx);refine qs ?_ (hg:=wn cx);refine qu cx ?_;refine qg ?_;refine qm ?_;refine qm ?_;refine qg ?_;refine qm ?_;refine aa.two 20 rfl (fun bn=>?_) (fun bn=>?_)
    ·refine qm ?_ (hg:=wi bn);refine qg ?_ (hg:=wi bn);refine qt bn ?_;refine qg ?_;refine qm ?_;refine aa.two 25 rfl (fun bE=>?_) (fun bE=>?_)
     ·refine qs ?_ (hg:=wn bE);refine qs ?_ (hg:=wn bE);refine qs ?_ (hg:=wn bE);refine qs ?_;refine qs ?_;refine qs ?_ (hg:=wn bE);refine qt bE ?_;refine qm ?_;refine aa.nil (bc ?_);dsimp only[aO,List.foldl,nth,u2,u1];dsimp only[Fr.aE,Fr.put,Fr.clean,Fr.ev,Fr.get,nth,V.look,u1,u2,v1,v2,v3,v4,v5,v6,v7,List.length,u3,u4,Nat.reduceSub,Nat.reduceAdd,List.map]
      all_goals(simp[bz,cx,bn,bE];done)
     ·refine qm ?_ (hg:=wi bE);refine qg ?_ (hg:=wi bE);refine qm ?_ (hg:=wi bE);refine aa.two 28 rfl (fun bu=>?_) (fun bu=>?_)
      ·refine qm ?_ (hg:=wi bu);refine qg ?_ (hg:=wi bu);refine aa.dU (aC rfl rfl rfl bE) rfl bu (ab rfl _) ?_;refine qu bE ?_;refine qm ?_;refine aa.nil (bc ?_);dsimp only[aO,List.foldl,nth,u2,u1];dsimp only[Fr.aE,Fr.put,Fr.clean,Fr.ev,Fr.get,nth,V.look,u1,u2,v1,v2,v3,v4,v5,v6,v7,List.length,u3,u4,Nat.reduceSub,Nat.reduceAdd,List.map]
       all_goals(simp[bz,cx,bn,bE,bu];done)
      ·refine qs ?_ (hg:=wn bu);refine qs ?_ (hg:=wn bu);refine aa.dr (aC rfl rfl rfl bE) rfl bu (ab rfl _) ?_;refine qu bE ?_;refine qm ?_;refine aa.nil (bc ?_);dsimp only[aO,List.foldl,nth,u2,u1];dsimp only[Fr.aE,Fr.put,Fr.clean,Fr.ev,Fr.get,nth,V.look,u1,u2,v1,v2,v3,v4,v5,v6,v7,List.length,u3,u4,Nat.reduceSub,Nat.reduceAdd,List.map]
       all_goals(simp[bz,cx,bn,bE,bu];done)
    ·refine qs ?_ (hg:=wn bn);refine qs ?_ (hg:=wn bn);refine qu bn ?_;refine qg ?_;refine qm ?_;refine qm ?_;refine qg ?_;refine qm ?_;refine aa.two 28 rfl (fun bu=>?_) (fun bu=>?_)
     ·refine qm ?_ (hg:=wi bu);refine qg ?_ (hg:=wi bu);refine qt bu ?_;refine qg ?_;refine qm ?_;refine aa.nil (bc ?_);dsimp only[aO,List.foldl,nth,u2,u1];dsimp only[Fr.aE,Fr.put,Fr.clean,Fr.ev,Fr.get,nth,V.look,u1,u2,v1,v2,v3,v4,v5,v6,v7,List.length,u3,u4,Nat.reduceSub,Nat.reduceAdd,List.map]
      all_goals(simp[bz,cx,bn,bu];done)
     ·refine qs ?_ (hg:=wn bu);refine qs ?_ (hg:=wn bu);refine qu bu ?_;refine qg ?_;refine qm ?_;refine aa.nil (bc ?_);dsimp only[aO,List.foldl,nth,u2,u1];dsimp only[Fr.aE,Fr.put,Fr.clean,Fr.ev,Fr.get,nth,V.look,u1,u2,v1,v2,v3,v4,v5,v6,v7,List.length,u3,u4,Nat.reduceSub,Nat.reduceAdd,List.map]
      all_goals(simp[bz,cx,bn,bu];done)
 dsimp only[aO,List.foldl,nth,u2,u1];refine ag.ret ⟨rx,_,rfl,rl cA hH (rfl)⟩
theorem K_ {s0:St} (a b:List UInt8):∃d,Ev pv 173 [.str a,.str b] s0 d s0∧∃v:Bool,d=.bool v:=by
 refine Ev.E0 rfl Ui rfl rfl rfl ?_;dsimp only[u3,u4,List.length,Nat.reduceSub,Nat.reduceAdd,w1,w2];obtain⟨cA,hF,hH⟩:=ri s0;generalize ai .ro s0=S at*;refine qq<|qj fun K hK=>qm ?_;refine qe hK<|qq<|ag.mH 4 (.bool (decide ((a.length:Int)<b.length)||(((a.length:Int)==b.length) &&Op.bytesLess a b))) [] ?_ (fun ff tmp=>?_)
 ·refine qm ?_;refine aa.kQ rfl rfl rfl (ab rfl _) ?_;refine qm ?_;refine aa.kQ rfl rfl rfl (ab rfl _) ?_;refine qg ?_;refine qm ?_;refine aa.two 10 rfl (fun bN=>?_) (fun bN=>?_)
  ·refine qs ?_ (hg:=wn bN);refine qs ?_ (hg:=wn bN);refine qs ?_ (hg:=wn bN);refine qs ?_ (hg:=wn bN);refine qs ?_ (hg:=wn bN);refine qs ?_ (hg:=wn bN);refine qs ?_;refine qs ?_;refine qs ?_;refine qs ?_ (hg:=wn bN);refine qt bN ?_;refine qm ?_;refine aa.nil (bc ?_);dsimp only[aO,List.foldl,nth,u2,u1];dsimp only[Fr.aE,Fr.put,Fr.clean,Fr.ev,Fr.get,nth,V.look,u1,u2,v1,v2,v3,v4,v5,v6,v7,List.length,u3,u4,Nat.reduceSub,Nat.reduceAdd,List.map]
   all_goals(simp_all;done)
  ·refine qm ?_ (hg:=wi bN);refine aa.kQ (aC rfl rfl rfl bN) rfl rfl (ab rfl _) ?_;refine qm ?_ (hg:=wi bN);refine aa.kQ (aC rfl rfl rfl bN) rfl rfl (ab rfl _) ?_;refine qg ?_ (hg:=wi bN);refine qm ?_ (hg:=wi bN);refine aa.two 16 rfl (fun bR=>?_) (fun bR=>?_)
   ·refine qm ?_ (hg:=wi bR);refine qm ?_ (hg:=wi bR);refine qg ?_ (hg:=wi bR);refine aa.dU (aC rfl rfl rfl bN) rfl bR (ab rfl _) ?_;refine qu bN ?_;refine qm ?_;refine aa.nil (bc ?_);dsimp only[aO,List.foldl,nth,u2,u1];dsimp only[Fr.aE,Fr.put,Fr.clean,Fr.ev,Fr.get,nth,V.look,u1,u2,v1,v2,v3,v4,v5,v6,v7,List.length,u3,u4,Nat.reduceSub,Nat.reduceAdd,List.map]
    all_goals(simp_all;done)
   ·refine qs ?_ (hg:=wn bR);refine qs ?_ (hg:=wn bR);refine qs ?_ (hg:=wn bR);refine aa.dr (aC rfl rfl rfl bN) rfl bR (ab rfl _) ?_;refine qu bN ?_;refine qm ?_;refine aa.nil (bc ?_);dsimp only[aO,List.foldl,nth,u2,u1];dsimp only[Fr.aE,Fr.put,Fr.clean,Fr.ev,Fr.get,nth,V.look,u1,u2,v1,v2,v3,v4,v5,v6,v7,List.length,u3,u4,Nat.reduceSub,Nat.reduceAdd,List.map]
    all_goals(simp_all;done)
 dsimp only[aO,List.foldl,nth,u2,u1];refine ag.ret ⟨rx,_,_,rfl,rl cA hH (rfl),?_⟩;exact⟨_,rfl⟩
theorem mM {s0:St} (b:List UInt8) (hb:b.length≤1048576):∃d,Ev pv 174 [.str b] s0 d s0∧∃(n:Int) (v:Bool),d=.tup [.int .i64 n,.bool v]:=by
 refine Ev.E0 rfl Uh rfl rfl rfl ?_;dsimp only[u3,u4,List.length,Nat.reduceSub,Nat.reduceAdd,w1,w2];obtain⟨cA,hF,hH⟩:=ri s0;generalize ai .ro s0=S at*;refine qq<|qj fun K hK=>qm ?_;refine qm ?_;refine qe hK<|qq<|qq<|qj fun K hK=>qm ?_;refine aa.kQ rfl rfl rfl (by dsimp only[Fr.put,u1,u2]<;>rfl) ?_;refine qg ?_;refine qe hK ?_;refine ag.cond (by rfl) (fun h0=>?_) (fun h0=>?_)<;>try simp only[decide_eq_true_eq,decide_eq_false_iff_not] at h0
 ·refine qq<|qj fun K hK=>qm ?_;refine qm ?_;refine qe hK<|ag.ret ⟨rx,_,_,rfl,rl cA hH (rfl),?_⟩;exact⟨_,_,rfl⟩
 ·refine ag.skip<|qq<|qj fun K hK=>qm ?_;refine qe hK<|qq<|qq<|qj fun K hK=>qm ?_;refine aa.kQ rfl rfl rfl (by dsimp only[Fr.put,u1,u2]<;>rfl) ?_;refine qm ?_;refine qe hK<|ag.block<|ag.loop (fun mm fr st=>∃(i:Nat) (n:Int),fr.clean=⟨12,[.str b,fk fr 1,fk fr 2,fk fr 3,.int .i64 n,fk fr 5,fk fr 6,fk fr 7,fk fr 8,fk fr 9,.int .i64 (b.length:Nat),.int .i64 (i:Nat)],[]⟩∧Has s0.bs.length S st []∧(i+mm=b.length)) (b.length) ?_ ?_
  ·exact⟨0,0,rfl,hH,by omega⟩
  rintro mm fr st ⟨i,n,hfr,hH,hi⟩;rw[hfr];clear hfr;generalize fk fr=ee;clear fr;refine qq<|qj fun K hK=>qg ?_;refine qe hK<|qq ?_;refine ag.cond (by rfl) (fun h1=>?_) (fun h1=>?_)<;>try simp only[decide_eq_true_eq,decide_eq_false_iff_not] at h1
  ·refine ag.skip ?_
   obtain⟨c,hc⟩:∃c,b[i]?=some c:=⟨b[i]'(by omega),List.getElem?_eq_getElem _⟩
   refine qq<|ag.block<|qq<|qj fun K hK=>qm ?_;refine qm ?_;refine qe hK<|qj fun K hK=>qm ?_;refine aa.uG (z:=cp .i64 (10*n)) rfl (ev rfl) (ev rfl) rfl (ab rfl _) ?_;refine qm ?_;refine qm ?_;refine aa.VA rfl (ev rfl) (ev rfl) rfl (by assumption) (ab rfl _) ?_;refine aa.go (d:=.int .u8 (cp .u8 ((c.toNat:Nat)-48))) (st1:=_) rfl rfl rfl (ab rfl _) ?_;refine qg ?_;refine aa.lE (z:=cp .i64 (cp .i64 (10*n)+cp .i64 (cp .u8 ((c.toNat:Nat)-48)))) rfl (ev rfl) (ev rfl) rfl (ab rfl _) ?_;refine qm ?_;refine qe hK<|qj fun K hK=>qA ?_;refine qm ?_;refine qe hK ?_;exact⟨mm-1,by omega,⟨i+1,_,rfl,hH,by omega⟩⟩
  ·refine ag.exit<|qq<|qj fun K hK=>qm ?_;refine qm ?_;refine qg ?_;refine qm ?_;refine qm ?_;refine qe hK<|ag.ret ⟨rx,_,_,rfl,rl cA hH (rfl),?_⟩;exact⟨_,_,rfl⟩
theorem oZ:∀gs:List (Nat×Nat),j_ ((gs.map a7).map (kH 2))=some (gs.map fun g=>((g.1:Nat):Int))
 |[]=>rfl
 |g::gs=>by
  have ih:=oZ gs;simp only[List.map_cons];show(match j_ ((gs.map a7).map (kH 2)) with|some rs=>some (((g.1:Nat):Int)::rs)|none=>none)=_;rw[ih]
theorem xm:∀(rs:List Int) (acc:List UInt8),(digS rs acc).2≤rs.length∧(digS rs acc).1.length≤acc.length+(digS rs acc).2
 |[],acc=>by simp[digS]
 |r::rs,acc=>by
  unfold digS
  split
  ·have h:=xm rs (if 48<r∨acc≠[] then acc++[UInt8.ofNat r.toNat] else acc);simp only[List.length_cons]
   have hl:(if 48<r∨acc≠[] then acc++[UInt8.ofNat r.toNat] else acc).length≤acc.length+1:=by
    split<;>simp
   omega
  ·simp
structure lF (gs:List (Nat×Nat)) (a8:List Int):Prop where
 gl:gs.length≤120
 pl:a8.length=gs.length
theorem tR {N k:Nat} {S s0:St} {H:List bC} {gs:List (Nat×Nat)} {bK:D} {s:fz} (pR:gs.length≤120) (hi:s.i≤gs.length) (hne:gs≠[]) (hH:Has N S s0 (.box k (.mem 0 false (aX gs bK s))::H)):
  ∃d ah,Ev pv 172 [.ptr k 0 0] s0 d ah∧∃(t:List UInt8) (v:Bool) (m:Nat),d=.tup [.str t,.bool v]∧t.length≤120∧s.i+m≤gs.length∧Has N S ah (.box k (.mem 0 false (aX gs bK {s with i:=s.i+m}))::H):=by
 have hb:=hH.at au;have hw:=jW (cs:=[.int .i64 0]) hH (hH.ge au).1 (.inr rfl);have hl:=xm ((gs.map fun g=>((g.1:Nat):Int)).drop s.i) [];obtain⟨h1,h2⟩:=hl;simp only[List.length_drop,List.length_map,List.length_nil] at h1 h2;refine⟨_,_,Ev.kf rfl ?_,(digS ((gs.map fun g=>((g.1:Nat):Int)).drop s.i) []).1,decide (0<(digS ((gs.map fun g=>((g.1:Nat):Int)).drop s.i) []).2),(digS ((gs.map fun g=>((g.1:Nat):Int)).drop s.i) []).2,rfl,by omega,by omega,hH.ui (aD:=0) au⟩
 have hd:decide ((gs.map fun g=>((g.1:Nat):Int))≠[]∧(0:Int)≤(s.i:Nat)∧((s.i:Nat):Int).toNat≤(gs.map fun g=>((g.1:Nat):Int)).length∧(gs.map fun g=>((g.1:Nat):Int)).length<1099511627776)=true:=by
  rw[decide_eq_true];refine⟨by simpa using hne,by omega,by simp;omega,by simp;omega⟩
 show BT [.ptr k 0 0] s0=_;simp only[BT,St.mem_of hb];show(match j_ ((gs.map a7).map (kH 2)) with|some rs=>LO s0 k 0 0 rs (s.i:Nat)|none=>none)=_;rw[oZ];simp only[LO,hd];have hwr:=ml (cs:=[.int .i64 ((s.i+(digS ((gs.map fun g=>((g.1:Nat):Int)).drop s.i) []).2:Nat))]) (off:=2) hb (by show 2+1≤7;omega) hw;simp only[Int.toNat_natCast,Nat.zero_add];rw[hwr]
 rfl
def EO (gs:List (Nat×Nat)) (s s':fz) (d1:D) (b:Bool):Prop:=
 s'.o=s.o∧s'.g=s.g∧s.i≤s'.i∧s'.i≤gs.length∧(d1=.nul∨∃a,d1=bT a∧a.length≤8)∧(s'.e≠0∨s'.e=0∧s.i<s'.i∧∃a,d1=bT a∧a.length≤8∧a≠[])
theorem dG {a8:List Int} {s:fz} {i:Nat} {e:Int} (he:s.e=0) (h:e≠0):(jr a8 s i e).e≠0∧(jr a8 s i e).i=s.i∧(jr a8 s i e).o=s.o∧(jr a8 s i e).g=s.g:=by
 unfold jr;rw[if_pos he];exact⟨h,rfl,rfl,rfl⟩
theorem zO {N k:Nat} {S s0:St} {H:List bC} {gs:List (Nat×Nat)} {bK:D} {a8:List Int} {s:fz} (bd:lF gs a8) (he:s.e=0) (hi:s.i<gs.length) (hH:Has N S s0 (.box k (.mem 0 false (aX gs bK s))::.aM bK 1 (a8.map aq)::H)):
  ∃d ah,Ev pv 169 [.ptr k 0 0] s0 d ah∧∃(d1:D) (b:Bool) (s':fz),d=.tup [d1,.bool b]∧EO gs s s' d1 b∧Has N S ah (.box k (.mem 0 false (aX gs bK s'))::.aM bK 1 (a8.map aq)::H):=by
 have pR:=bd.gl;have fU:=bd.pl;refine Ev.iC rfl Ul rfl rfl rfl ?_;dsimp only[u3,u4,List.length,Nat.reduceSub,Nat.reduceAdd,w1,w2];have cQ:=hH;have hH:=hH.cV;have cG:(ai .rw s0).bs=s0.bs:=rfl;generalize ai .rw s0=S2 at*;have DT:Arg N S2 2 (cB gs) (gs.map a7):=Arg.pure (fun st=>dt st gs);refine qq<|qj fun K hK=>qm ?_;refine qm ?_;refine qe hK<|qq<|qj fun K hK=>qm ?_;refine qg ?_;refine qp (o:=2) ?_;refine ql hH au ?_;refine qm ?_;refine qe hK<|qq<|qj fun K hK=>qm ?_;refine qg ?_;refine qp (o:=2) ?_;refine ql hH au ?_;refine qA ?_;refine qg ?_;refine qp (o:=2) ?_;refine qT hH au fun st hH=>?_;dsimp only[u2,u1,u3,u4,setMany,u5,u6,D.cells,Nat.reduceAdd,aX,a7,aq,ay] at hH;refine qe hK<|qq<|qq<|qj fun K hK=>qm ?_;refine qg ?_;refine qp (o:=2) ?_;refine ql hH au ?_;refine qm ?_;refine qg ?_;refine qp (o:=0) ?_;refine ql hH au ?_;refine qn ?_;simp only[List.length_map];refine qg ?_;refine qe hK ?_;refine ag.cond (by rfl) (fun h0=>?_) (fun h0=>?_)<;>try simp only[decide_eq_true_eq,decide_eq_false_iff_not] at h0
 ·refine qq<|qj fun K hK=>qm ?_;refine qm ?_;obtain⟨_,st,aN,rfl,hH⟩:=du (s:={s with i:=s.i+1}) s.i 4 (by omega) hH;refine qv aN ?_;refine qe hK<|qq<|qj fun K hK=>qm ?_;refine qm ?_;refine qe hK ?_;obtain⟨h1,h2,h3,h4⟩:=dG (a8:=a8) (s:={s with i:=s.i+1}) (i:=s.i) (e:=4) he (by decide);refine ag.ret ⟨rx,_,_,_,rfl,ak (rfl),?_⟩;exact⟨_,_,_,rfl,⟨h3,h4,by rw[h2];simp,by rw[h2];exact hi,.inl rfl,.inl h1⟩,cQ.aA cG hH⟩
 ·obtain⟨g,hg⟩:∃g,gs[s.i+1]?=some g:=⟨gs[s.i+1]'(by omega),List.getElem?_eq_getElem _⟩
  have iv:(gs.map a7)[s.i+1]?=some (a7 g):=by rw[List.getElem?_map,hg];rfl
  have hlt:=bj hg;refine ag.skip<|qq<|qq<|qj fun K hK=>qm ?_;refine qm ?_;refine qg ?_;refine qp (o:=2) ?_;refine ql hH au ?_;obtain⟨_,st,aN,rfl,hH⟩:=zo (s:={s with i:=s.i+1}) (s.i+1) hlt hH;refine qv aN ?_;refine qe hK ?_;dsimp only[aX] at hH;refine qc (fun hb=>?_) (fun hb=>?_)<;>try simp only[cs] at hb
  ·refine qq<|qj fun K hK=>qm ?_;refine qm ?_;refine qg ?_;refine qp (o:=2) ?_;refine ql hH au ?_;obtain⟨_,st,aN,rfl,hH⟩:=du (s:={s with i:=s.i+1}) (s.i+1) 4 (by omega) hH;refine qv aN ?_;refine qe hK<|qq<|qj fun K hK=>qm ?_;refine qm ?_;refine qe hK ?_;obtain⟨h1,h2,h3,h4⟩:=dG (a8:=a8) (s:={s with i:=s.i+1}) (i:=s.i+1) (e:=4) he (by decide);refine ag.ret ⟨rx,_,_,_,rfl,ak (rfl),?_⟩;exact⟨_,_,_,rfl,⟨h3,h4,by rw[h2];simp,by rw[h2];exact hi,.inl rfl,.inl h1⟩,cQ.aA cG hH⟩
  ·refine ag.skip<|qq<|qj fun K hK=>qm ?_;refine qg ?_;refine qp (o:=0) ?_;refine ql hH au ?_;refine qm ?_;refine qg ?_;refine qp (o:=2) ?_;refine ql hH au ?_;refine qr fun p50 WC=>?_;refine qf (fo:=0) fun p51 WB=>?_;refine qR ?_;refine qm ?_;refine qe hK<|qq<|qj fun K hK=>qm ?_;refine qg ?_;refine qp (o:=2) ?_;refine ql hH au ?_;refine qA ?_;refine qg ?_;refine qp (o:=2) ?_;refine qT hH au fun st hH=>?_;dsimp only[u2,u1,u3,u4,setMany,u5,u6,D.cells,Nat.reduceAdd,aX,a7,aq,ay] at hH;refine qe hK<|qq<|qq<|qj fun K hK=>qm ?_;refine qe hK ?_
   have fO:∀(a:List Rg) (b:Bool),a.length≤8→a≠[]→EO gs s {s with i:=s.i+1+1} (bT a) b:=fun a b h1 h2=>⟨rfl,rfl,by show s.i≤s.i+1+1;omega,by show s.i+1+1≤_;omega,.inr ⟨a,rfl,h1⟩,.inr ⟨he,by show s.i<s.i+1+1;omega,a,rfl,h1,h2⟩⟩
   have kr:∀(r:Int),0≤r→r<55296→(k_ [(r,r)]).length≤8∧k_ [(r,r)]≠[]:=by
    intro r h1 h2;obtain⟨_,h3,h4⟩:=mS (s0:=s0) (x:=bT [(r,r)]) (l:=[(r,r)]) (f_ _ _) (by simp);exact⟨by simp at h3;omega,wM h1 h2 h4⟩
   refine ag.block<|qq<|qj fun K hK=>qg ?_;refine qm ?_;refine qe hK ?_;refine ag.cond (by rfl) (fun q1=>?_) (fun q1=>?_)<;>try simp only[beq_iff_eq,beq_eq_false_iff_ne,ne_eq] at q1
   ·refine qq<|qj fun K hK=>qv (jI 10) ?_;refine qm ?_;refine qm ?_;refine qe hK<|ag.ret ⟨rx,_,_,_,rfl,ak (rfl),?_⟩;exact⟨_,_,_,rfl,fO _ _ (kr 10 (by decide) (by decide)).1 (kr 10 (by decide) (by decide)).2,cQ.aA cG hH⟩
   ·refine qq<|qj fun K hK=>qg ?_;refine qm ?_;refine qe hK ?_;refine ag.cond (by rfl) (fun q2=>?_) (fun q2=>?_)<;>try simp only[beq_iff_eq,beq_eq_false_iff_ne,ne_eq] at q2
    ·refine qq<|qj fun K hK=>qv (jI 9) ?_;refine qm ?_;refine qm ?_;refine qe hK<|ag.ret ⟨rx,_,_,_,rfl,ak (rfl),?_⟩;exact⟨_,_,_,rfl,fO _ _ (kr 9 (by decide) (by decide)).1 (kr 9 (by decide) (by decide)).2,cQ.aA cG hH⟩
    ·refine qq<|qj fun K hK=>qg ?_;refine qm ?_;refine qe hK ?_;refine ag.cond (by rfl) (fun q3=>?_) (fun q3=>?_)<;>try simp only[beq_iff_eq,beq_eq_false_iff_ne,ne_eq] at q3
     ·refine qq<|qj fun K hK=>qv (jI 13) ?_;refine qm ?_;refine qm ?_;refine qe hK<|ag.ret ⟨rx,_,_,_,rfl,ak (rfl),?_⟩;exact⟨_,_,_,rfl,fO _ _ (kr 13 (by decide) (by decide)).1 (kr 13 (by decide) (by decide)).2,cQ.aA cG hH⟩
     ·refine qq<|qj fun K hK=>qg ?_;refine qm ?_;refine qe hK ?_;refine ag.cond (by rfl) (fun q4=>?_) (fun q4=>?_)<;>try simp only[beq_iff_eq,beq_eq_false_iff_ne,ne_eq] at q4
      ·refine qq<|qj fun K hK=>?_;refine aa.gu (qs:=[(0,_),(1,_)]) rfl rfl rfl rfl ⟨rfl,(ev rfl),(by rfl),rfl,(ev rfl),(by rfl),trivial⟩ (by intro q hq;simp only[List.mem_cons,List.not_mem_nil,or_false] at hq;rcases hq with rfl|rfl<;>exact⟨rfl,by exact Nat.le_of_ble_eq_true rfl⟩) (by show List.foldl _ [_,_] _=_;dsimp only[List.foldl_cons,List.foldl_nil,u2,u1]<;>rfl) (ab rfl _) ?_;refine qh (s:=2) (vs:=[_]) hH fun k73 st aaK hH=>?_;obtain⟨aN,hl,Mo⟩:=mS (l:=[(48,57)]) (hH.rows au) (by simp);refine qv aN ?_;refine qm ?_;refine qm ?_;refine qe hK<|ag.ret ⟨rx,_,_,_,rfl,ak (rfl),?_⟩;exact⟨_,_,_,rfl,fO _ _ (by simp at hl;omega) (uM (r:=48) (by decide) (by decide) ⟨_,List.mem_cons_self ..,by decide,by decide⟩ Mo),cQ.aA cG (hH.drop 1)⟩
      ·refine qq<|qj fun K hK=>qg ?_;refine qm ?_;refine qe hK ?_;refine ag.cond (by rfl) (fun q5=>?_) (fun q5=>?_)<;>try simp only[beq_iff_eq,beq_eq_false_iff_ne,ne_eq] at q5
       ·refine qq<|qj fun K hK=>?_;refine aa.gu (qs:=[(0,_),(1,_)]) rfl rfl rfl rfl ⟨rfl,(ev rfl),(by rfl),rfl,(ev rfl),(by rfl),trivial⟩ (by intro q hq;simp only[List.mem_cons,List.not_mem_nil,or_false] at hq;rcases hq with rfl|rfl<;>exact⟨rfl,by exact Nat.le_of_ble_eq_true rfl⟩) (by show List.foldl _ [_,_] _=_;dsimp only[List.foldl_cons,List.foldl_nil,u2,u1]<;>rfl) (ab rfl _) ?_;refine aa.gu (qs:=[(0,_),(1,_)]) rfl rfl rfl rfl ⟨rfl,(ev rfl),(by rfl),rfl,(ev rfl),(by rfl),trivial⟩ (by intro q hq;simp only[List.mem_cons,List.not_mem_nil,or_false] at hq;rcases hq with rfl|rfl<;>exact⟨rfl,by exact Nat.le_of_ble_eq_true rfl⟩) (by show List.foldl _ [_,_] _=_;dsimp only[List.foldl_cons,List.foldl_nil,u2,u1]<;>rfl) (ab rfl _) ?_;refine aa.gu (qs:=[(0,_),(1,_)]) rfl rfl rfl rfl ⟨rfl,(ev rfl),(by rfl),rfl,(ev rfl),(by rfl),trivial⟩ (by intro q hq;simp only[List.mem_cons,List.not_mem_nil,or_false] at hq;rcases hq with rfl|rfl<;>exact⟨rfl,by exact Nat.le_of_ble_eq_true rfl⟩) (by show List.foldl _ [_,_] _=_;dsimp only[List.foldl_cons,List.foldl_nil,u2,u1]<;>rfl) (ab rfl _) ?_;refine qh (s:=2) (vs:=[_,_,_]) hH fun k80 st W7 hH=>?_;obtain⟨aN,hl,Mo⟩:=mS (l:=[(9,10),(13,13),(32,32)]) (hH.rows au) (by simp);refine qv aN ?_;refine qm ?_;refine qm ?_;refine qe hK<|ag.ret ⟨rx,_,_,_,rfl,ak (rfl),?_⟩;exact⟨_,_,_,rfl,fO _ _ (by simp at hl;omega) (uM (r:=9) (by decide) (by decide) ⟨_,List.mem_cons_self ..,by decide,by decide⟩ Mo),cQ.aA cG (hH.drop 1)⟩
       ·refine qq<|qj fun K hK=>qg ?_;refine qm ?_;refine qe hK ?_;refine ag.cond (by rfl) (fun q6=>?_) (fun q6=>?_)<;>try simp only[beq_iff_eq,beq_eq_false_iff_ne,ne_eq] at q6
        ·refine qq<|qj fun K hK=>?_;refine aa.gu (qs:=[(0,_),(1,_)]) rfl rfl rfl rfl ⟨rfl,(ev rfl),(by rfl),rfl,(ev rfl),(by rfl),trivial⟩ (by intro q hq;simp only[List.mem_cons,List.not_mem_nil,or_false] at hq;rcases hq with rfl|rfl<;>exact⟨rfl,by exact Nat.le_of_ble_eq_true rfl⟩) (by show List.foldl _ [_,_] _=_;dsimp only[List.foldl_cons,List.foldl_nil,u2,u1]<;>rfl) (ab rfl _) ?_;refine aa.gu (qs:=[(0,_),(1,_)]) rfl rfl rfl rfl ⟨rfl,(ev rfl),(by rfl),rfl,(ev rfl),(by rfl),trivial⟩ (by intro q hq;simp only[List.mem_cons,List.not_mem_nil,or_false] at hq;rcases hq with rfl|rfl<;>exact⟨rfl,by exact Nat.le_of_ble_eq_true rfl⟩) (by show List.foldl _ [_,_] _=_;dsimp only[List.foldl_cons,List.foldl_nil,u2,u1]<;>rfl) (ab rfl _) ?_;refine aa.gu (qs:=[(0,_),(1,_)]) rfl rfl rfl rfl ⟨rfl,(ev rfl),(by rfl),rfl,(ev rfl),(by rfl),trivial⟩ (by intro q hq;simp only[List.mem_cons,List.not_mem_nil,or_false] at hq;rcases hq with rfl|rfl<;>exact⟨rfl,by exact Nat.le_of_ble_eq_true rfl⟩) (by show List.foldl _ [_,_] _=_;dsimp only[List.foldl_cons,List.foldl_nil,u2,u1]<;>rfl) (ab rfl _) ?_;refine aa.gu (qs:=[(0,_),(1,_)]) rfl rfl rfl rfl ⟨rfl,(ev rfl),(by rfl),rfl,(ev rfl),(by rfl),trivial⟩ (by intro q hq;simp only[List.mem_cons,List.not_mem_nil,or_false] at hq;rcases hq with rfl|rfl<;>exact⟨rfl,by exact Nat.le_of_ble_eq_true rfl⟩) (by show List.foldl _ [_,_] _=_;dsimp only[List.foldl_cons,List.foldl_nil,u2,u1]<;>rfl) (ab rfl _) ?_;refine qh (s:=2) (vs:=[_,_,_,_]) hH fun k88 st Tm hH=>?_;obtain⟨aN,hl,Mo⟩:=mS (l:=[(48,57),(65,90),(95,95),(97,122)]) (hH.rows au) (by simp);refine qv aN ?_;refine qm ?_;refine qm ?_;refine qe hK<|ag.ret ⟨rx,_,_,_,rfl,ak (rfl),?_⟩;exact⟨_,_,_,rfl,fO _ _ (by simp at hl;omega) (uM (r:=48) (by decide) (by decide) ⟨_,List.mem_cons_self ..,by decide,by decide⟩ Mo),cQ.aA cG (hH.drop 1)⟩
        ·refine ag.skip<|qq<|qq<|qj fun K hK=>qm ?_;refine qv (K9 _) ?_;refine qg ?_;refine qe hK ?_;refine ag.cond (by rfl) (fun q7=>?_) (fun q7=>?_)<;>try simp only[decide_eq_true_eq,decide_eq_false_iff_not,Bool.not_eq_true',Bool.not_eq_false'] at q7
         ·refine qq<|qj fun K hK=>qm ?_;refine qm ?_;obtain⟨_,st,aN,rfl,hH⟩:=du (s:={s with i:=s.i+1+1}) s.i 4 (by omega) hH;refine qv aN ?_;refine qe hK<|qq<|qj fun K hK=>qm ?_;refine qm ?_;refine qe hK ?_;obtain⟨h1,h2,h3,h4⟩:=dG (a8:=a8) (s:={s with i:=s.i+1+1}) (i:=s.i) (e:=4) he (by decide);refine ag.ret ⟨rx,_,_,_,rfl,ak (rfl),?_⟩;exact⟨_,_,_,rfl,⟨h3,h4,by rw[h2];show s.i≤s.i+1+1;omega,by rw[h2];show s.i+1+1≤_;omega,.inl rfl,.inl h1⟩,cQ.aA cG hH⟩
         ·refine ag.skip<|qq<|qj fun K hK=>qm ?_;refine qv (jI _) ?_;refine qm ?_;refine qm ?_;refine qe hK ?_;have hm:=kr ((g.1:Nat):Int) (by omega) (by omega);refine ag.ret ⟨rx,_,_,_,rfl,ak (rfl),?_⟩;exact⟨_,_,_,rfl,fO _ _ hm.1 hm.2,cQ.aA cG hH⟩
def aQ (fr:Go.V.Fr) (k:Nat):Go.V.D:=Go.V.nth .bD fr.loc k
def bp (b:Bool):List D:=[.bool b]
theorem sk {l:List Bool} {i:Nat} {q:Bool} (h:l[i]?=some q):(l.map bp)[i]?=some (bp q):=by rw[List.getElem?_map,h];rfl
theorem sf (l:List Bool):∀e∈l.map bp,∀d∈e,cy d=true:=by
 intro e he d hd;obtain⟨x,_,rfl⟩:=List.mem_map.1 he;simp only[bp,List.mem_cons,List.not_mem_nil,or_false] at hd;subst hd;rfl
theorem EC (l:List Bool):∀e∈l.map bp,e.length=1:=by
 intro e he;obtain⟨x,_,rfl⟩:=List.mem_map.1 he;rfl
def zn (l:List Bool):D:=.sl ((l.map bp).map (kH 1))
theorem B3 (l:List Bool):eH (zn l) 1 (l.map bp):=eH.frozen (EC l) (sf l)
theorem oC (l:List Int):∀e∈l.map aq,∀d∈e,cy d=true:=by
 intro e he d hd;obtain⟨x,_,rfl⟩:=List.mem_map.1 he;simp only[aq,List.mem_cons,List.not_mem_nil,or_false] at hd;subst hd;rfl
theorem Ld (l:List Int):∀e∈l.map aq,e.length=1:=by
 intro e he;obtain⟨x,_,rfl⟩:=List.mem_map.1 he;rfl
def Dx (l:List Int):D:=.sl ((l.map aq).map (kH 1))
theorem wS (l:List Int):eH (Dx l) 1 (l.map aq):=eH.frozen (Ld l) (oC l)
def c8 (pc:Nat) (i:aJ):List Int:=
 if i.op=2 then[i.x,i.y] else if i.op=3 then[i.x] else if i.op=7 then[] else[((pc+1:Nat):Int)]
def jo (code:List aJ):Prop:=∀pc i,code[pc]?=some i→∀v∈c8 pc i,0≤v∧v<code.length
theorem vL {n ns pc:Nat} {i:aJ} (h:db n ns pc i=true):∀v∈c8 pc i,0≤v∧v<n:=by
 intro v hv
 have eE:∀a b:Int,rE a b=true→0≤a∧a<b:=fun a b h=>by
  unfold rE at h;simp only[Bool.and_eq_true,decide_eq_true_eq] at h;exact⟨h.1,h.2⟩
 unfold db at h;unfold c8 at hv
 split at h
 ·rename_i h1;rw[if_neg (by omega),if_neg (by omega),if_neg (by omega)] at hv;simp only[Bool.and_eq_true,decide_eq_true_eq] at h;simp only[List.mem_cons,List.not_mem_nil,or_false] at hv;subst hv;omega
 ·simp only[Bool.and_eq_true] at h;obtain⟨_,h⟩:=h
  split at h
  ·rename_i h2;rw[if_pos h2] at hv;simp only[Bool.and_eq_true] at h;simp only[List.mem_cons,List.not_mem_nil,or_false] at hv
   rcases hv with rfl|rfl
   ·exact eE _ _ h.1
   ·exact eE _ _ h.2
  ·rename_i h2;rw[if_neg h2] at hv;simp only[Bool.and_eq_true] at h;obtain⟨_,h⟩:=h
   split at h
   ·rename_i h3;rw[if_pos h3] at hv;simp only[List.mem_cons,List.not_mem_nil,or_false] at hv;subst hv;exact eE _ _ h
   ·rename_i h3;rw[if_neg h3] at hv
    split at h
    ·rename_i h4;rw[if_neg (by omega)] at hv;simp only[Bool.and_eq_true,decide_eq_true_eq] at h;simp only[List.mem_cons,List.not_mem_nil,or_false] at hv;subst hv;omega
    ·split at h
     ·rename_i h5;rw[if_neg (by omega)] at hv;simp only[Bool.and_eq_true,decide_eq_true_eq] at h;simp only[List.mem_cons,List.not_mem_nil,or_false] at hv;subst hv;omega
     ·split at h
      ·rename_i h7;rw[if_pos h7] at hv;cases hv
      ·cases h
def y8 (code:List aJ):Nat→List Bool→List Int→List Bool
 |0,seen,_=>seen
 |_+1,seen,[]=>seen
 |f+1,seen,v::cD=>match seen[v.toNat]? with
  |some false=>match code[v.toNat]? with
   |some i=>y8 code f (seen.set v.toNat true) ((c8 v.toNat i).reverse++cD)
   |none=>seen
  |_=>y8 code f seen cD
def cO (code:List aJ) (start:Int):List Bool:=y8 code (3*code.length+1) (List.replicate code.length false) [start]
theorem vi (code:List aJ):∀(f:Nat) (seen:List Bool) (cD:List Int),(y8 code f seen cD).length=seen.length
 |0,_,_=>rfl
 |_+1,_,[]=>rfl
 |f+1,seen,v::cD=>by
  unfold y8
  split
  ·split
   ·rw[vi code f];simp
   ·rfl
  ·exact vi code f seen cD
theorem ye (code:List aJ) (s:Int):(cO code s).length=code.length:=by
 unfold cO;rw[vi];simp
theorem count_set {seen:List Bool} {k:Nat} (h:seen[k]?=some false):(seen.set k true).count false+1=seen.count false:=by
 induction seen generalizing k with
 |nil=>simp at h
 |cons b l ih=>
  cases k with
  |zero=>simp at h;subst h;simp
  |succ k=>
   have:=ih (k:=k) (by simpa using h);simp only[List.set_cons_succ,List.count_cons];omega
theorem wG (pc:Nat) (i:aJ):(c8 pc i).length≤2:=by
 unfold c8;split
 ·simp
 ·split
  ·simp
  ·split<;>simp
theorem Cv (v:Int) (r:List Int):((v::r).reverse.map aq)[r.length]?=some (aq v):=by
 rw[List.getElem?_map,List.reverse_cons,List.getElem?_append_right (by simp)];simp
theorem Fl (v:Int) (r:List Int):(((v::r).reverse.map aq).take r.length).drop 0=r.reverse.map aq:=by
 rw[List.reverse_cons,List.map_append,List.drop_zero,List.take_left' (by simp)]
theorem LJ {s0:St} {cd:D} {code:List aJ} {start:Int} (pT:eH cd 4 (code.map aG)) (hlen:code.length≤1048576) (hcl:jo code) (dB:0≤start∧start<code.length):Ev pv 106 [cd,.int .i64 start] s0 (zn (cO code start)) s0:=by
 refine Ev.oj rfl UN rfl rfl rfl ?_;dsimp only[u3,u4,List.length,Nat.reduceSub,Nat.reduceAdd,w1,w2];obtain⟨cA,hF,hH⟩:=ri s0;generalize ai .ro s0=S at*;have hc:=pT.arg s0.bs.length S;refine qq<|qj fun K hK=>qm ?_;refine qe hK<|qq<|qj fun K hK=>qm ?_;refine qn ?_;simp only[List.length_map];refine aa.w7 (s:=1) hH rfl rfl rfl rfl rfl rfl rfl rfl (Nat.le_of_ble_eq_true rfl) (by omega) (fun _=>by dsimp only[Fr.put,u1,u2]<;>rfl) (fun k11 st Ly hH=>?_);refine qm ?_;refine qe hK<|qq<|qj fun K hK=>qm ?_;refine qh (s:=1) (vs:=[_]) hH fun k13 st DQ hH=>?_;refine qm ?_;refine qe hK<|qq<|ag.block<|ag.loop (fun mm fr st=>∃(y z:D) (seen:List Bool) (cD:List Int),fr.clean=⟨41,[cd,aQ fr 1,aQ fr 2,aQ fr 3,.nul,y,z,aQ fr 7,aQ fr 8,aQ fr 9,aQ fr 10,aQ fr 11,aQ fr 12,aQ fr 13,aQ fr 14,aQ fr 15,aQ fr 16,aQ fr 17,aQ fr 18,aQ fr 19,aQ fr 20,aQ fr 21,aQ fr 22,aQ fr 23,aQ fr 24,aQ fr 25,aQ fr 26,aQ fr 27,aQ fr 28,aQ fr 29,aQ fr 30,aQ fr 31,aQ fr 32,aQ fr 33,aQ fr 34,aQ fr 35,aQ fr 36,aQ fr 37,aQ fr 38,aQ fr 39,aQ fr 40],[]⟩∧Has s0.bs.length S st [.aM z 1 (cD.reverse.map aq),.aM y 1 (seen.map bp)]∧(y8 code mm seen cD=cO code start)∧(3*seen.count false+cD.length≤mm)∧(seen.length=code.length)∧(∀v∈cD,0≤v∧v<(code.length:Int))∧(mm≤3*code.length+1)) (3*code.length+1) ?_ ?_
 ·exact⟨_,_,List.replicate code.length false,[start],rfl,(by rw[List.map_replicate];exact hH),rfl,by simp,by simp,by simpa using dB,by omega⟩
 rintro mm fr st ⟨y,z,seen,cD,hfr,hH,hd,hm,j6,hsk,xO⟩;rw[hfr];clear hfr;generalize aQ fr=ee;clear fr
 rcases cD with _|⟨v,cD⟩
 ·refine qq<|qq<|qj fun K hK=>qm ?_;refine qn ?_ (hR:=hH.rows au);simp only[List.length_map,List.length_nil,List.length_reverse];refine qg ?_;refine qe hK<|ag.cond (v:=false) (by dsimp only[Fr.ev,Fr.get,nth,V.look];rfl) (fun h=>by cases h) (fun _=>?_);refine ag.exit<|qq<|qj fun K hK=>qm ?_;refine qm ?_;refine qe hK ?_;have fO:seen=cO code start:=by rw[←hd];cases mm<;>rfl
  rw[←fO];refine ag.ret ⟨rx,_,rfl,rl cA hH ?_⟩;exact hH.freeze aS (sf _) (n:=15) (by decide)
 ·have hv:=hsk v (List.mem_cons_self ..);obtain⟨k,rfl⟩:=Int.eq_ofNat_of_zero_le hv.1;have hk:k<code.length:=by omega
  simp only[List.length_cons] at hm
  obtain⟨mm,rfl⟩:∃m',mm=m'+1:=⟨mm-1,by omega⟩
  obtain⟨b,hb⟩:∃b,seen[k]?=some b:=⟨seen[k]'(by omega),List.getElem?_eq_getElem _⟩
  obtain⟨i,hi⟩:∃i,code[k]?=some i:=⟨code[k]'(by omega),List.getElem?_eq_getElem _⟩
  have iv:=Cv (k:Int) cD;have oE:=sk hb;have hr3:=iu hi;refine qq<|qq<|qj fun K hK=>qm ?_;refine qn ?_ (hR:=hH.rows au);simp only[List.length_map,List.length_cons,List.length_reverse];refine qg ?_;refine qe hK<|qD rfl (by simp) ?_;refine ag.skip<|ag.block<|qq<|qj fun K hK=>qm ?_;refine qm ?_;refine qn ?_ (hR:=hH.rows au);simp only[List.length_map,List.length_cons,List.length_reverse];refine aa.mO (z:=((cD.length:Nat):Int)) rfl (ev rfl) (ev rfl) (by rw[wrap_i64 (by omega) (by omega)]<;>omega) (by dsimp only[Fr.put,u1,u2]<;>rfl) ?_;refine qi hH au fun VI Qx=>?_;refine qo hH au ?_;refine qm ?_;refine qe hK<|qq<|qj fun K hK=>qm ?_;refine qm ?_;refine qn ?_ (hR:=hH.rows au);simp only[List.length_map,List.length_cons,List.length_reverse];refine aa.mO (z:=((cD.length:Nat):Int)) rfl (ev rfl) (ev rfl) (by rw[wrap_i64 (by omega) (by omega)]<;>omega) (by dsimp only[Fr.put,u1,u2]<;>rfl) ?_;refine aa.uB hH rfl (ev rfl) (by exact au) rfl rfl (gM (by simp only[List.length_map,List.length_reverse,List.length_cons];omega)) ⟨(by omega),(by simp only[List.length_map,List.length_reverse,List.length_cons];omega)⟩ (fun _=>by dsimp only[Fr.put,u1,u2]<;>rfl) (fun y27 hH=>?_);refine qm ?_;refine qe hK ?_;dsimp only[u2] at hH;rw[Fl] at hH;have dB:∀w∈cD,0≤w∧w<(code.length:Int):=fun w hw=>hsk w (List.mem_cons_of_mem _ hw);refine qq<|qq<|qj fun K hK=>qm ?_;refine qm ?_;refine qi hH aS fun Zc S8=>?_;refine qo hH aS ?_;refine qe hK ?_
  cases b with
  |true=>
   refine qB ?_;refine ag.exit ?_;simp only[y8,Int.toNat_natCast,hb] at hd;exact⟨mm,by omega,⟨_,_,seen,cD,rfl,hH,hd,by omega,j6,dB,by omega⟩⟩
  |false=>
   have yS:=count_set hb;have hU:(seen.set k true).map bp=(seen.map bp).set k [.bool true]:=by rw[List.map_set];rfl
   simp only[y8,Int.toNat_natCast,hb,hi] at hd;have WW:=hcl k i hi;have WZ:=wG k i
   have We:∀w∈(c8 k i).reverse++cD,0≤w∧w<(code.length:Int):=fun w hw=>by
    rcases List.mem_append.1 hw with hw|hw
    ·exact WW w (List.mem_reverse.1 hw)
    ·exact dB w hw
   have Wq:(((c8 k i).reverse++cD).reverse).map aq=cD.reverse.map aq++(c8 k i).map aq:=by
    rw[List.reverse_append,List.reverse_reverse,List.map_append]
   refine qC ?_;refine ag.skip<|qq<|qj fun K hK=>qm ?_;refine qm ?_;refine qi hH aS fun p34 aaA=>?_;refine aa.iO hH rfl (ev rfl) (ev rfl) (by assumption) rfl rfl (by exact aS) (by assumption) (Nat.le_of_ble_eq_true rfl) (by exact .inl hF) (fun st hH=>?_);dsimp only[u2,u1,u3,u4,setMany,u5,u6,D.cells,Nat.reduceAdd,aG,aq,bp] at hH;refine qe hK<|qq<|qj fun K hK=>qm ?_;refine qm ?_;refine qr fun p37 WJ=>?_;refine aa.dJ rfl (ev rfl) (by assumption) rfl (by dsimp only[Fr.put,u1,u2]<;>rfl) ?_;refine qa hH fun k8 st Tn hH=>?_;refine qS hH au fun st hH=>?_;dsimp only[u2,u1,u3,u4,setMany,u5,u6,D.cells,Nat.reduceAdd,aG,aq,bp] at hH;refine qe hK<|qq<|qj fun K hK=>qp (o:=0) ?_;refine ql hH au ?_;refine qe hK<|ag.merge (fun fr st=>∃(z:D) (tmp:List (Nat×D)),fr=⟨41,[cd,aQ fr 1,aQ fr 2,aQ fr 3,.nul,y,z,aQ fr 7,aQ fr 8,aQ fr 9,aQ fr 10,aQ fr 11,aQ fr 12,aQ fr 13,aQ fr 14,aQ fr 15,aQ fr 16,aQ fr 17,aQ fr 18,aQ fr 19,aQ fr 20,aQ fr 21,aQ fr 22,aQ fr 23,aQ fr 24,aQ fr 25,aQ fr 26,aQ fr 27,aQ fr 28,aQ fr 29,aQ fr 30,aQ fr 31,aQ fr 32,aQ fr 33,aQ fr 34,aQ fr 35,aQ fr 36,aQ fr 37,aQ fr 38,aQ fr 39,aQ fr 40],tmp⟩∧Has s0.bs.length S st [.aM z 1 (cD.reverse.map aq++(c8 k i).map aq),.aM y 1 ((seen.map bp).set k [.bool true])]) ?_ ?_
   ·refine ag.block<|qq<|qj fun K hK=>qg ?_;refine qm ?_;refine qe hK ?_;refine ag.cond (by rfl) (fun h2=>?_) (fun h2=>?_)<;>try simp only[beq_iff_eq,beq_eq_false_iff_ne,ne_eq] at h2
    ·have:c8 k i=[i.x,i.y]:=by unfold c8;rw[if_pos h2]
     rw[this];refine qj fun K hK=>qm ?_;refine qp (o:=1) ?_;refine ql hH au ?_;refine qp (o:=2) ?_;refine ql hH au ?_;refine qh (s:=1) (vs:=[_,_]) hH fun k53 st aaO hH=>?_;refine aa.bP (s:=1) hH rfl (ev rfl) (ev rfl) (by exact ba) (by exact hH.rows (by exact au)) rfl rfl rfl rfl rfl rfl rfl ⟨(Nat.le_of_ble_eq_true rfl),(Nat.le_of_ble_eq_true rfl)⟩ (fun _=>(ab rfl _)) (by simp only[List.length_cons,List.length_nil,List.length_map,List.length_reverse]<;>omega) (by exact .inl hF) (fun x54 st hH=>?_);dsimp only[u2,u1,u3,u4,setMany,u5,u6,D.cells,Nat.reduceAdd,aG,aq,bp] at hH;refine qm ?_;refine qe hK ?_;exact⟨_,_,rfl,(by have:=hH.drop 2;exact this)⟩
    ·refine qq<|qj fun K hK=>qg ?_;refine qm ?_;refine qe hK ?_;refine ag.cond (by rfl) (fun h3=>?_) (fun h3=>?_)<;>try simp only[beq_iff_eq,beq_eq_false_iff_ne,ne_eq] at h3
     ·have:c8 k i=[i.x]:=by unfold c8;rw[if_neg h2,if_pos h3]
      rw[this];refine qj fun K hK=>qm ?_;refine qp (o:=1) ?_;refine ql hH au ?_;refine qh (s:=1) (vs:=[_]) hH fun k60 st aaM hH=>?_;refine aa.bP (s:=1) hH rfl (ev rfl) (ev rfl) (by exact ba) (by exact hH.rows (by exact au)) rfl rfl rfl rfl rfl rfl rfl ⟨(Nat.le_of_ble_eq_true rfl),(Nat.le_of_ble_eq_true rfl)⟩ (fun _=>(ab rfl _)) (by simp only[List.length_cons,List.length_nil,List.length_map,List.length_reverse]<;>omega) (by exact .inl hF) (fun x61 st hH=>?_);dsimp only[u2,u1,u3,u4,setMany,u5,u6,D.cells,Nat.reduceAdd,aG,aq,bp] at hH;refine qm ?_;refine qe hK ?_;exact⟨_,_,rfl,(by have:=hH.drop 2;exact this)⟩
     ·refine qq<|qj fun K hK=>qg ?_;refine qm ?_;refine qe hK ?_;refine ag.cond (by rfl) (fun h7=>?_) (fun h7=>?_)<;>try simp only[beq_iff_eq,beq_eq_false_iff_ne,ne_eq] at h7
      ·have:c8 k i=[]:=by unfold c8;rw[if_neg h2,if_neg h3,if_pos h7]
       rw[this,List.map_nil,List.append_nil];refine ag.skip ?_;exact⟨_,_,rfl,(by have:=hH.drop 1;exact this)⟩
      ·have:c8 k i=[((k+1:Nat):Int)]:=by unfold c8;rw[if_neg h2,if_neg h3,if_neg h7]
       rw[this];refine qj fun K hK=>qm ?_;refine qm ?_;refine qA ?_;refine qh (s:=1) (vs:=[_]) hH fun k44 st aaT hH=>?_;refine aa.bP (s:=1) hH rfl (ev rfl) (ev rfl) (by exact ba) (by exact hH.rows (by exact au)) rfl rfl rfl rfl rfl rfl rfl ⟨(Nat.le_of_ble_eq_true rfl),(Nat.le_of_ble_eq_true rfl)⟩ (fun _=>(ab rfl _)) (by simp only[List.length_cons,List.length_nil,List.length_map,List.length_reverse]<;>omega) (by exact .inl hF) (fun x45 st hH=>?_);dsimp only[u2,u1,u3,u4,setMany,u5,u6,D.cells,Nat.reduceAdd,aG,aq,bp] at hH;refine qm ?_;refine qe hK ?_;exact⟨_,_,rfl,(by have:=hH.drop 2;exact this)⟩
   ·rintro fr st ⟨z,tmp,hfr,hH⟩;rw[hfr];clear hfr;generalize aQ fr=ee;clear fr;exact⟨mm,by omega,⟨y,z,seen.set k true,(c8 k i).reverse++cD,rfl,(by rw[Wq,hU];exact hH),hd,by simp only[List.length_append,List.length_reverse];omega,by simp only[List.length_set];exact j6,We,by omega⟩⟩
def av (fr:Go.V.Fr) (k:Nat):Go.V.D:=Go.V.nth .bD fr.loc k
noncomputable def dec (q:Prop):Bool:=@decide q (Classical.propDecidable q)
theorem nr {q:Prop} (h:q):dec q=true:=@decide_eq_true q (Classical.propDecidable q) h
theorem rU {q:Prop} (h:¬q):dec q=false:=@decide_eq_false q (Classical.propDecidable q) h
def qY (p:Pg) (r:Nat) (s:Int) (n:Nat):Prop:=∀pc i,pc<n→(cO p.code s)[pc]?=some true→p.code[pc]?=some i→i.op=7→i.x=(r:Int)
structure bB (p:Pg):Prop where
 cl:p.code.length≤400
 sl:p.az.length≤8
 sh:∀pc i,p.code[pc]?=some i→db p.code.length p.az.length pc i=true
 st:∀v∈p.az,0≤v∧v<(p.code.length:Int)
 fo:∀r s,p.az[r]?=some s→qY p r s p.code.length
theorem oL {p:Pg} (h:∀pc i,p.code[pc]?=some i→db p.code.length p.az.length pc i=true):jo p.code:=
 fun pc i hi=>vL (h pc i hi)
theorem bB.closed {p:Pg} (h:bB p):jo p.code:=oL h.sh
theorem eE {a b:Int}:rE a b=true↔0≤a∧a<b:=by
 unfold rE;simp only[Bool.and_eq_true,decide_eq_true_eq,ge_iff_le]
theorem mi {s0:St} {p:Pg} (hp:p.ok):Ev pv 58 [p.d] s0 (.bool (dec (bB p))) s0:=by
 refine Ev.oj rfl Yi rfl rfl rfl ?_;dsimp only[u3,u4,List.length,Nat.reduceSub,Nat.reduceAdd,w1,w2];obtain⟨cA,hF,hH⟩:=ri s0;generalize ai .ro s0=S at*;have hc:=hp.c.arg s0.bs.length S;have hs:=hp.s.arg s0.bs.length S;have pT:=hp.c;have hlen:=hp.cl;have SJ:=hp.sl;unfold Pg.d;refine qq<|qj fun K hK=>qb hH fun k1 st pQ hH=>?_;dsimp only[u2,u1,u3,u4,setMany,u5,u6,D.cells,Nat.reduceAdd,Pg.cs,aG,aq,bp] at hH;refine qm ?_;refine qe hK<|qq<|qq<|ag.mH 17 (.bool (decide ((p.code.length:Int)>400)||decide ((p.az.length:Int)>8))) [8,9,10,11,12,13,14,15,16] ?_ (fun ff tmp=>?_)
 ·refine qp (o:=0) ?_;refine ql hH au ?_;refine qn ?_;simp only[List.length_map];refine qg ?_;refine qm ?_;refine aa.two 12 rfl (fun jT=>?_) (fun jT=>?_)
  ·refine qs ?_ (hg:=wn jT);refine qs ?_ (hg:=wn jT);refine qs ?_ (hg:=wn jT);refine qs ?_ (hg:=wn jT);refine qt jT ?_;refine aa.nil (bc ?_);dsimp only[aO,List.foldl,nth,u2,u1];dsimp only[Fr.aE,Fr.put,Fr.clean,Fr.ev,Fr.get,nth,V.look,u1,u2,v1,v2,v3,v4,v5,v6,v7,List.length,u3,u4,Nat.reduceSub,Nat.reduceAdd,List.map]
   all_goals(simp[jT];done)
  ·refine qp (o:=1) ?_ (hg:=wi jT);refine ql hH au ?_ (hg:=wi jT);refine qn ?_ (hg:=wi jT);simp only[List.length_map];refine qg ?_ (hg:=wi jT);refine qu jT ?_;refine aa.nil (bc ?_);dsimp only[aO,List.foldl,nth,u2,u1];dsimp only[Fr.aE,Fr.put,Fr.clean,Fr.ev,Fr.get,nth,V.look,u1,u2,v1,v2,v3,v4,v5,v6,v7,List.length,u3,u4,Nat.reduceSub,Nat.reduceAdd,List.map]
   all_goals(simp[jT];done)
 dsimp only[aO,List.foldl,nth,u2,u1];generalize ff 8=e8;generalize ff 9=e9;generalize ff 10=e10;generalize ff 11=e11;generalize ff 12=e12;generalize ff 13=e13;generalize ff 14=e14;generalize ff 15=e15;generalize ff 16=e16;refine qc (fun h0=>?_) (fun h0=>?_)<;>try simp only[cs] at h0
 ·rw[rU (fun h=>by have:=h.cl;have:=h.sl;simp at h0;omega)];refine qq<|qj fun K hK=>qm ?_;refine qe hK<|ag.ret ⟨rx,_,rfl,rl cA hH (rfl)⟩
 ·have h0:p.code.length≤400∧p.az.length≤8:=by simp at h0;omega
  refine ag.skip<|qq<|qq<|qj fun K hK=>qp (o:=0) ?_;refine ql hH au ?_;refine qn ?_;simp only[List.length_map];refine qm ?_;refine qe hK<|ag.block<|ag.loop (fun mm fr st=>∃(i:Nat),fr.clean=⟨49,[av fr 0,.ptr k1 0 0,.bool false,av fr 3,av fr 4,av fr 5,av fr 6,av fr 7,av fr 8,av fr 9,av fr 10,av fr 11,av fr 12,av fr 13,av fr 14,av fr 15,av fr 16,av fr 17,av fr 18,av fr 19,.int .i64 (p.code.length:Nat),.int .i64 (i:Nat),av fr 22,av fr 23,av fr 24,av fr 25,av fr 26,av fr 27,av fr 28,av fr 29,av fr 30,av fr 31,av fr 32,av fr 33,av fr 34,av fr 35,av fr 36,av fr 37,av fr 38,av fr 39,av fr 40,av fr 41,av fr 42,av fr 43,av fr 44,av fr 45,av fr 46,av fr 47,av fr 48],[]⟩∧Has s0.bs.length S st [.box k1 (.mem 0 false [p.cd,p.sd])]∧(i+mm=p.code.length)∧(∀pc q,pc<i→p.code[pc]?=some q→db p.code.length p.az.length pc q=true)) (p.code.length) ?_ ?_
  ·exact⟨0,rfl,hH,by omega,by intro pc q h;omega⟩
  rintro mm fr st ⟨i,hfr,hH,hi,hsh⟩;rw[hfr];clear hfr;generalize av fr=ee;clear fr;refine qq<|qj fun K hK=>qg ?_;refine qe hK<|qq ?_;refine ag.cond (by rfl) (fun h1=>?_) (fun h1=>?_)<;>try simp only[decide_eq_true_eq,decide_eq_false_iff_not] at h1
  ·refine ag.skip ?_
   obtain⟨q,hq⟩:∃q,p.code[i]?=some q:=⟨p.code[i]'(by omega),List.getElem?_eq_getElem _⟩
   refine qq<|ag.block<|qq<|qj fun K hK=>qm ?_;refine qm ?_;refine qe hK<|qq<|qj fun K hK=>?_;refine aa.bk (m:=2) hH rfl (ev rfl) (by exact au) (by dsimp only[List.drop_succ_cons,List.drop_zero,List.take_succ_cons,List.take_zero,Pg.cs,aG,aq,bp]<;>rfl) rfl rfl (by dsimp only[Fr.put,u1,u2]<;>rfl) ?_;refine qm ?_;refine qv (A0 (p:=p) hp hq) ?_;refine qg ?_;refine qe hK ?_;refine ag.cond (by rfl) (fun h2=>?_) (fun h2=>?_)<;>try simp only[Bool.not_eq_true',Bool.not_eq_false'] at h2
   ·rw[rU (fun h=>by have:=h.sh i q hq;rw[this] at h2;cases h2)];refine qq<|qj fun K hK=>qm ?_;refine qe hK<|ag.ret ⟨rx,_,rfl,rl cA hH (rfl)⟩
   ·refine ag.skip<|qj fun K hK=>qA ?_;refine qm ?_;refine qe hK ?_;refine⟨mm-1,by omega,⟨i+1,rfl,hH,by omega,?_⟩⟩;intro pc q' Lp sM
    by_cases he:pc=i
    ·subst he;rw[hq] at sM;cases sM;simpa using h2
    ·exact hsh pc q' (by omega) sM
  ·refine ag.exit ?_;have hsh:∀pc q,p.code[pc]?=some q→db p.code.length p.az.length pc q=true:=fun pc q hq=>hsh pc q (by have:=bj hq;omega) hq;have hcl:=oL hsh;refine qq<|qq<|qj fun K hK=>qp (o:=1) ?_;refine ql hH au ?_;refine qn ?_;simp only[List.length_map];refine qm ?_;refine qe hK<|ag.block<|ag.loop (fun mm fr st=>∃(r:Nat),fr.clean=⟨49,[av fr 0,.ptr k1 0 0,.bool false,av fr 3,av fr 4,av fr 5,av fr 6,av fr 7,av fr 8,av fr 9,av fr 10,av fr 11,av fr 12,av fr 13,av fr 14,av fr 15,av fr 16,av fr 17,av fr 18,av fr 19,av fr 20,av fr 21,av fr 22,av fr 23,av fr 24,av fr 25,av fr 26,av fr 27,av fr 28,av fr 29,p.sd,.int .i64 (p.az.length:Nat),.int .i64 (r:Nat),av fr 33,av fr 34,av fr 35,av fr 36,av fr 37,av fr 38,av fr 39,av fr 40,av fr 41,av fr 42,av fr 43,av fr 44,av fr 45,av fr 46,av fr 47,av fr 48],[]⟩∧Has s0.bs.length S st [.box k1 (.mem 0 false [p.cd,p.sd])]∧(r+mm=p.az.length)∧(∀r' s,r'<r→p.az[r']?=some s→(0≤s∧s<(p.code.length:Int))∧qY p r' s p.code.length)) (p.az.length) ?_ ?_
   ·exact⟨0,rfl,hH,by omega,by intro pc q h;omega⟩
   rintro mm fr st ⟨r,hfr,hH,hi,bd⟩;rw[hfr];clear hfr;generalize av fr=ee;clear fr;refine qq<|qj fun K hK=>qg ?_;refine qe hK<|qq ?_;refine ag.cond (by rfl) (fun h3=>?_) (fun h3=>?_)<;>try simp only[decide_eq_true_eq,decide_eq_false_iff_not] at h3
   ·refine ag.skip ?_
    obtain⟨s,pP⟩:∃s,p.az[r]?=some s:=⟨p.az[r]'(by omega),List.getElem?_eq_getElem _⟩
    have SY:=eX pP;refine qq<|ag.block<|qq<|qj fun K hK=>qm ?_;refine qr fun Zb S7=>?_;refine qR ?_;refine qm ?_;refine qm ?_;refine qe hK<|qq<|qq<|qj fun K hK=>qm ?_;refine qp (o:=0) ?_;refine ql hH au ?_;refine qn ?_;simp only[List.length_map];refine qv (iB _ _) ?_;refine qg ?_;refine qe hK ?_;refine ag.cond (by rfl) (fun h4=>?_) (fun h4=>?_)<;>try simp only[Bool.not_eq_true',Bool.not_eq_false'] at h4
    ·rw[rU (fun h=>by have:=eE.2 (h.st s (List.mem_of_getElem? pP));rw[this] at h4;cases h4)];refine qq<|qj fun K hK=>qm ?_;refine qe hK<|ag.ret ⟨rx,_,rfl,rl cA hH (rfl)⟩
    ·have SK:=eE.1 (show rE s p.code.length=true by simpa using h4);refine ag.skip ?_;have pt:=ye p.code s;have SX:=(B3 (cO p.code s)).arg s0.bs.length S;refine qq<|qj fun K hK=>qp (o:=0) ?_;refine ql hH au ?_;refine qm ?_;refine qv (LJ pT hlen hcl SK) ?_;refine qn ?_;simp only[List.length_map];refine qm ?_;refine qe hK<|ag.block<|ag.loop (fun mm fr st=>∃(i:Nat),fr.clean=⟨49,[av fr 0,.ptr k1 0 0,.bool false,av fr 3,.int .i64 (r:Nat),av fr 5,av fr 6,av fr 7,av fr 8,av fr 9,av fr 10,av fr 11,av fr 12,av fr 13,av fr 14,av fr 15,av fr 16,av fr 17,av fr 18,av fr 19,av fr 20,av fr 21,av fr 22,av fr 23,av fr 24,av fr 25,av fr 26,av fr 27,av fr 28,av fr 29,p.sd,.int .i64 (p.az.length:Nat),.int .i64 (r:Nat),av fr 33,av fr 34,av fr 35,av fr 36,av fr 37,av fr 38,av fr 39,av fr 40,av fr 41,av fr 42,av fr 43,av fr 44,av fr 45,zn (cO p.code s),.int .i64 ((cO p.code s).length:Nat),.int .i64 (i:Nat)],[]⟩∧Has s0.bs.length S st [.box k1 (.mem 0 false [p.cd,p.sd])]∧(i+mm=p.code.length)∧(qY p r s i)) (p.code.length) ?_ ?_
     ·exact⟨0,rfl,hH,by omega,by intro pc q h;omega⟩
     rintro mm fr st ⟨i,hfr,hH,hj,hom⟩;rw[hfr];clear hfr;generalize av fr=ee;clear fr;refine qq<|qj fun K hK=>qg ?_;refine qe hK<|qq ?_;refine ag.cond (by rfl) (fun h5=>?_) (fun h5=>?_)<;>try simp only[decide_eq_true_eq,decide_eq_false_iff_not] at h5
     ·refine ag.skip ?_
      obtain⟨b,hb⟩:∃b,(cO p.code s)[i]?=some b:=⟨(cO p.code s)[i]'(by omega),List.getElem?_eq_getElem _⟩
      obtain⟨q,hq⟩:∃q,p.code[i]?=some q:=⟨p.code[i]'(by omega),List.getElem?_eq_getElem _⟩
      have iv:=sk hb;have oE:=iu hq;refine qq<|ag.block<|qq<|qj fun K hK=>qm ?_;refine qr fun p51 WB=>?_;refine qR ?_;refine qm ?_;refine qm ?_;refine qe hK<|qq<|ag.kD 72 (.bool ((b &&(q.op==7)) &&(q.x !=(r:Int)))) [] ?_ (fun ff tmp hO=>?_)
      ·refine qm ?_;refine qm ?_;refine aa.two 54 rfl (fun dz=>?_) (fun dz=>?_)
       ·refine qp (o:=0) ?_ (hg:=wi dz);refine ql hH au ?_ (hg:=wi dz);refine qm ?_ (hg:=wi dz);refine qr (fun p58 aaw=>?_) (hg:=wi dz);refine qf (fo:=0) (fun p59 aav=>?_) (hg:=wi dz);refine qR ?_ (hg:=wi dz);refine qg ?_ (hg:=wi dz);refine qt dz ?_;refine qm ?_;refine aa.two 63 rfl (fun bh=>?_) (fun bh=>?_)
        ·refine qp (o:=0) ?_ (hg:=wi bh);refine ql hH au ?_ (hg:=wi bh);refine qm ?_ (hg:=wi bh);refine qr (fun p67 aaq=>?_) (hg:=wi bh);refine qf (fo:=1) (fun p68 aap=>?_) (hg:=wi bh);refine qR ?_ (hg:=wi bh);refine qm ?_ (hg:=wi bh);refine qg ?_ (hg:=wi bh);refine qt bh ?_;refine aa.nil (dv ?_ ?_)
         ·dsimp only[aO,List.foldl,nth,u2,u1]
          all_goals(first|rfl|simp)
         ·dsimp only[Fr.aE,Fr.put,Fr.clean,Fr.ev,Fr.get,nth,V.look,u1,u2,v1,v2,v3,v4,v5,v6,v7,List.length,u3,u4,Nat.reduceSub,Nat.reduceAdd,List.map]
          all_goals(simp[dz,bh];done)
        ·refine qs ?_ (hg:=wn bh);refine qs ?_ (hg:=wn bh);refine qs ?_ (hg:=wn bh);refine qs ?_ (hg:=wn bh);refine qs ?_ (hg:=wn bh);refine qs ?_ (hg:=wn bh);refine qs ?_ (hg:=wn bh);refine qs ?_ (hg:=wn bh);refine qu bh ?_;refine aa.nil (dv ?_ ?_)
         ·dsimp only[aO,List.foldl,nth,u2,u1]
          all_goals(first|rfl|simp)
         ·dsimp only[Fr.aE,Fr.put,Fr.clean,Fr.ev,Fr.get,nth,V.look,u1,u2,v1,v2,v3,v4,v5,v6,v7,List.length,u3,u4,Nat.reduceSub,Nat.reduceAdd,List.map]
          all_goals(simp[dz,bh];done)
       ·refine qs ?_ (hg:=wn dz);refine qs ?_ (hg:=wn dz);refine qs ?_ (hg:=wn dz);refine qs ?_ (hg:=wn dz);refine qs ?_ (hg:=wn dz);refine qs ?_ (hg:=wn dz);refine qs ?_ (hg:=wn dz);refine qu dz ?_;refine qm ?_;refine qs ?_;refine qs ?_;refine qs ?_;refine qs ?_;refine qs ?_;refine qs ?_;refine qs ?_;refine qs ?_;refine qg ?_;refine aa.nil (dv ?_ ?_)
        ·dsimp only[aO,List.foldl,nth,u2,u1]
         all_goals(first|rfl|simp)
        ·dsimp only[Fr.aE,Fr.put,Fr.clean,Fr.ev,Fr.get,nth,V.look,u1,u2,v1,v2,v3,v4,v5,v6,v7,List.length,u3,u4,Nat.reduceSub,Nat.reduceAdd,List.map]
         all_goals(simp[dz];done)
      dsimp only[aO,List.foldl,nth,u2,u1];dsimp only[Fr.aE,Fr.put,Fr.clean,Fr.ev,Fr.get,nth,V.look,u1,u2,v1,v2,v3,v4,v5,v6,v7,List.length,u3,u4,Nat.reduceSub,Nat.reduceAdd,List.map];refine qc (fun h6=>?_) (fun h6=>?_)<;>try simp only[cs] at h6
      ·rw[rU (fun h=>by
        have h7:=h.fo r s pP i q (by omega);simp only[Bool.and_eq_true,beq_iff_eq,bne_iff_ne,ne_eq] at h6;obtain⟨⟨rfl,h8⟩,h9⟩:=h6
        exact h9 (h7 hb hq h8))]
       refine qq<|qj fun K hK=>qm ?_;refine qe hK<|ag.ret ⟨rx,_,rfl,rl cA hH (rfl)⟩
      ·refine ag.skip<|qj fun K hK=>qA ?_;refine qm ?_;refine qe hK ?_;refine⟨mm-1,by omega,⟨i+1,rfl,hH,by omega,?_⟩⟩;intro pc q' Lp Lm sM gv
       by_cases he:pc=i
       ·subst he;rw[hq] at sM;cases sM;rw[hb] at Lm;cases Lm;simp[gv] at h6;exact h6
       ·exact hom pc q' (by omega) Lm sM gv
     ·refine ag.exit<|qj fun K hK=>qA ?_;refine qm ?_;refine qe hK ?_;refine⟨p.az.length-(r+1),by omega,⟨r+1,rfl,hH,by omega,?_⟩⟩;intro r' s' Ry uW
      by_cases he:r'=r
      ·subst he;rw[pP] at uW;cases uW;exact⟨SK,fun pc q Lp=>hom pc q (by omega)⟩
      ·exact bd r' s' (by omega) uW
   ·refine ag.exit ?_
    rw[nr ⟨h0.1,h0.2,hsh,fun v hv=>by
     obtain⟨r',Ry⟩:=List.getElem?_of_mem hv
     exact(bd r' v (by have:=bj Ry;omega) Ry).1,fun r' s' uW=>(bd r' s' (by have:=bj uW;omega) uW).2⟩]
    refine qq<|qj fun K hK=>qm ?_;refine qe hK<|ag.ret ⟨rx,_,rfl,rl cA hH (rfl)⟩
def rh:Nat→List Bool→List Int
 |_,[]=>[]
 |i,b::l=>(if b then[(i:Int)] else[])++rh (i+1) l
noncomputable def qX (p:Pg) (mr:Int):List Int:=if dec (bB p) &&rE mr p.az.length then rh 0 (cO p.code (p.az.getD mr.toNat 0)) else[]
def dV (i:aJ):aJ:=⟨i.op,i.x,i.y,.sl ((i.rs.map ay).map (kH 2)),i.rs⟩
theorem El {i:aJ} (h:i.ok):(dV i).ok:=⟨eH.frozen (lM _) (eO _),h.2⟩
def rV (q:aJ):List D:=aG (dV q)
end Go.Proofs.YtbdnabmmlbiomaaGreat
