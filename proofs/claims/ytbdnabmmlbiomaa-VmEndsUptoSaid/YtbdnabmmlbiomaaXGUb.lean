/-
 The parser of patterns: what stands at a rune; errors.
-/
import Derived.Test.YtbdnabmmlbiomaaXGCa
import Derived.Test.YtbdnabmmlbiomaaXGKa
import Derived.Test.YtbdnabmmlbiomaaXDgp
import Derived.Test.YtbdnabmmlbiomaaXM2
set_option maxRecDepth 100000
set_option maxHeartbeats 4000000
set_option linter.unusedSimpArgs false
set_option linter.unusedVariables false
namespace Go.Proofs.Ytbdnabmmlbiomaa
open Go.V Go
def ig (b:List UInt8):Nat×Nat:=if(gu b).2.1=0 then(65533,1) else((gu b).1,(gu b).2.1)
def ze:Nat→List UInt8→List (Nat×Nat)
 |0,_=>[]
 |_+1,[]=>[]
 |n+1,b=>ig b::ze n (b.drop (ig b).2)
def j_ (b:List UInt8):List (Nat×Nat):=ze b.length b
theorem kL (b:List UInt8):1≤(ig b).2:=by
 unfold ig;split
 ·simp
 ·simp only;omega
theorem mh : ∀ (n : Nat) (b : List UInt8), b.length ≤ n → ze n b = j_ b
 | 0, [], _ => rfl
 | 0, _ :: _, h => by simp at h
 | n + 1, [], _ => rfl
 | n + 1, c :: b, h => by
  have hp := kL (c :: b);have h1 : ((c :: b).drop (ig (c :: b)).2).length ≤ b.length := by rw [List.length_drop]; simp only [List.length_cons]; omega
  simp only [List.length_cons] at h;show ig (c :: b) :: ze n ((c :: b).drop _) = ig (c :: b) :: ze b.length ((c :: b).drop _);rw [mh n _ (by omega)]
  rcases Nat.lt_or_ge n b.length with h2 | h2
  ·omega
  ·rw [mh b.length _ h1]
termination_by n b => b.length
decreasing_by all_goals (simp_wf; omega)
theorem oY:j_ []=[]:=rfl
theorem rh {b:List UInt8} (h:b≠[]):j_ b=ig b::j_ (b.drop (ig b).2):=by
 match b,h with
 |c::b,_=>
  show ig (c::b)::ze b.length ((c::b).drop _)=_;rw[mh];have hp:=kL (c::b);rw[List.length_drop];simp only[List.length_cons];omega
def bm (g:Nat×Nat):List D:=[.int .i32 (g.1:Nat),.int .i64 (g.2:Nat)]
def eG (l:List (Nat×Nat)):D:=.sl ((l.map bm).map (ja 2))
theorem Be {l:List (Nat×Nat)}:∀e∈l.map bm,e.length=2:=by
 intro e he;obtain⟨g,_,rfl⟩:=List.mem_map.1 he;rfl
theorem oF {l:List (Nat×Nat)}:∀e∈l.map bm,∀d∈e,bX d=true:=by
 intro e he d hd;obtain⟨g,_,rfl⟩:=List.mem_map.1 he;simp only[bm,List.mem_cons,List.not_mem_nil,or_false] at hd
 rcases hd with rfl|rfl<;>rfl
theorem dj (st:St) (l:List (Nat×Nat)):V.Rows st 2 (eG l) (l.map bm):=Rows.tP Be oF
theorem tn:∀(left n r lo hi:Nat) (b:List UInt8),(ib left n r lo hi b).2.1≠0→(ib left n r lo hi b).2.1=n∧left≤b.length
 |0,n,r,lo,hi,b,h=>by simp[ib]
 |left+1,n,r,lo,hi,[],h=>by simp[ib] at h
 |left+1,n,r,lo,hi,x::xs,h=>by
  simp only[ib] at h⊢
  split at h
  ·simp at h
  ·rename_i hc;rw[if_neg hc];have:=tn left n _ _ _ xs h;exact⟨this.1,by simp;omega⟩
theorem xh {b:List UInt8} (h:b≠[]):(ig b).2≤b.length:=by
 match b,h with
 |c::xs,_=>
  unfold ig
  split
  ·simp
  ·rename_i hz;simp only[gu] at hz⊢
   split at hz
   ·simp at hz
   ·rename_i hk;rw[if_neg hk];have:=tn _ _ _ _ _ _ hz;rw[this.1];simp;omega
theorem BG {st:St} {x:D} {b:List UInt8} (hb:Bytes st x b) (hlen:b.length≤1048576):Ev pv 11 [x] st (eG (j_ b)) st:=by
 refine Ev.nZ rfl Rk rfl rfl rfl ?_;dsimp only[u3,u4,List.length,Nat.reduceSub,Nat.reduceAdd,w1,w2];have hx:=hb.ref;(try refine qy ?_);(repeat refine qq ?_);(try generalize hK:bW _ _ _ _=K);refine af.eX ?_;(repeat(first|refine xT ?_|refine xL ?_|refine xN ?_|refine xo ?_|refine xp ?_));refine ab.nil ?_;(try dsimp only[Fr.aC,Fr.put,Fr.clean,Fr.ev,Fr.get,nth,V.look,u1,u2,v1,v2,v3,v4,v5,v6,v7,List.length,u3,u4,Nat.reduceSub,Nat.reduceAdd,List.map]);(try subst hK);(try refine qy ?_);(repeat refine qq ?_);(try generalize hK:bW _ _ _ _=K);refine af.eX ?_;(repeat(first|refine xT ?_|refine xL ?_|refine xN ?_|refine xo ?_|refine xp ?_));refine ab.nil ?_;(try dsimp only[Fr.aC,Fr.put,Fr.clean,Fr.ev,Fr.get,nth,V.look,u1,u2,v1,v2,v3,v4,v5,v6,v7,List.length,u3,u4,Nat.reduceSub,Nat.reduceAdd,List.map]);(try subst hK);(try refine qy ?_);refine af.seq (af.block ?_)
 refine af.loop (fun j fr ah=>∃(y out r n:D) (b':List UInt8) (done:List (Nat×Nat)),fr.clean=⟨6,[y,.tup [],.nul,out,r,n],[]⟩∧Ex st.bs.length (ai .ro st) ah∧Bytes ah y b'∧y.ref≤st.bs.length∧
  Acc st.bs.length ah 2 out (done.map bm)∧j=b'.length∧done++j_ b'=j_ b∧done.length+b'.length≤b.length) b.length
  ⟨x,.nul,_,_,b,[],rfl,Ex.refl _ _,hb.enter .ro,hx,.nul,rfl,rfl,by simp⟩ ?_
 rintro j fr ah ⟨y,out,r,n,b',done,hfr,hex,hy,Sa,Fy,rfl,kW,hl⟩;rw[hfr];(try refine qy ?_);(repeat refine qq ?_);(try generalize hK:bW _ _ _ _=K);refine af.eX ?_
 (first|refine xT ?_|refine xL ?_|refine xN ?_|refine xo ?_|refine xp ?_)
 refine ab.len rfl rfl rfl hy rfl ?_;(repeat(first|refine xT ?_|refine xL ?_|refine xN ?_|refine xo ?_|refine xp ?_));refine ab.nil ?_;(try dsimp only[Fr.aC,Fr.put,Fr.clean,Fr.ev,Fr.get,nth,V.look,u1,u2,v1,v2,v3,v4,v5,v6,v7,List.length,u3,u4,Nat.reduceSub,Nat.reduceAdd,List.map]);(try subst hK);(try refine qy ?_);rw[fz];(try refine qy ?_);(repeat refine qq ?_);refine qc (fun h1=>?_) (fun h1=>?_)<;>try simp only[cs] at h1
 ·refine af.skip ?_;have oC:b'≠[]:=by rintro rfl;simp at h1
  (try refine qy ?_);(repeat refine qq ?_);refine af.block ?_;(try refine qy ?_);(repeat refine qq ?_);(try generalize hK:bW _ _ _ _=K);refine af.eX ?_
  (first|refine xT ?_|refine xL ?_|refine xN ?_|refine xo ?_|refine xp ?_)
  refine ab.Gh rfl rfl rfl (Bf hy) ?_;(repeat(first|refine xT ?_|refine xL ?_|refine xN ?_|refine xo ?_|refine xp ?_));refine ab.nil ?_;(try dsimp only[Fr.aC,Fr.put,Fr.clean,Fr.ev,Fr.get,nth,V.look,u1,u2,v1,v2,v3,v4,v5,v6,v7,List.length,u3,u4,Nat.reduceSub,Nat.reduceAdd,List.map]);(try subst hK);(try refine qy ?_);generalize hf:gu b'=F at*;obtain⟨r0,n0,bg⟩:=F;(try refine qy ?_);(repeat refine qq ?_);(try generalize hK:bW _ _ _ _=K);refine af.eX ?_;(repeat(first|refine xT ?_|refine xL ?_|refine xN ?_|refine xo ?_|refine xp ?_));refine ab.nil ?_;(try dsimp only[Fr.aC,Fr.put,Fr.clean,Fr.ev,Fr.get,nth,V.look,u1,u2,v1,v2,v3,v4,v5,v6,v7,List.length,u3,u4,Nat.reduceSub,Nat.reduceAdd,List.map]);(try subst hK);(try refine qy ?_);generalize hK:bW _ _ _ _=K
  have H:∀m,K .next ⟨6,[y,.tup [],.nul,out,.int .i32 ((ig b').1:Nat),.int .i64 ((ig b').2:Nat)],m⟩ ah:=by
   intro m;subst hK;generalize hg:ig b'=g;have hp:=kL b';have hle:=xh oC;rw[hg] at hp hle;(try refine qy ?_);(repeat refine qq ?_);(try generalize hK:bW _ _ _ _=K);refine af.eX ?_
   (first|refine xT ?_|refine xL ?_|refine xN ?_|refine xo ?_|refine xp ?_)
   (first|refine xT ?_|refine xL ?_|refine xN ?_|refine xo ?_|refine xp ?_)
   (first|refine xT ?_|refine xL ?_|refine xN ?_|refine xo ?_|refine xp ?_)
   refine ab.T rfl rfl rfl (d:=.agg (bm g)) (st1:=ah) rfl<|ab.T rfl rfl rfl (d:=.win ah.bs.length 0 0 1 2) (st1:=ah.push (.mem 0 true (bm g))) rfl ?_;have hN:st.bs.length≤ah.bs.length:=hex.len;have Fu:=hex.trans (Ex.push hN (.mem 0 true (bm g)));refine ab.append rfl rfl rfl rfl (Fy.push _) (Rows.one rfl) rfl rfl rfl rfl rfl rfl rfl (by decide) Fu.len (by rw[Fu.flr];exact Nat.le_refl _) (by rw[Fu.ro];exact Nat.le_refl _) (by simp only[List.length_map,List.length_cons,List.length_nil];show(done.length+1)*16≤_;omega) fun Om st2 Ns Nb _ _ _=>?_;(repeat(first|refine xT ?_|refine xL ?_|refine xN ?_|refine xo ?_|refine xp ?_));refine ab.nil ?_;(try dsimp only[Fr.aC,Fr.put,Fr.clean,Fr.ev,Fr.get,nth,V.look,u1,u2,v1,v2,v3,v4,v5,v6,v7,List.length,u3,u4,Nat.reduceSub,Nat.reduceAdd,List.map]);(try subst hK);(try refine qy ?_);have PM:=Fu.trans Nb;have E6:Bytes st2 y b':=Rows.ex ((Ex.push hN _).trans Nb) hy Sa;(try refine qy ?_);(repeat refine qq ?_);(try generalize hK:bW _ _ _ _=K);refine af.eX ?_
   (first|refine xT ?_|refine xL ?_|refine xN ?_|refine xo ?_|refine xp ?_)
   (first|refine xT ?_|refine xL ?_|refine xN ?_|refine xo ?_|refine xp ?_)
   refine ab.slice rfl rfl rfl E6 rfl rfl (l:=g.2) (r:=b'.length) ?_ ⟨by omega,by rw[fz];omega⟩ fun y2 E5 OB=>?_
   ·show cT (byteCells b').length (some (.int .i64 (g.2:Nat))) none=_;rw[fz];simp only[cT,jn,kB,Option.bind_some];rw[if_pos ⟨by omega,by omega⟩];rfl
   (repeat(first|refine xT ?_|refine xL ?_|refine xN ?_|refine xo ?_|refine xp ?_));refine ab.nil ?_;(try dsimp only[Fr.aC,Fr.put,Fr.clean,Fr.ev,Fr.get,nth,V.look,u1,u2,v1,v2,v3,v4,v5,v6,v7,List.length,u3,u4,Nat.reduceSub,Nat.reduceAdd,List.map]);(try subst hK);(try refine qy ?_);refine⟨(b'.drop g.2).length,by rw[List.length_drop];omega,y2,Om,_,_,b'.drop g.2,done++[g],rfl,PM,?_,Nat.le_trans OB Sa,?_,rfl,?_,?_⟩
   ·have:((byteCells b').take b'.length).drop g.2=byteCells (b'.drop g.2):=by
     rw[←fz,List.take_length];simp[byteCells]
    unfold Bytes;rw[←this];exact E5
   ·rw[List.map_append];exact Ns
   ·rw[List.append_assoc,List.singleton_append,←kW,rh oC,hg]
   ·rw[List.length_append,List.length_drop];simp only[List.length_cons,List.length_nil];omega
  (try refine qy ?_);(repeat refine qq ?_);refine qc (fun h2=>?_) (fun h2=>?_)<;>try simp only[cs] at h2
  ·refine af.eX ?_;(repeat(first|refine xT ?_|refine xL ?_|refine xN ?_|refine xo ?_|refine xp ?_));refine ab.nil ?_;(try dsimp only[Fr.aC,Fr.put,Fr.clean,Fr.ev,Fr.get,nth,V.look,u1,u2,v1,v2,v3,v4,v5,v6,v7,List.length,u3,u4,Nat.reduceSub,Nat.reduceAdd,List.map]);have:ig b'=(65533,1):=by unfold ig;rw[hf,if_pos (by simpa using h2)]
   rw[this] at H;exact H _
  ·refine af.skip ?_;have:ig b'=(r0,n0):=by unfold ig;rw[hf,if_neg (by simpa using h2)]
   rw[this] at H;exact H _
 ·refine af.exit ?_
  have oC:b'=[]:=by cases b' with|nil=>rfl|cons _ _=>simp at h1<;>omega
  subst oC;rw[oY,List.append_nil] at kW;(try refine qy ?_);(repeat refine qq ?_);(try generalize hK:bW _ _ _ _=K);refine af.eX ?_;(repeat(first|refine xT ?_|refine xL ?_|refine xN ?_|refine xo ?_|refine xp ?_));refine ab.nil ?_;(try dsimp only[Fr.aC,Fr.put,Fr.clean,Fr.ev,Fr.get,nth,V.look,u1,u2,v1,v2,v3,v4,v5,v6,v7,List.length,u3,u4,Nat.reduceSub,Nat.reduceAdd,List.map]);(try subst hK);(try refine qy ?_);refine af.ret ⟨rx,_,rfl,bA (by simp) (hex.take rfl) ?_⟩;rw[←kW];exact Fy.freeze oF (n:=15) (by decide)
structure eu where
 i:Nat
 o:Nat
 g:Nat
 e:Int
 w:Int
def aP (gs:List (Nat×Nat)) (bE:D) (s:eu):List D:=[eG gs,bE,.int .i64 (s.i:Nat),.int .i64 (s.o:Nat),.int .i64 (s.g:Nat),.int .i64 s.e,.int .i64 s.w]
def hU (gs:List (Nat×Nat)) (i:Nat) (r:Int):Bool:=match gs[i]? with
 |some g=>((g.1:Nat):Int)==r
 |none=>false
theorem om {gs:List (Nat×Nat)} {i:Nat} {r:Int} (h:hU gs i r=true):i<gs.length:=by
 unfold hU at h
 split at h
 ·exact bt (by assumption)
 ·cases h
def cI (gs:List (Nat×Nat)) (s:eu) (r:Int):eu:=if hU gs s.i r=true then{s with i:=s.i+1} else s
def KV (gs:List (Nat×Nat)) (i:Nat):Bool:=match gs[i]? with
 |some g=>((g.1:Nat):Int)==65533 &&((g.2:Nat):Int)==1
 |none=>false
def gU (bO:List Int) (s:eu) (i:Nat) (e:Int):eu:=if s.e=0 then{s with e:=e,w:=bO.getD i 0} else s
theorem mC {N k:Nat} {S s0:St} {H:List bC} {gs:List (Nat×Nat)} {bE:D} {s:eu} (sB:gs.length≤1048576) (r:Int) (hH:Has N S s0 (.box k (.mem 0 false (aP gs bE s))::H)):
  ∃d ah,Ev pv 69 [.ptr k 0 0,.int .i32 r] s0 d ah∧d=.bool (hU gs s.i r)∧Has N S ah (.box k (.mem 0 false (aP gs bE s))::H):=by
 refine Ev.iY rfl QD rfl rfl rfl ?_;dsimp only[u3,u4,List.length,Nat.reduceSub,Nat.reduceAdd,w1,w2];have ck:=hH;have hH:=hH.cn;have ch:(ai .rw s0).bs=s0.bs:=rfl;generalize ai .rw s0=S2 at*;have Ft:Arg N S2 2 (eG gs) (gs.map bm):=Arg.pure (fun st=>dj st gs);refine qq<|qj fun K hK=>qm ?_;refine qe hK ?_
 by_cases ha:s.i<gs.length
 ·obtain⟨g,hg⟩:∃g,gs[s.i]?=some g:=⟨gs[s.i]'ha,List.getElem?_eq_getElem _⟩
  have gD:(gs.map bm)[s.i]?=some (bm g):=by rw[List.getElem?_map,hg];rfl
  have aS:decide ((s.i:Int)<(gs.length:Nat))=true:=by rw[decide_eq_true];simp;omega
  have hv:hU gs s.i r=(((g.1:Nat):Int)==r):=by unfold hU;rw[hg]
  refine qq<|af.k_ 4 (.bool (((g.1:Nat):Int)==r)) [] ?_ (fun ff tmp=>?_)
  ·refine qm ?_;refine qg ?_;refine qp (o:=2) ?_;refine ql hH ay ?_;refine qm ?_;refine qg ?_;refine qp (o:=0) ?_;refine ql hH ay ?_;refine qn ?_;simp only[List.length_map];refine qg ?_;refine qm ?_;refine qm ?_ (hg:=wi aS);refine qg ?_ (hg:=wi aS);refine qp (o:=0) ?_ (hg:=wi aS);refine ql hH ay ?_ (hg:=wi aS);refine qm ?_ (hg:=wi aS);refine qg ?_ (hg:=wi aS);refine qp (o:=2) ?_ (hg:=wi aS);refine ql hH ay ?_ (hg:=wi aS);refine qr (fun LX AS=>?_) (hg:=wi aS);refine qf (fo:=0) (fun LW AR=>?_) (hg:=wi aS);refine qR ?_ (hg:=wi aS);refine qm ?_ (hg:=wi aS);refine qg ?_ (hg:=wi aS);refine qt aS ?_;refine qm ?_;refine ab.nil (aU ?_);dsimp only[aI,List.foldl,nth,u2,u1];dsimp only[Fr.aC,Fr.put,Fr.clean,Fr.ev,Fr.get,nth,look,u1,u2,v1,v2,v4]
   all_goals(first|rfl|(simp[aS];done)|(simp_all;done)|(simp[aS];omega)|(simp_all;omega))
  dsimp only[aI,List.foldl,nth,u2,u1];refine af.ret ⟨rx,_,_,_,rfl,aj (rfl),?_⟩;exact⟨by rw[hv];rfl,ck.av ch hH⟩
 ·have aS:decide ((s.i:Int)<(gs.length:Nat))=false:=by rw[decide_eq_false];simp;omega
  have hv:hU gs s.i r=false:=by
   cases h:hU gs s.i r with
   |true=>exact absurd (om h) ha
   |false=>rfl
  refine qq<|af.k_ 4 (.bool false) [] ?_ (fun ff tmp=>?_)
  ·refine qm ?_;refine qg ?_;refine qp (o:=2) ?_;refine ql hH ay ?_;refine qm ?_;refine qg ?_;refine qp (o:=0) ?_;refine ql hH ay ?_;refine qn ?_;simp only[List.length_map];refine qg ?_;refine qm ?_;refine qs ?_ (hg:=wn aS);refine qs ?_ (hg:=wn aS);refine qs ?_ (hg:=wn aS);refine qs ?_ (hg:=wn aS);refine qs ?_ (hg:=wn aS);refine qs ?_ (hg:=wn aS);refine qs ?_ (hg:=wn aS);refine qs ?_ (hg:=wn aS);refine qs ?_ (hg:=wn aS);refine qs ?_ (hg:=wn aS);refine qs ?_ (hg:=wn aS);refine qs ?_ (hg:=wn aS);refine qs ?_ (hg:=wn aS);refine qu aS ?_;refine qm ?_;refine ab.nil (aU ?_);dsimp only[aI,List.foldl,nth,u2,u1];dsimp only[Fr.aC,Fr.put,Fr.clean,Fr.ev,Fr.get,nth,look,u1,u2,v1,v2,v4]
   all_goals(first|rfl|(simp[aS];done)|(simp_all;done)|(simp[aS];omega)|(simp_all;omega))
  dsimp only[aI,List.foldl,nth,u2,u1];refine af.ret ⟨rx,_,_,_,rfl,aj (rfl),?_⟩;exact⟨by rw[hv];rfl,ck.av ch hH⟩
theorem dt {N k:Nat} {S s0:St} {H:List bC} {gs:List (Nat×Nat)} {bE:D} {s:eu} (sB:gs.length≤1048576) (r:Int) (hH:Has N S s0 (.box k (.mem 0 false (aP gs bE s))::H)):
  ∃d ah,Ev pv 58 [.ptr k 0 0,.int .i32 r] s0 d ah∧d=.bool (hU gs s.i r)∧Has N S ah (.box k (.mem 0 false (aP gs bE (cI gs s r)))::H):=by
 refine Ev.iY rfl QJ rfl rfl rfl ?_;dsimp only[u3,u4,List.length,Nat.reduceSub,Nat.reduceAdd,w1,w2];have ck:=hH;have hH:=hH.cn;have ch:(ai .rw s0).bs=s0.bs:=rfl;generalize ai .rw s0=S2 at*;refine qq<|qj fun K hK=>qm ?_;refine qe hK<|qq<|qq<|qj fun K hK=>qm ?_;refine qm ?_;obtain⟨_,st,aH,rfl,hH⟩:=mC sB r hH;refine qv aH ?_;refine qe hK ?_;unfold cI
 cases hb:hU gs s.i r with
 |true=>
  have hlt:=om hb;dsimp only[aP] at hH;rw[if_pos rfl];refine qB ?_;refine qq<|qj fun K hK=>qm ?_;refine qg ?_;refine qp (o:=2) ?_;refine ql hH ay ?_;refine qA ?_;refine qg ?_;refine qp (o:=2) ?_;refine qT hH ay fun st hH=>?_;dsimp only[u2,u1,u3,u4,setMany,u5,u6,D.cells,Nat.reduceAdd,aP,bm,aw] at hH;refine qe hK<|qq<|qj fun K hK=>qm ?_;refine qe hK<|af.ret ⟨rx,_,_,_,rfl,aj (rfl),?_⟩;exact⟨rfl,ck.av ch hH⟩
 |false=>
  rw[if_neg (by simp)];refine qC ?_;refine af.skip<|qq<|qj fun K hK=>qm ?_;refine qe hK<|af.ret ⟨rx,_,_,_,rfl,aj (rfl),?_⟩;exact⟨rfl,ck.av ch hH⟩
theorem wI {N k:Nat} {S s0:St} {H:List bC} {gs:List (Nat×Nat)} {bE:D} {s:eu} (i:Nat) (hi:i<gs.length) (hH:Has N S s0 (.box k (.mem 0 false (aP gs bE s))::H)):
  ∃d ah,Ev pv 83 [.ptr k 0 0,.int .i64 (i:Nat)] s0 d ah∧d=.bool (KV gs i)∧Has N S ah (.box k (.mem 0 false (aP gs bE s))::H):=by
 refine Ev.iY rfl Qt rfl rfl rfl ?_;dsimp only[u3,u4,List.length,Nat.reduceSub,Nat.reduceAdd,w1,w2];have ck:=hH;have hH:=hH.cn;have ch:(ai .rw s0).bs=s0.bs:=rfl;generalize ai .rw s0=S2 at*;have Ft:Arg N S2 2 (eG gs) (gs.map bm):=Arg.pure (fun st=>dj st gs);refine qq<|qj fun K hK=>qm ?_;refine qe hK ?_
 obtain⟨g,hg⟩:∃g,gs[i]?=some g:=⟨gs[i]'hi,List.getElem?_eq_getElem _⟩
 have gD:(gs.map bm)[i]?=some (bm g):=by rw[List.getElem?_map,hg];rfl
 have hv:KV gs i=(((g.1:Nat):Int)==65533 &&((g.2:Nat):Int)==1):=by unfold KV;rw[hg]
 refine qq<|af.k_ 4 (.bool (((g.1:Nat):Int)==65533 &&((g.2:Nat):Int)==1)) [] ?_ (fun ff tmp=>?_)
 ·refine qm ?_;refine qg ?_;refine qp (o:=0) ?_;refine ql hH ay ?_;refine qm ?_;refine qr fun R7 MK=>?_;refine qf (fo:=0) fun R6 MJ=>?_;refine qR ?_;refine qg ?_;refine qm ?_;refine ab.two 14 rfl (fun cw=>?_) (fun cw=>?_)
  ·refine qm ?_ (hg:=wi cw);refine qg ?_ (hg:=wi cw);refine qp (o:=0) ?_ (hg:=wi cw);refine ql hH ay ?_ (hg:=wi cw);refine qm ?_ (hg:=wi cw);refine qr (fun Ol J6=>?_) (hg:=wi cw);refine qf (fo:=1) (fun Oj J5=>?_) (hg:=wi cw);refine qR ?_ (hg:=wi cw);refine qg ?_ (hg:=wi cw);refine qt cw ?_;refine qm ?_;refine ab.nil (aU ?_);dsimp only[aI,List.foldl,nth,u2,u1];dsimp only[Fr.aC,Fr.put,Fr.clean,Fr.ev,Fr.get,nth,V.look,u1,u2,v1,v2,v3,v4,v5,v6,v7,List.length,u3,u4,Nat.reduceSub,Nat.reduceAdd,List.map]
   all_goals(simp[cw];done)
  ·refine qs ?_ (hg:=wn cw);refine qs ?_ (hg:=wn cw);refine qs ?_ (hg:=wn cw);refine qs ?_ (hg:=wn cw);refine qs ?_ (hg:=wn cw);refine qs ?_ (hg:=wn cw);refine qs ?_ (hg:=wn cw);refine qs ?_ (hg:=wn cw);refine qs ?_ (hg:=wn cw);refine qu cw ?_;refine qm ?_;refine ab.nil (aU ?_);dsimp only[aI,List.foldl,nth,u2,u1];dsimp only[Fr.aC,Fr.put,Fr.clean,Fr.ev,Fr.get,nth,V.look,u1,u2,v1,v2,v3,v4,v5,v6,v7,List.length,u3,u4,Nat.reduceSub,Nat.reduceAdd,List.map]
   all_goals(simp[cw];done)
 dsimp only[aI,List.foldl,nth,u2,u1];refine af.ret ⟨rx,_,_,_,rfl,aj (rfl),?_⟩;exact⟨by rw[hv];rfl,ck.av ch hH⟩
theorem cK {N k:Nat} {S s0:St} {H:List bC} {gs:List (Nat×Nat)} {bE:D} {bO:List Int} {s:eu} (i:Nat) (e:Int) (hi:i<bO.length) (hH:Has N S s0 (.box k (.mem 0 false (aP gs bE s))::.aJ bE 1 (bO.map aw)::H)):
  ∃d ah,Ev pv 36 [.ptr k 0 0,.int .i64 (i:Nat),.int .i64 e] s0 d ah∧d=.sl []∧Has N S ah (.box k (.mem 0 false (aP gs bE (gU bO s i e)))::.aJ bE 1 (bO.map aw)::H):=by
 refine Ev.iY rfl Q0 rfl rfl rfl ?_;dsimp only[u3,u4,List.length,Nat.reduceSub,Nat.reduceAdd,w1,w2];have ck:=hH;have hH:=hH.cn;have ch:(ai .rw s0).bs=s0.bs:=rfl;generalize ai .rw s0=S2 at*;refine qq<|qj fun K hK=>qm ?_;refine qe hK ?_
 obtain⟨v,hv⟩:∃v,bO[i]?=some v:=⟨bO[i]'hi,List.getElem?_eq_getElem _⟩
 have gD:=eO hv;unfold gU;refine qq<|qq<|qj fun K hK=>qm ?_;refine qg ?_;refine qp (o:=5) ?_;refine ql hH ay ?_;refine qg ?_;refine qe hK ?_;refine af.cond (by rfl) (fun h0=>?_) (fun h0=>?_)<;>try simp only[beq_iff_eq,beq_eq_false_iff_ne,ne_eq] at h0
 ·rw[if_pos h0];have Ld:bO.getD i 0=v:=by rw[List.getD_eq_getElem?_getD,hv];rfl
  refine qj fun K hK=>qm ?_;refine qm ?_;refine qm ?_;refine qm ?_;refine qg ?_;refine qp (o:=1) ?_;refine ql hH ay ?_;refine qm ?_;refine qi hH b5 fun Ol J6=>?_;refine qo hH b5 ?_;refine qg ?_;refine qp (o:=5) ?_;refine qT hH ay fun st hH=>?_;dsimp only[u2,u1,u3,u4,setMany,u5,u6,D.cells,Nat.reduceAdd,aP,bm,aw] at hH;refine qg ?_;refine qp (o:=6) ?_;refine qT hH ay fun st hH=>?_;dsimp only[u2,u1,u3,u4,setMany,u5,u6,D.cells,Nat.reduceAdd,aP,bm,aw] at hH;refine qe hK<|qq<|qj fun K hK=>qm ?_;refine qe hK<|af.ret ⟨rx,_,_,_,rfl,aj (rfl),?_⟩;exact⟨rfl,by rw[Ld];exact ck.av ch hH⟩
 ·rw[if_neg h0];refine af.skip<|qq<|qj fun K hK=>qm ?_;refine qe hK<|af.ret ⟨rx,_,_,_,rfl,aj (rfl),?_⟩;exact⟨rfl,ck.av ch hH⟩
def dX (fr:Go.V.Fr) (k:Nat):Go.V.D:=Go.V.nth .bp fr.loc k
noncomputable def ju (l:List Rg):List Rg:=@dite _ (∃a,fx l a) (Classical.propDecidable _) (fun h=>Classical.choose h) (fun _=>[])
theorem Aw {l a:List Rg} (h:fx l a):ju l=a:=by
 have hx:∃a,fx l a:=⟨a,h⟩
 unfold ju;rw[dif_pos hx];exact(Classical.choose_spec hx).unique h
theorem kM {s0:St} {x:D} {l:List Rg} (hx:V.Rows s0 2 x (l.map au)) (hl:l.length≤1048576):Ev pv 76 [x] s0 (bw (ju l)) s0∧(ju l).length≤2*l.length∧fx l (ju l):=by
 obtain⟨_,aH,all,rfl,hperm,mE⟩:=xm hx (by omega);have hM:fx l (all.foldl cZ []).reverse:=n9 (fun x=>hperm.mem_iff) mE;have hlen:=hperm.length_eq;have mT:=gR l;have jW:=oi all;rw[Aw hM];exact⟨aH,by rw[List.length_reverse];omega,hM⟩
theorem ie (l:List Rg):fK (bw l) 2 (l.map au):=by
 rw[←gh];refine fK.frozen ?_ ?_
 ·intro e he;obtain⟨x,_,rfl⟩:=List.mem_map.1 he;rfl
 ·intro e he d hd;obtain⟨x,_,rfl⟩:=List.mem_map.1 he;simp only[au,List.mem_cons,List.not_mem_nil,or_false] at hd
  rcases hd with rfl|rfl<;>rfl
theorem rV {r:Int} {l a:List Rg} (h0:0≤r) (h1:r<55296) (hr:eJ l r) (h:fx l a):a≠[]:=by
 rintro rfl;have:=(h.2 r).2 ⟨by unfold lZ;omega,hr⟩;obtain⟨x,hx,_⟩:=this;cases hx
theorem tY {r:Int} (h0:0≤r) (h1:r<55296) {a:List Rg} (h:fx [(r,r)] a):a≠[]:=by
 rintro rfl;have:=(h.2 r).2 ⟨?_,?_⟩
 ·obtain⟨x,hx,_⟩:=this;cases hx
 ·unfold lZ;omega
 ·exact⟨(r,r),List.mem_cons_self ..,by simp⟩
theorem ia {s0:St} (r:Int):Ev pv 88 [.int .i32 r] s0 (bw (ju [(r,r)])) s0:=by
 refine Ev.nZ rfl Qo rfl rfl rfl ?_;dsimp only[u3,u4,List.length,Nat.reduceSub,Nat.reduceAdd,w1,w2];obtain⟨b_,hF,hH⟩:=ri s0;generalize ai .ro s0=S at*;refine qq<|qj fun K hK=>qm ?_;refine qe hK<|qq<|qj fun K hK=>qm ?_;refine qm ?_;refine ab.fe (qs:=[(0,_),(1,_)]) rfl rfl rfl rfl ⟨rfl,(ev rfl),(by rfl),rfl,(ev rfl),(by rfl),trivial⟩ (by intro q hq;simp only[List.mem_cons,List.not_mem_nil,or_false] at hq;rcases hq with rfl|rfl<;>exact⟨rfl,by exact Nat.le_of_ble_eq_true rfl⟩) (by show List.foldl _ [_,_] _=_;dsimp only[List.foldl_cons,List.foldl_nil,u2,u1]<;>rfl) (ag rfl _) ?_;refine qh (s:=2) (vs:=[_]) hH fun k6 st Ke hH=>?_;obtain⟨aH,hl,_⟩:=kM (l:=[(r,r)]) (hH.rows ay) (by simp);refine qv aH ?_;refine qm ?_;refine qe hK<|af.ret ⟨rx,_,rfl,rl b_ hH (rfl)⟩
theorem Al {s0:St} {x:D} {l:List Rg} (hx:V.Rows s0 2 x (l.map au)) (hl:l.length≤131072):∃d,Ev pv 95 [x] s0 d s0∧∃a:List Rg,d=bw a∧a.length≤4*l.length+2:=by
 refine Ev.ET rfl Qk rfl rfl rfl ?_;dsimp only[u3,u4,List.length,Nat.reduceSub,Nat.reduceAdd,w1,w2];obtain⟨b_,hF,hH⟩:=ri s0;generalize ai .ro s0=S at*;have hx:=Arg.of hx b_;refine qq<|qj fun K hK=>qm ?_;refine qe hK<|qq<|qj fun K hK=>qm ?_;refine qe hK<|qq<|qj fun K hK=>qm ?_;refine qe hK ?_;obtain⟨aH,Fo,_⟩:=kM (hx.rows hH) (by omega);have hla:=(ie (ju l)).arg s0.bs.length S;generalize ju l=m at*;refine qq<|qq<|qj fun K hK=>qm ?_;refine qv (aH) ?_;refine qn ?_;simp only[List.length_map];refine qm ?_;refine qe hK ?_;have hH:=hH.eo 2;refine af.block<|af.loop (fun mm fr st=>∃(i:Nat) (n:Int) (o:D) (out:List Rg),fr.clean=⟨11,[dX fr 0,dX fr 1,dX fr 2,o,.int .i32 n,dX fr 5,dX fr 6,dX fr 7,bw m,.int .i64 (m.length:Nat),.int .i64 (i:Nat)],[]⟩∧Has s0.bs.length S st [.aJ o 2 (out.map au)]∧(i+mm=m.length)∧(out.length=i)) (m.length) ?_ ?_
 ·exact⟨0,0,.nul,[],rfl,hH,by omega,rfl⟩
 rintro mm fr st ⟨i,n,o,out,hfr,hH,hi,ho⟩;rw[hfr];clear hfr;generalize dX fr=ee;clear fr;refine qq<|qj fun K hK=>qg ?_;refine qe hK<|qq ?_;refine af.cond (by rfl) (fun h1=>?_) (fun h1=>?_)<;>try simp only[decide_eq_true_eq,decide_eq_false_iff_not] at h1
 ·refine af.skip ?_
  obtain⟨q,hq⟩:∃q,m[i]?=some q:=⟨m[i]'(by omega),List.getElem?_eq_getElem _⟩
  have hr:=fc hq;refine qq<|af.block<|qq<|qj fun K hK=>qr fun R5 MI=>?_;refine ab.dE rfl (ev rfl) (by assumption) rfl (ag rfl _) ?_;refine qa hH fun k6 st Ke hH=>?_;refine qS hH ay fun st hH=>?_;dsimp only[u2,u1,u3,u4,setMany,u5,u6,D.cells,Nat.reduceAdd,au] at hH;refine qe hK<|qq<|qj fun K hK=>qm ?_;refine qm ?_;refine qp (o:=0) ?_;refine ql hH ay ?_;refine ab.mN (z:=bP .i32 (q.1-1)) rfl (ev rfl) (ev rfl) rfl (ag rfl _) ?_;refine ab.fe (qs:=[(0,_),(1,_)]) rfl rfl rfl rfl ⟨rfl,(ev rfl),(by rfl),rfl,(ev rfl),(by rfl),trivial⟩ (by intro q hq;simp only[List.mem_cons,List.not_mem_nil,or_false] at hq;rcases hq with rfl|rfl<;>exact⟨rfl,by exact Nat.le_of_ble_eq_true rfl⟩) (by show List.foldl _ [_,_] _=_;dsimp only[List.foldl_cons,List.foldl_nil,u2,u1]<;>rfl) (ag rfl _) ?_;refine qh (s:=2) (vs:=[_]) hH fun k20 st Pz hH=>?_;refine ab.bR (s:=2) hH rfl (ev rfl) (ev rfl) (by exact eV) (by exact hH.rows (by exact ay)) rfl rfl rfl rfl rfl rfl rfl ⟨(Nat.le_of_ble_eq_true rfl),(Nat.le_of_ble_eq_true rfl)⟩ (fun _=>(ag rfl _)) (by simp only[List.length_cons,List.length_nil,List.length_map]<;>omega) (by exact .inl hF) (fun V9 st hH=>?_);dsimp only[u2,u1,u3,u4,setMany,u5,u6,D.cells,Nat.reduceAdd,au] at hH;refine qm ?_;refine qe hK<|qj fun K hK=>qp (o:=1) ?_;refine ql hH b5 ?_;refine ab.ka (z:=bP .i32 (q.2+1)) rfl (ev rfl) (ev rfl) rfl (ag rfl _) ?_;refine qm ?_;refine qe hK<|qj fun K hK=>qA ?_;refine qm ?_;refine qe hK ?_;exact⟨mm-1,by omega,⟨i+1,_,_,out++[(n,bP .i32 (q.1-1))],rfl,(by rw[List.map_append];exact hH.drop 2),by omega,by simp[ho]⟩⟩
 ·refine af.exit<|qq<|qj fun K hK=>qm ?_;refine qm ?_;refine ab.fe (qs:=[(0,_),(1,_)]) rfl rfl rfl rfl ⟨rfl,(ev rfl),(by rfl),rfl,(ev rfl),(by rfl),trivial⟩ (by intro q hq;simp only[List.mem_cons,List.not_mem_nil,or_false] at hq;rcases hq with rfl|rfl<;>exact⟨rfl,by exact Nat.le_of_ble_eq_true rfl⟩) (by show List.foldl _ [_,_] _=_;dsimp only[List.foldl_cons,List.foldl_nil,u2,u1]<;>rfl) (ag rfl _) ?_;refine qh (s:=2) (vs:=[_]) hH fun k29 st U4 hH=>?_;refine ab.bR (s:=2) hH rfl (ev rfl) (ev rfl) (by exact b5) (by exact hH.rows (by exact ay)) rfl rfl rfl rfl rfl rfl rfl ⟨(Nat.le_of_ble_eq_true rfl),(Nat.le_of_ble_eq_true rfl)⟩ (fun _=>(ag rfl _)) (by simp only[List.length_cons,List.length_nil,List.length_map]<;>omega) (by exact .inl hF) (fun V8 st hH=>?_);dsimp only[u2,u1,u3,u4,setMany,u5,u6,D.cells,Nat.reduceAdd,au] at hH;obtain⟨aH,o7,_⟩:=kM (l:=out++[(n,1114111)]) (by rw[List.map_append];exact hH.rows b5) (by simp;omega);refine qv aH ?_;refine qm ?_;refine qe hK<|af.ret ⟨rx,_,_,rfl,rl b_ hH (rfl),?_⟩;exact⟨_,rfl,by simp at o7;omega⟩
theorem KM {s0:St}:∃d,Ev pv 87 [] s0 d s0∧∃a:List Rg,d=bw a∧a.length≤6:=by
 refine Ev.ET rfl Qp rfl rfl rfl ?_;dsimp only[u3,u4,List.length,Nat.reduceSub,Nat.reduceAdd,w1,w2];obtain⟨b_,hF,hH⟩:=ri s0;generalize ai .ro s0=S at*;refine qq<|qj fun K hK=>qm ?_;refine qe hK<|qq<|qj fun K hK=>?_;refine ab.fe (qs:=[(0,_),(1,_)]) rfl rfl rfl rfl ⟨rfl,(ev rfl),(by rfl),rfl,(ev rfl),(by rfl),trivial⟩ (by intro q hq;simp only[List.mem_cons,List.not_mem_nil,or_false] at hq;rcases hq with rfl|rfl<;>exact⟨rfl,by exact Nat.le_of_ble_eq_true rfl⟩) (by show List.foldl _ [_,_] _=_;dsimp only[List.foldl_cons,List.foldl_nil,u2,u1]<;>rfl) (ag rfl _) ?_;refine qh (s:=2) (vs:=[_]) hH fun k2 st hk2 hH=>?_;obtain⟨_,aH,a,rfl,hl⟩:=Al (l:=[(10,10)]) (hH.rows ay) (by simp);refine qv aH ?_;refine qm ?_;refine qe hK<|af.ret ⟨rx,_,_,rfl,rl b_ hH (rfl),?_⟩;exact⟨a,rfl,hl⟩
theorem EX {s0:St} (r:Int):Ev pv 96 [.int .i32 r] s0 (.bool (decide (33≤r∧r≤47∨58≤r∧r≤64∨91≤r∧r≤96∨123≤r∧r≤126))) s0:=by
 refine Ev.nZ rfl Qj rfl rfl rfl ?_;dsimp only[u3,u4,List.length,Nat.reduceSub,Nat.reduceAdd,w1,w2];obtain⟨b_,hF,hH⟩:=ri s0;generalize ai .ro s0=S at*;refine qq<|qj fun K hK=>qm ?_;refine qe hK<|qq<|af.k_ 2 (.bool (decide (33≤r∧r≤47∨58≤r∧r≤64∨91≤r∧r≤96∨123≤r∧r≤126))) [] ?_ (fun ff tmp=>?_)
 ·refine qm ?_;refine qg ?_;refine qm ?_;refine ab.two 5 rfl (fun bf=>?_) (fun bf=>?_)
  ·refine qm ?_ (hg:=wi bf);refine qg ?_ (hg:=wi bf);refine qt bf ?_;refine qm ?_;refine ab.two 9 rfl (fun dM=>?_) (fun dM=>?_)
   ·refine qs ?_ (hg:=wn dM);refine qs ?_ (hg:=wn dM);refine qs ?_ (hg:=wn dM);refine qs ?_;refine qs ?_;refine qs ?_ (hg:=wn dM);refine qt dM ?_;refine qm ?_;refine qs ?_;refine qs ?_;refine qs ?_;refine qs ?_;refine qs ?_;refine qs ?_;refine qg ?_;refine qm ?_;refine qs ?_;refine qs ?_;refine qs ?_;refine qs ?_;refine qs ?_;refine qs ?_;refine qg ?_;refine qm ?_;refine ab.nil (aU ?_);dsimp only[aI,List.foldl,nth,u2,u1];dsimp only[Fr.aC,Fr.put,Fr.clean,Fr.ev,Fr.get,nth,V.look,u1,u2,v1,v2,v3,v4,v5,v6,v7,List.length,u3,u4,Nat.reduceSub,Nat.reduceAdd,List.map]
    all_goals(simp[bf,dM];done)
   ·refine qm ?_ (hg:=wi dM);refine qg ?_ (hg:=wi dM);refine qm ?_ (hg:=wi dM);refine ab.two 12 rfl (fun cw=>?_) (fun cw=>?_)
    ·refine qm ?_ (hg:=wi cw);refine qg ?_ (hg:=wi cw);refine ab.dG (aB rfl rfl rfl dM) rfl cw (ag rfl _) ?_;refine qu dM ?_;refine qm ?_;refine ab.two 17 rfl (fun cF=>?_) (fun cF=>?_)
     ·refine qs ?_ (hg:=wn cF);refine qs ?_ (hg:=wn cF);refine qs ?_ (hg:=wn cF);refine qs ?_;refine qs ?_;refine qs ?_ (hg:=wn cF);refine qt cF ?_;refine qm ?_;refine qs ?_;refine qs ?_;refine qs ?_;refine qs ?_;refine qs ?_;refine qs ?_;refine qg ?_;refine qm ?_;refine ab.nil (aU ?_);dsimp only[aI,List.foldl,nth,u2,u1];dsimp only[Fr.aC,Fr.put,Fr.clean,Fr.ev,Fr.get,nth,V.look,u1,u2,v1,v2,v3,v4,v5,v6,v7,List.length,u3,u4,Nat.reduceSub,Nat.reduceAdd,List.map]
      all_goals(simp[bf,dM,cw,cF];done)
     ·refine qm ?_ (hg:=wi cF);refine qg ?_ (hg:=wi cF);refine qm ?_ (hg:=wi cF);refine ab.two 20 rfl (fun aW=>?_) (fun aW=>?_)
      ·refine qm ?_ (hg:=wi aW);refine qg ?_ (hg:=wi aW);refine ab.dG (aB rfl rfl rfl cF) rfl aW (ag rfl _) ?_;refine qu cF ?_;refine qm ?_;refine ab.two 25 rfl (fun bh=>?_) (fun bh=>?_)
       ·refine qs ?_ (hg:=wn bh);refine qs ?_ (hg:=wn bh);refine qs ?_ (hg:=wn bh);refine qs ?_;refine qs ?_;refine qs ?_ (hg:=wn bh);refine qt bh ?_;refine qm ?_;refine ab.nil (aU ?_);dsimp only[aI,List.foldl,nth,u2,u1];dsimp only[Fr.aC,Fr.put,Fr.clean,Fr.ev,Fr.get,nth,V.look,u1,u2,v1,v2,v3,v4,v5,v6,v7,List.length,u3,u4,Nat.reduceSub,Nat.reduceAdd,List.map]
        all_goals(simp[bf,dM,cw,cF,aW,bh];done)
       ·refine qm ?_ (hg:=wi bh);refine qg ?_ (hg:=wi bh);refine qm ?_ (hg:=wi bh);refine ab.two 28 rfl (fun aY=>?_) (fun aY=>?_)
        ·refine qm ?_ (hg:=wi aY);refine qg ?_ (hg:=wi aY);refine ab.dG (aB rfl rfl rfl bh) rfl aY (ag rfl _) ?_;refine qu bh ?_;refine qm ?_;refine ab.nil (aU ?_);dsimp only[aI,List.foldl,nth,u2,u1];dsimp only[Fr.aC,Fr.put,Fr.clean,Fr.ev,Fr.get,nth,V.look,u1,u2,v1,v2,v3,v4,v5,v6,v7,List.length,u3,u4,Nat.reduceSub,Nat.reduceAdd,List.map]
         all_goals(simp[bf,dM,cw,cF,aW,bh,aY];done)
        ·refine qs ?_ (hg:=wn aY);refine qs ?_ (hg:=wn aY);refine ab.cX (aB rfl rfl rfl bh) rfl aY (ag rfl _) ?_;refine qu bh ?_;refine qm ?_;refine ab.nil (aU ?_);dsimp only[aI,List.foldl,nth,u2,u1];dsimp only[Fr.aC,Fr.put,Fr.clean,Fr.ev,Fr.get,nth,V.look,u1,u2,v1,v2,v3,v4,v5,v6,v7,List.length,u3,u4,Nat.reduceSub,Nat.reduceAdd,List.map]
         all_goals(simp[bf,dM,cw,cF,aW,bh,aY];done)
      ·refine qs ?_ (hg:=wn aW);refine qs ?_ (hg:=wn aW);refine ab.cX (aB rfl rfl rfl cF) rfl aW (ag rfl _) ?_;refine qu cF ?_;refine qm ?_;refine qm ?_;refine qg ?_;refine qm ?_;refine ab.two 28 rfl (fun aY=>?_) (fun aY=>?_)
       ·refine qm ?_ (hg:=wi aY);refine qg ?_ (hg:=wi aY);refine qt aY ?_;refine qg ?_;refine qm ?_;refine ab.nil (aU ?_);dsimp only[aI,List.foldl,nth,u2,u1];dsimp only[Fr.aC,Fr.put,Fr.clean,Fr.ev,Fr.get,nth,V.look,u1,u2,v1,v2,v3,v4,v5,v6,v7,List.length,u3,u4,Nat.reduceSub,Nat.reduceAdd,List.map]
        all_goals(simp[bf,dM,cw,cF,aW,aY];done)
       ·refine qs ?_ (hg:=wn aY);refine qs ?_ (hg:=wn aY);refine qu aY ?_;refine qg ?_;refine qm ?_;refine ab.nil (aU ?_);dsimp only[aI,List.foldl,nth,u2,u1];dsimp only[Fr.aC,Fr.put,Fr.clean,Fr.ev,Fr.get,nth,V.look,u1,u2,v1,v2,v3,v4,v5,v6,v7,List.length,u3,u4,Nat.reduceSub,Nat.reduceAdd,List.map]
        all_goals(simp[bf,dM,cw,cF,aW,aY];done)
    ·refine qs ?_ (hg:=wn cw);refine qs ?_ (hg:=wn cw);refine ab.cX (aB rfl rfl rfl dM) rfl cw (ag rfl _) ?_;refine qu dM ?_;refine qm ?_;refine qm ?_;refine qg ?_;refine qm ?_;refine ab.two 20 rfl (fun aW=>?_) (fun aW=>?_)
     ·refine qm ?_ (hg:=wi aW);refine qg ?_ (hg:=wi aW);refine qt aW ?_;refine qg ?_;refine qm ?_;refine ab.two 25 rfl (fun bh=>?_) (fun bh=>?_)
      ·refine qs ?_ (hg:=wn bh);refine qs ?_ (hg:=wn bh);refine qs ?_ (hg:=wn bh);refine qs ?_;refine qs ?_;refine qs ?_ (hg:=wn bh);refine qt bh ?_;refine qm ?_;refine ab.nil (aU ?_);dsimp only[aI,List.foldl,nth,u2,u1];dsimp only[Fr.aC,Fr.put,Fr.clean,Fr.ev,Fr.get,nth,V.look,u1,u2,v1,v2,v3,v4,v5,v6,v7,List.length,u3,u4,Nat.reduceSub,Nat.reduceAdd,List.map]
       all_goals(simp[bf,dM,cw,aW,bh];done)
      ·refine qm ?_ (hg:=wi bh);refine qg ?_ (hg:=wi bh);refine qm ?_ (hg:=wi bh);refine ab.two 28 rfl (fun aY=>?_) (fun aY=>?_)
       ·refine qm ?_ (hg:=wi aY);refine qg ?_ (hg:=wi aY);refine ab.dG (aB rfl rfl rfl bh) rfl aY (ag rfl _) ?_;refine qu bh ?_;refine qm ?_;refine ab.nil (aU ?_);dsimp only[aI,List.foldl,nth,u2,u1];dsimp only[Fr.aC,Fr.put,Fr.clean,Fr.ev,Fr.get,nth,V.look,u1,u2,v1,v2,v3,v4,v5,v6,v7,List.length,u3,u4,Nat.reduceSub,Nat.reduceAdd,List.map]
        all_goals(simp[bf,dM,cw,aW,bh,aY];done)
       ·refine qs ?_ (hg:=wn aY);refine qs ?_ (hg:=wn aY);refine ab.cX (aB rfl rfl rfl bh) rfl aY (ag rfl _) ?_;refine qu bh ?_;refine qm ?_;refine ab.nil (aU ?_);dsimp only[aI,List.foldl,nth,u2,u1];dsimp only[Fr.aC,Fr.put,Fr.clean,Fr.ev,Fr.get,nth,V.look,u1,u2,v1,v2,v3,v4,v5,v6,v7,List.length,u3,u4,Nat.reduceSub,Nat.reduceAdd,List.map]
        all_goals(simp[bf,dM,cw,aW,bh,aY];done)
     ·refine qs ?_ (hg:=wn aW);refine qs ?_ (hg:=wn aW);refine qu aW ?_;refine qg ?_;refine qm ?_;refine qm ?_;refine qg ?_;refine qm ?_;refine ab.two 28 rfl (fun aY=>?_) (fun aY=>?_)
      ·refine qm ?_ (hg:=wi aY);refine qg ?_ (hg:=wi aY);refine qt aY ?_;refine qg ?_;refine qm ?_;refine ab.nil (aU ?_);dsimp only[aI,List.foldl,nth,u2,u1];dsimp only[Fr.aC,Fr.put,Fr.clean,Fr.ev,Fr.get,nth,V.look,u1,u2,v1,v2,v3,v4,v5,v6,v7,List.length,u3,u4,Nat.reduceSub,Nat.reduceAdd,List.map]
       all_goals(simp[bf,dM,cw,aW,aY];done)
      ·refine qs ?_ (hg:=wn aY);refine qs ?_ (hg:=wn aY);refine qu aY ?_;refine qg ?_;refine qm ?_;refine ab.nil (aU ?_);dsimp only[aI,List.foldl,nth,u2,u1];dsimp only[Fr.aC,Fr.put,Fr.clean,Fr.ev,Fr.get,nth,V.look,u1,u2,v1,v2,v3,v4,v5,v6,v7,List.length,u3,u4,Nat.reduceSub,Nat.reduceAdd,List.map]
       all_goals(simp[bf,dM,cw,aW,aY];done)
  ·refine qs ?_ (hg:=wn bf);refine qs ?_ (hg:=wn bf);refine qu bf ?_;refine qm ?_;refine qm ?_;refine qg ?_;refine qm ?_;refine ab.two 12 rfl (fun cw=>?_) (fun cw=>?_)
   ·refine qm ?_ (hg:=wi cw);refine qg ?_ (hg:=wi cw);refine qt cw ?_;refine qg ?_;refine qm ?_;refine ab.two 17 rfl (fun cF=>?_) (fun cF=>?_)
    ·refine qs ?_ (hg:=wn cF);refine qs ?_ (hg:=wn cF);refine qs ?_ (hg:=wn cF);refine qs ?_;refine qs ?_;refine qs ?_ (hg:=wn cF);refine qt cF ?_;refine qm ?_;refine qs ?_;refine qs ?_;refine qs ?_;refine qs ?_;refine qs ?_;refine qs ?_;refine qg ?_;refine qm ?_;refine ab.nil (aU ?_);dsimp only[aI,List.foldl,nth,u2,u1];dsimp only[Fr.aC,Fr.put,Fr.clean,Fr.ev,Fr.get,nth,V.look,u1,u2,v1,v2,v3,v4,v5,v6,v7,List.length,u3,u4,Nat.reduceSub,Nat.reduceAdd,List.map]
     all_goals(simp[bf,cw,cF];done)
    ·refine qm ?_ (hg:=wi cF);refine qg ?_ (hg:=wi cF);refine qm ?_ (hg:=wi cF);refine ab.two 20 rfl (fun aW=>?_) (fun aW=>?_)
     ·refine qm ?_ (hg:=wi aW);refine qg ?_ (hg:=wi aW);refine ab.dG (aB rfl rfl rfl cF) rfl aW (ag rfl _) ?_;refine qu cF ?_;refine qm ?_;refine ab.two 25 rfl (fun bh=>?_) (fun bh=>?_)
      ·refine qs ?_ (hg:=wn bh);refine qs ?_ (hg:=wn bh);refine qs ?_ (hg:=wn bh);refine qs ?_;refine qs ?_;refine qs ?_ (hg:=wn bh);refine qt bh ?_;refine qm ?_;refine ab.nil (aU ?_);dsimp only[aI,List.foldl,nth,u2,u1];dsimp only[Fr.aC,Fr.put,Fr.clean,Fr.ev,Fr.get,nth,V.look,u1,u2,v1,v2,v3,v4,v5,v6,v7,List.length,u3,u4,Nat.reduceSub,Nat.reduceAdd,List.map]
       all_goals(simp[bf,cw,cF,aW,bh];done)
      ·refine qm ?_ (hg:=wi bh);refine qg ?_ (hg:=wi bh);refine qm ?_ (hg:=wi bh);refine ab.two 28 rfl (fun aY=>?_) (fun aY=>?_)
       ·refine qm ?_ (hg:=wi aY);refine qg ?_ (hg:=wi aY);refine ab.dG (aB rfl rfl rfl bh) rfl aY (ag rfl _) ?_;refine qu bh ?_;refine qm ?_;refine ab.nil (aU ?_);dsimp only[aI,List.foldl,nth,u2,u1];dsimp only[Fr.aC,Fr.put,Fr.clean,Fr.ev,Fr.get,nth,V.look,u1,u2,v1,v2,v3,v4,v5,v6,v7,List.length,u3,u4,Nat.reduceSub,Nat.reduceAdd,List.map]
        all_goals(simp[bf,cw,cF,aW,bh,aY];done)
       ·refine qs ?_ (hg:=wn aY);refine qs ?_ (hg:=wn aY);refine ab.cX (aB rfl rfl rfl bh) rfl aY (ag rfl _) ?_;refine qu bh ?_;refine qm ?_;refine ab.nil (aU ?_);dsimp only[aI,List.foldl,nth,u2,u1];dsimp only[Fr.aC,Fr.put,Fr.clean,Fr.ev,Fr.get,nth,V.look,u1,u2,v1,v2,v3,v4,v5,v6,v7,List.length,u3,u4,Nat.reduceSub,Nat.reduceAdd,List.map]
        all_goals(simp[bf,cw,cF,aW,bh,aY];done)
     ·refine qs ?_ (hg:=wn aW);refine qs ?_ (hg:=wn aW);refine ab.cX (aB rfl rfl rfl cF) rfl aW (ag rfl _) ?_;refine qu cF ?_;refine qm ?_;refine qm ?_;refine qg ?_;refine qm ?_;refine ab.two 28 rfl (fun aY=>?_) (fun aY=>?_)
      ·refine qm ?_ (hg:=wi aY);refine qg ?_ (hg:=wi aY);refine qt aY ?_;refine qg ?_;refine qm ?_;refine ab.nil (aU ?_);dsimp only[aI,List.foldl,nth,u2,u1];dsimp only[Fr.aC,Fr.put,Fr.clean,Fr.ev,Fr.get,nth,V.look,u1,u2,v1,v2,v3,v4,v5,v6,v7,List.length,u3,u4,Nat.reduceSub,Nat.reduceAdd,List.map]
       all_goals(simp[bf,cw,cF,aW,aY];done)
      ·refine qs ?_ (hg:=wn aY);refine qs ?_ (hg:=wn aY);refine qu aY ?_;refine qg ?_;refine qm ?_;refine ab.nil (aU ?_);dsimp only[aI,List.foldl,nth,u2,u1];dsimp only[Fr.aC,Fr.put,Fr.clean,Fr.ev,Fr.get,nth,V.look,u1,u2,v1,v2,v3,v4,v5,v6,v7,List.length,u3,u4,Nat.reduceSub,Nat.reduceAdd,List.map]
       all_goals(simp[bf,cw,cF,aW,aY];done)
   ·refine qs ?_ (hg:=wn cw);refine qs ?_ (hg:=wn cw);refine qu cw ?_;refine qg ?_;refine qm ?_;refine qm ?_;refine qg ?_;refine qm ?_;refine ab.two 20 rfl (fun aW=>?_) (fun aW=>?_)
    ·refine qm ?_ (hg:=wi aW);refine qg ?_ (hg:=wi aW);refine qt aW ?_;refine qg ?_;refine qm ?_;refine ab.two 25 rfl (fun bh=>?_) (fun bh=>?_)
     ·refine qs ?_ (hg:=wn bh);refine qs ?_ (hg:=wn bh);refine qs ?_ (hg:=wn bh);refine qs ?_;refine qs ?_;refine qs ?_ (hg:=wn bh);refine qt bh ?_;refine qm ?_;refine ab.nil (aU ?_);dsimp only[aI,List.foldl,nth,u2,u1];dsimp only[Fr.aC,Fr.put,Fr.clean,Fr.ev,Fr.get,nth,V.look,u1,u2,v1,v2,v3,v4,v5,v6,v7,List.length,u3,u4,Nat.reduceSub,Nat.reduceAdd,List.map]
      all_goals(simp[bf,cw,aW,bh];done)
     ·refine qm ?_ (hg:=wi bh);refine qg ?_ (hg:=wi bh);refine qm ?_ (hg:=wi bh);refine ab.two 28 rfl (fun aY=>?_) (fun aY=>?_)
      ·refine qm ?_ (hg:=wi aY);refine qg ?_ (hg:=wi aY);refine ab.dG (aB rfl rfl rfl bh) rfl aY (ag rfl _) ?_;refine qu bh ?_;refine qm ?_;refine ab.nil (aU ?_);dsimp only[aI,List.foldl,nth,u2,u1];dsimp only[Fr.aC,Fr.put,Fr.clean,Fr.ev,Fr.get,nth,V.look,u1,u2,v1,v2,v3,v4,v5,v6,v7,List.length,u3,u4,Nat.reduceSub,Nat.reduceAdd,List.map]
       all_goals(simp[bf,cw,aW,bh,aY];done)
      ·refine qs ?_ (hg:=wn aY);refine qs ?_ (hg:=wn aY);refine ab.cX (aB rfl rfl rfl bh) rfl aY (ag rfl _) ?_;refine qu bh ?_;refine qm ?_;refine ab.nil (aU ?_);dsimp only[aI,List.foldl,nth,u2,u1];dsimp only[Fr.aC,Fr.put,Fr.clean,Fr.ev,Fr.get,nth,V.look,u1,u2,v1,v2,v3,v4,v5,v6,v7,List.length,u3,u4,Nat.reduceSub,Nat.reduceAdd,List.map]
       all_goals(simp[bf,cw,aW,bh,aY];done)
    ·refine qs ?_ (hg:=wn aW);refine qs ?_ (hg:=wn aW);refine qu aW ?_;refine qg ?_;refine qm ?_;refine qm ?_;refine qg ?_;refine qm ?_;refine ab.two 28 rfl (fun aY=>?_) (fun aY=>?_)
     ·refine qm ?_ (hg:=wi aY);refine qg ?_ (hg:=wi aY);refine qt aY ?_;refine qg ?_;refine qm ?_;refine ab.nil (aU ?_);dsimp only[aI,List.foldl,nth,u2,u1];dsimp only[Fr.aC,Fr.put,Fr.clean,Fr.ev,Fr.get,nth,V.look,u1,u2,v1,v2,v3,v4,v5,v6,v7,List.length,u3,u4,Nat.reduceSub,Nat.reduceAdd,List.map]
      all_goals(simp[bf,cw,aW,aY];done)
     ·refine qs ?_ (hg:=wn aY);refine qs ?_ (hg:=wn aY);refine qu aY ?_;refine qg ?_;refine qm ?_;refine ab.nil (aU ?_);dsimp only[aI,List.foldl,nth,u2,u1];dsimp only[Fr.aC,Fr.put,Fr.clean,Fr.ev,Fr.get,nth,V.look,u1,u2,v1,v2,v3,v4,v5,v6,v7,List.length,u3,u4,Nat.reduceSub,Nat.reduceAdd,List.map]
      all_goals(simp[bf,cw,aW,aY];done)
 dsimp only[aI,List.foldl,nth,u2,u1];refine af.ret ⟨rx,_,rfl,rl b_ hH (rfl)⟩
theorem EY {s0:St} (a b:List UInt8):∃d,Ev pv 90 [.str a,.str b] s0 d s0∧∃v:Bool,d=.bool v:=by
 refine Ev.ET rfl Qn rfl rfl rfl ?_;dsimp only[u3,u4,List.length,Nat.reduceSub,Nat.reduceAdd,w1,w2];obtain⟨b_,hF,hH⟩:=ri s0;generalize ai .ro s0=S at*;refine qq<|qj fun K hK=>qm ?_;refine qe hK<|qq<|af.k_ 4 (.bool (decide ((a.length:Int)<b.length)||(((a.length:Int)==b.length) &&Op.bytesLess a b))) [] ?_ (fun ff tmp=>?_)
 ·refine qm ?_;refine ab.tf rfl rfl rfl (ag rfl _) ?_;refine qm ?_;refine ab.tf rfl rfl rfl (ag rfl _) ?_;refine qg ?_;refine qm ?_;refine ab.two 10 rfl (fun bc=>?_) (fun bc=>?_)
  ·refine qs ?_ (hg:=wn bc);refine qs ?_ (hg:=wn bc);refine qs ?_ (hg:=wn bc);refine qs ?_ (hg:=wn bc);refine qs ?_ (hg:=wn bc);refine qs ?_ (hg:=wn bc);refine qs ?_;refine qs ?_;refine qs ?_;refine qs ?_ (hg:=wn bc);refine qt bc ?_;refine qm ?_;refine ab.nil (aU ?_);dsimp only[aI,List.foldl,nth,u2,u1];dsimp only[Fr.aC,Fr.put,Fr.clean,Fr.ev,Fr.get,nth,V.look,u1,u2,v1,v2,v3,v4,v5,v6,v7,List.length,u3,u4,Nat.reduceSub,Nat.reduceAdd,List.map]
   all_goals(simp_all;done)
  ·refine qm ?_ (hg:=wi bc);refine ab.tf (aB rfl rfl rfl bc) rfl rfl (ag rfl _) ?_;refine qm ?_ (hg:=wi bc);refine ab.tf (aB rfl rfl rfl bc) rfl rfl (ag rfl _) ?_;refine qg ?_ (hg:=wi bc);refine qm ?_ (hg:=wi bc);refine ab.two 16 rfl (fun a8=>?_) (fun a8=>?_)
   ·refine qm ?_ (hg:=wi a8);refine qm ?_ (hg:=wi a8);refine qg ?_ (hg:=wi a8);refine ab.dG (aB rfl rfl rfl bc) rfl a8 (ag rfl _) ?_;refine qu bc ?_;refine qm ?_;refine ab.nil (aU ?_);dsimp only[aI,List.foldl,nth,u2,u1];dsimp only[Fr.aC,Fr.put,Fr.clean,Fr.ev,Fr.get,nth,V.look,u1,u2,v1,v2,v3,v4,v5,v6,v7,List.length,u3,u4,Nat.reduceSub,Nat.reduceAdd,List.map]
    all_goals(simp_all;done)
   ·refine qs ?_ (hg:=wn a8);refine qs ?_ (hg:=wn a8);refine qs ?_ (hg:=wn a8);refine ab.cX (aB rfl rfl rfl bc) rfl a8 (ag rfl _) ?_;refine qu bc ?_;refine qm ?_;refine ab.nil (aU ?_);dsimp only[aI,List.foldl,nth,u2,u1];dsimp only[Fr.aC,Fr.put,Fr.clean,Fr.ev,Fr.get,nth,V.look,u1,u2,v1,v2,v3,v4,v5,v6,v7,List.length,u3,u4,Nat.reduceSub,Nat.reduceAdd,List.map]
    all_goals(simp_all;done)
 dsimp only[aI,List.foldl,nth,u2,u1];refine af.ret ⟨rx,_,_,rfl,rl b_ hH (rfl),?_⟩;exact⟨_,rfl⟩
theorem kF {s0:St} (b:List UInt8) (hb:b.length≤1048576):∃d,Ev pv 91 [.str b] s0 d s0∧∃(n:Int) (v:Bool),d=.tup [.int .i64 n,.bool v]:=by
 refine Ev.ET rfl Qm rfl rfl rfl ?_;dsimp only[u3,u4,List.length,Nat.reduceSub,Nat.reduceAdd,w1,w2];obtain⟨b_,hF,hH⟩:=ri s0;generalize ai .ro s0=S at*;refine qq<|qj fun K hK=>qm ?_;refine qm ?_;refine qe hK<|qq<|qq<|qj fun K hK=>qm ?_;refine ab.tf rfl rfl rfl (by dsimp only[Fr.put,u1,u2]<;>rfl) ?_;refine qg ?_;refine qe hK ?_;refine af.cond (by rfl) (fun h0=>?_) (fun h0=>?_)<;>try simp only[decide_eq_true_eq,decide_eq_false_iff_not] at h0
 ·refine qq<|qj fun K hK=>qm ?_;refine qm ?_;refine qe hK<|af.ret ⟨rx,_,_,rfl,rl b_ hH (rfl),?_⟩;exact⟨_,_,rfl⟩
 ·refine af.skip<|qq<|qj fun K hK=>qm ?_;refine qe hK<|qq<|qq<|qj fun K hK=>qm ?_;refine ab.tf rfl rfl rfl (by dsimp only[Fr.put,u1,u2]<;>rfl) ?_;refine qm ?_;refine qe hK<|af.block<|af.loop (fun mm fr st=>∃(i:Nat) (n:Int),fr.clean=⟨12,[.str b,dX fr 1,dX fr 2,dX fr 3,.int .i64 n,dX fr 5,dX fr 6,dX fr 7,dX fr 8,dX fr 9,.int .i64 (b.length:Nat),.int .i64 (i:Nat)],[]⟩∧Has s0.bs.length S st []∧(i+mm=b.length)) (b.length) ?_ ?_
  ·exact⟨0,0,rfl,hH,by omega⟩
  rintro mm fr st ⟨i,n,hfr,hH,hi⟩;rw[hfr];clear hfr;generalize dX fr=ee;clear fr;refine qq<|qj fun K hK=>qg ?_;refine qe hK<|qq ?_;refine af.cond (by rfl) (fun h1=>?_) (fun h1=>?_)<;>try simp only[decide_eq_true_eq,decide_eq_false_iff_not] at h1
  ·refine af.skip ?_
   obtain⟨c,hc⟩:∃c,b[i]?=some c:=⟨b[i]'(by omega),List.getElem?_eq_getElem _⟩
   refine qq<|af.block<|qq<|qj fun K hK=>qm ?_;refine qm ?_;refine qe hK<|qj fun K hK=>qm ?_;refine ab.vK (z:=bP .i64 (10*n)) rfl (ev rfl) (ev rfl) rfl (ag rfl _) ?_;refine qm ?_;refine qm ?_;refine ab.Od rfl (ev rfl) (ev rfl) rfl (by assumption) (ag rfl _) ?_;refine ab.go (d:=.int .u8 (bP .u8 ((c.toNat:Nat)-48))) (st1:=_) rfl rfl rfl (ag rfl _) ?_;refine qg ?_;refine ab.ka (z:=bP .i64 (bP .i64 (10*n)+bP .i64 (bP .u8 ((c.toNat:Nat)-48)))) rfl (ev rfl) (ev rfl) rfl (ag rfl _) ?_;refine qm ?_;refine qe hK<|qj fun K hK=>qA ?_;refine qm ?_;refine qe hK ?_;exact⟨mm-1,by omega,⟨i+1,_,rfl,hH,by omega⟩⟩
  ·refine af.exit<|qq<|qj fun K hK=>qm ?_;refine qm ?_;refine qg ?_;refine qm ?_;refine qm ?_;refine qe hK<|af.ret ⟨rx,_,_,rfl,rl b_ hH (rfl),?_⟩;exact⟨_,_,rfl⟩
theorem mw:∀gs:List (Nat×Nat),iD ((gs.map bm).map (ja 2))=some (gs.map fun g=>((g.1:Nat):Int))
 |[]=>rfl
 |g::gs=>by
  have ih:=mw gs;simp only[List.map_cons];show(match iD ((gs.map bm).map (ja 2)) with|some rs=>some (((g.1:Nat):Int)::rs)|none=>none)=_;rw[ih]
theorem uI:∀(rs:List Int) (acc:List UInt8),(digS rs acc).2≤rs.length∧(digS rs acc).1.length≤acc.length+(digS rs acc).2
 |[],acc=>by simp[digS]
 |r::rs,acc=>by
  unfold digS
  split
  ·have h:=uI rs (if 48<r∨acc≠[] then acc++[UInt8.ofNat r.toNat] else acc);simp only[List.length_cons]
   have hl:(if 48<r∨acc≠[] then acc++[UInt8.ofNat r.toNat] else acc).length≤acc.length+1:=by
    split<;>simp
   omega
  ·simp
structure jF (gs:List (Nat×Nat)) (bO:List Int):Prop where
 gl:gs.length≤120
 pl:bO.length=gs.length
theorem qU {N k:Nat} {S s0:St} {H:List bC} {gs:List (Nat×Nat)} {bE:D} {s:eu} (sB:gs.length≤120) (hi:s.i≤gs.length) (hne:gs≠[]) (hH:Has N S s0 (.box k (.mem 0 false (aP gs bE s))::H)):
  ∃d ah,Ev pv 89 [.ptr k 0 0] s0 d ah∧∃(t:List UInt8) (v:Bool) (m:Nat),d=.tup [.str t,.bool v]∧t.length≤120∧s.i+m≤gs.length∧Has N S ah (.box k (.mem 0 false (aP gs bE {s with i:=s.i+m}))::H):=by
 have hb:=hH.at ay;have hw:=iw (cs:=[.int .i64 0]) hH (hH.ge ay).1 (.inr rfl);have hl:=uI ((gs.map fun g=>((g.1:Nat):Int)).drop s.i) [];obtain⟨h1,h2⟩:=hl;simp only[List.length_drop,List.length_map,List.length_nil] at h1 h2;refine⟨_,_,Ev.iX rfl ?_,(digS ((gs.map fun g=>((g.1:Nat):Int)).drop s.i) []).1,decide (0<(digS ((gs.map fun g=>((g.1:Nat):Int)).drop s.i) []).2),(digS ((gs.map fun g=>((g.1:Nat):Int)).drop s.i) []).2,rfl,by omega,by omega,hH.zL (ax:=0) ay⟩
 have hd:decide ((gs.map fun g=>((g.1:Nat):Int))≠[]∧(0:Int)≤(s.i:Nat)∧((s.i:Nat):Int).toNat≤(gs.map fun g=>((g.1:Nat):Int)).length∧(gs.map fun g=>((g.1:Nat):Int)).length<1099511627776)=true:=by
  rw[decide_eq_true];refine⟨by simpa using hne,by omega,by simp;omega,by simp;omega⟩
 show y5 [.ptr k 0 0] s0=_;simp only[y5,St.mem_of hb];show(match iD ((gs.map bm).map (ja 2)) with|some rs=>FF s0 k 0 0 rs (s.i:Nat)|none=>none)=_;rw[mw];simp only[FF,hd];have hwr:=ke (cs:=[.int .i64 ((s.i+(digS ((gs.map fun g=>((g.1:Nat):Int)).drop s.i) []).2:Nat))]) (off:=2) hb (by show 2+1≤7;omega) hw;simp only[Int.toNat_natCast,Nat.zero_add];rw[hwr]
 rfl
def BJ (gs:List (Nat×Nat)) (s s':eu) (d1:D) (b:Bool):Prop:=
 s'.o=s.o∧s'.g=s.g∧s.i≤s'.i∧s'.i≤gs.length∧(d1=.nul∨∃a,d1=bw a∧a.length≤8)∧(s'.e≠0∨s'.e=0∧s.i<s'.i∧∃a,d1=bw a∧a.length≤8∧a≠[])
theorem cU {bO:List Int} {s:eu} {i:Nat} {e:Int} (he:s.e=0) (h:e≠0):(gU bO s i e).e≠0∧(gU bO s i e).i=s.i∧(gU bO s i e).o=s.o∧(gU bO s i e).g=s.g:=by
 unfold gU;rw[if_pos he];exact⟨h,rfl,rfl,rfl⟩
theorem w7 {N k:Nat} {S s0:St} {H:List bC} {gs:List (Nat×Nat)} {bE:D} {bO:List Int} {s:eu} (a_:jF gs bO) (he:s.e=0) (hi:s.i<gs.length) (hH:Has N S s0 (.box k (.mem 0 false (aP gs bE s))::.aJ bE 1 (bO.map aw)::H)):
  ∃d ah,Ev pv 86 [.ptr k 0 0] s0 d ah∧∃(d1:D) (b:Bool) (s':eu),d=.tup [d1,.bool b]∧BJ gs s s' d1 b∧Has N S ah (.box k (.mem 0 false (aP gs bE s'))::.aJ bE 1 (bO.map aw)::H):=by
 have sB:=a_.gl;have jf:=a_.pl;refine Ev.iY rfl Qq rfl rfl rfl ?_;dsimp only[u3,u4,List.length,Nat.reduceSub,Nat.reduceAdd,w1,w2];have ck:=hH;have hH:=hH.cn;have ch:(ai .rw s0).bs=s0.bs:=rfl;generalize ai .rw s0=S2 at*;have Ft:Arg N S2 2 (eG gs) (gs.map bm):=Arg.pure (fun st=>dj st gs);refine qq<|qj fun K hK=>qm ?_;refine qm ?_;refine qe hK<|qq<|qj fun K hK=>qm ?_;refine qg ?_;refine qp (o:=2) ?_;refine ql hH ay ?_;refine qm ?_;refine qe hK<|qq<|qj fun K hK=>qm ?_;refine qg ?_;refine qp (o:=2) ?_;refine ql hH ay ?_;refine qA ?_;refine qg ?_;refine qp (o:=2) ?_;refine qT hH ay fun st hH=>?_;dsimp only[u2,u1,u3,u4,setMany,u5,u6,D.cells,Nat.reduceAdd,aP,bm,aw,au] at hH;refine qe hK<|qq<|qq<|qj fun K hK=>qm ?_;refine qg ?_;refine qp (o:=2) ?_;refine ql hH ay ?_;refine qm ?_;refine qg ?_;refine qp (o:=0) ?_;refine ql hH ay ?_;refine qn ?_;simp only[List.length_map];refine qg ?_;refine qe hK ?_;refine af.cond (by rfl) (fun h0=>?_) (fun h0=>?_)<;>try simp only[decide_eq_true_eq,decide_eq_false_iff_not] at h0
 ·refine qq<|qj fun K hK=>qm ?_;refine qm ?_;obtain⟨_,st,aH,rfl,hH⟩:=cK (s:={s with i:=s.i+1}) s.i 4 (by omega) hH;refine qv aH ?_;refine qe hK<|qq<|qj fun K hK=>qm ?_;refine qm ?_;refine qe hK ?_;obtain⟨h1,h2,h3,h4⟩:=cU (bO:=bO) (s:={s with i:=s.i+1}) (i:=s.i) (e:=4) he (by decide);refine af.ret ⟨rx,_,_,_,rfl,aj (rfl),?_⟩;exact⟨_,_,_,rfl,⟨h3,h4,by rw[h2];simp,by rw[h2];exact hi,.inl rfl,.inl h1⟩,ck.av ch hH⟩
 ·obtain⟨g,hg⟩:∃g,gs[s.i+1]?=some g:=⟨gs[s.i+1]'(by omega),List.getElem?_eq_getElem _⟩
  have gD:(gs.map bm)[s.i+1]?=some (bm g):=by rw[List.getElem?_map,hg];rfl
  have hlt:=bt hg;refine af.skip<|qq<|qq<|qj fun K hK=>qm ?_;refine qm ?_;refine qg ?_;refine qp (o:=2) ?_;refine ql hH ay ?_;obtain⟨_,st,aH,rfl,hH⟩:=wI (s:={s with i:=s.i+1}) (s.i+1) hlt hH;refine qv aH ?_;refine qe hK ?_;dsimp only[aP] at hH;refine qc (fun hb=>?_) (fun hb=>?_)<;>try simp only[cs] at hb
  ·refine qq<|qj fun K hK=>qm ?_;refine qm ?_;refine qg ?_;refine qp (o:=2) ?_;refine ql hH ay ?_;obtain⟨_,st,aH,rfl,hH⟩:=cK (s:={s with i:=s.i+1}) (s.i+1) 4 (by omega) hH;refine qv aH ?_;refine qe hK<|qq<|qj fun K hK=>qm ?_;refine qm ?_;refine qe hK ?_;obtain⟨h1,h2,h3,h4⟩:=cU (bO:=bO) (s:={s with i:=s.i+1}) (i:=s.i+1) (e:=4) he (by decide);refine af.ret ⟨rx,_,_,_,rfl,aj (rfl),?_⟩;exact⟨_,_,_,rfl,⟨h3,h4,by rw[h2];simp,by rw[h2];exact hi,.inl rfl,.inl h1⟩,ck.av ch hH⟩
  ·refine af.skip<|qq<|qj fun K hK=>qm ?_;refine qg ?_;refine qp (o:=0) ?_;refine ql hH ay ?_;refine qm ?_;refine qg ?_;refine qp (o:=2) ?_;refine ql hH ay ?_;refine qr fun RW Mz=>?_;refine qf (fo:=0) fun Th O'=>?_;refine qR ?_;refine qm ?_;refine qe hK<|qq<|qj fun K hK=>qm ?_;refine qg ?_;refine qp (o:=2) ?_;refine ql hH ay ?_;refine qA ?_;refine qg ?_;refine qp (o:=2) ?_;refine qT hH ay fun st hH=>?_;dsimp only[u2,u1,u3,u4,setMany,u5,u6,D.cells,Nat.reduceAdd,aP,bm,aw,au] at hH;refine qe hK<|qq<|qq<|qj fun K hK=>qm ?_;refine qe hK ?_
   have fu:∀(a:List Rg) (b:Bool),a.length≤8→a≠[]→BJ gs s {s with i:=s.i+1+1} (bw a) b:=fun a b h1 h2=>⟨rfl,rfl,by show s.i≤s.i+1+1;omega,by show s.i+1+1≤_;omega,.inr ⟨a,rfl,h1⟩,.inr ⟨he,by show s.i<s.i+1+1;omega,a,rfl,h1,h2⟩⟩
   have iL:∀(r:Int),0≤r→r<55296→(ju [(r,r)]).length≤8∧ju [(r,r)]≠[]:=by
    intro r h1 h2;obtain⟨_,h3,h4⟩:=kM (s0:=s0) (x:=bw [(r,r)]) (l:=[(r,r)]) (eM _ _) (by simp);exact⟨by simp at h3;omega,tY h1 h2 h4⟩
   refine af.block<|qq<|qj fun K hK=>qg ?_;refine qm ?_;refine qe hK ?_;refine af.cond (by rfl) (fun q1=>?_) (fun q1=>?_)<;>try simp only[beq_iff_eq,beq_eq_false_iff_ne,ne_eq] at q1
   ·refine qq<|qj fun K hK=>qv (ia 10) ?_;refine qm ?_;refine qm ?_;refine qe hK<|af.ret ⟨rx,_,_,_,rfl,aj (rfl),?_⟩;exact⟨_,_,_,rfl,fu _ _ (iL 10 (by decide) (by decide)).1 (iL 10 (by decide) (by decide)).2,ck.av ch hH⟩
   ·refine qq<|qj fun K hK=>qg ?_;refine qm ?_;refine qe hK ?_;refine af.cond (by rfl) (fun q2=>?_) (fun q2=>?_)<;>try simp only[beq_iff_eq,beq_eq_false_iff_ne,ne_eq] at q2
    ·refine qq<|qj fun K hK=>qv (ia 9) ?_;refine qm ?_;refine qm ?_;refine qe hK<|af.ret ⟨rx,_,_,_,rfl,aj (rfl),?_⟩;exact⟨_,_,_,rfl,fu _ _ (iL 9 (by decide) (by decide)).1 (iL 9 (by decide) (by decide)).2,ck.av ch hH⟩
    ·refine qq<|qj fun K hK=>qg ?_;refine qm ?_;refine qe hK ?_;refine af.cond (by rfl) (fun q3=>?_) (fun q3=>?_)<;>try simp only[beq_iff_eq,beq_eq_false_iff_ne,ne_eq] at q3
     ·refine qq<|qj fun K hK=>qv (ia 13) ?_;refine qm ?_;refine qm ?_;refine qe hK<|af.ret ⟨rx,_,_,_,rfl,aj (rfl),?_⟩;exact⟨_,_,_,rfl,fu _ _ (iL 13 (by decide) (by decide)).1 (iL 13 (by decide) (by decide)).2,ck.av ch hH⟩
     ·refine qq<|qj fun K hK=>qg ?_;refine qm ?_;refine qe hK ?_;refine af.cond (by rfl) (fun q4=>?_) (fun q4=>?_)<;>try simp only[beq_iff_eq,beq_eq_false_iff_ne,ne_eq] at q4
      ·refine qq<|qj fun K hK=>?_;refine ab.fe (qs:=[(0,_),(1,_)]) rfl rfl rfl rfl ⟨rfl,(ev rfl),(by rfl),rfl,(ev rfl),(by rfl),trivial⟩ (by intro q hq;simp only[List.mem_cons,List.not_mem_nil,or_false] at hq;rcases hq with rfl|rfl<;>exact⟨rfl,by exact Nat.le_of_ble_eq_true rfl⟩) (by show List.foldl _ [_,_] _=_;dsimp only[List.foldl_cons,List.foldl_nil,u2,u1]<;>rfl) (ag rfl _) ?_;refine qh (s:=2) (vs:=[_]) hH fun k73 st UR hH=>?_;obtain⟨aH,hl,F8⟩:=kM (l:=[(48,57)]) (hH.rows ay) (by simp);refine qv aH ?_;refine qm ?_;refine qm ?_;refine qe hK<|af.ret ⟨rx,_,_,_,rfl,aj (rfl),?_⟩;exact⟨_,_,_,rfl,fu _ _ (by simp at hl;omega) (rV (r:=48) (by decide) (by decide) ⟨_,List.mem_cons_self ..,by decide,by decide⟩ F8),ck.av ch (hH.drop 1)⟩
      ·refine qq<|qj fun K hK=>qg ?_;refine qm ?_;refine qe hK ?_;refine af.cond (by rfl) (fun q5=>?_) (fun q5=>?_)<;>try simp only[beq_iff_eq,beq_eq_false_iff_ne,ne_eq] at q5
       ·refine qq<|qj fun K hK=>?_;refine ab.fe (qs:=[(0,_),(1,_)]) rfl rfl rfl rfl ⟨rfl,(ev rfl),(by rfl),rfl,(ev rfl),(by rfl),trivial⟩ (by intro q hq;simp only[List.mem_cons,List.not_mem_nil,or_false] at hq;rcases hq with rfl|rfl<;>exact⟨rfl,by exact Nat.le_of_ble_eq_true rfl⟩) (by show List.foldl _ [_,_] _=_;dsimp only[List.foldl_cons,List.foldl_nil,u2,u1]<;>rfl) (ag rfl _) ?_;refine ab.fe (qs:=[(0,_),(1,_)]) rfl rfl rfl rfl ⟨rfl,(ev rfl),(by rfl),rfl,(ev rfl),(by rfl),trivial⟩ (by intro q hq;simp only[List.mem_cons,List.not_mem_nil,or_false] at hq;rcases hq with rfl|rfl<;>exact⟨rfl,by exact Nat.le_of_ble_eq_true rfl⟩) (by show List.foldl _ [_,_] _=_;dsimp only[List.foldl_cons,List.foldl_nil,u2,u1]<;>rfl) (ag rfl _) ?_;refine ab.fe (qs:=[(0,_),(1,_)]) rfl rfl rfl rfl ⟨rfl,(ev rfl),(by rfl),rfl,(ev rfl),(by rfl),trivial⟩ (by intro q hq;simp only[List.mem_cons,List.not_mem_nil,or_false] at hq;rcases hq with rfl|rfl<;>exact⟨rfl,by exact Nat.le_of_ble_eq_true rfl⟩) (by show List.foldl _ [_,_] _=_;dsimp only[List.foldl_cons,List.foldl_nil,u2,u1]<;>rfl) (ag rfl _) ?_;refine qh (s:=2) (vs:=[_,_,_]) hH fun k80 st UP hH=>?_;obtain⟨aH,hl,F8⟩:=kM (l:=[(9,10),(13,13),(32,32)]) (hH.rows ay) (by simp);refine qv aH ?_;refine qm ?_;refine qm ?_;refine qe hK<|af.ret ⟨rx,_,_,_,rfl,aj (rfl),?_⟩;exact⟨_,_,_,rfl,fu _ _ (by simp at hl;omega) (rV (r:=9) (by decide) (by decide) ⟨_,List.mem_cons_self ..,by decide,by decide⟩ F8),ck.av ch (hH.drop 1)⟩
       ·refine qq<|qj fun K hK=>qg ?_;refine qm ?_;refine qe hK ?_;refine af.cond (by rfl) (fun q6=>?_) (fun q6=>?_)<;>try simp only[beq_iff_eq,beq_eq_false_iff_ne,ne_eq] at q6
        ·refine qq<|qj fun K hK=>?_;refine ab.fe (qs:=[(0,_),(1,_)]) rfl rfl rfl rfl ⟨rfl,(ev rfl),(by rfl),rfl,(ev rfl),(by rfl),trivial⟩ (by intro q hq;simp only[List.mem_cons,List.not_mem_nil,or_false] at hq;rcases hq with rfl|rfl<;>exact⟨rfl,by exact Nat.le_of_ble_eq_true rfl⟩) (by show List.foldl _ [_,_] _=_;dsimp only[List.foldl_cons,List.foldl_nil,u2,u1]<;>rfl) (ag rfl _) ?_;refine ab.fe (qs:=[(0,_),(1,_)]) rfl rfl rfl rfl ⟨rfl,(ev rfl),(by rfl),rfl,(ev rfl),(by rfl),trivial⟩ (by intro q hq;simp only[List.mem_cons,List.not_mem_nil,or_false] at hq;rcases hq with rfl|rfl<;>exact⟨rfl,by exact Nat.le_of_ble_eq_true rfl⟩) (by show List.foldl _ [_,_] _=_;dsimp only[List.foldl_cons,List.foldl_nil,u2,u1]<;>rfl) (ag rfl _) ?_;refine ab.fe (qs:=[(0,_),(1,_)]) rfl rfl rfl rfl ⟨rfl,(ev rfl),(by rfl),rfl,(ev rfl),(by rfl),trivial⟩ (by intro q hq;simp only[List.mem_cons,List.not_mem_nil,or_false] at hq;rcases hq with rfl|rfl<;>exact⟨rfl,by exact Nat.le_of_ble_eq_true rfl⟩) (by show List.foldl _ [_,_] _=_;dsimp only[List.foldl_cons,List.foldl_nil,u2,u1]<;>rfl) (ag rfl _) ?_;refine ab.fe (qs:=[(0,_),(1,_)]) rfl rfl rfl rfl ⟨rfl,(ev rfl),(by rfl),rfl,(ev rfl),(by rfl),trivial⟩ (by intro q hq;simp only[List.mem_cons,List.not_mem_nil,or_false] at hq;rcases hq with rfl|rfl<;>exact⟨rfl,by exact Nat.le_of_ble_eq_true rfl⟩) (by show List.foldl _ [_,_] _=_;dsimp only[List.foldl_cons,List.foldl_nil,u2,u1]<;>rfl) (ag rfl _) ?_;refine qh (s:=2) (vs:=[_,_,_,_]) hH fun k88 st MW hH=>?_;obtain⟨aH,hl,F8⟩:=kM (l:=[(48,57),(65,90),(95,95),(97,122)]) (hH.rows ay) (by simp);refine qv aH ?_;refine qm ?_;refine qm ?_;refine qe hK<|af.ret ⟨rx,_,_,_,rfl,aj (rfl),?_⟩;exact⟨_,_,_,rfl,fu _ _ (by simp at hl;omega) (rV (r:=48) (by decide) (by decide) ⟨_,List.mem_cons_self ..,by decide,by decide⟩ F8),ck.av ch (hH.drop 1)⟩
        ·refine af.skip<|qq<|qq<|qj fun K hK=>qm ?_;refine qv (EX _) ?_;refine qg ?_;refine qe hK ?_;refine af.cond (by rfl) (fun q7=>?_) (fun q7=>?_)<;>try simp only[decide_eq_true_eq,decide_eq_false_iff_not,Bool.not_eq_true',Bool.not_eq_false'] at q7
         ·refine qq<|qj fun K hK=>qm ?_;refine qm ?_;obtain⟨_,st,aH,rfl,hH⟩:=cK (s:={s with i:=s.i+1+1}) s.i 4 (by omega) hH;refine qv aH ?_;refine qe hK<|qq<|qj fun K hK=>qm ?_;refine qm ?_;refine qe hK ?_;obtain⟨h1,h2,h3,h4⟩:=cU (bO:=bO) (s:={s with i:=s.i+1+1}) (i:=s.i) (e:=4) he (by decide);refine af.ret ⟨rx,_,_,_,rfl,aj (rfl),?_⟩;exact⟨_,_,_,rfl,⟨h3,h4,by rw[h2];show s.i≤s.i+1+1;omega,by rw[h2];show s.i+1+1≤_;omega,.inl rfl,.inl h1⟩,ck.av ch hH⟩
         ·refine af.skip<|qq<|qj fun K hK=>qm ?_;refine qv (ia _) ?_;refine qm ?_;refine qm ?_;refine qe hK ?_;have hm:=iL ((g.1:Nat):Int) (by omega) (by omega);refine af.ret ⟨rx,_,_,_,rfl,aj (rfl),?_⟩;exact⟨_,_,_,rfl,fu _ _ hm.1 hm.2,ck.av ch hH⟩
def aF (fr:Go.V.Fr) (k:Nat):Go.V.D:=Go.V.nth .bp fr.loc k
def e5 (b:Bool):List D:=[.bool b]
theorem uS {l:List Bool} {i:Nat} {q:Bool} (h:l[i]?=some q):(l.map e5)[i]?=some (e5 q):=by rw[List.getElem?_map,h];rfl
theorem oU (l:List Bool):∀e∈l.map e5,∀d∈e,bX d=true:=by
 intro e he d hd;obtain⟨x,_,rfl⟩:=List.mem_map.1 he;simp only[e5,List.mem_cons,List.not_mem_nil,or_false] at hd;subst hd;rfl
theorem BB (l:List Bool):∀e∈l.map e5,e.length=1:=by
 intro e he;obtain⟨x,_,rfl⟩:=List.mem_map.1 he;rfl
def wH (l:List Bool):D:=.sl ((l.map e5).map (ja 1))
theorem za (l:List Bool):fK (wH l) 1 (l.map e5):=fK.frozen (BB l) (oU l)
theorem l3 (l:List Int):∀e∈l.map aw,∀d∈e,bX d=true:=by
 intro e he d hd;obtain⟨x,_,rfl⟩:=List.mem_map.1 he;simp only[aw,List.mem_cons,List.not_mem_nil,or_false] at hd;subst hd;rfl
theorem E3 (l:List Int):∀e∈l.map aw,e.length=1:=by
 intro e he;obtain⟨x,_,rfl⟩:=List.mem_map.1 he;rfl
def AD (l:List Int):D:=.sl ((l.map aw).map (ja 1))
theorem ug (l:List Int):fK (AD l) 1 (l.map aw):=fK.frozen (E3 l) (l3 l)
def cu (pc:Nat) (i:aG):List Int:=
 if i.op=2 then[i.x,i.y] else if i.op=3 then[i.x] else if i.op=7 then[] else[((pc+1:Nat):Int)]
def gS (code:List aG):Prop:=∀pc i,code[pc]?=some i→∀v∈cu pc i,0≤v∧v<code.length
theorem th {n ns pc:Nat} {i:aG} (h:da n ns pc i=true):∀v∈cu pc i,0≤v∧v<n:=by
 intro v hv
 have dv:∀a b:Int,ot a b=true→0≤a∧a<b:=fun a b h=>by
  unfold ot at h;simp only[Bool.and_eq_true,decide_eq_true_eq] at h;exact⟨h.1,h.2⟩
 unfold da at h;unfold cu at hv
 split at h
 ·rename_i h1;rw[if_neg (by omega),if_neg (by omega),if_neg (by omega)] at hv;simp only[Bool.and_eq_true,decide_eq_true_eq] at h;simp only[List.mem_cons,List.not_mem_nil,or_false] at hv;subst hv;omega
 ·simp only[Bool.and_eq_true] at h;obtain⟨_,h⟩:=h
  split at h
  ·rename_i h2;rw[if_pos h2] at hv;simp only[Bool.and_eq_true] at h;simp only[List.mem_cons,List.not_mem_nil,or_false] at hv
   rcases hv with rfl|rfl
   ·exact dv _ _ h.1
   ·exact dv _ _ h.2
  ·rename_i h2;rw[if_neg h2] at hv;simp only[Bool.and_eq_true] at h;obtain⟨_,h⟩:=h
   split at h
   ·rename_i h3;rw[if_pos h3] at hv;simp only[List.mem_cons,List.not_mem_nil,or_false] at hv;subst hv;exact dv _ _ h
   ·rename_i h3;rw[if_neg h3] at hv
    split at h
    ·rename_i h4;rw[if_neg (by omega)] at hv;simp only[Bool.and_eq_true,decide_eq_true_eq] at h;simp only[List.mem_cons,List.not_mem_nil,or_false] at hv;subst hv;omega
    ·split at h
     ·rename_i h5;rw[if_neg (by omega)] at hv;simp only[Bool.and_eq_true,decide_eq_true_eq] at h;simp only[List.mem_cons,List.not_mem_nil,or_false] at hv;subst hv;omega
     ·split at h
      ·rename_i h7;rw[if_pos h7] at hv;cases hv
      ·cases h
def wv (code:List aG):Nat→List Bool→List Int→List Bool
 |0,seen,_=>seen
 |_+1,seen,[]=>seen
 |f+1,seen,v::fM=>match seen[v.toNat]? with
  |some false=>match code[v.toNat]? with
   |some i=>wv code f (seen.set v.toNat true) ((cu v.toNat i).reverse++fM)
   |none=>seen
  |_=>wv code f seen fM
def cg (code:List aG) (start:Int):List Bool:=wv code (3*code.length+1) (List.replicate code.length false) [start]
theorem sK (code:List aG):∀(f:Nat) (seen:List Bool) (fM:List Int),(wv code f seen fM).length=seen.length
 |0,_,_=>rfl
 |_+1,_,[]=>rfl
 |f+1,seen,v::fM=>by
  unfold wv
  split
  ·split
   ·rw[sK code f];simp
   ·rfl
  ·exact sK code f seen fM
theorem vB (code:List aG) (s:Int):(cg code s).length=code.length:=by
 unfold cg;rw[sK];simp
theorem count_set {seen:List Bool} {k:Nat} (h:seen[k]?=some false):(seen.set k true).count false+1=seen.count false:=by
 induction seen generalizing k with
 |nil=>simp at h
 |cons b l ih=>
  cases k with
  |zero=>simp at h;subst h;simp
  |succ k=>
   have:=ih (k:=k) (by simpa using h);simp only[List.set_cons_succ,List.count_cons];omega
theorem tT (pc:Nat) (i:aG):(cu pc i).length≤2:=by
 unfold cu;split
 ·simp
 ·split
  ·simp
  ·split<;>simp
theorem zA (v:Int) (r:List Int):((v::r).reverse.map aw)[r.length]?=some (aw v):=by
 rw[List.getElem?_map,List.reverse_cons,List.getElem?_append_right (by simp)];simp
theorem B7 (v:Int) (r:List Int):(((v::r).reverse.map aw).take r.length).drop 0=r.reverse.map aw:=by
 rw[List.reverse_cons,List.map_append,List.drop_zero,List.take_left' (by simp)]
theorem FB {s0:St} {cd:D} {code:List aG} {start:Int} (s8:fK cd 4 (code.map aM)) (hlen:code.length≤1048576) (hcl:gS code) (gp:0≤start∧start<code.length):Ev pv 54 [cd,.int .i64 start] s0 (wH (cg code start)) s0:=by
 refine Ev.nZ rfl QL rfl rfl rfl ?_;dsimp only[u3,u4,List.length,Nat.reduceSub,Nat.reduceAdd,w1,w2];obtain⟨b_,hF,hH⟩:=ri s0;generalize ai .ro s0=S at*;have hc:=s8.arg s0.bs.length S;refine qq<|qj fun K hK=>qm ?_;refine qe hK<|qq<|qj fun K hK=>qm ?_;refine qn ?_;simp only[List.length_map];refine ab.xx (s:=1) hH rfl rfl rfl rfl rfl rfl rfl rfl (Nat.le_of_ble_eq_true rfl) (by omega) (fun _=>by dsimp only[Fr.put,u1,u2]<;>rfl) (fun k11 st M4 hH=>?_);refine qm ?_;refine qe hK<|qq<|qj fun K hK=>qm ?_;refine qh (s:=1) (vs:=[_]) hH fun k13 st M3 hH=>?_;refine qm ?_;refine qe hK<|qq<|af.block<|af.loop (fun mm fr st=>∃(y z:D) (seen:List Bool) (fM:List Int),fr.clean=⟨41,[cd,aF fr 1,aF fr 2,aF fr 3,.nul,y,z,aF fr 7,aF fr 8,aF fr 9,aF fr 10,aF fr 11,aF fr 12,aF fr 13,aF fr 14,aF fr 15,aF fr 16,aF fr 17,aF fr 18,aF fr 19,aF fr 20,aF fr 21,aF fr 22,aF fr 23,aF fr 24,aF fr 25,aF fr 26,aF fr 27,aF fr 28,aF fr 29,aF fr 30,aF fr 31,aF fr 32,aF fr 33,aF fr 34,aF fr 35,aF fr 36,aF fr 37,aF fr 38,aF fr 39,aF fr 40],[]⟩∧Has s0.bs.length S st [.aJ z 1 (fM.reverse.map aw),.aJ y 1 (seen.map e5)]∧(wv code mm seen fM=cg code start)∧(3*seen.count false+fM.length≤mm)∧(seen.length=code.length)∧(∀v∈fM,0≤v∧v<(code.length:Int))∧(mm≤3*code.length+1)) (3*code.length+1) ?_ ?_
 ·exact⟨_,_,List.replicate code.length false,[start],rfl,(by rw[List.map_replicate];exact hH),rfl,by simp,by simp,by simpa using gp,by omega⟩
 rintro mm fr st ⟨y,z,seen,fM,hfr,hH,hd,hm,iV,hsk,vX⟩;rw[hfr];clear hfr;generalize aF fr=ee;clear fr
 rcases fM with _|⟨v,fM⟩
 ·refine qq<|qq<|qj fun K hK=>qm ?_;refine qn ?_ (hR:=hH.rows ay);simp only[List.length_map,List.length_nil,List.length_reverse];refine qg ?_;refine qe hK<|af.cond (v:=false) (by dsimp only[Fr.ev,Fr.get,nth,V.look];rfl) (fun h=>by cases h) (fun _=>?_);refine af.exit<|qq<|qj fun K hK=>qm ?_;refine qm ?_;refine qe hK ?_;have fu:seen=cg code start:=by rw[←hd];cases mm<;>rfl
  rw[←fu];refine af.ret ⟨rx,_,rfl,rl b_ hH ?_⟩;exact hH.freeze b5 (oU _) (n:=15) (by decide)
 ·have hv:=hsk v (List.mem_cons_self ..);obtain⟨k,rfl⟩:=Int.eq_ofNat_of_zero_le hv.1;have hk:k<code.length:=by omega
  simp only[List.length_cons] at hm
  obtain⟨mm,rfl⟩:∃m',mm=m'+1:=⟨mm-1,by omega⟩
  obtain⟨b,hb⟩:∃b,seen[k]?=some b:=⟨seen[k]'(by omega),List.getElem?_eq_getElem _⟩
  obtain⟨i,hi⟩:∃i,code[k]?=some i:=⟨code[k]'(by omega),List.getElem?_eq_getElem _⟩
  have gD:=zA (k:Int) fM;have o6:=uS hb;have T0:=gK hi;refine qq<|qq<|qj fun K hK=>qm ?_;refine qn ?_ (hR:=hH.rows ay);simp only[List.length_map,List.length_cons,List.length_reverse];refine qg ?_;refine qe hK<|qD rfl (by simp) ?_;refine af.skip<|af.block<|qq<|qj fun K hK=>qm ?_;refine qm ?_;refine qn ?_ (hR:=hH.rows ay);simp only[List.length_map,List.length_cons,List.length_reverse];refine ab.mN (z:=((fM.length:Nat):Int)) rfl (ev rfl) (ev rfl) (by(try simp only[List.length_reverse,List.length_cons,List.length_nil,List.length_append,List.length_map,List.length_set]);rw[wrap_i64 (by omega) (by omega)]<;>omega) (by dsimp only[Fr.put,u1,u2]<;>rfl) ?_;refine qi hH ay fun Oj J5=>?_;refine qo hH ay ?_;refine qm ?_;refine qe hK<|qq<|qj fun K hK=>qm ?_;refine qm ?_;refine qn ?_ (hR:=hH.rows ay);simp only[List.length_map,List.length_cons,List.length_reverse];refine ab.mN (z:=((fM.length:Nat):Int)) rfl (ev rfl) (ev rfl) (by(try simp only[List.length_reverse,List.length_cons,List.length_nil,List.length_append,List.length_map,List.length_set]);rw[wrap_i64 (by omega) (by omega)]<;>omega) (by dsimp only[Fr.put,u1,u2]<;>rfl) ?_;refine ab.Aa hH rfl (ev rfl) (by exact ay) rfl rfl (me (by simp only[List.length_map,List.length_reverse,List.length_cons,List.length_append,List.length_nil,List.length_take,List.length_drop,List.length_set,List.length_replicate];omega)) ⟨(by omega),(by simp only[List.length_map,List.length_reverse,List.length_cons,List.length_append,List.length_nil,List.length_take,List.length_drop,List.length_set,List.length_replicate];omega)⟩ (fun _=>by dsimp only[Fr.put,u1,u2]<;>rfl) (fun V3 hH=>?_);refine qm ?_;refine qe hK ?_;dsimp only[u2] at hH;rw[B7] at hH;have gp:∀w∈fM,0≤w∧w<(code.length:Int):=fun w hw=>hsk w (List.mem_cons_of_mem _ hw);refine qq<|qq<|qj fun K hK=>qm ?_;refine qm ?_;refine qi hH b5 fun R2 ME=>?_;refine qo hH b5 ?_;refine qe hK ?_
  cases b with
  |true=>
   refine qB ?_;refine af.exit ?_;simp only[wv,Int.toNat_natCast,hb] at hd;exact⟨mm,by omega,⟨_,_,seen,fM,rfl,hH,hd,by omega,iV,gp,by omega⟩⟩
  |false=>
   have A5:=count_set hb;have gC:(seen.set k true).map e5=(seen.map e5).set k [.bool true]:=by rw[List.map_set];rfl
   simp only[wv,Int.toNat_natCast,hb,hi] at hd;have UA:=hcl k i hi;have Pq:=tT k i
   have OS:∀w∈(cu k i).reverse++fM,0≤w∧w<(code.length:Int):=fun w hw=>by
    rcases List.mem_append.1 hw with hw|hw
    ·exact UA w (List.mem_reverse.1 hw)
    ·exact gp w hw
   have O0:(((cu k i).reverse++fM).reverse).map aw=fM.reverse.map aw++(cu k i).map aw:=by
    rw[List.reverse_append,List.reverse_reverse,List.map_append]
   refine qC ?_;refine af.skip<|qq<|qj fun K hK=>qm ?_;refine qm ?_;refine qi hH b5 fun WD Ur=>?_;refine ab.lO hH rfl (ev rfl) (ev rfl) (by assumption) rfl rfl (by exact b5) (by assumption) (Nat.le_of_ble_eq_true rfl) (by exact .inl hF) (fun st hH=>?_);dsimp only[u2,u1,u3,u4,setMany,u5,u6,D.cells,Nat.reduceAdd,aM,aw,e5] at hH;refine qe hK<|qq<|qj fun K hK=>qm ?_;refine qm ?_;refine qr fun RY MB=>?_;refine ab.dE rfl (ev rfl) (by assumption) rfl (by dsimp only[Fr.put,u1,u2]<;>rfl) ?_;refine qa hH fun k8 st NY hH=>?_;refine qS hH ay fun st hH=>?_;dsimp only[u2,u1,u3,u4,setMany,u5,u6,D.cells,Nat.reduceAdd,aM,aw,e5] at hH;refine qe hK<|qq<|qj fun K hK=>qp (o:=0) ?_;refine ql hH ay ?_;refine qe hK<|af.merge (fun fr st=>∃(z:D) (tmp:List (Nat×D)),fr=⟨41,[cd,aF fr 1,aF fr 2,aF fr 3,.nul,y,z,aF fr 7,aF fr 8,aF fr 9,aF fr 10,aF fr 11,aF fr 12,aF fr 13,aF fr 14,aF fr 15,aF fr 16,aF fr 17,aF fr 18,aF fr 19,aF fr 20,aF fr 21,aF fr 22,aF fr 23,aF fr 24,aF fr 25,aF fr 26,aF fr 27,aF fr 28,aF fr 29,aF fr 30,aF fr 31,aF fr 32,aF fr 33,aF fr 34,aF fr 35,aF fr 36,aF fr 37,aF fr 38,aF fr 39,aF fr 40],tmp⟩∧Has s0.bs.length S st [.aJ z 1 (fM.reverse.map aw++(cu k i).map aw),.aJ y 1 ((seen.map e5).set k [.bool true])]) ?_ ?_
   ·refine af.block<|qq<|qj fun K hK=>qg ?_;refine qm ?_;refine qe hK ?_;refine af.cond (by rfl) (fun h2=>?_) (fun h2=>?_)<;>try simp only[beq_iff_eq,beq_eq_false_iff_ne,ne_eq] at h2
    ·have:cu k i=[i.x,i.y]:=by unfold cu;rw[if_pos h2]
     rw[this];refine qj fun K hK=>qm ?_;refine qp (o:=1) ?_;refine ql hH ay ?_;refine qp (o:=2) ?_;refine ql hH ay ?_;refine qh (s:=1) (vs:=[_,_]) hH fun k53 st UW hH=>?_;refine ab.bR (s:=1) hH rfl (ev rfl) (ev rfl) (by exact eV) (by exact hH.rows (by exact ay)) rfl rfl rfl rfl rfl rfl rfl ⟨(Nat.le_of_ble_eq_true rfl),(Nat.le_of_ble_eq_true rfl)⟩ (fun _=>(ag rfl _)) (by simp only[List.length_cons,List.length_nil,List.length_map,List.length_reverse]<;>omega) (by exact .inl hF) (fun V6 st hH=>?_);dsimp only[u2,u1,u3,u4,setMany,u5,u6,D.cells,Nat.reduceAdd,aM,aw,e5] at hH;refine qm ?_;refine qe hK ?_;exact⟨_,_,rfl,(by have:=hH.drop 2;exact this)⟩
    ·refine qq<|qj fun K hK=>qg ?_;refine qm ?_;refine qe hK ?_;refine af.cond (by rfl) (fun h3=>?_) (fun h3=>?_)<;>try simp only[beq_iff_eq,beq_eq_false_iff_ne,ne_eq] at h3
     ·have:cu k i=[i.x]:=by unfold cu;rw[if_neg h2,if_pos h3]
      rw[this];refine qj fun K hK=>qm ?_;refine qp (o:=1) ?_;refine ql hH ay ?_;refine qh (s:=1) (vs:=[_]) hH fun k60 st UT hH=>?_;refine ab.bR (s:=1) hH rfl (ev rfl) (ev rfl) (by exact eV) (by exact hH.rows (by exact ay)) rfl rfl rfl rfl rfl rfl rfl ⟨(Nat.le_of_ble_eq_true rfl),(Nat.le_of_ble_eq_true rfl)⟩ (fun _=>(ag rfl _)) (by simp only[List.length_cons,List.length_nil,List.length_map,List.length_reverse]<;>omega) (by exact .inl hF) (fun V5 st hH=>?_);dsimp only[u2,u1,u3,u4,setMany,u5,u6,D.cells,Nat.reduceAdd,aM,aw,e5] at hH;refine qm ?_;refine qe hK ?_;exact⟨_,_,rfl,(by have:=hH.drop 2;exact this)⟩
     ·refine qq<|qj fun K hK=>qg ?_;refine qm ?_;refine qe hK ?_;refine af.cond (by rfl) (fun h7=>?_) (fun h7=>?_)<;>try simp only[beq_iff_eq,beq_eq_false_iff_ne,ne_eq] at h7
      ·have:cu k i=[]:=by unfold cu;rw[if_neg h2,if_neg h3,if_pos h7]
       rw[this,List.map_nil,List.append_nil];refine af.skip ?_;exact⟨_,_,rfl,(by have:=hH.drop 1;exact this)⟩
      ·have:cu k i=[((k+1:Nat):Int)]:=by unfold cu;rw[if_neg h2,if_neg h3,if_neg h7]
       rw[this];refine qj fun K hK=>qm ?_;refine qm ?_;refine qA ?_;refine qh (s:=1) (vs:=[_]) hH fun k44 st U0 hH=>?_;refine ab.bR (s:=1) hH rfl (ev rfl) (ev rfl) (by exact eV) (by exact hH.rows (by exact ay)) rfl rfl rfl rfl rfl rfl rfl ⟨(Nat.le_of_ble_eq_true rfl),(Nat.le_of_ble_eq_true rfl)⟩ (fun _=>(ag rfl _)) (by simp only[List.length_cons,List.length_nil,List.length_map,List.length_reverse]<;>omega) (by exact .inl hF) (fun V7 st hH=>?_);dsimp only[u2,u1,u3,u4,setMany,u5,u6,D.cells,Nat.reduceAdd,aM,aw,e5] at hH;refine qm ?_;refine qe hK ?_;exact⟨_,_,rfl,(by have:=hH.drop 2;exact this)⟩
   ·rintro fr st ⟨z,tmp,hfr,hH⟩;rw[hfr];clear hfr;generalize aF fr=ee;clear fr;exact⟨mm,by omega,⟨y,z,seen.set k true,(cu k i).reverse++fM,rfl,(by rw[O0,gC];exact hH),hd,by simp only[List.length_append,List.length_reverse];omega,by simp only[List.length_set];exact iV,OS,by omega⟩⟩
def ak (fr:Go.V.Fr) (k:Nat):Go.V.D:=Go.V.nth .bp fr.loc k
noncomputable def dec (q:Prop):Bool:=@decide q (Classical.propDecidable q)
theorem sM {q:Prop} (h:q):dec q=true:=@decide_eq_true q (Classical.propDecidable q) h
theorem sN {q:Prop} (h:¬q):dec q=false:=@decide_eq_false q (Classical.propDecidable q) h
def nP (p:Pg) (r:Nat) (s:Int) (n:Nat):Prop:=∀pc i,pc<n→(cg p.code s)[pc]?=some true→p.code[pc]?=some i→i.op=7→i.x=(r:Int)
structure cj (p:Pg):Prop where
 cl:p.code.length≤400
 sl:p.az.length≤8
 sh:∀pc i,p.code[pc]?=some i→da p.code.length p.az.length pc i=true
 st:∀v∈p.az,0≤v∧v<(p.code.length:Int)
 fo:∀r s,p.az[r]?=some s→nP p r s p.code.length
theorem mb {p:Pg} (h:∀pc i,p.code[pc]?=some i→da p.code.length p.az.length pc i=true):gS p.code:=
 fun pc i hi=>th (h pc i hi)
theorem cj.closed {p:Pg} (h:cj p):gS p.code:=mb h.sh
theorem dv {a b:Int}:ot a b=true↔0≤a∧a<b:=by
 unfold ot;simp only[Bool.and_eq_true,decide_eq_true_eq,ge_iff_le]
theorem pr {s0:St} {p:Pg} (hp:p.ok):Ev pv 33 [p.d] s0 (.bool (dec (cj p))) s0:=by
 refine Ev.nZ rfl Q4 rfl rfl rfl ?_;dsimp only[u3,u4,List.length,Nat.reduceSub,Nat.reduceAdd,w1,w2];obtain⟨b_,hF,hH⟩:=ri s0;generalize ai .ro s0=S at*;have hc:=hp.c.arg s0.bs.length S;have hs:=hp.s.arg s0.bs.length S;have s8:=hp.c;have hlen:=hp.cl;have Mm:=hp.sl;unfold Pg.d;refine qq<|qj fun K hK=>qb hH fun k1 st ox hH=>?_;dsimp only[u2,u1,u3,u4,setMany,u5,u6,D.cells,Nat.reduceAdd,Pg.cs,aM,aw,e5] at hH;refine qm ?_;refine qe hK<|qq<|qq<|af.k_ 17 (.bool (decide ((p.code.length:Int)>400)||decide ((p.az.length:Int)>8))) [8,9,10,11,12,13,14,15,16] ?_ (fun ff tmp=>?_)
 ·refine qp (o:=0) ?_;refine ql hH ay ?_;refine qn ?_;simp only[List.length_map];refine qg ?_;refine qm ?_;refine ab.two 12 rfl (fun iP=>?_) (fun iP=>?_)
  ·refine qs ?_ (hg:=wn iP);refine qs ?_ (hg:=wn iP);refine qs ?_ (hg:=wn iP);refine qs ?_ (hg:=wn iP);refine qt iP ?_;refine ab.nil (aU ?_);dsimp only[aI,List.foldl,nth,u2,u1];dsimp only[Fr.aC,Fr.put,Fr.clean,Fr.ev,Fr.get,nth,V.look,u1,u2,v1,v2,v3,v4,v5,v6,v7,List.length,u3,u4,Nat.reduceSub,Nat.reduceAdd,List.map]
   all_goals(simp[iP];done)
  ·refine qp (o:=1) ?_ (hg:=wi iP);refine ql hH ay ?_ (hg:=wi iP);refine qn ?_ (hg:=wi iP);simp only[List.length_map];refine qg ?_ (hg:=wi iP);refine qu iP ?_;refine ab.nil (aU ?_);dsimp only[aI,List.foldl,nth,u2,u1];dsimp only[Fr.aC,Fr.put,Fr.clean,Fr.ev,Fr.get,nth,V.look,u1,u2,v1,v2,v3,v4,v5,v6,v7,List.length,u3,u4,Nat.reduceSub,Nat.reduceAdd,List.map]
   all_goals(simp[iP];done)
 dsimp only[aI,List.foldl,nth,u2,u1];generalize ff 8=e8;generalize ff 9=e9;generalize ff 10=Xu;generalize ff 11=Xt;generalize ff 12=Xs;generalize ff 13=Xr;generalize ff 14=Xq;generalize ff 15=Xp;generalize ff 16=Xo;refine qc (fun h0=>?_) (fun h0=>?_)<;>try simp only[cs] at h0
 ·rw[sN (fun h=>by have:=h.cl;have:=h.sl;simp at h0;omega)];refine qq<|qj fun K hK=>qm ?_;refine qe hK<|af.ret ⟨rx,_,rfl,rl b_ hH (rfl)⟩
 ·have h0:p.code.length≤400∧p.az.length≤8:=by simp at h0;omega
  refine af.skip<|qq<|qq<|qj fun K hK=>qp (o:=0) ?_;refine ql hH ay ?_;refine qn ?_;simp only[List.length_map];refine qm ?_;refine qe hK<|af.block<|af.loop (fun mm fr st=>∃(i:Nat),fr.clean=⟨49,[ak fr 0,.ptr k1 0 0,.bool false,ak fr 3,ak fr 4,ak fr 5,ak fr 6,ak fr 7,ak fr 8,ak fr 9,ak fr 10,ak fr 11,ak fr 12,ak fr 13,ak fr 14,ak fr 15,ak fr 16,ak fr 17,ak fr 18,ak fr 19,.int .i64 (p.code.length:Nat),.int .i64 (i:Nat),ak fr 22,ak fr 23,ak fr 24,ak fr 25,ak fr 26,ak fr 27,ak fr 28,ak fr 29,ak fr 30,ak fr 31,ak fr 32,ak fr 33,ak fr 34,ak fr 35,ak fr 36,ak fr 37,ak fr 38,ak fr 39,ak fr 40,ak fr 41,ak fr 42,ak fr 43,ak fr 44,ak fr 45,ak fr 46,ak fr 47,ak fr 48],[]⟩∧Has s0.bs.length S st [.box k1 (.mem 0 false [p.cd,p.sd])]∧(i+mm=p.code.length)∧(∀pc q,pc<i→p.code[pc]?=some q→da p.code.length p.az.length pc q=true)) (p.code.length) ?_ ?_
  ·exact⟨0,rfl,hH,by omega,by intro pc q h;omega⟩
  rintro mm fr st ⟨i,hfr,hH,hi,hsh⟩;rw[hfr];clear hfr;generalize ak fr=ee;clear fr;refine qq<|qj fun K hK=>qg ?_;refine qe hK<|qq ?_;refine af.cond (by rfl) (fun h1=>?_) (fun h1=>?_)<;>try simp only[decide_eq_true_eq,decide_eq_false_iff_not] at h1
  ·refine af.skip ?_
   obtain⟨q,hq⟩:∃q,p.code[i]?=some q:=⟨p.code[i]'(by omega),List.getElem?_eq_getElem _⟩
   refine qq<|af.block<|qq<|qj fun K hK=>qm ?_;refine qm ?_;refine qe hK<|qq<|qj fun K hK=>?_;refine ab.bN (m:=2) hH rfl (ev rfl) (by exact ay) (by dsimp only[List.drop_succ_cons,List.drop_zero,List.take_succ_cons,List.take_zero,Pg.cs,aM,aw,e5]<;>rfl) rfl rfl (by dsimp only[Fr.put,u1,u2]<;>rfl) ?_;refine qm ?_;refine qv (yc (p:=p) hp hq) ?_;refine qg ?_;refine qe hK ?_;refine af.cond (by rfl) (fun h2=>?_) (fun h2=>?_)<;>try simp only[Bool.not_eq_true',Bool.not_eq_false'] at h2
   ·rw[sN (fun h=>by have:=h.sh i q hq;rw[this] at h2;cases h2)];refine qq<|qj fun K hK=>qm ?_;refine qe hK<|af.ret ⟨rx,_,rfl,rl b_ hH (rfl)⟩
   ·refine af.skip<|qj fun K hK=>qA ?_;refine qm ?_;refine qe hK ?_;refine⟨mm-1,by omega,⟨i+1,rfl,hH,by omega,?_⟩⟩;intro pc q' Fk pj
    by_cases he:pc=i
    ·subst he;rw[hq] at pj;cases pj;simpa using h2
    ·exact hsh pc q' (by omega) pj
  ·refine af.exit ?_;have hsh:∀pc q,p.code[pc]?=some q→da p.code.length p.az.length pc q=true:=fun pc q hq=>hsh pc q (by have:=bt hq;omega) hq;have hcl:=mb hsh;refine qq<|qq<|qj fun K hK=>qp (o:=1) ?_;refine ql hH ay ?_;refine qn ?_;simp only[List.length_map];refine qm ?_;refine qe hK<|af.block<|af.loop (fun mm fr st=>∃(r:Nat),fr.clean=⟨49,[ak fr 0,.ptr k1 0 0,.bool false,ak fr 3,ak fr 4,ak fr 5,ak fr 6,ak fr 7,ak fr 8,ak fr 9,ak fr 10,ak fr 11,ak fr 12,ak fr 13,ak fr 14,ak fr 15,ak fr 16,ak fr 17,ak fr 18,ak fr 19,ak fr 20,ak fr 21,ak fr 22,ak fr 23,ak fr 24,ak fr 25,ak fr 26,ak fr 27,ak fr 28,ak fr 29,p.sd,.int .i64 (p.az.length:Nat),.int .i64 (r:Nat),ak fr 33,ak fr 34,ak fr 35,ak fr 36,ak fr 37,ak fr 38,ak fr 39,ak fr 40,ak fr 41,ak fr 42,ak fr 43,ak fr 44,ak fr 45,ak fr 46,ak fr 47,ak fr 48],[]⟩∧Has s0.bs.length S st [.box k1 (.mem 0 false [p.cd,p.sd])]∧(r+mm=p.az.length)∧(∀r' s,r'<r→p.az[r']?=some s→(0≤s∧s<(p.code.length:Int))∧nP p r' s p.code.length)) (p.az.length) ?_ ?_
   ·exact⟨0,rfl,hH,by omega,by intro pc q h;omega⟩
   rintro mm fr st ⟨r,hfr,hH,hi,a_⟩;rw[hfr];clear hfr;generalize ak fr=ee;clear fr;refine qq<|qj fun K hK=>qg ?_;refine qe hK<|qq ?_;refine af.cond (by rfl) (fun h3=>?_) (fun h3=>?_)<;>try simp only[decide_eq_true_eq,decide_eq_false_iff_not] at h3
   ·refine af.skip ?_
    obtain⟨s,sk⟩:∃s,p.az[r]?=some s:=⟨p.az[r]'(by omega),List.getElem?_eq_getElem _⟩
    have NS:=eO sk;refine qq<|af.block<|qq<|qj fun K hK=>qm ?_;refine qr fun R0 MD=>?_;refine qR ?_;refine qm ?_;refine qm ?_;refine qe hK<|qq<|qq<|qj fun K hK=>qm ?_;refine qp (o:=0) ?_;refine ql hH ay ?_;refine qn ?_;simp only[List.length_map];refine qv (ga _ _) ?_;refine qg ?_;refine qe hK ?_;refine af.cond (by rfl) (fun h4=>?_) (fun h4=>?_)<;>try simp only[Bool.not_eq_true',Bool.not_eq_false'] at h4
    ·rw[sN (fun h=>by have:=dv.2 (h.st s (List.mem_of_getElem? sk));rw[this] at h4;cases h4)];refine qq<|qj fun K hK=>qm ?_;refine qe hK<|af.ret ⟨rx,_,rfl,rl b_ hH (rfl)⟩
    ·have Mn:=dv.1 (show ot s p.code.length=true by simpa using h4);refine af.skip ?_;have va:=vB p.code s;have O1:=(za (cg p.code s)).arg s0.bs.length S;refine qq<|qj fun K hK=>qp (o:=0) ?_;refine ql hH ay ?_;refine qm ?_;refine qv (FB s8 hlen hcl Mn) ?_;refine qn ?_;simp only[List.length_map];refine qm ?_;refine qe hK<|af.block<|af.loop (fun mm fr st=>∃(i:Nat),fr.clean=⟨49,[ak fr 0,.ptr k1 0 0,.bool false,ak fr 3,.int .i64 (r:Nat),ak fr 5,ak fr 6,ak fr 7,ak fr 8,ak fr 9,ak fr 10,ak fr 11,ak fr 12,ak fr 13,ak fr 14,ak fr 15,ak fr 16,ak fr 17,ak fr 18,ak fr 19,ak fr 20,ak fr 21,ak fr 22,ak fr 23,ak fr 24,ak fr 25,ak fr 26,ak fr 27,ak fr 28,ak fr 29,p.sd,.int .i64 (p.az.length:Nat),.int .i64 (r:Nat),ak fr 33,ak fr 34,ak fr 35,ak fr 36,ak fr 37,ak fr 38,ak fr 39,ak fr 40,ak fr 41,ak fr 42,ak fr 43,ak fr 44,ak fr 45,wH (cg p.code s),.int .i64 ((cg p.code s).length:Nat),.int .i64 (i:Nat)],[]⟩∧Has s0.bs.length S st [.box k1 (.mem 0 false [p.cd,p.sd])]∧(i+mm=p.code.length)∧(nP p r s i)) (p.code.length) ?_ ?_
     ·exact⟨0,rfl,hH,by omega,by intro pc q h;omega⟩
     rintro mm fr st ⟨i,hfr,hH,hj,hom⟩;rw[hfr];clear hfr;generalize ak fr=ee;clear fr;refine qq<|qj fun K hK=>qg ?_;refine qe hK<|qq ?_;refine af.cond (by rfl) (fun h5=>?_) (fun h5=>?_)<;>try simp only[decide_eq_true_eq,decide_eq_false_iff_not] at h5
     ·refine af.skip ?_
      obtain⟨b,hb⟩:∃b,(cg p.code s)[i]?=some b:=⟨(cg p.code s)[i]'(by omega),List.getElem?_eq_getElem _⟩
      obtain⟨q,hq⟩:∃q,p.code[i]?=some q:=⟨p.code[i]'(by omega),List.getElem?_eq_getElem _⟩
      have gD:=uS hb;have o6:=gK hq;refine qq<|af.block<|qq<|qj fun K hK=>qm ?_;refine qr fun Th O'=>?_;refine qR ?_;refine qm ?_;refine qm ?_;refine qe hK<|qq<|af.j8 72 (.bool ((b &&(q.op==7)) &&(q.x !=(r:Int)))) [] ?_ (fun ff tmp gB=>?_)
      ·refine qm ?_;refine qm ?_;refine ab.two 54 rfl (fun cS=>?_) (fun cS=>?_)
       ·refine qp (o:=0) ?_ (hg:=wi cS);refine ql hH ay ?_ (hg:=wi cS);refine qm ?_ (hg:=wi cS);refine qr (fun Ww Uk=>?_) (hg:=wi cS);refine qf (fo:=0) (fun Wv Uj=>?_) (hg:=wi cS);refine qR ?_ (hg:=wi cS);refine qg ?_ (hg:=wi cS);refine qt cS ?_;refine qm ?_;refine ab.two 63 rfl (fun aS=>?_) (fun aS=>?_)
        ·refine qp (o:=0) ?_ (hg:=wi aS);refine ql hH ay ?_ (hg:=wi aS);refine qm ?_ (hg:=wi aS);refine qr (fun Wq Ue=>?_) (hg:=wi aS);refine qf (fo:=1) (fun Wp Ud=>?_) (hg:=wi aS);refine qR ?_ (hg:=wi aS);refine qm ?_ (hg:=wi aS);refine qg ?_ (hg:=wi aS);refine qt aS ?_;refine ab.nil (cP ?_ ?_)
         ·dsimp only[aI,List.foldl,nth,u2,u1]
          all_goals(first|rfl|simp)
         ·dsimp only[Fr.aC,Fr.put,Fr.clean,Fr.ev,Fr.get,nth,V.look,u1,u2,v1,v2,v3,v4,v5,v6,v7,List.length,u3,u4,Nat.reduceSub,Nat.reduceAdd,List.map]
          all_goals(simp[cS,aS];done)
        ·refine qs ?_ (hg:=wn aS);refine qs ?_ (hg:=wn aS);refine qs ?_ (hg:=wn aS);refine qs ?_ (hg:=wn aS);refine qs ?_ (hg:=wn aS);refine qs ?_ (hg:=wn aS);refine qs ?_ (hg:=wn aS);refine qs ?_ (hg:=wn aS);refine qu aS ?_;refine ab.nil (cP ?_ ?_)
         ·dsimp only[aI,List.foldl,nth,u2,u1]
          all_goals(first|rfl|simp)
         ·dsimp only[Fr.aC,Fr.put,Fr.clean,Fr.ev,Fr.get,nth,V.look,u1,u2,v1,v2,v3,v4,v5,v6,v7,List.length,u3,u4,Nat.reduceSub,Nat.reduceAdd,List.map]
          all_goals(simp[cS,aS];done)
       ·refine qs ?_ (hg:=wn cS);refine qs ?_ (hg:=wn cS);refine qs ?_ (hg:=wn cS);refine qs ?_ (hg:=wn cS);refine qs ?_ (hg:=wn cS);refine qs ?_ (hg:=wn cS);refine qs ?_ (hg:=wn cS);refine qu cS ?_;refine qm ?_;refine qs ?_;refine qs ?_;refine qs ?_;refine qs ?_;refine qs ?_;refine qs ?_;refine qs ?_;refine qs ?_;refine qg ?_;refine ab.nil (cP ?_ ?_)
        ·dsimp only[aI,List.foldl,nth,u2,u1]
         all_goals(first|rfl|simp)
        ·dsimp only[Fr.aC,Fr.put,Fr.clean,Fr.ev,Fr.get,nth,V.look,u1,u2,v1,v2,v3,v4,v5,v6,v7,List.length,u3,u4,Nat.reduceSub,Nat.reduceAdd,List.map]
         all_goals(simp[cS];done)
      dsimp only[aI,List.foldl,nth,u2,u1];dsimp only[Fr.aC,Fr.put,Fr.clean,Fr.ev,Fr.get,nth,V.look,u1,u2,v1,v2,v3,v4,v5,v6,v7,List.length,u3,u4,Nat.reduceSub,Nat.reduceAdd,List.map];refine qc (fun h6=>?_) (fun h6=>?_)<;>try simp only[cs] at h6
      ·rw[sN (fun h=>by
        have h7:=h.fo r s sk i q (by omega);simp only[Bool.and_eq_true,beq_iff_eq,bne_iff_ne,ne_eq] at h6;obtain⟨⟨rfl,h8⟩,h9⟩:=h6
        exact h9 (h7 hb hq h8))]
       refine qq<|qj fun K hK=>qm ?_;refine qe hK<|af.ret ⟨rx,_,rfl,rl b_ hH (rfl)⟩
      ·refine af.skip<|qj fun K hK=>qA ?_;refine qm ?_;refine qe hK ?_;refine⟨mm-1,by omega,⟨i+1,rfl,hH,by omega,?_⟩⟩;intro pc q' Fk Fh pj eU
       by_cases he:pc=i
       ·subst he;rw[hq] at pj;cases pj;rw[hb] at Fh;cases Fh;simp[eU] at h6;exact h6
       ·exact hom pc q' (by omega) Fh pj eU
     ·refine af.exit<|qj fun K hK=>qA ?_;refine qm ?_;refine qe hK ?_;refine⟨p.az.length-(r+1),by omega,⟨r+1,rfl,hH,by omega,?_⟩⟩;intro r' s' K9 sm
      by_cases he:r'=r
      ·subst he;rw[sk] at sm;cases sm;exact⟨Mn,fun pc q Fk=>hom pc q (by omega)⟩
      ·exact a_ r' s' (by omega) sm
   ·refine af.exit ?_
    rw[sM ⟨h0.1,h0.2,hsh,fun v hv=>by
     obtain⟨r',K9⟩:=List.getElem?_of_mem hv
     exact(a_ r' v (by have:=bt K9;omega) K9).1,fun r' s' sm=>(a_ r' s' (by have:=bt sm;omega) sm).2⟩]
    refine qq<|qj fun K hK=>qm ?_;refine qe hK<|af.ret ⟨rx,_,rfl,rl b_ hH (rfl)⟩
def nV:Nat→List Bool→List Int
 |_,[]=>[]
 |i,b::l=>(if b then[(i:Int)] else[])++nV (i+1) l
noncomputable def nO (p:Pg) (Lu:Int):List Int:=if dec (cj p) &&ot Lu p.az.length then nV 0 (cg p.code (p.az.getD Lu.toNat 0)) else[]
def dK (i:aG):aG:=⟨i.op,i.x,i.y,.sl ((i.rs.map au).map (ja 2)),i.rs⟩
theorem Bm {i:aG} (h:i.ok):(dK i).ok:=⟨fK.frozen (jM _) (dF _),h.2⟩
def oP (q:aG):List D:=aM (dK q)
end Go.Proofs.Ytbdnabmmlbiomaa
