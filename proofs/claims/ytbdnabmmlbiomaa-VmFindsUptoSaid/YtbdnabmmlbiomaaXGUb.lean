/-
 The parser of patterns: what stands at a rune; errors.
-/
import Derived.Test.YtbdnabmmlbiomaaXGCa
import Derived.Test.YtbdnabmmlbiomaaXGKa
import Derived.Test.YtbdnabmmlbiomaaXDgp
import Derived.Test.YtbdnabmmlbiomaaXM2
set_option maxRecDepth 100000
set_option maxHeartbeats 4000000
set_option linter.unusedSimpArgs false
set_option linter.unusedVariables false
namespace Go.Proofs.Ytbdnabmmlbiomaa
open Go.V Go
def gN (b:List UInt8):Nat×Nat:=if(gj b).2.1=0 then(65533,1) else((gj b).1,(gj b).2.1)
def zL:Nat→List UInt8→List (Nat×Nat)
 |0,_=>[]
 |_+1,[]=>[]
 |n+1,b=>gN b::zL n (b.drop (gN b).2)
def eX (b:List UInt8):List (Nat×Nat):=zL b.length b
theorem iP (b:List UInt8):1≤(gN b).2:=by
 unfold gN;split
 ·simp
 ·simp only;omega
theorem m_ : ∀ (n : Nat) (b : List UInt8), b.length ≤ n → zL n b = eX b
 | 0, [], _ => rfl
 | 0, _ :: _, h => by simp at h
 | n + 1, [], _ => rfl
 | n + 1, c :: b, h => by
  have hp := iP (c :: b);have h1 : ((c :: b).drop (gN (c :: b)).2).length ≤ b.length := by rw [List.length_drop]; simp only [List.length_cons]; omega
  simp only [List.length_cons] at h;show gN (c :: b) :: zL n ((c :: b).drop _) = gN (c :: b) :: zL b.length ((c :: b).drop _);rw [m_ n _ (by omega)]
  rcases Nat.lt_or_ge n b.length with h2 | h2
  ·omega
  ·rw [m_ b.length _ h1]
termination_by n b => b.length
decreasing_by all_goals (simp_wf; omega)
theorem j_:eX []=[]:=rfl
theorem mZ {b:List UInt8} (h:b≠[]):eX b=gN b::eX (b.drop (gN b).2):=by
 match b,h with
 |c::b,_=>
  show gN (c::b)::zL b.length ((c::b).drop _)=_;rw[m_];have hp:=iP (c::b);rw[List.length_drop];simp only[List.length_cons];omega
def a_ (g:Nat×Nat):List D:=[.int .i32 (g.1:Nat),.int .i64 (g.2:Nat)]
def cu (l:List (Nat×Nat)):D:=.sl ((l.map a_).map (jK 2))
theorem BG {l:List (Nat×Nat)}:∀e∈l.map a_,e.length=2:=by
 intro e he;obtain⟨g,_,rfl⟩:=List.mem_map.1 he;rfl
theorem po {l:List (Nat×Nat)}:∀e∈l.map a_,∀d∈e,cw d=true:=by
 intro e he d hd;obtain⟨g,_,rfl⟩:=List.mem_map.1 he;simp only[a_,List.mem_cons,List.not_mem_nil,or_false] at hd
 rcases hd with rfl|rfl<;>rfl
theorem cV (st:St) (l:List (Nat×Nat)):V.Rows st 2 (cu l) (l.map a_):=Rows.ux BG po
theorem oy:∀(left n r lo hi:Nat) (b:List UInt8),(iM left n r lo hi b).2.1≠0→(iM left n r lo hi b).2.1=n∧left≤b.length
 |0,n,r,lo,hi,b,h=>by simp[iM]
 |left+1,n,r,lo,hi,[],h=>by simp[iM] at h
 |left+1,n,r,lo,hi,x::xs,h=>by
  simp only[iM] at h⊢
  split at h
  ·simp at h
  ·rename_i hc;rw[if_neg hc];have:=oy left n _ _ _ xs h;exact⟨this.1,by simp;omega⟩
theorem xP {b:List UInt8} (h:b≠[]):(gN b).2≤b.length:=by
 match b,h with
 |c::xs,_=>
  unfold gN
  split
  ·simp
  ·rename_i hz;simp only[gj] at hz⊢
   split at hz
   ·simp at hz
   ·rename_i hk;rw[if_neg hk];have:=oy _ _ _ _ _ _ hz;rw[this.1];simp;omega
theorem xf {st:St} {x:D} {b:List UInt8} (hb:Bytes st x b) (hlen:b.length≤1048576):Ev pv 11 [x] st (cu (eX b)) st:=by
 refine Ev.pW rfl R7 rfl rfl rfl ?_;dsimp only[u3,u4,List.length,Nat.reduceSub,Nat.reduceAdd,w1,w2];have hx:=hb.ref;(try refine qy ?_);(repeat refine qq ?_);(try generalize hK:ck _ _ _ _=K);refine af.fx ?_;(repeat(first|refine xT ?_|refine xL ?_|refine xN ?_|refine xo ?_|refine xp ?_));refine ab.nil ?_;(try dsimp only[Fr.aF,Fr.put,Fr.clean,Fr.ev,Fr.get,nth,V.look,u1,u2,v1,v2,v3,v4,v5,v6,v7,List.length,u3,u4,Nat.reduceSub,Nat.reduceAdd,List.map]);(try subst hK);(try refine qy ?_);(repeat refine qq ?_);(try generalize hK:ck _ _ _ _=K);refine af.fx ?_;(repeat(first|refine xT ?_|refine xL ?_|refine xN ?_|refine xo ?_|refine xp ?_));refine ab.nil ?_;(try dsimp only[Fr.aF,Fr.put,Fr.clean,Fr.ev,Fr.get,nth,V.look,u1,u2,v1,v2,v3,v4,v5,v6,v7,List.length,u3,u4,Nat.reduceSub,Nat.reduceAdd,List.map]);(try subst hK);(try refine qy ?_);refine af.seq (af.block ?_)
 refine af.loop (fun j fr ah=>∃(y out r n:D) (b':List UInt8) (done:List (Nat×Nat)),fr.clean=⟨6,[y,.tup [],.nul,out,r,n],[]⟩∧Ex st.bs.length (ak .ro st) ah∧Bytes ah y b'∧y.ref≤st.bs.length∧
  Acc st.bs.length ah 2 out (done.map a_)∧j=b'.length∧done++eX b'=eX b∧done.length+b'.length≤b.length) b.length
  ⟨x,.nul,_,_,b,[],rfl,Ex.refl _ _,hb.enter .ro,hx,.nul,rfl,rfl,by simp⟩ ?_
 rintro j fr ah ⟨y,out,r,n,b',done,hfr,hex,hy,SY,F5,rfl,lP,hl⟩;rw[hfr];(try refine qy ?_);(repeat refine qq ?_);(try generalize hK:ck _ _ _ _=K);refine af.fx ?_
 (first|refine xT ?_|refine xL ?_|refine xN ?_|refine xo ?_|refine xp ?_)
 refine ab.len rfl rfl rfl hy rfl ?_;(repeat(first|refine xT ?_|refine xL ?_|refine xN ?_|refine xo ?_|refine xp ?_));refine ab.nil ?_;(try dsimp only[Fr.aF,Fr.put,Fr.clean,Fr.ev,Fr.get,nth,V.look,u1,u2,v1,v2,v3,v4,v5,v6,v7,List.length,u3,u4,Nat.reduceSub,Nat.reduceAdd,List.map]);(try subst hK);(try refine qy ?_);rw[fV];(try refine qy ?_);(repeat refine qq ?_);refine qc (fun h1=>?_) (fun h1=>?_)<;>try simp only[cs] at h1
 ·refine af.skip ?_;have pg:b'≠[]:=by rintro rfl;simp at h1
  (try refine qy ?_);(repeat refine qq ?_);refine af.block ?_;(try refine qy ?_);(repeat refine qq ?_);(try generalize hK:ck _ _ _ _=K);refine af.fx ?_
  (first|refine xT ?_|refine xL ?_|refine xN ?_|refine xo ?_|refine xp ?_)
  refine ab.GU rfl rfl rfl (BI hy) ?_;(repeat(first|refine xT ?_|refine xL ?_|refine xN ?_|refine xo ?_|refine xp ?_));refine ab.nil ?_;(try dsimp only[Fr.aF,Fr.put,Fr.clean,Fr.ev,Fr.get,nth,V.look,u1,u2,v1,v2,v3,v4,v5,v6,v7,List.length,u3,u4,Nat.reduceSub,Nat.reduceAdd,List.map]);(try subst hK);(try refine qy ?_);generalize hf:gj b'=F at*;obtain⟨r0,n0,bg⟩:=F;(try refine qy ?_);(repeat refine qq ?_);(try generalize hK:ck _ _ _ _=K);refine af.fx ?_;(repeat(first|refine xT ?_|refine xL ?_|refine xN ?_|refine xo ?_|refine xp ?_));refine ab.nil ?_;(try dsimp only[Fr.aF,Fr.put,Fr.clean,Fr.ev,Fr.get,nth,V.look,u1,u2,v1,v2,v3,v4,v5,v6,v7,List.length,u3,u4,Nat.reduceSub,Nat.reduceAdd,List.map]);(try subst hK);(try refine qy ?_);generalize hK:ck _ _ _ _=K
  have H:∀m,K .next ⟨6,[y,.tup [],.nul,out,.int .i32 ((gN b').1:Nat),.int .i64 ((gN b').2:Nat)],m⟩ ah:=by
   intro m;subst hK;generalize hg:gN b'=g;have hp:=iP b';have hle:=xP pg;rw[hg] at hp hle;(try refine qy ?_);(repeat refine qq ?_);(try generalize hK:ck _ _ _ _=K);refine af.fx ?_
   (first|refine xT ?_|refine xL ?_|refine xN ?_|refine xo ?_|refine xp ?_)
   (first|refine xT ?_|refine xL ?_|refine xN ?_|refine xo ?_|refine xp ?_)
   (first|refine xT ?_|refine xL ?_|refine xN ?_|refine xo ?_|refine xp ?_)
   refine ab.T rfl rfl rfl (d:=.agg (a_ g)) (st1:=ah) rfl<|ab.T rfl rfl rfl (d:=.win ah.bs.length 0 0 1 2) (st1:=ah.push (.mem 0 true (a_ g))) rfl ?_;have hN:st.bs.length≤ah.bs.length:=hex.len;have F1:=hex.trans (Ex.push hN (.mem 0 true (a_ g)));refine ab.append rfl rfl rfl rfl (F5.push _) (Rows.one rfl) rfl rfl rfl rfl rfl rfl rfl (by decide) F1.len (by rw[F1.flr];exact Nat.le_refl _) (by rw[F1.ro];exact Nat.le_refl _) (by simp only[List.length_map,List.length_cons,List.length_nil];show(done.length+1)*16≤_;omega) fun ON st2 NO NB _ _ _=>?_;(repeat(first|refine xT ?_|refine xL ?_|refine xN ?_|refine xo ?_|refine xp ?_));refine ab.nil ?_;(try dsimp only[Fr.aF,Fr.put,Fr.clean,Fr.ev,Fr.get,nth,V.look,u1,u2,v1,v2,v3,v4,v5,v6,v7,List.length,u3,u4,Nat.reduceSub,Nat.reduceAdd,List.map]);(try subst hK);(try refine qy ?_);have Qx:=F1.trans NB;have wx:Bytes st2 y b':=Rows.ex ((Ex.push hN _).trans NB) hy SY;(try refine qy ?_);(repeat refine qq ?_);(try generalize hK:ck _ _ _ _=K);refine af.fx ?_
   (first|refine xT ?_|refine xL ?_|refine xN ?_|refine xo ?_|refine xp ?_)
   (first|refine xT ?_|refine xL ?_|refine xN ?_|refine xo ?_|refine xp ?_)
   refine ab.slice rfl rfl rfl wx rfl rfl (l:=g.2) (r:=b'.length) ?_ ⟨by omega,by rw[fV];omega⟩ fun y2 FG O0=>?_
   ·show de (byteCells b').length (some (.int .i64 (g.2:Nat))) none=_;rw[fV];simp only[de,jR,lp,Option.bind_some];rw[if_pos ⟨by omega,by omega⟩];rfl
   (repeat(first|refine xT ?_|refine xL ?_|refine xN ?_|refine xo ?_|refine xp ?_));refine ab.nil ?_;(try dsimp only[Fr.aF,Fr.put,Fr.clean,Fr.ev,Fr.get,nth,V.look,u1,u2,v1,v2,v3,v4,v5,v6,v7,List.length,u3,u4,Nat.reduceSub,Nat.reduceAdd,List.map]);(try subst hK);(try refine qy ?_);refine⟨(b'.drop g.2).length,by rw[List.length_drop];omega,y2,ON,_,_,b'.drop g.2,done++[g],rfl,Qx,?_,Nat.le_trans O0 SY,?_,rfl,?_,?_⟩
   ·have:((byteCells b').take b'.length).drop g.2=byteCells (b'.drop g.2):=by
     rw[←fV,List.take_length];simp[byteCells]
    unfold Bytes;rw[←this];exact FG
   ·rw[List.map_append];exact NO
   ·rw[List.append_assoc,List.singleton_append,←lP,mZ pg,hg]
   ·rw[List.length_append,List.length_drop];simp only[List.length_cons,List.length_nil];omega
  (try refine qy ?_);(repeat refine qq ?_);refine qc (fun h2=>?_) (fun h2=>?_)<;>try simp only[cs] at h2
  ·refine af.fx ?_;(repeat(first|refine xT ?_|refine xL ?_|refine xN ?_|refine xo ?_|refine xp ?_));refine ab.nil ?_;(try dsimp only[Fr.aF,Fr.put,Fr.clean,Fr.ev,Fr.get,nth,V.look,u1,u2,v1,v2,v3,v4,v5,v6,v7,List.length,u3,u4,Nat.reduceSub,Nat.reduceAdd,List.map]);have:gN b'=(65533,1):=by unfold gN;rw[hf,if_pos (by simpa using h2)]
   rw[this] at H;exact H _
  ·refine af.skip ?_;have:gN b'=(r0,n0):=by unfold gN;rw[hf,if_neg (by simpa using h2)]
   rw[this] at H;exact H _
 ·refine af.exit ?_
  have pg:b'=[]:=by cases b' with|nil=>rfl|cons _ _=>simp at h1<;>omega
  subst pg;rw[j_,List.append_nil] at lP;(try refine qy ?_);(repeat refine qq ?_);(try generalize hK:ck _ _ _ _=K);refine af.fx ?_;(repeat(first|refine xT ?_|refine xL ?_|refine xN ?_|refine xo ?_|refine xp ?_));refine ab.nil ?_;(try dsimp only[Fr.aF,Fr.put,Fr.clean,Fr.ev,Fr.get,nth,V.look,u1,u2,v1,v2,v3,v4,v5,v6,v7,List.length,u3,u4,Nat.reduceSub,Nat.reduceAdd,List.map]);(try subst hK);(try refine qy ?_);refine af.ret ⟨rx,_,rfl,bJ (by simp) (hex.take rfl) ?_⟩;rw[←lP];exact F5.freeze po (n:=15) (by decide)
structure eO where
 i:Nat
 o:Nat
 g:Nat
 e:Int
 w:Int
def aT (gs:List (Nat×Nat)) (bu:D) (s:eO):List D:=[cu gs,bu,.int .i64 (s.i:Nat),.int .i64 (s.o:Nat),.int .i64 (s.g:Nat),.int .i64 s.e,.int .i64 s.w]
def iJ (gs:List (Nat×Nat)) (i:Nat) (r:Int):Bool:=match gs[i]? with
 |some g=>((g.1:Nat):Int)==r
 |none=>false
theorem o0 {gs:List (Nat×Nat)} {i:Nat} {r:Int} (h:iJ gs i r=true):i<gs.length:=by
 unfold iJ at h
 split at h
 ·exact bj (by assumption)
 ·cases h
def cT (gs:List (Nat×Nat)) (s:eO) (r:Int):eO:=if iJ gs s.i r=true then{s with i:=s.i+1} else s
def Lf (gs:List (Nat×Nat)) (i:Nat):Bool:=match gs[i]? with
 |some g=>((g.1:Nat):Int)==65533 &&((g.2:Nat):Int)==1
 |none=>false
def iA (aW:List Int) (s:eO) (i:Nat) (e:Int):eO:=if s.e=0 then{s with e:=e,w:=aW.getD i 0} else s
theorem nC {N k:Nat} {S s0:St} {H:List bP} {gs:List (Nat×Nat)} {bu:D} {s:eO} (o_:gs.length≤1048576) (r:Int) (hH:Has N S s0 (.box k (.mem 0 false (aT gs bu s))::H)):
  ∃d ah,Ev pv 69 [.ptr k 0 0,.int .i32 r] s0 d ah∧d=.bool (iJ gs s.i r)∧Has N S ah (.box k (.mem 0 false (aT gs bu s))::H):=by
 refine Ev.jD rfl Ru rfl rfl rfl ?_;dsimp only[u3,u4,List.length,Nat.reduceSub,Nat.reduceAdd,w1,w2];have cy:=hH;have hH:=hH.cA;have cx:(ak .rw s0).bs=s0.bs:=rfl;generalize ak .rw s0=S2 at*;have Bs:Arg N S2 2 (cu gs) (gs.map a_):=Arg.pure (fun st=>cV st gs);refine qq<|qj fun K hK=>qm ?_;refine qe hK ?_
 by_cases ha:s.i<gs.length
 ·obtain⟨g,hg⟩:∃g,gs[s.i]?=some g:=⟨gs[s.i]'ha,List.getElem?_eq_getElem _⟩
  have hO:(gs.map a_)[s.i]?=some (a_ g):=by rw[List.getElem?_map,hg];rfl
  have aZ:decide ((s.i:Int)<(gs.length:Nat))=true:=by rw[decide_eq_true];simp;omega
  have hv:iJ gs s.i r=(((g.1:Nat):Int)==r):=by unfold iJ;rw[hg]
  refine qq<|af.ln 4 (.bool (((g.1:Nat):Int)==r)) [] ?_ (fun ff tmp=>?_)
  ·refine qm ?_;refine qg ?_;refine qp (o:=2) ?_;refine ql hH aB ?_;refine qm ?_;refine qg ?_;refine qp (o:=0) ?_;refine ql hH aB ?_;refine qn ?_;simp only[List.length_map];refine qg ?_;refine qm ?_;refine qm ?_ (hg:=wi aZ);refine qg ?_ (hg:=wi aZ);refine qp (o:=0) ?_ (hg:=wi aZ);refine ql hH aB ?_ (hg:=wi aZ);refine qm ?_ (hg:=wi aZ);refine qg ?_ (hg:=wi aZ);refine qp (o:=2) ?_ (hg:=wi aZ);refine ql hH aB ?_ (hg:=wi aZ);refine qr (fun Oa FR=>?_) (hg:=wi aZ);refine qf (fo:=0) (fun N' FQ=>?_) (hg:=wi aZ);refine qR ?_ (hg:=wi aZ);refine qm ?_ (hg:=wi aZ);refine qg ?_ (hg:=wi aZ);refine qt aZ ?_;refine qm ?_;refine ab.nil (aY ?_);dsimp only[aM,List.foldl,nth,u2,u1];dsimp only[Fr.aF,Fr.put,Fr.clean,Fr.ev,Fr.get,nth,look,u1,u2,v1,v2,v4]
   all_goals(first|rfl|(simp[aZ];done)|(simp_all;done)|(simp[aZ];omega)|(simp_all;omega))
  dsimp only[aM,List.foldl,nth,u2,u1];refine af.ret ⟨rx,_,_,_,rfl,aj (rfl),?_⟩;exact⟨by rw[hv];rfl,cy.ax cx hH⟩
 ·have aZ:decide ((s.i:Int)<(gs.length:Nat))=false:=by rw[decide_eq_false];simp;omega
  have hv:iJ gs s.i r=false:=by
   cases h:iJ gs s.i r with
   |true=>exact absurd (o0 h) ha
   |false=>rfl
  refine qq<|af.ln 4 (.bool false) [] ?_ (fun ff tmp=>?_)
  ·refine qm ?_;refine qg ?_;refine qp (o:=2) ?_;refine ql hH aB ?_;refine qm ?_;refine qg ?_;refine qp (o:=0) ?_;refine ql hH aB ?_;refine qn ?_;simp only[List.length_map];refine qg ?_;refine qm ?_;refine qs ?_ (hg:=wn aZ);refine qs ?_ (hg:=wn aZ);refine qs ?_ (hg:=wn aZ);refine qs ?_ (hg:=wn aZ);refine qs ?_ (hg:=wn aZ);refine qs ?_ (hg:=wn aZ);refine qs ?_ (hg:=wn aZ);refine qs ?_ (hg:=wn aZ);refine qs ?_ (hg:=wn aZ);refine qs ?_ (hg:=wn aZ);refine qs ?_ (hg:=wn aZ);refine qs ?_ (hg:=wn aZ);refine qs ?_ (hg:=wn aZ);refine qu aZ ?_;refine qm ?_;refine ab.nil (aY ?_);dsimp only[aM,List.foldl,nth,u2,u1];dsimp only[Fr.aF,Fr.put,Fr.clean,Fr.ev,Fr.get,nth,look,u1,u2,v1,v2,v4]
   all_goals(first|rfl|(simp[aZ];done)|(simp_all;done)|(simp[aZ];omega)|(simp_all;omega))
  dsimp only[aM,List.foldl,nth,u2,u1];refine af.ret ⟨rx,_,_,_,rfl,aj (rfl),?_⟩;exact⟨by rw[hv];rfl,cy.ax cx hH⟩
theorem dG {N k:Nat} {S s0:St} {H:List bP} {gs:List (Nat×Nat)} {bu:D} {s:eO} (o_:gs.length≤1048576) (r:Int) (hH:Has N S s0 (.box k (.mem 0 false (aT gs bu s))::H)):
  ∃d ah,Ev pv 58 [.ptr k 0 0,.int .i32 r] s0 d ah∧d=.bool (iJ gs s.i r)∧Has N S ah (.box k (.mem 0 false (aT gs bu (cT gs s r)))::H):=by
 refine Ev.jD rfl RA rfl rfl rfl ?_;dsimp only[u3,u4,List.length,Nat.reduceSub,Nat.reduceAdd,w1,w2];have cy:=hH;have hH:=hH.cA;have cx:(ak .rw s0).bs=s0.bs:=rfl;generalize ak .rw s0=S2 at*;refine qq<|qj fun K hK=>qm ?_;refine qe hK<|qq<|qq<|qj fun K hK=>qm ?_;refine qm ?_;obtain⟨_,st,aO,rfl,hH⟩:=nC o_ r hH;refine qv aO ?_;refine qe hK ?_;unfold cT
 cases hb:iJ gs s.i r with
 |true=>
  have hlt:=o0 hb;dsimp only[aT] at hH;rw[if_pos rfl];refine qB ?_;refine qq<|qj fun K hK=>qm ?_;refine qg ?_;refine qp (o:=2) ?_;refine ql hH aB ?_;refine qA ?_;refine qg ?_;refine qp (o:=2) ?_;refine qT hH aB fun st hH=>?_;dsimp only[u2,u1,u3,u4,setMany,u5,u6,D.cells,Nat.reduceAdd,aT,a_,aq] at hH;refine qe hK<|qq<|qj fun K hK=>qm ?_;refine qe hK<|af.ret ⟨rx,_,_,_,rfl,aj (rfl),?_⟩;exact⟨rfl,cy.ax cx hH⟩
 |false=>
  rw[if_neg (by simp)];refine qC ?_;refine af.skip<|qq<|qj fun K hK=>qm ?_;refine qe hK<|af.ret ⟨rx,_,_,_,rfl,aj (rfl),?_⟩;exact⟨rfl,cy.ax cx hH⟩
theorem w_ {N k:Nat} {S s0:St} {H:List bP} {gs:List (Nat×Nat)} {bu:D} {s:eO} (i:Nat) (hi:i<gs.length) (hH:Has N S s0 (.box k (.mem 0 false (aT gs bu s))::H)):
  ∃d ah,Ev pv 83 [.ptr k 0 0,.int .i64 (i:Nat)] s0 d ah∧d=.bool (Lf gs i)∧Has N S ah (.box k (.mem 0 false (aT gs bu s))::H):=by
 refine Ev.jD rfl Rj rfl rfl rfl ?_;dsimp only[u3,u4,List.length,Nat.reduceSub,Nat.reduceAdd,w1,w2];have cy:=hH;have hH:=hH.cA;have cx:(ak .rw s0).bs=s0.bs:=rfl;generalize ak .rw s0=S2 at*;have Bs:Arg N S2 2 (cu gs) (gs.map a_):=Arg.pure (fun st=>cV st gs);refine qq<|qj fun K hK=>qm ?_;refine qe hK ?_
 obtain⟨g,hg⟩:∃g,gs[i]?=some g:=⟨gs[i]'hi,List.getElem?_eq_getElem _⟩
 have hO:(gs.map a_)[i]?=some (a_ g):=by rw[List.getElem?_map,hg];rfl
 have hv:Lf gs i=(((g.1:Nat):Int)==65533 &&((g.2:Nat):Int)==1):=by unfold Lf;rw[hg]
 refine qq<|af.ln 4 (.bool (((g.1:Nat):Int)==65533 &&((g.2:Nat):Int)==1)) [] ?_ (fun ff tmp=>?_)
 ·refine qm ?_;refine qg ?_;refine qp (o:=0) ?_;refine ql hH aB ?_;refine qm ?_;refine qr fun Uy P4=>?_;refine qf (fo:=0) fun SR M1=>?_;refine qR ?_;refine qg ?_;refine qm ?_;refine ab.two 14 rfl (fun b8=>?_) (fun b8=>?_)
  ·refine qm ?_ (hg:=wi b8);refine qg ?_ (hg:=wi b8);refine qp (o:=0) ?_ (hg:=wi b8);refine ql hH aB ?_ (hg:=wi b8);refine qm ?_ (hg:=wi b8);refine qr (fun SN MX=>?_) (hg:=wi b8);refine qf (fo:=1) (fun OM Ky=>?_) (hg:=wi b8);refine qR ?_ (hg:=wi b8);refine qg ?_ (hg:=wi b8);refine qt b8 ?_;refine qm ?_;refine ab.nil (aY ?_);dsimp only[aM,List.foldl,nth,u2,u1];dsimp only[Fr.aF,Fr.put,Fr.clean,Fr.ev,Fr.get,nth,V.look,u1,u2,v1,v2,v3,v4,v5,v6,v7,List.length,u3,u4,Nat.reduceSub,Nat.reduceAdd,List.map]
   all_goals(simp[b8];done)
  ·refine qs ?_ (hg:=wn b8);refine qs ?_ (hg:=wn b8);refine qs ?_ (hg:=wn b8);refine qs ?_ (hg:=wn b8);refine qs ?_ (hg:=wn b8);refine qs ?_ (hg:=wn b8);refine qs ?_ (hg:=wn b8);refine qs ?_ (hg:=wn b8);refine qs ?_ (hg:=wn b8);refine qu b8 ?_;refine qm ?_;refine ab.nil (aY ?_);dsimp only[aM,List.foldl,nth,u2,u1];dsimp only[Fr.aF,Fr.put,Fr.clean,Fr.ev,Fr.get,nth,V.look,u1,u2,v1,v2,v3,v4,v5,v6,v7,List.length,u3,u4,Nat.reduceSub,Nat.reduceAdd,List.map]
   all_goals(simp[b8];done)
 dsimp only[aM,List.foldl,nth,u2,u1];refine af.ret ⟨rx,_,_,_,rfl,aj (rfl),?_⟩;exact⟨by rw[hv];rfl,cy.ax cx hH⟩
theorem cW {N k:Nat} {S s0:St} {H:List bP} {gs:List (Nat×Nat)} {bu:D} {aW:List Int} {s:eO} (i:Nat) (e:Int) (hi:i<aW.length) (hH:Has N S s0 (.box k (.mem 0 false (aT gs bu s))::.aL bu 1 (aW.map aq)::H)):
  ∃d ah,Ev pv 36 [.ptr k 0 0,.int .i64 (i:Nat),.int .i64 e] s0 d ah∧d=.sl []∧Has N S ah (.box k (.mem 0 false (aT gs bu (iA aW s i e)))::.aL bu 1 (aW.map aq)::H):=by
 refine Ev.jD rfl RS rfl rfl rfl ?_;dsimp only[u3,u4,List.length,Nat.reduceSub,Nat.reduceAdd,w1,w2];have cy:=hH;have hH:=hH.cA;have cx:(ak .rw s0).bs=s0.bs:=rfl;generalize ak .rw s0=S2 at*;refine qq<|qj fun K hK=>qm ?_;refine qe hK ?_
 obtain⟨v,hv⟩:∃v,aW[i]?=some v:=⟨aW[i]'hi,List.getElem?_eq_getElem _⟩
 have hO:=ei hv;unfold iA;refine qq<|qq<|qj fun K hK=>qm ?_;refine qg ?_;refine qp (o:=5) ?_;refine ql hH aB ?_;refine qg ?_;refine qe hK ?_;refine af.cond (by rfl) (fun h0=>?_) (fun h0=>?_)<;>try simp only[beq_iff_eq,beq_eq_false_iff_ne,ne_eq] at h0
 ·rw[if_pos h0];have wD:aW.getD i 0=v:=by rw[List.getD_eq_getElem?_getD,hv];rfl
  refine qj fun K hK=>qm ?_;refine qm ?_;refine qm ?_;refine qm ?_;refine qg ?_;refine qp (o:=1) ?_;refine ql hH aB ?_;refine qm ?_;refine qi hH b4 fun SN MX=>?_;refine qo hH b4 ?_;refine qg ?_;refine qp (o:=5) ?_;refine qT hH aB fun st hH=>?_;dsimp only[u2,u1,u3,u4,setMany,u5,u6,D.cells,Nat.reduceAdd,aT,a_,aq] at hH;refine qg ?_;refine qp (o:=6) ?_;refine qT hH aB fun st hH=>?_;dsimp only[u2,u1,u3,u4,setMany,u5,u6,D.cells,Nat.reduceAdd,aT,a_,aq] at hH;refine qe hK<|qq<|qj fun K hK=>qm ?_;refine qe hK<|af.ret ⟨rx,_,_,_,rfl,aj (rfl),?_⟩;exact⟨rfl,by rw[wD];exact cy.ax cx hH⟩
 ·rw[if_neg h0];refine af.skip<|qq<|qj fun K hK=>qm ?_;refine qe hK<|af.ret ⟨rx,_,_,_,rfl,aj (rfl),?_⟩;exact⟨rfl,cy.ax cx hH⟩
def eC (fr:Go.V.Fr) (k:Nat):Go.V.D:=Go.V.nth .bw fr.loc k
noncomputable def jW (l:List Rg):List Rg:=@dite _ (∃a,fT l a) (Classical.propDecidable _) (fun h=>Classical.choose h) (fun _=>[])
theorem A9 {l a:List Rg} (h:fT l a):jW l=a:=by
 have hx:∃a,fT l a:=⟨a,h⟩
 unfold jW;rw[dif_pos hx];exact(Classical.choose_spec hx).unique h
theorem lD {s0:St} {x:D} {l:List Rg} (hx:V.Rows s0 2 x (l.map aw)) (hl:l.length≤1048576):Ev pv 76 [x] s0 (bF (jW l)) s0∧(jW l).length≤2*l.length∧fT l (jW l):=by
 obtain⟨_,aO,all,rfl,hperm,nF⟩:=xW hx (by omega);have hM:fT l (all.foldl dj []).reverse:=oU (fun x=>hperm.mem_iff) nF;have hlen:=hperm.length_eq;have pa:=iw l;have kC:=oY all;rw[A9 hM];exact⟨aO,by rw[List.length_reverse];omega,hM⟩
theorem iO (l:List Rg):gY (bF l) 2 (l.map aw):=by
 rw[←gL];refine gY.frozen ?_ ?_
 ·intro e he;obtain⟨x,_,rfl⟩:=List.mem_map.1 he;rfl
 ·intro e he d hd;obtain⟨x,_,rfl⟩:=List.mem_map.1 he;simp only[aw,List.mem_cons,List.not_mem_nil,or_false] at hd
  rcases hd with rfl|rfl<;>rfl
theorem sU {r:Int} {l a:List Rg} (h0:0≤r) (h1:r<55296) (hr:e7 l r) (h:fT l a):a≠[]:=by
 rintro rfl;have:=(h.2 r).2 ⟨by unfold mK;omega,hr⟩;obtain⟨x,hx,_⟩:=this;cases hx
theorem uG {r:Int} (h0:0≤r) (h1:r<55296) {a:List Rg} (h:fT [(r,r)] a):a≠[]:=by
 rintro rfl;have:=(h.2 r).2 ⟨?_,?_⟩
 ·obtain⟨x,hx,_⟩:=this;cases hx
 ·unfold mK;omega
 ·exact⟨(r,r),List.mem_cons_self ..,by simp⟩
theorem iL {s0:St} (r:Int):Ev pv 88 [.int .i32 r] s0 (bF (jW [(r,r)])) s0:=by
 refine Ev.pW rfl Rc rfl rfl rfl ?_;dsimp only[u3,u4,List.length,Nat.reduceSub,Nat.reduceAdd,w1,w2];obtain⟨cM,hF,hH⟩:=ri s0;generalize ak .ro s0=S at*;refine qq<|qj fun K hK=>qm ?_;refine qe hK<|qq<|qj fun K hK=>qm ?_;refine qm ?_;refine ab.fX (qs:=[(0,_),(1,_)]) rfl rfl rfl rfl ⟨rfl,(ev rfl),(by rfl),rfl,(ev rfl),(by rfl),trivial⟩ (by intro q hq;simp only[List.mem_cons,List.not_mem_nil,or_false] at hq;rcases hq with rfl|rfl<;>exact⟨rfl,by exact Nat.le_of_ble_eq_true rfl⟩) (by show List.foldl _ [_,_] _=_;dsimp only[List.foldl_cons,List.foldl_nil,u2,u1]<;>rfl) (ae rfl _) ?_;refine qh (s:=2) (vs:=[_]) hH fun k6 st Cm hH=>?_;obtain⟨aO,hl,_⟩:=lD (l:=[(r,r)]) (hH.rows aB) (by simp);refine qv aO ?_;refine qm ?_;refine qe hK<|af.ret ⟨rx,_,rfl,rl cM hH (rfl)⟩
theorem A1 {s0:St} {x:D} {l:List Rg} (hx:V.Rows s0 2 x (l.map aw)) (hl:l.length≤131072):∃d,Ev pv 95 [x] s0 d s0∧∃a:List Rg,d=bF a∧a.length≤4*l.length+2:=by
 refine Ev.Fu rfl Q9 rfl rfl rfl ?_;dsimp only[u3,u4,List.length,Nat.reduceSub,Nat.reduceAdd,w1,w2];obtain⟨cM,hF,hH⟩:=ri s0;generalize ak .ro s0=S at*;have hx:=Arg.of hx cM;refine qq<|qj fun K hK=>qm ?_;refine qe hK<|qq<|qj fun K hK=>qm ?_;refine qe hK<|qq<|qj fun K hK=>qm ?_;refine qe hK ?_;obtain⟨aO,FW,_⟩:=lD (hx.rows hH) (by omega);have hla:=(iO (jW l)).arg s0.bs.length S;generalize jW l=m at*;refine qq<|qq<|qj fun K hK=>qm ?_;refine qv (aO) ?_;refine qn ?_;simp only[List.length_map];refine qm ?_;refine qe hK ?_;have hH:=hH.eB 2;refine af.block<|af.loop (fun mm fr st=>∃(i:Nat) (n:Int) (o:D) (out:List Rg),fr.clean=⟨11,[eC fr 0,eC fr 1,eC fr 2,o,.int .i32 n,eC fr 5,eC fr 6,eC fr 7,bF m,.int .i64 (m.length:Nat),.int .i64 (i:Nat)],[]⟩∧Has s0.bs.length S st [.aL o 2 (out.map aw)]∧(i+mm=m.length)∧(out.length=i)) (m.length) ?_ ?_
 ·exact⟨0,0,.nul,[],rfl,hH,by omega,rfl⟩
 rintro mm fr st ⟨i,n,o,out,hfr,hH,hi,ho⟩;rw[hfr];clear hfr;generalize eC fr=ee;clear fr;refine qq<|qj fun K hK=>qg ?_;refine qe hK<|qq ?_;refine af.cond (by rfl) (fun h1=>?_) (fun h1=>?_)<;>try simp only[decide_eq_true_eq,decide_eq_false_iff_not] at h1
 ·refine af.skip ?_
  obtain⟨q,hq⟩:∃q,m[i]?=some q:=⟨m[i]'(by omega),List.getElem?_eq_getElem _⟩
  have hr:=fJ hq;refine qq<|af.block<|qq<|qj fun K hK=>qr fun SQ M0=>?_;refine ab.eA rfl (ev rfl) (by assumption) rfl (ae rfl _) ?_;refine qa hH fun k6 st Cm hH=>?_;refine qS hH aB fun st hH=>?_;dsimp only[u2,u1,u3,u4,setMany,u5,u6,D.cells,Nat.reduceAdd,aw] at hH;refine qe hK<|qq<|qj fun K hK=>qm ?_;refine qm ?_;refine qp (o:=0) ?_;refine ql hH aB ?_;refine ab.lA (z:=b5 .i32 (q.1-1)) rfl (ev rfl) (ev rfl) rfl (ae rfl _) ?_;refine ab.fX (qs:=[(0,_),(1,_)]) rfl rfl rfl rfl ⟨rfl,(ev rfl),(by rfl),rfl,(ev rfl),(by rfl),trivial⟩ (by intro q hq;simp only[List.mem_cons,List.not_mem_nil,or_false] at hq;rcases hq with rfl|rfl<;>exact⟨rfl,by exact Nat.le_of_ble_eq_true rfl⟩) (by show List.foldl _ [_,_] _=_;dsimp only[List.foldl_cons,List.foldl_nil,u2,u1]<;>rfl) (ae rfl _) ?_;refine qh (s:=2) (vs:=[_]) hH fun k20 st Qk hH=>?_;refine ab.bZ (s:=2) hH rfl (ev rfl) (ev rfl) (by exact cU) (by exact hH.rows (by exact aB)) rfl rfl rfl rfl rfl rfl rfl ⟨(Nat.le_of_ble_eq_true rfl),(Nat.le_of_ble_eq_true rfl)⟩ (fun _=>(ae rfl _)) (by simp only[List.length_cons,List.length_nil,List.length_map]<;>omega) (by exact .inl hF) (fun Xf st hH=>?_);dsimp only[u2,u1,u3,u4,setMany,u5,u6,D.cells,Nat.reduceAdd,aw] at hH;refine qm ?_;refine qe hK<|qj fun K hK=>qp (o:=1) ?_;refine ql hH b4 ?_;refine ab.kK (z:=b5 .i32 (q.2+1)) rfl (ev rfl) (ev rfl) rfl (ae rfl _) ?_;refine qm ?_;refine qe hK<|qj fun K hK=>qA ?_;refine qm ?_;refine qe hK ?_;exact⟨mm-1,by omega,⟨i+1,_,_,out++[(n,b5 .i32 (q.1-1))],rfl,(by rw[List.map_append];exact hH.drop 2),by omega,by simp[ho]⟩⟩
 ·refine af.exit<|qq<|qj fun K hK=>qm ?_;refine qm ?_;refine ab.fX (qs:=[(0,_),(1,_)]) rfl rfl rfl rfl ⟨rfl,(ev rfl),(by rfl),rfl,(ev rfl),(by rfl),trivial⟩ (by intro q hq;simp only[List.mem_cons,List.not_mem_nil,or_false] at hq;rcases hq with rfl|rfl<;>exact⟨rfl,by exact Nat.le_of_ble_eq_true rfl⟩) (by show List.foldl _ [_,_] _=_;dsimp only[List.foldl_cons,List.foldl_nil,u2,u1]<;>rfl) (ae rfl _) ?_;refine qh (s:=2) (vs:=[_]) hH fun k29 st V2 hH=>?_;refine ab.bZ (s:=2) hH rfl (ev rfl) (ev rfl) (by exact b4) (by exact hH.rows (by exact aB)) rfl rfl rfl rfl rfl rfl rfl ⟨(Nat.le_of_ble_eq_true rfl),(Nat.le_of_ble_eq_true rfl)⟩ (fun _=>(ae rfl _)) (by simp only[List.length_cons,List.length_nil,List.length_map]<;>omega) (by exact .inl hF) (fun Xd st hH=>?_);dsimp only[u2,u1,u3,u4,setMany,u5,u6,D.cells,Nat.reduceAdd,aw] at hH;obtain⟨aO,o8,_⟩:=lD (l:=out++[(n,1114111)]) (by rw[List.map_append];exact hH.rows b4) (by simp;omega);refine qv aO ?_;refine qm ?_;refine qe hK<|af.ret ⟨rx,_,_,rfl,rl cM hH (rfl),?_⟩;exact⟨_,rfl,by simp at o8;omega⟩
theorem K_ {s0:St}:∃d,Ev pv 87 [] s0 d s0∧∃a:List Rg,d=bF a∧a.length≤6:=by
 refine Ev.Fu rfl Re rfl rfl rfl ?_;dsimp only[u3,u4,List.length,Nat.reduceSub,Nat.reduceAdd,w1,w2];obtain⟨cM,hF,hH⟩:=ri s0;generalize ak .ro s0=S at*;refine qq<|qj fun K hK=>qm ?_;refine qe hK<|qq<|qj fun K hK=>?_;refine ab.fX (qs:=[(0,_),(1,_)]) rfl rfl rfl rfl ⟨rfl,(ev rfl),(by rfl),rfl,(ev rfl),(by rfl),trivial⟩ (by intro q hq;simp only[List.mem_cons,List.not_mem_nil,or_false] at hq;rcases hq with rfl|rfl<;>exact⟨rfl,by exact Nat.le_of_ble_eq_true rfl⟩) (by show List.foldl _ [_,_] _=_;dsimp only[List.foldl_cons,List.foldl_nil,u2,u1]<;>rfl) (ae rfl _) ?_;refine qh (s:=2) (vs:=[_]) hH fun k2 st hk2 hH=>?_;obtain⟨_,aO,a,rfl,hl⟩:=A1 (l:=[(10,10)]) (hH.rows aB) (by simp);refine qv aO ?_;refine qm ?_;refine qe hK<|af.ret ⟨rx,_,_,rfl,rl cM hH (rfl),?_⟩;exact⟨a,rfl,hl⟩
theorem Fy {s0:St} (r:Int):Ev pv 96 [.int .i32 r] s0 (.bool (decide (33≤r∧r≤47∨58≤r∧r≤64∨91≤r∧r≤96∨123≤r∧r≤126))) s0:=by
 refine Ev.pW rfl Q8 rfl rfl rfl ?_;dsimp only[u3,u4,List.length,Nat.reduceSub,Nat.reduceAdd,w1,w2];obtain⟨cM,hF,hH⟩:=ri s0;generalize ak .ro s0=S at*;refine qq<|qj fun K hK=>qm ?_;refine qe hK<|qq<|af.ln 2 (.bool (decide (33≤r∧r≤47∨58≤r∧r≤64∨91≤r∧r≤96∨123≤r∧r≤126))) [] ?_ (fun ff tmp=>?_)
 ·refine qm ?_;refine qg ?_;refine qm ?_;refine ab.two 5 rfl (fun bh=>?_) (fun bh=>?_)
  ·refine qm ?_ (hg:=wi bh);refine qg ?_ (hg:=wi bh);refine qt bh ?_;refine qm ?_;refine ab.two 9 rfl (fun ej=>?_) (fun ej=>?_)
   ·refine qs ?_ (hg:=wn ej);refine qs ?_ (hg:=wn ej);refine qs ?_ (hg:=wn ej);refine qs ?_;refine qs ?_;refine qs ?_ (hg:=wn ej);refine qt ej ?_;refine qm ?_;refine qs ?_;refine qs ?_;refine qs ?_;refine qs ?_;refine qs ?_;refine qs ?_;refine qg ?_;refine qm ?_;refine qs ?_;refine qs ?_;refine qs ?_;refine qs ?_;refine qs ?_;refine qs ?_;refine qg ?_;refine qm ?_;refine ab.nil (aY ?_);dsimp only[aM,List.foldl,nth,u2,u1];dsimp only[Fr.aF,Fr.put,Fr.clean,Fr.ev,Fr.get,nth,V.look,u1,u2,v1,v2,v3,v4,v5,v6,v7,List.length,u3,u4,Nat.reduceSub,Nat.reduceAdd,List.map]
    all_goals(simp[bh,ej];done)
   ·refine qm ?_ (hg:=wi ej);refine qg ?_ (hg:=wi ej);refine qm ?_ (hg:=wi ej);refine ab.two 12 rfl (fun b8=>?_) (fun b8=>?_)
    ·refine qm ?_ (hg:=wi b8);refine qg ?_ (hg:=wi b8);refine ab.dI (aD rfl rfl rfl ej) rfl b8 (ae rfl _) ?_;refine qu ej ?_;refine qm ?_;refine ab.two 17 rfl (fun dx=>?_) (fun dx=>?_)
     ·refine qs ?_ (hg:=wn dx);refine qs ?_ (hg:=wn dx);refine qs ?_ (hg:=wn dx);refine qs ?_;refine qs ?_;refine qs ?_ (hg:=wn dx);refine qt dx ?_;refine qm ?_;refine qs ?_;refine qs ?_;refine qs ?_;refine qs ?_;refine qs ?_;refine qs ?_;refine qg ?_;refine qm ?_;refine ab.nil (aY ?_);dsimp only[aM,List.foldl,nth,u2,u1];dsimp only[Fr.aF,Fr.put,Fr.clean,Fr.ev,Fr.get,nth,V.look,u1,u2,v1,v2,v3,v4,v5,v6,v7,List.length,u3,u4,Nat.reduceSub,Nat.reduceAdd,List.map]
      all_goals(simp[bh,ej,b8,dx];done)
     ·refine qm ?_ (hg:=wi dx);refine qg ?_ (hg:=wi dx);refine qm ?_ (hg:=wi dx);refine ab.two 20 rfl (fun a7=>?_) (fun a7=>?_)
      ·refine qm ?_ (hg:=wi a7);refine qg ?_ (hg:=wi a7);refine ab.dI (aD rfl rfl rfl dx) rfl a7 (ae rfl _) ?_;refine qu dx ?_;refine qm ?_;refine ab.two 25 rfl (fun bm=>?_) (fun bm=>?_)
       ·refine qs ?_ (hg:=wn bm);refine qs ?_ (hg:=wn bm);refine qs ?_ (hg:=wn bm);refine qs ?_;refine qs ?_;refine qs ?_ (hg:=wn bm);refine qt bm ?_;refine qm ?_;refine ab.nil (aY ?_);dsimp only[aM,List.foldl,nth,u2,u1];dsimp only[Fr.aF,Fr.put,Fr.clean,Fr.ev,Fr.get,nth,V.look,u1,u2,v1,v2,v3,v4,v5,v6,v7,List.length,u3,u4,Nat.reduceSub,Nat.reduceAdd,List.map]
        all_goals(simp[bh,ej,b8,dx,a7,bm];done)
       ·refine qm ?_ (hg:=wi bm);refine qg ?_ (hg:=wi bm);refine qm ?_ (hg:=wi bm);refine ab.two 28 rfl (fun bc=>?_) (fun bc=>?_)
        ·refine qm ?_ (hg:=wi bc);refine qg ?_ (hg:=wi bc);refine ab.dI (aD rfl rfl rfl bm) rfl bc (ae rfl _) ?_;refine qu bm ?_;refine qm ?_;refine ab.nil (aY ?_);dsimp only[aM,List.foldl,nth,u2,u1];dsimp only[Fr.aF,Fr.put,Fr.clean,Fr.ev,Fr.get,nth,V.look,u1,u2,v1,v2,v3,v4,v5,v6,v7,List.length,u3,u4,Nat.reduceSub,Nat.reduceAdd,List.map]
         all_goals(simp[bh,ej,b8,dx,a7,bm,bc];done)
        ·refine qs ?_ (hg:=wn bc);refine qs ?_ (hg:=wn bc);refine ab.da (aD rfl rfl rfl bm) rfl bc (ae rfl _) ?_;refine qu bm ?_;refine qm ?_;refine ab.nil (aY ?_);dsimp only[aM,List.foldl,nth,u2,u1];dsimp only[Fr.aF,Fr.put,Fr.clean,Fr.ev,Fr.get,nth,V.look,u1,u2,v1,v2,v3,v4,v5,v6,v7,List.length,u3,u4,Nat.reduceSub,Nat.reduceAdd,List.map]
         all_goals(simp[bh,ej,b8,dx,a7,bm,bc];done)
      ·refine qs ?_ (hg:=wn a7);refine qs ?_ (hg:=wn a7);refine ab.da (aD rfl rfl rfl dx) rfl a7 (ae rfl _) ?_;refine qu dx ?_;refine qm ?_;refine qm ?_;refine qg ?_;refine qm ?_;refine ab.two 28 rfl (fun bc=>?_) (fun bc=>?_)
       ·refine qm ?_ (hg:=wi bc);refine qg ?_ (hg:=wi bc);refine qt bc ?_;refine qg ?_;refine qm ?_;refine ab.nil (aY ?_);dsimp only[aM,List.foldl,nth,u2,u1];dsimp only[Fr.aF,Fr.put,Fr.clean,Fr.ev,Fr.get,nth,V.look,u1,u2,v1,v2,v3,v4,v5,v6,v7,List.length,u3,u4,Nat.reduceSub,Nat.reduceAdd,List.map]
        all_goals(simp[bh,ej,b8,dx,a7,bc];done)
       ·refine qs ?_ (hg:=wn bc);refine qs ?_ (hg:=wn bc);refine qu bc ?_;refine qg ?_;refine qm ?_;refine ab.nil (aY ?_);dsimp only[aM,List.foldl,nth,u2,u1];dsimp only[Fr.aF,Fr.put,Fr.clean,Fr.ev,Fr.get,nth,V.look,u1,u2,v1,v2,v3,v4,v5,v6,v7,List.length,u3,u4,Nat.reduceSub,Nat.reduceAdd,List.map]
        all_goals(simp[bh,ej,b8,dx,a7,bc];done)
    ·refine qs ?_ (hg:=wn b8);refine qs ?_ (hg:=wn b8);refine ab.da (aD rfl rfl rfl ej) rfl b8 (ae rfl _) ?_;refine qu ej ?_;refine qm ?_;refine qm ?_;refine qg ?_;refine qm ?_;refine ab.two 20 rfl (fun a7=>?_) (fun a7=>?_)
     ·refine qm ?_ (hg:=wi a7);refine qg ?_ (hg:=wi a7);refine qt a7 ?_;refine qg ?_;refine qm ?_;refine ab.two 25 rfl (fun bm=>?_) (fun bm=>?_)
      ·refine qs ?_ (hg:=wn bm);refine qs ?_ (hg:=wn bm);refine qs ?_ (hg:=wn bm);refine qs ?_;refine qs ?_;refine qs ?_ (hg:=wn bm);refine qt bm ?_;refine qm ?_;refine ab.nil (aY ?_);dsimp only[aM,List.foldl,nth,u2,u1];dsimp only[Fr.aF,Fr.put,Fr.clean,Fr.ev,Fr.get,nth,V.look,u1,u2,v1,v2,v3,v4,v5,v6,v7,List.length,u3,u4,Nat.reduceSub,Nat.reduceAdd,List.map]
       all_goals(simp[bh,ej,b8,a7,bm];done)
      ·refine qm ?_ (hg:=wi bm);refine qg ?_ (hg:=wi bm);refine qm ?_ (hg:=wi bm);refine ab.two 28 rfl (fun bc=>?_) (fun bc=>?_)
       ·refine qm ?_ (hg:=wi bc);refine qg ?_ (hg:=wi bc);refine ab.dI (aD rfl rfl rfl bm) rfl bc (ae rfl _) ?_;refine qu bm ?_;refine qm ?_;refine ab.nil (aY ?_);dsimp only[aM,List.foldl,nth,u2,u1];dsimp only[Fr.aF,Fr.put,Fr.clean,Fr.ev,Fr.get,nth,V.look,u1,u2,v1,v2,v3,v4,v5,v6,v7,List.length,u3,u4,Nat.reduceSub,Nat.reduceAdd,List.map]
        all_goals(simp[bh,ej,b8,a7,bm,bc];done)
       ·refine qs ?_ (hg:=wn bc);refine qs ?_ (hg:=wn bc);refine ab.da (aD rfl rfl rfl bm) rfl bc (ae rfl _) ?_;refine qu bm ?_;refine qm ?_;refine ab.nil (aY ?_);dsimp only[aM,List.foldl,nth,u2,u1];dsimp only[Fr.aF,Fr.put,Fr.clean,Fr.ev,Fr.get,nth,V.look,u1,u2,v1,v2,v3,v4,v5,v6,v7,List.length,u3,u4,Nat.reduceSub,Nat.reduceAdd,List.map]
        all_goals(simp[bh,ej,b8,a7,bm,bc];done)
     ·refine qs ?_ (hg:=wn a7);refine qs ?_ (hg:=wn a7);refine qu a7 ?_;refine qg ?_;refine qm ?_;refine qm ?_;refine qg ?_;refine qm ?_;refine ab.two 28 rfl (fun bc=>?_) (fun bc=>?_)
      ·refine qm ?_ (hg:=wi bc);refine qg ?_ (hg:=wi bc);refine qt bc ?_;refine qg ?_;refine qm ?_;refine ab.nil (aY ?_);dsimp only[aM,List.foldl,nth,u2,u1];dsimp only[Fr.aF,Fr.put,Fr.clean,Fr.ev,Fr.get,nth,V.look,u1,u2,v1,v2,v3,v4,v5,v6,v7,List.length,u3,u4,Nat.reduceSub,Nat.reduceAdd,List.map]
       all_goals(simp[bh,ej,b8,a7,bc];done)
      ·refine qs ?_ (hg:=wn bc);refine qs ?_ (hg:=wn bc);refine qu bc ?_;refine qg ?_;refine qm ?_;refine ab.nil (aY ?_);dsimp only[aM,List.foldl,nth,u2,u1];dsimp only[Fr.aF,Fr.put,Fr.clean,Fr.ev,Fr.get,nth,V.look,u1,u2,v1,v2,v3,v4,v5,v6,v7,List.length,u3,u4,Nat.reduceSub,Nat.reduceAdd,List.map]
       all_goals(simp[bh,ej,b8,a7,bc];done)
  ·refine qs ?_ (hg:=wn bh);refine qs ?_ (hg:=wn bh);refine qu bh ?_;refine qm ?_;refine qm ?_;refine qg ?_;refine qm ?_;refine ab.two 12 rfl (fun b8=>?_) (fun b8=>?_)
   ·refine qm ?_ (hg:=wi b8);refine qg ?_ (hg:=wi b8);refine qt b8 ?_;refine qg ?_;refine qm ?_;refine ab.two 17 rfl (fun dx=>?_) (fun dx=>?_)
    ·refine qs ?_ (hg:=wn dx);refine qs ?_ (hg:=wn dx);refine qs ?_ (hg:=wn dx);refine qs ?_;refine qs ?_;refine qs ?_ (hg:=wn dx);refine qt dx ?_;refine qm ?_;refine qs ?_;refine qs ?_;refine qs ?_;refine qs ?_;refine qs ?_;refine qs ?_;refine qg ?_;refine qm ?_;refine ab.nil (aY ?_);dsimp only[aM,List.foldl,nth,u2,u1];dsimp only[Fr.aF,Fr.put,Fr.clean,Fr.ev,Fr.get,nth,V.look,u1,u2,v1,v2,v3,v4,v5,v6,v7,List.length,u3,u4,Nat.reduceSub,Nat.reduceAdd,List.map]
     all_goals(simp[bh,b8,dx];done)
    ·refine qm ?_ (hg:=wi dx);refine qg ?_ (hg:=wi dx);refine qm ?_ (hg:=wi dx);refine ab.two 20 rfl (fun a7=>?_) (fun a7=>?_)
     ·refine qm ?_ (hg:=wi a7);refine qg ?_ (hg:=wi a7);refine ab.dI (aD rfl rfl rfl dx) rfl a7 (ae rfl _) ?_;refine qu dx ?_;refine qm ?_;refine ab.two 25 rfl (fun bm=>?_) (fun bm=>?_)
      ·refine qs ?_ (hg:=wn bm);refine qs ?_ (hg:=wn bm);refine qs ?_ (hg:=wn bm);refine qs ?_;refine qs ?_;refine qs ?_ (hg:=wn bm);refine qt bm ?_;refine qm ?_;refine ab.nil (aY ?_);dsimp only[aM,List.foldl,nth,u2,u1];dsimp only[Fr.aF,Fr.put,Fr.clean,Fr.ev,Fr.get,nth,V.look,u1,u2,v1,v2,v3,v4,v5,v6,v7,List.length,u3,u4,Nat.reduceSub,Nat.reduceAdd,List.map]
       all_goals(simp[bh,b8,dx,a7,bm];done)
      ·refine qm ?_ (hg:=wi bm);refine qg ?_ (hg:=wi bm);refine qm ?_ (hg:=wi bm);refine ab.two 28 rfl (fun bc=>?_) (fun bc=>?_)
       ·refine qm ?_ (hg:=wi bc);refine qg ?_ (hg:=wi bc);refine ab.dI (aD rfl rfl rfl bm) rfl bc (ae rfl _) ?_;refine qu bm ?_;refine qm ?_;refine ab.nil (aY ?_);dsimp only[aM,List.foldl,nth,u2,u1];dsimp only[Fr.aF,Fr.put,Fr.clean,Fr.ev,Fr.get,nth,V.look,u1,u2,v1,v2,v3,v4,v5,v6,v7,List.length,u3,u4,Nat.reduceSub,Nat.reduceAdd,List.map]
        all_goals(simp[bh,b8,dx,a7,bm,bc];done)
       ·refine qs ?_ (hg:=wn bc);refine qs ?_ (hg:=wn bc);refine ab.da (aD rfl rfl rfl bm) rfl bc (ae rfl _) ?_;refine qu bm ?_;refine qm ?_;refine ab.nil (aY ?_);dsimp only[aM,List.foldl,nth,u2,u1];dsimp only[Fr.aF,Fr.put,Fr.clean,Fr.ev,Fr.get,nth,V.look,u1,u2,v1,v2,v3,v4,v5,v6,v7,List.length,u3,u4,Nat.reduceSub,Nat.reduceAdd,List.map]
        all_goals(simp[bh,b8,dx,a7,bm,bc];done)
     ·refine qs ?_ (hg:=wn a7);refine qs ?_ (hg:=wn a7);refine ab.da (aD rfl rfl rfl dx) rfl a7 (ae rfl _) ?_;refine qu dx ?_;refine qm ?_;refine qm ?_;refine qg ?_;refine qm ?_;refine ab.two 28 rfl (fun bc=>?_) (fun bc=>?_)
      ·refine qm ?_ (hg:=wi bc);refine qg ?_ (hg:=wi bc);refine qt bc ?_;refine qg ?_;refine qm ?_;refine ab.nil (aY ?_);dsimp only[aM,List.foldl,nth,u2,u1];dsimp only[Fr.aF,Fr.put,Fr.clean,Fr.ev,Fr.get,nth,V.look,u1,u2,v1,v2,v3,v4,v5,v6,v7,List.length,u3,u4,Nat.reduceSub,Nat.reduceAdd,List.map]
       all_goals(simp[bh,b8,dx,a7,bc];done)
      ·refine qs ?_ (hg:=wn bc);refine qs ?_ (hg:=wn bc);refine qu bc ?_;refine qg ?_;refine qm ?_;refine ab.nil (aY ?_);dsimp only[aM,List.foldl,nth,u2,u1];dsimp only[Fr.aF,Fr.put,Fr.clean,Fr.ev,Fr.get,nth,V.look,u1,u2,v1,v2,v3,v4,v5,v6,v7,List.length,u3,u4,Nat.reduceSub,Nat.reduceAdd,List.map]
       all_goals(simp[bh,b8,dx,a7,bc];done)
   ·refine qs ?_ (hg:=wn b8);refine qs ?_ (hg:=wn b8);refine qu b8 ?_;refine qg ?_;refine qm ?_;refine qm ?_;refine qg ?_;refine qm ?_;refine ab.two 20 rfl (fun a7=>?_) (fun a7=>?_)
    ·refine qm ?_ (hg:=wi a7);refine qg ?_ (hg:=wi a7);refine qt a7 ?_;refine qg ?_;refine qm ?_;refine ab.two 25 rfl (fun bm=>?_) (fun bm=>?_)
     ·refine qs ?_ (hg:=wn bm);refine qs ?_ (hg:=wn bm);refine qs ?_ (hg:=wn bm);refine qs ?_;refine qs ?_;refine qs ?_ (hg:=wn bm);refine qt bm ?_;refine qm ?_;refine ab.nil (aY ?_);dsimp only[aM,List.foldl,nth,u2,u1];dsimp only[Fr.aF,Fr.put,Fr.clean,Fr.ev,Fr.get,nth,V.look,u1,u2,v1,v2,v3,v4,v5,v6,v7,List.length,u3,u4,Nat.reduceSub,Nat.reduceAdd,List.map]
      all_goals(simp[bh,b8,a7,bm];done)
     ·refine qm ?_ (hg:=wi bm);refine qg ?_ (hg:=wi bm);refine qm ?_ (hg:=wi bm);refine ab.two 28 rfl (fun bc=>?_) (fun bc=>?_)
      ·refine qm ?_ (hg:=wi bc);refine qg ?_ (hg:=wi bc);refine ab.dI (aD rfl rfl rfl bm) rfl bc (ae rfl _) ?_;refine qu bm ?_;refine qm ?_;refine ab.nil (aY ?_);dsimp only[aM,List.foldl,nth,u2,u1];dsimp only[Fr.aF,Fr.put,Fr.clean,Fr.ev,Fr.get,nth,V.look,u1,u2,v1,v2,v3,v4,v5,v6,v7,List.length,u3,u4,Nat.reduceSub,Nat.reduceAdd,List.map]
       all_goals(simp[bh,b8,a7,bm,bc];done)
      ·refine qs ?_ (hg:=wn bc);refine qs ?_ (hg:=wn bc);refine ab.da (aD rfl rfl rfl bm) rfl bc (ae rfl _) ?_;refine qu bm ?_;refine qm ?_;refine ab.nil (aY ?_);dsimp only[aM,List.foldl,nth,u2,u1];dsimp only[Fr.aF,Fr.put,Fr.clean,Fr.ev,Fr.get,nth,V.look,u1,u2,v1,v2,v3,v4,v5,v6,v7,List.length,u3,u4,Nat.reduceSub,Nat.reduceAdd,List.map]
       all_goals(simp[bh,b8,a7,bm,bc];done)
    ·refine qs ?_ (hg:=wn a7);refine qs ?_ (hg:=wn a7);refine qu a7 ?_;refine qg ?_;refine qm ?_;refine qm ?_;refine qg ?_;refine qm ?_;refine ab.two 28 rfl (fun bc=>?_) (fun bc=>?_)
     ·refine qm ?_ (hg:=wi bc);refine qg ?_ (hg:=wi bc);refine qt bc ?_;refine qg ?_;refine qm ?_;refine ab.nil (aY ?_);dsimp only[aM,List.foldl,nth,u2,u1];dsimp only[Fr.aF,Fr.put,Fr.clean,Fr.ev,Fr.get,nth,V.look,u1,u2,v1,v2,v3,v4,v5,v6,v7,List.length,u3,u4,Nat.reduceSub,Nat.reduceAdd,List.map]
      all_goals(simp[bh,b8,a7,bc];done)
     ·refine qs ?_ (hg:=wn bc);refine qs ?_ (hg:=wn bc);refine qu bc ?_;refine qg ?_;refine qm ?_;refine ab.nil (aY ?_);dsimp only[aM,List.foldl,nth,u2,u1];dsimp only[Fr.aF,Fr.put,Fr.clean,Fr.ev,Fr.get,nth,V.look,u1,u2,v1,v2,v3,v4,v5,v6,v7,List.length,u3,u4,Nat.reduceSub,Nat.reduceAdd,List.map]
      all_goals(simp[bh,b8,a7,bc];done)
 dsimp only[aM,List.foldl,nth,u2,u1];refine af.ret ⟨rx,_,rfl,rl cM hH (rfl)⟩
theorem Fz {s0:St} (a b:List UInt8):∃d,Ev pv 90 [.str a,.str b] s0 d s0∧∃v:Bool,d=.bool v:=by
 refine Ev.Fu rfl Rb rfl rfl rfl ?_;dsimp only[u3,u4,List.length,Nat.reduceSub,Nat.reduceAdd,w1,w2];obtain⟨cM,hF,hH⟩:=ri s0;generalize ak .ro s0=S at*;refine qq<|qj fun K hK=>qm ?_;refine qe hK<|qq<|af.ln 4 (.bool (decide ((a.length:Int)<b.length)||(((a.length:Int)==b.length) &&Op.bytesLess a b))) [] ?_ (fun ff tmp=>?_)
 ·refine qm ?_;refine ab.tO rfl rfl rfl (ae rfl _) ?_;refine qm ?_;refine ab.tO rfl rfl rfl (ae rfl _) ?_;refine qg ?_;refine qm ?_;refine ab.two 10 rfl (fun bA=>?_) (fun bA=>?_)
  ·refine qs ?_ (hg:=wn bA);refine qs ?_ (hg:=wn bA);refine qs ?_ (hg:=wn bA);refine qs ?_ (hg:=wn bA);refine qs ?_ (hg:=wn bA);refine qs ?_ (hg:=wn bA);refine qs ?_;refine qs ?_;refine qs ?_;refine qs ?_ (hg:=wn bA);refine qt bA ?_;refine qm ?_;refine ab.nil (aY ?_);dsimp only[aM,List.foldl,nth,u2,u1];dsimp only[Fr.aF,Fr.put,Fr.clean,Fr.ev,Fr.get,nth,V.look,u1,u2,v1,v2,v3,v4,v5,v6,v7,List.length,u3,u4,Nat.reduceSub,Nat.reduceAdd,List.map]
   all_goals(simp_all;done)
  ·refine qm ?_ (hg:=wi bA);refine ab.tO (aD rfl rfl rfl bA) rfl rfl (ae rfl _) ?_;refine qm ?_ (hg:=wi bA);refine ab.tO (aD rfl rfl rfl bA) rfl rfl (ae rfl _) ?_;refine qg ?_ (hg:=wi bA);refine qm ?_ (hg:=wi bA);refine ab.two 16 rfl (fun bC=>?_) (fun bC=>?_)
   ·refine qm ?_ (hg:=wi bC);refine qm ?_ (hg:=wi bC);refine qg ?_ (hg:=wi bC);refine ab.dI (aD rfl rfl rfl bA) rfl bC (ae rfl _) ?_;refine qu bA ?_;refine qm ?_;refine ab.nil (aY ?_);dsimp only[aM,List.foldl,nth,u2,u1];dsimp only[Fr.aF,Fr.put,Fr.clean,Fr.ev,Fr.get,nth,V.look,u1,u2,v1,v2,v3,v4,v5,v6,v7,List.length,u3,u4,Nat.reduceSub,Nat.reduceAdd,List.map]
    all_goals(simp_all;done)
   ·refine qs ?_ (hg:=wn bC);refine qs ?_ (hg:=wn bC);refine qs ?_ (hg:=wn bC);refine ab.da (aD rfl rfl rfl bA) rfl bC (ae rfl _) ?_;refine qu bA ?_;refine qm ?_;refine ab.nil (aY ?_);dsimp only[aM,List.foldl,nth,u2,u1];dsimp only[Fr.aF,Fr.put,Fr.clean,Fr.ev,Fr.get,nth,V.look,u1,u2,v1,v2,v3,v4,v5,v6,v7,List.length,u3,u4,Nat.reduceSub,Nat.reduceAdd,List.map]
    all_goals(simp_all;done)
 dsimp only[aM,List.foldl,nth,u2,u1];refine af.ret ⟨rx,_,_,rfl,rl cM hH (rfl),?_⟩;exact⟨_,rfl⟩
theorem lx {s0:St} (b:List UInt8) (hb:b.length≤1048576):∃d,Ev pv 91 [.str b] s0 d s0∧∃(n:Int) (v:Bool),d=.tup [.int .i64 n,.bool v]:=by
 refine Ev.Fu rfl Ra rfl rfl rfl ?_;dsimp only[u3,u4,List.length,Nat.reduceSub,Nat.reduceAdd,w1,w2];obtain⟨cM,hF,hH⟩:=ri s0;generalize ak .ro s0=S at*;refine qq<|qj fun K hK=>qm ?_;refine qm ?_;refine qe hK<|qq<|qq<|qj fun K hK=>qm ?_;refine ab.tO rfl rfl rfl (by dsimp only[Fr.put,u1,u2]<;>rfl) ?_;refine qg ?_;refine qe hK ?_;refine af.cond (by rfl) (fun h0=>?_) (fun h0=>?_)<;>try simp only[decide_eq_true_eq,decide_eq_false_iff_not] at h0
 ·refine qq<|qj fun K hK=>qm ?_;refine qm ?_;refine qe hK<|af.ret ⟨rx,_,_,rfl,rl cM hH (rfl),?_⟩;exact⟨_,_,rfl⟩
 ·refine af.skip<|qq<|qj fun K hK=>qm ?_;refine qe hK<|qq<|qq<|qj fun K hK=>qm ?_;refine ab.tO rfl rfl rfl (by dsimp only[Fr.put,u1,u2]<;>rfl) ?_;refine qm ?_;refine qe hK<|af.block<|af.loop (fun mm fr st=>∃(i:Nat) (n:Int),fr.clean=⟨12,[.str b,eC fr 1,eC fr 2,eC fr 3,.int .i64 n,eC fr 5,eC fr 6,eC fr 7,eC fr 8,eC fr 9,.int .i64 (b.length:Nat),.int .i64 (i:Nat)],[]⟩∧Has s0.bs.length S st []∧(i+mm=b.length)) (b.length) ?_ ?_
  ·exact⟨0,0,rfl,hH,by omega⟩
  rintro mm fr st ⟨i,n,hfr,hH,hi⟩;rw[hfr];clear hfr;generalize eC fr=ee;clear fr;refine qq<|qj fun K hK=>qg ?_;refine qe hK<|qq ?_;refine af.cond (by rfl) (fun h1=>?_) (fun h1=>?_)<;>try simp only[decide_eq_true_eq,decide_eq_false_iff_not] at h1
  ·refine af.skip ?_
   obtain⟨c,hc⟩:∃c,b[i]?=some c:=⟨b[i]'(by omega),List.getElem?_eq_getElem _⟩
   refine qq<|af.block<|qq<|qj fun K hK=>qm ?_;refine qm ?_;refine qe hK<|qj fun K hK=>qm ?_;refine ab.sI (z:=b5 .i64 (10*n)) rfl (ev rfl) (ev rfl) rfl (ae rfl _) ?_;refine qm ?_;refine qm ?_;refine ab.OD rfl (ev rfl) (ev rfl) rfl (by assumption) (ae rfl _) ?_;refine ab.go (d:=.int .u8 (b5 .u8 ((c.toNat:Nat)-48))) (st1:=_) rfl rfl rfl (ae rfl _) ?_;refine qg ?_;refine ab.kK (z:=b5 .i64 (b5 .i64 (10*n)+b5 .i64 (b5 .u8 ((c.toNat:Nat)-48)))) rfl (ev rfl) (ev rfl) rfl (ae rfl _) ?_;refine qm ?_;refine qe hK<|qj fun K hK=>qA ?_;refine qm ?_;refine qe hK ?_;exact⟨mm-1,by omega,⟨i+1,_,rfl,hH,by omega⟩⟩
  ·refine af.exit<|qq<|qj fun K hK=>qm ?_;refine qm ?_;refine qg ?_;refine qm ?_;refine qm ?_;refine qe hK<|af.ret ⟨rx,_,_,rfl,rl cM hH (rfl),?_⟩;exact⟨_,_,rfl⟩
theorem np:∀gs:List (Nat×Nat),jg ((gs.map a_).map (jK 2))=some (gs.map fun g=>((g.1:Nat):Int))
 |[]=>rfl
 |g::gs=>by
  have ih:=np gs;simp only[List.map_cons];show(match jg ((gs.map a_).map (jK 2)) with|some rs=>some (((g.1:Nat):Int)::rs)|none=>none)=_;rw[ih]
theorem vd:∀(rs:List Int) (acc:List UInt8),(digS rs acc).2≤rs.length∧(digS rs acc).1.length≤acc.length+(digS rs acc).2
 |[],acc=>by simp[digS]
 |r::rs,acc=>by
  unfold digS
  split
  ·have h:=vd rs (if 48<r∨acc≠[] then acc++[UInt8.ofNat r.toNat] else acc);simp only[List.length_cons]
   have hl:(if 48<r∨acc≠[] then acc++[UInt8.ofNat r.toNat] else acc).length≤acc.length+1:=by
    split<;>simp
   omega
  ·simp
structure kc (gs:List (Nat×Nat)) (aW:List Int):Prop where
 gl:gs.length≤120
 pl:aW.length=gs.length
theorem rN {N k:Nat} {S s0:St} {H:List bP} {gs:List (Nat×Nat)} {bu:D} {s:eO} (o_:gs.length≤120) (hi:s.i≤gs.length) (hne:gs≠[]) (hH:Has N S s0 (.box k (.mem 0 false (aT gs bu s))::H)):
  ∃d ah,Ev pv 89 [.ptr k 0 0] s0 d ah∧∃(t:List UInt8) (v:Bool) (m:Nat),d=.tup [.str t,.bool v]∧t.length≤120∧s.i+m≤gs.length∧Has N S ah (.box k (.mem 0 false (aT gs bu {s with i:=s.i+m}))::H):=by
 have hb:=hH.at aB;have hw:=iY (cs:=[.int .i64 0]) hH (hH.ge aB).1 (.inr rfl);have hl:=vd ((gs.map fun g=>((g.1:Nat):Int)).drop s.i) [];obtain⟨h1,h2⟩:=hl;simp only[List.length_drop,List.length_map,List.length_nil] at h1 h2;refine⟨_,_,Ev.jk rfl ?_,(digS ((gs.map fun g=>((g.1:Nat):Int)).drop s.i) []).1,decide (0<(digS ((gs.map fun g=>((g.1:Nat):Int)).drop s.i) []).2),(digS ((gs.map fun g=>((g.1:Nat):Int)).drop s.i) []).2,rfl,by omega,by omega,hH.Av (aA:=0) aB⟩
 have hd:decide ((gs.map fun g=>((g.1:Nat):Int))≠[]∧(0:Int)≤(s.i:Nat)∧((s.i:Nat):Int).toNat≤(gs.map fun g=>((g.1:Nat):Int)).length∧(gs.map fun g=>((g.1:Nat):Int)).length<1099511627776)=true:=by
  rw[decide_eq_true];refine⟨by simpa using hne,by omega,by simp;omega,by simp;omega⟩
 show zD [.ptr k 0 0] s0=_;simp only[zD,St.mem_of hb];show(match jg ((gs.map a_).map (jK 2)) with|some rs=>Ga s0 k 0 0 rs (s.i:Nat)|none=>none)=_;rw[np];simp only[Ga,hd];have hwr:=kR (cs:=[.int .i64 ((s.i+(digS ((gs.map fun g=>((g.1:Nat):Int)).drop s.i) []).2:Nat))]) (off:=2) hb (by show 2+1≤7;omega) hw;simp only[Int.toNat_natCast,Nat.zero_add];rw[hwr]
 rfl
def Cd (gs:List (Nat×Nat)) (s s':eO) (d1:D) (b:Bool):Prop:=
 s'.o=s.o∧s'.g=s.g∧s.i≤s'.i∧s'.i≤gs.length∧(d1=.nul∨∃a,d1=bF a∧a.length≤8)∧(s'.e≠0∨s'.e=0∧s.i<s'.i∧∃a,d1=bF a∧a.length≤8∧a≠[])
theorem df {aW:List Int} {s:eO} {i:Nat} {e:Int} (he:s.e=0) (h:e≠0):(iA aW s i e).e≠0∧(iA aW s i e).i=s.i∧(iA aW s i e).o=s.o∧(iA aW s i e).g=s.g:=by
 unfold iA;rw[if_pos he];exact⟨h,rfl,rfl,rfl⟩
theorem xA {N k:Nat} {S s0:St} {H:List bP} {gs:List (Nat×Nat)} {bu:D} {aW:List Int} {s:eO} (ba:kc gs aW) (he:s.e=0) (hi:s.i<gs.length) (hH:Has N S s0 (.box k (.mem 0 false (aT gs bu s))::.aL bu 1 (aW.map aq)::H)):
  ∃d ah,Ev pv 86 [.ptr k 0 0] s0 d ah∧∃(d1:D) (b:Bool) (s':eO),d=.tup [d1,.bool b]∧Cd gs s s' d1 b∧Has N S ah (.box k (.mem 0 false (aT gs bu s'))::.aL bu 1 (aW.map aq)::H):=by
 have o_:=ba.gl;have fF:=ba.pl;refine Ev.jD rfl Rf rfl rfl rfl ?_;dsimp only[u3,u4,List.length,Nat.reduceSub,Nat.reduceAdd,w1,w2];have cy:=hH;have hH:=hH.cA;have cx:(ak .rw s0).bs=s0.bs:=rfl;generalize ak .rw s0=S2 at*;have Bs:Arg N S2 2 (cu gs) (gs.map a_):=Arg.pure (fun st=>cV st gs);refine qq<|qj fun K hK=>qm ?_;refine qm ?_;refine qe hK<|qq<|qj fun K hK=>qm ?_;refine qg ?_;refine qp (o:=2) ?_;refine ql hH aB ?_;refine qm ?_;refine qe hK<|qq<|qj fun K hK=>qm ?_;refine qg ?_;refine qp (o:=2) ?_;refine ql hH aB ?_;refine qA ?_;refine qg ?_;refine qp (o:=2) ?_;refine qT hH aB fun st hH=>?_;dsimp only[u2,u1,u3,u4,setMany,u5,u6,D.cells,Nat.reduceAdd,aT,a_,aq,aw] at hH;refine qe hK<|qq<|qq<|qj fun K hK=>qm ?_;refine qg ?_;refine qp (o:=2) ?_;refine ql hH aB ?_;refine qm ?_;refine qg ?_;refine qp (o:=0) ?_;refine ql hH aB ?_;refine qn ?_;simp only[List.length_map];refine qg ?_;refine qe hK ?_;refine af.cond (by rfl) (fun h0=>?_) (fun h0=>?_)<;>try simp only[decide_eq_true_eq,decide_eq_false_iff_not] at h0
 ·refine qq<|qj fun K hK=>qm ?_;refine qm ?_;obtain⟨_,st,aO,rfl,hH⟩:=cW (s:={s with i:=s.i+1}) s.i 4 (by omega) hH;refine qv aO ?_;refine qe hK<|qq<|qj fun K hK=>qm ?_;refine qm ?_;refine qe hK ?_;obtain⟨h1,h2,h3,h4⟩:=df (aW:=aW) (s:={s with i:=s.i+1}) (i:=s.i) (e:=4) he (by decide);refine af.ret ⟨rx,_,_,_,rfl,aj (rfl),?_⟩;exact⟨_,_,_,rfl,⟨h3,h4,by rw[h2];simp,by rw[h2];exact hi,.inl rfl,.inl h1⟩,cy.ax cx hH⟩
 ·obtain⟨g,hg⟩:∃g,gs[s.i+1]?=some g:=⟨gs[s.i+1]'(by omega),List.getElem?_eq_getElem _⟩
  have hO:(gs.map a_)[s.i+1]?=some (a_ g):=by rw[List.getElem?_map,hg];rfl
  have hlt:=bj hg;refine af.skip<|qq<|qq<|qj fun K hK=>qm ?_;refine qm ?_;refine qg ?_;refine qp (o:=2) ?_;refine ql hH aB ?_;obtain⟨_,st,aO,rfl,hH⟩:=w_ (s:={s with i:=s.i+1}) (s.i+1) hlt hH;refine qv aO ?_;refine qe hK ?_;dsimp only[aT] at hH;refine qc (fun hb=>?_) (fun hb=>?_)<;>try simp only[cs] at hb
  ·refine qq<|qj fun K hK=>qm ?_;refine qm ?_;refine qg ?_;refine qp (o:=2) ?_;refine ql hH aB ?_;obtain⟨_,st,aO,rfl,hH⟩:=cW (s:={s with i:=s.i+1}) (s.i+1) 4 (by omega) hH;refine qv aO ?_;refine qe hK<|qq<|qj fun K hK=>qm ?_;refine qm ?_;refine qe hK ?_;obtain⟨h1,h2,h3,h4⟩:=df (aW:=aW) (s:={s with i:=s.i+1}) (i:=s.i+1) (e:=4) he (by decide);refine af.ret ⟨rx,_,_,_,rfl,aj (rfl),?_⟩;exact⟨_,_,_,rfl,⟨h3,h4,by rw[h2];simp,by rw[h2];exact hi,.inl rfl,.inl h1⟩,cy.ax cx hH⟩
  ·refine af.skip<|qq<|qj fun K hK=>qm ?_;refine qg ?_;refine qp (o:=0) ?_;refine ql hH aB ?_;refine qm ?_;refine qg ?_;refine qp (o:=2) ?_;refine ql hH aB ?_;refine qr fun Uh PQ=>?_;refine qf (fo:=0) fun Ug PO=>?_;refine qR ?_;refine qm ?_;refine qe hK<|qq<|qj fun K hK=>qm ?_;refine qg ?_;refine qp (o:=2) ?_;refine ql hH aB ?_;refine qA ?_;refine qg ?_;refine qp (o:=2) ?_;refine qT hH aB fun st hH=>?_;dsimp only[u2,u1,u3,u4,setMany,u5,u6,D.cells,Nat.reduceAdd,aT,a_,aq,aw] at hH;refine qe hK<|qq<|qq<|qj fun K hK=>qm ?_;refine qe hK ?_
   have ek:∀(a:List Rg) (b:Bool),a.length≤8→a≠[]→Cd gs s {s with i:=s.i+1+1} (bF a) b:=fun a b h1 h2=>⟨rfl,rfl,by show s.i≤s.i+1+1;omega,by show s.i+1+1≤_;omega,.inr ⟨a,rfl,h1⟩,.inr ⟨he,by show s.i<s.i+1+1;omega,a,rfl,h1,h2⟩⟩
   have jt:∀(r:Int),0≤r→r<55296→(jW [(r,r)]).length≤8∧jW [(r,r)]≠[]:=by
    intro r h1 h2;obtain⟨_,h3,h4⟩:=lD (s0:=s0) (x:=bF [(r,r)]) (l:=[(r,r)]) (fh _ _) (by simp);exact⟨by simp at h3;omega,uG h1 h2 h4⟩
   refine af.block<|qq<|qj fun K hK=>qg ?_;refine qm ?_;refine qe hK ?_;refine af.cond (by rfl) (fun q1=>?_) (fun q1=>?_)<;>try simp only[beq_iff_eq,beq_eq_false_iff_ne,ne_eq] at q1
   ·refine qq<|qj fun K hK=>qv (iL 10) ?_;refine qm ?_;refine qm ?_;refine qe hK<|af.ret ⟨rx,_,_,_,rfl,aj (rfl),?_⟩;exact⟨_,_,_,rfl,ek _ _ (jt 10 (by decide) (by decide)).1 (jt 10 (by decide) (by decide)).2,cy.ax cx hH⟩
   ·refine qq<|qj fun K hK=>qg ?_;refine qm ?_;refine qe hK ?_;refine af.cond (by rfl) (fun q2=>?_) (fun q2=>?_)<;>try simp only[beq_iff_eq,beq_eq_false_iff_ne,ne_eq] at q2
    ·refine qq<|qj fun K hK=>qv (iL 9) ?_;refine qm ?_;refine qm ?_;refine qe hK<|af.ret ⟨rx,_,_,_,rfl,aj (rfl),?_⟩;exact⟨_,_,_,rfl,ek _ _ (jt 9 (by decide) (by decide)).1 (jt 9 (by decide) (by decide)).2,cy.ax cx hH⟩
    ·refine qq<|qj fun K hK=>qg ?_;refine qm ?_;refine qe hK ?_;refine af.cond (by rfl) (fun q3=>?_) (fun q3=>?_)<;>try simp only[beq_iff_eq,beq_eq_false_iff_ne,ne_eq] at q3
     ·refine qq<|qj fun K hK=>qv (iL 13) ?_;refine qm ?_;refine qm ?_;refine qe hK<|af.ret ⟨rx,_,_,_,rfl,aj (rfl),?_⟩;exact⟨_,_,_,rfl,ek _ _ (jt 13 (by decide) (by decide)).1 (jt 13 (by decide) (by decide)).2,cy.ax cx hH⟩
     ·refine qq<|qj fun K hK=>qg ?_;refine qm ?_;refine qe hK ?_;refine af.cond (by rfl) (fun q4=>?_) (fun q4=>?_)<;>try simp only[beq_iff_eq,beq_eq_false_iff_ne,ne_eq] at q4
      ·refine qq<|qj fun K hK=>?_;refine ab.fX (qs:=[(0,_),(1,_)]) rfl rfl rfl rfl ⟨rfl,(ev rfl),(by rfl),rfl,(ev rfl),(by rfl),trivial⟩ (by intro q hq;simp only[List.mem_cons,List.not_mem_nil,or_false] at hq;rcases hq with rfl|rfl<;>exact⟨rfl,by exact Nat.le_of_ble_eq_true rfl⟩) (by show List.foldl _ [_,_] _=_;dsimp only[List.foldl_cons,List.foldl_nil,u2,u1]<;>rfl) (ae rfl _) ?_;refine qh (s:=2) (vs:=[_]) hH fun k73 st VN hH=>?_;obtain⟨aO,hl,GI⟩:=lD (l:=[(48,57)]) (hH.rows aB) (by simp);refine qv aO ?_;refine qm ?_;refine qm ?_;refine qe hK<|af.ret ⟨rx,_,_,_,rfl,aj (rfl),?_⟩;exact⟨_,_,_,rfl,ek _ _ (by simp at hl;omega) (sU (r:=48) (by decide) (by decide) ⟨_,List.mem_cons_self ..,by decide,by decide⟩ GI),cy.ax cx (hH.drop 1)⟩
      ·refine qq<|qj fun K hK=>qg ?_;refine qm ?_;refine qe hK ?_;refine af.cond (by rfl) (fun q5=>?_) (fun q5=>?_)<;>try simp only[beq_iff_eq,beq_eq_false_iff_ne,ne_eq] at q5
       ·refine qq<|qj fun K hK=>?_;refine ab.fX (qs:=[(0,_),(1,_)]) rfl rfl rfl rfl ⟨rfl,(ev rfl),(by rfl),rfl,(ev rfl),(by rfl),trivial⟩ (by intro q hq;simp only[List.mem_cons,List.not_mem_nil,or_false] at hq;rcases hq with rfl|rfl<;>exact⟨rfl,by exact Nat.le_of_ble_eq_true rfl⟩) (by show List.foldl _ [_,_] _=_;dsimp only[List.foldl_cons,List.foldl_nil,u2,u1]<;>rfl) (ae rfl _) ?_;refine ab.fX (qs:=[(0,_),(1,_)]) rfl rfl rfl rfl ⟨rfl,(ev rfl),(by rfl),rfl,(ev rfl),(by rfl),trivial⟩ (by intro q hq;simp only[List.mem_cons,List.not_mem_nil,or_false] at hq;rcases hq with rfl|rfl<;>exact⟨rfl,by exact Nat.le_of_ble_eq_true rfl⟩) (by show List.foldl _ [_,_] _=_;dsimp only[List.foldl_cons,List.foldl_nil,u2,u1]<;>rfl) (ae rfl _) ?_;refine ab.fX (qs:=[(0,_),(1,_)]) rfl rfl rfl rfl ⟨rfl,(ev rfl),(by rfl),rfl,(ev rfl),(by rfl),trivial⟩ (by intro q hq;simp only[List.mem_cons,List.not_mem_nil,or_false] at hq;rcases hq with rfl|rfl<;>exact⟨rfl,by exact Nat.le_of_ble_eq_true rfl⟩) (by show List.foldl _ [_,_] _=_;dsimp only[List.foldl_cons,List.foldl_nil,u2,u1]<;>rfl) (ae rfl _) ?_;refine qh (s:=2) (vs:=[_,_,_]) hH fun k80 st Qf hH=>?_;obtain⟨aO,hl,GI⟩:=lD (l:=[(9,10),(13,13),(32,32)]) (hH.rows aB) (by simp);refine qv aO ?_;refine qm ?_;refine qm ?_;refine qe hK<|af.ret ⟨rx,_,_,_,rfl,aj (rfl),?_⟩;exact⟨_,_,_,rfl,ek _ _ (by simp at hl;omega) (sU (r:=9) (by decide) (by decide) ⟨_,List.mem_cons_self ..,by decide,by decide⟩ GI),cy.ax cx (hH.drop 1)⟩
       ·refine qq<|qj fun K hK=>qg ?_;refine qm ?_;refine qe hK ?_;refine af.cond (by rfl) (fun q6=>?_) (fun q6=>?_)<;>try simp only[beq_iff_eq,beq_eq_false_iff_ne,ne_eq] at q6
        ·refine qq<|qj fun K hK=>?_;refine ab.fX (qs:=[(0,_),(1,_)]) rfl rfl rfl rfl ⟨rfl,(ev rfl),(by rfl),rfl,(ev rfl),(by rfl),trivial⟩ (by intro q hq;simp only[List.mem_cons,List.not_mem_nil,or_false] at hq;rcases hq with rfl|rfl<;>exact⟨rfl,by exact Nat.le_of_ble_eq_true rfl⟩) (by show List.foldl _ [_,_] _=_;dsimp only[List.foldl_cons,List.foldl_nil,u2,u1]<;>rfl) (ae rfl _) ?_;refine ab.fX (qs:=[(0,_),(1,_)]) rfl rfl rfl rfl ⟨rfl,(ev rfl),(by rfl),rfl,(ev rfl),(by rfl),trivial⟩ (by intro q hq;simp only[List.mem_cons,List.not_mem_nil,or_false] at hq;rcases hq with rfl|rfl<;>exact⟨rfl,by exact Nat.le_of_ble_eq_true rfl⟩) (by show List.foldl _ [_,_] _=_;dsimp only[List.foldl_cons,List.foldl_nil,u2,u1]<;>rfl) (ae rfl _) ?_;refine ab.fX (qs:=[(0,_),(1,_)]) rfl rfl rfl rfl ⟨rfl,(ev rfl),(by rfl),rfl,(ev rfl),(by rfl),trivial⟩ (by intro q hq;simp only[List.mem_cons,List.not_mem_nil,or_false] at hq;rcases hq with rfl|rfl<;>exact⟨rfl,by exact Nat.le_of_ble_eq_true rfl⟩) (by show List.foldl _ [_,_] _=_;dsimp only[List.foldl_cons,List.foldl_nil,u2,u1]<;>rfl) (ae rfl _) ?_;refine ab.fX (qs:=[(0,_),(1,_)]) rfl rfl rfl rfl ⟨rfl,(ev rfl),(by rfl),rfl,(ev rfl),(by rfl),trivial⟩ (by intro q hq;simp only[List.mem_cons,List.not_mem_nil,or_false] at hq;rcases hq with rfl|rfl<;>exact⟨rfl,by exact Nat.le_of_ble_eq_true rfl⟩) (by show List.foldl _ [_,_] _=_;dsimp only[List.foldl_cons,List.foldl_nil,u2,u1]<;>rfl) (ae rfl _) ?_;refine qh (s:=2) (vs:=[_,_,_,_]) hH fun k88 st Nc hH=>?_;obtain⟨aO,hl,GI⟩:=lD (l:=[(48,57),(65,90),(95,95),(97,122)]) (hH.rows aB) (by simp);refine qv aO ?_;refine qm ?_;refine qm ?_;refine qe hK<|af.ret ⟨rx,_,_,_,rfl,aj (rfl),?_⟩;exact⟨_,_,_,rfl,ek _ _ (by simp at hl;omega) (sU (r:=48) (by decide) (by decide) ⟨_,List.mem_cons_self ..,by decide,by decide⟩ GI),cy.ax cx (hH.drop 1)⟩
        ·refine af.skip<|qq<|qq<|qj fun K hK=>qm ?_;refine qv (Fy _) ?_;refine qg ?_;refine qe hK ?_;refine af.cond (by rfl) (fun q7=>?_) (fun q7=>?_)<;>try simp only[decide_eq_true_eq,decide_eq_false_iff_not,Bool.not_eq_true',Bool.not_eq_false'] at q7
         ·refine qq<|qj fun K hK=>qm ?_;refine qm ?_;obtain⟨_,st,aO,rfl,hH⟩:=cW (s:={s with i:=s.i+1+1}) s.i 4 (by omega) hH;refine qv aO ?_;refine qe hK<|qq<|qj fun K hK=>qm ?_;refine qm ?_;refine qe hK ?_;obtain⟨h1,h2,h3,h4⟩:=df (aW:=aW) (s:={s with i:=s.i+1+1}) (i:=s.i) (e:=4) he (by decide);refine af.ret ⟨rx,_,_,_,rfl,aj (rfl),?_⟩;exact⟨_,_,_,rfl,⟨h3,h4,by rw[h2];show s.i≤s.i+1+1;omega,by rw[h2];show s.i+1+1≤_;omega,.inl rfl,.inl h1⟩,cy.ax cx hH⟩
         ·refine af.skip<|qq<|qj fun K hK=>qm ?_;refine qv (iL _) ?_;refine qm ?_;refine qm ?_;refine qe hK ?_;have hm:=jt ((g.1:Nat):Int) (by omega) (by omega);refine af.ret ⟨rx,_,_,_,rfl,aj (rfl),?_⟩;exact⟨_,_,_,rfl,ek _ _ hm.1 hm.2,cy.ax cx hH⟩
def aN (fr:Go.V.Fr) (k:Nat):Go.V.D:=Go.V.nth .bw fr.loc k
def br (b:Bool):List D:=[.bool b]
theorem pH {l:List Bool} {i:Nat} {q:Bool} (h:l[i]?=some q):(l.map br)[i]?=some (br q):=by rw[List.getElem?_map,h];rfl
theorem pG (l:List Bool):∀e∈l.map br,∀d∈e,cw d=true:=by
 intro e he d hd;obtain⟨x,_,rfl⟩:=List.mem_map.1 he;simp only[br,List.mem_cons,List.not_mem_nil,or_false] at hd;subst hd;rfl
theorem B7 (l:List Bool):∀e∈l.map br,e.length=1:=by
 intro e he;obtain⟨x,_,rfl⟩:=List.mem_map.1 he;rfl
def w9 (l:List Bool):D:=.sl ((l.map br).map (jK 1))
theorem zI (l:List Bool):gY (w9 l) 1 (l.map br):=gY.frozen (B7 l) (pG l)
theorem mM (l:List Int):∀e∈l.map aq,∀d∈e,cw d=true:=by
 intro e he d hd;obtain⟨x,_,rfl⟩:=List.mem_map.1 he;simp only[aq,List.mem_cons,List.not_mem_nil,or_false] at hd;subst hd;rfl
theorem FE (l:List Int):∀e∈l.map aq,e.length=1:=by
 intro e he;obtain⟨x,_,rfl⟩:=List.mem_map.1 he;rfl
def Bd (l:List Int):D:=.sl ((l.map aq).map (jK 1))
theorem uL (l:List Int):gY (Bd l) 1 (l.map aq):=gY.frozen (FE l) (mM l)
def cF (pc:Nat) (i:aK):List Int:=
 if i.op=2 then[i.x,i.y] else if i.op=3 then[i.x] else if i.op=7 then[] else[((pc+1:Nat):Int)]
def iy (code:List aK):Prop:=∀pc i,code[pc]?=some i→∀v∈cF pc i,0≤v∧v<code.length
theorem tQ {n ns pc:Nat} {i:aK} (h:cJ n ns pc i=true):∀v∈cF pc i,0≤v∧v<n:=by
 intro v hv
 have dK:∀a b:Int,o5 a b=true→0≤a∧a<b:=fun a b h=>by
  unfold o5 at h;simp only[Bool.and_eq_true,decide_eq_true_eq] at h;exact⟨h.1,h.2⟩
 unfold cJ at h;unfold cF at hv
 split at h
 ·rename_i h1;rw[if_neg (by omega),if_neg (by omega),if_neg (by omega)] at hv;simp only[Bool.and_eq_true,decide_eq_true_eq] at h;simp only[List.mem_cons,List.not_mem_nil,or_false] at hv;subst hv;omega
 ·simp only[Bool.and_eq_true] at h;obtain⟨_,h⟩:=h
  split at h
  ·rename_i h2;rw[if_pos h2] at hv;simp only[Bool.and_eq_true] at h;simp only[List.mem_cons,List.not_mem_nil,or_false] at hv
   rcases hv with rfl|rfl
   ·exact dK _ _ h.1
   ·exact dK _ _ h.2
  ·rename_i h2;rw[if_neg h2] at hv;simp only[Bool.and_eq_true] at h;obtain⟨_,h⟩:=h
   split at h
   ·rename_i h3;rw[if_pos h3] at hv;simp only[List.mem_cons,List.not_mem_nil,or_false] at hv;subst hv;exact dK _ _ h
   ·rename_i h3;rw[if_neg h3] at hv
    split at h
    ·rename_i h4;rw[if_neg (by omega)] at hv;simp only[Bool.and_eq_true,decide_eq_true_eq] at h;simp only[List.mem_cons,List.not_mem_nil,or_false] at hv;subst hv;omega
    ·split at h
     ·rename_i h5;rw[if_neg (by omega)] at hv;simp only[Bool.and_eq_true,decide_eq_true_eq] at h;simp only[List.mem_cons,List.not_mem_nil,or_false] at hv;subst hv;omega
     ·split at h
      ·rename_i h7;rw[if_pos h7] at hv;cases hv
      ·cases h
def wS (code:List aK):Nat→List Bool→List Int→List Bool
 |0,seen,_=>seen
 |_+1,seen,[]=>seen
 |f+1,seen,v::cg=>match seen[v.toNat]? with
  |some false=>match code[v.toNat]? with
   |some i=>wS code f (seen.set v.toNat true) ((cF v.toNat i).reverse++cg)
   |none=>seen
  |_=>wS code f seen cg
def cv (code:List aK) (start:Int):List Bool:=wS code (3*code.length+1) (List.replicate code.length false) [start]
theorem tq (code:List aK):∀(f:Nat) (seen:List Bool) (cg:List Int),(wS code f seen cg).length=seen.length
 |0,_,_=>rfl
 |_+1,_,[]=>rfl
 |f+1,seen,v::cg=>by
  unfold wS
  split
  ·split
   ·rw[tq code f];simp
   ·rfl
  ·exact tq code f seen cg
theorem vT (code:List aK) (s:Int):(cv code s).length=code.length:=by
 unfold cv;rw[tq];simp
theorem count_set {seen:List Bool} {k:Nat} (h:seen[k]?=some false):(seen.set k true).count false+1=seen.count false:=by
 induction seen generalizing k with
 |nil=>simp at h
 |cons b l ih=>
  cases k with
  |zero=>simp at h;subst h;simp
  |succ k=>
   have:=ih (k:=k) (by simpa using h);simp only[List.set_cons_succ,List.count_cons];omega
theorem uB (pc:Nat) (i:aK):(cF pc i).length≤2:=by
 unfold cF;split
 ·simp
 ·split
  ·simp
  ·split<;>simp
theorem Aj (v:Int) (r:List Int):((v::r).reverse.map aq)[r.length]?=some (aq v):=by
 rw[List.getElem?_map,List.reverse_cons,List.getElem?_append_right (by simp)];simp
theorem CA (v:Int) (r:List Int):(((v::r).reverse.map aq).take r.length).drop 0=r.reverse.map aq:=by
 rw[List.reverse_cons,List.map_append,List.drop_zero,List.take_left' (by simp)]
theorem F7 {s0:St} {cd:D} {code:List aK} {start:Int} (tF:gY cd 4 (code.map aG)) (hlen:code.length≤1048576) (hcl:iy code) (c8:0≤start∧start<code.length):Ev pv 54 [cd,.int .i64 start] s0 (w9 (cv code start)) s0:=by
 refine Ev.pW rfl RD rfl rfl rfl ?_;dsimp only[u3,u4,List.length,Nat.reduceSub,Nat.reduceAdd,w1,w2];obtain⟨cM,hF,hH⟩:=ri s0;generalize ak .ro s0=S at*;have hc:=tF.arg s0.bs.length S;refine qq<|qj fun K hK=>qm ?_;refine qe hK<|qq<|qj fun K hK=>qm ?_;refine qn ?_;simp only[List.length_map];refine ab.uT (s:=1) hH rfl rfl rfl rfl rfl rfl rfl rfl (Nat.le_of_ble_eq_true rfl) (by omega) (fun _=>by dsimp only[Fr.put,u1,u2]<;>rfl) (fun k11 st KL hH=>?_);refine qm ?_;refine qe hK<|qq<|qj fun K hK=>qm ?_;refine qh (s:=1) (vs:=[_]) hH fun k13 st Bp hH=>?_;refine qm ?_;refine qe hK<|qq<|af.block<|af.loop (fun mm fr st=>∃(y z:D) (seen:List Bool) (cg:List Int),fr.clean=⟨41,[cd,aN fr 1,aN fr 2,aN fr 3,.nul,y,z,aN fr 7,aN fr 8,aN fr 9,aN fr 10,aN fr 11,aN fr 12,aN fr 13,aN fr 14,aN fr 15,aN fr 16,aN fr 17,aN fr 18,aN fr 19,aN fr 20,aN fr 21,aN fr 22,aN fr 23,aN fr 24,aN fr 25,aN fr 26,aN fr 27,aN fr 28,aN fr 29,aN fr 30,aN fr 31,aN fr 32,aN fr 33,aN fr 34,aN fr 35,aN fr 36,aN fr 37,aN fr 38,aN fr 39,aN fr 40],[]⟩∧Has s0.bs.length S st [.aL z 1 (cg.reverse.map aq),.aL y 1 (seen.map br)]∧(wS code mm seen cg=cv code start)∧(3*seen.count false+cg.length≤mm)∧(seen.length=code.length)∧(∀v∈cg,0≤v∧v<(code.length:Int))∧(mm≤3*code.length+1)) (3*code.length+1) ?_ ?_
 ·exact⟨_,_,List.replicate code.length false,[start],rfl,(by rw[List.map_replicate];exact hH),rfl,by simp,by simp,by simpa using c8,by omega⟩
 rintro mm fr st ⟨y,z,seen,cg,hfr,hH,hd,hm,jb,hsk,vA⟩;rw[hfr];clear hfr;generalize aN fr=ee;clear fr
 rcases cg with _|⟨v,cg⟩
 ·refine qq<|qq<|qj fun K hK=>qm ?_;refine qn ?_ (hR:=hH.rows aB);simp only[List.length_map,List.length_nil,List.length_reverse];refine qg ?_;refine qe hK<|af.cond (v:=false) (by dsimp only[Fr.ev,Fr.get,nth,V.look];rfl) (fun h=>by cases h) (fun _=>?_);refine af.exit<|qq<|qj fun K hK=>qm ?_;refine qm ?_;refine qe hK ?_;have ek:seen=cv code start:=by rw[←hd];cases mm<;>rfl
  rw[←ek];refine af.ret ⟨rx,_,rfl,rl cM hH ?_⟩;exact hH.freeze b4 (pG _) (n:=15) (by decide)
 ·have hv:=hsk v (List.mem_cons_self ..);obtain⟨k,rfl⟩:=Int.eq_ofNat_of_zero_le hv.1;have hk:k<code.length:=by omega
  simp only[List.length_cons] at hm
  obtain⟨mm,rfl⟩:∃m',mm=m'+1:=⟨mm-1,by omega⟩
  obtain⟨b,hb⟩:∃b,seen[k]?=some b:=⟨seen[k]'(by omega),List.getElem?_eq_getElem _⟩
  obtain⟨i,hi⟩:∃i,code[k]?=some i:=⟨code[k]'(by omega),List.getElem?_eq_getElem _⟩
  have hO:=Aj (k:Int) cg;have mP:=pH hb;have U8:=gz hi;refine qq<|qq<|qj fun K hK=>qm ?_;refine qn ?_ (hR:=hH.rows aB);simp only[List.length_map,List.length_cons,List.length_reverse];refine qg ?_;refine qe hK<|qD rfl (by simp) ?_;refine af.skip<|af.block<|qq<|qj fun K hK=>qm ?_;refine qm ?_;refine qn ?_ (hR:=hH.rows aB);simp only[List.length_map,List.length_cons,List.length_reverse];refine ab.lA (z:=((cg.length:Nat):Int)) rfl (ev rfl) (ev rfl) (by(try simp only[List.length_reverse,List.length_cons,List.length_nil,List.length_append,List.length_map,List.length_set]);rw[wrap_i64 (by omega) (by omega)]<;>omega) (by dsimp only[Fr.put,u1,u2]<;>rfl) ?_;refine qi hH aB fun OM Ky=>?_;refine qo hH aB ?_;refine qm ?_;refine qe hK<|qq<|qj fun K hK=>qm ?_;refine qm ?_;refine qn ?_ (hR:=hH.rows aB);simp only[List.length_map,List.length_cons,List.length_reverse];refine ab.lA (z:=((cg.length:Nat):Int)) rfl (ev rfl) (ev rfl) (by(try simp only[List.length_reverse,List.length_cons,List.length_nil,List.length_append,List.length_map,List.length_set]);rw[wrap_i64 (by omega) (by omega)]<;>omega) (by dsimp only[Fr.put,u1,u2]<;>rfl) ?_;refine ab.sD hH rfl (ev rfl) (by exact aB) rfl rfl (iZ (by simp only[List.length_map,List.length_reverse,List.length_cons,List.length_append,List.length_nil,List.length_take,List.length_drop,List.length_set,List.length_replicate];omega)) ⟨(by omega),(by simp only[List.length_map,List.length_reverse,List.length_cons,List.length_append,List.length_nil,List.length_take,List.length_drop,List.length_set,List.length_replicate];omega)⟩ (fun _=>by dsimp only[Fr.put,u1,u2]<;>rfl) (fun W8 hH=>?_);refine qm ?_;refine qe hK ?_;dsimp only[u2] at hH;rw[CA] at hH;have c8:∀w∈cg,0≤w∧w<(code.length:Int):=fun w hw=>hsk w (List.mem_cons_of_mem _ hw);refine qq<|qq<|qj fun K hK=>qm ?_;refine qm ?_;refine qi hH b4 fun SM MW=>?_;refine qo hH b4 ?_;refine qe hK ?_
  cases b with
  |true=>
   refine qB ?_;refine af.exit ?_;simp only[wS,Int.toNat_natCast,hb] at hd;exact⟨mm,by omega,⟨_,_,seen,cg,rfl,hH,hd,by omega,jb,c8,by omega⟩⟩
  |false=>
   have wG:=count_set hb;have gi:(seen.set k true).map br=(seen.map br).set k [.bool true]:=by rw[List.map_set];rfl
   simp only[wS,Int.toNat_natCast,hb,hi] at hd;have P_:=hcl k i hi;have Qb:=uB k i
   have Pk:∀w∈(cF k i).reverse++cg,0≤w∧w<(code.length:Int):=fun w hw=>by
    rcases List.mem_append.1 hw with hw|hw
    ·exact P_ w (List.mem_reverse.1 hw)
    ·exact c8 w hw
   have Pw:(((cF k i).reverse++cg).reverse).map aq=cg.reverse.map aq++(cF k i).map aq:=by
    rw[List.reverse_append,List.reverse_reverse,List.map_append]
   refine qC ?_;refine af.skip<|qq<|qj fun K hK=>qm ?_;refine qm ?_;refine qi hH b4 fun XC Vq=>?_;refine ab.kX hH rfl (ev rfl) (ev rfl) (by assumption) rfl rfl (by exact b4) (by assumption) (Nat.le_of_ble_eq_true rfl) (by exact .inl hF) (fun st hH=>?_);dsimp only[u2,u1,u3,u4,setMany,u5,u6,D.cells,Nat.reduceAdd,aG,aq,br] at hH;refine qe hK<|qq<|qj fun K hK=>qm ?_;refine qm ?_;refine qr fun Un PW=>?_;refine ab.eA rfl (ev rfl) (by assumption) rfl (by dsimp only[Fr.put,u1,u2]<;>rfl) ?_;refine qa hH fun k8 st Nd hH=>?_;refine qS hH aB fun st hH=>?_;dsimp only[u2,u1,u3,u4,setMany,u5,u6,D.cells,Nat.reduceAdd,aG,aq,br] at hH;refine qe hK<|qq<|qj fun K hK=>qp (o:=0) ?_;refine ql hH aB ?_;refine qe hK<|af.merge (fun fr st=>∃(z:D) (tmp:List (Nat×D)),fr=⟨41,[cd,aN fr 1,aN fr 2,aN fr 3,.nul,y,z,aN fr 7,aN fr 8,aN fr 9,aN fr 10,aN fr 11,aN fr 12,aN fr 13,aN fr 14,aN fr 15,aN fr 16,aN fr 17,aN fr 18,aN fr 19,aN fr 20,aN fr 21,aN fr 22,aN fr 23,aN fr 24,aN fr 25,aN fr 26,aN fr 27,aN fr 28,aN fr 29,aN fr 30,aN fr 31,aN fr 32,aN fr 33,aN fr 34,aN fr 35,aN fr 36,aN fr 37,aN fr 38,aN fr 39,aN fr 40],tmp⟩∧Has s0.bs.length S st [.aL z 1 (cg.reverse.map aq++(cF k i).map aq),.aL y 1 ((seen.map br).set k [.bool true])]) ?_ ?_
   ·refine af.block<|qq<|qj fun K hK=>qg ?_;refine qm ?_;refine qe hK ?_;refine af.cond (by rfl) (fun h2=>?_) (fun h2=>?_)<;>try simp only[beq_iff_eq,beq_eq_false_iff_ne,ne_eq] at h2
    ·have:cF k i=[i.x,i.y]:=by unfold cF;rw[if_pos h2]
     rw[this];refine qj fun K hK=>qm ?_;refine qp (o:=1) ?_;refine ql hH aB ?_;refine qp (o:=2) ?_;refine ql hH aB ?_;refine qh (s:=1) (vs:=[_,_]) hH fun k53 st VS hH=>?_;refine ab.bZ (s:=1) hH rfl (ev rfl) (ev rfl) (by exact cU) (by exact hH.rows (by exact aB)) rfl rfl rfl rfl rfl rfl rfl ⟨(Nat.le_of_ble_eq_true rfl),(Nat.le_of_ble_eq_true rfl)⟩ (fun _=>(ae rfl _)) (by simp only[List.length_cons,List.length_nil,List.length_map,List.length_reverse]<;>omega) (by exact .inl hF) (fun Xb st hH=>?_);dsimp only[u2,u1,u3,u4,setMany,u5,u6,D.cells,Nat.reduceAdd,aG,aq,br] at hH;refine qm ?_;refine qe hK ?_;exact⟨_,_,rfl,(by have:=hH.drop 2;exact this)⟩
    ·refine qq<|qj fun K hK=>qg ?_;refine qm ?_;refine qe hK ?_;refine af.cond (by rfl) (fun h3=>?_) (fun h3=>?_)<;>try simp only[beq_iff_eq,beq_eq_false_iff_ne,ne_eq] at h3
     ·have:cF k i=[i.x]:=by unfold cF;rw[if_neg h2,if_pos h3]
      rw[this];refine qj fun K hK=>qm ?_;refine qp (o:=1) ?_;refine ql hH aB ?_;refine qh (s:=1) (vs:=[_]) hH fun k60 st VP hH=>?_;refine ab.bZ (s:=1) hH rfl (ev rfl) (ev rfl) (by exact cU) (by exact hH.rows (by exact aB)) rfl rfl rfl rfl rfl rfl rfl ⟨(Nat.le_of_ble_eq_true rfl),(Nat.le_of_ble_eq_true rfl)⟩ (fun _=>(ae rfl _)) (by simp only[List.length_cons,List.length_nil,List.length_map,List.length_reverse]<;>omega) (by exact .inl hF) (fun Xa st hH=>?_);dsimp only[u2,u1,u3,u4,setMany,u5,u6,D.cells,Nat.reduceAdd,aG,aq,br] at hH;refine qm ?_;refine qe hK ?_;exact⟨_,_,rfl,(by have:=hH.drop 2;exact this)⟩
     ·refine qq<|qj fun K hK=>qg ?_;refine qm ?_;refine qe hK ?_;refine af.cond (by rfl) (fun h7=>?_) (fun h7=>?_)<;>try simp only[beq_iff_eq,beq_eq_false_iff_ne,ne_eq] at h7
      ·have:cF k i=[]:=by unfold cF;rw[if_neg h2,if_neg h3,if_pos h7]
       rw[this,List.map_nil,List.append_nil];refine af.skip ?_;exact⟨_,_,rfl,(by have:=hH.drop 1;exact this)⟩
      ·have:cF k i=[((k+1:Nat):Int)]:=by unfold cF;rw[if_neg h2,if_neg h3,if_neg h7]
       rw[this];refine qj fun K hK=>qm ?_;refine qm ?_;refine qA ?_;refine qh (s:=1) (vs:=[_]) hH fun k44 st VY hH=>?_;refine ab.bZ (s:=1) hH rfl (ev rfl) (ev rfl) (by exact cU) (by exact hH.rows (by exact aB)) rfl rfl rfl rfl rfl rfl rfl ⟨(Nat.le_of_ble_eq_true rfl),(Nat.le_of_ble_eq_true rfl)⟩ (fun _=>(ae rfl _)) (by simp only[List.length_cons,List.length_nil,List.length_map,List.length_reverse]<;>omega) (by exact .inl hF) (fun Xc st hH=>?_);dsimp only[u2,u1,u3,u4,setMany,u5,u6,D.cells,Nat.reduceAdd,aG,aq,br] at hH;refine qm ?_;refine qe hK ?_;exact⟨_,_,rfl,(by have:=hH.drop 2;exact this)⟩
   ·rintro fr st ⟨z,tmp,hfr,hH⟩;rw[hfr];clear hfr;generalize aN fr=ee;clear fr;exact⟨mm,by omega,⟨y,z,seen.set k true,(cF k i).reverse++cg,rfl,(by rw[Pw,gi];exact hH),hd,by simp only[List.length_append,List.length_reverse];omega,by simp only[List.length_set];exact jb,Pk,by omega⟩⟩
def au (fr:Go.V.Fr) (k:Nat):Go.V.D:=Go.V.nth .bw fr.loc k
noncomputable def dec (q:Prop):Bool:=@decide q (Classical.propDecidable q)
theorem lU {q:Prop} (h:q):dec q=true:=@decide_eq_true q (Classical.propDecidable q) h
theorem pA {q:Prop} (h:¬q):dec q=false:=@decide_eq_false q (Classical.propDecidable q) h
def oI (p:Pg) (r:Nat) (s:Int) (n:Nat):Prop:=∀pc i,pc<n→(cv p.code s)[pc]?=some true→p.code[pc]?=some i→i.op=7→i.x=(r:Int)
structure bW (p:Pg):Prop where
 cl:p.code.length≤400
 sl:p.az.length≤8
 sh:∀pc i,p.code[pc]?=some i→cJ p.code.length p.az.length pc i=true
 st:∀v∈p.az,0≤v∧v<(p.code.length:Int)
 fo:∀r s,p.az[r]?=some s→oI p r s p.code.length
theorem mU {p:Pg} (h:∀pc i,p.code[pc]?=some i→cJ p.code.length p.az.length pc i=true):iy p.code:=
 fun pc i hi=>tQ (h pc i hi)
theorem bW.closed {p:Pg} (h:bW p):iy p.code:=mU h.sh
theorem dK {a b:Int}:o5 a b=true↔0≤a∧a<b:=by
 unfold o5;simp only[Bool.and_eq_true,decide_eq_true_eq,ge_iff_le]
theorem kQ {s0:St} {p:Pg} (hp:p.ok):Ev pv 33 [p.d] s0 (.bool (dec (bW p))) s0:=by
 refine Ev.pW rfl RV rfl rfl rfl ?_;dsimp only[u3,u4,List.length,Nat.reduceSub,Nat.reduceAdd,w1,w2];obtain⟨cM,hF,hH⟩:=ri s0;generalize ak .ro s0=S at*;have hc:=hp.c.arg s0.bs.length S;have hs:=hp.s.arg s0.bs.length S;have tF:=hp.c;have hlen:=hp.cl;have MG:=hp.sl;unfold Pg.d;refine qq<|qj fun K hK=>qb hH fun k1 st o9 hH=>?_;dsimp only[u2,u1,u3,u4,setMany,u5,u6,D.cells,Nat.reduceAdd,Pg.cs,aG,aq,br] at hH;refine qm ?_;refine qe hK<|qq<|qq<|af.ln 17 (.bool (decide ((p.code.length:Int)>400)||decide ((p.az.length:Int)>8))) [8,9,10,11,12,13,14,15,16] ?_ (fun ff tmp=>?_)
 ·refine qp (o:=0) ?_;refine ql hH aB ?_;refine qn ?_;simp only[List.length_map];refine qg ?_;refine qm ?_;refine ab.two 12 rfl (fun jw=>?_) (fun jw=>?_)
  ·refine qs ?_ (hg:=wn jw);refine qs ?_ (hg:=wn jw);refine qs ?_ (hg:=wn jw);refine qs ?_ (hg:=wn jw);refine qt jw ?_;refine ab.nil (aY ?_);dsimp only[aM,List.foldl,nth,u2,u1];dsimp only[Fr.aF,Fr.put,Fr.clean,Fr.ev,Fr.get,nth,V.look,u1,u2,v1,v2,v3,v4,v5,v6,v7,List.length,u3,u4,Nat.reduceSub,Nat.reduceAdd,List.map]
   all_goals(simp[jw];done)
  ·refine qp (o:=1) ?_ (hg:=wi jw);refine ql hH aB ?_ (hg:=wi jw);refine qn ?_ (hg:=wi jw);simp only[List.length_map];refine qg ?_ (hg:=wi jw);refine qu jw ?_;refine ab.nil (aY ?_);dsimp only[aM,List.foldl,nth,u2,u1];dsimp only[Fr.aF,Fr.put,Fr.clean,Fr.ev,Fr.get,nth,V.look,u1,u2,v1,v2,v3,v4,v5,v6,v7,List.length,u3,u4,Nat.reduceSub,Nat.reduceAdd,List.map]
   all_goals(simp[jw];done)
 dsimp only[aM,List.foldl,nth,u2,u1];generalize ff 8=e8;generalize ff 9=e9;generalize ff 10=Yc;generalize ff 11=Yb;generalize ff 12=Ya;generalize ff 13=X';generalize ff 14=X_;generalize ff 15=W5;generalize ff 16=W4;refine qc (fun h0=>?_) (fun h0=>?_)<;>try simp only[cs] at h0
 ·rw[pA (fun h=>by have:=h.cl;have:=h.sl;simp at h0;omega)];refine qq<|qj fun K hK=>qm ?_;refine qe hK<|af.ret ⟨rx,_,rfl,rl cM hH (rfl)⟩
 ·have h0:p.code.length≤400∧p.az.length≤8:=by simp at h0;omega
  refine af.skip<|qq<|qq<|qj fun K hK=>qp (o:=0) ?_;refine ql hH aB ?_;refine qn ?_;simp only[List.length_map];refine qm ?_;refine qe hK<|af.block<|af.loop (fun mm fr st=>∃(i:Nat),fr.clean=⟨49,[au fr 0,.ptr k1 0 0,.bool false,au fr 3,au fr 4,au fr 5,au fr 6,au fr 7,au fr 8,au fr 9,au fr 10,au fr 11,au fr 12,au fr 13,au fr 14,au fr 15,au fr 16,au fr 17,au fr 18,au fr 19,.int .i64 (p.code.length:Nat),.int .i64 (i:Nat),au fr 22,au fr 23,au fr 24,au fr 25,au fr 26,au fr 27,au fr 28,au fr 29,au fr 30,au fr 31,au fr 32,au fr 33,au fr 34,au fr 35,au fr 36,au fr 37,au fr 38,au fr 39,au fr 40,au fr 41,au fr 42,au fr 43,au fr 44,au fr 45,au fr 46,au fr 47,au fr 48],[]⟩∧Has s0.bs.length S st [.box k1 (.mem 0 false [p.cd,p.sd])]∧(i+mm=p.code.length)∧(∀pc q,pc<i→p.code[pc]?=some q→cJ p.code.length p.az.length pc q=true)) (p.code.length) ?_ ?_
  ·exact⟨0,rfl,hH,by omega,by intro pc q h;omega⟩
  rintro mm fr st ⟨i,hfr,hH,hi,hsh⟩;rw[hfr];clear hfr;generalize au fr=ee;clear fr;refine qq<|qj fun K hK=>qg ?_;refine qe hK<|qq ?_;refine af.cond (by rfl) (fun h1=>?_) (fun h1=>?_)<;>try simp only[decide_eq_true_eq,decide_eq_false_iff_not] at h1
  ·refine af.skip ?_
   obtain⟨q,hq⟩:∃q,p.code[i]?=some q:=⟨p.code[i]'(by omega),List.getElem?_eq_getElem _⟩
   refine qq<|af.block<|qq<|qj fun K hK=>qm ?_;refine qm ?_;refine qe hK<|qq<|qj fun K hK=>?_;refine ab.bf (m:=2) hH rfl (ev rfl) (by exact aB) (by dsimp only[List.drop_succ_cons,List.drop_zero,List.take_succ_cons,List.take_zero,Pg.cs,aG,aq,br]<;>rfl) rfl rfl (by dsimp only[Fr.put,u1,u2]<;>rfl) ?_;refine qm ?_;refine qv (yJ (p:=p) hp hq) ?_;refine qg ?_;refine qe hK ?_;refine af.cond (by rfl) (fun h2=>?_) (fun h2=>?_)<;>try simp only[Bool.not_eq_true',Bool.not_eq_false'] at h2
   ·rw[pA (fun h=>by have:=h.sh i q hq;rw[this] at h2;cases h2)];refine qq<|qj fun K hK=>qm ?_;refine qe hK<|af.ret ⟨rx,_,rfl,rl cM hH (rfl)⟩
   ·refine af.skip<|qj fun K hK=>qA ?_;refine qm ?_;refine qe hK ?_;refine⟨mm-1,by omega,⟨i+1,rfl,hH,by omega,?_⟩⟩;intro pc q' FP pY
    by_cases he:pc=i
    ·subst he;rw[hq] at pY;cases pY;simpa using h2
    ·exact hsh pc q' (by omega) pY
  ·refine af.exit ?_;have hsh:∀pc q,p.code[pc]?=some q→cJ p.code.length p.az.length pc q=true:=fun pc q hq=>hsh pc q (by have:=bj hq;omega) hq;have hcl:=mU hsh;refine qq<|qq<|qj fun K hK=>qp (o:=1) ?_;refine ql hH aB ?_;refine qn ?_;simp only[List.length_map];refine qm ?_;refine qe hK<|af.block<|af.loop (fun mm fr st=>∃(r:Nat),fr.clean=⟨49,[au fr 0,.ptr k1 0 0,.bool false,au fr 3,au fr 4,au fr 5,au fr 6,au fr 7,au fr 8,au fr 9,au fr 10,au fr 11,au fr 12,au fr 13,au fr 14,au fr 15,au fr 16,au fr 17,au fr 18,au fr 19,au fr 20,au fr 21,au fr 22,au fr 23,au fr 24,au fr 25,au fr 26,au fr 27,au fr 28,au fr 29,p.sd,.int .i64 (p.az.length:Nat),.int .i64 (r:Nat),au fr 33,au fr 34,au fr 35,au fr 36,au fr 37,au fr 38,au fr 39,au fr 40,au fr 41,au fr 42,au fr 43,au fr 44,au fr 45,au fr 46,au fr 47,au fr 48],[]⟩∧Has s0.bs.length S st [.box k1 (.mem 0 false [p.cd,p.sd])]∧(r+mm=p.az.length)∧(∀r' s,r'<r→p.az[r']?=some s→(0≤s∧s<(p.code.length:Int))∧oI p r' s p.code.length)) (p.az.length) ?_ ?_
   ·exact⟨0,rfl,hH,by omega,by intro pc q h;omega⟩
   rintro mm fr st ⟨r,hfr,hH,hi,ba⟩;rw[hfr];clear hfr;generalize au fr=ee;clear fr;refine qq<|qj fun K hK=>qg ?_;refine qe hK<|qq ?_;refine af.cond (by rfl) (fun h3=>?_) (fun h3=>?_)<;>try simp only[decide_eq_true_eq,decide_eq_false_iff_not] at h3
   ·refine af.skip ?_
    obtain⟨s,nE⟩:∃s,p.az[r]?=some s:=⟨p.az[r]'(by omega),List.getElem?_eq_getElem _⟩
    have MR:=ei nE;refine qq<|af.block<|qq<|qj fun K hK=>qm ?_;refine qr fun SL MV=>?_;refine qR ?_;refine qm ?_;refine qm ?_;refine qe hK<|qq<|qq<|qj fun K hK=>qm ?_;refine qp (o:=0) ?_;refine ql hH aB ?_;refine qn ?_;simp only[List.length_map];refine qv (gD _ _) ?_;refine qg ?_;refine qe hK ?_;refine af.cond (by rfl) (fun h4=>?_) (fun h4=>?_)<;>try simp only[Bool.not_eq_true',Bool.not_eq_false'] at h4
    ·rw[pA (fun h=>by have:=dK.2 (h.st s (List.mem_of_getElem? nE));rw[this] at h4;cases h4)];refine qq<|qj fun K hK=>qm ?_;refine qe hK<|af.ret ⟨rx,_,rfl,rl cM hH (rfl)⟩
    ·have MI:=dK.1 (show o5 s p.code.length=true by simpa using h4);refine af.skip ?_;have rC:=vT p.code s;have MQ:=(zI (cv p.code s)).arg s0.bs.length S;refine qq<|qj fun K hK=>qp (o:=0) ?_;refine ql hH aB ?_;refine qm ?_;refine qv (F7 tF hlen hcl MI) ?_;refine qn ?_;simp only[List.length_map];refine qm ?_;refine qe hK<|af.block<|af.loop (fun mm fr st=>∃(i:Nat),fr.clean=⟨49,[au fr 0,.ptr k1 0 0,.bool false,au fr 3,.int .i64 (r:Nat),au fr 5,au fr 6,au fr 7,au fr 8,au fr 9,au fr 10,au fr 11,au fr 12,au fr 13,au fr 14,au fr 15,au fr 16,au fr 17,au fr 18,au fr 19,au fr 20,au fr 21,au fr 22,au fr 23,au fr 24,au fr 25,au fr 26,au fr 27,au fr 28,au fr 29,p.sd,.int .i64 (p.az.length:Nat),.int .i64 (r:Nat),au fr 33,au fr 34,au fr 35,au fr 36,au fr 37,au fr 38,au fr 39,au fr 40,au fr 41,au fr 42,au fr 43,au fr 44,au fr 45,w9 (cv p.code s),.int .i64 ((cv p.code s).length:Nat),.int .i64 (i:Nat)],[]⟩∧Has s0.bs.length S st [.box k1 (.mem 0 false [p.cd,p.sd])]∧(i+mm=p.code.length)∧(oI p r s i)) (p.code.length) ?_ ?_
     ·exact⟨0,rfl,hH,by omega,by intro pc q h;omega⟩
     rintro mm fr st ⟨i,hfr,hH,hj,hom⟩;rw[hfr];clear hfr;generalize au fr=ee;clear fr;refine qq<|qj fun K hK=>qg ?_;refine qe hK<|qq ?_;refine af.cond (by rfl) (fun h5=>?_) (fun h5=>?_)<;>try simp only[decide_eq_true_eq,decide_eq_false_iff_not] at h5
     ·refine af.skip ?_
      obtain⟨b,hb⟩:∃b,(cv p.code s)[i]?=some b:=⟨(cv p.code s)[i]'(by omega),List.getElem?_eq_getElem _⟩
      obtain⟨q,hq⟩:∃q,p.code[i]?=some q:=⟨p.code[i]'(by omega),List.getElem?_eq_getElem _⟩
      have hO:=pH hb;have mP:=gz hq;refine qq<|af.block<|qq<|qj fun K hK=>qm ?_;refine qr fun Ug PO=>?_;refine qR ?_;refine qm ?_;refine qm ?_;refine qe hK<|qq<|af.jy 72 (.bool ((b &&(q.op==7)) &&(q.x !=(r:Int)))) [] ?_ (fun ff tmp gh=>?_)
      ·refine qm ?_;refine qm ?_;refine ab.two 54 rfl (fun c7=>?_) (fun c7=>?_)
       ·refine qp (o:=0) ?_ (hg:=wi c7);refine ql hH aB ?_ (hg:=wi c7);refine qm ?_ (hg:=wi c7);refine qr (fun Uf PN=>?_) (hg:=wi c7);refine qf (fo:=0) (fun Xw Vk=>?_) (hg:=wi c7);refine qR ?_ (hg:=wi c7);refine qg ?_ (hg:=wi c7);refine qt c7 ?_;refine qm ?_;refine ab.two 63 rfl (fun aZ=>?_) (fun aZ=>?_)
        ·refine qp (o:=0) ?_ (hg:=wi aZ);refine ql hH aB ?_ (hg:=wi aZ);refine qm ?_ (hg:=wi aZ);refine qr (fun Xr Vf=>?_) (hg:=wi aZ);refine qf (fo:=1) (fun Xq Ve=>?_) (hg:=wi aZ);refine qR ?_ (hg:=wi aZ);refine qm ?_ (hg:=wi aZ);refine qg ?_ (hg:=wi aZ);refine qt aZ ?_;refine ab.nil (cX ?_ ?_)
         ·dsimp only[aM,List.foldl,nth,u2,u1]
          all_goals(first|rfl|simp)
         ·dsimp only[Fr.aF,Fr.put,Fr.clean,Fr.ev,Fr.get,nth,V.look,u1,u2,v1,v2,v3,v4,v5,v6,v7,List.length,u3,u4,Nat.reduceSub,Nat.reduceAdd,List.map]
          all_goals(simp[c7,aZ];done)
        ·refine qs ?_ (hg:=wn aZ);refine qs ?_ (hg:=wn aZ);refine qs ?_ (hg:=wn aZ);refine qs ?_ (hg:=wn aZ);refine qs ?_ (hg:=wn aZ);refine qs ?_ (hg:=wn aZ);refine qs ?_ (hg:=wn aZ);refine qs ?_ (hg:=wn aZ);refine qu aZ ?_;refine ab.nil (cX ?_ ?_)
         ·dsimp only[aM,List.foldl,nth,u2,u1]
          all_goals(first|rfl|simp)
         ·dsimp only[Fr.aF,Fr.put,Fr.clean,Fr.ev,Fr.get,nth,V.look,u1,u2,v1,v2,v3,v4,v5,v6,v7,List.length,u3,u4,Nat.reduceSub,Nat.reduceAdd,List.map]
          all_goals(simp[c7,aZ];done)
       ·refine qs ?_ (hg:=wn c7);refine qs ?_ (hg:=wn c7);refine qs ?_ (hg:=wn c7);refine qs ?_ (hg:=wn c7);refine qs ?_ (hg:=wn c7);refine qs ?_ (hg:=wn c7);refine qs ?_ (hg:=wn c7);refine qu c7 ?_;refine qm ?_;refine qs ?_;refine qs ?_;refine qs ?_;refine qs ?_;refine qs ?_;refine qs ?_;refine qs ?_;refine qs ?_;refine qg ?_;refine ab.nil (cX ?_ ?_)
        ·dsimp only[aM,List.foldl,nth,u2,u1]
         all_goals(first|rfl|simp)
        ·dsimp only[Fr.aF,Fr.put,Fr.clean,Fr.ev,Fr.get,nth,V.look,u1,u2,v1,v2,v3,v4,v5,v6,v7,List.length,u3,u4,Nat.reduceSub,Nat.reduceAdd,List.map]
         all_goals(simp[c7];done)
      dsimp only[aM,List.foldl,nth,u2,u1];dsimp only[Fr.aF,Fr.put,Fr.clean,Fr.ev,Fr.get,nth,V.look,u1,u2,v1,v2,v3,v4,v5,v6,v7,List.length,u3,u4,Nat.reduceSub,Nat.reduceAdd,List.map];refine qc (fun h6=>?_) (fun h6=>?_)<;>try simp only[cs] at h6
      ·rw[pA (fun h=>by
        have h7:=h.fo r s nE i q (by omega);simp only[Bool.and_eq_true,beq_iff_eq,bne_iff_ne,ne_eq] at h6;obtain⟨⟨rfl,h8⟩,h9⟩:=h6
        exact h9 (h7 hb hq h8))]
       refine qq<|qj fun K hK=>qm ?_;refine qe hK<|af.ret ⟨rx,_,rfl,rl cM hH (rfl)⟩
      ·refine af.skip<|qj fun K hK=>qA ?_;refine qm ?_;refine qe hK ?_;refine⟨mm-1,by omega,⟨i+1,rfl,hH,by omega,?_⟩⟩;intro pc q' FP FM pY fw
       by_cases he:pc=i
       ·subst he;rw[hq] at pY;cases pY;rw[hb] at FM;cases FM;simp[fw] at h6;exact h6
       ·exact hom pc q' (by omega) FM pY fw
     ·refine af.exit<|qj fun K hK=>qA ?_;refine qm ?_;refine qe hK ?_;refine⟨p.az.length-(r+1),by omega,⟨r+1,rfl,hH,by omega,?_⟩⟩;intro r' s' Lv ta
      by_cases he:r'=r
      ·subst he;rw[nE] at ta;cases ta;exact⟨MI,fun pc q FP=>hom pc q (by omega)⟩
      ·exact ba r' s' (by omega) ta
   ·refine af.exit ?_
    rw[lU ⟨h0.1,h0.2,hsh,fun v hv=>by
     obtain⟨r',Lv⟩:=List.getElem?_of_mem hv
     exact(ba r' v (by have:=bj Lv;omega) Lv).1,fun r' s' ta=>(ba r' s' (by have:=bj ta;omega) ta).2⟩]
    refine qq<|qj fun K hK=>qm ?_;refine qe hK<|af.ret ⟨rx,_,rfl,rl cM hH (rfl)⟩
def oP:Nat→List Bool→List Int
 |_,[]=>[]
 |i,b::l=>(if b then[(i:Int)] else[])++oP (i+1) l
noncomputable def oH (p:Pg) (kV:Int):List Int:=if dec (bW p) &&o5 kV p.az.length then oP 0 (cv p.code (p.az.getD kV.toNat 0)) else[]
def dZ (i:aK):aK:=⟨i.op,i.x,i.y,.sl ((i.rs.map aw).map (jK 2)),i.rs⟩
theorem BS {i:aK} (h:i.ok):(dZ i).ok:=⟨gY.frozen (km _) (dU _),h.2⟩
def pB (q:aK):List D:=aG (dZ q)
end Go.Proofs.Ytbdnabmmlbiomaa
