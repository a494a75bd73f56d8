/-
 The parser of patterns: what stands at a rune; errors.
-/
import Derived.Test.YtbdilgkfnacahaaGreatXGCa
import Derived.Test.YtbdilgkfnacahaaGreatXGKa
import Derived.Test.YtbdilgkfnacahaaGreatXDgp
import Derived.Test.YtbdilgkfnacahaaGreatXM2
set_option maxRecDepth 100000
set_option maxHeartbeats 4000000
set_option linter.unusedSimpArgs false
set_option linter.unusedVariables false
namespace Go.Proofs.YtbdilgkfnacahaaGreat
open Go.V Go
def iC (b:List UInt8):Nat×Nat:=if(gI b).2.1=0 then(65533,1) else((gI b).1,(gI b).2.1)
def zw:Nat→List UInt8→List (Nat×Nat)
 |0,_=>[]
 |_+1,[]=>[]
 |n+1,b=>iC b::zw n (b.drop (iC b).2)
def kB (b:List UInt8):List (Nat×Nat):=zw b.length b
theorem ln (b:List UInt8):1≤(iC b).2:=by
 unfold iC;split
 ·simp
 ·simp only;omega
theorem mN : ∀ (n : Nat) (b : List UInt8), b.length ≤ n → zw n b = kB b
 | 0, [], _ => rfl
 | 0, _ :: _, h => by simp at h
 | n + 1, [], _ => rfl
 | n + 1, c :: b, h => by
  have hp := ln (c :: b);have h1 : ((c :: b).drop (iC (c :: b)).2).length ≤ b.length := by rw [List.length_drop]; simp only [List.length_cons]; omega
  simp only [List.length_cons] at h;show iC (c :: b) :: zw n ((c :: b).drop _) = iC (c :: b) :: zw b.length ((c :: b).drop _);rw [mN n _ (by omega)]
  rcases Nat.lt_or_ge n b.length with h2 | h2
  ·omega
  ·rw [mN b.length _ h1]
termination_by n b => b.length
decreasing_by all_goals (simp_wf; omega)
theorem pq:kB []=[]:=rfl
theorem rF {b:List UInt8} (h:b≠[]):kB b=iC b::kB (b.drop (iC b).2):=by
 match b,h with
 |c::b,_=>
  show iC (c::b)::zw b.length ((c::b).drop _)=_;rw[mN];have hp:=ln (c::b);rw[List.length_drop];simp only[List.length_cons];omega
def bh (g:Nat×Nat):List D:=[.int .i32 (g.1:Nat),.int .i64 (g.2:Nat)]
def eO (l:List (Nat×Nat)):D:=.sl ((l.map bh).map (jr 2))
theorem Bv {l:List (Nat×Nat)}:∀e∈l.map bh,e.length=2:=by
 intro e he;obtain⟨g,_,rfl⟩:=List.mem_map.1 he;rfl
theorem oY {l:List (Nat×Nat)}:∀e∈l.map bh,∀d∈e,b5 d=true:=by
 intro e he d hd;obtain⟨g,_,rfl⟩:=List.mem_map.1 he;simp only[bh,List.mem_cons,List.not_mem_nil,or_false] at hd
 rcases hd with rfl|rfl<;>rfl
theorem dr (st:St) (l:List (Nat×Nat)):V.Rows st 2 (eO l) (l.map bh):=Rows.ua Bv oY
theorem tF:∀(left n r lo hi:Nat) (b:List UInt8),(iz left n r lo hi b).2.1≠0→(iz left n r lo hi b).2.1=n∧left≤b.length
 |0,n,r,lo,hi,b,h=>by simp[iz]
 |left+1,n,r,lo,hi,[],h=>by simp[iz] at h
 |left+1,n,r,lo,hi,x::xs,h=>by
  simp only[iz] at h⊢
  split at h
  ·simp at h
  ·rename_i hc;rw[if_neg hc];have:=tF left n _ _ _ xs h;exact⟨this.1,by simp;omega⟩
theorem xy {b:List UInt8} (h:b≠[]):(iC b).2≤b.length:=by
 match b,h with
 |c::xs,_=>
  unfold iC
  split
  ·simp
  ·rename_i hz;simp only[gI] at hz⊢
   split at hz
   ·simp at hz
   ·rename_i hk;rw[if_neg hk];have:=tF _ _ _ _ _ _ hz;rw[this.1];simp;omega
theorem B0 {st:St} {x:D} {b:List UInt8} (hb:Bytes st x b) (hlen:b.length≤1048576):Ev pv 24 [x] st (eO (kB b)) st:=by
 refine Ev.me rfl R0 rfl rfl rfl ?_;dsimp only[u3,u4,List.length,Nat.reduceSub,Nat.reduceAdd,w1,w2];have hx:=hb.ref;(try refine qy ?_);(repeat refine qq ?_);(try generalize hK:bX _ _ _ _=K);refine af.fh ?_;(repeat(first|refine xT ?_|refine xL ?_|refine xN ?_|refine xo ?_|refine xp ?_));refine ab.nil ?_;(try dsimp only[Fr.aE,Fr.put,Fr.clean,Fr.ev,Fr.get,nth,V.look,u1,u2,v1,v2,v3,v4,v5,v6,v7,List.length,u3,u4,Nat.reduceSub,Nat.reduceAdd,List.map]);(try subst hK);(try refine qy ?_);(repeat refine qq ?_);(try generalize hK:bX _ _ _ _=K);refine af.fh ?_;(repeat(first|refine xT ?_|refine xL ?_|refine xN ?_|refine xo ?_|refine xp ?_));refine ab.nil ?_;(try dsimp only[Fr.aE,Fr.put,Fr.clean,Fr.ev,Fr.get,nth,V.look,u1,u2,v1,v2,v3,v4,v5,v6,v7,List.length,u3,u4,Nat.reduceSub,Nat.reduceAdd,List.map]);(try subst hK);(try refine qy ?_);refine af.seq (af.block ?_)
 refine af.loop (fun j fr ah=>∃(y out r n:D) (b':List UInt8) (done:List (Nat×Nat)),fr.clean=⟨6,[y,.tup [],.nul,out,r,n],[]⟩∧Ex st.bs.length (ai .ro st) ah∧Bytes ah y b'∧y.ref≤st.bs.length∧
  Acc st.bs.length ah 2 out (done.map bh)∧j=b'.length∧done++kB b'=kB b∧done.length+b'.length≤b.length) b.length
  ⟨x,.nul,_,_,b,[],rfl,Ex.refl _ _,hb.enter .ro,hx,.nul,rfl,rfl,by simp⟩ ?_
 rintro j fr ah ⟨y,out,r,n,b',done,hfr,hex,hy,S8,Gu,rfl,lE,hl⟩;rw[hfr];(try refine qy ?_);(repeat refine qq ?_);(try generalize hK:bX _ _ _ _=K);refine af.fh ?_
 (first|refine xT ?_|refine xL ?_|refine xN ?_|refine xo ?_|refine xp ?_)
 refine ab.len rfl rfl rfl hy rfl ?_;(repeat(first|refine xT ?_|refine xL ?_|refine xN ?_|refine xo ?_|refine xp ?_));refine ab.nil ?_;(try dsimp only[Fr.aE,Fr.put,Fr.clean,Fr.ev,Fr.get,nth,V.look,u1,u2,v1,v2,v3,v4,v5,v6,v7,List.length,u3,u4,Nat.reduceSub,Nat.reduceAdd,List.map]);(try subst hK);(try refine qy ?_);rw[fN];(try refine qy ?_);(repeat refine qq ?_);refine qc (fun h1=>?_) (fun h1=>?_)<;>try simp only[cs] at h1
 ·refine af.skip ?_;have oV:b'≠[]:=by rintro rfl;simp at h1
  (try refine qy ?_);(repeat refine qq ?_);refine af.block ?_;(try refine qy ?_);(repeat refine qq ?_);(try generalize hK:bX _ _ _ _=K);refine af.fh ?_
  (first|refine xT ?_|refine xL ?_|refine xN ?_|refine xo ?_|refine xp ?_)
  refine ab.Hf rfl rfl rfl (Bw hy) ?_;(repeat(first|refine xT ?_|refine xL ?_|refine xN ?_|refine xo ?_|refine xp ?_));refine ab.nil ?_;(try dsimp only[Fr.aE,Fr.put,Fr.clean,Fr.ev,Fr.get,nth,V.look,u1,u2,v1,v2,v3,v4,v5,v6,v7,List.length,u3,u4,Nat.reduceSub,Nat.reduceAdd,List.map]);(try subst hK);(try refine qy ?_);generalize hf:gI b'=F at*;obtain⟨r0,n0,bg⟩:=F;(try refine qy ?_);(repeat refine qq ?_);(try generalize hK:bX _ _ _ _=K);refine af.fh ?_;(repeat(first|refine xT ?_|refine xL ?_|refine xN ?_|refine xo ?_|refine xp ?_));refine ab.nil ?_;(try dsimp only[Fr.aE,Fr.put,Fr.clean,Fr.ev,Fr.get,nth,V.look,u1,u2,v1,v2,v3,v4,v5,v6,v7,List.length,u3,u4,Nat.reduceSub,Nat.reduceAdd,List.map]);(try subst hK);(try refine qy ?_);generalize hK:bX _ _ _ _=K
  have H:∀m,K .next ⟨6,[y,.tup [],.nul,out,.int .i32 ((iC b').1:Nat),.int .i64 ((iC b').2:Nat)],m⟩ ah:=by
   intro m;subst hK;generalize hg:iC b'=g;have hp:=ln b';have hle:=xy oV;rw[hg] at hp hle;(try refine qy ?_);(repeat refine qq ?_);(try generalize hK:bX _ _ _ _=K);refine af.fh ?_
   (first|refine xT ?_|refine xL ?_|refine xN ?_|refine xo ?_|refine xp ?_)
   (first|refine xT ?_|refine xL ?_|refine xN ?_|refine xo ?_|refine xp ?_)
   (first|refine xT ?_|refine xL ?_|refine xN ?_|refine xo ?_|refine xp ?_)
   refine ab.T rfl rfl rfl (d:=.agg (bh g)) (st1:=ah) rfl<|ab.T rfl rfl rfl (d:=.win ah.bs.length 0 0 1 2) (st1:=ah.push (.mem 0 true (bh g))) rfl ?_;have hN:st.bs.length≤ah.bs.length:=hex.len;have Gp:=hex.trans (Ex.push hN (.mem 0 true (bh g)));refine ab.append rfl rfl rfl rfl (Gu.push _) (Rows.one rfl) rfl rfl rfl rfl rfl rfl rfl (by decide) Gp.len (by rw[Gp.flr];exact Nat.le_refl _) (by rw[Gp.ro];exact Nat.le_refl _) (by simp only[List.length_map,List.length_cons,List.length_nil];show(done.length+1)*16≤_;omega) fun Pl st2 N6 mC _ _ _=>?_;(repeat(first|refine xT ?_|refine xL ?_|refine xN ?_|refine xo ?_|refine xp ?_));refine ab.nil ?_;(try dsimp only[Fr.aE,Fr.put,Fr.clean,Fr.ev,Fr.get,nth,V.look,u1,u2,v1,v2,v3,v4,v5,v6,v7,List.length,u3,u4,Nat.reduceSub,Nat.reduceAdd,List.map]);(try subst hK);(try refine qy ?_);have QK:=Gp.trans mC;have F5:Bytes st2 y b':=Rows.ex ((Ex.push hN _).trans mC) hy S8;(try refine qy ?_);(repeat refine qq ?_);(try generalize hK:bX _ _ _ _=K);refine af.fh ?_
   (first|refine xT ?_|refine xL ?_|refine xN ?_|refine xo ?_|refine xp ?_)
   (first|refine xT ?_|refine xL ?_|refine xN ?_|refine xo ?_|refine xp ?_)
   refine ab.slice rfl rfl rfl F5 rfl rfl (l:=g.2) (r:=b'.length) ?_ ⟨by omega,by rw[fN];omega⟩ fun y2 F4 Py=>?_
   ·show cU (byteCells b').length (some (.int .i64 (g.2:Nat))) none=_;rw[fN];simp only[cU,jF,kV,Option.bind_some];rw[if_pos ⟨by omega,by omega⟩];rfl
   (repeat(first|refine xT ?_|refine xL ?_|refine xN ?_|refine xo ?_|refine xp ?_));refine ab.nil ?_;(try dsimp only[Fr.aE,Fr.put,Fr.clean,Fr.ev,Fr.get,nth,V.look,u1,u2,v1,v2,v3,v4,v5,v6,v7,List.length,u3,u4,Nat.reduceSub,Nat.reduceAdd,List.map]);(try subst hK);(try refine qy ?_);refine⟨(b'.drop g.2).length,by rw[List.length_drop];omega,y2,Pl,_,_,b'.drop g.2,done++[g],rfl,QK,?_,Nat.le_trans Py S8,?_,rfl,?_,?_⟩
   ·have:((byteCells b').take b'.length).drop g.2=byteCells (b'.drop g.2):=by
     rw[←fN,List.take_length];simp[byteCells]
    unfold Bytes;rw[←this];exact F4
   ·rw[List.map_append];exact N6
   ·rw[List.append_assoc,List.singleton_append,←lE,rF oV,hg]
   ·rw[List.length_append,List.length_drop];simp only[List.length_cons,List.length_nil];omega
  (try refine qy ?_);(repeat refine qq ?_);refine qc (fun h2=>?_) (fun h2=>?_)<;>try simp only[cs] at h2
  ·refine af.fh ?_;(repeat(first|refine xT ?_|refine xL ?_|refine xN ?_|refine xo ?_|refine xp ?_));refine ab.nil ?_;(try dsimp only[Fr.aE,Fr.put,Fr.clean,Fr.ev,Fr.get,nth,V.look,u1,u2,v1,v2,v3,v4,v5,v6,v7,List.length,u3,u4,Nat.reduceSub,Nat.reduceAdd,List.map]);have:iC b'=(65533,1):=by unfold iC;rw[hf,if_pos (by simpa using h2)]
   rw[this] at H;exact H _
  ·refine af.skip ?_;have:iC b'=(r0,n0):=by unfold iC;rw[hf,if_neg (by simpa using h2)]
   rw[this] at H;exact H _
 ·refine af.exit ?_
  have oV:b'=[]:=by cases b' with|nil=>rfl|cons _ _=>simp at h1<;>omega
  subst oV;rw[pq,List.append_nil] at lE;(try refine qy ?_);(repeat refine qq ?_);(try generalize hK:bX _ _ _ _=K);refine af.fh ?_;(repeat(first|refine xT ?_|refine xL ?_|refine xN ?_|refine xo ?_|refine xp ?_));refine ab.nil ?_;(try dsimp only[Fr.aE,Fr.put,Fr.clean,Fr.ev,Fr.get,nth,V.look,u1,u2,v1,v2,v3,v4,v5,v6,v7,List.length,u3,u4,Nat.reduceSub,Nat.reduceAdd,List.map]);(try subst hK);(try refine qy ?_);refine af.ret ⟨rx,_,rfl,bE (by simp) (hex.take rfl) ?_⟩;rw[←lE];exact Gu.freeze oY (n:=15) (by decide)
structure eC where
 i:Nat
 o:Nat
 g:Nat
 e:Int
 w:Int
def aS (gs:List (Nat×Nat)) (bJ:D) (s:eC):List D:=[eO gs,bJ,.int .i64 (s.i:Nat),.int .i64 (s.o:Nat),.int .i64 (s.g:Nat),.int .i64 s.e,.int .i64 s.w]
def iu (gs:List (Nat×Nat)) (i:Nat) (r:Int):Bool:=match gs[i]? with
 |some g=>((g.1:Nat):Int)==r
 |none=>false
theorem oK {gs:List (Nat×Nat)} {i:Nat} {r:Int} (h:iu gs i r=true):i<gs.length:=by
 unfold iu at h
 split at h
 ·exact bz (by assumption)
 ·cases h
def cK (gs:List (Nat×Nat)) (s:eC) (r:Int):eC:=if iu gs s.i r=true then{s with i:=s.i+1} else s
def LG (gs:List (Nat×Nat)) (i:Nat):Bool:=match gs[i]? with
 |some g=>((g.1:Nat):Int)==65533 &&((g.2:Nat):Int)==1
 |none=>false
def h_ (bT:List Int) (s:eC) (i:Nat) (e:Int):eC:=if s.e=0 then{s with e:=e,w:=bT.getD i 0} else s
theorem nb {N k:Nat} {S s0:St} {H:List bF} {gs:List (Nat×Nat)} {bJ:D} {s:eC} (sP:gs.length≤1048576) (r:Int) (hH:Has N S s0 (.box k (.mem 0 false (aS gs bJ s))::H)):
  ∃d ah,Ev pv 89 [.ptr k 0 0,.int .i32 r] s0 d ah∧d=.bool (iu gs s.i r)∧Has N S ah (.box k (.mem 0 false (aS gs bJ s))::H):=by
 refine Ev.i7 rfl Rk rfl rfl rfl ?_;dsimp only[u3,u4,List.length,Nat.reduceSub,Nat.reduceAdd,w1,w2];have cp:=hH;have hH:=hH.ct;have cn:(ai .rw s0).bs=s0.bs:=rfl;generalize ai .rw s0=S2 at*;have Gm:Arg N S2 2 (eO gs) (gs.map bh):=Arg.pure (fun st=>dr st gs);refine qq<|qj fun K hK=>qm ?_;refine qe hK ?_
 by_cases ha:s.i<gs.length
 ·obtain⟨g,hg⟩:∃g,gs[s.i]?=some g:=⟨gs[s.i]'ha,List.getElem?_eq_getElem _⟩
  have gk:(gs.map bh)[s.i]?=some (bh g):=by rw[List.getElem?_map,hg];rfl
  have a_:decide ((s.i:Int)<(gs.length:Nat))=true:=by rw[decide_eq_true];simp;omega
  have hv:iu gs s.i r=(((g.1:Nat):Int)==r):=by unfold iu;rw[hg]
  refine qq<|af.lH 4 (.bool (((g.1:Nat):Int)==r)) [] ?_ (fun ff tmp=>?_)
  ·refine qm ?_;refine qg ?_;refine qp (o:=2) ?_;refine ql hH ax ?_;refine qm ?_;refine qg ?_;refine qp (o:=0) ?_;refine ql hH ax ?_;refine qn ?_;simp only[List.length_map];refine qg ?_;refine qm ?_;refine qm ?_ (hg:=wi a_);refine qg ?_ (hg:=wi a_);refine qp (o:=0) ?_ (hg:=wi a_);refine ql hH ax ?_ (hg:=wi a_);refine qm ?_ (hg:=wi a_);refine qg ?_ (hg:=wi a_);refine qp (o:=2) ?_ (hg:=wi a_);refine ql hH ax ?_ (hg:=wi a_);refine qr (fun LS y3=>?_) (hg:=wi a_);refine qf (fo:=0) (fun ML Bc=>?_) (hg:=wi a_);refine qR ?_ (hg:=wi a_);refine qm ?_ (hg:=wi a_);refine qg ?_ (hg:=wi a_);refine qt a_ ?_;refine qm ?_;refine ab.nil (aZ ?_);dsimp only[aO,List.foldl,nth,u2,u1];dsimp only[Fr.aE,Fr.put,Fr.clean,Fr.ev,Fr.get,nth,look,u1,u2,v1,v2,v4]
   all_goals(first|rfl|(simp[a_];done)|(simp_all;done)|(simp[a_];omega)|(simp_all;omega))
  dsimp only[aO,List.foldl,nth,u2,u1];refine af.ret ⟨rx,_,_,_,rfl,aj (rfl),?_⟩;exact⟨by rw[hv];rfl,cp.aw cn hH⟩
 ·have a_:decide ((s.i:Int)<(gs.length:Nat))=false:=by rw[decide_eq_false];simp;omega
  have hv:iu gs s.i r=false:=by
   cases h:iu gs s.i r with
   |true=>exact absurd (oK h) ha
   |false=>rfl
  refine qq<|af.lH 4 (.bool false) [] ?_ (fun ff tmp=>?_)
  ·refine qm ?_;refine qg ?_;refine qp (o:=2) ?_;refine ql hH ax ?_;refine qm ?_;refine qg ?_;refine qp (o:=0) ?_;refine ql hH ax ?_;refine qn ?_;simp only[List.length_map];refine qg ?_;refine qm ?_;refine qs ?_ (hg:=wn a_);refine qs ?_ (hg:=wn a_);refine qs ?_ (hg:=wn a_);refine qs ?_ (hg:=wn a_);refine qs ?_ (hg:=wn a_);refine qs ?_ (hg:=wn a_);refine qs ?_ (hg:=wn a_);refine qs ?_ (hg:=wn a_);refine qs ?_ (hg:=wn a_);refine qs ?_ (hg:=wn a_);refine qs ?_ (hg:=wn a_);refine qs ?_ (hg:=wn a_);refine qs ?_ (hg:=wn a_);refine qu a_ ?_;refine qm ?_;refine ab.nil (aZ ?_);dsimp only[aO,List.foldl,nth,u2,u1];dsimp only[Fr.aE,Fr.put,Fr.clean,Fr.ev,Fr.get,nth,look,u1,u2,v1,v2,v4]
   all_goals(first|rfl|(simp[a_];done)|(simp_all;done)|(simp[a_];omega)|(simp_all;omega))
  dsimp only[aO,List.foldl,nth,u2,u1];refine af.ret ⟨rx,_,_,_,rfl,aj (rfl),?_⟩;exact⟨by rw[hv];rfl,cp.aw cn hH⟩
theorem dz {N k:Nat} {S s0:St} {H:List bF} {gs:List (Nat×Nat)} {bJ:D} {s:eC} (sP:gs.length≤1048576) (r:Int) (hH:Has N S s0 (.box k (.mem 0 false (aS gs bJ s))::H)):
  ∃d ah,Ev pv 78 [.ptr k 0 0,.int .i32 r] s0 d ah∧d=.bool (iu gs s.i r)∧Has N S ah (.box k (.mem 0 false (aS gs bJ (cK gs s r)))::H):=by
 refine Ev.i7 rfl Rq rfl rfl rfl ?_;dsimp only[u3,u4,List.length,Nat.reduceSub,Nat.reduceAdd,w1,w2];have cp:=hH;have hH:=hH.ct;have cn:(ai .rw s0).bs=s0.bs:=rfl;generalize ai .rw s0=S2 at*;refine qq<|qj fun K hK=>qm ?_;refine qe hK<|qq<|qq<|qj fun K hK=>qm ?_;refine qm ?_;obtain⟨_,st,aI,rfl,hH⟩:=nb sP r hH;refine qv aI ?_;refine qe hK ?_;unfold cK
 cases hb:iu gs s.i r with
 |true=>
  have hlt:=oK hb;dsimp only[aS] at hH;rw[if_pos rfl];refine qB ?_;refine qq<|qj fun K hK=>qm ?_;refine qg ?_;refine qp (o:=2) ?_;refine ql hH ax ?_;refine qA ?_;refine qg ?_;refine qp (o:=2) ?_;refine qT hH ax fun st hH=>?_;dsimp only[u2,u1,u3,u4,setMany,u5,u6,D.cells,Nat.reduceAdd,aS,bh,av] at hH;refine qe hK<|qq<|qj fun K hK=>qm ?_;refine qe hK<|af.ret ⟨rx,_,_,_,rfl,aj (rfl),?_⟩;exact⟨rfl,cp.aw cn hH⟩
 |false=>
  rw[if_neg (by simp)];refine qC ?_;refine af.skip<|qq<|qj fun K hK=>qm ?_;refine qe hK<|af.ret ⟨rx,_,_,_,rfl,aj (rfl),?_⟩;exact⟨rfl,cp.aw cn hH⟩
theorem wX {N k:Nat} {S s0:St} {H:List bF} {gs:List (Nat×Nat)} {bJ:D} {s:eC} (i:Nat) (hi:i<gs.length) (hH:Has N S s0 (.box k (.mem 0 false (aS gs bJ s))::H)):
  ∃d ah,Ev pv 101 [.ptr k 0 0,.int .i64 (i:Nat)] s0 d ah∧d=.bool (LG gs i)∧Has N S ah (.box k (.mem 0 false (aS gs bJ s))::H):=by
 refine Ev.i7 rfl Ot rfl rfl rfl ?_;dsimp only[u3,u4,List.length,Nat.reduceSub,Nat.reduceAdd,w1,w2];have cp:=hH;have hH:=hH.ct;have cn:(ai .rw s0).bs=s0.bs:=rfl;generalize ai .rw s0=S2 at*;have Gm:Arg N S2 2 (eO gs) (gs.map bh):=Arg.pure (fun st=>dr st gs);refine qq<|qj fun K hK=>qm ?_;refine qe hK ?_
 obtain⟨g,hg⟩:∃g,gs[i]?=some g:=⟨gs[i]'hi,List.getElem?_eq_getElem _⟩
 have gk:(gs.map bh)[i]?=some (bh g):=by rw[List.getElem?_map,hg];rfl
 have hv:LG gs i=(((g.1:Nat):Int)==65533 &&((g.2:Nat):Int)==1):=by unfold LG;rw[hg]
 refine qq<|af.lH 4 (.bool (((g.1:Nat):Int)==65533 &&((g.2:Nat):Int)==1)) [] ?_ (fun ff tmp=>?_)
 ·refine qm ?_;refine qg ?_;refine qp (o:=0) ?_;refine ql hH ax ?_;refine qm ?_;refine qr fun S4 Nv=>?_;refine qf (fo:=0) fun S3 Nu=>?_;refine qR ?_;refine qg ?_;refine qm ?_;refine ab.two 14 rfl (fun cz=>?_) (fun cz=>?_)
  ·refine qm ?_ (hg:=wi cz);refine qg ?_ (hg:=wi cz);refine qp (o:=0) ?_ (hg:=wi cz);refine ql hH ax ?_ (hg:=wi cz);refine qm ?_ (hg:=wi cz);refine qr (fun OE Gf=>?_) (hg:=wi cz);refine qf (fo:=1) (fun OD Ge=>?_) (hg:=wi cz);refine qR ?_ (hg:=wi cz);refine qg ?_ (hg:=wi cz);refine qt cz ?_;refine qm ?_;refine ab.nil (aZ ?_);dsimp only[aO,List.foldl,nth,u2,u1];dsimp only[Fr.aE,Fr.put,Fr.clean,Fr.ev,Fr.get,nth,V.look,u1,u2,v1,v2,v3,v4,v5,v6,v7,List.length,u3,u4,Nat.reduceSub,Nat.reduceAdd,List.map]
   all_goals(simp[cz];done)
  ·refine qs ?_ (hg:=wn cz);refine qs ?_ (hg:=wn cz);refine qs ?_ (hg:=wn cz);refine qs ?_ (hg:=wn cz);refine qs ?_ (hg:=wn cz);refine qs ?_ (hg:=wn cz);refine qs ?_ (hg:=wn cz);refine qs ?_ (hg:=wn cz);refine qs ?_ (hg:=wn cz);refine qu cz ?_;refine qm ?_;refine ab.nil (aZ ?_);dsimp only[aO,List.foldl,nth,u2,u1];dsimp only[Fr.aE,Fr.put,Fr.clean,Fr.ev,Fr.get,nth,V.look,u1,u2,v1,v2,v3,v4,v5,v6,v7,List.length,u3,u4,Nat.reduceSub,Nat.reduceAdd,List.map]
   all_goals(simp[cz];done)
 dsimp only[aO,List.foldl,nth,u2,u1];refine af.ret ⟨rx,_,_,_,rfl,aj (rfl),?_⟩;exact⟨by rw[hv];rfl,cp.aw cn hH⟩
theorem cL {N k:Nat} {S s0:St} {H:List bF} {gs:List (Nat×Nat)} {bJ:D} {bT:List Int} {s:eC} (i:Nat) (e:Int) (hi:i<bT.length) (hH:Has N S s0 (.box k (.mem 0 false (aS gs bJ s))::.aM bJ 1 (bT.map av)::H)):
  ∃d ah,Ev pv 66 [.ptr k 0 0,.int .i64 (i:Nat),.int .i64 e] s0 d ah∧d=.sl []∧Has N S ah (.box k (.mem 0 false (aS gs bJ (h_ bT s i e)))::.aM bJ 1 (bT.map av)::H):=by
 refine Ev.i7 rfl RB rfl rfl rfl ?_;dsimp only[u3,u4,List.length,Nat.reduceSub,Nat.reduceAdd,w1,w2];have cp:=hH;have hH:=hH.ct;have cn:(ai .rw s0).bs=s0.bs:=rfl;generalize ai .rw s0=S2 at*;refine qq<|qj fun K hK=>qm ?_;refine qe hK ?_
 obtain⟨v,hv⟩:∃v,bT[i]?=some v:=⟨bT[i]'hi,List.getElem?_eq_getElem _⟩
 have gk:=dW hv;unfold h_;refine qq<|qq<|qj fun K hK=>qm ?_;refine qg ?_;refine qp (o:=5) ?_;refine ql hH ax ?_;refine qg ?_;refine qe hK ?_;refine af.cond (by rfl) (fun h0=>?_) (fun h0=>?_)<;>try simp only[beq_iff_eq,beq_eq_false_iff_ne,ne_eq] at h0
 ·rw[if_pos h0];have Gn:bT.getD i 0=v:=by rw[List.getD_eq_getElem?_getD,hv];rfl
  refine qj fun K hK=>qm ?_;refine qm ?_;refine qm ?_;refine qm ?_;refine qg ?_;refine qp (o:=1) ?_;refine ql hH ax ?_;refine qm ?_;refine qi hH bC fun OE Gf=>?_;refine qo hH bC ?_;refine qg ?_;refine qp (o:=5) ?_;refine qT hH ax fun st hH=>?_;dsimp only[u2,u1,u3,u4,setMany,u5,u6,D.cells,Nat.reduceAdd,aS,bh,av] at hH;refine qg ?_;refine qp (o:=6) ?_;refine qT hH ax fun st hH=>?_;dsimp only[u2,u1,u3,u4,setMany,u5,u6,D.cells,Nat.reduceAdd,aS,bh,av] at hH;refine qe hK<|qq<|qj fun K hK=>qm ?_;refine qe hK<|af.ret ⟨rx,_,_,_,rfl,aj (rfl),?_⟩;exact⟨rfl,by rw[Gn];exact cp.aw cn hH⟩
 ·rw[if_neg h0];refine af.skip<|qq<|qj fun K hK=>qm ?_;refine qe hK<|af.ret ⟨rx,_,_,_,rfl,aj (rfl),?_⟩;exact⟨rfl,cp.aw cn hH⟩
def ej (fr:Go.V.Fr) (k:Nat):Go.V.D:=Go.V.nth .bu fr.loc k
noncomputable def jJ (l:List Rg):List Rg:=@dite _ (∃a,fJ l a) (Classical.propDecidable _) (fun h=>Classical.choose h) (fun _=>[])
theorem AU {l a:List Rg} (h:fJ l a):jJ l=a:=by
 have hx:∃a,fJ l a:=⟨a,h⟩
 unfold jJ;rw[dif_pos hx];exact(Classical.choose_spec hx).unique h
theorem lp {s0:St} {x:D} {l:List Rg} (hx:V.Rows s0 2 x (l.map au)) (hl:l.length≤1048576):Ev pv 84 [x] s0 (bB (jJ l)) s0∧(jJ l).length≤2*l.length∧fJ l (jJ l):=by
 obtain⟨_,aI,all,rfl,hperm,nf⟩:=xD hx (by omega);have hM:fJ l (all.foldl c8 []).reverse:=oE (fun x=>hperm.mem_iff) nf;have hlen:=hperm.length_eq;have lC:=hO l;have iR:=oJ all;rw[AU hM];exact⟨aI,by rw[List.length_reverse];omega,hM⟩
theorem iB (l:List Rg):e_ (bB l) 2 (l.map au):=by
 rw[←gy];refine e_.frozen ?_ ?_
 ·intro e he;obtain⟨x,_,rfl⟩:=List.mem_map.1 he;rfl
 ·intro e he d hd;obtain⟨x,_,rfl⟩:=List.mem_map.1 he;simp only[au,List.mem_cons,List.not_mem_nil,or_false] at hd
  rcases hd with rfl|rfl<;>rfl
theorem sx {r:Int} {l a:List Rg} (h0:0≤r) (h1:r<55296) (hr:eQ l r) (h:fJ l a):a≠[]:=by
 rintro rfl;have:=(h.2 r).2 ⟨by unfold mq;omega,hr⟩;obtain⟨x,hx,_⟩:=this;cases hx
theorem uj {r:Int} (h0:0≤r) (h1:r<55296) {a:List Rg} (h:fJ [(r,r)] a):a≠[]:=by
 rintro rfl;have:=(h.2 r).2 ⟨?_,?_⟩
 ·obtain⟨x,hx,_⟩:=this;cases hx
 ·unfold mq;omega
 ·exact⟨(r,r),List.mem_cons_self ..,by simp⟩
theorem iy {s0:St} (r:Int):Ev pv 106 [.int .i32 r] s0 (bB (jJ [(r,r)])) s0:=by
 refine Ev.me rfl Ol rfl rfl rfl ?_;dsimp only[u3,u4,List.length,Nat.reduceSub,Nat.reduceAdd,w1,w2];obtain⟨bZ,hF,hH⟩:=ri s0;generalize ai .ro s0=S at*;refine qq<|qj fun K hK=>qm ?_;refine qe hK<|qq<|qj fun K hK=>qm ?_;refine qm ?_;refine ab.fu (qs:=[(0,_),(1,_)]) rfl rfl rfl rfl ⟨rfl,(ev rfl),(by rfl),rfl,(ev rfl),(by rfl),trivial⟩ (by intro q hq;simp only[List.mem_cons,List.not_mem_nil,or_false] at hq;rcases hq with rfl|rfl<;>exact⟨rfl,by exact Nat.le_of_ble_eq_true rfl⟩) (by show List.foldl _ [_,_] _=_;dsimp only[List.foldl_cons,List.foldl_nil,u2,u1]<;>rfl) (ag rfl _) ?_;refine qh (s:=2) (vs:=[_]) hH fun k6 st K' hH=>?_;obtain⟨aI,hl,_⟩:=lp (l:=[(r,r)]) (hH.rows ax) (by simp);refine qv aI ?_;refine qm ?_;refine qe hK<|af.ret ⟨rx,_,rfl,rl bZ hH (rfl)⟩
theorem AH {s0:St} {x:D} {l:List Rg} (hx:V.Rows s0 2 x (l.map au)) (hl:l.length≤131072):∃d,Ev pv 121 [x] s0 d s0∧∃a:List Rg,d=bB a∧a.length≤4*l.length+2:=by
 refine Ev.B_ rfl Og rfl rfl rfl ?_;dsimp only[u3,u4,List.length,Nat.reduceSub,Nat.reduceAdd,w1,w2];obtain⟨bZ,hF,hH⟩:=ri s0;generalize ai .ro s0=S at*;have hx:=Arg.of hx bZ;refine qq<|qj fun K hK=>qm ?_;refine qe hK<|qq<|qj fun K hK=>qm ?_;refine qe hK<|qq<|qj fun K hK=>qm ?_;refine qe hK ?_;obtain⟨aI,Gi,_⟩:=lp (hx.rows hH) (by omega);have hla:=(iB (jJ l)).arg s0.bs.length S;generalize jJ l=m at*;refine qq<|qq<|qj fun K hK=>qm ?_;refine qv (aI) ?_;refine qn ?_;simp only[List.length_map];refine qm ?_;refine qe hK ?_;have hH:=hH.dP 2;refine af.block<|af.loop (fun mm fr st=>∃(i:Nat) (n:Int) (o:D) (out:List Rg),fr.clean=⟨11,[ej fr 0,ej fr 1,ej fr 2,o,.int .i32 n,ej fr 5,ej fr 6,ej fr 7,bB m,.int .i64 (m.length:Nat),.int .i64 (i:Nat)],[]⟩∧Has s0.bs.length S st [.aM o 2 (out.map au)]∧(i+mm=m.length)∧(out.length=i)) (m.length) ?_ ?_
 ·exact⟨0,0,.nul,[],rfl,hH,by omega,rfl⟩
 rintro mm fr st ⟨i,n,o,out,hfr,hH,hi,ho⟩;rw[hfr];clear hfr;generalize ej fr=ee;clear fr;refine qq<|qj fun K hK=>qg ?_;refine qe hK<|qq ?_;refine af.cond (by rfl) (fun h1=>?_) (fun h1=>?_)<;>try simp only[decide_eq_true_eq,decide_eq_false_iff_not] at h1
 ·refine af.skip ?_
  obtain⟨q,hq⟩:∃q,m[i]?=some q:=⟨m[i]'(by omega),List.getElem?_eq_getElem _⟩
  have hr:=eN hq;refine qq<|af.block<|qq<|qj fun K hK=>qr fun S1 Nt=>?_;refine ab.cY rfl (ev rfl) (by assumption) rfl (ag rfl _) ?_;refine qa hH fun k6 st K' hH=>?_;refine qS hH ax fun st hH=>?_;dsimp only[u2,u1,u3,u4,setMany,u5,u6,D.cells,Nat.reduceAdd,au] at hH;refine qe hK<|qq<|qj fun K hK=>qm ?_;refine qm ?_;refine qp (o:=0) ?_;refine ql hH ax ?_;refine ab.nv (z:=bV .i32 (q.1-1)) rfl (ev rfl) (ev rfl) rfl (ag rfl _) ?_;refine ab.fu (qs:=[(0,_),(1,_)]) rfl rfl rfl rfl ⟨rfl,(ev rfl),(by rfl),rfl,(ev rfl),(by rfl),trivial⟩ (by intro q hq;simp only[List.mem_cons,List.not_mem_nil,or_false] at hq;rcases hq with rfl|rfl<;>exact⟨rfl,by exact Nat.le_of_ble_eq_true rfl⟩) (by show List.foldl _ [_,_] _=_;dsimp only[List.foldl_cons,List.foldl_nil,u2,u1]<;>rfl) (ag rfl _) ?_;refine qh (s:=2) (vs:=[_]) hH fun k20 st Qy hH=>?_;refine ab.bQ (s:=2) hH rfl (ev rfl) (ev rfl) (by exact dp) (by exact hH.rows (by exact ax)) rfl rfl rfl rfl rfl rfl rfl ⟨(Nat.le_of_ble_eq_true rfl),(Nat.le_of_ble_eq_true rfl)⟩ (fun _=>(ag rfl _)) (by simp only[List.length_cons,List.length_nil,List.length_map]<;>omega) (by exact .inl hF) (fun WV st hH=>?_);dsimp only[u2,u1,u3,u4,setMany,u5,u6,D.cells,Nat.reduceAdd,au] at hH;refine qm ?_;refine qe hK<|qj fun K hK=>qp (o:=1) ?_;refine ql hH bC ?_;refine ab.jY (z:=bV .i32 (q.2+1)) rfl (ev rfl) (ev rfl) rfl (ag rfl _) ?_;refine qm ?_;refine qe hK<|qj fun K hK=>qA ?_;refine qm ?_;refine qe hK ?_;exact⟨mm-1,by omega,⟨i+1,_,_,out++[(n,bV .i32 (q.1-1))],rfl,(by rw[List.map_append];exact hH.drop 2),by omega,by simp[ho]⟩⟩
 ·refine af.exit<|qq<|qj fun K hK=>qm ?_;refine qm ?_;refine ab.fu (qs:=[(0,_),(1,_)]) rfl rfl rfl rfl ⟨rfl,(ev rfl),(by rfl),rfl,(ev rfl),(by rfl),trivial⟩ (by intro q hq;simp only[List.mem_cons,List.not_mem_nil,or_false] at hq;rcases hq with rfl|rfl<;>exact⟨rfl,by exact Nat.le_of_ble_eq_true rfl⟩) (by show List.foldl _ [_,_] _=_;dsimp only[List.foldl_cons,List.foldl_nil,u2,u1]<;>rfl) (ag rfl _) ?_;refine qh (s:=2) (vs:=[_]) hH fun k29 st VW hH=>?_;refine ab.bQ (s:=2) hH rfl (ev rfl) (ev rfl) (by exact bC) (by exact hH.rows (by exact ax)) rfl rfl rfl rfl rfl rfl rfl ⟨(Nat.le_of_ble_eq_true rfl),(Nat.le_of_ble_eq_true rfl)⟩ (fun _=>(ag rfl _)) (by simp only[List.length_cons,List.length_nil,List.length_map]<;>omega) (by exact .inl hF) (fun WU st hH=>?_);dsimp only[u2,u1,u3,u4,setMany,u5,u6,D.cells,Nat.reduceAdd,au] at hH;obtain⟨aI,pz,_⟩:=lp (l:=out++[(n,1114111)]) (by rw[List.map_append];exact hH.rows bC) (by simp;omega);refine qv aI ?_;refine qm ?_;refine qe hK<|af.ret ⟨rx,_,_,rfl,rl bZ hH (rfl),?_⟩;exact⟨_,rfl,by simp at pz;omega⟩
theorem Ly {s0:St}:∃d,Ev pv 105 [] s0 d s0∧∃a:List Rg,d=bB a∧a.length≤6:=by
 refine Ev.B_ rfl Om rfl rfl rfl ?_;dsimp only[u3,u4,List.length,Nat.reduceSub,Nat.reduceAdd,w1,w2];obtain⟨bZ,hF,hH⟩:=ri s0;generalize ai .ro s0=S at*;refine qq<|qj fun K hK=>qm ?_;refine qe hK<|qq<|qj fun K hK=>?_;refine ab.fu (qs:=[(0,_),(1,_)]) rfl rfl rfl rfl ⟨rfl,(ev rfl),(by rfl),rfl,(ev rfl),(by rfl),trivial⟩ (by intro q hq;simp only[List.mem_cons,List.not_mem_nil,or_false] at hq;rcases hq with rfl|rfl<;>exact⟨rfl,by exact Nat.le_of_ble_eq_true rfl⟩) (by show List.foldl _ [_,_] _=_;dsimp only[List.foldl_cons,List.foldl_nil,u2,u1]<;>rfl) (ag rfl _) ?_;refine qh (s:=2) (vs:=[_]) hH fun k2 st hk2 hH=>?_;obtain⟨_,aI,a,rfl,hl⟩:=AH (l:=[(10,10)]) (hH.rows ax) (by simp);refine qv aI ?_;refine qm ?_;refine qe hK<|af.ret ⟨rx,_,_,rfl,rl bZ hH (rfl),?_⟩;exact⟨a,rfl,hl⟩
theorem FW {s0:St} (r:Int):Ev pv 122 [.int .i32 r] s0 (.bool (decide (33≤r∧r≤47∨58≤r∧r≤64∨91≤r∧r≤96∨123≤r∧r≤126))) s0:=by
 refine Ev.me rfl Of rfl rfl rfl ?_;dsimp only[u3,u4,List.length,Nat.reduceSub,Nat.reduceAdd,w1,w2];obtain⟨bZ,hF,hH⟩:=ri s0;generalize ai .ro s0=S at*;refine qq<|qj fun K hK=>qm ?_;refine qe hK<|qq<|af.lH 2 (.bool (decide (33≤r∧r≤47∨58≤r∧r≤64∨91≤r∧r≤96∨123≤r∧r≤126))) [] ?_ (fun ff tmp=>?_)
 ·refine qm ?_;refine qg ?_;refine qm ?_;refine ab.two 5 rfl (fun bk=>?_) (fun bk=>?_)
  ·refine qm ?_ (hg:=wi bk);refine qg ?_ (hg:=wi bk);refine qt bk ?_;refine qm ?_;refine ab.two 9 rfl (fun dJ=>?_) (fun dJ=>?_)
   ·refine qs ?_ (hg:=wn dJ);refine qs ?_ (hg:=wn dJ);refine qs ?_ (hg:=wn dJ);refine qs ?_;refine qs ?_;refine qs ?_ (hg:=wn dJ);refine qt dJ ?_;refine qm ?_;refine qs ?_;refine qs ?_;refine qs ?_;refine qs ?_;refine qs ?_;refine qs ?_;refine qg ?_;refine qm ?_;refine qs ?_;refine qs ?_;refine qs ?_;refine qs ?_;refine qs ?_;refine qs ?_;refine qg ?_;refine qm ?_;refine ab.nil (aZ ?_);dsimp only[aO,List.foldl,nth,u2,u1];dsimp only[Fr.aE,Fr.put,Fr.clean,Fr.ev,Fr.get,nth,V.look,u1,u2,v1,v2,v3,v4,v5,v6,v7,List.length,u3,u4,Nat.reduceSub,Nat.reduceAdd,List.map]
    all_goals(simp[bk,dJ];done)
   ·refine qm ?_ (hg:=wi dJ);refine qg ?_ (hg:=wi dJ);refine qm ?_ (hg:=wi dJ);refine ab.two 12 rfl (fun cz=>?_) (fun cz=>?_)
    ·refine qm ?_ (hg:=wi cz);refine qg ?_ (hg:=wi cz);refine ab.dO (aC rfl rfl rfl dJ) rfl cz (ag rfl _) ?_;refine qu dJ ?_;refine qm ?_;refine ab.two 17 rfl (fun dg=>?_) (fun dg=>?_)
     ·refine qs ?_ (hg:=wn dg);refine qs ?_ (hg:=wn dg);refine qs ?_ (hg:=wn dg);refine qs ?_;refine qs ?_;refine qs ?_ (hg:=wn dg);refine qt dg ?_;refine qm ?_;refine qs ?_;refine qs ?_;refine qs ?_;refine qs ?_;refine qs ?_;refine qs ?_;refine qg ?_;refine qm ?_;refine ab.nil (aZ ?_);dsimp only[aO,List.foldl,nth,u2,u1];dsimp only[Fr.aE,Fr.put,Fr.clean,Fr.ev,Fr.get,nth,V.look,u1,u2,v1,v2,v3,v4,v5,v6,v7,List.length,u3,u4,Nat.reduceSub,Nat.reduceAdd,List.map]
      all_goals(simp[bk,dJ,cz,dg];done)
     ·refine qm ?_ (hg:=wi dg);refine qg ?_ (hg:=wi dg);refine qm ?_ (hg:=wi dg);refine ab.two 20 rfl (fun bc=>?_) (fun bc=>?_)
      ·refine qm ?_ (hg:=wi bc);refine qg ?_ (hg:=wi bc);refine ab.dO (aC rfl rfl rfl dg) rfl bc (ag rfl _) ?_;refine qu dg ?_;refine qm ?_;refine ab.two 25 rfl (fun bp=>?_) (fun bp=>?_)
       ·refine qs ?_ (hg:=wn bp);refine qs ?_ (hg:=wn bp);refine qs ?_ (hg:=wn bp);refine qs ?_;refine qs ?_;refine qs ?_ (hg:=wn bp);refine qt bp ?_;refine qm ?_;refine ab.nil (aZ ?_);dsimp only[aO,List.foldl,nth,u2,u1];dsimp only[Fr.aE,Fr.put,Fr.clean,Fr.ev,Fr.get,nth,V.look,u1,u2,v1,v2,v3,v4,v5,v6,v7,List.length,u3,u4,Nat.reduceSub,Nat.reduceAdd,List.map]
        all_goals(simp[bk,dJ,cz,dg,bc,bp];done)
       ·refine qm ?_ (hg:=wi bp);refine qg ?_ (hg:=wi bp);refine qm ?_ (hg:=wi bp);refine ab.two 28 rfl (fun bf=>?_) (fun bf=>?_)
        ·refine qm ?_ (hg:=wi bf);refine qg ?_ (hg:=wi bf);refine ab.dO (aC rfl rfl rfl bp) rfl bf (ag rfl _) ?_;refine qu bp ?_;refine qm ?_;refine ab.nil (aZ ?_);dsimp only[aO,List.foldl,nth,u2,u1];dsimp only[Fr.aE,Fr.put,Fr.clean,Fr.ev,Fr.get,nth,V.look,u1,u2,v1,v2,v3,v4,v5,v6,v7,List.length,u3,u4,Nat.reduceSub,Nat.reduceAdd,List.map]
         all_goals(simp[bk,dJ,cz,dg,bc,bp,bf];done)
        ·refine qs ?_ (hg:=wn bf);refine qs ?_ (hg:=wn bf);refine ab.cZ (aC rfl rfl rfl bp) rfl bf (ag rfl _) ?_;refine qu bp ?_;refine qm ?_;refine ab.nil (aZ ?_);dsimp only[aO,List.foldl,nth,u2,u1];dsimp only[Fr.aE,Fr.put,Fr.clean,Fr.ev,Fr.get,nth,V.look,u1,u2,v1,v2,v3,v4,v5,v6,v7,List.length,u3,u4,Nat.reduceSub,Nat.reduceAdd,List.map]
         all_goals(simp[bk,dJ,cz,dg,bc,bp,bf];done)
      ·refine qs ?_ (hg:=wn bc);refine qs ?_ (hg:=wn bc);refine ab.cZ (aC rfl rfl rfl dg) rfl bc (ag rfl _) ?_;refine qu dg ?_;refine qm ?_;refine qm ?_;refine qg ?_;refine qm ?_;refine ab.two 28 rfl (fun bf=>?_) (fun bf=>?_)
       ·refine qm ?_ (hg:=wi bf);refine qg ?_ (hg:=wi bf);refine qt bf ?_;refine qg ?_;refine qm ?_;refine ab.nil (aZ ?_);dsimp only[aO,List.foldl,nth,u2,u1];dsimp only[Fr.aE,Fr.put,Fr.clean,Fr.ev,Fr.get,nth,V.look,u1,u2,v1,v2,v3,v4,v5,v6,v7,List.length,u3,u4,Nat.reduceSub,Nat.reduceAdd,List.map]
        all_goals(simp[bk,dJ,cz,dg,bc,bf];done)
       ·refine qs ?_ (hg:=wn bf);refine qs ?_ (hg:=wn bf);refine qu bf ?_;refine qg ?_;refine qm ?_;refine ab.nil (aZ ?_);dsimp only[aO,List.foldl,nth,u2,u1];dsimp only[Fr.aE,Fr.put,Fr.clean,Fr.ev,Fr.get,nth,V.look,u1,u2,v1,v2,v3,v4,v5,v6,v7,List.length,u3,u4,Nat.reduceSub,Nat.reduceAdd,List.map]
        all_goals(simp[bk,dJ,cz,dg,bc,bf];done)
    ·refine qs ?_ (hg:=wn cz);refine qs ?_ (hg:=wn cz);refine ab.cZ (aC rfl rfl rfl dJ) rfl cz (ag rfl _) ?_;refine qu dJ ?_;refine qm ?_;refine qm ?_;refine qg ?_;refine qm ?_;refine ab.two 20 rfl (fun bc=>?_) (fun bc=>?_)
     ·refine qm ?_ (hg:=wi bc);refine qg ?_ (hg:=wi bc);refine qt bc ?_;refine qg ?_;refine qm ?_;refine ab.two 25 rfl (fun bp=>?_) (fun bp=>?_)
      ·refine qs ?_ (hg:=wn bp);refine qs ?_ (hg:=wn bp);refine qs ?_ (hg:=wn bp);refine qs ?_;refine qs ?_;refine qs ?_ (hg:=wn bp);refine qt bp ?_;refine qm ?_;refine ab.nil (aZ ?_);dsimp only[aO,List.foldl,nth,u2,u1];dsimp only[Fr.aE,Fr.put,Fr.clean,Fr.ev,Fr.get,nth,V.look,u1,u2,v1,v2,v3,v4,v5,v6,v7,List.length,u3,u4,Nat.reduceSub,Nat.reduceAdd,List.map]
       all_goals(simp[bk,dJ,cz,bc,bp];done)
      ·refine qm ?_ (hg:=wi bp);refine qg ?_ (hg:=wi bp);refine qm ?_ (hg:=wi bp);refine ab.two 28 rfl (fun bf=>?_) (fun bf=>?_)
       ·refine qm ?_ (hg:=wi bf);refine qg ?_ (hg:=wi bf);refine ab.dO (aC rfl rfl rfl bp) rfl bf (ag rfl _) ?_;refine qu bp ?_;refine qm ?_;refine ab.nil (aZ ?_);dsimp only[aO,List.foldl,nth,u2,u1];dsimp only[Fr.aE,Fr.put,Fr.clean,Fr.ev,Fr.get,nth,V.look,u1,u2,v1,v2,v3,v4,v5,v6,v7,List.length,u3,u4,Nat.reduceSub,Nat.reduceAdd,List.map]
        all_goals(simp[bk,dJ,cz,bc,bp,bf];done)
       ·refine qs ?_ (hg:=wn bf);refine qs ?_ (hg:=wn bf);refine ab.cZ (aC rfl rfl rfl bp) rfl bf (ag rfl _) ?_;refine qu bp ?_;refine qm ?_;refine ab.nil (aZ ?_);dsimp only[aO,List.foldl,nth,u2,u1];dsimp only[Fr.aE,Fr.put,Fr.clean,Fr.ev,Fr.get,nth,V.look,u1,u2,v1,v2,v3,v4,v5,v6,v7,List.length,u3,u4,Nat.reduceSub,Nat.reduceAdd,List.map]
        all_goals(simp[bk,dJ,cz,bc,bp,bf];done)
     ·refine qs ?_ (hg:=wn bc);refine qs ?_ (hg:=wn bc);refine qu bc ?_;refine qg ?_;refine qm ?_;refine qm ?_;refine qg ?_;refine qm ?_;refine ab.two 28 rfl (fun bf=>?_) (fun bf=>?_)
      ·refine qm ?_ (hg:=wi bf);refine qg ?_ (hg:=wi bf);refine qt bf ?_;refine qg ?_;refine qm ?_;refine ab.nil (aZ ?_);dsimp only[aO,List.foldl,nth,u2,u1];dsimp only[Fr.aE,Fr.put,Fr.clean,Fr.ev,Fr.get,nth,V.look,u1,u2,v1,v2,v3,v4,v5,v6,v7,List.length,u3,u4,Nat.reduceSub,Nat.reduceAdd,List.map]
       all_goals(simp[bk,dJ,cz,bc,bf];done)
      ·refine qs ?_ (hg:=wn bf);refine qs ?_ (hg:=wn bf);refine qu bf ?_;refine qg ?_;refine qm ?_;refine ab.nil (aZ ?_);dsimp only[aO,List.foldl,nth,u2,u1];dsimp only[Fr.aE,Fr.put,Fr.clean,Fr.ev,Fr.get,nth,V.look,u1,u2,v1,v2,v3,v4,v5,v6,v7,List.length,u3,u4,Nat.reduceSub,Nat.reduceAdd,List.map]
       all_goals(simp[bk,dJ,cz,bc,bf];done)
  ·refine qs ?_ (hg:=wn bk);refine qs ?_ (hg:=wn bk);refine qu bk ?_;refine qm ?_;refine qm ?_;refine qg ?_;refine qm ?_;refine ab.two 12 rfl (fun cz=>?_) (fun cz=>?_)
   ·refine qm ?_ (hg:=wi cz);refine qg ?_ (hg:=wi cz);refine qt cz ?_;refine qg ?_;refine qm ?_;refine ab.two 17 rfl (fun dg=>?_) (fun dg=>?_)
    ·refine qs ?_ (hg:=wn dg);refine qs ?_ (hg:=wn dg);refine qs ?_ (hg:=wn dg);refine qs ?_;refine qs ?_;refine qs ?_ (hg:=wn dg);refine qt dg ?_;refine qm ?_;refine qs ?_;refine qs ?_;refine qs ?_;refine qs ?_;refine qs ?_;refine qs ?_;refine qg ?_;refine qm ?_;refine ab.nil (aZ ?_);dsimp only[aO,List.foldl,nth,u2,u1];dsimp only[Fr.aE,Fr.put,Fr.clean,Fr.ev,Fr.get,nth,V.look,u1,u2,v1,v2,v3,v4,v5,v6,v7,List.length,u3,u4,Nat.reduceSub,Nat.reduceAdd,List.map]
     all_goals(simp[bk,cz,dg];done)
    ·refine qm ?_ (hg:=wi dg);refine qg ?_ (hg:=wi dg);refine qm ?_ (hg:=wi dg);refine ab.two 20 rfl (fun bc=>?_) (fun bc=>?_)
     ·refine qm ?_ (hg:=wi bc);refine qg ?_ (hg:=wi bc);refine ab.dO (aC rfl rfl rfl dg) rfl bc (ag rfl _) ?_;refine qu dg ?_;refine qm ?_;refine ab.two 25 rfl (fun bp=>?_) (fun bp=>?_)
      ·refine qs ?_ (hg:=wn bp);refine qs ?_ (hg:=wn bp);refine qs ?_ (hg:=wn bp);refine qs ?_;refine qs ?_;refine qs ?_ (hg:=wn bp);refine qt bp ?_;refine qm ?_;refine ab.nil (aZ ?_);dsimp only[aO,List.foldl,nth,u2,u1];dsimp only[Fr.aE,Fr.put,Fr.clean,Fr.ev,Fr.get,nth,V.look,u1,u2,v1,v2,v3,v4,v5,v6,v7,List.length,u3,u4,Nat.reduceSub,Nat.reduceAdd,List.map]
       all_goals(simp[bk,cz,dg,bc,bp];done)
      ·refine qm ?_ (hg:=wi bp);refine qg ?_ (hg:=wi bp);refine qm ?_ (hg:=wi bp);refine ab.two 28 rfl (fun bf=>?_) (fun bf=>?_)
       ·refine qm ?_ (hg:=wi bf);refine qg ?_ (hg:=wi bf);refine ab.dO (aC rfl rfl rfl bp) rfl bf (ag rfl _) ?_;refine qu bp ?_;refine qm ?_;refine ab.nil (aZ ?_);dsimp only[aO,List.foldl,nth,u2,u1];dsimp only[Fr.aE,Fr.put,Fr.clean,Fr.ev,Fr.get,nth,V.look,u1,u2,v1,v2,v3,v4,v5,v6,v7,List.length,u3,u4,Nat.reduceSub,Nat.reduceAdd,List.map]
        all_goals(simp[bk,cz,dg,bc,bp,bf];done)
       ·refine qs ?_ (hg:=wn bf);refine qs ?_ (hg:=wn bf);refine ab.cZ (aC rfl rfl rfl bp) rfl bf (ag rfl _) ?_;refine qu bp ?_;refine qm ?_;refine ab.nil (aZ ?_);dsimp only[aO,List.foldl,nth,u2,u1];dsimp only[Fr.aE,Fr.put,Fr.clean,Fr.ev,Fr.get,nth,V.look,u1,u2,v1,v2,v3,v4,v5,v6,v7,List.length,u3,u4,Nat.reduceSub,Nat.reduceAdd,List.map]
        all_goals(simp[bk,cz,dg,bc,bp,bf];done)
     ·refine qs ?_ (hg:=wn bc);refine qs ?_ (hg:=wn bc);refine ab.cZ (aC rfl rfl rfl dg) rfl bc (ag rfl _) ?_;refine qu dg ?_;refine qm ?_;refine qm ?_;refine qg ?_;refine qm ?_;refine ab.two 28 rfl (fun bf=>?_) (fun bf=>?_)
      ·refine qm ?_ (hg:=wi bf);refine qg ?_ (hg:=wi bf);refine qt bf ?_;refine qg ?_;refine qm ?_;refine ab.nil (aZ ?_);dsimp only[aO,List.foldl,nth,u2,u1];dsimp only[Fr.aE,Fr.put,Fr.clean,Fr.ev,Fr.get,nth,V.look,u1,u2,v1,v2,v3,v4,v5,v6,v7,List.length,u3,u4,Nat.reduceSub,Nat.reduceAdd,List.map]
       all_goals(simp[bk,cz,dg,bc,bf];done)
      ·refine qs ?_ (hg:=wn bf);refine qs ?_ (hg:=wn bf);refine qu bf ?_;refine qg ?_;refine qm ?_;refine ab.nil (aZ ?_);dsimp only[aO,List.foldl,nth,u2,u1];dsimp only[Fr.aE,Fr.put,Fr.clean,Fr.ev,Fr.get,nth,V.look,u1,u2,v1,v2,v3,v4,v5,v6,v7,List.length,u3,u4,Nat.reduceSub,Nat.reduceAdd,List.map]
       all_goals(simp[bk,cz,dg,bc,bf];done)
   ·refine qs ?_ (hg:=wn cz);refine qs ?_ (hg:=wn cz);refine qu cz ?_;refine qg ?_;refine qm ?_;refine qm ?_;refine qg ?_;refine qm ?_;refine ab.two 20 rfl (fun bc=>?_) (fun bc=>?_)
    ·refine qm ?_ (hg:=wi bc);refine qg ?_ (hg:=wi bc);refine qt bc ?_;refine qg ?_;refine qm ?_;refine ab.two 25 rfl (fun bp=>?_) (fun bp=>?_)
     ·refine qs ?_ (hg:=wn bp);refine qs ?_ (hg:=wn bp);refine qs ?_ (hg:=wn bp);refine qs ?_;refine qs ?_;refine qs ?_ (hg:=wn bp);refine qt bp ?_;refine qm ?_;refine ab.nil (aZ ?_);dsimp only[aO,List.foldl,nth,u2,u1];dsimp only[Fr.aE,Fr.put,Fr.clean,Fr.ev,Fr.get,nth,V.look,u1,u2,v1,v2,v3,v4,v5,v6,v7,List.length,u3,u4,Nat.reduceSub,Nat.reduceAdd,List.map]
      all_goals(simp[bk,cz,bc,bp];done)
     ·refine qm ?_ (hg:=wi bp);refine qg ?_ (hg:=wi bp);refine qm ?_ (hg:=wi bp);refine ab.two 28 rfl (fun bf=>?_) (fun bf=>?_)
      ·refine qm ?_ (hg:=wi bf);refine qg ?_ (hg:=wi bf);refine ab.dO (aC rfl rfl rfl bp) rfl bf (ag rfl _) ?_;refine qu bp ?_;refine qm ?_;refine ab.nil (aZ ?_);dsimp only[aO,List.foldl,nth,u2,u1];dsimp only[Fr.aE,Fr.put,Fr.clean,Fr.ev,Fr.get,nth,V.look,u1,u2,v1,v2,v3,v4,v5,v6,v7,List.length,u3,u4,Nat.reduceSub,Nat.reduceAdd,List.map]
       all_goals(simp[bk,cz,bc,bp,bf];done)
      ·refine qs ?_ (hg:=wn bf);refine qs ?_ (hg:=wn bf);refine ab.cZ (aC rfl rfl rfl bp) rfl bf (ag rfl _) ?_;refine qu bp ?_;refine qm ?_;refine ab.nil (aZ ?_);dsimp only[aO,List.foldl,nth,u2,u1];dsimp only[Fr.aE,Fr.put,Fr.clean,Fr.ev,Fr.get,nth,V.look,u1,u2,v1,v2,v3,v4,v5,v6,v7,List.length,u3,u4,Nat.reduceSub,Nat.reduceAdd,List.map]
       all_goals(simp[bk,cz,bc,bp,bf];done)
    ·refine qs ?_ (hg:=wn bc);refine qs ?_ (hg:=wn bc);refine qu bc ?_;refine qg ?_;refine qm ?_;refine qm ?_;refine qg ?_;refine qm ?_;refine ab.two 28 rfl (fun bf=>?_) (fun bf=>?_)
     ·refine qm ?_ (hg:=wi bf);refine qg ?_ (hg:=wi bf);refine qt bf ?_;refine qg ?_;refine qm ?_;refine ab.nil (aZ ?_);dsimp only[aO,List.foldl,nth,u2,u1];dsimp only[Fr.aE,Fr.put,Fr.clean,Fr.ev,Fr.get,nth,V.look,u1,u2,v1,v2,v3,v4,v5,v6,v7,List.length,u3,u4,Nat.reduceSub,Nat.reduceAdd,List.map]
      all_goals(simp[bk,cz,bc,bf];done)
     ·refine qs ?_ (hg:=wn bf);refine qs ?_ (hg:=wn bf);refine qu bf ?_;refine qg ?_;refine qm ?_;refine ab.nil (aZ ?_);dsimp only[aO,List.foldl,nth,u2,u1];dsimp only[Fr.aE,Fr.put,Fr.clean,Fr.ev,Fr.get,nth,V.look,u1,u2,v1,v2,v3,v4,v5,v6,v7,List.length,u3,u4,Nat.reduceSub,Nat.reduceAdd,List.map]
      all_goals(simp[bk,cz,bc,bf];done)
 dsimp only[aO,List.foldl,nth,u2,u1];refine af.ret ⟨rx,_,rfl,rl bZ hH (rfl)⟩
theorem FX {s0:St} (a b:List UInt8):∃d,Ev pv 108 [.str a,.str b] s0 d s0∧∃v:Bool,d=.bool v:=by
 refine Ev.B_ rfl Oj rfl rfl rfl ?_;dsimp only[u3,u4,List.length,Nat.reduceSub,Nat.reduceAdd,w1,w2];obtain⟨bZ,hF,hH⟩:=ri s0;generalize ai .ro s0=S at*;refine qq<|qj fun K hK=>qm ?_;refine qe hK<|qq<|af.lH 4 (.bool (decide ((a.length:Int)<b.length)||(((a.length:Int)==b.length) &&Op.bytesLess a b))) [] ?_ (fun ff tmp=>?_)
 ·refine qm ?_;refine ab.tw rfl rfl rfl (ag rfl _) ?_;refine qm ?_;refine ab.tw rfl rfl rfl (ag rfl _) ?_;refine qg ?_;refine qm ?_;refine ab.two 10 rfl (fun a7=>?_) (fun a7=>?_)
  ·refine qs ?_ (hg:=wn a7);refine qs ?_ (hg:=wn a7);refine qs ?_ (hg:=wn a7);refine qs ?_ (hg:=wn a7);refine qs ?_ (hg:=wn a7);refine qs ?_ (hg:=wn a7);refine qs ?_;refine qs ?_;refine qs ?_;refine qs ?_ (hg:=wn a7);refine qt a7 ?_;refine qm ?_;refine ab.nil (aZ ?_);dsimp only[aO,List.foldl,nth,u2,u1];dsimp only[Fr.aE,Fr.put,Fr.clean,Fr.ev,Fr.get,nth,V.look,u1,u2,v1,v2,v3,v4,v5,v6,v7,List.length,u3,u4,Nat.reduceSub,Nat.reduceAdd,List.map]
   all_goals(simp_all;done)
  ·refine qm ?_ (hg:=wi a7);refine ab.tw (aC rfl rfl rfl a7) rfl rfl (ag rfl _) ?_;refine qm ?_ (hg:=wi a7);refine ab.tw (aC rfl rfl rfl a7) rfl rfl (ag rfl _) ?_;refine qg ?_ (hg:=wi a7);refine qm ?_ (hg:=wi a7);refine ab.two 16 rfl (fun bj=>?_) (fun bj=>?_)
   ·refine qm ?_ (hg:=wi bj);refine qm ?_ (hg:=wi bj);refine qg ?_ (hg:=wi bj);refine ab.dO (aC rfl rfl rfl a7) rfl bj (ag rfl _) ?_;refine qu a7 ?_;refine qm ?_;refine ab.nil (aZ ?_);dsimp only[aO,List.foldl,nth,u2,u1];dsimp only[Fr.aE,Fr.put,Fr.clean,Fr.ev,Fr.get,nth,V.look,u1,u2,v1,v2,v3,v4,v5,v6,v7,List.length,u3,u4,Nat.reduceSub,Nat.reduceAdd,List.map]
    all_goals(simp_all;done)
   ·refine qs ?_ (hg:=wn bj);refine qs ?_ (hg:=wn bj);refine qs ?_ (hg:=wn bj);refine ab.cZ (aC rfl rfl rfl a7) rfl bj (ag rfl _) ?_;refine qu a7 ?_;refine qm ?_;refine ab.nil (aZ ?_);dsimp only[aO,List.foldl,nth,u2,u1];dsimp only[Fr.aE,Fr.put,Fr.clean,Fr.ev,Fr.get,nth,V.look,u1,u2,v1,v2,v3,v4,v5,v6,v7,List.length,u3,u4,Nat.reduceSub,Nat.reduceAdd,List.map]
    all_goals(simp_all;done)
 dsimp only[aO,List.foldl,nth,u2,u1];refine af.ret ⟨rx,_,_,rfl,rl bZ hH (rfl),?_⟩;exact⟨_,rfl⟩
theorem k_ {s0:St} (b:List UInt8) (hb:b.length≤1048576):∃d,Ev pv 109 [.str b] s0 d s0∧∃(n:Int) (v:Bool),d=.tup [.int .i64 n,.bool v]:=by
 refine Ev.B_ rfl Oi rfl rfl rfl ?_;dsimp only[u3,u4,List.length,Nat.reduceSub,Nat.reduceAdd,w1,w2];obtain⟨bZ,hF,hH⟩:=ri s0;generalize ai .ro s0=S at*;refine qq<|qj fun K hK=>qm ?_;refine qm ?_;refine qe hK<|qq<|qq<|qj fun K hK=>qm ?_;refine ab.tw rfl rfl rfl (by dsimp only[Fr.put,u1,u2]<;>rfl) ?_;refine qg ?_;refine qe hK ?_;refine af.cond (by rfl) (fun h0=>?_) (fun h0=>?_)<;>try simp only[decide_eq_true_eq,decide_eq_false_iff_not] at h0
 ·refine qq<|qj fun K hK=>qm ?_;refine qm ?_;refine qe hK<|af.ret ⟨rx,_,_,rfl,rl bZ hH (rfl),?_⟩;exact⟨_,_,rfl⟩
 ·refine af.skip<|qq<|qj fun K hK=>qm ?_;refine qe hK<|qq<|qq<|qj fun K hK=>qm ?_;refine ab.tw rfl rfl rfl (by dsimp only[Fr.put,u1,u2]<;>rfl) ?_;refine qm ?_;refine qe hK<|af.block<|af.loop (fun mm fr st=>∃(i:Nat) (n:Int),fr.clean=⟨12,[.str b,ej fr 1,ej fr 2,ej fr 3,.int .i64 n,ej fr 5,ej fr 6,ej fr 7,ej fr 8,ej fr 9,.int .i64 (b.length:Nat),.int .i64 (i:Nat)],[]⟩∧Has s0.bs.length S st []∧(i+mm=b.length)) (b.length) ?_ ?_
  ·exact⟨0,0,rfl,hH,by omega⟩
  rintro mm fr st ⟨i,n,hfr,hH,hi⟩;rw[hfr];clear hfr;generalize ej fr=ee;clear fr;refine qq<|qj fun K hK=>qg ?_;refine qe hK<|qq ?_;refine af.cond (by rfl) (fun h1=>?_) (fun h1=>?_)<;>try simp only[decide_eq_true_eq,decide_eq_false_iff_not] at h1
  ·refine af.skip ?_
   obtain⟨c,hc⟩:∃c,b[i]?=some c:=⟨b[i]'(by omega),List.getElem?_eq_getElem _⟩
   refine qq<|af.block<|qq<|qj fun K hK=>qm ?_;refine qm ?_;refine qe hK<|qj fun K hK=>qm ?_;refine ab.vY (z:=bV .i64 (10*n)) rfl (ev rfl) (ev rfl) rfl (ag rfl _) ?_;refine qm ?_;refine qm ?_;refine ab.O7 rfl (ev rfl) (ev rfl) rfl (by assumption) (ag rfl _) ?_;refine ab.go (d:=.int .u8 (bV .u8 ((c.toNat:Nat)-48))) (st1:=_) rfl rfl rfl (ag rfl _) ?_;refine qg ?_;refine ab.jY (z:=bV .i64 (bV .i64 (10*n)+bV .i64 (bV .u8 ((c.toNat:Nat)-48)))) rfl (ev rfl) (ev rfl) rfl (ag rfl _) ?_;refine qm ?_;refine qe hK<|qj fun K hK=>qA ?_;refine qm ?_;refine qe hK ?_;exact⟨mm-1,by omega,⟨i+1,_,rfl,hH,by omega⟩⟩
  ·refine af.exit<|qq<|qj fun K hK=>qm ?_;refine qm ?_;refine qg ?_;refine qm ?_;refine qm ?_;refine qe hK<|af.ret ⟨rx,_,_,rfl,rl bZ hH (rfl),?_⟩;exact⟨_,_,rfl⟩
theorem mV:∀gs:List (Nat×Nat),iV ((gs.map bh).map (jr 2))=some (gs.map fun g=>((g.1:Nat):Int))
 |[]=>rfl
 |g::gs=>by
  have ih:=mV gs;simp only[List.map_cons];show(match iV ((gs.map bh).map (jr 2)) with|some rs=>some (((g.1:Nat):Int)::rs)|none=>none)=_;rw[ih]
theorem uY:∀(rs:List Int) (acc:List UInt8),(digS rs acc).2≤rs.length∧(digS rs acc).1.length≤acc.length+(digS rs acc).2
 |[],acc=>by simp[digS]
 |r::rs,acc=>by
  unfold digS
  split
  ·have h:=uY rs (if 48<r∨acc≠[] then acc++[UInt8.ofNat r.toNat] else acc);simp only[List.length_cons]
   have hl:(if 48<r∨acc≠[] then acc++[UInt8.ofNat r.toNat] else acc).length≤acc.length+1:=by
    split<;>simp
   omega
  ·simp
structure jZ (gs:List (Nat×Nat)) (bT:List Int):Prop where
 gl:gs.length≤120
 pl:bT.length=gs.length
theorem rr {N k:Nat} {S s0:St} {H:List bF} {gs:List (Nat×Nat)} {bJ:D} {s:eC} (sP:gs.length≤120) (hi:s.i≤gs.length) (hne:gs≠[]) (hH:Has N S s0 (.box k (.mem 0 false (aS gs bJ s))::H)):
  ∃d ah,Ev pv 107 [.ptr k 0 0] s0 d ah∧∃(t:List UInt8) (v:Bool) (m:Nat),d=.tup [.str t,.bool v]∧t.length≤120∧s.i+m≤gs.length∧Has N S ah (.box k (.mem 0 false (aS gs bJ {s with i:=s.i+m}))::H):=by
 have hb:=hH.at ax;have hw:=iL (cs:=[.int .i64 0]) hH (hH.ge ax).1 (.inr rfl);have hl:=uY ((gs.map fun g=>((g.1:Nat):Int)).drop s.i) [];obtain⟨h1,h2⟩:=hl;simp only[List.length_drop,List.length_map,List.length_nil] at h1 h2;refine⟨_,_,Ev.iY rfl ?_,(digS ((gs.map fun g=>((g.1:Nat):Int)).drop s.i) []).1,decide (0<(digS ((gs.map fun g=>((g.1:Nat):Int)).drop s.i) []).2),(digS ((gs.map fun g=>((g.1:Nat):Int)).drop s.i) []).2,rfl,by omega,by omega,hH.z8 (ay:=0) ax⟩
 have hd:decide ((gs.map fun g=>((g.1:Nat):Int))≠[]∧(0:Int)≤(s.i:Nat)∧((s.i:Nat):Int).toNat≤(gs.map fun g=>((g.1:Nat):Int)).length∧(gs.map fun g=>((g.1:Nat):Int)).length<1099511627776)=true:=by
  rw[decide_eq_true];refine⟨by simpa using hne,by omega,by simp;omega,by simp;omega⟩
 show zk [.ptr k 0 0] s0=_;simp only[zk,St.mem_of hb];show(match iV ((gs.map bh).map (jr 2)) with|some rs=>GA s0 k 0 0 rs (s.i:Nat)|none=>none)=_;rw[mV];simp only[GA,hd];have hwr:=kE (cs:=[.int .i64 ((s.i+(digS ((gs.map fun g=>((g.1:Nat):Int)).drop s.i) []).2:Nat))]) (off:=2) hb (by show 2+1≤7;omega) hw;simp only[Int.toNat_natCast,Nat.zero_add];rw[hwr]
 rfl
def B3 (gs:List (Nat×Nat)) (s s':eC) (d1:D) (b:Bool):Prop:=
 s'.o=s.o∧s'.g=s.g∧s.i≤s'.i∧s'.i≤gs.length∧(d1=.nul∨∃a,d1=bB a∧a.length≤8)∧(s'.e≠0∨s'.e=0∧s.i<s'.i∧∃a,d1=bB a∧a.length≤8∧a≠[])
theorem cV {bT:List Int} {s:eC} {i:Nat} {e:Int} (he:s.e=0) (h:e≠0):(h_ bT s i e).e≠0∧(h_ bT s i e).i=s.i∧(h_ bT s i e).o=s.o∧(h_ bT s i e).g=s.g:=by
 unfold h_;rw[if_pos he];exact⟨h,rfl,rfl,rfl⟩
theorem xl {N k:Nat} {S s0:St} {H:List bF} {gs:List (Nat×Nat)} {bJ:D} {bT:List Int} {s:eC} (ba:jZ gs bT) (he:s.e=0) (hi:s.i<gs.length) (hH:Has N S s0 (.box k (.mem 0 false (aS gs bJ s))::.aM bJ 1 (bT.map av)::H)):
  ∃d ah,Ev pv 104 [.ptr k 0 0] s0 d ah∧∃(d1:D) (b:Bool) (s':eC),d=.tup [d1,.bool b]∧B3 gs s s' d1 b∧Has N S ah (.box k (.mem 0 false (aS gs bJ s'))::.aM bJ 1 (bT.map av)::H):=by
 have sP:=ba.gl;have ij:=ba.pl;refine Ev.i7 rfl On rfl rfl rfl ?_;dsimp only[u3,u4,List.length,Nat.reduceSub,Nat.reduceAdd,w1,w2];have cp:=hH;have hH:=hH.ct;have cn:(ai .rw s0).bs=s0.bs:=rfl;generalize ai .rw s0=S2 at*;have Gm:Arg N S2 2 (eO gs) (gs.map bh):=Arg.pure (fun st=>dr st gs);refine qq<|qj fun K hK=>qm ?_;refine qm ?_;refine qe hK<|qq<|qj fun K hK=>qm ?_;refine qg ?_;refine qp (o:=2) ?_;refine ql hH ax ?_;refine qm ?_;refine qe hK<|qq<|qj fun K hK=>qm ?_;refine qg ?_;refine qp (o:=2) ?_;refine ql hH ax ?_;refine qA ?_;refine qg ?_;refine qp (o:=2) ?_;refine qT hH ax fun st hH=>?_;dsimp only[u2,u1,u3,u4,setMany,u5,u6,D.cells,Nat.reduceAdd,aS,bh,av,au] at hH;refine qe hK<|qq<|qq<|qj fun K hK=>qm ?_;refine qg ?_;refine qp (o:=2) ?_;refine ql hH ax ?_;refine qm ?_;refine qg ?_;refine qp (o:=0) ?_;refine ql hH ax ?_;refine qn ?_;simp only[List.length_map];refine qg ?_;refine qe hK ?_;refine af.cond (by rfl) (fun h0=>?_) (fun h0=>?_)<;>try simp only[decide_eq_true_eq,decide_eq_false_iff_not] at h0
 ·refine qq<|qj fun K hK=>qm ?_;refine qm ?_;obtain⟨_,st,aI,rfl,hH⟩:=cL (s:={s with i:=s.i+1}) s.i 4 (by omega) hH;refine qv aI ?_;refine qe hK<|qq<|qj fun K hK=>qm ?_;refine qm ?_;refine qe hK ?_;obtain⟨h1,h2,h3,h4⟩:=cV (bT:=bT) (s:={s with i:=s.i+1}) (i:=s.i) (e:=4) he (by decide);refine af.ret ⟨rx,_,_,_,rfl,aj (rfl),?_⟩;exact⟨_,_,_,rfl,⟨h3,h4,by rw[h2];simp,by rw[h2];exact hi,.inl rfl,.inl h1⟩,cp.aw cn hH⟩
 ·obtain⟨g,hg⟩:∃g,gs[s.i+1]?=some g:=⟨gs[s.i+1]'(by omega),List.getElem?_eq_getElem _⟩
  have gk:(gs.map bh)[s.i+1]?=some (bh g):=by rw[List.getElem?_map,hg];rfl
  have hlt:=bz hg;refine af.skip<|qq<|qq<|qj fun K hK=>qm ?_;refine qm ?_;refine qg ?_;refine qp (o:=2) ?_;refine ql hH ax ?_;obtain⟨_,st,aI,rfl,hH⟩:=wX (s:={s with i:=s.i+1}) (s.i+1) hlt hH;refine qv aI ?_;refine qe hK ?_;dsimp only[aS] at hH;refine qc (fun hb=>?_) (fun hb=>?_)<;>try simp only[cs] at hb
  ·refine qq<|qj fun K hK=>qm ?_;refine qm ?_;refine qg ?_;refine qp (o:=2) ?_;refine ql hH ax ?_;obtain⟨_,st,aI,rfl,hH⟩:=cL (s:={s with i:=s.i+1}) (s.i+1) 4 (by omega) hH;refine qv aI ?_;refine qe hK<|qq<|qj fun K hK=>qm ?_;refine qm ?_;refine qe hK ?_;obtain⟨h1,h2,h3,h4⟩:=cV (bT:=bT) (s:={s with i:=s.i+1}) (i:=s.i+1) (e:=4) he (by decide);refine af.ret ⟨rx,_,_,_,rfl,aj (rfl),?_⟩;exact⟨_,_,_,rfl,⟨h3,h4,by rw[h2];simp,by rw[h2];exact hi,.inl rfl,.inl h1⟩,cp.aw cn hH⟩
  ·refine af.skip<|qq<|qj fun K hK=>qm ?_;refine qg ?_;refine qp (o:=0) ?_;refine ql hH ax ?_;refine qm ?_;refine qg ?_;refine qp (o:=2) ?_;refine ql hH ax ?_;refine qr fun SR Ni=>?_;refine qf (fo:=0) fun Ui Qb=>?_;refine qR ?_;refine qm ?_;refine qe hK<|qq<|qj fun K hK=>qm ?_;refine qg ?_;refine qp (o:=2) ?_;refine ql hH ax ?_;refine qA ?_;refine qg ?_;refine qp (o:=2) ?_;refine qT hH ax fun st hH=>?_;dsimp only[u2,u1,u3,u4,setMany,u5,u6,D.cells,Nat.reduceAdd,aS,bh,av,au] at hH;refine qe hK<|qq<|qq<|qj fun K hK=>qm ?_;refine qe hK ?_
   have fG:∀(a:List Rg) (b:Bool),a.length≤8→a≠[]→B3 gs s {s with i:=s.i+1+1} (bB a) b:=fun a b h1 h2=>⟨rfl,rfl,by show s.i≤s.i+1+1;omega,by show s.i+1+1≤_;omega,.inr ⟨a,rfl,h1⟩,.inr ⟨he,by show s.i<s.i+1+1;omega,a,rfl,h1,h2⟩⟩
   have je:∀(r:Int),0≤r→r<55296→(jJ [(r,r)]).length≤8∧jJ [(r,r)]≠[]:=by
    intro r h1 h2;obtain⟨_,h3,h4⟩:=lp (s0:=s0) (x:=bB [(r,r)]) (l:=[(r,r)]) (eU _ _) (by simp);exact⟨by simp at h3;omega,uj h1 h2 h4⟩
   refine af.block<|qq<|qj fun K hK=>qg ?_;refine qm ?_;refine qe hK ?_;refine af.cond (by rfl) (fun q1=>?_) (fun q1=>?_)<;>try simp only[beq_iff_eq,beq_eq_false_iff_ne,ne_eq] at q1
   ·refine qq<|qj fun K hK=>qv (iy 10) ?_;refine qm ?_;refine qm ?_;refine qe hK<|af.ret ⟨rx,_,_,_,rfl,aj (rfl),?_⟩;exact⟨_,_,_,rfl,fG _ _ (je 10 (by decide) (by decide)).1 (je 10 (by decide) (by decide)).2,cp.aw cn hH⟩
   ·refine qq<|qj fun K hK=>qg ?_;refine qm ?_;refine qe hK ?_;refine af.cond (by rfl) (fun q2=>?_) (fun q2=>?_)<;>try simp only[beq_iff_eq,beq_eq_false_iff_ne,ne_eq] at q2
    ·refine qq<|qj fun K hK=>qv (iy 9) ?_;refine qm ?_;refine qm ?_;refine qe hK<|af.ret ⟨rx,_,_,_,rfl,aj (rfl),?_⟩;exact⟨_,_,_,rfl,fG _ _ (je 9 (by decide) (by decide)).1 (je 9 (by decide) (by decide)).2,cp.aw cn hH⟩
    ·refine qq<|qj fun K hK=>qg ?_;refine qm ?_;refine qe hK ?_;refine af.cond (by rfl) (fun q3=>?_) (fun q3=>?_)<;>try simp only[beq_iff_eq,beq_eq_false_iff_ne,ne_eq] at q3
     ·refine qq<|qj fun K hK=>qv (iy 13) ?_;refine qm ?_;refine qm ?_;refine qe hK<|af.ret ⟨rx,_,_,_,rfl,aj (rfl),?_⟩;exact⟨_,_,_,rfl,fG _ _ (je 13 (by decide) (by decide)).1 (je 13 (by decide) (by decide)).2,cp.aw cn hH⟩
     ·refine qq<|qj fun K hK=>qg ?_;refine qm ?_;refine qe hK ?_;refine af.cond (by rfl) (fun q4=>?_) (fun q4=>?_)<;>try simp only[beq_iff_eq,beq_eq_false_iff_ne,ne_eq] at q4
      ·refine qq<|qj fun K hK=>?_;refine ab.fu (qs:=[(0,_),(1,_)]) rfl rfl rfl rfl ⟨rfl,(ev rfl),(by rfl),rfl,(ev rfl),(by rfl),trivial⟩ (by intro q hq;simp only[List.mem_cons,List.not_mem_nil,or_false] at hq;rcases hq with rfl|rfl<;>exact⟨rfl,by exact Nat.le_of_ble_eq_true rfl⟩) (by show List.foldl _ [_,_] _=_;dsimp only[List.foldl_cons,List.foldl_nil,u2,u1]<;>rfl) (ag rfl _) ?_;refine qh (s:=2) (vs:=[_]) hH fun k73 st VH hH=>?_;obtain⟨aI,hl,G7⟩:=lp (l:=[(48,57)]) (hH.rows ax) (by simp);refine qv aI ?_;refine qm ?_;refine qm ?_;refine qe hK<|af.ret ⟨rx,_,_,_,rfl,aj (rfl),?_⟩;exact⟨_,_,_,rfl,fG _ _ (by simp at hl;omega) (sx (r:=48) (by decide) (by decide) ⟨_,List.mem_cons_self ..,by decide,by decide⟩ G7),cp.aw cn (hH.drop 1)⟩
      ·refine qq<|qj fun K hK=>qg ?_;refine qm ?_;refine qe hK ?_;refine af.cond (by rfl) (fun q5=>?_) (fun q5=>?_)<;>try simp only[beq_iff_eq,beq_eq_false_iff_ne,ne_eq] at q5
       ·refine qq<|qj fun K hK=>?_;refine ab.fu (qs:=[(0,_),(1,_)]) rfl rfl rfl rfl ⟨rfl,(ev rfl),(by rfl),rfl,(ev rfl),(by rfl),trivial⟩ (by intro q hq;simp only[List.mem_cons,List.not_mem_nil,or_false] at hq;rcases hq with rfl|rfl<;>exact⟨rfl,by exact Nat.le_of_ble_eq_true rfl⟩) (by show List.foldl _ [_,_] _=_;dsimp only[List.foldl_cons,List.foldl_nil,u2,u1]<;>rfl) (ag rfl _) ?_;refine ab.fu (qs:=[(0,_),(1,_)]) rfl rfl rfl rfl ⟨rfl,(ev rfl),(by rfl),rfl,(ev rfl),(by rfl),trivial⟩ (by intro q hq;simp only[List.mem_cons,List.not_mem_nil,or_false] at hq;rcases hq with rfl|rfl<;>exact⟨rfl,by exact Nat.le_of_ble_eq_true rfl⟩) (by show List.foldl _ [_,_] _=_;dsimp only[List.foldl_cons,List.foldl_nil,u2,u1]<;>rfl) (ag rfl _) ?_;refine ab.fu (qs:=[(0,_),(1,_)]) rfl rfl rfl rfl ⟨rfl,(ev rfl),(by rfl),rfl,(ev rfl),(by rfl),trivial⟩ (by intro q hq;simp only[List.mem_cons,List.not_mem_nil,or_false] at hq;rcases hq with rfl|rfl<;>exact⟨rfl,by exact Nat.le_of_ble_eq_true rfl⟩) (by show List.foldl _ [_,_] _=_;dsimp only[List.foldl_cons,List.foldl_nil,u2,u1]<;>rfl) (ag rfl _) ?_;refine qh (s:=2) (vs:=[_,_,_]) hH fun k80 st VF hH=>?_;obtain⟨aI,hl,G7⟩:=lp (l:=[(9,10),(13,13),(32,32)]) (hH.rows ax) (by simp);refine qv aI ?_;refine qm ?_;refine qm ?_;refine qe hK<|af.ret ⟨rx,_,_,_,rfl,aj (rfl),?_⟩;exact⟨_,_,_,rfl,fG _ _ (by simp at hl;omega) (sx (r:=9) (by decide) (by decide) ⟨_,List.mem_cons_self ..,by decide,by decide⟩ G7),cp.aw cn (hH.drop 1)⟩
       ·refine qq<|qj fun K hK=>qg ?_;refine qm ?_;refine qe hK ?_;refine af.cond (by rfl) (fun q6=>?_) (fun q6=>?_)<;>try simp only[beq_iff_eq,beq_eq_false_iff_ne,ne_eq] at q6
        ·refine qq<|qj fun K hK=>?_;refine ab.fu (qs:=[(0,_),(1,_)]) rfl rfl rfl rfl ⟨rfl,(ev rfl),(by rfl),rfl,(ev rfl),(by rfl),trivial⟩ (by intro q hq;simp only[List.mem_cons,List.not_mem_nil,or_false] at hq;rcases hq with rfl|rfl<;>exact⟨rfl,by exact Nat.le_of_ble_eq_true rfl⟩) (by show List.foldl _ [_,_] _=_;dsimp only[List.foldl_cons,List.foldl_nil,u2,u1]<;>rfl) (ag rfl _) ?_;refine ab.fu (qs:=[(0,_),(1,_)]) rfl rfl rfl rfl ⟨rfl,(ev rfl),(by rfl),rfl,(ev rfl),(by rfl),trivial⟩ (by intro q hq;simp only[List.mem_cons,List.not_mem_nil,or_false] at hq;rcases hq with rfl|rfl<;>exact⟨rfl,by exact Nat.le_of_ble_eq_true rfl⟩) (by show List.foldl _ [_,_] _=_;dsimp only[List.foldl_cons,List.foldl_nil,u2,u1]<;>rfl) (ag rfl _) ?_;refine ab.fu (qs:=[(0,_),(1,_)]) rfl rfl rfl rfl ⟨rfl,(ev rfl),(by rfl),rfl,(ev rfl),(by rfl),trivial⟩ (by intro q hq;simp only[List.mem_cons,List.not_mem_nil,or_false] at hq;rcases hq with rfl|rfl<;>exact⟨rfl,by exact Nat.le_of_ble_eq_true rfl⟩) (by show List.foldl _ [_,_] _=_;dsimp only[List.foldl_cons,List.foldl_nil,u2,u1]<;>rfl) (ag rfl _) ?_;refine ab.fu (qs:=[(0,_),(1,_)]) rfl rfl rfl rfl ⟨rfl,(ev rfl),(by rfl),rfl,(ev rfl),(by rfl),trivial⟩ (by intro q hq;simp only[List.mem_cons,List.not_mem_nil,or_false] at hq;rcases hq with rfl|rfl<;>exact⟨rfl,by exact Nat.le_of_ble_eq_true rfl⟩) (by show List.foldl _ [_,_] _=_;dsimp only[List.foldl_cons,List.foldl_nil,u2,u1]<;>rfl) (ag rfl _) ?_;refine qh (s:=2) (vs:=[_,_,_,_]) hH fun k88 st NJ hH=>?_;obtain⟨aI,hl,G7⟩:=lp (l:=[(48,57),(65,90),(95,95),(97,122)]) (hH.rows ax) (by simp);refine qv aI ?_;refine qm ?_;refine qm ?_;refine qe hK<|af.ret ⟨rx,_,_,_,rfl,aj (rfl),?_⟩;exact⟨_,_,_,rfl,fG _ _ (by simp at hl;omega) (sx (r:=48) (by decide) (by decide) ⟨_,List.mem_cons_self ..,by decide,by decide⟩ G7),cp.aw cn (hH.drop 1)⟩
        ·refine af.skip<|qq<|qq<|qj fun K hK=>qm ?_;refine qv (FW _) ?_;refine qg ?_;refine qe hK ?_;refine af.cond (by rfl) (fun q7=>?_) (fun q7=>?_)<;>try simp only[decide_eq_true_eq,decide_eq_false_iff_not,Bool.not_eq_true',Bool.not_eq_false'] at q7
         ·refine qq<|qj fun K hK=>qm ?_;refine qm ?_;obtain⟨_,st,aI,rfl,hH⟩:=cL (s:={s with i:=s.i+1+1}) s.i 4 (by omega) hH;refine qv aI ?_;refine qe hK<|qq<|qj fun K hK=>qm ?_;refine qm ?_;refine qe hK ?_;obtain⟨h1,h2,h3,h4⟩:=cV (bT:=bT) (s:={s with i:=s.i+1+1}) (i:=s.i) (e:=4) he (by decide);refine af.ret ⟨rx,_,_,_,rfl,aj (rfl),?_⟩;exact⟨_,_,_,rfl,⟨h3,h4,by rw[h2];show s.i≤s.i+1+1;omega,by rw[h2];show s.i+1+1≤_;omega,.inl rfl,.inl h1⟩,cp.aw cn hH⟩
         ·refine af.skip<|qq<|qj fun K hK=>qm ?_;refine qv (iy _) ?_;refine qm ?_;refine qm ?_;refine qe hK ?_;have hm:=je ((g.1:Nat):Int) (by omega) (by omega);refine af.ret ⟨rx,_,_,_,rfl,aj (rfl),?_⟩;exact⟨_,_,_,rfl,fG _ _ hm.1 hm.2,cp.aw cn hH⟩
def aK (fr:Go.V.Fr) (k:Nat):Go.V.D:=Go.V.nth .bu fr.loc k
def bI (b:Bool):List D:=[.bool b]
theorem pg {l:List Bool} {i:Nat} {q:Bool} (h:l[i]?=some q):(l.map bI)[i]?=some (bI q):=by rw[List.getElem?_map,h];rfl
theorem pf (l:List Bool):∀e∈l.map bI,∀d∈e,b5 d=true:=by
 intro e he d hd;obtain⟨x,_,rfl⟩:=List.mem_map.1 he;simp only[bI,List.mem_cons,List.not_mem_nil,or_false] at hd;subst hd;rfl
theorem BU (l:List Bool):∀e∈l.map bI,e.length=1:=by
 intro e he;obtain⟨x,_,rfl⟩:=List.mem_map.1 he;rfl
def wW (l:List Bool):D:=.sl ((l.map bI).map (jr 1))
theorem zr (l:List Bool):e_ (wW l) 1 (l.map bI):=e_.frozen (BU l) (pf l)
theorem mw (l:List Int):∀e∈l.map av,∀d∈e,b5 d=true:=by
 intro e he d hd;obtain⟨x,_,rfl⟩:=List.mem_map.1 he;simp only[av,List.mem_cons,List.not_mem_nil,or_false] at hd;subst hd;rfl
theorem F2 (l:List Int):∀e∈l.map av,e.length=1:=by
 intro e he;obtain⟨x,_,rfl⟩:=List.mem_map.1 he;rfl
def AZ (l:List Int):D:=.sl ((l.map av).map (jr 1))
theorem uy (l:List Int):e_ (AZ l) 1 (l.map av):=e_.frozen (F2 l) (mw l)
def cx (pc:Nat) (i:aL):List Int:=
 if i.op=2 then[i.x,i.y] else if i.op=3 then[i.x] else if i.op=7 then[] else[((pc+1:Nat):Int)]
def hU (code:List aL):Prop:=∀pc i,code[pc]?=some i→∀v∈cx pc i,0≤v∧v<code.length
theorem tz {n ns pc:Nat} {i:aL} (h:db n ns pc i=true):∀v∈cx pc i,0≤v∧v<n:=by
 intro v hv
 have dC:∀a b:Int,oN a b=true→0≤a∧a<b:=fun a b h=>by
  unfold oN at h;simp only[Bool.and_eq_true,decide_eq_true_eq] at h;exact⟨h.1,h.2⟩
 unfold db at h;unfold cx at hv
 split at h
 ·rename_i h1;rw[if_neg (by omega),if_neg (by omega),if_neg (by omega)] at hv;simp only[Bool.and_eq_true,decide_eq_true_eq] at h;simp only[List.mem_cons,List.not_mem_nil,or_false] at hv;subst hv;omega
 ·simp only[Bool.and_eq_true] at h;obtain⟨_,h⟩:=h
  split at h
  ·rename_i h2;rw[if_pos h2] at hv;simp only[Bool.and_eq_true] at h;simp only[List.mem_cons,List.not_mem_nil,or_false] at hv
   rcases hv with rfl|rfl
   ·exact dC _ _ h.1
   ·exact dC _ _ h.2
  ·rename_i h2;rw[if_neg h2] at hv;simp only[Bool.and_eq_true] at h;obtain⟨_,h⟩:=h
   split at h
   ·rename_i h3;rw[if_pos h3] at hv;simp only[List.mem_cons,List.not_mem_nil,or_false] at hv;subst hv;exact dC _ _ h
   ·rename_i h3;rw[if_neg h3] at hv
    split at h
    ·rename_i h4;rw[if_neg (by omega)] at hv;simp only[Bool.and_eq_true,decide_eq_true_eq] at h;simp only[List.mem_cons,List.not_mem_nil,or_false] at hv;subst hv;omega
    ·split at h
     ·rename_i h5;rw[if_neg (by omega)] at hv;simp only[Bool.and_eq_true,decide_eq_true_eq] at h;simp only[List.mem_cons,List.not_mem_nil,or_false] at hv;subst hv;omega
     ·split at h
      ·rename_i h7;rw[if_pos h7] at hv;cases hv
      ·cases h
def wJ (code:List aL):Nat→List Bool→List Int→List Bool
 |0,seen,_=>seen
 |_+1,seen,[]=>seen
 |f+1,seen,v::fW=>match seen[v.toNat]? with
  |some false=>match code[v.toNat]? with
   |some i=>wJ code f (seen.set v.toNat true) ((cx v.toNat i).reverse++fW)
   |none=>seen
  |_=>wJ code f seen fW
def cm (code:List aL) (start:Int):List Bool:=wJ code (3*code.length+1) (List.replicate code.length false) [start]
theorem sZ (code:List aL):∀(f:Nat) (seen:List Bool) (fW:List Int),(wJ code f seen fW).length=seen.length
 |0,_,_=>rfl
 |_+1,_,[]=>rfl
 |f+1,seen,v::fW=>by
  unfold wJ
  split
  ·split
   ·rw[sZ code f];simp
   ·rfl
  ·exact sZ code f seen fW
theorem vO (code:List aL) (s:Int):(cm code s).length=code.length:=by
 unfold cm;rw[sZ];simp
theorem count_set {seen:List Bool} {k:Nat} (h:seen[k]?=some false):(seen.set k true).count false+1=seen.count false:=by
 induction seen generalizing k with
 |nil=>simp at h
 |cons b l ih=>
  cases k with
  |zero=>simp at h;subst h;simp
  |succ k=>
   have:=ih (k:=k) (by simpa using h);simp only[List.set_cons_succ,List.count_cons];omega
theorem ue (pc:Nat) (i:aL):(cx pc i).length≤2:=by
 unfold cx;split
 ·simp
 ·split
  ·simp
  ·split<;>simp
theorem zR (v:Int) (r:List Int):((v::r).reverse.map av)[r.length]?=some (av v):=by
 rw[List.getElem?_map,List.reverse_cons,List.getElem?_append_right (by simp)];simp
theorem Cp (v:Int) (r:List Int):(((v::r).reverse.map av).take r.length).drop 0=r.reverse.map av:=by
 rw[List.reverse_cons,List.map_append,List.drop_zero,List.take_left' (by simp)]
theorem Gw {s0:St} {cd:D} {code:List aL} {start:Int} (tk:e_ cd 4 (code.map aB)) (hlen:code.length≤1048576) (hcl:hU code) (fZ:0≤start∧start<code.length):Ev pv 51 [cd,.int .i64 start] s0 (wW (cm code start)) s0:=by
 refine Ev.me rfl RK rfl rfl rfl ?_;dsimp only[u3,u4,List.length,Nat.reduceSub,Nat.reduceAdd,w1,w2];obtain⟨bZ,hF,hH⟩:=ri s0;generalize ai .ro s0=S at*;have hc:=tk.arg s0.bs.length S;refine qq<|qj fun K hK=>qm ?_;refine qe hK<|qq<|qj fun K hK=>qm ?_;refine qn ?_;simp only[List.length_map];refine ab.uH (s:=1) hH rfl rfl rfl rfl rfl rfl rfl rfl (Nat.le_of_ble_eq_true rfl) (by omega) (fun _=>by dsimp only[Fr.put,u1,u2]<;>rfl) (fun k11 st Ld hH=>?_);refine qm ?_;refine qe hK<|qq<|qj fun K hK=>qm ?_;refine qh (s:=1) (vs:=[_]) hH fun k13 st NP hH=>?_;refine qm ?_;refine qe hK<|qq<|af.block<|af.loop (fun mm fr st=>∃(y z:D) (seen:List Bool) (fW:List Int),fr.clean=⟨41,[cd,aK fr 1,aK fr 2,aK fr 3,.nul,y,z,aK fr 7,aK fr 8,aK fr 9,aK fr 10,aK fr 11,aK fr 12,aK fr 13,aK fr 14,aK fr 15,aK fr 16,aK fr 17,aK fr 18,aK fr 19,aK fr 20,aK fr 21,aK fr 22,aK fr 23,aK fr 24,aK fr 25,aK fr 26,aK fr 27,aK fr 28,aK fr 29,aK fr 30,aK fr 31,aK fr 32,aK fr 33,aK fr 34,aK fr 35,aK fr 36,aK fr 37,aK fr 38,aK fr 39,aK fr 40],[]⟩∧Has s0.bs.length S st [.aM z 1 (fW.reverse.map av),.aM y 1 (seen.map bI)]∧(wJ code mm seen fW=cm code start)∧(3*seen.count false+fW.length≤mm)∧(seen.length=code.length)∧(∀v∈fW,0≤v∧v<(code.length:Int))∧(mm≤3*code.length+1)) (3*code.length+1) ?_ ?_
 ·exact⟨_,_,List.replicate code.length false,[start],rfl,(by rw[List.map_replicate];exact hH),rfl,by simp,by simp,by simpa using fZ,by omega⟩
 rintro mm fr st ⟨y,z,seen,fW,hfr,hH,hd,hm,gQ,hsk,wv⟩;rw[hfr];clear hfr;generalize aK fr=ee;clear fr
 rcases fW with _|⟨v,fW⟩
 ·refine qq<|qq<|qj fun K hK=>qm ?_;refine qn ?_ (hR:=hH.rows ax);simp only[List.length_map,List.length_nil,List.length_reverse];refine qg ?_;refine qe hK<|af.cond (v:=false) (by dsimp only[Fr.ev,Fr.get,nth,V.look];rfl) (fun h=>by cases h) (fun _=>?_);refine af.exit<|qq<|qj fun K hK=>qm ?_;refine qm ?_;refine qe hK ?_;have fG:seen=cm code start:=by rw[←hd];cases mm<;>rfl
  rw[←fG];refine af.ret ⟨rx,_,rfl,rl bZ hH ?_⟩;exact hH.freeze bC (pf _) (n:=15) (by decide)
 ·have hv:=hsk v (List.mem_cons_self ..);obtain⟨k,rfl⟩:=Int.eq_ofNat_of_zero_le hv.1;have hk:k<code.length:=by omega
  simp only[List.length_cons] at hm
  obtain⟨mm,rfl⟩:∃m',mm=m'+1:=⟨mm-1,by omega⟩
  obtain⟨b,hb⟩:∃b,seen[k]?=some b:=⟨seen[k]'(by omega),List.getElem?_eq_getElem _⟩
  obtain⟨i,hi⟩:∃i,code[k]?=some i:=⟨code[k]'(by omega),List.getElem?_eq_getElem _⟩
  have gk:=zR (k:Int) fW;have oQ:=pg hb;have UZ:=fM hi;refine qq<|qq<|qj fun K hK=>qm ?_;refine qn ?_ (hR:=hH.rows ax);simp only[List.length_map,List.length_cons,List.length_reverse];refine qg ?_;refine qe hK<|qD rfl (by simp) ?_;refine af.skip<|af.block<|qq<|qj fun K hK=>qm ?_;refine qm ?_;refine qn ?_ (hR:=hH.rows ax);simp only[List.length_map,List.length_cons,List.length_reverse];refine ab.nv (z:=((fW.length:Nat):Int)) rfl (ev rfl) (ev rfl) (by(try simp only[List.length_reverse,List.length_cons,List.length_nil,List.length_append,List.length_map,List.length_set]);rw[wrap_i64 (by omega) (by omega)]<;>omega) (by dsimp only[Fr.put,u1,u2]<;>rfl) ?_;refine qi hH ax fun OD Ge=>?_;refine qo hH ax ?_;refine qm ?_;refine qe hK<|qq<|qj fun K hK=>qm ?_;refine qm ?_;refine qn ?_ (hR:=hH.rows ax);simp only[List.length_map,List.length_cons,List.length_reverse];refine ab.nv (z:=((fW.length:Nat):Int)) rfl (ev rfl) (ev rfl) (by(try simp only[List.length_reverse,List.length_cons,List.length_nil,List.length_append,List.length_map,List.length_set]);rw[wrap_i64 (by omega) (by omega)]<;>omega) (by dsimp only[Fr.put,u1,u2]<;>rfl) ?_;refine ab.Au hH rfl (ev rfl) (by exact ax) rfl rfl (mL (by simp only[List.length_map,List.length_reverse,List.length_cons,List.length_append,List.length_nil,List.length_take,List.length_drop,List.length_set,List.length_replicate];omega)) ⟨(by omega),(by simp only[List.length_map,List.length_reverse,List.length_cons,List.length_append,List.length_nil,List.length_take,List.length_drop,List.length_set,List.length_replicate];omega)⟩ (fun _=>by dsimp only[Fr.put,u1,u2]<;>rfl) (fun WO hH=>?_);refine qm ?_;refine qe hK ?_;dsimp only[u2] at hH;rw[Cp] at hH;have fZ:∀w∈fW,0≤w∧w<(code.length:Int):=fun w hw=>hsk w (List.mem_cons_of_mem _ hw);refine qq<|qq<|qj fun K hK=>qm ?_;refine qm ?_;refine qi hH bC fun SZ Nr=>?_;refine qo hH bC ?_;refine qe hK ?_
  cases b with
  |true=>
   refine qB ?_;refine af.exit ?_;simp only[wJ,Int.toNat_natCast,hb] at hd;exact⟨mm,by omega,⟨_,_,seen,fW,rfl,hH,hd,by omega,gQ,fZ,by omega⟩⟩
  |false=>
   have uM:=count_set hb;have f_:(seen.set k true).map bI=(seen.map bI).set k [.bool true]:=by rw[List.map_set];rfl
   simp only[wJ,Int.toNat_natCast,hb,hi] at hd;have Vp:=hcl k i hi;have Qo:=ue k i
   have PN:∀w∈(cx k i).reverse++fW,0≤w∧w<(code.length:Int):=fun w hw=>by
    rcases List.mem_append.1 hw with hw|hw
    ·exact Vp w (List.mem_reverse.1 hw)
    ·exact fZ w hw
   have PU:(((cx k i).reverse++fW).reverse).map av=fW.reverse.map av++(cx k i).map av:=by
    rw[List.reverse_append,List.reverse_reverse,List.map_append]
   refine qC ?_;refine af.skip<|qq<|qj fun K hK=>qm ?_;refine qm ?_;refine qi hH bC fun Xi Vh=>?_;refine ab.kI hH rfl (ev rfl) (ev rfl) (by assumption) rfl rfl (by exact bC) (by assumption) (Nat.le_of_ble_eq_true rfl) (by exact .inl hF) (fun st hH=>?_);dsimp only[u2,u1,u3,u4,setMany,u5,u6,D.cells,Nat.reduceAdd,aB,av,bI] at hH;refine qe hK<|qq<|qj fun K hK=>qm ?_;refine qm ?_;refine qr fun SX Np=>?_;refine ab.cY rfl (ev rfl) (by assumption) rfl (by dsimp only[Fr.put,u1,u2]<;>rfl) ?_;refine qa hH fun k8 st L6 hH=>?_;refine qS hH ax fun st hH=>?_;dsimp only[u2,u1,u3,u4,setMany,u5,u6,D.cells,Nat.reduceAdd,aB,av,bI] at hH;refine qe hK<|qq<|qj fun K hK=>qp (o:=0) ?_;refine ql hH ax ?_;refine qe hK<|af.merge (fun fr st=>∃(z:D) (tmp:List (Nat×D)),fr=⟨41,[cd,aK fr 1,aK fr 2,aK fr 3,.nul,y,z,aK fr 7,aK fr 8,aK fr 9,aK fr 10,aK fr 11,aK fr 12,aK fr 13,aK fr 14,aK fr 15,aK fr 16,aK fr 17,aK fr 18,aK fr 19,aK fr 20,aK fr 21,aK fr 22,aK fr 23,aK fr 24,aK fr 25,aK fr 26,aK fr 27,aK fr 28,aK fr 29,aK fr 30,aK fr 31,aK fr 32,aK fr 33,aK fr 34,aK fr 35,aK fr 36,aK fr 37,aK fr 38,aK fr 39,aK fr 40],tmp⟩∧Has s0.bs.length S st [.aM z 1 (fW.reverse.map av++(cx k i).map av),.aM y 1 ((seen.map bI).set k [.bool true])]) ?_ ?_
   ·refine af.block<|qq<|qj fun K hK=>qg ?_;refine qm ?_;refine qe hK ?_;refine af.cond (by rfl) (fun h2=>?_) (fun h2=>?_)<;>try simp only[beq_iff_eq,beq_eq_false_iff_ne,ne_eq] at h2
    ·have:cx k i=[i.x,i.y]:=by unfold cx;rw[if_pos h2]
     rw[this];refine qj fun K hK=>qm ?_;refine qp (o:=1) ?_;refine ql hH ax ?_;refine qp (o:=2) ?_;refine ql hH ax ?_;refine qh (s:=1) (vs:=[_,_]) hH fun k53 st VM hH=>?_;refine ab.bQ (s:=1) hH rfl (ev rfl) (ev rfl) (by exact dp) (by exact hH.rows (by exact ax)) rfl rfl rfl rfl rfl rfl rfl ⟨(Nat.le_of_ble_eq_true rfl),(Nat.le_of_ble_eq_true rfl)⟩ (fun _=>(ag rfl _)) (by simp only[List.length_cons,List.length_nil,List.length_map,List.length_reverse]<;>omega) (by exact .inl hF) (fun WS st hH=>?_);dsimp only[u2,u1,u3,u4,setMany,u5,u6,D.cells,Nat.reduceAdd,aB,av,bI] at hH;refine qm ?_;refine qe hK ?_;exact⟨_,_,rfl,(by have:=hH.drop 2;exact this)⟩
    ·refine qq<|qj fun K hK=>qg ?_;refine qm ?_;refine qe hK ?_;refine af.cond (by rfl) (fun h3=>?_) (fun h3=>?_)<;>try simp only[beq_iff_eq,beq_eq_false_iff_ne,ne_eq] at h3
     ·have:cx k i=[i.x]:=by unfold cx;rw[if_neg h2,if_pos h3]
      rw[this];refine qj fun K hK=>qm ?_;refine qp (o:=1) ?_;refine ql hH ax ?_;refine qh (s:=1) (vs:=[_]) hH fun k60 st VJ hH=>?_;refine ab.bQ (s:=1) hH rfl (ev rfl) (ev rfl) (by exact dp) (by exact hH.rows (by exact ax)) rfl rfl rfl rfl rfl rfl rfl ⟨(Nat.le_of_ble_eq_true rfl),(Nat.le_of_ble_eq_true rfl)⟩ (fun _=>(ag rfl _)) (by simp only[List.length_cons,List.length_nil,List.length_map,List.length_reverse]<;>omega) (by exact .inl hF) (fun WR st hH=>?_);dsimp only[u2,u1,u3,u4,setMany,u5,u6,D.cells,Nat.reduceAdd,aB,av,bI] at hH;refine qm ?_;refine qe hK ?_;exact⟨_,_,rfl,(by have:=hH.drop 2;exact this)⟩
     ·refine qq<|qj fun K hK=>qg ?_;refine qm ?_;refine qe hK ?_;refine af.cond (by rfl) (fun h7=>?_) (fun h7=>?_)<;>try simp only[beq_iff_eq,beq_eq_false_iff_ne,ne_eq] at h7
      ·have:cx k i=[]:=by unfold cx;rw[if_neg h2,if_neg h3,if_pos h7]
       rw[this,List.map_nil,List.append_nil];refine af.skip ?_;exact⟨_,_,rfl,(by have:=hH.drop 1;exact this)⟩
      ·have:cx k i=[((k+1:Nat):Int)]:=by unfold cx;rw[if_neg h2,if_neg h3,if_neg h7]
       rw[this];refine qj fun K hK=>qm ?_;refine qm ?_;refine qA ?_;refine qh (s:=1) (vs:=[_]) hH fun k44 st VQ hH=>?_;refine ab.bQ (s:=1) hH rfl (ev rfl) (ev rfl) (by exact dp) (by exact hH.rows (by exact ax)) rfl rfl rfl rfl rfl rfl rfl ⟨(Nat.le_of_ble_eq_true rfl),(Nat.le_of_ble_eq_true rfl)⟩ (fun _=>(ag rfl _)) (by simp only[List.length_cons,List.length_nil,List.length_map,List.length_reverse]<;>omega) (by exact .inl hF) (fun WT st hH=>?_);dsimp only[u2,u1,u3,u4,setMany,u5,u6,D.cells,Nat.reduceAdd,aB,av,bI] at hH;refine qm ?_;refine qe hK ?_;exact⟨_,_,rfl,(by have:=hH.drop 2;exact this)⟩
   ·rintro fr st ⟨z,tmp,hfr,hH⟩;rw[hfr];clear hfr;generalize aK fr=ee;clear fr;exact⟨mm,by omega,⟨y,z,seen.set k true,(cx k i).reverse++fW,rfl,(by rw[PU,f_];exact hH),hd,by simp only[List.length_append,List.length_reverse];omega,by simp only[List.length_set];exact gQ,PN,by omega⟩⟩
def ak (fr:Go.V.Fr) (k:Nat):Go.V.D:=Go.V.nth .bu fr.loc k
noncomputable def dec (q:Prop):Bool:=@decide q (Classical.propDecidable q)
theorem s9 {q:Prop} (h:q):dec q=true:=@decide_eq_true q (Classical.propDecidable q) h
theorem s_ {q:Prop} (h:¬q):dec q=false:=@decide_eq_false q (Classical.propDecidable q) h
def ot (p:Pg) (r:Nat) (s:Int) (n:Nat):Prop:=∀pc i,pc<n→(cm p.code s)[pc]?=some true→p.code[pc]?=some i→i.op=7→i.x=(r:Int)
structure bU (p:Pg):Prop where
 cl:p.code.length≤400
 sl:p.az.length≤8
 sh:∀pc i,p.code[pc]?=some i→db p.code.length p.az.length pc i=true
 st:∀v∈p.az,0≤v∧v<(p.code.length:Int)
 fo:∀r s,p.az[r]?=some s→ot p r s p.code.length
theorem mI {p:Pg} (h:∀pc i,p.code[pc]?=some i→db p.code.length p.az.length pc i=true):hU p.code:=
 fun pc i hi=>tz (h pc i hi)
theorem bU.closed {p:Pg} (h:bU p):hU p.code:=mI h.sh
theorem dC {a b:Int}:oN a b=true↔0≤a∧a<b:=by
 unfold oN;simp only[Bool.and_eq_true,decide_eq_true_eq,ge_iff_le]
theorem pP {s0:St} {p:Pg} (hp:p.ok):Ev pv 27 [p.d] s0 (.bool (dec (bU p))) s0:=by
 refine Ev.me rfl RZ rfl rfl rfl ?_;dsimp only[u3,u4,List.length,Nat.reduceSub,Nat.reduceAdd,w1,w2];obtain⟨bZ,hF,hH⟩:=ri s0;generalize ai .ro s0=S at*;have hc:=hp.c.arg s0.bs.length S;have hs:=hp.s.arg s0.bs.length S;have tk:=hp.c;have hlen:=hp.cl;have M8:=hp.sl;unfold Pg.d;refine qq<|qj fun K hK=>qb hH fun k1 st nQ hH=>?_;dsimp only[u2,u1,u3,u4,setMany,u5,u6,D.cells,Nat.reduceAdd,Pg.cs,aB,av,bI] at hH;refine qm ?_;refine qe hK<|qq<|qq<|af.lH 17 (.bool (decide ((p.code.length:Int)>400)||decide ((p.az.length:Int)>8))) [8,9,10,11,12,13,14,15,16] ?_ (fun ff tmp=>?_)
 ·refine qp (o:=0) ?_;refine ql hH ax ?_;refine qn ?_;simp only[List.length_map];refine qg ?_;refine qm ?_;refine ab.two 12 rfl (fun fg=>?_) (fun fg=>?_)
  ·refine qs ?_ (hg:=wn fg);refine qs ?_ (hg:=wn fg);refine qs ?_ (hg:=wn fg);refine qs ?_ (hg:=wn fg);refine qt fg ?_;refine ab.nil (aZ ?_);dsimp only[aO,List.foldl,nth,u2,u1];dsimp only[Fr.aE,Fr.put,Fr.clean,Fr.ev,Fr.get,nth,V.look,u1,u2,v1,v2,v3,v4,v5,v6,v7,List.length,u3,u4,Nat.reduceSub,Nat.reduceAdd,List.map]
   all_goals(simp[fg];done)
  ·refine qp (o:=1) ?_ (hg:=wi fg);refine ql hH ax ?_ (hg:=wi fg);refine qn ?_ (hg:=wi fg);simp only[List.length_map];refine qg ?_ (hg:=wi fg);refine qu fg ?_;refine ab.nil (aZ ?_);dsimp only[aO,List.foldl,nth,u2,u1];dsimp only[Fr.aE,Fr.put,Fr.clean,Fr.ev,Fr.get,nth,V.look,u1,u2,v1,v2,v3,v4,v5,v6,v7,List.length,u3,u4,Nat.reduceSub,Nat.reduceAdd,List.map]
   all_goals(simp[fg];done)
 dsimp only[aO,List.foldl,nth,u2,u1];generalize ff 8=e8;generalize ff 9=e9;generalize ff 10=X7;generalize ff 11=X6;generalize ff 12=X5;generalize ff 13=X4;generalize ff 14=X3;generalize ff 15=X2;generalize ff 16=X1;refine qc (fun h0=>?_) (fun h0=>?_)<;>try simp only[cs] at h0
 ·rw[s_ (fun h=>by have:=h.cl;have:=h.sl;simp at h0;omega)];refine qq<|qj fun K hK=>qm ?_;refine qe hK<|af.ret ⟨rx,_,rfl,rl bZ hH (rfl)⟩
 ·have h0:p.code.length≤400∧p.az.length≤8:=by simp at h0;omega
  refine af.skip<|qq<|qq<|qj fun K hK=>qp (o:=0) ?_;refine ql hH ax ?_;refine qn ?_;simp only[List.length_map];refine qm ?_;refine qe hK<|af.block<|af.loop (fun mm fr st=>∃(i:Nat),fr.clean=⟨49,[ak fr 0,.ptr k1 0 0,.bool false,ak fr 3,ak fr 4,ak fr 5,ak fr 6,ak fr 7,ak fr 8,ak fr 9,ak fr 10,ak fr 11,ak fr 12,ak fr 13,ak fr 14,ak fr 15,ak fr 16,ak fr 17,ak fr 18,ak fr 19,.int .i64 (p.code.length:Nat),.int .i64 (i:Nat),ak fr 22,ak fr 23,ak fr 24,ak fr 25,ak fr 26,ak fr 27,ak fr 28,ak fr 29,ak fr 30,ak fr 31,ak fr 32,ak fr 33,ak fr 34,ak fr 35,ak fr 36,ak fr 37,ak fr 38,ak fr 39,ak fr 40,ak fr 41,ak fr 42,ak fr 43,ak fr 44,ak fr 45,ak fr 46,ak fr 47,ak fr 48],[]⟩∧Has s0.bs.length S st [.box k1 (.mem 0 false [p.cd,p.sd])]∧(i+mm=p.code.length)∧(∀pc q,pc<i→p.code[pc]?=some q→db p.code.length p.az.length pc q=true)) (p.code.length) ?_ ?_
  ·exact⟨0,rfl,hH,by omega,by intro pc q h;omega⟩
  rintro mm fr st ⟨i,hfr,hH,hi,hsh⟩;rw[hfr];clear hfr;generalize ak fr=ee;clear fr;refine qq<|qj fun K hK=>qg ?_;refine qe hK<|qq ?_;refine af.cond (by rfl) (fun h1=>?_) (fun h1=>?_)<;>try simp only[decide_eq_true_eq,decide_eq_false_iff_not] at h1
  ·refine af.skip ?_
   obtain⟨q,hq⟩:∃q,p.code[i]?=some q:=⟨p.code[i]'(by omega),List.getElem?_eq_getElem _⟩
   refine qq<|af.block<|qq<|qj fun K hK=>qm ?_;refine qm ?_;refine qe hK<|qq<|qj fun K hK=>?_;refine ab.aT (m:=2) hH rfl (ev rfl) (by exact ax) (by dsimp only[List.drop_succ_cons,List.drop_zero,List.take_succ_cons,List.take_zero,Pg.cs,aB,av,bI]<;>rfl) rfl rfl (by dsimp only[Fr.put,u1,u2]<;>rfl) ?_;refine qm ?_;refine qv (yt (p:=p) hp hq) ?_;refine qg ?_;refine qe hK ?_;refine af.cond (by rfl) (fun h2=>?_) (fun h2=>?_)<;>try simp only[Bool.not_eq_true',Bool.not_eq_false'] at h2
   ·rw[s_ (fun h=>by have:=h.sh i q hq;rw[this] at h2;cases h2)];refine qq<|qj fun K hK=>qm ?_;refine qe hK<|af.ret ⟨rx,_,rfl,rl bZ hH (rfl)⟩
   ·refine af.skip<|qj fun K hK=>qA ?_;refine qm ?_;refine qe hK ?_;refine⟨mm-1,by omega,⟨i+1,rfl,hH,by omega,?_⟩⟩;intro pc q' Ba pK
    by_cases he:pc=i
    ·subst he;rw[hq] at pK;cases pK;simpa using h2
    ·exact hsh pc q' (by omega) pK
  ·refine af.exit ?_;have hsh:∀pc q,p.code[pc]?=some q→db p.code.length p.az.length pc q=true:=fun pc q hq=>hsh pc q (by have:=bz hq;omega) hq;have hcl:=mI hsh;refine qq<|qq<|qj fun K hK=>qp (o:=1) ?_;refine ql hH ax ?_;refine qn ?_;simp only[List.length_map];refine qm ?_;refine qe hK<|af.block<|af.loop (fun mm fr st=>∃(r:Nat),fr.clean=⟨49,[ak fr 0,.ptr k1 0 0,.bool false,ak fr 3,ak fr 4,ak fr 5,ak fr 6,ak fr 7,ak fr 8,ak fr 9,ak fr 10,ak fr 11,ak fr 12,ak fr 13,ak fr 14,ak fr 15,ak fr 16,ak fr 17,ak fr 18,ak fr 19,ak fr 20,ak fr 21,ak fr 22,ak fr 23,ak fr 24,ak fr 25,ak fr 26,ak fr 27,ak fr 28,ak fr 29,p.sd,.int .i64 (p.az.length:Nat),.int .i64 (r:Nat),ak fr 33,ak fr 34,ak fr 35,ak fr 36,ak fr 37,ak fr 38,ak fr 39,ak fr 40,ak fr 41,ak fr 42,ak fr 43,ak fr 44,ak fr 45,ak fr 46,ak fr 47,ak fr 48],[]⟩∧Has s0.bs.length S st [.box k1 (.mem 0 false [p.cd,p.sd])]∧(r+mm=p.az.length)∧(∀r' s,r'<r→p.az[r']?=some s→(0≤s∧s<(p.code.length:Int))∧ot p r' s p.code.length)) (p.az.length) ?_ ?_
   ·exact⟨0,rfl,hH,by omega,by intro pc q h;omega⟩
   rintro mm fr st ⟨r,hfr,hH,hi,ba⟩;rw[hfr];clear hfr;generalize ak fr=ee;clear fr;refine qq<|qj fun K hK=>qg ?_;refine qe hK<|qq ?_;refine af.cond (by rfl) (fun h3=>?_) (fun h3=>?_)<;>try simp only[decide_eq_true_eq,decide_eq_false_iff_not] at h3
   ·refine af.skip ?_
    obtain⟨s,pI⟩:∃s,p.az[r]?=some s:=⟨p.az[r]'(by omega),List.getElem?_eq_getElem _⟩
    have OL:=dW pI;refine qq<|af.block<|qq<|qj fun K hK=>qm ?_;refine qr fun Pc KV=>?_;refine qR ?_;refine qm ?_;refine qm ?_;refine qe hK<|qq<|qq<|qj fun K hK=>qm ?_;refine qp (o:=0) ?_;refine ql hH ax ?_;refine qn ?_;simp only[List.length_map];refine qv (gq _ _) ?_;refine qg ?_;refine qe hK ?_;refine af.cond (by rfl) (fun h4=>?_) (fun h4=>?_)<;>try simp only[Bool.not_eq_true',Bool.not_eq_false'] at h4
    ·rw[s_ (fun h=>by have:=dC.2 (h.st s (List.mem_of_getElem? pI));rw[this] at h4;cases h4)];refine qq<|qj fun K hK=>qm ?_;refine qe hK<|af.ret ⟨rx,_,rfl,rl bZ hH (rfl)⟩
    ·have M9:=dC.1 (show oN s p.code.length=true by simpa using h4);refine af.skip ?_;have pJ:=vO p.code s;have PV:=(zr (cm p.code s)).arg s0.bs.length S;refine qq<|qj fun K hK=>qp (o:=0) ?_;refine ql hH ax ?_;refine qm ?_;refine qv (Gw tk hlen hcl M9) ?_;refine qn ?_;simp only[List.length_map];refine qm ?_;refine qe hK<|af.block<|af.loop (fun mm fr st=>∃(i:Nat),fr.clean=⟨49,[ak fr 0,.ptr k1 0 0,.bool false,ak fr 3,.int .i64 (r:Nat),ak fr 5,ak fr 6,ak fr 7,ak fr 8,ak fr 9,ak fr 10,ak fr 11,ak fr 12,ak fr 13,ak fr 14,ak fr 15,ak fr 16,ak fr 17,ak fr 18,ak fr 19,ak fr 20,ak fr 21,ak fr 22,ak fr 23,ak fr 24,ak fr 25,ak fr 26,ak fr 27,ak fr 28,ak fr 29,p.sd,.int .i64 (p.az.length:Nat),.int .i64 (r:Nat),ak fr 33,ak fr 34,ak fr 35,ak fr 36,ak fr 37,ak fr 38,ak fr 39,ak fr 40,ak fr 41,ak fr 42,ak fr 43,ak fr 44,ak fr 45,wW (cm p.code s),.int .i64 ((cm p.code s).length:Nat),.int .i64 (i:Nat)],[]⟩∧Has s0.bs.length S st [.box k1 (.mem 0 false [p.cd,p.sd])]∧(i+mm=p.code.length)∧(ot p r s i)) (p.code.length) ?_ ?_
     ·exact⟨0,rfl,hH,by omega,by intro pc q h;omega⟩
     rintro mm fr st ⟨i,hfr,hH,hj,hom⟩;rw[hfr];clear hfr;generalize ak fr=ee;clear fr;refine qq<|qj fun K hK=>qg ?_;refine qe hK<|qq ?_;refine af.cond (by rfl) (fun h5=>?_) (fun h5=>?_)<;>try simp only[decide_eq_true_eq,decide_eq_false_iff_not] at h5
     ·refine af.skip ?_
      obtain⟨b,hb⟩:∃b,(cm p.code s)[i]?=some b:=⟨(cm p.code s)[i]'(by omega),List.getElem?_eq_getElem _⟩
      obtain⟨q,hq⟩:∃q,p.code[i]?=some q:=⟨p.code[i]'(by omega),List.getElem?_eq_getElem _⟩
      have gk:=pg hb;have oQ:=fM hq;refine qq<|af.block<|qq<|qj fun K hK=>qm ?_;refine qr fun Ui Qb=>?_;refine qR ?_;refine qm ?_;refine qm ?_;refine qe hK<|qq<|af.jV 72 (.bool ((b &&(q.op==7)) &&(q.x !=(r:Int)))) [] ?_ (fun ff tmp gE=>?_)
      ·refine qm ?_;refine qm ?_;refine ab.two 54 rfl (fun cM=>?_) (fun cM=>?_)
       ·refine qp (o:=0) ?_ (hg:=wi cM);refine ql hH ax ?_ (hg:=wi cM);refine qm ?_ (hg:=wi cM);refine qr (fun Xc Vb=>?_) (hg:=wi cM);refine qf (fo:=0) (fun Xb Va=>?_) (hg:=wi cM);refine qR ?_ (hg:=wi cM);refine qg ?_ (hg:=wi cM);refine qt cM ?_;refine qm ?_;refine ab.two 63 rfl (fun a_=>?_) (fun a_=>?_)
        ·refine qp (o:=0) ?_ (hg:=wi a_);refine ql hH ax ?_ (hg:=wi a_);refine qm ?_ (hg:=wi a_);refine qr (fun W_ U_=>?_) (hg:=wi a_);refine qf (fo:=1) (fun W9 U9=>?_) (hg:=wi a_);refine qR ?_ (hg:=wi a_);refine qm ?_ (hg:=wi a_);refine qg ?_ (hg:=wi a_);refine qt a_ ?_;refine ab.nil (cS ?_ ?_)
         ·dsimp only[aO,List.foldl,nth,u2,u1]
          all_goals(first|rfl|simp)
         ·dsimp only[Fr.aE,Fr.put,Fr.clean,Fr.ev,Fr.get,nth,V.look,u1,u2,v1,v2,v3,v4,v5,v6,v7,List.length,u3,u4,Nat.reduceSub,Nat.reduceAdd,List.map]
          all_goals(simp[cM,a_];done)
        ·refine qs ?_ (hg:=wn a_);refine qs ?_ (hg:=wn a_);refine qs ?_ (hg:=wn a_);refine qs ?_ (hg:=wn a_);refine qs ?_ (hg:=wn a_);refine qs ?_ (hg:=wn a_);refine qs ?_ (hg:=wn a_);refine qs ?_ (hg:=wn a_);refine qu a_ ?_;refine ab.nil (cS ?_ ?_)
         ·dsimp only[aO,List.foldl,nth,u2,u1]
          all_goals(first|rfl|simp)
         ·dsimp only[Fr.aE,Fr.put,Fr.clean,Fr.ev,Fr.get,nth,V.look,u1,u2,v1,v2,v3,v4,v5,v6,v7,List.length,u3,u4,Nat.reduceSub,Nat.reduceAdd,List.map]
          all_goals(simp[cM,a_];done)
       ·refine qs ?_ (hg:=wn cM);refine qs ?_ (hg:=wn cM);refine qs ?_ (hg:=wn cM);refine qs ?_ (hg:=wn cM);refine qs ?_ (hg:=wn cM);refine qs ?_ (hg:=wn cM);refine qs ?_ (hg:=wn cM);refine qu cM ?_;refine qm ?_;refine qs ?_;refine qs ?_;refine qs ?_;refine qs ?_;refine qs ?_;refine qs ?_;refine qs ?_;refine qs ?_;refine qg ?_;refine ab.nil (cS ?_ ?_)
        ·dsimp only[aO,List.foldl,nth,u2,u1]
         all_goals(first|rfl|simp)
        ·dsimp only[Fr.aE,Fr.put,Fr.clean,Fr.ev,Fr.get,nth,V.look,u1,u2,v1,v2,v3,v4,v5,v6,v7,List.length,u3,u4,Nat.reduceSub,Nat.reduceAdd,List.map]
         all_goals(simp[cM];done)
      dsimp only[aO,List.foldl,nth,u2,u1];dsimp only[Fr.aE,Fr.put,Fr.clean,Fr.ev,Fr.get,nth,V.look,u1,u2,v1,v2,v3,v4,v5,v6,v7,List.length,u3,u4,Nat.reduceSub,Nat.reduceAdd,List.map];refine qc (fun h6=>?_) (fun h6=>?_)<;>try simp only[cs] at h6
      ·rw[s_ (fun h=>by
        have h7:=h.fo r s pI i q (by omega);simp only[Bool.and_eq_true,beq_iff_eq,bne_iff_ne,ne_eq] at h6;obtain⟨⟨rfl,h8⟩,h9⟩:=h6
        exact h9 (h7 hb hq h8))]
       refine qq<|qj fun K hK=>qm ?_;refine qe hK<|af.ret ⟨rx,_,rfl,rl bZ hH (rfl)⟩
      ·refine af.skip<|qj fun K hK=>qA ?_;refine qm ?_;refine qe hK ?_;refine⟨mm-1,by omega,⟨i+1,rfl,hH,by omega,?_⟩⟩;intro pc q' Ba zB pK fe
       by_cases he:pc=i
       ·subst he;rw[hq] at pK;cases pK;rw[hb] at zB;cases zB;simp[fe] at h6;exact h6
       ·exact hom pc q' (by omega) zB pK fe
     ·refine af.exit<|qj fun K hK=>qA ?_;refine qm ?_;refine qe hK ?_;refine⟨p.az.length-(r+1),by omega,⟨r+1,rfl,hH,by omega,?_⟩⟩;intro r' s' LY sH
      by_cases he:r'=r
      ·subst he;rw[pI] at sH;cases sH;exact⟨M9,fun pc q Ba=>hom pc q (by omega)⟩
      ·exact ba r' s' (by omega) sH
   ·refine af.exit ?_
    rw[s9 ⟨h0.1,h0.2,hsh,fun v hv=>by
     obtain⟨r',LY⟩:=List.getElem?_of_mem hv
     exact(ba r' v (by have:=bz LY;omega) LY).1,fun r' s' sH=>(ba r' s' (by have:=bz sH;omega) sH).2⟩]
    refine qq<|qj fun K hK=>qm ?_;refine qe hK<|af.ret ⟨rx,_,rfl,rl bZ hH (rfl)⟩
def oz:Nat→List Bool→List Int
 |_,[]=>[]
 |i,b::l=>(if b then[(i:Int)] else[])++oz (i+1) l
noncomputable def oo (p:Pg) (Mm:Int):List Int:=if dec (bU p) &&oN Mm p.az.length then oz 0 (cm p.code (p.az.getD Mm.toNat 0)) else[]
def dS (i:aL):aL:=⟨i.op,i.x,i.y,.sl ((i.rs.map au).map (jr 2)),i.rs⟩
theorem BG {i:aL} (h:i.ok):(dS i).ok:=⟨e_.frozen (j9 _) (dN _),h.2⟩
def o9 (q:aL):List D:=aB (dS q)
end Go.Proofs.YtbdilgkfnacahaaGreat
