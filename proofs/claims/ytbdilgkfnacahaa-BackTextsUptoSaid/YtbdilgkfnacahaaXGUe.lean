/-
 The parser of patterns: what stands at a rune; errors.
-/
import Derived.Test.YtbdilgkfnacahaaXGM3
import Derived.Test.YtbdilgkfnacahaaXM2
import Derived.Test.YtbdilgkfnacahaaXGJf
set_option maxRecDepth 100000
set_option maxHeartbeats 4000000
set_option linter.unusedSimpArgs false
set_option linter.unusedVariables false
namespace Go.Proofs.Ytbdilgkfnacahaa
open Go.V Go
def je (c i y:Nat):Bool:=if i=1 then decide (vf c≤y∧y≤wZ c) else decide (128≤y∧y≤191)
def ga (c:Nat):(left i:Nat)→List UInt8→Bool
 |0,_,_=>true
 |_+1,_,[]=>true
 |left+1,i,y::ys=>je c i y.toNat &&ga c left (i+1) ys
def cJ:List UInt8→Nat×Nat
 |[]=>(0,0)
 |c::xs=>if cL c.toNat=0 then(0,0) else if ga c.toNat (cL c.toNat-1) 1 xs=true then(if xs.length+1<cL c.toNat then(xs.length+1,cL c.toNat) else(cL c.toNat,cL c.toNat)) else(0,0)
theorem tx (c:Nat):cL c≤4:=by
 unfold cL
 repeat' split
 all_goals omega
theorem EE {st:St} {x:D} {b:List UInt8} (hb:Bytes st x b) (hlen:b.length≤1048576):Ev pv 88 [x] st (.tup [.int .i64 ((cJ b).1:Nat),.int .i64 ((cJ b).2:Nat)]) st:=by
 refine Ev.j8 rfl PE rfl rfl rfl ?_;dsimp only[u3,u4,List.length,Nat.reduceSub,Nat.reduceAdd,w1,w2];have hb:=hb.enter .ro;have hbl:=bX b;(try refine qy ?_);(repeat refine qq ?_);(try generalize hK:ba _ _ _ _=K);refine af.b_ ?_;(repeat(first|refine xT ?_|refine xL ?_|refine xN ?_|refine xo ?_|refine xp ?_));refine ae.nil ?_;(try dsimp only[Fr.au,Fr.put,Fr.clean,Fr.ev,Fr.get,nth,V.look,u1,u2,v1,v2,v3,v4,v5,v6,v7,List.length,u3,u4,Nat.reduceSub,Nat.reduceAdd,List.map]);(try subst hK);(try refine qy ?_);(repeat refine qq ?_);(try generalize hK:ba _ _ _ _=K);refine af.b_ ?_
 (first|refine xT ?_|refine xL ?_|refine xN ?_|refine xo ?_|refine xp ?_)
 refine ae.len rfl rfl rfl hb rfl ?_
 (first|refine xT ?_|refine xL ?_|refine xN ?_|refine xo ?_|refine xp ?_)
 (first|refine xT ?_|refine xL ?_|refine xN ?_|refine xo ?_|refine xp ?_)
 rw[hbl]
 cases b with
 |nil=>
  (repeat(first|refine xT ?_|refine xL ?_|refine xN ?_|refine xo ?_|refine xp ?_|simp(disch:=omega) only[decide_eq_true,decide_eq_false,b6,cP,b5,cO]));refine ae.nil ?_;(try dsimp only[Fr.au,Fr.put,Fr.clean,Fr.ev,Fr.get,nth,V.look,u1,u2,v1,v2,v3,v4,v5,v6,v7,List.length,u3,u4,Nat.reduceSub,Nat.reduceAdd,List.map]);(try subst hK);(try refine qy ?_);refine af.cond (v:=true) rfl (fun _=>?_) (fun h=>by cases h);(try refine qy ?_);(repeat refine qq ?_);(try generalize hK:ba _ _ _ _=K);refine af.b_ ?_;(repeat(first|refine xT ?_|refine xL ?_|refine xN ?_|refine xo ?_|refine xp ?_));refine ae.nil ?_;(try dsimp only[Fr.au,Fr.put,Fr.clean,Fr.ev,Fr.get,nth,V.look,u1,u2,v1,v2,v3,v4,v5,v6,v7,List.length,u3,u4,Nat.reduceSub,Nat.reduceAdd,List.map]);(try subst hK);(try refine qy ?_);refine af.ret ⟨rx,_,rfl,aP (by simp) (by simp[aj]) ?_⟩
  rfl
 |cons c xs=>
 simp only[List.length_cons] at hlen hbl;have hc:=jo c;simp only[List.length_cons];simp(disch:=omega) only[decide_eq_true,decide_eq_false,b6,cP,b5,cO]
 (first|refine xT ?_|refine xL ?_|refine xN ?_|refine xo ?_|refine xp ?_)
 refine ae.bY rfl rfl rfl (fun _=>rfl) rfl rfl hb rfl rfl (by omega) (i:=0) (r:=[.int .u8 (c.toNat:Nat)]) rfl rfl (fun p=>?_);refine ae.qk rfl rfl rfl (wK _ _) ?_;(repeat(first|refine xT ?_|refine xL ?_|refine xN ?_|refine xo ?_|refine xp ?_));refine ae.nil ?_;(try dsimp only[Fr.au,Fr.put,Fr.clean,Fr.ev,Fr.get,nth,V.look,u1,u2,v1,v2,v3,v4,v5,v6,v7,List.length,u3,u4,Nat.reduceSub,Nat.reduceAdd,List.map]);(try subst hK);(try refine qy ?_);(repeat refine qq ?_);refine qc (fun h1=>?_) (fun h1=>?_)<;>try simp only[cs] at h1
 ·(try refine qy ?_);(repeat refine qq ?_);(try generalize hK:ba _ _ _ _=K);refine af.b_ ?_;(repeat(first|refine xT ?_|refine xL ?_|refine xN ?_|refine xo ?_|refine xp ?_));refine ae.nil ?_;(try dsimp only[Fr.au,Fr.put,Fr.clean,Fr.ev,Fr.get,nth,V.look,u1,u2,v1,v2,v3,v4,v5,v6,v7,List.length,u3,u4,Nat.reduceSub,Nat.reduceAdd,List.map]);(try subst hK);(try refine qy ?_);refine af.ret ⟨rx,_,rfl,aP (by simp) (by simp[aj]) ?_⟩;rw[show cJ (c::xs)=(0,0) by simp only[cJ];rw[if_pos (by omega)]];rfl
 have zL:=tx c.toNat;refine af.skip ?_;(try refine qy ?_);(repeat refine qq ?_);(try generalize hK:ba _ _ _ _=K);refine af.b_ ?_
 (first|refine xT ?_|refine xL ?_|refine xN ?_|refine xo ?_|refine xp ?_)
 refine ae.bY rfl rfl rfl (fun _=>rfl) rfl rfl hb rfl rfl (by omega) (i:=0) (r:=[.int .u8 (c.toNat:Nat)]) rfl rfl (fun p=>?_);refine ae.qk rfl rfl rfl (wK _ _) ?_;(repeat(first|refine xT ?_|refine xL ?_|refine xN ?_|refine xo ?_|refine xp ?_));refine ae.nil ?_;(try dsimp only[Fr.au,Fr.put,Fr.clean,Fr.ev,Fr.get,nth,V.look,u1,u2,v1,v2,v3,v4,v5,v6,v7,List.length,u3,u4,Nat.reduceSub,Nat.reduceAdd,List.map]);(try subst hK);(try refine qy ?_);(repeat refine qq ?_);(try generalize hK:ba _ _ _ _=K);refine af.b_ ?_;(repeat(first|refine xT ?_|refine xL ?_|refine xN ?_|refine xo ?_|refine xp ?_));refine ae.nil ?_;(try dsimp only[Fr.au,Fr.put,Fr.clean,Fr.ev,Fr.get,nth,V.look,u1,u2,v1,v2,v3,v4,v5,v6,v7,List.length,u3,u4,Nat.reduceSub,Nat.reduceAdd,List.map]);(try subst hK);(try refine qy ?_);(repeat refine qq ?_);refine af.block ?_;generalize hn:cL c.toNat=n at*;refine af.loop (fun j fr ai=>∃(i:Nat),fr.clean=⟨6,[x,.tup [],.int .i64 0,.int .i64 0,.int .i64 (n:Nat),.int .i64 (i:Nat)],[]⟩∧ai=aj .ro st∧1≤i∧i+j=n∧ga c.toNat j i (xs.drop (i-1))=ga c.toNat (n-1) 1 xs∧i≤xs.length+1) (n-1) ⟨1,rfl,rfl,by omega,by omega,rfl,by omega⟩ ?_;rintro j fr ai ⟨i,hfr,rfl,RP,hij,hS,Fc⟩;rw[hfr]
 have fin:(n≤i∨xs.length+1≤i)→cJ (c::xs)=if xs.length+1<n then(xs.length+1,n) else(n,n):=by
  intro h
  have ht:ga c.toNat (n-1) 1 xs=true:=by
   rw[←hS]
   rcases h with h|h
   ·have:j=0:=by omega
    subst this;rfl
   ·have:xs.drop (i-1)=[]:=List.drop_eq_nil_of_le (by omega);rw[this];cases j<;>rfl
  simp only[cJ,hn];rw[if_neg (by omega),if_pos ht]
 by_cases h4:i<n
 ·by_cases h5:i<xs.length+1
  ·(try refine qy ?_);(repeat refine qq ?_);(try generalize hK:ba _ _ _ _=K);refine af.b_ ?_
   (first|refine xT ?_|refine xL ?_|refine xN ?_|refine xo ?_|refine xp ?_)
   (first|refine xT ?_|refine xL ?_|refine xN ?_|refine xo ?_|refine xp ?_)
   (first|refine xT ?_|refine xL ?_|refine xN ?_|refine xo ?_|refine xp ?_)
   simp(disch:=omega) only[decide_eq_true,decide_eq_false,b6,cP,b5,cO]
   (first|refine xT ?_|refine xL ?_|refine xN ?_|refine xo ?_|refine xp ?_)
   (first|refine xT ?_|refine xL ?_|refine xN ?_|refine xo ?_|refine xp ?_)
   (first|refine xT ?_|refine xL ?_|refine xN ?_|refine xo ?_|refine xp ?_)
   refine ae.len rfl rfl rfl hb rfl ?_;rw[hbl];(repeat(first|refine xT ?_|refine xL ?_|refine xN ?_|refine xo ?_|refine xp ?_|simp(disch:=omega) only[decide_eq_true,decide_eq_false,b6,cP,b5,cO]));refine ae.nil ?_;(try dsimp only[Fr.au,Fr.put,Fr.clean,Fr.ev,Fr.get,nth,V.look,u1,u2,v1,v2,v3,v4,v5,v6,v7,List.length,u3,u4,Nat.reduceSub,Nat.reduceAdd,List.map]);(try subst hK);(try refine qy ?_);refine af.cond (v:=true) rfl (fun _=>?_) (fun h=>by cases h);refine af.skip ?_;(try refine qy ?_);(repeat refine qq ?_);refine af.block ?_
   obtain⟨j,rfl⟩:∃l,j=l+1:=⟨j-1,by omega⟩
   obtain⟨y,ys,tL⟩:∃y ys,xs.drop (i-1)=y::ys:=by
    cases h:xs.drop (i-1) with
    |nil=>have:=congrArg List.length h;simp at this;omega
    |cons y ys=>exact⟨y,ys,rfl⟩
   have hy:(c::xs)[i]?=some y:=by
    obtain⟨i,rfl⟩:∃i',i=i'+1:=⟨i-1,by omega⟩
    have:=congrArg (fun l=>l[0]?) tL
    simpa using this
   have ja:xs.drop (i+1-1)=ys:=by
    have:=congrArg (fun l=>l.drop 1) tL;simp only[List.drop_drop,List.drop_succ_cons,List.drop_zero] at this;rw[←this];congr 1;omega
   have Kc:=kA hy;have Rf:=jo y;rw[tL] at hS;simp only[ga] at hS;generalize M9:ba _ _ _ _=K0
   have step:je c.toNat i y.toNat=true→∀m,K0 .next ⟨6,[x,.tup [],.int .i64 0,.int .i64 0,.int .i64 (n:Nat),.int .i64 (i:Nat)],m⟩ (aj .ro st):=by
    intro hg m;subst M9;(try refine qy ?_);(repeat refine qq ?_);(try generalize hK:ba _ _ _ _=K);refine af.b_ ?_;(repeat(first|refine xT ?_|refine xL ?_|refine xN ?_|refine xo ?_|refine xp ?_));refine ae.nil ?_;(try dsimp only[Fr.au,Fr.put,Fr.clean,Fr.ev,Fr.get,nth,V.look,u1,u2,v1,v2,v3,v4,v5,v6,v7,List.length,u3,u4,Nat.reduceSub,Nat.reduceAdd,List.map]);(try subst hK);(try refine qy ?_);rw[wrap_i64 (by omega) (by omega)];rw[hg,Bool.true_and] at hS;exact⟨j,by omega,i+1,rfl,rfl,by omega,by omega,by rw[ja];exact hS,by omega⟩
   by_cases sq:i=1
   ·subst sq;have hx0:xs=y::ys:=tL;subst hx0;(try refine qy ?_);(repeat refine qq ?_);(try generalize hK:ba _ _ _ _=K);refine af.b_ ?_
    (first|refine xT ?_|refine xL ?_|refine xN ?_|refine xo ?_|refine xp ?_)
    (first|refine xT ?_|refine xL ?_|refine xN ?_|refine xo ?_|refine xp ?_)
    (first|refine xT ?_|refine xL ?_|refine xN ?_|refine xo ?_|refine xp ?_)
    (first|refine xT ?_|refine xL ?_|refine xN ?_|refine xo ?_|refine xp ?_)
    refine ae.bY rfl rfl rfl (fun _=>rfl) rfl rfl hb rfl rfl (by omega) (i:=0) (r:=[.int .u8 (c.toNat:Nat)]) rfl rfl (fun p=>?_)
    (first|refine xT ?_|refine xL ?_|refine xN ?_|refine xo ?_|refine xp ?_)
    refine ae.bY rfl rfl rfl (fun _=>rfl) rfl rfl hb rfl rfl (by omega) (i:=1) (r:=[.int .u8 (y.toNat:Nat)]) rfl rfl (fun p=>?_);refine ae.qk rfl rfl rfl (xz _ _ _) ?_
    by_cases hg:vf c.toNat≤y.toNat∧y.toNat≤wZ c.toNat
    ·rw[decide_eq_true hg];(repeat(first|refine xT ?_|refine xL ?_|refine xN ?_|refine xo ?_|refine xp ?_));refine ae.nil ?_;(try dsimp only[Fr.au,Fr.put,Fr.clean,Fr.ev,Fr.get,nth,V.look,u1,u2,v1,v2,v3,v4,v5,v6,v7,List.length,u3,u4,Nat.reduceSub,Nat.reduceAdd,List.map]);(try subst hK);(try refine qy ?_);refine af.cond (v:=false) rfl (fun h=>by cases h) fun _=>af.skip ?_;exact step (by unfold je;rw[if_pos rfl,decide_eq_true hg]) _
    ·rw[decide_eq_false hg];(repeat(first|refine xT ?_|refine xL ?_|refine xN ?_|refine xo ?_|refine xp ?_));refine ae.nil ?_;(try dsimp only[Fr.au,Fr.put,Fr.clean,Fr.ev,Fr.get,nth,V.look,u1,u2,v1,v2,v3,v4,v5,v6,v7,List.length,u3,u4,Nat.reduceSub,Nat.reduceAdd,List.map]);(try subst hK);(try refine qy ?_);refine af.cond (v:=true) rfl (fun _=>?_) (fun h=>by cases h);(try refine qy ?_);(repeat refine qq ?_);(try generalize hK:ba _ _ _ _=K);refine af.b_ ?_;(repeat(first|refine xT ?_|refine xL ?_|refine xN ?_|refine xo ?_|refine xp ?_));refine ae.nil ?_;(try dsimp only[Fr.au,Fr.put,Fr.clean,Fr.ev,Fr.get,nth,V.look,u1,u2,v1,v2,v3,v4,v5,v6,v7,List.length,u3,u4,Nat.reduceSub,Nat.reduceAdd,List.map]);(try subst hK);(try refine qy ?_);subst M9;refine af.ret ⟨rx,_,rfl,aP (by simp) (by simp[aj]) ?_⟩;have:ga c.toNat (n-1) 1 (y::ys)=false:=by rw[←hS];unfold je;rw[if_pos rfl,decide_eq_false hg];rfl
     rw[show cJ (c::y::ys)=(0,0) by simp only[cJ,hn];rw[if_neg (by omega),this];rfl];rfl
   ·(try refine qy ?_);(repeat refine qq ?_);(try generalize hK:ba _ _ _ _=K);refine af.b_ ?_
    (first|refine xT ?_|refine xL ?_|refine xN ?_|refine xo ?_|refine xp ?_)
    (first|refine xT ?_|refine xL ?_|refine xN ?_|refine xo ?_|refine xp ?_)
    simp(disch:=omega) only[decide_eq_true,decide_eq_false,b6,cP,b5,cO]
    (first|refine xT ?_|refine xL ?_|refine xN ?_|refine xo ?_|refine xp ?_)
    (first|refine xT ?_|refine xL ?_|refine xN ?_|refine xo ?_|refine xp ?_)
    (first|refine xT ?_|refine xL ?_|refine xN ?_|refine xo ?_|refine xp ?_)
    (first|refine xT ?_|refine xL ?_|refine xN ?_|refine xo ?_|refine xp ?_)
    (first|refine xT ?_|refine xL ?_|refine xN ?_|refine xo ?_|refine xp ?_)
    (first|refine xT ?_|refine xL ?_|refine xN ?_|refine xo ?_|refine xp ?_)
    (first|refine xT ?_|refine xL ?_|refine xN ?_|refine xo ?_|refine xp ?_)
    (first|refine xT ?_|refine xL ?_|refine xN ?_|refine xo ?_|refine xp ?_)
    (first|refine xT ?_|refine xL ?_|refine xN ?_|refine xo ?_|refine xp ?_)
    (first|refine xT ?_|refine xL ?_|refine xN ?_|refine xo ?_|refine xp ?_)
    (first|refine xT ?_|refine xL ?_|refine xN ?_|refine xo ?_|refine xp ?_)
    (first|refine xT ?_|refine xL ?_|refine xN ?_|refine xo ?_|refine xp ?_)
    (first|refine xT ?_|refine xL ?_|refine xN ?_|refine xo ?_|refine xp ?_)
    simp(disch:=omega) only[decide_eq_true,decide_eq_false,b6,cP,b5,cO]
    (first|refine xT ?_|refine xL ?_|refine xN ?_|refine xo ?_|refine xp ?_)
    (first|refine xT ?_|refine xL ?_|refine xN ?_|refine xo ?_|refine xp ?_)
    (first|refine xT ?_|refine xL ?_|refine xN ?_|refine xo ?_|refine xp ?_)
    refine ae.bY rfl rfl rfl (fun _=>rfl) rfl rfl hb rfl rfl (by omega) Kc rfl (fun p=>?_)
    by_cases uE:y.toNat<128
    ·(repeat(first|refine xT ?_|refine xL ?_|refine xN ?_|refine xo ?_|refine xp ?_|simp(disch:=omega) only[decide_eq_true,decide_eq_false,b6,cP,b5,cO]));refine ae.nil ?_;(try dsimp only[Fr.au,Fr.put,Fr.clean,Fr.ev,Fr.get,nth,V.look,u1,u2,v1,v2,v3,v4,v5,v6,v7,List.length,u3,u4,Nat.reduceSub,Nat.reduceAdd,List.map]);(try subst hK);(try refine qy ?_);refine af.cond (v:=true) rfl (fun _=>?_) (fun h=>by cases h);(try refine qy ?_);(repeat refine qq ?_);(try generalize hK:ba _ _ _ _=K);refine af.b_ ?_;(repeat(first|refine xT ?_|refine xL ?_|refine xN ?_|refine xo ?_|refine xp ?_));refine ae.nil ?_;(try dsimp only[Fr.au,Fr.put,Fr.clean,Fr.ev,Fr.get,nth,V.look,u1,u2,v1,v2,v3,v4,v5,v6,v7,List.length,u3,u4,Nat.reduceSub,Nat.reduceAdd,List.map]);(try subst hK);(try refine qy ?_);subst M9;refine af.ret ⟨rx,_,rfl,aP (by simp) (by simp[aj]) ?_⟩;have hf:je c.toNat i y.toNat=false:=by unfold je;rw[if_neg sq,decide_eq_false (by omega)]
     have:ga c.toNat (n-1) 1 xs=false:=by rw[←hS,hf];rfl
     rw[show cJ (c::xs)=(0,0) by simp only[cJ,hn];rw[if_neg (by omega),this];rfl];rfl
    ·(first|refine xT ?_|refine xL ?_|refine xN ?_|refine xo ?_|refine xp ?_)
     simp(disch:=omega) only[decide_eq_true,decide_eq_false,b6,cP,b5,cO]
     (first|refine xT ?_|refine xL ?_|refine xN ?_|refine xo ?_|refine xp ?_)
     (first|refine xT ?_|refine xL ?_|refine xN ?_|refine xo ?_|refine xp ?_)
     (first|refine xT ?_|refine xL ?_|refine xN ?_|refine xo ?_|refine xp ?_)
     refine ae.bY rfl rfl rfl (fun _=>rfl) rfl rfl hb rfl rfl (by omega) Kc rfl (fun p=>?_)
     by_cases w5:191<y.toNat
     ·(repeat(first|refine xT ?_|refine xL ?_|refine xN ?_|refine xo ?_|refine xp ?_|simp(disch:=omega) only[decide_eq_true,decide_eq_false,b6,cP,b5,cO]));refine ae.nil ?_;(try dsimp only[Fr.au,Fr.put,Fr.clean,Fr.ev,Fr.get,nth,V.look,u1,u2,v1,v2,v3,v4,v5,v6,v7,List.length,u3,u4,Nat.reduceSub,Nat.reduceAdd,List.map]);(try subst hK);(try refine qy ?_);refine af.cond (v:=true) rfl (fun _=>?_) (fun h=>by cases h);(try refine qy ?_);(repeat refine qq ?_);(try generalize hK:ba _ _ _ _=K);refine af.b_ ?_;(repeat(first|refine xT ?_|refine xL ?_|refine xN ?_|refine xo ?_|refine xp ?_));refine ae.nil ?_;(try dsimp only[Fr.au,Fr.put,Fr.clean,Fr.ev,Fr.get,nth,V.look,u1,u2,v1,v2,v3,v4,v5,v6,v7,List.length,u3,u4,Nat.reduceSub,Nat.reduceAdd,List.map]);(try subst hK);(try refine qy ?_);subst M9;refine af.ret ⟨rx,_,rfl,aP (by simp) (by simp[aj]) ?_⟩;have hf:je c.toNat i y.toNat=false:=by unfold je;rw[if_neg sq,decide_eq_false (by omega)]
      have:ga c.toNat (n-1) 1 xs=false:=by rw[←hS,hf];rfl
      rw[show cJ (c::xs)=(0,0) by simp only[cJ,hn];rw[if_neg (by omega),this];rfl];rfl
     ·(repeat(first|refine xT ?_|refine xL ?_|refine xN ?_|refine xo ?_|refine xp ?_|simp(disch:=omega) only[decide_eq_true,decide_eq_false,b6,cP,b5,cO]));refine ae.nil ?_;(try dsimp only[Fr.au,Fr.put,Fr.clean,Fr.ev,Fr.get,nth,V.look,u1,u2,v1,v2,v3,v4,v5,v6,v7,List.length,u3,u4,Nat.reduceSub,Nat.reduceAdd,List.map]);(try subst hK);(try refine qy ?_);refine af.cond (v:=false) rfl (fun h=>by cases h) fun _=>af.skip ?_;exact step (by unfold je;rw[if_neg sq,decide_eq_true (by omega)]) _
  ·(try refine qy ?_);(repeat refine qq ?_);(try generalize hK:ba _ _ _ _=K);refine af.b_ ?_
   (first|refine xT ?_|refine xL ?_|refine xN ?_|refine xo ?_|refine xp ?_)
   (first|refine xT ?_|refine xL ?_|refine xN ?_|refine xo ?_|refine xp ?_)
   (first|refine xT ?_|refine xL ?_|refine xN ?_|refine xo ?_|refine xp ?_)
   simp(disch:=omega) only[decide_eq_true,decide_eq_false,b6,cP,b5,cO]
   (first|refine xT ?_|refine xL ?_|refine xN ?_|refine xo ?_|refine xp ?_)
   (first|refine xT ?_|refine xL ?_|refine xN ?_|refine xo ?_|refine xp ?_)
   (first|refine xT ?_|refine xL ?_|refine xN ?_|refine xo ?_|refine xp ?_)
   refine ae.len rfl rfl rfl hb rfl ?_;rw[hbl];(repeat(first|refine xT ?_|refine xL ?_|refine xN ?_|refine xo ?_|refine xp ?_|simp(disch:=omega) only[decide_eq_true,decide_eq_false,b6,cP,b5,cO]));refine ae.nil ?_;(try dsimp only[Fr.au,Fr.put,Fr.clean,Fr.ev,Fr.get,nth,V.look,u1,u2,v1,v2,v3,v4,v5,v6,v7,List.length,u3,u4,Nat.reduceSub,Nat.reduceAdd,List.map]);(try subst hK);(try refine qy ?_);refine af.cond (v:=false) rfl (fun h=>by cases h) fun _=>af.exit ?_;rw[fin (by omega)];(try refine qy ?_);(repeat refine qq ?_);(try generalize hK:ba _ _ _ _=K);refine af.b_ ?_
   (first|refine xT ?_|refine xL ?_|refine xN ?_|refine xo ?_|refine xp ?_)
   refine ae.len rfl rfl rfl hb rfl ?_;rw[hbl];(repeat(first|refine xT ?_|refine xL ?_|refine xN ?_|refine xo ?_|refine xp ?_));refine ae.nil ?_;(try dsimp only[Fr.au,Fr.put,Fr.clean,Fr.ev,Fr.get,nth,V.look,u1,u2,v1,v2,v3,v4,v5,v6,v7,List.length,u3,u4,Nat.reduceSub,Nat.reduceAdd,List.map]);(try subst hK);(try refine qy ?_);refine af.cond (v:=true) (by dsimp only[Fr.ev,Fr.get,V.look];rw[decide_eq_true (by omega)]) (fun _=>?_) (fun h=>by cases h);(try refine qy ?_);(repeat refine qq ?_);(try generalize hK:ba _ _ _ _=K);refine af.b_ ?_
   (first|refine xT ?_|refine xL ?_|refine xN ?_|refine xo ?_|refine xp ?_)
   refine ae.len rfl rfl rfl hb rfl ?_;rw[hbl];(repeat(first|refine xT ?_|refine xL ?_|refine xN ?_|refine xo ?_|refine xp ?_));refine ae.nil ?_;(try dsimp only[Fr.au,Fr.put,Fr.clean,Fr.ev,Fr.get,nth,V.look,u1,u2,v1,v2,v3,v4,v5,v6,v7,List.length,u3,u4,Nat.reduceSub,Nat.reduceAdd,List.map]);(try subst hK);(try refine qy ?_);refine af.ret ⟨rx,_,rfl,aP (by simp) (by simp[aj]) ?_⟩;rw[if_pos (by omega)];rfl
 ·(try refine qy ?_);(repeat refine qq ?_);(try generalize hK:ba _ _ _ _=K);refine af.b_ ?_
  (first|refine xT ?_|refine xL ?_|refine xN ?_|refine xo ?_|refine xp ?_)
  (first|refine xT ?_|refine xL ?_|refine xN ?_|refine xo ?_|refine xp ?_)
  (first|refine xT ?_|refine xL ?_|refine xN ?_|refine xo ?_|refine xp ?_)
  (repeat(first|refine xT ?_|refine xL ?_|refine xN ?_|refine xo ?_|refine xp ?_|simp(disch:=omega) only[decide_eq_true,decide_eq_false,b6,cP,b5,cO]));refine ae.nil ?_;(try dsimp only[Fr.au,Fr.put,Fr.clean,Fr.ev,Fr.get,nth,V.look,u1,u2,v1,v2,v3,v4,v5,v6,v7,List.length,u3,u4,Nat.reduceSub,Nat.reduceAdd,List.map]);(try subst hK);(try refine qy ?_);refine af.cond (v:=false) rfl (fun h=>by cases h) fun _=>af.exit ?_;rw[fin (by omega)];(try refine qy ?_);(repeat refine qq ?_);(try generalize hK:ba _ _ _ _=K);refine af.b_ ?_
  (first|refine xT ?_|refine xL ?_|refine xN ?_|refine xo ?_|refine xp ?_)
  refine ae.len rfl rfl rfl hb rfl ?_;rw[hbl];(repeat(first|refine xT ?_|refine xL ?_|refine xN ?_|refine xo ?_|refine xp ?_));refine ae.nil ?_;(try dsimp only[Fr.au,Fr.put,Fr.clean,Fr.ev,Fr.get,nth,V.look,u1,u2,v1,v2,v3,v4,v5,v6,v7,List.length,u3,u4,Nat.reduceSub,Nat.reduceAdd,List.map]);(try subst hK);(try refine qy ?_);(repeat refine qq ?_);refine qc (fun h9=>?_) (fun h9=>?_)<;>try simp only[cs] at h9
  ·(try refine qy ?_);(repeat refine qq ?_);(try generalize hK:ba _ _ _ _=K);refine af.b_ ?_
   (first|refine xT ?_|refine xL ?_|refine xN ?_|refine xo ?_|refine xp ?_)
   refine ae.len rfl rfl rfl hb rfl ?_;rw[hbl];(repeat(first|refine xT ?_|refine xL ?_|refine xN ?_|refine xo ?_|refine xp ?_));refine ae.nil ?_;(try dsimp only[Fr.au,Fr.put,Fr.clean,Fr.ev,Fr.get,nth,V.look,u1,u2,v1,v2,v3,v4,v5,v6,v7,List.length,u3,u4,Nat.reduceSub,Nat.reduceAdd,List.map]);(try subst hK);(try refine qy ?_);refine af.ret ⟨rx,_,rfl,aP (by simp) (by simp[aj]) ?_⟩;rw[if_pos (by omega)];rfl
  ·refine af.skip ?_;(try refine qy ?_);(repeat refine qq ?_);(try generalize hK:ba _ _ _ _=K);refine af.b_ ?_;(repeat(first|refine xT ?_|refine xL ?_|refine xN ?_|refine xo ?_|refine xp ?_));refine ae.nil ?_;(try dsimp only[Fr.au,Fr.put,Fr.clean,Fr.ev,Fr.get,nth,V.look,u1,u2,v1,v2,v3,v4,v5,v6,v7,List.length,u3,u4,Nat.reduceSub,Nat.reduceAdd,List.map]);(try subst hK);(try refine qy ?_);refine af.ret ⟨rx,_,rfl,aP (by simp) (by simp[aj]) ?_⟩;rw[if_neg (by omega)];rfl
/- the plain law: the two ways to look at the first rune -/
theorem xS (c:Nat):(cL c=0∧(bM c).1=-1)∨(cL c=1∧(bM c).1=0)∨(2≤cL c∧(bM c).1=(cL c:Int)-1∧(bM c).2.1=vf c∧(bM c).2.2=wZ c):=by
 unfold cL bM vf wZ
 by_cases h1:c<128
 ·simp[h1]
 by_cases h2:c<194
 ·simp[h1,h2]
 by_cases h0:245≤c
 ·left;rw[if_neg (by omega),if_neg (by omega),if_neg (by omega),if_neg (by omega),if_neg (by omega),if_neg (by omega),if_neg (by omega),if_neg (by omega),if_neg (by omega),if_neg (by omega),if_neg (by omega),if_neg (by omega),if_neg (by omega),if_neg (by omega)];simp
 right;right
 by_cases h3:c<224
 ·simp only[h1,h2,h3,if_true,if_false];rw[if_neg (by omega),if_neg (by omega),if_neg (by omega),if_neg (by omega),if_neg (by omega),if_neg (by omega),if_neg (by omega)];simp
 by_cases h4:c=224
 ·subst h4;simp
 by_cases h5:c=237
 ·subst h5;simp
 by_cases h6:c<240
 ·simp only[h1,h2,h3,h4,h5,h6,if_true,if_false];rw[if_neg (by omega),if_neg (by omega),if_neg (by omega)];simp
 by_cases h7:c=240
 ·subst h7;simp
 by_cases h8:c<244
 ·simp only[h1,h2,h3,h4,h5,h6,h7,h8,if_true,if_false];rw[if_pos (by omega),if_neg (by omega)];simp
 by_cases h9:c=244
 ·subst h9;simp
 omega
def jK (r:Nat):Nat→List UInt8→Nat
 |0,_=>r
 |_+1,[]=>r
 |left+1,y::ys=>jK (r*64+y.toNat %64) left ys
theorem pk (c n:Nat):∀(left i r lo hi:Nat) (xs:List UInt8),1≤i→(∀y,je c i y=(decide (lo≤y∧y≤hi)))→
  fh left n r lo hi xs=if ga c left i xs=true then(if xs.length<left then(0,0,true) else(jK r left xs,n,false)) else(0,0,false)
 |0,i,r,lo,hi,xs,_,_=>by simp[fh,ga,jK]
 |left+1,i,r,lo,hi,[],_,_=>by simp[fh,ga]
 |left+1,i,r,lo,hi,y::ys,RP,hg=>by
  simp only[fh,ga,hg,jK]
  by_cases hb:lo≤y.toNat∧y.toNat≤hi
  ·rw[if_neg (by omega),decide_eq_true hb,Bool.true_and];rw[pk c n left (i+1) _ 128 191 ys (by omega) (fun z=>by unfold je;rw[if_neg (by omega)])];simp only[List.length_cons,Nat.add_lt_add_iff_right]
  ·rw[if_pos (by omega),decide_eq_false hb];simp
def iE (c n:Nat):Nat:=if n≤1 then c else c %(64/2^(n-1))
theorem yf (c:UInt8) (xs:List UInt8):eO (c::xs)=if cL c.toNat=0 then(0,0,false) else if ga c.toNat (cL c.toNat-1) 1 xs=true then(if xs.length<cL c.toNat-1 then(0,0,true) else(jK (iE c.toNat (cL c.toNat)) (cL c.toNat-1) xs,cL c.toNat,false)) else(0,0,false):=by
 simp only[eO]
 rcases xS c.toNat with⟨h1,h2⟩|⟨h1,h2⟩|⟨h1,h2,h3,h4⟩
 ·rw[h1,h2];simp
 ·rw[h1,h2];simp[fh,ga,jK,iE]
 ·have hk:(bM c.toNat).1.toNat=cL c.toNat-1:=by omega
  rw[if_neg (show¬(bM c.toNat).1<0 by omega),if_neg (show¬cL c.toNat=0 by omega),if_pos (show(bM c.toNat).1>0 by omega),hk,h3,h4];rw[pk c.toNat _ _ 1 _ _ _ _ (by omega) (fun y=>by unfold je;rw[if_pos rfl])];have:cL c.toNat-1+1=cL c.toNat:=by omega
  rw[this];have h5:iE c.toNat (cL c.toNat)=c.toNat %(64/2^(cL c.toNat-1)):=by unfold iE;rw[if_neg (by omega)]
  rw[h5]
def vW (b:List UInt8):Bool:=(eO b).2.2
theorem vH (b:List UInt8):(vW b=true↔(0<(cJ b).1∧(cJ b).1<(cJ b).2∧(cJ b).1=b.length))∧
  (((cJ b).1=0∨(cJ b).1<(cJ b).2)→fc b=(65533,1))∧
  (¬((cJ b).1=0∨(cJ b).1<(cJ b).2)→∃c xs,b=c::xs∧1≤(cJ b).2∧(cJ b).2≤4∧(cJ b).2-1≤xs.length∧fc b=(jK (iE c.toNat (cJ b).2) ((cJ b).2-1) xs,(cJ b).2)):=by
 cases b with
 |nil=>simp[vW,eO,cJ,fc]
 |cons c xs=>
  have hn:=tx c.toNat;simp only[vW,fc,yf,cJ]
  by_cases h1:cL c.toNat=0
  ·simp[h1]
  rw[if_neg h1,if_neg h1]
  by_cases h2:ga c.toNat (cL c.toNat-1) 1 xs=true
  ·rw[if_pos h2,if_pos h2]
   by_cases h3:xs.length+1<cL c.toNat
   ·rw[if_pos (by omega),if_pos h3];simp<;>omega
   ·rw[if_neg (by omega),if_neg h3];refine⟨by simp<;>omega,by simp<;>omega,fun _=>⟨c,xs,rfl,by simp only;omega,by simp only;omega,by simp only;omega,?_⟩⟩;simp only;rw[if_neg h1]
  ·rw[if_neg h2,if_neg h2];simp
theorem rZ {c j:Nat} (hc:c<256) (hj:j≤8) {m:Int} (hm:m=((2^j-1:Nat):Int)):bH .u8 ((BitVec.ofInt IntKind.u8.bits (c:Nat) &&&BitVec.ofInt IntKind.u8.bits m).toNat:Nat)=((c %2^j:Nat):Int):=by
 have h1:2^j≤2^8:=Nat.pow_le_pow_right (by omega) hj;subst hm;show bH .u8 ((BitVec.ofInt 8 (c:Nat) &&&BitVec.ofInt 8 ((2^j-1:Nat):Int)).toNat:Nat)=_;rw[rY (w:=8) (by omega) (by omega)];have:c %2^j≤c:=Nat.mod_le _ _;rw[cA (k:=.u8) (by simp only[hO];omega)]
theorem yu {c:Nat} (h:c<2147483648):bH .i32 (c:Nat)=(c:Nat):=cA (by simp only[hO];omega)
theorem pj {a:Nat} (i:Nat) {e:Int} (he:e=(i:Nat)) (hi:i≤31) (h:a*2^i<2147483648):bH .i32 ((a:Int)*2^(min e.toNat IntKind.i32.bits))=((a*2^i:Nat):Int):=by
 subst he;have:min ((i:Nat):Int).toNat IntKind.i32.bits=i:=by show min ((i:Nat):Int).toNat 32=i;omega
 rw[this];have:(a:Int)*2^i=((a*2^i:Nat):Int):=by simp
 rw[this,yu h]
theorem xJ {x a b:Nat} (i:Nat) (hx:x=a*2^i) (hb:b<2^i) (h:a*2^i+b<2147483648):bH .i32 ((BitVec.ofInt IntKind.i32.bits (x:Nat)|||BitVec.ofInt IntKind.i32.bits (b:Nat)).toNat:Nat)=((a*2^i+b:Nat):Int):=by
 subst hx;show bH .i32 ((BitVec.ofInt 32 ((a*2^i:Nat):Int)|||BitVec.ofInt 32 (b:Nat)).toNat:Nat)=_;rw[Fk (by omega) (by omega)]
 have h3:(a*2^i)|||b=a*2^i+b:=by
  rw[Nat.mul_comm a,Nat.two_pow_add_eq_or_of_lt hb]
 rw[h3,yu h]
theorem xC {st:St} {x:D} {b:List UInt8} (hb:Bytes st x b) (hlen:b.length≤1048576):Ev pv 75 [x] st (.agg (aU (fc b))) st:=by
 refine Ev.j8 rfl PO rfl rfl rfl ?_;dsimp only[u3,u4,List.length,Nat.reduceSub,Nat.reduceAdd,w1,w2];have hx:=hb.ref;have kQ:=hb.enter .ro;have hbl:=bX b;obtain⟨_,hz,AW⟩:=vH b;(try refine qy ?_);(repeat refine qq ?_);(try generalize hK:ba _ _ _ _=K);refine af.b_ ?_;(repeat(first|refine xT ?_|refine xL ?_|refine xN ?_|refine xo ?_|refine xp ?_));refine ae.nil ?_;(try dsimp only[Fr.au,Fr.put,Fr.clean,Fr.ev,Fr.get,nth,V.look,u1,u2,v1,v2,v3,v4,v5,v6,v7,List.length,u3,u4,Nat.reduceSub,Nat.reduceAdd,List.map]);(try subst hK);(try refine qy ?_);generalize hS:(aj .ro st).push _=S;have hb:Bytes S x b:=by subst hS;exact Rows.ex (Ex.push (st:=aj .ro st) (N:=st.bs.length) (Nat.le_refl _) _) kQ hx
 (try refine qy ?_);(repeat refine qq ?_);(try generalize hK:ba _ _ _ _=K);refine af.b_ ?_
 (first|refine xT ?_|refine xL ?_|refine xN ?_|refine xo ?_|refine xp ?_)
 refine ae.MK rfl rfl rfl (EE hb hlen) ?_;(repeat(first|refine xT ?_|refine xL ?_|refine xN ?_|refine xo ?_|refine xp ?_));refine ae.nil ?_;(try dsimp only[Fr.au,Fr.put,Fr.clean,Fr.ev,Fr.get,nth,V.look,u1,u2,v1,v2,v3,v4,v5,v6,v7,List.length,u3,u4,Nat.reduceSub,Nat.reduceAdd,List.map]);(try subst hK);(try refine qy ?_);generalize hk:(cJ b).1=k at*;generalize hn:(cJ b).2=n at*;have Pp:S.bs[st.bs.length]?=some (.mem 0 false [.int .i32 0,.int .i64 0]):=by subst hS;exact iK (aj .ro st) _
 have Po:∀r,S.iX st.bs.length r=true:=fun r=>by subst hS;exact uo (N:=st.bs.length) (Nat.le_refl _) (Nat.le_refl _) (Nat.le_refl _)
 have done:∀(q:Nat×Nat) (fr:Fr) (s1:St),fr.get 2=.ptr st.bs.length 0 0→s1={S with bs:=S.bs.set st.bs.length (.mem 0 false (aU q))}→
   (∀i,Out.ret≠.exit i)∧∃ds,iJ pv fr s1 Try.f75.results.toList=some ds∧cE .ro false st s1 (nM ds)=some (.agg (aU q),st):=by
  intro q fr s1 hg hs
  have zG:s1=(aj .ro st).push (.mem 0 false (aU q)):=by
   rw[hs,←hS];exact tc (st:=aj .ro st) (k:=st.bs.length) rfl
  have hm:s1.dN st.bs.length 0=some (false,aU q):=by rw[zG];exact mem_push (aj .ro st) 0 false (aU q)
  have hl:eU pv 103 (.ptr st.bs.length 0 0) s1=some (.agg (aU q)):=by
   simp only[eU,hm,Option.bind_some];rfl
  have hr:iJ pv fr s1 Try.f75.results.toList=some [.agg (aU q)]:=by
   show(eU pv 103 (fr.get 2) s1).bind _=_;rw[hg,hl];rfl
  refine⟨fun i h=>(by cases h),_,hr,aP (by simp) ?_ rfl⟩;have O5:=Ex.push (N:=st.bs.length) (st:=aj .ro st) (Nat.le_refl _) (.mem 0 false (aU q));rw[zG];exact O5.take rfl
 by_cases h1:k=0∨k<n
 ·have ho:=hz h1;rw[ho]
  by_cases h2:k=0
  ·subst h2;(try refine qy ?_);(repeat refine qq ?_);(try generalize hK:ba _ _ _ _=K);refine af.b_ ?_;(repeat(first|refine xT ?_|refine xL ?_|refine xN ?_|refine xo ?_|refine xp ?_|simp(disch:=omega) only[decide_eq_true,decide_eq_false,b6,cP,b5,cO]));refine ae.nil ?_;(try dsimp only[Fr.au,Fr.put,Fr.clean,Fr.ev,Fr.get,nth,V.look,u1,u2,v1,v2,v3,v4,v5,v6,v7,List.length,u3,u4,Nat.reduceSub,Nat.reduceAdd,List.map]);(try subst hK);(try refine qy ?_);refine af.cond (v:=true) rfl (fun _=>?_) (fun h=>by cases h);(try refine qy ?_);(repeat refine qq ?_);(try generalize hK:ba _ _ _ _=K);refine af.b_ ?_
   (first|refine xT ?_|refine xL ?_|refine xN ?_|refine xo ?_|refine xp ?_)
   refine ae.store (k:=st.bs.length) (aC:=0) (off:=0) (cs:=aU (65533,1)) rfl rfl rfl rfl rfl Pp (by decide) (Po _)<|ae.nil ?_;(try dsimp only[Fr.au,Fr.put,Fr.clean,Fr.ev,Fr.get,nth,V.look,u1,u2,v1,v2,v3,v4,v5,v6,v7,List.length,u3,u4,Nat.reduceSub,Nat.reduceAdd,List.map]);(try subst hK);(try refine qy ?_);exact af.ret (done _ _ _ rfl rfl)
  ·(try refine qy ?_);(repeat refine qq ?_);(try generalize hK:ba _ _ _ _=K);refine af.b_ ?_;(repeat(first|refine xT ?_|refine xL ?_|refine xN ?_|refine xo ?_|refine xp ?_|simp(disch:=omega) only[decide_eq_true,decide_eq_false,b6,cP,b5,cO]));refine ae.nil ?_;(try dsimp only[Fr.au,Fr.put,Fr.clean,Fr.ev,Fr.get,nth,V.look,u1,u2,v1,v2,v3,v4,v5,v6,v7,List.length,u3,u4,Nat.reduceSub,Nat.reduceAdd,List.map]);(try subst hK);(try refine qy ?_);refine af.cond (v:=true) rfl (fun _=>?_) (fun h=>by cases h);(try refine qy ?_);(repeat refine qq ?_);(try generalize hK:ba _ _ _ _=K);refine af.b_ ?_
   (first|refine xT ?_|refine xL ?_|refine xN ?_|refine xo ?_|refine xp ?_)
   refine ae.store (k:=st.bs.length) (aC:=0) (off:=0) (cs:=aU (65533,1)) rfl rfl rfl rfl rfl Pp (by decide) (Po _)<|ae.nil ?_;(try dsimp only[Fr.au,Fr.put,Fr.clean,Fr.ev,Fr.get,nth,V.look,u1,u2,v1,v2,v3,v4,v5,v6,v7,List.length,u3,u4,Nat.reduceSub,Nat.reduceAdd,List.map]);(try subst hK);(try refine qy ?_);exact af.ret (done _ _ _ rfl rfl)
 obtain⟨c,xs,rfl,AX,WR,E4,ho⟩:=AW h1;rw[ho];have hc:=jo c;(try refine qy ?_);(repeat refine qq ?_);(try generalize hK:ba _ _ _ _=K);refine af.b_ ?_;(repeat(first|refine xT ?_|refine xL ?_|refine xN ?_|refine xo ?_|refine xp ?_|simp(disch:=omega) only[decide_eq_true,decide_eq_false,b6,cP,b5,cO]));refine ae.nil ?_;(try dsimp only[Fr.au,Fr.put,Fr.clean,Fr.ev,Fr.get,nth,V.look,u1,u2,v1,v2,v3,v4,v5,v6,v7,List.length,u3,u4,Nat.reduceSub,Nat.reduceAdd,List.map]);(try subst hK);(try refine qy ?_);refine af.cond (v:=false) rfl (fun h=>by cases h) fun _=>af.skip ?_;(try refine qy ?_);(repeat refine qq ?_);(try generalize hK:ba _ _ _ _=K);refine af.b_ ?_
 (first|refine xT ?_|refine xL ?_|refine xN ?_|refine xo ?_|refine xp ?_)
 refine ae.zD rfl rfl rfl (fun _=>rfl) (by simp) rfl rfl hb rfl rfl (by omega) (i:=0) (r:=[.int .u8 (c.toNat:Nat)]) rfl rfl (fun p=>?_);(repeat(first|refine xT ?_|refine xL ?_|refine xN ?_|refine xo ?_|refine xp ?_));refine ae.nil ?_;(try dsimp only[Fr.au,Fr.put,Fr.clean,Fr.ev,Fr.get,nth,V.look,u1,u2,v1,v2,v3,v4,v5,v6,v7,List.length,u3,u4,Nat.reduceSub,Nat.reduceAdd,List.map]);(try subst hK);(try refine qy ?_);(repeat refine qq ?_);(try generalize hK:ba _ _ _ _=K);refine af.b_ ?_;(repeat(first|refine xT ?_|refine xL ?_|refine xN ?_|refine xo ?_|refine xp ?_));refine ae.nil ?_;(try dsimp only[Fr.au,Fr.put,Fr.clean,Fr.ev,Fr.get,nth,V.look,u1,u2,v1,v2,v3,v4,v5,v6,v7,List.length,u3,u4,Nat.reduceSub,Nat.reduceAdd,List.map]);(try subst hK);(try refine qy ?_);rw[yu (by omega)];have hq:n=1∨n=2∨n=3∨n=4:=by omega
 generalize hK:ba _ _ _ _=K
 have H:∀(r:Nat) (m:List (Nat×D)) (l2:List D),r=(fc (c::xs)).1→l2.length=18→K .next ⟨24,x::.tup []::.ptr st.bs.length 0 0::.int .i64 (k:Nat)::.int .i64 (n:Nat)::.int .i32 r::l2,m⟩ S:=by
  intro r m l2 hr uF;subst hK;(try refine qy ?_);(repeat refine qq ?_);(try generalize hK:ba _ _ _ _=K);refine af.b_ ?_
  (first|refine xT ?_|refine xL ?_|refine xN ?_|refine xo ?_|refine xp ?_)
  (first|refine xT ?_|refine xL ?_|refine xN ?_|refine xo ?_|refine xp ?_)
  refine ae.T rfl rfl rfl (d:=.agg (aU (r,n))) (st1:=S) rfl<|ae.store (k:=st.bs.length) (aC:=0) (off:=0) (cs:=aU (r,n)) rfl rfl rfl rfl rfl Pp (by simp[aU]) (Po _)<|ae.nil ?_;(try dsimp only[Fr.au,Fr.put,Fr.clean,Fr.ev,Fr.get,nth,V.look,u1,u2,v1,v2,v3,v4,v5,v6,v7,List.length,u3,u4,Nat.reduceSub,Nat.reduceAdd,List.map]);(try subst hK);(try refine qy ?_);rw[←ho];have e:fc (c::xs)=(r,n):=by rw[hr,ho]
  rw[e];exact af.ret (done _ _ _ rfl rfl)
 rcases hq with hq|hq|hq|hq
 ·subst hq;(try refine qy ?_);(repeat refine qq ?_);refine af.block ?_;(try refine qy ?_);(repeat refine qq ?_);(try generalize hK:ba _ _ _ _=K);refine af.b_ ?_;(repeat(first|refine xT ?_|refine xL ?_|refine xN ?_|refine xo ?_|refine xp ?_));refine ae.nil ?_;(try dsimp only[Fr.au,Fr.put,Fr.clean,Fr.ev,Fr.get,nth,V.look,u1,u2,v1,v2,v3,v4,v5,v6,v7,List.length,u3,u4,Nat.reduceSub,Nat.reduceAdd,List.map]);(try subst hK);(try refine qy ?_);refine af.cond (v:=false) rfl (fun h=>by cases h) fun _=>?_;(try refine qy ?_);(repeat refine qq ?_);(try generalize hK:ba _ _ _ _=K);refine af.b_ ?_;(repeat(first|refine xT ?_|refine xL ?_|refine xN ?_|refine xo ?_|refine xp ?_));refine ae.nil ?_;(try dsimp only[Fr.au,Fr.put,Fr.clean,Fr.ev,Fr.get,nth,V.look,u1,u2,v1,v2,v3,v4,v5,v6,v7,List.length,u3,u4,Nat.reduceSub,Nat.reduceAdd,List.map]);(try subst hK);(try refine qy ?_);refine af.cond (v:=false) rfl (fun h=>by cases h) fun _=>?_;(try refine qy ?_);(repeat refine qq ?_);(try generalize hK:ba _ _ _ _=K);refine af.b_ ?_;(repeat(first|refine xT ?_|refine xL ?_|refine xN ?_|refine xo ?_|refine xp ?_));refine ae.nil ?_;(try dsimp only[Fr.au,Fr.put,Fr.clean,Fr.ev,Fr.get,nth,V.look,u1,u2,v1,v2,v3,v4,v5,v6,v7,List.length,u3,u4,Nat.reduceSub,Nat.reduceAdd,List.map]);(try subst hK);(try refine qy ?_);refine af.cond (v:=false) rfl (fun h=>by cases h) fun _=>?_;(try refine qy ?_);refine af.skip<|H _ _ _ ?_ rfl;rw[ho];simp[jK,iE]
 ·subst hq
  obtain⟨y1,ys,rfl⟩:∃y1 ys,xs=y1::ys:=by
   match xs,E4 with
   |y1::ys,_=>exact⟨y1,ys,rfl⟩
  have hy1:=jo y1;(try refine qy ?_);(repeat refine qq ?_);refine af.block ?_;(try refine qy ?_);(repeat refine qq ?_);(try generalize hK:ba _ _ _ _=K);refine af.b_ ?_;(repeat(first|refine xT ?_|refine xL ?_|refine xN ?_|refine xo ?_|refine xp ?_));refine ae.nil ?_;(try dsimp only[Fr.au,Fr.put,Fr.clean,Fr.ev,Fr.get,nth,V.look,u1,u2,v1,v2,v3,v4,v5,v6,v7,List.length,u3,u4,Nat.reduceSub,Nat.reduceAdd,List.map]);(try subst hK);(try refine qy ?_);refine af.cond (v:=true) rfl (fun _=>?_) (fun h=>by cases h);(try refine qy ?_);(repeat refine qq ?_);(try generalize hK:ba _ _ _ _=K);refine af.b_ ?_
  (first|refine xT ?_|refine xL ?_|refine xN ?_|refine xo ?_|refine xp ?_)
  refine ae.bY rfl rfl rfl (fun _=>rfl) rfl rfl hb rfl rfl (by omega) (i:=0) (r:=[.int .u8 (c.toNat:Nat)]) rfl rfl (fun p=>?_);(repeat(first|refine xT ?_|refine xL ?_|refine xN ?_|refine xo ?_|refine xp ?_));refine ae.bY rfl rfl rfl (fun _=>rfl) rfl rfl hb rfl rfl (by omega) (i:=1) (r:=[.int .u8 (y1.toNat:Nat)]) rfl rfl (fun p=>?_);(repeat(first|refine xT ?_|refine xL ?_|refine xN ?_|refine xo ?_|refine xp ?_));refine ae.nil ?_;(try dsimp only[Fr.au,Fr.put,Fr.clean,Fr.ev,Fr.get,nth,V.look,u1,u2,v1,v2,v3,v4,v5,v6,v7,List.length,u3,u4,Nat.reduceSub,Nat.reduceAdd,List.map]);(try subst hK);(try refine qy ?_);rw[rZ (j:=5) (m:=31) hc (by omega) (by decide),rZ (j:=6) (m:=63) hy1 (by omega) (by decide),yu (c:=c.toNat %2^5) (by omega),yu (c:=y1.toNat %2^6) (by omega),pj 6 (by decide) (by omega) (by omega),xJ 6 rfl (by omega) (by omega)];refine H _ _ _ ?_ rfl;rw[ho];simp[jK,iE]
 ·subst hq
  obtain⟨y1,y2,ys,rfl⟩:∃y1 y2 ys,xs=y1::y2::ys:=by
   match xs,E4 with
   |y1::y2::ys,_=>exact⟨y1,y2,ys,rfl⟩
  have hy1:=jo y1;have vn:=jo y2;(try refine qy ?_);(repeat refine qq ?_);refine af.block ?_;(try refine qy ?_);(repeat refine qq ?_);(try generalize hK:ba _ _ _ _=K);refine af.b_ ?_;(repeat(first|refine xT ?_|refine xL ?_|refine xN ?_|refine xo ?_|refine xp ?_));refine ae.nil ?_;(try dsimp only[Fr.au,Fr.put,Fr.clean,Fr.ev,Fr.get,nth,V.look,u1,u2,v1,v2,v3,v4,v5,v6,v7,List.length,u3,u4,Nat.reduceSub,Nat.reduceAdd,List.map]);(try subst hK);(try refine qy ?_);refine af.cond (v:=false) rfl (fun h=>by cases h) fun _=>?_;(try refine qy ?_);(repeat refine qq ?_);(try generalize hK:ba _ _ _ _=K);refine af.b_ ?_;(repeat(first|refine xT ?_|refine xL ?_|refine xN ?_|refine xo ?_|refine xp ?_));refine ae.nil ?_;(try dsimp only[Fr.au,Fr.put,Fr.clean,Fr.ev,Fr.get,nth,V.look,u1,u2,v1,v2,v3,v4,v5,v6,v7,List.length,u3,u4,Nat.reduceSub,Nat.reduceAdd,List.map]);(try subst hK);(try refine qy ?_);refine af.cond (v:=true) rfl (fun _=>?_) (fun h=>by cases h);(try refine qy ?_);(repeat refine qq ?_);(try generalize hK:ba _ _ _ _=K);refine af.b_ ?_
  (first|refine xT ?_|refine xL ?_|refine xN ?_|refine xo ?_|refine xp ?_)
  refine ae.bY rfl rfl rfl (fun _=>rfl) rfl rfl hb rfl rfl (by omega) (i:=0) (r:=[.int .u8 (c.toNat:Nat)]) rfl rfl (fun p=>?_);(repeat(first|refine xT ?_|refine xL ?_|refine xN ?_|refine xo ?_|refine xp ?_));refine ae.bY rfl rfl rfl (fun _=>rfl) rfl rfl hb rfl rfl (by omega) (i:=1) (r:=[.int .u8 (y1.toNat:Nat)]) rfl rfl (fun p=>?_);(repeat(first|refine xT ?_|refine xL ?_|refine xN ?_|refine xo ?_|refine xp ?_));refine ae.bY rfl rfl rfl (fun _=>rfl) rfl rfl hb rfl rfl (by omega) (i:=2) (r:=[.int .u8 (y2.toNat:Nat)]) rfl rfl (fun p=>?_);(repeat(first|refine xT ?_|refine xL ?_|refine xN ?_|refine xo ?_|refine xp ?_));refine ae.nil ?_;(try dsimp only[Fr.au,Fr.put,Fr.clean,Fr.ev,Fr.get,nth,V.look,u1,u2,v1,v2,v3,v4,v5,v6,v7,List.length,u3,u4,Nat.reduceSub,Nat.reduceAdd,List.map]);(try subst hK);(try refine qy ?_);rw[rZ (j:=4) (m:=15) hc (by omega) (by decide),rZ (j:=6) (m:=63) hy1 (by omega) (by decide),rZ (j:=6) (m:=63) vn (by omega) (by decide),yu (c:=c.toNat %2^4) (by omega),yu (c:=y1.toNat %2^6) (by omega),yu (c:=y2.toNat %2^6) (by omega),pj 12 (by decide) (by omega) (by omega),pj 6 (by decide) (by omega) (by omega),xJ 12 rfl (by omega) (by omega),xJ (a:=c.toNat %2^4*64+y1.toNat %2^6) 6 (by omega) (by omega) (by omega)];refine H _ _ _ ?_ rfl;rw[ho];simp[jK,iE]
 ·subst hq
  obtain⟨y1,y2,y3,ys,rfl⟩:∃y1 y2 y3 ys,xs=y1::y2::y3::ys:=by
   match xs,E4 with
   |y1::y2::y3::ys,_=>exact⟨y1,y2,y3,ys,rfl⟩
  have hy1:=jo y1;have vn:=jo y2;have xX:=jo y3;(try refine qy ?_);(repeat refine qq ?_);refine af.block ?_;(try refine qy ?_);(repeat refine qq ?_);(try generalize hK:ba _ _ _ _=K);refine af.b_ ?_;(repeat(first|refine xT ?_|refine xL ?_|refine xN ?_|refine xo ?_|refine xp ?_));refine ae.nil ?_;(try dsimp only[Fr.au,Fr.put,Fr.clean,Fr.ev,Fr.get,nth,V.look,u1,u2,v1,v2,v3,v4,v5,v6,v7,List.length,u3,u4,Nat.reduceSub,Nat.reduceAdd,List.map]);(try subst hK);(try refine qy ?_);refine af.cond (v:=false) rfl (fun h=>by cases h) fun _=>?_;(try refine qy ?_);(repeat refine qq ?_);(try generalize hK:ba _ _ _ _=K);refine af.b_ ?_;(repeat(first|refine xT ?_|refine xL ?_|refine xN ?_|refine xo ?_|refine xp ?_));refine ae.nil ?_;(try dsimp only[Fr.au,Fr.put,Fr.clean,Fr.ev,Fr.get,nth,V.look,u1,u2,v1,v2,v3,v4,v5,v6,v7,List.length,u3,u4,Nat.reduceSub,Nat.reduceAdd,List.map]);(try subst hK);(try refine qy ?_);refine af.cond (v:=false) rfl (fun h=>by cases h) fun _=>?_;(try refine qy ?_);(repeat refine qq ?_);(try generalize hK:ba _ _ _ _=K);refine af.b_ ?_;(repeat(first|refine xT ?_|refine xL ?_|refine xN ?_|refine xo ?_|refine xp ?_));refine ae.nil ?_;(try dsimp only[Fr.au,Fr.put,Fr.clean,Fr.ev,Fr.get,nth,V.look,u1,u2,v1,v2,v3,v4,v5,v6,v7,List.length,u3,u4,Nat.reduceSub,Nat.reduceAdd,List.map]);(try subst hK);(try refine qy ?_);refine af.cond (v:=true) rfl (fun _=>?_) (fun h=>by cases h);(try refine qy ?_);(repeat refine qq ?_);(try generalize hK:ba _ _ _ _=K);refine af.b_ ?_
  (first|refine xT ?_|refine xL ?_|refine xN ?_|refine xo ?_|refine xp ?_)
  refine ae.bY rfl rfl rfl (fun _=>rfl) rfl rfl hb rfl rfl (by omega) (i:=0) (r:=[.int .u8 (c.toNat:Nat)]) rfl rfl (fun p=>?_);(repeat(first|refine xT ?_|refine xL ?_|refine xN ?_|refine xo ?_|refine xp ?_));refine ae.bY rfl rfl rfl (fun _=>rfl) rfl rfl hb rfl rfl (by omega) (i:=1) (r:=[.int .u8 (y1.toNat:Nat)]) rfl rfl (fun p=>?_);(repeat(first|refine xT ?_|refine xL ?_|refine xN ?_|refine xo ?_|refine xp ?_));refine ae.bY rfl rfl rfl (fun _=>rfl) rfl rfl hb rfl rfl (by omega) (i:=2) (r:=[.int .u8 (y2.toNat:Nat)]) rfl rfl (fun p=>?_);(repeat(first|refine xT ?_|refine xL ?_|refine xN ?_|refine xo ?_|refine xp ?_));refine ae.bY rfl rfl rfl (fun _=>rfl) rfl rfl hb rfl rfl (by omega) (i:=3) (r:=[.int .u8 (y3.toNat:Nat)]) rfl rfl (fun p=>?_);(repeat(first|refine xT ?_|refine xL ?_|refine xN ?_|refine xo ?_|refine xp ?_));refine ae.nil ?_;(try dsimp only[Fr.au,Fr.put,Fr.clean,Fr.ev,Fr.get,nth,V.look,u1,u2,v1,v2,v3,v4,v5,v6,v7,List.length,u3,u4,Nat.reduceSub,Nat.reduceAdd,List.map]);(try subst hK);(try refine qy ?_);rw[rZ (j:=3) (m:=7) hc (by omega) (by decide),rZ (j:=6) (m:=63) hy1 (by omega) (by decide),rZ (j:=6) (m:=63) vn (by omega) (by decide),rZ (j:=6) (m:=63) xX (by omega) (by decide),yu (c:=c.toNat %2^3) (by omega),yu (c:=y1.toNat %2^6) (by omega),yu (c:=y2.toNat %2^6) (by omega),yu (c:=y3.toNat %2^6) (by omega),pj 18 (by decide) (by omega) (by omega),pj 12 (by decide) (by omega) (by omega),pj 6 (by decide) (by omega) (by omega),xJ 18 rfl (by omega) (by omega),xJ (a:=c.toNat %2^3*64+y1.toNat %2^6) 12 (by omega) (by omega) (by omega),xJ (a:=(c.toNat %2^3*64+y1.toNat %2^6)*64+y2.toNat %2^6) 6 (by omega) (by omega) (by omega)];refine H _ _ _ ?_ rfl;rw[ho];simp[jK,iE]
theorem DP {st:St} {x:D} {b:List UInt8} (hb:Bytes st x b) (hlen:b.length≤1048576):Ev pv 58 [x] st (bZ (dX b)) st:=by
 refine Ev.j8 rfl P1 rfl rfl rfl ?_;dsimp only[u3,u4,List.length,Nat.reduceSub,Nat.reduceAdd,w1,w2];have hx:=hb.ref;(try refine qy ?_);(repeat refine qq ?_);(try generalize hK:ba _ _ _ _=K);refine af.b_ ?_;(repeat(first|refine xT ?_|refine xL ?_|refine xN ?_|refine xo ?_|refine xp ?_));refine ae.nil ?_;(try dsimp only[Fr.au,Fr.put,Fr.clean,Fr.ev,Fr.get,nth,V.look,u1,u2,v1,v2,v3,v4,v5,v6,v7,List.length,u3,u4,Nat.reduceSub,Nat.reduceAdd,List.map]);(try subst hK);(try refine qy ?_);(repeat refine qq ?_);(try generalize hK:ba _ _ _ _=K);refine af.b_ ?_;(repeat(first|refine xT ?_|refine xL ?_|refine xN ?_|refine xo ?_|refine xp ?_));refine ae.nil ?_;(try dsimp only[Fr.au,Fr.put,Fr.clean,Fr.ev,Fr.get,nth,V.look,u1,u2,v1,v2,v3,v4,v5,v6,v7,List.length,u3,u4,Nat.reduceSub,Nat.reduceAdd,List.map]);(try subst hK);(try refine qy ?_);(repeat refine qq ?_);refine af.block ?_
 refine af.loop (fun j fr ai=>∃(y out g:D) (b':List UInt8) (done:List (Nat×Nat)),fr.clean=⟨5,[y,.tup [],.nul,out,g],[]⟩∧Ex st.bs.length (aj .ro st) ai∧Bytes ai y b'∧y.ref≤st.bs.length∧
  Acc st.bs.length ai 2 out (done.map aU)∧j=b'.length∧done++dX b'=dX b∧done.length+b'.length≤b.length) b.length
  ⟨x,.nul,_,b,[],rfl,Ex.refl _ _,hb.enter .ro,hx,.nul,rfl,rfl,by simp⟩ ?_
 rintro j fr ai ⟨y,out,g0,b',done,hfr,hex,hy,Lj,tW,rfl,jk,hl⟩;rw[hfr];(try refine qy ?_);(repeat refine qq ?_);(try generalize hK:ba _ _ _ _=K);refine af.b_ ?_
 (first|refine xT ?_|refine xL ?_|refine xN ?_|refine xo ?_|refine xp ?_)
 refine ae.len rfl rfl rfl hy rfl ?_;(repeat(first|refine xT ?_|refine xL ?_|refine xN ?_|refine xo ?_|refine xp ?_));refine ae.nil ?_;(try dsimp only[Fr.au,Fr.put,Fr.clean,Fr.ev,Fr.get,nth,V.look,u1,u2,v1,v2,v3,v4,v5,v6,v7,List.length,u3,u4,Nat.reduceSub,Nat.reduceAdd,List.map]);(try subst hK);(try refine qy ?_);rw[bX];(try refine qy ?_);(repeat refine qq ?_);refine qc (fun h1=>?_) (fun h1=>?_)<;>try simp only[cs] at h1
 ·refine af.skip ?_;(try refine qy ?_);have kQ:b'≠[]:=by rintro rfl;simp at h1
  (try refine qy ?_);(repeat refine qq ?_);refine af.block ?_;have Ry:=xC hy (by omega);generalize hg:fc b'=g at Ry;have hp:=jy b';have hle:=q_ kQ;rw[hg] at hp hle;have hN:st.bs.length≤ai.bs.length:=hex.len;have hf:ai.flr=st.bs.length:=by rw[hex.flr];rfl
  have fg:ai.ro=st.bs.length:=by rw[hex.ro];rfl
  (try refine qy ?_);(repeat refine qq ?_);(try generalize hK:ba _ _ _ _=K);refine af.b_ ?_
  (first|refine xT ?_|refine xL ?_|refine xN ?_|refine xo ?_|refine xp ?_)
  refine ae.qk rfl rfl rfl Ry<|ae.L rfl rfl rfl (d:=.ptr ai.bs.length 0 0) (st1:=ai.push (.mem 0 false (aU (0,0)))) rfl<|ae.store (k:=ai.bs.length) (aC:=0) (off:=0) (cs:=aU g) rfl rfl rfl rfl rfl (iK ai _) (by simp[aU]) (uo (N:=st.bs.length) hN (by rw[←hf];exact Nat.le_refl _) (by rw[←fg];exact Nat.le_refl _))<|ae.nil ?_;(try dsimp only[Fr.au,Fr.put,Fr.clean,Fr.ev,Fr.get,nth,V.look,u1,u2,v1,v2,v3,v4,v5,v6,v7,List.length,u3,u4,Nat.reduceSub,Nat.reduceAdd,List.map]);(try subst hK);(try refine qy ?_);rw[show(⟨(ai.push (.mem 0 false (aU (0,0)))).bs.set ai.bs.length (.mem 0 false ((aU (0,0)).take 0++aU g++(aU (0,0)).drop (0+(aU g).length))),(ai.push (.mem 0 false (aU (0,0)))).flr,(ai.push (.mem 0 false (aU (0,0)))).ro⟩:St)=ai.push (.mem 0 false (aU g)) from tc rfl];have rJ:=hex.trans (Ex.push hN (.mem 0 false (aU g)));generalize Mq:ai.push (.mem 0 false (aU g))=S1 at rJ;have da:S1.bs[ai.bs.length]?=some (.mem 0 false (aU g)):=by subst Mq;exact iK ai _
  have Mn:V.Acc st.bs.length S1 2 out (done.map aU):=by subst Mq;exact tW.push _
  have rG:ai.bs.length<S1.bs.length:=by subst Mq;simp[St.push]
  (try refine qy ?_);(repeat refine qq ?_);(try generalize hK:ba _ _ _ _=K);refine af.b_ ?_
  (first|refine xT ?_|refine xL ?_|refine xN ?_|refine xo ?_|refine xp ?_)
  refine ae.load (k:=ai.bs.length) (aC:=0) (off:=0) (ar:=false) (c:=aU g) (d:=.agg (aU g)) rfl rfl rfl da rfl<|ae.T rfl rfl rfl (d:=.win S1.bs.length 0 0 1 2) (st1:=S1.push (.mem 0 true (aU g))) rfl ?_;have vA:=rJ.trans (Ex.push rJ.len (.mem 0 true (aU g)));refine ae.append rfl rfl rfl rfl (Mn.push _) (Rows.one rfl) rfl rfl rfl rfl rfl rfl rfl (by decide) vA.len (by rw[vA.flr];exact Nat.le_refl _) (by rw[vA.ro];exact Nat.le_refl _) (by simp only[List.length_map,List.length_cons,List.length_nil];show(done.length+1)*16≤_;omega) fun IB st2 z' Ew _ pN _=>?_;(repeat(first|refine xT ?_|refine xL ?_|refine xN ?_|refine xo ?_|refine xp ?_));refine ae.nil ?_;(try dsimp only[Fr.au,Fr.put,Fr.clean,Fr.ev,Fr.get,nth,V.look,u1,u2,v1,v2,v3,v4,v5,v6,v7,List.length,u3,u4,Nat.reduceSub,Nat.reduceAdd,List.map]);(try subst hK);(try refine qy ?_);have O6:=vA.trans Ew;have vn:Bytes st2 y b':=Rows.ex ((Ex.push hN _).trans ((Ex.push (by rw[Mq];exact rJ.len) _).trans (by rw[Mq];exact Ew))) hy Lj
  have bm:st2.bs[ai.bs.length]?=some (.mem 0 false (aU g)):=by
   rw[pN ai.bs.length (by simp[St.push];omega) ?_]
   ·simp only[St.push];rw[List.getElem?_append_left rG];exact da
   ·have:=tW.ref;show ai.bs.length+1≠out.ref;omega
  (try refine qy ?_);(repeat refine qq ?_);(try generalize hK:ba _ _ _ _=K);refine af.b_ ?_
  (first|refine xT ?_|refine xL ?_|refine xN ?_|refine xo ?_|refine xp ?_)
  (first|refine xT ?_|refine xL ?_|refine xN ?_|refine xo ?_|refine xp ?_)
  refine ae.load (k:=ai.bs.length) (aC:=0) (off:=1) (ar:=false) (c:=aU g) (d:=.int .i64 (g.2:Nat)) rfl rfl rfl bm rfl<|ae.slice rfl rfl rfl vn rfl rfl (l:=g.2) (r:=b'.length) ?_ ⟨by omega,by rw[bX];omega⟩ fun y2 xX IW=>?_
  ·show cI (byteCells b').length (some (.int .i64 (g.2:Nat))) none=_;rw[bX];simp only[cI,ij,jS,Option.bind_some];rw[if_pos ⟨by omega,by omega⟩];rfl
  (repeat(first|refine xT ?_|refine xL ?_|refine xN ?_|refine xo ?_|refine xp ?_));refine ae.nil ?_;(try dsimp only[Fr.au,Fr.put,Fr.clean,Fr.ev,Fr.get,nth,V.look,u1,u2,v1,v2,v3,v4,v5,v6,v7,List.length,u3,u4,Nat.reduceSub,Nat.reduceAdd,List.map]);(try subst hK);(try refine qy ?_);refine⟨(b'.drop g.2).length,by rw[List.length_drop];omega,y2,IB,_,b'.drop g.2,done++[g],rfl,O6,?_,Nat.le_trans IW Lj,?_,rfl,?_,?_⟩
  ·have:((byteCells b').take b'.length).drop g.2=byteCells (b'.drop g.2):=by
    rw[←bX,List.take_length];simp[byteCells]
   unfold Bytes;rw[←this];exact xX
  ·rw[List.map_append];exact z'
  ·rw[List.append_assoc,List.singleton_append,←jk,mF kQ,hg]
  ·rw[List.length_append,List.length_drop];simp only[List.length_cons,List.length_nil];omega
 ·refine af.exit ?_
  have kQ:b'=[]:=by cases b' with|nil=>rfl|cons _ _=>simp at h1<;>omega
  subst kQ;rw[lN,List.append_nil] at jk;(try refine qy ?_);(repeat refine qq ?_);(try generalize hK:ba _ _ _ _=K);refine af.b_ ?_;(repeat(first|refine xT ?_|refine xL ?_|refine xN ?_|refine xo ?_|refine xp ?_));refine ae.nil ?_;(try dsimp only[Fr.au,Fr.put,Fr.clean,Fr.ev,Fr.get,nth,V.look,u1,u2,v1,v2,v3,v4,v5,v6,v7,List.length,u3,u4,Nat.reduceSub,Nat.reduceAdd,List.map]);(try subst hK);(try refine qy ?_);refine af.ret ⟨rx,_,rfl,aP (by simp) (hex.take rfl) ?_⟩;rw[←jk];exact tW.freeze kI (n:=15) (by decide)
structure eG where
 i:Nat
 o:Nat
 g:Nat
 e:Int
 w:Int
def aW (gs:List (Nat×Nat)) (bD:D) (s:eG):List D:=[bZ gs,bD,.int .i64 (s.i:Nat),.int .i64 (s.o:Nat),.int .i64 (s.g:Nat),.int .i64 s.e,.int .i64 s.w]
def ki (gs:List (Nat×Nat)) (i:Nat) (r:Int):Bool:=match gs[i]? with
 |some g=>((g.1:Nat):Int)==r
 |none=>false
theorem oo {gs:List (Nat×Nat)} {i:Nat} {r:Int} (h:ki gs i r=true):i<gs.length:=by
 unfold ki at h
 split at h
 ·exact cn (by assumption)
 ·cases h
def cQ (gs:List (Nat×Nat)) (s:eG) (r:Int):eG:=if ki gs s.i r=true then{s with i:=s.i+1} else s
def J0 (gs:List (Nat×Nat)) (i:Nat):Bool:=match gs[i]? with
 |some g=>((g.1:Nat):Int)==65533 &&((g.2:Nat):Int)==1
 |none=>false
def gW (bd:List Int) (s:eG) (i:Nat) (e:Int):eG:=if s.e=0 then{s with e:=e,w:=bd.getD i 0} else s
theorem mS {N k:Nat} {S s0:St} {H:List cz} {gs:List (Nat×Nat)} {bD:D} {s:eG} (nF:gs.length≤1048576) (r:Int) (hH:Has N S s0 (.box k (.mem 0 false (aW gs bD s))::H)):
  ∃d ai,Ev pv 85 [.ptr k 0 0,.int .i32 r] s0 d ai∧d=.bool (ki gs s.i r)∧Has N S ai (.box k (.mem 0 false (aW gs bD s))::H):=by
 refine Ev.mP rfl PH rfl rfl rfl ?_;dsimp only[u3,u4,List.length,Nat.reduceSub,Nat.reduceAdd,w1,w2];have cy:=hH;have hH:=hH.cH;have cq:(aj .rw s0).bs=s0.bs:=rfl;generalize aj .rw s0=S2 at*;have zS:Arg N S2 2 (bZ gs) (gs.map aU):=Arg.pure (fun st=>cT st gs);refine qq<|qj fun K hK=>qm ?_;refine qe hK ?_
 by_cases ha:s.i<gs.length
 ·obtain⟨g,hg⟩:∃g,gs[s.i]?=some g:=⟨gs[s.i]'ha,List.getElem?_eq_getElem _⟩
  have gI:(gs.map aU)[s.i]?=some (aU g):=by rw[List.getElem?_map,hg];rfl
  have aV:decide ((s.i:Int)<(gs.length:Nat))=true:=by rw[decide_eq_true];simp;omega
  have hv:ki gs s.i r=(((g.1:Nat):Int)==r):=by unfold ki;rw[hg]
  refine qq<|af.jO 4 (.bool (((g.1:Nat):Int)==r)) [] ?_ (fun ff tmp=>?_)
  ·refine qm ?_;refine qg ?_;refine qp (o:=2) ?_;refine ql hH aB ?_;refine qm ?_;refine qg ?_;refine qp (o:=0) ?_;refine ql hH aB ?_;refine qn ?_;simp only[List.length_map];refine qg ?_;refine qm ?_;refine qm ?_ (hg:=wi aV);refine qg ?_ (hg:=wi aV);refine qp (o:=0) ?_ (hg:=wi aV);refine ql hH aB ?_ (hg:=wi aV);refine qm ?_ (hg:=wi aV);refine qg ?_ (hg:=wi aV);refine qp (o:=2) ?_ (hg:=wi aV);refine ql hH aB ?_ (hg:=wi aV);refine qr (fun MS Em=>?_) (hg:=wi aV);refine qf (fo:=0) (fun MR El=>?_) (hg:=wi aV);refine qR ?_ (hg:=wi aV);refine qm ?_ (hg:=wi aV);refine qg ?_ (hg:=wi aV);refine qt aV ?_;refine qm ?_;refine ae.nil (aX ?_);dsimp only[aD,List.foldl,nth,u2,u1];dsimp only[Fr.au,Fr.put,Fr.clean,Fr.ev,Fr.get,nth,look,u1,u2,v1,v2,v4]
   all_goals(first|rfl|(simp[aV];done)|(simp_all;done)|(simp[aV];omega)|(simp_all;omega))
  dsimp only[aD,List.foldl,nth,u2,u1];refine af.ret ⟨rx,_,_,_,rfl,av (rfl),?_⟩;exact⟨by rw[hv];rfl,cy.aA cq hH⟩
 ·have aV:decide ((s.i:Int)<(gs.length:Nat))=false:=by rw[decide_eq_false];simp;omega
  have hv:ki gs s.i r=false:=by
   cases h:ki gs s.i r with
   |true=>exact absurd (oo h) ha
   |false=>rfl
  refine qq<|af.jO 4 (.bool false) [] ?_ (fun ff tmp=>?_)
  ·refine qm ?_;refine qg ?_;refine qp (o:=2) ?_;refine ql hH aB ?_;refine qm ?_;refine qg ?_;refine qp (o:=0) ?_;refine ql hH aB ?_;refine qn ?_;simp only[List.length_map];refine qg ?_;refine qm ?_;refine qs ?_ (hg:=wn aV);refine qs ?_ (hg:=wn aV);refine qs ?_ (hg:=wn aV);refine qs ?_ (hg:=wn aV);refine qs ?_ (hg:=wn aV);refine qs ?_ (hg:=wn aV);refine qs ?_ (hg:=wn aV);refine qs ?_ (hg:=wn aV);refine qs ?_ (hg:=wn aV);refine qs ?_ (hg:=wn aV);refine qs ?_ (hg:=wn aV);refine qs ?_ (hg:=wn aV);refine qs ?_ (hg:=wn aV);refine qu aV ?_;refine qm ?_;refine ae.nil (aX ?_);dsimp only[aD,List.foldl,nth,u2,u1];dsimp only[Fr.au,Fr.put,Fr.clean,Fr.ev,Fr.get,nth,look,u1,u2,v1,v2,v4]
   all_goals(first|rfl|(simp[aV];done)|(simp_all;done)|(simp[aV];omega)|(simp_all;omega))
  dsimp only[aD,List.foldl,nth,u2,u1];refine af.ret ⟨rx,_,_,_,rfl,av (rfl),?_⟩;exact⟨by rw[hv];rfl,cy.aA cq hH⟩
theorem dJ {N k:Nat} {S s0:St} {H:List cz} {gs:List (Nat×Nat)} {bD:D} {s:eG} (nF:gs.length≤1048576) (r:Int) (hH:Has N S s0 (.box k (.mem 0 false (aW gs bD s))::H)):
  ∃d ai,Ev pv 71 [.ptr k 0 0,.int .i32 r] s0 d ai∧d=.bool (ki gs s.i r)∧Has N S ai (.box k (.mem 0 false (aW gs bD (cQ gs s r)))::H):=by
 refine Ev.mP rfl PS rfl rfl rfl ?_;dsimp only[u3,u4,List.length,Nat.reduceSub,Nat.reduceAdd,w1,w2];have cy:=hH;have hH:=hH.cH;have cq:(aj .rw s0).bs=s0.bs:=rfl;generalize aj .rw s0=S2 at*;refine qq<|qj fun K hK=>qm ?_;refine qe hK<|qq<|qq<|qj fun K hK=>qm ?_;refine qm ?_;obtain⟨_,st,aS,rfl,hH⟩:=mS nF r hH;refine qv aS ?_;refine qe hK ?_;unfold cQ
 cases hb:ki gs s.i r with
 |true=>
  have hlt:=oo hb;dsimp only[aW] at hH;rw[if_pos rfl];refine qB ?_;refine qq<|qj fun K hK=>qm ?_;refine qg ?_;refine qp (o:=2) ?_;refine ql hH aB ?_;refine qA ?_;refine qg ?_;refine qp (o:=2) ?_;refine qT hH aB fun st hH=>?_;dsimp only[u2,u1,u3,u4,setMany,u5,u6,D.cells,Nat.reduceAdd,aW,aU,aq] at hH;refine qe hK<|qq<|qj fun K hK=>qm ?_;refine qe hK<|af.ret ⟨rx,_,_,_,rfl,av (rfl),?_⟩;exact⟨rfl,cy.aA cq hH⟩
 |false=>
  rw[if_neg (by simp)];refine qC ?_;refine af.skip<|qq<|qj fun K hK=>qm ?_;refine qe hK<|af.ret ⟨rx,_,_,_,rfl,av (rfl),?_⟩;exact⟨rfl,cy.aA cq hH⟩
theorem vX {N k:Nat} {S s0:St} {H:List cz} {gs:List (Nat×Nat)} {bD:D} {s:eG} (i:Nat) (hi:i<gs.length) (hH:Has N S s0 (.box k (.mem 0 false (aW gs bD s))::H)):
  ∃d ai,Ev pv 100 [.ptr k 0 0,.int .i64 (i:Nat)] s0 d ai∧d=.bool (J0 gs i)∧Has N S ai (.box k (.mem 0 false (aW gs bD s))::H):=by
 refine Ev.mP rfl MH rfl rfl rfl ?_;dsimp only[u3,u4,List.length,Nat.reduceSub,Nat.reduceAdd,w1,w2];have cy:=hH;have hH:=hH.cH;have cq:(aj .rw s0).bs=s0.bs:=rfl;generalize aj .rw s0=S2 at*;have zS:Arg N S2 2 (bZ gs) (gs.map aU):=Arg.pure (fun st=>cT st gs);refine qq<|qj fun K hK=>qm ?_;refine qe hK ?_
 obtain⟨g,hg⟩:∃g,gs[i]?=some g:=⟨gs[i]'hi,List.getElem?_eq_getElem _⟩
 have gI:(gs.map aU)[i]?=some (aU g):=by rw[List.getElem?_map,hg];rfl
 have hv:J0 gs i=(((g.1:Nat):Int)==65533 &&((g.2:Nat):Int)==1):=by unfold J0;rw[hg]
 refine qq<|af.jO 4 (.bool (((g.1:Nat):Int)==65533 &&((g.2:Nat):Int)==1)) [] ?_ (fun ff tmp=>?_)
 ·refine qm ?_;refine qg ?_;refine qp (o:=0) ?_;refine ql hH aB ?_;refine qm ?_;refine qr fun Te OC=>?_;refine qf (fo:=0) fun Q4 LJ=>?_;refine qR ?_;refine qg ?_;refine qm ?_;refine ae.two 14 rfl (fun b8=>?_) (fun b8=>?_)
  ·refine qm ?_ (hg:=wi b8);refine qg ?_ (hg:=wi b8);refine qp (o:=0) ?_ (hg:=wi b8);refine ql hH aB ?_ (hg:=wi b8);refine qm ?_ (hg:=wi b8);refine qr (fun Nv Jb=>?_) (hg:=wi b8);refine qf (fo:=1) (fun K3 zK=>?_) (hg:=wi b8);refine qR ?_ (hg:=wi b8);refine qg ?_ (hg:=wi b8);refine qt b8 ?_;refine qm ?_;refine ae.nil (aX ?_);dsimp only[aD,List.foldl,nth,u2,u1];dsimp only[Fr.au,Fr.put,Fr.clean,Fr.ev,Fr.get,nth,V.look,u1,u2,v1,v2,v3,v4,v5,v6,v7,List.length,u3,u4,Nat.reduceSub,Nat.reduceAdd,List.map]
   all_goals(simp[b8];done)
  ·refine qs ?_ (hg:=wn b8);refine qs ?_ (hg:=wn b8);refine qs ?_ (hg:=wn b8);refine qs ?_ (hg:=wn b8);refine qs ?_ (hg:=wn b8);refine qs ?_ (hg:=wn b8);refine qs ?_ (hg:=wn b8);refine qs ?_ (hg:=wn b8);refine qs ?_ (hg:=wn b8);refine qu b8 ?_;refine qm ?_;refine ae.nil (aX ?_);dsimp only[aD,List.foldl,nth,u2,u1];dsimp only[Fr.au,Fr.put,Fr.clean,Fr.ev,Fr.get,nth,V.look,u1,u2,v1,v2,v3,v4,v5,v6,v7,List.length,u3,u4,Nat.reduceSub,Nat.reduceAdd,List.map]
   all_goals(simp[b8];done)
 dsimp only[aD,List.foldl,nth,u2,u1];refine af.ret ⟨rx,_,_,_,rfl,av (rfl),?_⟩;exact⟨by rw[hv];rfl,cy.aA cq hH⟩
theorem cU {N k:Nat} {S s0:St} {H:List cz} {gs:List (Nat×Nat)} {bD:D} {bd:List Int} {s:eG} (i:Nat) (e:Int) (hi:i<bd.length) (hH:Has N S s0 (.box k (.mem 0 false (aW gs bD s))::.aT bD 1 (bd.map aq)::H)):
  ∃d ai,Ev pv 55 [.ptr k 0 0,.int .i64 (i:Nat),.int .i64 e] s0 d ai∧d=.sl []∧Has N S ai (.box k (.mem 0 false (aW gs bD (gW bd s i e)))::.aT bD 1 (bd.map aq)::H):=by
 refine Ev.mP rfl P3 rfl rfl rfl ?_;dsimp only[u3,u4,List.length,Nat.reduceSub,Nat.reduceAdd,w1,w2];have cy:=hH;have hH:=hH.cH;have cq:(aj .rw s0).bs=s0.bs:=rfl;generalize aj .rw s0=S2 at*;refine qq<|qj fun K hK=>qm ?_;refine qe hK ?_
 obtain⟨v,hv⟩:∃v,bd[i]?=some v:=⟨bd[i]'hi,List.getElem?_eq_getElem _⟩
 have gI:=cW hv;unfold gW;refine qq<|qq<|qj fun K hK=>qm ?_;refine qg ?_;refine qp (o:=5) ?_;refine ql hH aB ?_;refine qg ?_;refine qe hK ?_;refine af.cond (by rfl) (fun h0=>?_) (fun h0=>?_)<;>try simp only[beq_iff_eq,beq_eq_false_iff_ne,ne_eq] at h0
 ·rw[if_pos h0];have zT:bd.getD i 0=v:=by rw[List.getD_eq_getElem?_getD,hv];rfl
  refine qj fun K hK=>qm ?_;refine qm ?_;refine qm ?_;refine qm ?_;refine qg ?_;refine qp (o:=1) ?_;refine ql hH aB ?_;refine qm ?_;refine qi hH bu fun Nv Jb=>?_;refine qo hH bu ?_;refine qg ?_;refine qp (o:=5) ?_;refine qT hH aB fun st hH=>?_;dsimp only[u2,u1,u3,u4,setMany,u5,u6,D.cells,Nat.reduceAdd,aW,aU,aq] at hH;refine qg ?_;refine qp (o:=6) ?_;refine qT hH aB fun st hH=>?_;dsimp only[u2,u1,u3,u4,setMany,u5,u6,D.cells,Nat.reduceAdd,aW,aU,aq] at hH;refine qe hK<|qq<|qj fun K hK=>qm ?_;refine qe hK<|af.ret ⟨rx,_,_,_,rfl,av (rfl),?_⟩;exact⟨rfl,by rw[zT];exact cy.aA cq hH⟩
 ·rw[if_neg h0];refine af.skip<|qq<|qj fun K hK=>qm ?_;refine qe hK<|af.ret ⟨rx,_,_,_,rfl,av (rfl),?_⟩;exact⟨rfl,cy.aA cq hH⟩
def ek (fr:Go.V.Fr) (k:Nat):Go.V.D:=Go.V.nth .bA fr.loc k
noncomputable def jE (l:List Rg):List Rg:=@dite _ (∃a,eR l a) (Classical.propDecidable _) (fun h=>Classical.choose h) (fun _=>[])
theorem zw {l a:List Rg} (h:eR l a):jE l=a:=by
 have hx:∃a,eR l a:=⟨a,h⟩
 unfold jE;rw[dif_pos hx];exact(Classical.choose_spec hx).unique h
theorem k_ {s0:St} {x:D} {l:List Rg} (hx:V.Rows s0 2 x (l.map aw)) (hl:l.length≤1048576):Ev pv 83 [x] s0 (bt (jE l)) s0∧(jE l).length≤2*l.length∧eR l (jE l):=by
 obtain⟨_,aS,all,rfl,hperm,ku⟩:=wO hx (by omega);have hM:eR l (all.foldl dh []).reverse:=oc (fun x=>hperm.mem_iff) ku;have hlen:=hperm.length_eq;have nh:=gT l;have ng:=oj all;rw[zw hM];exact⟨aS,by rw[List.length_reverse];omega,hM⟩
theorem ie (l:List Rg):gq (bt l) 2 (l.map aw):=by
 rw[←fw];refine gq.frozen ?_ ?_
 ·intro e he;obtain⟨x,_,rfl⟩:=List.mem_map.1 he;rfl
 ·intro e he d hd;obtain⟨x,_,rfl⟩:=List.mem_map.1 he;simp only[aw,List.mem_cons,List.not_mem_nil,or_false] at hd
  rcases hd with rfl|rfl<;>rfl
theorem rp {r:Int} {l a:List Rg} (h0:0≤r) (h1:r<55296) (hr:c8 l r) (h:eR l a):a≠[]:=by
 rintro rfl;have:=(h.2 r).2 ⟨by unfold fZ;omega,hr⟩;obtain⟨x,hx,_⟩:=this;cases hx
theorem tD {r:Int} (h0:0≤r) (h1:r<55296) {a:List Rg} (h:eR [(r,r)] a):a≠[]:=by
 rintro rfl;have:=(h.2 r).2 ⟨?_,?_⟩
 ·obtain⟨x,hx,_⟩:=this;cases hx
 ·unfold fZ;omega
 ·exact⟨(r,r),List.mem_cons_self ..,by simp⟩
theorem ic {s0:St} (r:Int):Ev pv 105 [.int .i32 r] s0 (bt (jE [(r,r)])) s0:=by
 refine Ev.j8 rfl MC rfl rfl rfl ?_;dsimp only[u3,u4,List.length,Nat.reduceSub,Nat.reduceAdd,w1,w2];obtain⟨bN,hF,hH⟩:=ri s0;generalize aj .ro s0=S at*;refine qq<|qj fun K hK=>qm ?_;refine qe hK<|qq<|qj fun K hK=>qm ?_;refine qm ?_;refine ae.gB (qs:=[(0,_),(1,_)]) rfl rfl rfl rfl ⟨rfl,(ev rfl),(by rfl),rfl,(ev rfl),(by rfl),trivial⟩ (by intro q hq;simp only[List.mem_cons,List.not_mem_nil,or_false] at hq;rcases hq with rfl|rfl<;>exact⟨rfl,by exact Nat.le_of_ble_eq_true rfl⟩) (by show List.foldl _ [_,_] _=_;dsimp only[List.foldl_cons,List.foldl_nil,u2,u1]<;>rfl) (ag rfl _) ?_;refine qh (s:=2) (vs:=[_]) hH fun k6 st Et hH=>?_;obtain⟨aS,hl,_⟩:=k_ (l:=[(r,r)]) (hH.rows aB) (by simp);refine qv aS ?_;refine qm ?_;refine qe hK<|af.ret ⟨rx,_,rfl,rl bN hH (rfl)⟩
theorem zk {s0:St} {x:D} {l:List Rg} (hx:V.Rows s0 2 x (l.map aw)) (hl:l.length≤131072):∃d,Ev pv 120 [x] s0 d s0∧∃a:List Rg,d=bt a∧a.length≤4*l.length+2:=by
 refine Ev.AS rfl My rfl rfl rfl ?_;dsimp only[u3,u4,List.length,Nat.reduceSub,Nat.reduceAdd,w1,w2];obtain⟨bN,hF,hH⟩:=ri s0;generalize aj .ro s0=S at*;have hx:=Arg.of hx bN;refine qq<|qj fun K hK=>qm ?_;refine qe hK<|qq<|qj fun K hK=>qm ?_;refine qe hK<|qq<|qj fun K hK=>qm ?_;refine qe hK ?_;obtain⟨aS,x6,_⟩:=k_ (hx.rows hH) (by omega);have hla:=(ie (jE l)).arg s0.bs.length S;generalize jE l=m at*;refine qq<|qq<|qj fun K hK=>qm ?_;refine qv (aS) ?_;refine qn ?_;simp only[List.length_map];refine qm ?_;refine qe hK ?_;have hH:=hH.fx 2;refine af.block<|af.loop (fun mm fr st=>∃(i:Nat) (n:Int) (o:D) (out:List Rg),fr.clean=⟨11,[ek fr 0,ek fr 1,ek fr 2,o,.int .i32 n,ek fr 5,ek fr 6,ek fr 7,bt m,.int .i64 (m.length:Nat),.int .i64 (i:Nat)],[]⟩∧Has s0.bs.length S st [.aT o 2 (out.map aw)]∧(i+mm=m.length)∧(out.length=i)) (m.length) ?_ ?_
 ·exact⟨0,0,.nul,[],rfl,hH,by omega,rfl⟩
 rintro mm fr st ⟨i,n,o,out,hfr,hH,hi,ho⟩;rw[hfr];clear hfr;generalize ek fr=ee;clear fr;refine qq<|qj fun K hK=>qg ?_;refine qe hK<|qq ?_;refine af.cond (by rfl) (fun h1=>?_) (fun h1=>?_)<;>try simp only[decide_eq_true_eq,decide_eq_false_iff_not] at h1
 ·refine af.skip ?_
  obtain⟨q,hq⟩:∃q,m[i]?=some q:=⟨m[i]'(by omega),List.getElem?_eq_getElem _⟩
  have hr:=df hq;refine qq<|af.block<|qq<|qj fun K hK=>qr fun Q3 LI=>?_;refine ae.dt rfl (ev rfl) (by assumption) rfl (ag rfl _) ?_;refine qa hH fun k6 st Et hH=>?_;refine qS hH aB fun st hH=>?_;dsimp only[u2,u1,u3,u4,setMany,u5,u6,D.cells,Nat.reduceAdd,aw] at hH;refine qe hK<|qq<|qj fun K hK=>qm ?_;refine qm ?_;refine qp (o:=0) ?_;refine ql hH aB ?_;refine ae.gj (z:=bH .i32 (q.1-1)) rfl (ev rfl) (ev rfl) rfl (ag rfl _) ?_;refine ae.gB (qs:=[(0,_),(1,_)]) rfl rfl rfl rfl ⟨rfl,(ev rfl),(by rfl),rfl,(ev rfl),(by rfl),trivial⟩ (by intro q hq;simp only[List.mem_cons,List.not_mem_nil,or_false] at hq;rcases hq with rfl|rfl<;>exact⟨rfl,by exact Nat.le_of_ble_eq_true rfl⟩) (by show List.foldl _ [_,_] _=_;dsimp only[List.foldl_cons,List.foldl_nil,u2,u1]<;>rfl) (ag rfl _) ?_;refine qh (s:=2) (vs:=[_]) hH fun WC st U1 hH=>?_;refine ae.bG (s:=2) hH rfl (ev rfl) (ev rfl) (by exact ez) (by exact hH.rows (by exact aB)) rfl rfl rfl rfl rfl rfl rfl ⟨(Nat.le_of_ble_eq_true rfl),(Nat.le_of_ble_eq_true rfl)⟩ (fun _=>(ag rfl _)) (by simp only[List.length_cons,List.length_nil,List.length_map]<;>omega) (by exact .inl hF) (fun VU st hH=>?_);dsimp only[u2,u1,u3,u4,setMany,u5,u6,D.cells,Nat.reduceAdd,aw] at hH;refine qm ?_;refine qe hK<|qj fun K hK=>qp (o:=1) ?_;refine ql hH bu ?_;refine ae.kN (z:=bH .i32 (q.2+1)) rfl (ev rfl) (ev rfl) rfl (ag rfl _) ?_;refine qm ?_;refine qe hK<|qj fun K hK=>qA ?_;refine qm ?_;refine qe hK ?_;exact⟨mm-1,by omega,⟨i+1,_,_,out++[(n,bH .i32 (q.1-1))],rfl,(by rw[List.map_append];exact hH.drop 2),by omega,by simp[ho]⟩⟩
 ·refine af.exit<|qq<|qj fun K hK=>qm ?_;refine qm ?_;refine ae.gB (qs:=[(0,_),(1,_)]) rfl rfl rfl rfl ⟨rfl,(ev rfl),(by rfl),rfl,(ev rfl),(by rfl),trivial⟩ (by intro q hq;simp only[List.mem_cons,List.not_mem_nil,or_false] at hq;rcases hq with rfl|rfl<;>exact⟨rfl,by exact Nat.le_of_ble_eq_true rfl⟩) (by show List.foldl _ [_,_] _=_;dsimp only[List.foldl_cons,List.foldl_nil,u2,u1]<;>rfl) (ag rfl _) ?_;refine qh (s:=2) (vs:=[_]) hH fun Tu st OU hH=>?_;refine ae.bG (s:=2) hH rfl (ev rfl) (ev rfl) (by exact bu) (by exact hH.rows (by exact aB)) rfl rfl rfl rfl rfl rfl rfl ⟨(Nat.le_of_ble_eq_true rfl),(Nat.le_of_ble_eq_true rfl)⟩ (fun _=>(ag rfl _)) (by simp only[List.length_cons,List.length_nil,List.length_map]<;>omega) (by exact .inl hF) (fun VS st hH=>?_);dsimp only[u2,u1,u3,u4,setMany,u5,u6,D.cells,Nat.reduceAdd,aw] at hH;obtain⟨aS,uF,_⟩:=k_ (l:=out++[(n,1114111)]) (by rw[List.map_append];exact hH.rows bu) (by simp;omega);refine qv aS ?_;refine qm ?_;refine qe hK<|af.ret ⟨rx,_,_,rfl,rl bN hH (rfl),?_⟩;exact⟨_,rfl,by simp at uF;omega⟩
theorem JT {s0:St}:∃d,Ev pv 104 [] s0 d s0∧∃a:List Rg,d=bt a∧a.length≤6:=by
 refine Ev.AS rfl MD rfl rfl rfl ?_;dsimp only[u3,u4,List.length,Nat.reduceSub,Nat.reduceAdd,w1,w2];obtain⟨bN,hF,hH⟩:=ri s0;generalize aj .ro s0=S at*;refine qq<|qj fun K hK=>qm ?_;refine qe hK<|qq<|qj fun K hK=>?_;refine ae.gB (qs:=[(0,_),(1,_)]) rfl rfl rfl rfl ⟨rfl,(ev rfl),(by rfl),rfl,(ev rfl),(by rfl),trivial⟩ (by intro q hq;simp only[List.mem_cons,List.not_mem_nil,or_false] at hq;rcases hq with rfl|rfl<;>exact⟨rfl,by exact Nat.le_of_ble_eq_true rfl⟩) (by show List.foldl _ [_,_] _=_;dsimp only[List.foldl_cons,List.foldl_nil,u2,u1]<;>rfl) (ag rfl _) ?_;refine qh (s:=2) (vs:=[_]) hH fun k2 st hk2 hH=>?_;obtain⟨_,aS,a,rfl,hl⟩:=zk (l:=[(10,10)]) (hH.rows aB) (by simp);refine qv aS ?_;refine qm ?_;refine qe hK<|af.ret ⟨rx,_,_,rfl,rl bN hH (rfl),?_⟩;exact⟨a,rfl,hl⟩
theorem D4 {s0:St} (r:Int):Ev pv 121 [.int .i32 r] s0 (.bool (decide (33≤r∧r≤47∨58≤r∧r≤64∨91≤r∧r≤96∨123≤r∧r≤126))) s0:=by
 refine Ev.j8 rfl Mx rfl rfl rfl ?_;dsimp only[u3,u4,List.length,Nat.reduceSub,Nat.reduceAdd,w1,w2];obtain⟨bN,hF,hH⟩:=ri s0;generalize aj .ro s0=S at*;refine qq<|qj fun K hK=>qm ?_;refine qe hK<|qq<|af.jO 2 (.bool (decide (33≤r∧r≤47∨58≤r∧r≤64∨91≤r∧r≤96∨123≤r∧r≤126))) [] ?_ (fun ff tmp=>?_)
 ·refine qm ?_;refine qg ?_;refine qm ?_;refine ae.two 5 rfl (fun bm=>?_) (fun bm=>?_)
  ·refine qm ?_ (hg:=wi bm);refine qg ?_ (hg:=wi bm);refine qt bm ?_;refine qm ?_;refine ae.two 9 rfl (fun c_=>?_) (fun c_=>?_)
   ·refine qs ?_ (hg:=wn c_);refine qs ?_ (hg:=wn c_);refine qs ?_ (hg:=wn c_);refine qs ?_;refine qs ?_;refine qs ?_ (hg:=wn c_);refine qt c_ ?_;refine qm ?_;refine qs ?_;refine qs ?_;refine qs ?_;refine qs ?_;refine qs ?_;refine qs ?_;refine qg ?_;refine qm ?_;refine qs ?_;refine qs ?_;refine qs ?_;refine qs ?_;refine qs ?_;refine qs ?_;refine qg ?_;refine qm ?_;refine ae.nil (aX ?_);dsimp only[aD,List.foldl,nth,u2,u1];dsimp only[Fr.au,Fr.put,Fr.clean,Fr.ev,Fr.get,nth,V.look,u1,u2,v1,v2,v3,v4,v5,v6,v7,List.length,u3,u4,Nat.reduceSub,Nat.reduceAdd,List.map]
    all_goals(simp[bm,c_];done)
   ·refine qm ?_ (hg:=wi c_);refine qg ?_ (hg:=wi c_);refine qm ?_ (hg:=wi c_);refine ae.two 12 rfl (fun b8=>?_) (fun b8=>?_)
    ·refine qm ?_ (hg:=wi b8);refine qg ?_ (hg:=wi b8);refine ae.dA (aH rfl rfl rfl c_) rfl b8 (ag rfl _) ?_;refine qu c_ ?_;refine qm ?_;refine ae.two 17 rfl (fun cp=>?_) (fun cp=>?_)
     ·refine qs ?_ (hg:=wn cp);refine qs ?_ (hg:=wn cp);refine qs ?_ (hg:=wn cp);refine qs ?_;refine qs ?_;refine qs ?_ (hg:=wn cp);refine qt cp ?_;refine qm ?_;refine qs ?_;refine qs ?_;refine qs ?_;refine qs ?_;refine qs ?_;refine qs ?_;refine qg ?_;refine qm ?_;refine ae.nil (aX ?_);dsimp only[aD,List.foldl,nth,u2,u1];dsimp only[Fr.au,Fr.put,Fr.clean,Fr.ev,Fr.get,nth,V.look,u1,u2,v1,v2,v3,v4,v5,v6,v7,List.length,u3,u4,Nat.reduceSub,Nat.reduceAdd,List.map]
      all_goals(simp[bm,c_,b8,cp];done)
     ·refine qm ?_ (hg:=wi cp);refine qg ?_ (hg:=wi cp);refine qm ?_ (hg:=wi cp);refine ae.two 20 rfl (fun bh=>?_) (fun bh=>?_)
      ·refine qm ?_ (hg:=wi bh);refine qg ?_ (hg:=wi bh);refine ae.dA (aH rfl rfl rfl cp) rfl bh (ag rfl _) ?_;refine qu cp ?_;refine qm ?_;refine ae.two 25 rfl (fun br=>?_) (fun br=>?_)
       ·refine qs ?_ (hg:=wn br);refine qs ?_ (hg:=wn br);refine qs ?_ (hg:=wn br);refine qs ?_;refine qs ?_;refine qs ?_ (hg:=wn br);refine qt br ?_;refine qm ?_;refine ae.nil (aX ?_);dsimp only[aD,List.foldl,nth,u2,u1];dsimp only[Fr.au,Fr.put,Fr.clean,Fr.ev,Fr.get,nth,V.look,u1,u2,v1,v2,v3,v4,v5,v6,v7,List.length,u3,u4,Nat.reduceSub,Nat.reduceAdd,List.map]
        all_goals(simp[bm,c_,b8,cp,bh,br];done)
       ·refine qm ?_ (hg:=wi br);refine qg ?_ (hg:=wi br);refine qm ?_ (hg:=wi br);refine ae.two 28 rfl (fun bk=>?_) (fun bk=>?_)
        ·refine qm ?_ (hg:=wi bk);refine qg ?_ (hg:=wi bk);refine ae.dA (aH rfl rfl rfl br) rfl bk (ag rfl _) ?_;refine qu br ?_;refine qm ?_;refine ae.nil (aX ?_);dsimp only[aD,List.foldl,nth,u2,u1];dsimp only[Fr.au,Fr.put,Fr.clean,Fr.ev,Fr.get,nth,V.look,u1,u2,v1,v2,v3,v4,v5,v6,v7,List.length,u3,u4,Nat.reduceSub,Nat.reduceAdd,List.map]
         all_goals(simp[bm,c_,b8,cp,bh,br,bk];done)
        ·refine qs ?_ (hg:=wn bk);refine qs ?_ (hg:=wn bk);refine ae.cV (aH rfl rfl rfl br) rfl bk (ag rfl _) ?_;refine qu br ?_;refine qm ?_;refine ae.nil (aX ?_);dsimp only[aD,List.foldl,nth,u2,u1];dsimp only[Fr.au,Fr.put,Fr.clean,Fr.ev,Fr.get,nth,V.look,u1,u2,v1,v2,v3,v4,v5,v6,v7,List.length,u3,u4,Nat.reduceSub,Nat.reduceAdd,List.map]
         all_goals(simp[bm,c_,b8,cp,bh,br,bk];done)
      ·refine qs ?_ (hg:=wn bh);refine qs ?_ (hg:=wn bh);refine ae.cV (aH rfl rfl rfl cp) rfl bh (ag rfl _) ?_;refine qu cp ?_;refine qm ?_;refine qm ?_;refine qg ?_;refine qm ?_;refine ae.two 28 rfl (fun bk=>?_) (fun bk=>?_)
       ·refine qm ?_ (hg:=wi bk);refine qg ?_ (hg:=wi bk);refine qt bk ?_;refine qg ?_;refine qm ?_;refine ae.nil (aX ?_);dsimp only[aD,List.foldl,nth,u2,u1];dsimp only[Fr.au,Fr.put,Fr.clean,Fr.ev,Fr.get,nth,V.look,u1,u2,v1,v2,v3,v4,v5,v6,v7,List.length,u3,u4,Nat.reduceSub,Nat.reduceAdd,List.map]
        all_goals(simp[bm,c_,b8,cp,bh,bk];done)
       ·refine qs ?_ (hg:=wn bk);refine qs ?_ (hg:=wn bk);refine qu bk ?_;refine qg ?_;refine qm ?_;refine ae.nil (aX ?_);dsimp only[aD,List.foldl,nth,u2,u1];dsimp only[Fr.au,Fr.put,Fr.clean,Fr.ev,Fr.get,nth,V.look,u1,u2,v1,v2,v3,v4,v5,v6,v7,List.length,u3,u4,Nat.reduceSub,Nat.reduceAdd,List.map]
        all_goals(simp[bm,c_,b8,cp,bh,bk];done)
    ·refine qs ?_ (hg:=wn b8);refine qs ?_ (hg:=wn b8);refine ae.cV (aH rfl rfl rfl c_) rfl b8 (ag rfl _) ?_;refine qu c_ ?_;refine qm ?_;refine qm ?_;refine qg ?_;refine qm ?_;refine ae.two 20 rfl (fun bh=>?_) (fun bh=>?_)
     ·refine qm ?_ (hg:=wi bh);refine qg ?_ (hg:=wi bh);refine qt bh ?_;refine qg ?_;refine qm ?_;refine ae.two 25 rfl (fun br=>?_) (fun br=>?_)
      ·refine qs ?_ (hg:=wn br);refine qs ?_ (hg:=wn br);refine qs ?_ (hg:=wn br);refine qs ?_;refine qs ?_;refine qs ?_ (hg:=wn br);refine qt br ?_;refine qm ?_;refine ae.nil (aX ?_);dsimp only[aD,List.foldl,nth,u2,u1];dsimp only[Fr.au,Fr.put,Fr.clean,Fr.ev,Fr.get,nth,V.look,u1,u2,v1,v2,v3,v4,v5,v6,v7,List.length,u3,u4,Nat.reduceSub,Nat.reduceAdd,List.map]
       all_goals(simp[bm,c_,b8,bh,br];done)
      ·refine qm ?_ (hg:=wi br);refine qg ?_ (hg:=wi br);refine qm ?_ (hg:=wi br);refine ae.two 28 rfl (fun bk=>?_) (fun bk=>?_)
       ·refine qm ?_ (hg:=wi bk);refine qg ?_ (hg:=wi bk);refine ae.dA (aH rfl rfl rfl br) rfl bk (ag rfl _) ?_;refine qu br ?_;refine qm ?_;refine ae.nil (aX ?_);dsimp only[aD,List.foldl,nth,u2,u1];dsimp only[Fr.au,Fr.put,Fr.clean,Fr.ev,Fr.get,nth,V.look,u1,u2,v1,v2,v3,v4,v5,v6,v7,List.length,u3,u4,Nat.reduceSub,Nat.reduceAdd,List.map]
        all_goals(simp[bm,c_,b8,bh,br,bk];done)
       ·refine qs ?_ (hg:=wn bk);refine qs ?_ (hg:=wn bk);refine ae.cV (aH rfl rfl rfl br) rfl bk (ag rfl _) ?_;refine qu br ?_;refine qm ?_;refine ae.nil (aX ?_);dsimp only[aD,List.foldl,nth,u2,u1];dsimp only[Fr.au,Fr.put,Fr.clean,Fr.ev,Fr.get,nth,V.look,u1,u2,v1,v2,v3,v4,v5,v6,v7,List.length,u3,u4,Nat.reduceSub,Nat.reduceAdd,List.map]
        all_goals(simp[bm,c_,b8,bh,br,bk];done)
     ·refine qs ?_ (hg:=wn bh);refine qs ?_ (hg:=wn bh);refine qu bh ?_;refine qg ?_;refine qm ?_;refine qm ?_;refine qg ?_;refine qm ?_;refine ae.two 28 rfl (fun bk=>?_) (fun bk=>?_)
      ·refine qm ?_ (hg:=wi bk);refine qg ?_ (hg:=wi bk);refine qt bk ?_;refine qg ?_;refine qm ?_;refine ae.nil (aX ?_);dsimp only[aD,List.foldl,nth,u2,u1];dsimp only[Fr.au,Fr.put,Fr.clean,Fr.ev,Fr.get,nth,V.look,u1,u2,v1,v2,v3,v4,v5,v6,v7,List.length,u3,u4,Nat.reduceSub,Nat.reduceAdd,List.map]
       all_goals(simp[bm,c_,b8,bh,bk];done)
      ·refine qs ?_ (hg:=wn bk);refine qs ?_ (hg:=wn bk);refine qu bk ?_;refine qg ?_;refine qm ?_;refine ae.nil (aX ?_);dsimp only[aD,List.foldl,nth,u2,u1];dsimp only[Fr.au,Fr.put,Fr.clean,Fr.ev,Fr.get,nth,V.look,u1,u2,v1,v2,v3,v4,v5,v6,v7,List.length,u3,u4,Nat.reduceSub,Nat.reduceAdd,List.map]
       all_goals(simp[bm,c_,b8,bh,bk];done)
  ·refine qs ?_ (hg:=wn bm);refine qs ?_ (hg:=wn bm);refine qu bm ?_;refine qm ?_;refine qm ?_;refine qg ?_;refine qm ?_;refine ae.two 12 rfl (fun b8=>?_) (fun b8=>?_)
   ·refine qm ?_ (hg:=wi b8);refine qg ?_ (hg:=wi b8);refine qt b8 ?_;refine qg ?_;refine qm ?_;refine ae.two 17 rfl (fun cp=>?_) (fun cp=>?_)
    ·refine qs ?_ (hg:=wn cp);refine qs ?_ (hg:=wn cp);refine qs ?_ (hg:=wn cp);refine qs ?_;refine qs ?_;refine qs ?_ (hg:=wn cp);refine qt cp ?_;refine qm ?_;refine qs ?_;refine qs ?_;refine qs ?_;refine qs ?_;refine qs ?_;refine qs ?_;refine qg ?_;refine qm ?_;refine ae.nil (aX ?_);dsimp only[aD,List.foldl,nth,u2,u1];dsimp only[Fr.au,Fr.put,Fr.clean,Fr.ev,Fr.get,nth,V.look,u1,u2,v1,v2,v3,v4,v5,v6,v7,List.length,u3,u4,Nat.reduceSub,Nat.reduceAdd,List.map]
     all_goals(simp[bm,b8,cp];done)
    ·refine qm ?_ (hg:=wi cp);refine qg ?_ (hg:=wi cp);refine qm ?_ (hg:=wi cp);refine ae.two 20 rfl (fun bh=>?_) (fun bh=>?_)
     ·refine qm ?_ (hg:=wi bh);refine qg ?_ (hg:=wi bh);refine ae.dA (aH rfl rfl rfl cp) rfl bh (ag rfl _) ?_;refine qu cp ?_;refine qm ?_;refine ae.two 25 rfl (fun br=>?_) (fun br=>?_)
      ·refine qs ?_ (hg:=wn br);refine qs ?_ (hg:=wn br);refine qs ?_ (hg:=wn br);refine qs ?_;refine qs ?_;refine qs ?_ (hg:=wn br);refine qt br ?_;refine qm ?_;refine ae.nil (aX ?_);dsimp only[aD,List.foldl,nth,u2,u1];dsimp only[Fr.au,Fr.put,Fr.clean,Fr.ev,Fr.get,nth,V.look,u1,u2,v1,v2,v3,v4,v5,v6,v7,List.length,u3,u4,Nat.reduceSub,Nat.reduceAdd,List.map]
       all_goals(simp[bm,b8,cp,bh,br];done)
      ·refine qm ?_ (hg:=wi br);refine qg ?_ (hg:=wi br);refine qm ?_ (hg:=wi br);refine ae.two 28 rfl (fun bk=>?_) (fun bk=>?_)
       ·refine qm ?_ (hg:=wi bk);refine qg ?_ (hg:=wi bk);refine ae.dA (aH rfl rfl rfl br) rfl bk (ag rfl _) ?_;refine qu br ?_;refine qm ?_;refine ae.nil (aX ?_);dsimp only[aD,List.foldl,nth,u2,u1];dsimp only[Fr.au,Fr.put,Fr.clean,Fr.ev,Fr.get,nth,V.look,u1,u2,v1,v2,v3,v4,v5,v6,v7,List.length,u3,u4,Nat.reduceSub,Nat.reduceAdd,List.map]
        all_goals(simp[bm,b8,cp,bh,br,bk];done)
       ·refine qs ?_ (hg:=wn bk);refine qs ?_ (hg:=wn bk);refine ae.cV (aH rfl rfl rfl br) rfl bk (ag rfl _) ?_;refine qu br ?_;refine qm ?_;refine ae.nil (aX ?_);dsimp only[aD,List.foldl,nth,u2,u1];dsimp only[Fr.au,Fr.put,Fr.clean,Fr.ev,Fr.get,nth,V.look,u1,u2,v1,v2,v3,v4,v5,v6,v7,List.length,u3,u4,Nat.reduceSub,Nat.reduceAdd,List.map]
        all_goals(simp[bm,b8,cp,bh,br,bk];done)
     ·refine qs ?_ (hg:=wn bh);refine qs ?_ (hg:=wn bh);refine ae.cV (aH rfl rfl rfl cp) rfl bh (ag rfl _) ?_;refine qu cp ?_;refine qm ?_;refine qm ?_;refine qg ?_;refine qm ?_;refine ae.two 28 rfl (fun bk=>?_) (fun bk=>?_)
      ·refine qm ?_ (hg:=wi bk);refine qg ?_ (hg:=wi bk);refine qt bk ?_;refine qg ?_;refine qm ?_;refine ae.nil (aX ?_);dsimp only[aD,List.foldl,nth,u2,u1];dsimp only[Fr.au,Fr.put,Fr.clean,Fr.ev,Fr.get,nth,V.look,u1,u2,v1,v2,v3,v4,v5,v6,v7,List.length,u3,u4,Nat.reduceSub,Nat.reduceAdd,List.map]
       all_goals(simp[bm,b8,cp,bh,bk];done)
      ·refine qs ?_ (hg:=wn bk);refine qs ?_ (hg:=wn bk);refine qu bk ?_;refine qg ?_;refine qm ?_;refine ae.nil (aX ?_);dsimp only[aD,List.foldl,nth,u2,u1];dsimp only[Fr.au,Fr.put,Fr.clean,Fr.ev,Fr.get,nth,V.look,u1,u2,v1,v2,v3,v4,v5,v6,v7,List.length,u3,u4,Nat.reduceSub,Nat.reduceAdd,List.map]
       all_goals(simp[bm,b8,cp,bh,bk];done)
   ·refine qs ?_ (hg:=wn b8);refine qs ?_ (hg:=wn b8);refine qu b8 ?_;refine qg ?_;refine qm ?_;refine qm ?_;refine qg ?_;refine qm ?_;refine ae.two 20 rfl (fun bh=>?_) (fun bh=>?_)
    ·refine qm ?_ (hg:=wi bh);refine qg ?_ (hg:=wi bh);refine qt bh ?_;refine qg ?_;refine qm ?_;refine ae.two 25 rfl (fun br=>?_) (fun br=>?_)
     ·refine qs ?_ (hg:=wn br);refine qs ?_ (hg:=wn br);refine qs ?_ (hg:=wn br);refine qs ?_;refine qs ?_;refine qs ?_ (hg:=wn br);refine qt br ?_;refine qm ?_;refine ae.nil (aX ?_);dsimp only[aD,List.foldl,nth,u2,u1];dsimp only[Fr.au,Fr.put,Fr.clean,Fr.ev,Fr.get,nth,V.look,u1,u2,v1,v2,v3,v4,v5,v6,v7,List.length,u3,u4,Nat.reduceSub,Nat.reduceAdd,List.map]
      all_goals(simp[bm,b8,bh,br];done)
     ·refine qm ?_ (hg:=wi br);refine qg ?_ (hg:=wi br);refine qm ?_ (hg:=wi br);refine ae.two 28 rfl (fun bk=>?_) (fun bk=>?_)
      ·refine qm ?_ (hg:=wi bk);refine qg ?_ (hg:=wi bk);refine ae.dA (aH rfl rfl rfl br) rfl bk (ag rfl _) ?_;refine qu br ?_;refine qm ?_;refine ae.nil (aX ?_);dsimp only[aD,List.foldl,nth,u2,u1];dsimp only[Fr.au,Fr.put,Fr.clean,Fr.ev,Fr.get,nth,V.look,u1,u2,v1,v2,v3,v4,v5,v6,v7,List.length,u3,u4,Nat.reduceSub,Nat.reduceAdd,List.map]
       all_goals(simp[bm,b8,bh,br,bk];done)
      ·refine qs ?_ (hg:=wn bk);refine qs ?_ (hg:=wn bk);refine ae.cV (aH rfl rfl rfl br) rfl bk (ag rfl _) ?_;refine qu br ?_;refine qm ?_;refine ae.nil (aX ?_);dsimp only[aD,List.foldl,nth,u2,u1];dsimp only[Fr.au,Fr.put,Fr.clean,Fr.ev,Fr.get,nth,V.look,u1,u2,v1,v2,v3,v4,v5,v6,v7,List.length,u3,u4,Nat.reduceSub,Nat.reduceAdd,List.map]
       all_goals(simp[bm,b8,bh,br,bk];done)
    ·refine qs ?_ (hg:=wn bh);refine qs ?_ (hg:=wn bh);refine qu bh ?_;refine qg ?_;refine qm ?_;refine qm ?_;refine qg ?_;refine qm ?_;refine ae.two 28 rfl (fun bk=>?_) (fun bk=>?_)
     ·refine qm ?_ (hg:=wi bk);refine qg ?_ (hg:=wi bk);refine qt bk ?_;refine qg ?_;refine qm ?_;refine ae.nil (aX ?_);dsimp only[aD,List.foldl,nth,u2,u1];dsimp only[Fr.au,Fr.put,Fr.clean,Fr.ev,Fr.get,nth,V.look,u1,u2,v1,v2,v3,v4,v5,v6,v7,List.length,u3,u4,Nat.reduceSub,Nat.reduceAdd,List.map]
      all_goals(simp[bm,b8,bh,bk];done)
     ·refine qs ?_ (hg:=wn bk);refine qs ?_ (hg:=wn bk);refine qu bk ?_;refine qg ?_;refine qm ?_;refine ae.nil (aX ?_);dsimp only[aD,List.foldl,nth,u2,u1];dsimp only[Fr.au,Fr.put,Fr.clean,Fr.ev,Fr.get,nth,V.look,u1,u2,v1,v2,v3,v4,v5,v6,v7,List.length,u3,u4,Nat.reduceSub,Nat.reduceAdd,List.map]
      all_goals(simp[bm,b8,bh,bk];done)
 dsimp only[aD,List.foldl,nth,u2,u1];refine af.ret ⟨rx,_,rfl,rl bN hH (rfl)⟩
theorem D6 {s0:St} (a b:List UInt8):∃d,Ev pv 107 [.str a,.str b] s0 d s0∧∃v:Bool,d=.bool v:=by
 refine Ev.AS rfl MB rfl rfl rfl ?_;dsimp only[u3,u4,List.length,Nat.reduceSub,Nat.reduceAdd,w1,w2];obtain⟨bN,hF,hH⟩:=ri s0;generalize aj .ro s0=S at*;refine qq<|qj fun K hK=>qm ?_;refine qe hK<|qq<|af.jO 4 (.bool (decide ((a.length:Int)<b.length)||(((a.length:Int)==b.length) &&Op.bytesLess a b))) [] ?_ (fun ff tmp=>?_)
 ·refine qm ?_;refine ae.sH rfl rfl rfl (ag rfl _) ?_;refine qm ?_;refine ae.sH rfl rfl rfl (ag rfl _) ?_;refine qg ?_;refine qm ?_;refine ae.two 10 rfl (fun bc=>?_) (fun bc=>?_)
  ·refine qs ?_ (hg:=wn bc);refine qs ?_ (hg:=wn bc);refine qs ?_ (hg:=wn bc);refine qs ?_ (hg:=wn bc);refine qs ?_ (hg:=wn bc);refine qs ?_ (hg:=wn bc);refine qs ?_;refine qs ?_;refine qs ?_;refine qs ?_ (hg:=wn bc);refine qt bc ?_;refine qm ?_;refine ae.nil (aX ?_);dsimp only[aD,List.foldl,nth,u2,u1];dsimp only[Fr.au,Fr.put,Fr.clean,Fr.ev,Fr.get,nth,V.look,u1,u2,v1,v2,v3,v4,v5,v6,v7,List.length,u3,u4,Nat.reduceSub,Nat.reduceAdd,List.map]
   all_goals(simp_all;done)
  ·refine qm ?_ (hg:=wi bc);refine ae.sH (aH rfl rfl rfl bc) rfl rfl (ag rfl _) ?_;refine qm ?_ (hg:=wi bc);refine ae.sH (aH rfl rfl rfl bc) rfl rfl (ag rfl _) ?_;refine qg ?_ (hg:=wi bc);refine qm ?_ (hg:=wi bc);refine ae.two 16 rfl (fun a7=>?_) (fun a7=>?_)
   ·refine qm ?_ (hg:=wi a7);refine qm ?_ (hg:=wi a7);refine qg ?_ (hg:=wi a7);refine ae.dA (aH rfl rfl rfl bc) rfl a7 (ag rfl _) ?_;refine qu bc ?_;refine qm ?_;refine ae.nil (aX ?_);dsimp only[aD,List.foldl,nth,u2,u1];dsimp only[Fr.au,Fr.put,Fr.clean,Fr.ev,Fr.get,nth,V.look,u1,u2,v1,v2,v3,v4,v5,v6,v7,List.length,u3,u4,Nat.reduceSub,Nat.reduceAdd,List.map]
    all_goals(simp_all;done)
   ·refine qs ?_ (hg:=wn a7);refine qs ?_ (hg:=wn a7);refine qs ?_ (hg:=wn a7);refine ae.cV (aH rfl rfl rfl bc) rfl a7 (ag rfl _) ?_;refine qu bc ?_;refine qm ?_;refine ae.nil (aX ?_);dsimp only[aD,List.foldl,nth,u2,u1];dsimp only[Fr.au,Fr.put,Fr.clean,Fr.ev,Fr.get,nth,V.look,u1,u2,v1,v2,v3,v4,v5,v6,v7,List.length,u3,u4,Nat.reduceSub,Nat.reduceAdd,List.map]
    all_goals(simp_all;done)
 dsimp only[aD,List.foldl,nth,u2,u1];refine af.ret ⟨rx,_,_,rfl,rl bN hH (rfl),?_⟩;exact⟨_,rfl⟩
theorem kS {s0:St} (b:List UInt8) (hb:b.length≤1048576):∃d,Ev pv 108 [.str b] s0 d s0∧∃(n:Int) (v:Bool),d=.tup [.int .i64 n,.bool v]:=by
 refine Ev.AS rfl MA rfl rfl rfl ?_;dsimp only[u3,u4,List.length,Nat.reduceSub,Nat.reduceAdd,w1,w2];obtain⟨bN,hF,hH⟩:=ri s0;generalize aj .ro s0=S at*;refine qq<|qj fun K hK=>qm ?_;refine qm ?_;refine qe hK<|qq<|qq<|qj fun K hK=>qm ?_;refine ae.sH rfl rfl rfl (by dsimp only[Fr.put,u1,u2]<;>rfl) ?_;refine qg ?_;refine qe hK ?_;refine af.cond (by rfl) (fun h0=>?_) (fun h0=>?_)<;>try simp only[decide_eq_true_eq,decide_eq_false_iff_not] at h0
 ·refine qq<|qj fun K hK=>qm ?_;refine qm ?_;refine qe hK<|af.ret ⟨rx,_,_,rfl,rl bN hH (rfl),?_⟩;exact⟨_,_,rfl⟩
 ·refine af.skip<|qq<|qj fun K hK=>qm ?_;refine qe hK<|qq<|qq<|qj fun K hK=>qm ?_;refine ae.sH rfl rfl rfl (by dsimp only[Fr.put,u1,u2]<;>rfl) ?_;refine qm ?_;refine qe hK<|af.block<|af.loop (fun mm fr st=>∃(i:Nat) (n:Int),fr.clean=⟨12,[.str b,ek fr 1,ek fr 2,ek fr 3,.int .i64 n,ek fr 5,ek fr 6,ek fr 7,ek fr 8,ek fr 9,.int .i64 (b.length:Nat),.int .i64 (i:Nat)],[]⟩∧Has s0.bs.length S st []∧(i+mm=b.length)) (b.length) ?_ ?_
  ·exact⟨0,0,rfl,hH,by omega⟩
  rintro mm fr st ⟨i,n,hfr,hH,hi⟩;rw[hfr];clear hfr;generalize ek fr=ee;clear fr;refine qq<|qj fun K hK=>qg ?_;refine qe hK<|qq ?_;refine af.cond (by rfl) (fun h1=>?_) (fun h1=>?_)<;>try simp only[decide_eq_true_eq,decide_eq_false_iff_not] at h1
  ·refine af.skip ?_
   obtain⟨c,hc⟩:∃c,b[i]?=some c:=⟨b[i]'(by omega),List.getElem?_eq_getElem _⟩
   refine qq<|af.block<|qq<|qj fun K hK=>qm ?_;refine qm ?_;refine qe hK<|qj fun K hK=>qm ?_;refine ae.na (z:=bH .i64 (10*n)) rfl (ev rfl) (ev rfl) rfl (ag rfl _) ?_;refine qm ?_;refine qm ?_;refine ae.Ni rfl (ev rfl) (ev rfl) rfl (by assumption) (ag rfl _) ?_;refine ae.go (d:=.int .u8 (bH .u8 ((c.toNat:Nat)-48))) (st1:=_) rfl rfl rfl (ag rfl _) ?_;refine qg ?_;refine ae.kN (z:=bH .i64 (bH .i64 (10*n)+bH .i64 (bH .u8 ((c.toNat:Nat)-48)))) rfl (ev rfl) (ev rfl) rfl (ag rfl _) ?_;refine qm ?_;refine qe hK<|qj fun K hK=>qA ?_;refine qm ?_;refine qe hK ?_;exact⟨mm-1,by omega,⟨i+1,_,rfl,hH,by omega⟩⟩
  ·refine af.exit<|qq<|qj fun K hK=>qm ?_;refine qm ?_;refine qg ?_;refine qm ?_;refine qm ?_;refine qe hK<|af.ret ⟨rx,_,_,rfl,rl bN hH (rfl),?_⟩;exact⟨_,_,rfl⟩
end Go.Proofs.Ytbdilgkfnacahaa
