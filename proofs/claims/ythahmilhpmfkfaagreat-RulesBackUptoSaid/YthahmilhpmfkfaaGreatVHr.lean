/-
 Steps that need no word of their own, a run of them at once: 'refine zQ COUNT ?_'. By program (tools/genhr.py).
-/
import Derived.Test.YthahmilhpmfkfaaGreatVM2
set_option linter.unusedVariables false
set_option linter.unusedSectionVars false
namespace Go.V
variable{P:Pv} {ops:Array Oper} {rest:List Oper} {fr az:Fr} {st st1:St} {Q:Fr→St→Prop} {ty:TypeId} {pp:String} {a:Array Edge} {g:Option (Nat×Bool)} {dst:Nat} {N:Nat} {S:St} {H:List aZ} {d:D} {op:Op}
inductive Rn:Nat→Prop→Prop→Prop where
 |z (G:Prop):Rn 0 G G
 |s {n:Nat} {G G1 G':Prop} (h:True∧G1→G) (t:Rn n G' G1):Rn (n+1) G' G
theorem Rn.go {n:Nat} {G G':Prop} (h:Rn n G' G):G'→G:=by
 induction h with
 |z=>exact id
 |s h _ ih=>exact fun k=>h ⟨trivial,ih k⟩
theorem qL {j k au off:Nat} {ar:Bool} {c:List D} {d:D} {t:TypeId} {ao:Operand} (hH:Has N S st H) (h:ae P ops rest az st Q) (hg:ax ops fr ⟨some dst,.load t ao,ty,pp,a,g⟩=some true:=by exact rfl) (ha:fr.ev ao=.ptr k au off:=by exact ev rfl) (hj:H[j]?=some (.box k (.mem au ar c)):=by first|exact aG|exact aV|exact bE|exact cD|exact cW|exact du|exact dO|exact dN) (hd:dj P t (c.drop off)=some d:=by exact rfl) (hp:fr.put dst d=az:=by first|exact aa rfl _|(dsimp only[Fr.put,List.set_cons_succ,List.set_cons_zero]<;>rfl)):ae P ops (⟨some dst,.load t ao,ty,pp,a,g⟩::rest) fr st Q:=
 ae.fw (hH:=hH) (hg:=hg) (ha:=ha) (hj:=hj) (hd:=hd) (hp:=hp) (h:=h)
theorem qO {t:TypeId} {ao:Operand} {x y d:D} {s i o j:Nat} {es:List (List D)} {r:List D} (hH:Has N S st H) (h:ae P ops rest az st Q) (hg:ax ops fr ⟨some dst,.load t ao,ty,pp,a,g⟩=some true:=by exact rfl) (ha:fr.ev ao=y:=by exact ev rfl) (hR:pC x s i o y:=by assumption) (hj:H[j]?=some (.aB x s es):=by first|exact aG|exact aV|exact bE|exact cD|exact cW|exact du|exact dO|exact dN) (hr:es[i]?=some r:=by assumption) (hd:dj P t (r.drop o)=some d:=by exact rfl) (hp:fr.put dst d=az:=by first|exact aa rfl _|(dsimp only[Fr.put,List.set_cons_succ,List.set_cons_zero]<;>rfl)):ae P ops (⟨some dst,.load t ao,ty,pp,a,g⟩::rest) fr st Q:=
 ae.dB (hH:=hH) (hg:=hg) (ha:=ha) (hR:=hR) (hj:=hj) (hr:=hr) (hd:=hd) (hp:=hp) (h:=h)
theorem wI {ops:Array Oper} {fr:Fr} {o:Oper} {j t:Nat} {w v:Bool} (h1:o.guard=some (j,w):=by exact rfl) (h2:(ops[j]?).bind (·.dst)=some t:=by exact rfl) (h3:fr.get t=.bool v:=by exact rfl) (h4:v=w:=by assumption):ax ops fr o=some true:=aj h1 h2 h3 h4
theorem wN {ops:Array Oper} {fr:Fr} {o:Oper} {j t:Nat} {w v:Bool} (h1:o.guard=some (j,w):=by exact rfl) (h2:(ops[j]?).bind (·.dst)=some t:=by exact rfl) (h3:fr.get t=.bool v:=by exact rfl) (h4:v=!w:=by assumption):ax ops fr o=some false:=cL h1 h2 h3 h4
theorem qW {t:TypeId} {xo:Operand} {k au off o f fo m:Nat} {fields:Array Field} (h:ae P ops rest az st Q) (hg:ax ops fr ⟨some dst,.fieldAddr t xo f,ty,pp,a,g⟩=some true:=by exact rfl) (hx:fr.ev xo=.ptr k au off:=by exact ev rfl) (ht:P.bZ t=some (.struct fields):=by exact rfl) (hf:lL P fields f=some (fo,some (m+1)):=by exact rfl) (ho:off+fo=o:=by first|exact(rfl:_=0)|exact(rfl:_=1)|exact(rfl:_=2)|exact(rfl:_=3)|exact(rfl:_=4)|exact(rfl:_=5)|exact(rfl:_=6)|exact(rfl:_=7)|exact(rfl:_=8)|exact(rfl:_=9)|exact(rfl:_=10)|exact(rfl:_=11)|exact(rfl:_=12)|exact(rfl:_=13)|exact(rfl:_=14)|exact(rfl:_=15)|exact(rfl:_=16)|exact(rfl:_=17)|exact(rfl:_=18)|exact(rfl:_=19)) (hp:fr.put dst (.ptr k au o)=az:=by first|exact aa rfl _|(dsimp only[Fr.put,List.set_cons_succ,List.set_cons_zero]<;>rfl)):ae P ops (⟨some dst,.fieldAddr t xo f,ty,pp,a,g⟩::rest) fr st Q:=
 ae.ej (hg:=hg) (hx:=hx) (ht:=ht) (hf:=hf) (ho:=ho) (hp:=hp) (h:=h)
theorem qU {c x y:Operand} {v:Bool} (h:ae P ops rest az st Q) (hg:ax ops fr ⟨some dst,.pick c x y,ty,pp,a,g⟩=some true:=by exact rfl) (hc:fr.ev c=.bool v:=by exact rfl) (hv:v=true:=by assumption) (hp:fr.put dst (fr.ev x)=az:=by first|exact aa rfl _|(dsimp only[Fr.put,List.set_cons_succ,List.set_cons_zero]<;>rfl)):ae P ops (⟨some dst,.pick c x y,ty,pp,a,g⟩::rest) fr st Q:=
 ae.cQ (hg:=hg) (hc:=hc) (hv:=hv) (hp:=hp) (h:=h)
theorem qV {c x y:Operand} {v:Bool} (h:ae P ops rest az st Q) (hg:ax ops fr ⟨some dst,.pick c x y,ty,pp,a,g⟩=some true:=by exact rfl) (hc:fr.ev c=.bool v:=by exact rfl) (hv:v=false:=by assumption) (hp:fr.put dst (fr.ev y)=az:=by first|exact aa rfl _|(dsimp only[Fr.put,List.set_cons_succ,List.set_cons_zero]<;>rfl)):ae P ops (⟨some dst,.pick c x y,ty,pp,a,g⟩::rest) fr st Q:=
 ae.cC (hg:=hg) (hc:=hc) (hv:=hv) (hp:=hp) (h:=h)
theorem zQ (n:Nat) {G G':Prop} (k:G') (h:Rn n G' G:=by
  repeat(apply Rn.s;focus (intro k;first
   |refine ae.nil ?_;exact k.2
   |refine qq ?_;exact k.2
   |refine ai.dP ?_;exact k.2
   |refine ai.block ?_;exact k.2
   |refine ai.skip ?_;exact k.2
   |refine ai.exit ?_;exact k.2
   |refine qm ?_;exact k.2
   |refine qs ?_;exact k.2
   |refine qm ?_ (hg:=wI);exact k.2
   |refine qs ?_ (hg:=wN);exact k.2
   |refine qW ?_;exact k.2
   |refine qW ?_ (hg:=wI);exact k.2
   |refine qL (by assumption) ?_;exact k.2
   |refine qL (by assumption) ?_ (hg:=wI);exact k.2
   |refine qO (by assumption) ?_;exact k.2
   |refine qO (by assumption) ?_ (hg:=wI);exact k.2
   |refine qR ?_;exact k.2
   |refine qR ?_ (hg:=wI);exact k.2
   |refine qA ?_;exact k.2
   |refine qA ?_ (hg:=wI);exact k.2
   |refine qU ?_;exact k.2
   |refine qU ?_ (hg:=wI);exact k.2
   |refine qV ?_;exact k.2
   |refine qV ?_ (hg:=wI);exact k.2
   |refine qg ?_;exact k.2
   |refine qg ?_ (hg:=wI);exact k.2
   |refine qB ?_;exact k.2
   |refine qC ?_;exact k.2
   ))
  exact Rn.z _):G:=h.go k
theorem zR {G G':Prop} (k:G') (h:True∧G'→G:=by intro k;(repeat refine qq ?_);refine ai.dP ?_;(repeat(first|refine xT ?_|refine xL ?_|refine xN ?_|refine xo ?_|refine xp ?_));refine ae.nil ?_;(try dsimp only[Fr.gL,Fr.put,Fr.clean,Fr.ev,Fr.get,nth,V.look,u1,u2,v1,v2,v3,v4,v5,v6,v7,List.length,u3,u4,Nat.reduceSub,Nat.reduceAdd,List.map]);exact k.2):G:=h ⟨trivial,k⟩
theorem zE {G G':Prop} (k:G') (h:True∧G'→G:=by intro k;dsimp only[u3,u4,List.length,Nat.reduceSub,Nat.reduceAdd,w1,w2];exact k.2):G:=h ⟨trivial,k⟩
theorem zF {G G':Prop} (k:G') (h:True∧G'→G:=by intro k;dsimp only[Fr.gL,Fr.put,Fr.clean,Fr.ev,Fr.get,nth,V.look,u1,u2,v1,v2,v3,v4,v5,v6,v7,List.length,u3,u4,Nat.reduceSub,Nat.reduceAdd,List.map];exact k.2):G:=h ⟨trivial,k⟩
theorem zG {G G':Prop} (k:G') (h:True∧G'→G:=by intro k;dsimp only[bk,List.foldl,nth,u2,u1];dsimp only[Fr.gL,Fr.put,Fr.clean,Fr.ev,Fr.get,nth,V.look,u1,u2,v1,v2,v3,v4,v5,v6,v7,List.length,u3,u4,Nat.reduceSub,Nat.reduceAdd,List.map];exact k.2):G:=h ⟨trivial,k⟩
theorem zS {G:Prop} (h:G:=by dsimp only[Fr.gL,Fr.put,Fr.clean,Fr.ev,Fr.get,nth,V.look,u1,u2,v1,v2,v3,v4,v5,v6,v7,List.length,u3,u4,Nat.reduceSub,Nat.reduceAdd,List.map]):G:=h
theorem zP {dy:Dy} {c:Operand} {a b:Code} {p:Prop} {hd:Decidable p} {Q:Out→Fr→St→Prop} (h1:p→ai P dy a fr st Q) (h2:¬p→ai P dy b fr st Q) (hv:fr.ev c=.bool (@decide p hd):=by rfl):ai P dy (.cond c a b) fr st Q:=ai.cond hv (fun h=>h1 (of_decide_eq_true h)) (fun h=>h2 (of_decide_eq_false h))
theorem zI {dy:Dy} {c:Operand} {a b:Code} {x y:Int} {Q:Out→Fr→St→Prop} (h1:x=y→ai P dy a fr st Q) (h2:¬x=y→ai P dy b fr st Q) (hv:fr.ev c=.bool (x==y):=by rfl):ai P dy (.cond c a b) fr st Q:=ai.cond hv (fun h=>h1 (eq_of_beq h)) (fun h=>h2 (ne_of_beq_false h))
end Go.V
