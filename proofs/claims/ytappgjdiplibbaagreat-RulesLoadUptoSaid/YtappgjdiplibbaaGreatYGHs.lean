/-
 Further short forms of the steps. By program (tools/heshort2.py).
-/
import Derived.Test.YtappgjdiplibbaaGreatYM2
set_option linter.all false
open List renaming set_cons_succ->γ,set_cons_zero->δ,foldl_cons->ε,foldl_nil->η,foldl->κ,length->ξ,length_reverse->ς,length_append->τ,map->υ,length_cons->χ,length_map->ψ,length_nil->ω,length_set->Γ,length_replicate->Θ,drop_succ_cons->Φ,take_succ_cons->Ψ,drop_zero->Q2,take_zero->Q4,mem_cons->Q6
open Nat renaming le_of_ble_eq_true->ζ,reduceAdd->μ,reduceSub->ν,eq_of_beq_eq_true->Ξ,beq->Q7
open Go.V.Fr renaming put->θ,get->ο,ev->ρ,clean->φ,eS->Δ
open Go.V.Has renaming rows->ι,dv->Ω
open Go.V renaming look->π
namespace Go.V
def GB {p:Prop} (h:p:=by omega):p:=h
def Pd {p:Prop} (h:p:=by exact ev rfl):p:=h
def Pe {p:Prop} (h:p:=by(try simp only[List.length_reverse,List.length_cons,List.length_nil,List.length_append,List.length_map,List.length_set]);rw[wrap_i64 (by omega) (by omega)]<;>omega):p:=h
def AN {p:Prop} (h:p:=by decide):p:=h
def so {p:Prop} (h:p:=by assumption):p:=h
variable{P:Pv} {ops:Array Oper} {rest:List Oper} {I aA:Fr} {U st1:St} {Tr:Fr->St->Prop} {ty:TypeId} {pp:String} {a:Array Edge} {g:Option (Nat×Bool)} {dst:Nat} {N:Nat} {S:St} {H:List aX} {d:D} {op:Op}
variable{xo yo:Operand}{z:Int}{k:IntKind}
def yA {t jT:TypeId} {x y:Int} (h:u P ops rest aA U Tr) (hg:au ops I ⟨some dst,.binOp .add t xo yo jT,ty,pp,a,g⟩=some true:=by exact rfl) (hx:I.ev xo=.int k x:=by exact ev rfl) (hy:I.ev yo=.int k y:=by exact ev rfl) (hz:aR k (x+y)=z:=by(try simp only[List.length_reverse,List.length_cons,List.length_nil,List.length_append,List.length_map,List.length_set]);rw[wrap_i64 (by omega) (by omega)]<;>omega) (B:I.put dst (.int k z)=aA:=by first|exact ae rfl _|(dsimp only[Fr.put,List.set_cons_succ,List.set_cons_zero]<;>rfl)):u P ops (⟨some dst,.binOp .add t xo yo jT,ty,pp,a,g⟩::rest) I U Tr:=
 u.uE (hg:=hg) (hx:=hx) (hy:=hy) (hz:=hz) (B:=B) (h:=h)
def yB {t jT:TypeId} {x y:Int} (h:u P ops rest aA U Tr) (hg:au ops I ⟨some dst,.binOp .sub t xo yo jT,ty,pp,a,g⟩=some true:=by exact rfl) (hx:I.ev xo=.int k x:=by exact ev rfl) (hy:I.ev yo=.int k y:=by exact ev rfl) (hz:aR k (x-y)=z:=by(try simp only[List.length_reverse,List.length_cons,List.length_nil,List.length_append,List.length_map,List.length_set]);rw[wrap_i64 (by omega) (by omega)]<;>omega) (B:I.put dst (.int k z)=aA:=by first|exact ae rfl _|(dsimp only[Fr.put,List.set_cons_succ,List.set_cons_zero]<;>rfl)):u P ops (⟨some dst,.binOp .sub t xo yo jT,ty,pp,a,g⟩::rest) I U Tr:=
 u.Aa (hg:=hg) (hx:=hx) (hy:=hy) (hz:=hz) (B:=B) (h:=h)
variable{j aj off m:Nat}{ar:Bool}{c r:List D}{ao:Operand}
def yC {k:Nat} {t:TypeId} (O:Has N S U H) (hj:H[j]?=some (.box k (.mem aj ar c))) (h:u P ops rest aA U Tr) (hg:au ops I ⟨some dst,.load t ao,ty,pp,a,g⟩=some true:=by exact rfl) (ha:I.ev ao=.ptr k aj off:=by exact ev rfl) (hr:(c.drop off).take m=r:=by rfl) (hd:da P t r=some (.agg r):=by exact rfl) (hm:r.length=m:=by exact rfl) (B:I.put dst (.agg r)=aA:=by first|exact ae rfl _|(dsimp only[Fr.put,List.set_cons_succ,List.set_cons_zero]<;>rfl)):u P ops (⟨some dst,.load t ao,ty,pp,a,g⟩::rest) I U Tr:=
 u.gp (O:=O) (hg:=hg) (ha:=ha) (hj:=hj) (hr:=hr) (hd:=hd) (hm:=hm) (B:=B) (h:=h)
def yL {k:Nat} {t:TypeId} (O:Has N S U H) (hj:H[j]?=some (.box k (.mem aj ar c))) (h:u P ops rest aA U Tr) (hg:au ops I ⟨some dst,.load t ao,ty,pp,a,g⟩=some true:=by exact rfl) (ha:I.ev ao=.ptr k aj off:=by exact ev rfl) (hr:(c.drop off).take m=r:=by dsimp only[List.drop_succ_cons,List.drop_zero,List.take_succ_cons,List.take_zero]<;>rfl) (hd:da P t r=some (.agg r):=by exact rfl) (hm:r.length=m:=by exact rfl) (B:I.put dst (.agg r)=aA:=by first|exact ae rfl _|(dsimp only[Fr.put,List.set_cons_succ,List.set_cons_zero]<;>rfl)):u P ops (⟨some dst,.load t ao,ty,pp,a,g⟩::rest) I U Tr:=
 u.gp (O:=O) (hg:=hg) (ha:=ha) (hj:=hj) (hr:=hr) (hd:=hd) (hm:=hm) (B:=B) (h:=h)
variable{x:D}
def yE {t:TypeId} (h:u P ops rest aA U Tr) (hg:au ops I ⟨some dst,.load t ao,ty,pp,a,g⟩=some true:=by exact rfl) (ha:I.ev ao=x:=by exact ev rfl) (hR:iW U x r:=by assumption) (hd:da P t r=some (.agg r):=by exact rfl) (B:I.put dst (.agg r)=aA:=by first|exact ae rfl _|(dsimp only[Fr.put,List.set_cons_succ,List.set_cons_zero]<;>rfl)):u P ops (⟨some dst,.load t ao,ty,pp,a,g⟩::rest) I U Tr:=
 u.mr (hg:=hg) (ha:=ha) (hR:=hR) (hd:=hd) (B:=B) (h:=h)
variable{y:D}{s i o:Nat}
def yF {t:TypeId} {o2:Nat} {f fo:Nat} {fields:Array Field} {aA:D->Fr} (h:∀p,kz x s i o2 p->u P ops rest (aA p) U Tr) (hg:au ops I ⟨some dst,.fieldAddr t xo f,ty,pp,a,g⟩=some true:=by exact rfl) (hx:I.ev xo=y:=by exact ev rfl) (hR:kz x s i o y:=by assumption) (ht:P.cF t=some (.struct fields):=by exact rfl) (hf:kb P fields f=some (fo,some (m+1)):=by exact rfl) (ho:o+fo=o2:=by exact rfl) (B:∀p,I.put dst p=aA p:=by first|exact λ_=>ae rfl _|exact λ_=>by dsimp only[Fr.put,List.set_cons_succ,List.set_cons_zero]<;>rfl):u P ops (⟨some dst,.fieldAddr t xo f,ty,pp,a,g⟩::rest) I U Tr:=
 u.dJ (hg:=hg) (hx:=hx) (hR:=hR) (ht:=ht) (hf:=hf) (ho:=ho) (B:=B) (h:=h)
variable{es:List (List D)}
def yG {t:TypeId} {vo:Operand} {v:D} {cs:List D} (O:Has N S U H) (hj:H[j]?=some (.ai x s es)) (h:∀R,Has N S R (H.set j (.ai x s (es.set i (setMany r o cs))))->u P ops rest I R Tr) (hg:au ops I ⟨none,.store t ao vo,ty,pp,a,g⟩=some true:=by exact rfl) (ha:I.ev ao=y:=by exact ev rfl) (hv:I.ev vo=v:=by exact ev rfl) (hR:kz x s i o y:=by assumption) (hcs:v.cells?=some cs:=by first|rfl|exact(fJ.cells (by assumption)).1) (hs:bS P t=some cs.length:=by exact rfl) (hr:es[i]?=some r:=by assumption) (hl:o+cs.length<=s:=by exact Nat.le_of_ble_eq_true rfl) (hw:S.flr<=N\/refs cs=0:=by first|exact .inl (by assumption)|exact .inr rfl):u P ops (⟨none,.store t ao vo,ty,pp,a,g⟩::rest) I U Tr:=
 u.E7 (O:=O) (hg:=hg) (ha:=ha) (hv:=hv) (hR:=hR) (hcs:=hcs) (hs:=hs) (hj:=hj) (hr:=hr) (hl:=hl) (hw:=hw) (h:=h)
def yH {ys:List (List D)} {t1 t2 e:TypeId} {td:TypeDesc} {inf:TypeInfo} {z:List D} {aA:D->Fr} (O:Has N S U H) (hj:H[j]?=some (.ai x s es)) (j8:Rows U s y ys) (F:es.length+ys.length<=1073741824) (h:∀x' R,Has N S R (H.set j (.ai x' s (es++ys)))->u P ops rest (aA x') R Tr) (hg:au ops I ⟨some dst,.call ⟨.builtin .append,#[xo,yo],#[t1,t2]⟩,ty,pp,a,g⟩=some true:=by exact rfl) (hx:I.ev xo=x:=by exact ev rfl) (hy:I.ev yo=y:=by exact ev rfl) (h1:P.cF t1=some (.slice e):=by exact rfl) (X:P.cF t2=some td:=by exact rfl) (h3:fp td=false:=by exact rfl) (h4:P.info e=some inf:=by exact rfl) (h5:cO P e=some z:=by exact rfl) (h6:inf.size=s:=by exact rfl) (h7:z.length=s:=by exact rfl) (h8:0<inf.bytes/\inf.bytes<=1024:=by exact⟨Nat.le_of_ble_eq_true rfl,Nat.le_of_ble_eq_true rfl⟩) (B:∀x',I.put dst x'=aA x':=by first|exact λ_=>ae rfl _|exact λ_=>by dsimp only[Fr.put,List.set_cons_succ,List.set_cons_zero]<;>rfl) (hw:S.flr<=N\/refs ys.flatten=0:=by first|exact .inl (by assumption)|exact .inr rfl):u P ops (⟨some dst,.call ⟨.builtin .append,#[xo,yo],#[t1,t2]⟩,ty,pp,a,g⟩::rest) I U Tr:=
 u.oK (O:=O) (hg:=hg) (hx:=hx) (hy:=hy) (hj:=hj) (j8:=j8) (h1:=h1) (X:=X) (h3:=h3) (h4:=h4) (h5:=h5) (h6:=h6) (h7:=h7) (h8:=h8) (B:=B) (F:=F) (hw:=hw) (h:=h)
def yY {ys:List (Nat×Nat)} {log:Log} {o o2:Oper} {JL:Fr} {uk:St} (h:u P ops [o2] I U λaA R=>DW ys (j+1) ((o,JL,uk,U)::log) o2 I U R=true/\nr P ops ys (j+1+1) ((o2,I,U,R)::(o,JL,uk,U)::log) rest aA R Tr) (hc:DW ys j log o JL uk U=true:=by exact rfl):u P ops [] I U λaA R=>DW ys j log o JL uk R=true/\nr P ops ys (j+1) ((o,JL,uk,R)::log) (o2::rest) aA R Tr:=u.nil ⟨hc,nr.cons h⟩
def gx {α:Type} {l:List α} (h:i<l.length:=by omega):∃p,l[i]?=some p:=⟨l[i]'h,List.getElem?_eq_getElem h⟩
end Go.V
namespace Go.V
variable{P:Pv} {ops:Array Oper} {rest:List Oper} {I aA:Fr} {U st1:St} {Tr:Fr->St->Prop} {ty:TypeId} {pp:String} {a:Array Edge} {g:Option (Nat×Bool)} {dst:Nat} {N:Nat} {S:St} {H:List aX} {d:D} {op:Op}
inductive Rn:Nat->Prop->Prop->Prop where
 |z (zQ:Prop):Rn 0 zQ zQ
 |s {n:Nat} {zQ G1 G':Prop} (h:True/\G1->zQ) (t:Rn n G' G1):Rn (n+1) G' zQ
variable{zQ G':Prop}
def Rn.go {n:Nat} (h:Rn n G' zQ):G'->zQ:=by
 induction h with
 |z=>exact id
 |s h _ ih=>exact λk=>h ⟨trivial,ih k⟩
variable{j k aj off:Nat}{ao:Operand}
def qL {ar:Bool} {c:List D} {d:D} {t:TypeId} (O:Has N S U H) (h:u P ops rest aA U Tr) (hg:au ops I ⟨some dst,.load t ao,ty,pp,a,g⟩=some true:=by exact rfl) (ha:I.ev ao=.ptr k aj off:=by exact ev rfl) (hj:H[j]?=some (.box k (.mem aj ar c)):=by first|exact aV|exact bf|exact dh|exact d_|exact kS|exact n9|exact qI|exact oY) (hd:da P t (c.drop off)=some d:=by exact rfl) (B:I.put dst d=aA:=by first|exact ae rfl _|(dsimp only[Fr.put,List.set_cons_succ,List.set_cons_zero]<;>rfl)):u P ops (⟨some dst,.load t ao,ty,pp,a,g⟩::rest) I U Tr:=
 u.mZ (O:=O) (hg:=hg) (ha:=ha) (hj:=hj) (hd:=hd) (B:=B) (h:=h)
variable{o:Nat}
def qO {t:TypeId} {x y d:D} {s i:Nat} {es:List (List D)} {r:List D} (O:Has N S U H) (h:u P ops rest aA U Tr) (hg:au ops I ⟨some dst,.load t ao,ty,pp,a,g⟩=some true:=by exact rfl) (ha:I.ev ao=y:=by exact ev rfl) (hR:kz x s i o y:=by assumption) (hj:H[j]?=some (.ai x s es):=by first|exact aV|exact bf|exact dh|exact d_|exact kS|exact n9|exact qI|exact oY) (hr:es[i]?=some r:=by assumption) (hd:da P t (r.drop o)=some d:=by exact rfl) (B:I.put dst d=aA:=by first|exact ae rfl _|(dsimp only[Fr.put,List.set_cons_succ,List.set_cons_zero]<;>rfl)):u P ops (⟨some dst,.load t ao,ty,pp,a,g⟩::rest) I U Tr:=
 u.o9 (O:=O) (hg:=hg) (ha:=ha) (hR:=hR) (hj:=hj) (hr:=hr) (hd:=hd) (B:=B) (h:=h)
variable{t:Nat}{w v:Bool}
def wI {ops:Array Oper} {I:Fr} {o:Oper} (h1:o.guard=some (j,w):=by exact rfl) (X:(ops[j]?).bind (·.dst)=some t:=by exact rfl) (h3:I.get t=.bool v:=by exact rfl) (h4:v=w:=by assumption):au ops I o=some true:=cP h1 X h3 h4
def wN {ops:Array Oper} {I:Fr} {o:Oper} (h1:o.guard=some (j,w):=by exact rfl) (X:(ops[j]?).bind (·.dst)=some t:=by exact rfl) (h3:I.get t=.bool v:=by exact rfl) (h4:v=!w:=by assumption):au ops I o=some false:=et h1 X h3 h4
def qW {t:TypeId} {xo:Operand} {f fo m:Nat} {fields:Array Field} (h:u P ops rest aA U Tr) (hg:au ops I ⟨some dst,.fieldAddr t xo f,ty,pp,a,g⟩=some true:=by exact rfl) (hx:I.ev xo=.ptr k aj off:=by exact ev rfl) (ht:P.cF t=some (.struct fields):=by exact rfl) (hf:kb P fields f=some (fo,some (m+1)):=by exact rfl) (ho:off+fo=o:=by first|exact(rfl:_=0)|exact(rfl:_=1)|exact(rfl:_=2)|exact(rfl:_=3)|exact(rfl:_=4)|exact(rfl:_=5)|exact(rfl:_=6)|exact(rfl:_=7)|exact(rfl:_=8)|exact(rfl:_=9)|exact(rfl:_=10)|exact(rfl:_=11)|exact(rfl:_=12)|exact(rfl:_=13)|exact(rfl:_=14)|exact(rfl:_=15)|exact(rfl:_=16)|exact(rfl:_=17)|exact(rfl:_=18)|exact(rfl:_=19)) (B:I.put dst (.ptr k aj o)=aA:=by first|exact ae rfl _|(dsimp only[Fr.put,List.set_cons_succ,List.set_cons_zero]<;>rfl)):u P ops (⟨some dst,.fieldAddr t xo f,ty,pp,a,g⟩::rest) I U Tr:=
 u.pK (hg:=hg) (hx:=hx) (ht:=ht) (hf:=hf) (ho:=ho) (B:=B) (h:=h)
variable{c x y:Operand}
def qU (h:u P ops rest aA U Tr) (hg:au ops I ⟨some dst,.pick c x y,ty,pp,a,g⟩=some true:=by exact rfl) (hc:I.ev c=.bool v:=by exact rfl) (hv:v=true:=by assumption) (B:I.put dst (I.ev x)=aA:=by first|exact ae rfl _|(dsimp only[Fr.put,List.set_cons_succ,List.set_cons_zero]<;>rfl)):u P ops (⟨some dst,.pick c x y,ty,pp,a,g⟩::rest) I U Tr:=
 u.KQ (hg:=hg) (hc:=hc) (hv:=hv) (B:=B) (h:=h)
def qV (h:u P ops rest aA U Tr) (hg:au ops I ⟨some dst,.pick c x y,ty,pp,a,g⟩=some true:=by exact rfl) (hc:I.ev c=.bool v:=by exact rfl) (hv:v=false:=by assumption) (B:I.put dst (I.ev y)=aA:=by first|exact ae rfl _|(dsimp only[Fr.put,List.set_cons_succ,List.set_cons_zero]<;>rfl)):u P ops (⟨some dst,.pick c x y,ty,pp,a,g⟩::rest) I U Tr:=
 u.Qa (hg:=hg) (hc:=hc) (hv:=hv) (B:=B) (h:=h)
def G (n:Nat) (k:G') (h:Rn n G' zQ:=by
  repeat(apply Rn.s;focus (intro k;first
   |refine u.nil ?_;exact k.2
   |refine qq ?_;exact k.2
   |refine ah.jy ?_;exact k.2
   |refine ah.block ?_;exact k.2
   |refine ah.skip ?_;exact k.2
   |refine ah.exit ?_;exact k.2
   |refine qm ?_;exact k.2
   |refine qs ?_;exact k.2
   |refine qm ?_ (hg:=wI);exact k.2
   |refine qs ?_ (hg:=wN);exact k.2
   |refine qW ?_;exact k.2
   |refine qW ?_ (hg:=wI);exact k.2
   |refine qL (by assumption) ?_;exact k.2
   |refine qL (by assumption) ?_ (hg:=wI);exact k.2
   |refine qO (by assumption) ?_;exact k.2
   |refine qO (by assumption) ?_ (hg:=wI);exact k.2
   |refine qR ?_;exact k.2
   |refine qR ?_ (hg:=wI);exact k.2
   |refine qA ?_;exact k.2
   |refine qA ?_ (hg:=wI);exact k.2
   |refine qU ?_;exact k.2
   |refine qU ?_ (hg:=wI);exact k.2
   |refine qV ?_;exact k.2
   |refine qV ?_ (hg:=wI);exact k.2
   |refine qg ?_;exact k.2
   |refine qg ?_ (hg:=wI);exact k.2
   |refine qB ?_;exact k.2
   |refine qC ?_;exact k.2
   ))
  exact Rn.z _):zQ:=h.go k
def zU (k:G') (h:True/\G'->zQ:=by intro k;(repeat refine qq ?_);refine ah.jy ?_;exact k.2):zQ:=h ⟨trivial,k⟩
def zX (k:G') (h:True/\G'->zQ:=by intro k;(repeat(first|refine xT ?_|refine xL ?_|refine xN ?_|refine xo ?_|refine xp ?_));exact k.2):zQ:=h ⟨trivial,k⟩
def zY (k:G') (h:True/\G'->zQ:=by intro k;(repeat(first|refine xT ?_|refine xL ?_|refine xN ?_|refine xo ?_|refine xp ?_|simp(disch:=omega) only[decide_eq_true,decide_eq_false,eR,gV,eQ,gU]));exact k.2):zQ:=h ⟨trivial,k⟩
def zW (k:G') (h:True/\G'->zQ:=by intro k;(first|refine xT ?_|refine xL ?_|refine xN ?_|refine xo ?_|refine xp ?_);exact k.2):zQ:=h ⟨trivial,k⟩
def zN (k:G') (h:True/\G'->zQ:=by intro k;refine u.nil ?_;(try dsimp only[Fr.eS,Fr.put,Fr.clean,Fr.ev,Fr.get,nth,V.look,u1,u2,v1,v2,v3,v4,v5,v6,v7,List.length,u3,u4,Nat.reduceSub,Nat.reduceAdd,List.map]);exact k.2):zQ:=h ⟨trivial,k⟩
def zR (k:G') (h:True/\G'->zQ:=by intro k;(repeat refine qq ?_);refine ah.jy ?_;(repeat(first|refine xT ?_|refine xL ?_|refine xN ?_|refine xo ?_|refine xp ?_));refine u.nil ?_;(try dsimp only[Fr.eS,Fr.put,Fr.clean,Fr.ev,Fr.get,nth,V.look,u1,u2,v1,v2,v3,v4,v5,v6,v7,List.length,u3,u4,Nat.reduceSub,Nat.reduceAdd,List.map]);exact k.2):zQ:=h ⟨trivial,k⟩
def zV (k:G') (h:True/\G'->zQ:=by intro k;(repeat refine qq ?_);refine ah.jy ?_;(repeat(first|refine xT ?_|refine xL ?_|refine xN ?_|refine xo ?_|refine xp ?_|simp(disch:=omega) only[decide_eq_true,decide_eq_false,eR,gV,eQ,gU]));refine u.nil ?_;(try dsimp only[Fr.eS,Fr.put,Fr.clean,Fr.ev,Fr.get,nth,V.look,u1,u2,v1,v2,v3,v4,v5,v6,v7,List.length,u3,u4,Nat.reduceSub,Nat.reduceAdd,List.map]);exact k.2):zQ:=h ⟨trivial,k⟩
def zE (k:G') (h:True/\G'->zQ:=by intro k;dsimp only[u3,u4,List.length,Nat.reduceSub,Nat.reduceAdd,w1,w2];exact k.2):zQ:=h ⟨trivial,k⟩
def zF (k:G') (h:True/\G'->zQ:=by intro k;dsimp only[Fr.eS,Fr.put,Fr.clean,Fr.ev,Fr.get,nth,V.look,u1,u2,v1,v2,v3,v4,v5,v6,v7,List.length,u3,u4,Nat.reduceSub,Nat.reduceAdd,List.map];exact k.2):zQ:=h ⟨trivial,k⟩
def zG (k:G') (h:True/\G'->zQ:=by intro k;dsimp only[aC,List.foldl,nth,u2,u1];dsimp only[Fr.eS,Fr.put,Fr.clean,Fr.ev,Fr.get,nth,V.look,u1,u2,v1,v2,v3,v4,v5,v6,v7,List.length,u3,u4,Nat.reduceSub,Nat.reduceAdd,List.map];exact k.2):zQ:=h ⟨trivial,k⟩
def vU (k:G') (h:True/\G'->zQ:=by intro k;refine u.nil (ax (by dsimp[aC,List.foldl,nth,u2,u1];all_goals(first|rfl|simp)) ?_);(dsimp only[Fr.eS,Fr.put,Fr.clean,Fr.ev,Fr.get,nth,V.look,u1,u2,v1,v2,v3,v4,v5,v6,v7,List.length,u3,u4,Nat.reduceSub,Nat.reduceAdd,List.map];exact k.2)):zQ:=h ⟨trivial,k⟩
def vV (h:zQ:=by refine u.nil (ax (by dsimp[aC,List.foldl,nth,u2,u1];all_goals(first|rfl|simp)) ?_);(dsimp only[Fr.eS,Fr.put,Fr.clean,Fr.ev,Fr.get,nth,V.look,u1,u2,v1,v2,v3,v4,v5,v6,v7,List.length,u3,u4,Nat.reduceSub,Nat.reduceAdd,List.map];all_goals(first|(simp[*];done)|(simp_all;done)))):zQ:=h
variable{dy:Dy}{b:Code}
def vX {P:Pv} {I:Fr} {U:St} {a:Code} {Tr:Out->Fr->St->Prop} (k:ah P dy a I U Tr) (hv:I.ev c=.bool v:=by exact rfl) (F:v=true:=by first|assumption|(simp[*];done)):ah P dy (.cond c a b) I U Tr:=qD hv F k
def vY {P:Pv} {I:Fr} {U:St} {a:Code} {Tr:Out->Fr->St->Prop} (k:ah P dy b I U Tr) (hv:I.ev c=.bool v:=by exact rfl) (F:v=false:=by first|assumption|(simp[*];done)):ah P dy (.cond c a b) I U Tr:=qE hv F k
def zS (h:zQ:=by dsimp only[Fr.eS,Fr.put,Fr.clean,Fr.ev,Fr.get,nth,V.look,u1,u2,v1,v2,v3,v4,v5,v6,v7,List.length,u3,u4,Nat.reduceSub,Nat.reduceAdd,List.map]):zQ:=h
theorem zT (h:zQ:=by dsimp only[aC,List.foldl,nth,u2,u1];dsimp only[Fr.eS,Fr.put,Fr.clean,Fr.ev,Fr.get,nth,V.look,u1,u2,v1,v2,v3,v4,v5,v6,v7,List.length,u3,u4,Nat.reduceSub,Nat.reduceAdd,List.map]):zQ:=h
def zP {a:Code} {p:Prop} {hd:Decidable p} {Tr:Out->Fr->St->Prop} (h1:p->ah P dy a I U Tr) (X:¬p->ah P dy b I U Tr) (hv:I.ev c=.bool (@decide p hd):=by rfl):ah P dy (.cond c a b) I U Tr:=ah.cond hv (λh=>h1 (of_decide_eq_true h)) (λh=>X (of_decide_eq_false h))
def zI {a:Code} {x y:Int} {Tr:Out->Fr->St->Prop} (h1:x=y->ah P dy a I U Tr) (X:¬x=y->ah P dy b I U Tr) (hv:I.ev c=.bool (x==y):=by rfl):ah P dy (.cond c a b) I U Tr:=ah.cond hv (λh=>h1 (eq_of_beq h)) (λh=>X (ne_of_beq_false h))
end Go.V
namespace Go.V
variable{P:Pv} {ops:Array Oper} {rest:List Oper} {I aA:Fr} {U st1:St} {Tr:Fr->St->Prop} {ty:TypeId} {pp:String} {a:Array Edge} {g:Option (Nat×Bool)} {dst:Nat} {N:Nat} {S:St} {H:List aX} {d:D} {op:Op}
inductive Rb:Nat->Prop->Prop->Prop where
 |z (zQ:Prop):Rb 0 zQ zQ
 |s {n:Nat} {zQ G1 G':Prop} (h:True/\G1->zQ) (t:Rb n G' G1):Rb (n+1) G' zQ
 |i {n:Nat} {α:Type} {zQ G':α->Prop} (t:∀x,Rb n (G' x) (zQ x)):Rb n (∀x,G' x) (∀x,zQ x)
 |j {n:Nat} {p:Prop} {zQ G':p->Prop} (t:∀x,Rb n (G' x) (zQ x)):Rb n (∀x,G' x) (∀x,zQ x)
 |m {n:Nat} {hk hp zQ G':Prop} (e:hk->hp) (t:Rb n G' (hp->zQ)):Rb n G' (hk->zQ)
 |e {n:Nat} {zQ:Prop} (h:zQ):Rb n True zQ
variable{n:Nat}{zQ G':Prop}
def Rb.go (h:Rb n G' zQ):G'->zQ:=by
 induction h with
 |z=>exact id
 |s h _ ih=>exact λk=>h ⟨trivial,ih k⟩
 |i _ ih=>exact λk x=>ih x (k x)
 |j _ ih=>exact λk x=>ih x (k x)
 |m e _ ih=>exact λk x=>ih k (e x)
 |e h=>exact λ_=>h
def Rbm {N:Nat} {S U:St} {H H2:List aX} (e:Has N S U H->Has N S U H2) (t:Rb n G' (Has N S U H2->zQ)):Rb n G' (Has N S U H->zQ):=Rb.m e t
variable{xo:Operand}{x:D}{r:List D}{f fo m:Nat}{fields:Array Field}
def pF {t:TypeId} {aA:D->Fr} (h:∀p,iW U p (r.drop fo)->u P ops rest (aA p) U Tr) (hg:au ops I ⟨some dst,.fieldAddr t xo f,ty,pp,a,g⟩=some true:=by first|exact rfl|exact wI) (hx:I.ev xo=x:=by exact ev rfl) (hR:iW U x r:=by assumption) (ht:P.cF t=some (.struct fields):=by exact rfl) (hf:kb P fields f=some (fo,some (m+1)):=by first|exact(rfl:_=some (0,_))|exact(rfl:_=some (1,_))|exact(rfl:_=some (2,_))|exact(rfl:_=some (3,_))|exact(rfl:_=some (4,_))|exact(rfl:_=some (5,_))|exact(rfl:_=some (6,_))|exact(rfl:_=some (7,_))|exact(rfl:_=some (8,_))|exact(rfl:_=some (9,_))|exact(rfl:_=some (10,_))|exact(rfl:_=some (11,_))|exact(rfl:_=some (12,_))|exact(rfl:_=some (13,_))|exact(rfl:_=some (14,_))|exact(rfl:_=some (15,_))|exact(rfl:_=some (16,_))|exact(rfl:_=some (17,_))|exact(rfl:_=some (18,_))|exact(rfl:_=some (19,_))|exact(rfl:_=some (20,_))|exact(rfl:_=some (21,_))|exact(rfl:_=some (22,_))|exact(rfl:_=some (23,_))) (B:∀p,I.put dst p=aA p:=by first|exact λ_=>ae rfl _|exact λ_=>by dsimp only[Fr.put,List.set_cons_succ,List.set_cons_zero]<;>rfl):u P ops (⟨some dst,.fieldAddr t xo f,ty,pp,a,g⟩::rest) I U Tr:=
 u.ou (hg:=hg) (hx:=hx) (hR:=hR) (ht:=ht) (hf:=hf) (B:=B) (h:=h)
variable{io:Operand}{s i j:Nat}{kk:IntKind}{es:List (List D)}
def pI {t e:TypeId} {aA:D->Fr} (O:Has N S U H) (h:∀p,kz x s i 0 p->u P ops rest (aA p) U Tr) (hg:au ops I ⟨some dst,.indexAddr t xo io,ty,pp,a,g⟩=some true:=by first|exact rfl|exact wI) (hx:I.ev xo=x:=by exact ev rfl) (hi:I.ev io=.int kk (i:Nat):=by exact ev rfl) (hj:H[j]?=some (.ai x s es):=by first|exact aV|exact bf|exact dh|exact d_|exact kS|exact n9|exact qI|exact oY) (ht:P.cF t=some (.slice e):=by exact rfl) (hs:bS P e=some s:=by exact rfl) (hr:i<es.length:=by first|exact cI (by assumption)|omega) (B:∀p,I.put dst p=aA p:=by first|exact λ_=>ae rfl _|exact λ_=>by dsimp only[Fr.put,List.set_cons_succ,List.set_cons_zero]<;>rfl):u P ops (⟨some dst,.indexAddr t xo io,ty,pp,a,g⟩::rest) I U Tr:=
 u.Oq (O:=O) (hg:=hg) (hx:=hx) (hi:=hi) (hj:=hj) (ht:=ht) (hs:=hs) (hr:=hr) (B:=B) (h:=h)
variable{y:D}{o:Nat}
def pX {t:TypeId} {o2:Nat} {aA:D->Fr} (h:∀p,kz x s i o2 p->u P ops rest (aA p) U Tr) (hg:au ops I ⟨some dst,.fieldAddr t xo f,ty,pp,a,g⟩=some true:=by first|exact rfl|exact wI) (hx:I.ev xo=y:=by exact ev rfl) (hR:kz x s i o y:=by assumption) (ht:P.cF t=some (.struct fields):=by exact rfl) (hf:kb P fields f=some (fo,some (m+1)):=by exact rfl) (ho:o+fo=o2:=by first|exact(rfl:_=0)|exact(rfl:_=1)|exact(rfl:_=2)|exact(rfl:_=3)|exact(rfl:_=4)|exact(rfl:_=5)|exact(rfl:_=6)|exact(rfl:_=7)|exact(rfl:_=8)|exact(rfl:_=9)|exact(rfl:_=10)|exact(rfl:_=11)|exact(rfl:_=12)|exact(rfl:_=13)|exact(rfl:_=14)|exact(rfl:_=15)|exact(rfl:_=16)|exact(rfl:_=17)|exact(rfl:_=18)|exact(rfl:_=19)|exact(rfl:_=20)|exact(rfl:_=21)|exact(rfl:_=22)|exact(rfl:_=23)) (B:∀p,I.put dst p=aA p:=by first|exact λ_=>ae rfl _|exact λ_=>by dsimp only[Fr.put,List.set_cons_succ,List.set_cons_zero]<;>rfl):u P ops (⟨some dst,.fieldAddr t xo f,ty,pp,a,g⟩::rest) I U Tr:=
 u.dJ (hg:=hg) (hx:=hx) (hR:=hR) (ht:=ht) (hf:=hf) (ho:=ho) (B:=B) (h:=h)
variable{k aj:Nat}{ar:Bool}{c cs:List D}{v:D}{ao vo:Operand}
def pS {t:TypeId} (O:Has N S U H) (h:∀R,Has N S R (H.set j (.box k (.mem aj ar cs)))->u P ops rest I R Tr) (hg:au ops I ⟨none,.store t ao vo,ty,pp,a,g⟩=some true:=by first|exact rfl|exact wI) (ha:I.ev ao=.ptr k aj 0:=by exact ev rfl) (hv:I.ev vo=v:=by exact ev rfl) (hj:H[j]?=some (.box k (.mem aj ar c)):=by first|exact aV|exact bf|exact dh|exact d_|exact kS|exact n9|exact qI|exact oY) (hcs:v.cells?=some cs:=by first|rfl|exact(fJ.cells (by assumption)).1) (hs:bS P t=some cs.length:=by exact rfl) (hl:cs.length=c.length:=by exact rfl) (hw:S.flr<=N\/refs cs=0:=by first|exact .inl (by assumption)|exact .inr rfl):u P ops (⟨none,.store t ao vo,ty,pp,a,g⟩::rest) I U Tr:=
 u.cB (O:=O) (hg:=hg) (ha:=ha) (hv:=hv) (hcs:=hcs) (hs:=hs) (hj:=hj) (hl:=hl) (hw:=hw) (h:=h)
variable{off:Nat}
def pT {t:TypeId} (O:Has N S U H) (h:∀R,Has N S R (H.set j (.box k (.mem aj ar (setMany c off cs))))->u P ops rest I R Tr) (hg:au ops I ⟨none,.store t ao vo,ty,pp,a,g⟩=some true:=by first|exact rfl|exact wI) (ha:I.ev ao=.ptr k aj off:=by exact ev rfl) (hv:I.ev vo=v:=by exact ev rfl) (hj:H[j]?=some (.box k (.mem aj ar c)):=by first|exact aV|exact bf|exact dh|exact d_|exact kS|exact n9|exact qI|exact oY) (hcs:v.cells?=some cs:=by first|rfl|exact(fJ.cells (by assumption)).1) (hs:bS P t=some cs.length:=by exact rfl) (hl:off+cs.length<=c.length:=by exact Nat.le_of_ble_eq_true rfl) (hw:S.flr<=N\/refs cs=0:=by first|exact .inl (by assumption)|exact .inr rfl):u P ops (⟨none,.store t ao vo,ty,pp,a,g⟩::rest) I U Tr:=
 u.pZ (O:=O) (hg:=hg) (ha:=ha) (hv:=hv) (hcs:=hcs) (hs:=hs) (hj:=hj) (hl:=hl) (hw:=hw) (h:=h)
def pG {t:TypeId} (O:Has N S U H) (h:∀R,Has N S R (H.set j (.ai x s (es.set i (setMany r o cs))))->u P ops rest I R Tr) (hg:au ops I ⟨none,.store t ao vo,ty,pp,a,g⟩=some true:=by first|exact rfl|exact wI) (ha:I.ev ao=y:=by exact ev rfl) (hv:I.ev vo=v:=by exact ev rfl) (hR:kz x s i o y:=by assumption) (hcs:v.cells?=some cs:=by first|rfl|exact(fJ.cells (by assumption)).1) (hs:bS P t=some cs.length:=by exact rfl) (hj:H[j]?=some (.ai x s es):=by first|exact aV|exact bf|exact dh|exact d_|exact kS|exact n9|exact qI|exact oY) (hr:es[i]?=some r:=by assumption) (hl:o+cs.length<=s:=by exact Nat.le_of_ble_eq_true rfl) (hw:S.flr<=N\/refs cs=0:=by first|exact .inl (by assumption)|exact .inr rfl):u P ops (⟨none,.store t ao vo,ty,pp,a,g⟩::rest) I U Tr:=
 u.E7 (O:=O) (hg:=hg) (ha:=ha) (hv:=hv) (hR:=hR) (hcs:=hcs) (hs:=hs) (hj:=hj) (hr:=hr) (hl:=hl) (hw:=hw) (h:=h)
def pC {t:TypeId} (O:Has N S U H) (h:u P ops rest aA U Tr) (hg:au ops I ⟨some dst,.load t ao,ty,pp,a,g⟩=some true:=by first|exact rfl|exact wI) (ha:I.ev ao=.ptr k aj off:=by exact ev rfl) (hj:H[j]?=some (.box k (.mem aj ar c)):=by first|exact aV|exact bf|exact dh|exact d_|exact kS|exact n9|exact qI|exact oY) (h0:bS P t=some m:=by first|exact(rfl:_=some 1)|exact(rfl:_=some 1)|exact(rfl:_=some 2)|exact(rfl:_=some 3)|exact(rfl:_=some 4)|exact(rfl:_=some 5)|exact(rfl:_=some 6)|exact(rfl:_=some 7)|exact(rfl:_=some 8)|exact(rfl:_=some 9)|exact(rfl:_=some 10)|exact(rfl:_=some 11)|exact(rfl:_=some 12)|exact(rfl:_=some 13)|exact(rfl:_=some 14)|exact(rfl:_=some 15)|exact(rfl:_=some 16)) (hr:(c.drop off).take m=r:=by first|(dsimp only[List.drop_succ_cons,List.drop_zero,List.take_succ_cons,List.take_zero]<;>rfl)|rfl) (hd:da P t r=some (.agg r):=by exact rfl) (hm:r.length=m:=by exact rfl) (B:I.put dst (.agg r)=aA:=by first|exact ae rfl _|(dsimp only[Fr.put,List.set_cons_succ,List.set_cons_zero]<;>rfl)):u P ops (⟨some dst,.load t ao,ty,pp,a,g⟩::rest) I U Tr:=
 u.gp (O:=O) (hg:=hg) (ha:=ha) (hj:=hj) (hr:=hr) (hd:=hd) (hm:=hm) (B:=B) (h:=h)
def pD {t:TypeId} (O:Has N S U H) (h:u P ops rest aA U Tr) (hg:au ops I ⟨some dst,.load t ao,ty,pp,a,g⟩=some true:=by first|exact rfl|exact wI) (ha:I.ev ao=y:=by exact ev rfl) (hR:kz x s i 0 y:=by assumption) (hj:H[j]?=some (.ai x s es):=by first|exact aV|exact bf|exact dh|exact d_|exact kS|exact n9|exact qI|exact oY) (hr:es[i]?=some r:=by assumption) (hd:da P t r=some (.agg r):=by exact rfl) (B:I.put dst (.agg r)=aA:=by first|exact ae rfl _|(dsimp only[Fr.put,List.set_cons_succ,List.set_cons_zero]<;>rfl)):u P ops (⟨some dst,.load t ao,ty,pp,a,g⟩::rest) I U Tr:=
 u.Az (O:=O) (hg:=hg) (ha:=ha) (hR:=hR) (hj:=hj) (hr:=hr) (hd:=hd) (B:=B) (h:=h)
variable{z:List D}
def pH {ys:List (List D)} {t1 t2 e:TypeId} {td:TypeDesc} {inf:TypeInfo} {yo:Operand} {aA:D->Fr} (O:Has N S U H) (h:∀x' R,Has N S R (H.set j (.ai x' s (es++ys)))->u P ops rest (aA x') R Tr) (hg:au ops I ⟨some dst,.call ⟨.builtin .append,#[xo,yo],#[t1,t2]⟩,ty,pp,a,g⟩=some true:=by first|exact rfl|exact wI) (hx:I.ev xo=x:=by exact ev rfl) (hy:I.ev yo=y:=by exact ev rfl) (hj:H[j]?=some (.ai x s es):=by first|exact aV|exact bf|exact dh|exact d_|exact kS|exact n9|exact qI|exact oY) (j8:Rows U s y ys:=by first|exact Arg.rows (by assumption) (by assumption)|exact Has.rows (by assumption) aV|exact Has.rows (by assumption) bf|exact Has.rows (by assumption) dh|exact Has.rows (by assumption) d_|exact Has.rows (by assumption) kS|exact Has.rows (by assumption) n9|exact Has.rows (by assumption) qI|exact Has.rows (by assumption) oY) (h1:P.cF t1=some (.slice e):=by exact rfl) (X:P.cF t2=some td:=by exact rfl) (h3:fp td=false:=by exact rfl) (h4:P.info e=some inf:=by exact rfl) (h5:cO P e=some z:=by exact rfl) (h6:inf.size=s:=by exact rfl) (h7:z.length=s:=by exact rfl) (h8:0<inf.bytes/\inf.bytes<=1024:=by exact⟨Nat.le_of_ble_eq_true rfl,Nat.le_of_ble_eq_true rfl⟩) (B:∀x',I.put dst x'=aA x':=by first|exact λ_=>ae rfl _|exact λ_=>by dsimp only[Fr.put,List.set_cons_succ,List.set_cons_zero]<;>rfl) (F:es.length+ys.length<=1073741824:=by first|omega|(simp only[List.length_append,List.length_cons,List.length_nil,List.length_map,List.length_replicate,List.length_set,List.length_reverse]<;>omega)) (hw:S.flr<=N\/refs ys.flatten=0:=by first|exact .inl (by assumption)|exact .inr rfl):u P ops (⟨some dst,.call ⟨.builtin .append,#[xo,yo],#[t1,t2]⟩,ty,pp,a,g⟩::rest) I U Tr:=
 u.oK (O:=O) (hg:=hg) (hx:=hx) (hy:=hy) (hj:=hj) (j8:=j8) (h1:=h1) (X:=X) (h3:=h3) (h4:=h4) (h5:=h5) (h6:=h6) (h7:=h7) (h8:=h8) (B:=B) (F:=F) (hw:=hw) (h:=h)
def pN {t e:TypeId} (h:u P ops rest aA U Tr) (hg:au ops I ⟨some dst,.call ⟨.builtin .len,#[xo],#[t]⟩,ty,pp,a,g⟩=some true:=by first|exact rfl|exact wI) (hx:I.ev xo=x:=by exact ev rfl) (hR:Rows U s x es:=by first|exact Arg.rows (by assumption) (by assumption)|exact Has.rows (by assumption) aV|exact Has.rows (by assumption) bf|exact Has.rows (by assumption) dh|exact Has.rows (by assumption) d_|exact Has.rows (by assumption) kS|exact Has.rows (by assumption) n9|exact Has.rows (by assumption) qI|exact Has.rows (by assumption) oY) (ht:P.cF t=some (.slice e):=by exact rfl) (B:I.put dst (.int .i64 (es.length:Nat))=aA:=by first|exact ae rfl _|(dsimp only[Fr.put,List.set_cons_succ,List.set_cons_zero]<;>rfl)):u P ops (⟨some dst,.call ⟨.builtin .len,#[xo],#[t]⟩,ty,pp,a,g⟩::rest) I U Tr:=
 u.pB (hg:=hg) (hx:=hx) (hR:=hR) (ht:=ht) (B:=B) (h:=h)
def pR {t e:TypeId} {aA:D->Fr} (h:∀p,iW U p r->u P ops rest (aA p) U Tr) (hg:au ops I ⟨some dst,.indexAddr t xo io,ty,pp,a,g⟩=some true:=by first|exact rfl|exact wI) (hx:I.ev xo=x:=by exact ev rfl) (hi:I.ev io=.int kk (i:Nat):=by exact ev rfl) (hR:Rows U s x es:=by first|exact Arg.rows (by assumption) (by assumption)|exact Has.rows (by assumption) aV|exact Has.rows (by assumption) bf|exact Has.rows (by assumption) dh|exact Has.rows (by assumption) d_|exact Has.rows (by assumption) kS|exact Has.rows (by assumption) n9|exact Has.rows (by assumption) qI|exact Has.rows (by assumption) oY) (ht:P.cF t=some (.slice e):=by exact rfl) (hs:bS P e=some s:=by exact rfl) (hr:es[i]?=some r:=by assumption) (B:∀p,I.put dst p=aA p:=by first|exact λ_=>ae rfl _|exact λ_=>by dsimp only[Fr.put,List.set_cons_succ,List.set_cons_zero]<;>rfl):u P ops (⟨some dst,.indexAddr t xo io,ty,pp,a,g⟩::rest) I U Tr:=
 u.KA (hg:=hg) (hx:=hx) (hi:=hi) (hR:=hR) (ht:=ht) (hs:=hs) (hr:=hr) (B:=B) (h:=h)
variable{parts:Array (Nat×Operand)}
def pL {t e:TypeId} {vs:List D} {aA:Nat->Fr} (O:Has N S U H) (h:∀k R,S.bs.length<=k->Has N S R (.ai (.win k 0 0 m s) s (vs.map D.cells)::H)->u P ops rest (aA k) R Tr) (hg:au ops I ⟨some dst,.buildSlice t m parts,ty,pp,a,g⟩=some true:=by first|exact rfl|exact wI) (ht:P.cF t=some (.slice e):=by exact rfl) (hs:bS P e=some s:=by first|exact(rfl:_=some 1)|exact(rfl:_=some 1)|exact(rfl:_=some 2)|exact(rfl:_=some 3)|exact(rfl:_=some 4)|exact(rfl:_=some 5)|exact(rfl:_=some 6)|exact(rfl:_=some 7)|exact(rfl:_=some 8)|exact(rfl:_=some 9)|exact(rfl:_=some 10)|exact(rfl:_=some 11)|exact(rfl:_=some 12)|exact(rfl:_=some 13)|exact(rfl:_=some 14)|exact(rfl:_=some 15)|exact(rfl:_=some 16)) (hz:cO P e=some z:=by exact rfl) (jP:z.length=s:=by exact rfl) (hm:m*s<=16777216:=by exact Nat.le_of_ble_eq_true rfl) (RG:DK I 0 parts.toList vs:=by first|exact⟨rfl,ev rfl,trivial⟩|exact⟨rfl,ev rfl,rfl,ev rfl,trivial⟩|exact⟨rfl,ev rfl,rfl,ev rfl,rfl,ev rfl,trivial⟩|exact⟨rfl,ev rfl,rfl,ev rfl,rfl,ev rfl,rfl,ev rfl,trivial⟩|exact⟨rfl,ev rfl,rfl,ev rfl,rfl,ev rfl,rfl,ev rfl,rfl,ev rfl,trivial⟩) (hvl:vs.length=m:=by exact rfl) (hc:∀v∈vs,v.cells?=some v.cells/\v.cells.length=s:=by intro v hv;simp only[List.mem_cons,List.not_mem_nil,or_false] at hv;first|(subst hv;exact⟨rfl,rfl⟩)|(rcases hv with rfl|rfl<;>exact⟨rfl,rfl⟩)|(rcases hv with rfl|rfl|rfl<;>exact⟨rfl,rfl⟩)|(rcases hv with rfl|rfl|rfl|rfl<;>exact⟨rfl,rfl⟩)|(rcases hv with rfl|rfl|rfl|rfl|rfl<;>exact⟨rfl,rfl⟩)) (B:∀k,I.put dst (.win k 0 0 m s)=aA k:=by first|exact λ_=>ae rfl _|exact λ_=>by dsimp only[Fr.put,List.set_cons_succ,List.set_cons_zero]<;>rfl):u P ops (⟨some dst,.buildSlice t m parts,ty,pp,a,g⟩::rest) I U Tr:=
 u.L4 (O:=O) (hg:=hg) (ht:=ht) (hs:=hs) (hz:=hz) (jP:=jP) (hm:=hm) (RG:=RG) (hvl:=hvl) (hc:=hc) (B:=B) (h:=h)
def Cv (I:Fr):List (Nat×Operand)->List (Nat×D)
 |[]=>[]
 |p::ps=>(p.1,I.ev p.2)::Cv I ps
def E9 (I:Fr):List (Nat×Operand)->Prop
 |[]=>True
 |p::ps=>(I.ev p.2).cells?=some [I.ev p.2]/\E9 I ps
def GF (ps:List (Nat×Nat)) (n:Nat):List (Nat×Operand)->Bool
 |[]=>true
 |p::l=>(match ps[p.1]? with|some (a,b)=>Q7 a p.1 &&Q7 b 1|none=>false) &&Nat.ble (p.1+1) n &&GF ps n l
def Qh {I:Fr}:∀{l:List (Nat×Operand)},E9 I l->Bm I l (Cv I l)
 |[],_=>trivial
 |(i,o)::l,h=>⟨rfl,rfl,h.1,Qh h.2⟩
def Qg {I : Fr} {ps : List (Nat × Nat)} {n : Nat} : ∀ {l : List (Nat × Operand)}, GF ps n l = true -> ∀ q ∈ Cv I l, ps[q.1]? = some (q.1, 1) /\ q.1 < n
 | [], _, q, hq => by cases hq
 | p :: l, h, q, hq => by
  simp only [GF, Bool.and_eq_true] at h
  rcases Q6.1 hq with rfl | hq
  . refine ⟨?_, ζ h.1.2⟩
    have h1 := h.1.1
    split at h1
    . rename_i a b he
      rw [Bool.and_eq_true] at h1
      rw [he, Ξ h1.1, Ξ h1.2]
    . cases h1
  . exact Qg h.2 q hq
def pO {t:TypeId} {ps:List (Nat×Nat)} (h:u P ops rest aA U Tr) (hg:au ops I ⟨some dst,.build t parts,ty,pp,a,g⟩=some true:=by first|exact rfl|exact wI) (hz:cO P t=some z:=by exact rfl) (hu:P.cF t=some (.struct fields):=by exact rfl) (AW:mw P fields.toList=some ps:=by exact rfl) (he:E9 I parts.toList:=by repeat(first|exact trivial|refine And.intro (by first|rfl|exact(fJ.cells (by assumption)).1|assumption|exact Has.dv (by assumption) aV|exact Has.dv (by assumption) bf|exact Has.dv (by assumption) dh|exact Has.dv (by assumption) d_|exact Has.dv (by assumption) kS) ?_)) (A:GF ps z.length parts.toList=true:=by exact rfl) (hcs:(Cv I parts.toList).foldl (λl q=>l.set q.1 q.2) z=cs:=by first|(show List.foldl _ [_] _=_;dsimp only[Cv,List.foldl_cons,List.foldl_nil,Fr.ev,Fr.get,nth,V.look,u2,u1]<;>rfl)|(show List.foldl _ [_,_] _=_;dsimp only[Cv,List.foldl_cons,List.foldl_nil,Fr.ev,Fr.get,nth,V.look,u2,u1]<;>rfl)|(show List.foldl _ [_,_,_] _=_;dsimp only[Cv,List.foldl_cons,List.foldl_nil,Fr.ev,Fr.get,nth,V.look,u2,u1]<;>rfl)|(show List.foldl _ [_,_,_,_] _=_;dsimp only[Cv,List.foldl_cons,List.foldl_nil,Fr.ev,Fr.get,nth,V.look,u2,u1]<;>rfl)|(show List.foldl _ [_,_,_,_,_] _=_;dsimp only[Cv,List.foldl_cons,List.foldl_nil,Fr.ev,Fr.get,nth,V.look,u2,u1]<;>rfl)|(show List.foldl _ [_,_,_,_,_,_] _=_;dsimp only[Cv,List.foldl_cons,List.foldl_nil,Fr.ev,Fr.get,nth,V.look,u2,u1]<;>rfl)|(show List.foldl _ [_,_,_,_,_,_,_] _=_;dsimp only[Cv,List.foldl_cons,List.foldl_nil,Fr.ev,Fr.get,nth,V.look,u2,u1]<;>rfl)|(show List.foldl _ [_,_,_,_,_,_,_,_] _=_;dsimp only[Cv,List.foldl_cons,List.foldl_nil,Fr.ev,Fr.get,nth,V.look,u2,u1]<;>rfl)|(show List.foldl _ [_,_,_,_,_,_,_,_,_] _=_;dsimp only[Cv,List.foldl_cons,List.foldl_nil,Fr.ev,Fr.get,nth,V.look,u2,u1]<;>rfl)|(show List.foldl _ [_,_,_,_,_,_,_,_,_,_] _=_;dsimp only[Cv,List.foldl_cons,List.foldl_nil,Fr.ev,Fr.get,nth,V.look,u2,u1]<;>rfl)|(show List.foldl _ [_,_,_,_,_,_,_,_,_,_,_] _=_;dsimp only[Cv,List.foldl_cons,List.foldl_nil,Fr.ev,Fr.get,nth,V.look,u2,u1]<;>rfl)|(show List.foldl _ [_,_,_,_,_,_,_,_,_,_,_,_] _=_;dsimp only[Cv,List.foldl_cons,List.foldl_nil,Fr.ev,Fr.get,nth,V.look,u2,u1]<;>rfl)|(show List.foldl _ [_,_,_,_,_,_,_,_,_,_,_,_,_] _=_;dsimp only[Cv,List.foldl_cons,List.foldl_nil,Fr.ev,Fr.get,nth,V.look,u2,u1]<;>rfl)) (B:I.put dst (.agg cs)=aA:=by first|exact ae rfl _|(dsimp only[Fr.put,List.set_cons_succ,List.set_cons_zero]<;>rfl)):u P ops (⟨some dst,.build t parts,ty,pp,a,g⟩::rest) I U Tr:=
 u.U5 hg hz hu AW (Qh he) (Qg A) hcs B h
variable{p:Prop}
def M (n:Nat) (k:G') (t:p:=by exact trivial) (h:p->Rb n G' zQ:=by
 intro t;(repeat(apply Rb.s;(focus (intro k;first|refine u.nil ?_;exact k.2|refine qq ?_;exact k.2|refine ah.jy ?_;exact k.2|refine ah.block ?_;exact k.2|refine ah.skip ?_;exact k.2|refine ah.exit ?_;exact k.2|refine qm ?_;exact k.2|refine qs ?_;exact k.2|refine qm ?_ (hg:=wI);exact k.2|refine qs ?_ (hg:=wN);exact k.2|refine qW ?_;exact k.2|refine qW ?_ (hg:=wI);exact k.2|refine qL (by assumption) ?_;exact k.2|refine qL (by assumption) ?_ (hg:=wI);exact k.2|refine qO (by assumption) ?_;exact k.2|refine qO (by assumption) ?_ (hg:=wI);exact k.2|refine qR ?_;exact k.2|refine qR ?_ (hg:=wI);exact k.2|refine u.acT rfl (ev rfl) (ev rfl) (by omega) (by first|exact ae rfl _|(dsimp only[Fr.put,List.set_cons_succ,List.set_cons_zero]<;>rfl)) ?_;exact k.2|refine u.Zg rfl (ev rfl) (ev rfl) (by omega) (by omega) (by first|exact ae rfl _|(dsimp only[Fr.put,List.set_cons_succ,List.set_cons_zero]<;>rfl)) ?_;exact k.2|refine qA ?_;exact k.2|refine qA ?_ (hg:=wI);exact k.2|refine qU ?_;exact k.2|refine qU ?_ (hg:=wI);exact k.2|refine qV ?_;exact k.2|refine qV ?_ (hg:=wI);exact k.2|refine yE ?_;exact k.2|refine yE ?_ (hg:=wI);exact k.2|refine pR ?_;exact k.2|refine pI (by assumption) ?_;exact k.2|refine pF ?_;exact k.2|refine pX ?_;exact k.2|refine pS (by assumption) ?_;exact k.2|refine pT (by assumption) ?_;exact k.2|refine pG (by assumption) ?_;exact k.2|refine pC (by assumption) ?_;exact k.2|refine pD (by assumption) ?_;exact k.2|refine pH (by assumption) ?_;exact k.2|refine qa (by assumption) ?_;exact k.2|refine qa (by assumption) ?_ (hg:=wI);exact k.2|refine qb (by assumption) ?_;exact k.2|refine qb (by assumption) ?_ (hg:=wI);exact k.2|refine pL (vs:=[_]) (by assumption) ?_;exact k.2|refine pL (vs:=[_,_]) (by assumption) ?_;exact k.2|refine pL (vs:=[_,_,_]) (by assumption) ?_;exact k.2|refine pL (vs:=[_,_,_,_]) (by assumption) ?_;exact k.2|refine pO ?_;exact k.2|refine u.ZM (t1:=0) (t2:=0) rfl (ev rfl) (ev rfl) (by first|exact ae rfl _|(dsimp only[Fr.put,List.set_cons_succ,List.set_cons_zero]<;>rfl)) ?_;exact k.2|refine u.Vd (t1:=0) (t2:=0) rfl (ev rfl) (ev rfl) (by first|exact ae rfl _|(dsimp only[Fr.put,List.set_cons_succ,List.set_cons_zero]<;>rfl)) ?_;exact k.2|refine u.B3 rfl rfl rfl (by first|exact ae rfl _|(dsimp only[Fr.put,List.set_cons_succ,List.set_cons_zero]<;>rfl)) ?_;exact k.2|refine u.A5 (by assumption) rfl rfl (by first|exact(rfl:_=some 1)|exact(rfl:_=some 1)|exact(rfl:_=some 2)|exact(rfl:_=some 3)|exact(rfl:_=some 4)|exact(rfl:_=some 5)|exact(rfl:_=some 6)|exact(rfl:_=some 7)|exact(rfl:_=some 8)|exact(rfl:_=some 9)|exact(rfl:_=some 10)|exact(rfl:_=some 11)|exact(rfl:_=some 12)|exact(rfl:_=some 13)|exact(rfl:_=some 14)|exact(rfl:_=some 15)|exact(rfl:_=some 16)) rfl rfl (by first|exact λ_=>ae rfl _|exact λ_=>by dsimp only[Fr.put,List.set_cons_succ,List.set_cons_zero]<;>rfl) ?_;exact k.2|refine qg ?_;exact k.2|refine qg ?_ (hg:=wI);exact k.2|refine qv (by assumption) ?_;exact k.2|refine qv (by assumption) ?_ (hg:=wI);exact k.2|refine qB ?_;exact k.2|refine qC ?_;exact k.2|refine pN ?_;(try simp only[List.length_map,List.length_append,List.length_cons,List.length_nil,List.length_set,List.length_replicate,List.length_reverse]);exact k.2|refine ah.ret ⟨rx,_,_,_,rfl,aH rfl,?_⟩;exact k.2|refine ah.ret ⟨rx,_,_,_,rfl,rfl,?_⟩;exact k.2|refine ah.ret ⟨rx,_,_,rfl,rl (by assumption) (by assumption) rfl,?_⟩;exact k.2|refine ah.cond (v:=true) (by dsimp only[Fr.ev,Fr.get,nth,V.look];first|rfl|exact congrArg D.bool (by assumption)|exact Eq.trans (by assumption) (congrArg D.bool (by assumption))) (λ_=>?_) (λh=>by cases h);exact k.2|refine ah.cond (v:=false) (by dsimp only[Fr.ev,Fr.get,nth,V.look];first|rfl|exact congrArg D.bool (by assumption)|exact Eq.trans (by assumption) (congrArg D.bool (by assumption))) (λh=>by cases h) (λ_=>?_);exact k.2|refine we ?_;refine zG ?_;exact k.2));repeat(first|(apply Rbm;(focus (exact zD));apply Rb.j;intro O)|(with_reducible apply Rb.j;intro O)|(with_reducible apply Rb.i;intro x))))
 first|exact Rb.z _|exact Rb.e (ah.ret ⟨rx,_,rfl,rl (by assumption) (by assumption) rfl⟩)):zQ:=(h t).go k
def zM (t:p) (k:G') (h:p->True/\G'->zQ:=by intro t k;(first|refine Ev.sU rfl t rfl rfl rfl ?_|refine Ev.Yz rfl t rfl rfl rfl ?_|refine Ev.sv rfl t rfl rfl rfl ?_);dsimp only[u3,u4,List.length,Nat.reduceSub,Nat.reduceAdd,w1,w2];obtain⟨aP,hF,O⟩:=ri Y;generalize aw .ro Y=S at aP hF O|-;revert S;exact k.2):zQ:=h t ⟨trivial,k⟩
def zO (t:p) (k:G') (h:p->True/\G'->zQ:=by intro t k;(first|refine Ev.sU rfl t rfl rfl rfl ?_|refine Ev.Yz rfl t rfl rfl rfl ?_|refine Ev.sv rfl t rfl rfl rfl ?_);dsimp only[u3,u4,List.length,Nat.reduceSub,Nat.reduceAdd,w1,w2];have O:=O.HF;have bj:(aw .rw Y).bs=Y.bs:=rfl;revert O;revert bj;generalize aw .rw Y=S2;revert S2;exact k.2):zQ:=h t ⟨trivial,k⟩
def ay (I:Fr) (k:Nat):D:=nth .cT I.loc k
def fG (f:Nat->D):Nat->Nat->List (Nat×D)->List D
 |0,_,_=>[]
 |n+1,k,[]=>f k::fG f n (k+1) []
 |n+1,k,(0,d)::l=>d::fG f n (k+1) l
 |n+1,k,(s+1,d)::l=>f k::fG f n (k+1) ((s,d)::l)
def fL (I:Fr) (n:Nat) (l:List (Nat×D)):Fr:=⟨n,fG (ay I) n 0 l,[]⟩
def zK {G':(Nat->D)->Prop} (k:∀ee,G' ee) (h:(∀ee,G' ee)->zQ:=by intro k;rw[hfr];(try dsimp only[fL,fG,Nat.reduceAdd]);generalize ay I=ee;exact k ee):zQ:=h k
def zd (k:G') (h:True/\G'->zQ:=by intro k;dsimp only[aC,List.foldl,nth,u2,u1];exact k.2):zQ:=h ⟨trivial,k⟩
def y2 {l:List Oper} (t:Nat) {v:Bool} (h1:v=true->u P ops l I U Tr) (X:v=false->u P ops l I U Tr) (hv:I.get t=.bool v:=by exact rfl):u P ops l I U Tr:=u.two t hv h1 X
theorem zs (k:G') (h:True/\G'->zQ:=by intro k;refine ah.ret ⟨rx,_,rfl,dg (by simp) (by simp[aw]) ?_⟩;exact k.2):zQ:=h ⟨trivial,k⟩
end Go.V
