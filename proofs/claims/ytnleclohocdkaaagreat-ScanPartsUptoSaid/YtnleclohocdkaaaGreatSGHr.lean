/-
 Steps that need no word of their own, a run of them at once: 'refine zQ COUNT ?_'. By program (tools/genhr.py).
-/
import Derived.Test.YtnleclohocdkaaaGreatSM2
import Derived.Test.YtnleclohocdkaaaGreatChecked
import Derived.Test.YtnleclohocdkaaaGreatSM4
set_option linter.unusedVariables false
set_option linter.unusedSectionVars false
set_option linter.unusedSimpArgs false
set_option maxRecDepth 100000
namespace Go.V
variable{P:Pv} {ops:Array Oper} {rest:List Oper} {fr ax:Fr} {st st1:St} {Q:Fr→St→Prop} {ty:TypeId} {pp:String} {a:Array Edge} {g:Option (Nat×Bool)} {dst:Nat} {N:Nat} {S:St} {H:List aN} {d:D} {op:Op}
inductive Rn:Nat→Prop→Prop→Prop where
 |z (G:Prop):Rn 0 G G
 |s {n:Nat} {G G1 G':Prop} (h:True∧G1→G) (t:Rn n G' G1):Rn (n+1) G' G
theorem Rn.go {n:Nat} {G G':Prop} (h:Rn n G' G):G'→G:=by
 induction h with
 |z=>exact id
 |s h _ ih=>exact fun k=>h ⟨trivial,ih k⟩
theorem qL {j k aq off:Nat} {ar:Bool} {c:List D} {d:D} {t:TypeId} {ao:Operand} (hH:Has N S st H) (h:EvO P ops rest ax st Q) (hg:av ops fr ⟨some dst,.load t ao,ty,pp,a,g⟩=some true:=by exact rfl) (ha:fr.ev ao=.ptr k aq off:=by exact ev rfl) (hj:H[j]?=some (.box k (.mem aq ar c)):=by first|exact at0|exact at1|exact at2|exact at3|exact at4|exact at5|exact at6|exact at7) (hd:cI P t (c.drop off)=some d:=by exact rfl) (hp:fr.put dst d=ax:=by first|exact put_T rfl _|(dsimp only[Fr.put,List.set_cons_succ,List.set_cons_zero]<;>rfl)):EvO P ops (⟨some dst,.load t ao,ty,pp,a,g⟩::rest) fr st Q:=
 EvO.hload (hH:=hH) (hg:=hg) (ha:=ha) (hj:=hj) (hd:=hd) (hp:=hp) (h:=h)
theorem qO {t:TypeId} {ao:Operand} {x y d:D} {s i o j:Nat} {es:List (List D)} {r:List D} (hH:Has N S st H) (h:EvO P ops rest ax st Q) (hg:av ops fr ⟨some dst,.load t ao,ty,pp,a,g⟩=some true:=by exact rfl) (ha:fr.ev ao=y:=by exact ev rfl) (hR:og x s i o y:=by assumption) (hj:H[j]?=some (.lst x s es):=by first|exact at0|exact at1|exact at2|exact at3|exact at4|exact at5|exact at6|exact at7) (hr:es[i]?=some r:=by assumption) (hd:cI P t (r.drop o)=some d:=by exact rfl) (hp:fr.put dst d=ax:=by first|exact put_T rfl _|(dsimp only[Fr.put,List.set_cons_succ,List.set_cons_zero]<;>rfl)):EvO P ops (⟨some dst,.load t ao,ty,pp,a,g⟩::rest) fr st Q:=
 EvO.oload (hH:=hH) (hg:=hg) (ha:=ha) (hR:=hR) (hj:=hj) (hr:=hr) (hd:=hd) (hp:=hp) (h:=h)
theorem wI {ops:Array Oper} {fr:Fr} {o:Oper} {j t:Nat} {w v:Bool} (h1:o.guard=some (j,w):=by exact rfl) (h2:(ops[j]?).bind (·.dst)=some t:=by exact rfl) (h3:fr.get t=.bool v:=by exact rfl) (h4:v=w:=by assumption):av ops fr o=some true:=wantD_is h1 h2 h3 h4
theorem wN {ops:Array Oper} {fr:Fr} {o:Oper} {j t:Nat} {w v:Bool} (h1:o.guard=some (j,w):=by exact rfl) (h2:(ops[j]?).bind (·.dst)=some t:=by exact rfl) (h3:fr.get t=.bool v:=by exact rfl) (h4:v=!w:=by assumption):av ops fr o=some false:=wantD_not h1 h2 h3 h4
theorem qW {t:TypeId} {xo:Operand} {k aq off o f fo m:Nat} {fields:Array Field} (h:EvO P ops rest ax st Q) (hg:av ops fr ⟨some dst,.fieldAddr t xo f,ty,pp,a,g⟩=some true:=by exact rfl) (hx:fr.ev xo=.ptr k aq off:=by exact ev rfl) (ht:P.bI t=some (.struct fields):=by exact rfl) (hf:jI P fields f=some (fo,some (m+1)):=by exact rfl) (ho:off+fo=o:=by first|exact(rfl:_=0)|exact(rfl:_=1)|exact(rfl:_=2)|exact(rfl:_=3)|exact(rfl:_=4)|exact(rfl:_=5)|exact(rfl:_=6)|exact(rfl:_=7)|exact(rfl:_=8)|exact(rfl:_=9)|exact(rfl:_=10)|exact(rfl:_=11)|exact(rfl:_=12)|exact(rfl:_=13)|exact(rfl:_=14)|exact(rfl:_=15)|exact(rfl:_=16)|exact(rfl:_=17)|exact(rfl:_=18)|exact(rfl:_=19)) (hp:fr.put dst (.ptr k aq o)=ax:=by first|exact put_T rfl _|(dsimp only[Fr.put,List.set_cons_succ,List.set_cons_zero]<;>rfl)):EvO P ops (⟨some dst,.fieldAddr t xo f,ty,pp,a,g⟩::rest) fr st Q:=
 EvO.Cg (hg:=hg) (hx:=hx) (ht:=ht) (hf:=hf) (ho:=ho) (hp:=hp) (h:=h)
theorem qU {c x y:Operand} {v:Bool} (h:EvO P ops rest ax st Q) (hg:av ops fr ⟨some dst,.pick c x y,ty,pp,a,g⟩=some true:=by exact rfl) (hc:fr.ev c=.bool v:=by exact rfl) (hv:v=true:=by assumption) (hp:fr.put dst (fr.ev x)=ax:=by first|exact put_T rfl _|(dsimp only[Fr.put,List.set_cons_succ,List.set_cons_zero]<;>rfl)):EvO P ops (⟨some dst,.pick c x y,ty,pp,a,g⟩::rest) fr st Q:=
 EvO.pickT (hg:=hg) (hc:=hc) (hv:=hv) (hp:=hp) (h:=h)
theorem qV {c x y:Operand} {v:Bool} (h:EvO P ops rest ax st Q) (hg:av ops fr ⟨some dst,.pick c x y,ty,pp,a,g⟩=some true:=by exact rfl) (hc:fr.ev c=.bool v:=by exact rfl) (hv:v=false:=by assumption) (hp:fr.put dst (fr.ev y)=ax:=by first|exact put_T rfl _|(dsimp only[Fr.put,List.set_cons_succ,List.set_cons_zero]<;>rfl)):EvO P ops (⟨some dst,.pick c x y,ty,pp,a,g⟩::rest) fr st Q:=
 EvO.pickF (hg:=hg) (hc:=hc) (hv:=hv) (hp:=hp) (h:=h)
theorem zQ (n:Nat) {G G':Prop} (k:G') (h:Rn n G' G:=by
  repeat(apply Rn.s;focus (intro k;first
   |refine EvO.nil ?_;exact k.2
   |refine qq ?_;exact k.2
   |refine EvC.reg ?_;exact k.2
   |refine EvC.block ?_;exact k.2
   |refine EvC.skip ?_;exact k.2
   |refine EvC.exit ?_;exact k.2
   |refine qm ?_;exact k.2
   |refine qs ?_;exact k.2
   |refine qm ?_ (hg:=wI);exact k.2
   |refine qs ?_ (hg:=wN);exact k.2
   |refine qW ?_;exact k.2
   |refine qW ?_ (hg:=wI);exact k.2
   |refine qL (by assumption) ?_;exact k.2
   |refine qL (by assumption) ?_ (hg:=wI);exact k.2
   |refine qO (by assumption) ?_;exact k.2
   |refine qO (by assumption) ?_ (hg:=wI);exact k.2
   |refine qR ?_;exact k.2
   |refine qR ?_ (hg:=wI);exact k.2
   |refine qA ?_;exact k.2
   |refine qA ?_ (hg:=wI);exact k.2
   |refine qU ?_;exact k.2
   |refine qU ?_ (hg:=wI);exact k.2
   |refine qV ?_;exact k.2
   |refine qV ?_ (hg:=wI);exact k.2
   |refine qg ?_;exact k.2
   |refine qg ?_ (hg:=wI);exact k.2
   |refine qB ?_;exact k.2
   |refine qC ?_;exact k.2
   ))
  exact Rn.z _):G:=h.go k
theorem zU {G G':Prop} (k:G') (h:True∧G'→G:=by intro k;(repeat refine qq ?_);refine EvC.reg ?_;exact k.2):G:=h ⟨trivial,k⟩
theorem zX {G G':Prop} (k:G') (h:True∧G'→G:=by intro k;(repeat(first|refine xT ?_|refine xL ?_|refine xN ?_|refine xo ?_|refine xp ?_));exact k.2):G:=h ⟨trivial,k⟩
theorem zY {G G':Prop} (k:G') (h:True∧G'→G:=by intro k;(repeat(first|refine xT ?_|refine xL ?_|refine xN ?_|refine xo ?_|refine xp ?_|simp(disch:=omega) only[decide_eq_true,decide_eq_false,F',Is,F_,Iq]));exact k.2):G:=h ⟨trivial,k⟩
theorem zW {G G':Prop} (k:G') (h:True∧G'→G:=by intro k;(first|refine xT ?_|refine xL ?_|refine xN ?_|refine xo ?_|refine xp ?_);exact k.2):G:=h ⟨trivial,k⟩
theorem zN {G G':Prop} (k:G') (h:True∧G'→G:=by intro k;refine EvO.nil ?_;(try dsimp only[Fr.putO,Fr.put,Fr.clean,Fr.ev,Fr.get,nth,V.look,u1,u2,v1,v2,v3,v4,v5,v6,v7,List.length,u3,u4,Nat.reduceSub,Nat.reduceAdd,List.map]);exact k.2):G:=h ⟨trivial,k⟩
theorem zR {G G':Prop} (k:G') (h:True∧G'→G:=by intro k;(repeat refine qq ?_);refine EvC.reg ?_;(repeat(first|refine xT ?_|refine xL ?_|refine xN ?_|refine xo ?_|refine xp ?_));refine EvO.nil ?_;(try dsimp only[Fr.putO,Fr.put,Fr.clean,Fr.ev,Fr.get,nth,V.look,u1,u2,v1,v2,v3,v4,v5,v6,v7,List.length,u3,u4,Nat.reduceSub,Nat.reduceAdd,List.map]);exact k.2):G:=h ⟨trivial,k⟩
theorem zE {G G':Prop} (k:G') (h:True∧G'→G:=by intro k;dsimp only[u3,u4,List.length,Nat.reduceSub,Nat.reduceAdd,w1,w2];exact k.2):G:=h ⟨trivial,k⟩
theorem zF {G G':Prop} (k:G') (h:True∧G'→G:=by intro k;dsimp only[Fr.putO,Fr.put,Fr.clean,Fr.ev,Fr.get,nth,V.look,u1,u2,v1,v2,v3,v4,v5,v6,v7,List.length,u3,u4,Nat.reduceSub,Nat.reduceAdd,List.map];exact k.2):G:=h ⟨trivial,k⟩
theorem zG {G G':Prop} (k:G') (h:True∧G'→G:=by intro k;dsimp only[setW,List.foldl,nth,u2,u1];dsimp only[Fr.putO,Fr.put,Fr.clean,Fr.ev,Fr.get,nth,V.look,u1,u2,v1,v2,v3,v4,v5,v6,v7,List.length,u3,u4,Nat.reduceSub,Nat.reduceAdd,List.map];exact k.2):G:=h ⟨trivial,k⟩
theorem zP {dy:Dy} {c:Operand} {a b:Code} {p:Prop} {hd:Decidable p} {Q:Out→Fr→St→Prop} (h1:p→EvC P dy a fr st Q) (h2:¬p→EvC P dy b fr st Q) (hv:fr.ev c=.bool (@decide p hd):=by rfl):EvC P dy (.cond c a b) fr st Q:=EvC.cond hv (fun h=>h1 (of_decide_eq_true h)) (fun h=>h2 (of_decide_eq_false h))
theorem zI {dy:Dy} {c:Operand} {a b:Code} {x y:Int} {Q:Out→Fr→St→Prop} (h1:x=y→EvC P dy a fr st Q) (h2:¬x=y→EvC P dy b fr st Q) (hv:fr.ev c=.bool (x==y):=by rfl):EvC P dy (.cond c a b) fr st Q:=EvC.cond hv (fun h=>h1 (eq_of_beq h)) (fun h=>h2 (ne_of_beq_false h))
end Go.V
namespace Go.V
variable{N:Nat} {S st:St} {H:List aN}
theorem Has.bT {s0:St} (h:Has N S s0 H):Has N (enterSt .rw s0) (enterSt .rw s0) H:=
 ⟨Ex.refl _ _,Nat.le_trans h.hN h.ex.len,by show s0.ro≤N;rw[h.ex.ro];exact h.cZ,fun i e hi=>⟨e.loc (st:=s0) (ab:=enterSt .rw s0) (fun k _=>rfl) (h.ok i e hi).1,(h.ok i e hi).2⟩,h.dis⟩
theorem ae {kn:Bool} {s0 st:St} {d d':D} (hd:aX st s0.bs.length kn 16 d=some d'):bU .rw kn s0 st d=some (d',⟨st.bs.take s0.bs.length,s0.flr,s0.ro⟩):=by
 simp only[bU,hd]
theorem Has.tL {s0 S2 st2:St} {H2:List aN} (h:Has N S s0 H) (hS:S2.bs=s0.bs) (h2:Has N S2 st2 H2) (hk:∀(i:Nat) e,H2[i]?=some e→∃e',H[i]?=some e'∧∀k,e.K k→e'.K k):Has N S ⟨st2.bs.take s0.bs.length,s0.flr,s0.ro⟩ H2:=by
 have hL:s0.bs.length≤st2.bs.length:=by have:=h2.ex.len;rw[hS] at this;exact this
 have V5:=h.ex.len;have V7:=h.hN;refine⟨⟨fun k iR=>?_,?_,h.ex.flr,h.ex.ro⟩,h.hN,h.cZ,fun i e hi=>?_,h2.dis⟩
 ·show(st2.bs.take s0.bs.length)[k]?=_;rw[List.getElem?_take,if_pos (by omega),h2.ex.low k iR,hS];exact h.ex.low k iR
 ·show _≤(st2.bs.take s0.bs.length).length;rw[List.length_take];omega
 ·obtain⟨e',n9,hkk⟩:=hk i e hi;have h3:=(h.ok i e' n9).2;refine⟨e.loc (fun k iR=>?_) (h2.ok i e hi).1,fun k iR=>⟨(h3 k (hkk k iR)).1,?_⟩⟩
  ·show(st2.bs.take s0.bs.length)[k]?=_;rw[List.getElem?_take,if_pos (h3 k (hkk k iR)).2]
  ·show k<(st2.bs.take s0.bs.length).length;rw[List.length_take];have:=(h3 k (hkk k iR)).2;omega
theorem Has.ak {s0 S2 st2:St} {k:Nat} {b b':fV} (h:Has N S s0 (.box k b::H)) (hS:S2.bs=s0.bs) (h2:Has N S2 st2 (.box k b'::H)):Has N S ⟨st2.bs.take s0.bs.length,s0.flr,s0.ro⟩ (.box k b'::H):=by
 refine h.tL hS h2 fun i e hi=>?_
 cases i with
 |zero=>simp only[List.getElem?_cons_zero,Option.some.injEq] at hi;subst hi;exact⟨_,rfl,fun k hk=>hk⟩
 |succ i=>exact⟨e,hi,fun k hk=>hk⟩
theorem Has.Gc {P:Pv} {j:Nat} {x y x':D} {s:Nat} {es ys:List (List D)} {ab:St} (hH:Has N S st H) (hj:H[j]?=some (.lst x s es)) (hy:Rows st s y ys) {t1 t2 e:TypeId} {td:TypeDesc} {inf:TypeInfo} {z:List D}
  (h1:P.bI t1=some (.slice e)) (h2:P.bI t2=some td) (h3:fm td=false) (h4:P.info e=some inf) (h5:cA P e=some z)
  (q1:aT P .append [t1,t2] [x,y] st=some (x',ab)):∀k,x'.ref=k+1→x.ref=k+1∨S.bs.length≤k:=by
 have hl:=hH.ex.len;have je:=hy.row
 have CO:∀e∈ys,e.length=s:=fun e he=>by
  obtain⟨i,hi⟩:=List.getElem?_of_mem he;exact hy.tZ i e hi
 have hown:=hH.own hj;simp only[aT,gd,h1,h2,h3,Bool.false_eq_true,if_false,h4,h5,je,Option.bind_some] at q1
 split at q1
 ·cases q1
 ·cases hown with
  |nul=>
   simp only at q1
   split at q1
   ·cases q1;exact fun k hk=>.inl hk
   ·split at q1
    ·cases q1;exact fun k hk=>.inr (by simp only[D.ref] at hk;omega)
    ·cases q1
  |win k aq off es c hm hl hc he=>
   simp only[St.mem_of hm] at q1
   split at q1
   ·cases q1
   ·split at q1
    ·cases q1;exact fun k hk=>.inl hk
    ·split at q1
     ·cases q1;exact fun n hn=>.inl (by simp only[D.ref] at hn⊢;exact hn)
     ·cases q1
theorem EvO.pS {P:Pv} {ops:Array Oper} {rest:List Oper} {fr:Fr} {Q:Fr→St→Prop} {ty:TypeId} {pp:String} {a:Array Edge} {g:Option (Nat×Bool)} {dst:Nat} {j:Nat} {x y:D} {s:Nat} {es ys:List (List D)} {t1 t2 e:TypeId} {td:TypeDesc} {inf:TypeInfo} {z:List D} {xo yo:Operand} {ax:D→Fr} (hH:Has N S st H) (hg:av ops fr ⟨some dst,.call ⟨.builtin .append,#[xo,yo],#[t1,t2]⟩,ty,pp,a,g⟩=some true)
  (hx:fr.ev xo=x) (hy:fr.ev yo=y) (hj:H[j]?=some (.lst x s es)) (jh:Rows st s y ys)
  (h1:P.bI t1=some (.slice e)) (h2:P.bI t2=some td) (h3:fm td=false) (h4:P.info e=some inf) (h5:cA P e=some z) (h6:inf.size=s) (h7:z.length=s) (h8:0<inf.bytes∧inf.bytes≤1024)
  (hp:∀x',fr.put dst x'=ax x') (hb:es.length+ys.length≤1073741824) (hw:S.flr≤N∨refs ys.flatten=0) (h0:∀k,x.ref=k+1→S.bs.length≤k)
  (h:∀x' ab,(∀k,x'.ref=k+1→S.bs.length≤k)→Has N S ab (H.set j (.lst x' s (es++ys)))→EvO P ops rest (ax x') ab Q):
  EvO P ops (⟨some dst,.call ⟨.builtin .append,#[xo,yo],#[t1,t2]⟩,ty,pp,a,g⟩::rest) fr st Q:=by
 obtain⟨x',ab,q1,q2,q3⟩:=hH.append hj jh h1 h2 h3 h4 h5 h6 h7 h8 hb hw;have UH:=hH.Gc hj jh h1 h2 h3 h4 h5 q1;refine EvO.go hg rfl (d:=x') (st1:=ab) ?_ (hp _) (h x' ab (fun k hk=>?_) q2)
 ·simp only[cG,List.map_cons,List.map_nil,hx,hy];exact q1
 ·rcases UH k hk with h|h
  ·exact h0 k h
  ·exact h
def oa:D→D
 | .nul=>.sl []
 |d=>d
def nv (d:D):Bool:=match d with| .nul=>true|d=>bC d
theorem z6 {st:St} {N n:Nat} {d:D} (h:nv d=true):dF st N (n+1) d=some (oa d):=by
 cases d<;>simp[nv,bC] at h<;>rfl
theorem su {st:St} {N n:Nat}:∀{l:List D},(∀d∈l,nv d=true)→gF (dF st N (n+1)) l=some (l.map oa)
 |[],_=>rfl
 |d::l,h=>by simp only[gF,z6 (h d (List.mem_cons_self ..)),su (fun d hd=>h d (List.mem_cons_of_mem _ hd)),List.map_cons]
theorem Has.zw {L j:Nat} {x:D} {s:Nat} {es:List (List D)} (hH:Has N S st H) (hj:H[j]?=some (.lst x s es)) (hx:∀k,x.ref=k+1→L≤k) (hp:∀e∈es,∀d∈e,nv d=true) {n:Nat} (hn:3≤n):aX st L false n x=some (.sl ((es.map (·.map oa)).map (iV s))):=by
 obtain⟨n,rfl⟩:∃m,n=m+3:=⟨n-3,by omega⟩
 have hown:=hH.own hj
 cases hown with
 |nul=>rfl
 |win k aq off es c hm hl hc he=>
  have hk:=hx k (by simp only[D.ref]);show(if k<L then some (D.win k aq off es.length s) else dF st L (n+2) (.win k aq off es.length s))=_;rw[if_neg (show¬k<L by omega),dF];simp only[if_neg (show¬k<L by omega),St.mem_of hm,Option.bind_some]
  rw[if_pos hl,hc,su (fun d hd=>by
   obtain⟨e,n9,zn⟩:=List.mem_flatten.1 hd
   exact hp e n9 d zn)]
  have h1:(es.map (·.map oa)).flatten=es.flatten.map oa:=by rw[List.map_flatten]
  have h2:(es.map (·.map oa)).length=es.length:=List.length_map _
  have h3:∀e∈es.map (·.map oa),e.length=s:=by
   intro e n9;obtain⟨e0,h0,rfl⟩:=List.mem_map.1 n9;rw[List.length_map];exact he e0 h0
  simp only[Option.map_some];rw[←h1,←h2,ft h3]
theorem EvO.Mg {P:Pv} {ops:Array Oper} {rest:List Oper} {fr ax:Fr} {Q:Fr→St→Prop} {ty:TypeId} {pp:String} {a:Array Edge} {g:Option (Nat×Bool)} {dst:Nat} {t:TypeId} {xo io:Operand} {b:List UInt8} {kk:IntKind} {i:Nat} {c:UInt8} (hg:av ops fr ⟨some dst,.index t xo io,ty,pp,a,g⟩=some true) (hx:fr.ev xo=.str b) (hi:fr.ev io=.int kk (i:Nat)) (ht:P.bI t=some .string) (hc:b[i]?=some c) (hp:fr.put dst (.int .u8 (c.toNat:Nat))=ax)
  (h:EvO P ops rest ax st Q):EvO P ops (⟨some dst,.index t xo io,ty,pp,a,g⟩::rest) fr st Q:=by
 refine EvO.go hg rfl (d:=.int .u8 (c.toNat:Nat)) (st1:=st) ?_ hp h;simp only[cG,hx,hi,pF,ht];rw[if_pos (by omega),Int.toNat_natCast,hc];rfl
end Go.V
namespace Go.V
variable{N:Nat} {S st:St} {H:List aN}
theorem bQ.at_ {α β:Type} {R:α→β→Prop}:∀{l:List α} {m:List β} {i:Nat} {b:β},bQ R l m→m[i]?=some b→∃a,l[i]?=some a∧R a b
 |_,_,_,_,.nil,h=>by simp at h
 |_,_,0,_,.cons a t,h=>by simp only[List.getElem?_cons_zero,Option.some.injEq] at h;subst h;exact⟨_,rfl,a⟩
 |_,_,i+1,_,.cons a t,h=>by simp only[List.getElem?_cons_succ] at h⊢;exact t.at_ h
theorem bQ.set {α β:Type} {R:α→β→Prop} {a:α} {b:β} (r:R a b):∀{l:List α} {m:List β} (i:Nat),bQ R l m→bQ R (l.set i a) (m.set i b)
 |_,_,_,.nil=>.nil
 |_,_,0,.cons _ t=>.cons r t
 |_,_,i+1,.cons h t=>.cons h (t.set r i)
theorem bQ.setMany {R:D→D→Prop}:∀{xs ys:List D} {c d:List D} (o:Nat),bQ R xs ys→bQ R c d→bQ R (setMany c o xs) (setMany d o ys)
 |_,_,_,_,_,.nil,h=>h
 |_,_,_,_,o,.cons r t,h=>by simp only[Go.V.setMany];exact t.setMany (o+1) (h.set r o)
theorem bQ.same {R:D→D→Prop}:∀{l:List D},(∀d∈l,R d d)→bQ R l l
 |[],_=>.nil
 |d::l,h=>.cons (h d (List.mem_cons_self ..)) (bQ.same fun x hx=>h x (List.mem_cons_of_mem _ hx))
theorem Has.Ls {j:Nat} {x:D} {s:Nat} {ks:Nat→Prop} {vs:List (List D)} (hH:Has N S st H) (hj:H[j]?=some (.deep ks x s vs)):∃es,Rows st s x es∧es.length=vs.length:=by
 obtain⟨⟨es,h1,h2⟩,_⟩:=(hH.ok j _ hj).1;exact⟨es,h1.rows,h2.len⟩
theorem Has.PI {j k aq off len s:Nat} {ks:Nat→Prop} {vs:List (List D)} {i o:Nat} {v cs:List D} (h:Has N S st H) (hj:H[j]?=some (.deep ks (.win k aq off len s) s vs)) (hi:vs[i]?=some v) (hl:o+cs.length≤s) (hp:∀d∈cs,bC d=true) (hw:S.flr≤N∨refs cs=0):
  ∃ab,st.wr k aq (off+i*s+o) cs=some ab∧Has N S ab (H.set j (.deep ks (.win k aq off len s) s (vs.set i (setMany v o cs)))):=by
 obtain⟨⟨es,kK,A5⟩,he3⟩:=(h.ok j _ hj).1;have hK:=(h.ok j _ hj).2;obtain⟨e,T1,hev⟩:=A5.at_ hi
 have jE:Has N S st [.lst (.win k aq off len s) s es]:=by
  refine⟨h.ex,h.hN,h.cZ,fun i e hi=>?_,fun i i' a b hii ha hb k rr gH=>?_⟩
  ·cases i with
   |zero=>simp only[List.getElem?_cons_zero,Option.some.injEq] at hi;subst hi;exact⟨kK,fun k hk=>hK k (.inl hk)⟩
   |succ i=>simp at hi
  ·cases i with
   |zero=>cases i' with
    |zero=>exact hii rfl
    |succ i'=>simp at hb
   |succ i=>simp at ha
 obtain⟨ab,q1,q2⟩:=jE.yV (j:=0) at0 T1 hl hw;refine⟨ab,q1,?_⟩;have hown:=q2.own (j:=0) at0
 have Oi:(∀n,n≠k→ab.bs[n]?=st.bs[n]?)∧st.bs.length=ab.bs.length∧ab.flr=st.flr∧ab.ro=st.ro:=by
  unfold St.wr at q1
  split at q1
  ·split at q1
   ·cases q1;exact⟨fun n hn=>by simp only;rw[List.getElem?_set_ne (fun e=>hn e.symm)],by simp,rfl,rfl⟩
   ·cases q1
  ·cases q1
 obtain⟨c1,c2,c3,c4⟩:=Oi;have hkk:=hK k (.inl (by simp only[D.ref]));have hne:∀n,ks n→n≠k:=fun n hn e=>he3 k (by simp only[D.ref]) (e▸hn);have vM:∀n,ks n→ab.bs[n]?=st.bs[n]?:=fun n hn=>c1 n (hne n hn);refine h.Bs hj (fun n hn hnot=>c1 n fun e=>hnot (.inl (by simp only[D.ref];omega))) (Nat.le_of_eq c2) c3 c4 ⟨⟨_,hown,?_⟩,he3⟩ (fun n hn=>.inl hn) fun n hn=>?_
 ·refine bQ.set ?_ i (A5.mono fun a b=>bQ.mono fun c d=>dI.move vM);exact(bQ.same fun d hd=>.plain d (hp d hd)).setMany o (hev.mono fun c d=>dI.move vM)
 ·rw[←c2];exact(hK n hn).2
variable{P:Pv} {ops:Array Oper} {rest:List Oper} {fr ax:Fr} {Q:Fr→St→Prop} {ty:TypeId} {pp:String} {a:Array Edge} {g:Option (Nat×Bool)} {dst:Nat}
theorem EvO.Bh {t e:TypeId} {xo:Operand} {x:D} {s j:Nat} {ks:Nat→Prop} {vs:List (List D)} (hH:Has N S st H) (hg:av ops fr ⟨some dst,.call ⟨.builtin .len,#[xo],#[t]⟩,ty,pp,a,g⟩=some true) (hx:fr.ev xo=x) (hj:H[j]?=some (.deep ks x s vs)) (ht:P.bI t=some (.slice e)) (hp:fr.put dst (.int .i64 (vs.length:Nat))=ax)
  (h:EvO P ops rest ax st Q):EvO P ops (⟨some dst,.call ⟨.builtin .len,#[xo],#[t]⟩,ty,pp,a,g⟩::rest) fr st Q:=by
 obtain⟨es,h1,h2⟩:=hH.Ls hj;exact EvO.rlen hg hx h1 ht (by rw[h2];exact hp) h
theorem EvO.DK {t e:TypeId} {xo io:Operand} {x:D} {s i j:Nat} {kk:IntKind} {ks:Nat→Prop} {vs:List (List D)} {ax:D→Fr} (hH:Has N S st H) (hg:av ops fr ⟨some dst,.indexAddr t xo io,ty,pp,a,g⟩=some true) (hx:fr.ev xo=x) (hi:fr.ev io=.int kk (i:Nat)) (hj:H[j]?=some (.deep ks x s vs)) (ht:P.bI t=some (.slice e)) (hs:bt P e=some s) (hr:i<vs.length) (hp:∀p,fr.put dst p=ax p)
  (h:∀p,og x s i 0 p→EvO P ops rest (ax p) st Q):EvO P ops (⟨some dst,.indexAddr t xo io,ty,pp,a,g⟩::rest) fr st Q:=by
 obtain⟨⟨es,kK,A5⟩,he3⟩:=(hH.ok j _ hj).1;have hlen:=A5.len
 cases kK with
 |nul=>simp at hlen;omega
 |win k aq off es c hm hl hc he=>
  refine EvO.go hg rfl (d:=.ptr k aq (off+i*s)) (st1:=st) ?_ (hp _) (h _ ⟨k,aq,off,_,rfl,rfl⟩);simp only[cG,hx,hi,bk,ht,hs,Option.bind_some,St.mem_of hm,Option.isSome_some];rw[if_pos ⟨trivial,by omega,by omega,trivial⟩];rfl
theorem EvO.qw {t:TypeId} {ao vo:Operand} {x y v:D} {s i o j:Nat} {ks:Nat→Prop} {vs:List (List D)} {r cs:List D} (hH:Has N S st H) (hg:av ops fr ⟨none,.store t ao vo,ty,pp,a,g⟩=some true) (ha:fr.ev ao=y) (hv:fr.ev vo=v) (hR:og x s i o y) (gM:v.cells?=some cs) (hs:bt P t=some cs.length) (hj:H[j]?=some (.deep ks x s vs)) (hr:vs[i]?=some r) (hl:o+cs.length≤s) (hq:∀d∈cs,bC d=true) (hw:S.flr≤N∨refs cs=0)
  (h:∀ab,Has N S ab (H.set j (.deep ks x s (vs.set i (setMany r o cs))))→EvO P ops rest fr ab Q):EvO P ops (⟨none,.store t ao vo,ty,pp,a,g⟩::rest) fr st Q:=by
 obtain⟨k,aq,off,len,rfl,rfl⟩:=hR;obtain⟨ab,h1,h2⟩:=hH.PI hj hr hl hq hw;refine EvO.N hg rfl (d:=.tup []) (st1:=ab) ?_ (h _ h2);simp only[cG,ha,hv,jk,gM,hs,if_pos trivial,h1];rfl
theorem EvC.Ii {dy:Dy} {i:Nat} {l:List Oper} {d n loc tmp st} {Q:Out→Fr→St→Prop} (ws:List Nat) (F:(Nat→D)→Prop)
  (h1:EvO P l.toArray l ⟨n,loc,[]⟩ st fun ax ab=>∃f tmp,ax=⟨n,setW loc ws f,tmp⟩∧ab=st∧F f) (h2:∀f tmp,F f→Q .next ⟨n,setW loc ws f,tmp⟩ st) (h0:fg i dy=[]:=by rfl):EvC P dy (.region i l.toArray d) ⟨n,loc,tmp⟩ st Q:=by
 refine EvC.reg ?_ h0;unfold EvO at h1⊢;obtain⟨ax,ab,h3,f,GK,rfl,rfl,h4⟩:=h1;exact⟨_,_,h3,h2 _ _ h4⟩
theorem jy {n:Nat} {L loc:List D} {tc:List (Nat×D)} {ws:List Nat} {F:(Nat→D)→Prop} {st:St} (h:L=setW loc ws (fun k=>nth .junk L k)) (h2:F (fun k=>nth .junk L k)):∃(f:Nat→D) (tmp:List (Nat×D)),(⟨n,L,tc⟩:Fr)=⟨n,setW loc ws f,tmp⟩∧st=st∧F f:=⟨_,tc,by rw[←h],rfl,h2⟩
theorem EvO.Jo {t1 t2:TypeId} {xo yo:Operand} {x y z:Int} (hg:av ops fr ⟨some dst,.call ⟨.builtin .min,#[xo,yo],#[t1,t2]⟩,ty,pp,a,g⟩=some true) (hx:fr.ev xo=.int .i64 x) (hy:fr.ev yo=.int .i64 y) (hz:min x y=z) (hp:fr.put dst (.int .i64 z)=ax) (h:EvO P ops rest ax st Q):EvO P ops (⟨some dst,.call ⟨.builtin .min,#[xo,yo],#[t1,t2]⟩,ty,pp,a,g⟩::rest) fr st Q:=
 EvO.Fe (t1:=t1) (t2:=t2) hg hx hy (by rw[hz];exact hp) h
theorem Has.vD {N:Nat} {S s0 S2 st2:St} {H:List aN} {x:D} {s:Nat} {es PF:List (List D)} (h:Has N S s0 (.lst x s es::H)) (hS:S2.bs=s0.bs) (h2:Has N S2 st2 (.lst x s PF::H)):Has N S ⟨st2.bs.take s0.bs.length,s0.flr,s0.ro⟩ (.lst x s PF::H):=by
 refine h.tL hS h2 fun i e hi=>?_
 cases i with
 |zero=>simp only[List.getElem?_cons_zero,Option.some.injEq] at hi;subst hi;exact⟨_,rfl,fun k hk=>hk⟩
 |succ i=>exact⟨e,hi,fun k hk=>hk⟩
theorem Has.vE {N:Nat} {S s0 S2 st2:St} {H:List aN} {k:Nat} {b b':fV} {ks:Nat→Prop} {x:D} {s:Nat} {vs I8:List (List D)} (h:Has N S s0 (.box k b::.deep ks x s vs::H)) (hS:S2.bs=s0.bs) (h2:Has N S2 st2 (.box k b'::.deep ks x s I8::H)):Has N S ⟨st2.bs.take s0.bs.length,s0.flr,s0.ro⟩ (.box k b'::.deep ks x s I8::H):=by
 refine h.tL hS h2 fun i e hi=>?_
 match i with
 |0=>simp only[List.getElem?_cons_zero,Option.some.injEq] at hi;subst hi;exact⟨_,rfl,fun k hk=>hk⟩
 |1=>simp only[List.getElem?_cons_succ,List.getElem?_cons_zero,Option.some.injEq] at hi;subst hi;exact⟨_,rfl,fun k hk=>hk⟩
 |i+2=>exact⟨e,hi,fun k hk=>hk⟩
theorem Has.ES {N:Nat} {S st:St} {H:List aN} {a b c d e:aN} (h:Has N S st (a::b::c::d::e::H)):Has N S st (b::c::d::e::a::H):=by
 refine h.sub (fun i=>if i=4 then 0 else if i<4 then i+1 else i) (fun i j hij=>?_) (fun i x hi=>?_)
 ·(try simp only at hij)
  split at hij<;>split at hij<;>(try split at hij)<;>(try split at hij)<;>omega
 ·match i,hi with
  |0,hi=>exact hi
  |1,hi=>exact hi
  |2,hi=>exact hi
  |3,hi=>exact hi
  |4,hi=>exact hi
  |i+5,hi=>
   have h1:¬(i+5=4):=by omega
   have h2:¬(i+5<4):=by omega
   simp only[if_neg h1,if_neg h2];exact hi
theorem Has.jV {fr:Fr} {a k aq off j u u2:Nat} {t:TypeId} {ar:Bool} {c:List D} {d e e2:D} (hH:Has N S st H) (ha:fr.get a=.ptr k aq off) (hj:H[j]?=some (.box k (.mem aq ar c))) (hd:cI P t (c.drop off)=some d) (he:fr.get u=e) (A5:fr.get u2=e2):iH P fr st [.cell a t,.tmp u,.tmp u2]=some [d,e,e2]:=by
 simp only[iH,eW,ha,St.mem_of (hH.at hj),Option.bind_some,hd,Option.map_some,he,A5]
theorem EvC.mF {dy:Dy} {c1 c2:Code} {fr:Fr} {st:St} {Q:Out→Fr→St→Prop} (M:Fr→St→Prop) (h1:EvC P dy c1 fr st (SeqQ P dy c2 (D' M Q))) (h2:∀ax ab,M ax ab→Q .next ax ab):EvC P dy c1 fr st (SeqQ P dy c2 Q):=
 h1.mono fun o ax ab h=>by
  cases o with
  |next=>exact EvC.merge M h h2
  |exit i=>exact h
  |ret=>exact h
end Go.V
namespace Go.V
variable{N:Nat} {S st:St} {H:List aN}
theorem Has.e5 (A B:List aN) (h:Has N S st (A++(B++H))):Has N S st (B++(A++H)):=by
 refine h.sub (fun i=>if i<B.length then i+A.length else if i<B.length+A.length then i-B.length else i) (fun a b e=>?_) fun i e hi=>?_
 ·have e':(if a<B.length then a+A.length else if a<B.length+A.length then a-B.length else a)=(if b<B.length then b+A.length else if b<B.length+A.length then b-B.length else b):=e
  repeat' split at e'
  all_goals omega
 ·show(A++(B++H))[if i<B.length then i+A.length else if i<B.length+A.length then i-B.length else i]?=some e
  by_cases h1:i<B.length
  ·rw[if_pos h1,List.getElem?_append_right (by omega),Nat.add_sub_cancel,List.getElem?_append_left h1]
   rwa [List.getElem?_append_left h1] at hi
  ·rw[List.getElem?_append_right (by omega)] at hi
   by_cases h2:i<B.length+A.length
   ·rw[if_neg h1,if_pos h2,List.getElem?_append_left (by omega)]
    rwa [List.getElem?_append_left (by omega)] at hi
   ·rw[if_neg h1,if_neg h2,List.getElem?_append_right (by omega),List.getElem?_append_right (by omega)];rw[List.getElem?_append_right (by omega)] at hi;rw[←hi];congr 1;omega
theorem Has.dB {j:Nat} {e:aN} (h:Has N S st (e::H)) (hj:j<H.length):Has N S st (H.set j e):=
 Has.back (h.erase (j+1)) hj
theorem Has.sB {j k:Nat} {e:aN} (h:Has N S st H) (hj:H[j]?=some e) (hk:e.K k):k+1≤st.bs.length:=((h.ok j e hj).2 k hk).2
theorem fu {x y:Oper} {fi fj:Fr} {si oo sj Ed:St} {a:Operand} {k aq off v:Nat} {ar:Bool} {c:List D} (hy:fz y.op=none) (hx:fz x.op=some a) (ha:fi.ev a=.ptr k aq off) (h1:sj.bs[k]?=some (.mem v ar c)) (h2:Ed.bs[k]?=some (.mem v ar c)) (h3:si.bs[k]?=some (.mem v ar c)) (hr:refs c≤si.bs.length):gp x fi si oo y fj sj Ed=true:=by
 unfold gp;simp only[hy,hx,ha,D.kP,Bool.and_eq_true];refine⟨mb h1 h2,?_⟩;unfold kA;simp only[h3]
 split
 ·rfl
 ·simpa using hr
theorem Has.clear {P:Pv} {j:Nat} {x:D} {s:Nat} {es:List (List D)} {t e:TypeId} {z:List D} (h:Has N S st H) (hj:H[j]?=some (.lst x s es)) (ht:P.bI t=some (.slice e)) (hz:cA P e=some z) (j7:z.length=s) (hr:refs z=0):
  ∃ab,jK P [t] x st=some (.tup [],ab)∧Has N S ab (H.set j (.lst x s (List.replicate es.length z))):=by
 have xW:=(h.ok j _ hj).2;have hown:=h.own hj
 have iS:j<H.length:=by
  rcases Nat.lt_or_ge j H.length with h'|h'
  ·exact h'
  ·rw[List.getElem?_eq_none h'] at hj;cases hj
 cases hown with
 |nul=>
  refine⟨st,by simp only[jK,ht],?_⟩
  have:H.set j (.lst .nul s (List.replicate ([]:List (List D)).length z))=H:=by
   refine List.ext_getElem? fun i=>?_
   by_cases hi:i=j
   ·subst hi;rw[List.getElem?_set_self iS,hj];rfl
   ·rw[List.getElem?_set_ne (fun e=>hi e.symm)]
  rw[this];exact h
 |win k aq off es c hm hle hc he=>
  have hk:=xW k (by simp only[aN.lst,D.ref])
  have Ek:∀n,refs (Go.V.dB n z)=0:=by
   intro n;unfold Go.V.dB
   induction n with
   |zero=>rfl
   |succ n ih=>
    rw[List.replicate_succ,List.flatten_cons]
    have FP:∀(a b:List D),refs a=0→refs b=0→refs (a++b)=0:=by
     intro a
     induction a with
     |nil=>intro b _ hb;exact hb
     |cons d a Ej=>
      intro b ha hb;simp only[refs,List.cons_append] at ha⊢;have:=Ej b (by omega) hb;omega
    exact FP _ _ hr ih
  have tR:(Go.V.dB es.length z).length=es.length*s:=by
   unfold Go.V.dB;rw[bY (s:=s) (fun e he=>by rw[(List.mem_replicate.1 he).2];exact j7),List.length_replicate]
  have hw:st.wr k aq off (Go.V.dB es.length z)=some ⟨st.bs.set k (.mem aq true (c.take off++Go.V.dB es.length z++c.drop (off+(Go.V.dB es.length z).length))),st.flr,st.ro⟩:=kr hm (by omega) (fH h hk.1 (.inr (Ek _)));refine⟨_,by simp only[jK,ht,hz,Option.bind_some];rw[if_pos j7,hw];rfl,?_⟩;refine h.Bs hj (fun n hn hne=>?_) (by simp) rfl rfl ?_ (fun n hn=>.inl hn) fun n hn=>?_
  ·simp only;rw[List.getElem?_set_ne (fun e=>hne (by simp only[aN.lst,D.ref];omega))]
  ·have Db:∀e'∈List.replicate es.length z,e'.length=s:=fun e' n9=>by rw[(List.mem_replicate.1 n9).2];exact j7
   have:=fJ.win (st:=⟨st.bs.set k (.mem aq true (c.take off++Go.V.dB es.length z++c.drop (off+(Go.V.dB es.length z).length))),st.flr,st.ro⟩) (s:=s) k aq off (List.replicate es.length z) (c.take off++Go.V.dB es.length z++c.drop (off+(Go.V.dB es.length z).length))
    (by simp only;rw[List.getElem?_set_self hk.2]) (by rw[List.length_replicate];simp;omega) ?_ Db
   ·rw[List.length_replicate] at this;exact this
   ·rw[List.length_replicate,List.append_assoc,List.drop_append_of_le_length (by simp;omega),List.drop_take,Nat.sub_self,List.take_zero,List.nil_append,←tR,List.take_left']
    ·rfl
    ·rfl
  ·simp only[aN.lst,D.ref] at hn;have:n=k:=by omega
   subst this
   simpa using hk.2
variable{P:Pv} {ops:Array Oper} {rest:List Oper} {fr ax:Fr} {Q:Fr→St→Prop} {ty:TypeId} {pp:String} {a:Array Edge} {g:Option (Nat×Bool)} {dst:Nat}
theorem EvO.G3 {j:Nat} {x:D} {s:Nat} {es:List (List D)} {t e:TypeId} {z:List D} {xo:Operand} (hH:Has N S st H) (hg:av ops fr ⟨none,.call ⟨.builtin .clear,#[xo],#[t]⟩,ty,pp,a,g⟩=some true) (hx:fr.ev xo=x) (hj:H[j]?=some (.lst x s es)) (ht:P.bI t=some (.slice e)) (hz:cA P e=some z) (j7:z.length=s) (hr:refs z=0)
  (h:∀ab,Has N S ab (H.set j (.lst x s (List.replicate es.length z)))→EvO P ops rest fr ab Q):EvO P ops (⟨none,.call ⟨.builtin .clear,#[xo],#[t]⟩,ty,pp,a,g⟩::rest) fr st Q:=by
 obtain⟨ab,h1,h2⟩:=hH.clear hj ht hz j7 hr;refine EvO.N hg rfl (d:=.tup []) (st1:=ab) ?_ (h _ h2);simp only[cG,List.map_cons,List.map_nil,hx,aT,List.toList_toArray];exact h1
theorem oV {st:St} {s:Nat} {x:D} {es:List (List D)} (h:V.Rows st s x es):x.cells?=some [x]:=by cases h<;>rfl
end Go.V
namespace Go.Proofs.YtnleclohocdkaaaGreat
open Go.V
noncomputable def P3 : Tr TypeInfo := (.node 136 (.node 68 (.node 34 (.node 17 (.node 8 (.node 4 (.node 2 (.node 1 (.leaf Tryz.t0) (.leaf Tryz.t1)) (.node 3 (.leaf Tryz.t2) (.leaf Tryz.t3))) (.node 6 (.node 5 (.leaf Tryz.t4) (.leaf Tryz.t5)) (.node 7 (.leaf Tryz.t6) (.leaf Tryz.t7)))) (.node 12 (.node 10 (.node 9 (.leaf Tryz.t8) (.leaf Tryz.t9)) (.node 11 (.leaf Tryz.t10) (.leaf Tryz.t11))) (.node 14 (.node 13 (.leaf Tryz.t12) (.leaf Tryz.t13)) (.node 15 (.leaf Tryz.t14) (.node 16 (.leaf Tryz.t15) (.leaf Tryz.t16)))))) (.node 25 (.node 21 (.node 19 (.node 18 (.leaf Tryz.t17) (.leaf Tryz.t18)) (.node 20 (.leaf Tryz.t19) (.leaf Tryz.t20))) (.node 23 (.node 22 (.leaf Tryz.t21) (.leaf Tryz.t22)) (.node 24 (.leaf Tryz.t23) (.leaf Tryz.t24)))) (.node 29 (.node 27 (.node 26 (.leaf Tryz.t25) (.leaf Tryz.t26)) (.node 28 (.leaf Tryz.t27) (.leaf Tryz.t28))) (.node 31 (.node 30 (.leaf Tryz.t29) (.leaf Tryz.t30)) (.node 32 (.leaf Tryz.t31) (.node 33 (.leaf Tryz.t32) (.leaf Tryz.t33))))))) (.node 51 (.node 42 (.node 38 (.node 36 (.node 35 (.leaf Tryz.t34) (.leaf Tryz.t35)) (.node 37 (.leaf Tryz.t36) (.leaf Tryz.t37))) (.node 40 (.node 39 (.leaf Tryz.t38) (.leaf Tryz.t39)) (.node 41 (.leaf Tryz.t40) (.leaf Tryz.t41)))) (.node 46 (.node 44 (.node 43 (.leaf Tryz.t42) (.leaf Tryz.t43)) (.node 45 (.leaf Tryz.t44) (.leaf Tryz.t45))) (.node 48 (.node 47 (.leaf Tryz.t46) (.leaf Tryz.t47)) (.node 49 (.leaf Tryz.t48) (.node 50 (.leaf Tryz.t49) (.leaf Tryz.t50)))))) (.node 59 (.node 55 (.node 53 (.node 52 (.leaf Tryz.t51) (.leaf Tryz.t52)) (.node 54 (.leaf Tryz.t53) (.leaf Tryz.t54))) (.node 57 (.node 56 (.leaf Tryz.t55) (.leaf Tryz.t56)) (.node 58 (.leaf Tryz.t57) (.leaf Tryz.t58)))) (.node 63 (.node 61 (.node 60 (.leaf Tryz.t59) (.leaf Tryz.t60)) (.node 62 (.leaf Tryz.t61) (.leaf Tryz.t62))) (.node 65 (.node 64 (.leaf Tryz.t63) (.leaf Tryz.t64)) (.node 66 (.leaf Tryz.t65) (.node 67 (.leaf Tryz.t66) (.leaf Tryz.t67)))))))) (.node 102 (.node 85 (.node 76 (.node 72 (.node 70 (.node 69 (.leaf Tryz.t68) (.leaf Tryz.t69)) (.node 71 (.leaf Tryz.t70) (.leaf Tryz.t71))) (.node 74 (.node 73 (.leaf Tryz.t72) (.leaf Tryz.t73)) (.node 75 (.leaf Tryz.t74) (.leaf Tryz.t75)))) (.node 80 (.node 78 (.node 77 (.leaf Tryz.t76) (.leaf Tryz.t77)) (.node 79 (.leaf Tryz.t78) (.leaf Tryz.t79))) (.node 82 (.node 81 (.leaf Tryz.t80) (.leaf Tryz.t81)) (.node 83 (.leaf Tryz.t82) (.node 84 (.leaf Tryz.t83) (.leaf Tryz.t84)))))) (.node 93 (.node 89 (.node 87 (.node 86 (.leaf Tryz.t85) (.leaf Tryz.t86)) (.node 88 (.leaf Tryz.t87) (.leaf Tryz.t88))) (.node 91 (.node 90 (.leaf Tryz.t89) (.leaf Tryz.t90)) (.node 92 (.leaf Tryz.t91) (.leaf Tryz.t92)))) (.node 97 (.node 95 (.node 94 (.leaf Tryz.t93) (.leaf Tryz.t94)) (.node 96 (.leaf Tryz.t95) (.leaf Tryz.t96))) (.node 99 (.node 98 (.leaf Tryz.t97) (.leaf Tryz.t98)) (.node 100 (.leaf Tryz.t99) (.node 101 (.leaf Tryz.t100) (.leaf Tryz.t101))))))) (.node 119 (.node 110 (.node 106 (.node 104 (.node 103 (.leaf Tryz.t102) (.leaf Tryz.t103)) (.node 105 (.leaf Tryz.t104) (.leaf Tryz.t105))) (.node 108 (.node 107 (.leaf Tryz.t106) (.leaf Tryz.t107)) (.node 109 (.leaf Tryz.t108) (.leaf Tryz.t109)))) (.node 114 (.node 112 (.node 111 (.leaf Tryz.t110) (.leaf Tryz.t111)) (.node 113 (.leaf Tryz.t112) (.leaf Tryz.t113))) (.node 116 (.node 115 (.leaf Tryz.t114) (.leaf Tryz.t115)) (.node 117 (.leaf Tryz.t116) (.node 118 (.leaf Tryz.t117) (.leaf Tryz.t118)))))) (.node 127 (.node 123 (.node 121 (.node 120 (.leaf Tryz.t119) (.leaf Tryz.t120)) (.node 122 (.leaf Tryz.t121) (.leaf Tryz.t122))) (.node 125 (.node 124 (.leaf Tryz.t123) (.leaf Tryz.t124)) (.node 126 (.leaf Tryz.t125) (.leaf Tryz.t126)))) (.node 131 (.node 129 (.node 128 (.leaf Tryz.t127) (.leaf Tryz.t128)) (.node 130 (.leaf Tryz.t129) (.leaf Tryz.t130))) (.node 133 (.node 132 (.leaf Tryz.t131) (.leaf Tryz.t132)) (.node 134 (.leaf Tryz.t133) (.node 135 (.leaf Tryz.t134) (.leaf Tryz.t135))))))))) (.node 204 (.node 170 (.node 153 (.node 144 (.node 140 (.node 138 (.node 137 (.leaf Tryz.t136) (.leaf Tryz.t137)) (.node 139 (.leaf Tryz.t138) (.leaf Tryz.t139))) (.node 142 (.node 141 (.leaf Tryz.t140) (.leaf Tryz.t141)) (.node 143 (.leaf Tryz.t142) (.leaf Tryz.t143)))) (.node 148 (.node 146 (.node 145 (.leaf Tryz.t144) (.leaf Tryz.t145)) (.node 147 (.leaf Tryz.t146) (.leaf Tryz.t147))) (.node 150 (.node 149 (.leaf Tryz.t148) (.leaf Tryz.t149)) (.node 151 (.leaf Tryz.t150) (.node 152 (.leaf Tryz.t151) (.leaf Tryz.t152)))))) (.node 161 (.node 157 (.node 155 (.node 154 (.leaf Tryz.t153) (.leaf Tryz.t154)) (.node 156 (.leaf Tryz.t155) (.leaf Tryz.t156))) (.node 159 (.node 158 (.leaf Tryz.t157) (.leaf Tryz.t158)) (.node 160 (.leaf Tryz.t159) (.leaf Tryz.t160)))) (.node 165 (.node 163 (.node 162 (.leaf Tryz.t161) (.leaf Tryz.t162)) (.node 164 (.leaf Tryz.t163) (.leaf Tryz.t164))) (.node 167 (.node 166 (.leaf Tryz.t165) (.leaf Tryz.t166)) (.node 168 (.leaf Tryz.t167) (.node 169 (.leaf Tryz.t168) (.leaf Tryz.t169))))))) (.node 187 (.node 178 (.node 174 (.node 172 (.node 171 (.leaf Tryz.t170) (.leaf Tryz.t171)) (.node 173 (.leaf Tryz.t172) (.leaf Tryz.t173))) (.node 176 (.node 175 (.leaf Tryz.t174) (.leaf Tryz.t175)) (.node 177 (.leaf Tryz.t176) (.leaf Tryz.t177)))) (.node 182 (.node 180 (.node 179 (.leaf Tryz.t178) (.leaf Tryz.t179)) (.node 181 (.leaf Tryz.t180) (.leaf Tryz.t181))) (.node 184 (.node 183 (.leaf Tryz.t182) (.leaf Tryz.t183)) (.node 185 (.leaf Tryz.t184) (.node 186 (.leaf Tryz.t185) (.leaf Tryz.t186)))))) (.node 195 (.node 191 (.node 189 (.node 188 (.leaf Tryz.t187) (.leaf Tryz.t188)) (.node 190 (.leaf Tryz.t189) (.leaf Tryz.t190))) (.node 193 (.node 192 (.leaf Tryz.t191) (.leaf Tryz.t192)) (.node 194 (.leaf Tryz.t193) (.leaf Tryz.t194)))) (.node 199 (.node 197 (.node 196 (.leaf Tryz.t195) (.leaf Tryz.t196)) (.node 198 (.leaf Tryz.t197) (.leaf Tryz.t198))) (.node 201 (.node 200 (.leaf Tryz.t199) (.leaf Tryz.t200)) (.node 202 (.leaf Tryz.t201) (.node 203 (.leaf Tryz.t202) (.leaf Tryz.t203)))))))) (.node 238 (.node 221 (.node 212 (.node 208 (.node 206 (.node 205 (.leaf Tryz.t204) (.leaf Tryz.t205)) (.node 207 (.leaf Tryz.t206) (.leaf Tryz.t207))) (.node 210 (.node 209 (.leaf Tryz.t208) (.leaf Tryz.t209)) (.node 211 (.leaf Tryz.t210) (.leaf Tryz.t211)))) (.node 216 (.node 214 (.node 213 (.leaf Tryz.t212) (.leaf Tryz.t213)) (.node 215 (.leaf Tryz.t214) (.leaf Tryz.t215))) (.node 218 (.node 217 (.leaf Tryz.t216) (.leaf Tryz.t217)) (.node 219 (.leaf Tryz.t218) (.node 220 (.leaf Tryz.t219) (.leaf Tryz.t220)))))) (.node 229 (.node 225 (.node 223 (.node 222 (.leaf Tryz.t221) (.leaf Tryz.t222)) (.node 224 (.leaf Tryz.t223) (.leaf Tryz.t224))) (.node 227 (.node 226 (.leaf Tryz.t225) (.leaf Tryz.t226)) (.node 228 (.leaf Tryz.t227) (.leaf Tryz.t228)))) (.node 233 (.node 231 (.node 230 (.leaf Tryz.t229) (.leaf Tryz.t230)) (.node 232 (.leaf Tryz.t231) (.leaf Tryz.t232))) (.node 235 (.node 234 (.leaf Tryz.t233) (.leaf Tryz.t234)) (.node 236 (.leaf Tryz.t235) (.node 237 (.leaf Tryz.t236) (.leaf Tryz.t237))))))) (.node 255 (.node 246 (.node 242 (.node 240 (.node 239 (.leaf Tryz.t238) (.leaf Tryz.t239)) (.node 241 (.leaf Tryz.t240) (.leaf Tryz.t241))) (.node 244 (.node 243 (.leaf Tryz.t242) (.leaf Tryz.t243)) (.node 245 (.leaf Tryz.t244) (.leaf Tryz.t245)))) (.node 250 (.node 248 (.node 247 (.leaf Tryz.t246) (.leaf Tryz.t247)) (.node 249 (.leaf Tryz.t248) (.leaf Tryz.t249))) (.node 252 (.node 251 (.leaf Tryz.t250) (.leaf Tryz.t251)) (.node 253 (.leaf Tryz.t252) (.node 254 (.leaf Tryz.t253) (.leaf Tryz.t254)))))) (.node 264 (.node 259 (.node 257 (.node 256 (.leaf Tryz.t255) (.leaf Tryz.t256)) (.node 258 (.leaf Tryz.t257) (.leaf Tryz.t258))) (.node 261 (.node 260 (.leaf Tryz.t259) (.leaf Tryz.t260)) (.node 262 (.leaf Tryz.t261) (.node 263 (.leaf Tryz.t262) (.leaf Tryz.t263))))) (.node 268 (.node 266 (.node 265 (.leaf Tryz.t264) (.leaf Tryz.t265)) (.node 267 (.leaf Tryz.t266) (.leaf Tryz.t267))) (.node 270 (.node 269 (.leaf Tryz.t268) (.leaf Tryz.t269)) (.node 271 (.leaf Tryz.t270) (.node 272 (.leaf Tryz.t271) (.leaf Tryz.t272))))))))))
noncomputable def QS:Tr Fi:=(.node 104 (.node 52 (.node 26 (.node 13 (.node 6 (.node 3 (.node 1 (.leaf ⟨Tryz.f0,0,.rw,false,none,[]⟩) (.node 2 (.leaf ⟨Tryz.f1,0,.rw,false,none,[]⟩) (.leaf ⟨Tryz.f2,0,.rw,false,none,[]⟩))) (.node 4 (.leaf ⟨Tryz.f3,14,.ro,false,none,[]⟩) (.node 5 (.leaf ⟨Tryz.f4,22,.ro,false,none,[]⟩) (.leaf ⟨Tryz.f5,19,.ro,false,none,[(9,[(1,4)]),(10,[(1,4)]),(17,[(8,9)]),(23,[(1,2)]),(26,[(3,4),(9,10),(9,11)])]⟩)))) (.node 9 (.node 7 (.leaf ⟨Tryz.f6,19,.ro,false,none,[]⟩) (.node 8 (.leaf ⟨Tryz.f7,10,.ro,false,none,[]⟩) (.leaf ⟨Tryz.f8,18,.ro,false,none,[]⟩))) (.node 11 (.node 10 (.leaf ⟨Tryz.f9,9,.ro,false,none,[]⟩) (.leaf ⟨Tryz.f10,8,.ro,false,none,[(6,[(6,12),(8,12),(9,12)])]⟩)) (.node 12 (.leaf ⟨Tryz.f11,21,.ro,false,none,[]⟩) (.leaf ⟨Tryz.f12,11,.ro,false,none,[]⟩))))) (.node 19 (.node 16 (.node 14 (.leaf ⟨Tryz.f13,6,.aP,false,none,[]⟩) (.node 15 (.leaf ⟨Tryz.f14,26,.ro,false,none,[]⟩) (.leaf ⟨Tryz.f15,6,.ro,false,none,[]⟩))) (.node 17 (.leaf ⟨Tryz.f16,7,.ro,false,none,[]⟩) (.node 18 (.leaf ⟨Tryz.f17,3,.aP,false,none,[(1,[(3,8)])]⟩) (.leaf ⟨Tryz.f18,33,.ro,false,none,[]⟩)))) (.node 22 (.node 20 (.leaf ⟨Tryz.f19,8,.aP,false,none,[(6,[(3,6)])]⟩) (.node 21 (.leaf ⟨Tryz.f20,13,.aP,false,none,[(3,[(3,8)])]⟩) (.leaf ⟨Tryz.f21,5,.ro,false,none,[]⟩))) (.node 24 (.node 23 (.leaf ⟨Tryz.f22,6,.ro,false,none,[]⟩) (.leaf ⟨Tryz.f23,13,.aP,false,none,[]⟩)) (.node 25 (.leaf ⟨Tryz.f24,6,.aP,false,none,[]⟩) (.leaf ⟨Tryz.f25,11,.ro,false,none,[]⟩)))))) (.node 39 (.node 32 (.node 29 (.node 27 (.leaf ⟨Tryz.f26,14,.ro,false,none,[]⟩) (.node 28 (.leaf ⟨Tryz.f27,8,.ro,false,none,[]⟩) (.leaf ⟨Tryz.f28,5,.ro,false,none,[]⟩))) (.node 30 (.leaf ⟨Tryz.f29,11,.ro,false,none,[]⟩) (.node 31 (.leaf ⟨Tryz.f30,6,.aP,false,none,[]⟩) (.leaf ⟨Tryz.f31,13,.ro,false,none,[]⟩)))) (.node 35 (.node 33 (.leaf ⟨Tryz.f32,9,.aP,false,none,[]⟩) (.node 34 (.leaf ⟨Tryz.f33,3,.aP,false,none,[(1,[(4,8)])]⟩) (.leaf ⟨Tryz.f34,7,.ro,false,none,[]⟩))) (.node 37 (.node 36 (.leaf ⟨Tryz.f35,9,.aP,false,none,[]⟩) (.leaf ⟨Tryz.f36,6,.aP,false,none,[]⟩)) (.node 38 (.leaf ⟨Tryz.f37,5,.ro,false,none,[]⟩) (.leaf ⟨Tryz.f38,6,.rw,false,none,[]⟩))))) (.node 45 (.node 42 (.node 40 (.leaf ⟨Tryz.f39,5,.ro,false,none,[]⟩) (.node 41 (.leaf ⟨Tryz.f40,6,.rw,false,none,[]⟩) (.leaf ⟨Tryz.f41,3,.rw,false,none,[]⟩))) (.node 43 (.leaf ⟨Tryz.f42,3,.rw,false,none,[]⟩) (.node 44 (.leaf ⟨Tryz.f43,4,.ro,false,none,[]⟩) (.leaf ⟨Tryz.f44,36,.rw,false,none,[]⟩)))) (.node 48 (.node 46 (.leaf ⟨Tryz.f45,16,.rw,false,none,[]⟩) (.node 47 (.leaf ⟨Tryz.f46,5,.aP,false,none,[]⟩) (.leaf ⟨Tryz.f47,40,.aP,false,none,[]⟩))) (.node 50 (.node 49 (.leaf ⟨Tryz.f48,5,.ro,false,none,[]⟩) (.leaf ⟨Tryz.f49,10,.ro,false,none,[]⟩)) (.node 51 (.leaf ⟨Tryz.f50,5,.aP,false,none,[]⟩) (.leaf ⟨Tryz.f51,12,.aP,false,none,[]⟩))))))) (.node 78 (.node 65 (.node 58 (.node 55 (.node 53 (.leaf ⟨Tryz.f52,6,.ro,false,none,[]⟩) (.node 54 (.leaf ⟨Tryz.f53,6,.ro,false,none,[]⟩) (.leaf ⟨Tryz.f54,4,.ro,false,none,[]⟩))) (.node 56 (.leaf ⟨Tryz.f55,24,.ro,false,none,[]⟩) (.node 57 (.leaf ⟨Tryz.f56,6,.aP,false,none,[]⟩) (.leaf ⟨Tryz.f57,11,.aP,false,none,[]⟩)))) (.node 61 (.node 59 (.leaf ⟨Tryz.f58,10,.aP,false,none,[]⟩) (.node 60 (.leaf ⟨Tryz.f59,4,.ro,false,none,[]⟩) (.leaf ⟨Tryz.f60,9,.ro,false,none,[]⟩))) (.node 63 (.node 62 (.leaf ⟨Tryz.f61,9,.aP,false,none,[]⟩) (.leaf ⟨Tryz.f62,49,.ro,false,none,[]⟩)) (.node 64 (.leaf ⟨Tryz.f63,4,.ro,false,none,[]⟩) (.leaf ⟨Tryz.f64,9,.ro,false,none,[]⟩))))) (.node 71 (.node 68 (.node 66 (.leaf ⟨Tryz.f65,55,.ro,false,none,[]⟩) (.node 67 (.leaf ⟨Tryz.f66,25,.aP,false,none,[]⟩) (.leaf ⟨Tryz.f67,6,.ro,false,none,[]⟩))) (.node 69 (.leaf ⟨Tryz.f68,37,.aP,false,none,[(10,[(4,5)])]⟩) (.node 70 (.leaf ⟨Tryz.f69,8,.ro,false,none,[]⟩) (.leaf ⟨Tryz.f70,6,.ro,false,none,[]⟩)))) (.node 74 (.node 72 (.leaf ⟨Tryz.f71,3,.ro,false,none,[]⟩) (.node 73 (.leaf ⟨Tryz.f72,8,.ro,false,none,[]⟩) (.leaf ⟨Tryz.f73,13,.ro,true,none,[(7,[(4,5)])]⟩))) (.node 76 (.node 75 (.leaf ⟨Tryz.f74,6,.ro,false,none,[]⟩) (.leaf ⟨Tryz.f75,6,.aP,false,none,[]⟩)) (.node 77 (.leaf ⟨Tryz.f76,1,.aP,false,none,[]⟩) (.leaf ⟨Tryz.f77,2,.aP,false,none,[(0,[(3,9)])]⟩)))))) (.node 91 (.node 84 (.node 81 (.node 79 (.leaf ⟨Tryz.f78,6,.ro,false,none,[]⟩) (.node 80 (.leaf ⟨Tryz.f79,3,.aP,false,none,[]⟩) (.leaf ⟨Tryz.f80,8,.aP,false,none,[]⟩))) (.node 82 (.leaf ⟨Tryz.f81,4,.aP,false,none,[(2,[(5,10)])]⟩) (.node 83 (.leaf ⟨Tryz.f82,9,.aP,false,none,[]⟩) (.leaf ⟨Tryz.f83,4,.rw,false,none,[]⟩)))) (.node 87 (.node 85 (.leaf ⟨Tryz.f84,24,.ro,false,none,[]⟩) (.node 86 (.leaf ⟨Tryz.f85,6,.rw,false,none,[]⟩) (.leaf ⟨Tryz.f86,5,.rw,false,none,[]⟩))) (.node 89 (.node 88 (.leaf ⟨Tryz.f87,7,.ro,false,none,[]⟩) (.leaf ⟨Tryz.f88,8,.rw,false,none,[]⟩)) (.node 90 (.leaf ⟨Tryz.f89,68,.aP,false,none,[]⟩) (.leaf ⟨Tryz.f90,78,.aP,false,none,[]⟩))))) (.node 97 (.node 94 (.node 92 (.leaf ⟨Tryz.f91,5,.ro,false,none,[]⟩) (.node 93 (.leaf ⟨Tryz.f92,8,.aP,false,none,[]⟩) (.leaf ⟨Tryz.f93,12,.aP,false,none,[]⟩))) (.node 95 (.leaf ⟨Tryz.f94,4,.rw,false,none,[]⟩) (.node 96 (.leaf ⟨Tryz.f95,7,.rw,false,none,[]⟩) (.leaf ⟨Tryz.f96,4,.aP,false,none,[]⟩)))) (.node 100 (.node 98 (.leaf ⟨Tryz.f97,14,.ro,false,none,[]⟩) (.node 99 (.leaf ⟨Tryz.f98,5,.ro,false,none,[]⟩) (.leaf ⟨Tryz.f99,39,.ro,false,none,[]⟩))) (.node 102 (.node 101 (.leaf ⟨Tryz.f100,5,.ro,false,none,[]⟩) (.leaf ⟨Tryz.f101,41,.ro,false,none,[]⟩)) (.node 103 (.leaf ⟨Tryz.f102,1,.aP,false,none,[]⟩) (.leaf ⟨Tryz.f103,10,.ro,false,none,[]⟩)))))))) (.node 156 (.node 130 (.node 117 (.node 110 (.node 107 (.node 105 (.leaf ⟨Tryz.f104,7,.aP,false,none,[]⟩) (.node 106 (.leaf ⟨Tryz.f105,33,.aP,false,none,[(8,[(9,12)])]⟩) (.leaf ⟨Tryz.f106,22,.ro,false,none,[(13,[(3,5)])]⟩))) (.node 108 (.leaf ⟨Tryz.f107,13,.ro,false,none,[]⟩) (.node 109 (.leaf ⟨Tryz.f108,31,.aP,false,none,[]⟩) (.leaf ⟨Tryz.f109,9,.rw,false,none,[]⟩)))) (.node 113 (.node 111 (.leaf ⟨Tryz.f110,4,.aP,false,none,[]⟩) (.node 112 (.leaf ⟨Tryz.f111,6,.ro,false,none,[]⟩) (.leaf ⟨Tryz.f112,39,.rw,false,none,[]⟩))) (.node 115 (.node 114 (.leaf ⟨Tryz.f113,11,.ro,false,none,[]⟩) (.leaf ⟨Tryz.f114,4,.rw,false,none,[]⟩)) (.node 116 (.leaf ⟨Tryz.f115,30,.ro,false,none,[(22,[(3,7),(5,7),(5,9)])]⟩) (.leaf ⟨Tryz.f116,7,.ro,false,none,[]⟩))))) (.node 123 (.node 120 (.node 118 (.leaf ⟨Tryz.f117,4,.rw,false,none,[]⟩) (.node 119 (.leaf ⟨Tryz.f118,4,.rw,false,none,[]⟩) (.leaf ⟨Tryz.f119,5,.rw,false,none,[]⟩))) (.node 121 (.leaf ⟨Tryz.f120,27,.ro,false,none,[]⟩) (.node 122 (.leaf ⟨Tryz.f121,3,.ro,false,none,[]⟩) (.leaf ⟨Tryz.f122,6,.rw,false,none,[]⟩)))) (.node 126 (.node 124 (.leaf ⟨Tryz.f123,5,.ro,false,none,[]⟩) (.node 125 (.leaf ⟨Tryz.f124,2,.rw,false,none,[]⟩) (.leaf ⟨Tryz.f125,3,.ro,false,none,[]⟩))) (.node 128 (.node 127 (.leaf ⟨Tryz.f126,6,.ro,false,none,[]⟩) (.leaf ⟨Tryz.f127,27,.rw,false,none,[]⟩)) (.node 129 (.leaf ⟨Tryz.f128,15,.rw,false,none,[]⟩) (.leaf ⟨Tryz.f129,4,.ro,false,none,[]⟩)))))) (.node 143 (.node 136 (.node 133 (.node 131 (.leaf ⟨Tryz.f130,5,.rw,false,none,[]⟩) (.node 132 (.leaf ⟨Tryz.f131,5,.rw,false,none,[]⟩) (.leaf ⟨Tryz.f132,14,.ro,false,none,[]⟩))) (.node 134 (.leaf ⟨Tryz.f133,26,.ro,false,none,[]⟩) (.node 135 (.leaf ⟨Tryz.f134,6,.ro,false,none,[]⟩) (.leaf ⟨Tryz.f135,11,.rw,false,none,[]⟩)))) (.node 139 (.node 137 (.leaf ⟨Tryz.f136,3,.aP,false,none,[]⟩) (.node 138 (.leaf ⟨Tryz.f137,11,.rw,false,none,[]⟩) (.leaf ⟨Tryz.f138,6,.ro,false,none,[]⟩))) (.node 141 (.node 140 (.leaf ⟨Tryz.f139,43,.rw,false,none,[]⟩) (.leaf ⟨Tryz.f140,6,.rw,false,none,[]⟩)) (.node 142 (.leaf ⟨Tryz.f141,5,.ro,false,none,[]⟩) (.leaf ⟨Tryz.f142,6,.ro,false,none,[]⟩))))) (.node 149 (.node 146 (.node 144 (.leaf ⟨Tryz.f143,26,.rw,false,none,[]⟩) (.node 145 (.leaf ⟨Tryz.f144,14,.rw,false,none,[]⟩) (.leaf ⟨Tryz.f145,20,.ro,false,none,[]⟩))) (.node 147 (.leaf ⟨Tryz.f146,5,.rw,false,none,[]⟩) (.node 148 (.leaf ⟨Tryz.f147,5,.ro,false,none,[]⟩) (.leaf ⟨Tryz.f148,7,.ro,false,none,[]⟩)))) (.node 152 (.node 150 (.leaf ⟨Tryz.f149,7,.aP,false,none,[]⟩) (.node 151 (.leaf ⟨Tryz.f150,2,.rw,false,none,[]⟩) (.leaf ⟨Tryz.f151,26,.rw,false,none,[]⟩))) (.node 154 (.node 153 (.leaf ⟨Tryz.f152,3,.ro,false,none,[]⟩) (.leaf ⟨Tryz.f153,3,.ro,false,none,[]⟩)) (.node 155 (.leaf ⟨Tryz.f154,5,.rw,false,none,[]⟩) (.leaf ⟨Tryz.f155,7,.rw,false,none,[]⟩))))))) (.node 182 (.node 169 (.node 162 (.node 159 (.node 157 (.leaf ⟨Tryz.f156,7,.rw,false,none,[]⟩) (.node 158 (.leaf ⟨Tryz.f157,61,.rw,true,none,[]⟩) (.leaf ⟨Tryz.f158,1,.ro,false,none,[]⟩))) (.node 160 (.leaf ⟨Tryz.f159,3,.ro,false,none,[]⟩) (.node 161 (.leaf ⟨Tryz.f160,6,.rw,false,none,[(7,[(0,4)])]⟩) (.leaf ⟨Tryz.f161,5,.ro,false,none,[]⟩)))) (.node 165 (.node 163 (.leaf ⟨Tryz.f162,12,.ro,false,none,[]⟩) (.node 164 (.leaf ⟨Tryz.f163,21,.rw,false,none,[]⟩) (.leaf ⟨Tryz.f164,3,.rw,false,none,[]⟩))) (.node 167 (.node 166 (.leaf ⟨Tryz.f165,8,.rw,false,none,[]⟩) (.leaf ⟨Tryz.f166,11,.ro,false,none,[]⟩)) (.node 168 (.leaf ⟨Tryz.f167,3,.ro,false,none,[]⟩) (.leaf ⟨Tryz.f168,3,.rw,false,none,[]⟩))))) (.node 175 (.node 172 (.node 170 (.leaf ⟨Tryz.f169,5,.rw,false,none,[]⟩) (.node 171 (.leaf ⟨Tryz.f170,3,.rw,false,none,[(1,[(4,8)])]⟩) (.leaf ⟨Tryz.f171,10,.rw,false,none,[]⟩))) (.node 173 (.leaf ⟨Tryz.f172,13,.rw,false,none,[]⟩) (.node 174 (.leaf ⟨Tryz.f173,13,.rw,false,none,[]⟩) (.leaf ⟨Tryz.f174,56,.rw,false,none,[]⟩)))) (.node 178 (.node 176 (.leaf ⟨Tryz.f175,10,.rw,false,none,[]⟩) (.node 177 (.leaf ⟨Tryz.f176,13,.rw,false,none,[]⟩) (.leaf ⟨Tryz.f177,13,.rw,false,none,[]⟩))) (.node 180 (.node 179 (.leaf ⟨Tryz.f178,14,.rw,false,none,[]⟩) (.leaf ⟨Tryz.f179,3,.rw,false,none,[]⟩)) (.node 181 (.leaf ⟨Tryz.f180,3,.rw,false,none,[]⟩) (.leaf ⟨Tryz.f181,29,.rw,true,none,[]⟩)))))) (.node 195 (.node 188 (.node 185 (.node 183 (.leaf ⟨Tryz.f182,1,.rw,false,none,[]⟩) (.node 184 (.leaf ⟨Tryz.f183,12,.rw,false,none,[]⟩) (.leaf ⟨Tryz.f184,3,.rw,false,none,[]⟩))) (.node 186 (.leaf ⟨Tryz.f185,3,.rw,false,none,[]⟩) (.node 187 (.leaf ⟨Tryz.f186,9,.rw,false,none,[]⟩) (.leaf ⟨Tryz.f187,13,.rw,false,none,[]⟩)))) (.node 191 (.node 189 (.leaf ⟨Tryz.f188,1,.rw,false,none,[]⟩) (.node 190 (.leaf ⟨Tryz.f189,12,.rw,false,none,[]⟩) (.leaf ⟨Tryz.f190,1,.rw,false,none,[]⟩))) (.node 193 (.node 192 (.leaf ⟨Tryz.f191,1,.rw,false,none,[]⟩) (.leaf ⟨Tryz.f192,1,.rw,false,none,[]⟩)) (.node 194 (.leaf ⟨Tryz.f193,1,.rw,false,none,[]⟩) (.leaf ⟨Tryz.f194,1,.rw,false,none,[]⟩))))) (.node 201 (.node 198 (.node 196 (.leaf ⟨Tryz.f195,1,.rw,false,none,[]⟩) (.node 197 (.leaf ⟨Tryz.f196,1,.rw,false,none,[]⟩) (.leaf ⟨Tryz.f197,1,.rw,false,none,[]⟩))) (.node 199 (.leaf ⟨Tryz.f198,1,.rw,false,none,[]⟩) (.node 200 (.leaf ⟨Tryz.f199,1,.rw,false,none,[]⟩) (.leaf ⟨Tryz.f200,1,.rw,false,none,[]⟩)))) (.node 204 (.node 202 (.leaf ⟨Tryz.f201,1,.rw,false,none,[]⟩) (.node 203 (.leaf ⟨Tryz.f202,1,.rw,false,none,[]⟩) (.leaf ⟨Tryz.f203,1,.rw,false,none,[]⟩))) (.node 206 (.node 205 (.leaf ⟨Tryz.f204,1,.rw,false,none,[]⟩) (.leaf ⟨Tryz.f205,1,.rw,false,none,[]⟩)) (.node 207 (.leaf ⟨Tryz.f206,1,.rw,false,none,[]⟩) (.leaf ⟨Tryz.f207,1,.rw,false,none,[]⟩)))))))))
noncomputable def lp:Pv:=⟨P3,273,QS,208,[7,8,29,30,49,50,54,55,57,58,59,60,62,63,77,78,87,88,93,94,99,100,103,104,105,106,108,109,115,116,126,127,143,144,157,158,164,165,181,182,186,187,189,190,191,201,202,204,205,233,234,263],[]⟩
end Go.Proofs.YtnleclohocdkaaaGreat
