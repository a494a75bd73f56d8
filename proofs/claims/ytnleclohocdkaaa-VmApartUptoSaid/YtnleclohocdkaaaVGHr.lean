/-
 Steps that need no word of their own, a run of them at once: 'refine zQ COUNT ?_'. By program (tools/genhr.py).
-/
import Derived.Test.YtnleclohocdkaaaVM2
import Derived.Test.YtnleclohocdkaaaChecked
import Derived.Test.YtnleclohocdkaaaVM4
set_option linter.unusedVariables false
set_option linter.unusedSectionVars false
set_option linter.unusedSimpArgs false
set_option maxRecDepth 100000
namespace Go.V
variable{P:Pv} {ops:Array Oper} {rest:List Oper} {fr aD:Fr} {st st1:St} {Q:Fr→St→Prop} {ty:TypeId} {pp:String} {a:Array Edge} {g:Option (Nat×Bool)} {dst:Nat} {N:Nat} {S:St} {H:List bm} {d:D} {op:Op}
inductive Rn:Nat→Prop→Prop→Prop where
 |z (G:Prop):Rn 0 G G
 |s {n:Nat} {G G1 G':Prop} (h:True∧G1→G) (t:Rn n G' G1):Rn (n+1) G' G
theorem Rn.go {n:Nat} {G G':Prop} (h:Rn n G' G):G'→G:=by
 induction h with
 |z=>exact id
 |s h _ ih=>exact fun k=>h ⟨trivial,ih k⟩
theorem qL {j k aA off:Nat} {ar:Bool} {c:List D} {d:D} {t:TypeId} {ao:Operand} (hH:Has N S st H) (h:ab P ops rest aD st Q) (hg:aB ops fr ⟨some dst,.load t ao,ty,pp,a,g⟩=some true:=by exact rfl) (ha:fr.ev ao=.ptr k aA off:=by exact ev rfl) (hj:H[j]?=some (.box k (.mem aA ar c)):=by first|exact aS|exact bZ|exact cU|exact dI|exact eJ|exact gk|exact ja|exact iX) (hd:di P t (c.drop off)=some d:=by exact rfl) (hp:fr.put dst d=aD:=by first|exact aa rfl _|(dsimp only[Fr.put,List.set_cons_succ,List.set_cons_zero]<;>rfl)):ab P ops (⟨some dst,.load t ao,ty,pp,a,g⟩::rest) fr st Q:=
 ab.mz (hH:=hH) (hg:=hg) (ha:=ha) (hj:=hj) (hd:=hd) (hp:=hp) (h:=h)
theorem qO {t:TypeId} {ao:Operand} {x y d:D} {s i o j:Nat} {es:List (List D)} {r:List D} (hH:Has N S st H) (h:ab P ops rest aD st Q) (hg:aB ops fr ⟨some dst,.load t ao,ty,pp,a,g⟩=some true:=by exact rfl) (ha:fr.ev ao=y:=by exact ev rfl) (hR:oY x s i o y:=by assumption) (hj:H[j]?=some (.aI x s es):=by first|exact aS|exact bZ|exact cU|exact dI|exact eJ|exact gk|exact ja|exact iX) (hr:es[i]?=some r:=by assumption) (hd:di P t (r.drop o)=some d:=by exact rfl) (hp:fr.put dst d=aD:=by first|exact aa rfl _|(dsimp only[Fr.put,List.set_cons_succ,List.set_cons_zero]<;>rfl)):ab P ops (⟨some dst,.load t ao,ty,pp,a,g⟩::rest) fr st Q:=
 ab.ki (hH:=hH) (hg:=hg) (ha:=ha) (hR:=hR) (hj:=hj) (hr:=hr) (hd:=hd) (hp:=hp) (h:=h)
theorem wI {ops:Array Oper} {fr:Fr} {o:Oper} {j t:Nat} {w v:Bool} (h1:o.guard=some (j,w):=by exact rfl) (h2:(ops[j]?).bind (·.dst)=some t:=by exact rfl) (h3:fr.get t=.bool v:=by exact rfl) (h4:v=w:=by assumption):aB ops fr o=some true:=ax h1 h2 h3 h4
theorem wN {ops:Array Oper} {fr:Fr} {o:Oper} {j t:Nat} {w v:Bool} (h1:o.guard=some (j,w):=by exact rfl) (h2:(ops[j]?).bind (·.dst)=some t:=by exact rfl) (h3:fr.get t=.bool v:=by exact rfl) (h4:v=!w:=by assumption):aB ops fr o=some false:=bA h1 h2 h3 h4
theorem qW {t:TypeId} {xo:Operand} {k aA off o f fo m:Nat} {fields:Array Field} (h:ab P ops rest aD st Q) (hg:aB ops fr ⟨some dst,.fieldAddr t xo f,ty,pp,a,g⟩=some true:=by exact rfl) (hx:fr.ev xo=.ptr k aA off:=by exact ev rfl) (ht:P.cC t=some (.struct fields):=by exact rfl) (hf:kE P fields f=some (fo,some (m+1)):=by exact rfl) (ho:off+fo=o:=by first|exact(rfl:_=0)|exact(rfl:_=1)|exact(rfl:_=2)|exact(rfl:_=3)|exact(rfl:_=4)|exact(rfl:_=5)|exact(rfl:_=6)|exact(rfl:_=7)|exact(rfl:_=8)|exact(rfl:_=9)|exact(rfl:_=10)|exact(rfl:_=11)|exact(rfl:_=12)|exact(rfl:_=13)|exact(rfl:_=14)|exact(rfl:_=15)|exact(rfl:_=16)|exact(rfl:_=17)|exact(rfl:_=18)|exact(rfl:_=19)) (hp:fr.put dst (.ptr k aA o)=aD:=by first|exact aa rfl _|(dsimp only[Fr.put,List.set_cons_succ,List.set_cons_zero]<;>rfl)):ab P ops (⟨some dst,.fieldAddr t xo f,ty,pp,a,g⟩::rest) fr st Q:=
 ab.C5 (hg:=hg) (hx:=hx) (ht:=ht) (hf:=hf) (ho:=ho) (hp:=hp) (h:=h)
theorem qU {c x y:Operand} {v:Bool} (h:ab P ops rest aD st Q) (hg:aB ops fr ⟨some dst,.pick c x y,ty,pp,a,g⟩=some true:=by exact rfl) (hc:fr.ev c=.bool v:=by exact rfl) (hv:v=true:=by assumption) (hp:fr.put dst (fr.ev x)=aD:=by first|exact aa rfl _|(dsimp only[Fr.put,List.set_cons_succ,List.set_cons_zero]<;>rfl)):ab P ops (⟨some dst,.pick c x y,ty,pp,a,g⟩::rest) fr st Q:=
 ab.cz (hg:=hg) (hc:=hc) (hv:=hv) (hp:=hp) (h:=h)
theorem qV {c x y:Operand} {v:Bool} (h:ab P ops rest aD st Q) (hg:aB ops fr ⟨some dst,.pick c x y,ty,pp,a,g⟩=some true:=by exact rfl) (hc:fr.ev c=.bool v:=by exact rfl) (hv:v=false:=by assumption) (hp:fr.put dst (fr.ev y)=aD:=by first|exact aa rfl _|(dsimp only[Fr.put,List.set_cons_succ,List.set_cons_zero]<;>rfl)):ab P ops (⟨some dst,.pick c x y,ty,pp,a,g⟩::rest) fr st Q:=
 ab.b_ (hg:=hg) (hc:=hc) (hv:=hv) (hp:=hp) (h:=h)
theorem zQ (n:Nat) {G G':Prop} (k:G') (h:Rn n G' G:=by
  repeat(apply Rn.s;focus (intro k;first
   |refine ab.nil ?_;exact k.2
   |refine qq ?_;exact k.2
   |refine ah.fF ?_;exact k.2
   |refine ah.block ?_;exact k.2
   |refine ah.skip ?_;exact k.2
   |refine ah.exit ?_;exact k.2
   |refine qm ?_;exact k.2
   |refine qs ?_;exact k.2
   |refine qm ?_ (hg:=wI);exact k.2
   |refine qs ?_ (hg:=wN);exact k.2
   |refine qW ?_;exact k.2
   |refine qW ?_ (hg:=wI);exact k.2
   |refine qL (by assumption) ?_;exact k.2
   |refine qL (by assumption) ?_ (hg:=wI);exact k.2
   |refine qO (by assumption) ?_;exact k.2
   |refine qO (by assumption) ?_ (hg:=wI);exact k.2
   |refine qR ?_;exact k.2
   |refine qR ?_ (hg:=wI);exact k.2
   |refine qA ?_;exact k.2
   |refine qA ?_ (hg:=wI);exact k.2
   |refine qU ?_;exact k.2
   |refine qU ?_ (hg:=wI);exact k.2
   |refine qV ?_;exact k.2
   |refine qV ?_ (hg:=wI);exact k.2
   |refine qg ?_;exact k.2
   |refine qg ?_ (hg:=wI);exact k.2
   |refine qB ?_;exact k.2
   |refine qC ?_;exact k.2
   ))
  exact Rn.z _):G:=h.go k
theorem zR {G G':Prop} (k:G') (h:True∧G'→G:=by intro k;(repeat refine qq ?_);refine ah.fF ?_;(repeat(first|refine xT ?_|refine xL ?_|refine xN ?_|refine xo ?_|refine xp ?_));refine ab.nil ?_;(try dsimp only[Fr.dg,Fr.put,Fr.clean,Fr.ev,Fr.get,nth,V.look,u1,u2,v1,v2,v3,v4,v5,v6,v7,List.length,u3,u4,Nat.reduceSub,Nat.reduceAdd,List.map]);exact k.2):G:=h ⟨trivial,k⟩
theorem zE {G G':Prop} (k:G') (h:True∧G'→G:=by intro k;dsimp only[u3,u4,List.length,Nat.reduceSub,Nat.reduceAdd,w1,w2];exact k.2):G:=h ⟨trivial,k⟩
theorem zF {G G':Prop} (k:G') (h:True∧G'→G:=by intro k;dsimp only[Fr.dg,Fr.put,Fr.clean,Fr.ev,Fr.get,nth,V.look,u1,u2,v1,v2,v3,v4,v5,v6,v7,List.length,u3,u4,Nat.reduceSub,Nat.reduceAdd,List.map];exact k.2):G:=h ⟨trivial,k⟩
theorem zG {G G':Prop} (k:G') (h:True∧G'→G:=by intro k;dsimp only[aX,List.foldl,nth,u2,u1];dsimp only[Fr.dg,Fr.put,Fr.clean,Fr.ev,Fr.get,nth,V.look,u1,u2,v1,v2,v3,v4,v5,v6,v7,List.length,u3,u4,Nat.reduceSub,Nat.reduceAdd,List.map];exact k.2):G:=h ⟨trivial,k⟩
theorem zP {dy:Dy} {c:Operand} {a b:Code} {p:Prop} {hd:Decidable p} {Q:Out→Fr→St→Prop} (h1:p→ah P dy a fr st Q) (h2:¬p→ah P dy b fr st Q) (hv:fr.ev c=.bool (@decide p hd):=by rfl):ah P dy (.cond c a b) fr st Q:=ah.cond hv (fun h=>h1 (of_decide_eq_true h)) (fun h=>h2 (of_decide_eq_false h))
theorem zI {dy:Dy} {c:Operand} {a b:Code} {x y:Int} {Q:Out→Fr→St→Prop} (h1:x=y→ah P dy a fr st Q) (h2:¬x=y→ah P dy b fr st Q) (hv:fr.ev c=.bool (x==y):=by rfl):ah P dy (.cond c a b) fr st Q:=ah.cond hv (fun h=>h1 (eq_of_beq h)) (fun h=>h2 (ne_of_beq_false h))
end Go.V
namespace Go.V
variable{N:Nat} {S st:St} {H:List bm}
theorem Has.cB {s0:St} (h:Has N S s0 H):Has N (ag .rw s0) (ag .rw s0) H:=
 ⟨Ex.refl _ _,Nat.le_trans h.hN h.ex.len,by show s0.ro≤N;rw[h.ex.ro];exact h.gb,fun i e hi=>⟨e.loc (st:=s0) (af:=ag .rw s0) (fun k _=>rfl) (h.ok i e hi).1,(h.ok i e hi).2⟩,h.dis⟩
theorem ai {kn:Bool} {s0 st:St} {d d':D} (hd:bo st s0.bs.length kn 16 d=some d'):cP .rw kn s0 st d=some (d',⟨st.bs.take s0.bs.length,s0.flr,s0.ro⟩):=by
 simp only[cP,hd]
theorem Has.uE {s0 S2 st2:St} {H2:List bm} (h:Has N S s0 H) (hS:S2.bs=s0.bs) (h2:Has N S2 st2 H2) (hk:∀(i:Nat) e,H2[i]?=some e→∃e',H[i]?=some e'∧∀k,e.K k→e'.K k):Has N S ⟨st2.bs.take s0.bs.length,s0.flr,s0.ro⟩ H2:=by
 have hL:s0.bs.length≤st2.bs.length:=by have:=h2.ex.len;rw[hS] at this;exact this
 have U6:=h.ex.len;have U8:=h.hN;refine⟨⟨fun k jN=>?_,?_,h.ex.flr,h.ex.ro⟩,h.hN,h.gb,fun i e hi=>?_,h2.dis⟩
 ·show(st2.bs.take s0.bs.length)[k]?=_;rw[List.getElem?_take,if_pos (by omega),h2.ex.low k jN,hS];exact h.ex.low k jN
 ·show _≤(st2.bs.take s0.bs.length).length;rw[List.length_take];omega
 ·obtain⟨e',pb,hkk⟩:=hk i e hi;have h3:=(h.ok i e' pb).2;refine⟨e.loc (fun k jN=>?_) (h2.ok i e hi).1,fun k jN=>⟨(h3 k (hkk k jN)).1,?_⟩⟩
  ·show(st2.bs.take s0.bs.length)[k]?=_;rw[List.getElem?_take,if_pos (h3 k (hkk k jN)).2]
  ·show k<(st2.bs.take s0.bs.length).length;rw[List.length_take];have:=(h3 k (hkk k jN)).2;omega
theorem Has.ay {s0 S2 st2:St} {k:Nat} {b b':iC} (h:Has N S s0 (.box k b::H)) (hS:S2.bs=s0.bs) (h2:Has N S2 st2 (.box k b'::H)):Has N S ⟨st2.bs.take s0.bs.length,s0.flr,s0.ro⟩ (.box k b'::H):=by
 refine h.uE hS h2 fun i e hi=>?_
 cases i with
 |zero=>simp only[List.getElem?_cons_zero,Option.some.injEq] at hi;subst hi;exact⟨_,rfl,fun k hk=>hk⟩
 |succ i=>exact⟨e,hi,fun k hk=>hk⟩
theorem Has.Gf {P:Pv} {j:Nat} {x y x':D} {s:Nat} {es ys:List (List D)} {af:St} (hH:Has N S st H) (hj:H[j]?=some (.aI x s es)) (hy:Rows st s y ys) {t1 t2 e:TypeId} {td:TypeDesc} {inf:TypeInfo} {z:List D}
  (h1:P.cC t1=some (.slice e)) (h2:P.cC t2=some td) (h3:ga td=false) (h4:P.info e=some inf) (h5:de P e=some z)
  (q1:ba P .append [t1,t2] [x,y] st=some (x',af)):∀k,x'.ref=k+1→x.ref=k+1∨S.bs.length≤k:=by
 have hl:=hH.ex.len;have jZ:=hy.row
 have DC:∀e∈ys,e.length=s:=fun e he=>by
  obtain⟨i,hi⟩:=List.getElem?_of_mem he;exact hy.uX i e hi
 have hown:=hH.own hj;simp only[ba,gN,h1,h2,h3,Bool.false_eq_true,if_false,h4,h5,jZ,Option.bind_some] at q1
 split at q1
 ·cases q1
 ·cases hown with
  |nul=>
   simp only at q1
   split at q1
   ·cases q1;exact fun k hk=>.inl hk
   ·split at q1
    ·cases q1;exact fun k hk=>.inr (by simp only[D.ref] at hk;omega)
    ·cases q1
  |win k aA off es c hm hl hc he=>
   simp only[St.mem_of hm] at q1
   split at q1
   ·cases q1
   ·split at q1
    ·cases q1;exact fun k hk=>.inl hk
    ·split at q1
     ·cases q1;exact fun n hn=>.inl (by simp only[D.ref] at hn⊢;exact hn)
     ·cases q1
theorem ab.rp {P:Pv} {ops:Array Oper} {rest:List Oper} {fr:Fr} {Q:Fr→St→Prop} {ty:TypeId} {pp:String} {a:Array Edge} {g:Option (Nat×Bool)} {dst:Nat} {j:Nat} {x y:D} {s:Nat} {es ys:List (List D)} {t1 t2 e:TypeId} {td:TypeDesc} {inf:TypeInfo} {z:List D} {xo yo:Operand} {aD:D→Fr} (hH:Has N S st H) (hg:aB ops fr ⟨some dst,.call ⟨.builtin .append,#[xo,yo],#[t1,t2]⟩,ty,pp,a,g⟩=some true)
  (hx:fr.ev xo=x) (hy:fr.ev yo=y) (hj:H[j]?=some (.aI x s es)) (j6:Rows st s y ys)
  (h1:P.cC t1=some (.slice e)) (h2:P.cC t2=some td) (h3:ga td=false) (h4:P.info e=some inf) (h5:de P e=some z) (h6:inf.size=s) (h7:z.length=s) (h8:0<inf.bytes∧inf.bytes≤1024)
  (hp:∀x',fr.put dst x'=aD x') (hb:es.length+ys.length≤1073741824) (hw:S.flr≤N∨refs ys.flatten=0) (h0:∀k,x.ref=k+1→S.bs.length≤k)
  (h:∀x' af,(∀k,x'.ref=k+1→S.bs.length≤k)→Has N S af (H.set j (.aI x' s (es++ys)))→ab P ops rest (aD x') af Q):
  ab P ops (⟨some dst,.call ⟨.builtin .append,#[xo,yo],#[t1,t2]⟩,ty,pp,a,g⟩::rest) fr st Q:=by
 obtain⟨x',af,q1,q2,q3⟩:=hH.append hj j6 h1 h2 h3 h4 h5 h6 h7 h8 hb hw;have T7:=hH.Gf hj j6 h1 h2 h3 h4 h5 q1;refine ab.go hg rfl (d:=x') (st1:=af) ?_ (hp _) (h x' af (fun k hk=>?_) q2)
 ·simp only[dF,List.map_cons,List.map_nil,hx,hy];exact q1
 ·rcases T7 k hk with h|h
  ·exact h0 k h
  ·exact h
def oU:D→D
 | .nul=>.sl []
 |d=>d
def oh (d:D):Bool:=match d with| .nul=>true|d=>cv d
theorem AW {st:St} {N n:Nat} {d:D} (h:oh d=true):ez st N (n+1) d=some (oU d):=by
 cases d<;>simp[oh,cv] at h<;>rfl
theorem sY {st:St} {N n:Nat}:∀{l:List D},(∀d∈l,oh d=true)→iv (ez st N (n+1)) l=some (l.map oU)
 |[],_=>rfl
 |d::l,h=>by simp only[iv,AW (h d (List.mem_cons_self ..)),sY (fun d hd=>h d (List.mem_cons_of_mem _ hd)),List.map_cons]
theorem Has.Au {L j:Nat} {x:D} {s:Nat} {es:List (List D)} (hH:Has N S st H) (hj:H[j]?=some (.aI x s es)) (hx:∀k,x.ref=k+1→L≤k) (hp:∀e∈es,∀d∈e,oh d=true) {n:Nat} (hn:3≤n):bo st L false n x=some (.sl ((es.map (·.map oU)).map (j7 s))):=by
 obtain⟨n,rfl⟩:∃m,n=m+3:=⟨n-3,by omega⟩
 have hown:=hH.own hj
 cases hown with
 |nul=>rfl
 |win k aA off es c hm hl hc he=>
  have hk:=hx k (by simp only[D.ref]);show(if k<L then some (D.win k aA off es.length s) else ez st L (n+2) (.win k aA off es.length s))=_;rw[if_neg (show¬k<L by omega),ez];simp only[if_neg (show¬k<L by omega),St.mem_of hm,Option.bind_some]
  rw[if_pos hl,hc,sY (fun d hd=>by
   obtain⟨e,pb,Ao⟩:=List.mem_flatten.1 hd
   exact hp e pb d Ao)]
  have h1:(es.map (·.map oU)).flatten=es.flatten.map oU:=by rw[List.map_flatten]
  have h2:(es.map (·.map oU)).length=es.length:=List.length_map _
  have h3:∀e∈es.map (·.map oU),e.length=s:=by
   intro e pb;obtain⟨e0,h0,rfl⟩:=List.mem_map.1 pb;rw[List.length_map];exact he e0 h0
  simp only[Option.map_some];rw[←h1,←h2,gf h3]
theorem ab.LY {P:Pv} {ops:Array Oper} {rest:List Oper} {fr aD:Fr} {Q:Fr→St→Prop} {ty:TypeId} {pp:String} {a:Array Edge} {g:Option (Nat×Bool)} {dst:Nat} {t:TypeId} {xo io:Operand} {b:List UInt8} {kk:IntKind} {i:Nat} {c:UInt8} (hg:aB ops fr ⟨some dst,.index t xo io,ty,pp,a,g⟩=some true) (hx:fr.ev xo=.str b) (hi:fr.ev io=.int kk (i:Nat)) (ht:P.cC t=some .string) (hc:b[i]?=some c) (hp:fr.put dst (.int .u8 (c.toNat:Nat))=aD)
  (h:ab P ops rest aD st Q):ab P ops (⟨some dst,.index t xo io,ty,pp,a,g⟩::rest) fr st Q:=by
 refine ab.go hg rfl (d:=.int .u8 (c.toNat:Nat)) (st1:=st) ?_ hp h;simp only[dF,hx,hi,uF,ht];rw[if_pos (by omega),Int.toNat_natCast,hc];rfl
end Go.V
namespace Go.Proofs.Ytnleclohocdkaaa
open Go.V
noncomputable def PD : Tr TypeInfo := (.node 119 (.node 59 (.node 29 (.node 14 (.node 7 (.node 3 (.node 1 (.leaf Try.t0) (.node 2 (.leaf Try.t1) (.leaf Try.t2))) (.node 5 (.node 4 (.leaf Try.t3) (.leaf Try.t4)) (.node 6 (.leaf Try.t5) (.leaf Try.t6)))) (.node 10 (.node 8 (.leaf Try.t7) (.node 9 (.leaf Try.t8) (.leaf Try.t9))) (.node 12 (.node 11 (.leaf Try.t10) (.leaf Try.t11)) (.node 13 (.leaf Try.t12) (.leaf Try.t13))))) (.node 21 (.node 17 (.node 15 (.leaf Try.t14) (.node 16 (.leaf Try.t15) (.leaf Try.t16))) (.node 19 (.node 18 (.leaf Try.t17) (.leaf Try.t18)) (.node 20 (.leaf Try.t19) (.leaf Try.t20)))) (.node 25 (.node 23 (.node 22 (.leaf Try.t21) (.leaf Try.t22)) (.node 24 (.leaf Try.t23) (.leaf Try.t24))) (.node 27 (.node 26 (.leaf Try.t25) (.leaf Try.t26)) (.node 28 (.leaf Try.t27) (.leaf Try.t28)))))) (.node 44 (.node 36 (.node 32 (.node 30 (.leaf Try.t29) (.node 31 (.leaf Try.t30) (.leaf Try.t31))) (.node 34 (.node 33 (.leaf Try.t32) (.leaf Try.t33)) (.node 35 (.leaf Try.t34) (.leaf Try.t35)))) (.node 40 (.node 38 (.node 37 (.leaf Try.t36) (.leaf Try.t37)) (.node 39 (.leaf Try.t38) (.leaf Try.t39))) (.node 42 (.node 41 (.leaf Try.t40) (.leaf Try.t41)) (.node 43 (.leaf Try.t42) (.leaf Try.t43))))) (.node 51 (.node 47 (.node 45 (.leaf Try.t44) (.node 46 (.leaf Try.t45) (.leaf Try.t46))) (.node 49 (.node 48 (.leaf Try.t47) (.leaf Try.t48)) (.node 50 (.leaf Try.t49) (.leaf Try.t50)))) (.node 55 (.node 53 (.node 52 (.leaf Try.t51) (.leaf Try.t52)) (.node 54 (.leaf Try.t53) (.leaf Try.t54))) (.node 57 (.node 56 (.leaf Try.t55) (.leaf Try.t56)) (.node 58 (.leaf Try.t57) (.leaf Try.t58))))))) (.node 89 (.node 74 (.node 66 (.node 62 (.node 60 (.leaf Try.t59) (.node 61 (.leaf Try.t60) (.leaf Try.t61))) (.node 64 (.node 63 (.leaf Try.t62) (.leaf Try.t63)) (.node 65 (.leaf Try.t64) (.leaf Try.t65)))) (.node 70 (.node 68 (.node 67 (.leaf Try.t66) (.leaf Try.t67)) (.node 69 (.leaf Try.t68) (.leaf Try.t69))) (.node 72 (.node 71 (.leaf Try.t70) (.leaf Try.t71)) (.node 73 (.leaf Try.t72) (.leaf Try.t73))))) (.node 81 (.node 77 (.node 75 (.leaf Try.t74) (.node 76 (.leaf Try.t75) (.leaf Try.t76))) (.node 79 (.node 78 (.leaf Try.t77) (.leaf Try.t78)) (.node 80 (.leaf Try.t79) (.leaf Try.t80)))) (.node 85 (.node 83 (.node 82 (.leaf Try.t81) (.leaf Try.t82)) (.node 84 (.leaf Try.t83) (.leaf Try.t84))) (.node 87 (.node 86 (.leaf Try.t85) (.leaf Try.t86)) (.node 88 (.leaf Try.t87) (.leaf Try.t88)))))) (.node 104 (.node 96 (.node 92 (.node 90 (.leaf Try.t89) (.node 91 (.leaf Try.t90) (.leaf Try.t91))) (.node 94 (.node 93 (.leaf Try.t92) (.leaf Try.t93)) (.node 95 (.leaf Try.t94) (.leaf Try.t95)))) (.node 100 (.node 98 (.node 97 (.leaf Try.t96) (.leaf Try.t97)) (.node 99 (.leaf Try.t98) (.leaf Try.t99))) (.node 102 (.node 101 (.leaf Try.t100) (.leaf Try.t101)) (.node 103 (.leaf Try.t102) (.leaf Try.t103))))) (.node 111 (.node 107 (.node 105 (.leaf Try.t104) (.node 106 (.leaf Try.t105) (.leaf Try.t106))) (.node 109 (.node 108 (.leaf Try.t107) (.leaf Try.t108)) (.node 110 (.leaf Try.t109) (.leaf Try.t110)))) (.node 115 (.node 113 (.node 112 (.leaf Try.t111) (.leaf Try.t112)) (.node 114 (.leaf Try.t113) (.leaf Try.t114))) (.node 117 (.node 116 (.leaf Try.t115) (.leaf Try.t116)) (.node 118 (.leaf Try.t117) (.leaf Try.t118)))))))) (.node 179 (.node 149 (.node 134 (.node 126 (.node 122 (.node 120 (.leaf Try.t119) (.node 121 (.leaf Try.t120) (.leaf Try.t121))) (.node 124 (.node 123 (.leaf Try.t122) (.leaf Try.t123)) (.node 125 (.leaf Try.t124) (.leaf Try.t125)))) (.node 130 (.node 128 (.node 127 (.leaf Try.t126) (.leaf Try.t127)) (.node 129 (.leaf Try.t128) (.leaf Try.t129))) (.node 132 (.node 131 (.leaf Try.t130) (.leaf Try.t131)) (.node 133 (.leaf Try.t132) (.leaf Try.t133))))) (.node 141 (.node 137 (.node 135 (.leaf Try.t134) (.node 136 (.leaf Try.t135) (.leaf Try.t136))) (.node 139 (.node 138 (.leaf Try.t137) (.leaf Try.t138)) (.node 140 (.leaf Try.t139) (.leaf Try.t140)))) (.node 145 (.node 143 (.node 142 (.leaf Try.t141) (.leaf Try.t142)) (.node 144 (.leaf Try.t143) (.leaf Try.t144))) (.node 147 (.node 146 (.leaf Try.t145) (.leaf Try.t146)) (.node 148 (.leaf Try.t147) (.leaf Try.t148)))))) (.node 164 (.node 156 (.node 152 (.node 150 (.leaf Try.t149) (.node 151 (.leaf Try.t150) (.leaf Try.t151))) (.node 154 (.node 153 (.leaf Try.t152) (.leaf Try.t153)) (.node 155 (.leaf Try.t154) (.leaf Try.t155)))) (.node 160 (.node 158 (.node 157 (.leaf Try.t156) (.leaf Try.t157)) (.node 159 (.leaf Try.t158) (.leaf Try.t159))) (.node 162 (.node 161 (.leaf Try.t160) (.leaf Try.t161)) (.node 163 (.leaf Try.t162) (.leaf Try.t163))))) (.node 171 (.node 167 (.node 165 (.leaf Try.t164) (.node 166 (.leaf Try.t165) (.leaf Try.t166))) (.node 169 (.node 168 (.leaf Try.t167) (.leaf Try.t168)) (.node 170 (.leaf Try.t169) (.leaf Try.t170)))) (.node 175 (.node 173 (.node 172 (.leaf Try.t171) (.leaf Try.t172)) (.node 174 (.leaf Try.t173) (.leaf Try.t174))) (.node 177 (.node 176 (.leaf Try.t175) (.leaf Try.t176)) (.node 178 (.leaf Try.t177) (.leaf Try.t178))))))) (.node 209 (.node 194 (.node 186 (.node 182 (.node 180 (.leaf Try.t179) (.node 181 (.leaf Try.t180) (.leaf Try.t181))) (.node 184 (.node 183 (.leaf Try.t182) (.leaf Try.t183)) (.node 185 (.leaf Try.t184) (.leaf Try.t185)))) (.node 190 (.node 188 (.node 187 (.leaf Try.t186) (.leaf Try.t187)) (.node 189 (.leaf Try.t188) (.leaf Try.t189))) (.node 192 (.node 191 (.leaf Try.t190) (.leaf Try.t191)) (.node 193 (.leaf Try.t192) (.leaf Try.t193))))) (.node 201 (.node 197 (.node 195 (.leaf Try.t194) (.node 196 (.leaf Try.t195) (.leaf Try.t196))) (.node 199 (.node 198 (.leaf Try.t197) (.leaf Try.t198)) (.node 200 (.leaf Try.t199) (.leaf Try.t200)))) (.node 205 (.node 203 (.node 202 (.leaf Try.t201) (.leaf Try.t202)) (.node 204 (.leaf Try.t203) (.leaf Try.t204))) (.node 207 (.node 206 (.leaf Try.t205) (.leaf Try.t206)) (.node 208 (.leaf Try.t207) (.leaf Try.t208)))))) (.node 224 (.node 216 (.node 212 (.node 210 (.leaf Try.t209) (.node 211 (.leaf Try.t210) (.leaf Try.t211))) (.node 214 (.node 213 (.leaf Try.t212) (.leaf Try.t213)) (.node 215 (.leaf Try.t214) (.leaf Try.t215)))) (.node 220 (.node 218 (.node 217 (.leaf Try.t216) (.leaf Try.t217)) (.node 219 (.leaf Try.t218) (.leaf Try.t219))) (.node 222 (.node 221 (.leaf Try.t220) (.leaf Try.t221)) (.node 223 (.leaf Try.t222) (.leaf Try.t223))))) (.node 231 (.node 227 (.node 225 (.leaf Try.t224) (.node 226 (.leaf Try.t225) (.leaf Try.t226))) (.node 229 (.node 228 (.leaf Try.t227) (.leaf Try.t228)) (.node 230 (.leaf Try.t229) (.leaf Try.t230)))) (.node 235 (.node 233 (.node 232 (.leaf Try.t231) (.leaf Try.t232)) (.node 234 (.leaf Try.t233) (.leaf Try.t234))) (.node 237 (.node 236 (.leaf Try.t235) (.leaf Try.t236)) (.node 238 (.leaf Try.t237) (.leaf Try.t238)))))))))
noncomputable def QE:Tr Fi:=(.node 87 (.node 43 (.node 21 (.node 10 (.node 5 (.node 2 (.node 1 (.leaf ⟨Try.f0,0,.rw,false,none,[]⟩) (.leaf ⟨Try.f1,0,.rw,false,none,[]⟩)) (.node 3 (.leaf ⟨Try.f2,0,.rw,false,none,[]⟩) (.node 4 (.leaf ⟨Try.f3,71,.ro,false,none,[]⟩) (.leaf ⟨Try.f4,14,.ro,false,none,[]⟩)))) (.node 7 (.node 6 (.leaf ⟨Try.f5,14,.ro,false,none,[]⟩) (.leaf ⟨Try.f6,21,.ro,false,none,[]⟩)) (.node 8 (.leaf ⟨Try.f7,16,.ro,false,none,[]⟩) (.node 9 (.leaf ⟨Try.f8,20,.ro,false,none,[]⟩) (.leaf ⟨Try.f9,12,.ro,false,none,[]⟩))))) (.node 15 (.node 12 (.node 11 (.leaf ⟨Try.f10,27,.ro,false,none,[]⟩) (.leaf ⟨Try.f11,24,.ro,false,none,[]⟩)) (.node 13 (.leaf ⟨Try.f12,18,.ro,false,none,[]⟩) (.node 14 (.leaf ⟨Try.f13,6,.ro,false,none,[]⟩) (.leaf ⟨Try.f14,6,.bO,false,none,[]⟩)))) (.node 18 (.node 16 (.leaf ⟨Try.f15,7,.ro,false,none,[]⟩) (.node 17 (.leaf ⟨Try.f16,49,.ro,false,none,[]⟩) (.leaf ⟨Try.f17,8,.ro,false,none,[]⟩))) (.node 19 (.leaf ⟨Try.f18,3,.ro,false,none,[]⟩) (.node 20 (.leaf ⟨Try.f19,6,.ro,false,none,[]⟩) (.leaf ⟨Try.f20,9,.ro,false,none,[]⟩)))))) (.node 32 (.node 26 (.node 23 (.node 22 (.leaf ⟨Try.f21,8,.ro,false,none,[(6,[(6,12),(8,12),(9,12)])]⟩) (.leaf ⟨Try.f22,8,.ro,false,none,[(6,[(6,10),(7,10)])]⟩)) (.node 24 (.leaf ⟨Try.f23,21,.ro,false,none,[]⟩) (.node 25 (.leaf ⟨Try.f24,5,.ro,false,none,[]⟩) (.leaf ⟨Try.f25,11,.ro,false,none,[]⟩)))) (.node 29 (.node 27 (.leaf ⟨Try.f26,7,.ro,false,none,[]⟩) (.node 28 (.leaf ⟨Try.f27,89,.ro,false,none,[]⟩) (.leaf ⟨Try.f28,6,.ro,false,none,[]⟩))) (.node 30 (.leaf ⟨Try.f29,11,.ro,false,none,[]⟩) (.node 31 (.leaf ⟨Try.f30,11,.ro,false,none,[]⟩) (.leaf ⟨Try.f31,5,.ro,false,none,[]⟩))))) (.node 37 (.node 34 (.node 33 (.leaf ⟨Try.f32,11,.ro,false,none,[]⟩) (.leaf ⟨Try.f33,26,.ro,false,none,[]⟩)) (.node 35 (.leaf ⟨Try.f34,6,.bO,false,none,[]⟩) (.node 36 (.leaf ⟨Try.f35,13,.bO,false,none,[(3,[(3,8)])]⟩) (.leaf ⟨Try.f36,6,.ro,false,none,[]⟩)))) (.node 40 (.node 38 (.leaf ⟨Try.f37,13,.bO,false,none,[]⟩) (.node 39 (.leaf ⟨Try.f38,4,.rw,false,none,[]⟩) (.leaf ⟨Try.f39,7,.rw,false,none,[]⟩))) (.node 41 (.leaf ⟨Try.f40,4,.ro,false,none,[]⟩) (.node 42 (.leaf ⟨Try.f41,36,.rw,false,none,[]⟩) (.leaf ⟨Try.f42,16,.rw,false,none,[]⟩))))))) (.node 65 (.node 54 (.node 48 (.node 45 (.node 44 (.leaf ⟨Try.f43,5,.bO,false,none,[]⟩) (.leaf ⟨Try.f44,40,.bO,false,none,[]⟩)) (.node 46 (.leaf ⟨Try.f45,9,.ro,false,none,[]⟩) (.node 47 (.leaf ⟨Try.f46,6,.ro,false,none,[]⟩) (.leaf ⟨Try.f47,29,.ro,false,none,[]⟩)))) (.node 51 (.node 49 (.leaf ⟨Try.f48,39,.ro,false,none,[]⟩) (.node 50 (.leaf ⟨Try.f49,5,.ro,false,none,[]⟩) (.leaf ⟨Try.f50,41,.ro,false,none,[]⟩))) (.node 52 (.leaf ⟨Try.f51,22,.ro,false,none,[(13,[(3,5)])]⟩) (.node 53 (.leaf ⟨Try.f52,8,.ro,false,none,[]⟩) (.leaf ⟨Try.f53,5,.ro,false,none,[]⟩))))) (.node 59 (.node 56 (.node 55 (.leaf ⟨Try.f54,10,.ro,false,none,[]⟩) (.leaf ⟨Try.f55,5,.bO,false,none,[]⟩)) (.node 57 (.leaf ⟨Try.f56,12,.bO,false,none,[]⟩) (.node 58 (.leaf ⟨Try.f57,6,.ro,false,none,[]⟩) (.leaf ⟨Try.f58,4,.ro,false,none,[]⟩)))) (.node 62 (.node 60 (.leaf ⟨Try.f59,13,.ro,false,none,[]⟩) (.node 61 (.leaf ⟨Try.f60,12,.bO,false,none,[]⟩) (.leaf ⟨Try.f61,9,.ro,false,none,[]⟩))) (.node 63 (.leaf ⟨Try.f62,14,.rw,false,none,[]⟩) (.node 64 (.leaf ⟨Try.f63,10,.bO,false,none,[]⟩) (.leaf ⟨Try.f64,4,.ro,false,none,[]⟩)))))) (.node 76 (.node 70 (.node 67 (.node 66 (.leaf ⟨Try.f65,3,.rw,false,none,[(1,[(3,8)])]⟩) (.leaf ⟨Try.f66,6,.bO,false,none,[]⟩)) (.node 68 (.leaf ⟨Try.f67,11,.bO,false,none,[]⟩) (.node 69 (.leaf ⟨Try.f68,25,.bO,false,none,[]⟩) (.leaf ⟨Try.f69,6,.ro,false,none,[]⟩)))) (.node 73 (.node 71 (.leaf ⟨Try.f70,37,.bO,false,none,[(10,[(4,5)])]⟩) (.node 72 (.leaf ⟨Try.f71,4,.rw,false,none,[]⟩) (.leaf ⟨Try.f72,5,.rw,false,none,[]⟩))) (.node 74 (.leaf ⟨Try.f73,27,.ro,false,none,[]⟩) (.node 75 (.leaf ⟨Try.f74,8,.rw,false,none,[]⟩) (.leaf ⟨Try.f75,68,.bO,false,none,[]⟩))))) (.node 81 (.node 78 (.node 77 (.leaf ⟨Try.f76,78,.bO,false,none,[]⟩) (.leaf ⟨Try.f77,3,.ro,false,none,[]⟩)) (.node 79 (.leaf ⟨Try.f78,5,.ro,false,none,[]⟩) (.node 80 (.leaf ⟨Try.f79,13,.ro,false,none,[]⟩) (.leaf ⟨Try.f80,5,.ro,false,none,[]⟩)))) (.node 84 (.node 82 (.leaf ⟨Try.f81,8,.bO,false,none,[]⟩) (.node 83 (.leaf ⟨Try.f82,12,.bO,false,none,[]⟩) (.leaf ⟨Try.f83,4,.ro,false,none,[]⟩))) (.node 85 (.leaf ⟨Try.f84,24,.bO,false,none,[]⟩) (.node 86 (.leaf ⟨Try.f85,5,.ro,false,none,[]⟩) (.leaf ⟨Try.f86,5,.rw,false,none,[]⟩)))))))) (.node 130 (.node 108 (.node 97 (.node 92 (.node 89 (.node 88 (.leaf ⟨Try.f87,2,.rw,false,none,[]⟩) (.leaf ⟨Try.f88,3,.rw,false,none,[]⟩)) (.node 90 (.leaf ⟨Try.f89,11,.rw,false,none,[]⟩) (.node 91 (.leaf ⟨Try.f90,9,.bO,false,none,[]⟩) (.leaf ⟨Try.f91,4,.bO,false,none,[]⟩)))) (.node 94 (.node 93 (.leaf ⟨Try.f92,14,.ro,false,none,[]⟩) (.leaf ⟨Try.f93,4,.ro,false,none,[]⟩)) (.node 95 (.leaf ⟨Try.f94,1,.bO,false,none,[]⟩) (.node 96 (.leaf ⟨Try.f95,10,.ro,false,none,[]⟩) (.leaf ⟨Try.f96,7,.bO,false,none,[]⟩))))) (.node 102 (.node 99 (.node 98 (.leaf ⟨Try.f97,33,.bO,false,none,[(8,[(9,12)])]⟩) (.leaf ⟨Try.f98,5,.rw,false,none,[]⟩)) (.node 100 (.leaf ⟨Try.f99,5,.rw,false,none,[]⟩) (.node 101 (.leaf ⟨Try.f100,11,.ro,false,none,[]⟩) (.leaf ⟨Try.f101,4,.rw,false,none,[]⟩)))) (.node 105 (.node 103 (.leaf ⟨Try.f102,14,.ro,false,none,[]⟩) (.node 104 (.leaf ⟨Try.f103,26,.ro,false,none,[]⟩) (.leaf ⟨Try.f104,6,.ro,false,none,[]⟩))) (.node 106 (.leaf ⟨Try.f105,30,.ro,false,none,[(22,[(3,7),(5,7),(5,9)])]⟩) (.node 107 (.leaf ⟨Try.f106,7,.ro,false,none,[]⟩) (.leaf ⟨Try.f107,4,.rw,false,none,[]⟩)))))) (.node 119 (.node 113 (.node 110 (.node 109 (.leaf ⟨Try.f108,2,.rw,false,none,[]⟩) (.leaf ⟨Try.f109,9,.rw,false,none,[]⟩)) (.node 111 (.leaf ⟨Try.f110,6,.rw,false,none,[]⟩) (.node 112 (.leaf ⟨Try.f111,26,.rw,false,none,[]⟩) (.leaf ⟨Try.f112,14,.rw,false,none,[]⟩)))) (.node 116 (.node 114 (.leaf ⟨Try.f113,4,.ro,false,none,[]⟩) (.node 115 (.leaf ⟨Try.f114,20,.ro,false,none,[]⟩) (.leaf ⟨Try.f115,5,.rw,false,none,[]⟩))) (.node 117 (.leaf ⟨Try.f116,5,.ro,false,none,[]⟩) (.node 118 (.leaf ⟨Try.f117,7,.ro,false,none,[]⟩) (.leaf ⟨Try.f118,6,.ro,false,none,[]⟩))))) (.node 124 (.node 121 (.node 120 (.leaf ⟨Try.f119,7,.bO,false,none,[]⟩) (.leaf ⟨Try.f120,5,.rw,false,none,[]⟩)) (.node 122 (.leaf ⟨Try.f121,7,.rw,false,none,[]⟩) (.node 123 (.leaf ⟨Try.f122,7,.rw,false,none,[]⟩) (.leaf ⟨Try.f123,61,.rw,true,none,[]⟩)))) (.node 127 (.node 125 (.leaf ⟨Try.f124,1,.ro,false,none,[]⟩) (.node 126 (.leaf ⟨Try.f125,3,.ro,false,none,[]⟩) (.leaf ⟨Try.f126,6,.rw,false,none,[(7,[(0,4)])]⟩))) (.node 128 (.leaf ⟨Try.f127,5,.ro,false,none,[]⟩) (.node 129 (.leaf ⟨Try.f128,12,.ro,false,none,[]⟩) (.leaf ⟨Try.f129,21,.rw,false,none,[]⟩))))))) (.node 152 (.node 141 (.node 135 (.node 132 (.node 131 (.leaf ⟨Try.f130,3,.rw,false,none,[]⟩) (.leaf ⟨Try.f131,8,.rw,false,none,[]⟩)) (.node 133 (.leaf ⟨Try.f132,11,.ro,false,none,[]⟩) (.node 134 (.leaf ⟨Try.f133,3,.ro,false,none,[]⟩) (.leaf ⟨Try.f134,3,.rw,false,none,[]⟩)))) (.node 138 (.node 136 (.leaf ⟨Try.f135,5,.rw,false,none,[]⟩) (.node 137 (.leaf ⟨Try.f136,3,.rw,false,none,[(1,[(4,8)])]⟩) (.leaf ⟨Try.f137,10,.rw,false,none,[]⟩))) (.node 139 (.leaf ⟨Try.f138,13,.rw,false,none,[]⟩) (.node 140 (.leaf ⟨Try.f139,13,.rw,false,none,[]⟩) (.leaf ⟨Try.f140,56,.rw,false,none,[]⟩))))) (.node 146 (.node 143 (.node 142 (.leaf ⟨Try.f141,10,.rw,false,none,[]⟩) (.leaf ⟨Try.f142,13,.rw,false,none,[]⟩)) (.node 144 (.leaf ⟨Try.f143,13,.rw,false,none,[]⟩) (.node 145 (.leaf ⟨Try.f144,14,.rw,false,none,[]⟩) (.leaf ⟨Try.f145,3,.rw,false,none,[]⟩)))) (.node 149 (.node 147 (.leaf ⟨Try.f146,3,.rw,false,none,[]⟩) (.node 148 (.leaf ⟨Try.f147,29,.rw,true,none,[]⟩) (.leaf ⟨Try.f148,1,.rw,false,none,[]⟩))) (.node 150 (.leaf ⟨Try.f149,12,.rw,false,none,[]⟩) (.node 151 (.leaf ⟨Try.f150,3,.rw,false,none,[]⟩) (.leaf ⟨Try.f151,3,.rw,false,none,[]⟩)))))) (.node 163 (.node 157 (.node 154 (.node 153 (.leaf ⟨Try.f152,9,.rw,false,none,[]⟩) (.leaf ⟨Try.f153,13,.rw,false,none,[]⟩)) (.node 155 (.leaf ⟨Try.f154,1,.rw,false,none,[]⟩) (.node 156 (.leaf ⟨Try.f155,12,.rw,false,none,[]⟩) (.leaf ⟨Try.f156,1,.rw,false,none,[]⟩)))) (.node 160 (.node 158 (.leaf ⟨Try.f157,1,.rw,false,none,[]⟩) (.node 159 (.leaf ⟨Try.f158,1,.rw,false,none,[]⟩) (.leaf ⟨Try.f159,1,.rw,false,none,[]⟩))) (.node 161 (.leaf ⟨Try.f160,1,.rw,false,none,[]⟩) (.node 162 (.leaf ⟨Try.f161,1,.rw,false,none,[]⟩) (.leaf ⟨Try.f162,1,.rw,false,none,[]⟩))))) (.node 168 (.node 165 (.node 164 (.leaf ⟨Try.f163,1,.rw,false,none,[]⟩) (.leaf ⟨Try.f164,1,.rw,false,none,[]⟩)) (.node 166 (.leaf ⟨Try.f165,1,.rw,false,none,[]⟩) (.node 167 (.leaf ⟨Try.f166,1,.rw,false,none,[]⟩) (.leaf ⟨Try.f167,1,.rw,false,none,[]⟩)))) (.node 171 (.node 169 (.leaf ⟨Try.f168,1,.rw,false,none,[]⟩) (.node 170 (.leaf ⟨Try.f169,1,.rw,false,none,[]⟩) (.leaf ⟨Try.f170,1,.rw,false,none,[]⟩))) (.node 172 (.leaf ⟨Try.f171,1,.rw,false,none,[]⟩) (.node 173 (.leaf ⟨Try.f172,1,.rw,false,none,[]⟩) (.leaf ⟨Try.f173,1,.rw,false,none,[]⟩)))))))))
noncomputable def iZ:Pv:=⟨PD,239,QE,174,[7,8,30,31,38,39,41,42,55,56,63,64,79,80,84,85,97,98,100,101,103,104,113,114,120,121,124,125,127,128,130,131,139,140,147,148,162,163,176,177,178,179,199,200,229],[]⟩
end Go.Proofs.Ytnleclohocdkaaa
