/-
 Steps that need no word of their own, a run of them at once: 'refine zQ COUNT ?_'. By program (tools/genhr.py).
-/
import Derived.Test.YtkbacjpologjbaaGreatWM2
import Derived.Test.YtkbacjpologjbaaGreatChecked
import Derived.Test.YtkbacjpologjbaaGreatWM4
set_option linter.unusedVariables false
set_option linter.unusedSectionVars false
set_option linter.unusedSimpArgs false
set_option maxRecDepth 100000
open Nat renaming reduceAdd→γ,reduceSub→δ
open List renaming set_cons_succ→ε,set_cons_zero→ζ,length→η,map→ι,getElem?_take→ν,length_take→ξ,length_map→ρ,map_cons→ς
open Go.V.Fr renaming put→θ,clean→κ,get→μ,ev→ο,fN→π
namespace Go.V
variable{P:Pv} {ops:Array Oper} {rest:List Oper} {fr aG:Fr} {st st1:St} {Q:Fr→St→Prop} {ty:TypeId} {pp:String} {a:Array Edge} {g:Option (Nat×Bool)} {dst:Nat} {N:Nat} {S:St} {H:List a8} {d:D} {op:Op}
inductive Rn:Nat→Prop→Prop→Prop where
 |z (G:Prop):Rn 0 G G
 |s {n:Nat} {G G1 G':Prop} (h:True∧G1→G) (t:Rn n G' G1):Rn (n+1) G' G
variable{G G':Prop}
theorem Rn.go {n:Nat} (h:Rn n G' G):G'→G:=by
 induction h with
 |z=>exact id
 |s h _ ih=>exact fun k=>h ⟨trivial,ih k⟩
variable{j k aB off:Nat}{ao:Operand}
theorem qL {ar:Bool} {c:List D} {d:D} {t:TypeId} (hH:Has N S st H) (h:ab P ops rest aG st Q) (hg:aD ops fr ⟨some dst,.load t ao,ty,pp,a,g⟩=some true:=by exact rfl) (ha:fr.ev ao=.ptr k aB off:=by exact ev rfl) (hj:H[j]?=some (.box k (.mem aB ar c)):=by first|exact aJ|exact bt|exact cU|exact di|exact ie|exact ke|exact o7|exact oX) (hd:dY P t (c.drop off)=some d:=by exact rfl) (hp:fr.put dst d=aG:=by first|exact aa rfl _|(dsimp only[Fr.put,List.set_cons_succ,List.set_cons_zero]<;>rfl)):ab P ops (⟨some dst,.load t ao,ty,pp,a,g⟩::rest) fr st Q:=
 ab.vu (hH:=hH) (hg:=hg) (ha:=ha) (hj:=hj) (hd:=hd) (hp:=hp) (h:=h)
variable{o:Nat}
theorem qO {t:TypeId} {x y d:D} {s i:Nat} {es:List (List D)} {r:List D} (hH:Has N S st H) (h:ab P ops rest aG st Q) (hg:aD ops fr ⟨some dst,.load t ao,ty,pp,a,g⟩=some true:=by exact rfl) (ha:fr.ev ao=y:=by exact ev rfl) (hR:tD x s i o y:=by assumption) (hj:H[j]?=some (.aC x s es):=by first|exact aJ|exact bt|exact cU|exact di|exact ie|exact ke|exact o7|exact oX) (hr:es[i]?=some r:=by assumption) (hd:dY P t (r.drop o)=some d:=by exact rfl) (hp:fr.put dst d=aG:=by first|exact aa rfl _|(dsimp only[Fr.put,List.set_cons_succ,List.set_cons_zero]<;>rfl)):ab P ops (⟨some dst,.load t ao,ty,pp,a,g⟩::rest) fr st Q:=
 ab.pw (hH:=hH) (hg:=hg) (ha:=ha) (hR:=hR) (hj:=hj) (hr:=hr) (hd:=hd) (hp:=hp) (h:=h)
variable{t:Nat}{w v:Bool}
theorem wI {ops:Array Oper} {fr:Fr} {o:Oper} (h1:o.guard=some (j,w):=by exact rfl) (h2:(ops[j]?).bind (·.dst)=some t:=by exact rfl) (h3:fr.get t=.bool v:=by exact rfl) (h4:v=w:=by assumption):aD ops fr o=some true:=aj h1 h2 h3 h4
theorem wN {ops:Array Oper} {fr:Fr} {o:Oper} (h1:o.guard=some (j,w):=by exact rfl) (h2:(ops[j]?).bind (·.dst)=some t:=by exact rfl) (h3:fr.get t=.bool v:=by exact rfl) (h4:v=!w:=by assumption):aD ops fr o=some false:=nK h1 h2 h3 h4
theorem qW {t:TypeId} {xo:Operand} {f fo m:Nat} {fields:Array Field} (h:ab P ops rest aG st Q) (hg:aD ops fr ⟨some dst,.fieldAddr t xo f,ty,pp,a,g⟩=some true:=by exact rfl) (hx:fr.ev xo=.ptr k aB off:=by exact ev rfl) (ht:P.cy t=some (.struct fields):=by exact rfl) (hf:nz P fields f=some (fo,some (m+1)):=by exact rfl) (ho:off+fo=o:=by first|exact(rfl:_=0)|exact(rfl:_=1)|exact(rfl:_=2)|exact(rfl:_=3)|exact(rfl:_=4)|exact(rfl:_=5)|exact(rfl:_=6)|exact(rfl:_=7)|exact(rfl:_=8)|exact(rfl:_=9)|exact(rfl:_=10)|exact(rfl:_=11)|exact(rfl:_=12)|exact(rfl:_=13)|exact(rfl:_=14)|exact(rfl:_=15)|exact(rfl:_=16)|exact(rfl:_=17)|exact(rfl:_=18)|exact(rfl:_=19)) (hp:fr.put dst (.ptr k aB o)=aG:=by first|exact aa rfl _|(dsimp only[Fr.put,List.set_cons_succ,List.set_cons_zero]<;>rfl)):ab P ops (⟨some dst,.fieldAddr t xo f,ty,pp,a,g⟩::rest) fr st Q:=
 ab.HP (hg:=hg) (hx:=hx) (ht:=ht) (hf:=hf) (ho:=ho) (hp:=hp) (h:=h)
variable{c x y:Operand}
theorem qU (h:ab P ops rest aG st Q) (hg:aD ops fr ⟨some dst,.pick c x y,ty,pp,a,g⟩=some true:=by exact rfl) (hc:fr.ev c=.bool v:=by exact rfl) (hv:v=true:=by assumption) (hp:fr.put dst (fr.ev x)=aG:=by first|exact aa rfl _|(dsimp only[Fr.put,List.set_cons_succ,List.set_cons_zero]<;>rfl)):ab P ops (⟨some dst,.pick c x y,ty,pp,a,g⟩::rest) fr st Q:=
 ab.c9 (hg:=hg) (hc:=hc) (hv:=hv) (hp:=hp) (h:=h)
theorem qV (h:ab P ops rest aG st Q) (hg:aD ops fr ⟨some dst,.pick c x y,ty,pp,a,g⟩=some true:=by exact rfl) (hc:fr.ev c=.bool v:=by exact rfl) (hv:v=false:=by assumption) (hp:fr.put dst (fr.ev y)=aG:=by first|exact aa rfl _|(dsimp only[Fr.put,List.set_cons_succ,List.set_cons_zero]<;>rfl)):ab P ops (⟨some dst,.pick c x y,ty,pp,a,g⟩::rest) fr st Q:=
 ab.c_ (hg:=hg) (hc:=hc) (hv:=hv) (hp:=hp) (h:=h)
theorem zQ (n:Nat) (k:G') (h:Rn n G' G:=by
  repeat(apply Rn.s;focus (intro k;first
   |refine ab.nil ?_;exact k.2
   |refine qq ?_;exact k.2
   |refine ag.ei ?_;exact k.2
   |refine ag.block ?_;exact k.2
   |refine ag.skip ?_;exact k.2
   |refine ag.exit ?_;exact k.2
   |refine qm ?_;exact k.2
   |refine qs ?_;exact k.2
   |refine qm ?_ (hg:=wI);exact k.2
   |refine qs ?_ (hg:=wN);exact k.2
   |refine qW ?_;exact k.2
   |refine qW ?_ (hg:=wI);exact k.2
   |refine qL z5 ?_;exact k.2
   |refine qL z5 ?_ (hg:=wI);exact k.2
   |refine qO z5 ?_;exact k.2
   |refine qO z5 ?_ (hg:=wI);exact k.2
   |refine qR ?_;exact k.2
   |refine qR ?_ (hg:=wI);exact k.2
   |refine qA ?_;exact k.2
   |refine qA ?_ (hg:=wI);exact k.2
   |refine qU ?_;exact k.2
   |refine qU ?_ (hg:=wI);exact k.2
   |refine qV ?_;exact k.2
   |refine qV ?_ (hg:=wI);exact k.2
   |refine qg ?_;exact k.2
   |refine qg ?_ (hg:=wI);exact k.2
   |refine qB ?_;exact k.2
   |refine qC ?_;exact k.2
   ))
  exact Rn.z _):G:=h.go k
theorem zU (k:G') (h:True∧G'→G:=by intro k;(repeat refine qq ?_);refine ag.ei ?_;exact k.2):G:=h ⟨trivial,k⟩
theorem zX (k:G') (h:True∧G'→G:=by intro k;(repeat(first|refine xT ?_|refine xL ?_|refine xN ?_|refine xo ?_|refine xp ?_));exact k.2):G:=h ⟨trivial,k⟩
theorem zY (k:G') (h:True∧G'→G:=by intro k;(repeat(first|refine xT ?_|refine xL ?_|refine xN ?_|refine xo ?_|refine xp ?_|simp(disch:=omega) only[decide_eq_true,decide_eq_false,eU,gZ,eT,gY]));exact k.2):G:=h ⟨trivial,k⟩
theorem zW (k:G') (h:True∧G'→G:=by intro k;(first|refine xT ?_|refine xL ?_|refine xN ?_|refine xo ?_|refine xp ?_);exact k.2):G:=h ⟨trivial,k⟩
theorem zN (k:G') (h:True∧G'→G:=by intro k;refine ab.nil ?_;(try dsimp only[Fr.fN,Fr.put,Fr.clean,Fr.ev,Fr.get,nth,V.look,u1,u2,v1,v2,v3,v4,v5,v6,v7,List.length,u3,u4,Nat.reduceSub,Nat.reduceAdd,List.map]);exact k.2):G:=h ⟨trivial,k⟩
theorem zR (k:G') (h:True∧G'→G:=by intro k;(repeat refine qq ?_);refine ag.ei ?_;(repeat(first|refine xT ?_|refine xL ?_|refine xN ?_|refine xo ?_|refine xp ?_));refine ab.nil ?_;(try dsimp only[Fr.fN,Fr.put,Fr.clean,Fr.ev,Fr.get,nth,V.look,u1,u2,v1,v2,v3,v4,v5,v6,v7,List.length,u3,u4,Nat.reduceSub,Nat.reduceAdd,List.map]);exact k.2):G:=h ⟨trivial,k⟩
theorem zV (k:G') (h:True∧G'→G:=by intro k;(repeat refine qq ?_);refine ag.ei ?_;(repeat(first|refine xT ?_|refine xL ?_|refine xN ?_|refine xo ?_|refine xp ?_|simp(disch:=omega) only[decide_eq_true,decide_eq_false,eU,gZ,eT,gY]));refine ab.nil ?_;(try dsimp only[Fr.fN,Fr.put,Fr.clean,Fr.ev,Fr.get,nth,V.look,u1,u2,v1,v2,v3,v4,v5,v6,v7,List.length,u3,u4,Nat.reduceSub,Nat.reduceAdd,List.map]);exact k.2):G:=h ⟨trivial,k⟩
theorem zE (k:G') (h:True∧G'→G:=by intro k;dsimp only[u3,u4,List.length,Nat.reduceSub,Nat.reduceAdd,w1,w2];exact k.2):G:=h ⟨trivial,k⟩
theorem zF (k:G') (h:True∧G'→G:=by intro k;dsimp only[Fr.fN,Fr.put,Fr.clean,Fr.ev,Fr.get,nth,V.look,u1,u2,v1,v2,v3,v4,v5,v6,v7,List.length,u3,u4,Nat.reduceSub,Nat.reduceAdd,List.map];exact k.2):G:=h ⟨trivial,k⟩
theorem zG (k:G') (h:True∧G'→G:=by intro k;dsimp only[aI,List.foldl,nth,u2,u1];dsimp only[Fr.fN,Fr.put,Fr.clean,Fr.ev,Fr.get,nth,V.look,u1,u2,v1,v2,v3,v4,v5,v6,v7,List.length,u3,u4,Nat.reduceSub,Nat.reduceAdd,List.map];exact k.2):G:=h ⟨trivial,k⟩
theorem zS (h:G:=by dsimp only[Fr.fN,Fr.put,Fr.clean,Fr.ev,Fr.get,nth,V.look,u1,u2,v1,v2,v3,v4,v5,v6,v7,List.length,u3,u4,Nat.reduceSub,Nat.reduceAdd,List.map]):G:=h
variable{dy:Dy}{b:Code}
theorem zP {a:Code} {p:Prop} {hd:Decidable p} {Q:Out→Fr→St→Prop} (h1:p→ag P dy a fr st Q) (h2:¬p→ag P dy b fr st Q) (hv:fr.ev c=.bool (@decide p hd):=by rfl):ag P dy (.cond c a b) fr st Q:=ag.cond hv (fun h=>h1 (of_decide_eq_true h)) (fun h=>h2 (of_decide_eq_false h))
theorem zI {a:Code} {x y:Int} {Q:Out→Fr→St→Prop} (h1:x=y→ag P dy a fr st Q) (h2:¬x=y→ag P dy b fr st Q) (hv:fr.ev c=.bool (x==y):=by rfl):ag P dy (.cond c a b) fr st Q:=ag.cond hv (fun h=>h1 (eq_of_beq h)) (fun h=>h2 (ne_of_beq_false h))
end Go.V
namespace Go.V
variable{N:Nat} {S st:St} {H:List a8}
variable{s0:St}
theorem Has.bf (h:Has N S s0 H):Has N (ae .rw s0) (ae .rw s0) H:=
 ⟨Ex.refl _ _,Nat.le_trans h.hN h.ex.len,by show s0.ro≤N;rw[h.ex.ro];exact h.db,fun i e hi=>⟨e.loc (st:=s0) (ah:=ae .rw s0) (fun k _=>rfl) (h.ok i e hi).1,(h.ok i e hi).2⟩,h.dis⟩
variable{d:D}
theorem ai {kn:Bool} {st:St} {d':D} (hd:ba st s0.bs.length kn 16 d=some d'):dj .rw kn s0 st d=some (d',⟨st.bs.take s0.bs.length,s0.flr,s0.ro⟩):=by
 simp only[dj,hd]
variable{S2 st2:St}
theorem Has.yZ {H2:List a8} (h:Has N S s0 H) (hS:S2.bs=s0.bs) (h2:Has N S2 st2 H2) (hk:∀(i:Nat) e,H2[i]?=some e→∃e',H[i]?=some e'∧∀k,e.K k→e'.K k):Has N S ⟨st2.bs.take s0.bs.length,s0.flr,s0.ro⟩ H2:=by
 have hL:s0.bs.length≤st2.bs.length:=by have:=h2.ex.len;rw[hS] at this;exact this
 have hSL:=h.ex.len;have hNL:=h.hN;refine⟨⟨fun k mg=>?_,?_,h.ex.flr,h.ex.ro⟩,h.hN,h.db,fun i e hi=>?_,h2.dis⟩
 ·show(st2.bs.take s0.bs.length)[k]?=_;rw[ν,if_pos z0,h2.ex.low k mg,hS];exact h.ex.low k mg
 ·show _≤(st2.bs.take s0.bs.length).length;rw[ξ];omega
 ·obtain⟨e',tv,hkk⟩:=hk i e hi;have h3:=(h.ok i e' tv).2;refine⟨e.loc (fun k mg=>?_) (h2.ok i e hi).1,fun k mg=>⟨(h3 k (hkk k mg)).1,?_⟩⟩
  ·show(st2.bs.take s0.bs.length)[k]?=_;rw[ν,if_pos (h3 k (hkk k mg)).2]
  ·show k<(st2.bs.take s0.bs.length).length;rw[ξ];have:=(h3 k (hkk k mg)).2;omega
theorem Has.aq {k:Nat} {b b':jC} (h:Has N S s0 (.box k b::H)) (hS:S2.bs=s0.bs) (h2:Has N S2 st2 (.box k b'::H)):Has N S ⟨st2.bs.take s0.bs.length,s0.flr,s0.ro⟩ (.box k b'::H):=by
 refine h.yZ hS h2 fun i e hi=>?_
 cases i with
 |zero=>simp only[List.getElem?_cons_zero,Option.some.injEq] at hi;subst hi;exact⟨_,rfl,fun k hk=>hk⟩
 |succ i=>exact⟨e,hi,fun k hk=>hk⟩
variable{P:Pv}{j s:Nat}{x y:D}{es ys:List (List D)}{z:List D}
theorem Has.Fk {x':D} {ah:St} (hH:Has N S st H) (hj:H[j]?=some (.aC x s es)) (hy:Rows st s y ys) {t1 t2 e:TypeId} {td:TypeDesc} {inf:TypeInfo} (h1:P.cy t1=some (.slice e)) (h2:P.cy t2=some td) (h3:fh td=false) (h4:P.info e=some inf) (h5:dc P e=some z) (q1:bu P .append [t1,t2] [x,y] st=some (x',ah)):∀k,x'.ref=k+1→x.ref=k+1∨S.bs.length≤k:=by
 have hl:=hH.ex.len;have jI:=hy.row
 have B_:∀e∈ys,e.length=s:=fun e he=>by
  obtain⟨i,hi⟩:=List.getElem?_of_mem he;exact hy.vO i e hi
 have hown:=hH.own hj;simp only[bu,iG,h1,h2,h3,Bool.false_eq_true,if_false,h4,h5,jI,Option.bind_some] at q1
 split at q1
 ·cases q1
 ·cases hown with
  |nul=>
   simp only at q1
   split at q1
   ·cases q1;exact fun k hk=>.inl hk
   ·split at q1
    ·cases q1;exact fun k hk=>.inr (by simp only[D.ref] at hk;omega)
    ·cases q1
  |win k aB off es c hm hl hc he=>
   simp only[St.mem_of hm] at q1
   split at q1
   ·cases q1
   ·split at q1
    ·cases q1;exact fun k hk=>.inl hk
    ·split at q1
     ·cases q1;exact fun n hn=>.inl (by simp only[D.ref] at hn⊢;exact hn)
     ·cases q1
variable{ops:Array Oper}{rest:List Oper}{fr:Fr}{Q:Fr→St→Prop}{pp:String}{a:Array Edge}{g:Option (Nat×Bool)}{dst:Nat}{xo:Operand}
theorem ab.lM {ty:TypeId} {t1 t2 e:TypeId} {td:TypeDesc} {inf:TypeInfo} {yo:Operand} {aG:D→Fr} (hH:Has N S st H) (hg:aD ops fr ⟨some dst,.call ⟨.builtin .append,#[xo,yo],#[t1,t2]⟩,ty,pp,a,g⟩=some true) (hx:fr.ev xo=x) (hy:fr.ev yo=y) (hj:H[j]?=some (.aC x s es)) (kD:Rows st s y ys) (h1:P.cy t1=some (.slice e)) (h2:P.cy t2=some td) (h3:fh td=false) (h4:P.info e=some inf) (h5:dc P e=some z) (h6:inf.size=s) (h7:z.length=s) (h8:0<inf.bytes∧inf.bytes≤1024) (hp:∀x',fr.put dst x'=aG x') (hb:es.length+ys.length≤1073741824) (hw:S.flr≤N∨refs ys.flatten=0) (h0:∀k,x.ref=k+1→S.bs.length≤k) (h:∀x' ah,(∀k,x'.ref=k+1→S.bs.length≤k)→Has N S ah (H.set j (.aC x' s (es++ys)))→ab P ops rest (aG x') ah Q):
  ab P ops (⟨some dst,.call ⟨.builtin .append,#[xo,yo],#[t1,t2]⟩,ty,pp,a,g⟩::rest) fr st Q:=by
 obtain⟨x',ah,q1,q2,q3⟩:=hH.append hj kD h1 h2 h3 h4 h5 h6 h7 h8 hb hw;have WB:=hH.Fk hj kD h1 h2 h3 h4 h5 q1;refine ab.go hg rfl (d:=x') (st1:=ah) ?_ (hp _) (h x' ah (fun k hk=>?_) q2)
 ·simp only[dN,ς,List.map_nil,hx,hy];exact q1
 ·rcases WB k hk with h|h
  ·exact h0 k h
  ·exact h
def oS:D→D
 | .nul=>.sl []
 |d=>d
def mO (d:D):Bool:=match d with| .nul=>true|d=>cD d
variable{n:Nat}
theorem Fw {st:St} {N:Nat} (h:mO d=true):fu st N (n+1) d=some (oS d):=by
 cases d<;>simp[mO,cD] at h<;>rfl
theorem xw {st:St} {N n:Nat}:∀{l:List D},(∀d∈l,mO d=true)→iK (fu st N (n+1)) l=some (l.map oS)
 |[],_=>rfl
 |d::l,h=>by simp only[iK,Fw (h d (List.mem_cons_self ..)),xw (fun d hd=>h d (List.mem_cons_of_mem _ hd)),ς]
theorem Has.n9 {L:Nat} (hH:Has N S st H) (hj:H[j]?=some (.aC x s es)) (hx:∀k,x.ref=k+1→L≤k) (hp:∀e∈es,∀d∈e,mO d=true) (hn:3≤n):ba st L false n x=some (.sl ((es.map (·.map oS)).map (kO s))):=by
 obtain⟨n,rfl⟩:∃m,n=m+3:=⟨n-3,by omega⟩
 have hown:=hH.own hj
 cases hown with
 |nul=>rfl
 |win k aB off es c hm hl hc he=>
  have hk:=hx k (by simp only[D.ref]);show(if k<L then some (D.win k aB off es.length s) else fu st L (n+2) (.win k aB off es.length s))=_;rw[if_neg (show¬k<L by omega),fu];simp only[if_neg (show¬k<L by omega),St.mem_of hm,Option.bind_some]
  rw[if_pos hl,hc,xw (fun d hd=>by
   obtain⟨e,tv,EY⟩:=List.mem_flatten.1 hd
   exact hp e tv d EY)]
  have h1:(es.map (·.map oS)).flatten=es.flatten.map oS:=by rw[List.map_flatten]
  have h2:(es.map (·.map oS)).length=es.length:=ρ _
  have h3:∀e∈es.map (·.map oS),e.length=s:=by
   intro e tv;obtain⟨e0,h0,rfl⟩:=List.mem_map.1 tv;rw[ρ];exact he e0 h0
  simp only[Option.map_some];rw[←h1,←h2,gX h3]
theorem ab.Uh {aG:Fr} {ty:TypeId} {t:TypeId} {io:Operand} {b:List UInt8} {kk:IntKind} {i:Nat} {c:UInt8} (hg:aD ops fr ⟨some dst,.index t xo io,ty,pp,a,g⟩=some true) (hx:fr.ev xo=.str b) (hi:fr.ev io=.int kk (i:Nat)) (ht:P.cy t=some .string) (hc:b[i]?=some c) (hp:fr.put dst (.int .u8 (c.toNat:Nat))=aG) (h:ab P ops rest aG st Q):ab P ops (⟨some dst,.index t xo io,ty,pp,a,g⟩::rest) fr st Q:=by
 refine ab.go hg rfl (d:=.int .u8 (c.toNat:Nat)) (st1:=st) ?_ hp h;simp only[dN,hx,hi,vm,ht];rw[if_pos z0,Int.toNat_natCast,hc];rfl
end Go.V
namespace Go.Proofs.YtkbacjpologjbaaGreat
open Go.V
noncomputable def Yn : Tr TypeInfo := (.node 135 (.node 67 (.node 33 (.node 16 (.node 8 (.node 4 (.node 2 (.node 1 (.leaf Tryz.t0) (.leaf Tryz.t1)) (.node 3 (.leaf Tryz.t2) (.leaf Tryz.t3))) (.node 6 (.node 5 (.leaf Tryz.t4) (.leaf Tryz.t5)) (.node 7 (.leaf Tryz.t6) (.leaf Tryz.t7)))) (.node 12 (.node 10 (.node 9 (.leaf Tryz.t8) (.leaf Tryz.t9)) (.node 11 (.leaf Tryz.t10) (.leaf Tryz.t11))) (.node 14 (.node 13 (.leaf Tryz.t12) (.leaf Tryz.t13)) (.node 15 (.leaf Tryz.t14) (.leaf Tryz.t15))))) (.node 24 (.node 20 (.node 18 (.node 17 (.leaf Tryz.t16) (.leaf Tryz.t17)) (.node 19 (.leaf Tryz.t18) (.leaf Tryz.t19))) (.node 22 (.node 21 (.leaf Tryz.t20) (.leaf Tryz.t21)) (.node 23 (.leaf Tryz.t22) (.leaf Tryz.t23)))) (.node 28 (.node 26 (.node 25 (.leaf Tryz.t24) (.leaf Tryz.t25)) (.node 27 (.leaf Tryz.t26) (.leaf Tryz.t27))) (.node 30 (.node 29 (.leaf Tryz.t28) (.leaf Tryz.t29)) (.node 31 (.leaf Tryz.t30) (.node 32 (.leaf Tryz.t31) (.leaf Tryz.t32))))))) (.node 50 (.node 41 (.node 37 (.node 35 (.node 34 (.leaf Tryz.t33) (.leaf Tryz.t34)) (.node 36 (.leaf Tryz.t35) (.leaf Tryz.t36))) (.node 39 (.node 38 (.leaf Tryz.t37) (.leaf Tryz.t38)) (.node 40 (.leaf Tryz.t39) (.leaf Tryz.t40)))) (.node 45 (.node 43 (.node 42 (.leaf Tryz.t41) (.leaf Tryz.t42)) (.node 44 (.leaf Tryz.t43) (.leaf Tryz.t44))) (.node 47 (.node 46 (.leaf Tryz.t45) (.leaf Tryz.t46)) (.node 48 (.leaf Tryz.t47) (.node 49 (.leaf Tryz.t48) (.leaf Tryz.t49)))))) (.node 58 (.node 54 (.node 52 (.node 51 (.leaf Tryz.t50) (.leaf Tryz.t51)) (.node 53 (.leaf Tryz.t52) (.leaf Tryz.t53))) (.node 56 (.node 55 (.leaf Tryz.t54) (.leaf Tryz.t55)) (.node 57 (.leaf Tryz.t56) (.leaf Tryz.t57)))) (.node 62 (.node 60 (.node 59 (.leaf Tryz.t58) (.leaf Tryz.t59)) (.node 61 (.leaf Tryz.t60) (.leaf Tryz.t61))) (.node 64 (.node 63 (.leaf Tryz.t62) (.leaf Tryz.t63)) (.node 65 (.leaf Tryz.t64) (.node 66 (.leaf Tryz.t65) (.leaf Tryz.t66)))))))) (.node 101 (.node 84 (.node 75 (.node 71 (.node 69 (.node 68 (.leaf Tryz.t67) (.leaf Tryz.t68)) (.node 70 (.leaf Tryz.t69) (.leaf Tryz.t70))) (.node 73 (.node 72 (.leaf Tryz.t71) (.leaf Tryz.t72)) (.node 74 (.leaf Tryz.t73) (.leaf Tryz.t74)))) (.node 79 (.node 77 (.node 76 (.leaf Tryz.t75) (.leaf Tryz.t76)) (.node 78 (.leaf Tryz.t77) (.leaf Tryz.t78))) (.node 81 (.node 80 (.leaf Tryz.t79) (.leaf Tryz.t80)) (.node 82 (.leaf Tryz.t81) (.node 83 (.leaf Tryz.t82) (.leaf Tryz.t83)))))) (.node 92 (.node 88 (.node 86 (.node 85 (.leaf Tryz.t84) (.leaf Tryz.t85)) (.node 87 (.leaf Tryz.t86) (.leaf Tryz.t87))) (.node 90 (.node 89 (.leaf Tryz.t88) (.leaf Tryz.t89)) (.node 91 (.leaf Tryz.t90) (.leaf Tryz.t91)))) (.node 96 (.node 94 (.node 93 (.leaf Tryz.t92) (.leaf Tryz.t93)) (.node 95 (.leaf Tryz.t94) (.leaf Tryz.t95))) (.node 98 (.node 97 (.leaf Tryz.t96) (.leaf Tryz.t97)) (.node 99 (.leaf Tryz.t98) (.node 100 (.leaf Tryz.t99) (.leaf Tryz.t100))))))) (.node 118 (.node 109 (.node 105 (.node 103 (.node 102 (.leaf Tryz.t101) (.leaf Tryz.t102)) (.node 104 (.leaf Tryz.t103) (.leaf Tryz.t104))) (.node 107 (.node 106 (.leaf Tryz.t105) (.leaf Tryz.t106)) (.node 108 (.leaf Tryz.t107) (.leaf Tryz.t108)))) (.node 113 (.node 111 (.node 110 (.leaf Tryz.t109) (.leaf Tryz.t110)) (.node 112 (.leaf Tryz.t111) (.leaf Tryz.t112))) (.node 115 (.node 114 (.leaf Tryz.t113) (.leaf Tryz.t114)) (.node 116 (.leaf Tryz.t115) (.node 117 (.leaf Tryz.t116) (.leaf Tryz.t117)))))) (.node 126 (.node 122 (.node 120 (.node 119 (.leaf Tryz.t118) (.leaf Tryz.t119)) (.node 121 (.leaf Tryz.t120) (.leaf Tryz.t121))) (.node 124 (.node 123 (.leaf Tryz.t122) (.leaf Tryz.t123)) (.node 125 (.leaf Tryz.t124) (.leaf Tryz.t125)))) (.node 130 (.node 128 (.node 127 (.leaf Tryz.t126) (.leaf Tryz.t127)) (.node 129 (.leaf Tryz.t128) (.leaf Tryz.t129))) (.node 132 (.node 131 (.leaf Tryz.t130) (.leaf Tryz.t131)) (.node 133 (.leaf Tryz.t132) (.node 134 (.leaf Tryz.t133) (.leaf Tryz.t134))))))))) (.node 203 (.node 169 (.node 152 (.node 143 (.node 139 (.node 137 (.node 136 (.leaf Tryz.t135) (.leaf Tryz.t136)) (.node 138 (.leaf Tryz.t137) (.leaf Tryz.t138))) (.node 141 (.node 140 (.leaf Tryz.t139) (.leaf Tryz.t140)) (.node 142 (.leaf Tryz.t141) (.leaf Tryz.t142)))) (.node 147 (.node 145 (.node 144 (.leaf Tryz.t143) (.leaf Tryz.t144)) (.node 146 (.leaf Tryz.t145) (.leaf Tryz.t146))) (.node 149 (.node 148 (.leaf Tryz.t147) (.leaf Tryz.t148)) (.node 150 (.leaf Tryz.t149) (.node 151 (.leaf Tryz.t150) (.leaf Tryz.t151)))))) (.node 160 (.node 156 (.node 154 (.node 153 (.leaf Tryz.t152) (.leaf Tryz.t153)) (.node 155 (.leaf Tryz.t154) (.leaf Tryz.t155))) (.node 158 (.node 157 (.leaf Tryz.t156) (.leaf Tryz.t157)) (.node 159 (.leaf Tryz.t158) (.leaf Tryz.t159)))) (.node 164 (.node 162 (.node 161 (.leaf Tryz.t160) (.leaf Tryz.t161)) (.node 163 (.leaf Tryz.t162) (.leaf Tryz.t163))) (.node 166 (.node 165 (.leaf Tryz.t164) (.leaf Tryz.t165)) (.node 167 (.leaf Tryz.t166) (.node 168 (.leaf Tryz.t167) (.leaf Tryz.t168))))))) (.node 186 (.node 177 (.node 173 (.node 171 (.node 170 (.leaf Tryz.t169) (.leaf Tryz.t170)) (.node 172 (.leaf Tryz.t171) (.leaf Tryz.t172))) (.node 175 (.node 174 (.leaf Tryz.t173) (.leaf Tryz.t174)) (.node 176 (.leaf Tryz.t175) (.leaf Tryz.t176)))) (.node 181 (.node 179 (.node 178 (.leaf Tryz.t177) (.leaf Tryz.t178)) (.node 180 (.leaf Tryz.t179) (.leaf Tryz.t180))) (.node 183 (.node 182 (.leaf Tryz.t181) (.leaf Tryz.t182)) (.node 184 (.leaf Tryz.t183) (.node 185 (.leaf Tryz.t184) (.leaf Tryz.t185)))))) (.node 194 (.node 190 (.node 188 (.node 187 (.leaf Tryz.t186) (.leaf Tryz.t187)) (.node 189 (.leaf Tryz.t188) (.leaf Tryz.t189))) (.node 192 (.node 191 (.leaf Tryz.t190) (.leaf Tryz.t191)) (.node 193 (.leaf Tryz.t192) (.leaf Tryz.t193)))) (.node 198 (.node 196 (.node 195 (.leaf Tryz.t194) (.leaf Tryz.t195)) (.node 197 (.leaf Tryz.t196) (.leaf Tryz.t197))) (.node 200 (.node 199 (.leaf Tryz.t198) (.leaf Tryz.t199)) (.node 201 (.leaf Tryz.t200) (.node 202 (.leaf Tryz.t201) (.leaf Tryz.t202)))))))) (.node 237 (.node 220 (.node 211 (.node 207 (.node 205 (.node 204 (.leaf Tryz.t203) (.leaf Tryz.t204)) (.node 206 (.leaf Tryz.t205) (.leaf Tryz.t206))) (.node 209 (.node 208 (.leaf Tryz.t207) (.leaf Tryz.t208)) (.node 210 (.leaf Tryz.t209) (.leaf Tryz.t210)))) (.node 215 (.node 213 (.node 212 (.leaf Tryz.t211) (.leaf Tryz.t212)) (.node 214 (.leaf Tryz.t213) (.leaf Tryz.t214))) (.node 217 (.node 216 (.leaf Tryz.t215) (.leaf Tryz.t216)) (.node 218 (.leaf Tryz.t217) (.node 219 (.leaf Tryz.t218) (.leaf Tryz.t219)))))) (.node 228 (.node 224 (.node 222 (.node 221 (.leaf Tryz.t220) (.leaf Tryz.t221)) (.node 223 (.leaf Tryz.t222) (.leaf Tryz.t223))) (.node 226 (.node 225 (.leaf Tryz.t224) (.leaf Tryz.t225)) (.node 227 (.leaf Tryz.t226) (.leaf Tryz.t227)))) (.node 232 (.node 230 (.node 229 (.leaf Tryz.t228) (.leaf Tryz.t229)) (.node 231 (.leaf Tryz.t230) (.leaf Tryz.t231))) (.node 234 (.node 233 (.leaf Tryz.t232) (.leaf Tryz.t233)) (.node 235 (.leaf Tryz.t234) (.node 236 (.leaf Tryz.t235) (.leaf Tryz.t236))))))) (.node 254 (.node 245 (.node 241 (.node 239 (.node 238 (.leaf Tryz.t237) (.leaf Tryz.t238)) (.node 240 (.leaf Tryz.t239) (.leaf Tryz.t240))) (.node 243 (.node 242 (.leaf Tryz.t241) (.leaf Tryz.t242)) (.node 244 (.leaf Tryz.t243) (.leaf Tryz.t244)))) (.node 249 (.node 247 (.node 246 (.leaf Tryz.t245) (.leaf Tryz.t246)) (.node 248 (.leaf Tryz.t247) (.leaf Tryz.t248))) (.node 251 (.node 250 (.leaf Tryz.t249) (.leaf Tryz.t250)) (.node 252 (.leaf Tryz.t251) (.node 253 (.leaf Tryz.t252) (.leaf Tryz.t253)))))) (.node 262 (.node 258 (.node 256 (.node 255 (.leaf Tryz.t254) (.leaf Tryz.t255)) (.node 257 (.leaf Tryz.t256) (.leaf Tryz.t257))) (.node 260 (.node 259 (.leaf Tryz.t258) (.leaf Tryz.t259)) (.node 261 (.leaf Tryz.t260) (.leaf Tryz.t261)))) (.node 266 (.node 264 (.node 263 (.leaf Tryz.t262) (.leaf Tryz.t263)) (.node 265 (.leaf Tryz.t264) (.leaf Tryz.t265))) (.node 268 (.node 267 (.leaf Tryz.t266) (.leaf Tryz.t267)) (.node 269 (.leaf Tryz.t268) (.node 270 (.leaf Tryz.t269) (.leaf Tryz.t270))))))))))
noncomputable def ZA:Tr Fi:=(.node 104 (.node 52 (.node 26 (.node 13 (.node 6 (.node 3 (.node 1 (.leaf ⟨Tryz.f0,0,.rw,false,none,[]⟩) (.node 2 (.leaf ⟨Tryz.f1,0,.rw,false,none,[]⟩) (.leaf ⟨Tryz.f2,0,.rw,false,none,[]⟩))) (.node 4 (.leaf ⟨Tryz.f3,54,.ro,false,none,[]⟩) (.node 5 (.leaf ⟨Tryz.f4,11,.ro,false,none,[]⟩) (.leaf ⟨Tryz.f5,8,.ro,false,none,[]⟩)))) (.node 9 (.node 7 (.leaf ⟨Tryz.f6,5,.ro,false,none,[]⟩) (.node 8 (.leaf ⟨Tryz.f7,17,.ro,false,none,[(10,[(0,3),(0,5)])]⟩) (.leaf ⟨Tryz.f8,5,.nw,false,none,[]⟩))) (.node 11 (.node 10 (.leaf ⟨Tryz.f9,7,.ro,false,none,[]⟩) (.leaf ⟨Tryz.f10,10,.ro,false,none,[]⟩)) (.node 12 (.leaf ⟨Tryz.f11,10,.ro,false,none,[(6,[(4,5)])]⟩) (.leaf ⟨Tryz.f12,5,.ro,false,none,[]⟩))))) (.node 19 (.node 16 (.node 14 (.leaf ⟨Tryz.f13,24,.ro,false,none,[]⟩) (.node 15 (.leaf ⟨Tryz.f14,18,.ro,false,none,[]⟩) (.leaf ⟨Tryz.f15,6,.cw,false,none,[]⟩))) (.node 17 (.leaf ⟨Tryz.f16,9,.cw,false,none,[]⟩) (.node 18 (.leaf ⟨Tryz.f17,3,.rw,false,none,[(1,[(4,8)])]⟩) (.leaf ⟨Tryz.f18,5,.ro,false,none,[]⟩)))) (.node 22 (.node 20 (.leaf ⟨Tryz.f19,4,.ro,false,none,[]⟩) (.node 21 (.leaf ⟨Tryz.f20,9,.ro,false,none,[]⟩) (.leaf ⟨Tryz.f21,22,.ro,false,none,[]⟩))) (.node 24 (.node 23 (.leaf ⟨Tryz.f22,5,.ro,false,none,[]⟩) (.leaf ⟨Tryz.f23,5,.nw,false,none,[]⟩)) (.node 25 (.leaf ⟨Tryz.f24,9,.nw,false,none,[]⟩) (.leaf ⟨Tryz.f25,4,.ro,false,none,[]⟩)))))) (.node 39 (.node 32 (.node 29 (.node 27 (.leaf ⟨Tryz.f26,49,.ro,false,none,[]⟩) (.node 28 (.leaf ⟨Tryz.f27,3,.nw,false,none,[]⟩) (.leaf ⟨Tryz.f28,60,.rw,false,none,[]⟩))) (.node 30 (.leaf ⟨Tryz.f29,3,.rw,false,none,[]⟩) (.node 31 (.leaf ⟨Tryz.f30,4,.rw,false,none,[]⟩) (.leaf ⟨Tryz.f31,3,.rw,false,none,[]⟩)))) (.node 35 (.node 33 (.leaf ⟨Tryz.f32,7,.ro,false,none,[]⟩) (.node 34 (.leaf ⟨Tryz.f33,8,.ro,false,none,[]⟩) (.leaf ⟨Tryz.f34,3,.nw,false,none,[]⟩))) (.node 37 (.node 36 (.leaf ⟨Tryz.f35,6,.rw,false,none,[]⟩) (.leaf ⟨Tryz.f36,4,.rw,false,none,[]⟩)) (.node 38 (.leaf ⟨Tryz.f37,3,.rw,false,none,[]⟩) (.leaf ⟨Tryz.f38,6,.ro,false,none,[]⟩))))) (.node 45 (.node 42 (.node 40 (.leaf ⟨Tryz.f39,5,.ro,false,none,[]⟩) (.node 41 (.leaf ⟨Tryz.f40,6,.ro,false,none,[]⟩) (.leaf ⟨Tryz.f41,4,.rw,false,none,[]⟩))) (.node 43 (.leaf ⟨Tryz.f42,7,.rw,false,none,[]⟩) (.node 44 (.leaf ⟨Tryz.f43,4,.ro,false,none,[]⟩) (.leaf ⟨Tryz.f44,36,.rw,false,none,[]⟩)))) (.node 48 (.node 46 (.leaf ⟨Tryz.f45,16,.rw,false,none,[]⟩) (.node 47 (.leaf ⟨Tryz.f46,5,.cw,false,none,[]⟩) (.leaf ⟨Tryz.f47,40,.cw,false,none,[]⟩))) (.node 50 (.node 49 (.leaf ⟨Tryz.f48,6,.cw,false,none,[]⟩) (.leaf ⟨Tryz.f49,1,.cw,false,none,[]⟩)) (.node 51 (.leaf ⟨Tryz.f50,2,.cw,false,none,[(0,[(3,9)])]⟩) (.leaf ⟨Tryz.f51,3,.rw,false,none,[]⟩))))))) (.node 78 (.node 65 (.node 58 (.node 55 (.node 53 (.leaf ⟨Tryz.f52,3,.rw,false,none,[(1,[(3,8)])]⟩) (.node 54 (.leaf ⟨Tryz.f53,5,.nw,false,none,[]⟩) (.leaf ⟨Tryz.f54,9,.nw,false,none,[]⟩))) (.node 56 (.leaf ⟨Tryz.f55,17,.nw,false,none,[]⟩) (.node 57 (.leaf ⟨Tryz.f56,17,.nw,false,none,[]⟩) (.leaf ⟨Tryz.f57,5,.nw,false,none,[]⟩)))) (.node 61 (.node 59 (.leaf ⟨Tryz.f58,17,.nw,false,none,[]⟩) (.node 60 (.leaf ⟨Tryz.f59,5,.nw,false,none,[]⟩) (.leaf ⟨Tryz.f60,11,.ro,false,none,[]⟩))) (.node 63 (.node 62 (.leaf ⟨Tryz.f61,5,.ro,false,none,[]⟩) (.leaf ⟨Tryz.f62,7,.nw,false,none,[]⟩)) (.node 64 (.leaf ⟨Tryz.f63,5,.ro,false,none,[]⟩) (.leaf ⟨Tryz.f64,8,.ro,false,none,[]⟩))))) (.node 71 (.node 68 (.node 66 (.leaf ⟨Tryz.f65,8,.ro,false,none,[]⟩) (.node 67 (.leaf ⟨Tryz.f66,39,.ro,false,none,[]⟩) (.leaf ⟨Tryz.f67,5,.ro,false,none,[]⟩))) (.node 69 (.leaf ⟨Tryz.f68,41,.ro,false,none,[]⟩) (.node 70 (.leaf ⟨Tryz.f69,7,.rw,false,none,[]⟩) (.leaf ⟨Tryz.f70,8,.rw,false,none,[]⟩)))) (.node 74 (.node 72 (.leaf ⟨Tryz.f71,3,.rw,false,none,[]⟩) (.node 73 (.leaf ⟨Tryz.f72,8,.cw,false,none,[]⟩) (.leaf ⟨Tryz.f73,33,.ro,false,none,[]⟩))) (.node 76 (.node 75 (.leaf ⟨Tryz.f74,22,.ro,false,none,[(13,[(3,5)])]⟩) (.leaf ⟨Tryz.f75,8,.ro,false,none,[]⟩)) (.node 77 (.leaf ⟨Tryz.f76,8,.rw,false,none,[]⟩) (.leaf ⟨Tryz.f77,10,.rw,false,none,[]⟩)))))) (.node 91 (.node 84 (.node 81 (.node 79 (.leaf ⟨Tryz.f78,6,.ro,false,none,[]⟩) (.node 80 (.leaf ⟨Tryz.f79,9,.ro,false,none,[]⟩) (.leaf ⟨Tryz.f80,4,.rw,false,none,[]⟩))) (.node 82 (.leaf ⟨Tryz.f81,5,.rw,false,none,[]⟩) (.node 83 (.leaf ⟨Tryz.f82,27,.ro,false,none,[]⟩) (.leaf ⟨Tryz.f83,8,.rw,false,none,[]⟩)))) (.node 87 (.node 85 (.leaf ⟨Tryz.f84,68,.cw,false,none,[]⟩) (.node 86 (.leaf ⟨Tryz.f85,78,.cw,false,none,[]⟩) (.leaf ⟨Tryz.f86,6,.cw,false,none,[]⟩))) (.node 89 (.node 88 (.leaf ⟨Tryz.f87,11,.cw,false,none,[]⟩) (.leaf ⟨Tryz.f88,9,.cw,false,none,[]⟩)) (.node 90 (.leaf ⟨Tryz.f89,9,.rw,false,none,[]⟩) (.leaf ⟨Tryz.f90,9,.cw,false,none,[]⟩))))) (.node 97 (.node 94 (.node 92 (.leaf ⟨Tryz.f91,5,.nw,false,none,[]⟩) (.node 93 (.leaf ⟨Tryz.f92,6,.ro,false,none,[]⟩) (.leaf ⟨Tryz.f93,6,.nw,false,none,[]⟩))) (.node 95 (.leaf ⟨Tryz.f94,6,.ro,false,none,[]⟩) (.node 96 (.leaf ⟨Tryz.f95,3,.ro,false,none,[]⟩) (.leaf ⟨Tryz.f96,6,.ro,false,none,[]⟩)))) (.node 100 (.node 98 (.leaf ⟨Tryz.f97,7,.nw,false,none,[]⟩) (.node 99 (.leaf ⟨Tryz.f98,5,.ro,false,none,[]⟩) (.leaf ⟨Tryz.f99,3,.ro,false,none,[]⟩))) (.node 102 (.node 101 (.leaf ⟨Tryz.f100,7,.rw,false,none,[]⟩) (.leaf ⟨Tryz.f101,11,.rw,false,none,[]⟩)) (.node 103 (.leaf ⟨Tryz.f102,4,.rw,false,none,[]⟩) (.leaf ⟨Tryz.f103,5,.rw,false,none,[]⟩)))))))) (.node 156 (.node 130 (.node 117 (.node 110 (.node 107 (.node 105 (.leaf ⟨Tryz.f104,6,.rw,false,none,[]⟩) (.node 106 (.leaf ⟨Tryz.f105,11,.rw,false,none,[]⟩) (.leaf ⟨Tryz.f106,4,.rw,false,none,[]⟩))) (.node 108 (.leaf ⟨Tryz.f107,4,.ro,false,none,[]⟩) (.node 109 (.leaf ⟨Tryz.f108,9,.ro,false,none,[]⟩) (.leaf ⟨Tryz.f109,55,.ro,false,none,[]⟩)))) (.node 113 (.node 111 (.leaf ⟨Tryz.f110,5,.ro,false,none,[]⟩) (.node 112 (.leaf ⟨Tryz.f111,13,.ro,false,none,[]⟩) (.leaf ⟨Tryz.f112,7,.rw,false,none,[]⟩))) (.node 115 (.node 114 (.leaf ⟨Tryz.f113,7,.rw,false,none,[]⟩) (.leaf ⟨Tryz.f114,5,.rw,false,none,[]⟩)) (.node 116 (.leaf ⟨Tryz.f115,5,.rw,false,none,[]⟩) (.leaf ⟨Tryz.f116,6,.ro,false,none,[]⟩))))) (.node 123 (.node 120 (.node 118 (.leaf ⟨Tryz.f117,5,.ro,false,none,[]⟩) (.node 119 (.leaf ⟨Tryz.f118,5,.rw,false,none,[]⟩) (.leaf ⟨Tryz.f119,5,.rw,false,none,[]⟩))) (.node 121 (.leaf ⟨Tryz.f120,11,.ro,false,none,[]⟩) (.node 122 (.leaf ⟨Tryz.f121,4,.rw,false,none,[]⟩) (.leaf ⟨Tryz.f122,4,.cw,false,none,[]⟩)))) (.node 126 (.node 124 (.leaf ⟨Tryz.f123,14,.ro,false,none,[]⟩) (.node 125 (.leaf ⟨Tryz.f124,13,.cw,false,none,[(3,[(3,8)])]⟩) (.leaf ⟨Tryz.f125,2,.rw,false,none,[]⟩))) (.node 128 (.node 127 (.leaf ⟨Tryz.f126,17,.nw,false,none,[]⟩) (.leaf ⟨Tryz.f127,5,.nw,false,none,[]⟩)) (.node 129 (.leaf ⟨Tryz.f128,9,.nw,false,none,[]⟩) (.leaf ⟨Tryz.f129,5,.ro,false,none,[]⟩)))))) (.node 143 (.node 136 (.node 133 (.node 131 (.leaf ⟨Tryz.f130,17,.nw,false,none,[]⟩) (.node 132 (.leaf ⟨Tryz.f131,5,.nw,false,none,[]⟩) (.leaf ⟨Tryz.f132,3,.ro,false,none,[]⟩))) (.node 134 (.leaf ⟨Tryz.f133,6,.ro,false,none,[]⟩) (.node 135 (.leaf ⟨Tryz.f134,14,.ro,false,none,[]⟩) (.leaf ⟨Tryz.f135,26,.ro,false,none,[]⟩)))) (.node 139 (.node 137 (.leaf ⟨Tryz.f136,6,.ro,false,none,[]⟩) (.node 138 (.leaf ⟨Tryz.f137,26,.rw,false,none,[]⟩) (.leaf ⟨Tryz.f138,14,.rw,false,none,[]⟩))) (.node 141 (.node 140 (.leaf ⟨Tryz.f139,4,.ro,false,none,[]⟩) (.leaf ⟨Tryz.f140,25,.cw,false,none,[]⟩)) (.node 142 (.leaf ⟨Tryz.f141,20,.ro,false,none,[]⟩) (.leaf ⟨Tryz.f142,5,.rw,false,none,[]⟩))))) (.node 149 (.node 146 (.node 144 (.leaf ⟨Tryz.f143,5,.ro,false,none,[]⟩) (.node 145 (.leaf ⟨Tryz.f144,7,.ro,false,none,[]⟩) (.leaf ⟨Tryz.f145,6,.ro,false,none,[]⟩))) (.node 147 (.leaf ⟨Tryz.f146,7,.cw,false,none,[]⟩) (.node 148 (.leaf ⟨Tryz.f147,5,.rw,false,none,[]⟩) (.leaf ⟨Tryz.f148,7,.rw,false,none,[]⟩)))) (.node 152 (.node 150 (.leaf ⟨Tryz.f149,7,.rw,false,none,[]⟩) (.node 151 (.leaf ⟨Tryz.f150,61,.rw,true,none,[]⟩) (.leaf ⟨Tryz.f151,1,.ro,false,none,[]⟩))) (.node 154 (.node 153 (.leaf ⟨Tryz.f152,3,.ro,false,none,[]⟩) (.leaf ⟨Tryz.f153,6,.rw,false,none,[(7,[(0,4)])]⟩)) (.node 155 (.leaf ⟨Tryz.f154,5,.ro,false,none,[]⟩) (.leaf ⟨Tryz.f155,12,.ro,false,none,[]⟩))))))) (.node 182 (.node 169 (.node 162 (.node 159 (.node 157 (.leaf ⟨Tryz.f156,37,.cw,false,none,[(10,[(4,5)])]⟩) (.node 158 (.leaf ⟨Tryz.f157,1,.cw,false,none,[]⟩) (.leaf ⟨Tryz.f158,10,.ro,false,none,[]⟩))) (.node 160 (.leaf ⟨Tryz.f159,7,.cw,false,none,[]⟩) (.node 161 (.leaf ⟨Tryz.f160,21,.rw,false,none,[]⟩) (.leaf ⟨Tryz.f161,3,.rw,false,none,[]⟩)))) (.node 165 (.node 163 (.leaf ⟨Tryz.f162,8,.rw,false,none,[]⟩) (.node 164 (.leaf ⟨Tryz.f163,11,.ro,false,none,[]⟩) (.leaf ⟨Tryz.f164,3,.ro,false,none,[]⟩))) (.node 167 (.node 166 (.leaf ⟨Tryz.f165,3,.rw,false,none,[]⟩) (.leaf ⟨Tryz.f166,5,.rw,false,none,[]⟩)) (.node 168 (.leaf ⟨Tryz.f167,3,.rw,false,none,[(1,[(4,8)])]⟩) (.leaf ⟨Tryz.f168,33,.cw,false,none,[(8,[(9,12)])]⟩))))) (.node 175 (.node 172 (.node 170 (.leaf ⟨Tryz.f169,6,.rw,false,none,[]⟩) (.node 171 (.leaf ⟨Tryz.f170,10,.rw,false,none,[]⟩) (.leaf ⟨Tryz.f171,13,.rw,false,none,[]⟩))) (.node 173 (.leaf ⟨Tryz.f172,13,.rw,false,none,[]⟩) (.node 174 (.leaf ⟨Tryz.f173,56,.rw,false,none,[]⟩) (.leaf ⟨Tryz.f174,10,.rw,false,none,[]⟩)))) (.node 178 (.node 176 (.leaf ⟨Tryz.f175,13,.rw,false,none,[]⟩) (.node 177 (.leaf ⟨Tryz.f176,13,.rw,false,none,[]⟩) (.leaf ⟨Tryz.f177,14,.rw,false,none,[]⟩))) (.node 180 (.node 179 (.leaf ⟨Tryz.f178,3,.rw,false,none,[]⟩) (.leaf ⟨Tryz.f179,3,.rw,false,none,[]⟩)) (.node 181 (.leaf ⟨Tryz.f180,29,.rw,true,none,[]⟩) (.leaf ⟨Tryz.f181,1,.rw,false,none,[]⟩)))))) (.node 195 (.node 188 (.node 185 (.node 183 (.leaf ⟨Tryz.f182,12,.rw,false,none,[]⟩) (.node 184 (.leaf ⟨Tryz.f183,3,.rw,false,none,[]⟩) (.leaf ⟨Tryz.f184,3,.rw,false,none,[]⟩))) (.node 186 (.leaf ⟨Tryz.f185,9,.rw,false,none,[]⟩) (.node 187 (.leaf ⟨Tryz.f186,13,.rw,false,none,[]⟩) (.leaf ⟨Tryz.f187,1,.rw,false,none,[]⟩)))) (.node 191 (.node 189 (.leaf ⟨Tryz.f188,12,.rw,false,none,[]⟩) (.node 190 (.leaf ⟨Tryz.f189,1,.rw,false,none,[]⟩) (.leaf ⟨Tryz.f190,1,.rw,false,none,[]⟩))) (.node 193 (.node 192 (.leaf ⟨Tryz.f191,1,.rw,false,none,[]⟩) (.leaf ⟨Tryz.f192,1,.rw,false,none,[]⟩)) (.node 194 (.leaf ⟨Tryz.f193,1,.rw,false,none,[]⟩) (.leaf ⟨Tryz.f194,1,.rw,false,none,[]⟩))))) (.node 201 (.node 198 (.node 196 (.leaf ⟨Tryz.f195,1,.rw,false,none,[]⟩) (.node 197 (.leaf ⟨Tryz.f196,1,.rw,false,none,[]⟩) (.leaf ⟨Tryz.f197,1,.rw,false,none,[]⟩))) (.node 199 (.leaf ⟨Tryz.f198,1,.rw,false,none,[]⟩) (.node 200 (.leaf ⟨Tryz.f199,1,.rw,false,none,[]⟩) (.leaf ⟨Tryz.f200,1,.rw,false,none,[]⟩)))) (.node 204 (.node 202 (.leaf ⟨Tryz.f201,1,.rw,false,none,[]⟩) (.node 203 (.leaf ⟨Tryz.f202,1,.rw,false,none,[]⟩) (.leaf ⟨Tryz.f203,1,.rw,false,none,[]⟩))) (.node 206 (.node 205 (.leaf ⟨Tryz.f204,1,.rw,false,none,[]⟩) (.leaf ⟨Tryz.f205,1,.rw,false,none,[]⟩)) (.node 207 (.leaf ⟨Tryz.f206,1,.rw,false,none,[]⟩) (.leaf ⟨Tryz.f207,1,.rw,false,none,[]⟩)))))))))
noncomputable def nQ:Pv:=⟨Yn,271,ZA,208,[7,8,26,27,31,32,33,34,74,75,82,83,84,85,89,90,95,96,103,104,111,112,125,126,141,142,144,145,146,147,148,152,153,155,156,158,159,162,163,202,203,226,227,234,235,237,238,261],[]⟩
end Go.Proofs.YtkbacjpologjbaaGreat
