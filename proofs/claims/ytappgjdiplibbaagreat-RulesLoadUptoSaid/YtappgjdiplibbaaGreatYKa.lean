/-
 Functions that write what was there before, and forget what they made: entering, leaving. Lists that grow, and where they lie.
-/
import Derived.Test.YtappgjdiplibbaaGreatYM2
set_option linter.all false
open List renaming getElem?_take->γ,length_take->δ,length_map->ε
namespace Go.V
variable{N:Nat} {S U:St} {H:List aX}
variable{Y:St}
def Has.HF (h:Has N S Y H):Has N (aw .rw Y) (aw .rw Y) H:=
 ⟨Ex.refl _ _,Nat.le_trans h.hN h.ex.len,by show Y.ro<=N;rw[h.ex.ro];exact h.fx,λi e hi=>⟨e.loc (U:=Y) (R:=aw .rw Y) (λk _=>rfl) (h.ok i e hi).1,(h.ok i e hi).2⟩,h.dis⟩
variable{d:D}
def aH {kn:Bool} {U:St} {d':D} (hd:aB U Y.bs.length kn 16 d=some d'):cZ .rw kn Y U d=some (d',⟨U.bs.take Y.bs.length,Y.flr,Y.ro⟩):=by
 simp[cZ,hd]
variable{S2 st2:St}
def Has.rF {H2:List aX} (h:Has N S Y H) (hS:S2.bs=Y.bs) (X:Has N S2 st2 H2) (A:∀(i:Nat) e,H2[i]?=some e->∃e',H[i]?=some e'/\∀k,e.K k->e'.K k):Has N S ⟨st2.bs.take Y.bs.length,Y.flr,Y.ro⟩ H2:=by
 have hL:Y.bs.length<=st2.bs.length:=by have:=X.ex.len;rw[hS] at this;exact this
 have hSL:=h.ex.len;have hNL:=h.hN;refine⟨⟨λk lx=>?_,?_,h.ex.flr,h.ex.ro⟩,h.hN,h.fx,λi e hi=>?_,X.dis⟩
 .show(st2.bs.take Y.bs.length)[k]?=_;rw[γ,if_pos (by omega),X.ex.low k lx,hS];exact h.ex.low k lx
 .show _<=(st2.bs.take Y.bs.length).length;rw[δ];omega
 .obtain⟨e',t_,hkk⟩:=A i e hi;have h3:=(h.ok i e' t_).2;refine⟨e.loc (λk lx=>?_) (X.ok i e hi).1,λk lx=>⟨(h3 k (hkk k lx)).1,?_⟩⟩
  .show(st2.bs.take Y.bs.length)[k]?=_;rw[γ,if_pos (h3 k (hkk k lx)).2]
  .show k<(st2.bs.take Y.bs.length).length;rw[δ];have:=(h3 k (hkk k lx)).2;omega
def Has.ag {k:Nat} {b b':mc} (h:Has N S Y (.box k b::H)) (hS:S2.bs=Y.bs) (X:Has N S2 st2 (.box k b'::H)):Has N S ⟨st2.bs.take Y.bs.length,Y.flr,Y.ro⟩ (.box k b'::H):=by
 refine h.rF hS X λi e hi=>?_
 cases i with
 |zero=>simp at hi;subst hi;exact⟨_,rfl,λk A=>A⟩
 |succ i=>exact⟨e,hi,λk A=>A⟩
variable{P:Pv}{j s:Nat}{x y:D}{es ys:List (List D)}{z:List D}
def Has.PO {x':D} {R:St} (O:Has N S U H) (hj:H[j]?=some (.ai x s es)) (hy:Rows U s y ys) {t1 t2 e:TypeId} {td:TypeDesc} {inf:TypeInfo} (h1:P.cF t1=some (.slice e)) (X:P.cF t2=some td) (h3:fp td=false) (h4:P.info e=some inf) (h5:cO P e=some z) (q1:bA P .append [t1,t2] [x,y] U=some (x',R)):∀k,x'.ref=k+1->x.ref=k+1\/S.bs.length<=k:=by
 have hl:=O.ex.len;have jI:=hy.row
 have sx:∀e∈ys,e.length=s:=λe he=>by
  obtain⟨i,hi⟩:=List.getElem?_of_mem he;exact hy.DM i e hi
 have hown:=O.own hj;simp only[bA,dK,h1,X,h3,Bool.false_eq_true,if_false,h4,h5,jI,Option.bind_some] at q1
 split at q1
 .cases q1
 .cases hown with
  |nul=>
   simp only at q1
   split at q1
   .cases q1;exact λk A=>.inl A
   .split at q1
    .cases q1;exact λk A=>.inr (by simp only[D.ref] at A;omega)
    .cases q1
  |win k aj off es c hm hl hc he=>
   simp only[St.mem_of hm] at q1
   split at q1
   .cases q1
   .split at q1
    .cases q1;exact λk A=>.inl A
    .split at q1
     .cases q1;exact λn hn=>.inl (by simp only[D.ref] at hn|-;exact hn)
     .cases q1
variable{ops:Array Oper}{rest:List Oper}{I:Fr}{Tr:Fr->St->Prop}{pp:String}{a:Array Edge}{g:Option (Nat×Bool)}{dst:Nat}{xo yo:Operand}{aA:D->Fr}
def u.nU {ty:TypeId} {t1 t2 e:TypeId} {td:TypeDesc} {inf:TypeInfo} (O:Has N S U H) (hg:au ops I ⟨some dst,.call ⟨.builtin .append,#[xo,yo],#[t1,t2]⟩,ty,pp,a,g⟩=some true) (hx:I.ev xo=x) (hy:I.ev yo=y) (hj:H[j]?=some (.ai x s es)) (j8:Rows U s y ys) (h1:P.cF t1=some (.slice e)) (X:P.cF t2=some td) (h3:fp td=false) (h4:P.info e=some inf) (h5:cO P e=some z) (h6:inf.size=s) (h7:z.length=s) (h8:0<inf.bytes/\inf.bytes<=1024) (B:∀x',I.put dst x'=aA x') (F:es.length+ys.length<=1073741824) (hw:S.flr<=N\/refs ys.flatten=0) (h0:∀k,x.ref=k+1->S.bs.length<=k) (h:∀x' R,(∀k,x'.ref=k+1->S.bs.length<=k)->Has N S R (H.set j (.ai x' s (es++ys)))->u P ops rest (aA x') R Tr):
  u P ops (⟨some dst,.call ⟨.builtin .append,#[xo,yo],#[t1,t2]⟩,ty,pp,a,g⟩::rest) I U Tr:=by
 obtain⟨x',R,q1,q2,q3⟩:=O.append hj j8 h1 X h3 h4 h5 h6 h7 h8 F hw;have W6:=O.PO hj j8 h1 X h3 h4 h5 q1;refine u.go hg rfl (d:=x') (st1:=R) ?_ (B _) (h x' R (λk A=>?_) q2)
 .simp[dY,hx,hy];exact q1
 .rcases W6 k A with h|h
  .exact h0 k h
  .exact h
def y5 {ty:TypeId} {t1 t2 e:TypeId} {td:TypeDesc} {inf:TypeInfo} (O:Has N S U H) (hj:H[j]?=some (.ai x s es)) (j8:Rows U s y ys) (F:es.length+ys.length<=1073741824) (h0:∀k,x.ref=k+1->S.bs.length<=k) (h:∀x' R,(∀k,x'.ref=k+1->S.bs.length<=k)->Has N S R (H.set j (.ai x' s (es++ys)))->u P ops rest (aA x') R Tr) (hg:au ops I ⟨some dst,.call ⟨.builtin .append,#[xo,yo],#[t1,t2]⟩,ty,pp,a,g⟩=some true:=by exact rfl) (hx:I.ev xo=x:=by exact ev rfl) (hy:I.ev yo=y:=by exact ev rfl) (h1:P.cF t1=some (.slice e):=by exact rfl) (X:P.cF t2=some td:=by exact rfl) (h3:fp td=false:=by exact rfl) (h4:P.info e=some inf:=by exact rfl) (h5:cO P e=some z:=by exact rfl) (h6:inf.size=s:=by exact rfl) (h7:z.length=s:=by exact rfl) (h8:0<inf.bytes/\inf.bytes<=1024:=by exact⟨Nat.le_of_ble_eq_true rfl,Nat.le_of_ble_eq_true rfl⟩) (B:∀x',I.put dst x'=aA x':=by first|exact λ_=>ae rfl _|exact λ_=>by dsimp only[Fr.put,List.set_cons_succ,List.set_cons_zero]<;>rfl) (hw:S.flr<=N\/refs ys.flatten=0:=by first|exact .inl (by assumption)|exact .inr rfl):
  u P ops (⟨some dst,.call ⟨.builtin .append,#[xo,yo],#[t1,t2]⟩,ty,pp,a,g⟩::rest) I U Tr:=
 u.nU O hg hx hy hj j8 h1 X h3 h4 h5 h6 h7 h8 B F hw h0 h
def oX:D->D
 | .nul=>.sl []
 |d=>d
def nB (d:D):Bool:=match d with| .nul=>true|d=>cv d
variable{n:Nat}
theorem HZ {U:St} {N:Nat} (h:nB d=true):b_ U N (n+1) d=some (oX d):=by
 cases d<;>simp[nB,cv] at h<;>rfl
theorem yM {U:St} {N n:Nat}:∀{l:List D},(∀d∈l,nB d=true)->cE (b_ U N (n+1)) l=some (l.map oX)
 |[],_=>rfl
 |d::l,h=>by simp[cE,HZ (h d (List.mem_cons_self ..)),yM (λd hd=>h d (List.mem_cons_of_mem _ hd))]
def Has.uZ {L:Nat} (O:Has N S U H) (hj:H[j]?=some (.ai x s es)) (hx:∀k,x.ref=k+1->L<=k) (B:∀e∈es,∀d∈e,nB d=true) (hn:3<=n):aB U L false n x=some (.sl ((es.map (·.map oX)).map (jK s))):=by
 obtain⟨n,rfl⟩:∃m,n=m+3:=⟨n-3,by omega⟩
 have hown:=O.own hj
 cases hown with
 |nul=>rfl
 |win k aj off es c hm hl hc he=>
  have A:=hx k (by simp[D.ref]);show(if k<L then some (D.win k aj off es.length s) else b_ U L (n+2) (.win k aj off es.length s))=_;rw[if_neg (show¬k<L by omega),b_];simp only[if_neg (show¬k<L by omega),St.mem_of hm,Option.bind_some]
  rw[if_pos hl,hc,yM (λd hd=>by
   obtain⟨e,t_,sG⟩:=List.mem_flatten.1 hd
   exact B e t_ d sG)]
  have h1:(es.map (·.map oX)).flatten=es.flatten.map oX:=by rw[List.map_flatten]
  have X:(es.map (·.map oX)).length=es.length:=ε _
  have h3:∀e∈es.map (·.map oX),e.length=s:=by
   intro e t_;obtain⟨e0,h0,rfl⟩:=List.mem_map.1 t_;rw[ε];exact he e0 h0
  simp only[Option.map_some];rw[<-h1,<-X,fY h3]
def u.UP {aA:Fr} {ty:TypeId} {t:TypeId} {io:Operand} {b:List UInt8} {kk:IntKind} {i:Nat} {c:UInt8} (hg:au ops I ⟨some dst,.index t xo io,ty,pp,a,g⟩=some true) (hx:I.ev xo=.str b) (hi:I.ev io=.int kk (i:Nat)) (ht:P.cF t=some .string) (hc:b[i]?=some c) (B:I.put dst (.int .u8 (c.toNat:Nat))=aA) (h:u P ops rest aA U Tr):u P ops (⟨some dst,.index t xo io,ty,pp,a,g⟩::rest) I U Tr:=by
 refine u.go hg rfl (d:=.int .u8 (c.toNat:Nat)) (st1:=U) ?_ B h;simp only[dY,hx,hi,s8,ht];rw[if_pos (by omega),Int.toNat_natCast,hc];rfl
end Go.V
