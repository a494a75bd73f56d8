/-
 Patterns made simple, as trees: plain.
-/
import Derived.Test.YthahmilhpmfkfaaGreatVGQa
import Derived.Test.YthahmilhpmfkfaaGreatVGQe
import Derived.Test.YthahmilhpmfkfaaGreatVHr
import Derived.Test.YthahmilhpmfkfaaGreatVGCa
import Derived.Test.YthahmilhpmfkfaaGreatVKa
set_option maxRecDepth 100000
set_option linter.unusedSimpArgs false
set_option linter.unusedVariables false
set_option maxHeartbeats 4000000
set_option linter.unusedSectionVars false
namespace Go.Proofs.YthahmilhpmfkfaaGreat
open Go.V Go
def aE.l:aE→List Tr
 | .nil=>[]
 | .cons t ts=>t::ts.l
def dZ:List Tr→aE
 |[]=>.nil
 |t::l=>.cons t (dZ l)
theorem EJ:∀ks:aE,dZ ks.l=ks
 | .nil=>rfl
 | .cons t ts=>by simp only[aE.l,dZ,EJ ts]
theorem mF:∀l:List Tr,(dZ l).l=l
 |[]=>rfl
 |t::l=>by simp only[aE.l,dZ,mF l]
theorem nC:∀ks:aE,ks.l.length=ks.len
 | .nil=>rfl
 | .cons t ts=>by simp only[aE.l,aE.len,List.length_cons,nC ts]
def Tr.n:Tr→bp
 | .mk n _=>n
def Tr.ks:Tr→List Tr
 | .mk _ ks=>ks.l
mutual
def Tr.c:Tr→List D
 | .mk n ks=>[.int .i64 n.op,n.rd,.int .i64 n.mn,.int .i64 n.mx,.bool n.lz,.int .i64 n.cap,.int .i64 n.kids,.sl ks.ds]
def aE.ds:aE→List D
 | .nil=>[]
 | .cons t ts=>.agg t.c::ts.ds
end
theorem EL:∀ks:aE,ks.ds=(ks.l.map Tr.c).map (kY 8)
 | .nil=>by simp[aE.ds,aE.l]
 | .cons t ts=>by simp only[aE.ds,aE.l,List.map_cons,EL ts];rfl
def dL (l:List Tr):D:=.sl ((l.map Tr.c).map (kY 8))
def cg (n:bp) (x:D):List D:=[.int .i64 n.op,n.rd,.int .i64 n.mn,.int .i64 n.mx,.bool n.lz,.int .i64 n.cap,.int .i64 n.kids,x]
theorem Tr.Tt (t:Tr):t.c=cg t.n (dL t.ks):=by
 cases t with
 |mk n ks=>simp only[Tr.c,cg,Tr.n,Tr.ks,dL,EL]
mutual
def Tr.fa (P:bp→Prop):Tr→Prop
 | .mk n ks=>P n∧ks.fa P
def aE.fa (P:bp→Prop):aE→Prop
 | .nil=>True
 | .cons t ts=>t.fa P∧ts.fa P
end
theorem vK {P:bp→Prop}:∀{ks:aE},ks.fa P↔∀t∈ks.l,t.fa P
 | .nil=>by simp[aE.fa,aE.l]
 | .cons t ts=>by simp only[aE.fa,aE.l,List.mem_cons,forall_eq_or_imp,vK (ks:=ts)]
theorem Tr.ez {P:bp→Prop} {t:Tr}:t.fa P↔P t.n∧∀k∈t.ks,k.fa P:=by
 cases t with
 |mk n ks=>simp only[Tr.fa,Tr.n,Tr.ks,vK]
theorem B0 {P:bp→Prop} {n:bp} {l:List Tr}:(Tr.mk n (dZ l)).fa P↔P n∧∀k∈l,k.fa P:=by
 rw[Tr.ez];simp only[Tr.n,Tr.ks,mF]
mutual
theorem Tr.gq {P:bp→Prop}:∀(t:Tr),t.fa P↔∀n∈t.flat,P n
 | .mk n ks=>by simp only[Tr.fa,Tr.flat,List.mem_cons,forall_eq_or_imp,aE.gq ks]
theorem aE.gq {P:bp→Prop}:∀(ts:aE),ts.fa P↔∀n∈ts.flat,P n
 | .nil=>by simp[aE.fa,aE.flat]
 | .cons t ts=>by simp only[aE.fa,aE.flat,List.mem_append,or_imp,forall_and,Tr.gq t,aE.gq ts]
end
mutual
def Tr.fT:Tr→Nat
 | .mk n ks=>ks.fT+1
def aE.fT:aE→Nat
 | .nil=>0
 | .cons t ts=>t.fT+ts.fT
end
def b8 (l:List Tr):Nat:=(l.map Tr.fT).sum
theorem q_:∀ks:aE,ks.fT=b8 ks.l
 | .nil=>rfl
 | .cons t ts=>by simp only[aE.fT,aE.l,b8,List.map_cons,List.sum_cons,q_ ts]
theorem Tr.dY (t:Tr):t.fT=b8 t.ks+1:=by
 cases t with
 |mk n ks=>simp only[Tr.fT,Tr.ks,q_]
theorem oT (n:bp) (l:List Tr):(Tr.mk n (dZ l)).fT=b8 l+1:=by
 rw[Tr.dY];simp only[Tr.ks,mF]
mutual
theorem Tr.kb:∀t:Tr,t.flat.length=t.fT
 | .mk n ks=>by simp only[Tr.flat,Tr.fT,List.length_cons,aE.kb ks]
theorem aE.kb:∀ts:aE,ts.flat.length=ts.fT
 | .nil=>rfl
 | .cons t ts=>by simp only[aE.flat,aE.fT,List.length_append,Tr.kb t,aE.kb ts]
end
theorem kc (a b:List Tr):b8 (a++b)=b8 a+b8 b:=by unfold b8;rw[List.map_append,List.sum_append]
theorem bU (t:Tr) (b:List Tr):b8 (t::b)=t.fT+b8 b:=by unfold b8;rw[List.map_cons,List.sum_cons]
theorem cT:∀l:List Tr,l.length≤b8 l
 |[]=>Nat.le_refl _
 |t::l=>by have:=cT l;have:=Tr.dY t;rw[bU,List.length_cons];omega
theorem fy {l:List Tr} {t:Tr} (h:t∈l):t.fT≤b8 l:=by
 induction l with
 |nil=>cases h
 |cons x l ih=>
  rw[bU]
  rcases List.mem_cons.1 h with rfl|h
  ·omega
  ·have:=ih h;omega
mutual
def Tr.same:Tr→Tr→Bool
 | .mk n ks,.mk m js=>n.op==m.op &&n.mn==m.mn &&n.mx==m.mx &&n.lz==m.lz &&n.cap==m.cap &&n.rs==m.rs &&ks.same js
def aE.same:aE→aE→Bool
 | .nil,.nil=>true
 | .cons t ts,.cons u us=>t.same u &&ts.same us
 | .nil,.cons _ _=>false
 | .cons _ _,.nil=>false
end
def gy:List Tr→List Tr→Bool
 |[],[]=>true
 |t::l,u::k=>t.same u &&gy l k
 |_,_=>false
theorem xw:∀ks js:aE,ks.same js=gy ks.l js.l
 | .nil,.nil=>by simp only[aE.same,aE.l,gy]
 | .cons t ts,.cons u us=>by simp only[aE.same,aE.l,gy,xw ts us]
 | .nil,.cons _ _=>by simp only[aE.same,aE.l,gy]
 | .cons _ _,.nil=>by simp only[aE.same,aE.l,gy]
theorem Tr.HZ (t u:Tr):t.same u=(t.n.op==u.n.op &&t.n.mn==u.n.mn &&t.n.mx==u.n.mx &&t.n.lz==u.n.lz &&t.n.cap==u.n.cap &&t.n.rs==u.n.rs &&gy t.ks u.ks):=by
 cases t;cases u;simp only[Tr.same,Tr.n,Tr.ks,xw]
theorem uw:∀(l k:List Tr),gy l k=true→l.length=k.length
 |[],[],_=>rfl
 |t::l,u::k,h=>by simp only[gy,Bool.and_eq_true] at h;rw[List.length_cons,List.length_cons,uw l k h.2]
 |[],_::_,h=>by cases h
 |_::_,[],h=>by cases h
mutual
def Tr.sR:Tr→Bool
 | .mk n ks=>n.op==6||ks.sR
def aE.sR:aE→Bool
 | .nil=>false
 | .cons t ts=>t.sR||ts.sR
end
theorem Bv:∀ks:aE,ks.sR=ks.l.any Tr.sR
 | .nil=>rfl
 | .cons t ts=>by simp only[aE.sR,aE.l,List.any_cons,Bv ts]
theorem Tr.LJ (t:Tr):t.sR=(t.n.op==6||t.ks.any Tr.sR):=by
 cases t;simp only[Tr.sR,Tr.n,Tr.ks,Bv]
def HC (op:Int):bp:=⟨op,aQ [],[],0,0,false,0,0⟩
def CU (op:Int) (l:List Tr):Tr:=.mk (HC op) (dZ l)
def bj (op:Int) (l:List Tr):List Tr:=l.flatMap fun t=>if t.n.op=op then t.ks else[t]
def gE (op:Int) (l:List Tr):Tr:=match l with
 |[]=>CU 1 []
 |[t]=>t
 |l=>CU op l
def cY (l:List Tr):List Tr:=l.foldl (fun out k=>if out.any (fun x=>x.same k)=true then out else out++[k]) []
noncomputable def qY (a b:List Rg):Tr:=.mk ⟨2,aQ (cm (a++b)),cm (a++b),0,0,false,0,0⟩ .nil
noncomputable def ie (out:List Tr) (k:Tr):List Tr:=match out.getLast? with
 |some t=>if k.n.op=2∧t.n.op=2 then out.set (out.length-1) (qY t.n.rs k.n.rs) else out++[k]
 |none=>out++[k]
noncomputable def cx (l:List Tr):List Tr:=l.foldl ie []
noncomputable def jH:Nat→List Tr→List Tr
 |0,l=>l
 |f+1,l=>if(cx (cY l)).length=l.length then l else jH f (cx (cY l))
def iH (n:bp):Bool:=n.op==5 &&!n.lz &&n.mx==-1 &&decide (n.mn≤1)
def B' (l:List Tr):Bool:=match l with
 |[]=>false
 |t::_=>t.n.op==2
def xP (n:bp) (k:Tr) (l:List Tr):Tr:=
 if k.n.op=1 then k
 else if n.mn=1∧n.mx=1 then k
 else if n.mx=0∧k.sR=false then CU 1 []
 else if(iH {n with lz:=n.lz &&n.mn !=n.mx} &&(iH k.n &&B' k.ks))=true then .mk {k.n with mn:=k.n.mn*n.mn} (dZ k.ks)
 else .mk {n with lz:=n.lz &&n.mn !=n.mx} (dZ l)
noncomputable def pQ (n:bp) (l:List Tr):Tr:=
 if n.op=3 then gE 3 ((bj 3 l).filter fun t=>t.n.op !=1)
 else if n.op=4 then gE 4 (jH (bj 4 l).length (bj 4 l))
 else if n.op=5 then(match l with|k::_=>xP n k l|[]=>.mk n .nil)
 else .mk n (dZ l)
mutual
noncomputable def Tr.less:Tr→Tr
 | .mk n ks=>pQ n ks.less
noncomputable def aE.less:aE→List Tr
 | .nil=>[]
 | .cons t ts=>t.less::ts.less
end
theorem rG:∀ks:aE,ks.less=ks.l.map Tr.less
 | .nil=>rfl
 | .cons t ts=>by simp only[aE.less,aE.l,List.map_cons,rG ts]
theorem Tr.B6 (t:Tr):t.less=pQ t.n (t.ks.map Tr.less):=by
 cases t;simp only[Tr.less,Tr.n,Tr.ks,rG]
mutual
def Tr.pk:Tr→List bp
 | .mk n ks=>{n with kids:=(ks.len:Nat)}::ks.pk
def aE.pk:aE→List bp
 | .nil=>[]
 | .cons t ts=>t.pk++ts.pk
end
theorem Bw:∀ks:aE,ks.pk=ks.l.flatMap Tr.pk
 | .nil=>rfl
 | .cons t ts=>by simp only[aE.pk,aE.l,List.flatMap_cons,Bw ts]
theorem Tr.GP (t:Tr):t.pk={t.n with kids:=(t.ks.length:Nat)}::t.ks.flatMap Tr.pk:=by
 cases t;simp only[Tr.pk,Tr.n,Tr.ks,Bw,nC]
mutual
theorem Tr.kK:∀t:Tr,t.pk.length=t.fT
 | .mk n ks=>by simp only[Tr.pk,Tr.fT,List.length_cons,aE.kK ks]
theorem aE.kK:∀ts:aE,ts.pk.length=ts.fT
 | .nil=>rfl
 | .cons t ts=>by simp only[aE.pk,aE.fT,List.length_append,Tr.kK t,aE.kK ts]
end
noncomputable def dF (l:List bp):List bp:=if fJ l=true then(cq l).less.pk else[]
theorem vA:∀{l:List Rg} {b:Int},canon l→(∀x∈l,b≤x.1∧x.2≤1114111)→2*(l.length:Int)≤max 0 (1114113-b)
 |[],b,_,_=>by simp;omega
 |x::l,b,hc,hb=>by
  obtain⟨h1,h2,h3⟩:=jh hc;have hx:=hb x (List.mem_cons_self ..)
  have ih:=vA (b:=x.2+2) h1 fun y hy=>by
   have uW:=hb y (List.mem_cons_of_mem _ hy);have hle:=h1.1 y hy;have:=h3 y.1 ⟨y,hy,Int.le_refl _,hle⟩;omega
  rw[List.length_cons];omega
theorem Ax {l a:List Rg} (h:fW l a):a.length≤557057:=by
 have hb:∀x∈a,0≤x.1∧x.2≤1114111:=fun x hx=>by
  have hle:=h.1.1 x hx;have g1:=((h.2 x.1).1 ⟨x,hx,Int.le_refl _,hle⟩).1;have g2:=((h.2 x.2).1 ⟨x,hx,hle,Int.le_refl _⟩).1;unfold na at g1 g2;omega
 have:=vA (b:=0) h.1 hb;omega
def nA (n:bp):Prop:=n.rd=aQ n.rs∧n.rs.length≤1048576
def k_ (l:List Tr):Prop:=∀t∈l,t.fa nA
theorem ki {op:Int} {l:List Tr} (h:k_ l):k_ (bj op l):=by
 intro t ht;obtain⟨u,hu,ht⟩:=List.mem_flatMap.1 ht
 split at ht
 ·exact(Tr.ez.1 (h u hu)).2 t ht
 ·simp only[List.mem_cons,List.not_mem_nil,or_false] at ht;rw[ht];exact h u hu
theorem gF (op:Int):∀l:List Tr,b8 (bj op l)≤b8 l
 |[]=>Nat.le_refl _
 |t::l=>by
  have:=gF op l;unfold bj at this⊢;rw[List.flatMap_cons,kc,bU];have h2:=Tr.dY t
  split
  ·omega
  ·simp only[bU];unfold b8 at this⊢;simp only[List.map_nil,List.sum_nil];omega
theorem sX (p:Tr→Bool):∀l:List Tr,b8 (l.filter p)≤b8 l
 |[]=>Nat.le_refl _
 |t::l=>by
  have:=sX p l;rw[List.filter_cons,bU]
  split
  ·rw[bU];omega
  ·omega
theorem MY (op:Int):nA (HC op):=⟨rfl,by simp[HC]⟩
theorem zK {op:Int} {l:List Tr} (h:k_ l):(CU op l).fa nA:=B0.2 ⟨MY op,h⟩
theorem uf {op:Int} {l:List Tr} (h:k_ l):(gE op l).fa nA:=by
 unfold gE
 split
 ·exact zK (by intro t ht;cases ht)
 ·exact h _ (List.mem_cons_self ..)
 ·exact zK h
theorem ug (op:Int) (l:List Tr):(gE op l).fT≤b8 l+1:=by
 unfold gE
 split
 ·unfold CU;rw[oT];omega
 ·rw[bU];omega
 ·unfold CU;rw[oT];omega
theorem oa {α β:Type} {f:β→α→β} {P:β→Prop} {l:List α} (h:∀b a,a∈l→P b→P (f b a)):∀b,P b→P (l.foldl f b):=by
 induction l with
 |nil=>exact fun b hb=>hb
 |cons a l ih=>exact fun b hb=>ih (fun b a ha=>h b a (List.mem_cons_of_mem _ ha)) _ (h b a (List.mem_cons_self ..) hb)
theorem nN {l:List Tr} (h:k_ l):k_ (cY l):=by
 unfold cY;refine oa (P:=k_) (fun b a ha hb=>?_) _ (by intro t ht;cases ht)
 split
 ·exact hb
 ·intro t ht
  rcases List.mem_append.1 ht with ht|ht
  ·exact hb t ht
  ·simp only[List.mem_cons,List.not_mem_nil,or_false] at ht;rw[ht];exact h a ha
theorem Dp (l:List Tr):∀b,b8 (l.foldl (fun out k=>if out.any (fun x=>x.same k)=true then out else out++[k]) b)≤b8 b+b8 l:=by
 induction l with
 |nil=>intro b;unfold b8;simp
 |cons a l ih=>
  intro b;rw[List.foldl_cons,bU]
  split
  ·have:=ih b;omega
  ·have:=ih (b++[a]);rw[kc,bU] at this;unfold b8 at this⊢;simp only[List.map_nil,List.sum_nil] at this;omega
theorem rZ (l:List Tr):b8 (cY l)≤b8 l:=by
 have:=Dp l [];unfold cY;unfold b8 at this⊢;simp only[List.map_nil,List.sum_nil] at this;omega
theorem OQ (a b:List Rg):(cm (a++b)).length≤557057:=by
 unfold cm
 split
 ·rename_i h;exact Ax (Classical.choose_spec h)
 ·simp
theorem LZ (a b:List Rg):(qY a b).fa nA:=by
 unfold qY;simp only[Tr.fa,aE.fa,and_true];exact⟨rfl,by have:=OQ a b;show(cm (a++b)).length≤_;omega⟩
theorem G7 {l:List Tr} {i:Nat} {t u:Tr} (h:l[i]?=some t):b8 (l.set i u)+t.fT=b8 l+u.fT:=by
 induction l generalizing i with
 |nil=>simp at h
 |cons x l ih=>
  cases i with
  |zero=>simp only[List.getElem?_cons_zero,Option.some.injEq] at h;subst h;rw[List.set_cons_zero,bU,bU];omega
  |succ i=>rw[List.set_cons_succ,bU,bU];have:=ih (i:=i) (by simpa using h);omega
theorem CW {l:List Tr} {t:Tr} (h:l.getLast?=some t):l[l.length-1]?=some t:=by rw[←h,List.getLast?_eq_getElem?]
theorem F5 (b:List Tr) (a:Tr):b8 (ie b a)≤b8 b+a.fT:=by
 unfold ie
 split
 ·rename_i t ht
  split
  ·have:=G7 (u:=qY t.n.rs a.n.rs) (CW ht);have h1:(qY t.n.rs a.n.rs).fT=1:=by unfold qY;simp[Tr.fT,aE.fT]
   have h2:=Tr.dY t;omega
  ·rw[kc,bU];unfold b8;simp
 ·rw[kc,bU];unfold b8;simp
theorem yE (l:List Tr):∀b,b8 (l.foldl ie b)≤b8 b+b8 l:=by
 induction l with
 |nil=>intro b;unfold b8;simp
 |cons a l ih=>intro b;rw[List.foldl_cons,bU];have:=ih (ie b a);have:=F5 b a;omega
theorem sF (l:List Tr):b8 (cx l)≤b8 l:=by
 have:=yE l [];unfold cx;unfold b8 at this⊢;simp only[List.map_nil,List.sum_nil] at this;omega
theorem F3 (b:List Tr) (a:Tr):(ie b a).length≤b.length+1:=by
 unfold ie
 split
 ·split
  ·rw[List.length_set];omega
  ·rw[List.length_append];simp
 ·rw[List.length_append];simp
theorem F4 {b:List Tr} {a:Tr} (hb:k_ b) (ha:a.fa nA):k_ (ie b a):=by
 have wV:k_ (b++[a]):=by
  intro t ht
  rcases List.mem_append.1 ht with ht|ht
  ·exact hb t ht
  ·simp only[List.mem_cons,List.not_mem_nil,or_false] at ht;rw[ht];exact ha
 unfold ie
 split
 ·split
  ·intro t ht
   rcases List.mem_or_eq_of_mem_set ht with ht|rfl
   ·exact hb t ht
   ·exact LZ _ _
  ·exact wV
 ·exact wV
theorem kz {l:List Tr} (h:k_ l):k_ (cx l):=by
 unfold cx;exact oa (P:=k_) (fun b a ha hb=>F4 hb (h a ha)) _ (by intro t ht;cases ht)
theorem pS (l:List Tr):∀b,(l.foldl ie b).length≤b.length+l.length:=by
 induction l with
 |nil=>intro b;simp
 |cons a l ih=>intro b;rw[List.foldl_cons,List.length_cons];have:=ih (ie b a);have:=F3 b a;omega
theorem Dn (l:List Tr):∀b,(l.foldl (fun out k=>if out.any (fun x=>x.same k)=true then out else out++[k]) b).length≤b.length+l.length:=by
 induction l with
 |nil=>intro b;simp
 |cons a l ih=>
  intro b;rw[List.foldl_cons,List.length_cons]
  split
  ·have:=ih b;omega
  ·have:=ih (b++[a]);rw[List.length_append] at this;simp only[List.length_cons,List.length_nil] at this;omega
theorem CV (l:List Tr):(cx (cY l)).length≤l.length:=by
 have h1:=pS (cY l) [];have h2:=Dn l [];unfold cx cY at*;simp only[List.length_nil] at h1 h2;omega
theorem vE:∀(f:Nat) {l:List Tr},k_ l→k_ (jH f l)∧b8 (jH f l)≤b8 l
 |0,l,h=>⟨h,Nat.le_refl _⟩
 |f+1,l,h=>by
  unfold jH
  split
  ·exact⟨h,Nat.le_refl _⟩
  ·obtain⟨h1,h2⟩:=vE f (kz (nN h));have:=sF (cY l);have:=rZ l;exact⟨h1,by omega⟩
theorem H4 {n:bp} {k:Tr} {l:List Tr} (hn:nA n) (h:k_ l) (hk:k∈l):(xP n k l).fa nA:=by
 have hkk:=h k hk;unfold xP
 split
 ·exact hkk
 split
 ·exact hkk
 split
 ·exact zK (by intro t ht;cases ht)
 split
 ·exact B0.2 ⟨(Tr.ez.1 hkk).1,(Tr.ez.1 hkk).2⟩
 ·exact B0.2 ⟨hn,h⟩
theorem H5 {n:bp} {k:Tr} {l:List Tr} (hk:k∈l):(xP n k l).fT≤b8 l+1:=by
 have:=fy hk;unfold xP
 split
 ·omega
 split
 ·omega
 split
 ·unfold CU;rw[oT];unfold b8;simp
 split
 ·rw[oT];have:=Tr.dY k;omega
 ·rw[oT];omega
theorem DA {n:bp} {l:List Tr} (hn:nA n) (h:k_ l):(pQ n l).fa nA∧(pQ n l).fT≤b8 l+1:=by
 unfold pQ
 split
 ·have h1:=sX (fun t=>t.n.op !=1) (bj 3 l);have h2:=gF 3 l;have h3:=ug 3 ((bj 3 l).filter fun t=>t.n.op !=1);exact⟨uf fun t ht=>ki h t (List.mem_filter.1 ht).1,by omega⟩
 split
 ·obtain⟨h1,h2⟩:=vE (bj 4 l).length (ki (op:=4) h);have h3:=gF 4 l;have h4:=ug 4 (jH (bj 4 l).length (bj 4 l));exact⟨uf h1,by omega⟩
 split
 ·cases l with
  |nil=>exact⟨by simp only[Tr.fa,aE.fa,and_true];exact hn,by simp[Tr.fT,aE.fT,b8]⟩
  |cons k l=>exact⟨H4 hn h (List.mem_cons_self ..),H5 (List.mem_cons_self ..)⟩
 ·exact⟨B0.2 ⟨hn,h⟩,by rw[oT];omega⟩
mutual
theorem Tr.ib:∀(t:Tr),t.fa nA→t.less.fa nA∧t.less.fT≤t.fT
 | .mk n ks,h=>by
  simp only[Tr.fa] at h;obtain⟨h1,h2⟩:=aE.ib ks h.2;obtain⟨h3,h4⟩:=DA h.1 h1;simp only[Tr.less,Tr.fT];exact⟨h3,by omega⟩
theorem aE.ib:∀(ts:aE),ts.fa nA→k_ ts.less∧b8 ts.less≤ts.fT
 | .nil,_=>⟨by intro t ht;simp[aE.less] at ht,by simp[aE.less,b8]⟩
 | .cons t ts,h=>by
  simp only[aE.fa] at h;obtain⟨h1,h2⟩:=Tr.ib t h.1;obtain⟨h3,h4⟩:=aE.ib ts h.2;simp only[aE.less,aE.fT];refine⟨fun u hu=>?_,by rw[bU];omega⟩
  rcases List.mem_cons.1 hu with rfl|hu
  ·exact h1
  ·exact h3 u hu
end
mutual
theorem Tr.sW:∀(t:Tr),t.fa nA→t.fT≤1048576→∀n∈t.pk,nz n
 | .mk n ks,h,hc=>by
  simp only[Tr.fa] at h;simp only[Tr.fT] at hc;have ih:=aE.sW ks h.2 (by omega);simp only[Tr.pk,List.mem_cons];rintro m (rfl|hm)
  ·have h1:=nC ks;have h2:=cT ks.l;rw[←q_] at h2;exact⟨h.1.1,h.1.2,by show((ks.len:Nat):Int)≤_;omega⟩
  ·exact ih m hm
theorem aE.sW:∀(ts:aE),ts.fa nA→ts.fT≤1048576→∀n∈ts.pk,nz n
 | .nil,_,_=>by simp[aE.pk]
 | .cons t ts,h,hc=>by
  simp only[aE.fa] at h;simp only[aE.fT] at hc;have h1:=Tr.sW t h.1 (by omega);have h2:=aE.sW ts h.2 (by omega);simp only[aE.pk,List.mem_append];rintro m (hm|hm)
  ·exact h1 m hm
  ·exact h2 m hm
end
theorem uu {l:List bp} (h:∀n∈l,nz n) (hl:l.length≤500):(∀n∈dF l,nz n)∧(dF l).length≤500:=by
 unfold dF
 split
 ·rename_i hr;obtain⟨_,h2⟩:=nD hr;have hfa:(cq l).fa nA:=(Tr.gq _).2 fun n hn=>by rw[h2] at hn;exact⟨(h n hn).1,(h n hn).2.1⟩
  obtain⟨h3,h4⟩:=Tr.ib _ hfa;have h5:=Tr.kb (cq l);rw[h2] at h5;have h6:=Tr.kK (cq l).less;exact⟨Tr.sW _ h3 (by omega),by omega⟩
 ·exact⟨fun n hn=>(by cases hn),by simp⟩
def o8 (fr:Go.V.Fr) (k:Nat):Go.V.D:=Go.V.nth .bf fr.loc k
def tC (t:Tr):List D:=cg t.n (dL t.ks)
theorem MF:Tr.c=tC:=by funext t;exact Tr.Tt t
theorem m_ (l:List Tr):dL l=.sl ((l.map tC).map (kY 8)):=by unfold dL;rw[MF]
theorem mH {l:List Tr} {i:Nat} {q:Tr} (h:l[i]?=some q):(l.map tC)[i]?=some (tC q):=by rw[List.getElem?_map,h];rfl
theorem ME (l:List Tr):∀e∈l.map tC,e.length=8:=by
 intro e he;obtain⟨r,_,rfl⟩:=List.mem_map.1 he;rfl
theorem lV {l:List Tr} (h:∀t∈l,t.fa nA):∀e∈l.map tC,∀d∈e,b_ d=true:=by
 intro e he d hd;obtain⟨r,hr,rfl⟩:=List.mem_map.1 he;have h1:=(Tr.ez.1 (h r hr)).1.1;simp only[tC,cg,dL,List.mem_cons,List.not_mem_nil,or_false] at hd
 rcases hd with rfl|rfl|rfl|rfl|rfl|rfl|rfl|rfl<;>try rfl
 rw[h1];rfl
theorem hY {t:Tr} (h:t.fa nA) (st:St) (N n:Nat):aJ st N false (n+2) (.agg (tC t))=some (.agg (tC t)):=by
 have h1:=(Tr.ez.1 h).1.1;unfold tC cg;rw[h1];rfl
theorem eJ (st:St) {l:List Tr} (h:∀t∈l,t.fa nA):V.Rows st 8 (dL l) (l.map tC):=by
 rw[m_];exact Rows.sm (ME l) (lV h)
theorem BR {s0:St} {n:bp}:Ev pv 84 [.agg (aH n)] s0 (.bool (iH n)) s0:=by
 unfold iH;refine Ev.iZ rfl Se rfl rfl rfl ?_;refine zE ?_;obtain⟨aU,hF,hH⟩:=ri s0;generalize ag .ro s0=S at*;refine zQ 2 ?_;refine qb hH fun k1 st lG hH=>?_;dsimp only[u2,u1,u3,u4,setMany,u5,u6,D.cells,Nat.reduceAdd,aH] at hH;refine zQ 3 ?_;refine ai.qX 2 (.bool (n.op==5 &&!n.lz &&n.mx==-1 &&decide (n.mn≤1))) [] ?_ (fun ff tmp=>?_)
 ·refine zQ 4 ?_;refine ae.two 6 rfl (fun dM=>?_) (fun dM=>?_)
  ·refine zQ 5 ?_;refine ae.two 11 rfl (fun dx=>?_) (fun dx=>?_)
   ·refine zQ 5 ?_;refine ae.two 16 rfl (fun ka=>?_) (fun ka=>?_)
    ·refine zQ 5 ?_;refine ae.nil (aO ?_);refine zG ?_
     all_goals(simp[dM,dx,ka];done)
    ·refine zQ 5 ?_;refine ae.nil (aO ?_);refine zG ?_
     all_goals(simp[dM,dx,ka];done)
   ·refine zQ 10 ?_;refine ae.nil (aO ?_);refine zG ?_
    all_goals(simp[dM,dx];done)
  ·refine zQ 15 ?_;refine ae.nil (aO ?_);refine zG ?_
   all_goals(simp[dM];done)
 dsimp only[bk,List.foldl,nth,u2,u1];refine ai.ret ⟨rx,_,rfl,rl aU hH (rfl)⟩
theorem yI {s0:St} {x:D} {l:List Tr} {g:Nat} {fz:List D} {p:Tr→Bool} (hx:V.Rows s0 8 x (l.map tC)) (hl:l.length≤1048576) (hf:∀(st:St),(∀k,k<s0.bs.length→st.bs[k]?=s0.bs[k]?)→∀t∈l,Ev pv g ([.agg (tC t)]++fz) st (.bool (p t)) st):
  ∃d,Ev pv 90 [x,.fn g fz] s0 d s0∧∃i:Int,d=.int .i64 i∧((i=-1∧∀t∈l,p t=false)∨(∃j:Nat,i=(j:Nat)∧j<l.length∧(∀t∈l.take j,p t=false)∧∃t,l[j]?=some t∧p t=true)):=by
 refine Ev.JW rfl R_ rfl rfl rfl ?_;refine zE ?_;obtain⟨aU,hF,hH⟩:=ri s0;generalize ag .ro s0=S at*;have hx:=Arg.of hx aU;refine zQ 8 ?_;refine qn ?_;simp only[List.length_map];refine zQ 3 ?_;refine ai.loop (fun mm fr st=>∃(i:Nat),fr.clean=⟨9,[x,.fn g fz,o8 fr 2,o8 fr 3,o8 fr 4,o8 fr 5,o8 fr 6,.int .i64 (l.length:Nat),.int .i64 (i:Nat)],[]⟩∧Has s0.bs.length S st []∧(i+mm=l.length)∧(∀t∈l.take i,p t=false)) (l.length) ?_ ?_
 ·exact⟨0,rfl,hH,by omega,by simp⟩
 rintro mm fr st ⟨i,hfr,hH,hi,ht⟩;rw[hfr];clear hfr;generalize o8 fr=ee;clear fr;refine zQ 5 ?_;refine zP (fun h1=>?_) fun h1=>?_
 ·refine zQ 1 ?_
  obtain⟨q,hq⟩:∃q,l[i]?=some q:=⟨l[i]'(by omega),List.getElem?_eq_getElem _⟩
  have gr:=mH hq;refine zQ 12 ?_;refine qr fun TW NA=>?_;refine ae.cA rfl (ev rfl) (by assumption) rfl (aa rfl _) ?_;refine qv (hf _ (fun k hk=>by rw[hH.ex.low k hk,aU]) q (List.mem_of_getElem? hq)) ?_;refine zQ 1 ?_
  cases hp:p q with
  |true=>
   refine ai.cond (v:=true) (by dsimp only[Fr.ev,Fr.get,nth,V.look];done) (fun _=>?_) (fun h=>by cases h);refine zQ 5 ?_;refine ai.ret ⟨rx,_,_,rfl,rl aU hH (rfl),?_⟩;exact⟨(i:Nat),rfl,.inr ⟨i,rfl,by omega,ht,q,hq,hp⟩⟩
  |false=>
   refine ai.cond (v:=false) (by dsimp only[Fr.ev,Fr.get,nth,V.look];done) (fun h=>by cases h) (fun _=>?_);refine zQ 5 ?_;exact⟨mm-1,by omega,⟨i+1,rfl,hH,by omega,(by rw[List.take_add_one,hq];intro t h;rcases List.mem_append.1 h with h|h;exact ht t h;simp at h;rw[h];exact hp)⟩⟩
 ·refine zQ 5 ?_;refine ai.ret ⟨rx,_,_,rfl,rl aU hH (rfl),?_⟩;exact⟨_,rfl,.inl ⟨rfl,by rw[List.take_of_length_le (by omega)] at ht;exact ht⟩⟩
theorem p_ {s0:St} {x:D} {l:List Tr} {g:Nat} {fz:List D} {p:Tr→Bool} (hx:V.Rows s0 8 x (l.map tC)) (hl:l.length≤1048576) (hf:∀(st:St),(∀k,k<s0.bs.length→st.bs[k]?=s0.bs[k]?)→∀t∈l,Ev pv g ([.agg (tC t)]++fz) st (.bool (p t)) st):
  Ev pv 92 [x,.fn g fz] s0 (.bool (l.any p)) s0:=by
 refine Ev.iZ rfl R8 rfl rfl rfl ?_;refine zE ?_;obtain⟨aU,hF,hH⟩:=ri s0;generalize ag .ro s0=S at*;have hx:=Arg.of hx aU;obtain⟨d,aC,i,rfl,hi⟩:=yI (s0:=S) hx.1 hl (p:=p) (g:=g) (fz:=fz) (fun st h=>hf st (fun k hk=>by rw[h k (by rw[aU];exact hk),aU]))
 have hv:l.any p=decide (i≥0):=by
  rcases hi with⟨rfl,h⟩|⟨j,rfl,h1,h2,t,h3,h4⟩
  ·rw[show decide ((-1:Int)≥0)=false from rfl,List.any_eq_false];intro t ht;rw[h t ht];simp
  ·rw[decide_eq_true (by omega),List.any_eq_true];exact⟨t,List.mem_of_getElem? h3,h4⟩
 rw[hv];refine zQ 8 ?_;refine qv aC ?_;refine zQ 3 ?_;refine ai.ret ⟨rx,_,rfl,rl aU hH (rfl)⟩
theorem ve:∀(n:Nat) (t:Tr),t.fT≤n→n≤1048576→t.fa nA→∀s0:St,Ev pv 83 [.agg (tC t)] s0 (.bool t.sR) s0
 |0,t,h,_,_,_=>by have:=Tr.dY t;omega
 |n+1,t,h,hn,hfa,s0=>by
  have NW:=Tr.dY t;have gT:=cT t.ks;have tS:=(Tr.ez.1 hfa).2;have AP:∀(st s:St),(∀k,k<st.bs.length→s.bs[k]?=st.bs[k]?)→∀k∈t.ks,Ev pv 83 ([.agg (tC k)]++[]) s (.bool (Tr.sR k)) s:=fun st s _ k hk=>ve n k (by have:=fy hk;omega) (by omega) (tS k hk) s;have GA:∀st,Ev pv 92 [dL t.ks,.fn 83 []] st (.bool (t.ks.any Tr.sR)) st:=fun st=>p_ (eJ st tS) (by omega) (AP st);rw[Tr.LJ];refine Ev.iZ rfl Sf rfl rfl rfl ?_;refine zE ?_;obtain⟨aU,hF,hH⟩:=ri s0;generalize ag .ro s0=S at*;refine zQ 2 ?_;refine qb hH fun k1 st lG hH=>?_;dsimp only[u2,u1,u3,u4,setMany,u5,u6,D.cells,Nat.reduceAdd,tC,cg] at hH;refine zQ 3 ?_;refine ai.qX 2 (.bool (t.n.op==6||t.ks.any Tr.sR)) [] ?_ (fun ff tmp=>?_)
  ·refine zQ 5 ?_;refine ae.two 7 rfl (fun tV=>?_) (fun tV=>?_)
   ·refine zQ 5 ?_;refine ae.nil (aO ?_);refine zG ?_
    all_goals(simp[tV];done)
   ·refine zQ 2 ?_;refine qv (GA _) ?_ (hg:=wi tV);refine zQ 2 ?_;refine ae.nil (aO ?_);refine zG ?_
    all_goals(simp[tV];done)
  dsimp only[bk,List.foldl,nth,u2,u1];refine ai.ret ⟨rx,_,rfl,rl aU hH (rfl)⟩
theorem pH {st:St} {s N:Nat} {x:D} {es:List (List D)} (h:V.Rows st s x es) (hN:st.bs.length≤N) (hne:es≠[]) (ah:St) (n:Nat):aJ ah N false (n+1) x=some x:=by
 have hr:=Rows.ref h
 cases h with
 |nul=>exact absurd rfl hne
 |sl es h=>rfl
 |win k au off es ar c hm hl he=>
  simp only[D.ref] at hr;show(if k<N then some (D.win k au off es.length s) else _)=_;rw[if_pos (by omega)]
theorem Hl {op x:D} (h:x.cells?=some [x]) (ho:∃i,op=.int .i64 i):tn pv 108 [(0,.agg [op,.nul,.int .i64 0,.int .i64 0,.bool false,.int .i64 0,.int .i64 0]),(1,x)]=some (.agg [op,.nul,.int .i64 0,.int .i64 0,.bool false,.int .i64 0,.int .i64 0,x]):=by
 obtain⟨i,rfl⟩:=ho
 cases x<;>first|rfl|(exfalso;simp[D.cells?] at h;done)|(exfalso;simp only[D.cells?,Option.some.injEq] at h;have h2:=congrArg (fun l:List D=>SizeOf.sizeOf l) h;simp at h2;done)|(exfalso;simp only[D.cells?,Option.some.injEq] at h;have h2:=congrArg (fun l:List D=>SizeOf.sizeOf l) h;simp at h2;omega)
theorem ju {st : St} {s : Nat} {x : D} {es : List (List D)} (h : V.Rows st s x es) : x.cells? = some [x] := by cases h <;> rfl
def zB (op:Int) (x:D) (l:List Tr):List D:=match l with
 |[]=>tC (CU 1 [])
 |[t]=>tC t
 |_=>cg (HC op) x
theorem xr {s0:St} {x:D} {l:List Tr} {op:Int} (hx:V.Rows s0 8 x (l.map tC)) (hl:l.length≤1048576) (Cl:k_ l):Ev pv 80 [.int .i64 op,x] s0 (.agg (zB op x l)) s0:=by
 have hfz:l≠[]→∀ah n,aJ ah s0.bs.length false (n+1) x=some x:=fun h=>pH hx (Nat.le_refl _) (by simpa using h);have Yi:=hx;have Kb:=ju hx;refine Ev.iZ rfl Si rfl rfl rfl ?_;refine zE ?_;obtain⟨aU,hF,hH⟩:=ri s0;generalize ag .ro s0=S at*;have hx:=Arg.of hx aU;refine zQ 2 ?_;refine qa hH fun k4 st NZ hH=>?_;refine zQ 5 ?_;refine qn ?_;simp only[List.length_map];refine zQ 2 ?_
 rcases l with _|⟨t,_|⟨u,l⟩⟩
 ·refine zQ 8 ?_;refine ae.go (d:=.agg [.int .i64 1,.nul,.int .i64 0,.int .i64 0,.bool false,.int .i64 0,.int .i64 0]) (st1:=_) rfl rfl rfl (aa rfl _) ?_;refine ae.go (d:=.agg [.int .i64 1,.nul,.int .i64 0,.int .i64 0,.bool false,.int .i64 0,.int .i64 0,.nul]) (st1:=_) rfl rfl rfl (aa rfl _) ?_;refine ae.bC hH rfl (ev rfl) (ev rfl) rfl (by exact rfl) aG (by exact rfl) (.inl hF) (fun st hH=>?_);dsimp only[u1,u2] at hH;refine zQ 1 ?_;refine ai.ret ⟨rx,_,hH.ck rfl aG rfl,rl aU hH rfl⟩
 ·refine zQ 12 ?_;have gr:([t].map tC)[0]?=some (tC t):=rfl;have hn:=(Tr.ez.1 (Cl t (List.mem_singleton.2 rfl))).1.1;refine zQ 3 ?_;refine qr fun TW NA=>?_;refine ae.cA rfl (ev rfl) (by assumption) rfl (aa rfl _) ?_;refine ae.bC hH rfl (ev rfl) (ev rfl) rfl (by exact rfl) aG (by exact rfl) (.inl hF) (fun st hH=>?_);dsimp only[u1,u2] at hH;refine zQ 1 ?_;refine ai.ret ⟨rx,_,hH.ck rfl aG rfl,rl aU hH ?_⟩;exact hY (Cl t (List.mem_singleton.2 rfl)) _ _ _
 ·have N':((((t::u::l).length:Nat):Int)==0)=false:=by simp;omega
  have ny:((((t::u::l).length:Nat):Int)==1)=false:=by simp;omega
  have iR:zB op x (t::u::l)=cg (HC op) x:=rfl;rw[iR];have h8:=fun ah=>hfz (by simp) ah 14;generalize(t::u::l)=l at*;refine zQ 5 ?_;refine qE rfl (by rw[N']) ?_;refine zQ 5 ?_;refine qE rfl (by rw[ny]) ?_;refine zQ 4 ?_;refine ae.go (d:=.agg [.int .i64 op,.nul,.int .i64 0,.int .i64 0,.bool false,.int .i64 0,.int .i64 0]) (st1:=_) rfl rfl rfl (aa rfl _) ?_;refine qm ?_;refine ae.go (d:=.agg [.int .i64 op,.nul,.int .i64 0,.int .i64 0,.bool false,.int .i64 0,.int .i64 0,x]) (st1:=_) rfl rfl (by exact congrArg (Option.map fun d=>(d,_)) (Hl Kb ⟨_,rfl⟩)) (aa rfl _) ?_;refine ae.bC hH rfl (ev rfl) (ev rfl) rfl (by exact rfl) aG (by exact rfl) (.inl hF) (fun st hH=>?_);dsimp only[u1,u2] at hH;refine zQ 1 ?_;refine ai.ret ⟨rx,_,hH.ck rfl aG rfl,rl aU hH ?_⟩;show(ec (aJ st s0.bs.length false 15) [.int .i64 op,.nul,.int .i64 0,.int .i64 0,.bool false,.int .i64 0,.int .i64 0,x]).map D.agg=_;simp only[ec,h8]
  rfl
def iD (fr:Go.V.Fr) (k:Nat):Go.V.D:=Go.V.nth .bf fr.loc k
theorem z6 {l k:List Tr} {i:Nat} {t u:Tr} (h:l[i]?=some t) (h2:k[i]?=some u):gy (l.drop i) (k.drop i)=(t.same u &&gy (l.drop (i+1)) (k.drop (i+1))):=by
 obtain⟨h3,h4⟩:=List.getElem?_eq_some_iff.1 h;obtain⟨h5,h6⟩:=List.getElem?_eq_some_iff.1 h2;rw[List.drop_eq_getElem_cons h3,List.drop_eq_getElem_cons h5,h4,h6,gy]
theorem GV {s0:St} {x y:D} {l k:List Tr} {g:Nat} (hx:V.Rows s0 8 x (l.map tC)) (hy:V.Rows s0 8 y (k.map tC)) (hl:l.length≤1048576) (hk:k.length≤1048576)
  (hf:∀(st:St),∀t∈l,∀u∈k,Ev pv g ([.agg (tC t),.agg (tC u)]++[]) st (.bool (t.same u)) st):Ev pv 109 [x,y,.fn g []] s0 (.bool (gy l k)) s0:=by
 refine Ev.iZ rfl OA rfl rfl rfl ?_;refine zE ?_;obtain⟨aU,hF,hH⟩:=ri s0;generalize ag .ro s0=S at*;have hx:=Arg.of hx aU;have hy:=Arg.of hy aU;refine zQ 8 ?_;refine qn ?_;simp only[List.length_map];refine qm ?_;refine qn ?_;simp only[List.length_map];refine zQ 2 ?_
 by_cases hlen:l.length=k.length
 ·have hc:((((l.length:Nat):Int) !=((k.length:Nat):Int)))=false:=by rw[hlen];simp
  refine qE rfl (by rw[hc]) ?_;refine zQ 5 ?_;refine qn ?_;simp only[List.length_map];refine zQ 3 ?_;refine ai.loop (fun mm fr st=>∃(i:Nat),fr.clean=⟨18,[x,y,.fn g [],iD fr 3,iD fr 4,iD fr 5,.bool false,iD fr 7,iD fr 8,iD fr 9,iD fr 10,iD fr 11,iD fr 12,iD fr 13,iD fr 14,x,.int .i64 (l.length:Nat),.int .i64 (i:Nat)],[]⟩∧Has s0.bs.length S st []∧(i+mm=l.length)∧(gy (l.drop i) (k.drop i)=gy l k)) (l.length) ?_ ?_
  ·exact⟨0,rfl,hH,by omega,rfl⟩
  rintro mm fr st ⟨i,hfr,hH,hi,ht⟩;rw[hfr];clear hfr;generalize iD fr=ee;clear fr;refine zQ 5 ?_;refine zP (fun h1=>?_) fun h1=>?_
  ·refine zQ 1 ?_
   obtain⟨p,hp⟩:∃p,l[i]?=some p:=⟨l[i]'(by omega),List.getElem?_eq_getElem _⟩
   obtain⟨q,hq⟩:∃q,k[i]?=some q:=⟨k[i]'(by omega),List.getElem?_eq_getElem _⟩
   have gr:=mH hp;have qK:=mH hq;rw[z6 hp hq] at ht;refine zQ 5 ?_;refine qr fun MR Gi=>?_;refine ae.cA rfl (ev rfl) (by assumption) rfl (aa rfl _) ?_;refine qa hH fun k8 st Rf hH=>?_;refine qm ?_;refine qS hH aG fun st hH=>?_;dsimp only[u2,u1,u3,u4,setMany,u5,u6,D.cells,Nat.reduceAdd,tC,cg] at hH;refine zQ 5 ?_;refine qr fun MP Gg=>?_;refine ae.cA rfl (ev rfl) (by assumption) rfl (aa rfl _) ?_;refine qa hH fun k9 st Re hH=>?_;refine qS hH aG fun st hH=>?_;dsimp only[u2,u1,u3,u4,setMany,u5,u6,D.cells,Nat.reduceAdd,tC,cg] at hH;refine zQ 4 ?_;refine ae.aN (m:=8) (r:=tC p) hH rfl (ev rfl) aV rfl rfl rfl (aa rfl _) ?_;refine ae.aN (m:=8) (r:=tC q) hH rfl (ev rfl) aG rfl rfl rfl (aa rfl _) ?_;refine qv (hf _ p (List.mem_of_getElem? hp) q (List.mem_of_getElem? hq)) ?_;refine zQ 2 ?_
   cases hs:p.same q with
   |false=>
    refine ai.cond (v:=true) (by dsimp only[Fr.ev,Fr.get,nth,V.look];rfl) (fun _=>?_) (fun h=>by cases h);rw[hs,Bool.false_and] at ht;refine zQ 4 ?_;rw[←ht];refine ai.ret ⟨rx,_,rfl,rl aU hH (rfl)⟩
   |true=>
    refine ai.cond (v:=false) (by dsimp only[Fr.ev,Fr.get,nth,V.look];rfl) (fun h=>by cases h) (fun _=>?_);rw[hs,Bool.true_and] at ht;refine zQ 1 ?_;have hH:=hH.drop 2;refine zQ 4 ?_;exact⟨mm-1,by omega,⟨i+1,rfl,hH,by omega,ht⟩⟩
  ·refine zQ 5 ?_;rw[←ht];have he:i=l.length:=by omega
   rw[he,List.drop_length,show l.length=k.length from hlen,List.drop_length];refine ai.ret ⟨rx,_,rfl,rl aU hH (rfl)⟩
 ·have hc:((((l.length:Nat):Int) !=((k.length:Nat):Int)))=true:=by simp;omega
  refine qD rfl (by rw[hc]) ?_;refine zQ 4 ?_
  have hn:gy l k=false:=by
   cases hs:gy l k with
   |false=>rfl
   |true=>exact absurd (uw _ _ hs) hlen
  rw[hn];refine ai.ret ⟨rx,_,rfl,rl aU hH (rfl)⟩
theorem C6 (a b c d e f g:Bool):(a &&b &&c &&d &&e &&f &&g)=(!(!a||!b||!c||!d||!e||!f) &&g):=by
 cases a<;>cases b<;>cases c<;>cases d<;>cases e<;>cases f<;>rfl
theorem BI:∀(n:Nat) (t u:Tr),t.fT≤n→n≤1048576→u.fT≤1048576→t.fa nA→u.fa nA→∀s0:St,Ev pv 94 [.agg (tC t),.agg (tC u)] s0 (.bool (t.same u)) s0
 |0,t,u,h,_,_,_,_,_=>by have:=Tr.dY t;omega
 |n+1,t,u,h,hn,hu,hfa,hfb,s0=>by
  have NW:=Tr.dY t;have gT:=cT t.ks;have tS:=(Tr.ez.1 hfa).2;have Wx:=Tr.dY u;have NU:=cT u.ks;have NV:=(Tr.ez.1 hfb).2;obtain⟨tQ,iR⟩:=(Tr.ez.1 hfa).1;obtain⟨Ci,Gn⟩:=(Tr.ez.1 hfb).1;have AP:∀st:St,∀k∈t.ks,∀j∈u.ks,Ev pv 94 ([.agg (tC k),.agg (tC j)]++[]) st (.bool (k.same j)) st:=fun st k hk j hj=>BI n k j (by have:=fy hk;omega) (by omega) (by have:=fy hj;omega) (tS k hk) (NV j hj) st;have GA:∀st,Ev pv 109 [dL t.ks,dL u.ks,.fn 94 []] st (.bool (gy t.ks u.ks)) st:=fun st=>GV (eJ st tS) (eJ st NV) (by omega) (by omega) AP;have heq:∀st,Ev pv 105 [t.n.rd,u.n.rd] st (.bool (decide (t.n.rs=u.n.rs))) st:=fun st=>by rw[tQ,Ci];exact y_ (cE st _) (cE st _) (by omega) (by omega)
  have Xt:(t.n.rs==u.n.rs)=decide (t.n.rs=u.n.rs):=by rw[Bool.eq_iff_iff,beq_iff_eq,decide_eq_true_eq]
  rw[Tr.HZ,Xt,C6];refine Ev.iZ rfl R6 rfl rfl rfl ?_;refine zE ?_;obtain⟨aU,hF,hH⟩:=ri s0;generalize ag .ro s0=S at*;refine qq<|qj fun K hK=>qb hH fun k2 st hk2 hH=>?_;dsimp only[u2,u1,u3,u4,setMany,u5,u6,D.cells,Nat.reduceAdd,tC,cg,aH] at hH;refine qb hH fun k3 st DQ hH=>?_;dsimp only[u2,u1,u3,u4,setMany,u5,u6,D.cells,Nat.reduceAdd,tC,cg,aH] at hH;refine qm ?_;refine qe hK ?_;have hA:=hH;change ai _ _ _ _ _ _;refine qq ?_;generalize hK:bn _ _ _ _=K;refine ai.Ia rfl ?_;refine gf.cons ?_;refine qp (o:=0) ?_;refine ae.nil ⟨rfl,?_⟩;refine gf.cons ?_;refine ae.aN (m:=7) hH rfl (ev rfl) (by exact aV) (by dsimp only[List.drop_succ_cons,List.drop_zero,List.take_succ_cons,List.take_zero,tC,cg,aH]<;>rfl) rfl rfl (aa rfl _) ?_;refine ae.nil ⟨rfl,?_⟩;refine gf.cons ?_;refine qp (o:=0) ?_;refine ae.nil ⟨rfl,?_⟩;refine gf.cons ?_;refine ae.aN (m:=7) hH rfl (ev rfl) (by exact aG) (by dsimp only[List.drop_succ_cons,List.drop_zero,List.take_succ_cons,List.take_zero,tC,cg,aH]<;>rfl) rfl rfl (aa rfl _) ?_;refine ae.nil ⟨rfl,?_⟩;refine gf.cons ?_;refine qa hH fun k5 st HG hH=>?_;refine ae.nil ⟨rfl,?_⟩;refine gf.cons ?_;refine qa hH fun k6 st J' hH=>?_;refine ae.nil ⟨rfl,?_⟩;refine gf.cons ?_;have hB:=hH;refine ae.bC hH rfl (ev rfl) (ev rfl) rfl (by exact rfl) aV (by exact rfl) (.inl hF) (fun st hH=>?_);dsimp only[u1,u2] at hH;refine ae.nil ⟨by exact Bool.and_eq_true_iff.2 ⟨Ed rfl rfl rfl (hB.at bE) (hH.at bE) (hA.at aG) (by simp[refs,D.ref,Ci,aQ,dL]),rfl⟩,?_⟩;refine gf.cons ?_;refine qS hH aG fun st hH=>?_;dsimp only[u2,u1,u3,u4,setMany,u5,u6,D.cells,Nat.reduceAdd,tC,cg,aH] at hH;refine ae.nil ⟨rfl,?_⟩;refine gf.nil ?_;subst hK;refine qq<|qq<|ai.mC 51 (.bool (t.n.op !=u.n.op||t.n.mn !=u.n.mn||t.n.mx !=u.n.mx||t.n.lz !=u.n.lz||t.n.cap !=u.n.cap||!decide (t.n.rs=u.n.rs))) [] ?_ (fun ff tmp fv=>?_)
  ·refine qp (o:=0) ?_;refine ql hH aV ?_;refine qp (o:=0) ?_;refine ql hH aG ?_;refine qg ?_;refine qm ?_;refine ae.two 16 rfl (fun dQ=>?_) (fun dQ=>?_)
   ·refine qs ?_ (hg:=wn dQ);refine qs ?_ (hg:=wn dQ);refine qs ?_ (hg:=wn dQ);refine qs ?_ (hg:=wn dQ);refine qs ?_ (hg:=wn dQ);refine qt dQ ?_;refine qm ?_;refine qs ?_;refine qs ?_;refine qs ?_;refine qs ?_;refine qs ?_;refine qg ?_;refine qm ?_;refine qs ?_;refine qs ?_;refine qs ?_;refine qs ?_;refine qs ?_;refine qg ?_;refine qm ?_;refine qs ?_;refine qs ?_;refine qs ?_;refine qs ?_;refine qs ?_;refine qg ?_;refine qm ?_;refine qs ?_;refine qs ?_;refine qs ?_;refine qs ?_;refine qs ?_;refine qs ?_;refine qg ?_;refine ae.nil (c_ ?_ ?_)
    ·dsimp only[bk,List.foldl,nth,u2,u1]
     all_goals(first|rfl|simp)
    ·refine zF ?_
     all_goals(simp[dQ];done)
   ·refine qp (o:=2) ?_ (hg:=wi dQ);refine ql hH aV ?_ (hg:=wi dQ);refine qp (o:=2) ?_ (hg:=wi dQ);refine ql hH aG ?_ (hg:=wi dQ);refine qg ?_ (hg:=wi dQ);refine qu dQ ?_;refine qm ?_;refine ae.two 23 rfl (fun fS=>?_) (fun fS=>?_)
    ·refine qs ?_ (hg:=wn fS);refine qs ?_ (hg:=wn fS);refine qs ?_ (hg:=wn fS);refine qs ?_ (hg:=wn fS);refine qs ?_ (hg:=wn fS);refine qt fS ?_;refine qm ?_;refine qs ?_;refine qs ?_;refine qs ?_;refine qs ?_;refine qs ?_;refine qg ?_;refine qm ?_;refine qs ?_;refine qs ?_;refine qs ?_;refine qs ?_;refine qs ?_;refine qg ?_;refine qm ?_;refine qs ?_;refine qs ?_;refine qs ?_;refine qs ?_;refine qs ?_;refine qs ?_;refine qg ?_;refine ae.nil (c_ ?_ ?_)
     ·dsimp only[bk,List.foldl,nth,u2,u1]
      all_goals(first|rfl|simp)
     ·refine zF ?_
      all_goals(simp[dQ,fS];done)
    ·refine qp (o:=3) ?_ (hg:=wi fS);refine ql hH aV ?_ (hg:=wi fS);refine qp (o:=3) ?_ (hg:=wi fS);refine ql hH aG ?_ (hg:=wi fS);refine qg ?_ (hg:=wi fS);refine qu fS ?_;refine qm ?_;refine ae.two 30 rfl (fun jb=>?_) (fun jb=>?_)
     ·refine qs ?_ (hg:=wn jb);refine qs ?_ (hg:=wn jb);refine qs ?_ (hg:=wn jb);refine qs ?_ (hg:=wn jb);refine qs ?_ (hg:=wn jb);refine qt jb ?_;refine qm ?_;refine qs ?_;refine qs ?_;refine qs ?_;refine qs ?_;refine qs ?_;refine qg ?_;refine qm ?_;refine qs ?_;refine qs ?_;refine qs ?_;refine qs ?_;refine qs ?_;refine qs ?_;refine qg ?_;refine ae.nil (c_ ?_ ?_)
      ·dsimp only[bk,List.foldl,nth,u2,u1]
       all_goals(first|rfl|simp)
      ·refine zF ?_
       all_goals(simp[dQ,fS,jb];done)
     ·refine qp (o:=4) ?_ (hg:=wi jb);refine ql hH aV ?_ (hg:=wi jb);refine qp (o:=4) ?_ (hg:=wi jb);refine ql hH aG ?_ (hg:=wi jb);refine qg ?_ (hg:=wi jb);refine qu jb ?_;refine qm ?_;refine ae.two 37 rfl (fun cG=>?_) (fun cG=>?_)
      ·refine qs ?_ (hg:=wn cG);refine qs ?_ (hg:=wn cG);refine qs ?_ (hg:=wn cG);refine qs ?_ (hg:=wn cG);refine qs ?_ (hg:=wn cG);refine qt cG ?_;refine qm ?_;refine qs ?_;refine qs ?_;refine qs ?_;refine qs ?_;refine qs ?_;refine qs ?_;refine qg ?_;refine ae.nil (c_ ?_ ?_)
       ·dsimp only[bk,List.foldl,nth,u2,u1]
        all_goals(first|rfl|simp)
       ·refine zF ?_
        all_goals(simp_all;done)
      ·refine qp (o:=5) ?_ (hg:=wi cG);refine ql hH aV ?_ (hg:=wi cG);refine qp (o:=5) ?_ (hg:=wi cG);refine ql hH aG ?_ (hg:=wi cG);refine qg ?_ (hg:=wi cG);refine qu cG ?_;refine qm ?_;refine ae.two 44 rfl (fun mB=>?_) (fun mB=>?_)
       ·refine qs ?_ (hg:=wn mB);refine qs ?_ (hg:=wn mB);refine qs ?_ (hg:=wn mB);refine qs ?_ (hg:=wn mB);refine qs ?_ (hg:=wn mB);refine qs ?_ (hg:=wn mB);refine qt mB ?_;refine ae.nil (c_ ?_ ?_)
        ·dsimp only[bk,List.foldl,nth,u2,u1]
         all_goals(first|rfl|simp)
        ·refine zF ?_
         all_goals(simp[dQ,fS,jb,cG,mB];done)
       ·refine qp (o:=1) ?_ (hg:=wi mB);refine ql hH aV ?_ (hg:=wi mB);refine qp (o:=1) ?_ (hg:=wi mB);refine ql hH aG ?_ (hg:=wi mB);refine qv (heq _) ?_ (hg:=wi mB);refine qg ?_ (hg:=wi mB);refine qu mB ?_;refine ae.nil (c_ ?_ ?_)
        ·dsimp only[bk,List.foldl,nth,u2,u1]
         all_goals(first|rfl|simp)
        ·refine zF ?_
         all_goals(simp_all;done)
  dsimp only[bk,List.foldl,nth,u2,u1];show ai _ _ _ _ _ _;have hE:(!(t.n.op==u.n.op)||!(t.n.mn==u.n.mn)||!(t.n.mx==u.n.mx)||!(t.n.lz==u.n.lz)||!(t.n.cap==u.n.cap)||!decide (t.n.rs=u.n.rs))=(t.n.op !=u.n.op||t.n.mn !=u.n.mn||t.n.mx !=u.n.mx||t.n.lz !=u.n.lz||t.n.cap !=u.n.cap||!decide (t.n.rs=u.n.rs)):=rfl;rw[hE]
  cases he:(t.n.op !=u.n.op||t.n.mn !=u.n.mn||t.n.mx !=u.n.mx||t.n.lz !=u.n.lz||t.n.cap !=u.n.cap||!decide (t.n.rs=u.n.rs)) with
  |true=>
   rw[he] at fv;refine qB ?_;refine qq<|qj fun K hK=>qm ?_;refine qe hK<|ai.ret ⟨rx,_,rfl,rl aU hH (rfl)⟩
  |false=>
   rw[he] at fv;refine qC ?_;refine ai.skip<|qq<|qj fun K hK=>qp (o:=7) ?_;refine ql hH cD ?_;refine qp (o:=7) ?_;refine ql hH bE ?_;refine qv (GA _) ?_;refine qm ?_;refine qe hK<|ai.ret ⟨rx,_,rfl,rl aU hH (rfl)⟩
end Go.Proofs.YthahmilhpmfkfaaGreat
namespace Go.V
variable{N:Nat} {S st:St} {H:List aZ}
theorem Has.E_ (A B:List aZ) (h:Has N S st (A++(B++H))):Has N S st (B++(A++H)):=by
 refine h.sub (fun i=>if i<B.length then i+A.length else if i<B.length+A.length then i-B.length else i) (fun a b e=>?_) fun i e hi=>?_
 ·have e':(if a<B.length then a+A.length else if a<B.length+A.length then a-B.length else a)=(if b<B.length then b+A.length else if b<B.length+A.length then b-B.length else b):=e
  repeat' split at e'
  all_goals omega
 ·show(A++(B++H))[if i<B.length then i+A.length else if i<B.length+A.length then i-B.length else i]?=some e
  by_cases h1:i<B.length
  ·rw[if_pos h1,List.getElem?_append_right (by omega),Nat.add_sub_cancel,List.getElem?_append_left h1]
   rwa [List.getElem?_append_left h1] at hi
  ·rw[List.getElem?_append_right (by omega)] at hi
   by_cases h2:i<B.length+A.length
   ·rw[if_neg h1,if_pos h2,List.getElem?_append_left (by omega)]
    rwa [List.getElem?_append_left (by omega)] at hi
   ·rw[if_neg h1,if_neg h2,List.getElem?_append_right (by omega),List.getElem?_append_right (by omega)];rw[List.getElem?_append_right (by omega)] at hi;rw[←hi];congr 1;omega
theorem Has.dn {j:Nat} {e:aZ} (h:Has N S st (e::H)) (hj:j<H.length):Has N S st (H.set j e):=
 Has.back (h.erase (j+1)) hj
theorem Has.clear {P:Pv} {j:Nat} {x:D} {s:Nat} {es:List (List D)} {t e:TypeId} {z:List D} (h:Has N S st H) (hj:H[j]?=some (.aB x s es)) (ht:P.bZ t=some (.slice e)) (hz:cI P e=some z) (kR:z.length=s) (hr:refs z=0):
  ∃ah,jS P [t] x st=some (.tup [],ah)∧Has N S ah (H.set j (.aB x s (List.replicate es.length z))):=by
 have tT:=(h.ok j _ hj).2;have hown:=h.own hj
 have hjl:j<H.length:=by
  rcases Nat.lt_or_ge j H.length with h'|h'
  ·exact h'
  ·rw[List.getElem?_eq_none h'] at hj;cases hj
 cases hown with
 |nul=>
  refine⟨st,by simp only[jS,ht],?_⟩
  have:H.set j (.aB .nul s (List.replicate ([]:List (List D)).length z))=H:=by
   refine List.ext_getElem? fun i=>?_
   by_cases hi:i=j
   ·subst hi;rw[List.getElem?_set_self hjl,hj];rfl
   ·rw[List.getElem?_set_ne (fun e=>hi e.symm)]
  rw[this];exact h
 |win k au off es c hm hle hc he=>
  have hk:=tT k (by simp only[aZ.aB,D.ref])
  have Mh:∀n,refs (Go.V.dn n z)=0:=by
   intro n;unfold Go.V.dn
   induction n with
   |zero=>rfl
   |succ n ih=>
    rw[List.replicate_succ,List.flatten_cons]
    have wV:∀(a b:List D),refs a=0→refs b=0→refs (a++b)=0:=by
     intro a
     induction a with
     |nil=>intro b _ hb;exact hb
     |cons d a Ep=>
      intro b ha hb;simp only[refs,List.cons_append] at ha⊢;have:=Ep b (by omega) hb;omega
    exact wV _ _ hr ih
  have pW:(Go.V.dn es.length z).length=es.length*s:=by
   unfold Go.V.dn;rw[bo (s:=s) (fun e he=>by rw[(List.mem_replicate.1 he).2];exact kR),List.length_replicate]
  have hw:st.wr k au off (Go.V.dn es.length z)=some ⟨st.bs.set k (.mem au true (c.take off++Go.V.dn es.length z++c.drop (off+(Go.V.dn es.length z).length))),st.flr,st.ro⟩:=jK hm (by omega) (eL h hk.1 (.inr (Mh _)));refine⟨_,by simp only[jS,ht,hz,Option.bind_some];rw[if_pos kR,hw];rfl,?_⟩;refine h.vJ hj (fun n hn hne=>?_) (by simp) rfl rfl ?_ (fun n hn=>.inl hn) fun n hn=>?_
  ·simp only;rw[List.getElem?_set_ne (fun e=>hne (by simp only[aZ.aB,D.ref];omega))]
  ·have yR:∀e'∈List.replicate es.length z,e'.length=s:=fun e' mN=>by rw[(List.mem_replicate.1 mN).2];exact kR
   have:=eU.win (st:=⟨st.bs.set k (.mem au true (c.take off++Go.V.dn es.length z++c.drop (off+(Go.V.dn es.length z).length))),st.flr,st.ro⟩) (s:=s) k au off (List.replicate es.length z) (c.take off++Go.V.dn es.length z++c.drop (off+(Go.V.dn es.length z).length))
    (by simp only;rw[List.getElem?_set_self hk.2]) (by rw[List.length_replicate];simp;omega) ?_ yR
   ·rw[List.length_replicate] at this;exact this
   ·rw[List.length_replicate,List.append_assoc,List.drop_append_of_le_length (by simp;omega),List.drop_take,Nat.sub_self,List.take_zero,List.nil_append,←pW,List.take_left']
    ·rfl
    ·rfl
  ·simp only[aZ.aB,D.ref] at hn;have:n=k:=by omega
   subst this
   simpa using hk.2
variable{P:Pv} {ops:Array Oper} {rest:List Oper} {fr az:Fr} {Q:Fr→St→Prop} {ty:TypeId} {pp:String} {a:Array Edge} {g:Option (Nat×Bool)} {dst:Nat}
end Go.V
namespace Go.Proofs.YthahmilhpmfkfaaGreat
open Go.V Go
def b6 (fr:Go.V.Fr) (k:Nat):Go.V.D:=Go.V.nth .bf fr.loc k
theorem Ko {P:bp→Prop} (l:List Tr):(∀n∈(dZ l).flat,P n)↔∀t∈l,t.fa P:=by rw[←aE.gq,vK,mF]
theorem tJ {l:List Tr} {i:Nat} {t:Tr} (h:l[i]?=some t):(dZ (l.drop i)).flat=t.flat++(dZ (l.drop (i+1))).flat:=by
 obtain⟨h3,h4⟩:=List.getElem?_eq_some_iff.1 h;rw[List.drop_eq_getElem_cons h3,h4];rfl
theorem Tr.Jh (t:Tr):t.flat=t.n::(dZ t.ks).flat:=by
 cases t;simp only[Tr.flat,Tr.n,Tr.ks,EJ]
theorem Tr.MU {t:Tr}:t.ok↔uH t.n t.ks.length∧∀k∈t.ks,k.ok:=by
 cases t with
 |mk n ks=>
  have:∀ks:aE,ks.ok↔∀k∈ks.l,k.ok:=by
   intro ks
   induction ks using aE.rec (motive_1:=fun _=>True) with
   |mk n ks _=>trivial
   |nil=>simp[aE.ok,aE.l]
   |cons t ts _ ih=>simp only[aE.ok,aE.l,List.mem_cons,forall_eq_or_imp,ih]
  simp only[Tr.ok,Tr.n,Tr.ks,nC,this]
theorem Hj {n:Nat} (h:1≤n):bD n (some (.int .i64 1)) none=some (1,n):=by
 have h1:(1:Int)≤(n:Int):=by omega
 simp[bD,fu,iG,h1]
theorem EN {α:Type} (l:List α) (n:Nat) (h:l.length≤n):l.take n=l:=List.take_of_length_le h
def tz:List D:=[.int .i64 0,.nul,.int .i64 0,.int .i64 0,.bool false,.int .i64 0,.int .i64 0,.nul]
theorem Cr : ∀ (m : Nat) (t : Tr) (rest : List bp), t.fT ≤ m → m ≤ 1048576 → t.ok → (∀ n ∈ t.flat ++ rest, nz n) → ∀ (s0 : St) (x : D), gY x 7 ((t.flat ++ rest).map aH) → ∃ d, Ev pv 49 [x] s0 d s0 ∧ ∃ y, d = .tup [.agg (tC t), y] ∧ gY y 7 (rest.map aH)
 | 0, t, rest, h, _, _, _, _, _, _ => by have := Tr.dY t; omega
 | m + 1, t, rest, h, hm, cn, hv, s0, x, Qh => by
  have NW := Tr.dY t;have gT := cT t.ks;obtain ⟨ho, mM⟩ := Tr.MU.1 cn;have hkk : t.n.kids = (t.ks.length : Nat) := ho.1;have jc := Tr.Jh t;rw [jc, List.cons_append] at hv Qh;have gr : ((t.n :: ((dZ t.ks).flat ++ rest)).map aH)[0]? = some (aH t.n) := rfl;have Wh := hv t.n (List.mem_cons_self ..);refine Ev.JW rfl SJ rfl rfl rfl ?_;refine zE ?_;obtain ⟨aU, hF, hH⟩ := ri s0;generalize ag .ro s0 = S at *;have hx := Qh.arg s0.bs.length S;refine zQ 2 ?_;refine qa hH fun k2 st hk2 hH => ?_;refine zQ 5 ?_;refine qr fun p7 Yr => ?_;refine ae.cA rfl (ev rfl) (by assumption) rfl (by dsimp only [Fr.put, u1, u2] <;> rfl) ?_;refine ae.go (d := .agg (aH t.n ++ [.nul])) (st1 := _) rfl rfl rfl (by dsimp only [Fr.put, u1, u2] <;> rfl) ?_;refine qa hH fun k4 st NZ hH => ?_;refine qS hH aG fun st hH => ?_;dsimp only [u2, u1, u3, u4, setMany, u5, u6, D.cells, Nat.reduceAdd, tC, cg, aH] at hH;refine zQ 4 ?_;refine ae.Fl (l := 1) (r := ((t.n :: ((dZ t.ks).flat ++ rest)).map aH).length) rfl (ev rfl) Qh rfl rfl (Hj (by simp)) (fun _ => by dsimp only [Fr.put, u1, u2] <;> rfl) (fun UI Nf => ?_);refine zQ 2 ?_;rw [EN _ _ (Nat.le_refl _), List.map_cons, List.drop_succ_cons, List.drop_zero] at Nf;refine zQ 8 ?_;have hH : Has s0.bs.length S st (.box k4 (.mem 0 false (cg t.n .nul)) :: .aB .nul 8 (([] : List Tr).map tC) :: .box k2 (.mem 0 false tz) :: []) := Has.E_ [_] [_] (hH.eC 8);refine zQ 1 ?_;refine ai.loop (fun mm fr st => ∃ (i : Nat) (y kd : D), fr.clean = ⟨16, [y, b6 fr 1, .ptr k2 0 0, b6 fr 3, .ptr k4 0 0, b6 fr 5, b6 fr 6, b6 fr 7, b6 fr 8, b6 fr 9, b6 fr 10, b6 fr 11, b6 fr 12, b6 fr 13, .int .i64 t.n.kids, .int .i64 (i : Nat)], []⟩ ∧ Has s0.bs.length S st (.box k4 (.mem 0 false (cg t.n kd)) :: .aB kd 8 ((t.ks.take i).map tC) :: .box k2 (.mem 0 false tz) :: []) ∧ (i + mm = t.ks.length) ∧ (gY y 7 (((dZ (t.ks.drop i)).flat ++ rest).map aH)) ∧ (∀ k, kd.ref = k + 1 → S.bs.length ≤ k)) (t.ks.length) ?_ ?_
  ·exact ⟨0, UI, .nul, rfl, hH, by omega, Nf, fun k hk => by simp only [D.ref] at hk; omega⟩
  rintro mm fr st ⟨i, y, kd, hfr, hH, hi, hy, gS⟩;rw [hfr];clear hfr;generalize b6 fr = ee;clear fr;refine zQ 5 ?_;refine zP (fun h1 => ?_) fun h1 => ?_
  ·refine zQ 1 ?_
   obtain ⟨p, hp⟩ : ∃ p, t.ks[i]? = some p := ⟨t.ks[i]'(by omega), List.getElem?_eq_getElem _⟩
   have wJ := List.mem_of_getElem? hp;have J7 := fy wJ;rw [tJ hp, List.append_assoc] at hy;have hall := (Ko (P := nz) t.ks).1 (fun n hn => hv n (List.mem_cons_of_mem _ (List.mem_append_left _ hn)))
   have K7 : ∀ n ∈ p.flat ++ ((dZ (t.ks.drop (i + 1))).flat ++ rest), nz n := by
    intro n hn
    rcases List.mem_append.1 hn with hn | hn
    ·exact (Tr.gq p).1 (hall p wJ) n hn
    rcases List.mem_append.1 hn with hn | hn
    ·exact (Ko _).2 (fun k hk => hall k (List.mem_of_mem_drop hk)) n hn
    ·exact hv n (List.mem_cons_of_mem _ (List.mem_append_right _ hn))
   have zy := fun st => Cr m p _ (by omega) (by omega) (mM p wJ) K7 st y hy;refine zQ 4 ?_;refine qa hH fun k5 st HG hH => ?_;dsimp only [u2, u1, u3, u4, setMany, u5, u6, D.cells, Nat.reduceAdd, tC, cg, aH] at hH;refine zQ 4 ?_;obtain ⟨d, aC, y2, rfl, uW⟩ := zy st;refine qv aC ?_;refine zQ 3 ?_;refine qS hH aG fun st hH => ?_;dsimp only [u2, u1, u3, u4, setMany, u5, u6, D.cells, Nat.reduceAdd, tC, cg, aH] at hH;refine zQ 2 ?_;have hH : Has s0.bs.length S st (.box k5 (.mem 0 false (tC p)) :: .box k4 (.mem 0 false (cg t.n kd)) :: .aB kd 8 ((t.ks.take i).map tC) :: .box k2 (.mem 0 false tz) :: []) := hH;refine zQ 2 ?_;refine ae.fw hH rfl (ev rfl) aV rfl (aa rfl _) ?_;refine ae.aN (m := 8) (r := tC p) hH rfl (ev rfl) aG rfl rfl rfl (aa rfl _) ?_;refine qh (s := 8) (vs := [_]) hH fun k25 st Rm hH => ?_;dsimp only [u2, u1, u3, u4, setMany, u5, u6, D.cells, Nat.reduceAdd, tC, cg, aH] at hH;refine ae.cJ (s := 8) hH rfl (ev rfl) (ev rfl) cD (hH.rows aG) rfl rfl rfl rfl rfl rfl rfl ⟨(Nat.le_of_ble_eq_true rfl), (Nat.le_of_ble_eq_true rfl)⟩ (fun _ => (aa rfl _)) (by simp only [List.length_map, List.length_take, List.length_cons, List.length_nil]; omega) (.inl hF) gS (fun PG st gS hH => ?_);dsimp only [u1, u2] at hH;refine zQ 1 ?_;refine qT hH bE (fun st hH => ?_) (hcs := hH.gN cD);dsimp only [u2, u1, u3, u4, setMany, u5, u6, D.cells, Nat.reduceAdd, tC, cg, aH] at hH;refine zQ 1 ?_;have hH := hH.drop 2;refine zQ 4 ?_;exact ⟨mm - 1, by omega, ⟨i + 1, y2, PG, rfl, (by rw [List.take_add_one, hp, List.map_append]; exact hH), by omega, uW, gS⟩⟩
  ·refine zQ 1 ?_;have he : i = t.ks.length := by rw [hkk] at h1; omega
   rw [he, List.drop_length] at hy;rw [he, List.take_length] at hH;have hall := (Ko (P := nz) t.ks).1 (fun n hn => hv n (List.mem_cons_of_mem _ (List.mem_append_left _ hn)));have I7 : ∀ k ∈ t.ks, k.fa nA := fun k hk => (Tr.gq k).2 (fun n hn => ⟨((Tr.gq k).1 (hall k hk) n hn).1, ((Tr.gq k).1 (hall k hk) n hn).2.1⟩);refine zQ 2 ?_;refine ae.aN (m := 8) (r := cg t.n kd) hH rfl (ev rfl) aG rfl rfl rfl (aa rfl _) ?_;refine qm ?_;refine ae.bC hH rfl (ev rfl) (ev rfl) rfl (by exact rfl) bE (by exact rfl) (.inl hF) (fun st hH => ?_);dsimp only [u1, u2] at hH;refine zQ 2 ?_;have hH : Has s0.bs.length S st (.box k4 (.mem 0 false (cg t.n kd)) :: .aB kd 8 (t.ks.map tC) :: .box k2 (.mem 0 false (cg t.n kd)) :: []) := hH;obtain ⟨y', hy1, uW⟩ := hy.freeze st s0.bs.length 14;have DO : aJ st s0.bs.length false 14 kd = some (dL t.ks) := by rw [m_]; exact hH.freeze aV (lV I7) (n := 13) (by decide)
   have RS : aJ st s0.bs.length false 15 (.agg (cg t.n kd)) = some (.agg (tC t)) := by
    show (ec (aJ st s0.bs.length false 14) (cg t.n kd)).map D.agg = _;have AQ : aJ st s0.bs.length false 14 t.n.rd = some t.n.rd := by rw [Wh.1]; rfl
    simp only [cg, ec, DO, AQ]
    rfl
   refine ai.ret ⟨rx, _, _, hH.Fc rfl bE rfl rfl, rl aU hH (d' := .tup [.agg (tC t), y']) ?_, y', rfl, ?_⟩
   ·show (ec (aJ st s0.bs.length false 15) [.agg (cg t.n kd), y]).map D.tup = _;simp only [ec, RS, hy1]
    rfl
   ·exact uW
theorem yu {g:D→Option D} {f:D→D}:∀{l:List D},(∀d∈l,g d=some (f d))→ec g l=some (l.map f)
 |[],_=>rfl
 |d::l,h=>by simp only[ec,h d (List.mem_cons_self ..),yu (fun d hd=>h d (List.mem_cons_of_mem _ hd)),List.map_cons]
theorem D2 {N L j:Nat} {S st:St} {H:List aZ} {x:D} {s:Nat} {es:List (List D)} {f:D→D} (hH:Has N S st H) (hj:H[j]?=some (.aB x s es)) (hx:∀k,x.ref=k+1→L≤k) {n:Nat} (hp:∀e∈es,∀d∈e,cP st L (n+1) d=some (f d)):aJ st L false (n+3) x=some (.sl ((es.map (·.map f)).map (kY s))):=by
 have hown:=hH.own hj
 cases hown with
 |nul=>rfl
 |win k au off es c hm hl hc he=>
  have hk:=hx k (by simp only[D.ref]);show(if k<L then some (D.win k au off es.length s) else cP st L (n+2) (.win k au off es.length s))=_;rw[if_neg (show¬k<L by omega),cP];simp only[if_neg (show¬k<L by omega),St.mem_of hm,Option.bind_some]
  rw[if_pos hl,hc,yu (f:=f) (fun d hd=>by
   obtain⟨e,mN,zz⟩:=List.mem_flatten.1 hd
   exact hp e mN d zz)]
  have h1:(es.map (·.map f)).flatten=es.flatten.map f:=by rw[List.map_flatten]
  have h2:(es.map (·.map f)).length=es.length:=List.length_map _
  have h3:∀e∈es.map (·.map f),e.length=s:=by
   intro e mN;obtain⟨e0,h0,rfl⟩:=List.mem_map.1 mN;rw[List.length_map];exact he e0 h0
  simp only[Option.map_some];rw[←h1,←h2,fU h3]
theorem Ij {N L j:Nat} {S st:St} {H:List aZ} {x v:D} {s:Nat} {es:List (List D)} (hH:Has N S st H) (hj:H[j]?=some (.aB x s es)) (hx:∀k,x.ref=k+1→L≤k) {n:Nat} (h:aJ st L false (n+2) x=some v):cP st L (n+1) x=some v:=by
 have hown:=hH.own hj
 cases hown with
 |nul=>exact h
 |win k au off es c hm hl hc he=>
  have hk:=hx k (by simp only[D.ref]);have h2:(if k<L then some (D.win k au off es.length s) else cP st L (n+1) (.win k au off es.length s))=some v:=h
  rwa [if_neg (show¬k<L by omega)] at h2
theorem Cu:∀l:List Tr,(l.flatMap Tr.pk).length=b8 l
 |[]=>rfl
 |t::l=>by rw[List.flatMap_cons,List.length_append,Tr.kK,bU,Cu l]
theorem my {l:List Tr} {i:Nat} {k:Tr} (h:l[i]?=some k):b8 (l.take i)+k.fT≤b8 l:=by
 have h1:l.take (i+1)=l.take i++[k]:=by rw[List.take_add_one,h];rfl
 have h2:=kc (l.take (i+1)) (l.drop (i+1));rw[List.take_append_drop,h1,kc] at h2;have h3:b8 [k]=k.fT:=by simp[b8]
 omega
theorem Ag {st:St} {N n:Nat} {d:D} (h:b_ d=true):cP st N (n+1) d=some d:=by
 cases d<;>simp[b_] at h<;>rfl
def fN (n:bp) (x:D) (k:Nat):List D:=[.int .i64 n.op,x,.int .i64 n.mn,.int .i64 n.mx,.bool n.lz,.int .i64 n.cap,.int .i64 (k:Nat)]
theorem FU {f:D→D} {l:List bp} (h:∀n∈l,∀d∈aH n,f d=d):(l.map aH).map (·.map f)=l.map aH:=by
 rw[List.map_map];apply List.map_congr_left;intro n hn;have h1:(aH n).map f=(aH n).map id:=List.map_congr_left (fun d hd=>h n hn d hd);show(aH n).map f=aH n;rw[h1,List.map_id]
theorem Cv:∀(m:Nat) (t:Tr),t.fT≤m→m≤1048576→t.fa nA→∀s0:St,Ev pv 51 [.agg (tC t)] s0 (sx t.pk) s0
 |0,t,h,_,_,_=>by have:=Tr.dY t;omega
 |m+1,t,h,hm,hfa,s0=>by
  have NW:=Tr.dY t;have gT:=cT t.ks;have tS:=(Tr.ez.1 hfa).2;obtain⟨tQ,iR⟩:=(Tr.ez.1 hfa).1;rw[Tr.GP];refine Ev.iZ rfl SH rfl rfl rfl ?_;refine zE ?_;obtain⟨aU,hF,hH⟩:=ri s0;generalize ag .ro s0=S at*;have tR:V.Rows s0 8 (dL t.ks) (t.ks.map tC):=eJ s0 tS;have mq:=Arg.of tR aU;refine zQ 2 ?_;refine qb hH fun k1 st lG hH=>?_;dsimp only[u2,u1,u3,u4,setMany,u5,u6,D.cells,Nat.reduceAdd,tC,cg,aH] at hH;refine zQ 5 ?_;refine ae.aN (m:=7) hH rfl (ev rfl) (by exact aG) (by dsimp only[List.drop_succ_cons,List.drop_zero,List.take_succ_cons,List.take_zero,tC,cg,aH]<;>rfl) rfl rfl (by dsimp only[Fr.put,u1,u2]<;>rfl) ?_;refine qa hH fun k3 st DQ hH=>?_;refine qS hH aG fun st hH=>?_;dsimp only[u2,u1,u3,u4,setMany,u5,u6,D.cells,Nat.reduceAdd,tC,cg,aH] at hH;refine zQ 5 ?_;refine qn ?_;simp only[List.length_map];refine zQ 1 ?_;refine qT hH aG fun st hH=>?_;dsimp only[u2,u1,u3,u4,setMany,u5,u6,D.cells,Nat.reduceAdd,tC,cg,aH] at hH;refine zQ 1 ?_;have hH:Has s0.bs.length S st (.aB .nul 2 []::.box k3 (.mem 0 false [.int .i64 t.n.op,t.n.rd,.int .i64 t.n.mn,.int .i64 t.n.mx,.bool t.n.lz,.int .i64 t.n.cap,.int .i64 (t.ks.length:Nat)])::.box k1 (.mem 0 false (tC t))::[]):=hH.eC 2;have T6:∀st,V.Rows st 2 t.n.rd (t.n.rs.map av):=fun st=>by rw[tQ];exact cE st _
  refine zQ 4 ?_;refine ae.cJ (s:=2) hH rfl (ev rfl) (ev rfl) aG (T6 _) rfl rfl rfl rfl rfl rfl rfl ⟨(Nat.le_of_ble_eq_true rfl),(Nat.le_of_ble_eq_true rfl)⟩ (fun _=>by dsimp only[Fr.put,u1,u2]<;>rfl) (by simp only[List.length_map,List.length_nil];omega) (.inl hF) (fun k hk=>by simp only[D.ref] at hk;omega) (fun HL st ND hH=>?_);dsimp only[u1,u2,u4] at hH;refine zQ 1 ?_;refine qT hH aV (fun st hH=>?_) (hcs:=hH.gN aG);dsimp only[u2,u1,u3,u4,setMany,u5,u6,D.cells,Nat.reduceAdd,tC,cg,aH] at hH;refine zQ 3 ?_;refine ae.aN (m:=7) hH rfl (ev rfl) (by exact aV) (by dsimp only[List.drop_succ_cons,List.drop_zero,List.take_succ_cons,List.take_zero,tC,cg,aH]<;>rfl) rfl rfl (by dsimp only[Fr.put,u1,u2]<;>rfl) ?_;refine qh (s:=7) (vs:=[_]) hH fun k18 st Rp hH=>?_;refine zQ 7 ?_;refine qn ?_;simp only[List.length_map];refine zQ 2 ?_;have hH:Has s0.bs.length S st (.aB (.win k18 0 0 1 7) 7 (fN t.n HL t.ks.length::(([]:List bp)).map aH)::.aB HL 2 (t.n.rs.map av)::[]):=hH.take 2;refine zQ 1 ?_;refine ai.loop (fun mm fr st=>∃(i:Nat) (od:D),fr.clean=⟨23,[b6 fr 0,.ptr k1 0 0,b6 fr 2,b6 fr 3,od,b6 fr 5,b6 fr 6,b6 fr 7,b6 fr 8,b6 fr 9,b6 fr 10,b6 fr 11,b6 fr 12,b6 fr 13,b6 fr 14,b6 fr 15,b6 fr 16,b6 fr 17,b6 fr 18,b6 fr 19,dL t.ks,.int .i64 (t.ks.length:Nat),.int .i64 (i:Nat)],[]⟩∧Has s0.bs.length S st (.aB od 7 (fN t.n HL t.ks.length::((t.ks.take i).flatMap Tr.pk).map aH)::.aB HL 2 (t.n.rs.map av)::[])∧(i+mm=t.ks.length)∧(∀k,od.ref=k+1→S.bs.length≤k)) (t.ks.length) ?_ ?_
  ·exact⟨0,.win k18 0 0 1 7,rfl,hH,by omega,(fun k hk=>by simp only[D.ref] at hk;omega)⟩
  rintro mm fr st ⟨i,od,hfr,hH,hi,gS⟩;rw[hfr];clear hfr;generalize b6 fr=ee;clear fr;refine zQ 5 ?_;refine zP (fun h1=>?_) fun h1=>?_
  ·refine zQ 1 ?_
   obtain⟨p,hp⟩:∃p,t.ks[i]?=some p:=⟨t.ks[i]'(by omega),List.getElem?_eq_getElem _⟩
   have wJ:=List.mem_of_getElem? hp;have J7:=fy wJ;have qM:=my hp;have gr:=mH hp;have Po:=Tr.sW p (tS p wJ) (by omega);have hlen:=Cu (t.ks.take i);have Gp:=Tr.kK p;have AP:=fun st=>Cv m p (by omega) (by omega) (tS p wJ) st;refine zQ 4 ?_;refine qr fun MP Gg=>?_;refine ae.cA rfl (ev rfl) (by assumption) rfl (aa rfl _) ?_;refine qa hH fun k6 st J' hH=>?_;refine qS hH aG fun st hH=>?_;dsimp only[u2,u1,u3,u4,setMany,u5,u6,D.cells,Nat.reduceAdd,tC,cg,aH] at hH;refine zQ 1 ?_;have hH:Has s0.bs.length S st (.box k6 (.mem 0 false (tC p))::.aB od 7 (fN t.n HL t.ks.length::((t.ks.take i).flatMap Tr.pk).map aH)::.aB HL 2 (t.n.rs.map av)::[]):=hH;refine zQ 2 ?_;refine ae.aN (m:=8) (r:=tC p) hH rfl (ev rfl) aG rfl rfl rfl (aa rfl _) ?_;refine qv (AP _) ?_;refine ae.cJ (s:=7) hH rfl (ev rfl) (ev rfl) aV ((nR Po).rows _) rfl rfl rfl rfl rfl rfl rfl ⟨(Nat.le_of_ble_eq_true rfl),(Nat.le_of_ble_eq_true rfl)⟩ (fun _=>(aa rfl _)) (by simp only[List.length_map,List.length_cons];omega) (.inl hF) gS (fun UQ st gS hH=>?_);dsimp only[u1,u2,u4] at hH;refine zQ 2 ?_;have hH:=hH.drop 1;refine zQ 4 ?_;exact⟨mm-1,by omega,⟨i+1,UQ,rfl,(by rw[List.take_add_one,hp,List.flatMap_append,List.map_append];simpa using hH),by omega,gS⟩⟩
  ·refine zQ 1 ?_;have he:i=t.ks.length:=by omega
   rw[he,List.take_length] at hH;refine zQ 5 ?_
   have Po:=(Tr.sW t hfa (by omega))
   rw[Tr.GP] at Po;have lg:∀n∈t.ks.flatMap Tr.pk,∀d∈aH n,cP st s0.bs.length 14 d=some d:=fun n hn d hd=>Ag (mg Po (aH n) (List.mem_map.2 ⟨n,List.mem_cons_of_mem _ hn,rfl⟩) d hd)
   have hx1:cP st s0.bs.length 14 HL=some (aQ t.n.rs):=by
    refine Ij hH aV (fun k hk=>by rw[←aU];exact ND k hk) (n:=13) ?_;rw[←gK];exact hH.freeze aV (fX _) (n:=14) (by decide)
   let f:D→D:=fun d=>(cP st s0.bs.length 14 d).getD d
   have hfp:∀d v,cP st s0.bs.length 14 d=some v→f d=v:=fun d v h=>by show(cP st s0.bs.length 14 d).getD d=v;rw[h];rfl
   have hfz:=D2 (L:=s0.bs.length) (f:=f) (n:=13) hH aG (fun k hk=>by rw[←aU];exact gS k hk) (by
    intro e he d hd
    rcases List.mem_cons.1 he with rfl|he
    ·simp only[fN,List.mem_cons,List.not_mem_nil,or_false] at hd
     rcases hd with rfl|rfl|rfl|rfl|rfl|rfl|rfl
     ·rfl
     ·rw[hfp _ _ hx1];exact hx1
     all_goals rfl
    ·obtain⟨n,hn,rfl⟩:=List.mem_map.1 he
     rw[hfp _ _ (lg n hn d hd)];exact lg n hn d hd)
   have Xc:((fN t.n HL t.ks.length::(t.ks.flatMap Tr.pk).map aH).map (·.map f))=(({t.n with kids:=(t.ks.length:Nat)}::t.ks.flatMap Tr.pk).map aH):=by
    rw[List.map_cons,List.map_cons,FU (fun n hn d hd=>hfp _ _ (lg n hn d hd))]
    congr 1
    show[f _,f HL,f _,f _,f _,f _,f _]=_;rw[hfp _ _ hx1];simp only[aH,tQ]
    rfl
   rw[Xc] at hfz;exact ai.ret ⟨rx,_,rfl,rl aU hH hfz⟩
end Go.Proofs.YthahmilhpmfkfaaGreat
namespace Go.Proofs.YthahmilhpmfkfaaGreat
open Go.V Go
def gQ (fr:Go.V.Fr) (k:Nat):Go.V.D:=Go.V.nth .bf fr.loc k
theorem vM (op:Int) (l:List Tr) (t:Tr):bj op (l++[t])=bj op l++(if t.n.op=op then t.ks else[t]):=by
 unfold bj;rw[List.flatMap_append]
 congr 1
 rw[List.flatMap_cons,List.flatMap_nil,List.append_nil]
theorem xy (op:Int) (l:List Tr):(bj op l).length≤b8 l:=by
 have:=gF op l;have:=cT (bj op l);omega
theorem ur {N:Nat} {S s0:St} {H:List aZ} {x:D} {l:List Tr} {op:Int} (hF:S.flr≤N) (Cl:k_ l) (hcl:b8 l≤1048576) (hx:Arg N S 8 x (l.map tC)) (hH:Has N S s0 H):
  ∃d ah,Ev pv 77 [.int .i64 op,x] s0 d ah∧Has N S ah (.aB d 8 ((bj op l).map tC)::H)∧(∀k,d.ref=k+1→S.bs.length≤k):=by
 have nc:=cT l;refine Ev.jN rfl Sl rfl rfl rfl ?_;refine zE ?_;change ai _ _ _ _ s0 _;refine zQ 12 ?_;refine qn ?_;simp only[List.length_map];refine zQ 3 ?_;refine ai.loop (fun mm fr st=>∃(i:Nat) (y:D),fr.clean=⟨11,[.int .i64 op,gQ fr 1,gQ fr 2,gQ fr 3,gQ fr 4,y,gQ fr 6,gQ fr 7,x,.int .i64 (l.length:Nat),.int .i64 (i:Nat)],[]⟩∧Has N S st (.aB y 8 ((bj op (l.take i)).map tC)::H)∧(i+mm=l.length)∧(∀k,y.ref=k+1→S.bs.length≤k)) (l.length) ?_ ?_
 ·exact⟨0,.nul,rfl,(hH.eC 8),by omega,(fun k hk=>by simp only[D.ref] at hk;omega)⟩
 rintro mm fr st ⟨i,y,hfr,hH,hi,gS⟩;rw[hfr];clear hfr;generalize gQ fr=ee;clear fr;refine zQ 5 ?_;refine zP (fun h1=>?_) fun h1=>?_
 ·refine zQ 1 ?_
  obtain⟨p,hp⟩:∃p,l[i]?=some p:=⟨l[i]'(by omega),List.getElem?_eq_getElem _⟩
  have wJ:=List.mem_of_getElem? hp;have qM:=my hp;have Yq:=Tr.dY p;have VX:=cT p.ks;have tP:=xy op (l.take i);have gr:=mH hp;have Q9:∀st,V.Rows st 8 (dL p.ks) (p.ks.map tC):=fun st=>eJ st (Tr.ez.1 (Cl p wJ)).2;have oA:=vM op (l.take i) p;rw[show l.take i++[p]=l.take (i+1) by rw[List.take_add_one,hp];rfl] at oA;refine zQ 4 ?_;refine qr fun P0 Lb=>?_;refine ae.cA rfl (ev rfl) (by assumption) rfl (aa rfl _) ?_;refine qa hH fun k7 st Pj hH=>?_;refine qS hH aG fun st hH=>?_;dsimp only[u2,u1,u3,u4,setMany,u5,u6,D.cells,Nat.reduceAdd,tC,cg] at hH;refine zQ 1 ?_;have hH:Has N S st (.box k7 (.mem 0 false (tC p))::.aB y 8 ((bj op (l.take i)).map tC)::H):=hH;refine zQ 8 ?_
  by_cases hop:p.n.op=op
  ·have hc:(p.n.op==op)=true:=by simpa using hop
   rw[if_pos hop] at oA;refine qD rfl (by rw[hc]) ?_;refine zQ 4 ?_;refine ae.cJ (s:=8) hH rfl (ev rfl) (ev rfl) aV (Q9 _) rfl rfl rfl rfl rfl rfl rfl ⟨(Nat.le_of_ble_eq_true rfl),(Nat.le_of_ble_eq_true rfl)⟩ (fun _=>(aa rfl _)) (by simp only[List.length_map];omega) (.inl hF) gS (fun US st gS hH=>?_);dsimp only[u1,u2] at hH;refine zQ 2 ?_;have hH:=hH.drop 1;refine zQ 4 ?_;exact⟨mm-1,by omega,⟨i+1,US,rfl,(by rw[oA,List.map_append];exact hH),by omega,gS⟩⟩
  ·have hc:(p.n.op==op)=false:=by simpa using hop
   rw[if_neg hop] at oA;refine qE rfl (by rw[hc]) ?_;refine zQ 2 ?_;refine ae.aN (m:=8) (r:=tC p) hH rfl (ev rfl) aG rfl rfl rfl (aa rfl _) ?_;refine qh (s:=8) (vs:=[_]) hH fun k25 st Rm hH=>?_;dsimp only[u2,u1,u3,u4,setMany,u5,u6,D.cells,Nat.reduceAdd,tC,cg] at hH;refine ae.cJ (s:=8) hH rfl (ev rfl) (ev rfl) bE (hH.rows aG) rfl rfl rfl rfl rfl rfl rfl ⟨(Nat.le_of_ble_eq_true rfl),(Nat.le_of_ble_eq_true rfl)⟩ (fun _=>(aa rfl _)) (by simp only[List.length_map,List.length_cons,List.length_nil];omega) (.inl hF) gS (fun PG st gS hH=>?_);dsimp only[u1,u2] at hH;refine zQ 2 ?_;have hH:=hH.drop 2;refine zQ 4 ?_;exact⟨mm-1,by omega,⟨i+1,PG,rfl,(by rw[oA,List.map_append];exact hH),by omega,gS⟩⟩
 ·refine zQ 1 ?_;have hil:i=l.length:=by omega
  refine zQ 5 ?_;refine ai.ret ⟨rx,_,_,_,rfl,rfl,?_⟩;rw[hil,List.take_length] at hH;exact⟨hH,gS⟩
theorem FD {s0:St} {k:Nat} {ar:Bool} {t p:Tr} (hb:s0.bs[k]?=some (.mem 0 ar (tC p))) (ht:t.fa nA) (hp:p.fa nA) (htl:t.fT≤1048576) (lg:p.fT≤1048576):Ev pv 93 [.agg (tC t),.ptr k 0 0] s0 (.bool (t.same p)) s0:=by
 have gT:k<s0.bs.length:=(List.getElem?_eq_some_iff.1 hb).1;have VG:=BI _ t p (Nat.le_refl _) htl lg ht hp;refine Ev.iZ rfl R7 rfl rfl rfl ?_;refine zE ?_;obtain⟨aU,hF,hH⟩:=ri s0;generalize ag .ro s0=S at*
 have qM:∀{st:St} {H:List aZ},Has s0.bs.length S st H→jT st (.ptr k 0 0) (tC p):=fun{st H} h=>by
  refine .inl ⟨k,0,0,ar,tC p,rfl,?_,rfl⟩;unfold St.bW;rw[h.ex.low k gT,aU,hb];simp
 refine zQ 2 ?_;refine qb hH fun k2 st hk2 hH=>?_;dsimp only[u2,u1,u3,u4,setMany,u5,u6,D.cells,Nat.reduceAdd,tC,cg] at hH;refine zQ 2 ?_;have yN:=qM hH;refine zQ 2 ?_;refine ae.aN (m:=8) hH rfl (ev rfl) (by exact aG) (by dsimp only[List.drop_succ_cons,List.drop_zero,List.take_succ_cons,List.take_zero,tC,cg]<;>rfl) rfl rfl (aa rfl _) ?_;refine ae.cO (d:=.agg (tC p)) rfl (ev rfl) yN rfl (aa rfl _) ?_;refine qv (VG _) ?_;refine zQ 2 ?_;refine ai.ret ⟨rx,_,rfl,rl aU hH (rfl)⟩
theorem Ak (l:List Tr) (p:Tr):cY (l++[p])=if(cY l).any (fun x=>x.same p)=true then cY l else cY l++[p]:=by
 unfold cY;rw[List.foldl_append];rfl
theorem Im {s0:St} {x:D} {l:List Tr} (hx:V.Rows s0 8 x (l.map tC)) (Cl:k_ l) (hcl:b8 l≤1048576):Ev pv 82 [x] s0 (dL (cY l)) s0:=by
 have nc:=cT l;refine Ev.iZ rfl Sg rfl rfl rfl ?_;refine zE ?_;obtain⟨aU,hF,hH⟩:=ri s0;generalize ag .ro s0=S at*;have hx:=Arg.of hx aU;refine zQ 12 ?_;refine qn ?_;simp only[List.length_map];refine zQ 3 ?_;refine ai.loop (fun mm fr st=>∃(i:Nat) (y:D),fr.clean=⟨9,[gQ fr 0,gQ fr 1,gQ fr 2,y,gQ fr 4,gQ fr 5,x,.int .i64 (l.length:Nat),.int .i64 (i:Nat)],[]⟩∧Has s0.bs.length S st (.aB y 8 ((cY (l.take i)).map tC)::[])∧(i+mm=l.length)∧(∀k,y.ref=k+1→S.bs.length≤k)) (l.length) ?_ ?_
 ·exact⟨0,.nul,rfl,(hH.eC 8),by omega,(fun k hk=>by simp only[D.ref] at hk;omega)⟩
 rintro mm fr st ⟨i,y,hfr,hH,hi,gS⟩;rw[hfr];clear hfr;generalize gQ fr=ee;clear fr;refine zQ 5 ?_;refine zP (fun h1=>?_) fun h1=>?_
 ·refine zQ 1 ?_
  obtain⟨p,hp⟩:∃p,l[i]?=some p:=⟨l[i]'(by omega),List.getElem?_eq_getElem _⟩
  have wJ:=List.mem_of_getElem? hp;have qM:=my hp;have NH:k_ (cY (l.take i)):=nN (fun t ht=>Cl t (List.mem_of_mem_take ht));have Wg:=rZ (l.take i);have HD:=cT (cY (l.take i));have gr:=mH hp;have oA:=Ak (l.take i) p;rw[show l.take i++[p]=l.take (i+1) by rw[List.take_add_one,hp];rfl] at oA;refine zQ 4 ?_;refine qr fun TX NC=>?_;refine ae.cA rfl (ev rfl) (by assumption) rfl (aa rfl _) ?_;refine qa hH fun k5 st HG hH=>?_;refine qS hH aG fun st hH=>?_;dsimp only[u2,u1,u3,u4,setMany,u5,u6,D.cells,Nat.reduceAdd,tC,cg] at hH;refine zQ 1 ?_;have hH:Has s0.bs.length S st (.box k5 (.mem 0 false (tC p))::.aB y 8 ((cY (l.take i)).map tC)::[]):=hH;have gU:=hH.at aG;have gT:k5<st.bs.length:=(List.getElem?_eq_some_iff.1 gU).1;have GA:=p_ (g:=93) (fz:=[.ptr k5 0 0]) (p:=fun x=>x.same p) (hH.rows aV) (by omega) (fun st2 h2 t ht=>FD (k:=k5) (ar:=false) (by rw[h2 k5 gT];exact gU) (NH t ht) (Cl p wJ) (by have:=fy ht;omega) (by omega));refine zQ 3 ?_;refine ae.go (d:=.fn 93 [.ptr k5 0 0]) (st1:=_) rfl rfl rfl (aa rfl _) ?_;refine ae.cu rfl rfl GA (aa rfl _) ?_;refine zQ 2 ?_
  cases ha:(cY (l.take i)).any (fun x=>x.same p) with
  |true=>
   rw[ha,if_pos rfl] at oA;refine ai.cond (v:=false) (by dsimp only[Fr.ev,Fr.get,nth,V.look];rfl) (fun h=>by cases h) (fun _=>?_);refine zQ 1 ?_;have hH:=hH.drop 1;refine zQ 4 ?_;exact⟨mm-1,by omega,⟨i+1,y,rfl,(by rw[oA];exact hH),by omega,gS⟩⟩
  |false=>
   rw[ha,if_neg (by simp)] at oA;refine ai.cond (v:=true) (by dsimp only[Fr.ev,Fr.get,nth,V.look];rfl) (fun _=>?_) (fun h=>by cases h);refine zQ 2 ?_;refine ae.aN (m:=8) (r:=tC p) hH rfl (ev rfl) aG rfl rfl rfl (aa rfl _) ?_;refine qh (s:=8) (vs:=[_]) hH fun k18 st Rp hH=>?_;dsimp only[u2,u1,u3,u4,setMany,u5,u6,D.cells,Nat.reduceAdd,tC,cg] at hH;refine ae.cJ (s:=8) hH rfl (ev rfl) (ev rfl) bE (hH.rows aG) rfl rfl rfl rfl rfl rfl rfl ⟨(Nat.le_of_ble_eq_true rfl),(Nat.le_of_ble_eq_true rfl)⟩ (fun _=>(aa rfl _)) (by simp only[List.length_map,List.length_cons,List.length_nil];omega) (.inl hF) gS (fun Mt st gS hH=>?_);dsimp only[u1,u2] at hH;refine zQ 2 ?_;have hH:=hH.drop 2;refine zQ 4 ?_;exact⟨mm-1,by omega,⟨i+1,Mt,rfl,(by rw[oA,List.map_append];exact hH),by omega,gS⟩⟩
 ·refine zQ 1 ?_;have hil:i=l.length:=by omega
  rw[hil,List.take_length] at hH;refine zQ 5 ?_;have DO:aJ st s0.bs.length false 16 y=some (dL (cY l)):=by rw[m_];exact hH.freeze aG (lV (nN Cl)) (n:=15) (by decide)
  refine ai.ret ⟨rx,_,rfl,rl aU hH (DO)⟩
end Go.Proofs.YthahmilhpmfkfaaGreat
namespace Go.Proofs.YthahmilhpmfkfaaGreat
open Go.V Go
def lF (fr:Go.V.Fr) (k:Nat):Go.V.D:=Go.V.nth .bf fr.loc k
theorem KN {s0:St} {x:D} {l:List Rg} (hx:V.Rows s0 2 x (l.map av)) (hl:l.length≤268435456):Ev pv 91 [x] s0 (aQ (cm l)) s0:=by
 obtain⟨_,aC,all,rfl,hperm,mL⟩:=wx hx hl;have hM:fW l (all.foldl dD []).reverse:=mY (fun x=>hperm.mem_iff) mL;rw[yx hM];exact aC
theorem Jz {x y:Oper} {fi fj:Fr} {si oH sj Em:St} {a:Operand} {k au off v:Nat} {ar:Bool} {c:List D} (hy:gA y.op=some a) (ha:fj.ev a=.ptr k au off) (h1:si.bs[k]?=some (.mem v ar c)) (h2:oH.bs[k]?=some (.mem v ar c)):gM x fi si oH y fj sj Em=true:=by
 unfold gM;simp only[hy,ha,D.lQ];exact lW h1 h2
def jC (q:Tr×Bool):List D:=cg q.1.n (if q.2=true then .nul else dL q.1.ks)
def O3 (M:List (Tr×Bool)):Prop:=∀q∈M,q.2=true→q.1.ks=[]
theorem nY {M:List (Tr×Bool)} {q:Tr×Bool} (h:O3 M) (hq:q.2=true→q.1.ks=[]):O3 (M++[q]):=by
 intro x hx
 rcases List.mem_append.1 hx with hx|hx
 ·exact h x hx
 ·rw[List.mem_singleton.1 hx];exact hq
theorem M_ {M:List (Tr×Bool)} (h:O3 M) (hf:k_ (M.map (·.1))):(∀e∈M.map jC,∀d∈e,mG d=true)∧(M.map jC).map (·.map nh)=(M.map (·.1)).map tC:=by
 constructor
 ·intro e he d hd;obtain⟨q,hq,rfl⟩:=List.mem_map.1 he;have h1:=(Tr.ez.1 (hf q.1 (List.mem_map.2 ⟨q,hq,rfl⟩))).1.1;simp only[jC,cg,dL,List.mem_cons,List.not_mem_nil,or_false] at hd
  rcases hd with rfl|rfl|rfl|rfl|rfl|rfl|rfl|rfl<;>try rfl
  ·rw[h1];rfl
  ·split<;>rfl
 ·rw[List.map_map,List.map_map];apply List.map_congr_left;intro q hq;have h1:=(Tr.ez.1 (hf q.1 (List.mem_map.2 ⟨q,hq,rfl⟩))).1.1;obtain⟨t,b⟩:=q;show(jC (t,b)).map nh=tC t;unfold jC tC cg;dsimp only at h1⊢;rw[h1]
  cases b with
  |false=>rfl
  |true=>rw[show t.ks=[] from h _ hq rfl];rfl
theorem AE (l:List Tr) (p:Tr):cx (l++[p])=ie (cx l) p:=by
 unfold cx;rw[List.foldl_append];rfl
theorem AF {M:List Tr} {q p:Tr}:ie (M++[q]) p=if p.n.op=2∧q.n.op=2 then M++[qY q.n.rs p.n.rs] else M++[q]++[p]:=by
 unfold ie;rw[List.getLast?_append];simp only[List.getLast?_singleton,Option.some_or]
 split
 ·rw[List.length_append,List.set_append_right _ _ (by simp)];simp
 ·rfl
theorem DD {p:Tr}:ie [] p=[p]:=rfl
theorem AB {s0:St} {x:D} {l:List Tr} (hx:V.Rows s0 8 x (l.map tC)) (Cl:k_ l) (hcl:b8 l≤1048576):Ev pv 81 [x] s0 (dL (cx l)) s0:=by
 have nc:=cT l;refine Ev.iZ rfl Sh rfl rfl rfl ?_;refine zE ?_;obtain⟨aU,hF,hH⟩:=ri s0;generalize ag .ro s0=S at*;have hx:=Arg.of hx aU;refine qq<|qj fun K hK=>qm ?_;refine qe hK<|qq<|qj fun K hK=>qm ?_;refine qe hK<|qq<|qq<|qj fun K hK=>qm ?_;refine qn ?_;simp only[List.length_map];refine qm ?_;refine qe hK<|ai.block<|ai.loop (fun mm fr st=>∃(i:Nat) (y:D) (M:List (Tr×Bool)),fr.clean=⟨11,[lF fr 0,lF fr 1,lF fr 2,y,lF fr 4,lF fr 5,lF fr 6,lF fr 7,x,.int .i64 (l.length:Nat),.int .i64 (i:Nat)],[]⟩∧Has s0.bs.length S st (.aB y 8 (M.map jC)::[])∧(i+mm=l.length)∧(∀k,y.ref=k+1→S.bs.length≤k)∧(M.map (·.1)=cx (l.take i))∧(O3 M)) (l.length) ?_ ?_
 ·exact⟨0,.nul,[],rfl,(hH.eC 8),by omega,(fun k hk=>by simp only[D.ref] at hk;omega),rfl,(fun q hq=>by cases hq)⟩
 rintro mm fr st ⟨i,y,M,hfr,hH,hi,gS,LG,Om⟩;rw[hfr];clear hfr;generalize lF fr=ee;clear fr;refine qq<|qj fun K hK=>qg ?_;refine qe hK<|qq<|zP (fun h1=>?_) fun h1=>?_
 ·refine ai.skip ?_
  obtain⟨p,hp⟩:∃p,l[i]?=some p:=⟨l[i]'(by omega),List.getElem?_eq_getElem _⟩
  have wJ:=List.mem_of_getElem? hp;have qM:=my hp;obtain⟨yN,Ch⟩:=(Tr.ez.1 (Cl p wJ)).1;have Pk:k_ (M.map (·.1)):=by rw[LG];exact kz (fun t ht=>Cl t (List.mem_of_mem_take ht))
  have LF:M.length≤l.length:=by
   have h1:=congrArg List.length LG;have h2:=pS (l.take i) [];rw[List.length_map] at h1;unfold cx at h1;simp only[List.length_nil,List.length_take] at h2;omega
  have gr:=mH hp;have oA:=AE (l.take i) p;rw[show l.take i++[p]=l.take (i+1) by rw[List.take_add_one,hp];rfl] at oA;refine qq<|ai.block<|qq<|qj fun K hK=>qr fun P0 Lb=>?_;refine ae.cA rfl (ev rfl) (by assumption) rfl (aa rfl _) ?_;refine qa hH fun k5 st HG hH=>?_;refine qS hH aG fun st hH=>?_;dsimp only[u2,u1,u3,u4,setMany,u5,u6,D.cells,Nat.reduceAdd,tC,cg,jC] at hH;refine qe hK ?_;have hH:Has s0.bs.length S st (.box k5 (.mem 0 false (tC p))::.aB y 8 (M.map jC)::[]):=hH
  rcases List.eq_nil_or_concat M with hM|⟨M0,q,hM⟩
  ·subst hM;rw[←LG,List.map_nil,DD] at oA;refine qq<|qj fun K hK=>qm ?_;refine qn ?_ (hR:=hH.rows aV);simp only[List.length_map,List.length_nil];refine ae.mQ (z:=(-1:Int)) rfl (ev rfl) (ev rfl) (by(try simp only[List.length_reverse,List.length_cons,List.length_nil,List.length_append,List.length_map,List.length_set]);rw[wrap_i64 (by omega) (by omega)]<;>omega) (aa rfl _) ?_;refine qm ?_;refine qe hK ?_;have bN:decide ((-1:Int)≥0)=false:=rfl;have dx:false=false:=rfl;refine qq<|qj fun K hK=>qm ?_;refine qg ?_;refine qm ?_;refine qs ?_ (hg:=wn bN);refine qs ?_ (hg:=wn bN);refine qs ?_ (hg:=wn bN);refine qs ?_ (hg:=wn bN);refine qu bN ?_;refine qm ?_;refine qs ?_;refine qs ?_;refine qs ?_;refine qs ?_;refine qs ?_;refine qs ?_;refine qs ?_;refine qg ?_;refine qe hK<|qC ?_;refine qj fun K hK=>qm ?_;refine ae.aN (m:=8) (r:=tC p) hH rfl (ev rfl) aG rfl rfl rfl (aa rfl _) ?_;refine qh (s:=8) (vs:=[_]) hH fun k54 st DP hH=>?_;dsimp only[u2,u1,u3,u4,setMany,u5,u6,D.cells,Nat.reduceAdd,tC,cg,jC] at hH;refine ae.cJ (s:=8) hH rfl (ev rfl) (ev rfl) bE (hH.rows aG) rfl rfl rfl rfl rfl rfl rfl ⟨(Nat.le_of_ble_eq_true rfl),(Nat.le_of_ble_eq_true rfl)⟩ (fun _=>(aa rfl _)) (by simp only[List.length_map,List.length_cons,List.length_nil] at LF⊢;omega) (.inl hF) gS (fun Mr st gS hH=>?_);dsimp only[u1,u2] at hH;refine qm ?_;refine qe hK ?_;have hH:=hH.drop 2;refine qj fun K hK=>qA ?_;refine qm ?_;refine qe hK ?_;refine⟨mm-1,by omega,⟨i+1,Mr,([]:List (Tr×Bool))++[(p,false)],rfl,(by rw[List.map_append];exact hH),by omega,gS,?_,?_⟩⟩
   ·rw[oA];rfl
   ·exact nY Om (fun h=>by cases h)
  ·rw[List.concat_eq_append] at hM;subst hM;have VV:=(Tr.ez.1 (Pk q.1 (by simp))).1;obtain⟨xg,Cf⟩:=VV;rw[←LG,List.map_append,List.map_cons,List.map_nil,AF] at oA;have XC:M0.length<1048576:=by have:=LF;simp only[List.length_append,List.length_cons,List.length_nil] at this;omega
   have tU:((M0++[q]).map jC)[M0.length]?=some (jC q):=by rw[List.getElem?_map];simp
   have Yv:((M0++[q]).map jC).length=M0.length+1:=by simp
   refine qq<|qj fun K hK=>qm ?_;refine qn ?_ (hR:=hH.rows aV);simp only[List.length_map,List.length_append,List.length_cons,List.length_nil];refine ae.mQ (z:=((M0.length:Nat):Int)) rfl (ev rfl) (ev rfl) (by(try simp only[List.length_reverse,List.length_cons,List.length_nil,List.length_append,List.length_map,List.length_set]);rw[wrap_i64 (by omega) (by omega)]<;>omega) (aa rfl _) ?_;refine qm ?_;refine qe hK ?_;have bN:decide (((M0.length:Nat):Int)≥0)=true:=by rw[decide_eq_true_eq];omega
   by_cases hpo:p.n.op=2
   ·have dx:(p.n.op==2)=true:=by simpa using hpo
    refine qq<|qj fun K hK=>qm ?_;refine qg ?_;refine qm ?_;refine qp (o:=0) ?_ (hg:=wi bN);refine qp (o:=0) ?_ (hg:=wi bN);refine ql hH aG ?_ (hg:=wi bN);refine qg ?_ (hg:=wi bN);refine qt bN ?_;refine qm ?_;refine qm ?_ (hg:=wi dx);refine qm ?_ (hg:=wi dx);refine qi hH aV (fun Va QV=>?_) (hg:=wi dx);refine ae.eu (fo:=0) (m:=6) (o2:=0) (aj rfl rfl rfl dx) (ev rfl) (by assumption) rfl rfl rfl (fun _=>(aa rfl _)) (fun TQ Nt=>?_);refine ae.eu (fo:=0) (m:=0) (o2:=0) (aj rfl rfl rfl dx) (ev rfl) (by assumption) rfl rfl rfl (fun _=>(aa rfl _)) (fun TP Ns=>?_);refine qo hH aV ?_ (hg:=wi dx);refine qg ?_ (hg:=wi dx);refine qt dx ?_;refine qe hK ?_
    by_cases hqo:q.1.n.op=2
    ·have hc:(q.1.n.op==2)=true:=by simpa using hqo
     rw[if_pos ⟨hpo,hqo⟩] at oA;refine qD rfl (by rw[hc]) ?_;have hH:Has s0.bs.length S st (.aB .nul 2 (([]:List Rg).map av)::.box k5 (.mem 0 false (tC p))::.aB y 8 ((M0++[q]).map jC)::[]):=hH.eC 2;have Ni:∀st,V.Rows st 2 q.1.n.rd (q.1.n.rs.map av):=fun st=>by rw[xg];exact cE st _
     have VM:∀st,V.Rows st 2 p.n.rd (p.n.rs.map av):=fun st=>by rw[yN];exact cE st _
     have hA:=hH;change ai _ _ _ _ _ _;refine qq ?_;generalize hK:bn _ _ _ _=K;refine ai.Ia rfl ?_;refine gf.cons ?_;refine qm ?_;refine ae.nil ⟨rfl,?_⟩;refine gf.cons ?_;refine qm ?_;refine ae.nil ⟨rfl,?_⟩;refine gf.cons ?_;refine qi hH bE fun Yd Wd=>?_;refine ae.nil ⟨rfl,?_⟩;refine gf.cons ?_;refine ae.eu (fo:=0) (m:=6) (o2:=0) rfl (ev rfl) (by assumption) rfl rfl rfl (fun _=>(aa rfl _)) (fun Yc Wc=>?_);refine ae.nil ⟨rfl,?_⟩;refine gf.cons ?_;refine ae.eu (fo:=1) (m:=0) (o2:=1) rfl (ev rfl) (by assumption) rfl rfl rfl (fun _=>(aa rfl _)) (fun Yb Wb=>?_);refine ae.nil ⟨rfl,?_⟩;refine gf.cons ?_;refine qo hH bE ?_;refine ae.nil ⟨rfl,?_⟩;refine gf.cons ?_;refine ae.cJ (s:=2) hH rfl (ev rfl) (ev rfl) aG (Ni _) rfl rfl rfl rfl rfl rfl rfl ⟨(Nat.le_of_ble_eq_true rfl),(Nat.le_of_ble_eq_true rfl)⟩ (fun _=>(aa rfl _)) (by simp only[List.length_map,List.length_nil];omega) (.inl hF) (fun k hk=>by simp only[D.ref] at hk;omega) (fun XU st tF hH=>?_);dsimp only[u1,u2] at hH;have hB:=hH;refine ae.nil ⟨rfl,?_⟩;refine gf.cons ?_;refine qp (o:=0) ?_;refine ae.nil ⟨rfl,?_⟩;refine gf.cons ?_;refine qp (o:=1) ?_;refine ae.nil ⟨rfl,?_⟩;refine gf.cons ?_;refine ql hH aV ?_;refine ae.nil ⟨by exact Bool.and_eq_true_iff.2 ⟨Jz rfl rfl (hA.at aV) (hB.at aV),rfl⟩,?_⟩;refine gf.cons ?_;refine ae.cJ (s:=2) hH rfl (ev rfl) (ev rfl) aG (VM _) rfl rfl rfl rfl rfl rfl rfl ⟨(Nat.le_of_ble_eq_true rfl),(Nat.le_of_ble_eq_true rfl)⟩ (fun _=>(aa rfl _)) (by simp only[List.length_map,List.length_nil,List.length_append];omega) (.inl hF) tF (fun TF st Ys hH=>?_);dsimp only[u1,u2] at hH;refine ae.nil ⟨rfl,?_⟩;refine gf.cons ?_;refine qm ?_;refine ae.nil ⟨rfl,?_⟩;refine gf.nil ?_;subst hK;have hH:Has s0.bs.length S st (.aB TF 2 ((q.1.n.rs++p.n.rs).map av)::.box k5 (.mem 0 false (tC p))::.aB y 8 ((M0++[q]).map jC)::[]):=by rw[List.map_append];exact hH
     have Eu:=fun ah (h:V.Rows ah 2 TF ((q.1.n.rs++p.n.rs).map av))=>KN h (by rw[List.length_append];omega);refine qj fun K hK=>qm ?_;refine qm ?_;refine qm ?_;refine qv (Eu _ (hH.rows aG)) ?_;refine ae.go (d:=.agg [.int .i64 2,aQ (cm (q.1.n.rs++p.n.rs)),.int .i64 0,.int .i64 0,.bool false,.int .i64 0,.int .i64 0]) (st1:=_) rfl rfl rfl (aa rfl _) ?_;refine ae.go (d:=.agg [.int .i64 2,aQ (cm (q.1.n.rs++p.n.rs)),.int .i64 0,.int .i64 0,.bool false,.int .i64 0,.int .i64 0,.nul]) (st1:=_) rfl rfl rfl (aa rfl _) ?_;refine qi hH bE fun U6 QO=>?_;refine ae.mV hH rfl (ev rfl) (ev rfl) (by assumption) rfl rfl (by exact bE) (by assumption) (Nat.le_of_ble_eq_true rfl) (by exact .inl hF) (fun st hH=>?_);dsimp only[u2,u1,u3,u4,setMany,u5,u6,D.cells,Nat.reduceAdd,tC,cg,jC] at hH;refine qe hK ?_
     have gw:((M0++[q]).map jC).set M0.length [.int .i64 2,aQ (cm (q.1.n.rs++p.n.rs)),.int .i64 0,.int .i64 0,.bool false,.int .i64 0,.int .i64 0,.nul]=(M0++[(qY q.1.n.rs p.n.rs,true)]).map jC:=by
      rw[List.map_append,List.set_append_right _ _ (by simp),List.length_map,Nat.sub_self,List.map_append];rfl
     have hH:Has s0.bs.length S st (.aB y 8 ((M0++[(qY q.1.n.rs p.n.rs,true)]).map jC)::[]):=by rw[←gw];exact hH.drop 2
     refine qj fun K hK=>qA ?_;refine qm ?_;refine qe hK ?_;refine⟨mm-1,by omega,⟨i+1,y,M0++[(qY q.1.n.rs p.n.rs,true)],rfl,hH,by omega,gS,?_,?_⟩⟩
     ·rw[oA];simp
     ·refine nY (fun x hx=>Om x (List.mem_append_left _ hx)) (fun _=>rfl)
    ·have hc:(q.1.n.op==2)=false:=by simpa using hqo
     rw[if_neg (fun h=>hqo h.2)] at oA;refine qE rfl (by rw[hc]) ?_;refine qj fun K hK=>qm ?_;refine ae.aN (m:=8) (r:=tC p) hH rfl (ev rfl) aG rfl rfl rfl (aa rfl _) ?_;refine qh (s:=8) (vs:=[_]) hH fun k54 st DP hH=>?_;dsimp only[u2,u1,u3,u4,setMany,u5,u6,D.cells,Nat.reduceAdd,tC,cg,jC] at hH;refine ae.cJ (s:=8) hH rfl (ev rfl) (ev rfl) bE (hH.rows aG) rfl rfl rfl rfl rfl rfl rfl ⟨(Nat.le_of_ble_eq_true rfl),(Nat.le_of_ble_eq_true rfl)⟩ (fun _=>(aa rfl _)) (by simp only[List.length_map,List.length_append,List.length_cons,List.length_nil] at LF⊢;omega) (.inl hF) gS (fun Mr st gS hH=>?_);dsimp only[u1,u2] at hH;refine qm ?_;refine qe hK ?_;have hH:=hH.drop 2;refine qj fun K hK=>qA ?_;refine qm ?_;refine qe hK ?_;refine⟨mm-1,by omega,⟨i+1,Mr,(M0++[q])++[(p,false)],rfl,(by rw[List.map_append];exact hH),by omega,gS,?_,?_⟩⟩
     ·rw[oA];simp
     ·exact nY Om (fun h=>by cases h)
   ·have dx:(p.n.op==2)=false:=by simpa using hpo
    rw[if_neg (fun h=>hpo h.1)] at oA;refine qq<|qj fun K hK=>qm ?_;refine qg ?_;refine qm ?_;refine qp (o:=0) ?_ (hg:=wi bN);refine qp (o:=0) ?_ (hg:=wi bN);refine ql hH aG ?_ (hg:=wi bN);refine qg ?_ (hg:=wi bN);refine qt bN ?_;refine qm ?_;refine qs ?_ (hg:=wn dx);refine qs ?_ (hg:=wn dx);refine qs ?_ (hg:=wn dx);refine qs ?_ (hg:=wn dx);refine qs ?_ (hg:=wn dx);refine qs ?_ (hg:=wn dx);refine qs ?_ (hg:=wn dx);refine qu dx ?_;refine qe hK<|qC ?_;refine qj fun K hK=>qm ?_;refine ae.aN (m:=8) (r:=tC p) hH rfl (ev rfl) aG rfl rfl rfl (aa rfl _) ?_;refine qh (s:=8) (vs:=[_]) hH fun k54 st DP hH=>?_;dsimp only[u2,u1,u3,u4,setMany,u5,u6,D.cells,Nat.reduceAdd,tC,cg,jC] at hH;refine ae.cJ (s:=8) hH rfl (ev rfl) (ev rfl) bE (hH.rows aG) rfl rfl rfl rfl rfl rfl rfl ⟨(Nat.le_of_ble_eq_true rfl),(Nat.le_of_ble_eq_true rfl)⟩ (fun _=>(aa rfl _)) (by simp only[List.length_map,List.length_append,List.length_cons,List.length_nil] at LF⊢;omega) (.inl hF) gS (fun Mr st gS hH=>?_);dsimp only[u1,u2] at hH;refine qm ?_;refine qe hK ?_;have hH:=hH.drop 2;refine qj fun K hK=>qA ?_;refine qm ?_;refine qe hK ?_;refine⟨mm-1,by omega,⟨i+1,Mr,(M0++[q])++[(p,false)],rfl,(by rw[List.map_append];exact hH),by omega,gS,?_,?_⟩⟩
    ·rw[oA];simp
    ·exact nY Om (fun h=>by cases h)
 ·refine ai.exit ?_;have hil:i=l.length:=by omega
  rw[hil,List.take_length] at LG;refine qq<|qj fun K hK=>qm ?_;refine qm ?_;refine qe hK ?_;have hz:=M_ Om (by rw[LG];exact kz Cl);have DO:=hH.rp (L:=s0.bs.length) (n:=16) aG (fun k hk=>by rw[←aU];exact gS k hk) hz.1 (by decide);rw[hz.2,LG,←m_] at DO;refine ai.ret ⟨rx,_,rfl,rl aU hH (DO)⟩
end Go.Proofs.YthahmilhpmfkfaaGreat
