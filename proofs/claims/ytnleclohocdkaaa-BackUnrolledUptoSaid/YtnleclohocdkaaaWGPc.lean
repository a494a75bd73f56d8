/-
 The parser of patterns: digits; what a backslash says; a part of a class's item.
-/
import Derived.Test.YtnleclohocdkaaaWGM3
import Derived.Test.YtnleclohocdkaaaWDgp
import Derived.Test.YtnleclohocdkaaaWGCa
set_option maxRecDepth 100000
set_option maxHeartbeats 4000000
set_option linter.unusedSimpArgs false
set_option linter.unusedVariables false
set_option linter.unusedSectionVars false
namespace Go.Proofs.Ytnleclohocdkaaa
open Go.V Go
theorem nY:∀gs:List (Nat×Nat),jJ ((gs.map bq).map (lL 2))=some (gs.map fun g=>((g.1:Nat):Int))
 |[]=>rfl
 |g::gs=>by
  have ih:=nY gs;simp only[List.map_cons];show(match jJ ((gs.map bq).map (lL 2)) with|some rs=>some (((g.1:Nat):Int)::rs)|none=>none)=_;rw[ih]
theorem mD:∀(rs:List Int) (acc:List UInt8),(digS rs acc).2≤rs.length∧(digS rs acc).1.length≤acc.length+(digS rs acc).2
 |[],acc=>by simp[digS]
 |r::rs,acc=>by
  unfold digS
  split
  ·have h:=mD rs (if 48<r∨acc≠[] then acc++[UInt8.ofNat r.toNat] else acc);simp only[List.length_cons]
   have hl:(if 48<r∨acc≠[] then acc++[UInt8.ofNat r.toNat] else acc).length≤acc.length+1:=by
    split<;>simp
   omega
  ·simp
structure kO (gs:List (Nat×Nat)) (aS:List Int):Prop where
 gl:gs.length≤120
 pl:aS.length=gs.length
structure bF where
 op:Int
 rd:D
 rs:List Rg
 mn:Int
 mx:Int
 lz:Bool
 cap:Int
 kids:Int
def a_ (n:bF):List D:=[.int .i64 n.op,n.rd,.int .i64 n.mn,.int .i64 n.mx,.bool n.lz,.int .i64 n.cap,.int .i64 n.kids]
def bF.ok (n:bF):Prop:=iK n.rd 2 (n.rs.map aw)∧n.rs.length≤1048576∧n.kids≤9223372036854775807
structure Nl where
 d:D
 l:List bF
structure Nl.ok (x:Nl):Prop where
 c:iK x.d 7 (x.l.map a_)
 i:∀n∈x.l,n.ok
 nl:x.l.length≤1048576
theorem jO {l:List bF} {i:Nat} {q:bF} (h:l[i]?=some q):(l.map a_)[i]?=some (a_ q):=by rw[List.getElem?_map,h];rfl
mutual
inductive Tr where
 |mk (n:bF) (ks:bf)
inductive bf where
 |nil
 |cons (t:Tr) (ts:bf)
end
def bf.len:bf→Nat
 | .nil=>0
 | .cons _ ts=>ts.len+1
mutual
def Tr.flat:Tr→List bF
 | .mk n ks=>n::ks.flat
def bf.flat:bf→List bF
 | .nil=>[]
 | .cons t ts=>t.flat++ts.flat
end
def vN (n:bF) (nk:Nat):Prop:=
 n.kids=(nk:Int)∧(((n.op=1∨n.op=7∨n.op=8)∧nk=0)∨(n.op=2∧nk=0)∨((n.op=3∨n.op=4)∧2≤nk)∨
  (n.op=5∧nk=1∧0≤n.mn∧n.mn≤30∧(n.mx=-1∨(n.mn≤n.mx∧n.mx≤30)))∨(n.op=6∧nk=1∧1≤n.cap∧n.cap≤4))
mutual
def Tr.ok:Tr→Prop
 | .mk n ks=>vN n ks.len∧ks.ok
def bf.ok:bf→Prop
 | .nil=>True
 | .cons t ts=>t.ok∧ts.ok
end
def bD (n:bF) (s k:Nat):Nat:=
 if n.op=2∨n.op=7∨n.op=8 then 1
 else if n.op=4 then s+2*(k-1)
 else if n.op=6 then s+2
 else if n.op=5 then(if n.mx=-1 then n.mn.toNat*s+s+2 else n.mn.toNat*s+(n.mx.toNat-n.mn.toNat)*(s+1))
 else s
mutual
def Tr.sz:Tr→Nat
 | .mk n ks=>bD n ks.sz ks.len
def bf.sz:bf→Nat
 | .nil=>0
 | .cons t ts=>t.sz+ts.sz
end
def cq (op x y:Int) (rs:List Rg):aN:=⟨op,x,y,.sl ((rs.map aw).map (lL 2)),rs⟩
def kT (s o:Nat) (lz:Bool):aN:=if lz=true then cq 2 (o:Nat) ((s+1:Nat):Int) [] else cq 2 ((s+1:Nat):Int) (o:Nat) []
def jv (e:Nat):aN:=cq 3 (e:Nat) 0 []
def eo (c:Nat→List aN) (z:Nat):Nat→Nat→List aN
 |0,_=>[]
 |k+1,b=>c b++eo c z k (b+z)
def eu (sp:Nat→aN) (c:Nat→List aN) (z:Nat):Nat→Nat→List aN
 |0,_=>[]
 |k+1,b=>sp b::(c (b+1)++eu sp c z k (b+1+z))
def vD (z:Nat):Nat→Nat→List Nat
 |0,_=>[]
 |k+1,b=>b::vD z k (b+1+z)
def ke (n:bF) (c:Nat→List aN) (z b:Nat):List aN:=
 if n.mx=-1 then eo c z n.mn.toNat b++(kT (b+n.mn.toNat*z) (b+n.mn.toNat*z+z+2) n.lz::(c (b+n.mn.toNat*z+1)++[jv (b+n.mn.toNat*z)]))
 else eo c z n.mn.toNat b++eu (fun s=>kT s (b+n.mn.toNat*z+(n.mx.toNat-n.mn.toNat)*(z+1)) n.lz) c z (n.mx.toNat-n.mn.toNat) (b+n.mn.toNat*z)
mutual
def aD:Tr→Nat→List aN
 | .mk n ks,b=>
  if n.op=2 then[cq 1 0 0 n.rs]
  else if n.op=7 then[cq 5 0 0 []]
  else if n.op=8 then[cq 6 0 0 []]
  else if n.op=3 then d_ ks b
  else if n.op=4 then dz (jv (b+bD n ks.sz ks.len)) ks b
  else if n.op=5 then ke n (d_ ks) ks.sz b
  else if n.op=6 then cq 4 (2*n.cap) 0 []::(d_ ks (b+1)++[cq 4 (2*n.cap+1) 0 []])
  else[]
def d_:bf→Nat→List aN
 | .nil,_=>[]
 | .cons t ts,b=>aD t b++d_ ts (b+t.sz)
def dz (jp:aN):bf→Nat→List aN
 | .nil,_=>[]
 | .cons t ts,b=>if ts.len=0 then aD t b else kT b (b+1+t.sz+1) false::(aD t (b+1)++jp::dz jp ts (b+t.sz+2))
end
def rm:bf→Nat→List Nat
 | .nil,_=>[]
 | .cons t ts,b=>if ts.len=0 then[] else(b+1+t.sz)::rm ts (b+t.sz+2)
theorem ie {c:Nat→List aN} {z:Nat} (hc:∀b,(c b).length=z):∀k b,(eo c z k b).length=k*z
 |0,b=>by simp[eo]
 |k+1,b=>by rw[eo,List.length_append,hc,ie hc k,Nat.add_mul];omega
theorem mh {sp:Nat→aN} {c:Nat→List aN} {z:Nat} (hc:∀b,(c b).length=z):∀k b,(eu sp c z k b).length=k*(z+1)
 |0,b=>by simp[eu]
 |k+1,b=>by rw[eu,List.length_cons,List.length_append,hc,mh hc k,Nat.add_mul];omega
theorem BV {n:bF} {c:Nat→List aN} {z b:Nat} (hc:∀b,(c b).length=z) (h:n.op=5):(ke n c z b).length=bD n z 1:=by
 unfold ke bD;rw[if_neg (show¬(n.op=2∨n.op=7∨n.op=8) by omega),if_neg (show¬n.op=4 by omega),if_neg (show¬n.op=6 by omega),if_pos h]
 split
 ·rw[List.length_append,ie hc,List.length_cons,List.length_append,hc];simp only[List.length_cons,List.length_nil];omega
 ·rw[List.length_append,ie hc,mh hc]
theorem bf.mr {ks:bf} (h:ks.len=1):∃t,ks=.cons t .nil:=by
 cases ks with
 |nil=>simp[bf.len] at h
 |cons t ts=>cases ts with
  |nil=>exact⟨t,rfl⟩
  |cons u us=>simp[bf.len] at h
theorem bf.len_nil {ks:bf} (h:ks.len=0):ks=.nil:=by
 cases ks with
 |nil=>rfl
 |cons t ts=>simp[bf.len] at h
mutual
theorem bH:∀(t:Tr) (b:Nat),t.ok→(aD t b).length=t.sz
 | .mk n ks,b,h=>by
  simp only[Tr.ok] at h;obtain⟨h1,h2⟩:=h;have hc:=fun b=>kH ks b h2;have ha:=fun jp b=>mT jp ks b h2;simp only[aD,Tr.sz];obtain⟨_,⟨h3,h4⟩|⟨h3,h4⟩|⟨h3,h4⟩|⟨h3,h4,h5⟩|⟨h3,h4,h5⟩⟩:=h1
  ·have hk:=bf.len_nil h4;subst hk
   by_cases q7:n.op=7
   ·simp[q7,bD]
   ·by_cases q8:n.op=8
    ·simp[q8,bD]
    ·have q1:n.op=1:=by omega
     simp[q1,bD,bf.sz]
  ·simp[h3,bD]
  ·rcases h3 with h3|h3
   ·simp[h3,bD,hc]
   ·simp[h3,bD,ha]
  ·have:=BV (n:=n) (b:=b) hc h3;simp only[h3] at this⊢;simp only[show¬((5:Int)=2) by decide,show¬((5:Int)=7) by decide,show¬((5:Int)=8) by decide,show¬((5:Int)=3) by decide,show¬((5:Int)=4) by decide,if_false,if_true];rw[this,h4]
  ·simp[h3,bD,hc]
theorem kH:∀(ts:bf) (b:Nat),ts.ok→(d_ ts b).length=ts.sz
 | .nil,b,_=>by simp[d_,bf.sz]
 | .cons t ts,b,h=>by
  simp only[bf.ok] at h;simp only[d_,bf.sz,List.length_append];rw[bH t b h.1,kH ts _ h.2]
theorem mT (jp:aN):∀(ts:bf) (b:Nat),ts.ok→(dz jp ts b).length=ts.sz+2*(ts.len-1)
 | .nil,b,_=>by simp[dz,bf.sz,bf.len]
 | .cons t ts,b,h=>by
  simp only[bf.ok] at h;have h1:=mT jp ts (b+t.sz+2) h.2;simp only[dz,bf.sz,bf.len]
  by_cases q:ts.len=0
  ·rw[if_pos q,bH t b h.1,q];have:=bf.len_nil q;subst this;simp[bf.sz]
  ·rw[if_neg q,List.length_cons,List.length_append,List.length_cons,bH t _ h.1,h1];omega
end
def ib (f:Nat→aN) (c:List aN) (l:List Nat):List aN:=l.foldl (fun c j=>c.set j (f j)) c
theorem oO {α:Type} (pre post:List α) (x y:α):(pre++x::post).set pre.length y=pre++y::post:=by
 rw[List.set_append_right _ _ (Nat.le_refl _),Nat.sub_self];rfl
theorem oT {α:Type} (pre post:List α) (x:α):(pre++x::post)[pre.length]?=some x:=by
 rw[List.getElem?_append_right (Nat.le_refl _),Nat.sub_self];rfl
theorem nr {sp:Nat→aN} {c:Nat→List aN} {z:Nat} (hc:∀b,(c b).length=z) {i0:aN}:∀(k b:Nat) (pre post:List aN),pre.length=b→ib sp (pre++eu (fun _=>i0) c z k b++post) (vD z k b)=pre++eu sp c z k b++post∧∀j∈vD z k b,(pre++eu (fun _=>i0) c z k b++post)[j]?=some i0
 |0,b,pre,post,_=>⟨rfl,fun j hj=>by cases hj⟩
 |k+1,b,pre,post,h=>by
  have ih:=nr (sp:=sp) hc (i0:=i0) k (b+1+z) (pre++i0::c (b+1)) post (by rw[List.length_append,List.length_cons,hc];omega);have zn:=nr (sp:=sp) hc (i0:=i0) k (b+1+z) (pre++sp b::c (b+1)) post (by rw[List.length_append,List.length_cons,hc];omega);simp only[eu,vD];have e:pre++i0::(c (b+1)++eu (fun _=>i0) c z k (b+1+z))++post=pre++i0::(c (b+1)++eu (fun _=>i0) c z k (b+1+z)++post):=by simp
  have e2:pre++i0::c (b+1)++eu (fun _=>i0) c z k (b+1+z)++post=pre++i0::(c (b+1)++eu (fun _=>i0) c z k (b+1+z)++post):=by simp
  refine⟨?_,fun j hj=>?_⟩
  ·unfold ib at zn⊢;rw[List.foldl_cons,e]
   have hs:(pre++i0::(c (b+1)++eu (fun _=>i0) c z k (b+1+z)++post)).set b (sp b)=pre++sp b::c (b+1)++eu (fun _=>i0) c z k (b+1+z)++post:=by
    rw[←h,oO];simp
   rw[hs,zn.1];simp
  ·rw[e]
   rcases List.mem_cons.1 hj with rfl|hj
   ·rw[←h];exact oT _ _ _
   ·rw[←e2];exact ih.2 j hj
theorem nS {jp i0:aN}:∀(ts:bf) (b:Nat) (pre post:List aN),ts.ok→pre.length=b→ib (fun _=>jp) (pre++dz i0 ts b++post) (rm ts b)=pre++dz jp ts b++post∧∀j∈rm ts b,(pre++dz i0 ts b++post)[j]?=some i0
 | .nil,b,pre,post,_,_=>⟨by simp[dz,rm,ib],fun j hj=>by simp[rm] at hj⟩
 | .cons t ts,b,pre,post,cH,h=>by
  simp only[bf.ok] at cH
  by_cases q:ts.len=0
  ·simp only[dz,rm,if_pos q];exact⟨rfl,fun j hj=>by cases hj⟩
  ·simp only[dz,rm,if_neg q];generalize kT b (b+1+t.sz+1) false=sp;have hcl:=bH t (b+1) cH.1;have ih:=nS (jp:=jp) (i0:=i0) ts (b+t.sz+2) (pre++sp::(aD t (b+1)++[i0])) post cH.2 (by simp only[List.length_append,List.length_cons,List.length_nil,hcl];omega);have zn:=nS (jp:=jp) (i0:=i0) ts (b+t.sz+2) (pre++sp::(aD t (b+1)++[jp])) post cH.2 (by simp only[List.length_append,List.length_cons,List.length_nil,hcl];omega);generalize dz i0 ts (b+t.sz+2)=A at*;have e:pre++sp::(aD t (b+1)++i0::A)++post=(pre++sp::aD t (b+1))++i0::(A++post):=by simp
   have hl:(pre++sp::aD t (b+1)).length=b+1+t.sz:=by simp only[List.length_append,List.length_cons,hcl];omega
   refine⟨?_,fun j hj=>?_⟩
   ·unfold ib at zn⊢;rw[List.foldl_cons,e,←hl,oO];have:=zn.1;simp only[List.append_assoc,List.cons_append,List.nil_append] at this⊢;exact this
   ·rw[e]
    rcases List.mem_cons.1 hj with rfl|hj
    ·rw[←hl];exact oT _ _ _
    ·have:=ih.2 j hj;simp only[List.append_assoc,List.cons_append,List.nil_append] at this⊢;exact this
def fG {α:Type} (L:List α) (at_:Nat) (M:List α):Prop:=∃post,L.drop at_=M++post
theorem fG.head {α:Type} {L M:List α} {a:α} {at_:Nat} (h:fG L at_ (a::M)):L[at_]?=some a:=by
 obtain⟨post,h⟩:=h;have:=congrArg (·[0]?) h
 simpa using this
theorem fG.tail {α:Type} {L M:List α} {a:α} {at_:Nat} (h:fG L at_ (a::M)):fG L (at_+1) M:=by
 obtain⟨post,h⟩:=h;refine⟨post,?_⟩;rw[←List.drop_drop,h];rfl
theorem fG.left {α:Type} {L M M':List α} {at_:Nat} (h:fG L at_ (M++M')):fG L at_ M:=by
 obtain⟨post,h⟩:=h;exact⟨M'++post,by rw[h,List.append_assoc]⟩
theorem fG.right {α:Type} {L M M':List α} {at_:Nat} (h:fG L at_ (M++M')):fG L (at_+M.length) M':=by
 obtain⟨post,h⟩:=h;refine⟨post,?_⟩;rw[←List.drop_drop,h,List.append_assoc,List.drop_left]
theorem fG.le {α:Type} {L M:List α} {at_:Nat} (h:fG L at_ M) (hM:M≠[]):at_+M.length≤L.length:=by
 obtain⟨post,h⟩:=h;have:=congrArg List.length h;simp only[List.length_drop,List.length_append] at this
 have:0<M.length:=by cases M with|nil=>exact absurd rfl hM|cons _ _=>simp
 omega
theorem fG.all {α:Type} (L:List α):fG L 0 L:=⟨[],by simp⟩
mutual
def Tr.zs:Tr→List Int
 | .mk n ks=>((min (bD n ks.sz ks.len) 401:Nat):Int)::ks.zs
def bf.zs:bf→List Int
 | .nil=>[]
 | .cons t ts=>t.zs++ts.zs
end
mutual
def Tr.es:Tr→Nat→List Int
 | .mk n ks,at_=>((at_+1+ks.flat.length:Nat):Int)::ks.es (at_+1)
def bf.es:bf→Nat→List Int
 | .nil,_=>[]
 | .cons t ts,at_=>t.es at_++ts.es (at_+t.flat.length)
end
mutual
theorem Tr.iY:∀t:Tr,t.zs.length=t.flat.length
 | .mk n ks=>by simp[Tr.zs,Tr.flat,bf.iY ks]
theorem bf.iY:∀ts:bf,ts.zs.length=ts.flat.length
 | .nil=>rfl
 | .cons t ts=>by simp[bf.zs,bf.flat,Tr.iY t,bf.iY ts]
end
mutual
theorem Tr.jf:∀(t:Tr) (a:Nat),(t.es a).length=t.flat.length
 | .mk n ks,a=>by simp[Tr.es,Tr.flat,bf.jf ks]
theorem bf.jf:∀(ts:bf) (a:Nat),(ts.es a).length=ts.flat.length
 | .nil,_=>rfl
 | .cons t ts,a=>by simp[bf.es,bf.flat,Tr.jf t,bf.jf ts]
end
theorem Tr.iD (t:Tr):0<t.flat.length:=by cases t;simp[Tr.flat]
theorem bf.nB:∀ts:bf,ts.len≤ts.flat.length
 | .nil=>Nat.le_refl _
 | .cons t ts=>by
  have h1:=bf.nB ts;have h2:=t.iD;simp only[bf.len,bf.flat,List.length_append];omega
end Go.Proofs.Ytnleclohocdkaaa
namespace Go.V
variable{N:Nat} {S st:St} {H:List cx}
theorem cK.at_ {α β:Type} {R:α→β→Prop}:∀{l:List α} {m:List β} {i:Nat} {b:β},cK R l m→m[i]?=some b→∃a,l[i]?=some a∧R a b
 |_,_,_,_,.nil,h=>by simp at h
 |_,_,0,_,.cons a t,h=>by simp only[List.getElem?_cons_zero,Option.some.injEq] at h;subst h;exact⟨_,rfl,a⟩
 |_,_,i+1,_,.cons a t,h=>by simp only[List.getElem?_cons_succ] at h⊢;exact t.at_ h
theorem cK.set {α β:Type} {R:α→β→Prop} {a:α} {b:β} (r:R a b):∀{l:List α} {m:List β} (i:Nat),cK R l m→cK R (l.set i a) (m.set i b)
 |_,_,_,.nil=>.nil
 |_,_,0,.cons _ t=>.cons r t
 |_,_,i+1,.cons h t=>.cons h (t.set r i)
theorem cK.setMany {R:D→D→Prop}:∀{xs ys:List D} {c d:List D} (o:Nat),cK R xs ys→cK R c d→cK R (setMany c o xs) (setMany d o ys)
 |_,_,_,_,_,.nil,h=>h
 |_,_,_,_,o,.cons r t,h=>by simp only[Go.V.setMany];exact t.setMany (o+1) (h.set r o)
theorem cK.same {R:D→D→Prop}:∀{l:List D},(∀d∈l,R d d)→cK R l l
 |[],_=>.nil
 |d::l,h=>.cons (h d (List.mem_cons_self ..)) (cK.same fun x hx=>h x (List.mem_cons_of_mem _ hx))
theorem Has.Ju {j:Nat} {x:D} {s:Nat} {ks:Nat→Prop} {vs:List (List D)} (hH:Has N S st H) (hj:H[j]?=some (.deep ks x s vs)):∃es,Rows st s x es∧es.length=vs.length:=by
 obtain⟨⟨es,h1,h2⟩,_⟩:=(hH.ok j _ hj).1;exact⟨es,h1.rows,h2.len⟩
theorem Has.MG {j k ay off len s:Nat} {ks:Nat→Prop} {vs:List (List D)} {i o:Nat} {v cs:List D} (h:Has N S st H) (hj:H[j]?=some (.deep ks (.win k ay off len s) s vs)) (hi:vs[i]?=some v) (hl:o+cs.length≤s) (hp:∀d∈cs,cC d=true) (hw:S.flr≤N∨refs cs=0):
  ∃ag,st.wr k ay (off+i*s+o) cs=some ag∧Has N S ag (H.set j (.deep ks (.win k ay off len s) s (vs.set i (setMany v o cs)))):=by
 obtain⟨⟨es,he1,ya⟩,he3⟩:=(h.ok j _ hj).1;have hK:=(h.ok j _ hj).2;obtain⟨e,Qo,aM⟩:=ya.at_ hi
 have L4:Has N S st [.aR (.win k ay off len s) s es]:=by
  refine⟨h.ex,h.hN,h.fY,fun i e hi=>?_,fun i i' a b hii ha hb k wu jE=>?_⟩
  ·cases i with
   |zero=>simp only[List.getElem?_cons_zero,Option.some.injEq] at hi;subst hi;exact⟨he1,fun k hk=>hK k (.inl hk)⟩
   |succ i=>simp at hi
  ·cases i with
   |zero=>cases i' with
    |zero=>exact hii rfl
    |succ i'=>simp at hb
   |succ i=>simp at ha
 obtain⟨ag,q1,q2⟩:=L4.yZ (j:=0) aC Qo hl hw;refine⟨ag,q1,?_⟩;have hown:=q2.own (j:=0) aC
 have LU:(∀n,n≠k→ag.bs[n]?=st.bs[n]?)∧st.bs.length=ag.bs.length∧ag.flr=st.flr∧ag.ro=st.ro:=by
  unfold St.wr at q1
  split at q1
  ·split at q1
   ·cases q1;exact⟨fun n hn=>by simp only;rw[List.getElem?_set_ne (fun e=>hn e.symm)],by simp,rfl,rfl⟩
   ·cases q1
  ·cases q1
 obtain⟨c1,c2,c3,c4⟩:=LU;have hkk:=hK k (.inl (by simp only[D.ref]));have hne:∀n,ks n→n≠k:=fun n hn e=>he3 k (by simp only[D.ref]) (e▸hn);have wj:∀n,ks n→ag.bs[n]?=st.bs[n]?:=fun n hn=>c1 n (hne n hn);refine h.Ae hj (fun n hn hnot=>c1 n fun e=>hnot (.inl (by simp only[D.ref];omega))) (Nat.le_of_eq c2) c3 c4 ⟨⟨_,hown,?_⟩,he3⟩ (fun n hn=>.inl hn) fun n hn=>?_
 ·refine cK.set ?_ i (ya.mono fun a b=>cK.mono fun c d=>fx.move wj);exact(cK.same fun d hd=>.plain d (hp d hd)).setMany o (aM.mono fun c d=>fx.move wj)
 ·rw[←c2];exact(hK n hn).2
variable{P:Pv} {ops:Array Oper} {rest:List Oper} {fr aF:Fr} {Q:Fr→St→Prop} {ty:TypeId} {pp:String} {a:Array Edge} {g:Option (Nat×Bool)} {dst:Nat}
theorem ab.Ba {t e:TypeId} {xo:Operand} {x:D} {s j:Nat} {ks:Nat→Prop} {vs:List (List D)} (hH:Has N S st H) (hg:aB ops fr ⟨some dst,.call ⟨.builtin .len,#[xo],#[t]⟩,ty,pp,a,g⟩=some true) (hx:fr.ev xo=x) (hj:H[j]?=some (.deep ks x s vs)) (ht:P.cL t=some (.slice e)) (hp:fr.put dst (.int .i64 (vs.length:Nat))=aF)
  (h:ab P ops rest aF st Q):ab P ops (⟨some dst,.call ⟨.builtin .len,#[xo],#[t]⟩,ty,pp,a,g⟩::rest) fr st Q:=by
 obtain⟨es,h1,h2⟩:=hH.Ju hj;exact ab.Al hg hx h1 ht (by rw[h2];exact hp) h
theorem ab.C_ {t e:TypeId} {xo io:Operand} {x:D} {s i j:Nat} {kk:IntKind} {ks:Nat→Prop} {vs:List (List D)} {aF:D→Fr} (hH:Has N S st H) (hg:aB ops fr ⟨some dst,.indexAddr t xo io,ty,pp,a,g⟩=some true) (hx:fr.ev xo=x) (hi:fr.ev io=.int kk (i:Nat)) (hj:H[j]?=some (.deep ks x s vs)) (ht:P.cL t=some (.slice e)) (hs:ck P e=some s) (hr:i<vs.length) (hp:∀p,fr.put dst p=aF p)
  (h:∀p,oI x s i 0 p→ab P ops rest (aF p) st Q):ab P ops (⟨some dst,.indexAddr t xo io,ty,pp,a,g⟩::rest) fr st Q:=by
 obtain⟨⟨es,he1,ya⟩,he3⟩:=(hH.ok j _ hj).1;have hlen:=ya.len
 cases he1 with
 |nul=>simp at hlen;omega
 |win k ay off es c hm hl hc he=>
  refine ab.go hg rfl (d:=.ptr k ay (off+i*s)) (st1:=st) ?_ (hp _) (h _ ⟨k,ay,off,_,rfl,rfl⟩);simp only[dO,hx,hi,bZ,ht,hs,Option.bind_some,St.mem_of hm,Option.isSome_some];rw[if_pos ⟨trivial,by omega,by omega,trivial⟩];rfl
theorem ab.qN {t:TypeId} {ao vo:Operand} {x y v:D} {s i o j:Nat} {ks:Nat→Prop} {vs:List (List D)} {r cs:List D} (hH:Has N S st H) (hg:aB ops fr ⟨none,.store t ao vo,ty,pp,a,g⟩=some true) (ha:fr.ev ao=y) (hv:fr.ev vo=v) (hR:oI x s i o y) (jF:v.cells?=some cs) (hs:ck P t=some cs.length) (hj:H[j]?=some (.deep ks x s vs)) (hr:vs[i]?=some r) (hl:o+cs.length≤s) (hq:∀d∈cs,cC d=true) (hw:S.flr≤N∨refs cs=0)
  (h:∀ag,Has N S ag (H.set j (.deep ks x s (vs.set i (setMany r o cs))))→ab P ops rest fr ag Q):ab P ops (⟨none,.store t ao vo,ty,pp,a,g⟩::rest) fr st Q:=by
 obtain⟨k,ay,off,len,rfl,rfl⟩:=hR;obtain⟨ag,h1,h2⟩:=hH.MG hj hr hl hq hw;refine ab.N hg rfl (d:=.tup []) (st1:=ag) ?_ (h _ h2);simp only[dO,ha,hv,kb,jF,hs,if_pos trivial,h1];rfl
theorem af.GU {dy:Dy} {i:Nat} {l:List Oper} {d n loc tmp st} {Q:Out→Fr→St→Prop} (ws:List Nat) (F:(Nat→D)→Prop)
  (h1:ab P l.toArray l ⟨n,loc,[]⟩ st fun aF ag=>∃f tmp,aF=⟨n,aI loc ws f,tmp⟩∧ag=st∧F f) (h2:∀f tmp,F f→Q .next ⟨n,aI loc ws f,tmp⟩ st) (h0:iu i dy=[]:=by rfl):af P dy (.region i l.toArray d) ⟨n,loc,tmp⟩ st Q:=by
 refine af.c_ ?_ h0;unfold ab at h1⊢;obtain⟨aF,ag,h3,f,FB,rfl,rfl,h4⟩:=h1;exact⟨_,_,h3,h2 _ _ h4⟩
theorem kz {n:Nat} {L loc:List D} {tg:List (Nat×D)} {ws:List Nat} {F:(Nat→D)→Prop} {st:St} (h:L=aI loc ws (fun k=>nth .bG L k)) (h2:F (fun k=>nth .bG L k)):∃(f:Nat→D) (tmp:List (Nat×D)),(⟨n,L,tg⟩:Fr)=⟨n,aI loc ws f,tmp⟩∧st=st∧F f:=⟨_,tg,by rw[←h],rfl,h2⟩
theorem ab.HO {t1 t2:TypeId} {xo yo:Operand} {x y z:Int} (hg:aB ops fr ⟨some dst,.call ⟨.builtin .min,#[xo,yo],#[t1,t2]⟩,ty,pp,a,g⟩=some true) (hx:fr.ev xo=.int .i64 x) (hy:fr.ev yo=.int .i64 y) (hz:min x y=z) (hp:fr.put dst (.int .i64 z)=aF) (h:ab P ops rest aF st Q):ab P ops (⟨some dst,.call ⟨.builtin .min,#[xo,yo],#[t1,t2]⟩,ty,pp,a,g⟩::rest) fr st Q:=
 ab.FT (t1:=t1) (t2:=t2) hg hx hy (by rw[hz];exact hp) h
theorem Has.vX {N:Nat} {S s0 S2 st2:St} {H:List cx} {x:D} {s:Nat} {es MD:List (List D)} (h:Has N S s0 (.aR x s es::H)) (hS:S2.bs=s0.bs) (h2:Has N S2 st2 (.aR x s MD::H)):Has N S ⟨st2.bs.take s0.bs.length,s0.flr,s0.ro⟩ (.aR x s MD::H):=by
 refine h.tT hS h2 fun i e hi=>?_
 cases i with
 |zero=>simp only[List.getElem?_cons_zero,Option.some.injEq] at hi;subst hi;exact⟨_,rfl,fun k hk=>hk⟩
 |succ i=>exact⟨e,hi,fun k hk=>hk⟩
theorem Has.vY {N:Nat} {S s0 S2 st2:St} {H:List cx} {k:Nat} {b b':iL} {ks:Nat→Prop} {x:D} {s:Nat} {vs Hv:List (List D)} (h:Has N S s0 (.box k b::.deep ks x s vs::H)) (hS:S2.bs=s0.bs) (h2:Has N S2 st2 (.box k b'::.deep ks x s Hv::H)):Has N S ⟨st2.bs.take s0.bs.length,s0.flr,s0.ro⟩ (.box k b'::.deep ks x s Hv::H):=by
 refine h.tT hS h2 fun i e hi=>?_
 match i with
 |0=>simp only[List.getElem?_cons_zero,Option.some.injEq] at hi;subst hi;exact⟨_,rfl,fun k hk=>hk⟩
 |1=>simp only[List.getElem?_cons_succ,List.getElem?_cons_zero,Option.some.injEq] at hi;subst hi;exact⟨_,rfl,fun k hk=>hk⟩
 |i+2=>exact⟨e,hi,fun k hk=>hk⟩
theorem Has.DZ {N:Nat} {S st:St} {H:List cx} {a b c d e:cx} (h:Has N S st (a::b::c::d::e::H)):Has N S st (b::c::d::e::a::H):=by
 refine h.sub (fun i=>if i=4 then 0 else if i<4 then i+1 else i) (fun i j hij=>?_) (fun i x hi=>?_)
 ·(try simp only at hij)
  split at hij<;>split at hij<;>(try split at hij)<;>(try split at hij)<;>omega
 ·match i,hi with
  |0,hi=>exact hi
  |1,hi=>exact hi
  |2,hi=>exact hi
  |3,hi=>exact hi
  |4,hi=>exact hi
  |i+5,hi=>
   have h1:¬(i+5=4):=by omega
   have h2:¬(i+5<4):=by omega
   simp only[if_neg h1,if_neg h2];exact hi
theorem Has.kX {fr:Fr} {a k ay off j u u2:Nat} {t:TypeId} {ar:Bool} {c:List D} {d e e2:D} (hH:Has N S st H) (ha:fr.get a=.ptr k ay off) (hj:H[j]?=some (.box k (.mem ay ar c))) (hd:dL P t (c.drop off)=some d) (he:fr.get u=e) (ya:fr.get u2=e2):kf P fr st [.cell a t,.tmp u,.tmp u2]=some [d,e,e2]:=by
 simp only[kf,gI,ha,St.mem_of (hH.at hj),Option.bind_some,hd,Option.map_some,he,ya]
theorem af.pK {dy:Dy} {c1 c2:Code} {fr:Fr} {st:St} {Q:Out→Fr→St→Prop} (M:Fr→St→Prop) (h1:af P dy c1 fr st (bk P dy c2 (Dv M Q))) (h2:∀aF ag,M aF ag→Q .next aF ag):af P dy c1 fr st (bk P dy c2 Q):=
 h1.mono fun o aF ag h=>by
  cases o with
  |next=>exact af.merge M h h2
  |exit i=>exact h
  |ret=>exact h
end Go.V
namespace Go.Proofs.Ytnleclohocdkaaa
open Go.V Go
theorem A7 {st:St} {L n:Nat} {kn:Bool} {k ay off len s:Nat}:bQ st L kn n (.win k ay off len s)=bQ st L false n (.win k ay off len s):=by
 cases n<;>rfl
theorem A5 (l:List Rg):(l.map aw).map (·.map oC)=l.map aw:=by
 rw[List.map_map];rfl
theorem xg (l:List Rg):∀e∈l.map aw,∀d∈e,nW d=true:=by
 intro e he d hd;obtain⟨x,_,rfl⟩:=List.mem_map.1 he;simp only[aw,List.mem_cons,List.not_mem_nil,or_false] at hd
 rcases hd with rfl|rfl<;>rfl
theorem oi {N L j:Nat} {S st:St} {H:List cx} {x:D} {l:List Rg} (hH:Has N S st H) (hj:H[j]?=some (.aR x 2 (l.map aw))) (hx:∀k,x.ref=k+1→L≤k) {n:Nat} (hn:3≤n):bQ st L false n x=some (bB l):=by
 rw[hH.zE hj hx (xg l) hn,A5,ig]
theorem gO {gs:List (Nat×Nat)} {s:dW} {r:Int}:(b9 gs s r).o=s.o∧(b9 gs s r).g=s.g∧(b9 gs s r).e=s.e∧s.i≤(b9 gs s r).i∧(s.i≤gs.length→(b9 gs s r).i≤gs.length):=by
 unfold b9
 split
 ·rename_i h;have:=dF h;exact⟨rfl,rfl,rfl,by show s.i≤s.i+1;omega,fun _=>by show s.i+1≤_;omega⟩
 ·exact⟨rfl,rfl,rfl,Nat.le_refl _,fun h=>h⟩
end Go.Proofs.Ytnleclohocdkaaa
namespace Go.Proofs.Ytnleclohocdkaaa
open Go.V Go
def rP (n:bF):Prop:=n.rd=bB n.rs∧n.rs.length≤1048576∧n.kids≤1048576
def fy (op mn mx:Int) (lz:Bool) (cap kids:Int) (a:List Rg):bF:=⟨op,bB a,a,mn,mx,lz,cap,kids⟩
def ry (l:List bF):D:=.sl ((l.map a_).map (lL 7))
theorem D_ (l:List bF):∀e∈l.map a_,e.length=7:=by
 intro e he;obtain⟨x,_,rfl⟩:=List.mem_map.1 he;rfl
theorem ny {l:List bF} (h:∀n∈l,rP n):∀e∈l.map a_,∀d∈e,cC d=true:=by
 intro e he d hd;obtain⟨n,hn,rfl⟩:=List.mem_map.1 he;have hr:=(h n hn).1;simp only[a_,hr,List.mem_cons,List.not_mem_nil,or_false] at hd
 rcases hd with rfl|rfl|rfl|rfl|rfl|rfl|rfl<;>rfl
theorem pI {l:List bF} (h:∀n∈l,rP n):iK (ry l) 7 (l.map a_):=iK.frozen (D_ l) (ny h)
theorem E9 {l:List bF} (h:∀n∈l,rP n) (hl:l.length≤1048576):(⟨ry l,l⟩:Nl).ok:=by
 refine⟨pI h,fun n hn=>?_,hl⟩;obtain⟨h1,h2,h3⟩:=h n hn;exact⟨by rw[h1];exact hU _,h2,by omega⟩
theorem tF {l:List bF} (h:∀n∈l,rP n):(l.map a_).map (·.map oC)=l.map a_:=by
 rw[List.map_map];refine List.map_congr_left fun n hn=>?_;have hr:=(h n hn).1;show(a_ n).map oC=a_ n;unfold a_;rw[hr];rfl
theorem pH {l:List bF} (h:∀n∈l,rP n):∀e∈l.map a_,∀d∈e,nW d=true:=by
 intro e he d hd;have:=ny h e he d hd
 cases d<;>first|rfl|exact this
theorem iS {N L j:Nat} {S st:St} {H:List cx} {x:D} {es:List (List D)} {l:List bF} (hH:Has N S st H) (hj:H[j]?=some (.aR x 7 es)) (he:es.map (·.map oC)=l.map a_) (ht:∀e∈es,∀d∈e,nW d=true) (hx:∀k,x.ref=k+1→L≤k) {n:Nat} (hn:3≤n):bQ st L false n x=some (ry l):=by
 rw[hH.zE hj hx ht hn,he];rfl
theorem iT {N L j:Nat} {S st:St} {H:List cx} {x w:D} {op mn mx cap kids:Int} {lz:Bool} {a:List Rg} (hH:Has N S st H) (hj:H[j]?=some (.aR x 7 [[.int .i64 op,w,.int .i64 mn,.int .i64 mx,.bool lz,.int .i64 cap,.int .i64 kids]])) (hw:w=bB a∨w=.nul∧a=[]) (hx:∀k,x.ref=k+1→L≤k):bQ st L false 16 x=some (ry [fy op mn mx lz cap kids a]):=by
 refine iS hH hj ?_ (fun e he d hd=>?_) hx (by decide)
 ·rcases hw with rfl|⟨rfl,rfl⟩<;>rfl
 ·simp only[List.mem_cons,List.not_mem_nil,or_false] at he;subst he;simp only[List.mem_cons,List.not_mem_nil,or_false] at hd
  rcases hw with rfl|⟨rfl,rfl⟩<;>rcases hd with rfl|rfl|rfl|rfl|rfl|rfl|rfl<;>rfl
theorem Ci {op mn mx cap kids:Int} {lz:Bool} {a:List Rg} (h:a.length≤1048576) (hk:kids≤1048576):∀n∈[fy op mn mx lz cap kids a],rP n:=by
 intro n hn;simp only[List.mem_cons,List.not_mem_nil,or_false] at hn;subst hn;exact⟨rfl,h,hk⟩
end Go.Proofs.Ytnleclohocdkaaa
namespace Go.Proofs.Ytnleclohocdkaaa
open Go.V Go
def tc (gs:List (Nat×Nat)) (s s':dW):Prop:=s'.o=s.o∧s'.g=s.g∧s.i<s'.i∧s'.i≤gs.length
end Go.Proofs.Ytnleclohocdkaaa
namespace Go.Proofs.Ytnleclohocdkaaa
open Go.V Go
theorem pq:∀{l:List D},(∀d∈l,cC d=true)→refs l=0
 |[],_=>rfl
 |d::l,h=>by
  have h1:=pq (l:=l) fun d hd=>h d (List.mem_cons_of_mem _ hd);have h2:=h d (List.mem_cons_self ..)
  have h3:d.ref=0:=by cases d<;>first|rfl|(simp[cC] at h2)
  simp only[refs,h1,h3,Nat.max_self]
theorem sf {l:List bF} (h:∀n∈l,rP n):refs (l.map a_).flatten=0:=
 pq fun d hd=>by
  obtain⟨e,he,zz⟩:=List.mem_flatten.1 hd;exact ny h e he d zz
def dN (l:List bF):List D:=[ry l]
theorem vx {l:List (List bF)} {i:Nat} {q:List bF} (h:l[i]?=some q):(l.map dN)[i]?=some (dN q):=by rw[List.getElem?_map,h];rfl
def fh:List (List bF)→Nat
 |[]=>0
 |l::ls=>l.length+fh ls
theorem dA:∀a b:List (List bF),fh (a++b)=fh a+fh b
 |[],b=>by simp[fh]
 |l::a,b=>by rw[List.cons_append,fh,fh,dA a b];omega
end Go.Proofs.Ytnleclohocdkaaa
namespace Go.Proofs.Ytnleclohocdkaaa
open Go.V Go
theorem mW {N:Nat} {S st:St} {H:List cx} {a b c:cx} (h:Has N S st (a::b::c::H)):Has N S st (b::c::a::H):=by
 have h1:=h.front cp;have h2:=h1.front dx;exact h2.front cp
end Go.Proofs.Ytnleclohocdkaaa
namespace Go.Proofs.Ytnleclohocdkaaa
open Go.V Go
theorem oN {gs:List (Nat×Nat)} {s:dW} {r:Int} (h:ct gs s.i r=false):b9 gs s r=s:=by
 unfold b9;rw[if_neg (by rw[h];simp)]
theorem mc {gs:List (Nat×Nat)} {s:dW} {r:Int} (h:ct gs s.i r=true):(b9 gs s r).i=s.i+1:=by
 unfold b9;rw[if_pos h]
end Go.Proofs.Ytnleclohocdkaaa
namespace Go.Proofs.Ytnleclohocdkaaa
open Go.V Go
end Go.Proofs.Ytnleclohocdkaaa
namespace Go.Proofs.Ytnleclohocdkaaa
open Go.V Go
theorem rq:∀(n:Nat) (b:List UInt8),b.length≤n→(aV b).length≤b.length∧∀g∈aV b,g.2≤b.length:=by
 intro n
 induction n with
 |zero=>
  intro b hb;have:b=[]:=List.length_eq_zero_iff.1 (by omega);subst this;rw[rp];exact⟨Nat.le_refl _,fun g hg=>by cases hg⟩
 |succ n ih=>
  intro b hb
  by_cases h:b=[]
  ·subst h;rw[rp];exact⟨Nat.le_refl _,fun g hg=>by cases hg⟩
  ·have hp:=km b;have hl:=tA h;obtain⟨h1,h2⟩:=ih (b.drop (gQ b).2) (by rw[List.length_drop];omega);rw[List.length_drop] at h1 h2;rw[jC h];refine⟨by rw[List.length_cons];omega,fun g hg=>?_⟩
   rcases List.mem_cons.1 hg with rfl|hg
   ·exact hl
   ·have:=h2 g hg;omega
end Go.Proofs.Ytnleclohocdkaaa
namespace Go.Proofs.Ytnleclohocdkaaa
open Go.V Go
end Go.Proofs.Ytnleclohocdkaaa
namespace Go.Proofs.Ytnleclohocdkaaa
open Go.V Go
def iq (n:bF):Bool:=((n.op==2)||((n.rs.length:Nat):Int)==0) &&((n.op==5)||((n.mn==0) &&(n.mx==0) &&!n.lz)) &&((n.op==6)||(n.cap==0))
noncomputable def dp (n:bF) (g:Int):Int×Bool:=
 if iq n=false then(0,false)
 else if n.op=1∨n.op=7∨n.op=8 then(0,n.kids==0)
 else if n.op=2 then(0,(n.kids==0) &&eO n.rs)
 else if n.op=3∨n.op=4 then(n.kids,decide (n.kids≥2))
 else if n.op=5 then(1,(n.kids==1) &&decide (n.mn≥0) &&decide (n.mn≤30) &&((n.mx==-1)||(decide (n.mx≥n.mn) &&decide (n.mx≤30))))
 else if n.op=6 then(1,(n.kids==1) &&(n.cap==g+1) &&decide (n.cap≤4))
 else(0,false)
def gd (h:Nat→Nat→Option (Nat×Nat)):Nat→Nat→Nat→Option (Nat×Nat)
 |0,at_,g=>some (at_,g)
 |k+1,at_,g=>match h at_ g with
  |some r=>gd h k r.1 r.2
  |none=>none
noncomputable def fM (l:List bF):Nat→Nat→Nat→Option (Nat×Nat)
 |0,_,_=>none
 |f+1,at_,g=>match l[at_]? with
  |none=>none
  |some n=>if(dp n (g:Nat)).2=true then gd (fM l f) (dp n (g:Nat)).1.toNat (at_+1) (if n.op=6 then g+1 else g) else none
theorem uX {n:bF} {g:Nat} (h:(dp n (g:Nat)).2=true):vN n (dp n (g:Nat)).1.toNat∧0≤(dp n (g:Nat)).1∧(n.op=6→n.cap=g+1∧n.cap≤4):=by
 unfold dp at h⊢;unfold vN
 by_cases h0:iq n=false
 ·rw[if_pos h0] at h;cases h
 rw[if_neg h0] at h⊢
 by_cases h1:n.op=1∨n.op=7∨n.op=8
 ·rw[if_pos h1] at h⊢;simp only[beq_iff_eq] at h;exact⟨⟨h,.inl ⟨h1,rfl⟩⟩,Int.le_refl _,fun h6=>by omega⟩
 rw[if_neg h1] at h⊢
 by_cases h2:n.op=2
 ·rw[if_pos h2] at h⊢;simp only[Bool.and_eq_true,beq_iff_eq] at h;exact⟨⟨h.1,.inr (.inl ⟨h2,rfl⟩)⟩,Int.le_refl _,fun h6=>by omega⟩
 rw[if_neg h2] at h⊢
 by_cases h3:n.op=3∨n.op=4
 ·rw[if_pos h3] at h⊢;simp only[decide_eq_true_eq] at h;exact⟨⟨by simp only;omega,.inr (.inr (.inl ⟨h3,by simp only;omega⟩))⟩,by simp only;omega,fun h6=>by omega⟩
 rw[if_neg h3] at h⊢
 by_cases h5:n.op=5
 ·rw[if_pos h5] at h⊢;simp only[Bool.and_eq_true,Bool.or_eq_true,beq_iff_eq,decide_eq_true_eq] at h;exact⟨⟨by simp only;omega,.inr (.inr (.inr (.inl ⟨h5,by simp only;rfl,by omega,by omega,by omega⟩)))⟩,by simp only;omega,fun h6=>by omega⟩
 rw[if_neg h5] at h⊢
 by_cases h6:n.op=6
 ·rw[if_pos h6] at h⊢;simp only[Bool.and_eq_true,beq_iff_eq,decide_eq_true_eq] at h;exact⟨⟨by simp only;omega,.inr (.inr (.inr (.inr ⟨h6,by simp only;rfl,by omega,by omega⟩)))⟩,by simp only;omega,fun _=>⟨h.1.2,h.2⟩⟩
 rw[if_neg h6] at h;cases h
theorem fG.cons {α:Type} {L M:List α} {a:α} {at_:Nat} (h:L[at_]?=some a) (h2:fG L (at_+1) M):fG L at_ (a::M):=by
 obtain⟨post,h2⟩:=h2;refine⟨post,?_⟩;have h3:L[at_]'(bn h)=a:=Option.some.inj ((List.getElem?_eq_getElem _).symm.trans h);rw[List.drop_eq_getElem_cons (bn h),h2,h3];rfl
theorem fG.append {α:Type} {L M M':List α} {at_:Nat} (h:fG L at_ M) (h2:fG L (at_+M.length) M'):fG L at_ (M++M'):=by
 obtain⟨post,h⟩:=h;obtain⟨HI,h2⟩:=h2;refine⟨HI,?_⟩;rw[←List.drop_drop,h,List.drop_left] at h2;rw[h,h2,List.append_assoc]
theorem fG.none {α:Type} (L:List α) (at_:Nat):fG L at_ []:=⟨_,rfl⟩
theorem sF {l:List bF} {h:Nat→Nat→Option (Nat×Nat)} (ih:∀at_ g r,h at_ g=some r→∃t:Tr,t.ok∧fG l at_ t.flat∧r.1=at_+t.flat.length):∀k at_ g r,gd h k at_ g=some r→∃ts:bf,ts.len=k∧ts.ok∧fG l at_ ts.flat∧r.1=at_+ts.flat.length
 |0,at_,g,r,e=>by
  simp only[gd,Option.some.injEq] at e;subst e;exact⟨.nil,rfl,trivial,fG.none _ _,by simp[bf.flat]⟩
 |k+1,at_,g,r,e=>by
  unfold gd at e
  cases hq:h at_ g with
  |none=>rw[hq] at e;cases e
  |some q=>
   rw[hq] at e;obtain⟨t,t1,t2,t3⟩:=ih _ _ _ hq;obtain⟨ts,u1,u2,u3,u4⟩:=sF ih k _ _ _ e;rw[t3] at u3 u4;exact⟨.cons t ts,by simp[bf.len,u1],by simp only[bf.ok];exact⟨t1,u2⟩,by simp only[bf.flat];exact t2.append u3,by rw[u4];simp only[bf.flat,List.length_append];omega⟩
theorem vG {l:List bF}:∀f at_ g r,fM l f at_ g=some r→∃t:Tr,t.ok∧fG l at_ t.flat∧r.1=at_+t.flat.length
 |0,_,_,_,e=>by simp[fM] at e
 |f+1,at_,g,r,e=>by
  unfold fM at e
  cases hn:l[at_]? with
  |none=>rw[hn] at e;cases e
  |some n=>
   rw[hn] at e;simp only at e
   split at e
   ·rename_i hs;obtain⟨ts,u1,u2,u3,u4⟩:=sF (vG f) _ _ _ _ e;have:=(uX hs).1;rw[←u1] at this;exact⟨.mk n ts,by simp only[Tr.ok];exact⟨this,u2⟩,by simp only[Tr.flat];exact fG.cons hn u3,by rw[u4];simp only[Tr.flat,List.length_cons];omega⟩
   ·cases e
noncomputable def bN (l:List bF):Bool:=(decide (1≤l.length) &&decide (l.length≤480)) &&(match fM l 241 0 0 with|some r=>decide (r.1=l.length)|none=>false)
theorem pk {l:List bF} (h:bN l=true):∃t:Tr,t.ok∧t.flat=l:=by
 unfold bN at h;simp only[Bool.and_eq_true] at h;obtain⟨_,h⟩:=h
 split at h
 ·rename_i r hr;obtain⟨t,h1,⟨post,h2⟩,h3⟩:=vG _ _ _ _ hr;rw[decide_eq_true_eq] at h;refine⟨t,h1,?_⟩;rw[List.drop_zero] at h2;have h4:=congrArg List.length h2;rw[List.length_append] at h4;have h5:post=[]:=List.length_eq_zero_iff.1 (by omega);rw[h2,h5,List.append_nil]
 ·cases h
noncomputable def bV (l:List bF):Tr:=@dite _ (∃t:Tr,t.ok∧t.flat=l) (Classical.propDecidable _) (fun h=>Classical.choose h) (fun _=>.mk ⟨0,.nul,[],0,0,false,0,0⟩ .nil)
theorem l_ {l:List bF} (h:bN l=true):(bV l).ok∧(bV l).flat=l:=by
 unfold bV;rw[dif_pos (pk h)];exact Classical.choose_spec (pk h)
end Go.Proofs.Ytnleclohocdkaaa
namespace Go.Proofs.Ytnleclohocdkaaa
open Go.V Go
theorem EU {n:bF} {k s:Nat}:min (bD n (min s 401) k) 401=min (bD n s k) 401:=by
 by_cases hs:s≤401
 ·rw[Nat.min_eq_left hs]
 ·have hx:min s 401=401:=by omega
  rw[hx];unfold bD
  split
  ·rfl
  ·split
   ·omega
   ·split
    ·omega
    ·split
     ·split
      ·omega
      ·by_cases h0:n.mn.toNat=0
       ·rw[h0]
        by_cases hd:n.mx.toNat-0=0
        ·rw[hd];simp
        ·have h1:=Nat.le_mul_of_pos_left (401+1) (show 0<n.mx.toNat-0 by omega);have h2:=Nat.le_mul_of_pos_left (s+1) (show 0<n.mx.toNat-0 by omega);omega
       ·have h1:=Nat.le_mul_of_pos_left 401 (show 0<n.mn.toNat by omega);have h2:=Nat.le_mul_of_pos_left s (show 0<n.mn.toNat by omega);omega
     ·omega
def cB (t:Tr) (b r:Nat):List aN:=cq 4 0 0 []::(aD t (b+1)++[cq 4 1 0 [],cq 7 (r:Nat) 0 []])
theorem kW {t:Tr} {b r:Nat} (h:t.ok):(cB t b r).length=t.sz+3:=by
 unfold cB;rw[List.length_cons,List.length_append,bH t _ h];rfl
structure te where
 code:List aN
 aK:List Int
 e:Int
 w:Int
noncomputable def eF:List (List bF)→Nat→List aN→List Int→te
 |[],_,c,s=>⟨c,s,0,0⟩
 |l::ls,r,c,s=>if bN l=false then⟨[],[],1,(r:Nat)⟩ else if 400<c.length+min (bV l).sz 401+3 then⟨[],[],12,(r:Nat)⟩ else eF ls (r+1) (c++cB (bV l) c.length r) (s++[((c.length:Nat):Int)])
noncomputable def aH (rules:List (List bF)):te:=if 8<rules.length then⟨[],[],13,8⟩ else eF rules 0 [] []
def ly (code:List aN) (aK:List Int):Pg:=⟨.sl ((code.map aX).map (lL 4)),code,Fa aK,aK⟩
def jD (i:aN):Prop:=i.rd=.sl ((i.rs.map aw).map (lL 2))∧i.rs.length≤1048576
theorem mj (op x y:Int):jD (cq op x y []):=⟨rfl,by simp[cq]⟩
theorem HN (op x y:Int) {rs:List Rg} (h:rs.length≤1048576):jD (cq op x y rs):=⟨rfl,h⟩
theorem BM (s o:Nat) (lz:Bool):jD (kT s o lz):=by unfold kT;split<;>exact mj _ _ _
theorem E_ (e:Nat):jD (jv e):=mj _ _ _
theorem xY {code:List aN} (h:∀i∈code,jD i):∀e∈code.map aX,∀d∈e,cC d=true:=by
 intro e he d hd;obtain⟨q,hq,rfl⟩:=List.mem_map.1 he;have hr:=(h q hq).1;simp only[aX,hr,List.mem_cons,List.not_mem_nil,or_false] at hd
 rcases hd with rfl|rfl|rfl|rfl<;>rfl
theorem Ej (code:List aN):∀e∈code.map aX,e.length=4:=by
 intro e he;obtain⟨q,_,rfl⟩:=List.mem_map.1 he;rfl
theorem xE {code:List aN} {aK:List Int} (h:∀i∈code,jD i) (h1:code.length≤1048576) (h2:aK.length≤1048576):(ly code aK).ok:=by
 refine⟨iK.frozen (Ej code) (xY h),Cw _,fun i hi=>?_,h1,h2⟩;obtain⟨h3,h4⟩:=h i hi;refine⟨?_,h4⟩;rw[h3];exact iK.frozen (np _) (gF _)
theorem xv {c:Nat→List aN} {z:Nat} (hc:∀b,∀i∈c b,jD i):∀k b,∀i∈eo c z k b,jD i
 |0,b,i,hi=>by cases hi
 |k+1,b,i,hi=>by
  simp only[eo] at hi
  rcases List.mem_append.1 hi with hi|hi
  ·exact hc b i hi
  ·exact xv hc k _ i hi
theorem B8 {sp:Nat→aN} {c:Nat→List aN} {z:Nat} (hs:∀s,jD (sp s)) (hc:∀b,∀i∈c b,jD i):∀k b,∀i∈eu sp c z k b,jD i
 |0,b,i,hi=>by cases hi
 |k+1,b,i,hi=>by
  simp only[eu] at hi
  rcases List.mem_cons.1 hi with rfl|hi
  ·exact hs _
  ·rcases List.mem_append.1 hi with hi|hi
   ·exact hc _ i hi
   ·exact B8 hs hc k _ i hi
mutual
theorem oU:∀(t:Tr) (b:Nat),(∀n∈t.flat,n.rs.length≤1048576)→∀i∈aD t b,jD i
 | .mk n ks,b,h,i,hi=>by
  simp only[Tr.flat] at h;have hn:=h n (List.mem_cons_self ..);have hk:∀n∈ks.flat,n.rs.length≤1048576:=fun m hm=>h m (List.mem_cons_of_mem _ hm);have hc:=fun b=>Di ks b hk;have ha:=fun jp (hj:jD jp) b=>Dr jp hj ks b hk;simp only[aD] at hi
  split at hi
  ·simp only[List.mem_cons,List.not_mem_nil,or_false] at hi;subst hi;exact HN _ _ _ hn
  split at hi
  ·simp only[List.mem_cons,List.not_mem_nil,or_false] at hi;subst hi;exact mj _ _ _
  split at hi
  ·simp only[List.mem_cons,List.not_mem_nil,or_false] at hi;subst hi;exact mj _ _ _
  split at hi
  ·exact hc b i hi
  split at hi
  ·exact ha _ (E_ _) b i hi
  split at hi
  ·unfold ke at hi
   split at hi
   ·rcases List.mem_append.1 hi with hi|hi
    ·exact xv hc _ _ i hi
    ·rcases List.mem_cons.1 hi with rfl|hi
     ·exact BM _ _ _
     ·rcases List.mem_append.1 hi with hi|hi
      ·exact hc _ i hi
      ·simp only[List.mem_cons,List.not_mem_nil,or_false] at hi;subst hi;exact E_ _
   ·rcases List.mem_append.1 hi with hi|hi
    ·exact xv hc _ _ i hi
    ·exact B8 (fun s=>BM _ _ _) hc _ _ i hi
  split at hi
  ·rcases List.mem_cons.1 hi with rfl|hi
   ·exact mj _ _ _
   ·rcases List.mem_append.1 hi with hi|hi
    ·exact hc _ i hi
    ·simp only[List.mem_cons,List.not_mem_nil,or_false] at hi;subst hi;exact mj _ _ _
  ·cases hi
theorem Di:∀(ts:bf) (b:Nat),(∀n∈ts.flat,n.rs.length≤1048576)→∀i∈d_ ts b,jD i
 | .nil,b,_,i,hi=>by simp[d_] at hi
 | .cons t ts,b,h,i,hi=>by
  simp only[bf.flat] at h;simp only[d_] at hi
  rcases List.mem_append.1 hi with hi|hi
  ·exact oU t b (fun n hn=>h n (List.mem_append_left _ hn)) i hi
  ·exact Di ts _ (fun n hn=>h n (List.mem_append_right _ hn)) i hi
theorem Dr (jp:aN) (hj:jD jp):∀(ts:bf) (b:Nat),(∀n∈ts.flat,n.rs.length≤1048576)→∀i∈dz jp ts b,jD i
 | .nil,b,_,i,hi=>by simp[dz] at hi
 | .cons t ts,b,h,i,hi=>by
  simp only[bf.flat] at h;have h1:∀n∈t.flat,n.rs.length≤1048576:=fun n hn=>h n (List.mem_append_left _ hn);have h2:∀n∈ts.flat,n.rs.length≤1048576:=fun n hn=>h n (List.mem_append_right _ hn);simp only[dz] at hi
  split at hi
  ·exact oU t b h1 i hi
  ·rcases List.mem_cons.1 hi with rfl|hi
   ·exact BM _ _ _
   ·rcases List.mem_append.1 hi with hi|hi
    ·exact oU t _ h1 i hi
    ·rcases List.mem_cons.1 hi with rfl|hi
     ·exact hj
     ·exact Dr jp hj ts _ h2 i hi
end
theorem DW {t:Tr} {b r:Nat} (h:∀n∈t.flat,n.rs.length≤1048576):∀i∈cB t b r,jD i:=by
 intro i hi;unfold cB at hi
 rcases List.mem_cons.1 hi with rfl|hi
 ·exact mj _ _ _
 ·rcases List.mem_append.1 hi with hi|hi
  ·exact oU t _ h i hi
  ·simp only[List.mem_cons,List.not_mem_nil,or_false] at hi
   rcases hi with rfl|rfl
   ·exact mj _ _ _
   ·exact mj _ _ _
end Go.Proofs.Ytnleclohocdkaaa
namespace Go.Proofs.Ytnleclohocdkaaa
open Go.V Go
def nD (fr:Go.V.Fr) (k:Nat):Go.V.D:=Go.V.nth .bG fr.loc k
theorem B5 {s0:St} {n:bF} (hn:n.ok):Ev pv 113 [.agg (a_ n)] s0 (.bool (iq n)) s0:=by
 refine Ev.pJ rfl Ji rfl rfl rfl ?_;dsimp only[u3,u4,List.length,Nat.reduceSub,Nat.reduceAdd,w1,w2];obtain⟨cE,hF,hH⟩:=ri s0;generalize aj .ro s0=S at*;have CB:=hn.1.arg s0.bs.length S;have zq:=hn.2.1;refine qq<|qj fun K hK=>qb hH fun k1 st sK hH=>?_;dsimp only[u2,u1,u3,u4,setMany,u5,u6,D.cells,Nat.reduceAdd,a_] at hH;refine qm ?_;refine qe hK<|qq<|qj fun K hK=>qp (o:=0) ?_;refine ql hH aC ?_;refine qg ?_;refine qm ?_;refine qe hK<|qq<|af.lE 2 (.bool (((n.op==2)||((n.rs.length:Nat):Int)==0) &&((n.op==5)||((n.mn==0) &&(n.mx==0) &&!n.lz)) &&((n.op==6)||(n.cap==0)))) [] ?_ (fun ff tmp=>?_)
 ·refine qp (o:=0) ?_;refine ql hH aC ?_;refine qg ?_;refine qm ?_;refine ab.two 10 rfl (fun cm=>?_) (fun cm=>?_)
  ·refine qs ?_ (hg:=wn cm);refine qs ?_ (hg:=wn cm);refine qs ?_ (hg:=wn cm);refine qs ?_ (hg:=wn cm);refine qt cm ?_;refine qm ?_;refine qm ?_;refine qm ?_;refine ab.two 18 rfl (fun bU=>?_) (fun bU=>?_)
   ·refine qs ?_ (hg:=wn bU);refine qs ?_ (hg:=wn bU);refine qs ?_ (hg:=wn bU);refine qs ?_ (hg:=wn bU);refine qs ?_;refine qs ?_;refine qs ?_;refine qs ?_ (hg:=wn bU);refine qs ?_ (hg:=wn bU);refine qs ?_;refine qs ?_;refine qs ?_;refine qs ?_ (hg:=wn bU);refine qt bU ?_;refine qg ?_;refine qm ?_;refine qp (o:=0) ?_;refine ql hH aC ?_;refine qg ?_;refine qm ?_;refine ab.two 38 rfl (fun cZ=>?_) (fun cZ=>?_)
    ·refine qs ?_ (hg:=wn cZ);refine qs ?_ (hg:=wn cZ);refine qs ?_ (hg:=wn cZ);refine qt cZ ?_;refine qg ?_;refine qm ?_;refine ab.nil (aQ ?_);dsimp only[aI,List.foldl,nth,u2,u1];dsimp only[Fr.az,Fr.put,Fr.clean,Fr.ev,Fr.get,nth,V.look,u1,u2,v1,v2,v3,v4,v5,v6,v7,List.length,u3,u4,Nat.reduceSub,Nat.reduceAdd,List.map]
     all_goals(simp[cm,bU,cZ];done)
    ·refine qp (o:=5) ?_ (hg:=wi cZ);refine ql hH aC ?_ (hg:=wi cZ);refine qg ?_ (hg:=wi cZ);refine qu cZ ?_;refine qg ?_;refine qm ?_;refine ab.nil (aQ ?_);dsimp only[aI,List.foldl,nth,u2,u1];dsimp only[Fr.az,Fr.put,Fr.clean,Fr.ev,Fr.get,nth,V.look,u1,u2,v1,v2,v3,v4,v5,v6,v7,List.length,u3,u4,Nat.reduceSub,Nat.reduceAdd,List.map]
     all_goals(simp[cm,bU,cZ];done)
   ·refine qp (o:=2) ?_ (hg:=wi bU);refine ql hH aC ?_ (hg:=wi bU);refine qg ?_ (hg:=wi bU);refine qm ?_ (hg:=wi bU);refine ab.two 22 rfl (fun fT=>?_) (fun fT=>?_)
    ·refine qp (o:=3) ?_ (hg:=wi fT);refine ql hH aC ?_ (hg:=wi fT);refine qg ?_ (hg:=wi fT);refine ab.b_ (ah rfl rfl rfl bU) rfl fT (aa rfl _) ?_;refine qm ?_ (hg:=wi bU);refine ab.two 27 rfl (fun gx=>?_) (fun gx=>?_)
     ·refine qp (o:=4) ?_ (hg:=wi gx);refine ql hH aC ?_ (hg:=wi gx);refine qg ?_ (hg:=wi gx);refine ab.b_ (ah rfl rfl rfl bU) rfl gx (aa rfl _) ?_;refine qu bU ?_;refine qg ?_;refine qm ?_;refine ab.two 34 rfl (fun bo=>?_) (fun bo=>?_)
      ·refine qp (o:=0) ?_ (hg:=wi bo);refine ql hH aC ?_ (hg:=wi bo);refine qg ?_ (hg:=wi bo);refine qm ?_ (hg:=wi bo);refine ab.two 38 rfl (fun cZ=>?_) (fun cZ=>?_)
       ·refine qs ?_ (hg:=wn cZ);refine qs ?_ (hg:=wn cZ);refine qs ?_ (hg:=wn cZ);refine ab.b_ (ah rfl rfl rfl bo) rfl cZ (aa rfl _) ?_;refine qt bo ?_;refine qm ?_;refine ab.nil (aQ ?_);dsimp only[aI,List.foldl,nth,u2,u1];dsimp only[Fr.az,Fr.put,Fr.clean,Fr.ev,Fr.get,nth,V.look,u1,u2,v1,v2,v3,v4,v5,v6,v7,List.length,u3,u4,Nat.reduceSub,Nat.reduceAdd,List.map]
        all_goals(simp[cm,bU,fT,gx,bo,cZ];done)
       ·refine qp (o:=5) ?_ (hg:=wi cZ);refine ql hH aC ?_ (hg:=wi cZ);refine qg ?_ (hg:=wi cZ);refine ab.bM (ah rfl rfl rfl bo) rfl cZ (aa rfl _) ?_;refine qt bo ?_;refine qm ?_;refine ab.nil (aQ ?_);dsimp only[aI,List.foldl,nth,u2,u1];dsimp only[Fr.az,Fr.put,Fr.clean,Fr.ev,Fr.get,nth,V.look,u1,u2,v1,v2,v3,v4,v5,v6,v7,List.length,u3,u4,Nat.reduceSub,Nat.reduceAdd,List.map]
        all_goals(simp[cm,bU,fT,gx,bo,cZ];done)
      ·refine qs ?_ (hg:=wn bo);refine qs ?_ (hg:=wn bo);refine qs ?_ (hg:=wn bo);refine qs ?_ (hg:=wn bo);refine qs ?_;refine qs ?_;refine qs ?_;refine qs ?_ (hg:=wn bo);refine qu bo ?_;refine qm ?_;refine ab.nil (aQ ?_);dsimp only[aI,List.foldl,nth,u2,u1];dsimp only[Fr.az,Fr.put,Fr.clean,Fr.ev,Fr.get,nth,V.look,u1,u2,v1,v2,v3,v4,v5,v6,v7,List.length,u3,u4,Nat.reduceSub,Nat.reduceAdd,List.map]
       all_goals(simp[cm,bU,fT,gx,bo];done)
     ·refine qs ?_ (hg:=wn gx);refine qs ?_ (hg:=wn gx);refine qs ?_ (hg:=wn gx);refine ab.bM (ah rfl rfl rfl bU) rfl gx (aa rfl _) ?_;refine qu bU ?_;refine qg ?_;refine qm ?_;refine qs ?_;refine qs ?_;refine qs ?_;refine qs ?_;refine qs ?_;refine qs ?_;refine qs ?_;refine qs ?_;refine qg ?_;refine qm ?_;refine ab.nil (aQ ?_);dsimp only[aI,List.foldl,nth,u2,u1];dsimp only[Fr.az,Fr.put,Fr.clean,Fr.ev,Fr.get,nth,V.look,u1,u2,v1,v2,v3,v4,v5,v6,v7,List.length,u3,u4,Nat.reduceSub,Nat.reduceAdd,List.map]
      all_goals(simp[cm,bU,fT,gx];done)
    ·refine qs ?_ (hg:=wn fT);refine qs ?_ (hg:=wn fT);refine qs ?_ (hg:=wn fT);refine ab.bM (ah rfl rfl rfl bU) rfl fT (aa rfl _) ?_;refine qm ?_ (hg:=wi bU);refine qs ?_;refine qs ?_;refine qs ?_;refine qg ?_ (hg:=wi bU);refine qu bU ?_;refine qg ?_;refine qm ?_;refine qs ?_;refine qs ?_;refine qs ?_;refine qs ?_;refine qs ?_;refine qs ?_;refine qs ?_;refine qs ?_;refine qg ?_;refine qm ?_;refine ab.nil (aQ ?_);dsimp only[aI,List.foldl,nth,u2,u1];dsimp only[Fr.az,Fr.put,Fr.clean,Fr.ev,Fr.get,nth,V.look,u1,u2,v1,v2,v3,v4,v5,v6,v7,List.length,u3,u4,Nat.reduceSub,Nat.reduceAdd,List.map]
     all_goals(simp[cm,bU,fT];done)
  ·refine qp (o:=1) ?_ (hg:=wi cm);refine ql hH aC ?_ (hg:=wi cm);refine qn ?_ (hg:=wi cm);simp only[List.length_map];refine qg ?_ (hg:=wi cm);refine qu cm ?_;refine qm ?_;refine ab.two 16 rfl (fun cN=>?_) (fun cN=>?_)
   ·refine qm ?_ (hg:=wi cN);refine qm ?_ (hg:=wi cN);refine ab.two 18 rfl (fun bU=>?_) (fun bU=>?_)
    ·refine qs ?_ (hg:=wn bU);refine qs ?_ (hg:=wn bU);refine qs ?_ (hg:=wn bU);refine qs ?_ (hg:=wn bU);refine qs ?_;refine qs ?_;refine qs ?_;refine qs ?_ (hg:=wn bU);refine qs ?_ (hg:=wn bU);refine qs ?_;refine qs ?_;refine qs ?_;refine qs ?_ (hg:=wn bU);refine ab.b_ (ah rfl rfl rfl cN) rfl bU (aa rfl _) ?_;refine qt cN ?_;refine qm ?_;refine qp (o:=0) ?_;refine ql hH aC ?_;refine qg ?_;refine qm ?_;refine ab.two 38 rfl (fun cZ=>?_) (fun cZ=>?_)
     ·refine qs ?_ (hg:=wn cZ);refine qs ?_ (hg:=wn cZ);refine qs ?_ (hg:=wn cZ);refine qt cZ ?_;refine qg ?_;refine qm ?_;refine ab.nil (aQ ?_);dsimp only[aI,List.foldl,nth,u2,u1];dsimp only[Fr.az,Fr.put,Fr.clean,Fr.ev,Fr.get,nth,V.look,u1,u2,v1,v2,v3,v4,v5,v6,v7,List.length,u3,u4,Nat.reduceSub,Nat.reduceAdd,List.map]
      all_goals(simp[cm,cN,bU,cZ];done)
     ·refine qp (o:=5) ?_ (hg:=wi cZ);refine ql hH aC ?_ (hg:=wi cZ);refine qg ?_ (hg:=wi cZ);refine qu cZ ?_;refine qg ?_;refine qm ?_;refine ab.nil (aQ ?_);dsimp only[aI,List.foldl,nth,u2,u1];dsimp only[Fr.az,Fr.put,Fr.clean,Fr.ev,Fr.get,nth,V.look,u1,u2,v1,v2,v3,v4,v5,v6,v7,List.length,u3,u4,Nat.reduceSub,Nat.reduceAdd,List.map]
      all_goals(simp[cm,cN,bU,cZ];done)
    ·refine qp (o:=2) ?_ (hg:=wi bU);refine ql hH aC ?_ (hg:=wi bU);refine qg ?_ (hg:=wi bU);refine qm ?_ (hg:=wi bU);refine ab.two 22 rfl (fun fT=>?_) (fun fT=>?_)
     ·refine qp (o:=3) ?_ (hg:=wi fT);refine ql hH aC ?_ (hg:=wi fT);refine qg ?_ (hg:=wi fT);refine ab.b_ (ah rfl rfl rfl bU) rfl fT (aa rfl _) ?_;refine qm ?_ (hg:=wi bU);refine ab.two 27 rfl (fun gx=>?_) (fun gx=>?_)
      ·refine qp (o:=4) ?_ (hg:=wi gx);refine ql hH aC ?_ (hg:=wi gx);refine qg ?_ (hg:=wi gx);refine ab.b_ (ah rfl rfl rfl bU) rfl gx (aa rfl _) ?_;refine ab.bM (ah rfl rfl rfl cN) rfl bU (aa rfl _) ?_;refine qt cN ?_;refine qm ?_;refine ab.two 34 rfl (fun bo=>?_) (fun bo=>?_)
       ·refine qp (o:=0) ?_ (hg:=wi bo);refine ql hH aC ?_ (hg:=wi bo);refine qg ?_ (hg:=wi bo);refine qm ?_ (hg:=wi bo);refine ab.two 38 rfl (fun cZ=>?_) (fun cZ=>?_)
        ·refine qs ?_ (hg:=wn cZ);refine qs ?_ (hg:=wn cZ);refine qs ?_ (hg:=wn cZ);refine ab.b_ (ah rfl rfl rfl bo) rfl cZ (aa rfl _) ?_;refine qt bo ?_;refine qm ?_;refine ab.nil (aQ ?_);dsimp only[aI,List.foldl,nth,u2,u1];dsimp only[Fr.az,Fr.put,Fr.clean,Fr.ev,Fr.get,nth,V.look,u1,u2,v1,v2,v3,v4,v5,v6,v7,List.length,u3,u4,Nat.reduceSub,Nat.reduceAdd,List.map]
         all_goals(simp[cm,cN,bU,fT,gx,bo,cZ];done)
        ·refine qp (o:=5) ?_ (hg:=wi cZ);refine ql hH aC ?_ (hg:=wi cZ);refine qg ?_ (hg:=wi cZ);refine ab.bM (ah rfl rfl rfl bo) rfl cZ (aa rfl _) ?_;refine qt bo ?_;refine qm ?_;refine ab.nil (aQ ?_);dsimp only[aI,List.foldl,nth,u2,u1];dsimp only[Fr.az,Fr.put,Fr.clean,Fr.ev,Fr.get,nth,V.look,u1,u2,v1,v2,v3,v4,v5,v6,v7,List.length,u3,u4,Nat.reduceSub,Nat.reduceAdd,List.map]
         all_goals(simp[cm,cN,bU,fT,gx,bo,cZ];done)
       ·refine qs ?_ (hg:=wn bo);refine qs ?_ (hg:=wn bo);refine qs ?_ (hg:=wn bo);refine qs ?_ (hg:=wn bo);refine qs ?_;refine qs ?_;refine qs ?_;refine qs ?_ (hg:=wn bo);refine qu bo ?_;refine qm ?_;refine ab.nil (aQ ?_);dsimp only[aI,List.foldl,nth,u2,u1];dsimp only[Fr.az,Fr.put,Fr.clean,Fr.ev,Fr.get,nth,V.look,u1,u2,v1,v2,v3,v4,v5,v6,v7,List.length,u3,u4,Nat.reduceSub,Nat.reduceAdd,List.map]
        all_goals(simp[cm,cN,bU,fT,gx,bo];done)
      ·refine qs ?_ (hg:=wn gx);refine qs ?_ (hg:=wn gx);refine qs ?_ (hg:=wn gx);refine ab.bM (ah rfl rfl rfl bU) rfl gx (aa rfl _) ?_;refine ab.bM (ah rfl rfl rfl cN) rfl bU (aa rfl _) ?_;refine qt cN ?_;refine qm ?_;refine qs ?_;refine qs ?_;refine qs ?_;refine qs ?_;refine qs ?_;refine qs ?_;refine qs ?_;refine qs ?_;refine qg ?_;refine qm ?_;refine ab.nil (aQ ?_);dsimp only[aI,List.foldl,nth,u2,u1];dsimp only[Fr.az,Fr.put,Fr.clean,Fr.ev,Fr.get,nth,V.look,u1,u2,v1,v2,v3,v4,v5,v6,v7,List.length,u3,u4,Nat.reduceSub,Nat.reduceAdd,List.map]
       all_goals(simp[cm,cN,bU,fT,gx];done)
     ·refine qs ?_ (hg:=wn fT);refine qs ?_ (hg:=wn fT);refine qs ?_ (hg:=wn fT);refine ab.bM (ah rfl rfl rfl bU) rfl fT (aa rfl _) ?_;refine qm ?_ (hg:=wi bU);refine qs ?_;refine qs ?_;refine qs ?_;refine qg ?_ (hg:=wi bU);refine ab.bM (ah rfl rfl rfl cN) rfl bU (aa rfl _) ?_;refine qt cN ?_;refine qm ?_;refine qs ?_;refine qs ?_;refine qs ?_;refine qs ?_;refine qs ?_;refine qs ?_;refine qs ?_;refine qs ?_;refine qg ?_;refine qm ?_;refine ab.nil (aQ ?_);dsimp only[aI,List.foldl,nth,u2,u1];dsimp only[Fr.az,Fr.put,Fr.clean,Fr.ev,Fr.get,nth,V.look,u1,u2,v1,v2,v3,v4,v5,v6,v7,List.length,u3,u4,Nat.reduceSub,Nat.reduceAdd,List.map]
      all_goals(simp[cm,cN,bU,fT];done)
   ·refine qs ?_ (hg:=wn cN);refine qs ?_ (hg:=wn cN);refine qs ?_;refine qs ?_;refine qs ?_;refine qs ?_;refine qs ?_;refine qs ?_;refine qs ?_;refine qs ?_;refine qs ?_;refine qs ?_;refine qs ?_;refine qs ?_;refine qs ?_;refine qs ?_ (hg:=wn cN);refine qu cN ?_;refine qm ?_;refine qs ?_;refine qs ?_;refine qs ?_;refine qs ?_;refine qs ?_;refine qs ?_;refine qs ?_;refine qs ?_;refine qg ?_;refine qm ?_;refine ab.nil (aQ ?_);dsimp only[aI,List.foldl,nth,u2,u1];dsimp only[Fr.az,Fr.put,Fr.clean,Fr.ev,Fr.get,nth,V.look,u1,u2,v1,v2,v3,v4,v5,v6,v7,List.length,u3,u4,Nat.reduceSub,Nat.reduceAdd,List.map]
    all_goals(simp[cm,cN];done)
 dsimp only[aI,List.foldl,nth,u2,u1];refine af.ret ⟨rx,_,rfl,rl cE hH (rfl)⟩
theorem xj {s0:St} {n:bF} (hn:n.ok) {g:Nat} (hg:g≤1048576):Ev pv 100 [.agg (a_ n),.int .i64 (g:Nat)] s0 (.tup [.int .i64 (dp n (g:Nat)).1,.bool (dp n (g:Nat)).2]) s0:=by
 refine Ev.pJ rfl Jo rfl rfl rfl ?_;dsimp only[u3,u4,List.length,Nat.reduceSub,Nat.reduceAdd,w1,w2];obtain⟨cE,hF,hH⟩:=ri s0;generalize aj .ro s0=S at*;have CB:=hn.1.arg s0.bs.length S;have zq:=hn.2.1;refine qq<|qj fun K hK=>qb hH fun k2 st hk2 hH=>?_;dsimp only[u2,u1,u3,u4,setMany,u5,u6,D.cells,Nat.reduceAdd,a_] at hH;refine qm ?_;refine qm ?_;refine qe hK<|qq<|qq<|qj fun K hK=>?_;refine ab.cI (m:=7) hH rfl (ev rfl) (by exact aC) (by dsimp only[List.drop_succ_cons,List.drop_zero,List.take_succ_cons,List.take_zero,a_]<;>rfl) rfl rfl (by dsimp only[Fr.put,u1,u2]<;>rfl) ?_;refine qv (B5 hn) ?_;refine qg ?_;refine qe hK ?_;unfold dp
 cases hp:iq n with
 |false=>
  rw[if_pos rfl];refine qB ?_;refine qq<|qj fun K hK=>qm ?_;refine qm ?_;refine qe hK<|af.ret ⟨rx,_,rfl,rl cE hH (rfl)⟩
 |true=>
  rw[if_neg (by simp)];refine qC ?_;refine af.skip<|qq<|qq<|qj fun K hK=>qp (o:=0) ?_;refine ql hH aC ?_;refine qe hK<|af.block<|qq<|qq<|qj fun K hK=>qg ?_;refine qm ?_;refine qe hK ?_
  by_cases q1:n.op=1
  ·rw[if_pos (.inl q1)];refine qD rfl (by simp[q1]) ?_;refine af.skip<|qD rfl (by simp[q1]) ?_;refine qq<|qj fun K hK=>qp (o:=6) ?_;refine ql hH aC ?_;refine qg ?_;refine qm ?_;refine qm ?_;refine qe hK<|af.ret ⟨rx,_,rfl,rl cE hH (rfl)⟩
  refine qE rfl (by simp[q1]) ?_;refine qq<|qj fun K hK=>qg ?_;refine qm ?_;refine qe hK ?_
  by_cases q7:n.op=7
  ·rw[if_pos (.inr (.inl q7))];refine qD rfl (by simp[q7]) ?_;refine af.skip<|qD rfl (by simp[q7]) ?_;refine qq<|qj fun K hK=>qp (o:=6) ?_;refine ql hH aC ?_;refine qg ?_;refine qm ?_;refine qm ?_;refine qe hK<|af.ret ⟨rx,_,rfl,rl cE hH (rfl)⟩
  refine qE rfl (by simp[q7]) ?_;refine qj fun K hK=>qg ?_;refine qm ?_;refine qe hK ?_
  by_cases q8:n.op=8
  ·rw[if_pos (.inr (.inr q8))];refine qD rfl (by simp[q8]) ?_;refine qq<|qj fun K hK=>qp (o:=6) ?_;refine ql hH aC ?_;refine qg ?_;refine qm ?_;refine qm ?_;refine qe hK<|af.ret ⟨rx,_,rfl,rl cE hH (rfl)⟩
  refine qE rfl (by simp[q8]) ?_;rw[if_neg (by omega)];refine qq<|qj fun K hK=>qg ?_;refine qm ?_;refine qe hK ?_;refine af.cond (by rfl) (fun q2=>?_) (fun q2=>?_)<;>try simp only[beq_iff_eq,beq_eq_false_iff_ne,ne_eq] at q2
  ·rw[if_pos q2];refine qq<|af.GU [4,5] (fun ff=>ff 4=.int .i64 0∧ff 5=.bool ((n.kids==0) &&eO n.rs)) ?_ (fun ff tmp ud=>?_)
   ·refine qp (o:=6) ?_;refine ql hH aC ?_;refine qg ?_;refine qm ?_;refine ab.two 23 rfl (fun cm=>?_) (fun cm=>?_)
    ·refine qp (o:=1) ?_ (hg:=wi cm);refine ql hH aC ?_ (hg:=wi cm);refine qv (ve (CB.rows hH) zq) ?_ (hg:=wi cm);refine qt cm ?_;refine qm ?_;refine qm ?_;refine ab.nil (kz ?_ ?_)
     ·dsimp only[aI,List.foldl,nth,u2,u1]
     ·dsimp only[nth];dsimp only[Fr.az,Fr.put,Fr.clean,Fr.ev,Fr.get,nth,V.look,u1,u2,v1,v2,v3,v4,v5,v6,v7,List.length,u3,u4,Nat.reduceSub,Nat.reduceAdd,List.map];refine⟨?_,?_⟩<;>(first|rfl|(simp[cm];done)|(simp_all;done)|(simp[cm];omega)|(simp_all;omega))
    ·refine qs ?_ (hg:=wn cm);refine qs ?_ (hg:=wn cm);refine qs ?_ (hg:=wn cm);refine qu cm ?_;refine qm ?_;refine qm ?_;refine ab.nil (kz ?_ ?_)
     ·dsimp only[aI,List.foldl,nth,u2,u1]
     ·dsimp only[nth];dsimp only[Fr.az,Fr.put,Fr.clean,Fr.ev,Fr.get,nth,V.look,u1,u2,v1,v2,v3,v4,v5,v6,v7,List.length,u3,u4,Nat.reduceSub,Nat.reduceAdd,List.map];refine⟨?_,?_⟩<;>(first|rfl|(simp[cm];done)|(simp_all;done)|(simp[cm];omega)|(simp_all;omega))
   dsimp only[aI,List.foldl,nth,u2,u1];obtain⟨CL,CK⟩:=ud;rw[CL,CK];refine af.ret ⟨rx,_,rfl,rl cE hH (rfl)⟩
  rw[if_neg q2];refine qq<|qq<|qj fun K hK=>qg ?_;refine qm ?_;refine qe hK ?_
  by_cases q3:n.op=3
  ·rw[if_pos (.inl q3)];refine qD rfl (by simp[q3]) ?_;refine af.skip<|qD rfl (by simp[q3]) ?_;refine qq<|qj fun K hK=>qp (o:=6) ?_;refine ql hH aC ?_;refine qp (o:=6) ?_;refine ql hH aC ?_;refine qg ?_;refine qm ?_;refine qm ?_;refine qe hK<|af.ret ⟨rx,_,rfl,rl cE hH (rfl)⟩
  refine qE rfl (by simp[q3]) ?_;refine qj fun K hK=>qg ?_;refine qm ?_;refine qe hK ?_
  by_cases q4:n.op=4
  ·rw[if_pos (.inr q4)];refine qD rfl (by simp[q4]) ?_;refine qq<|qj fun K hK=>qp (o:=6) ?_;refine ql hH aC ?_;refine qp (o:=6) ?_;refine ql hH aC ?_;refine qg ?_;refine qm ?_;refine qm ?_;refine qe hK<|af.ret ⟨rx,_,rfl,rl cE hH (rfl)⟩
  rw[if_neg (by omega)];refine qE rfl (by simp[q4]) ?_;refine qq<|qj fun K hK=>qg ?_;refine qm ?_;refine qe hK ?_;refine af.cond (by rfl) (fun q5=>?_) (fun q5=>?_)<;>try simp only[beq_iff_eq,beq_eq_false_iff_ne,ne_eq] at q5
  ·rw[if_pos q5];refine qq<|af.GU [4,5] (fun ff=>ff 4=.int .i64 1∧ff 5=.bool ((n.kids==1) &&decide (n.mn≥0) &&decide (n.mn≤30) &&((n.mx==-1)||(decide (n.mx≥n.mn) &&decide (n.mx≤30))))) ?_ (fun ff tmp ud=>?_)
   ·refine qp (o:=6) ?_;refine ql hH aC ?_;refine qg ?_;refine qm ?_;refine ab.two 41 rfl (fun cm=>?_) (fun cm=>?_)
    ·refine qp (o:=2) ?_ (hg:=wi cm);refine ql hH aC ?_ (hg:=wi cm);refine qg ?_ (hg:=wi cm);refine qt cm ?_;refine qm ?_;refine ab.two 46 rfl (fun fe=>?_) (fun fe=>?_)
     ·refine qp (o:=2) ?_ (hg:=wi fe);refine ql hH aC ?_ (hg:=wi fe);refine qg ?_ (hg:=wi fe);refine qt fe ?_;refine qm ?_;refine ab.two 51 rfl (fun c8=>?_) (fun c8=>?_)
      ·refine qp (o:=3) ?_ (hg:=wi c8);refine ql hH aC ?_ (hg:=wi c8);refine qg ?_ (hg:=wi c8);refine qm ?_ (hg:=wi c8);refine ab.two 55 rfl (fun ba=>?_) (fun ba=>?_)
       ·refine qs ?_ (hg:=wn ba);refine qs ?_ (hg:=wn ba);refine qs ?_ (hg:=wn ba);refine qs ?_ (hg:=wn ba);refine qs ?_ (hg:=wn ba);refine qs ?_ (hg:=wn ba);refine qs ?_;refine qs ?_;refine qs ?_;refine qs ?_ (hg:=wn ba);refine ab.b_ (ah rfl rfl rfl c8) rfl ba (aa rfl _) ?_;refine qt c8 ?_;refine qm ?_;refine qm ?_;refine ab.nil (kz ?_ ?_)
        ·dsimp only[aI,List.foldl,nth,u2,u1]
        ·dsimp only[nth];dsimp only[Fr.az,Fr.put,Fr.clean,Fr.ev,Fr.get,nth,V.look,u1,u2,v1,v2,v3,v4,v5,v6,v7,List.length,u3,u4,Nat.reduceSub,Nat.reduceAdd,List.map];refine⟨?_,?_⟩<;>(first|rfl|(simp[cm,fe,c8,ba];done)|(simp_all;done)|(simp[cm,fe,c8,ba];omega)|(simp_all;omega))
       ·refine qp (o:=3) ?_ (hg:=wi ba);refine ql hH aC ?_ (hg:=wi ba);refine qp (o:=2) ?_ (hg:=wi ba);refine ql hH aC ?_ (hg:=wi ba);refine qg ?_ (hg:=wi ba);refine qm ?_ (hg:=wi ba);refine ab.two 61 rfl (fun bp=>?_) (fun bp=>?_)
        ·refine qp (o:=3) ?_ (hg:=wi bp);refine ql hH aC ?_ (hg:=wi bp);refine qg ?_ (hg:=wi bp);refine ab.b_ (ah rfl rfl rfl ba) rfl bp (aa rfl _) ?_;refine ab.bM (ah rfl rfl rfl c8) rfl ba (aa rfl _) ?_;refine qt c8 ?_;refine qm ?_;refine qm ?_;refine ab.nil (kz ?_ ?_)
         ·dsimp only[aI,List.foldl,nth,u2,u1]
         ·dsimp only[nth];dsimp only[Fr.az,Fr.put,Fr.clean,Fr.ev,Fr.get,nth,V.look,u1,u2,v1,v2,v3,v4,v5,v6,v7,List.length,u3,u4,Nat.reduceSub,Nat.reduceAdd,List.map];refine⟨?_,?_⟩<;>(first|rfl|(simp[cm,fe,c8,ba,bp];done)|(simp_all;done)|(simp[cm,fe,c8,ba,bp];omega)|(simp_all;omega))
        ·refine qs ?_ (hg:=wn bp);refine qs ?_ (hg:=wn bp);refine qs ?_ (hg:=wn bp);refine ab.bM (ah rfl rfl rfl ba) rfl bp (aa rfl _) ?_;refine ab.bM (ah rfl rfl rfl c8) rfl ba (aa rfl _) ?_;refine qt c8 ?_;refine qm ?_;refine qm ?_;refine ab.nil (kz ?_ ?_)
         ·dsimp only[aI,List.foldl,nth,u2,u1]
         ·dsimp only[nth];dsimp only[Fr.az,Fr.put,Fr.clean,Fr.ev,Fr.get,nth,V.look,u1,u2,v1,v2,v3,v4,v5,v6,v7,List.length,u3,u4,Nat.reduceSub,Nat.reduceAdd,List.map];refine⟨?_,?_⟩<;>(first|rfl|(simp[cm,fe,c8,ba,bp];done)|(simp_all;done)|(simp[cm,fe,c8,ba,bp];omega)|(simp_all;omega))
      ·refine qs ?_ (hg:=wn c8);refine qs ?_ (hg:=wn c8);refine qs ?_ (hg:=wn c8);refine qs ?_ (hg:=wn c8);refine qs ?_;refine qs ?_;refine qs ?_;refine qs ?_;refine qs ?_;refine qs ?_;refine qs ?_;refine qs ?_;refine qs ?_;refine qs ?_;refine qs ?_ (hg:=wn c8);refine qu c8 ?_;refine qm ?_;refine qm ?_;refine ab.nil (kz ?_ ?_)
       ·dsimp only[aI,List.foldl,nth,u2,u1]
       ·dsimp only[nth];dsimp only[Fr.az,Fr.put,Fr.clean,Fr.ev,Fr.get,nth,V.look,u1,u2,v1,v2,v3,v4,v5,v6,v7,List.length,u3,u4,Nat.reduceSub,Nat.reduceAdd,List.map];refine⟨?_,?_⟩<;>(first|rfl|(simp[cm,fe,c8];done)|(simp_all;done)|(simp[cm,fe,c8];omega)|(simp_all;omega))
     ·refine qs ?_ (hg:=wn fe);refine qs ?_ (hg:=wn fe);refine qs ?_ (hg:=wn fe);refine qu fe ?_;refine qm ?_;refine qs ?_;refine qs ?_;refine qs ?_;refine qs ?_;refine qs ?_;refine qs ?_;refine qs ?_;refine qs ?_;refine qs ?_;refine qs ?_;refine qs ?_;refine qs ?_;refine qs ?_;refine qs ?_;refine qs ?_;refine qg ?_;refine qm ?_;refine qm ?_;refine ab.nil (kz ?_ ?_)
      ·dsimp only[aI,List.foldl,nth,u2,u1]
      ·dsimp only[nth];dsimp only[Fr.az,Fr.put,Fr.clean,Fr.ev,Fr.get,nth,V.look,u1,u2,v1,v2,v3,v4,v5,v6,v7,List.length,u3,u4,Nat.reduceSub,Nat.reduceAdd,List.map];refine⟨?_,?_⟩<;>(first|rfl|(simp[cm,fe];done)|(simp_all;done)|(simp[cm,fe];omega)|(simp_all;omega))
    ·refine qs ?_ (hg:=wn cm);refine qs ?_ (hg:=wn cm);refine qs ?_ (hg:=wn cm);refine qu cm ?_;refine qm ?_;refine qs ?_;refine qs ?_;refine qs ?_;refine qg ?_;refine qm ?_;refine qs ?_;refine qs ?_;refine qs ?_;refine qs ?_;refine qs ?_;refine qs ?_;refine qs ?_;refine qs ?_;refine qs ?_;refine qs ?_;refine qs ?_;refine qs ?_;refine qs ?_;refine qs ?_;refine qs ?_;refine qg ?_;refine qm ?_;refine qm ?_;refine ab.nil (kz ?_ ?_)
     ·dsimp only[aI,List.foldl,nth,u2,u1]
     ·dsimp only[nth];dsimp only[Fr.az,Fr.put,Fr.clean,Fr.ev,Fr.get,nth,V.look,u1,u2,v1,v2,v3,v4,v5,v6,v7,List.length,u3,u4,Nat.reduceSub,Nat.reduceAdd,List.map];refine⟨?_,?_⟩<;>(first|rfl|(simp[cm];done)|(simp_all;done)|(simp[cm];omega)|(simp_all;omega))
   dsimp only[aI,List.foldl,nth,u2,u1];obtain⟨CL,CK⟩:=ud;rw[CL,CK];refine af.ret ⟨rx,_,rfl,rl cE hH (rfl)⟩
  rw[if_neg q5];refine qq<|qj fun K hK=>qg ?_;refine qm ?_;refine qe hK ?_;refine af.cond (by rfl) (fun q6=>?_) (fun q6=>?_)<;>try simp only[beq_iff_eq,beq_eq_false_iff_ne,ne_eq] at q6
  ·rw[if_pos q6];refine qq<|af.GU [4,5] (fun ff=>ff 4=.int .i64 1∧ff 5=.bool ((n.kids==1) &&(n.cap==((g+1:Nat):Int)) &&decide (n.cap≤4))) ?_ (fun ff tmp ud=>?_)
   ·refine qp (o:=6) ?_;refine ql hH aC ?_;refine qg ?_;refine qm ?_;refine ab.two 73 rfl (fun cm=>?_) (fun cm=>?_)
    ·refine qp (o:=5) ?_ (hg:=wi cm);refine ql hH aC ?_ (hg:=wi cm);refine qm ?_ (hg:=wi cm);refine qA ?_ (hg:=wi cm);refine qg ?_ (hg:=wi cm);refine qt cm ?_;refine qm ?_;refine ab.two 80 rfl (fun aT=>?_) (fun aT=>?_)
     ·refine qp (o:=5) ?_ (hg:=wi aT);refine ql hH aC ?_ (hg:=wi aT);refine qg ?_ (hg:=wi aT);refine qt aT ?_;refine qm ?_;refine qm ?_;refine ab.nil (kz ?_ ?_)
      ·dsimp only[aI,List.foldl,nth,u2,u1]
      ·dsimp only[nth];dsimp only[Fr.az,Fr.put,Fr.clean,Fr.ev,Fr.get,nth,V.look,u1,u2,v1,v2,v3,v4,v5,v6,v7,List.length,u3,u4,Nat.reduceSub,Nat.reduceAdd,List.map];refine⟨?_,?_⟩<;>(first|rfl|(simp[cm,aT];done)|(simp_all;done)|(simp[cm,aT];omega)|(simp_all;omega))
     ·refine qs ?_ (hg:=wn aT);refine qs ?_ (hg:=wn aT);refine qs ?_ (hg:=wn aT);refine qu aT ?_;refine qm ?_;refine qm ?_;refine ab.nil (kz ?_ ?_)
      ·dsimp only[aI,List.foldl,nth,u2,u1]
      ·dsimp only[nth];dsimp only[Fr.az,Fr.put,Fr.clean,Fr.ev,Fr.get,nth,V.look,u1,u2,v1,v2,v3,v4,v5,v6,v7,List.length,u3,u4,Nat.reduceSub,Nat.reduceAdd,List.map];refine⟨?_,?_⟩<;>(first|rfl|(simp[cm,aT];done)|(simp_all;done)|(simp[cm,aT];omega)|(simp_all;omega))
    ·refine qs ?_ (hg:=wn cm);refine qs ?_ (hg:=wn cm);refine qs ?_ (hg:=wn cm);refine qs ?_ (hg:=wn cm);refine qs ?_ (hg:=wn cm);refine qu cm ?_;refine qm ?_;refine qs ?_;refine qs ?_;refine qs ?_;refine qg ?_;refine qm ?_;refine qm ?_;refine ab.nil (kz ?_ ?_)
     ·dsimp only[aI,List.foldl,nth,u2,u1]
     ·dsimp only[nth];dsimp only[Fr.az,Fr.put,Fr.clean,Fr.ev,Fr.get,nth,V.look,u1,u2,v1,v2,v3,v4,v5,v6,v7,List.length,u3,u4,Nat.reduceSub,Nat.reduceAdd,List.map];refine⟨?_,?_⟩<;>(first|rfl|(simp[cm];done)|(simp_all;done)|(simp[cm];omega)|(simp_all;omega))
   dsimp only[aI,List.foldl,nth,u2,u1];obtain⟨CL,CK⟩:=ud;rw[CL,CK];refine af.ret ⟨rx,_,rfl,rl cE hH (rfl)⟩
  ·rw[if_neg q6];refine af.skip<|qq<|qj fun K hK=>qm ?_;refine qm ?_;refine qe hK<|af.ret ⟨rx,_,rfl,rl cE hH (rfl)⟩
theorem vM {n:bF} (h:n.ok):refs (a_ n)=0:=by
 have:=h.1.ref;simp only[a_,refs,D.ref,this,Nat.max_self]
def nV (d:D) (at_ g:Nat):List D:=[d,.int .i64 (at_:Nat),.int .i64 (g:Nat)]
theorem Cb {l:List bF} {d:D} (hl:l.length≤1048576) (hi:∀n∈l,n.ok) (hd:iK d 7 (l.map a_)):∀(f:Nat) {N k:Nat} {S s0:St} {H:List cx} {at_ g:Nat},f≤241→g≤4→Has N S s0 (.box k (.mem 0 false (nV d at_ g))::H)→
  ∃r ag,Ev pv 74 [.ptr k 0 0,.int .i64 ((241-f:Nat):Int)] s0 r ag∧r=.bool (fM l f at_ g).isSome∧∃a' g',Has N S ag (.box k (.mem 0 false (nV d a' g'))::H)∧g'≤4∧∀q,fM l f at_ g=some q→a'=q.1∧g'=q.2:=by
 intro f
 induction f with
 |zero=>
  intro N k S s0 H at_ g hf hg hH;refine Ev.ow rfl I6 rfl rfl rfl ?_;dsimp only[u3,u4,List.length,Nat.reduceSub,Nat.reduceAdd,w1,w2];have cU:=hH;have hH:=hH.cV;have cF:(aj .rw s0).bs=s0.bs:=rfl;generalize aj .rw s0=S2 at*;have hc:=hd.arg N S2;refine qq<|qj fun K hK=>qm ?_;refine qe hK<|qq<|qq<|af.qV 21 (.bool (decide ((at_:Int)≥(l.length:Nat))||decide (((241-0:Nat):Int)>240))) [] ?_ (fun ff tmp lU=>?_)
  ·refine qm ?_;refine qg ?_;refine qp (o:=1) ?_;refine ql hH aC ?_;refine qm ?_;refine qg ?_;refine qp (o:=0) ?_;refine ql hH aC ?_;refine qn ?_;simp only[List.length_map];refine qg ?_;refine qm ?_;refine ab.two 18 rfl (fun aT=>?_) (fun aT=>?_)
   ·refine qs ?_ (hg:=wn aT);refine qs ?_ (hg:=wn aT);refine qt aT ?_;refine ab.nil (fP ?_ ?_)
    ·dsimp only[aI,List.foldl,nth,u2,u1]
     all_goals(first|rfl|simp)
    ·dsimp only[Fr.az,Fr.put,Fr.clean,Fr.ev,Fr.get,nth,V.look,u1,u2,v1,v2,v3,v4,v5,v6,v7,List.length,u3,u4,Nat.reduceSub,Nat.reduceAdd,List.map]
     all_goals(simp[aT];done)
   ·refine qm ?_ (hg:=wi aT);refine qg ?_ (hg:=wi aT);refine qu aT ?_;refine ab.nil (fP ?_ ?_)
    ·dsimp only[aI,List.foldl,nth,u2,u1]
     all_goals(first|rfl|simp)
    ·dsimp only[Fr.az,Fr.put,Fr.clean,Fr.ev,Fr.get,nth,V.look,u1,u2,v1,v2,v3,v4,v5,v6,v7,List.length,u3,u4,Nat.reduceSub,Nat.reduceAdd,List.map]
     all_goals(simp[aT];done)
  dsimp only[aI,List.foldl,nth,u2,u1];have hT:(decide ((at_:Int)≥(l.length:Nat))||decide (((241-0:Nat):Int)>240))=true:=by simp
  rw[hT] at lU;refine qB ?_;refine qq<|qj fun K hK=>qm ?_;refine qe hK<|af.ret ⟨rx,_,_,_,rfl,ak (rfl),?_⟩;exact⟨rfl,_,_,cU.ax cF hH,hg,fun q hq=>by simp[fM] at hq⟩
 |succ f ih=>
  intro N k S s0 H at_ g hf hg hH;refine Ev.ow rfl I6 rfl rfl rfl ?_;dsimp only[u3,u4,List.length,Nat.reduceSub,Nat.reduceAdd,w1,w2];have cU:=hH;have hH:=hH.cV;have cF:(aj .rw s0).bs=s0.bs:=rfl;generalize aj .rw s0=S2 at*;have hc:=hd.arg N S2;refine qq<|qj fun K hK=>qm ?_;refine qe hK<|qq<|qq<|af.qV 21 (.bool (decide ((at_:Int)≥(l.length:Nat))||decide (((241-(f+1):Nat):Int)>240))) [] ?_ (fun ff tmp lU=>?_)
  ·refine qm ?_;refine qg ?_;refine qp (o:=1) ?_;refine ql hH aC ?_;refine qm ?_;refine qg ?_;refine qp (o:=0) ?_;refine ql hH aC ?_;refine qn ?_;simp only[List.length_map];refine qg ?_;refine qm ?_;refine ab.two 18 rfl (fun aT=>?_) (fun aT=>?_)
   ·refine qs ?_ (hg:=wn aT);refine qs ?_ (hg:=wn aT);refine qt aT ?_;refine ab.nil (fP ?_ ?_)
    ·dsimp only[aI,List.foldl,nth,u2,u1]
     all_goals(first|rfl|simp)
    ·dsimp only[Fr.az,Fr.put,Fr.clean,Fr.ev,Fr.get,nth,V.look,u1,u2,v1,v2,v3,v4,v5,v6,v7,List.length,u3,u4,Nat.reduceSub,Nat.reduceAdd,List.map]
     all_goals(simp_all;done)
   ·refine qm ?_ (hg:=wi aT);refine qg ?_ (hg:=wi aT);refine qu aT ?_;refine ab.nil (fP ?_ ?_)
    ·dsimp only[aI,List.foldl,nth,u2,u1]
     all_goals(first|rfl|simp)
    ·dsimp only[Fr.az,Fr.put,Fr.clean,Fr.ev,Fr.get,nth,V.look,u1,u2,v1,v2,v3,v4,v5,v6,v7,List.length,u3,u4,Nat.reduceSub,Nat.reduceAdd,List.map]
     all_goals(simp_all;omega)
  dsimp only[aI,List.foldl,nth,u2,u1]
  by_cases ha:l.length≤at_
  ·have hT:(decide ((at_:Int)≥(l.length:Nat))||decide (((241-(f+1):Nat):Int)>240))=true:=by
    rw[Bool.or_eq_true];exact .inl (by rw[decide_eq_true_eq];omega)
   rw[hT] at lU;have hn:fM l (f+1) at_ g=none:=by unfold fM;rw[List.getElem?_eq_none ha]
   rw[hn];refine qB ?_;refine qq<|qj fun K hK=>qm ?_;refine qe hK<|af.ret ⟨rx,_,_,_,rfl,ak (rfl),?_⟩;exact⟨rfl,_,_,cU.ax cF hH,hg,fun q hq=>by cases hq⟩
  ·have hT:(decide ((at_:Int)≥(l.length:Nat))||decide (((241-(f+1):Nat):Int)>240))=false:=by
    rw[Bool.or_eq_false_iff];exact⟨by rw[decide_eq_false_iff_not];omega,by rw[decide_eq_false_iff_not];omega⟩
   rw[hT] at lU
   obtain⟨n,hn⟩:∃n,l[at_]?=some n:=⟨l[at_]'(by omega),List.getElem?_eq_getElem _⟩
   have lJ:=hi n (List.mem_of_getElem? hn);have jx:=jO hn;have JN:=vM lJ
   have jU:fM l (f+1) at_ g=if(dp n (g:Nat)).2=true then gd (fM l f) (dp n (g:Nat)).1.toNat (at_+1) (if n.op=6 then g+1 else g) else none:=by
    rw[fM,hn]
   rw[jU];clear jU;refine qC ?_;refine af.skip<|qq<|qj fun K hK=>qm ?_;refine qg ?_;refine qp (o:=0) ?_;refine ql hH aC ?_;refine qm ?_;refine qg ?_;refine qp (o:=1) ?_;refine ql hH aC ?_;refine qr fun Na Ic=>?_;refine ab.fk rfl (ev rfl) (by assumption) rfl (aa rfl _) ?_;refine qa hH fun k5 st JV hH=>?_;dsimp only[u2,u1,u3,u4,setMany,u5,u6,D.cells,Nat.reduceAdd,nV,a_] at hH;refine ab.jR hH rfl (ev rfl) (ev rfl) (by rfl) (by exact rfl) (by exact aC) (by exact rfl) (by exact .inr (by assumption)) (fun st hH=>?_);dsimp only[u2,u1,u3,u4,setMany,u5,u6,D.cells,Nat.reduceAdd,nV,a_] at hH;refine qe hK<|qq<|qj fun K hK=>?_;refine ab.cI (m:=7) hH rfl (ev rfl) (by exact aC) (by dsimp only[List.drop_succ_cons,List.drop_zero,List.take_succ_cons,List.take_zero,nV,a_]<;>rfl) rfl rfl (aa rfl _) ?_;refine qm ?_;refine qg ?_;refine qp (o:=2) ?_;refine ql hH cp ?_;refine qv (xj lJ (by omega)) ?_;refine qm ?_;refine qg ?_;refine qg ?_;refine qm ?_;refine qm ?_;refine qe hK<|qq<|qq<|qj fun K hK=>qm ?_;refine qg ?_;refine qe hK ?_
   cases hsh:(dp n (g:Nat)).2 with
   |false=>
    rw[if_neg (by simp)];refine qB ?_;refine qq<|qj fun K hK=>qm ?_;refine qe hK<|af.ret ⟨rx,_,_,_,rfl,ak (rfl),?_⟩;exact⟨rfl,_,_,cU.ax cF (hH.drop 1),hg,fun q hq=>by cases hq⟩
   |true=>
    rw[if_pos rfl];obtain⟨⟨sK,_⟩,hk2,JX⟩:=uX hsh;have JW:=lJ.2.2;obtain⟨kd,Hi⟩:∃kd:Nat,(dp n (g:Nat)).1=(kd:Int):=Int.eq_ofNat_of_zero_le hk2;rw[Hi,Int.toNat_natCast];rw[Hi,Int.toNat_natCast] at sK;refine qC ?_;refine af.skip<|qq<|qj fun K hK=>qm ?_;refine qg ?_;refine qp (o:=1) ?_;refine ql hH cp ?_;refine qA ?_;refine qg ?_;refine qp (o:=1) ?_;refine qT hH cp fun st hH=>?_;dsimp only[u2,u1,u3,u4,setMany,u5,u6,D.cells,Nat.reduceAdd,nV,a_] at hH;refine qe hK<|qq<|qq<|qj fun K hK=>qp (o:=0) ?_;refine ql hH aC ?_;refine qg ?_;refine qe hK<|af.merge (fun fr st=>∃(g2:Nat) (tmp:List (Nat×D)),fr=⟨8,[.ptr k 0 0,.int .i64 ((241-(f+1):Nat):Int),nD fr 2,nD fr 3,.bool false,.ptr k5 0 0,.int .i64 (kd:Nat),.bool true],tmp⟩∧Has N S2 st (.box k (.mem 0 false [d,.int .i64 ((at_+1:Nat):Int),.int .i64 (g2:Nat)])::.box k5 (.mem 0 false (a_ n))::H)∧(g2=if n.op=6 then g+1 else g)∧(g2≤4)) ?_ ?_
    ·refine af.cond (by rfl) (fun q6=>?_) (fun q6=>?_)<;>try simp only[beq_iff_eq,beq_eq_false_iff_ne,ne_eq] at q6
     ·have:=JX q6;refine qj fun K hK=>qm ?_;refine qg ?_;refine qp (o:=2) ?_;refine ql hH cp ?_;refine qA ?_;refine qg ?_;refine qp (o:=2) ?_;refine qT hH cp fun st hH=>?_;dsimp only[u2,u1,u3,u4,setMany,u5,u6,D.cells,Nat.reduceAdd,nV,a_] at hH;refine qe hK ?_;exact⟨g+1,_,rfl,(by have:=hH.front cp;exact this),by rw[if_pos q6],by omega⟩
     ·refine af.skip ?_;exact⟨g,_,rfl,(by have:=hH.front cp;exact this),by rw[if_neg q6],hg⟩
    ·rintro fr st ⟨g2,tmp,hfr,hH,bd,cm⟩;rw[hfr];clear hfr;generalize nD fr=ee;clear fr;rw[←bd];refine qq<|af.block<|af.loop (fun mm fr st=>∃(kk a2 g4:Nat),fr.clean=⟨8,[.ptr k 0 0,.int .i64 ((241-(f+1):Nat):Int),nD fr 2,nD fr 3,.bool false,.ptr k5 0 0,.int .i64 (kk:Nat),.bool true],[]⟩∧Has N S2 st (.box k (.mem 0 false [d,.int .i64 (a2:Nat),.int .i64 (g4:Nat)])::.box k5 (.mem 0 false (a_ n))::H)∧(gd (fM l f) kk a2 g4=gd (fM l f) kd (at_+1) g2)∧(g4≤4)∧(kk=mm)∧(kk≤9223372036854775807)) (kd) ?_ ?_
     ·exact⟨kd,at_+1,g2,rfl,hH,rfl,cm,rfl,by omega⟩
     rintro mm fr st ⟨kk,a2,g4,hfr,hH,hX,bC,He,hkk⟩;rw[hfr];clear hfr;generalize nD fr=ee;clear fr;refine qq<|qq<|qj fun K hK=>qm ?_;refine qg ?_;refine qe hK ?_
     cases kk with
     |zero=>
      refine af.cond (v:=false) (by dsimp only[Fr.ev,Fr.get,nth,V.look];rfl) (fun h=>by cases h) (fun _=>?_);refine af.exit<|qq<|qj fun K hK=>qm ?_;refine qe hK<|af.ret ⟨rx,_,_,_,rfl,ak (rfl),?_⟩;exact⟨by rw[←hX];rfl,_,_,cU.ax cF (hH.erase 1),bC,fun q hq=>by rw[←hX] at hq;simp only[gd,Option.some.injEq] at hq;subst hq;exact⟨rfl,rfl⟩⟩
     |succ kk=>
      rw[gd] at hX;refine qD rfl (by simp) ?_;refine af.skip<|qq<|af.block<|qq<|qj fun K hK=>qm ?_;refine qm ?_;refine ab.lG (z:=((241-f:Nat):Int)) rfl (ev rfl) (ev rfl) (by(try simp only[List.length_reverse,List.length_cons,List.length_nil,List.length_append,List.length_map,List.length_set]);rw[wrap_i64 (by omega) (by omega)]<;>omega) (aa rfl _) ?_;obtain⟨_,st,aM,rfl,a',g',hH,cQ,hq⟩:=ih (at_:=a2) (g:=g4) (by omega) bC hH;refine qv aM ?_;refine qg ?_;refine qe hK ?_
      cases ho:fM l f a2 g4 with
      |none=>
       rw[ho] at hX;refine qB ?_;refine qq<|qj fun K hK=>qm ?_;refine qe hK<|af.ret ⟨rx,_,_,_,rfl,ak (rfl),?_⟩;exact⟨by rw[←hX];rfl,_,_,cU.ax cF (hH.erase 1),cQ,fun q hq=>by rw[←hX] at hq;cases hq⟩
      |some q=>
       rw[ho] at hX;obtain⟨rfl,rfl⟩:=hq q ho;refine qC ?_;refine af.skip<|qj fun K hK=>qm ?_;refine ab.mb (z:=((kk:Nat):Int)) rfl (ev rfl) (ev rfl) (by(try simp only[List.length_reverse,List.length_cons,List.length_nil,List.length_append,List.length_map,List.length_set]);rw[wrap_i64 (by omega) (by omega)]<;>omega) (aa rfl _) ?_;refine qm ?_;refine qe hK ?_;exact⟨mm-1,by omega,⟨kk,q.1,q.2,rfl,hH,hX,cQ,by omega,by omega⟩⟩
theorem rU {s0:St} {x:Nl} (hx:x.ok):Ev pv 40 [x.d] s0 (.bool (bN x.l)) s0:=by
 refine Ev.pJ rfl Mr rfl rfl rfl ?_;dsimp only[u3,u4,List.length,Nat.reduceSub,Nat.reduceAdd,w1,w2];obtain⟨cE,hF,hH⟩:=ri s0;generalize aj .ro s0=S at*;have hc:=hx.c.arg s0.bs.length S;have hl:=hx.nl;have uI:=hx.c;refine qq<|qj fun K hK=>qm ?_;refine qe hK<|qq<|qq<|af.qV 11 (.bool (decide (((x.l.length:Nat):Int)<1)||decide (((x.l.length:Nat):Int)>480))) [] ?_ (fun ff tmp lU=>?_)
 ·refine qm ?_;refine qn ?_;simp only[List.length_map];refine qg ?_;refine qm ?_;refine ab.two 7 rfl (fun cm=>?_) (fun cm=>?_)
  ·refine qs ?_ (hg:=wn cm);refine qs ?_ (hg:=wn cm);refine qs ?_ (hg:=wn cm);refine qt cm ?_;refine ab.nil (fP ?_ ?_)
   ·dsimp only[aI,List.foldl,nth,u2,u1]
    all_goals(first|rfl|simp)
   ·dsimp only[Fr.az,Fr.put,Fr.clean,Fr.ev,Fr.get,nth,V.look,u1,u2,v1,v2,v3,v4,v5,v6,v7,List.length,u3,u4,Nat.reduceSub,Nat.reduceAdd,List.map]
    all_goals(simp[cm];done)
  ·refine qm ?_ (hg:=wi cm);refine qn ?_ (hg:=wi cm);simp only[List.length_map];refine qg ?_ (hg:=wi cm);refine qu cm ?_;refine ab.nil (fP ?_ ?_)
   ·dsimp only[aI,List.foldl,nth,u2,u1]
    all_goals(first|rfl|simp)
   ·dsimp only[Fr.az,Fr.put,Fr.clean,Fr.ev,Fr.get,nth,V.look,u1,u2,v1,v2,v3,v4,v5,v6,v7,List.length,u3,u4,Nat.reduceSub,Nat.reduceAdd,List.map]
    all_goals(simp[cm];done)
 dsimp only[aI,List.foldl,nth,u2,u1]
 by_cases hlen:1≤x.l.length∧x.l.length≤480
 ·have hT:(decide (((x.l.length:Nat):Int)<1)||decide (((x.l.length:Nat):Int)>480))=false:=by
   rw[Bool.or_eq_false_iff];exact⟨by rw[decide_eq_false_iff_not];omega,by rw[decide_eq_false_iff_not];omega⟩
  rw[hT] at lU
  have hR:bN x.l=(match fM x.l 241 0 0 with|some r=>decide (r.1=x.l.length)|none=>false):=by
   unfold bN;rw[decide_eq_true hlen.1,decide_eq_true hlen.2];rfl
  rw[hR];clear hR;refine qC ?_;refine af.skip<|qq<|qj fun K hK=>qm ?_;refine ab.ir (qs:=[(0,_)]) rfl rfl rfl rfl ⟨rfl,(ev rfl),(by exact(iK.cells (by assumption)).1),trivial⟩ (by intro q hq;simp only[List.mem_cons,List.not_mem_nil,or_false] at hq;rcases hq with rfl<;>exact⟨rfl,by exact Nat.le_of_ble_eq_true rfl⟩) (by show List.foldl _ [_,_,_] _=_;dsimp only[List.foldl_cons,List.foldl_nil,u2,u1]<;>rfl) (aa rfl _) ?_;refine qb hH fun k14 st Iz hH=>?_;refine qm ?_;refine qe hK ?_;have hH:Has s0.bs.length S st (.box k14 (.mem 0 false (nV x.d 0 0))::[]):=hH
  cases bd:(fM x.l 241 0 0).isSome with
  |true=>
   obtain⟨q,hq⟩:=Option.isSome_iff_exists.1 bd;refine qq<|qj fun K hK=>qm ?_;obtain⟨_,st,aM,rfl,a',g',hH,cQ,Ns⟩:=Cb hl hx.i hx.c 241 (by omega) (by omega) hH;refine qv aM ?_;refine qm ?_;refine qm ?_ (hg:=wi bd);refine qg ?_ (hg:=wi bd);refine qp (o:=1) ?_ (hg:=wi bd);refine ql hH aC ?_ (hg:=wi bd);refine qm ?_ (hg:=wi bd);refine qn ?_ (hg:=wi bd);simp only[List.length_map];refine qg ?_ (hg:=wi bd);refine qt bd ?_;refine qm ?_;refine qe hK ?_;obtain⟨rfl,rfl⟩:=Ns q hq;rw[hq]
   have he:decide (q.1=x.l.length)=(((q.1:Nat):Int)==((x.l.length:Nat):Int)):=by
    rw[Bool.eq_iff_iff];simp only[decide_eq_true_eq,beq_iff_eq];omega
   simp only[he];refine af.ret ⟨rx,_,rfl,rl cE hH (rfl)⟩
  |false=>
   have hq:fM x.l 241 0 0=none:=by
    cases hq:fM x.l 241 0 0 with
    |none=>rfl
    |some q=>rw[hq] at bd;cases bd
   refine qq<|qj fun K hK=>qm ?_;obtain⟨_,st,aM,rfl,a',g',hH,cQ,Ns⟩:=Cb hl hx.i hx.c 241 (by omega) (by omega) hH;refine qv aM ?_;refine qm ?_;refine qs ?_ (hg:=wn bd);refine qs ?_ (hg:=wn bd);refine qs ?_ (hg:=wn bd);refine qs ?_ (hg:=wn bd);refine qs ?_ (hg:=wn bd);refine qs ?_ (hg:=wn bd);refine qs ?_ (hg:=wn bd);refine qu bd ?_;refine qm ?_;refine qe hK ?_;rw[hq];refine af.ret ⟨rx,_,rfl,rl cE hH (rfl)⟩
 ·have hT:(decide (((x.l.length:Nat):Int)<1)||decide (((x.l.length:Nat):Int)>480))=true:=by
   rw[Bool.or_eq_true,decide_eq_true_eq,decide_eq_true_eq];omega
  rw[hT] at lU
  have hR:bN x.l=false:=by
   unfold bN
   by_cases h1:1≤x.l.length
   ·rw[decide_eq_true h1,decide_eq_false (fun h2=>hlen ⟨h1,h2⟩)];rfl
   ·rw[decide_eq_false h1];rfl
  rw[hR];refine qB ?_;refine qq<|qj fun K hK=>qm ?_;refine qe hK<|af.ret ⟨rx,_,rfl,rl cE hH (rfl)⟩
end Go.Proofs.Ytnleclohocdkaaa
