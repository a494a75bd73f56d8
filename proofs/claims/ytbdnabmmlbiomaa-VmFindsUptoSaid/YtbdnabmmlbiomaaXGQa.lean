/-
 Patterns as trees; the code of a tree; how many instructions it has.
-/
import Derived.Test.YtbdnabmmlbiomaaXGUb
import Derived.Test.YtbdnabmmlbiomaaXGKa
set_option maxRecDepth 100000
set_option linter.unusedSimpArgs false
set_option linter.unusedVariables false
set_option linter.unusedSectionVars false
set_option maxHeartbeats 4000000
namespace Go.Proofs.Ytbdnabmmlbiomaa
open Go.V Go
structure dr where
 op:Int
 rd:D
 rs:List Rg
 mn:Int
 mx:Int
 lz:Bool
 cap:Int
 kids:Int
def a8 (n:dr):List D:=[.int .i64 n.op,n.rd,.int .i64 n.mn,.int .i64 n.mx,.bool n.lz,.int .i64 n.cap,.int .i64 n.kids]
def dr.ok (n:dr):Prop:=gY n.rd 2 (n.rs.map aw)∧n.rs.length≤1048576∧n.kids≤9223372036854775807
structure Nl where
 d:D
 l:List dr
structure Nl.ok (x:Nl):Prop where
 c:gY x.d 7 (x.l.map a8)
 i:∀n∈x.l,n.ok
 nl:x.l.length≤1048576
theorem ky {l:List dr} {i:Nat} {q:dr} (h:l[i]?=some q):(l.map a8)[i]?=some (a8 q):=by rw[List.getElem?_map,h];rfl
mutual
inductive Tr where
 |mk (n:dr) (ks:bE)
inductive bE where
 |nil
 |cons (t:Tr) (ts:bE)
end
def bE.len:bE→Nat
 | .nil=>0
 | .cons _ ts=>ts.len+1
mutual
def Tr.flat:Tr→List dr
 | .mk n ks=>n::ks.flat
def bE.flat:bE→List dr
 | .nil=>[]
 | .cons t ts=>t.flat++ts.flat
end
def uA (n:dr) (nk:Nat):Prop:=
 n.kids=(nk:Int)∧(((n.op=1∨n.op=7∨n.op=8)∧nk=0)∨(n.op=2∧nk=0)∨((n.op=3∨n.op=4)∧2≤nk)∨
  (n.op=5∧nk=1∧0≤n.mn∧n.mn≤30∧(n.mx=-1∨(n.mn≤n.mx∧n.mx≤30)))∨(n.op=6∧nk=1∧1≤n.cap∧n.cap≤4))
mutual
def Tr.ok:Tr→Prop
 | .mk n ks=>uA n ks.len∧ks.ok
def bE.ok:bE→Prop
 | .nil=>True
 | .cons t ts=>t.ok∧ts.ok
end
def bL (n:dr) (s k:Nat):Nat:=
 if n.op=2∨n.op=7∨n.op=8 then 1
 else if n.op=4 then s+2*(k-1)
 else if n.op=6 then s+2
 else if n.op=5 then(if n.mx=-1 then n.mn.toNat*s+s+2 else n.mn.toNat*s+(n.mx.toNat-n.mn.toNat)*(s+1))
 else s
mutual
def Tr.sz:Tr→Nat
 | .mk n ks=>bL n ks.sz ks.len
def bE.sz:bE→Nat
 | .nil=>0
 | .cons t ts=>t.sz+ts.sz
end
def cS (op x y:Int) (rs:List Rg):aK:=⟨op,x,y,.sl ((rs.map aw).map (jK 2)),rs⟩
def ml (s o:Nat) (lz:Bool):aK:=if lz=true then cS 2 (o:Nat) ((s+1:Nat):Int) [] else cS 2 ((s+1:Nat):Int) (o:Nat) []
def lI (e:Nat):aK:=cS 3 (e:Nat) 0 []
def eS (c:Nat→List aK) (z:Nat):Nat→Nat→List aK
 |0,_=>[]
 |k+1,b=>c b++eS c z k (b+z)
def eL (sp:Nat→aK) (c:Nat→List aK) (z:Nat):Nat→Nat→List aK
 |0,_=>[]
 |k+1,b=>sp b::(c (b+1)++eL sp c z k (b+1+z))
def uq (z:Nat):Nat→Nat→List Nat
 |0,_=>[]
 |k+1,b=>b::uq z k (b+1+z)
def my (n:dr) (c:Nat→List aK) (z b:Nat):List aK:=
 if n.mx=-1 then eS c z n.mn.toNat b++(ml (b+n.mn.toNat*z) (b+n.mn.toNat*z+z+2) n.lz::(c (b+n.mn.toNat*z+1)++[lI (b+n.mn.toNat*z)]))
 else eS c z n.mn.toNat b++eL (fun s=>ml s (b+n.mn.toNat*z+(n.mx.toNat-n.mn.toNat)*(z+1)) n.lz) c z (n.mx.toNat-n.mn.toNat) (b+n.mn.toNat*z)
mutual
def aS:Tr→Nat→List aK
 | .mk n ks,b=>
  if n.op=2 then[cS 1 0 0 n.rs]
  else if n.op=7 then[cS 5 0 0 []]
  else if n.op=8 then[cS 6 0 0 []]
  else if n.op=3 then fp ks b
  else if n.op=4 then eo (lI (b+bL n ks.sz ks.len)) ks b
  else if n.op=5 then my n (fp ks) ks.sz b
  else if n.op=6 then cS 4 (2*n.cap) 0 []::(fp ks (b+1)++[cS 4 (2*n.cap+1) 0 []])
  else[]
def fp:bE→Nat→List aK
 | .nil,_=>[]
 | .cons t ts,b=>aS t b++fp ts (b+t.sz)
def eo (jp:aK):bE→Nat→List aK
 | .nil,_=>[]
 | .cons t ts,b=>if ts.len=0 then aS t b else ml b (b+1+t.sz+1) false::(aS t (b+1)++jp::eo jp ts (b+t.sz+2))
end
def pK:bE→Nat→List Nat
 | .nil,_=>[]
 | .cons t ts,b=>if ts.len=0 then[] else(b+1+t.sz)::pK ts (b+t.sz+2)
theorem iN {c:Nat→List aK} {z:Nat} (hc:∀b,(c b).length=z):∀k b,(eS c z k b).length=k*z
 |0,b=>by simp[eS]
 |k+1,b=>by rw[eS,List.length_append,hc,iN hc k,Nat.add_mul];omega
theorem oJ {sp:Nat→aK} {c:Nat→List aK} {z:Nat} (hc:∀b,(c b).length=z):∀k b,(eL sp c z k b).length=k*(z+1)
 |0,b=>by simp[eL]
 |k+1,b=>by rw[eL,List.length_cons,List.length_append,hc,oJ hc k,Nat.add_mul];omega
theorem Ay {n:dr} {c:Nat→List aK} {z b:Nat} (hc:∀b,(c b).length=z) (h:n.op=5):(my n c z b).length=bL n z 1:=by
 unfold my bL;rw[if_neg (show¬(n.op=2∨n.op=7∨n.op=8) by omega),if_neg (show¬n.op=4 by omega),if_neg (show¬n.op=6 by omega),if_pos h]
 split
 ·rw[List.length_append,iN hc,List.length_cons,List.length_append,hc];simp only[List.length_cons,List.length_nil];omega
 ·rw[List.length_append,iN hc,oJ hc]
theorem bE.xY {ks:bE} (h:ks.len=1):∃t,ks=.cons t .nil:=by
 cases ks with
 |nil=>simp[bE.len] at h
 |cons t ts=>cases ts with
  |nil=>exact⟨t,rfl⟩
  |cons u us=>simp[bE.len] at h
theorem bE.len_nil {ks:bE} (h:ks.len=0):ks=.nil:=by
 cases ks with
 |nil=>rfl
 |cons t ts=>simp[bE.len] at h
mutual
theorem ct:∀(t:Tr) (b:Nat),t.ok→(aS t b).length=t.sz
 | .mk n ks,b,h=>by
  simp only[Tr.ok] at h;obtain⟨h1,h2⟩:=h;have hc:=fun b=>lZ ks b h2;have ha:=fun jp b=>pJ jp ks b h2;simp only[aS,Tr.sz];obtain⟨_,⟨h3,h4⟩|⟨h3,h4⟩|⟨h3,h4⟩|⟨h3,h4,h5⟩|⟨h3,h4,h5⟩⟩:=h1
  ·have hk:=bE.len_nil h4;subst hk
   by_cases q7:n.op=7
   ·simp[q7,bL]
   ·by_cases q8:n.op=8
    ·simp[q8,bL]
    ·have q1:n.op=1:=by omega
     simp[q1,bL,bE.sz]
  ·simp[h3,bL]
  ·rcases h3 with h3|h3
   ·simp[h3,bL,hc]
   ·simp[h3,bL,ha]
  ·have:=Ay (n:=n) (b:=b) hc h3;simp only[h3] at this⊢;simp only[show¬((5:Int)=2) by decide,show¬((5:Int)=7) by decide,show¬((5:Int)=8) by decide,show¬((5:Int)=3) by decide,show¬((5:Int)=4) by decide,if_false,if_true];rw[this,h4]
  ·simp[h3,bL,hc]
theorem lZ:∀(ts:bE) (b:Nat),ts.ok→(fp ts b).length=ts.sz
 | .nil,b,_=>by simp[fp,bE.sz]
 | .cons t ts,b,h=>by
  simp only[bE.ok] at h;simp only[fp,bE.sz,List.length_append];rw[ct t b h.1,lZ ts _ h.2]
theorem pJ (jp:aK):∀(ts:bE) (b:Nat),ts.ok→(eo jp ts b).length=ts.sz+2*(ts.len-1)
 | .nil,b,_=>by simp[eo,bE.sz,bE.len]
 | .cons t ts,b,h=>by
  simp only[bE.ok] at h;have h1:=pJ jp ts (b+t.sz+2) h.2;simp only[eo,bE.sz,bE.len]
  by_cases q:ts.len=0
  ·rw[if_pos q,ct t b h.1,q];have:=bE.len_nil q;subst this;simp[bE.sz]
  ·rw[if_neg q,List.length_cons,List.length_append,List.length_cons,ct t _ h.1,h1];omega
end
def gJ (f:Nat→aK) (c:List aK) (l:List Nat):List aK:=l.foldl (fun c j=>c.set j (f j)) c
theorem n9 {α:Type} (pre post:List α) (x y:α):(pre++x::post).set pre.length y=pre++y::post:=by
 rw[List.set_append_right _ _ (Nat.le_refl _),Nat.sub_self];rfl
theorem oh {α:Type} (pre post:List α) (x:α):(pre++x::post)[pre.length]?=some x:=by
 rw[List.getElem?_append_right (Nat.le_refl _),Nat.sub_self];rfl
theorem mB {sp:Nat→aK} {c:Nat→List aK} {z:Nat} (hc:∀b,(c b).length=z) {i0:aK}:∀(k b:Nat) (pre post:List aK),pre.length=b→gJ sp (pre++eL (fun _=>i0) c z k b++post) (uq z k b)=pre++eL sp c z k b++post∧∀j∈uq z k b,(pre++eL (fun _=>i0) c z k b++post)[j]?=some i0
 |0,b,pre,post,_=>⟨rfl,fun j hj=>by cases hj⟩
 |k+1,b,pre,post,h=>by
  have ih:=mB (sp:=sp) hc (i0:=i0) k (b+1+z) (pre++i0::c (b+1)) post (by rw[List.length_append,List.length_cons,hc];omega);have x4:=mB (sp:=sp) hc (i0:=i0) k (b+1+z) (pre++sp b::c (b+1)) post (by rw[List.length_append,List.length_cons,hc];omega);simp only[eL,uq];have e:pre++i0::(c (b+1)++eL (fun _=>i0) c z k (b+1+z))++post=pre++i0::(c (b+1)++eL (fun _=>i0) c z k (b+1+z)++post):=by simp
  have e2:pre++i0::c (b+1)++eL (fun _=>i0) c z k (b+1+z)++post=pre++i0::(c (b+1)++eL (fun _=>i0) c z k (b+1+z)++post):=by simp
  refine⟨?_,fun j hj=>?_⟩
  ·unfold gJ at x4⊢;rw[List.foldl_cons,e]
   have hs:(pre++i0::(c (b+1)++eL (fun _=>i0) c z k (b+1+z)++post)).set b (sp b)=pre++sp b::c (b+1)++eL (fun _=>i0) c z k (b+1+z)++post:=by
    rw[←h,n9];simp
   rw[hs,x4.1];simp
  ·rw[e]
   rcases List.mem_cons.1 hj with rfl|hj
   ·rw[←h];exact oh _ _ _
   ·rw[←e2];exact ih.2 j hj
theorem mY {jp i0:aK}:∀(ts:bE) (b:Nat) (pre post:List aK),ts.ok→pre.length=b→gJ (fun _=>jp) (pre++eo i0 ts b++post) (pK ts b)=pre++eo jp ts b++post∧∀j∈pK ts b,(pre++eo i0 ts b++post)[j]?=some i0
 | .nil,b,pre,post,_,_=>⟨by simp[eo,pK,gJ],fun j hj=>by simp[pK] at hj⟩
 | .cons t ts,b,pre,post,ba,h=>by
  simp only[bE.ok] at ba
  by_cases q:ts.len=0
  ·simp only[eo,pK,if_pos q];exact⟨rfl,fun j hj=>by cases hj⟩
  ·simp only[eo,pK,if_neg q];generalize ml b (b+1+t.sz+1) false=sp;have hcl:=ct t (b+1) ba.1;have ih:=mY (jp:=jp) (i0:=i0) ts (b+t.sz+2) (pre++sp::(aS t (b+1)++[i0])) post ba.2 (by simp only[List.length_append,List.length_cons,List.length_nil,hcl];omega);have x4:=mY (jp:=jp) (i0:=i0) ts (b+t.sz+2) (pre++sp::(aS t (b+1)++[jp])) post ba.2 (by simp only[List.length_append,List.length_cons,List.length_nil,hcl];omega);generalize eo i0 ts (b+t.sz+2)=A at*;have e:pre++sp::(aS t (b+1)++i0::A)++post=(pre++sp::aS t (b+1))++i0::(A++post):=by simp
   have hl:(pre++sp::aS t (b+1)).length=b+1+t.sz:=by simp only[List.length_append,List.length_cons,hcl];omega
   refine⟨?_,fun j hj=>?_⟩
   ·unfold gJ at x4⊢;rw[List.foldl_cons,e,←hl,n9];have:=x4.1;simp only[List.append_assoc,List.cons_append,List.nil_append] at this⊢;exact this
   ·rw[e]
    rcases List.mem_cons.1 hj with rfl|hj
    ·rw[←hl];exact oh _ _ _
    ·have:=ih.2 j hj;simp only[List.append_assoc,List.cons_append,List.nil_append] at this⊢;exact this
def fc {α:Type} (L:List α) (at_:Nat) (M:List α):Prop:=∃post,L.drop at_=M++post
theorem fc.head {α:Type} {L M:List α} {a:α} {at_:Nat} (h:fc L at_ (a::M)):L[at_]?=some a:=by
 obtain⟨post,h⟩:=h;have:=congrArg (·[0]?) h
 simpa using this
theorem fc.tail {α:Type} {L M:List α} {a:α} {at_:Nat} (h:fc L at_ (a::M)):fc L (at_+1) M:=by
 obtain⟨post,h⟩:=h;refine⟨post,?_⟩;rw[←List.drop_drop,h];rfl
theorem fc.left {α:Type} {L M M':List α} {at_:Nat} (h:fc L at_ (M++M')):fc L at_ M:=by
 obtain⟨post,h⟩:=h;exact⟨M'++post,by rw[h,List.append_assoc]⟩
theorem fc.right {α:Type} {L M M':List α} {at_:Nat} (h:fc L at_ (M++M')):fc L (at_+M.length) M':=by
 obtain⟨post,h⟩:=h;refine⟨post,?_⟩;rw[←List.drop_drop,h,List.append_assoc,List.drop_left]
theorem fc.le {α:Type} {L M:List α} {at_:Nat} (h:fc L at_ M) (hM:M≠[]):at_+M.length≤L.length:=by
 obtain⟨post,h⟩:=h;have:=congrArg List.length h;simp only[List.length_drop,List.length_append] at this
 have:0<M.length:=by cases M with|nil=>exact absurd rfl hM|cons _ _=>simp
 omega
theorem fc.all {α:Type} (L:List α):fc L 0 L:=⟨[],by simp⟩
mutual
def Tr.zs:Tr→List Int
 | .mk n ks=>((min (bL n ks.sz ks.len) 401:Nat):Int)::ks.zs
def bE.zs:bE→List Int
 | .nil=>[]
 | .cons t ts=>t.zs++ts.zs
end
mutual
def Tr.es:Tr→Nat→List Int
 | .mk n ks,at_=>((at_+1+ks.flat.length:Nat):Int)::ks.es (at_+1)
def bE.es:bE→Nat→List Int
 | .nil,_=>[]
 | .cons t ts,at_=>t.es at_++ts.es (at_+t.flat.length)
end
mutual
theorem Tr.iz:∀t:Tr,t.zs.length=t.flat.length
 | .mk n ks=>by simp[Tr.zs,Tr.flat,bE.iz ks]
theorem bE.iz:∀ts:bE,ts.zs.length=ts.flat.length
 | .nil=>rfl
 | .cons t ts=>by simp[bE.zs,bE.flat,Tr.iz t,bE.iz ts]
end
mutual
theorem Tr.iG:∀(t:Tr) (a:Nat),(t.es a).length=t.flat.length
 | .mk n ks,a=>by simp[Tr.es,Tr.flat,bE.iG ks]
theorem bE.iG:∀(ts:bE) (a:Nat),(ts.es a).length=ts.flat.length
 | .nil,_=>rfl
 | .cons t ts,a=>by simp[bE.es,bE.flat,Tr.iG t,bE.iG ts]
end
theorem Tr.gT (t:Tr):0<t.flat.length:=by cases t;simp[Tr.flat]
theorem bE.jY:∀ts:bE,ts.len≤ts.flat.length
 | .nil=>Nat.le_refl _
 | .cons t ts=>by
  have h1:=bE.jY ts;have h2:=t.gT;simp only[bE.len,bE.flat,List.length_append];omega
end Go.Proofs.Ytbdnabmmlbiomaa
namespace Go.V
variable{N:Nat} {S st:St} {H:List bP}
theorem cC.at_ {α β:Type} {R:α→β→Prop}:∀{l:List α} {m:List β} {i:Nat} {b:β},cC R l m→m[i]?=some b→∃a,l[i]?=some a∧R a b
 |_,_,_,_,.nil,h=>by simp at h
 |_,_,0,_,.cons a t,h=>by simp only[List.getElem?_cons_zero,Option.some.injEq] at h;subst h;exact⟨_,rfl,a⟩
 |_,_,i+1,_,.cons a t,h=>by simp only[List.getElem?_cons_succ] at h⊢;exact t.at_ h
theorem cC.set {α β:Type} {R:α→β→Prop} {a:α} {b:β} (r:R a b):∀{l:List α} {m:List β} (i:Nat),cC R l m→cC R (l.set i a) (m.set i b)
 |_,_,_,.nil=>.nil
 |_,_,0,.cons _ t=>.cons r t
 |_,_,i+1,.cons h t=>.cons h (t.set r i)
theorem cC.setMany {R:D→D→Prop}:∀{xs ys:List D} {c d:List D} (o:Nat),cC R xs ys→cC R c d→cC R (setMany c o xs) (setMany d o ys)
 |_,_,_,_,_,.nil,h=>h
 |_,_,_,_,o,.cons r t,h=>by simp only[Go.V.setMany];exact t.setMany (o+1) (h.set r o)
theorem cC.same {R:D→D→Prop}:∀{l:List D},(∀d∈l,R d d)→cC R l l
 |[],_=>.nil
 |d::l,h=>.cons (h d (List.mem_cons_self ..)) (cC.same fun x hx=>h x (List.mem_cons_of_mem _ hx))
theorem Has.N1 {j:Nat} {x:D} {s:Nat} {ks:Nat→Prop} {vs:List (List D)} (hH:Has N S st H) (hj:H[j]?=some (.deep ks x s vs)):∃es,Rows st s x es∧es.length=vs.length:=by
 obtain⟨⟨es,h1,h2⟩,_⟩:=(hH.ok j _ hj).1;exact⟨es,h1.rows,h2.len⟩
theorem Has.Sa {j k aA off len s:Nat} {ks:Nat→Prop} {vs:List (List D)} {i o:Nat} {v cs:List D} (h:Has N S st H) (hj:H[j]?=some (.deep ks (.win k aA off len s) s vs)) (hi:vs[i]?=some v) (hl:o+cs.length≤s) (hp:∀d∈cs,cw d=true) (hw:S.flr≤N∨refs cs=0):
  ∃ah,st.wr k aA (off+i*s+o) cs=some ah∧Has N S ah (H.set j (.deep ks (.win k aA off len s) s (vs.set i (setMany v o cs)))):=by
 obtain⟨⟨es,lf,zn⟩,he3⟩:=(h.ok j _ hj).1;have hK:=(h.ok j _ hj).2;obtain⟨e,Wj,aO⟩:=zn.at_ hi
 have zW:Has N S st [.aL (.win k aA off len s) s es]:=by
  refine⟨h.ex,h.hN,h.fU,fun i e hi=>?_,fun i i' a b hii ha hb k uU jc=>?_⟩
  ·cases i with
   |zero=>simp only[List.getElem?_cons_zero,Option.some.injEq] at hi;subst hi;exact⟨lf,fun k hk=>hK k (.inl hk)⟩
   |succ i=>simp at hi
  ·cases i with
   |zero=>cases i' with
    |zero=>exact hii rfl
    |succ i'=>simp at hb
   |succ i=>simp at ha
 obtain⟨ah,q1,q2⟩:=zW.xC (j:=0) aB Wj hl hw;refine⟨ah,q1,?_⟩;have hown:=q2.own (j:=0) aB
 have QI:(∀n,n≠k→ah.bs[n]?=st.bs[n]?)∧st.bs.length=ah.bs.length∧ah.flr=st.flr∧ah.ro=st.ro:=by
  unfold St.wr at q1
  split at q1
  ·split at q1
   ·cases q1;exact⟨fun n hn=>by simp only;rw[List.getElem?_set_ne (fun e=>hn e.symm)],by simp,rfl,rfl⟩
   ·cases q1
  ·cases q1
 obtain⟨c1,c2,c3,c4⟩:=QI;have hkk:=hK k (.inl (by simp only[D.ref]));have hne:∀n,ks n→n≠k:=fun n hn e=>he3 k (by simp only[D.ref]) (e▸hn);have uS:∀n,ks n→ah.bs[n]?=st.bs[n]?:=fun n hn=>c1 n (hne n hn);refine h.qI hj (fun n hn hnot=>c1 n fun e=>hnot (.inl (by simp only[D.ref];omega))) (Nat.le_of_eq c2) c3 c4 ⟨⟨_,hown,?_⟩,he3⟩ (fun n hn=>.inl hn) fun n hn=>?_
 ·refine cC.set ?_ i (zn.mono fun a b=>cC.mono fun c d=>e5.move uS);exact(cC.same fun d hd=>.plain d (hp d hd)).setMany o (aO.mono fun c d=>e5.move uS)
 ·rw[←c2];exact(hK n hn).2
variable{P:Pv} {ops:Array Oper} {rest:List Oper} {fr aJ:Fr} {Q:Fr→St→Prop} {ty:TypeId} {pp:String} {a:Array Edge} {g:Option (Nat×Bool)} {dst:Nat}
theorem ab.zC {t e:TypeId} {xo:Operand} {x:D} {s j:Nat} {ks:Nat→Prop} {vs:List (List D)} (hH:Has N S st H) (hg:aE ops fr ⟨some dst,.call ⟨.builtin .len,#[xo],#[t]⟩,ty,pp,a,g⟩=some true) (hx:fr.ev xo=x) (hj:H[j]?=some (.deep ks x s vs)) (ht:P.cD t=some (.slice e)) (hp:fr.put dst (.int .i64 (vs.length:Nat))=aJ)
  (h:ab P ops rest aJ st Q):ab P ops (⟨some dst,.call ⟨.builtin .len,#[xo],#[t]⟩,ty,pp,a,g⟩::rest) fr st Q:=by
 obtain⟨es,h1,h2⟩:=hH.N1 hj;exact ab.J2 hg hx h1 ht (by rw[h2];exact hp) h
theorem ab.BP {t e:TypeId} {xo io:Operand} {x:D} {s i j:Nat} {kk:IntKind} {ks:Nat→Prop} {vs:List (List D)} {aJ:D→Fr} (hH:Has N S st H) (hg:aE ops fr ⟨some dst,.indexAddr t xo io,ty,pp,a,g⟩=some true) (hx:fr.ev xo=x) (hi:fr.ev io=.int kk (i:Nat)) (hj:H[j]?=some (.deep ks x s vs)) (ht:P.cD t=some (.slice e)) (hs:b9 P e=some s) (hr:i<vs.length) (hp:∀p,fr.put dst p=aJ p)
  (h:∀p,nV x s i 0 p→ab P ops rest (aJ p) st Q):ab P ops (⟨some dst,.indexAddr t xo io,ty,pp,a,g⟩::rest) fr st Q:=by
 obtain⟨⟨es,lf,zn⟩,he3⟩:=(hH.ok j _ hj).1;have hlen:=zn.len
 cases lf with
 |nul=>simp at hlen;omega
 |win k aA off es c hm hl hc he=>
  refine ab.go hg rfl (d:=.ptr k aA (off+i*s)) (st1:=st) ?_ (hp _) (h _ ⟨k,aA,off,_,rfl,rfl⟩);simp only[dD,hx,hi,bV,ht,hs,Option.bind_some,St.mem_of hm,Option.isSome_some];rw[if_pos ⟨trivial,by omega,by omega,trivial⟩];rfl
theorem ab.py {t:TypeId} {ao vo:Operand} {x y v:D} {s i o j:Nat} {ks:Nat→Prop} {vs:List (List D)} {r cs:List D} (hH:Has N S st H) (hg:aE ops fr ⟨none,.store t ao vo,ty,pp,a,g⟩=some true) (ha:fr.ev ao=y) (hv:fr.ev vo=v) (hR:nV x s i o y) (gG:v.cells?=some cs) (hs:b9 P t=some cs.length) (hj:H[j]?=some (.deep ks x s vs)) (hr:vs[i]?=some r) (hl:o+cs.length≤s) (hq:∀d∈cs,cw d=true) (hw:S.flr≤N∨refs cs=0)
  (h:∀ah,Has N S ah (H.set j (.deep ks x s (vs.set i (setMany r o cs))))→ab P ops rest fr ah Q):ab P ops (⟨none,.store t ao vo,ty,pp,a,g⟩::rest) fr st Q:=by
 obtain⟨k,aA,off,len,rfl,rfl⟩:=hR;obtain⟨ah,h1,h2⟩:=hH.Sa hj hr hl hq hw;refine ab.N hg rfl (d:=.tup []) (st1:=ah) ?_ (h _ h2);simp only[dD,ha,hv,jM,gG,hs,if_pos trivial,h1];rfl
theorem af.K' {dy:Dy} {i:Nat} {l:List Oper} {d n loc tmp st} {Q:Out→Fr→St→Prop} (ws:List Nat) (F:(Nat→D)→Prop)
  (h1:ab P l.toArray l ⟨n,loc,[]⟩ st fun aJ ah=>∃f tmp,aJ=⟨n,aM loc ws f,tmp⟩∧ah=st∧F f) (h2:∀f tmp,F f→Q .next ⟨n,aM loc ws f,tmp⟩ st) (h0:fN i dy=[]:=by rfl):af P dy (.region i l.toArray d) ⟨n,loc,tmp⟩ st Q:=by
 refine af.fx ?_ h0;unfold ab at h1⊢;obtain⟨aJ,ah,h3,f,GY,rfl,rfl,h4⟩:=h1;exact⟨_,_,h3,h2 _ _ h4⟩
theorem jZ {n:Nat} {L loc:List D} {sf:List (Nat×D)} {ws:List Nat} {F:(Nat→D)→Prop} {st:St} (h:L=aM loc ws (fun k=>nth .bw L k)) (h2:F (fun k=>nth .bw L k)):∃(f:Nat→D) (tmp:List (Nat×D)),(⟨n,L,sf⟩:Fr)=⟨n,aM loc ws f,tmp⟩∧st=st∧F f:=⟨_,sf,by rw[←h],rfl,h2⟩
theorem ab.Mp {t1 t2:TypeId} {xo yo:Operand} {x y z:Int} (hg:aE ops fr ⟨some dst,.call ⟨.builtin .min,#[xo,yo],#[t1,t2]⟩,ty,pp,a,g⟩=some true) (hx:fr.ev xo=.int .i64 x) (hy:fr.ev yo=.int .i64 y) (hz:min x y=z) (hp:fr.put dst (.int .i64 z)=aJ) (h:ab P ops rest aJ st Q):ab P ops (⟨some dst,.call ⟨.builtin .min,#[xo,yo],#[t1,t2]⟩,ty,pp,a,g⟩::rest) fr st Q:=
 ab.Fv (t1:=t1) (t2:=t2) hg hx hy (by rw[hz];exact hp) h
theorem Has.uJ {N:Nat} {S s0 S2 st2:St} {H:List bP} {x:D} {s:Nat} {es R8:List (List D)} (h:Has N S s0 (.aL x s es::H)) (hS:S2.bs=s0.bs) (h2:Has N S2 st2 (.aL x s R8::H)):Has N S ⟨st2.bs.take s0.bs.length,s0.flr,s0.ro⟩ (.aL x s R8::H):=by
 refine h.sX hS h2 fun i e hi=>?_
 cases i with
 |zero=>simp only[List.getElem?_cons_zero,Option.some.injEq] at hi;subst hi;exact⟨_,rfl,fun k hk=>hk⟩
 |succ i=>exact⟨e,hi,fun k hk=>hk⟩
theorem Has.uK {N:Nat} {S s0 S2 st2:St} {H:List bP} {k:Nat} {b b':ig} {ks:Nat→Prop} {x:D} {s:Nat} {vs LJ:List (List D)} (h:Has N S s0 (.box k b::.deep ks x s vs::H)) (hS:S2.bs=s0.bs) (h2:Has N S2 st2 (.box k b'::.deep ks x s LJ::H)):Has N S ⟨st2.bs.take s0.bs.length,s0.flr,s0.ro⟩ (.box k b'::.deep ks x s LJ::H):=by
 refine h.sX hS h2 fun i e hi=>?_
 match i with
 |0=>simp only[List.getElem?_cons_zero,Option.some.injEq] at hi;subst hi;exact⟨_,rfl,fun k hk=>hk⟩
 |1=>simp only[List.getElem?_cons_succ,List.getElem?_cons_zero,Option.some.injEq] at hi;subst hi;exact⟨_,rfl,fun k hk=>hk⟩
 |i+2=>exact⟨e,hi,fun k hk=>hk⟩
theorem Has.E9 {N:Nat} {S st:St} {H:List bP} {a b c d e:bP} (h:Has N S st (a::b::c::d::e::H)):Has N S st (b::c::d::e::a::H):=by
 refine h.sub (fun i=>if i=4 then 0 else if i<4 then i+1 else i) (fun i j hij=>?_) (fun i x hi=>?_)
 ·(try simp only at hij)
  split at hij<;>split at hij<;>(try split at hij)<;>(try split at hij)<;>omega
 ·match i,hi with
  |0,hi=>exact hi
  |1,hi=>exact hi
  |2,hi=>exact hi
  |3,hi=>exact hi
  |4,hi=>exact hi
  |i+5,hi=>
   have h1:¬(i+5=4):=by omega
   have h2:¬(i+5<4):=by omega
   simp only[if_neg h1,if_neg h2];exact hi
theorem Has.kj {fr:Fr} {a k aA off j u u2:Nat} {t:TypeId} {ar:Bool} {c:List D} {d e e2:D} (hH:Has N S st H) (ha:fr.get a=.ptr k aA off) (hj:H[j]?=some (.box k (.mem aA ar c))) (hd:dp P t (c.drop off)=some d) (he:fr.get u=e) (zn:fr.get u2=e2):jj P fr st [.cell a t,.tmp u,.tmp u2]=some [d,e,e2]:=by
 simp only[jj,fy,ha,St.mem_of (hH.at hj),Option.bind_some,hd,Option.map_some,he,zn]
theorem af.kY {dy:Dy} {c1 c2:Code} {fr:Fr} {st:St} {Q:Out→Fr→St→Prop} (M:Fr→St→Prop) (h1:af P dy c1 fr st (ck P dy c2 (Ce M Q))) (h2:∀aJ ah,M aJ ah→Q .next aJ ah):af P dy c1 fr st (ck P dy c2 Q):=
 h1.mono fun o aJ ah h=>by
  cases o with
  |next=>exact af.merge M h h2
  |exit i=>exact h
  |ret=>exact h
end Go.V
namespace Go.Proofs.Ytbdnabmmlbiomaa
open Go.V Go
def wo (fr:Go.V.Fr) (k:Nat):Go.V.D:=Go.V.nth .bw fr.loc k
theorem zy {st:St} {L n:Nat} {kn:Bool} {k aA off len s:Nat}:bG st L kn n (.win k aA off len s)=bG st L false n (.win k aA off len s):=by
 cases n<;>rfl
theorem zw (l:List Rg):(l.map aw).map (·.map nS)=l.map aw:=by
 rw[List.map_map];rfl
theorem vE (l:List Rg):∀e∈l.map aw,∀d∈e,nf d=true:=by
 intro e he d hd;obtain⟨x,_,rfl⟩:=List.mem_map.1 he;simp only[aw,List.mem_cons,List.not_mem_nil,or_false] at hd
 rcases hd with rfl|rfl<;>rfl
theorem nH {N L j:Nat} {S st:St} {H:List bP} {x:D} {l:List Rg} (hH:Has N S st H) (hj:H[j]?=some (.aL x 2 (l.map aw))) (hx:∀k,x.ref=k+1→L≤k) {n:Nat} (hn:3≤n):bG st L false n x=some (bF l):=by
 rw[hH.yj hj hx (vE l) hn,zw,gL]
def N6 (gs:List (Nat×Nat)) (s s':eO) (d1:D) (b:Bool):Prop:=
 Cd gs s s' d1 b∨(s'=s∧d1=.nul∧b=false)
theorem xK {N k:Nat} {S s0:St} {H:List bP} {gs:List (Nat×Nat)} {bu:D} {aW:List Int} {s:eO} (ba:kc gs aW) (he:s.e=0) (hi:s.i<gs.length) (hH:Has N S s0 (.box k (.mem 0 false (aT gs bu s))::.aL bu 1 (aW.map aq)::H)):
  ∃d ah,Ev pv 110 [.ptr k 0 0] s0 d ah∧∃(d1:D) (b:Bool) (s':eO),d=.tup [d1,.bool b]∧N6 gs s s' d1 b∧Has N S ah (.box k (.mem 0 false (aT gs bu s'))::.aL bu 1 (aW.map aq)::H):=by
 have o_:=ba.gl;have fF:=ba.pl;refine Ev.jD rfl NZ rfl rfl rfl ?_;dsimp only[u3,u4,List.length,Nat.reduceSub,Nat.reduceAdd,w1,w2];have cy:=hH;have hH:=hH.cA;have cx:(ak .rw s0).bs=s0.bs:=rfl;generalize ak .rw s0=S2 at*;have Bs:Arg N S2 2 (cu gs) (gs.map a_):=Arg.pure (fun st=>cV st gs)
 obtain⟨g,hg⟩:∃g,gs[s.i]?=some g:=⟨gs[s.i]'hi,List.getElem?_eq_getElem _⟩
 have hO:(gs.map a_)[s.i]?=some (a_ g):=by rw[List.getElem?_map,hg];rfl
 refine qq<|qj fun K hK=>qm ?_;refine qm ?_;refine qe hK<|qq<|qq<|qj fun K hK=>qm ?_;refine qm ?_;refine qg ?_;refine qp (o:=2) ?_;refine ql hH aB ?_;obtain⟨_,st,aO,rfl,hH⟩:=w_ (s:=s) s.i hi hH;refine qv aO ?_;refine qe hK ?_;refine qc (fun hb=>?_) (fun hb=>?_)<;>try simp only[cs] at hb
 ·refine qq<|qj fun K hK=>qm ?_;refine qm ?_;refine qg ?_;refine qp (o:=2) ?_;refine ql hH aB ?_;obtain⟨_,st,aO,rfl,hH⟩:=cW (s:=s) s.i 4 (by omega) hH;refine qv aO ?_;refine qe hK<|qq<|qj fun K hK=>qm ?_;refine qm ?_;refine qe hK ?_;obtain⟨h1,h2,h3,h4⟩:=df (aW:=aW) (s:=s) (i:=s.i) (e:=4) he (by decide);refine af.ret ⟨rx,_,_,_,rfl,aj (rfl),?_⟩;exact⟨_,_,_,rfl,.inl ⟨h3,h4,by rw[h2];exact Nat.le_refl _,by rw[h2];omega,.inl rfl,.inl h1⟩,cy.ax cx hH⟩
 ·refine af.skip<|qq<|qj fun K hK=>qm ?_;refine qg ?_;refine qp (o:=0) ?_;refine ql hH aB ?_;refine qm ?_;refine qg ?_;refine qp (o:=2) ?_;refine ql hH aB ?_;refine qr fun N' FQ=>?_;refine qf (fo:=0) fun Uq PZ=>?_;refine qR ?_;refine qm ?_;refine qe hK<|qq<|qj fun K hK=>qm ?_;refine qe hK<|af.block<|qq<|qj fun K hK=>qg ?_;refine qm ?_;refine qe hK ?_;refine af.cond (by rfl) (fun q1=>?_) (fun q1=>?_)<;>try simp only[beq_iff_eq,beq_eq_false_iff_ne,ne_eq] at q1
  ·refine qq<|qj fun K hK=>qm ?_;obtain⟨_,st,aO,d1,b,s',rfl,hP,hH⟩:=xA (s:=s) ba he hi hH;refine qv aO ?_;refine qg ?_;refine qg ?_;refine qm ?_;refine qm ?_;refine qe hK ?_
   rcases hP.2.2.2.2.1 with rfl|⟨a,rfl,_⟩
   ·refine af.ret ⟨rx,_,_,_,rfl,aj (rfl),?_⟩;exact⟨_,_,_,rfl,.inl hP,cy.ax cx hH⟩
   ·refine af.ret ⟨rx,_,_,_,rfl,aj (rfl),?_⟩;exact⟨_,_,_,rfl,.inl hP,cy.ax cx hH⟩
  ·refine qq<|qq<|qj fun K hK=>qg ?_;refine qm ?_;refine qe hK ?_
   by_cases Lq:((g.1:Nat):Int)=91
   ·refine qD rfl (by simp[Lq]) ?_;refine af.skip<|qD rfl (by simp[Lq]) ?_;refine qq<|qj fun K hK=>qm ?_;refine qm ?_;refine qe hK<|af.ret ⟨rx,_,_,_,rfl,aj (rfl),?_⟩;exact⟨_,_,_,rfl,.inr ⟨rfl,rfl,rfl⟩,cy.ax cx hH⟩
   refine qE rfl (by simp[Lq]) ?_;refine qq<|qj fun K hK=>qg ?_;refine qm ?_;refine qe hK ?_
   by_cases OI:((g.1:Nat):Int)=93
   ·refine qD rfl (by simp[OI]) ?_;refine af.skip<|qD rfl (by simp[OI]) ?_;refine qq<|qj fun K hK=>qm ?_;refine qm ?_;refine qe hK<|af.ret ⟨rx,_,_,_,rfl,aj (rfl),?_⟩;exact⟨_,_,_,rfl,.inr ⟨rfl,rfl,rfl⟩,cy.ax cx hH⟩
   refine qE rfl (by simp[OI]) ?_;refine qj fun K hK=>qg ?_;refine qm ?_;refine qe hK ?_
   by_cases SH:((g.1:Nat):Int)=45
   ·refine qD rfl (by simp[SH]) ?_;refine qq<|qj fun K hK=>qm ?_;refine qm ?_;refine qe hK<|af.ret ⟨rx,_,_,_,rfl,aj (rfl),?_⟩;exact⟨_,_,_,rfl,.inr ⟨rfl,rfl,rfl⟩,cy.ax cx hH⟩
   refine qE rfl (by simp[SH]) ?_;refine qq<|qj fun K hK=>qm ?_;refine qg ?_;refine qp (o:=2) ?_;refine ql hH aB ?_;refine qA ?_;refine qg ?_;refine qp (o:=2) ?_;refine qT hH aB fun st hH=>?_;dsimp only[u2,u1,u3,u4,setMany,u5,u6,D.cells,Nat.reduceAdd,aT,a_,aq,aw] at hH;refine qe hK<|qq<|qj fun K hK=>qm ?_;refine qm ?_;refine ab.fX (qs:=[(0,_),(1,_)]) rfl rfl rfl rfl ⟨rfl,(ev rfl),(by rfl),rfl,(ev rfl),(by rfl),trivial⟩ (by intro q hq;simp only[List.mem_cons,List.not_mem_nil,or_false] at hq;rcases hq with rfl|rfl<;>exact⟨rfl,by exact Nat.le_of_ble_eq_true rfl⟩) (by show List.foldl _ [_,_] _=_;dsimp only[List.foldl_cons,List.foldl_nil,u2,u1]<;>rfl) (ae rfl _) ?_;refine qh (s:=2) (vs:=[_]) hH fun k39 st V0 hH=>?_;refine qm ?_;refine qm ?_;refine qe hK ?_;have hH:Has N S2 st (.aL (.win k39 0 0 1 2) 2 (([((g.1:Nat),(g.1:Nat))]:List Rg).map aw)::.box k (.mem 0 false (aT gs bu {s with i:=s.i+1}))::.aL bu 1 (aW.map aq)::H):=hH;have hfz:=nH hH aB (L:=s0.bs.length) (n:=15) (fun k hk=>by simp only[D.ref] at hk;rw[←cx];omega) (by decide)
   have Qu:bG st s0.bs.length true 16 (pR [.win k39 0 0 1 2,.bool true])=some (.tup [bF [(((g.1:Nat):Int),((g.1:Nat):Int))],.bool true]):=by
    show(ia (bG st s0.bs.length true 15) [.win k39 0 0 1 2,.bool true]).map D.tup=_;simp only[ia,zy,hfz];rfl
   refine af.ret ⟨rx,_,_,_,rfl,aj Qu,⟨_,_,{s with i:=s.i+1},rfl,.inl ⟨rfl,rfl,?_,?_,.inr ⟨_,rfl,by simp⟩,.inr ⟨he,?_,_,rfl,?_,?_⟩⟩,cy.ax cx (hH.drop 1)⟩⟩
   ·show s.i≤s.i+1;omega
   ·show s.i+1≤_;omega
   ·show s.i<s.i+1;omega
   ·simp
   ·simp
def N8 (gs:List (Nat×Nat)) (s s':eO) (d:D):Prop:=
 s'.o=s.o∧s'.g=s.g∧s.i≤s'.i∧s'.i≤gs.length∧∃a:List Rg,d=bF a∧a.length≤8∧(s'.e≠0∨s'.e=0∧s.i<s'.i)
theorem gg {gs:List (Nat×Nat)} {s:eO} {r:Int}:(cT gs s r).o=s.o∧(cT gs s r).g=s.g∧(cT gs s r).e=s.e∧s.i≤(cT gs s r).i∧(s.i≤gs.length→(cT gs s r).i≤gs.length):=by
 unfold cT
 split
 ·rename_i h;have:=o0 h;exact⟨rfl,rfl,rfl,by show s.i≤s.i+1;omega,fun _=>by show s.i+1≤_;omega⟩
 ·exact⟨rfl,rfl,rfl,Nat.le_refl _,fun h=>h⟩
theorem FC {N k:Nat} {S s0:St} {H:List bP} {gs:List (Nat×Nat)} {bu:D} {aW:List Int} {s:eO} (ba:kc gs aW) (he:s.e=0) (hi:s.i<gs.length) (hH:Has N S s0 (.box k (.mem 0 false (aT gs bu s))::.aL bu 1 (aW.map aq)::H)):
  ∃d ah,Ev pv 94 [.ptr k 0 0] s0 d ah∧∃(s':eO),N8 gs s s' d∧Has N S ah (.box k (.mem 0 false (aT gs bu s'))::.aL bu 1 (aW.map aq)::H):=by
 have o_:=ba.gl;have fF:=ba.pl;refine Ev.jD rfl Q_ rfl rfl rfl ?_;dsimp only[u3,u4,List.length,Nat.reduceSub,Nat.reduceAdd,w1,w2];have cy:=hH;have hH:=hH.cA;have cx:(ak .rw s0).bs=s0.bs:=rfl;generalize ak .rw s0=S2 at*;have Bs:Arg N S2 2 (cu gs) (gs.map a_):=Arg.pure (fun st=>cV st gs);refine qq<|qj fun K hK=>qm ?_;refine qe hK<|qq<|qj fun K hK=>qm ?_;refine qg ?_;refine qp (o:=2) ?_;refine ql hH aB ?_;refine qm ?_;refine qe hK<|qq<|qj fun K hK=>qm ?_;obtain⟨_,st,aO,d1,b,s1,rfl,hP,hH⟩:=xK (s:=s) ba he hi hH;refine qv aO ?_;refine qm ?_;refine qg ?_;refine qg ?_;refine qm ?_;refine qm ?_;refine qe hK<|qq<|qq<|qj fun K hK=>qm ?_;refine qg ?_;refine qp (o:=5) ?_;refine ql hH aB ?_;refine qg ?_;refine qe hK ?_
 rcases hP with hP|⟨e1,rfl,rfl⟩
 ·obtain⟨p1,p2,p3,p4,p5,p6⟩:=hP
  rcases p6 with p6|⟨p6,p7,a,rfl,p8,p9⟩
  ·refine qD rfl (by simp[p6]) ?_;refine qq<|qj fun K hK=>qm ?_;refine qe hK<|af.ret ⟨rx,_,_,_,rfl,aj (rfl),?_⟩;exact⟨s1,⟨p1,p2,p3,p4,[],rfl,by simp,.inl p6⟩,cy.ax cx hH⟩
  ·obtain⟨q,a',rfl⟩:∃q a',a=q::a':=List.exists_cons_of_ne_nil p9;refine qE rfl (by simp[p6]) ?_;refine af.skip<|qq<|qq<|qj fun K hK=>qm ?_;refine ab.go (d:=.bool false) (st1:=_) rfl rfl rfl (ae rfl _) ?_;refine qe hK<|qC ?_;refine af.skip ?_;obtain⟨k1,k2,k3,k4,k5⟩:=gg (gs:=gs) (s:=s1) (r:=45);have k5:=k5 p4;refine qq<|qq<|qj fun K hK=>qm ?_;obtain⟨_,st,aO,rfl,hH⟩:=dG (s:=s1) (by omega) 45 hH;refine qv aO ?_;refine qg ?_;refine qe hK ?_;generalize cT gs s1 45=s2 at*
   cases hb:iJ gs s1.i 45 with
   |false=>
    refine qB ?_;refine qq<|qj fun K hK=>qm ?_;refine qm ?_;refine qe hK<|af.ret ⟨rx,_,_,_,rfl,aj (rfl),?_⟩;exact⟨s2,⟨k1.trans p1,k2.trans p2,by omega,k5,q::a',rfl,p8,.inr ⟨k3.trans p6,by omega⟩⟩,cy.ax cx hH⟩
   |true=>
    refine qC ?_;refine af.skip<|qq<|qj fun K hK=>qm ?_;refine qe hK<|qq<|qj fun K hK=>qm ?_;refine qe hK<|qq<|qq<|qj fun K hK=>qm ?_;refine qg ?_;refine qp (o:=2) ?_;refine ql hH aB ?_;refine qm ?_;refine qg ?_;refine qp (o:=0) ?_;refine ql hH aB ?_;refine qn ?_;simp only[List.length_map];refine qg ?_;refine qe hK<|af.merge (fun fr st=>∃(d2:D) (two:Bool) (s3:eO) (tmp:List (Nat×D)),fr=⟨8,[.ptr k 0 0,wo fr 1,wo fr 2,.int .i64 (s.i:Nat),bF (q::a'),.bool b,d2,.bool two],tmp⟩∧Has N S2 st (.box k (.mem 0 false (aT gs bu s3))::.aL bu 1 (aW.map aq)::H)∧(s3.o=s.o)∧(s3.g=s.g)∧(s2.i≤s3.i)∧(s3.i≤gs.length)∧(s3.e≠0∨s3.e=0∧(two=false∨∃a2:List Rg,d2=bF a2∧a2≠[]))) ?_ ?_
    ·refine af.cond (by rfl) (fun hlt=>?_) (fun hlt=>?_)<;>try simp only[decide_eq_true_eq,decide_eq_false_iff_not] at hlt
     ·refine qj fun K hK=>qm ?_;obtain⟨_,st,aO,d2,two,s3,rfl,WA,hH⟩:=xK (s:=s2) ba (k3.trans p6) (by omega) hH;refine qv aO ?_;refine qm ?_;refine qg ?_;refine qg ?_;refine qm ?_;refine qm ?_;refine qe hK ?_
      rcases WA with⟨r1,r2,r3,r4,r5,r6⟩|⟨e1,rfl,rfl⟩
      ·refine⟨d2,two,s3,_,rfl,hH,r1.trans (k1.trans p1),r2.trans (k2.trans p2),r3,r4,?_⟩
       rcases r6 with r6|⟨r6,r7,a2,rfl,r8,r9⟩
       ·exact .inl r6
       ·refine .inr ⟨r6,?_⟩
        cases two with
        |false=>exact .inl rfl
        |true=>exact .inr ⟨a2,rfl,r9⟩
      ·exact⟨.nul,false,s3,_,rfl,hH,by rw[e1];exact k1.trans p1,by rw[e1];exact k2.trans p2,by rw[e1];exact Nat.le_refl _,by rw[e1];exact k5,.inr ⟨by rw[e1];exact k3.trans p6,.inl rfl⟩⟩
     ·refine af.skip ?_;exact⟨.nul,false,s2,_,rfl,hH,k1.trans p1,k2.trans p2,Nat.le_refl _,k5,.inr ⟨k3.trans p6,.inl rfl⟩⟩
    ·rintro fr st ⟨d2,two,s3,tmp,hfr,hH,h1,h2,h3,h4,h5⟩;rw[hfr];clear hfr;generalize wo fr=ee;clear fr
     rcases h5 with h5|⟨h5,h6⟩
     ·have bA:(s3.e==0)=false:=by simpa using h5
      refine qq<|qq<|qj fun K hK=>qm ?_;refine qg ?_;refine qp (o:=5) ?_;refine ql hH aB ?_;refine qg ?_;refine qm ?_;refine qs ?_ (hg:=wn bA);refine qs ?_ (hg:=wn bA);refine qs ?_ (hg:=wn bA);refine qs ?_;refine qs ?_;refine qs ?_ (hg:=wn bA);refine qs ?_ (hg:=wn bA);refine qs ?_;refine qs ?_;refine qs ?_;refine qs ?_;refine qs ?_;refine qs ?_;refine qs ?_;refine qs ?_;refine qs ?_;refine qs ?_ (hg:=wn bA);refine qu bA ?_;refine qe hK<|qC ?_;refine af.skip<|qq<|qq<|qj fun K hK=>qm ?_;refine qg ?_;refine qp (o:=5) ?_;refine ql hH aB ?_;refine qg ?_;refine qe hK<|qD rfl (by simp[h5]) ?_;refine qq<|qj fun K hK=>qm ?_;refine qe hK<|af.ret ⟨rx,_,_,_,rfl,aj (rfl),?_⟩;exact⟨s3,⟨h1,h2,by omega,h4,[],rfl,by simp,.inl h5⟩,cy.ax cx hH⟩
     ·have bA:(s3.e==0)=true:=by simpa using h5
      cases b with
      |false=>
       have dc:(!false)=true:=rfl;refine qq<|qq<|qj fun K hK=>qm ?_;refine qg ?_;refine qp (o:=5) ?_;refine ql hH aB ?_;refine qg ?_;refine qm ?_;refine qm ?_ (hg:=wi bA);refine qg ?_ (hg:=wi bA);refine qm ?_ (hg:=wi bA);refine qs ?_ (hg:=wn dc);refine qs ?_ (hg:=wn dc);refine ab.dI (aD rfl rfl rfl bA) rfl dc (ae rfl _) ?_;refine qm ?_ (hg:=wi bA);refine qs ?_;refine qs ?_;refine qs ?_;refine qs ?_;refine qs ?_;refine qs ?_;refine qs ?_;refine qs ?_;refine qs ?_;refine qg ?_ (hg:=wi bA);refine qt bA ?_;refine qe hK<|qB ?_;refine qj fun K hK=>qm ?_;refine qm ?_;obtain⟨_,st,aO,rfl,hH⟩:=cW (s:=s3) s.i 4 (by omega) hH;refine qv aO ?_;refine qe hK ?_;obtain⟨w1,w2,w3,w4⟩:=df (aW:=aW) (s:=s3) (i:=s.i) (e:=4) h5 (by decide);generalize iA aW s3 s.i 4=s4 at*;refine qq<|qq<|qj fun K hK=>qm ?_;refine qg ?_;refine qp (o:=5) ?_;refine ql hH aB ?_;refine qg ?_;refine qe hK<|qD rfl (by simp[w1]) ?_;refine qq<|qj fun K hK=>qm ?_;refine qe hK<|af.ret ⟨rx,_,_,_,rfl,aj (rfl),?_⟩;exact⟨s4,⟨w3.trans h1,w4.trans h2,by omega,by omega,[],rfl,by simp,.inl w1⟩,cy.ax cx hH⟩
      |true=>
       have dc:(!true)=false:=rfl
       cases two with
       |false=>
        have db:(!false)=true:=rfl;refine qq<|qq<|qj fun K hK=>qm ?_;refine qg ?_;refine qp (o:=5) ?_;refine ql hH aB ?_;refine qg ?_;refine qm ?_;refine qm ?_ (hg:=wi bA);refine qg ?_ (hg:=wi bA);refine qm ?_ (hg:=wi bA);refine qm ?_ (hg:=wi dc);refine qg ?_ (hg:=wi dc);refine ab.da (aD rfl rfl rfl bA) rfl dc (ae rfl _) ?_;refine qm ?_ (hg:=wi bA);refine qs ?_ (hg:=wn db);refine qs ?_ (hg:=wn db);refine qs ?_ (hg:=wn db);refine qs ?_ (hg:=wn db);refine qs ?_ (hg:=wn db);refine qs ?_ (hg:=wn db);refine qs ?_ (hg:=wn db);refine qs ?_ (hg:=wn db);refine qs ?_ (hg:=wn db);refine ab.dI (aD rfl rfl rfl bA) rfl db (ae rfl _) ?_;refine qt bA ?_;refine qe hK<|qB ?_;refine qj fun K hK=>qm ?_;refine qm ?_;obtain⟨_,st,aO,rfl,hH⟩:=cW (s:=s3) s.i 4 (by omega) hH;refine qv aO ?_;refine qe hK ?_;obtain⟨w1,w2,w3,w4⟩:=df (aW:=aW) (s:=s3) (i:=s.i) (e:=4) h5 (by decide);generalize iA aW s3 s.i 4=s4 at*;refine qq<|qq<|qj fun K hK=>qm ?_;refine qg ?_;refine qp (o:=5) ?_;refine ql hH aB ?_;refine qg ?_;refine qe hK<|qD rfl (by simp[w1]) ?_;refine qq<|qj fun K hK=>qm ?_;refine qe hK<|af.ret ⟨rx,_,_,_,rfl,aj (rfl),?_⟩;exact⟨s4,⟨w3.trans h1,w4.trans h2,by omega,by omega,[],rfl,by simp,.inl w1⟩,cy.ax cx hH⟩
       |true=>
        have db:(!true)=false:=rfl
        obtain⟨a2,rfl,h7⟩:∃a2:List Rg,d2=bF a2∧a2≠[]:=by
         rcases h6 with h6|h6
         ·cases h6
         ·exact h6
        obtain⟨q2,TI,rfl⟩:∃q a',a2=q::a':=List.exists_cons_of_ne_nil h7;have MQ:=(iO (q::a')).arg N S2;have Kw:=(iO (q2::TI)).arg N S2;have MR:((q::a').map aw)[0]?=some (aw q):=rfl;have hO:((q2::TI).map aw)[0]?=some (aw q2):=rfl;refine qq<|qq<|qj fun K hK=>qm ?_;refine qg ?_;refine qp (o:=5) ?_;refine ql hH aB ?_;refine qg ?_;refine qm ?_;refine qm ?_ (hg:=wi bA);refine qg ?_ (hg:=wi bA);refine qm ?_ (hg:=wi bA);refine qm ?_ (hg:=wi dc);refine qg ?_ (hg:=wi dc);refine ab.da (aD rfl rfl rfl bA) rfl dc (ae rfl _) ?_;refine qm ?_ (hg:=wi bA);refine qm ?_ (hg:=wi db);refine qr (fun Xv Vj=>?_) (hg:=wi db);refine qf (fo:=0) (fun Xu Vi=>?_) (hg:=wi db);refine qR ?_ (hg:=wi db);refine qm ?_ (hg:=wi db);refine qr (fun Ud PK=>?_) (hg:=wi db);refine qf (fo:=0) (fun Xs Vg=>?_) (hg:=wi db);refine qR ?_ (hg:=wi db);refine qg ?_ (hg:=wi db);refine ab.da (aD rfl rfl rfl bA) rfl db (ae rfl _) ?_;refine qt bA ?_;refine qe hK ?_;refine af.cond (by rfl) (fun hgt=>?_) (fun hgt=>?_)<;>try simp only[decide_eq_true_eq,decide_eq_false_iff_not] at hgt
        ·refine qj fun K hK=>qm ?_;refine qm ?_;obtain⟨_,st,aO,rfl,hH⟩:=cW (s:=s3) s.i 4 (by omega) hH;refine qv aO ?_;refine qe hK ?_;obtain⟨w1,w2,w3,w4⟩:=df (aW:=aW) (s:=s3) (i:=s.i) (e:=4) h5 (by decide);generalize iA aW s3 s.i 4=s4 at*;refine qq<|qq<|qj fun K hK=>qm ?_;refine qg ?_;refine qp (o:=5) ?_;refine ql hH aB ?_;refine qg ?_;refine qe hK<|qD rfl (by simp[w1]) ?_;refine qq<|qj fun K hK=>qm ?_;refine qe hK<|af.ret ⟨rx,_,_,_,rfl,aj (rfl),?_⟩;exact⟨s4,⟨w3.trans h1,w4.trans h2,by omega,by omega,[],rfl,by simp,.inl w1⟩,cy.ax cx hH⟩
        ·refine af.skip<|qq<|qq<|qj fun K hK=>qm ?_;refine qg ?_;refine qp (o:=5) ?_;refine ql hH aB ?_;refine qg ?_;refine qe hK<|qE rfl (by simp[h5]) ?_;refine af.skip<|qq<|qj fun K hK=>qm ?_;refine qr fun Ua PH=>?_;refine qf (fo:=0) fun Xp Vd=>?_;refine qR ?_;refine qm ?_;refine qr fun Xo Vc=>?_;refine qf (fo:=0) fun Xn Vb=>?_;refine qR ?_;refine ab.fX (qs:=[(0,_),(1,_)]) rfl rfl rfl rfl ⟨rfl,(ev rfl),(by rfl),rfl,(ev rfl),(by rfl),trivial⟩ (by intro q hq;simp only[List.mem_cons,List.not_mem_nil,or_false] at hq;rcases hq with rfl|rfl<;>exact⟨rfl,by exact Nat.le_of_ble_eq_true rfl⟩) (by show List.foldl _ [_,_] _=_;dsimp only[List.foldl_cons,List.foldl_nil,u2,u1]<;>rfl) (ae rfl _) ?_;refine qh (s:=2) (vs:=[_]) hH fun k87 st VK hH=>?_;dsimp only[u2,u1,u3,u4,setMany,u5,u6,D.cells,Nat.reduceAdd,aT,a_,aq,aw] at hH;refine qm ?_;refine qe hK ?_;have hH:Has N S2 st (.aL (.win k87 0 0 1 2) 2 (([(q.1,q2.1)]:List Rg).map aw)::.box k (.mem 0 false (aT gs bu s3))::.aL bu 1 (aW.map aq)::H):=hH;have hfz:=nH hH aB (L:=s0.bs.length) (n:=16) (fun k hk=>by simp only[D.ref] at hk;rw[←cx];omega) (by decide);refine af.ret ⟨rx,_,_,_,rfl,aj hfz,⟨s3,⟨h1,h2,by omega,h4,[(q.1,q2.1)],rfl,by simp,.inr ⟨h5,by omega⟩⟩,cy.ax cx (hH.drop 1)⟩⟩
 ·have e2:s1.e=0:=by rw[e1];exact he
  have e3:s1.i=s.i∧s1.o=s.o∧s1.g=s.g:=by rw[e1];exact⟨rfl,rfl,rfl⟩
  clear e1;refine qE rfl (by simp[e2]) ?_;refine af.skip<|qq<|qq<|qj fun K hK=>qm ?_;refine ab.go (d:=.bool true) (st1:=_) rfl rfl rfl (ae rfl _) ?_;refine qe hK<|qB ?_;refine qq<|qj fun K hK=>qm ?_;refine qm ?_;obtain⟨_,st,aO,rfl,hH⟩:=cW (s:=s1) s.i 4 (by omega) hH;refine qv aO ?_;refine qe hK ?_;obtain⟨w1,w2,w3,w4⟩:=df (aW:=aW) (s:=s1) (i:=s.i) (e:=4) e2 (by decide);refine qq<|qj fun K hK=>qm ?_;refine qe hK<|af.ret ⟨rx,_,_,_,rfl,aj (rfl),?_⟩;exact⟨_,⟨by omega,by omega,by omega,by omega,[],rfl,by simp,.inl w1⟩,cy.ax cx hH⟩
end Go.Proofs.Ytbdnabmmlbiomaa
namespace Go.Proofs.Ytbdnabmmlbiomaa
open Go.V Go
def wm (fr:Go.V.Fr) (k:Nat):Go.V.D:=Go.V.nth .bw fr.loc k
def tH (n:dr):Prop:=n.rd=bF n.rs∧n.rs.length≤1048576∧n.kids≤1048576
def sJ (op mn mx:Int) (lz:Bool) (cap kids:Int) (a:List Rg):dr:=⟨op,bF a,a,mn,mx,lz,cap,kids⟩
def tB (l:List dr):D:=.sl ((l.map a8).map (jK 7))
theorem Fm (l:List dr):∀e∈l.map a8,e.length=7:=by
 intro e he;obtain⟨x,_,rfl⟩:=List.mem_map.1 he;rfl
theorem mD {l:List dr} (h:∀n∈l,tH n):∀e∈l.map a8,∀d∈e,cw d=true:=by
 intro e he d hd;obtain⟨n,hn,rfl⟩:=List.mem_map.1 he;have hr:=(h n hn).1;simp only[a8,hr,List.mem_cons,List.not_mem_nil,or_false] at hd
 rcases hd with rfl|rfl|rfl|rfl|rfl|rfl|rfl<;>rfl
theorem qZ {l:List dr} (h:∀n∈l,tH n):gY (tB l) 7 (l.map a8):=gY.frozen (Fm l) (mD h)
theorem Mm {l:List dr} (h:∀n∈l,tH n) (hl:l.length≤1048576):(⟨tB l,l⟩:Nl).ok:=by
 refine⟨qZ h,fun n hn=>?_,hl⟩;obtain⟨h1,h2,h3⟩:=h n hn;exact⟨by rw[h1];exact iO _,h2,by omega⟩
theorem sG {l:List dr} (h:∀n∈l,tH n):(l.map a8).map (·.map nS)=l.map a8:=by
 rw[List.map_map];refine List.map_congr_left fun n hn=>?_;have hr:=(h n hn).1;show(a8 n).map nS=a8 n;unfold a8;rw[hr];rfl
theorem oQ {l:List dr} (h:∀n∈l,tH n):∀e∈l.map a8,∀d∈e,nf d=true:=by
 intro e he d hd;have:=mD h e he d hd
 cases d<;>first|rfl|exact this
theorem ir {N L j:Nat} {S st:St} {H:List bP} {x:D} {es:List (List D)} {l:List dr} (hH:Has N S st H) (hj:H[j]?=some (.aL x 7 es)) (he:es.map (·.map nS)=l.map a8) (ht:∀e∈es,∀d∈e,nf d=true) (hx:∀k,x.ref=k+1→L≤k) {n:Nat} (hn:3≤n):bG st L false n x=some (tB l):=by
 rw[hH.yj hj hx ht hn,he];rfl
theorem iu {N L j:Nat} {S st:St} {H:List bP} {x w:D} {op mn mx cap kids:Int} {lz:Bool} {a:List Rg} (hH:Has N S st H) (hj:H[j]?=some (.aL x 7 [[.int .i64 op,w,.int .i64 mn,.int .i64 mx,.bool lz,.int .i64 cap,.int .i64 kids]])) (hw:w=bF a∨w=.nul∧a=[]) (hx:∀k,x.ref=k+1→L≤k):bG st L false 16 x=some (tB [sJ op mn mx lz cap kids a]):=by
 refine ir hH hj ?_ (fun e he d hd=>?_) hx (by decide)
 ·rcases hw with rfl|⟨rfl,rfl⟩<;>rfl
 ·simp only[List.mem_cons,List.not_mem_nil,or_false] at he;subst he;simp only[List.mem_cons,List.not_mem_nil,or_false] at hd
  rcases hw with rfl|⟨rfl,rfl⟩<;>rcases hd with rfl|rfl|rfl|rfl|rfl|rfl|rfl<;>rfl
theorem A4 {op mn mx cap kids:Int} {lz:Bool} {a:List Rg} (h:a.length≤1048576) (hk:kids≤1048576):∀n∈[sJ op mn mx lz cap kids a],tH n:=by
 intro n hn;simp only[List.mem_cons,List.not_mem_nil,or_false] at hn;subst hn;exact⟨rfl,h,hk⟩
def tx (gs:List (Nat×Nat)) (s s':eO) (d:D):Prop:=
 s'.o=s.o∧s'.g≤4∧s.i≤s'.i∧s'.i≤gs.length∧∃l:List dr,d=tB l∧(∀n∈l,tH n)∧l.length≤4*(s'.i-s.i)+1
def iI (gs:List (Nat×Nat)) (s s':eO) (d:D) (c:Nat):Prop:=
 s'.o=s.o∧s'.g≤4∧s.i≤s'.i∧s'.i≤gs.length∧∃l:List dr,d=tB l∧(∀n∈l,tH n)∧l.length≤4*(s'.i-s.i)+1∧(s'.e≠0∨s'.e=0∧l.length+c≤4*(s'.i-s.i))
theorem fL {gs:List (Nat×Nat)} {s s':eO} {c:Nat} (h1:s'.o=s.o) (h2:s'.g≤4) (h3:s.i≤s'.i) (h4:s'.i≤gs.length) (h5:s'.e≠0):iI gs s s' (.sl []) c:=
 ⟨h1,h2,h3,h4,[],rfl,fun n hn=>(by cases hn),by simp,.inl h5⟩
theorem BV {N k:Nat} {S s0:St} {H:List bP} {gs:List (Nat×Nat)} {bu:D} {aW:List Int} {s:eO} (ba:kc gs aW) (he:s.e=0) (hi:s.i<gs.length) (hg:s.g≤4) (hH:Has N S s0 (.box k (.mem 0 false (aT gs bu s))::.aL bu 1 (aW.map aq)::H)):
  ∃d ah,Ev pv 85 [.ptr k 0 0] s0 d ah∧∃(s':eO),iI gs s s' d 2∧Has N S ah (.box k (.mem 0 false (aT gs bu s'))::.aL bu 1 (aW.map aq)::H):=by
 have o_:=ba.gl;have fF:=ba.pl;refine Ev.jD rfl Rh rfl rfl rfl ?_;dsimp only[u3,u4,List.length,Nat.reduceSub,Nat.reduceAdd,w1,w2];have cy:=hH;have hH:=hH.cA;have cx:(ak .rw s0).bs=s0.bs:=rfl;generalize ak .rw s0=S2 at*;have Bs:Arg N S2 2 (cu gs) (gs.map a_):=Arg.pure (fun st=>cV st gs);refine qq<|qj fun K hK=>qm ?_;refine qe hK<|qq<|qj fun K hK=>qm ?_;refine qg ?_;refine qp (o:=2) ?_;refine ql hH aB ?_;refine qm ?_;refine qe hK<|qq<|qj fun K hK=>qm ?_;refine qg ?_;refine qp (o:=2) ?_;refine ql hH aB ?_;refine qA ?_;refine qg ?_;refine qp (o:=2) ?_;refine qT hH aB fun st hH=>?_;dsimp only[u2,u1,u3,u4,setMany,u5,u6,D.cells,Nat.reduceAdd,aT,a_,aq,aw] at hH;refine qe hK ?_;have hH:Has N S2 st (.box k (.mem 0 false (aT gs bu {s with i:=s.i+1}))::.aL bu 1 (aW.map aq)::H):=hH;obtain⟨k1,k2,k3,k4,k5⟩:=gg (gs:=gs) (s:={s with i:=s.i+1}) (r:=94);have k5:=k5 (by show s.i+1≤_;omega);simp only at k1 k2 k3 k4;refine qq<|qj fun K hK=>qm ?_;obtain⟨_,st,aO,rfl,hH⟩:=dG (s:={s with i:=s.i+1}) (by omega) 94 hH;refine qv aO ?_;refine qm ?_;refine qe hK ?_;generalize cT gs {s with i:=s.i+1} 94=s1 at*;generalize iJ gs ({s with i:=s.i+1}:eO).i 94=nt at*;refine qq<|qj fun K hK=>qm ?_;refine qe hK<|qq<|qj fun K hK=>qm ?_;refine qe hK ?_
 have hH:Has N S2 st (.box k (.mem 0 false (aT gs bu s1))::.aL bu 1 (aW.map aq)::.aL .nul 2 (([]:List Rg).map aw)::H):=((hH.eB 2).front b4|>.front cU|>fun h=>(h.front b4))
 refine qq<|af.block<|af.loop (fun mm fr st=>∃(s1:eO) (ld:D) (lr:List Rg) (nn:Bool),fr.clean=⟨7,[.ptr k 0 0,wm fr 1,wm fr 2,.int .i64 (s.i:Nat),.bool nt,ld,.bool nn],[]⟩∧Has N S2 st (.box k (.mem 0 false (aT gs bu s1))::.aL bu 1 (aW.map aq)::.aL ld 2 (lr.map aw)::H)∧(s1.o=s.o)∧(s1.g=s.g)∧(s.i<s1.i)∧(s1.i≤gs.length)∧(lr.length≤8*s1.i+8)∧(s1.e=0→lr.length≤8*s1.i)∧(gs.length-s1.i+(if s1.e=0 then 1 else 0)≤mm)) (gs.length+1) ?_ ?_
 ·exact⟨s1,.nul,[],true,rfl,hH,k1,k2,by omega,k5,by simp,fun _=>by simp,by split<;>omega⟩
 rintro mm fr st ⟨s1,ld,lr,nn,hfr,hH,h1,h2,h3,h4,h5,h6,vA⟩;rw[hfr];clear hfr;generalize wm fr=ee;clear fr
 by_cases lf:s1.e=0
 ·rw[if_pos lf] at vA;have h6:=h6 lf;have bA:(s1.e==0)=true:=by simpa using lf
  refine qq<|qq<|qj fun K hK=>qm ?_;refine qg ?_;refine qp (o:=5) ?_;refine ql hH aB ?_;refine qg ?_;refine qm ?_;refine qm ?_ (hg:=wi bA);obtain⟨_,st,aO,rfl,hH⟩:=nC (s:=s1) (by omega) 93 hH;refine qv aO ?_ (hg:=wi bA);refine qg ?_ (hg:=wi bA);refine qt bA ?_;refine qe hK ?_
  cases hb:iJ gs s1.i 93 with
  |true=>
   have hlt:=o0 hb;refine qC ?_;refine af.exit<|qq<|qq<|qj fun K hK=>qm ?_;refine qg ?_;refine qp (o:=5) ?_;refine ql hH aB ?_;refine qg ?_;refine qe hK<|qE rfl (by simp[lf]) ?_;refine af.skip<|qq<|qq<|qj fun K hK=>qm ?_;refine qe hK ?_
   cases nn with
   |true=>
    refine qB ?_;refine qq<|qj fun K hK=>qm ?_;refine qm ?_;obtain⟨_,st,aO,rfl,hH⟩:=cW (s:=s1) s.i 4 (by omega) hH;refine qv aO ?_;refine qm ?_;refine qe hK ?_;obtain⟨w1,w2,w3,w4⟩:=df (aW:=aW) (s:=s1) (i:=s.i) (e:=4) lf (by decide);refine af.ret ⟨rx,_,_,_,rfl,aj (rfl),?_⟩;exact⟨_,fL (by omega) (by omega) (by omega) (by omega) w1,cy.ax cx (hH.erase 2)⟩
   |false=>
    refine qC ?_;refine af.skip<|qq<|qj fun K hK=>qm ?_;refine qg ?_;refine qp (o:=2) ?_;refine ql hH aB ?_;refine qA ?_;refine qg ?_;refine qp (o:=2) ?_;refine qT hH aB fun st hH=>?_;dsimp only[u2,u1,u3,u4,setMany,u5,u6,D.cells,Nat.reduceAdd,aT,a_,aq,aw] at hH;refine qe hK<|qq<|qj fun K hK=>qm ?_;obtain⟨aO,FW,_⟩:=lD (l:=lr) (hH.rows cU) (by omega);refine qv aO ?_;refine qm ?_;refine qe hK ?_;generalize jW lr=m at*;refine qq<|qq<|qj fun K hK=>qm ?_;refine qe hK ?_
    have ek:∀(st:St) (a:List Rg) (k70:Nat),a.length≤1048576→S2.bs.length≤k70→Has N S2 st (.aL (.win k70 0 0 1 7) 7 [[.int .i64 2,bF a,.int .i64 0,.int .i64 0,.bool false,.int .i64 0,.int .i64 0]]::.box k (.mem 0 false (aT gs bu {s1 with i:=s1.i+1}))::.aL bu 1 (aW.map aq)::.aL ld 2 (lr.map aw)::H)→
      ∃d ah,cO .rw false s0 st (.win k70 0 0 1 7)=some (d,ah)∧∃(s':eO),iI gs s s' d 2∧Has N S ah (.box k (.mem 0 false (aT gs bu s'))::.aL bu 1 (aW.map aq)::H):=by
     intro st a k70 ha hk hH;have hfz:=iu hH aB (L:=s0.bs.length) (.inl rfl) (fun k hk=>by simp only[D.ref] at hk;rw[←cx];omega);exact⟨_,_,aj hfz,{s1 with i:=s1.i+1},⟨h1,by show s1.g≤4;omega,by show s.i≤s1.i+1;omega,by show s1.i+1≤_;omega,_,rfl,A4 ha (by omega),by simp,.inr ⟨lf,by show 1+2≤4*(s1.i+1-s.i);omega⟩⟩,cy.ax cx ((hH.drop 1).erase 2)⟩
    cases nt with
    |true=>
     refine qB ?_;refine qj fun K hK=>qm ?_;obtain⟨_,aO,a,rfl,hla⟩:=A1 (l:=m) (fh _ _) (by omega);refine qv aO ?_;refine qm ?_;refine qe hK<|qq<|qj fun K hK=>qm ?_;refine ab.fX (qs:=[(0,_),(1,_)]) rfl rfl rfl rfl ⟨rfl,(ev rfl),(by rfl),rfl,(ev rfl),(by rfl),trivial⟩ (by intro q hq;simp only[List.mem_cons,List.not_mem_nil,or_false] at hq;rcases hq with rfl|rfl<;>exact⟨rfl,by exact Nat.le_of_ble_eq_true rfl⟩) (by show List.foldl _ [_,_,_,_,_,_,_] _=_;dsimp only[List.foldl_cons,List.foldl_nil,u2,u1]<;>rfl) (ae rfl _) ?_;refine qh (s:=7) (vs:=[_]) hH fun k70 st KI hH=>?_;refine qm ?_;refine qe hK ?_;obtain⟨d',ah,tf,gu⟩:=ek _ a k70 (by omega) KI hH;refine af.ret ⟨rx,_,d',ah,rfl,tf,gu⟩
    |false=>
     refine qC ?_;refine af.skip<|qq<|qj fun K hK=>qm ?_;refine ab.fX (qs:=[(0,_),(1,_)]) rfl rfl rfl rfl ⟨rfl,(ev rfl),(by rfl),rfl,(ev rfl),(by rfl),trivial⟩ (by intro q hq;simp only[List.mem_cons,List.not_mem_nil,or_false] at hq;rcases hq with rfl|rfl<;>exact⟨rfl,by exact Nat.le_of_ble_eq_true rfl⟩) (by show List.foldl _ [_,_,_,_,_,_,_] _=_;dsimp only[List.foldl_cons,List.foldl_nil,u2,u1]<;>rfl) (ae rfl _) ?_;refine qh (s:=7) (vs:=[_]) hH fun k70 st KI hH=>?_;refine qm ?_;refine qe hK ?_;obtain⟨d',ah,tf,gu⟩:=ek _ m k70 (by omega) KI hH;refine af.ret ⟨rx,_,d',ah,rfl,tf,gu⟩
  |false=>
   refine qB ?_;refine af.skip<|af.block<|qq<|qq<|qj fun K hK=>qm ?_;refine qg ?_;refine qp (o:=2) ?_;refine ql hH aB ?_;refine qm ?_;refine qg ?_;refine qp (o:=0) ?_;refine ql hH aB ?_;refine qn ?_;simp only[List.length_map];refine qg ?_;refine qe hK ?_;refine af.cond (by rfl) (fun hge=>?_) (fun hge=>?_)<;>try simp only[decide_eq_true_eq,decide_eq_false_iff_not] at hge
   ·refine qq<|qj fun K hK=>qm ?_;refine qm ?_;obtain⟨_,st,aO,rfl,hH⟩:=cW (s:=s1) s.i 4 (by omega) hH;refine qv aO ?_;refine qm ?_;refine qe hK ?_;obtain⟨w1,w2,w3,w4⟩:=df (aW:=aW) (s:=s1) (i:=s.i) (e:=4) lf (by decide);refine af.ret ⟨rx,_,_,_,rfl,aj (rfl),?_⟩;exact⟨_,fL (by omega) (by omega) (by omega) (by omega) w1,cy.ax cx (hH.erase 2)⟩
   ·refine af.skip<|qq<|qj fun K hK=>qm ?_;refine qm ?_;obtain⟨_,st,aO,s2,⟨i1,i2,i3,i4,a,rfl,i5,i6⟩,hH⟩:=FC (s:=s1) ba lf (by omega) hH;have MQ:=(iO a).arg N S2;have Lu:=vU a;refine qv aO ?_;refine ab.bZ (s:=2) hH rfl (ev rfl) (ev rfl) (by exact cU) (by exact Arg.rows (by assumption) hH) rfl rfl rfl rfl rfl rfl rfl ⟨(Nat.le_of_ble_eq_true rfl),(Nat.le_of_ble_eq_true rfl)⟩ (fun _=>(ae rfl _)) (by simp only[List.length_map]<;>omega) (by exact .inr (by assumption)) (fun TT st hH=>?_);dsimp only[u2,u1,u3,u4,setMany,u5,u6,D.cells,Nat.reduceAdd,aT,a_,aq,aw] at hH;refine qm ?_;refine qe hK<|qj fun K hK=>qm ?_;refine qe hK ?_;exact⟨mm-1,by omega,⟨s2,TT,lr++a,false,rfl,(by rw[List.map_append];exact hH),i1.trans h1,i2.trans h2,by omega,i4,by rw[List.length_append];omega,fun e=>by rw[List.length_append];omega,by split<;>omega⟩⟩
 ·have bA:(s1.e==0)=false:=by simpa using lf
  refine qq<|qq<|qj fun K hK=>qm ?_;refine qg ?_;refine qp (o:=5) ?_;refine ql hH aB ?_;refine qg ?_;refine qm ?_;refine qs ?_ (hg:=wn bA);refine qs ?_ (hg:=wn bA);refine qs ?_ (hg:=wn bA);refine qu bA ?_;refine qe hK<|qC ?_;refine af.exit<|qq<|qq<|qj fun K hK=>qm ?_;refine qg ?_;refine qp (o:=5) ?_;refine ql hH aB ?_;refine qg ?_;refine qe hK<|qD rfl (by simp[lf]) ?_;refine qq<|qj fun K hK=>qm ?_;refine qe hK<|af.ret ⟨rx,_,_,_,rfl,aj (rfl),?_⟩;exact⟨_,fL h1 (by omega) (by omega) h4 lf,cy.ax cx (hH.erase 2)⟩
end Go.Proofs.Ytbdnabmmlbiomaa
namespace Go.Proofs.Ytbdnabmmlbiomaa
open Go.V Go
def jo (fr:Go.V.Fr) (k:Nat):Go.V.D:=Go.V.nth .bw fr.loc k
def pM (gs:List (Nat×Nat)) (s s':eO):Prop:=s'.o=s.o∧s'.g=s.g∧s.i<s'.i∧s'.i≤gs.length
theorem AX {N k:Nat} {S s0:St} {H:List bP} {gs:List (Nat×Nat)} {bu:D} {aW:List Int} {s:eO} (ba:kc gs aW) (he:s.e=0) (hi:s.i<gs.length) (hH:Has N S s0 (.box k (.mem 0 false (aT gs bu s))::.aL bu 1 (aW.map aq)::H)):
  ∃d ah,Ev pv 78 [.ptr k 0 0] s0 d ah∧∃(n1 n2:Int) (s':eO),d=.tup [.int .i64 n1,.int .i64 n2]∧pM gs s s'∧Has N S ah (.box k (.mem 0 false (aT gs bu s'))::.aL bu 1 (aW.map aq)::H):=by
 have o_:=ba.gl;have fF:=ba.pl;have hne:gs≠[]:=by rintro rfl;simp at hi
 refine Ev.jD rfl Rm rfl rfl rfl ?_;dsimp only[u3,u4,List.length,Nat.reduceSub,Nat.reduceAdd,w1,w2];have cy:=hH;have hH:=hH.cA;have cx:(ak .rw s0).bs=s0.bs:=rfl;generalize ak .rw s0=S2 at*;refine qq<|qj fun K hK=>qm ?_;refine qm ?_;refine qe hK<|qq<|qj fun K hK=>qm ?_;refine qg ?_;refine qp (o:=2) ?_;refine ql hH aB ?_;refine qm ?_;refine qe hK<|qq<|qj fun K hK=>qm ?_;refine qg ?_;refine qp (o:=2) ?_;refine ql hH aB ?_;refine qA ?_;refine qg ?_;refine qp (o:=2) ?_;refine qT hH aB fun st hH=>?_;dsimp only[u2,u1,u3,u4,setMany,u5,u6,D.cells,Nat.reduceAdd,aT,a_,aq,aw] at hH;refine qe hK ?_;have hH:Has N S2 st (.box k (.mem 0 false (aT gs bu {s with i:=s.i+1}))::.aL bu 1 (aW.map aq)::H):=hH
 have Bv:∀(st:St) (s3:eO) (e:Int),e≠0→s3.e=0→pM gs s s3→Has N S2 st (.box k (.mem 0 false (aT gs bu s3))::.aL bu 1 (aW.map aq)::H)→∃d ah,Ev pv 36 [.ptr k 0 0,.int .i64 (s.i:Nat),.int .i64 e] st d ah∧d=.sl []∧∃s4,pM gs s s4∧Has N S2 ah (.box k (.mem 0 false (aT gs bu s4))::.aL bu 1 (aW.map aq)::H):=by
  intro st s3 e h0 h1 h2 hH;obtain⟨d,ah,aO,h4,hH⟩:=cW (s:=s3) s.i e (by omega) hH;obtain⟨w1,w2,w3,w4⟩:=df (aW:=aW) (s:=s3) (i:=s.i) (e:=e) h1 h0;exact⟨d,ah,aO,h4,_,⟨w3.trans h2.1,w4.trans h2.2.1,by rw[w2];exact h2.2.2.1,by rw[w2];exact h2.2.2.2⟩,hH⟩
 refine qq<|qj fun K hK=>qm ?_;obtain⟨_,st,aO,m,ok,mm,rfl,FW,VA,hH⟩:=rN (s:={s with i:=s.i+1}) o_ (by show s.i+1≤_;omega) hne hH;refine qv aO ?_;refine qm ?_;refine qg ?_;refine qg ?_;refine qm ?_;refine qm ?_;refine qe hK ?_
 obtain⟨s1,nE⟩:∃s1:eO,({s with i:=s.i+1+mm}:eO)=s1:=⟨_,rfl⟩
 have Kq:s1.e=0:=by rw[←nE];exact he
 have Bi:pM gs s s1:=by rw[←nE];exact⟨rfl,rfl,by show s.i<s.i+1+mm;omega,VA⟩
 have hH:Has N S2 st (.box k (.mem 0 false (aT gs bu s1))::.aL bu 1 (aW.map aq)::H):=by rw[←nE];exact hH
 clear nE;refine qq<|qj fun K hK=>qm ?_;refine qm ?_;refine qm ?_;refine qe hK<|qq<|qq<|af.kY (fun fr st=>∃(n:List UInt8) (en:Bool) (s3:eO) (tmp:List (Nat×D)),fr=⟨14,[.ptr k 0 0,jo fr 1,jo fr 2,jo fr 3,.int .i64 (s.i:Nat),.str m,.bool ok,.str n,.bool en,jo fr 9,jo fr 10,jo fr 11,jo fr 12,jo fr 13],tmp⟩∧Has N S2 st (.box k (.mem 0 false (aT gs bu s3))::.aL bu 1 (aW.map aq)::H)∧(s3.e=0)∧(pM gs s s3)∧(n.length≤120)) ?_ ?_
 ·cases ok with
  |false=>
   have c7:false=false:=rfl;refine qj fun K hK=>qm ?_;refine qm ?_;refine qs ?_ (hg:=wn c7);refine qs ?_ (hg:=wn c7);refine qu c7 ?_;refine qe hK<|qC ?_;refine af.skip ?_;exact⟨m,false,s1,_,rfl,hH,Kq,Bi,FW⟩
  |true=>
   have c7:true=true:=rfl;obtain⟨k1,k2,k3,k4,k5⟩:=gg (gs:=gs) (s:=s1) (r:=44);have k5:=k5 Bi.2.2.2;refine qj fun K hK=>qm ?_;refine qm ?_;refine qm ?_ (hg:=wi c7);obtain⟨_,st,aO,rfl,hH⟩:=dG (s:=s1) (by omega) 44 hH;refine qv aO ?_ (hg:=wi c7);refine qt c7 ?_;refine qe hK ?_;generalize cT gs s1 44=s2 at*
   have FL:pM gs s s2:=⟨k1.trans Bi.1,k2.trans Bi.2.1,by have:=Bi.2.2.1;omega,k5⟩
   cases hb:iJ gs s1.i 44 with
   |false=>
    refine qC ?_;refine af.skip ?_;exact⟨m,false,s2,_,rfl,hH,k3.trans Kq,FL,FW⟩
   |true=>
    refine qB ?_;refine qq<|qj fun K hK=>qm ?_;refine qe hK<|qq<|qj fun K hK=>qm ?_;obtain⟨_,st,aO,n,there,SU,rfl,Qb,hni,hH⟩:=rN (s:=s2) o_ k5 hne hH;refine qv aO ?_;refine qm ?_;refine qg ?_;refine qg ?_;refine qm ?_;refine qm ?_;refine qe hK<|qj fun K hK=>qm ?_;refine qg ?_;refine qm ?_;refine qe hK ?_;exact⟨n,!there,{s2 with i:=s2.i+SU},_,rfl,hH,k3.trans Kq,⟨FL.1,FL.2.1,by have:=FL.2.2.1;show s.i<s2.i+SU;omega,hni⟩,Qb⟩
 ·rintro fr st ⟨n,en,s3,tmp,hfr,hH,h1,h2,h3⟩;rw[hfr];clear hfr;generalize jo fr=ee;clear fr;obtain⟨k1,k2,k3,k4,k5⟩:=gg (gs:=gs) (s:=s3) (r:=125);have k5:=k5 h2.2.2.2
  have zg:pM gs s (cT gs s3 125):=⟨k1.trans h2.1,k2.trans h2.2.1,by have:=h2.2.2.1;omega,k5⟩
  have FK:(cT gs s3 125).e=0:=k3.trans h1
  cases ok with
  |false=>
   have bh:(!false)=true:=rfl;refine qq<|qq<|qj fun K hK=>qm ?_;refine qg ?_;refine qm ?_;refine qs ?_ (hg:=wn bh);refine qs ?_ (hg:=wn bh);refine qs ?_ (hg:=wn bh);refine qt bh ?_;refine qm ?_;refine qs ?_;refine qs ?_;refine qs ?_;refine qs ?_;refine qs ?_;refine qs ?_;refine qs ?_;refine qg ?_;refine qe hK<|qB ?_;refine qq<|qj fun K hK=>qm ?_;refine qm ?_;obtain⟨_,st,aO,rfl,s4,VC,hH⟩:=Bv _ s3 4 (by decide) h1 h2 hH;refine qv aO ?_;refine qe hK<|qq<|qj fun K hK=>qm ?_;refine qm ?_;refine qe hK<|af.ret ⟨rx,_,_,_,rfl,aj (rfl),?_⟩;exact⟨_,_,s4,rfl,VC,cy.ax cx hH⟩
  |true=>
   have bh:(!true)=false:=rfl
   cases ew:(!iJ gs s3.i 125) with
   |true=>
    refine qq<|qq<|qj fun K hK=>qm ?_;refine qg ?_;refine qm ?_;refine qm ?_ (hg:=wi bh);obtain⟨_,st,aO,rfl,hH⟩:=dG (s:=s3) (by omega) 125 hH;refine qv aO ?_ (hg:=wi bh);refine qg ?_ (hg:=wi bh);refine qu bh ?_;refine qm ?_;refine qs ?_ (hg:=wn ew);refine qs ?_ (hg:=wn ew);refine qs ?_ (hg:=wn ew);refine qs ?_;refine qs ?_;refine qs ?_;refine qs ?_ (hg:=wn ew);refine qt ew ?_;refine qe hK ?_;generalize cT gs s3 125=s4 at*;refine qB ?_;refine qq<|qj fun K hK=>qm ?_;refine qm ?_;obtain⟨_,st,aO,rfl,s5,KE,hH⟩:=Bv _ s4 4 (by decide) FK zg hH;refine qv aO ?_;refine qe hK<|qq<|qj fun K hK=>qm ?_;refine qm ?_;refine qe hK<|af.ret ⟨rx,_,_,_,rfl,aj (rfl),?_⟩;exact⟨_,_,s5,rfl,KE,cy.ax cx hH⟩
   |false=>
    have gu:True:=trivial
    cases en with
    |true=>
     have aZ:(!true)=false:=rfl;refine qq<|qq<|qj fun K hK=>qm ?_;refine qg ?_;refine qm ?_;refine qm ?_ (hg:=wi bh);obtain⟨_,st,aO,rfl,hH⟩:=dG (s:=s3) (by omega) 125 hH;refine qv aO ?_ (hg:=wi bh);refine qg ?_ (hg:=wi bh);refine qu bh ?_;refine qm ?_;refine qm ?_ (hg:=wi ew);refine qg ?_ (hg:=wi ew);refine qm ?_ (hg:=wi ew);refine qs ?_ (hg:=wn aZ);refine qs ?_ (hg:=wn aZ);refine qs ?_ (hg:=wn aZ);refine ab.da (aD rfl rfl rfl ew) rfl aZ (ae rfl _) ?_;refine qu ew ?_;refine qe hK ?_;generalize cT gs s3 125=s4 at*;refine qC ?_;refine af.skip ?_;obtain⟨_,zQ,a1,f1,rfl⟩:=lx (s0:=st) m (by omega);refine qq<|qj fun K hK=>qm ?_;refine qv (zQ) ?_;refine qm ?_;refine qg ?_;refine qg ?_;refine qm ?_;refine qm ?_;refine qe hK<|qq<|qq<|qj fun K hK=>qm ?_;refine qe hK<|qB ?_;refine qj fun K hK=>qm ?_;refine qe hK ?_;obtain⟨_,x6,a2,f2,rfl⟩:=lx (s0:=st) [] (by simp);refine qq<|qj fun K hK=>qm ?_;refine qv (x6) ?_;refine qm ?_;refine qg ?_;refine qg ?_;refine qm ?_;refine qm ?_;refine qe hK<|qq<|qq<|af.jy 78 (.bool (!f1||!f2)) [] ?_ (fun ff tmp gh=>?_)
     ·refine qm ?_;refine qg ?_;refine qm ?_;refine ab.two 75 rfl (fun bh=>?_) (fun bh=>?_)
      ·refine qs ?_ (hg:=wn bh);refine qs ?_ (hg:=wn bh);refine qt bh ?_;refine ab.nil (cX ?_ ?_)
       ·dsimp only[aM,List.foldl,nth,u2,u1]
        all_goals(first|rfl|simp)
       ·dsimp only[Fr.aF,Fr.put,Fr.clean,Fr.ev,Fr.get,nth,V.look,u1,u2,v1,v2,v3,v4,v5,v6,v7,List.length,u3,u4,Nat.reduceSub,Nat.reduceAdd,List.map]
        all_goals(simp[bh];done)
      ·refine qm ?_ (hg:=wi bh);refine qg ?_ (hg:=wi bh);refine qu bh ?_;refine ab.nil (cX ?_ ?_)
       ·dsimp only[aM,List.foldl,nth,u2,u1]
        all_goals(first|rfl|simp)
       ·dsimp only[Fr.aF,Fr.put,Fr.clean,Fr.ev,Fr.get,nth,V.look,u1,u2,v1,v2,v3,v4,v5,v6,v7,List.length,u3,u4,Nat.reduceSub,Nat.reduceAdd,List.map]
        all_goals(simp[bh];done)
     dsimp only[aM,List.foldl,nth,u2,u1];refine qc (fun zm=>?_) (fun zm=>?_)<;>try simp only[cs] at zm
     ·refine qq<|qj fun K hK=>qm ?_;refine qm ?_;obtain⟨_,st,aO,rfl,s5,KE,hH⟩:=Bv _ s4 2 (by decide) FK zg hH;refine qv aO ?_;refine qe hK<|qq<|qj fun K hK=>qm ?_;refine qm ?_;refine qe hK<|af.ret ⟨rx,_,_,_,rfl,aj (rfl),?_⟩;exact⟨_,_,s5,rfl,KE,cy.ax cx hH⟩
     ·refine af.skip<|qq<|qq<|qj fun K hK=>qm ?_;refine qe hK<|qB ?_;refine qj fun K hK=>qm ?_;refine qe hK<|qq<|qj fun K hK=>qm ?_;refine qm ?_;refine qm ?_;refine qm ?_;refine qe hK<|af.ret ⟨rx,_,_,_,rfl,aj (rfl),?_⟩;exact⟨_,_,s4,rfl,zg,cy.ax cx hH⟩
    |false=>
     have aZ:(!false)=true:=rfl;refine qq<|qq<|qj fun K hK=>qm ?_;refine qg ?_;refine qm ?_;refine qm ?_ (hg:=wi bh);obtain⟨_,st,aO,rfl,hH⟩:=dG (s:=s3) (by omega) 125 hH;refine qv aO ?_ (hg:=wi bh);refine qg ?_ (hg:=wi bh);refine qu bh ?_;refine qm ?_;refine qm ?_ (hg:=wi ew);refine qg ?_ (hg:=wi ew);refine qm ?_ (hg:=wi ew);refine qm ?_ (hg:=wi aZ);refine qm ?_ (hg:=wi aZ);obtain⟨_,hle,v,rfl⟩:=Fz (s0:=st) n m;refine ab.uX (aD rfl rfl rfl aZ) rfl hle (ae rfl _) ?_;refine ab.dI (aD rfl rfl rfl ew) rfl aZ (ae rfl _) ?_;refine qu ew ?_;refine qe hK ?_;generalize cT gs s3 125=s4 at*
     cases v with
     |true=>
      refine qB ?_;refine qq<|qj fun K hK=>qm ?_;refine qm ?_;obtain⟨_,st,aO,rfl,s5,KE,hH⟩:=Bv _ s4 4 (by decide) FK zg hH;refine qv aO ?_;refine qe hK<|qq<|qj fun K hK=>qm ?_;refine qm ?_;refine qe hK<|af.ret ⟨rx,_,_,_,rfl,aj (rfl),?_⟩;exact⟨_,_,s5,rfl,KE,cy.ax cx hH⟩
     |false=>
      refine qC ?_;refine af.skip ?_;obtain⟨_,zQ,a1,f1,rfl⟩:=lx (s0:=st) m (by omega);refine qq<|qj fun K hK=>qm ?_;refine qv (zQ) ?_;refine qm ?_;refine qg ?_;refine qg ?_;refine qm ?_;refine qm ?_;refine qe hK<|qq<|qq<|qj fun K hK=>qm ?_;refine qe hK<|qC ?_;refine af.skip ?_;obtain⟨_,x6,a2,f2,rfl⟩:=lx (s0:=st) n (by omega);refine qq<|qj fun K hK=>qm ?_;refine qv (x6) ?_;refine qm ?_;refine qg ?_;refine qg ?_;refine qm ?_;refine qm ?_;refine qe hK<|qq<|qq<|af.jy 78 (.bool (!f1||!f2)) [] ?_ (fun ff tmp gh=>?_)
      ·refine qm ?_;refine qg ?_;refine qm ?_;refine ab.two 75 rfl (fun bh=>?_) (fun bh=>?_)
       ·refine qs ?_ (hg:=wn bh);refine qs ?_ (hg:=wn bh);refine qt bh ?_;refine ab.nil (cX ?_ ?_)
        ·dsimp only[aM,List.foldl,nth,u2,u1]
         all_goals(first|rfl|simp)
        ·dsimp only[Fr.aF,Fr.put,Fr.clean,Fr.ev,Fr.get,nth,V.look,u1,u2,v1,v2,v3,v4,v5,v6,v7,List.length,u3,u4,Nat.reduceSub,Nat.reduceAdd,List.map]
         all_goals(simp[bh];done)
       ·refine qm ?_ (hg:=wi bh);refine qg ?_ (hg:=wi bh);refine qu bh ?_;refine ab.nil (cX ?_ ?_)
        ·dsimp only[aM,List.foldl,nth,u2,u1]
         all_goals(first|rfl|simp)
        ·dsimp only[Fr.aF,Fr.put,Fr.clean,Fr.ev,Fr.get,nth,V.look,u1,u2,v1,v2,v3,v4,v5,v6,v7,List.length,u3,u4,Nat.reduceSub,Nat.reduceAdd,List.map]
         all_goals(simp[bh];done)
      dsimp only[aM,List.foldl,nth,u2,u1];refine qc (fun zm=>?_) (fun zm=>?_)<;>try simp only[cs] at zm
      ·refine qq<|qj fun K hK=>qm ?_;refine qm ?_;obtain⟨_,st,aO,rfl,s5,KE,hH⟩:=Bv _ s4 2 (by decide) FK zg hH;refine qv aO ?_;refine qe hK<|qq<|qj fun K hK=>qm ?_;refine qm ?_;refine qe hK<|af.ret ⟨rx,_,_,_,rfl,aj (rfl),?_⟩;exact⟨_,_,s5,rfl,KE,cy.ax cx hH⟩
      ·refine af.skip<|qq<|qq<|qj fun K hK=>qm ?_;refine qe hK<|qC ?_;refine af.skip<|qq<|qj fun K hK=>qm ?_;refine qm ?_;refine qm ?_;refine qm ?_;refine qe hK<|af.ret ⟨rx,_,_,_,rfl,aj (rfl),?_⟩;exact⟨_,_,s4,rfl,zg,cy.ax cx hH⟩
end Go.Proofs.Ytbdnabmmlbiomaa
namespace Go.Proofs.Ytbdnabmmlbiomaa
open Go.V Go
def cK (fr:Go.V.Fr) (k:Nat):Go.V.D:=Go.V.nth .bw fr.loc k
theorem oF:∀{l:List D},(∀d∈l,cw d=true)→refs l=0
 |[],_=>rfl
 |d::l,h=>by
  have h1:=oF (l:=l) fun d hd=>h d (List.mem_cons_of_mem _ hd);have h2:=h d (List.mem_cons_self ..)
  have h3:d.ref=0:=by cases d<;>first|rfl|(simp[cw] at h2)
  simp only[refs,h1,h3,Nat.max_self]
theorem qY {l:List dr} (h:∀n∈l,tH n):refs (l.map a8).flatten=0:=
 oF fun d hd=>by
  obtain⟨e,he,yd⟩:=List.mem_flatten.1 hd;exact mD h e he d yd
def dJ (l:List dr):List D:=[tB l]
theorem uj {l:List (List dr)} {i:Nat} {q:List dr} (h:l[i]?=some q):(l.map dJ)[i]?=some (dJ q):=by rw[List.getElem?_map,h];rfl
def e6:List (List dr)→Nat
 |[]=>0
 |l::ls=>l.length+e6 ls
theorem dq:∀a b:List (List dr),e6 (a++b)=e6 a+e6 b
 |[],b=>by simp[e6]
 |l::a,b=>by rw[List.cons_append,e6,e6,dq a b];omega
theorem ry {s0:St} {x:D} {parts:List (List dr)} (op:Int) (hx:V.Rows s0 1 x (parts.map dJ)) (hv:∀l∈parts,∀n∈l,tH n) (hp:parts.length≤100000) (hs:e6 parts≤100000):∃d,Ev pv 59 [.int .i64 op,x] s0 d s0∧∃l,d=tB l∧(∀n∈l,tH n)∧(parts.length=1→l.length≤e6 parts)∧l.length≤e6 parts+1:=by
 refine Ev.Fu rfl Rz rfl rfl rfl ?_;dsimp only[u3,u4,List.length,Nat.reduceSub,Nat.reduceAdd,w1,w2];obtain⟨cM,hF,hH⟩:=ri s0;generalize ak .ro s0=S at*;have hx:=Arg.of hx cM;refine qq<|qj fun K hK=>qm ?_;refine qe hK<|qq<|qq<|qj fun K hK=>qm ?_;refine qn ?_;simp only[List.length_map];refine qe hK<|af.block<|qq<|qj fun K hK=>qg ?_;refine qm ?_;refine qe hK ?_
 by_cases h0:parts.length=0
 ·refine qD rfl (by simp[h0]) ?_;refine qq<|qj fun K hK=>?_;refine ab.go (d:=.agg [.int .i64 1,.nul,.int .i64 0,.int .i64 0,.bool false,.int .i64 0,.int .i64 0]) (st1:=_) rfl rfl rfl (by dsimp only[Fr.put,u1,u2]<;>rfl) ?_;refine qh (s:=7) (vs:=[_]) hH fun k13 st Bp hH=>?_;refine qm ?_;refine qe hK ?_;have hfz:=iu (L:=s0.bs.length) (a:=[]) hH aB (.inr ⟨rfl,rfl⟩) (fun k hk=>by have jv:k13+1=k+1:=hk;rw[←cM];omega);refine af.ret ⟨rx,_,_,rfl,rl cM hH (hfz),?_⟩;exact⟨_,rfl,A4 (by simp) (by omega),by omega,by simp⟩
 have QL:(((parts.length:Nat):Int)==0)=false:=by rw[beq_eq_false_iff_ne];omega
 refine qE rfl (by rw[QL]) ?_;refine qq<|qj fun K hK=>qg ?_;refine qm ?_;refine qe hK ?_
 by_cases h1:parts.length=1
 ·obtain⟨q,hq⟩:∃q,parts[0]?=some q:=⟨parts[0]'(by omega),List.getElem?_eq_getElem _⟩
  have hO:=uj hq
  have FO:parts=[q]:=by
   match parts,h1,hq with
   |[a],_,hq=>simp at hq;rw[hq]
  refine qD rfl (by simp[h1]) ?_;refine qq<|qj fun K hK=>qm ?_;refine qr fun Us P2=>?_;refine qR ?_;refine qm ?_;refine qe hK<|af.ret ⟨rx,_,_,rfl,rl cM hH (rfl),?_⟩;refine⟨q,rfl,hv q (List.mem_of_getElem? hq),fun _=>?_,?_⟩<;>rw[FO]<;>simp[e6]
 have Tu:(((parts.length:Nat):Int)==1)=false:=by rw[beq_eq_false_iff_ne];omega
 refine qE rfl (by rw[Tu]) ?_;refine af.skip<|qq<|qj fun K hK=>qm ?_;refine qm ?_;refine qn ?_;simp only[List.length_map];refine ab.go (d:=.agg [.int .i64 op,.nul,.int .i64 0,.int .i64 0,.bool false,.int .i64 0,.int .i64 (parts.length:Nat)]) (st1:=_) rfl rfl rfl (by dsimp only[Fr.put,u1,u2]<;>rfl) ?_;refine qh (s:=7) (vs:=[_]) hH fun k23 st Nk hH=>?_;refine qm ?_;refine qe hK<|qq<|qq<|qj fun K hK=>qm ?_;refine qn ?_;simp only[List.length_map];refine qm ?_;refine qe hK ?_;have hH:Has s0.bs.length S st (.aL (.win k23 0 0 1 7) 7 [[.int .i64 op,.nul,.int .i64 0,.int .i64 0,.bool false,.int .i64 0,.int .i64 (parts.length:Nat)]]::[]):=hH;refine af.block<|af.loop (fun mm fr st=>∃(i:Nat) (od:D) (es:List (List D)) (lo:List dr),fr.clean=⟨27,[cK fr 0,cK fr 1,cK fr 2,cK fr 3,cK fr 4,od,cK fr 6,cK fr 7,cK fr 8,cK fr 9,cK fr 10,cK fr 11,cK fr 12,cK fr 13,cK fr 14,cK fr 15,cK fr 16,cK fr 17,cK fr 18,cK fr 19,cK fr 20,cK fr 21,cK fr 22,cK fr 23,x,.int .i64 (parts.length:Nat),.int .i64 (i:Nat)],[]⟩∧Has s0.bs.length S st [.aL od 7 es]∧(i+mm=parts.length)∧(es.map (·.map nS)=lo.map a8)∧(∀e∈es,∀d∈e,nf d=true)∧(∀n∈lo,tH n)∧(lo.length=1+e6 (parts.take i))∧(∀k,od.ref=k+1→S.bs.length≤k)) (parts.length) ?_ ?_
 ·refine⟨0,.win k23 0 0 1 7,[[.int .i64 op,.nul,.int .i64 0,.int .i64 0,.bool false,.int .i64 0,.int .i64 (parts.length:Nat)]],[sJ op 0 0 false 0 (parts.length:Nat) []],rfl,hH,by omega,rfl,?_,A4 (by simp) (by omega),by simp[e6],fun k hk=>by simp only[D.ref] at hk;omega⟩;intro e he d hd;simp only[List.mem_cons,List.not_mem_nil,or_false] at he;subst he;simp only[List.mem_cons,List.not_mem_nil,or_false] at hd
  rcases hd with rfl|rfl|rfl|rfl|rfl|rfl|rfl<;>rfl
 rintro mm fr st ⟨i,od,es,lo,hfr,hH,hi,wE,ht,GJ,hlen,GG⟩;rw[hfr];clear hfr;generalize cK fr=ee;clear fr;refine qq<|qj fun K hK=>qg ?_;refine qe hK ?_
 by_cases hlt:i<parts.length
 ·obtain⟨q,hq⟩:∃q,parts[i]?=some q:=⟨parts[i]'hlt,List.getElem?_eq_getElem _⟩
  have hO:=uj hq;have Of:=hv q (List.mem_of_getElem? hq);have tD:es.length=lo.length:=by have:=congrArg List.length wE;simpa using this
  have Lt:parts.take (i+1)=parts.take i++[q]:=by rw[List.take_add_one,hq];rfl
  have Pc:e6 (parts.take (i+1))=e6 (parts.take i)+q.length:=by rw[Lt,dq];simp[e6]
  have U0:e6 (parts.take (i+1))≤e6 parts:=by
   have:=dq (parts.take (i+1)) (parts.drop (i+1));rw[List.take_append_drop] at this;omega
  refine qq<|qD rfl (by simp;omega) ?_;refine af.skip<|qq<|af.block<|qq<|qj fun K hK=>qr fun XE Vs=>?_;refine qR ?_;refine qm ?_;refine qe hK<|qj fun K hK=>qm ?_;refine qm ?_;refine ab.pj (s:=7) hH rfl (ev rfl) (ev rfl) aB ((qZ Of).rows st) rfl rfl rfl rfl rfl rfl rfl ⟨(Nat.le_of_ble_eq_true rfl),(Nat.le_of_ble_eq_true rfl)⟩ (fun _=>(ae rfl _)) (by rw[List.length_map];omega) (.inl hF) GG (fun TX st GG hH=>?_);dsimp only[u2] at hH;refine qm ?_;refine qe hK<|qj fun K hK=>qA ?_;refine qm ?_;refine qe hK ?_;refine⟨mm-1,by omega,⟨i+1,TX,es++q.map a8,lo++q,rfl,hH,by omega,by rw[List.map_append,List.map_append,wE,sG Of],?_,?_,by rw[List.length_append,hlen,Pc];omega,GG⟩⟩
  ·intro e he
   rcases List.mem_append.1 he with he|he
   ·exact ht e he
   ·exact oQ Of e he
  ·intro n hn
   rcases List.mem_append.1 hn with hn|hn
   ·exact GJ n hn
   ·exact Of n hn
 ·refine qq<|qE rfl (by simp;omega) ?_;refine af.exit<|qq<|qj fun K hK=>qm ?_;refine qm ?_;refine qe hK ?_;have hik:i=parts.length:=by omega
  rw[hik,List.take_length] at hlen;refine af.ret ⟨rx,_,_,rfl,rl cM hH (ir hH aB wE ht (fun k hk=>by have:=GG k hk;rw[←cM];exact this) (by decide)),?_⟩;exact⟨_,rfl,GJ,by omega,by omega⟩
end Go.Proofs.Ytbdnabmmlbiomaa
namespace Go.Proofs.Ytbdnabmmlbiomaa
open Go.V Go
def fO (fr:Go.V.Fr) (k:Nat):Go.V.D:=Go.V.nth .bw fr.loc k
theorem l9 {N:Nat} {S st:St} {H:List bP} {a b c:bP} (h:Has N S st (a::b::c::H)):Has N S st (b::c::a::H):=by
 have h1:=h.front b4;have h2:=h1.front cU;exact h2.front b4
def kG (m:Nat):Prop:=∀{N k:Nat} {S s0:St} {H:List bP} {gs:List (Nat×Nat)} {bu:D} {aW:List Int} {s:eO},kc gs aW→s.e=0→s.i≤gs.length→s.g≤4→s.o+m=20→Has N S s0 (.box k (.mem 0 false (aT gs bu s))::.aL bu 1 (aW.map aq)::H)→
 ∃d ah,Ev pv 35 [.ptr k 0 0] s0 d ah∧∃(s':eO),tx gs s s' d∧Has N S ah (.box k (.mem 0 false (aT gs bu s'))::.aL bu 1 (aW.map aq)::H)
theorem BF {m:Nat} (hA:∀m',m'+1=m→kG m') {N k:Nat} {S s0:St} {H:List bP} {gs:List (Nat×Nat)} {bu:D} {aW:List Int} {s:eO} (ba:kc gs aW) (he:s.e=0) (hi:s.i<gs.length) (hg:s.g≤4) (ho:s.o+m=20) (hH:Has N S s0 (.box k (.mem 0 false (aT gs bu s))::.aL bu 1 (aW.map aq)::H)):
  ∃d ah,Ev pv 84 [.ptr k 0 0] s0 d ah∧∃(s':eO),iI gs s s' d 2∧Has N S ah (.box k (.mem 0 false (aT gs bu s'))::.aL bu 1 (aW.map aq)::H):=by
 have o_:=ba.gl;have fF:=ba.pl;refine Ev.jD rfl Ri rfl rfl rfl ?_;dsimp only[u3,u4,List.length,Nat.reduceSub,Nat.reduceAdd,w1,w2];have cy:=hH;have hH:=hH.cA;have cx:(ak .rw s0).bs=s0.bs:=rfl;generalize ak .rw s0=S2 at*
 have hwr:∀(st:St) (s3:eO) (e:Int) (H2:List bP),e≠0→s3.e=0→s3.o=s.o→s3.g≤4→s.i≤s3.i→s3.i≤gs.length→Has N S2 st (.box k (.mem 0 false (aT gs bu s3))::.aL bu 1 (aW.map aq)::H2)→∃d ah,Ev pv 36 [.ptr k 0 0,.int .i64 (s.i:Nat),.int .i64 e] st d ah∧d=.sl []∧∃s4,iI gs s s4 (.sl []) 2∧Has N S2 ah (.box k (.mem 0 false (aT gs bu s4))::.aL bu 1 (aW.map aq)::H2):=by
  intro st s3 e H2 h0 h1 h2 h3 h4 h5 hH;obtain⟨d,ah,aO,h6,hH⟩:=cW (s:=s3) s.i e (by omega) hH;obtain⟨w1,w2,w3,w4⟩:=df (aW:=aW) (s:=s3) (i:=s.i) (e:=e) h1 h0;exact⟨d,ah,aO,h6,_,fL (w3.trans h2) (by omega) (by omega) (by omega) w1,hH⟩
 refine qq<|qj fun K hK=>qm ?_;refine qe hK<|qq<|qj fun K hK=>qm ?_;refine qg ?_;refine qp (o:=2) ?_;refine ql hH aB ?_;refine qm ?_;refine qe hK<|qq<|qj fun K hK=>qm ?_;refine qg ?_;refine qp (o:=2) ?_;refine ql hH aB ?_;refine qA ?_;refine qg ?_;refine qp (o:=2) ?_;refine qT hH aB fun st hH=>?_;dsimp only[u2,u1,u3,u4,setMany,u5,u6,D.cells,Nat.reduceAdd,aT,a_,aq,aw,a8] at hH;refine qe hK ?_;have hH:Has N S2 st (.box k (.mem 0 false (aT gs bu {s with i:=s.i+1}))::.aL bu 1 (aW.map aq)::H):=hH
 obtain⟨s1,nE⟩:∃s1:eO,({s with i:=s.i+1}:eO)=s1:=⟨_,rfl⟩
 have Pp:s1.e=0∧s1.o=s.o∧s1.g=s.g∧s1.i=s.i+1:=by rw[←nE];exact⟨he,rfl,rfl,rfl⟩
 rw[nE] at hH;clear nE;obtain⟨f1,f2,f3,f4⟩:=Pp;refine qq<|qj fun K hK=>qm ?_;refine qe hK<|qq<|qq<|af.kY (fun fr st=>∃(free:Bool) (s2:eO) (tmp:List (Nat×D)),fr=⟨7,[.ptr k 0 0,fO fr 1,fO fr 2,.int .i64 (s.i:Nat),.bool free,fO fr 5,fO fr 6],tmp⟩∧Has N S2 st (.box k (.mem 0 false (aT gs bu s2))::.aL bu 1 (aW.map aq)::H)∧(s2.e=0)∧(s2.o=s.o)∧(s2.g=s.g)∧(s.i+1≤s2.i)∧(s2.i≤gs.length)) ?_ ?_
 ·obtain⟨k1,k2,k3,k4,k5⟩:=gg (gs:=gs) (s:=s1) (r:=63);have k5:=k5 (by omega);refine qj fun K hK=>qm ?_;obtain⟨_,st,aO,rfl,hH⟩:=dG (s:=s1) (by omega) 63 hH;refine qv aO ?_;refine qe hK ?_;generalize cT gs s1 63=s2 at*
  cases hb:iJ gs s1.i 63 with
  |false=>
   refine qC ?_;refine af.skip ?_;exact⟨false,s2,_,rfl,hH,by omega,by omega,by omega,by omega,by omega⟩
  |true=>
   refine qB ?_;refine qq<|qj fun K hK=>qm ?_;refine qe hK ?_;obtain⟨r1,r2,r3,r4,r5⟩:=gg (gs:=gs) (s:=s2) (r:=58);have r5:=r5 k5;refine qq<|qj fun K hK=>qm ?_;obtain⟨_,st,aO,rfl,hH⟩:=dG (s:=s2) (by omega) 58 hH;refine qv aO ?_;refine qg ?_;refine qe hK ?_;generalize cT gs s2 58=s3 at*
   cases hb2:iJ gs s2.i 58 with
   |false=>
    refine qB ?_;refine qq<|qj fun K hK=>qm ?_;refine qm ?_;obtain⟨_,st,aO,rfl,s4,hN,hH⟩:=hwr _ s3 4 _ (by decide) (by omega) (by omega) (by omega) (by omega) (by omega) hH;refine qv aO ?_;refine qm ?_;refine qe hK<|af.ret ⟨rx,_,_,_,rfl,aj (rfl),?_⟩;exact⟨s4,hN,cy.ax cx hH⟩
   |true=>
    refine qC ?_;refine af.skip ?_;exact⟨true,s3,_,rfl,hH,by omega,by omega,by omega,by omega,by omega⟩
 ·rintro fr st ⟨free,s2,tmp,hfr,hH,h1,h2,h3,h4,h5⟩;rw[hfr];clear hfr;generalize fO fr=ee;clear fr;refine qq<|qq<|qj fun K hK=>qm ?_;refine qg ?_;refine qp (o:=3) ?_;refine ql hH aB ?_;refine qg ?_;refine qe hK ?_
  by_cases Tt:20≤s2.o
  ·have ib:decide (((s2.o:Nat):Int)≥20)=true:=by rw[decide_eq_true_eq];omega
   refine qD rfl (by rw[ib]) ?_;refine qq<|qj fun K hK=>qm ?_;refine qm ?_;obtain⟨_,st,aO,rfl,s4,hN,hH⟩:=hwr _ s2 10 _ (by decide) h1 h2 (by omega) (by omega) h5 hH;refine qv aO ?_;refine qm ?_;refine qe hK<|af.ret ⟨rx,_,_,_,rfl,aj (rfl),?_⟩;exact⟨s4,hN,cy.ax cx hH⟩
  have ib:decide (((s2.o:Nat):Int)≥20)=false:=by rw[decide_eq_false_iff_not];omega
  refine qE rfl (by rw[ib]) ?_;refine af.skip<|qq<|qj fun K hK=>ab.go (d:=.agg [.int .i64 6,.nul,.int .i64 0,.int .i64 0,.bool false,.int .i64 0,.int .i64 1]) (st1:=_) rfl rfl rfl (ae rfl _) ?_;refine qa hH fun k5 st KK hH=>?_;dsimp only[u2,u1,u3,u4,setMany,u5,u6,D.cells,Nat.reduceAdd,aT,a_,aq,aw,a8] at hH;refine qS hH aB fun st hH=>?_;dsimp only[u2,u1,u3,u4,setMany,u5,u6,D.cells,Nat.reduceAdd,aT,a_,aq,aw,a8] at hH;refine qe hK ?_;have hH:Has N S2 st (.box k (.mem 0 false (aT gs bu s2))::.aL bu 1 (aW.map aq)::.box k5 (.mem 0 false [.int .i64 6,.nul,.int .i64 0,.int .i64 0,.bool false,.int .i64 0,.int .i64 1])::H):=l9 hH;refine qq<|qq<|af.kY (fun fr st=>∃(cap:Int) (s3:eO) (tmp:List (Nat×D)),fr=⟨7,[.ptr k 0 0,fO fr 1,fO fr 2,.int .i64 (s.i:Nat),.bool free,.ptr k5 0 0,fO fr 6],tmp⟩∧Has N S2 st (.box k (.mem 0 false (aT gs bu s3))::.aL bu 1 (aW.map aq)::.box k5 (.mem 0 false [.int .i64 6,.nul,.int .i64 0,.int .i64 0,.bool false,.int .i64 cap,.int .i64 1])::H)∧(s3.e=0)∧(s3.o=s.o)∧(s3.g≤4)∧(s3.i=s2.i)) ?_ ?_
  ·refine qj fun K hK=>qm ?_;refine qg ?_;refine qe hK ?_
   cases free with
   |true=>
    refine qC ?_;refine af.skip ?_;exact⟨0,s2,_,rfl,hH,h1,h2,by omega,rfl⟩
   |false=>
    refine qB ?_;refine qq<|qq<|qj fun K hK=>qm ?_;refine qg ?_;refine qp (o:=4) ?_;refine ql hH aB ?_;refine qg ?_;refine qe hK ?_
    by_cases Te:4≤s2.g
    ·have ib:decide (((s2.g:Nat):Int)≥4)=true:=by rw[decide_eq_true_eq];omega
     refine qD rfl (by rw[ib]) ?_;refine qq<|qj fun K hK=>qm ?_;refine qm ?_;obtain⟨_,st,aO,rfl,s4,hN,hH⟩:=hwr _ s2 13 _ (by decide) h1 h2 (by omega) (by omega) h5 hH;refine qv aO ?_;refine qm ?_;refine qe hK<|af.ret ⟨rx,_,_,_,rfl,aj (rfl),?_⟩;exact⟨s4,hN,cy.ax cx (hH.erase 2)⟩
    ·have ib:decide (((s2.g:Nat):Int)≥4)=false:=by rw[decide_eq_false_iff_not];omega
     refine qE rfl (by rw[ib]) ?_;refine af.skip<|qq<|qj fun K hK=>qm ?_;refine qg ?_;refine qp (o:=4) ?_;refine ql hH aB ?_;refine qA ?_;refine qg ?_;refine qp (o:=4) ?_;refine qT hH aB fun st hH=>?_;dsimp only[u2,u1,u3,u4,setMany,u5,u6,D.cells,Nat.reduceAdd,aT,a_,aq,aw,a8] at hH;refine qe hK<|qj fun K hK=>qm ?_;refine qg ?_;refine qp (o:=4) ?_;refine ql hH aB ?_;refine qp (o:=5) ?_;refine qT hH cU fun st hH=>?_;dsimp only[u2,u1,u3,u4,setMany,u5,u6,D.cells,Nat.reduceAdd,aT,a_,aq,aw,a8] at hH;refine qe hK ?_;exact⟨((s2.g+1:Nat):Int),{s2 with g:=s2.g+1},_,rfl,hH,h1,h2,by show s2.g+1≤4;omega,rfl⟩
  ·rintro fr st ⟨cap,s3,tmp,hfr,hH,e1,e2,e3,e4⟩;rw[hfr];clear hfr;generalize fO fr=ee;clear fr;refine qq<|qj fun K hK=>qm ?_;refine qg ?_;refine qp (o:=3) ?_;refine ql hH aB ?_;refine qA ?_;refine qg ?_;refine qp (o:=3) ?_;refine qT hH aB fun st hH=>?_;dsimp only[u2,u1,u3,u4,setMany,u5,u6,D.cells,Nat.reduceAdd,aT,a_,aq,aw,a8] at hH;refine qe hK ?_;have hH:Has N S2 st (.box k (.mem 0 false (aT gs bu {s3 with o:=s3.o+1}))::.aL bu 1 (aW.map aq)::.box k5 (.mem 0 false [.int .i64 6,.nul,.int .i64 0,.int .i64 0,.bool false,.int .i64 cap,.int .i64 1])::H):=hH;refine qq<|qj fun K hK=>qm ?_;obtain⟨_,st,aO,s4,⟨a1,a2,a3,a4,l,rfl,a5,a6⟩,hH⟩:=hA (m-1) (by omega) (s:={s3 with o:=s3.o+1}) ba e1 (by show s3.i≤_;omega) e3 (by show s3.o+1+(m-1)=20;omega) hH;refine qv aO ?_;refine qm ?_;refine qe hK ?_;have a1:s4.o=s3.o+1:=a1;have a3:s3.i≤s4.i:=a3;have a6:l.length≤4*(s4.i-s3.i)+1:=a6;have hla:=(qZ a5).arg N S2;refine qq<|qj fun K hK=>qm ?_;refine qg ?_;refine qp (o:=3) ?_;refine ql hH aB ?_;refine ab.lA (z:=((s.o:Nat):Int)) rfl (ev rfl) (ev rfl) (by(try simp only[List.length_reverse,List.length_cons,List.length_nil,List.length_append,List.length_map,List.length_set]);rw[wrap_i64 (by omega) (by omega)]<;>omega) (ae rfl _) ?_;refine qg ?_;refine qp (o:=3) ?_;refine qT hH aB fun st hH=>?_;dsimp only[u2,u1,u3,u4,setMany,u5,u6,D.cells,Nat.reduceAdd,aT,a_,aq,aw,a8] at hH;refine qe hK ?_
   obtain⟨s5,Po⟩:∃s5:eO,({s4 with o:=s.o}:eO)=s5:=⟨_,rfl⟩
   have hH:Has N S2 st (.box k (.mem 0 false (aT gs bu s5))::.aL bu 1 (aW.map aq)::.box k5 (.mem 0 false [.int .i64 6,.nul,.int .i64 0,.int .i64 0,.bool false,.int .i64 cap,.int .i64 1])::H):=by rw[←Po];exact hH
   have Pn:s5.o=s.o∧s5.g=s4.g∧s5.i=s4.i:=by rw[←Po];exact⟨rfl,rfl,rfl⟩
   clear Po;obtain⟨b1,b2,b3⟩:=Pn;refine qq<|qq<|af.kY (fun fr st=>∃(s6:eO) (tmp:List (Nat×D)),fr=⟨7,[.ptr k 0 0,fO fr 1,fO fr 2,fO fr 3,.bool free,.ptr k5 0 0,tB l],tmp⟩∧Has N S2 st (.box k (.mem 0 false (aT gs bu s6))::.aL bu 1 (aW.map aq)::.box k5 (.mem 0 false [.int .i64 6,.nul,.int .i64 0,.int .i64 0,.bool false,.int .i64 cap,.int .i64 1])::H)∧(s6.o=s.o)∧(s6.g≤4)∧(s4.i≤s6.i)∧(s6.i≤gs.length)∧(s6.e≠0∨s6.e=0∧s4.i<s6.i)) ?_ ?_
   ·by_cases QB:s5.e=0
    ·have bA:(s5.e==0)=true:=by simpa using QB
     obtain⟨k1,k2,k3,k4,SV⟩:=gg (gs:=gs) (s:=s5) (r:=41);have SV:=SV (by omega);have hsk:iJ gs s5.i 41=true→(cT gs s5 41).i=s5.i+1:=fun h=>by unfold cT;rw[if_pos h]
     refine qj fun K hK=>qm ?_;refine qg ?_;refine qp (o:=5) ?_;refine ql hH aB ?_;refine qg ?_;refine qm ?_;refine qm ?_ (hg:=wi bA);obtain⟨_,st,aO,rfl,hH⟩:=dG (s:=s5) (by omega) 41 hH;refine qv aO ?_ (hg:=wi bA);refine qg ?_ (hg:=wi bA);refine qt bA ?_;refine qe hK ?_;generalize cT gs s5 41=s6 at*
     cases hb:iJ gs s5.i 41 with
     |false=>
      refine qB ?_;refine qq<|qj fun K hK=>qm ?_;refine qm ?_;obtain⟨_,st,aO,rfl,s7,hN,hH⟩:=hwr _ s6 4 _ (by decide) (by omega) (by omega) (by omega) (by omega) (by omega) hH;refine qv aO ?_;refine qm ?_;refine qe hK<|af.ret ⟨rx,_,_,_,rfl,aj (rfl),?_⟩;exact⟨s7,hN,cy.ax cx (hH.erase 2)⟩
     |true=>
      have hsk:=hsk hb;refine qC ?_;refine af.skip ?_;exact⟨s6,_,rfl,hH,by omega,by omega,by omega,by omega,.inr ⟨by omega,by omega⟩⟩
    ·have bA:(s5.e==0)=false:=by simpa using QB
     refine qj fun K hK=>qm ?_;refine qg ?_;refine qp (o:=5) ?_;refine ql hH aB ?_;refine qg ?_;refine qm ?_;refine qs ?_ (hg:=wn bA);refine qs ?_ (hg:=wn bA);refine qs ?_ (hg:=wn bA);refine qu bA ?_;refine qe hK<|qC ?_;refine af.skip ?_;exact⟨s5,_,rfl,hH,b1,by omega,by omega,by omega,.inl QB⟩
   ·rintro fr st ⟨s6,tmp,hfr,hH,c1,c2,c3,c4,c5⟩;rw[hfr];clear hfr;generalize fO fr=ee;clear fr;refine qq<|qq<|qj fun K hK=>qm ?_;refine qe hK ?_
    cases free with
    |true=>
     refine qB ?_;refine qq<|qj fun K hK=>qm ?_;refine qm ?_;refine qe hK<|af.ret ⟨rx,_,_,_,rfl,aj (rfl),?_⟩;refine⟨s6,⟨c1,c2,by omega,c4,l,rfl,a5,by omega,?_⟩,cy.ax cx (hH.erase 2)⟩
     rcases c5 with c5|⟨c5,c6⟩
     ·exact .inl c5
     ·exact .inr ⟨c5,by omega⟩
    |false=>
     refine qC ?_;refine af.skip<|qq<|qj fun K hK=>?_;refine ab.bf (m:=7) hH rfl (ev rfl) (by exact cU) (by dsimp only[List.drop_succ_cons,List.drop_zero,List.take_succ_cons,List.take_zero,aT,a_,aq,aw,a8]<;>rfl) rfl rfl (ae rfl _) ?_;refine qh (s:=7) (vs:=[_]) hH fun k89 st VJ hH=>?_;dsimp only[u2,u1,u3,u4,setMany,u5,u6,D.cells,Nat.reduceAdd,aT,a_,aq,aw,a8] at hH;refine qm ?_;refine ab.pj (s:=7) hH rfl (ev rfl) (ev rfl) aB ((qZ a5).rows st) rfl rfl rfl rfl rfl rfl rfl ⟨(Nat.le_of_ble_eq_true rfl),(Nat.le_of_ble_eq_true rfl)⟩ (fun _=>(ae rfl _)) (by simp only[List.length_map,List.length_cons,List.length_nil];omega) (.inr (qY a5)) (fun k hk=>by have jv:k89+1=k+1:=hk;omega) (fun TM st GG hH=>?_);dsimp only[u2] at hH;refine qm ?_;refine qe hK ?_;have hH:Has N S2 st (.aL TM 7 ([.int .i64 6,.nul,.int .i64 0,.int .i64 0,.bool false,.int .i64 cap,.int .i64 1]::l.map a8)::.box k (.mem 0 false (aT gs bu s6))::.aL bu 1 (aW.map aq)::.box k5 (.mem 0 false [.int .i64 6,.nul,.int .i64 0,.int .i64 0,.bool false,.int .i64 cap,.int .i64 1])::H):=hH
     have hfz:=ir (L:=s0.bs.length) (l:=sJ 6 0 0 false cap 1 []::l) hH aB (by rw[List.map_cons,sG a5];rfl) (fun e he d hd=>by
      rcases List.mem_cons.1 he with rfl|he
      ·simp only[List.mem_cons,List.not_mem_nil,or_false] at hd
       rcases hd with rfl|rfl|rfl|rfl|rfl|rfl|rfl<;>rfl
      ·exact oQ a5 e he d hd) (fun k hk=>by rw[←cx];exact GG k hk) (n:=16) (by decide)
     refine af.ret ⟨rx,_,_,_,rfl,aj hfz,⟨s6,⟨c1,c2,by omega,c4,_,rfl,?_,by simp only[List.length_cons];omega,?_⟩,cy.ax cx ((hH.drop 1).erase 2)⟩⟩
     ·intro n hn
      rcases List.mem_cons.1 hn with rfl|hn
      ·exact⟨rfl,by simp[sJ],by simp[sJ]⟩
      ·exact a5 n hn
     ·rcases c5 with c5|⟨c5,c6⟩
      ·exact .inl c5
      ·exact .inr ⟨c5,by simp only[List.length_cons];omega⟩
end Go.Proofs.Ytbdnabmmlbiomaa
