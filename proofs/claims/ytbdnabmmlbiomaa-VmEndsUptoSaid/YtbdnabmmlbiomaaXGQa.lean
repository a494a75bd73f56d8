/-
 Patterns as trees; the code of a tree; how many instructions it has.
-/
import Derived.Test.YtbdnabmmlbiomaaXGUb
import Derived.Test.YtbdnabmmlbiomaaXGKa
set_option maxRecDepth 100000
set_option linter.unusedSimpArgs false
set_option linter.unusedVariables false
set_option linter.unusedSectionVars false
set_option maxHeartbeats 4000000
namespace Go.Proofs.Ytbdnabmmlbiomaa
open Go.V Go
structure c_ where
 op:Int
 rd:D
 rs:List Rg
 mn:Int
 mx:Int
 lz:Bool
 cap:Int
 kids:Int
def aX (n:c_):List D:=[.int .i64 n.op,n.rd,.int .i64 n.mn,.int .i64 n.mx,.bool n.lz,.int .i64 n.cap,.int .i64 n.kids]
def c_.ok (n:c_):Prop:=fK n.rd 2 (n.rs.map au)∧n.rs.length≤1048576∧n.kids≤9223372036854775807
structure Nl where
 d:D
 l:List c_
structure Nl.ok (x:Nl):Prop where
 c:fK x.d 7 (x.l.map aX)
 i:∀n∈x.l,n.ok
 nl:x.l.length≤1048576
theorem jR {l:List c_} {i:Nat} {q:c_} (h:l[i]?=some q):(l.map aX)[i]?=some (aX q):=by rw[List.getElem?_map,h];rfl
mutual
inductive Tr where
 |mk (n:c_) (ks:bu)
inductive bu where
 |nil
 |cons (t:Tr) (ts:bu)
end
def bu.len:bu→Nat
 | .nil=>0
 | .cons _ ts=>ts.len+1
mutual
def Tr.flat:Tr→List c_
 | .mk n ks=>n::ks.flat
def bu.flat:bu→List c_
 | .nil=>[]
 | .cons t ts=>t.flat++ts.flat
end
def tS (n:c_) (nk:Nat):Prop:=
 n.kids=(nk:Int)∧(((n.op=1∨n.op=7∨n.op=8)∧nk=0)∨(n.op=2∧nk=0)∨((n.op=3∨n.op=4)∧2≤nk)∨
  (n.op=5∧nk=1∧0≤n.mn∧n.mn≤30∧(n.mx=-1∨(n.mn≤n.mx∧n.mx≤30)))∨(n.op=6∧nk=1∧1≤n.cap∧n.cap≤4))
mutual
def Tr.ok:Tr→Prop
 | .mk n ks=>tS n ks.len∧ks.ok
def bu.ok:bu→Prop
 | .nil=>True
 | .cons t ts=>t.ok∧ts.ok
end
def bD (n:c_) (s k:Nat):Nat:=
 if n.op=2∨n.op=7∨n.op=8 then 1
 else if n.op=4 then s+2*(k-1)
 else if n.op=6 then s+2
 else if n.op=5 then(if n.mx=-1 then n.mn.toNat*s+s+2 else n.mn.toNat*s+(n.mx.toNat-n.mn.toNat)*(s+1))
 else s
mutual
def Tr.sz:Tr→Nat
 | .mk n ks=>bD n ks.sz ks.len
def bu.sz:bu→Nat
 | .nil=>0
 | .cons t ts=>t.sz+ts.sz
end
def cH (op x y:Int) (rs:List Rg):aG:=⟨op,x,y,.sl ((rs.map au).map (ja 2)),rs⟩
def lG (s o:Nat) (lz:Bool):aG:=if lz=true then cH 2 (o:Nat) ((s+1:Nat):Int) [] else cH 2 ((s+1:Nat):Int) (o:Nat) []
def kR (e:Nat):aG:=cH 3 (e:Nat) 0 []
def eB (c:Nat→List aG) (z:Nat):Nat→Nat→List aG
 |0,_=>[]
 |k+1,b=>c b++eB c z k (b+z)
def ek (sp:Nat→aG) (c:Nat→List aG) (z:Nat):Nat→Nat→List aG
 |0,_=>[]
 |k+1,b=>sp b::(c (b+1)++ek sp c z k (b+1+z))
def tK (z:Nat):Nat→Nat→List Nat
 |0,_=>[]
 |k+1,b=>b::tK z k (b+1+z)
def lL (n:c_) (c:Nat→List aG) (z b:Nat):List aG:=
 if n.mx=-1 then eB c z n.mn.toNat b++(lG (b+n.mn.toNat*z) (b+n.mn.toNat*z+z+2) n.lz::(c (b+n.mn.toNat*z+1)++[kR (b+n.mn.toNat*z)]))
 else eB c z n.mn.toNat b++ek (fun s=>lG s (b+n.mn.toNat*z+(n.mx.toNat-n.mn.toNat)*(z+1)) n.lz) c z (n.mx.toNat-n.mn.toNat) (b+n.mn.toNat*z)
mutual
def aO:Tr→Nat→List aG
 | .mk n ks,b=>
  if n.op=2 then[cH 1 0 0 n.rs]
  else if n.op=7 then[cH 5 0 0 []]
  else if n.op=8 then[cH 6 0 0 []]
  else if n.op=3 then eQ ks b
  else if n.op=4 then dP (kR (b+bD n ks.sz ks.len)) ks b
  else if n.op=5 then lL n (eQ ks) ks.sz b
  else if n.op=6 then cH 4 (2*n.cap) 0 []::(eQ ks (b+1)++[cH 4 (2*n.cap+1) 0 []])
  else[]
def eQ:bu→Nat→List aG
 | .nil,_=>[]
 | .cons t ts,b=>aO t b++eQ ts (b+t.sz)
def dP (jp:aG):bu→Nat→List aG
 | .nil,_=>[]
 | .cons t ts,b=>if ts.len=0 then aO t b else lG b (b+1+t.sz+1) false::(aO t (b+1)++jp::dP jp ts (b+t.sz+2))
end
def oX:bu→Nat→List Nat
 | .nil,_=>[]
 | .cons t ts,b=>if ts.len=0 then[] else(b+1+t.sz)::oX ts (b+t.sz+2)
theorem ic {c:Nat→List aG} {z:Nat} (hc:∀b,(c b).length=z):∀k b,(eB c z k b).length=k*z
 |0,b=>by simp[eB]
 |k+1,b=>by rw[eB,List.length_append,hc,ic hc k,Nat.add_mul];omega
theorem nQ {sp:Nat→aG} {c:Nat→List aG} {z:Nat} (hc:∀b,(c b).length=z):∀k b,(ek sp c z k b).length=k*(z+1)
 |0,b=>by simp[ek]
 |k+1,b=>by rw[ek,List.length_cons,List.length_append,hc,nQ hc k,Nat.add_mul];omega
theorem zN {n:c_} {c:Nat→List aG} {z b:Nat} (hc:∀b,(c b).length=z) (h:n.op=5):(lL n c z b).length=bD n z 1:=by
 unfold lL bD;rw[if_neg (show¬(n.op=2∨n.op=7∨n.op=8) by omega),if_neg (show¬n.op=4 by omega),if_neg (show¬n.op=6 by omega),if_pos h]
 split
 ·rw[List.length_append,ic hc,List.length_cons,List.length_append,hc];simp only[List.length_cons,List.length_nil];omega
 ·rw[List.length_append,ic hc,nQ hc]
theorem bu.xr {ks:bu} (h:ks.len=1):∃t,ks=.cons t .nil:=by
 cases ks with
 |nil=>simp[bu.len] at h
 |cons t ts=>cases ts with
  |nil=>exact⟨t,rfl⟩
  |cons u us=>simp[bu.len] at h
theorem bu.len_nil {ks:bu} (h:ks.len=0):ks=.nil:=by
 cases ks with
 |nil=>rfl
 |cons t ts=>simp[bu.len] at h
mutual
theorem b9:∀(t:Tr) (b:Nat),t.ok→(aO t b).length=t.sz
 | .mk n ks,b,h=>by
  simp only[Tr.ok] at h;obtain⟨h1,h2⟩:=h;have hc:=fun b=>lj ks b h2;have ha:=fun jp b=>oW jp ks b h2;simp only[aO,Tr.sz];obtain⟨_,⟨h3,h4⟩|⟨h3,h4⟩|⟨h3,h4⟩|⟨h3,h4,h5⟩|⟨h3,h4,h5⟩⟩:=h1
  ·have hk:=bu.len_nil h4;subst hk
   by_cases q7:n.op=7
   ·simp[q7,bD]
   ·by_cases q8:n.op=8
    ·simp[q8,bD]
    ·have q1:n.op=1:=by omega
     simp[q1,bD,bu.sz]
  ·simp[h3,bD]
  ·rcases h3 with h3|h3
   ·simp[h3,bD,hc]
   ·simp[h3,bD,ha]
  ·have:=zN (n:=n) (b:=b) hc h3;simp only[h3] at this⊢;simp only[show¬((5:Int)=2) by decide,show¬((5:Int)=7) by decide,show¬((5:Int)=8) by decide,show¬((5:Int)=3) by decide,show¬((5:Int)=4) by decide,if_false,if_true];rw[this,h4]
  ·simp[h3,bD,hc]
theorem lj:∀(ts:bu) (b:Nat),ts.ok→(eQ ts b).length=ts.sz
 | .nil,b,_=>by simp[eQ,bu.sz]
 | .cons t ts,b,h=>by
  simp only[bu.ok] at h;simp only[eQ,bu.sz,List.length_append];rw[b9 t b h.1,lj ts _ h.2]
theorem oW (jp:aG):∀(ts:bu) (b:Nat),ts.ok→(dP jp ts b).length=ts.sz+2*(ts.len-1)
 | .nil,b,_=>by simp[dP,bu.sz,bu.len]
 | .cons t ts,b,h=>by
  simp only[bu.ok] at h;have h1:=oW jp ts (b+t.sz+2) h.2;simp only[dP,bu.sz,bu.len]
  by_cases q:ts.len=0
  ·rw[if_pos q,b9 t b h.1,q];have:=bu.len_nil q;subst this;simp[bu.sz]
  ·rw[if_neg q,List.length_cons,List.length_append,List.length_cons,b9 t _ h.1,h1];omega
end
def gg (f:Nat→aG) (c:List aG) (l:List Nat):List aG:=l.foldl (fun c j=>c.set j (f j)) c
theorem nb {α:Type} (pre post:List α) (x y:α):(pre++x::post).set pre.length y=pre++y::post:=by
 rw[List.set_append_right _ _ (Nat.le_refl _),Nat.sub_self];rfl
theorem nj {α:Type} (pre post:List α) (x:α):(pre++x::post)[pre.length]?=some x:=by
 rw[List.getElem?_append_right (Nat.le_refl _),Nat.sub_self];rfl
theorem lP {sp:Nat→aG} {c:Nat→List aG} {z:Nat} (hc:∀b,(c b).length=z) {i0:aG}:∀(k b:Nat) (pre post:List aG),pre.length=b→gg sp (pre++ek (fun _=>i0) c z k b++post) (tK z k b)=pre++ek sp c z k b++post∧∀j∈tK z k b,(pre++ek (fun _=>i0) c z k b++post)[j]?=some i0
 |0,b,pre,post,_=>⟨rfl,fun j hj=>by cases hj⟩
 |k+1,b,pre,post,h=>by
  have ih:=lP (sp:=sp) hc (i0:=i0) k (b+1+z) (pre++i0::c (b+1)) post (by rw[List.length_append,List.length_cons,hc];omega);have xu:=lP (sp:=sp) hc (i0:=i0) k (b+1+z) (pre++sp b::c (b+1)) post (by rw[List.length_append,List.length_cons,hc];omega);simp only[ek,tK];have e:pre++i0::(c (b+1)++ek (fun _=>i0) c z k (b+1+z))++post=pre++i0::(c (b+1)++ek (fun _=>i0) c z k (b+1+z)++post):=by simp
  have e2:pre++i0::c (b+1)++ek (fun _=>i0) c z k (b+1+z)++post=pre++i0::(c (b+1)++ek (fun _=>i0) c z k (b+1+z)++post):=by simp
  refine⟨?_,fun j hj=>?_⟩
  ·unfold gg at xu⊢;rw[List.foldl_cons,e]
   have hs:(pre++i0::(c (b+1)++ek (fun _=>i0) c z k (b+1+z)++post)).set b (sp b)=pre++sp b::c (b+1)++ek (fun _=>i0) c z k (b+1+z)++post:=by
    rw[←h,nb];simp
   rw[hs,xu.1];simp
  ·rw[e]
   rcases List.mem_cons.1 hj with rfl|hj
   ·rw[←h];exact nj _ _ _
   ·rw[←e2];exact ih.2 j hj
theorem mg {jp i0:aG}:∀(ts:bu) (b:Nat) (pre post:List aG),ts.ok→pre.length=b→gg (fun _=>jp) (pre++dP i0 ts b++post) (oX ts b)=pre++dP jp ts b++post∧∀j∈oX ts b,(pre++dP i0 ts b++post)[j]?=some i0
 | .nil,b,pre,post,_,_=>⟨by simp[dP,oX,gg],fun j hj=>by simp[oX] at hj⟩
 | .cons t ts,b,pre,post,a_,h=>by
  simp only[bu.ok] at a_
  by_cases q:ts.len=0
  ·simp only[dP,oX,if_pos q];exact⟨rfl,fun j hj=>by cases hj⟩
  ·simp only[dP,oX,if_neg q];generalize lG b (b+1+t.sz+1) false=sp;have hcl:=b9 t (b+1) a_.1;have ih:=mg (jp:=jp) (i0:=i0) ts (b+t.sz+2) (pre++sp::(aO t (b+1)++[i0])) post a_.2 (by simp only[List.length_append,List.length_cons,List.length_nil,hcl];omega);have xu:=mg (jp:=jp) (i0:=i0) ts (b+t.sz+2) (pre++sp::(aO t (b+1)++[jp])) post a_.2 (by simp only[List.length_append,List.length_cons,List.length_nil,hcl];omega);generalize dP i0 ts (b+t.sz+2)=A at*;have e:pre++sp::(aO t (b+1)++i0::A)++post=(pre++sp::aO t (b+1))++i0::(A++post):=by simp
   have hl:(pre++sp::aO t (b+1)).length=b+1+t.sz:=by simp only[List.length_append,List.length_cons,hcl];omega
   refine⟨?_,fun j hj=>?_⟩
   ·unfold gg at xu⊢;rw[List.foldl_cons,e,←hl,nb];have:=xu.1;simp only[List.append_assoc,List.cons_append,List.nil_append] at this⊢;exact this
   ·rw[e]
    rcases List.mem_cons.1 hj with rfl|hj
    ·rw[←hl];exact nj _ _ _
    ·have:=ih.2 j hj;simp only[List.append_assoc,List.cons_append,List.nil_append] at this⊢;exact this
def eL {α:Type} (L:List α) (at_:Nat) (M:List α):Prop:=∃post,L.drop at_=M++post
theorem eL.head {α:Type} {L M:List α} {a:α} {at_:Nat} (h:eL L at_ (a::M)):L[at_]?=some a:=by
 obtain⟨post,h⟩:=h;have:=congrArg (·[0]?) h
 simpa using this
theorem eL.tail {α:Type} {L M:List α} {a:α} {at_:Nat} (h:eL L at_ (a::M)):eL L (at_+1) M:=by
 obtain⟨post,h⟩:=h;refine⟨post,?_⟩;rw[←List.drop_drop,h];rfl
theorem eL.left {α:Type} {L M M':List α} {at_:Nat} (h:eL L at_ (M++M')):eL L at_ M:=by
 obtain⟨post,h⟩:=h;exact⟨M'++post,by rw[h,List.append_assoc]⟩
theorem eL.right {α:Type} {L M M':List α} {at_:Nat} (h:eL L at_ (M++M')):eL L (at_+M.length) M':=by
 obtain⟨post,h⟩:=h;refine⟨post,?_⟩;rw[←List.drop_drop,h,List.append_assoc,List.drop_left]
theorem eL.le {α:Type} {L M:List α} {at_:Nat} (h:eL L at_ M) (hM:M≠[]):at_+M.length≤L.length:=by
 obtain⟨post,h⟩:=h;have:=congrArg List.length h;simp only[List.length_drop,List.length_append] at this
 have:0<M.length:=by cases M with|nil=>exact absurd rfl hM|cons _ _=>simp
 omega
theorem eL.all {α:Type} (L:List α):eL L 0 L:=⟨[],by simp⟩
mutual
def Tr.zs:Tr→List Int
 | .mk n ks=>((min (bD n ks.sz ks.len) 401:Nat):Int)::ks.zs
def bu.zs:bu→List Int
 | .nil=>[]
 | .cons t ts=>t.zs++ts.zs
end
mutual
def Tr.es:Tr→Nat→List Int
 | .mk n ks,at_=>((at_+1+ks.flat.length:Nat):Int)::ks.es (at_+1)
def bu.es:bu→Nat→List Int
 | .nil,_=>[]
 | .cons t ts,at_=>t.es at_++ts.es (at_+t.flat.length)
end
mutual
theorem Tr.gT:∀t:Tr,t.zs.length=t.flat.length
 | .mk n ks=>by simp[Tr.zs,Tr.flat,bu.gT ks]
theorem bu.gT:∀ts:bu,ts.zs.length=ts.flat.length
 | .nil=>rfl
 | .cons t ts=>by simp[bu.zs,bu.flat,Tr.gT t,bu.gT ts]
end
mutual
theorem Tr.g_:∀(t:Tr) (a:Nat),(t.es a).length=t.flat.length
 | .mk n ks,a=>by simp[Tr.es,Tr.flat,bu.g_ ks]
theorem bu.g_:∀(ts:bu) (a:Nat),(ts.es a).length=ts.flat.length
 | .nil,_=>rfl
 | .cons t ts,a=>by simp[bu.es,bu.flat,Tr.g_ t,bu.g_ ts]
end
theorem Tr.gr (t:Tr):0<t.flat.length:=by cases t;simp[Tr.flat]
theorem bu.jw:∀ts:bu,ts.len≤ts.flat.length
 | .nil=>Nat.le_refl _
 | .cons t ts=>by
  have h1:=bu.jw ts;have h2:=t.gr;simp only[bu.len,bu.flat,List.length_append];omega
end Go.Proofs.Ytbdnabmmlbiomaa
namespace Go.V
variable{N:Nat} {S st:St} {H:List bC}
theorem cm.at_ {α β:Type} {R:α→β→Prop}:∀{l:List α} {m:List β} {i:Nat} {b:β},cm R l m→m[i]?=some b→∃a,l[i]?=some a∧R a b
 |_,_,_,_,.nil,h=>by simp at h
 |_,_,0,_,.cons a t,h=>by simp only[List.getElem?_cons_zero,Option.some.injEq] at h;subst h;exact⟨_,rfl,a⟩
 |_,_,i+1,_,.cons a t,h=>by simp only[List.getElem?_cons_succ] at h⊢;exact t.at_ h
theorem cm.set {α β:Type} {R:α→β→Prop} {a:α} {b:β} (r:R a b):∀{l:List α} {m:List β} (i:Nat),cm R l m→cm R (l.set i a) (m.set i b)
 |_,_,_,.nil=>.nil
 |_,_,0,.cons _ t=>.cons r t
 |_,_,i+1,.cons h t=>.cons h (t.set r i)
theorem cm.setMany {R:D→D→Prop}:∀{xs ys:List D} {c d:List D} (o:Nat),cm R xs ys→cm R c d→cm R (setMany c o xs) (setMany d o ys)
 |_,_,_,_,_,.nil,h=>h
 |_,_,_,_,o,.cons r t,h=>by simp only[Go.V.setMany];exact t.setMany (o+1) (h.set r o)
theorem cm.same {R:D→D→Prop}:∀{l:List D},(∀d∈l,R d d)→cm R l l
 |[],_=>.nil
 |d::l,h=>.cons (h d (List.mem_cons_self ..)) (cm.same fun x hx=>h x (List.mem_cons_of_mem _ hx))
theorem Has.NG {j:Nat} {x:D} {s:Nat} {ks:Nat→Prop} {vs:List (List D)} (hH:Has N S st H) (hj:H[j]?=some (.deep ks x s vs)):∃es,Rows st s x es∧es.length=vs.length:=by
 obtain⟨⟨es,h1,h2⟩,_⟩:=(hH.ok j _ hj).1;exact⟨es,h1.rows,h2.len⟩
theorem Has.Ro {j k ax off len s:Nat} {ks:Nat→Prop} {vs:List (List D)} {i o:Nat} {v cs:List D} (h:Has N S st H) (hj:H[j]?=some (.deep ks (.win k ax off len s) s vs)) (hi:vs[i]?=some v) (hl:o+cs.length≤s) (hp:∀d∈cs,bX d=true) (hw:S.flr≤N∨refs cs=0):
  ∃ah,st.wr k ax (off+i*s+o) cs=some ah∧Has N S ah (H.set j (.deep ks (.win k ax off len s) s (vs.set i (setMany v o cs)))):=by
 obtain⟨⟨es,kr,yQ⟩,he3⟩:=(h.ok j _ hj).1;have hK:=(h.ok j _ hj).2;obtain⟨e,Vq,aH⟩:=yQ.at_ hi
 have zn:Has N S st [.aJ (.win k ax off len s) s es]:=by
  refine⟨h.ex,h.hN,h.eT,fun i e hi=>?_,fun i i' a b hii ha hb k uw iA=>?_⟩
  ·cases i with
   |zero=>simp only[List.getElem?_cons_zero,Option.some.injEq] at hi;subst hi;exact⟨kr,fun k hk=>hK k (.inl hk)⟩
   |succ i=>simp at hi
  ·cases i with
   |zero=>cases i' with
    |zero=>exact hii rfl
    |succ i'=>simp at hb
   |succ i=>simp at ha
 obtain⟨ah,q1,q2⟩:=zn.w9 (j:=0) ay Vq hl hw;refine⟨ah,q1,?_⟩;have hown:=q2.own (j:=0) ay
 have PW:(∀n,n≠k→ah.bs[n]?=st.bs[n]?)∧st.bs.length=ah.bs.length∧ah.flr=st.flr∧ah.ro=st.ro:=by
  unfold St.wr at q1
  split at q1
  ·split at q1
   ·cases q1;exact⟨fun n hn=>by simp only;rw[List.getElem?_set_ne (fun e=>hn e.symm)],by simp,rfl,rfl⟩
   ·cases q1
  ·cases q1
 obtain⟨c1,c2,c3,c4⟩:=PW;have hkk:=hK k (.inl (by simp only[D.ref]));have hne:∀n,ks n→n≠k:=fun n hn e=>he3 k (by simp only[D.ref]) (e▸hn);have uu:∀n,ks n→ah.bs[n]?=st.bs[n]?:=fun n hn=>c1 n (hne n hn);refine h.zx hj (fun n hn hnot=>c1 n fun e=>hnot (.inl (by simp only[D.ref];omega))) (Nat.le_of_eq c2) c3 c4 ⟨⟨_,hown,?_⟩,he3⟩ (fun n hn=>.inl hn) fun n hn=>?_
 ·refine cm.set ?_ i (yQ.mono fun a b=>cm.mono fun c d=>dV.move uu);exact(cm.same fun d hd=>.plain d (hp d hd)).setMany o (aH.mono fun c d=>dV.move uu)
 ·rw[←c2];exact(hK n hn).2
variable{P:Pv} {ops:Array Oper} {rest:List Oper} {fr aE:Fr} {Q:Fr→St→Prop} {ty:TypeId} {pp:String} {a:Array Edge} {g:Option (Nat×Bool)} {dst:Nat}
theorem ab.y4 {t e:TypeId} {xo:Operand} {x:D} {s j:Nat} {ks:Nat→Prop} {vs:List (List D)} (hH:Has N S st H) (hg:aA ops fr ⟨some dst,.call ⟨.builtin .len,#[xo],#[t]⟩,ty,pp,a,g⟩=some true) (hx:fr.ev xo=x) (hj:H[j]?=some (.deep ks x s vs)) (ht:P.cq t=some (.slice e)) (hp:fr.put dst (.int .i64 (vs.length:Nat))=aE)
  (h:ab P ops rest aE st Q):ab P ops (⟨some dst,.call ⟨.builtin .len,#[xo],#[t]⟩,ty,pp,a,g⟩::rest) fr st Q:=by
 obtain⟨es,h1,h2⟩:=hH.NG hj;exact ab.Jv hg hx h1 ht (by rw[h2];exact hp) h
theorem ab.Bl {t e:TypeId} {xo io:Operand} {x:D} {s i j:Nat} {kk:IntKind} {ks:Nat→Prop} {vs:List (List D)} {aE:D→Fr} (hH:Has N S st H) (hg:aA ops fr ⟨some dst,.indexAddr t xo io,ty,pp,a,g⟩=some true) (hx:fr.ev xo=x) (hi:fr.ev io=.int kk (i:Nat)) (hj:H[j]?=some (.deep ks x s vs)) (ht:P.cq t=some (.slice e)) (hs:bT P e=some s) (hr:i<vs.length) (hp:∀p,fr.put dst p=aE p)
  (h:∀p,mX x s i 0 p→ab P ops rest (aE p) st Q):ab P ops (⟨some dst,.indexAddr t xo io,ty,pp,a,g⟩::rest) fr st Q:=by
 obtain⟨⟨es,kr,yQ⟩,he3⟩:=(hH.ok j _ hj).1;have hlen:=yQ.len
 cases kr with
 |nul=>simp at hlen;omega
 |win k ax off es c hm hl hc he=>
  refine ab.go hg rfl (d:=.ptr k ax (off+i*s)) (st1:=st) ?_ (hp _) (h _ ⟨k,ax,off,_,rfl,rfl⟩);simp only[di,hx,hi,bM,ht,hs,Option.bind_some,St.mem_of hm,Option.isSome_some];rw[if_pos ⟨trivial,by omega,by omega,trivial⟩];rfl
theorem ab.oN {t:TypeId} {ao vo:Operand} {x y v:D} {s i o j:Nat} {ks:Nat→Prop} {vs:List (List D)} {r cs:List D} (hH:Has N S st H) (hg:aA ops fr ⟨none,.store t ao vo,ty,pp,a,g⟩=some true) (ha:fr.ev ao=y) (hv:fr.ev vo=v) (hR:mX x s i o y) (hY:v.cells?=some cs) (hs:bT P t=some cs.length) (hj:H[j]?=some (.deep ks x s vs)) (hr:vs[i]?=some r) (hl:o+cs.length≤s) (hq:∀d∈cs,bX d=true) (hw:S.flr≤N∨refs cs=0)
  (h:∀ah,Has N S ah (H.set j (.deep ks x s (vs.set i (setMany r o cs))))→ab P ops rest fr ah Q):ab P ops (⟨none,.store t ao vo,ty,pp,a,g⟩::rest) fr st Q:=by
 obtain⟨k,ax,off,len,rfl,rfl⟩:=hR;obtain⟨ah,h1,h2⟩:=hH.Ro hj hr hl hq hw;refine ab.N hg rfl (d:=.tup []) (st1:=ah) ?_ (h _ h2);simp only[di,ha,hv,jh,hY,hs,if_pos trivial,h1];rfl
theorem af.KO {dy:Dy} {i:Nat} {l:List Oper} {d n loc tmp st} {Q:Out→Fr→St→Prop} (ws:List Nat) (F:(Nat→D)→Prop)
  (h1:ab P l.toArray l ⟨n,loc,[]⟩ st fun aE ah=>∃f tmp,aE=⟨n,aI loc ws f,tmp⟩∧ah=st∧F f) (h2:∀f tmp,F f→Q .next ⟨n,aI loc ws f,tmp⟩ st) (h0:fm i dy=[]:=by rfl):af P dy (.region i l.toArray d) ⟨n,loc,tmp⟩ st Q:=by
 refine af.eX ?_ h0;unfold ab at h1⊢;obtain⟨aE,ah,h3,f,Gj,rfl,rfl,h4⟩:=h1;exact⟨_,_,h3,h2 _ _ h4⟩
theorem jx {n:Nat} {L loc:List D} {rn:List (Nat×D)} {ws:List Nat} {F:(Nat→D)→Prop} {st:St} (h:L=aI loc ws (fun k=>nth .bp L k)) (h2:F (fun k=>nth .bp L k)):∃(f:Nat→D) (tmp:List (Nat×D)),(⟨n,L,rn⟩:Fr)=⟨n,aI loc ws f,tmp⟩∧st=st∧F f:=⟨_,rn,by rw[←h],rfl,h2⟩
theorem ab.L5 {t1 t2:TypeId} {xo yo:Operand} {x y z:Int} (hg:aA ops fr ⟨some dst,.call ⟨.builtin .min,#[xo,yo],#[t1,t2]⟩,ty,pp,a,g⟩=some true) (hx:fr.ev xo=.int .i64 x) (hy:fr.ev yo=.int .i64 y) (hz:min x y=z) (hp:fr.put dst (.int .i64 z)=aE) (h:ab P ops rest aE st Q):ab P ops (⟨some dst,.call ⟨.builtin .min,#[xo,yo],#[t1,t2]⟩,ty,pp,a,g⟩::rest) fr st Q:=
 ab.EU (t1:=t1) (t2:=t2) hg hx hy (by rw[hz];exact hp) h
theorem Has.ud {N:Nat} {S s0 S2 st2:St} {H:List bC} {x:D} {s:Nat} {es Rl:List (List D)} (h:Has N S s0 (.aJ x s es::H)) (hS:S2.bs=s0.bs) (h2:Has N S2 st2 (.aJ x s Rl::H)):Has N S ⟨st2.bs.take s0.bs.length,s0.flr,s0.ro⟩ (.aJ x s Rl::H):=by
 refine h.rZ hS h2 fun i e hi=>?_
 cases i with
 |zero=>simp only[List.getElem?_cons_zero,Option.some.injEq] at hi;subst hi;exact⟨_,rfl,fun k hk=>hk⟩
 |succ i=>exact⟨e,hi,fun k hk=>hk⟩
theorem Has.ue {N:Nat} {S s0 S2 st2:St} {H:List bC} {k:Nat} {b b':gH} {ks:Nat→Prop} {x:D} {s:Nat} {vs Lk:List (List D)} (h:Has N S s0 (.box k b::.deep ks x s vs::H)) (hS:S2.bs=s0.bs) (h2:Has N S2 st2 (.box k b'::.deep ks x s Lk::H)):Has N S ⟨st2.bs.take s0.bs.length,s0.flr,s0.ro⟩ (.box k b'::.deep ks x s Lk::H):=by
 refine h.rZ hS h2 fun i e hi=>?_
 match i with
 |0=>simp only[List.getElem?_cons_zero,Option.some.injEq] at hi;subst hi;exact⟨_,rfl,fun k hk=>hk⟩
 |1=>simp only[List.getElem?_cons_succ,List.getElem?_cons_zero,Option.some.injEq] at hi;subst hi;exact⟨_,rfl,fun k hk=>hk⟩
 |i+2=>exact⟨e,hi,fun k hk=>hk⟩
theorem Has.EC {N:Nat} {S st:St} {H:List bC} {a b c d e:bC} (h:Has N S st (a::b::c::d::e::H)):Has N S st (b::c::d::e::a::H):=by
 refine h.sub (fun i=>if i=4 then 0 else if i<4 then i+1 else i) (fun i j hij=>?_) (fun i x hi=>?_)
 ·(try simp only at hij)
  split at hij<;>split at hij<;>(try split at hij)<;>(try split at hij)<;>omega
 ·match i,hi with
  |0,hi=>exact hi
  |1,hi=>exact hi
  |2,hi=>exact hi
  |3,hi=>exact hi
  |4,hi=>exact hi
  |i+5,hi=>
   have h1:¬(i+5=4):=by omega
   have h2:¬(i+5<4):=by omega
   simp only[if_neg h1,if_neg h2];exact hi
theorem Has.jL {fr:Fr} {a k ax off j u u2:Nat} {t:TypeId} {ar:Bool} {c:List D} {d e e2:D} (hH:Has N S st H) (ha:fr.get a=.ptr k ax off) (hj:H[j]?=some (.box k (.mem ax ar c))) (hd:c7 P t (c.drop off)=some d) (he:fr.get u=e) (yQ:fr.get u2=e2):iF P fr st [.cell a t,.tmp u,.tmp u2]=some [d,e,e2]:=by
 simp only[iF,eZ,ha,St.mem_of (hH.at hj),Option.bind_some,hd,Option.map_some,he,yQ]
theorem af.ki {dy:Dy} {c1 c2:Code} {fr:Fr} {st:St} {Q:Out→Fr→St→Prop} (M:Fr→St→Prop) (h1:af P dy c1 fr st (bW P dy c2 (BK M Q))) (h2:∀aE ah,M aE ah→Q .next aE ah):af P dy c1 fr st (bW P dy c2 Q):=
 h1.mono fun o aE ah h=>by
  cases o with
  |next=>exact af.merge M h h2
  |exit i=>exact h
  |ret=>exact h
end Go.V
namespace Go.Proofs.Ytbdnabmmlbiomaa
open Go.V Go
def vS (fr:Go.V.Fr) (k:Nat):Go.V.D:=Go.V.nth .bp fr.loc k
theorem yY {st:St} {L n:Nat} {kn:Bool} {k ax off len s:Nat}:bo st L kn n (.win k ax off len s)=bo st L false n (.win k ax off len s):=by
 cases n<;>rfl
theorem yW (l:List Rg):(l.map au).map (·.map mU)=l.map au:=by
 rw[List.map_map];rfl
theorem vg (l:List Rg):∀e∈l.map au,∀d∈e,mo d=true:=by
 intro e he d hd;obtain⟨x,_,rfl⟩:=List.mem_map.1 he;simp only[au,List.mem_cons,List.not_mem_nil,or_false] at hd
 rcases hd with rfl|rfl<;>rfl
theorem mG {N L j:Nat} {S st:St} {H:List bC} {x:D} {l:List Rg} (hH:Has N S st H) (hj:H[j]?=some (.aJ x 2 (l.map au))) (hx:∀k,x.ref=k+1→L≤k) {n:Nat} (hn:3≤n):bo st L false n x=some (bw l):=by
 rw[hH.xH hj hx (vg l) hn,yW,gh]
def NK (gs:List (Nat×Nat)) (s s':eu) (d1:D) (b:Bool):Prop:=
 BJ gs s s' d1 b∨(s'=s∧d1=.nul∧b=false)
theorem xe {N k:Nat} {S s0:St} {H:List bC} {gs:List (Nat×Nat)} {bE:D} {bO:List Int} {s:eu} (a_:jF gs bO) (he:s.e=0) (hi:s.i<gs.length) (hH:Has N S s0 (.box k (.mem 0 false (aP gs bE s))::.aJ bE 1 (bO.map aw)::H)):
  ∃d ah,Ev pv 110 [.ptr k 0 0] s0 d ah∧∃(d1:D) (b:Bool) (s':eu),d=.tup [d1,.bool b]∧NK gs s s' d1 b∧Has N S ah (.box k (.mem 0 false (aP gs bE s'))::.aJ bE 1 (bO.map aw)::H):=by
 have sB:=a_.gl;have jf:=a_.pl;refine Ev.iY rfl ND rfl rfl rfl ?_;dsimp only[u3,u4,List.length,Nat.reduceSub,Nat.reduceAdd,w1,w2];have ck:=hH;have hH:=hH.cn;have ch:(ai .rw s0).bs=s0.bs:=rfl;generalize ai .rw s0=S2 at*;have Ft:Arg N S2 2 (eG gs) (gs.map bm):=Arg.pure (fun st=>dj st gs)
 obtain⟨g,hg⟩:∃g,gs[s.i]?=some g:=⟨gs[s.i]'hi,List.getElem?_eq_getElem _⟩
 have gD:(gs.map bm)[s.i]?=some (bm g):=by rw[List.getElem?_map,hg];rfl
 refine qq<|qj fun K hK=>qm ?_;refine qm ?_;refine qe hK<|qq<|qq<|qj fun K hK=>qm ?_;refine qm ?_;refine qg ?_;refine qp (o:=2) ?_;refine ql hH ay ?_;obtain⟨_,st,aH,rfl,hH⟩:=wI (s:=s) s.i hi hH;refine qv aH ?_;refine qe hK ?_;refine qc (fun hb=>?_) (fun hb=>?_)<;>try simp only[cs] at hb
 ·refine qq<|qj fun K hK=>qm ?_;refine qm ?_;refine qg ?_;refine qp (o:=2) ?_;refine ql hH ay ?_;obtain⟨_,st,aH,rfl,hH⟩:=cK (s:=s) s.i 4 (by omega) hH;refine qv aH ?_;refine qe hK<|qq<|qj fun K hK=>qm ?_;refine qm ?_;refine qe hK ?_;obtain⟨h1,h2,h3,h4⟩:=cU (bO:=bO) (s:=s) (i:=s.i) (e:=4) he (by decide);refine af.ret ⟨rx,_,_,_,rfl,aj (rfl),?_⟩;exact⟨_,_,_,rfl,.inl ⟨h3,h4,by rw[h2];exact Nat.le_refl _,by rw[h2];omega,.inl rfl,.inl h1⟩,ck.av ch hH⟩
 ·refine af.skip<|qq<|qj fun K hK=>qm ?_;refine qg ?_;refine qp (o:=0) ?_;refine ql hH ay ?_;refine qm ?_;refine qg ?_;refine qp (o:=2) ?_;refine ql hH ay ?_;refine qr fun LW AR=>?_;refine qf (fo:=0) fun Tn Ph=>?_;refine qR ?_;refine qm ?_;refine qe hK<|qq<|qj fun K hK=>qm ?_;refine qe hK<|af.block<|qq<|qj fun K hK=>qg ?_;refine qm ?_;refine qe hK ?_;refine af.cond (by rfl) (fun q1=>?_) (fun q1=>?_)<;>try simp only[beq_iff_eq,beq_eq_false_iff_ne,ne_eq] at q1
  ·refine qq<|qj fun K hK=>qm ?_;obtain⟨_,st,aH,d1,b,s',rfl,hP,hH⟩:=w7 (s:=s) a_ he hi hH;refine qv aH ?_;refine qg ?_;refine qg ?_;refine qm ?_;refine qm ?_;refine qe hK ?_
   rcases hP.2.2.2.2.1 with rfl|⟨a,rfl,_⟩
   ·refine af.ret ⟨rx,_,_,_,rfl,aj (rfl),?_⟩;exact⟨_,_,_,rfl,.inl hP,ck.av ch hH⟩
   ·refine af.ret ⟨rx,_,_,_,rfl,aj (rfl),?_⟩;exact⟨_,_,_,rfl,.inl hP,ck.av ch hH⟩
  ·refine qq<|qq<|qj fun K hK=>qg ?_;refine qm ?_;refine qe hK ?_
   by_cases K5:((g.1:Nat):Int)=91
   ·refine qD rfl (by simp[K5]) ?_;refine af.skip<|qD rfl (by simp[K5]) ?_;refine qq<|qj fun K hK=>qm ?_;refine qm ?_;refine qe hK<|af.ret ⟨rx,_,_,_,rfl,aj (rfl),?_⟩;exact⟨_,_,_,rfl,.inr ⟨rfl,rfl,rfl⟩,ck.av ch hH⟩
   refine qE rfl (by simp[K5]) ?_;refine qq<|qj fun K hK=>qg ?_;refine qm ?_;refine qe hK ?_
   by_cases Og:((g.1:Nat):Int)=93
   ·refine qD rfl (by simp[Og]) ?_;refine af.skip<|qD rfl (by simp[Og]) ?_;refine qq<|qj fun K hK=>qm ?_;refine qm ?_;refine qe hK<|af.ret ⟨rx,_,_,_,rfl,aj (rfl),?_⟩;exact⟨_,_,_,rfl,.inr ⟨rfl,rfl,rfl⟩,ck.av ch hH⟩
   refine qE rfl (by simp[Og]) ?_;refine qj fun K hK=>qg ?_;refine qm ?_;refine qe hK ?_
   by_cases RR:((g.1:Nat):Int)=45
   ·refine qD rfl (by simp[RR]) ?_;refine qq<|qj fun K hK=>qm ?_;refine qm ?_;refine qe hK<|af.ret ⟨rx,_,_,_,rfl,aj (rfl),?_⟩;exact⟨_,_,_,rfl,.inr ⟨rfl,rfl,rfl⟩,ck.av ch hH⟩
   refine qE rfl (by simp[RR]) ?_;refine qq<|qj fun K hK=>qm ?_;refine qg ?_;refine qp (o:=2) ?_;refine ql hH ay ?_;refine qA ?_;refine qg ?_;refine qp (o:=2) ?_;refine qT hH ay fun st hH=>?_;dsimp only[u2,u1,u3,u4,setMany,u5,u6,D.cells,Nat.reduceAdd,aP,bm,aw,au] at hH;refine qe hK<|qq<|qj fun K hK=>qm ?_;refine qm ?_;refine ab.fe (qs:=[(0,_),(1,_)]) rfl rfl rfl rfl ⟨rfl,(ev rfl),(by rfl),rfl,(ev rfl),(by rfl),trivial⟩ (by intro q hq;simp only[List.mem_cons,List.not_mem_nil,or_false] at hq;rcases hq with rfl|rfl<;>exact⟨rfl,by exact Nat.le_of_ble_eq_true rfl⟩) (by show List.foldl _ [_,_] _=_;dsimp only[List.foldl_cons,List.foldl_nil,u2,u1]<;>rfl) (ag rfl _) ?_;refine qh (s:=2) (vs:=[_]) hH fun k39 st U2 hH=>?_;refine qm ?_;refine qm ?_;refine qe hK ?_;have hH:Has N S2 st (.aJ (.win k39 0 0 1 2) 2 (([((g.1:Nat),(g.1:Nat))]:List Rg).map au)::.box k (.mem 0 false (aP gs bE {s with i:=s.i+1}))::.aJ bE 1 (bO.map aw)::H):=hH;have hfz:=mG hH ay (L:=s0.bs.length) (n:=15) (fun k hk=>by simp only[D.ref] at hk;rw[←ch];omega) (by decide)
   have PI:bo st s0.bs.length true 16 (o_ [.win k39 0 0 1 2,.bool true])=some (.tup [bw [(((g.1:Nat):Int),((g.1:Nat):Int))],.bool true]):=by
    show(fZ (bo st s0.bs.length true 15) [.win k39 0 0 1 2,.bool true]).map D.tup=_;simp only[fZ,yY,hfz];rfl
   refine af.ret ⟨rx,_,_,_,rfl,aj PI,⟨_,_,{s with i:=s.i+1},rfl,.inl ⟨rfl,rfl,?_,?_,.inr ⟨_,rfl,by simp⟩,.inr ⟨he,?_,_,rfl,?_,?_⟩⟩,ck.av ch (hH.drop 1)⟩⟩
   ·show s.i≤s.i+1;omega
   ·show s.i+1≤_;omega
   ·show s.i<s.i+1;omega
   ·simp
   ·simp
def NM (gs:List (Nat×Nat)) (s s':eu) (d:D):Prop:=
 s'.o=s.o∧s'.g=s.g∧s.i≤s'.i∧s'.i≤gs.length∧∃a:List Rg,d=bw a∧a.length≤8∧(s'.e≠0∨s'.e=0∧s.i<s'.i)
theorem fO {gs:List (Nat×Nat)} {s:eu} {r:Int}:(cI gs s r).o=s.o∧(cI gs s r).g=s.g∧(cI gs s r).e=s.e∧s.i≤(cI gs s r).i∧(s.i≤gs.length→(cI gs s r).i≤gs.length):=by
 unfold cI
 split
 ·rename_i h;have:=om h;exact⟨rfl,rfl,rfl,by show s.i≤s.i+1;omega,fun _=>by show s.i+1≤_;omega⟩
 ·exact⟨rfl,rfl,rfl,Nat.le_refl _,fun h=>h⟩
theorem E1 {N k:Nat} {S s0:St} {H:List bC} {gs:List (Nat×Nat)} {bE:D} {bO:List Int} {s:eu} (a_:jF gs bO) (he:s.e=0) (hi:s.i<gs.length) (hH:Has N S s0 (.box k (.mem 0 false (aP gs bE s))::.aJ bE 1 (bO.map aw)::H)):
  ∃d ah,Ev pv 94 [.ptr k 0 0] s0 d ah∧∃(s':eu),NM gs s s' d∧Has N S ah (.box k (.mem 0 false (aP gs bE s'))::.aJ bE 1 (bO.map aw)::H):=by
 have sB:=a_.gl;have jf:=a_.pl;refine Ev.iY rfl Ql rfl rfl rfl ?_;dsimp only[u3,u4,List.length,Nat.reduceSub,Nat.reduceAdd,w1,w2];have ck:=hH;have hH:=hH.cn;have ch:(ai .rw s0).bs=s0.bs:=rfl;generalize ai .rw s0=S2 at*;have Ft:Arg N S2 2 (eG gs) (gs.map bm):=Arg.pure (fun st=>dj st gs);refine qq<|qj fun K hK=>qm ?_;refine qe hK<|qq<|qj fun K hK=>qm ?_;refine qg ?_;refine qp (o:=2) ?_;refine ql hH ay ?_;refine qm ?_;refine qe hK<|qq<|qj fun K hK=>qm ?_;obtain⟨_,st,aH,d1,b,s1,rfl,hP,hH⟩:=xe (s:=s) a_ he hi hH;refine qv aH ?_;refine qm ?_;refine qg ?_;refine qg ?_;refine qm ?_;refine qm ?_;refine qe hK<|qq<|qq<|qj fun K hK=>qm ?_;refine qg ?_;refine qp (o:=5) ?_;refine ql hH ay ?_;refine qg ?_;refine qe hK ?_
 rcases hP with hP|⟨e1,rfl,rfl⟩
 ·obtain⟨p1,p2,p3,p4,p5,p6⟩:=hP
  rcases p6 with p6|⟨p6,p7,a,rfl,p8,p9⟩
  ·refine qD rfl (by simp[p6]) ?_;refine qq<|qj fun K hK=>qm ?_;refine qe hK<|af.ret ⟨rx,_,_,_,rfl,aj (rfl),?_⟩;exact⟨s1,⟨p1,p2,p3,p4,[],rfl,by simp,.inl p6⟩,ck.av ch hH⟩
  ·obtain⟨q,a',rfl⟩:∃q a',a=q::a':=List.exists_cons_of_ne_nil p9;refine qE rfl (by simp[p6]) ?_;refine af.skip<|qq<|qq<|qj fun K hK=>qm ?_;refine ab.go (d:=.bool false) (st1:=_) rfl rfl rfl (ag rfl _) ?_;refine qe hK<|qC ?_;refine af.skip ?_;obtain⟨k1,k2,k3,k4,k5⟩:=fO (gs:=gs) (s:=s1) (r:=45);have k5:=k5 p4;refine qq<|qq<|qj fun K hK=>qm ?_;obtain⟨_,st,aH,rfl,hH⟩:=dt (s:=s1) (by omega) 45 hH;refine qv aH ?_;refine qg ?_;refine qe hK ?_;generalize cI gs s1 45=s2 at*
   cases hb:hU gs s1.i 45 with
   |false=>
    refine qB ?_;refine qq<|qj fun K hK=>qm ?_;refine qm ?_;refine qe hK<|af.ret ⟨rx,_,_,_,rfl,aj (rfl),?_⟩;exact⟨s2,⟨k1.trans p1,k2.trans p2,by omega,k5,q::a',rfl,p8,.inr ⟨k3.trans p6,by omega⟩⟩,ck.av ch hH⟩
   |true=>
    refine qC ?_;refine af.skip<|qq<|qj fun K hK=>qm ?_;refine qe hK<|qq<|qj fun K hK=>qm ?_;refine qe hK<|qq<|qq<|qj fun K hK=>qm ?_;refine qg ?_;refine qp (o:=2) ?_;refine ql hH ay ?_;refine qm ?_;refine qg ?_;refine qp (o:=0) ?_;refine ql hH ay ?_;refine qn ?_;simp only[List.length_map];refine qg ?_;refine qe hK<|af.merge (fun fr st=>∃(d2:D) (two:Bool) (s3:eu) (tmp:List (Nat×D)),fr=⟨8,[.ptr k 0 0,vS fr 1,vS fr 2,.int .i64 (s.i:Nat),bw (q::a'),.bool b,d2,.bool two],tmp⟩∧Has N S2 st (.box k (.mem 0 false (aP gs bE s3))::.aJ bE 1 (bO.map aw)::H)∧(s3.o=s.o)∧(s3.g=s.g)∧(s2.i≤s3.i)∧(s3.i≤gs.length)∧(s3.e≠0∨s3.e=0∧(two=false∨∃a2:List Rg,d2=bw a2∧a2≠[]))) ?_ ?_
    ·refine af.cond (by rfl) (fun hlt=>?_) (fun hlt=>?_)<;>try simp only[decide_eq_true_eq,decide_eq_false_iff_not] at hlt
     ·refine qj fun K hK=>qm ?_;obtain⟨_,st,aH,d2,two,s3,rfl,VI,hH⟩:=xe (s:=s2) a_ (k3.trans p6) (by omega) hH;refine qv aH ?_;refine qm ?_;refine qg ?_;refine qg ?_;refine qm ?_;refine qm ?_;refine qe hK ?_
      rcases VI with⟨r1,r2,r3,r4,r5,r6⟩|⟨e1,rfl,rfl⟩
      ·refine⟨d2,two,s3,_,rfl,hH,r1.trans (k1.trans p1),r2.trans (k2.trans p2),r3,r4,?_⟩
       rcases r6 with r6|⟨r6,r7,a2,rfl,r8,r9⟩
       ·exact .inl r6
       ·refine .inr ⟨r6,?_⟩
        cases two with
        |false=>exact .inl rfl
        |true=>exact .inr ⟨a2,rfl,r9⟩
      ·exact⟨.nul,false,s3,_,rfl,hH,by rw[e1];exact k1.trans p1,by rw[e1];exact k2.trans p2,by rw[e1];exact Nat.le_refl _,by rw[e1];exact k5,.inr ⟨by rw[e1];exact k3.trans p6,.inl rfl⟩⟩
     ·refine af.skip ?_;exact⟨.nul,false,s2,_,rfl,hH,k1.trans p1,k2.trans p2,Nat.le_refl _,k5,.inr ⟨k3.trans p6,.inl rfl⟩⟩
    ·rintro fr st ⟨d2,two,s3,tmp,hfr,hH,h1,h2,h3,h4,h5⟩;rw[hfr];clear hfr;generalize vS fr=ee;clear fr
     rcases h5 with h5|⟨h5,h6⟩
     ·have bc:(s3.e==0)=false:=by simpa using h5
      refine qq<|qq<|qj fun K hK=>qm ?_;refine qg ?_;refine qp (o:=5) ?_;refine ql hH ay ?_;refine qg ?_;refine qm ?_;refine qs ?_ (hg:=wn bc);refine qs ?_ (hg:=wn bc);refine qs ?_ (hg:=wn bc);refine qs ?_;refine qs ?_;refine qs ?_ (hg:=wn bc);refine qs ?_ (hg:=wn bc);refine qs ?_;refine qs ?_;refine qs ?_;refine qs ?_;refine qs ?_;refine qs ?_;refine qs ?_;refine qs ?_;refine qs ?_;refine qs ?_ (hg:=wn bc);refine qu bc ?_;refine qe hK<|qC ?_;refine af.skip<|qq<|qq<|qj fun K hK=>qm ?_;refine qg ?_;refine qp (o:=5) ?_;refine ql hH ay ?_;refine qg ?_;refine qe hK<|qD rfl (by simp[h5]) ?_;refine qq<|qj fun K hK=>qm ?_;refine qe hK<|af.ret ⟨rx,_,_,_,rfl,aj (rfl),?_⟩;exact⟨s3,⟨h1,h2,by omega,h4,[],rfl,by simp,.inl h5⟩,ck.av ch hH⟩
     ·have bc:(s3.e==0)=true:=by simpa using h5
      cases b with
      |false=>
       have fU:(!false)=true:=rfl;refine qq<|qq<|qj fun K hK=>qm ?_;refine qg ?_;refine qp (o:=5) ?_;refine ql hH ay ?_;refine qg ?_;refine qm ?_;refine qm ?_ (hg:=wi bc);refine qg ?_ (hg:=wi bc);refine qm ?_ (hg:=wi bc);refine qs ?_ (hg:=wn fU);refine qs ?_ (hg:=wn fU);refine ab.dG (aB rfl rfl rfl bc) rfl fU (ag rfl _) ?_;refine qm ?_ (hg:=wi bc);refine qs ?_;refine qs ?_;refine qs ?_;refine qs ?_;refine qs ?_;refine qs ?_;refine qs ?_;refine qs ?_;refine qs ?_;refine qg ?_ (hg:=wi bc);refine qt bc ?_;refine qe hK<|qB ?_;refine qj fun K hK=>qm ?_;refine qm ?_;obtain⟨_,st,aH,rfl,hH⟩:=cK (s:=s3) s.i 4 (by omega) hH;refine qv aH ?_;refine qe hK ?_;obtain⟨w1,w2,w3,w4⟩:=cU (bO:=bO) (s:=s3) (i:=s.i) (e:=4) h5 (by decide);generalize gU bO s3 s.i 4=s4 at*;refine qq<|qq<|qj fun K hK=>qm ?_;refine qg ?_;refine qp (o:=5) ?_;refine ql hH ay ?_;refine qg ?_;refine qe hK<|qD rfl (by simp[w1]) ?_;refine qq<|qj fun K hK=>qm ?_;refine qe hK<|af.ret ⟨rx,_,_,_,rfl,aj (rfl),?_⟩;exact⟨s4,⟨w3.trans h1,w4.trans h2,by omega,by omega,[],rfl,by simp,.inl w1⟩,ck.av ch hH⟩
      |true=>
       have fU:(!true)=false:=rfl
       cases two with
       |false=>
        have cJ:(!false)=true:=rfl;refine qq<|qq<|qj fun K hK=>qm ?_;refine qg ?_;refine qp (o:=5) ?_;refine ql hH ay ?_;refine qg ?_;refine qm ?_;refine qm ?_ (hg:=wi bc);refine qg ?_ (hg:=wi bc);refine qm ?_ (hg:=wi bc);refine qm ?_ (hg:=wi fU);refine qg ?_ (hg:=wi fU);refine ab.cX (aB rfl rfl rfl bc) rfl fU (ag rfl _) ?_;refine qm ?_ (hg:=wi bc);refine qs ?_ (hg:=wn cJ);refine qs ?_ (hg:=wn cJ);refine qs ?_ (hg:=wn cJ);refine qs ?_ (hg:=wn cJ);refine qs ?_ (hg:=wn cJ);refine qs ?_ (hg:=wn cJ);refine qs ?_ (hg:=wn cJ);refine qs ?_ (hg:=wn cJ);refine qs ?_ (hg:=wn cJ);refine ab.dG (aB rfl rfl rfl bc) rfl cJ (ag rfl _) ?_;refine qt bc ?_;refine qe hK<|qB ?_;refine qj fun K hK=>qm ?_;refine qm ?_;obtain⟨_,st,aH,rfl,hH⟩:=cK (s:=s3) s.i 4 (by omega) hH;refine qv aH ?_;refine qe hK ?_;obtain⟨w1,w2,w3,w4⟩:=cU (bO:=bO) (s:=s3) (i:=s.i) (e:=4) h5 (by decide);generalize gU bO s3 s.i 4=s4 at*;refine qq<|qq<|qj fun K hK=>qm ?_;refine qg ?_;refine qp (o:=5) ?_;refine ql hH ay ?_;refine qg ?_;refine qe hK<|qD rfl (by simp[w1]) ?_;refine qq<|qj fun K hK=>qm ?_;refine qe hK<|af.ret ⟨rx,_,_,_,rfl,aj (rfl),?_⟩;exact⟨s4,⟨w3.trans h1,w4.trans h2,by omega,by omega,[],rfl,by simp,.inl w1⟩,ck.av ch hH⟩
       |true=>
        have cJ:(!true)=false:=rfl
        obtain⟨a2,rfl,h7⟩:∃a2:List Rg,d2=bw a2∧a2≠[]:=by
         rcases h6 with h6|h6
         ·cases h6
         ·exact h6
        obtain⟨q2,SP,rfl⟩:∃q a',a2=q::a':=List.exists_cons_of_ne_nil h7;have O1:=(ie (q::a')).arg N S2;have J3:=(ie (q2::SP)).arg N S2;have NS:((q::a').map au)[0]?=some (au q):=rfl;have gD:((q2::SP).map au)[0]?=some (au q2):=rfl;refine qq<|qq<|qj fun K hK=>qm ?_;refine qg ?_;refine qp (o:=5) ?_;refine ql hH ay ?_;refine qg ?_;refine qm ?_;refine qm ?_ (hg:=wi bc);refine qg ?_ (hg:=wi bc);refine qm ?_ (hg:=wi bc);refine qm ?_ (hg:=wi fU);refine qg ?_ (hg:=wi fU);refine ab.cX (aB rfl rfl rfl bc) rfl fU (ag rfl _) ?_;refine qm ?_ (hg:=wi bc);refine qm ?_ (hg:=wi cJ);refine qr (fun Wu Ui=>?_) (hg:=wi cJ);refine qf (fo:=0) (fun Wt Uh=>?_) (hg:=wi cJ);refine qR ?_ (hg:=wi cJ);refine qm ?_ (hg:=wi cJ);refine qr (fun Tf O_=>?_) (hg:=wi cJ);refine qf (fo:=0) (fun Wr Uf=>?_) (hg:=wi cJ);refine qR ?_ (hg:=wi cJ);refine qg ?_ (hg:=wi cJ);refine ab.cX (aB rfl rfl rfl bc) rfl cJ (ag rfl _) ?_;refine qt bc ?_;refine qe hK ?_;refine af.cond (by rfl) (fun hgt=>?_) (fun hgt=>?_)<;>try simp only[decide_eq_true_eq,decide_eq_false_iff_not] at hgt
        ·refine qj fun K hK=>qm ?_;refine qm ?_;obtain⟨_,st,aH,rfl,hH⟩:=cK (s:=s3) s.i 4 (by omega) hH;refine qv aH ?_;refine qe hK ?_;obtain⟨w1,w2,w3,w4⟩:=cU (bO:=bO) (s:=s3) (i:=s.i) (e:=4) h5 (by decide);generalize gU bO s3 s.i 4=s4 at*;refine qq<|qq<|qj fun K hK=>qm ?_;refine qg ?_;refine qp (o:=5) ?_;refine ql hH ay ?_;refine qg ?_;refine qe hK<|qD rfl (by simp[w1]) ?_;refine qq<|qj fun K hK=>qm ?_;refine qe hK<|af.ret ⟨rx,_,_,_,rfl,aj (rfl),?_⟩;exact⟨s4,⟨w3.trans h1,w4.trans h2,by omega,by omega,[],rfl,by simp,.inl w1⟩,ck.av ch hH⟩
        ·refine af.skip<|qq<|qq<|qj fun K hK=>qm ?_;refine qg ?_;refine qp (o:=5) ?_;refine ql hH ay ?_;refine qg ?_;refine qe hK<|qE rfl (by simp[h5]) ?_;refine af.skip<|qq<|qj fun K hK=>qm ?_;refine qr fun RV My=>?_;refine qf (fo:=0) fun Wl T_=>?_;refine qR ?_;refine qm ?_;refine qr fun Td O8=>?_;refine qf (fo:=0) fun Tc O7=>?_;refine qR ?_;refine ab.fe (qs:=[(0,_),(1,_)]) rfl rfl rfl rfl ⟨rfl,(ev rfl),(by rfl),rfl,(ev rfl),(by rfl),trivial⟩ (by intro q hq;simp only[List.mem_cons,List.not_mem_nil,or_false] at hq;rcases hq with rfl|rfl<;>exact⟨rfl,by exact Nat.le_of_ble_eq_true rfl⟩) (by show List.foldl _ [_,_] _=_;dsimp only[List.foldl_cons,List.foldl_nil,u2,u1]<;>rfl) (ag rfl _) ?_;refine qh (s:=2) (vs:=[_]) hH fun k87 st UO hH=>?_;dsimp only[u2,u1,u3,u4,setMany,u5,u6,D.cells,Nat.reduceAdd,aP,bm,aw,au] at hH;refine qm ?_;refine qe hK ?_;have hH:Has N S2 st (.aJ (.win k87 0 0 1 2) 2 (([(q.1,q2.1)]:List Rg).map au)::.box k (.mem 0 false (aP gs bE s3))::.aJ bE 1 (bO.map aw)::H):=hH;have hfz:=mG hH ay (L:=s0.bs.length) (n:=16) (fun k hk=>by simp only[D.ref] at hk;rw[←ch];omega) (by decide);refine af.ret ⟨rx,_,_,_,rfl,aj hfz,⟨s3,⟨h1,h2,by omega,h4,[(q.1,q2.1)],rfl,by simp,.inr ⟨h5,by omega⟩⟩,ck.av ch (hH.drop 1)⟩⟩
 ·have e2:s1.e=0:=by rw[e1];exact he
  have e3:s1.i=s.i∧s1.o=s.o∧s1.g=s.g:=by rw[e1];exact⟨rfl,rfl,rfl⟩
  clear e1;refine qE rfl (by simp[e2]) ?_;refine af.skip<|qq<|qq<|qj fun K hK=>qm ?_;refine ab.go (d:=.bool true) (st1:=_) rfl rfl rfl (ag rfl _) ?_;refine qe hK<|qB ?_;refine qq<|qj fun K hK=>qm ?_;refine qm ?_;obtain⟨_,st,aH,rfl,hH⟩:=cK (s:=s1) s.i 4 (by omega) hH;refine qv aH ?_;refine qe hK ?_;obtain⟨w1,w2,w3,w4⟩:=cU (bO:=bO) (s:=s1) (i:=s.i) (e:=4) e2 (by decide);refine qq<|qj fun K hK=>qm ?_;refine qe hK<|af.ret ⟨rx,_,_,_,rfl,aj (rfl),?_⟩;exact⟨_,⟨by omega,by omega,by omega,by omega,[],rfl,by simp,.inl w1⟩,ck.av ch hH⟩
end Go.Proofs.Ytbdnabmmlbiomaa
namespace Go.Proofs.Ytbdnabmmlbiomaa
open Go.V Go
def vR (fr:Go.V.Fr) (k:Nat):Go.V.D:=Go.V.nth .bp fr.loc k
def s_ (n:c_):Prop:=n.rd=bw n.rs∧n.rs.length≤1048576∧n.kids≤1048576
def rM (op mn mx:Int) (lz:Bool) (cap kids:Int) (a:List Rg):c_:=⟨op,bw a,a,mn,mx,lz,cap,kids⟩
def sW (l:List c_):D:=.sl ((l.map aX).map (ja 7))
theorem EN (l:List c_):∀e∈l.map aX,e.length=7:=by
 intro e he;obtain⟨x,_,rfl⟩:=List.mem_map.1 he;rfl
theorem lR {l:List c_} (h:∀n∈l,s_ n):∀e∈l.map aX,∀d∈e,bX d=true:=by
 intro e he d hd;obtain⟨n,hn,rfl⟩:=List.mem_map.1 he;have hr:=(h n hn).1;simp only[aX,hr,List.mem_cons,List.not_mem_nil,or_false] at hd
 rcases hd with rfl|rfl|rfl|rfl|rfl|rfl|rfl<;>rfl
theorem pM {l:List c_} (h:∀n∈l,s_ n):fK (sW l) 7 (l.map aX):=fK.frozen (EN l) (lR h)
theorem LZ {l:List c_} (h:∀n∈l,s_ n) (hl:l.length≤1048576):(⟨sW l,l⟩:Nl).ok:=by
 refine⟨pM h,fun n hn=>?_,hl⟩;obtain⟨h1,h2,h3⟩:=h n hn;exact⟨by rw[h1];exact ie _,h2,by omega⟩
theorem rK {l:List c_} (h:∀n∈l,s_ n):(l.map aX).map (·.map mU)=l.map aX:=by
 rw[List.map_map];refine List.map_congr_left fun n hn=>?_;have hr:=(h n hn).1;show(aX n).map mU=aX n;unfold aX;rw[hr];rfl
theorem nW {l:List c_} (h:∀n∈l,s_ n):∀e∈l.map aX,∀d∈e,mo d=true:=by
 intro e he d hd;have:=lR h e he d hd
 cases d<;>first|rfl|exact this
theorem gO {N L j:Nat} {S st:St} {H:List bC} {x:D} {es:List (List D)} {l:List c_} (hH:Has N S st H) (hj:H[j]?=some (.aJ x 7 es)) (he:es.map (·.map mU)=l.map aX) (ht:∀e∈es,∀d∈e,mo d=true) (hx:∀k,x.ref=k+1→L≤k) {n:Nat} (hn:3≤n):bo st L false n x=some (sW l):=by
 rw[hH.xH hj hx ht hn,he];rfl
theorem gP {N L j:Nat} {S st:St} {H:List bC} {x w:D} {op mn mx cap kids:Int} {lz:Bool} {a:List Rg} (hH:Has N S st H) (hj:H[j]?=some (.aJ x 7 [[.int .i64 op,w,.int .i64 mn,.int .i64 mx,.bool lz,.int .i64 cap,.int .i64 kids]])) (hw:w=bw a∨w=.nul∧a=[]) (hx:∀k,x.ref=k+1→L≤k):bo st L false 16 x=some (sW [rM op mn mx lz cap kids a]):=by
 refine gO hH hj ?_ (fun e he d hd=>?_) hx (by decide)
 ·rcases hw with rfl|⟨rfl,rfl⟩<;>rfl
 ·simp only[List.mem_cons,List.not_mem_nil,or_false] at he;subst he;simp only[List.mem_cons,List.not_mem_nil,or_false] at hd
  rcases hw with rfl|⟨rfl,rfl⟩<;>rcases hd with rfl|rfl|rfl|rfl|rfl|rfl|rfl<;>rfl
theorem Ap {op mn mx cap kids:Int} {lz:Bool} {a:List Rg} (h:a.length≤1048576) (hk:kids≤1048576):∀n∈[rM op mn mx lz cap kids a],s_ n:=by
 intro n hn;simp only[List.mem_cons,List.not_mem_nil,or_false] at hn;subst hn;exact⟨rfl,h,hk⟩
def sU (gs:List (Nat×Nat)) (s s':eu) (d:D):Prop:=
 s'.o=s.o∧s'.g≤4∧s.i≤s'.i∧s'.i≤gs.length∧∃l:List c_,d=sW l∧(∀n∈l,s_ n)∧l.length≤4*(s'.i-s.i)+1
def hO (gs:List (Nat×Nat)) (s s':eu) (d:D) (c:Nat):Prop:=
 s'.o=s.o∧s'.g≤4∧s.i≤s'.i∧s'.i≤gs.length∧∃l:List c_,d=sW l∧(∀n∈l,s_ n)∧l.length≤4*(s'.i-s.i)+1∧(s'.e≠0∨s'.e=0∧l.length+c≤4*(s'.i-s.i))
theorem fh {gs:List (Nat×Nat)} {s s':eu} {c:Nat} (h1:s'.o=s.o) (h2:s'.g≤4) (h3:s.i≤s'.i) (h4:s'.i≤gs.length) (h5:s'.e≠0):hO gs s s' (.sl []) c:=
 ⟨h1,h2,h3,h4,[],rfl,fun n hn=>(by cases hn),by simp,.inl h5⟩
theorem Bp {N k:Nat} {S s0:St} {H:List bC} {gs:List (Nat×Nat)} {bE:D} {bO:List Int} {s:eu} (a_:jF gs bO) (he:s.e=0) (hi:s.i<gs.length) (hg:s.g≤4) (hH:Has N S s0 (.box k (.mem 0 false (aP gs bE s))::.aJ bE 1 (bO.map aw)::H)):
  ∃d ah,Ev pv 85 [.ptr k 0 0] s0 d ah∧∃(s':eu),hO gs s s' d 2∧Has N S ah (.box k (.mem 0 false (aP gs bE s'))::.aJ bE 1 (bO.map aw)::H):=by
 have sB:=a_.gl;have jf:=a_.pl;refine Ev.iY rfl Qr rfl rfl rfl ?_;dsimp only[u3,u4,List.length,Nat.reduceSub,Nat.reduceAdd,w1,w2];have ck:=hH;have hH:=hH.cn;have ch:(ai .rw s0).bs=s0.bs:=rfl;generalize ai .rw s0=S2 at*;have Ft:Arg N S2 2 (eG gs) (gs.map bm):=Arg.pure (fun st=>dj st gs);refine qq<|qj fun K hK=>qm ?_;refine qe hK<|qq<|qj fun K hK=>qm ?_;refine qg ?_;refine qp (o:=2) ?_;refine ql hH ay ?_;refine qm ?_;refine qe hK<|qq<|qj fun K hK=>qm ?_;refine qg ?_;refine qp (o:=2) ?_;refine ql hH ay ?_;refine qA ?_;refine qg ?_;refine qp (o:=2) ?_;refine qT hH ay fun st hH=>?_;dsimp only[u2,u1,u3,u4,setMany,u5,u6,D.cells,Nat.reduceAdd,aP,bm,aw,au] at hH;refine qe hK ?_;have hH:Has N S2 st (.box k (.mem 0 false (aP gs bE {s with i:=s.i+1}))::.aJ bE 1 (bO.map aw)::H):=hH;obtain⟨k1,k2,k3,k4,k5⟩:=fO (gs:=gs) (s:={s with i:=s.i+1}) (r:=94);have k5:=k5 (by show s.i+1≤_;omega);simp only at k1 k2 k3 k4;refine qq<|qj fun K hK=>qm ?_;obtain⟨_,st,aH,rfl,hH⟩:=dt (s:={s with i:=s.i+1}) (by omega) 94 hH;refine qv aH ?_;refine qm ?_;refine qe hK ?_;generalize cI gs {s with i:=s.i+1} 94=s1 at*;generalize hU gs ({s with i:=s.i+1}:eu).i 94=nt at*;refine qq<|qj fun K hK=>qm ?_;refine qe hK<|qq<|qj fun K hK=>qm ?_;refine qe hK ?_
 have hH:Has N S2 st (.box k (.mem 0 false (aP gs bE s1))::.aJ bE 1 (bO.map aw)::.aJ .nul 2 (([]:List Rg).map au)::H):=((hH.eo 2).front b5|>.front eV|>fun h=>(h.front b5))
 refine qq<|af.block<|af.loop (fun mm fr st=>∃(s1:eu) (ld:D) (lr:List Rg) (nn:Bool),fr.clean=⟨7,[.ptr k 0 0,vR fr 1,vR fr 2,.int .i64 (s.i:Nat),.bool nt,ld,.bool nn],[]⟩∧Has N S2 st (.box k (.mem 0 false (aP gs bE s1))::.aJ bE 1 (bO.map aw)::.aJ ld 2 (lr.map au)::H)∧(s1.o=s.o)∧(s1.g=s.g)∧(s.i<s1.i)∧(s1.i≤gs.length)∧(lr.length≤8*s1.i+8)∧(s1.e=0→lr.length≤8*s1.i)∧(gs.length-s1.i+(if s1.e=0 then 1 else 0)≤mm)) (gs.length+1) ?_ ?_
 ·exact⟨s1,.nul,[],true,rfl,hH,k1,k2,by omega,k5,by simp,fun _=>by simp,by split<;>omega⟩
 rintro mm fr st ⟨s1,ld,lr,nn,hfr,hH,h1,h2,h3,h4,h5,h6,vX⟩;rw[hfr];clear hfr;generalize vR fr=ee;clear fr
 by_cases kr:s1.e=0
 ·rw[if_pos kr] at vX;have h6:=h6 kr;have bc:(s1.e==0)=true:=by simpa using kr
  refine qq<|qq<|qj fun K hK=>qm ?_;refine qg ?_;refine qp (o:=5) ?_;refine ql hH ay ?_;refine qg ?_;refine qm ?_;refine qm ?_ (hg:=wi bc);obtain⟨_,st,aH,rfl,hH⟩:=mC (s:=s1) (by omega) 93 hH;refine qv aH ?_ (hg:=wi bc);refine qg ?_ (hg:=wi bc);refine qt bc ?_;refine qe hK ?_
  cases hb:hU gs s1.i 93 with
  |true=>
   have hlt:=om hb;refine qC ?_;refine af.exit<|qq<|qq<|qj fun K hK=>qm ?_;refine qg ?_;refine qp (o:=5) ?_;refine ql hH ay ?_;refine qg ?_;refine qe hK<|qE rfl (by simp[kr]) ?_;refine af.skip<|qq<|qq<|qj fun K hK=>qm ?_;refine qe hK ?_
   cases nn with
   |true=>
    refine qB ?_;refine qq<|qj fun K hK=>qm ?_;refine qm ?_;obtain⟨_,st,aH,rfl,hH⟩:=cK (s:=s1) s.i 4 (by omega) hH;refine qv aH ?_;refine qm ?_;refine qe hK ?_;obtain⟨w1,w2,w3,w4⟩:=cU (bO:=bO) (s:=s1) (i:=s.i) (e:=4) kr (by decide);refine af.ret ⟨rx,_,_,_,rfl,aj (rfl),?_⟩;exact⟨_,fh (by omega) (by omega) (by omega) (by omega) w1,ck.av ch (hH.erase 2)⟩
   |false=>
    refine qC ?_;refine af.skip<|qq<|qj fun K hK=>qm ?_;refine qg ?_;refine qp (o:=2) ?_;refine ql hH ay ?_;refine qA ?_;refine qg ?_;refine qp (o:=2) ?_;refine qT hH ay fun st hH=>?_;dsimp only[u2,u1,u3,u4,setMany,u5,u6,D.cells,Nat.reduceAdd,aP,bm,aw,au] at hH;refine qe hK<|qq<|qj fun K hK=>qm ?_;obtain⟨aH,Fo,_⟩:=kM (l:=lr) (hH.rows eV) (by omega);refine qv aH ?_;refine qm ?_;refine qe hK ?_;generalize ju lr=m at*;refine qq<|qq<|qj fun K hK=>qm ?_;refine qe hK ?_
    have fu:∀(st:St) (a:List Rg) (k70:Nat),a.length≤1048576→S2.bs.length≤k70→Has N S2 st (.aJ (.win k70 0 0 1 7) 7 [[.int .i64 2,bw a,.int .i64 0,.int .i64 0,.bool false,.int .i64 0,.int .i64 0]]::.box k (.mem 0 false (aP gs bE {s1 with i:=s1.i+1}))::.aJ bE 1 (bO.map aw)::.aJ ld 2 (lr.map au)::H)→
      ∃d ah,cD .rw false s0 st (.win k70 0 0 1 7)=some (d,ah)∧∃(s':eu),hO gs s s' d 2∧Has N S ah (.box k (.mem 0 false (aP gs bE s'))::.aJ bE 1 (bO.map aw)::H):=by
     intro st a k70 ha hk hH;have hfz:=gP hH ay (L:=s0.bs.length) (.inl rfl) (fun k hk=>by simp only[D.ref] at hk;rw[←ch];omega);exact⟨_,_,aj hfz,{s1 with i:=s1.i+1},⟨h1,by show s1.g≤4;omega,by show s.i≤s1.i+1;omega,by show s1.i+1≤_;omega,_,rfl,Ap ha (by omega),by simp,.inr ⟨kr,by show 1+2≤4*(s1.i+1-s.i);omega⟩⟩,ck.av ch ((hH.drop 1).erase 2)⟩
    cases nt with
    |true=>
     refine qB ?_;refine qj fun K hK=>qm ?_;obtain⟨_,aH,a,rfl,hla⟩:=Al (l:=m) (eM _ _) (by omega);refine qv aH ?_;refine qm ?_;refine qe hK<|qq<|qj fun K hK=>qm ?_;refine ab.fe (qs:=[(0,_),(1,_)]) rfl rfl rfl rfl ⟨rfl,(ev rfl),(by rfl),rfl,(ev rfl),(by rfl),trivial⟩ (by intro q hq;simp only[List.mem_cons,List.not_mem_nil,or_false] at hq;rcases hq with rfl|rfl<;>exact⟨rfl,by exact Nat.le_of_ble_eq_true rfl⟩) (by show List.foldl _ [_,_,_,_,_,_,_] _=_;dsimp only[List.foldl_cons,List.foldl_nil,u2,u1]<;>rfl) (ag rfl _) ?_;refine qh (s:=7) (vs:=[_]) hH fun k70 st Kd hH=>?_;refine qm ?_;refine qe hK ?_;obtain⟨d',ah,sy,fT⟩:=fu _ a k70 (by omega) Kd hH;refine af.ret ⟨rx,_,d',ah,rfl,sy,fT⟩
    |false=>
     refine qC ?_;refine af.skip<|qq<|qj fun K hK=>qm ?_;refine ab.fe (qs:=[(0,_),(1,_)]) rfl rfl rfl rfl ⟨rfl,(ev rfl),(by rfl),rfl,(ev rfl),(by rfl),trivial⟩ (by intro q hq;simp only[List.mem_cons,List.not_mem_nil,or_false] at hq;rcases hq with rfl|rfl<;>exact⟨rfl,by exact Nat.le_of_ble_eq_true rfl⟩) (by show List.foldl _ [_,_,_,_,_,_,_] _=_;dsimp only[List.foldl_cons,List.foldl_nil,u2,u1]<;>rfl) (ag rfl _) ?_;refine qh (s:=7) (vs:=[_]) hH fun k70 st Kd hH=>?_;refine qm ?_;refine qe hK ?_;obtain⟨d',ah,sy,fT⟩:=fu _ m k70 (by omega) Kd hH;refine af.ret ⟨rx,_,d',ah,rfl,sy,fT⟩
  |false=>
   refine qB ?_;refine af.skip<|af.block<|qq<|qq<|qj fun K hK=>qm ?_;refine qg ?_;refine qp (o:=2) ?_;refine ql hH ay ?_;refine qm ?_;refine qg ?_;refine qp (o:=0) ?_;refine ql hH ay ?_;refine qn ?_;simp only[List.length_map];refine qg ?_;refine qe hK ?_;refine af.cond (by rfl) (fun hge=>?_) (fun hge=>?_)<;>try simp only[decide_eq_true_eq,decide_eq_false_iff_not] at hge
   ·refine qq<|qj fun K hK=>qm ?_;refine qm ?_;obtain⟨_,st,aH,rfl,hH⟩:=cK (s:=s1) s.i 4 (by omega) hH;refine qv aH ?_;refine qm ?_;refine qe hK ?_;obtain⟨w1,w2,w3,w4⟩:=cU (bO:=bO) (s:=s1) (i:=s.i) (e:=4) kr (by decide);refine af.ret ⟨rx,_,_,_,rfl,aj (rfl),?_⟩;exact⟨_,fh (by omega) (by omega) (by omega) (by omega) w1,ck.av ch (hH.erase 2)⟩
   ·refine af.skip<|qq<|qj fun K hK=>qm ?_;refine qm ?_;obtain⟨_,st,aH,s2,⟨i1,i2,i3,i4,a,rfl,i5,i6⟩,hH⟩:=E1 (s:=s1) a_ kr (by omega) hH;have O1:=(ie a).arg N S2;have J0:=vC a;refine qv aH ?_;refine ab.bR (s:=2) hH rfl (ev rfl) (ev rfl) (by exact eV) (by exact Arg.rows (by assumption) hH) rfl rfl rfl rfl rfl rfl rfl ⟨(Nat.le_of_ble_eq_true rfl),(Nat.le_of_ble_eq_true rfl)⟩ (fun _=>(ag rfl _)) (by simp only[List.length_map]<;>omega) (by exact .inr (by assumption)) (fun S0 st hH=>?_);dsimp only[u2,u1,u3,u4,setMany,u5,u6,D.cells,Nat.reduceAdd,aP,bm,aw,au] at hH;refine qm ?_;refine qe hK<|qj fun K hK=>qm ?_;refine qe hK ?_;exact⟨mm-1,by omega,⟨s2,S0,lr++a,false,rfl,(by rw[List.map_append];exact hH),i1.trans h1,i2.trans h2,by omega,i4,by rw[List.length_append];omega,fun e=>by rw[List.length_append];omega,by split<;>omega⟩⟩
 ·have bc:(s1.e==0)=false:=by simpa using kr
  refine qq<|qq<|qj fun K hK=>qm ?_;refine qg ?_;refine qp (o:=5) ?_;refine ql hH ay ?_;refine qg ?_;refine qm ?_;refine qs ?_ (hg:=wn bc);refine qs ?_ (hg:=wn bc);refine qs ?_ (hg:=wn bc);refine qu bc ?_;refine qe hK<|qC ?_;refine af.exit<|qq<|qq<|qj fun K hK=>qm ?_;refine qg ?_;refine qp (o:=5) ?_;refine ql hH ay ?_;refine qg ?_;refine qe hK<|qD rfl (by simp[kr]) ?_;refine qq<|qj fun K hK=>qm ?_;refine qe hK<|af.ret ⟨rx,_,_,_,rfl,aj (rfl),?_⟩;exact⟨_,fh h1 (by omega) (by omega) h4 kr,ck.av ch (hH.erase 2)⟩
end Go.Proofs.Ytbdnabmmlbiomaa
namespace Go.Proofs.Ytbdnabmmlbiomaa
open Go.V Go
def iJ (fr:Go.V.Fr) (k:Nat):Go.V.D:=Go.V.nth .bp fr.loc k
def o0 (gs:List (Nat×Nat)) (s s':eu):Prop:=s'.o=s.o∧s'.g=s.g∧s.i<s'.i∧s'.i≤gs.length
theorem Ah {N k:Nat} {S s0:St} {H:List bC} {gs:List (Nat×Nat)} {bE:D} {bO:List Int} {s:eu} (a_:jF gs bO) (he:s.e=0) (hi:s.i<gs.length) (hH:Has N S s0 (.box k (.mem 0 false (aP gs bE s))::.aJ bE 1 (bO.map aw)::H)):
  ∃d ah,Ev pv 78 [.ptr k 0 0] s0 d ah∧∃(n1 n2:Int) (s':eu),d=.tup [.int .i64 n1,.int .i64 n2]∧o0 gs s s'∧Has N S ah (.box k (.mem 0 false (aP gs bE s'))::.aJ bE 1 (bO.map aw)::H):=by
 have sB:=a_.gl;have jf:=a_.pl;have hne:gs≠[]:=by rintro rfl;simp at hi
 refine Ev.iY rfl Qw rfl rfl rfl ?_;dsimp only[u3,u4,List.length,Nat.reduceSub,Nat.reduceAdd,w1,w2];have ck:=hH;have hH:=hH.cn;have ch:(ai .rw s0).bs=s0.bs:=rfl;generalize ai .rw s0=S2 at*;refine qq<|qj fun K hK=>qm ?_;refine qm ?_;refine qe hK<|qq<|qj fun K hK=>qm ?_;refine qg ?_;refine qp (o:=2) ?_;refine ql hH ay ?_;refine qm ?_;refine qe hK<|qq<|qj fun K hK=>qm ?_;refine qg ?_;refine qp (o:=2) ?_;refine ql hH ay ?_;refine qA ?_;refine qg ?_;refine qp (o:=2) ?_;refine qT hH ay fun st hH=>?_;dsimp only[u2,u1,u3,u4,setMany,u5,u6,D.cells,Nat.reduceAdd,aP,bm,aw,au] at hH;refine qe hK ?_;have hH:Has N S2 st (.box k (.mem 0 false (aP gs bE {s with i:=s.i+1}))::.aJ bE 1 (bO.map aw)::H):=hH
 have A2:∀(st:St) (s3:eu) (e:Int),e≠0→s3.e=0→o0 gs s s3→Has N S2 st (.box k (.mem 0 false (aP gs bE s3))::.aJ bE 1 (bO.map aw)::H)→∃d ah,Ev pv 36 [.ptr k 0 0,.int .i64 (s.i:Nat),.int .i64 e] st d ah∧d=.sl []∧∃s4,o0 gs s s4∧Has N S2 ah (.box k (.mem 0 false (aP gs bE s4))::.aJ bE 1 (bO.map aw)::H):=by
  intro st s3 e h0 h1 h2 hH;obtain⟨d,ah,aH,h4,hH⟩:=cK (s:=s3) s.i e (by omega) hH;obtain⟨w1,w2,w3,w4⟩:=cU (bO:=bO) (s:=s3) (i:=s.i) (e:=e) h1 h0;exact⟨d,ah,aH,h4,_,⟨w3.trans h2.1,w4.trans h2.2.1,by rw[w2];exact h2.2.2.1,by rw[w2];exact h2.2.2.2⟩,hH⟩
 refine qq<|qj fun K hK=>qm ?_;obtain⟨_,st,aH,m,ok,mm,rfl,Fo,UD,hH⟩:=qU (s:={s with i:=s.i+1}) sB (by show s.i+1≤_;omega) hne hH;refine qv aH ?_;refine qm ?_;refine qg ?_;refine qg ?_;refine qm ?_;refine qm ?_;refine qe hK ?_
 obtain⟨s1,sk⟩:∃s1:eu,({s with i:=s.i+1+mm}:eu)=s1:=⟨_,rfl⟩
 have JW:s1.e=0:=by rw[←sk];exact he
 have AK:o0 gs s s1:=by rw[←sk];exact⟨rfl,rfl,by show s.i<s.i+1+mm;omega,UD⟩
 have hH:Has N S2 st (.box k (.mem 0 false (aP gs bE s1))::.aJ bE 1 (bO.map aw)::H):=by rw[←sk];exact hH
 clear sk;refine qq<|qj fun K hK=>qm ?_;refine qm ?_;refine qm ?_;refine qe hK<|qq<|qq<|af.ki (fun fr st=>∃(n:List UInt8) (en:Bool) (s3:eu) (tmp:List (Nat×D)),fr=⟨14,[.ptr k 0 0,iJ fr 1,iJ fr 2,iJ fr 3,.int .i64 (s.i:Nat),.str m,.bool ok,.str n,.bool en,iJ fr 9,iJ fr 10,iJ fr 11,iJ fr 12,iJ fr 13],tmp⟩∧Has N S2 st (.box k (.mem 0 false (aP gs bE s3))::.aJ bE 1 (bO.map aw)::H)∧(s3.e=0)∧(o0 gs s s3)∧(n.length≤120)) ?_ ?_
 ·cases ok with
  |false=>
   have cS:false=false:=rfl;refine qj fun K hK=>qm ?_;refine qm ?_;refine qs ?_ (hg:=wn cS);refine qs ?_ (hg:=wn cS);refine qu cS ?_;refine qe hK<|qC ?_;refine af.skip ?_;exact⟨m,false,s1,_,rfl,hH,JW,AK,Fo⟩
  |true=>
   have cS:true=true:=rfl;obtain⟨k1,k2,k3,k4,k5⟩:=fO (gs:=gs) (s:=s1) (r:=44);have k5:=k5 AK.2.2.2;refine qj fun K hK=>qm ?_;refine qm ?_;refine qm ?_ (hg:=wi cS);obtain⟨_,st,aH,rfl,hH⟩:=dt (s:=s1) (by omega) 44 hH;refine qv aH ?_ (hg:=wi cS);refine qt cS ?_;refine qe hK ?_;generalize cI gs s1 44=s2 at*
   have Fb:o0 gs s s2:=⟨k1.trans AK.1,k2.trans AK.2.1,by have:=AK.2.2.1;omega,k5⟩
   cases hb:hU gs s1.i 44 with
   |false=>
    refine qC ?_;refine af.skip ?_;exact⟨m,false,s2,_,rfl,hH,k3.trans JW,Fb,Fo⟩
   |true=>
    refine qB ?_;refine qq<|qj fun K hK=>qm ?_;refine qe hK<|qq<|qj fun K hK=>qm ?_;obtain⟨_,st,aH,n,there,R8,rfl,Pq,hni,hH⟩:=qU (s:=s2) sB k5 hne hH;refine qv aH ?_;refine qm ?_;refine qg ?_;refine qg ?_;refine qm ?_;refine qm ?_;refine qe hK<|qj fun K hK=>qm ?_;refine qg ?_;refine qm ?_;refine qe hK ?_;exact⟨n,!there,{s2 with i:=s2.i+R8},_,rfl,hH,k3.trans JW,⟨Fb.1,Fb.2.1,by have:=Fb.2.2.1;show s.i<s2.i+R8;omega,hni⟩,Pq⟩
 ·rintro fr st ⟨n,en,s3,tmp,hfr,hH,h1,h2,h3⟩;rw[hfr];clear hfr;generalize iJ fr=ee;clear fr;obtain⟨k1,k2,k3,k4,k5⟩:=fO (gs:=gs) (s:=s3) (r:=125);have k5:=k5 h2.2.2.2
  have yK:o0 gs s (cI gs s3 125):=⟨k1.trans h2.1,k2.trans h2.2.1,by have:=h2.2.2.1;omega,k5⟩
  have Fa:(cI gs s3 125).e=0:=k3.trans h1
  cases ok with
  |false=>
   have bf:(!false)=true:=rfl;refine qq<|qq<|qj fun K hK=>qm ?_;refine qg ?_;refine qm ?_;refine qs ?_ (hg:=wn bf);refine qs ?_ (hg:=wn bf);refine qs ?_ (hg:=wn bf);refine qt bf ?_;refine qm ?_;refine qs ?_;refine qs ?_;refine qs ?_;refine qs ?_;refine qs ?_;refine qs ?_;refine qs ?_;refine qg ?_;refine qe hK<|qB ?_;refine qq<|qj fun K hK=>qm ?_;refine qm ?_;obtain⟨_,st,aH,rfl,s4,UF,hH⟩:=A2 _ s3 4 (by decide) h1 h2 hH;refine qv aH ?_;refine qe hK<|qq<|qj fun K hK=>qm ?_;refine qm ?_;refine qe hK<|af.ret ⟨rx,_,_,_,rfl,aj (rfl),?_⟩;exact⟨_,_,s4,rfl,UF,ck.av ch hH⟩
  |true=>
   have bf:(!true)=false:=rfl
   cases iO:(!hU gs s3.i 125) with
   |true=>
    refine qq<|qq<|qj fun K hK=>qm ?_;refine qg ?_;refine qm ?_;refine qm ?_ (hg:=wi bf);obtain⟨_,st,aH,rfl,hH⟩:=dt (s:=s3) (by omega) 125 hH;refine qv aH ?_ (hg:=wi bf);refine qg ?_ (hg:=wi bf);refine qu bf ?_;refine qm ?_;refine qs ?_ (hg:=wn iO);refine qs ?_ (hg:=wn iO);refine qs ?_ (hg:=wn iO);refine qs ?_;refine qs ?_;refine qs ?_;refine qs ?_ (hg:=wn iO);refine qt iO ?_;refine qe hK ?_;generalize cI gs s3 125=s4 at*;refine qB ?_;refine qq<|qj fun K hK=>qm ?_;refine qm ?_;obtain⟨_,st,aH,rfl,s5,J',hH⟩:=A2 _ s4 4 (by decide) Fa yK hH;refine qv aH ?_;refine qe hK<|qq<|qj fun K hK=>qm ?_;refine qm ?_;refine qe hK<|af.ret ⟨rx,_,_,_,rfl,aj (rfl),?_⟩;exact⟨_,_,s5,rfl,J',ck.av ch hH⟩
   |false=>
    have fT:True:=trivial
    cases en with
    |true=>
     have aS:(!true)=false:=rfl;refine qq<|qq<|qj fun K hK=>qm ?_;refine qg ?_;refine qm ?_;refine qm ?_ (hg:=wi bf);obtain⟨_,st,aH,rfl,hH⟩:=dt (s:=s3) (by omega) 125 hH;refine qv aH ?_ (hg:=wi bf);refine qg ?_ (hg:=wi bf);refine qu bf ?_;refine qm ?_;refine qm ?_ (hg:=wi iO);refine qg ?_ (hg:=wi iO);refine qm ?_ (hg:=wi iO);refine qs ?_ (hg:=wn aS);refine qs ?_ (hg:=wn aS);refine qs ?_ (hg:=wn aS);refine ab.cX (aB rfl rfl rfl iO) rfl aS (ag rfl _) ?_;refine qu iO ?_;refine qe hK ?_;generalize cI gs s3 125=s4 at*;refine qC ?_;refine af.skip ?_;obtain⟨_,E8,a1,f1,rfl⟩:=kF (s0:=st) m (by omega);refine qq<|qj fun K hK=>qm ?_;refine qv (E8) ?_;refine qm ?_;refine qg ?_;refine qg ?_;refine qm ?_;refine qm ?_;refine qe hK<|qq<|qq<|qj fun K hK=>qm ?_;refine qe hK<|qB ?_;refine qj fun K hK=>qm ?_;refine qe hK ?_;obtain⟨_,AG,a2,f2,rfl⟩:=kF (s0:=st) [] (by simp);refine qq<|qj fun K hK=>qm ?_;refine qv (AG) ?_;refine qm ?_;refine qg ?_;refine qg ?_;refine qm ?_;refine qm ?_;refine qe hK<|qq<|qq<|af.j8 78 (.bool (!f1||!f2)) [] ?_ (fun ff tmp gB=>?_)
     ·refine qm ?_;refine qg ?_;refine qm ?_;refine ab.two 75 rfl (fun bf=>?_) (fun bf=>?_)
      ·refine qs ?_ (hg:=wn bf);refine qs ?_ (hg:=wn bf);refine qt bf ?_;refine ab.nil (cP ?_ ?_)
       ·dsimp only[aI,List.foldl,nth,u2,u1]
        all_goals(first|rfl|simp)
       ·dsimp only[Fr.aC,Fr.put,Fr.clean,Fr.ev,Fr.get,nth,V.look,u1,u2,v1,v2,v3,v4,v5,v6,v7,List.length,u3,u4,Nat.reduceSub,Nat.reduceAdd,List.map]
        all_goals(simp[bf];done)
      ·refine qm ?_ (hg:=wi bf);refine qg ?_ (hg:=wi bf);refine qu bf ?_;refine ab.nil (cP ?_ ?_)
       ·dsimp only[aI,List.foldl,nth,u2,u1]
        all_goals(first|rfl|simp)
       ·dsimp only[Fr.aC,Fr.put,Fr.clean,Fr.ev,Fr.get,nth,V.look,u1,u2,v1,v2,v3,v4,v5,v6,v7,List.length,u3,u4,Nat.reduceSub,Nat.reduceAdd,List.map]
        all_goals(simp[bf];done)
     dsimp only[aI,List.foldl,nth,u2,u1];refine qc (fun yO=>?_) (fun yO=>?_)<;>try simp only[cs] at yO
     ·refine qq<|qj fun K hK=>qm ?_;refine qm ?_;obtain⟨_,st,aH,rfl,s5,J',hH⟩:=A2 _ s4 2 (by decide) Fa yK hH;refine qv aH ?_;refine qe hK<|qq<|qj fun K hK=>qm ?_;refine qm ?_;refine qe hK<|af.ret ⟨rx,_,_,_,rfl,aj (rfl),?_⟩;exact⟨_,_,s5,rfl,J',ck.av ch hH⟩
     ·refine af.skip<|qq<|qq<|qj fun K hK=>qm ?_;refine qe hK<|qB ?_;refine qj fun K hK=>qm ?_;refine qe hK<|qq<|qj fun K hK=>qm ?_;refine qm ?_;refine qm ?_;refine qm ?_;refine qe hK<|af.ret ⟨rx,_,_,_,rfl,aj (rfl),?_⟩;exact⟨_,_,s4,rfl,yK,ck.av ch hH⟩
    |false=>
     have aS:(!false)=true:=rfl;refine qq<|qq<|qj fun K hK=>qm ?_;refine qg ?_;refine qm ?_;refine qm ?_ (hg:=wi bf);obtain⟨_,st,aH,rfl,hH⟩:=dt (s:=s3) (by omega) 125 hH;refine qv aH ?_ (hg:=wi bf);refine qg ?_ (hg:=wi bf);refine qu bf ?_;refine qm ?_;refine qm ?_ (hg:=wi iO);refine qg ?_ (hg:=wi iO);refine qm ?_ (hg:=wi iO);refine qm ?_ (hg:=wi aS);refine qm ?_ (hg:=wi aS);obtain⟨_,hle,v,rfl⟩:=EY (s0:=st) n m;refine ab.iW (aB rfl rfl rfl aS) rfl hle (ag rfl _) ?_;refine ab.dG (aB rfl rfl rfl iO) rfl aS (ag rfl _) ?_;refine qu iO ?_;refine qe hK ?_;generalize cI gs s3 125=s4 at*
     cases v with
     |true=>
      refine qB ?_;refine qq<|qj fun K hK=>qm ?_;refine qm ?_;obtain⟨_,st,aH,rfl,s5,J',hH⟩:=A2 _ s4 4 (by decide) Fa yK hH;refine qv aH ?_;refine qe hK<|qq<|qj fun K hK=>qm ?_;refine qm ?_;refine qe hK<|af.ret ⟨rx,_,_,_,rfl,aj (rfl),?_⟩;exact⟨_,_,s5,rfl,J',ck.av ch hH⟩
     |false=>
      refine qC ?_;refine af.skip ?_;obtain⟨_,E8,a1,f1,rfl⟩:=kF (s0:=st) m (by omega);refine qq<|qj fun K hK=>qm ?_;refine qv (E8) ?_;refine qm ?_;refine qg ?_;refine qg ?_;refine qm ?_;refine qm ?_;refine qe hK<|qq<|qq<|qj fun K hK=>qm ?_;refine qe hK<|qC ?_;refine af.skip ?_;obtain⟨_,AG,a2,f2,rfl⟩:=kF (s0:=st) n (by omega);refine qq<|qj fun K hK=>qm ?_;refine qv (AG) ?_;refine qm ?_;refine qg ?_;refine qg ?_;refine qm ?_;refine qm ?_;refine qe hK<|qq<|qq<|af.j8 78 (.bool (!f1||!f2)) [] ?_ (fun ff tmp gB=>?_)
      ·refine qm ?_;refine qg ?_;refine qm ?_;refine ab.two 75 rfl (fun bf=>?_) (fun bf=>?_)
       ·refine qs ?_ (hg:=wn bf);refine qs ?_ (hg:=wn bf);refine qt bf ?_;refine ab.nil (cP ?_ ?_)
        ·dsimp only[aI,List.foldl,nth,u2,u1]
         all_goals(first|rfl|simp)
        ·dsimp only[Fr.aC,Fr.put,Fr.clean,Fr.ev,Fr.get,nth,V.look,u1,u2,v1,v2,v3,v4,v5,v6,v7,List.length,u3,u4,Nat.reduceSub,Nat.reduceAdd,List.map]
         all_goals(simp[bf];done)
       ·refine qm ?_ (hg:=wi bf);refine qg ?_ (hg:=wi bf);refine qu bf ?_;refine ab.nil (cP ?_ ?_)
        ·dsimp only[aI,List.foldl,nth,u2,u1]
         all_goals(first|rfl|simp)
        ·dsimp only[Fr.aC,Fr.put,Fr.clean,Fr.ev,Fr.get,nth,V.look,u1,u2,v1,v2,v3,v4,v5,v6,v7,List.length,u3,u4,Nat.reduceSub,Nat.reduceAdd,List.map]
         all_goals(simp[bf];done)
      dsimp only[aI,List.foldl,nth,u2,u1];refine qc (fun yO=>?_) (fun yO=>?_)<;>try simp only[cs] at yO
      ·refine qq<|qj fun K hK=>qm ?_;refine qm ?_;obtain⟨_,st,aH,rfl,s5,J',hH⟩:=A2 _ s4 2 (by decide) Fa yK hH;refine qv aH ?_;refine qe hK<|qq<|qj fun K hK=>qm ?_;refine qm ?_;refine qe hK<|af.ret ⟨rx,_,_,_,rfl,aj (rfl),?_⟩;exact⟨_,_,s5,rfl,J',ck.av ch hH⟩
      ·refine af.skip<|qq<|qq<|qj fun K hK=>qm ?_;refine qe hK<|qC ?_;refine af.skip<|qq<|qj fun K hK=>qm ?_;refine qm ?_;refine qm ?_;refine qm ?_;refine qe hK<|af.ret ⟨rx,_,_,_,rfl,aj (rfl),?_⟩;exact⟨_,_,s4,rfl,yK,ck.av ch hH⟩
end Go.Proofs.Ytbdnabmmlbiomaa
namespace Go.Proofs.Ytbdnabmmlbiomaa
open Go.V Go
def cz (fr:Go.V.Fr) (k:Nat):Go.V.D:=Go.V.nth .bp fr.loc k
theorem nM:∀{l:List D},(∀d∈l,bX d=true)→refs l=0
 |[],_=>rfl
 |d::l,h=>by
  have h1:=nM (l:=l) fun d hd=>h d (List.mem_cons_of_mem _ hd);have h2:=h d (List.mem_cons_self ..)
  have h3:d.ref=0:=by cases d<;>first|rfl|(simp[bX] at h2)
  simp only[refs,h1,h3,Nat.max_self]
theorem pL {l:List c_} (h:∀n∈l,s_ n):refs (l.map aX).flatten=0:=
 nM fun d hd=>by
  obtain⟨e,he,xA⟩:=List.mem_flatten.1 hd;exact lR h e he d xA
def du (l:List c_):List D:=[sW l]
theorem tI {l:List (List c_)} {i:Nat} {q:List c_} (h:l[i]?=some q):(l.map du)[i]?=some (du q):=by rw[List.getElem?_map,h];rfl
def eI:List (List c_)→Nat
 |[]=>0
 |l::ls=>l.length+eI ls
theorem c8:∀a b:List (List c_),eI (a++b)=eI a+eI b
 |[],b=>by simp[eI]
 |l::a,b=>by rw[List.cons_append,eI,eI,c8 a b];omega
theorem qk {s0:St} {x:D} {parts:List (List c_)} (op:Int) (hx:V.Rows s0 1 x (parts.map du)) (hv:∀l∈parts,∀n∈l,s_ n) (hp:parts.length≤100000) (hs:eI parts≤100000):∃d,Ev pv 59 [.int .i64 op,x] s0 d s0∧∃l,d=sW l∧(∀n∈l,s_ n)∧(parts.length=1→l.length≤eI parts)∧l.length≤eI parts+1:=by
 refine Ev.ET rfl QI rfl rfl rfl ?_;dsimp only[u3,u4,List.length,Nat.reduceSub,Nat.reduceAdd,w1,w2];obtain⟨b_,hF,hH⟩:=ri s0;generalize ai .ro s0=S at*;have hx:=Arg.of hx b_;refine qq<|qj fun K hK=>qm ?_;refine qe hK<|qq<|qq<|qj fun K hK=>qm ?_;refine qn ?_;simp only[List.length_map];refine qe hK<|af.block<|qq<|qj fun K hK=>qg ?_;refine qm ?_;refine qe hK ?_
 by_cases h0:parts.length=0
 ·refine qD rfl (by simp[h0]) ?_;refine qq<|qj fun K hK=>?_;refine ab.go (d:=.agg [.int .i64 1,.nul,.int .i64 0,.int .i64 0,.bool false,.int .i64 0,.int .i64 0]) (st1:=_) rfl rfl rfl (by dsimp only[Fr.put,u1,u2]<;>rfl) ?_;refine qh (s:=7) (vs:=[_]) hH fun k13 st M3 hH=>?_;refine qm ?_;refine qe hK ?_;have hfz:=gP (L:=s0.bs.length) (a:=[]) hH ay (.inr ⟨rfl,rfl⟩) (fun k hk=>by have iN:k13+1=k+1:=hk;rw[←b_];omega);refine af.ret ⟨rx,_,_,rfl,rl b_ hH (hfz),?_⟩;exact⟨_,rfl,Ap (by simp) (by omega),by omega,by simp⟩
 have PY:(((parts.length:Nat):Int)==0)=false:=by rw[beq_eq_false_iff_ne];omega
 refine qE rfl (by rw[PY]) ?_;refine qq<|qj fun K hK=>qg ?_;refine qm ?_;refine qe hK ?_
 by_cases h1:parts.length=1
 ·obtain⟨q,hq⟩:∃q,parts[0]?=some q:=⟨parts[0]'(by omega),List.getElem?_eq_getElem _⟩
  have gD:=tI hq
  have Fj:parts=[q]:=by
   match parts,h1,hq with
   |[a],_,hq=>simp at hq;rw[hq]
  refine qD rfl (by simp[h1]) ?_;refine qq<|qj fun K hK=>qm ?_;refine qr fun Tp Pk=>?_;refine qR ?_;refine qm ?_;refine qe hK<|af.ret ⟨rx,_,_,rfl,rl b_ hH (rfl),?_⟩;refine⟨q,rfl,hv q (List.mem_of_getElem? hq),fun _=>?_,?_⟩<;>rw[Fj]<;>simp[eI]
 have Vw:(((parts.length:Nat):Int)==1)=false:=by rw[beq_eq_false_iff_ne];omega
 refine qE rfl (by rw[Vw]) ?_;refine af.skip<|qq<|qj fun K hK=>qm ?_;refine qm ?_;refine qn ?_;simp only[List.length_map];refine ab.go (d:=.agg [.int .i64 op,.nul,.int .i64 0,.int .i64 0,.bool false,.int .i64 0,.int .i64 (parts.length:Nat)]) (st1:=_) rfl rfl rfl (by dsimp only[Fr.put,u1,u2]<;>rfl) ?_;refine qh (s:=7) (vs:=[_]) hH fun k23 st M0 hH=>?_;refine qm ?_;refine qe hK<|qq<|qq<|qj fun K hK=>qm ?_;refine qn ?_;simp only[List.length_map];refine qm ?_;refine qe hK ?_;have hH:Has s0.bs.length S st (.aJ (.win k23 0 0 1 7) 7 [[.int .i64 op,.nul,.int .i64 0,.int .i64 0,.bool false,.int .i64 0,.int .i64 (parts.length:Nat)]]::[]):=hH;refine af.block<|af.loop (fun mm fr st=>∃(i:Nat) (od:D) (es:List (List D)) (lo:List c_),fr.clean=⟨27,[cz fr 0,cz fr 1,cz fr 2,cz fr 3,cz fr 4,od,cz fr 6,cz fr 7,cz fr 8,cz fr 9,cz fr 10,cz fr 11,cz fr 12,cz fr 13,cz fr 14,cz fr 15,cz fr 16,cz fr 17,cz fr 18,cz fr 19,cz fr 20,cz fr 21,cz fr 22,cz fr 23,x,.int .i64 (parts.length:Nat),.int .i64 (i:Nat)],[]⟩∧Has s0.bs.length S st [.aJ od 7 es]∧(i+mm=parts.length)∧(es.map (·.map mU)=lo.map aX)∧(∀e∈es,∀d∈e,mo d=true)∧(∀n∈lo,s_ n)∧(lo.length=1+eI (parts.take i))∧(∀k,od.ref=k+1→S.bs.length≤k)) (parts.length) ?_ ?_
 ·refine⟨0,.win k23 0 0 1 7,[[.int .i64 op,.nul,.int .i64 0,.int .i64 0,.bool false,.int .i64 0,.int .i64 (parts.length:Nat)]],[rM op 0 0 false 0 (parts.length:Nat) []],rfl,hH,by omega,rfl,?_,Ap (by simp) (by omega),by simp[eI],fun k hk=>by simp only[D.ref] at hk;omega⟩;intro e he d hd;simp only[List.mem_cons,List.not_mem_nil,or_false] at he;subst he;simp only[List.mem_cons,List.not_mem_nil,or_false] at hd
  rcases hd with rfl|rfl|rfl|rfl|rfl|rfl|rfl<;>rfl
 rintro mm fr st ⟨i,od,es,lo,hfr,hH,hi,uy,ht,F9,hlen,F6⟩;rw[hfr];clear hfr;generalize cz fr=ee;clear fr;refine qq<|qj fun K hK=>qg ?_;refine qe hK ?_
 by_cases hlt:i<parts.length
 ·obtain⟨q,hq⟩:∃q,parts[i]?=some q:=⟨parts[i]'hlt,List.getElem?_eq_getElem _⟩
  have gD:=tI hq;have NT:=hv q (List.mem_of_getElem? hq);have oz:es.length=lo.length:=by have:=congrArg List.length uy;simpa using this
  have TM:parts.take (i+1)=parts.take i++[q]:=by rw[List.take_add_one,hq];rfl
  have OQ:eI (parts.take (i+1))=eI (parts.take i)+q.length:=by rw[TM,c8];simp[eI]
  have TU:eI (parts.take (i+1))≤eI parts:=by
   have:=c8 (parts.take (i+1)) (parts.drop (i+1));rw[List.take_append_drop] at this;omega
  refine qq<|qD rfl (by simp;omega) ?_;refine af.skip<|qq<|af.block<|qq<|qj fun K hK=>qr fun WI Uv=>?_;refine qR ?_;refine qm ?_;refine qe hK<|qj fun K hK=>qm ?_;refine qm ?_;refine ab.oD (s:=7) hH rfl (ev rfl) (ev rfl) ay ((pM NT).rows st) rfl rfl rfl rfl rfl rfl rfl ⟨(Nat.le_of_ble_eq_true rfl),(Nat.le_of_ble_eq_true rfl)⟩ (fun _=>(ag rfl _)) (by rw[List.length_map];omega) (.inl hF) F6 (fun S5 st F6 hH=>?_);dsimp only[u2] at hH;refine qm ?_;refine qe hK<|qj fun K hK=>qA ?_;refine qm ?_;refine qe hK ?_;refine⟨mm-1,by omega,⟨i+1,S5,es++q.map aX,lo++q,rfl,hH,by omega,by rw[List.map_append,List.map_append,uy,rK NT],?_,?_,by rw[List.length_append,hlen,OQ];omega,F6⟩⟩
  ·intro e he
   rcases List.mem_append.1 he with he|he
   ·exact ht e he
   ·exact nW NT e he
  ·intro n hn
   rcases List.mem_append.1 hn with hn|hn
   ·exact F9 n hn
   ·exact NT n hn
 ·refine qq<|qE rfl (by simp;omega) ?_;refine af.exit<|qq<|qj fun K hK=>qm ?_;refine qm ?_;refine qe hK ?_;have hik:i=parts.length:=by omega
  rw[hik,List.take_length] at hlen;refine af.ret ⟨rx,_,_,rfl,rl b_ hH (gO hH ay uy ht (fun k hk=>by have:=F6 k hk;rw[←b_];exact this) (by decide)),?_⟩;exact⟨_,rfl,F9,by omega,by omega⟩
end Go.Proofs.Ytbdnabmmlbiomaa
namespace Go.Proofs.Ytbdnabmmlbiomaa
open Go.V Go
def fp (fr:Go.V.Fr) (k:Nat):Go.V.D:=Go.V.nth .bp fr.loc k
theorem ly {N:Nat} {S st:St} {H:List bC} {a b c:bC} (h:Has N S st (a::b::c::H)):Has N S st (b::c::a::H):=by
 have h1:=h.front b5;have h2:=h1.front eV;exact h2.front b5
def j4 (m:Nat):Prop:=∀{N k:Nat} {S s0:St} {H:List bC} {gs:List (Nat×Nat)} {bE:D} {bO:List Int} {s:eu},jF gs bO→s.e=0→s.i≤gs.length→s.g≤4→s.o+m=20→Has N S s0 (.box k (.mem 0 false (aP gs bE s))::.aJ bE 1 (bO.map aw)::H)→
 ∃d ah,Ev pv 35 [.ptr k 0 0] s0 d ah∧∃(s':eu),sU gs s s' d∧Has N S ah (.box k (.mem 0 false (aP gs bE s'))::.aJ bE 1 (bO.map aw)::H)
theorem Bd {m:Nat} (hA:∀m',m'+1=m→j4 m') {N k:Nat} {S s0:St} {H:List bC} {gs:List (Nat×Nat)} {bE:D} {bO:List Int} {s:eu} (a_:jF gs bO) (he:s.e=0) (hi:s.i<gs.length) (hg:s.g≤4) (ho:s.o+m=20) (hH:Has N S s0 (.box k (.mem 0 false (aP gs bE s))::.aJ bE 1 (bO.map aw)::H)):
  ∃d ah,Ev pv 84 [.ptr k 0 0] s0 d ah∧∃(s':eu),hO gs s s' d 2∧Has N S ah (.box k (.mem 0 false (aP gs bE s'))::.aJ bE 1 (bO.map aw)::H):=by
 have sB:=a_.gl;have jf:=a_.pl;refine Ev.iY rfl Qs rfl rfl rfl ?_;dsimp only[u3,u4,List.length,Nat.reduceSub,Nat.reduceAdd,w1,w2];have ck:=hH;have hH:=hH.cn;have ch:(ai .rw s0).bs=s0.bs:=rfl;generalize ai .rw s0=S2 at*
 have hwr:∀(st:St) (s3:eu) (e:Int) (H2:List bC),e≠0→s3.e=0→s3.o=s.o→s3.g≤4→s.i≤s3.i→s3.i≤gs.length→Has N S2 st (.box k (.mem 0 false (aP gs bE s3))::.aJ bE 1 (bO.map aw)::H2)→∃d ah,Ev pv 36 [.ptr k 0 0,.int .i64 (s.i:Nat),.int .i64 e] st d ah∧d=.sl []∧∃s4,hO gs s s4 (.sl []) 2∧Has N S2 ah (.box k (.mem 0 false (aP gs bE s4))::.aJ bE 1 (bO.map aw)::H2):=by
  intro st s3 e H2 h0 h1 h2 h3 h4 h5 hH;obtain⟨d,ah,aH,h6,hH⟩:=cK (s:=s3) s.i e (by omega) hH;obtain⟨w1,w2,w3,w4⟩:=cU (bO:=bO) (s:=s3) (i:=s.i) (e:=e) h1 h0;exact⟨d,ah,aH,h6,_,fh (w3.trans h2) (by omega) (by omega) (by omega) w1,hH⟩
 refine qq<|qj fun K hK=>qm ?_;refine qe hK<|qq<|qj fun K hK=>qm ?_;refine qg ?_;refine qp (o:=2) ?_;refine ql hH ay ?_;refine qm ?_;refine qe hK<|qq<|qj fun K hK=>qm ?_;refine qg ?_;refine qp (o:=2) ?_;refine ql hH ay ?_;refine qA ?_;refine qg ?_;refine qp (o:=2) ?_;refine qT hH ay fun st hH=>?_;dsimp only[u2,u1,u3,u4,setMany,u5,u6,D.cells,Nat.reduceAdd,aP,bm,aw,au,aX] at hH;refine qe hK ?_;have hH:Has N S2 st (.box k (.mem 0 false (aP gs bE {s with i:=s.i+1}))::.aJ bE 1 (bO.map aw)::H):=hH
 obtain⟨s1,sk⟩:∃s1:eu,({s with i:=s.i+1}:eu)=s1:=⟨_,rfl⟩
 have OX:s1.e=0∧s1.o=s.o∧s1.g=s.g∧s1.i=s.i+1:=by rw[←sk];exact⟨he,rfl,rfl,rfl⟩
 rw[sk] at hH;clear sk;obtain⟨f1,f2,f3,f4⟩:=OX;refine qq<|qj fun K hK=>qm ?_;refine qe hK<|qq<|qq<|af.ki (fun fr st=>∃(free:Bool) (s2:eu) (tmp:List (Nat×D)),fr=⟨7,[.ptr k 0 0,fp fr 1,fp fr 2,.int .i64 (s.i:Nat),.bool free,fp fr 5,fp fr 6],tmp⟩∧Has N S2 st (.box k (.mem 0 false (aP gs bE s2))::.aJ bE 1 (bO.map aw)::H)∧(s2.e=0)∧(s2.o=s.o)∧(s2.g=s.g)∧(s.i+1≤s2.i)∧(s2.i≤gs.length)) ?_ ?_
 ·obtain⟨k1,k2,k3,k4,k5⟩:=fO (gs:=gs) (s:=s1) (r:=63);have k5:=k5 (by omega);refine qj fun K hK=>qm ?_;obtain⟨_,st,aH,rfl,hH⟩:=dt (s:=s1) (by omega) 63 hH;refine qv aH ?_;refine qe hK ?_;generalize cI gs s1 63=s2 at*
  cases hb:hU gs s1.i 63 with
  |false=>
   refine qC ?_;refine af.skip ?_;exact⟨false,s2,_,rfl,hH,by omega,by omega,by omega,by omega,by omega⟩
  |true=>
   refine qB ?_;refine qq<|qj fun K hK=>qm ?_;refine qe hK ?_;obtain⟨r1,r2,r3,r4,r5⟩:=fO (gs:=gs) (s:=s2) (r:=58);have r5:=r5 k5;refine qq<|qj fun K hK=>qm ?_;obtain⟨_,st,aH,rfl,hH⟩:=dt (s:=s2) (by omega) 58 hH;refine qv aH ?_;refine qg ?_;refine qe hK ?_;generalize cI gs s2 58=s3 at*
   cases hb2:hU gs s2.i 58 with
   |false=>
    refine qB ?_;refine qq<|qj fun K hK=>qm ?_;refine qm ?_;obtain⟨_,st,aH,rfl,s4,hN,hH⟩:=hwr _ s3 4 _ (by decide) (by omega) (by omega) (by omega) (by omega) (by omega) hH;refine qv aH ?_;refine qm ?_;refine qe hK<|af.ret ⟨rx,_,_,_,rfl,aj (rfl),?_⟩;exact⟨s4,hN,ck.av ch hH⟩
   |true=>
    refine qC ?_;refine af.skip ?_;exact⟨true,s3,_,rfl,hH,by omega,by omega,by omega,by omega,by omega⟩
 ·rintro fr st ⟨free,s2,tmp,hfr,hH,h1,h2,h3,h4,h5⟩;rw[hfr];clear hfr;generalize fp fr=ee;clear fr;refine qq<|qq<|qj fun K hK=>qm ?_;refine qg ?_;refine qp (o:=3) ?_;refine ql hH ay ?_;refine qg ?_;refine qe hK ?_
  by_cases SC:20≤s2.o
  ·have gE:decide (((s2.o:Nat):Int)≥20)=true:=by rw[decide_eq_true_eq];omega
   refine qD rfl (by rw[gE]) ?_;refine qq<|qj fun K hK=>qm ?_;refine qm ?_;obtain⟨_,st,aH,rfl,s4,hN,hH⟩:=hwr _ s2 10 _ (by decide) h1 h2 (by omega) (by omega) h5 hH;refine qv aH ?_;refine qm ?_;refine qe hK<|af.ret ⟨rx,_,_,_,rfl,aj (rfl),?_⟩;exact⟨s4,hN,ck.av ch hH⟩
  have gE:decide (((s2.o:Nat):Int)≥20)=false:=by rw[decide_eq_false_iff_not];omega
  refine qE rfl (by rw[gE]) ?_;refine af.skip<|qq<|qj fun K hK=>ab.go (d:=.agg [.int .i64 6,.nul,.int .i64 0,.int .i64 0,.bool false,.int .i64 0,.int .i64 1]) (st1:=_) rfl rfl rfl (ag rfl _) ?_;refine qa hH fun k5 st Ga hH=>?_;dsimp only[u2,u1,u3,u4,setMany,u5,u6,D.cells,Nat.reduceAdd,aP,bm,aw,au,aX] at hH;refine qS hH ay fun st hH=>?_;dsimp only[u2,u1,u3,u4,setMany,u5,u6,D.cells,Nat.reduceAdd,aP,bm,aw,au,aX] at hH;refine qe hK ?_;have hH:Has N S2 st (.box k (.mem 0 false (aP gs bE s2))::.aJ bE 1 (bO.map aw)::.box k5 (.mem 0 false [.int .i64 6,.nul,.int .i64 0,.int .i64 0,.bool false,.int .i64 0,.int .i64 1])::H):=ly hH;refine qq<|qq<|af.ki (fun fr st=>∃(cap:Int) (s3:eu) (tmp:List (Nat×D)),fr=⟨7,[.ptr k 0 0,fp fr 1,fp fr 2,.int .i64 (s.i:Nat),.bool free,.ptr k5 0 0,fp fr 6],tmp⟩∧Has N S2 st (.box k (.mem 0 false (aP gs bE s3))::.aJ bE 1 (bO.map aw)::.box k5 (.mem 0 false [.int .i64 6,.nul,.int .i64 0,.int .i64 0,.bool false,.int .i64 cap,.int .i64 1])::H)∧(s3.e=0)∧(s3.o=s.o)∧(s3.g≤4)∧(s3.i=s2.i)) ?_ ?_
  ·refine qj fun K hK=>qm ?_;refine qg ?_;refine qe hK ?_
   cases free with
   |true=>
    refine qC ?_;refine af.skip ?_;exact⟨0,s2,_,rfl,hH,h1,h2,by omega,rfl⟩
   |false=>
    refine qB ?_;refine qq<|qq<|qj fun K hK=>qm ?_;refine qg ?_;refine qp (o:=4) ?_;refine ql hH ay ?_;refine qg ?_;refine qe hK ?_
    by_cases Sl:4≤s2.g
    ·have gE:decide (((s2.g:Nat):Int)≥4)=true:=by rw[decide_eq_true_eq];omega
     refine qD rfl (by rw[gE]) ?_;refine qq<|qj fun K hK=>qm ?_;refine qm ?_;obtain⟨_,st,aH,rfl,s4,hN,hH⟩:=hwr _ s2 13 _ (by decide) h1 h2 (by omega) (by omega) h5 hH;refine qv aH ?_;refine qm ?_;refine qe hK<|af.ret ⟨rx,_,_,_,rfl,aj (rfl),?_⟩;exact⟨s4,hN,ck.av ch (hH.erase 2)⟩
    ·have gE:decide (((s2.g:Nat):Int)≥4)=false:=by rw[decide_eq_false_iff_not];omega
     refine qE rfl (by rw[gE]) ?_;refine af.skip<|qq<|qj fun K hK=>qm ?_;refine qg ?_;refine qp (o:=4) ?_;refine ql hH ay ?_;refine qA ?_;refine qg ?_;refine qp (o:=4) ?_;refine qT hH ay fun st hH=>?_;dsimp only[u2,u1,u3,u4,setMany,u5,u6,D.cells,Nat.reduceAdd,aP,bm,aw,au,aX] at hH;refine qe hK<|qj fun K hK=>qm ?_;refine qg ?_;refine qp (o:=4) ?_;refine ql hH ay ?_;refine qp (o:=5) ?_;refine qT hH eV fun st hH=>?_;dsimp only[u2,u1,u3,u4,setMany,u5,u6,D.cells,Nat.reduceAdd,aP,bm,aw,au,aX] at hH;refine qe hK ?_;exact⟨((s2.g+1:Nat):Int),{s2 with g:=s2.g+1},_,rfl,hH,h1,h2,by show s2.g+1≤4;omega,rfl⟩
  ·rintro fr st ⟨cap,s3,tmp,hfr,hH,e1,e2,e3,e4⟩;rw[hfr];clear hfr;generalize fp fr=ee;clear fr;refine qq<|qj fun K hK=>qm ?_;refine qg ?_;refine qp (o:=3) ?_;refine ql hH ay ?_;refine qA ?_;refine qg ?_;refine qp (o:=3) ?_;refine qT hH ay fun st hH=>?_;dsimp only[u2,u1,u3,u4,setMany,u5,u6,D.cells,Nat.reduceAdd,aP,bm,aw,au,aX] at hH;refine qe hK ?_;have hH:Has N S2 st (.box k (.mem 0 false (aP gs bE {s3 with o:=s3.o+1}))::.aJ bE 1 (bO.map aw)::.box k5 (.mem 0 false [.int .i64 6,.nul,.int .i64 0,.int .i64 0,.bool false,.int .i64 cap,.int .i64 1])::H):=hH;refine qq<|qj fun K hK=>qm ?_;obtain⟨_,st,aH,s4,⟨a1,a2,a3,a4,l,rfl,a5,a6⟩,hH⟩:=hA (m-1) (by omega) (s:={s3 with o:=s3.o+1}) a_ e1 (by show s3.i≤_;omega) e3 (by show s3.o+1+(m-1)=20;omega) hH;refine qv aH ?_;refine qm ?_;refine qe hK ?_;have a1:s4.o=s3.o+1:=a1;have a3:s3.i≤s4.i:=a3;have a6:l.length≤4*(s4.i-s3.i)+1:=a6;have hla:=(pM a5).arg N S2;refine qq<|qj fun K hK=>qm ?_;refine qg ?_;refine qp (o:=3) ?_;refine ql hH ay ?_;refine ab.mN (z:=((s.o:Nat):Int)) rfl (ev rfl) (ev rfl) (by(try simp only[List.length_reverse,List.length_cons,List.length_nil,List.length_append,List.length_map,List.length_set]);rw[wrap_i64 (by omega) (by omega)]<;>omega) (ag rfl _) ?_;refine qg ?_;refine qp (o:=3) ?_;refine qT hH ay fun st hH=>?_;dsimp only[u2,u1,u3,u4,setMany,u5,u6,D.cells,Nat.reduceAdd,aP,bm,aw,au,aX] at hH;refine qe hK ?_
   obtain⟨s5,OW⟩:∃s5:eu,({s4 with o:=s.o}:eu)=s5:=⟨_,rfl⟩
   have hH:Has N S2 st (.box k (.mem 0 false (aP gs bE s5))::.aJ bE 1 (bO.map aw)::.box k5 (.mem 0 false [.int .i64 6,.nul,.int .i64 0,.int .i64 0,.bool false,.int .i64 cap,.int .i64 1])::H):=by rw[←OW];exact hH
   have OV:s5.o=s.o∧s5.g=s4.g∧s5.i=s4.i:=by rw[←OW];exact⟨rfl,rfl,rfl⟩
   clear OW;obtain⟨b1,b2,b3⟩:=OV;refine qq<|qq<|af.ki (fun fr st=>∃(s6:eu) (tmp:List (Nat×D)),fr=⟨7,[.ptr k 0 0,fp fr 1,fp fr 2,fp fr 3,.bool free,.ptr k5 0 0,sW l],tmp⟩∧Has N S2 st (.box k (.mem 0 false (aP gs bE s6))::.aJ bE 1 (bO.map aw)::.box k5 (.mem 0 false [.int .i64 6,.nul,.int .i64 0,.int .i64 0,.bool false,.int .i64 cap,.int .i64 1])::H)∧(s6.o=s.o)∧(s6.g≤4)∧(s4.i≤s6.i)∧(s6.i≤gs.length)∧(s6.e≠0∨s6.e=0∧s4.i<s6.i)) ?_ ?_
   ·by_cases PQ:s5.e=0
    ·have bc:(s5.e==0)=true:=by simpa using PQ
     obtain⟨k1,k2,k3,k4,R9⟩:=fO (gs:=gs) (s:=s5) (r:=41);have R9:=R9 (by omega);have hsk:hU gs s5.i 41=true→(cI gs s5 41).i=s5.i+1:=fun h=>by unfold cI;rw[if_pos h]
     refine qj fun K hK=>qm ?_;refine qg ?_;refine qp (o:=5) ?_;refine ql hH ay ?_;refine qg ?_;refine qm ?_;refine qm ?_ (hg:=wi bc);obtain⟨_,st,aH,rfl,hH⟩:=dt (s:=s5) (by omega) 41 hH;refine qv aH ?_ (hg:=wi bc);refine qg ?_ (hg:=wi bc);refine qt bc ?_;refine qe hK ?_;generalize cI gs s5 41=s6 at*
     cases hb:hU gs s5.i 41 with
     |false=>
      refine qB ?_;refine qq<|qj fun K hK=>qm ?_;refine qm ?_;obtain⟨_,st,aH,rfl,s7,hN,hH⟩:=hwr _ s6 4 _ (by decide) (by omega) (by omega) (by omega) (by omega) (by omega) hH;refine qv aH ?_;refine qm ?_;refine qe hK<|af.ret ⟨rx,_,_,_,rfl,aj (rfl),?_⟩;exact⟨s7,hN,ck.av ch (hH.erase 2)⟩
     |true=>
      have hsk:=hsk hb;refine qC ?_;refine af.skip ?_;exact⟨s6,_,rfl,hH,by omega,by omega,by omega,by omega,.inr ⟨by omega,by omega⟩⟩
    ·have bc:(s5.e==0)=false:=by simpa using PQ
     refine qj fun K hK=>qm ?_;refine qg ?_;refine qp (o:=5) ?_;refine ql hH ay ?_;refine qg ?_;refine qm ?_;refine qs ?_ (hg:=wn bc);refine qs ?_ (hg:=wn bc);refine qs ?_ (hg:=wn bc);refine qu bc ?_;refine qe hK<|qC ?_;refine af.skip ?_;exact⟨s5,_,rfl,hH,b1,by omega,by omega,by omega,.inl PQ⟩
   ·rintro fr st ⟨s6,tmp,hfr,hH,c1,c2,c3,c4,c5⟩;rw[hfr];clear hfr;generalize fp fr=ee;clear fr;refine qq<|qq<|qj fun K hK=>qm ?_;refine qe hK ?_
    cases free with
    |true=>
     refine qB ?_;refine qq<|qj fun K hK=>qm ?_;refine qm ?_;refine qe hK<|af.ret ⟨rx,_,_,_,rfl,aj (rfl),?_⟩;refine⟨s6,⟨c1,c2,by omega,c4,l,rfl,a5,by omega,?_⟩,ck.av ch (hH.erase 2)⟩
     rcases c5 with c5|⟨c5,c6⟩
     ·exact .inl c5
     ·exact .inr ⟨c5,by omega⟩
    |false=>
     refine qC ?_;refine af.skip<|qq<|qj fun K hK=>?_;refine ab.bN (m:=7) hH rfl (ev rfl) (by exact eV) (by dsimp only[List.drop_succ_cons,List.drop_zero,List.take_succ_cons,List.take_zero,aP,bm,aw,au,aX]<;>rfl) rfl rfl (ag rfl _) ?_;refine qh (s:=7) (vs:=[_]) hH fun k89 st UN hH=>?_;dsimp only[u2,u1,u3,u4,setMany,u5,u6,D.cells,Nat.reduceAdd,aP,bm,aw,au,aX] at hH;refine qm ?_;refine ab.oD (s:=7) hH rfl (ev rfl) (ev rfl) ay ((pM a5).rows st) rfl rfl rfl rfl rfl rfl rfl ⟨(Nat.le_of_ble_eq_true rfl),(Nat.le_of_ble_eq_true rfl)⟩ (fun _=>(ag rfl _)) (by simp only[List.length_map,List.length_cons,List.length_nil];omega) (.inr (pL a5)) (fun k hk=>by have iN:k89+1=k+1:=hk;omega) (fun SU st F6 hH=>?_);dsimp only[u2] at hH;refine qm ?_;refine qe hK ?_;have hH:Has N S2 st (.aJ SU 7 ([.int .i64 6,.nul,.int .i64 0,.int .i64 0,.bool false,.int .i64 cap,.int .i64 1]::l.map aX)::.box k (.mem 0 false (aP gs bE s6))::.aJ bE 1 (bO.map aw)::.box k5 (.mem 0 false [.int .i64 6,.nul,.int .i64 0,.int .i64 0,.bool false,.int .i64 cap,.int .i64 1])::H):=hH
     have hfz:=gO (L:=s0.bs.length) (l:=rM 6 0 0 false cap 1 []::l) hH ay (by rw[List.map_cons,rK a5];rfl) (fun e he d hd=>by
      rcases List.mem_cons.1 he with rfl|he
      ·simp only[List.mem_cons,List.not_mem_nil,or_false] at hd
       rcases hd with rfl|rfl|rfl|rfl|rfl|rfl|rfl<;>rfl
      ·exact nW a5 e he d hd) (fun k hk=>by rw[←ch];exact F6 k hk) (n:=16) (by decide)
     refine af.ret ⟨rx,_,_,_,rfl,aj hfz,⟨s6,⟨c1,c2,by omega,c4,_,rfl,?_,by simp only[List.length_cons];omega,?_⟩,ck.av ch ((hH.drop 1).erase 2)⟩⟩
     ·intro n hn
      rcases List.mem_cons.1 hn with rfl|hn
      ·exact⟨rfl,by simp[rM],by simp[rM]⟩
      ·exact a5 n hn
     ·rcases c5 with c5|⟨c5,c6⟩
      ·exact .inl c5
      ·exact .inr ⟨c5,by simp only[List.length_cons];omega⟩
end Go.Proofs.Ytbdnabmmlbiomaa
