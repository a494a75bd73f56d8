import Derived.Test.YtbdnabmmlbiomaaGreatWGUb
import Derived.Test.YtbdnabmmlbiomaaGreatWGKa
set_option linter.unusedSimpArgs false
set_option linter.unusedSectionVars false
set_option maxRecDepth 100000
set_option linter.unusedVariables false
set_option maxHeartbeats 4000000
namespace Go.Proofs.YtbdnabmmlbiomaaGreat
open Go.V Go
structure dW where
 op:Int
 rd:D
 rs:List Rg
 mn:Int
 mx:Int
 lz:Bool
 cap:Int
 kids:Int
def bt (n:dW):List D:=[.int .i64 n.op,n.rd,.int .i64 n.mn,.int .i64 n.mx,.bool n.lz,.int .i64 n.cap,.int .i64 n.kids]
def dW.ok (n:dW):Prop:=eH n.rd 2 (n.rs.map ay)∧n.rs.length≤1048576∧n.kids≤9223372036854775807
structure Nl where
 d:D
 l:List dW
structure Nl.ok (x:Nl):Prop where
 c:eH x.d 7 (x.l.map bt)
 i:∀n∈x.l,n.ok
 nl:x.l.length≤1048576
theorem lV {l:List dW} {i:Nat} {q:dW} (h:l[i]?=some q):(l.map bt)[i]?=some (bt q):=by rw[List.getElem?_map,h];rfl
mutual
inductive Tr where
 |mk (n:dW) (ks:bS)
inductive bS where
 |nil
 |cons (t:Tr) (ts:bS)
end
def bS.len:bS→Nat
 | .nil=>0
 | .cons _ ts=>ts.len+1
mutual
def Tr.flat:Tr→List dW
 | .mk n ks=>n::ks.flat
def bS.flat:bS→List dW
 | .nil=>[]
 | .cons t ts=>t.flat++ts.flat
end
def wF (n:dW) (nk:Nat):Prop:=
 n.kids=(nk:Int)∧(((n.op=1∨n.op=7∨n.op=8)∧nk=0)∨(n.op=2∧nk=0)∨((n.op=3∨n.op=4)∧2≤nk)∨
  (n.op=5∧nk=1∧0≤n.mn∧n.mn≤30∧(n.mx=-1∨(n.mn≤n.mx∧n.mx≤30)))∨(n.op=6∧nk=1∧1≤n.cap∧n.cap≤4))
mutual
def Tr.ok:Tr→Prop
 | .mk n ks=>wF n ks.len∧ks.ok
def bS.ok:bS→Prop
 | .nil=>True
 | .cons t ts=>t.ok∧ts.ok
end
def bW (n:dW) (s k:Nat):Nat:=
 if n.op=2∨n.op=7∨n.op=8 then 1
 else if n.op=4 then s+2*(k-1)
 else if n.op=6 then s+2
 else if n.op=5 then(if n.mx=-1 then n.mn.toNat*s+s+2 else n.mn.toNat*s+(n.mx.toNat-n.mn.toNat)*(s+1))
 else s
mutual
def Tr.sz:Tr→Nat
 | .mk n ks=>bW n ks.sz ks.len
def bS.sz:bS→Nat
 | .nil=>0
 | .cons t ts=>t.sz+ts.sz
end
def dp (op x y:Int) (rs:List Rg):aJ:=⟨op,x,y,.sl ((rs.map ay).map (kH 2)),rs⟩
def nX (s o:Nat) (lz:Bool):aJ:=if lz=true then dp 2 (o:Nat) ((s+1:Nat):Int) [] else dp 2 ((s+1:Nat):Int) (o:Nat) []
def mZ (e:Nat):aJ:=dp 3 (e:Nat) 0 []
def fJ (c:Nat→List aJ) (z:Nat):Nat→Nat→List aJ
 |0,_=>[]
 |k+1,b=>c b++fJ c z k (b+z)
def fx (sp:Nat→aJ) (c:Nat→List aJ) (z:Nat):Nat→Nat→List aJ
 |0,_=>[]
 |k+1,b=>sp b::(c (b+1)++fx sp c z k (b+1+z))
def wz (z:Nat):Nat→Nat→List Nat
 |0,_=>[]
 |k+1,b=>b::wz z k (b+1+z)
def n9 (n:dW) (c:Nat→List aJ) (z b:Nat):List aJ:=
 if n.mx=-1 then fJ c z n.mn.toNat b++(nX (b+n.mn.toNat*z) (b+n.mn.toNat*z+z+2) n.lz::(c (b+n.mn.toNat*z+1)++[mZ (b+n.mn.toNat*z)]))
 else fJ c z n.mn.toNat b++fx (fun s=>nX s (b+n.mn.toNat*z+(n.mx.toNat-n.mn.toNat)*(z+1)) n.lz) c z (n.mx.toNat-n.mn.toNat) (b+n.mn.toNat*z)
mutual
def aV:Tr→Nat→List aJ
 | .mk n ks,b=>
  if n.op=2 then[dp 1 0 0 n.rs]
  else if n.op=7 then[dp 5 0 0 []]
  else if n.op=8 then[dp 6 0 0 []]
  else if n.op=3 then gj ks b
  else if n.op=4 then eZ (mZ (b+bW n ks.sz ks.len)) ks b
  else if n.op=5 then n9 n (gj ks) ks.sz b
  else if n.op=6 then dp 4 (2*n.cap) 0 []::(gj ks (b+1)++[dp 4 (2*n.cap+1) 0 []])
  else[]
def gj:bS→Nat→List aJ
 | .nil,_=>[]
 | .cons t ts,b=>aV t b++gj ts (b+t.sz)
def eZ (jp:aJ):bS→Nat→List aJ
 | .nil,_=>[]
 | .cons t ts,b=>if ts.len=0 then aV t b else nX b (b+1+t.sz+1) false::(aV t (b+1)++jp::eZ jp ts (b+t.sz+2))
end
def sr:bS→Nat→List Nat
 | .nil,_=>[]
 | .cons t ts,b=>if ts.len=0 then[] else(b+1+t.sz)::sr ts (b+t.sz+2)
theorem jJ {c:Nat→List aJ} {z:Nat} (hc:∀b,(c b).length=z):∀k b,(fJ c z k b).length=k*z
 |0,b=>by simp[fJ]
 |k+1,b=>by rw[fJ,List.length_append,hc,jJ hc k,Nat.add_mul];omega
theorem qZ {sp:Nat→aJ} {c:Nat→List aJ} {z:Nat} (hc:∀b,(c b).length=z):∀k b,(fx sp c z k b).length=k*(z+1)
 |0,b=>by simp[fx]
 |k+1,b=>by rw[fx,List.length_cons,List.length_append,hc,qZ hc k,Nat.add_mul];omega
theorem CL {n:dW} {c:Nat→List aJ} {z b:Nat} (hc:∀b,(c b).length=z) (h:n.op=5):(n9 n c z b).length=bW n z 1:=by
 unfold n9 bW;rw[if_neg (show¬(n.op=2∨n.op=7∨n.op=8) by omega),if_neg (show¬n.op=4 by omega),if_neg (show¬n.op=6 by omega),if_pos h]
 split
 ·rw[List.length_append,jJ hc,List.length_cons,List.length_append,hc];simp only[List.length_cons,List.length_nil];omega
 ·rw[List.length_append,jJ hc,qZ hc]
theorem bS.Af {ks:bS} (h:ks.len=1):∃t,ks=.cons t .nil:=by
 cases ks with
 |nil=>simp[bS.len] at h
 |cons t ts=>cases ts with
  |nil=>exact⟨t,rfl⟩
  |cons u us=>simp[bS.len] at h
theorem bS.len_nil {ks:bS} (h:ks.len=0):ks=.nil:=by
 cases ks with
 |nil=>rfl
 |cons t ts=>simp[bS.len] at h
mutual
theorem cK:∀(t:Tr) (b:Nat),t.ok→(aV t b).length=t.sz
 | .mk n ks,b,h=>by
  simp only[Tr.ok] at h;obtain⟨h1,h2⟩:=h;have hc:=fun b=>nD ks b h2;have ha:=fun jp b=>sq jp ks b h2;simp only[aV,Tr.sz];obtain⟨_,⟨h3,h4⟩|⟨h3,h4⟩|⟨h3,h4⟩|⟨h3,h4,h5⟩|⟨h3,h4,h5⟩⟩:=h1
  ·have hk:=bS.len_nil h4;subst hk
   by_cases q7:n.op=7
   ·simp[q7,bW]
   ·by_cases q8:n.op=8
    ·simp[q8,bW]
    ·have q1:n.op=1:=by omega
     simp[q1,bW,bS.sz]
  ·simp[h3,bW]
  ·rcases h3 with h3|h3
   ·simp[h3,bW,hc]
   ·simp[h3,bW,ha]
  ·have:=CL (n:=n) (b:=b) hc h3;simp only[h3] at this⊢;simp only[show¬((5:Int)=2) by decide,show¬((5:Int)=7) by decide,show¬((5:Int)=8) by decide,show¬((5:Int)=3) by decide,show¬((5:Int)=4) by decide,if_false,if_true];rw[this,h4]
  ·simp[h3,bW,hc]
theorem nD:∀(ts:bS) (b:Nat),ts.ok→(gj ts b).length=ts.sz
 | .nil,b,_=>by simp[gj,bS.sz]
 | .cons t ts,b,h=>by
  simp only[bS.ok] at h;simp only[gj,bS.sz,List.length_append];rw[cK t b h.1,nD ts _ h.2]
theorem sq (jp:aJ):∀(ts:bS) (b:Nat),ts.ok→(eZ jp ts b).length=ts.sz+2*(ts.len-1)
 | .nil,b,_=>by simp[eZ,bS.sz,bS.len]
 | .cons t ts,b,h=>by
  simp only[bS.ok] at h;have h1:=sq jp ts (b+t.sz+2) h.2;simp only[eZ,bS.sz,bS.len]
  by_cases q:ts.len=0
  ·rw[if_pos q,cK t b h.1,q];have:=bS.len_nil q;subst this;simp[bS.sz]
  ·rw[if_neg q,List.length_cons,List.length_append,List.length_cons,cK t _ h.1,h1];omega
end
def iJ (f:Nat→aJ) (c:List aJ) (l:List Nat):List aJ:=l.foldl (fun c j=>c.set j (f j)) c
theorem pH {α:Type} (pre post:List α) (x y:α):(pre++x::post).set pre.length y=pre++y::post:=by
 rw[List.set_append_right _ _ (Nat.le_refl _),Nat.sub_self];rfl
theorem pU {α:Type} (pre post:List α) (x:α):(pre++x::post)[pre.length]?=some x:=by
 rw[List.getElem?_append_right (Nat.le_refl _),Nat.sub_self];rfl
theorem oc {sp:Nat→aJ} {c:Nat→List aJ} {z:Nat} (hc:∀b,(c b).length=z) {i0:aJ}:∀(k b:Nat) (pre post:List aJ),pre.length=b→iJ sp (pre++fx (fun _=>i0) c z k b++post) (wz z k b)=pre++fx sp c z k b++post∧∀j∈wz z k b,(pre++fx (fun _=>i0) c z k b++post)[j]?=some i0
 |0,b,pre,post,_=>⟨rfl,fun j hj=>by cases hj⟩
 |k+1,b,pre,post,h=>by
  have ih:=oc (sp:=sp) hc (i0:=i0) k (b+1+z) (pre++i0::c (b+1)) post (by rw[List.length_append,List.length_cons,hc];omega);have Ai:=oc (sp:=sp) hc (i0:=i0) k (b+1+z) (pre++sp b::c (b+1)) post (by rw[List.length_append,List.length_cons,hc];omega);simp only[fx,wz];have e:pre++i0::(c (b+1)++fx (fun _=>i0) c z k (b+1+z))++post=pre++i0::(c (b+1)++fx (fun _=>i0) c z k (b+1+z)++post):=by simp
  have e2:pre++i0::c (b+1)++fx (fun _=>i0) c z k (b+1+z)++post=pre++i0::(c (b+1)++fx (fun _=>i0) c z k (b+1+z)++post):=by simp
  refine⟨?_,fun j hj=>?_⟩
  ·unfold iJ at Ai⊢;rw[List.foldl_cons,e]
   have hs:(pre++i0::(c (b+1)++fx (fun _=>i0) c z k (b+1+z)++post)).set b (sp b)=pre++sp b::c (b+1)++fx (fun _=>i0) c z k (b+1+z)++post:=by
    rw[←h,pH];simp
   rw[hs,Ai.1];simp
  ·rw[e]
   rcases List.mem_cons.1 hj with rfl|hj
   ·rw[←h];exact pU _ _ _
   ·rw[←e2];exact ih.2 j hj
theorem oP {jp i0:aJ}:∀(ts:bS) (b:Nat) (pre post:List aJ),ts.ok→pre.length=b→iJ (fun _=>jp) (pre++eZ i0 ts b++post) (sr ts b)=pre++eZ jp ts b++post∧∀j∈sr ts b,(pre++eZ i0 ts b++post)[j]?=some i0
 | .nil,b,pre,post,_,_=>⟨by simp[eZ,sr,iJ],fun j hj=>by simp[sr] at hj⟩
 | .cons t ts,b,pre,post,bd,h=>by
  simp only[bS.ok] at bd
  by_cases q:ts.len=0
  ·simp only[eZ,sr,if_pos q];exact⟨rfl,fun j hj=>by cases hj⟩
  ·simp only[eZ,sr,if_neg q];generalize nX b (b+1+t.sz+1) false=sp;have hcl:=cK t (b+1) bd.1;have ih:=oP (jp:=jp) (i0:=i0) ts (b+t.sz+2) (pre++sp::(aV t (b+1)++[i0])) post bd.2 (by simp only[List.length_append,List.length_cons,List.length_nil,hcl];omega);have Ai:=oP (jp:=jp) (i0:=i0) ts (b+t.sz+2) (pre++sp::(aV t (b+1)++[jp])) post bd.2 (by simp only[List.length_append,List.length_cons,List.length_nil,hcl];omega);generalize eZ i0 ts (b+t.sz+2)=A at*;have e:pre++sp::(aV t (b+1)++i0::A)++post=(pre++sp::aV t (b+1))++i0::(A++post):=by simp
   have hl:(pre++sp::aV t (b+1)).length=b+1+t.sz:=by simp only[List.length_append,List.length_cons,hcl];omega
   refine⟨?_,fun j hj=>?_⟩
   ·unfold iJ at Ai⊢;rw[List.foldl_cons,e,←hl,pH];have:=Ai.1;simp only[List.append_assoc,List.cons_append,List.nil_append] at this⊢;exact this
   ·rw[e]
    rcases List.mem_cons.1 hj with rfl|hj
    ·rw[←hl];exact pU _ _ _
    ·have:=ih.2 j hj;simp only[List.append_assoc,List.cons_append,List.nil_append] at this⊢;exact this
def fY {α:Type} (L:List α) (at_:Nat) (M:List α):Prop:=∃post,L.drop at_=M++post
theorem fY.head {α:Type} {L M:List α} {a:α} {at_:Nat} (h:fY L at_ (a::M)):L[at_]?=some a:=by
 obtain⟨post,h⟩:=h;have:=congrArg (·[0]?) h
 simpa using this
theorem fY.tail {α:Type} {L M:List α} {a:α} {at_:Nat} (h:fY L at_ (a::M)):fY L (at_+1) M:=by
 obtain⟨post,h⟩:=h;refine⟨post,?_⟩;rw[←List.drop_drop,h];rfl
theorem fY.left {α:Type} {L M M':List α} {at_:Nat} (h:fY L at_ (M++M')):fY L at_ M:=by
 obtain⟨post,h⟩:=h;exact⟨M'++post,by rw[h,List.append_assoc]⟩
theorem fY.right {α:Type} {L M M':List α} {at_:Nat} (h:fY L at_ (M++M')):fY L (at_+M.length) M':=by
 obtain⟨post,h⟩:=h;refine⟨post,?_⟩;rw[←List.drop_drop,h,List.append_assoc,List.drop_left]
theorem fY.le {α:Type} {L M:List α} {at_:Nat} (h:fY L at_ M) (hM:M≠[]):at_+M.length≤L.length:=by
 obtain⟨post,h⟩:=h;have:=congrArg List.length h;simp only[List.length_drop,List.length_append] at this
 have:0<M.length:=by cases M with|nil=>exact absurd rfl hM|cons _ _=>simp
 omega
theorem fY.all {α:Type} (L:List α):fY L 0 L:=⟨[],by simp⟩
mutual
def Tr.zs:Tr→List Int
 | .mk n ks=>((min (bW n ks.sz ks.len) 401:Nat):Int)::ks.zs
def bS.zs:bS→List Int
 | .nil=>[]
 | .cons t ts=>t.zs++ts.zs
end
mutual
def Tr.es:Tr→Nat→List Int
 | .mk n ks,at_=>((at_+1+ks.flat.length:Nat):Int)::ks.es (at_+1)
def bS.es:bS→Nat→List Int
 | .nil,_=>[]
 | .cons t ts,at_=>t.es at_++ts.es (at_+t.flat.length)
end
mutual
theorem Tr.jq:∀t:Tr,t.zs.length=t.flat.length
 | .mk n ks=>by simp[Tr.zs,Tr.flat,bS.jq ks]
theorem bS.jq:∀ts:bS,ts.zs.length=ts.flat.length
 | .nil=>rfl
 | .cons t ts=>by simp[bS.zs,bS.flat,Tr.jq t,bS.jq ts]
end
mutual
theorem Tr.jA:∀(t:Tr) (a:Nat),(t.es a).length=t.flat.length
 | .mk n ks,a=>by simp[Tr.es,Tr.flat,bS.jA ks]
theorem bS.jA:∀(ts:bS) (a:Nat),(ts.es a).length=ts.flat.length
 | .nil,_=>rfl
 | .cons t ts,a=>by simp[bS.es,bS.flat,Tr.jA t,bS.jA ts]
end
theorem Tr.iU (t:Tr):0<t.flat.length:=by cases t;simp[Tr.flat]
theorem bS.lf:∀ts:bS,ts.len≤ts.flat.length
 | .nil=>Nat.le_refl _
 | .cons t ts=>by
  have h1:=bS.lf ts;have h2:=t.iU;simp only[bS.len,bS.flat,List.length_append];omega
end Go.Proofs.YtbdnabmmlbiomaaGreat
namespace Go.V
variable{N:Nat} {S st:St} {H:List bC}
theorem cS.at_ {α β:Type} {R:α→β→Prop}:∀{l:List α} {m:List β} {i:Nat} {b:β},cS R l m→m[i]?=some b→∃a,l[i]?=some a∧R a b
 |_,_,_,_,.nil,h=>by simp at h
 |_,_,0,_,.cons a t,h=>by simp only[List.getElem?_cons_zero,Option.some.injEq] at h;subst h;exact⟨_,rfl,a⟩
 |_,_,i+1,_,.cons a t,h=>by simp only[List.getElem?_cons_succ] at h⊢;exact t.at_ h
theorem cS.set {α β:Type} {R:α→β→Prop} {a:α} {b:β} (r:R a b):∀{l:List α} {m:List β} (i:Nat),cS R l m→cS R (l.set i a) (m.set i b)
 |_,_,_,.nil=>.nil
 |_,_,0,.cons _ t=>.cons r t
 |_,_,i+1,.cons h t=>.cons h (t.set r i)
theorem cS.setMany {R:D→D→Prop}:∀{xs ys:List D} {c d:List D} (o:Nat),cS R xs ys→cS R c d→cS R (setMany c o xs) (setMany d o ys)
 |_,_,_,_,_,.nil,h=>h
 |_,_,_,_,o,.cons r t,h=>by simp only[Go.V.setMany];exact t.setMany (o+1) (h.set r o)
theorem cS.same {R:D→D→Prop}:∀{l:List D},(∀d∈l,R d d)→cS R l l
 |[],_=>.nil
 |d::l,h=>.cons (h d (List.mem_cons_self ..)) (cS.same fun x hx=>h x (List.mem_cons_of_mem _ hx))
theorem Has.UW {j:Nat} {x:D} {s:Nat} {ks:Nat→Prop} {vs:List (List D)} (hH:Has N S st H) (hj:H[j]?=some (.deep ks x s vs)):∃es,Rows st s x es∧es.length=vs.length:=by
 obtain⟨⟨es,h1,h2⟩,_⟩:=(hH.ok j _ hj).1;exact⟨es,h1.rows,h2.len⟩
theorem Has.YE {j k aD off len s:Nat} {ks:Nat→Prop} {vs:List (List D)} {i o:Nat} {v cs:List D} (h:Has N S st H) (hj:H[j]?=some (.deep ks (.win k aD off len s) s vs)) (hi:vs[i]?=some v) (hl:o+cs.length≤s) (hp:∀d∈cs,cy d=true) (hw:S.flr≤N∨refs cs=0):
  ∃ah,st.wr k aD (off+i*s+o) cs=some ah∧Has N S ah (H.set j (.deep ks (.win k aD off len s) s (vs.set i (setMany v o cs)))):=by
 obtain⟨⟨es,mC,BF⟩,he3⟩:=(h.ok j _ hj).1;have hK:=(h.ok j _ hj).2;obtain⟨e,hei,aN⟩:=BF.at_ hi
 have vz:Has N S st [.aM (.win k aD off len s) s es]:=by
  refine⟨h.ex,h.hN,h.et,fun i e hi=>?_,fun i i' a b hii ha hb k sE ja=>?_⟩
  ·cases i with
   |zero=>simp only[List.getElem?_cons_zero,Option.some.injEq] at hi;subst hi;exact⟨mC,fun k hk=>hK k (.inl hk)⟩
   |succ i=>simp at hi
  ·cases i with
   |zero=>cases i' with
    |zero=>exact hii rfl
    |succ i'=>simp at hb
   |succ i=>simp at ha
 obtain⟨ah,q1,q2⟩:=vz.zQ (j:=0) au hei hl hw;refine⟨ah,q1,?_⟩;have hown:=q2.own (j:=0) au
 have XC:(∀n,n≠k→ah.bs[n]?=st.bs[n]?)∧st.bs.length=ah.bs.length∧ah.flr=st.flr∧ah.ro=st.ro:=by
  unfold St.wr at q1
  split at q1
  ·split at q1
   ·cases q1;exact⟨fun n hn=>by simp only;rw[List.getElem?_set_ne (fun e=>hn e.symm)],by simp,rfl,rfl⟩
   ·cases q1
  ·cases q1
 obtain⟨c1,c2,c3,c4⟩:=XC;have hkk:=hK k (.inl (by simp only[D.ref]));have hne:∀n,ks n→n≠k:=fun n hn e=>he3 k (by simp only[D.ref]) (e▸hn);have w5:∀n,ks n→ah.bs[n]?=st.bs[n]?:=fun n hn=>c1 n (hne n hn);refine h.sH hj (fun n hn hnot=>c1 n fun e=>hnot (.inl (by simp only[D.ref];omega))) (Nat.le_of_eq c2) c3 c4 ⟨⟨_,hown,?_⟩,he3⟩ (fun n hn=>.inl hn) fun n hn=>?_
 ·refine cS.set ?_ i (BF.mono fun a b=>cS.mono fun c d=>fg.move w5);exact(cS.same fun d hd=>.plain d (hp d hd)).setMany o (aN.mono fun c d=>fg.move w5)
 ·rw[←c2];exact(hK n hn).2
variable{P:Pv} {ops:Array Oper} {rest:List Oper} {fr aK:Fr} {Q:Fr→St→Prop} {ty:TypeId} {pp:String} {a:Array Edge} {g:Option (Nat×Bool)} {dst:Nat}
theorem aa.BS {t e:TypeId} {xo:Operand} {x:D} {s j:Nat} {ks:Nat→Prop} {vs:List (List D)} (hH:Has N S st H) (hg:aI ops fr ⟨some dst,.call ⟨.builtin .len,#[xo],#[t]⟩,ty,pp,a,g⟩=some true) (hx:fr.ev xo=x) (hj:H[j]?=some (.deep ks x s vs)) (ht:P.cL t=some (.slice e)) (hp:fr.put dst (.int .i64 (vs.length:Nat))=aK)
  (h:aa P ops rest aK st Q):aa P ops (⟨some dst,.call ⟨.builtin .len,#[xo],#[t]⟩,ty,pp,a,g⟩::rest) fr st Q:=by
 obtain⟨es,h1,h2⟩:=hH.UW hj;exact aa.iL hg hx h1 ht (by rw[h2];exact hp) h
theorem aa.Ef {t e:TypeId} {xo io:Operand} {x:D} {s i j:Nat} {kk:IntKind} {ks:Nat→Prop} {vs:List (List D)} {aK:D→Fr} (hH:Has N S st H) (hg:aI ops fr ⟨some dst,.indexAddr t xo io,ty,pp,a,g⟩=some true) (hx:fr.ev xo=x) (hi:fr.ev io=.int kk (i:Nat)) (hj:H[j]?=some (.deep ks x s vs)) (ht:P.cL t=some (.slice e)) (hs:cn P e=some s) (hr:i<vs.length) (hp:∀p,fr.put dst p=aK p)
  (h:∀p,pB x s i 0 p→aa P ops rest (aK p) st Q):aa P ops (⟨some dst,.indexAddr t xo io,ty,pp,a,g⟩::rest) fr st Q:=by
 obtain⟨⟨es,mC,BF⟩,he3⟩:=(hH.ok j _ hj).1;have hlen:=BF.len
 cases mC with
 |nul=>simp at hlen;omega
 |win k aD off es c hm hl hc he=>
  refine aa.go hg rfl (d:=.ptr k aD (off+i*s)) (st1:=st) ?_ (hp _) (h _ ⟨k,aD,off,_,rfl,rfl⟩);simp only[dQ,hx,hi,b6,ht,hs,Option.bind_some,St.mem_of hm,Option.isSome_some];rw[if_pos ⟨trivial,by omega,by omega,trivial⟩];rfl
theorem aa.rS {t:TypeId} {ao vo:Operand} {x y v:D} {s i o j:Nat} {ks:Nat→Prop} {vs:List (List D)} {r cs:List D} (hH:Has N S st H) (hg:aI ops fr ⟨none,.store t ao vo,ty,pp,a,g⟩=some true) (ha:fr.ev ao=y) (hv:fr.ev vo=v) (hR:pB x s i o y) (iS:v.cells?=some cs) (hs:cn P t=some cs.length) (hj:H[j]?=some (.deep ks x s vs)) (hr:vs[i]?=some r) (hl:o+cs.length≤s) (hq:∀d∈cs,cy d=true) (hw:S.flr≤N∨refs cs=0)
  (h:∀ah,Has N S ah (H.set j (.deep ks x s (vs.set i (setMany r o cs))))→aa P ops rest fr ah Q):aa P ops (⟨none,.store t ao vo,ty,pp,a,g⟩::rest) fr st Q:=by
 obtain⟨k,aD,off,len,rfl,rfl⟩:=hR;obtain⟨ah,h1,h2⟩:=hH.YE hj hr hl hq hw;refine aa.N hg rfl (d:=.tup []) (st1:=ah) ?_ (h _ h2);simp only[dQ,ha,hv,kP,iS,hs,if_pos trivial,h1];rfl
theorem ag.Ra {dy:Dy} {i:Nat} {l:List Oper} {d n loc tmp st} {Q:Out→Fr→St→Prop} (ws:List Nat) (F:(Nat→D)→Prop)
  (h1:aa P l.toArray l ⟨n,loc,[]⟩ st fun aK ah=>∃f tmp,aK=⟨n,aO loc ws f,tmp⟩∧ah=st∧F f) (h2:∀f tmp,F f→Q .next ⟨n,aO loc ws f,tmp⟩ st) (h0:gH i dy=[]:=by rfl):ag P dy (.region i l.toArray d) ⟨n,loc,tmp⟩ st Q:=by
 refine ag.ct ?_ h0;unfold aa at h1⊢;obtain⟨aK,ah,h3,f,MB,rfl,rfl,h4⟩:=h1;exact⟨_,_,h3,h2 _ _ h4⟩
theorem lg {n:Nat} {L loc:List D} {ug:List (Nat×D)} {ws:List Nat} {F:(Nat→D)→Prop} {st:St} (h:L=aO loc ws (fun k=>nth .bD L k)) (h2:F (fun k=>nth .bD L k)):∃(f:Nat→D) (tmp:List (Nat×D)),(⟨n,L,ug⟩:Fr)=⟨n,aO loc ws f,tmp⟩∧st=st∧F f:=⟨_,ug,by rw[←h],rfl,h2⟩
theorem aa.Sj {t1 t2:TypeId} {xo yo:Operand} {x y z:Int} (hg:aI ops fr ⟨some dst,.call ⟨.builtin .min,#[xo,yo],#[t1,t2]⟩,ty,pp,a,g⟩=some true) (hx:fr.ev xo=.int .i64 x) (hy:fr.ev yo=.int .i64 y) (hz:min x y=z) (hp:fr.put dst (.int .i64 z)=aK) (h:aa P ops rest aK st Q):aa P ops (⟨some dst,.call ⟨.builtin .min,#[xo,yo],#[t1,t2]⟩,ty,pp,a,g⟩::rest) fr st Q:=
 aa.K6 (t1:=t1) (t2:=t2) hg hx hy (by rw[hz];exact hp) h
theorem Has.wP {N:Nat} {S s0 S2 st2:St} {H:List bC} {x:D} {s:Nat} {es YB:List (List D)} (h:Has N S s0 (.aM x s es::H)) (hS:S2.bs=s0.bs) (h2:Has N S2 st2 (.aM x s YB::H)):Has N S ⟨st2.bs.take s0.bs.length,s0.flr,s0.ro⟩ (.aM x s YB::H):=by
 refine h.uQ hS h2 fun i e hi=>?_
 cases i with
 |zero=>simp only[List.getElem?_cons_zero,Option.some.injEq] at hi;subst hi;exact⟨_,rfl,fun k hk=>hk⟩
 |succ i=>exact⟨e,hi,fun k hk=>hk⟩
theorem Has.wQ {N:Nat} {S s0 S2 st2:St} {H:List bC} {k:Nat} {b b':ij} {ks:Nat→Prop} {x:D} {s:Nat} {vs RL:List (List D)} (h:Has N S s0 (.box k b::.deep ks x s vs::H)) (hS:S2.bs=s0.bs) (h2:Has N S2 st2 (.box k b'::.deep ks x s RL::H)):Has N S ⟨st2.bs.take s0.bs.length,s0.flr,s0.ro⟩ (.box k b'::.deep ks x s RL::H):=by
 refine h.uQ hS h2 fun i e hi=>?_
 match i with
 |0=>simp only[List.getElem?_cons_zero,Option.some.injEq] at hi;subst hi;exact⟨_,rfl,fun k hk=>hk⟩
 |1=>simp only[List.getElem?_cons_succ,List.getElem?_cons_zero,Option.some.injEq] at hi;subst hi;exact⟨_,rfl,fun k hk=>hk⟩
 |i+2=>exact⟨e,hi,fun k hk=>hk⟩
theorem Has.KL {N:Nat} {S st:St} {H:List bC} {a b c d e:bC} (h:Has N S st (a::b::c::d::e::H)):Has N S st (b::c::d::e::a::H):=by
 refine h.sub (fun i=>if i=4 then 0 else if i<4 then i+1 else i) (fun i j hij=>?_) (fun i x hi=>?_)
 ·skip
  split at hij<;>split at hij<;>(try split at hij)<;>(try split at hij)<;>omega
 ·match i,hi with
  |0,hi=>exact hi
  |1,hi=>exact hi
  |2,hi=>exact hi
  |3,hi=>exact hi
  |4,hi=>exact hi
  |i+5,hi=>
   have h1:¬(i+5=4):=by omega
   have h2:¬(i+5<4):=by omega
   simp only[if_neg h1,if_neg h2];exact hi
theorem Has.lL {fr:Fr} {a k aD off j u u2:Nat} {t:TypeId} {ar:Bool} {c:List D} {d e e2:D} (hH:Has N S st H) (ha:fr.get a=.ptr k aD off) (hj:H[j]?=some (.box k (.mem aD ar c))) (hd:dR P t (c.drop off)=some d) (he:fr.get u=e) (BF:fr.get u2=e2):kc P fr st [.cell a t,.tmp u,.tmp u2]=some [d,e,e2]:=by
 simp only[kc,gx,ha,St.mem_of (hH.at hj),Option.bind_some,hd,Option.map_some,he,BF]
theorem ag.om {dy:Dy} {c1 c2:Code} {fr:Fr} {st:St} {Q:Out→Fr→St→Prop} (M:Fr→St→Prop) (h1:ag P dy c1 fr st (aT P dy c2 (EP M Q))) (h2:∀aK ah,M aK ah→Q .next aK ah):ag P dy c1 fr st (aT P dy c2 Q):=
 h1.mono fun o aK ah h=>by
  cases o with
  |next=>exact ag.merge M h h2
  |exit i=>exact h
  |ret=>exact h
end Go.V
namespace Go.Proofs.YtbdnabmmlbiomaaGreat
open Go.V Go
def yD (fr:Go.V.Fr) (k:Nat):Go.V.D:=Go.V.nth .bD fr.loc k
theorem BN {st:St} {L n:Nat} {kn:Bool} {k aD off len s:Nat}:bw st L kn n (.win k aD off len s)=bw st L false n (.win k aD off len s):=by
 cases n<;>rfl
theorem BL (l:List Rg):(l.map ay).map (·.map py)=l.map ay:=by
 rw[List.map_map];rfl
theorem xR (l:List Rg):∀e∈l.map ay,∀d∈e,oU d=true:=by
 intro e he d hd;obtain⟨x,_,rfl⟩:=List.mem_map.1 he;simp only[ay,List.mem_cons,List.not_mem_nil,or_false] at hd
 rcases hd with rfl|rfl<;>rfl
theorem o_ {N L j:Nat} {S st:St} {H:List bC} {x:D} {l:List Rg} (hH:Has N S st H) (hj:H[j]?=some (.aM x 2 (l.map ay))) (hx:∀k,x.ref=k+1→L≤k) {n:Nat} (hn:3≤n):bw st L false n x=some (bT l):=by
 rw[hH.Ay hj hx (xR l) hn,BL,iM]
def U0 (gs:List (Nat×Nat)) (s s':fz) (d1:D) (b:Bool):Prop:=
 EO gs s s' d1 b∨(s'=s∧d1=.nul∧b=false)
theorem zX {N k:Nat} {S s0:St} {H:List bC} {gs:List (Nat×Nat)} {bK:D} {a8:List Int} {s:fz} (bd:lF gs a8) (he:s.e=0) (hi:s.i<gs.length) (hH:Has N S s0 (.box k (.mem 0 false (aX gs bK s))::.aM bK 1 (a8.map aq)::H)):
  ∃d ah,Ev pv 197 [.ptr k 0 0] s0 d ah∧∃(d1:D) (b:Bool) (s':fz),d=.tup [d1,.bool b]∧U0 gs s s' d1 b∧Has N S ah (.box k (.mem 0 false (aX gs bK s'))::.aM bK 1 (a8.map aq)::H):=by
 have pR:=bd.gl;have fU:=bd.pl;refine Ev.iC rfl Ud rfl rfl rfl ?_;dsimp only[u3,u4,List.length,Nat.reduceSub,Nat.reduceAdd,w1,w2];have cQ:=hH;have hH:=hH.cV;have cG:(ai .rw s0).bs=s0.bs:=rfl;generalize ai .rw s0=S2 at*;have DT:Arg N S2 2 (cB gs) (gs.map a7):=Arg.pure (fun st=>dt st gs)
 obtain⟨g,hg⟩:∃g,gs[s.i]?=some g:=⟨gs[s.i]'hi,List.getElem?_eq_getElem _⟩
 have iv:(gs.map a7)[s.i]?=some (a7 g):=by rw[List.getElem?_map,hg];rfl
 refine qq<|qj fun K hK=>qm ?_;refine qm ?_;refine qe hK<|qq<|qq<|qj fun K hK=>qm ?_;refine qm ?_;refine qg ?_;refine qp (o:=2) ?_;refine ql hH au ?_;obtain⟨_,st,aN,rfl,hH⟩:=zo (s:=s) s.i hi hH;refine qv aN ?_;refine qe hK ?_;refine qc (fun hb=>?_) (fun hb=>?_)<;>try simp only[cs] at hb
 ·refine qq<|qj fun K hK=>qm ?_;refine qm ?_;refine qg ?_;refine qp (o:=2) ?_;refine ql hH au ?_;obtain⟨_,st,aN,rfl,hH⟩:=du (s:=s) s.i 4 (by omega) hH;refine qv aN ?_;refine qe hK<|qq<|qj fun K hK=>qm ?_;refine qm ?_;refine qe hK ?_;obtain⟨h1,h2,h3,h4⟩:=dG (a8:=a8) (s:=s) (i:=s.i) (e:=4) he (by decide);refine ag.ret ⟨rx,_,_,_,rfl,ak (rfl),?_⟩;exact⟨_,_,_,rfl,.inl ⟨h3,h4,by rw[h2];exact Nat.le_refl _,by rw[h2];omega,.inl rfl,.inl h1⟩,cQ.aA cG hH⟩
 ·refine ag.skip<|qq<|qj fun K hK=>qm ?_;refine qg ?_;refine qp (o:=0) ?_;refine ql hH au ?_;refine qm ?_;refine qg ?_;refine qp (o:=2) ?_;refine ql hH au ?_;refine qr fun U6 Lq=>?_;refine qf (fo:=0) fun p26 WM=>?_;refine qR ?_;refine qm ?_;refine qe hK<|qq<|qj fun K hK=>qm ?_;refine qe hK<|ag.block<|qq<|qj fun K hK=>qg ?_;refine qm ?_;refine qe hK ?_;refine ag.cond (by rfl) (fun q1=>?_) (fun q1=>?_)<;>try simp only[beq_iff_eq,beq_eq_false_iff_ne,ne_eq] at q1
  ·refine qq<|qj fun K hK=>qm ?_;obtain⟨_,st,aN,d1,b,s',rfl,hP,hH⟩:=zO (s:=s) bd he hi hH;refine qv aN ?_;refine qg ?_;refine qg ?_;refine qm ?_;refine qm ?_;refine qe hK ?_
   rcases hP.2.2.2.2.1 with rfl|⟨a,rfl,_⟩
   ·refine ag.ret ⟨rx,_,_,_,rfl,ak (rfl),?_⟩;exact⟨_,_,_,rfl,.inl hP,cQ.aA cG hH⟩
   ·refine ag.ret ⟨rx,_,_,_,rfl,ak (rfl),?_⟩;exact⟨_,_,_,rfl,.inl hP,cQ.aA cG hH⟩
  ·refine qq<|qq<|qj fun K hK=>qg ?_;refine qm ?_;refine qe hK ?_
   by_cases Rv:((g.1:Nat):Int)=91
   ·refine qD rfl (by simp[Rv]) ?_;refine ag.skip<|qD rfl (by simp[Rv]) ?_;refine qq<|qj fun K hK=>qm ?_;refine qm ?_;refine qe hK<|ag.ret ⟨rx,_,_,_,rfl,ak (rfl),?_⟩;exact⟨_,_,_,rfl,.inr ⟨rfl,rfl,rfl⟩,cQ.aA cG hH⟩
   refine qE rfl (by simp[Rv]) ?_;refine qq<|qj fun K hK=>qg ?_;refine qm ?_;refine qe hK ?_
   by_cases VD:((g.1:Nat):Int)=93
   ·refine qD rfl (by simp[VD]) ?_;refine ag.skip<|qD rfl (by simp[VD]) ?_;refine qq<|qj fun K hK=>qm ?_;refine qm ?_;refine qe hK<|ag.ret ⟨rx,_,_,_,rfl,ak (rfl),?_⟩;exact⟨_,_,_,rfl,.inr ⟨rfl,rfl,rfl⟩,cQ.aA cG hH⟩
   refine qE rfl (by simp[VD]) ?_;refine qj fun K hK=>qg ?_;refine qm ?_;refine qe hK ?_
   by_cases Y5:((g.1:Nat):Int)=45
   ·refine qD rfl (by simp[Y5]) ?_;refine qq<|qj fun K hK=>qm ?_;refine qm ?_;refine qe hK<|ag.ret ⟨rx,_,_,_,rfl,ak (rfl),?_⟩;exact⟨_,_,_,rfl,.inr ⟨rfl,rfl,rfl⟩,cQ.aA cG hH⟩
   refine qE rfl (by simp[Y5]) ?_;refine qq<|qj fun K hK=>qm ?_;refine qg ?_;refine qp (o:=2) ?_;refine ql hH au ?_;refine qA ?_;refine qg ?_;refine qp (o:=2) ?_;refine qT hH au fun st hH=>?_;dsimp only[u2,u1,u3,u4,setMany,u5,u6,D.cells,Nat.reduceAdd,aX,a7,aq,ay] at hH;refine qe hK<|qq<|qj fun K hK=>qm ?_;refine qm ?_;refine aa.gu (qs:=[(0,_),(1,_)]) rfl rfl rfl rfl ⟨rfl,(ev rfl),(by rfl),rfl,(ev rfl),(by rfl),trivial⟩ (by intro q hq;simp only[List.mem_cons,List.not_mem_nil,or_false] at hq;rcases hq with rfl|rfl<;>exact⟨rfl,by exact Nat.le_of_ble_eq_true rfl⟩) (by show List.foldl _ [_,_] _=_;dsimp only[List.foldl_cons,List.foldl_nil,u2,u1]<;>rfl) (ab rfl _) ?_;refine qh (s:=2) (vs:=[_]) hH fun k39 st aaV hH=>?_;refine qm ?_;refine qm ?_;refine qe hK ?_;have hH:Has N S2 st (.aM (.win k39 0 0 1 2) 2 (([((g.1:Nat),(g.1:Nat))]:List Rg).map ay)::.box k (.mem 0 false (aX gs bK {s with i:=s.i+1}))::.aM bK 1 (a8.map aq)::H):=hH;have hfz:=o_ hH au (L:=s0.bs.length) (n:=15) (fun k hk=>by simp only[D.ref] at hk;rw[←cG];omega) (by decide)
   have Xn:bw st s0.bs.length true 16 (sI [.win k39 0 0 1 2,.bool true])=some (.tup [bT [(((g.1:Nat):Int),((g.1:Nat):Int))],.bool true]):=by
    show(ir (bw st s0.bs.length true 15) [.win k39 0 0 1 2,.bool true]).map D.tup=_;simp only[ir,BN,hfz];rfl
   refine ag.ret ⟨rx,_,_,_,rfl,ak Xn,⟨_,_,{s with i:=s.i+1},rfl,.inl ⟨rfl,rfl,?_,?_,.inr ⟨_,rfl,by simp⟩,.inr ⟨he,?_,_,rfl,?_,?_⟩⟩,cQ.aA cG (hH.drop 1)⟩⟩
   ·show s.i≤s.i+1;omega
   ·show s.i+1≤_;omega
   ·show s.i<s.i+1;omega
   ·simp
   ·simp
def U2 (gs:List (Nat×Nat)) (s s':fz) (d:D):Prop:=
 s'.o=s.o∧s'.g=s.g∧s.i≤s'.i∧s'.i≤gs.length∧∃a:List Rg,d=bT a∧a.length≤8∧(s'.e≠0∨s'.e=0∧s.i<s'.i)
theorem g_ {gs:List (Nat×Nat)} {s:fz} {r:Int}:(dq gs s r).o=s.o∧(dq gs s r).g=s.g∧(dq gs s r).e=s.e∧s.i≤(dq gs s r).i∧(s.i≤gs.length→(dq gs s r).i≤gs.length):=by
 unfold dq
 split
 ·rename_i h;have:=rC h;exact⟨rfl,rfl,rfl,by show s.i≤s.i+1;omega,fun _=>by show s.i+1≤_;omega⟩
 ·exact⟨rfl,rfl,rfl,Nat.le_refl _,fun h=>h⟩
theorem Lb {N k:Nat} {S s0:St} {H:List bC} {gs:List (Nat×Nat)} {bK:D} {a8:List Int} {s:fz} (bd:lF gs a8) (he:s.e=0) (hi:s.i<gs.length) (hH:Has N S s0 (.box k (.mem 0 false (aX gs bK s))::.aM bK 1 (a8.map aq)::H)):
  ∃d ah,Ev pv 181 [.ptr k 0 0] s0 d ah∧∃(s':fz),U2 gs s s' d∧Has N S ah (.box k (.mem 0 false (aX gs bK s'))::.aM bK 1 (a8.map aq)::H):=by
 have pR:=bd.gl;have fU:=bd.pl;refine Ev.iC rfl Ug rfl rfl rfl ?_;dsimp only[u3,u4,List.length,Nat.reduceSub,Nat.reduceAdd,w1,w2];have cQ:=hH;have hH:=hH.cV;have cG:(ai .rw s0).bs=s0.bs:=rfl;generalize ai .rw s0=S2 at*;have DT:Arg N S2 2 (cB gs) (gs.map a7):=Arg.pure (fun st=>dt st gs);refine qq<|qj fun K hK=>qm ?_;refine qe hK<|qq<|qj fun K hK=>qm ?_;refine qg ?_;refine qp (o:=2) ?_;refine ql hH au ?_;refine qm ?_;refine qe hK<|qq<|qj fun K hK=>qm ?_;obtain⟨_,st,aN,d1,b,s1,rfl,hP,hH⟩:=zX (s:=s) bd he hi hH;refine qv aN ?_;refine qm ?_;refine qg ?_;refine qg ?_;refine qm ?_;refine qm ?_;refine qe hK<|qq<|qq<|qj fun K hK=>qm ?_;refine qg ?_;refine qp (o:=5) ?_;refine ql hH au ?_;refine qg ?_;refine qe hK ?_
 rcases hP with hP|⟨e1,rfl,rfl⟩
 ·obtain⟨p1,p2,p3,p4,p5,p6⟩:=hP
  rcases p6 with p6|⟨p6,p7,a,rfl,p8,p9⟩
  ·refine qD rfl (by simp[p6]) ?_;refine qq<|qj fun K hK=>qm ?_;refine qe hK<|ag.ret ⟨rx,_,_,_,rfl,ak (rfl),?_⟩;exact⟨s1,⟨p1,p2,p3,p4,[],rfl,by simp,.inl p6⟩,cQ.aA cG hH⟩
  ·obtain⟨q,a',rfl⟩:∃q a',a=q::a':=List.exists_cons_of_ne_nil p9;refine qE rfl (by simp[p6]) ?_;refine ag.skip<|qq<|qq<|qj fun K hK=>qm ?_;refine aa.go (d:=.bool false) (st1:=_) rfl rfl rfl (ab rfl _) ?_;refine qe hK<|qC ?_;refine ag.skip ?_;obtain⟨k1,k2,k3,k4,k5⟩:=g_ (gs:=gs) (s:=s1) (r:=45);have k5:=k5 p4;refine qq<|qq<|qj fun K hK=>qm ?_;obtain⟨_,st,aN,rfl,hH⟩:=eB (s:=s1) (by omega) 45 hH;refine qv aN ?_;refine qg ?_;refine qe hK ?_;generalize dq gs s1 45=s2 at*
   cases hb:lh gs s1.i 45 with
   |false=>
    refine qB ?_;refine qq<|qj fun K hK=>qm ?_;refine qm ?_;refine qe hK<|ag.ret ⟨rx,_,_,_,rfl,ak (rfl),?_⟩;exact⟨s2,⟨k1.trans p1,k2.trans p2,by omega,k5,q::a',rfl,p8,.inr ⟨k3.trans p6,by omega⟩⟩,cQ.aA cG hH⟩
   |true=>
    refine qC ?_;refine ag.skip<|qq<|qj fun K hK=>qm ?_;refine qe hK<|qq<|qj fun K hK=>qm ?_;refine qe hK<|qq<|qq<|qj fun K hK=>qm ?_;refine qg ?_;refine qp (o:=2) ?_;refine ql hH au ?_;refine qm ?_;refine qg ?_;refine qp (o:=0) ?_;refine ql hH au ?_;refine qn ?_;simp only[List.length_map];refine qg ?_;refine qe hK<|ag.merge (fun fr st=>∃(d2:D) (two:Bool) (s3:fz) (tmp:List (Nat×D)),fr=⟨8,[.ptr k 0 0,yD fr 1,yD fr 2,.int .i64 (s.i:Nat),bT (q::a'),.bool b,d2,.bool two],tmp⟩∧Has N S2 st (.box k (.mem 0 false (aX gs bK s3))::.aM bK 1 (a8.map aq)::H)∧(s3.o=s.o)∧(s3.g=s.g)∧(s2.i≤s3.i)∧(s3.i≤gs.length)∧(s3.e≠0∨s3.e=0∧(two=false∨∃a2:List Rg,d2=bT a2∧a2≠[]))) ?_ ?_
    ·refine ag.cond (by rfl) (fun hlt=>?_) (fun hlt=>?_)<;>try simp only[decide_eq_true_eq,decide_eq_false_iff_not] at hlt
     ·refine qj fun K hK=>qm ?_;obtain⟨_,st,aN,d2,two,s3,rfl,hP2,hH⟩:=zX (s:=s2) bd (k3.trans p6) (by omega) hH;refine qv aN ?_;refine qm ?_;refine qg ?_;refine qg ?_;refine qm ?_;refine qm ?_;refine qe hK ?_
      rcases hP2 with⟨r1,r2,r3,r4,r5,r6⟩|⟨e1,rfl,rfl⟩
      ·refine⟨d2,two,s3,_,rfl,hH,r1.trans (k1.trans p1),r2.trans (k2.trans p2),r3,r4,?_⟩
       rcases r6 with r6|⟨r6,r7,a2,rfl,r8,r9⟩
       ·exact .inl r6
       ·refine .inr ⟨r6,?_⟩
        cases two with
        |false=>exact .inl rfl
        |true=>exact .inr ⟨a2,rfl,r9⟩
      ·exact⟨.nul,false,s3,_,rfl,hH,by rw[e1];exact k1.trans p1,by rw[e1];exact k2.trans p2,by rw[e1];exact Nat.le_refl _,by rw[e1];exact k5,.inr ⟨by rw[e1];exact k3.trans p6,.inl rfl⟩⟩
     ·refine ag.skip ?_;exact⟨.nul,false,s2,_,rfl,hH,k1.trans p1,k2.trans p2,Nat.le_refl _,k5,.inr ⟨k3.trans p6,.inl rfl⟩⟩
    ·rintro fr st ⟨d2,two,s3,tmp,hfr,hH,h1,h2,h3,h4,h5⟩;rw[hfr];clear hfr;generalize yD fr=ee;clear fr
     rcases h5 with h5|⟨h5,h6⟩
     ·have bN:(s3.e==0)=false:=by simpa using h5
      refine qq<|qq<|qj fun K hK=>qm ?_;refine qg ?_;refine qp (o:=5) ?_;refine ql hH au ?_;refine qg ?_;refine qm ?_;refine qs ?_ (hg:=wn bN);refine qs ?_ (hg:=wn bN);refine qs ?_ (hg:=wn bN);refine qs ?_;refine qs ?_;refine qs ?_ (hg:=wn bN);refine qs ?_ (hg:=wn bN);refine qs ?_;refine qs ?_;refine qs ?_;refine qs ?_;refine qs ?_;refine qs ?_;refine qs ?_;refine qs ?_;refine qs ?_;refine qs ?_ (hg:=wn bN);refine qu bN ?_;refine qe hK<|qC ?_;refine ag.skip<|qq<|qq<|qj fun K hK=>qm ?_;refine qg ?_;refine qp (o:=5) ?_;refine ql hH au ?_;refine qg ?_;refine qe hK<|qD rfl (by simp[h5]) ?_;refine qq<|qj fun K hK=>qm ?_;refine qe hK<|ag.ret ⟨rx,_,_,_,rfl,ak (rfl),?_⟩;exact⟨s3,⟨h1,h2,by omega,h4,[],rfl,by simp,.inl h5⟩,cQ.aA cG hH⟩
     ·have bN:(s3.e==0)=true:=by simpa using h5
      cases b with
      |false=>
       have dF:(!false)=true:=rfl;refine qq<|qq<|qj fun K hK=>qm ?_;refine qg ?_;refine qp (o:=5) ?_;refine ql hH au ?_;refine qg ?_;refine qm ?_;refine qm ?_ (hg:=wi bN);refine qg ?_ (hg:=wi bN);refine qm ?_ (hg:=wi bN);refine qs ?_ (hg:=wn dF);refine qs ?_ (hg:=wn dF);refine aa.dU (aC rfl rfl rfl bN) rfl dF (ab rfl _) ?_;refine qm ?_ (hg:=wi bN);refine qs ?_;refine qs ?_;refine qs ?_;refine qs ?_;refine qs ?_;refine qs ?_;refine qs ?_;refine qs ?_;refine qs ?_;refine qg ?_ (hg:=wi bN);refine qt bN ?_;refine qe hK<|qB ?_;refine qj fun K hK=>qm ?_;refine qm ?_;obtain⟨_,st,aN,rfl,hH⟩:=du (s:=s3) s.i 4 (by omega) hH;refine qv aN ?_;refine qe hK ?_;obtain⟨w1,w2,w3,w4⟩:=dG (a8:=a8) (s:=s3) (i:=s.i) (e:=4) h5 (by decide);generalize jr a8 s3 s.i 4=s4 at*;refine qq<|qq<|qj fun K hK=>qm ?_;refine qg ?_;refine qp (o:=5) ?_;refine ql hH au ?_;refine qg ?_;refine qe hK<|qD rfl (by simp[w1]) ?_;refine qq<|qj fun K hK=>qm ?_;refine qe hK<|ag.ret ⟨rx,_,_,_,rfl,ak (rfl),?_⟩;exact⟨s4,⟨w3.trans h1,w4.trans h2,by omega,by omega,[],rfl,by simp,.inl w1⟩,cQ.aA cG hH⟩
      |true=>
       have dF:(!true)=false:=rfl
       cases two with
       |false=>
        have dE:(!false)=true:=rfl;refine qq<|qq<|qj fun K hK=>qm ?_;refine qg ?_;refine qp (o:=5) ?_;refine ql hH au ?_;refine qg ?_;refine qm ?_;refine qm ?_ (hg:=wi bN);refine qg ?_ (hg:=wi bN);refine qm ?_ (hg:=wi bN);refine qm ?_ (hg:=wi dF);refine qg ?_ (hg:=wi dF);refine aa.dr (aC rfl rfl rfl bN) rfl dF (ab rfl _) ?_;refine qm ?_ (hg:=wi bN);refine qs ?_ (hg:=wn dE);refine qs ?_ (hg:=wn dE);refine qs ?_ (hg:=wn dE);refine qs ?_ (hg:=wn dE);refine qs ?_ (hg:=wn dE);refine qs ?_ (hg:=wn dE);refine qs ?_ (hg:=wn dE);refine qs ?_ (hg:=wn dE);refine qs ?_ (hg:=wn dE);refine aa.dU (aC rfl rfl rfl bN) rfl dE (ab rfl _) ?_;refine qt bN ?_;refine qe hK<|qB ?_;refine qj fun K hK=>qm ?_;refine qm ?_;obtain⟨_,st,aN,rfl,hH⟩:=du (s:=s3) s.i 4 (by omega) hH;refine qv aN ?_;refine qe hK ?_;obtain⟨w1,w2,w3,w4⟩:=dG (a8:=a8) (s:=s3) (i:=s.i) (e:=4) h5 (by decide);generalize jr a8 s3 s.i 4=s4 at*;refine qq<|qq<|qj fun K hK=>qm ?_;refine qg ?_;refine qp (o:=5) ?_;refine ql hH au ?_;refine qg ?_;refine qe hK<|qD rfl (by simp[w1]) ?_;refine qq<|qj fun K hK=>qm ?_;refine qe hK<|ag.ret ⟨rx,_,_,_,rfl,ak (rfl),?_⟩;exact⟨s4,⟨w3.trans h1,w4.trans h2,by omega,by omega,[],rfl,by simp,.inl w1⟩,cQ.aA cG hH⟩
       |true=>
        have dE:(!true)=false:=rfl
        obtain⟨a2,rfl,h7⟩:∃a2:List Rg,d2=bT a2∧a2≠[]:=by
         rcases h6 with h6|h6
         ·cases h6
         ·exact h6
        obtain⟨q2,Z_,rfl⟩:∃q a',a2=q::a':=List.exists_cons_of_ne_nil h7;have SX:=(jK (q::a')).arg N S2;have Qs:=(jK (q2::Z_)).arg N S2;have SY:((q::a').map ay)[0]?=some (ay q):=rfl;have iv:((q2::Z_).map ay)[0]?=some (ay q2):=rfl;refine qq<|qq<|qj fun K hK=>qm ?_;refine qg ?_;refine qp (o:=5) ?_;refine ql hH au ?_;refine qg ?_;refine qm ?_;refine qm ?_ (hg:=wi bN);refine qg ?_ (hg:=wi bN);refine qm ?_ (hg:=wi bN);refine qm ?_ (hg:=wi dF);refine qg ?_ (hg:=wi dF);refine aa.dr (aC rfl rfl rfl bN) rfl dF (ab rfl _) ?_;refine qm ?_ (hg:=wi bN);refine qm ?_ (hg:=wi dE);refine qr (fun p60 aau=>?_) (hg:=wi dE);refine qf (fo:=0) (fun p61 aat=>?_) (hg:=wi dE);refine qR ?_ (hg:=wi dE);refine qm ?_ (hg:=wi dE);refine qr (fun p64 WA=>?_) (hg:=wi dE);refine qf (fo:=0) (fun p65 aar=>?_) (hg:=wi dE);refine qR ?_ (hg:=wi dE);refine qg ?_ (hg:=wi dE);refine aa.dr (aC rfl rfl rfl bN) rfl dE (ab rfl _) ?_;refine qt bN ?_;refine qe hK ?_;refine ag.cond (by rfl) (fun hgt=>?_) (fun hgt=>?_)<;>try simp only[decide_eq_true_eq,decide_eq_false_iff_not] at hgt
        ·refine qj fun K hK=>qm ?_;refine qm ?_;obtain⟨_,st,aN,rfl,hH⟩:=du (s:=s3) s.i 4 (by omega) hH;refine qv aN ?_;refine qe hK ?_;obtain⟨w1,w2,w3,w4⟩:=dG (a8:=a8) (s:=s3) (i:=s.i) (e:=4) h5 (by decide);generalize jr a8 s3 s.i 4=s4 at*;refine qq<|qq<|qj fun K hK=>qm ?_;refine qg ?_;refine qp (o:=5) ?_;refine ql hH au ?_;refine qg ?_;refine qe hK<|qD rfl (by simp[w1]) ?_;refine qq<|qj fun K hK=>qm ?_;refine qe hK<|ag.ret ⟨rx,_,_,_,rfl,ak (rfl),?_⟩;exact⟨s4,⟨w3.trans h1,w4.trans h2,by omega,by omega,[],rfl,by simp,.inl w1⟩,cQ.aA cG hH⟩
        ·refine ag.skip<|qq<|qq<|qj fun K hK=>qm ?_;refine qg ?_;refine qp (o:=5) ?_;refine ql hH au ?_;refine qg ?_;refine qe hK<|qE rfl (by simp[h5]) ?_;refine ag.skip<|qq<|qj fun K hK=>qm ?_;refine qr fun Y_ S4=>?_;refine qf (fo:=0) fun p80 Wy=>?_;refine qR ?_;refine qm ?_;refine qr fun p83 aao=>?_;refine qf (fo:=0) fun p84 aan=>?_;refine qR ?_;refine aa.gu (qs:=[(0,_),(1,_)]) rfl rfl rfl rfl ⟨rfl,(ev rfl),(by rfl),rfl,(ev rfl),(by rfl),trivial⟩ (by intro q hq;simp only[List.mem_cons,List.not_mem_nil,or_false] at hq;rcases hq with rfl|rfl<;>exact⟨rfl,by exact Nat.le_of_ble_eq_true rfl⟩) (by show List.foldl _ [_,_] _=_;dsimp only[List.foldl_cons,List.foldl_nil,u2,u1]<;>rfl) (ab rfl _) ?_;refine qh (s:=2) (vs:=[_]) hH fun k87 st aaI hH=>?_;dsimp only[u2,u1,u3,u4,setMany,u5,u6,D.cells,Nat.reduceAdd,aX,a7,aq,ay] at hH;refine qm ?_;refine qe hK ?_;have hH:Has N S2 st (.aM (.win k87 0 0 1 2) 2 (([(q.1,q2.1)]:List Rg).map ay)::.box k (.mem 0 false (aX gs bK s3))::.aM bK 1 (a8.map aq)::H):=hH;have hfz:=o_ hH au (L:=s0.bs.length) (n:=16) (fun k hk=>by simp only[D.ref] at hk;rw[←cG];omega) (by decide);refine ag.ret ⟨rx,_,_,_,rfl,ak hfz,⟨s3,⟨h1,h2,by omega,h4,[(q.1,q2.1)],rfl,by simp,.inr ⟨h5,by omega⟩⟩,cQ.aA cG (hH.drop 1)⟩⟩
 ·have e2:s1.e=0:=by rw[e1];exact he
  have e3:s1.i=s.i∧s1.o=s.o∧s1.g=s.g:=by rw[e1];exact⟨rfl,rfl,rfl⟩
  clear e1;refine qE rfl (by simp[e2]) ?_;refine ag.skip<|qq<|qq<|qj fun K hK=>qm ?_;refine aa.go (d:=.bool true) (st1:=_) rfl rfl rfl (ab rfl _) ?_;refine qe hK<|qB ?_;refine qq<|qj fun K hK=>qm ?_;refine qm ?_;obtain⟨_,st,aN,rfl,hH⟩:=du (s:=s1) s.i 4 (by omega) hH;refine qv aN ?_;refine qe hK ?_;obtain⟨w1,w2,w3,w4⟩:=dG (a8:=a8) (s:=s1) (i:=s.i) (e:=4) e2 (by decide);refine qq<|qj fun K hK=>qm ?_;refine qe hK<|ag.ret ⟨rx,_,_,_,rfl,ak (rfl),?_⟩;exact⟨_,⟨by omega,by omega,by omega,by omega,[],rfl,by simp,.inl w1⟩,cQ.aA cG hH⟩
end Go.Proofs.YtbdnabmmlbiomaaGreat
namespace Go.Proofs.YtbdnabmmlbiomaaGreat
open Go.V Go
def yC (fr:Go.V.Fr) (k:Nat):Go.V.D:=Go.V.nth .bD fr.loc k
def vB (n:dW):Prop:=n.rd=bT n.rs∧n.rs.length≤1048576∧n.kids≤1048576
def uH (op mn mx:Int) (lz:Bool) (cap kids:Int) (a:List Rg):dW:=⟨op,bT a,a,mn,mx,lz,cap,kids⟩
def vt (l:List dW):D:=.sl ((l.map bt).map (kH 7))
theorem KZ (l:List dW):∀e∈l.map bt,e.length=7:=by
 intro e he;obtain⟨x,_,rfl⟩:=List.mem_map.1 he;rfl
theorem oh {l:List dW} (h:∀n∈l,vB n):∀e∈l.map bt,∀d∈e,cy d=true:=by
 intro e he d hd;obtain⟨n,hn,rfl⟩:=List.mem_map.1 he;have hr:=(h n hn).1;simp only[bt,hr,List.mem_cons,List.not_mem_nil,or_false] at hd
 rcases hd with rfl|rfl|rfl|rfl|rfl|rfl|rfl<;>rfl
theorem tn {l:List dW} (h:∀n∈l,vB n):eH (vt l) 7 (l.map bt):=eH.frozen (KZ l) (oh h)
theorem Sg {l:List dW} (h:∀n∈l,vB n) (hl:l.length≤1048576):(⟨vt l,l⟩:Nl).ok:=by
 refine⟨tn h,fun n hn=>?_,hl⟩;obtain⟨h1,h2,h3⟩:=h n hn;exact⟨by rw[h1];exact jK _,h2,by omega⟩
theorem uE {l:List dW} (h:∀n∈l,vB n):(l.map bt).map (·.map py)=l.map bt:=by
 rw[List.map_map];refine List.map_congr_left fun n hn=>?_;have hr:=(h n hn).1;show(bt n).map py=bt n;unfold bt;rw[hr];rfl
theorem rj {l:List dW} (h:∀n∈l,vB n):∀e∈l.map bt,∀d∈e,oU d=true:=by
 intro e he d hd;have:=oh h e he d hd
 cases d<;>first|rfl|exact this
theorem jj {N L j:Nat} {S st:St} {H:List bC} {x:D} {es:List (List D)} {l:List dW} (hH:Has N S st H) (hj:H[j]?=some (.aM x 7 es)) (he:es.map (·.map py)=l.map bt) (ht:∀e∈es,∀d∈e,oU d=true) (hx:∀k,x.ref=k+1→L≤k) {n:Nat} (hn:3≤n):bw st L false n x=some (vt l):=by
 rw[hH.Ay hj hx ht hn,he];rfl
theorem jk {N L j:Nat} {S st:St} {H:List bC} {x w:D} {op mn mx cap kids:Int} {lz:Bool} {a:List Rg} (hH:Has N S st H) (hj:H[j]?=some (.aM x 7 [[.int .i64 op,w,.int .i64 mn,.int .i64 mx,.bool lz,.int .i64 cap,.int .i64 kids]])) (hw:w=bT a∨w=.nul∧a=[]) (hx:∀k,x.ref=k+1→L≤k):bw st L false 16 x=some (vt [uH op mn mx lz cap kids a]):=by
 refine jj hH hj ?_ (fun e he d hd=>?_) hx (by decide)
 ·rcases hw with rfl|⟨rfl,rfl⟩<;>rfl
 ·simp only[List.mem_cons,List.not_mem_nil,or_false] at he;subst he;simp only[List.mem_cons,List.not_mem_nil,or_false] at hd
  rcases hw with rfl|⟨rfl,rfl⟩<;>rcases hd with rfl|rfl|rfl|rfl|rfl|rfl|rfl<;>rfl
theorem Dl {op mn mx cap kids:Int} {lz:Bool} {a:List Rg} (h:a.length≤1048576) (hk:kids≤1048576):∀n∈[uH op mn mx lz cap kids a],vB n:=by
 intro n hn;simp only[List.mem_cons,List.not_mem_nil,or_false] at hn;subst hn;exact⟨rfl,h,hk⟩
def vn (gs:List (Nat×Nat)) (s s':fz) (d:D):Prop:=
 s'.o=s.o∧s'.g≤4∧s.i≤s'.i∧s'.i≤gs.length∧∃l:List dW,d=vt l∧(∀n∈l,vB n)∧l.length≤4*(s'.i-s.i)+1
def jE (gs:List (Nat×Nat)) (s s':fz) (d:D) (c:Nat):Prop:=
 s'.o=s.o∧s'.g≤4∧s.i≤s'.i∧s'.i≤gs.length∧∃l:List dW,d=vt l∧(∀n∈l,vB n)∧l.length≤4*(s'.i-s.i)+1∧(s'.e≠0∨s'.e=0∧l.length+c≤4*(s'.i-s.i))
theorem gF {gs:List (Nat×Nat)} {s s':fz} {c:Nat} (h1:s'.o=s.o) (h2:s'.g≤4) (h3:s.i≤s'.i) (h4:s'.i≤gs.length) (h5:s'.e≠0):jE gs s s' (.sl []) c:=
 ⟨h1,h2,h3,h4,[],rfl,fun n hn=>(by cases hn),by simp,.inl h5⟩
theorem Ep {N k:Nat} {S s0:St} {H:List bC} {gs:List (Nat×Nat)} {bK:D} {a8:List Int} {s:fz} (bd:lF gs a8) (he:s.e=0) (hi:s.i<gs.length) (hg:s.g≤4) (hH:Has N S s0 (.box k (.mem 0 false (aX gs bK s))::.aM bK 1 (a8.map aq)::H)):
  ∃d ah,Ev pv 168 [.ptr k 0 0] s0 d ah∧∃(s':fz),jE gs s s' d 2∧Has N S ah (.box k (.mem 0 false (aX gs bK s'))::.aM bK 1 (a8.map aq)::H):=by
 have pR:=bd.gl;have fU:=bd.pl;refine Ev.iC rfl Um rfl rfl rfl ?_;dsimp only[u3,u4,List.length,Nat.reduceSub,Nat.reduceAdd,w1,w2];have cQ:=hH;have hH:=hH.cV;have cG:(ai .rw s0).bs=s0.bs:=rfl;generalize ai .rw s0=S2 at*;have DT:Arg N S2 2 (cB gs) (gs.map a7):=Arg.pure (fun st=>dt st gs);refine qq<|qj fun K hK=>qm ?_;refine qe hK<|qq<|qj fun K hK=>qm ?_;refine qg ?_;refine qp (o:=2) ?_;refine ql hH au ?_;refine qm ?_;refine qe hK<|qq<|qj fun K hK=>qm ?_;refine qg ?_;refine qp (o:=2) ?_;refine ql hH au ?_;refine qA ?_;refine qg ?_;refine qp (o:=2) ?_;refine qT hH au fun st hH=>?_;dsimp only[u2,u1,u3,u4,setMany,u5,u6,D.cells,Nat.reduceAdd,aX,a7,aq,ay] at hH;refine qe hK ?_;have hH:Has N S2 st (.box k (.mem 0 false (aX gs bK {s with i:=s.i+1}))::.aM bK 1 (a8.map aq)::H):=hH;obtain⟨k1,k2,k3,k4,k5⟩:=g_ (gs:=gs) (s:={s with i:=s.i+1}) (r:=94);have k5:=k5 (by show s.i+1≤_;omega);simp only at k1 k2 k3 k4;refine qq<|qj fun K hK=>qm ?_;obtain⟨_,st,aN,rfl,hH⟩:=eB (s:={s with i:=s.i+1}) (by omega) 94 hH;refine qv aN ?_;refine qm ?_;refine qe hK ?_;generalize dq gs {s with i:=s.i+1} 94=s1 at*;generalize lh gs ({s with i:=s.i+1}:fz).i 94=nt at*;refine qq<|qj fun K hK=>qm ?_;refine qe hK<|qq<|qj fun K hK=>qm ?_;refine qe hK ?_
 have hH:Has N S2 st (.box k (.mem 0 false (aX gs bK s1))::.aM bK 1 (a8.map aq)::.aM .nul 2 (([]:List Rg).map ay)::H):=((hH.er 2).front aS|>.front ba|>fun h=>(h.front aS))
 refine qq<|ag.block<|ag.loop (fun mm fr st=>∃(s1:fz) (ld:D) (lr:List Rg) (nn:Bool),fr.clean=⟨7,[.ptr k 0 0,yC fr 1,yC fr 2,.int .i64 (s.i:Nat),.bool nt,ld,.bool nn],[]⟩∧Has N S2 st (.box k (.mem 0 false (aX gs bK s1))::.aM bK 1 (a8.map aq)::.aM ld 2 (lr.map ay)::H)∧(s1.o=s.o)∧(s1.g=s.g)∧(s.i<s1.i)∧(s1.i≤gs.length)∧(lr.length≤8*s1.i+8)∧(s1.e=0→lr.length≤8*s1.i)∧(gs.length-s1.i+(if s1.e=0 then 1 else 0)≤mm)) (gs.length+1) ?_ ?_
 ·exact⟨s1,.nul,[],true,rfl,hH,k1,k2,by omega,k5,by simp,fun _=>by simp,by split<;>omega⟩
 rintro mm fr st ⟨s1,ld,lr,nn,hfr,hH,h1,h2,h3,h4,h5,h6,xO⟩;rw[hfr];clear hfr;generalize yC fr=ee;clear fr
 by_cases mC:s1.e=0
 ·rw[if_pos mC] at xO;have h6:=h6 mC;have bN:(s1.e==0)=true:=by simpa using mC
  refine qq<|qq<|qj fun K hK=>qm ?_;refine qg ?_;refine qp (o:=5) ?_;refine ql hH au ?_;refine qg ?_;refine qm ?_;refine qm ?_ (hg:=wi bN);obtain⟨_,st,aN,rfl,hH⟩:=o7 (s:=s1) (by omega) 93 hH;refine qv aN ?_ (hg:=wi bN);refine qg ?_ (hg:=wi bN);refine qt bN ?_;refine qe hK ?_
  cases hb:lh gs s1.i 93 with
  |true=>
   have hlt:=rC hb;refine qC ?_;refine ag.exit<|qq<|qq<|qj fun K hK=>qm ?_;refine qg ?_;refine qp (o:=5) ?_;refine ql hH au ?_;refine qg ?_;refine qe hK<|qE rfl (by simp[mC]) ?_;refine ag.skip<|qq<|qq<|qj fun K hK=>qm ?_;refine qe hK ?_
   cases nn with
   |true=>
    refine qB ?_;refine qq<|qj fun K hK=>qm ?_;refine qm ?_;obtain⟨_,st,aN,rfl,hH⟩:=du (s:=s1) s.i 4 (by omega) hH;refine qv aN ?_;refine qm ?_;refine qe hK ?_;obtain⟨w1,w2,w3,w4⟩:=dG (a8:=a8) (s:=s1) (i:=s.i) (e:=4) mC (by decide);refine ag.ret ⟨rx,_,_,_,rfl,ak (rfl),?_⟩;exact⟨_,gF (by omega) (by omega) (by omega) (by omega) w1,cQ.aA cG (hH.erase 2)⟩
   |false=>
    refine qC ?_;refine ag.skip<|qq<|qj fun K hK=>qm ?_;refine qg ?_;refine qp (o:=2) ?_;refine ql hH au ?_;refine qA ?_;refine qg ?_;refine qp (o:=2) ?_;refine qT hH au fun st hH=>?_;dsimp only[u2,u1,u3,u4,setMany,u5,u6,D.cells,Nat.reduceAdd,aX,a7,aq,ay] at hH;refine qe hK<|qq<|qj fun K hK=>qm ?_;obtain⟨aN,Bx,_⟩:=mS (l:=lr) (hH.rows ba) (by omega);refine qv aN ?_;refine qm ?_;refine qe hK ?_;generalize k_ lr=m at*;refine qq<|qq<|qj fun K hK=>qm ?_;refine qe hK ?_
    have fO:∀(st:St) (a:List Rg) (k70:Nat),a.length≤1048576→S2.bs.length≤k70→Has N S2 st (.aM (.win k70 0 0 1 7) 7 [[.int .i64 2,bT a,.int .i64 0,.int .i64 0,.bool false,.int .i64 0,.int .i64 0]]::.box k (.mem 0 false (aX gs bK {s1 with i:=s1.i+1}))::.aM bK 1 (a8.map aq)::.aM ld 2 (lr.map ay)::H)→
      ∃d ah,cX .rw false s0 st (.win k70 0 0 1 7)=some (d,ah)∧∃(s':fz),jE gs s s' d 2∧Has N S ah (.box k (.mem 0 false (aX gs bK s'))::.aM bK 1 (a8.map aq)::H):=by
     intro st a k70 ha hk hH;have hfz:=jk hH au (L:=s0.bs.length) (.inl rfl) (fun k hk=>by simp only[D.ref] at hk;rw[←cG];omega);exact⟨_,_,ak hfz,{s1 with i:=s1.i+1},⟨h1,by show s1.g≤4;omega,by show s.i≤s1.i+1;omega,by show s1.i+1≤_;omega,_,rfl,Dl ha (by omega),by simp,.inr ⟨mC,by show 1+2≤4*(s1.i+1-s.i);omega⟩⟩,cQ.aA cG ((hH.drop 1).erase 2)⟩
    cases nt with
    |true=>
     refine qB ?_;refine qj fun K hK=>qm ?_;obtain⟨_,aN,a,rfl,hla⟩:=Dh (l:=m) (f_ _ _) (by omega);refine qv aN ?_;refine qm ?_;refine qe hK<|qq<|qj fun K hK=>qm ?_;refine aa.gu (qs:=[(0,_),(1,_)]) rfl rfl rfl rfl ⟨rfl,(ev rfl),(by rfl),rfl,(ev rfl),(by rfl),trivial⟩ (by intro q hq;simp only[List.mem_cons,List.not_mem_nil,or_false] at hq;rcases hq with rfl|rfl<;>exact⟨rfl,by exact Nat.le_of_ble_eq_true rfl⟩) (by show List.foldl _ [_,_,_,_,_,_,_] _=_;dsimp only[List.foldl_cons,List.foldl_nil,u2,u1]<;>rfl) (ab rfl _) ?_;refine qh (s:=7) (vs:=[_]) hH fun k70 st QI hH=>?_;refine qm ?_;refine qe hK ?_;obtain⟨d',ah,sN,ib⟩:=fO _ a k70 (by omega) QI hH;refine ag.ret ⟨rx,_,d',ah,rfl,sN,ib⟩
    |false=>
     refine qC ?_;refine ag.skip<|qq<|qj fun K hK=>qm ?_;refine aa.gu (qs:=[(0,_),(1,_)]) rfl rfl rfl rfl ⟨rfl,(ev rfl),(by rfl),rfl,(ev rfl),(by rfl),trivial⟩ (by intro q hq;simp only[List.mem_cons,List.not_mem_nil,or_false] at hq;rcases hq with rfl|rfl<;>exact⟨rfl,by exact Nat.le_of_ble_eq_true rfl⟩) (by show List.foldl _ [_,_,_,_,_,_,_] _=_;dsimp only[List.foldl_cons,List.foldl_nil,u2,u1]<;>rfl) (ab rfl _) ?_;refine qh (s:=7) (vs:=[_]) hH fun k70 st QI hH=>?_;refine qm ?_;refine qe hK ?_;obtain⟨d',ah,sN,ib⟩:=fO _ m k70 (by omega) QI hH;refine ag.ret ⟨rx,_,d',ah,rfl,sN,ib⟩
  |false=>
   refine qB ?_;refine ag.skip<|ag.block<|qq<|qq<|qj fun K hK=>qm ?_;refine qg ?_;refine qp (o:=2) ?_;refine ql hH au ?_;refine qm ?_;refine qg ?_;refine qp (o:=0) ?_;refine ql hH au ?_;refine qn ?_;simp only[List.length_map];refine qg ?_;refine qe hK ?_;refine ag.cond (by rfl) (fun hge=>?_) (fun hge=>?_)<;>try simp only[decide_eq_true_eq,decide_eq_false_iff_not] at hge
   ·refine qq<|qj fun K hK=>qm ?_;refine qm ?_;obtain⟨_,st,aN,rfl,hH⟩:=du (s:=s1) s.i 4 (by omega) hH;refine qv aN ?_;refine qm ?_;refine qe hK ?_;obtain⟨w1,w2,w3,w4⟩:=dG (a8:=a8) (s:=s1) (i:=s.i) (e:=4) mC (by decide);refine ag.ret ⟨rx,_,_,_,rfl,ak (rfl),?_⟩;exact⟨_,gF (by omega) (by omega) (by omega) (by omega) w1,cQ.aA cG (hH.erase 2)⟩
   ·refine ag.skip<|qq<|qj fun K hK=>qm ?_;refine qm ?_;obtain⟨_,st,aN,s2,⟨i1,i2,i3,i4,a,rfl,i5,i6⟩,hH⟩:=Lb (s:=s1) bd mC (by omega) hH;have SX:=(jK a).arg N S2;have Ll:=yf a;refine qv aN ?_;refine aa.bP (s:=2) hH rfl (ev rfl) (ev rfl) (by exact ba) (by exact Arg.rows (by assumption) hH) rfl rfl rfl rfl rfl rfl rfl ⟨(Nat.le_of_ble_eq_true rfl),(Nat.le_of_ble_eq_true rfl)⟩ (fun _=>(ab rfl _)) (by simp only[List.length_map]<;>omega) (by exact .inr (by assumption)) (fun x46 st hH=>?_);dsimp only[u2,u1,u3,u4,setMany,u5,u6,D.cells,Nat.reduceAdd,aX,a7,aq,ay] at hH;refine qm ?_;refine qe hK<|qj fun K hK=>qm ?_;refine qe hK ?_;exact⟨mm-1,by omega,⟨s2,x46,lr++a,false,rfl,(by rw[List.map_append];exact hH),i1.trans h1,i2.trans h2,by omega,i4,by rw[List.length_append];omega,fun e=>by rw[List.length_append];omega,by split<;>omega⟩⟩
 ·have bN:(s1.e==0)=false:=by simpa using mC
  refine qq<|qq<|qj fun K hK=>qm ?_;refine qg ?_;refine qp (o:=5) ?_;refine ql hH au ?_;refine qg ?_;refine qm ?_;refine qs ?_ (hg:=wn bN);refine qs ?_ (hg:=wn bN);refine qs ?_ (hg:=wn bN);refine qu bN ?_;refine qe hK<|qC ?_;refine ag.exit<|qq<|qq<|qj fun K hK=>qm ?_;refine qg ?_;refine qp (o:=5) ?_;refine ql hH au ?_;refine qg ?_;refine qe hK<|qD rfl (by simp[mC]) ?_;refine qq<|qj fun K hK=>qm ?_;refine qe hK<|ag.ret ⟨rx,_,_,_,rfl,ak (rfl),?_⟩;exact⟨_,gF h1 (by omega) (by omega) h4 mC,cQ.aA cG (hH.erase 2)⟩
end Go.Proofs.YtbdnabmmlbiomaaGreat
namespace Go.Proofs.YtbdnabmmlbiomaaGreat
open Go.V Go
def km (fr:Go.V.Fr) (k:Nat):Go.V.D:=Go.V.nth .bD fr.loc k
def sC (gs:List (Nat×Nat)) (s s':fz):Prop:=s'.o=s.o∧s'.g=s.g∧s.i<s'.i∧s'.i≤gs.length
theorem Dd {N k:Nat} {S s0:St} {H:List bC} {gs:List (Nat×Nat)} {bK:D} {a8:List Int} {s:fz} (bd:lF gs a8) (he:s.e=0) (hi:s.i<gs.length) (hH:Has N S s0 (.box k (.mem 0 false (aX gs bK s))::.aM bK 1 (a8.map aq)::H)):
  ∃d ah,Ev pv 152 [.ptr k 0 0] s0 d ah∧∃(n1 n2:Int) (s':fz),d=.tup [.int .i64 n1,.int .i64 n2]∧sC gs s s'∧Has N S ah (.box k (.mem 0 false (aX gs bK s'))::.aM bK 1 (a8.map aq)::H):=by
 have pR:=bd.gl;have fU:=bd.pl;have hne:gs≠[]:=by rintro rfl;simp at hi
 refine Ev.iC rfl Uq rfl rfl rfl ?_;dsimp only[u3,u4,List.length,Nat.reduceSub,Nat.reduceAdd,w1,w2];have cQ:=hH;have hH:=hH.cV;have cG:(ai .rw s0).bs=s0.bs:=rfl;generalize ai .rw s0=S2 at*;refine qq<|qj fun K hK=>qm ?_;refine qm ?_;refine qe hK<|qq<|qj fun K hK=>qm ?_;refine qg ?_;refine qp (o:=2) ?_;refine ql hH au ?_;refine qm ?_;refine qe hK<|qq<|qj fun K hK=>qm ?_;refine qg ?_;refine qp (o:=2) ?_;refine ql hH au ?_;refine qA ?_;refine qg ?_;refine qp (o:=2) ?_;refine qT hH au fun st hH=>?_;dsimp only[u2,u1,u3,u4,setMany,u5,u6,D.cells,Nat.reduceAdd,aX,a7,aq,ay] at hH;refine qe hK ?_;have hH:Has N S2 st (.box k (.mem 0 false (aX gs bK {s with i:=s.i+1}))::.aM bK 1 (a8.map aq)::H):=hH
 have DY:∀(st:St) (s3:fz) (e:Int),e≠0→s3.e=0→sC gs s s3→Has N S2 st (.box k (.mem 0 false (aX gs bK s3))::.aM bK 1 (a8.map aq)::H)→∃d ah,Ev pv 100 [.ptr k 0 0,.int .i64 (s.i:Nat),.int .i64 e] st d ah∧d=.sl []∧∃s4,sC gs s s4∧Has N S2 ah (.box k (.mem 0 false (aX gs bK s4))::.aM bK 1 (a8.map aq)::H):=by
  intro st s3 e h0 h1 h2 hH;obtain⟨d,ah,aN,h4,hH⟩:=du (s:=s3) s.i e (by omega) hH;obtain⟨w1,w2,w3,w4⟩:=dG (a8:=a8) (s:=s3) (i:=s.i) (e:=e) h1 h0;exact⟨d,ah,aN,h4,_,⟨w3.trans h2.1,w4.trans h2.2.1,by rw[w2];exact h2.2.2.1,by rw[w2];exact h2.2.2.2⟩,hH⟩
 refine qq<|qj fun K hK=>qm ?_;obtain⟨_,st,aN,m,ok,mm,rfl,Bx,hmi,hH⟩:=tR (s:={s with i:=s.i+1}) pR (by show s.i+1≤_;omega) hne hH;refine qv aN ?_;refine qm ?_;refine qg ?_;refine qg ?_;refine qm ?_;refine qm ?_;refine qe hK ?_
 obtain⟨s1,pP⟩:∃s1:fz,({s with i:=s.i+1+mm}:fz)=s1:=⟨_,rfl⟩
 have Qm:s1.e=0:=by rw[←pP];exact he
 have DG:sC gs s s1:=by rw[←pP];exact⟨rfl,rfl,by show s.i<s.i+1+mm;omega,hmi⟩
 have hH:Has N S2 st (.box k (.mem 0 false (aX gs bK s1))::.aM bK 1 (a8.map aq)::H):=by rw[←pP];exact hH
 clear pP;refine qq<|qj fun K hK=>qm ?_;refine qm ?_;refine qm ?_;refine qe hK<|qq<|qq<|ag.om (fun fr st=>∃(n:List UInt8) (en:Bool) (s3:fz) (tmp:List (Nat×D)),fr=⟨14,[.ptr k 0 0,km fr 1,km fr 2,km fr 3,.int .i64 (s.i:Nat),.str m,.bool ok,.str n,.bool en,km fr 9,km fr 10,km fr 11,km fr 12,km fr 13],tmp⟩∧Has N S2 st (.box k (.mem 0 false (aX gs bK s3))::.aM bK 1 (a8.map aq)::H)∧(s3.e=0)∧(sC gs s s3)∧(n.length≤120)) ?_ ?_
 ·cases ok with
  |false=>
   have dz:false=false:=rfl;refine qj fun K hK=>qm ?_;refine qm ?_;refine qs ?_ (hg:=wn dz);refine qs ?_ (hg:=wn dz);refine qu dz ?_;refine qe hK<|qC ?_;refine ag.skip ?_;exact⟨m,false,s1,_,rfl,hH,Qm,DG,Bx⟩
  |true=>
   have dz:true=true:=rfl;obtain⟨k1,k2,k3,k4,k5⟩:=g_ (gs:=gs) (s:=s1) (r:=44);have k5:=k5 DG.2.2.2;refine qj fun K hK=>qm ?_;refine qm ?_;refine qm ?_ (hg:=wi dz);obtain⟨_,st,aN,rfl,hH⟩:=eB (s:=s1) (by omega) 44 hH;refine qv aN ?_ (hg:=wi dz);refine qt dz ?_;refine qe hK ?_;generalize dq gs s1 44=s2 at*
   have Lk:sC gs s s2:=⟨k1.trans DG.1,k2.trans DG.2.1,by have:=DG.2.2.1;omega,k5⟩
   cases hb:lh gs s1.i 44 with
   |false=>
    refine qC ?_;refine ag.skip ?_;exact⟨m,false,s2,_,rfl,hH,k3.trans Qm,Lk,Bx⟩
   |true=>
    refine qB ?_;refine qq<|qj fun K hK=>qm ?_;refine qe hK<|qq<|qj fun K hK=>qm ?_;obtain⟨_,st,aN,n,there,Zj,rfl,WZ,hni,hH⟩:=tR (s:=s2) pR k5 hne hH;refine qv aN ?_;refine qm ?_;refine qg ?_;refine qg ?_;refine qm ?_;refine qm ?_;refine qe hK<|qj fun K hK=>qm ?_;refine qg ?_;refine qm ?_;refine qe hK ?_;exact⟨n,!there,{s2 with i:=s2.i+Zj},_,rfl,hH,k3.trans Qm,⟨Lk.1,Lk.2.1,by have:=Lk.2.2.1;show s.i<s2.i+Zj;omega,hni⟩,WZ⟩
 ·rintro fr st ⟨n,en,s3,tmp,hfr,hH,h1,h2,h3⟩;rw[hfr];clear hfr;generalize km fr=ee;clear fr;obtain⟨k1,k2,k3,k4,k5⟩:=g_ (gs:=gs) (s:=s3) (r:=125);have k5:=k5 h2.2.2.2
  have Bt:sC gs s (dq gs s3 125):=⟨k1.trans h2.1,k2.trans h2.2.1,by have:=h2.2.2.1;omega,k5⟩
  have Lj:(dq gs s3 125).e=0:=k3.trans h1
  cases ok with
  |false=>
   have bz:(!false)=true:=rfl;refine qq<|qq<|qj fun K hK=>qm ?_;refine qg ?_;refine qm ?_;refine qs ?_ (hg:=wn bz);refine qs ?_ (hg:=wn bz);refine qs ?_ (hg:=wn bz);refine qt bz ?_;refine qm ?_;refine qs ?_;refine qs ?_;refine qs ?_;refine qs ?_;refine qs ?_;refine qs ?_;refine qs ?_;refine qg ?_;refine qe hK<|qB ?_;refine qq<|qj fun K hK=>qm ?_;refine qm ?_;obtain⟨_,st,aN,rfl,s4,RB,hH⟩:=DY _ s3 4 (by decide) h1 h2 hH;refine qv aN ?_;refine qe hK<|qq<|qj fun K hK=>qm ?_;refine qm ?_;refine qe hK<|ag.ret ⟨rx,_,_,_,rfl,ak (rfl),?_⟩;exact⟨_,_,s4,rfl,RB,cQ.aA cG hH⟩
  |true=>
   have bz:(!true)=false:=rfl
   cases eu:(!lh gs s3.i 125) with
   |true=>
    refine qq<|qq<|qj fun K hK=>qm ?_;refine qg ?_;refine qm ?_;refine qm ?_ (hg:=wi bz);obtain⟨_,st,aN,rfl,hH⟩:=eB (s:=s3) (by omega) 125 hH;refine qv aN ?_ (hg:=wi bz);refine qg ?_ (hg:=wi bz);refine qu bz ?_;refine qm ?_;refine qs ?_ (hg:=wn eu);refine qs ?_ (hg:=wn eu);refine qs ?_ (hg:=wn eu);refine qs ?_;refine qs ?_;refine qs ?_;refine qs ?_ (hg:=wn eu);refine qt eu ?_;refine qe hK ?_;generalize dq gs s3 125=s4 at*;refine qB ?_;refine qq<|qj fun K hK=>qm ?_;refine qm ?_;obtain⟨_,st,aN,rfl,s5,Lw,hH⟩:=DY _ s4 4 (by decide) Lj Bt hH;refine qv aN ?_;refine qe hK<|qq<|qj fun K hK=>qm ?_;refine qm ?_;refine qe hK<|ag.ret ⟨rx,_,_,_,rfl,ak (rfl),?_⟩;exact⟨_,_,s5,rfl,Lw,cQ.aA cG hH⟩
   |false=>
    have ib:True:=trivial
    cases en with
    |true=>
     have bh:(!true)=false:=rfl;refine qq<|qq<|qj fun K hK=>qm ?_;refine qg ?_;refine qm ?_;refine qm ?_ (hg:=wi bz);obtain⟨_,st,aN,rfl,hH⟩:=eB (s:=s3) (by omega) 125 hH;refine qv aN ?_ (hg:=wi bz);refine qg ?_ (hg:=wi bz);refine qu bz ?_;refine qm ?_;refine qm ?_ (hg:=wi eu);refine qg ?_ (hg:=wi eu);refine qm ?_ (hg:=wi eu);refine qs ?_ (hg:=wn bh);refine qs ?_ (hg:=wn bh);refine qs ?_ (hg:=wn bh);refine aa.dr (aC rfl rfl rfl eu) rfl bh (ab rfl _) ?_;refine qu eu ?_;refine qe hK ?_;generalize dq gs s3 125=s4 at*;refine qC ?_;refine ag.skip ?_;obtain⟨_,Ca,a1,f1,rfl⟩:=mM (s0:=st) m (by omega);refine qq<|qj fun K hK=>qm ?_;refine qv (Ca) ?_;refine qm ?_;refine qg ?_;refine qg ?_;refine qm ?_;refine qm ?_;refine qe hK<|qq<|qq<|qj fun K hK=>qm ?_;refine qe hK<|qB ?_;refine qj fun K hK=>qm ?_;refine qe hK ?_;obtain⟨_,Ak,a2,f2,rfl⟩:=mM (s0:=st) [] (by simp);refine qq<|qj fun K hK=>qm ?_;refine qv (Ak) ?_;refine qm ?_;refine qg ?_;refine qg ?_;refine qm ?_;refine qm ?_;refine qe hK<|qq<|qq<|ag.kD 78 (.bool (!f1||!f2)) [] ?_ (fun ff tmp hO=>?_)
     ·refine qm ?_;refine qg ?_;refine qm ?_;refine aa.two 75 rfl (fun bz=>?_) (fun bz=>?_)
      ·refine qs ?_ (hg:=wn bz);refine qs ?_ (hg:=wn bz);refine qt bz ?_;refine aa.nil (dv ?_ ?_)
       ·dsimp only[aO,List.foldl,nth,u2,u1]
        all_goals(first|rfl|simp)
       ·dsimp only[Fr.aE,Fr.put,Fr.clean,Fr.ev,Fr.get,nth,V.look,u1,u2,v1,v2,v3,v4,v5,v6,v7,List.length,u3,u4,Nat.reduceSub,Nat.reduceAdd,List.map]
        all_goals(simp[bz];done)
      ·refine qm ?_ (hg:=wi bz);refine qg ?_ (hg:=wi bz);refine qu bz ?_;refine aa.nil (dv ?_ ?_)
       ·dsimp only[aO,List.foldl,nth,u2,u1]
        all_goals(first|rfl|simp)
       ·dsimp only[Fr.aE,Fr.put,Fr.clean,Fr.ev,Fr.get,nth,V.look,u1,u2,v1,v2,v3,v4,v5,v6,v7,List.length,u3,u4,Nat.reduceSub,Nat.reduceAdd,List.map]
        all_goals(simp[bz];done)
     dsimp only[aO,List.foldl,nth,u2,u1];refine qc (fun BC=>?_) (fun BC=>?_)<;>try simp only[cs] at BC
     ·refine qq<|qj fun K hK=>qm ?_;refine qm ?_;obtain⟨_,st,aN,rfl,s5,Lw,hH⟩:=DY _ s4 2 (by decide) Lj Bt hH;refine qv aN ?_;refine qe hK<|qq<|qj fun K hK=>qm ?_;refine qm ?_;refine qe hK<|ag.ret ⟨rx,_,_,_,rfl,ak (rfl),?_⟩;exact⟨_,_,s5,rfl,Lw,cQ.aA cG hH⟩
     ·refine ag.skip<|qq<|qq<|qj fun K hK=>qm ?_;refine qe hK<|qB ?_;refine qj fun K hK=>qm ?_;refine qe hK<|qq<|qj fun K hK=>qm ?_;refine qm ?_;refine qm ?_;refine qm ?_;refine qe hK<|ag.ret ⟨rx,_,_,_,rfl,ak (rfl),?_⟩;exact⟨_,_,s4,rfl,Bt,cQ.aA cG hH⟩
    |false=>
     have bh:(!false)=true:=rfl;refine qq<|qq<|qj fun K hK=>qm ?_;refine qg ?_;refine qm ?_;refine qm ?_ (hg:=wi bz);obtain⟨_,st,aN,rfl,hH⟩:=eB (s:=s3) (by omega) 125 hH;refine qv aN ?_ (hg:=wi bz);refine qg ?_ (hg:=wi bz);refine qu bz ?_;refine qm ?_;refine qm ?_ (hg:=wi eu);refine qg ?_ (hg:=wi eu);refine qm ?_ (hg:=wi eu);refine qm ?_ (hg:=wi bh);refine qm ?_ (hg:=wi bh);obtain⟨_,hle,v,rfl⟩:=K_ (s0:=st) n m;refine aa.fc (aC rfl rfl rfl bh) rfl hle (ab rfl _) ?_;refine aa.dU (aC rfl rfl rfl eu) rfl bh (ab rfl _) ?_;refine qu eu ?_;refine qe hK ?_;generalize dq gs s3 125=s4 at*
     cases v with
     |true=>
      refine qB ?_;refine qq<|qj fun K hK=>qm ?_;refine qm ?_;obtain⟨_,st,aN,rfl,s5,Lw,hH⟩:=DY _ s4 4 (by decide) Lj Bt hH;refine qv aN ?_;refine qe hK<|qq<|qj fun K hK=>qm ?_;refine qm ?_;refine qe hK<|ag.ret ⟨rx,_,_,_,rfl,ak (rfl),?_⟩;exact⟨_,_,s5,rfl,Lw,cQ.aA cG hH⟩
     |false=>
      refine qC ?_;refine ag.skip ?_;obtain⟨_,Ca,a1,f1,rfl⟩:=mM (s0:=st) m (by omega);refine qq<|qj fun K hK=>qm ?_;refine qv (Ca) ?_;refine qm ?_;refine qg ?_;refine qg ?_;refine qm ?_;refine qm ?_;refine qe hK<|qq<|qq<|qj fun K hK=>qm ?_;refine qe hK<|qC ?_;refine ag.skip ?_;obtain⟨_,Ak,a2,f2,rfl⟩:=mM (s0:=st) n (by omega);refine qq<|qj fun K hK=>qm ?_;refine qv (Ak) ?_;refine qm ?_;refine qg ?_;refine qg ?_;refine qm ?_;refine qm ?_;refine qe hK<|qq<|qq<|ag.kD 78 (.bool (!f1||!f2)) [] ?_ (fun ff tmp hO=>?_)
      ·refine qm ?_;refine qg ?_;refine qm ?_;refine aa.two 75 rfl (fun bz=>?_) (fun bz=>?_)
       ·refine qs ?_ (hg:=wn bz);refine qs ?_ (hg:=wn bz);refine qt bz ?_;refine aa.nil (dv ?_ ?_)
        ·dsimp only[aO,List.foldl,nth,u2,u1]
         all_goals(first|rfl|simp)
        ·dsimp only[Fr.aE,Fr.put,Fr.clean,Fr.ev,Fr.get,nth,V.look,u1,u2,v1,v2,v3,v4,v5,v6,v7,List.length,u3,u4,Nat.reduceSub,Nat.reduceAdd,List.map]
         all_goals(simp[bz];done)
       ·refine qm ?_ (hg:=wi bz);refine qg ?_ (hg:=wi bz);refine qu bz ?_;refine aa.nil (dv ?_ ?_)
        ·dsimp only[aO,List.foldl,nth,u2,u1]
         all_goals(first|rfl|simp)
        ·dsimp only[Fr.aE,Fr.put,Fr.clean,Fr.ev,Fr.get,nth,V.look,u1,u2,v1,v2,v3,v4,v5,v6,v7,List.length,u3,u4,Nat.reduceSub,Nat.reduceAdd,List.map]
         all_goals(simp[bz];done)
      dsimp only[aO,List.foldl,nth,u2,u1];refine qc (fun BC=>?_) (fun BC=>?_)<;>try simp only[cs] at BC
      ·refine qq<|qj fun K hK=>qm ?_;refine qm ?_;obtain⟨_,st,aN,rfl,s5,Lw,hH⟩:=DY _ s4 2 (by decide) Lj Bt hH;refine qv aN ?_;refine qe hK<|qq<|qj fun K hK=>qm ?_;refine qm ?_;refine qe hK<|ag.ret ⟨rx,_,_,_,rfl,ak (rfl),?_⟩;exact⟨_,_,s5,rfl,Lw,cQ.aA cG hH⟩
      ·refine ag.skip<|qq<|qq<|qj fun K hK=>qm ?_;refine qe hK<|qC ?_;refine ag.skip<|qq<|qj fun K hK=>qm ?_;refine qm ?_;refine qm ?_;refine qm ?_;refine qe hK<|ag.ret ⟨rx,_,_,_,rfl,ak (rfl),?_⟩;exact⟨_,_,s4,rfl,Bt,cQ.aA cG hH⟩
end Go.Proofs.YtbdnabmmlbiomaaGreat
namespace Go.Proofs.YtbdnabmmlbiomaaGreat
open Go.V Go
def dc (fr:Go.V.Fr) (k:Nat):Go.V.D:=Go.V.nth .bD fr.loc k
theorem qV:∀{l:List D},(∀d∈l,cy d=true)→refs l=0
 |[],_=>rfl
 |d::l,h=>by
  have h1:=qV (l:=l) fun d hd=>h d (List.mem_cons_of_mem _ hd);have h2:=h d (List.mem_cons_self ..)
  have h3:d.ref=0:=by cases d<;>first|rfl|(simp[cy] at h2)
  simp only[refs,h1,h3,Nat.max_self]
theorem tm {l:List dW} (h:∀n∈l,vB n):refs (l.map bt).flatten=0:=
 qV fun d hd=>by
  obtain⟨e,he,As⟩:=List.mem_flatten.1 hd;exact oh h e he d As
def eD (l:List dW):List D:=[vt l]
theorem wx {l:List (List dW)} {i:Nat} {q:List dW} (h:l[i]?=some q):(l.map eD)[i]?=some (eD q):=by rw[List.getElem?_map,h];rfl
def fV:List (List dW)→Nat
 |[]=>0
 |l::ls=>l.length+fV ls
theorem dS:∀a b:List (List dW),fV (a++b)=fV a+fV b
 |[],b=>by simp[fV]
 |l::a,b=>by rw[List.cons_append,fV,fV,dS a b];omega
theorem tD {s0:St} {x:D} {parts:List (List dW)} (op:Int) (hx:V.Rows s0 1 x (parts.map eD)) (hv:∀l∈parts,∀n∈l,vB n) (hp:parts.length≤100000) (hs:fV parts≤100000):∃d,Ev pv 131 [.int .i64 op,x] s0 d s0∧∃l,d=vt l∧(∀n∈l,vB n)∧(parts.length=1→l.length≤fV parts)∧l.length≤fV parts+1:=by
 refine Ev.E0 rfl UB rfl rfl rfl ?_;dsimp only[u3,u4,List.length,Nat.reduceSub,Nat.reduceAdd,w1,w2];obtain⟨cA,hF,hH⟩:=ri s0;generalize ai .ro s0=S at*;have hx:=Arg.of hx cA;refine qq<|qj fun K hK=>qm ?_;refine qe hK<|qq<|qq<|qj fun K hK=>qm ?_;refine qn ?_;simp only[List.length_map];refine qe hK<|ag.block<|qq<|qj fun K hK=>qg ?_;refine qm ?_;refine qe hK ?_
 by_cases h0:parts.length=0
 ·refine qD rfl (by simp[h0]) ?_;refine qq<|qj fun K hK=>?_;refine aa.go (d:=.agg [.int .i64 1,.nul,.int .i64 0,.int .i64 0,.bool false,.int .i64 0,.int .i64 0]) (st1:=_) rfl rfl rfl (by dsimp only[Fr.put,u1,u2]<;>rfl) ?_;refine qh (s:=7) (vs:=[_]) hH fun k13 st DQ hH=>?_;refine qm ?_;refine qe hK ?_;have hfz:=jk (L:=s0.bs.length) (a:=[]) hH au (.inr ⟨rfl,rfl⟩) (fun k hk=>by have ky:k13+1=k+1:=hk;rw[←cA];omega);refine ag.ret ⟨rx,_,_,rfl,rl cA hH (hfz),?_⟩;exact⟨_,rfl,Dl (by simp) (by omega),by omega,by simp⟩
 have XE:(((parts.length:Nat):Int)==0)=false:=by rw[beq_eq_false_iff_ne];omega
 refine qE rfl (by rw[XE]) ?_;refine qq<|qj fun K hK=>qg ?_;refine qm ?_;refine qe hK ?_
 by_cases h1:parts.length=1
 ·obtain⟨q,hq⟩:∃q,parts[0]?=some q:=⟨parts[0]'(by omega),List.getElem?_eq_getElem _⟩
  have iv:=wx hq
  have Lo:parts=[q]:=by
   match parts,h1,hq with
   |[a],_,hq=>simp at hq;rw[hq]
  refine qD rfl (by simp[h1]) ?_;refine qq<|qj fun K hK=>qm ?_;refine qr fun p17 WO=>?_;refine qR ?_;refine qm ?_;refine qe hK<|ag.ret ⟨rx,_,_,rfl,rl cA hH (rfl),?_⟩;refine⟨q,rfl,hv q (List.mem_of_getElem? hq),fun _=>?_,?_⟩<;>rw[Lo]<;>simp[fV]
 have Mt:(((parts.length:Nat):Int)==1)=false:=by rw[beq_eq_false_iff_ne];omega
 refine qE rfl (by rw[Mt]) ?_;refine ag.skip<|qq<|qj fun K hK=>qm ?_;refine qm ?_;refine qn ?_;simp only[List.length_map];refine aa.go (d:=.agg [.int .i64 op,.nul,.int .i64 0,.int .i64 0,.bool false,.int .i64 0,.int .i64 (parts.length:Nat)]) (st1:=_) rfl rfl rfl (by dsimp only[Fr.put,u1,u2]<;>rfl) ?_;refine qh (s:=7) (vs:=[_]) hH fun k23 st Tw hH=>?_;refine qm ?_;refine qe hK<|qq<|qq<|qj fun K hK=>qm ?_;refine qn ?_;simp only[List.length_map];refine qm ?_;refine qe hK ?_;have hH:Has s0.bs.length S st (.aM (.win k23 0 0 1 7) 7 [[.int .i64 op,.nul,.int .i64 0,.int .i64 0,.bool false,.int .i64 0,.int .i64 (parts.length:Nat)]]::[]):=hH;refine ag.block<|ag.loop (fun mm fr st=>∃(i:Nat) (od:D) (es:List (List D)) (lo:List dW),fr.clean=⟨27,[dc fr 0,dc fr 1,dc fr 2,dc fr 3,dc fr 4,od,dc fr 6,dc fr 7,dc fr 8,dc fr 9,dc fr 10,dc fr 11,dc fr 12,dc fr 13,dc fr 14,dc fr 15,dc fr 16,dc fr 17,dc fr 18,dc fr 19,dc fr 20,dc fr 21,dc fr 22,dc fr 23,x,.int .i64 (parts.length:Nat),.int .i64 (i:Nat)],[]⟩∧Has s0.bs.length S st [.aM od 7 es]∧(i+mm=parts.length)∧(es.map (·.map py)=lo.map bt)∧(∀e∈es,∀d∈e,oU d=true)∧(∀n∈lo,vB n)∧(lo.length=1+fV (parts.take i))∧(∀k,od.ref=k+1→S.bs.length≤k)) (parts.length) ?_ ?_
 ·refine⟨0,.win k23 0 0 1 7,[[.int .i64 op,.nul,.int .i64 0,.int .i64 0,.bool false,.int .i64 0,.int .i64 (parts.length:Nat)]],[uH op 0 0 false 0 (parts.length:Nat) []],rfl,hH,by omega,rfl,?_,Dl (by simp) (by omega),by simp[fV],fun k hk=>by simp only[D.ref] at hk;omega⟩;intro e he d hd;simp only[List.mem_cons,List.not_mem_nil,or_false] at he;subst he;simp only[List.mem_cons,List.not_mem_nil,or_false] at hd
  rcases hd with rfl|rfl|rfl|rfl|rfl|rfl|rfl<;>rfl
 rintro mm fr st ⟨i,od,es,lo,hfr,hH,hi,yQ,ht,Mp,hlen,Mm⟩;rw[hfr];clear hfr;generalize dc fr=ee;clear fr;refine qq<|qj fun K hK=>qg ?_;refine qe hK ?_
 by_cases hlt:i<parts.length
 ·obtain⟨q,hq⟩:∃q,parts[i]?=some q:=⟨parts[i]'hlt,List.getElem?_eq_getElem _⟩
  have iv:=wx hq;have Vb:=hv q (List.mem_of_getElem? hq);have vw:es.length=lo.length:=by have:=congrArg List.length yQ;simpa using this
  have Cb:parts.take (i+1)=parts.take i++[q]:=by rw[List.take_add_one,hq];rfl
  have Wa:fV (parts.take (i+1))=fV (parts.take i)+q.length:=by rw[Cb,dS];simp[fV]
  have aai:fV (parts.take (i+1))≤fV parts:=by
   have:=dS (parts.take (i+1)) (parts.drop (i+1));rw[List.take_append_drop] at this;omega
  refine qq<|qD rfl (by simp;omega) ?_;refine ag.skip<|qq<|ag.block<|qq<|qj fun K hK=>qr fun p28 aaC=>?_;refine qR ?_;refine qm ?_;refine qe hK<|qj fun K hK=>qm ?_;refine qm ?_;refine aa.rL (s:=7) hH rfl (ev rfl) (ev rfl) au ((tn Vb).rows st) rfl rfl rfl rfl rfl rfl rfl ⟨(Nat.le_of_ble_eq_true rfl),(Nat.le_of_ble_eq_true rfl)⟩ (fun _=>(ab rfl _)) (by rw[List.length_map];omega) (.inl hF) Mm (fun x32 st Mm hH=>?_);dsimp only[u2] at hH;refine qm ?_;refine qe hK<|qj fun K hK=>qA ?_;refine qm ?_;refine qe hK ?_;refine⟨mm-1,by omega,⟨i+1,x32,es++q.map bt,lo++q,rfl,hH,by omega,by rw[List.map_append,List.map_append,yQ,uE Vb],?_,?_,by rw[List.length_append,hlen,Wa];omega,Mm⟩⟩
  ·intro e he
   rcases List.mem_append.1 he with he|he
   ·exact ht e he
   ·exact rj Vb e he
  ·intro n hn
   rcases List.mem_append.1 hn with hn|hn
   ·exact Mp n hn
   ·exact Vb n hn
 ·refine qq<|qE rfl (by simp;omega) ?_;refine ag.exit<|qq<|qj fun K hK=>qm ?_;refine qm ?_;refine qe hK ?_;have hik:i=parts.length:=by omega
  rw[hik,List.take_length] at hlen;refine ag.ret ⟨rx,_,_,rfl,rl cA hH (jj hH au yQ ht (fun k hk=>by have:=Mm k hk;rw[←cA];exact this) (by decide)),?_⟩;exact⟨_,rfl,Mp,by omega,by omega⟩
end Go.Proofs.YtbdnabmmlbiomaaGreat
namespace Go.Proofs.YtbdnabmmlbiomaaGreat
open Go.V Go
def gI (fr:Go.V.Fr) (k:Nat):Go.V.D:=Go.V.nth .bD fr.loc k
theorem nI {N:Nat} {S st:St} {H:List bC} {a b c:bC} (h:Has N S st (a::b::c::H)):Has N S st (b::c::a::H):=by
 have h1:=h.front aS;have h2:=h1.front ba;exact h2.front aS
def l7 (m:Nat):Prop:=∀{N k:Nat} {S s0:St} {H:List bC} {gs:List (Nat×Nat)} {bK:D} {a8:List Int} {s:fz},lF gs a8→s.e=0→s.i≤gs.length→s.g≤4→s.o+m=20→Has N S s0 (.box k (.mem 0 false (aX gs bK s))::.aM bK 1 (a8.map aq)::H)→
 ∃d ah,Ev pv 99 [.ptr k 0 0] s0 d ah∧∃(s':fz),vn gs s s' d∧Has N S ah (.box k (.mem 0 false (aX gs bK s'))::.aM bK 1 (a8.map aq)::H)
theorem D8 {m:Nat} (hA:∀m',m'+1=m→l7 m') {N k:Nat} {S s0:St} {H:List bC} {gs:List (Nat×Nat)} {bK:D} {a8:List Int} {s:fz} (bd:lF gs a8) (he:s.e=0) (hi:s.i<gs.length) (hg:s.g≤4) (ho:s.o+m=20) (hH:Has N S s0 (.box k (.mem 0 false (aX gs bK s))::.aM bK 1 (a8.map aq)::H)):
  ∃d ah,Ev pv 167 [.ptr k 0 0] s0 d ah∧∃(s':fz),jE gs s s' d 2∧Has N S ah (.box k (.mem 0 false (aX gs bK s'))::.aM bK 1 (a8.map aq)::H):=by
 have pR:=bd.gl;have fU:=bd.pl;refine Ev.iC rfl Un rfl rfl rfl ?_;dsimp only[u3,u4,List.length,Nat.reduceSub,Nat.reduceAdd,w1,w2];have cQ:=hH;have hH:=hH.cV;have cG:(ai .rw s0).bs=s0.bs:=rfl;generalize ai .rw s0=S2 at*
 have hwr:∀(st:St) (s3:fz) (e:Int) (H2:List bC),e≠0→s3.e=0→s3.o=s.o→s3.g≤4→s.i≤s3.i→s3.i≤gs.length→Has N S2 st (.box k (.mem 0 false (aX gs bK s3))::.aM bK 1 (a8.map aq)::H2)→∃d ah,Ev pv 100 [.ptr k 0 0,.int .i64 (s.i:Nat),.int .i64 e] st d ah∧d=.sl []∧∃s4,jE gs s s4 (.sl []) 2∧Has N S2 ah (.box k (.mem 0 false (aX gs bK s4))::.aM bK 1 (a8.map aq)::H2):=by
  intro st s3 e H2 h0 h1 h2 h3 h4 h5 hH;obtain⟨d,ah,aN,h6,hH⟩:=du (s:=s3) s.i e (by omega) hH;obtain⟨w1,w2,w3,w4⟩:=dG (a8:=a8) (s:=s3) (i:=s.i) (e:=e) h1 h0;exact⟨d,ah,aN,h6,_,gF (w3.trans h2) (by omega) (by omega) (by omega) w1,hH⟩
 refine qq<|qj fun K hK=>qm ?_;refine qe hK<|qq<|qj fun K hK=>qm ?_;refine qg ?_;refine qp (o:=2) ?_;refine ql hH au ?_;refine qm ?_;refine qe hK<|qq<|qj fun K hK=>qm ?_;refine qg ?_;refine qp (o:=2) ?_;refine ql hH au ?_;refine qA ?_;refine qg ?_;refine qp (o:=2) ?_;refine qT hH au fun st hH=>?_;dsimp only[u2,u1,u3,u4,setMany,u5,u6,D.cells,Nat.reduceAdd,aX,a7,aq,ay,bt] at hH;refine qe hK ?_;have hH:Has N S2 st (.box k (.mem 0 false (aX gs bK {s with i:=s.i+1}))::.aM bK 1 (a8.map aq)::H):=hH
 obtain⟨s1,pP⟩:∃s1:fz,({s with i:=s.i+1}:fz)=s1:=⟨_,rfl⟩
 have Wj:s1.e=0∧s1.o=s.o∧s1.g=s.g∧s1.i=s.i+1:=by rw[←pP];exact⟨he,rfl,rfl,rfl⟩
 rw[pP] at hH;clear pP;obtain⟨f1,f2,f3,f4⟩:=Wj;refine qq<|qj fun K hK=>qm ?_;refine qe hK<|qq<|qq<|ag.om (fun fr st=>∃(free:Bool) (s2:fz) (tmp:List (Nat×D)),fr=⟨7,[.ptr k 0 0,gI fr 1,gI fr 2,.int .i64 (s.i:Nat),.bool free,gI fr 5,gI fr 6],tmp⟩∧Has N S2 st (.box k (.mem 0 false (aX gs bK s2))::.aM bK 1 (a8.map aq)::H)∧(s2.e=0)∧(s2.o=s.o)∧(s2.g=s.g)∧(s.i+1≤s2.i)∧(s2.i≤gs.length)) ?_ ?_
 ·obtain⟨k1,k2,k3,k4,k5⟩:=g_ (gs:=gs) (s:=s1) (r:=63);have k5:=k5 (by omega);refine qj fun K hK=>qm ?_;obtain⟨_,st,aN,rfl,hH⟩:=eB (s:=s1) (by omega) 63 hH;refine qv aN ?_;refine qe hK ?_;generalize dq gs s1 63=s2 at*
  cases hb:lh gs s1.i 63 with
  |false=>
   refine qC ?_;refine ag.skip ?_;exact⟨false,s2,_,rfl,hH,by omega,by omega,by omega,by omega,by omega⟩
  |true=>
   refine qB ?_;refine qq<|qj fun K hK=>qm ?_;refine qe hK ?_;obtain⟨r1,r2,r3,r4,r5⟩:=g_ (gs:=gs) (s:=s2) (r:=58);have r5:=r5 k5;refine qq<|qj fun K hK=>qm ?_;obtain⟨_,st,aN,rfl,hH⟩:=eB (s:=s2) (by omega) 58 hH;refine qv aN ?_;refine qg ?_;refine qe hK ?_;generalize dq gs s2 58=s3 at*
   cases hb2:lh gs s2.i 58 with
   |false=>
    refine qB ?_;refine qq<|qj fun K hK=>qm ?_;refine qm ?_;obtain⟨_,st,aN,rfl,s4,hN,hH⟩:=hwr _ s3 4 _ (by decide) (by omega) (by omega) (by omega) (by omega) (by omega) hH;refine qv aN ?_;refine qm ?_;refine qe hK<|ag.ret ⟨rx,_,_,_,rfl,ak (rfl),?_⟩;exact⟨s4,hN,cQ.aA cG hH⟩
   |true=>
    refine qC ?_;refine ag.skip ?_;exact⟨true,s3,_,rfl,hH,by omega,by omega,by omega,by omega,by omega⟩
 ·rintro fr st ⟨free,s2,tmp,hfr,hH,h1,h2,h3,h4,h5⟩;rw[hfr];clear hfr;generalize gI fr=ee;clear fr;refine qq<|qq<|qj fun K hK=>qm ?_;refine qg ?_;refine qp (o:=3) ?_;refine ql hH au ?_;refine qg ?_;refine qe hK ?_
  by_cases ZO:20≤s2.o
  ·have iE:decide (((s2.o:Nat):Int)≥20)=true:=by rw[decide_eq_true_eq];omega
   refine qD rfl (by rw[iE]) ?_;refine qq<|qj fun K hK=>qm ?_;refine qm ?_;obtain⟨_,st,aN,rfl,s4,hN,hH⟩:=hwr _ s2 10 _ (by decide) h1 h2 (by omega) (by omega) h5 hH;refine qv aN ?_;refine qm ?_;refine qe hK<|ag.ret ⟨rx,_,_,_,rfl,ak (rfl),?_⟩;exact⟨s4,hN,cQ.aA cG hH⟩
  have iE:decide (((s2.o:Nat):Int)≥20)=false:=by rw[decide_eq_false_iff_not];omega
  refine qE rfl (by rw[iE]) ?_;refine ag.skip<|qq<|qj fun K hK=>aa.go (d:=.agg [.int .i64 6,.nul,.int .i64 0,.int .i64 0,.bool false,.int .i64 0,.int .i64 1]) (st1:=_) rfl rfl rfl (ab rfl _) ?_;refine qa hH fun k5 st E6 hH=>?_;dsimp only[u2,u1,u3,u4,setMany,u5,u6,D.cells,Nat.reduceAdd,aX,a7,aq,ay,bt] at hH;refine qS hH au fun st hH=>?_;dsimp only[u2,u1,u3,u4,setMany,u5,u6,D.cells,Nat.reduceAdd,aX,a7,aq,ay,bt] at hH;refine qe hK ?_;have hH:Has N S2 st (.box k (.mem 0 false (aX gs bK s2))::.aM bK 1 (a8.map aq)::.box k5 (.mem 0 false [.int .i64 6,.nul,.int .i64 0,.int .i64 0,.bool false,.int .i64 0,.int .i64 1])::H):=nI hH;refine qq<|qq<|ag.om (fun fr st=>∃(cap:Int) (s3:fz) (tmp:List (Nat×D)),fr=⟨7,[.ptr k 0 0,gI fr 1,gI fr 2,.int .i64 (s.i:Nat),.bool free,.ptr k5 0 0,gI fr 6],tmp⟩∧Has N S2 st (.box k (.mem 0 false (aX gs bK s3))::.aM bK 1 (a8.map aq)::.box k5 (.mem 0 false [.int .i64 6,.nul,.int .i64 0,.int .i64 0,.bool false,.int .i64 cap,.int .i64 1])::H)∧(s3.e=0)∧(s3.o=s.o)∧(s3.g≤4)∧(s3.i=s2.i)) ?_ ?_
  ·refine qj fun K hK=>qm ?_;refine qg ?_;refine qe hK ?_
   cases free with
   |true=>
    refine qC ?_;refine ag.skip ?_;exact⟨0,s2,_,rfl,hH,h1,h2,by omega,rfl⟩
   |false=>
    refine qB ?_;refine qq<|qq<|qj fun K hK=>qm ?_;refine qg ?_;refine qp (o:=4) ?_;refine ql hH au ?_;refine qg ?_;refine qe hK ?_
    by_cases ZD:4≤s2.g
    ·have iE:decide (((s2.g:Nat):Int)≥4)=true:=by rw[decide_eq_true_eq];omega
     refine qD rfl (by rw[iE]) ?_;refine qq<|qj fun K hK=>qm ?_;refine qm ?_;obtain⟨_,st,aN,rfl,s4,hN,hH⟩:=hwr _ s2 13 _ (by decide) h1 h2 (by omega) (by omega) h5 hH;refine qv aN ?_;refine qm ?_;refine qe hK<|ag.ret ⟨rx,_,_,_,rfl,ak (rfl),?_⟩;exact⟨s4,hN,cQ.aA cG (hH.erase 2)⟩
    ·have iE:decide (((s2.g:Nat):Int)≥4)=false:=by rw[decide_eq_false_iff_not];omega
     refine qE rfl (by rw[iE]) ?_;refine ag.skip<|qq<|qj fun K hK=>qm ?_;refine qg ?_;refine qp (o:=4) ?_;refine ql hH au ?_;refine qA ?_;refine qg ?_;refine qp (o:=4) ?_;refine qT hH au fun st hH=>?_;dsimp only[u2,u1,u3,u4,setMany,u5,u6,D.cells,Nat.reduceAdd,aX,a7,aq,ay,bt] at hH;refine qe hK<|qj fun K hK=>qm ?_;refine qg ?_;refine qp (o:=4) ?_;refine ql hH au ?_;refine qp (o:=5) ?_;refine qT hH ba fun st hH=>?_;dsimp only[u2,u1,u3,u4,setMany,u5,u6,D.cells,Nat.reduceAdd,aX,a7,aq,ay,bt] at hH;refine qe hK ?_;exact⟨((s2.g+1:Nat):Int),{s2 with g:=s2.g+1},_,rfl,hH,h1,h2,by show s2.g+1≤4;omega,rfl⟩
  ·rintro fr st ⟨cap,s3,tmp,hfr,hH,e1,e2,e3,e4⟩;rw[hfr];clear hfr;generalize gI fr=ee;clear fr;refine qq<|qj fun K hK=>qm ?_;refine qg ?_;refine qp (o:=3) ?_;refine ql hH au ?_;refine qA ?_;refine qg ?_;refine qp (o:=3) ?_;refine qT hH au fun st hH=>?_;dsimp only[u2,u1,u3,u4,setMany,u5,u6,D.cells,Nat.reduceAdd,aX,a7,aq,ay,bt] at hH;refine qe hK ?_;have hH:Has N S2 st (.box k (.mem 0 false (aX gs bK {s3 with o:=s3.o+1}))::.aM bK 1 (a8.map aq)::.box k5 (.mem 0 false [.int .i64 6,.nul,.int .i64 0,.int .i64 0,.bool false,.int .i64 cap,.int .i64 1])::H):=hH;refine qq<|qj fun K hK=>qm ?_;obtain⟨_,st,aN,s4,⟨a1,a2,a3,a4,l,rfl,a5,a6⟩,hH⟩:=hA (m-1) (by omega) (s:={s3 with o:=s3.o+1}) bd e1 (by show s3.i≤_;omega) e3 (by show s3.o+1+(m-1)=20;omega) hH;refine qv aN ?_;refine qm ?_;refine qe hK ?_;have a1:s4.o=s3.o+1:=a1;have a3:s3.i≤s4.i:=a3;have a6:l.length≤4*(s4.i-s3.i)+1:=a6;have hla:=(tn a5).arg N S2;refine qq<|qj fun K hK=>qm ?_;refine qg ?_;refine qp (o:=3) ?_;refine ql hH au ?_;refine aa.mO (z:=((s.o:Nat):Int)) rfl (ev rfl) (ev rfl) (by rw[wrap_i64 (by omega) (by omega)]<;>omega) (ab rfl _) ?_;refine qg ?_;refine qp (o:=3) ?_;refine qT hH au fun st hH=>?_;dsimp only[u2,u1,u3,u4,setMany,u5,u6,D.cells,Nat.reduceAdd,aX,a7,aq,ay,bt] at hH;refine qe hK ?_
   obtain⟨s5,Wi⟩:∃s5:fz,({s4 with o:=s.o}:fz)=s5:=⟨_,rfl⟩
   have hH:Has N S2 st (.box k (.mem 0 false (aX gs bK s5))::.aM bK 1 (a8.map aq)::.box k5 (.mem 0 false [.int .i64 6,.nul,.int .i64 0,.int .i64 0,.bool false,.int .i64 cap,.int .i64 1])::H):=by rw[←Wi];exact hH
   have Wh:s5.o=s.o∧s5.g=s4.g∧s5.i=s4.i:=by rw[←Wi];exact⟨rfl,rfl,rfl⟩
   clear Wi;obtain⟨b1,b2,b3⟩:=Wh;refine qq<|qq<|ag.om (fun fr st=>∃(s6:fz) (tmp:List (Nat×D)),fr=⟨7,[.ptr k 0 0,gI fr 1,gI fr 2,gI fr 3,.bool free,.ptr k5 0 0,vt l],tmp⟩∧Has N S2 st (.box k (.mem 0 false (aX gs bK s6))::.aM bK 1 (a8.map aq)::.box k5 (.mem 0 false [.int .i64 6,.nul,.int .i64 0,.int .i64 0,.bool false,.int .i64 cap,.int .i64 1])::H)∧(s6.o=s.o)∧(s6.g≤4)∧(s4.i≤s6.i)∧(s6.i≤gs.length)∧(s6.e≠0∨s6.e=0∧s4.i<s6.i)) ?_ ?_
   ·by_cases Xv:s5.e=0
    ·have bN:(s5.e==0)=true:=by simpa using Xv
     obtain⟨k1,k2,k3,k4,Zm⟩:=g_ (gs:=gs) (s:=s5) (r:=41);have Zm:=Zm (by omega);have hsk:lh gs s5.i 41=true→(dq gs s5 41).i=s5.i+1:=fun h=>by unfold dq;rw[if_pos h]
     refine qj fun K hK=>qm ?_;refine qg ?_;refine qp (o:=5) ?_;refine ql hH au ?_;refine qg ?_;refine qm ?_;refine qm ?_ (hg:=wi bN);obtain⟨_,st,aN,rfl,hH⟩:=eB (s:=s5) (by omega) 41 hH;refine qv aN ?_ (hg:=wi bN);refine qg ?_ (hg:=wi bN);refine qt bN ?_;refine qe hK ?_;generalize dq gs s5 41=s6 at*
     cases hb:lh gs s5.i 41 with
     |false=>
      refine qB ?_;refine qq<|qj fun K hK=>qm ?_;refine qm ?_;obtain⟨_,st,aN,rfl,s7,hN,hH⟩:=hwr _ s6 4 _ (by decide) (by omega) (by omega) (by omega) (by omega) (by omega) hH;refine qv aN ?_;refine qm ?_;refine qe hK<|ag.ret ⟨rx,_,_,_,rfl,ak (rfl),?_⟩;exact⟨s7,hN,cQ.aA cG (hH.erase 2)⟩
     |true=>
      have hsk:=hsk hb;refine qC ?_;refine ag.skip ?_;exact⟨s6,_,rfl,hH,by omega,by omega,by omega,by omega,.inr ⟨by omega,by omega⟩⟩
    ·have bN:(s5.e==0)=false:=by simpa using Xv
     refine qj fun K hK=>qm ?_;refine qg ?_;refine qp (o:=5) ?_;refine ql hH au ?_;refine qg ?_;refine qm ?_;refine qs ?_ (hg:=wn bN);refine qs ?_ (hg:=wn bN);refine qs ?_ (hg:=wn bN);refine qu bN ?_;refine qe hK<|qC ?_;refine ag.skip ?_;exact⟨s5,_,rfl,hH,b1,by omega,by omega,by omega,.inl Xv⟩
   ·rintro fr st ⟨s6,tmp,hfr,hH,c1,c2,c3,c4,c5⟩;rw[hfr];clear hfr;generalize gI fr=ee;clear fr;refine qq<|qq<|qj fun K hK=>qm ?_;refine qe hK ?_
    cases free with
    |true=>
     refine qB ?_;refine qq<|qj fun K hK=>qm ?_;refine qm ?_;refine qe hK<|ag.ret ⟨rx,_,_,_,rfl,ak (rfl),?_⟩;refine⟨s6,⟨c1,c2,by omega,c4,l,rfl,a5,by omega,?_⟩,cQ.aA cG (hH.erase 2)⟩
     rcases c5 with c5|⟨c5,c6⟩
     ·exact .inl c5
     ·exact .inr ⟨c5,by omega⟩
    |false=>
     refine qC ?_;refine ag.skip<|qq<|qj fun K hK=>?_;refine aa.bk (m:=7) hH rfl (ev rfl) (by exact ba) (by dsimp only[List.drop_succ_cons,List.drop_zero,List.take_succ_cons,List.take_zero,aX,a7,aq,ay,bt]<;>rfl) rfl rfl (ab rfl _) ?_;refine qh (s:=7) (vs:=[_]) hH fun k89 st aaH hH=>?_;dsimp only[u2,u1,u3,u4,setMany,u5,u6,D.cells,Nat.reduceAdd,aX,a7,aq,ay,bt] at hH;refine qm ?_;refine aa.rL (s:=7) hH rfl (ev rfl) (ev rfl) au ((tn a5).rows st) rfl rfl rfl rfl rfl rfl rfl ⟨(Nat.le_of_ble_eq_true rfl),(Nat.le_of_ble_eq_true rfl)⟩ (fun _=>(ab rfl _)) (by simp only[List.length_map,List.length_cons,List.length_nil];omega) (.inr (tm a5)) (fun k hk=>by have ky:k89+1=k+1:=hk;omega) (fun x91 st Mm hH=>?_);dsimp only[u2] at hH;refine qm ?_;refine qe hK ?_;have hH:Has N S2 st (.aM x91 7 ([.int .i64 6,.nul,.int .i64 0,.int .i64 0,.bool false,.int .i64 cap,.int .i64 1]::l.map bt)::.box k (.mem 0 false (aX gs bK s6))::.aM bK 1 (a8.map aq)::.box k5 (.mem 0 false [.int .i64 6,.nul,.int .i64 0,.int .i64 0,.bool false,.int .i64 cap,.int .i64 1])::H):=hH
     have hfz:=jj (L:=s0.bs.length) (l:=uH 6 0 0 false cap 1 []::l) hH au (by rw[List.map_cons,uE a5];rfl) (fun e he d hd=>by
      rcases List.mem_cons.1 he with rfl|he
      ·simp only[List.mem_cons,List.not_mem_nil,or_false] at hd
       rcases hd with rfl|rfl|rfl|rfl|rfl|rfl|rfl<;>rfl
      ·exact rj a5 e he d hd) (fun k hk=>by rw[←cG];exact Mm k hk) (n:=16) (by decide)
     refine ag.ret ⟨rx,_,_,_,rfl,ak hfz,⟨s6,⟨c1,c2,by omega,c4,_,rfl,?_,by simp only[List.length_cons];omega,?_⟩,cQ.aA cG ((hH.drop 1).erase 2)⟩⟩
     ·intro n hn
      rcases List.mem_cons.1 hn with rfl|hn
      ·exact⟨rfl,by simp[uH],by simp[uH]⟩
      ·exact a5 n hn
     ·rcases c5 with c5|⟨c5,c6⟩
      ·exact .inl c5
      ·exact .inr ⟨c5,by simp only[List.length_cons];omega⟩
end Go.Proofs.YtbdnabmmlbiomaaGreat
