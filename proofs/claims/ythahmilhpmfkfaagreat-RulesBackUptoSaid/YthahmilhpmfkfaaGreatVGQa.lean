/-
 Patterns as trees; the code of a tree; how many instructions it has.
-/
import Derived.Test.YthahmilhpmfkfaaGreatVGCa
import Derived.Test.YthahmilhpmfkfaaGreatVKa
import Derived.Test.YthahmilhpmfkfaaGreatVHr
set_option maxRecDepth 100000
set_option linter.unusedSimpArgs false
set_option linter.unusedVariables false
set_option linter.unusedSectionVars false
set_option maxHeartbeats 4000000
namespace Go.Proofs.YthahmilhpmfkfaaGreat
open Go.V Go
structure bp where
 op:Int
 rd:D
 rs:List Rg
 mn:Int
 mx:Int
 lz:Bool
 cap:Int
 kids:Int
def aH (n:bp):List D:=[.int .i64 n.op,n.rd,.int .i64 n.mn,.int .i64 n.mx,.bool n.lz,.int .i64 n.cap,.int .i64 n.kids]
def bp.ok (n:bp):Prop:=gY n.rd 2 (n.rs.map av)∧n.rs.length≤1048576∧n.kids≤9223372036854775807
structure Nl where
 d:D
 l:List bp
structure Nl.ok (x:Nl):Prop where
 c:gY x.d 7 (x.l.map aH)
 i:∀n∈x.l,n.ok
 nl:x.l.length≤1048576
theorem mh {l:List bp} {i:Nat} {q:bp} (h:l[i]?=some q):(l.map aH)[i]?=some (aH q):=by rw[List.getElem?_map,h];rfl
mutual
inductive Tr where
 |mk (n:bp) (ks:aE)
inductive aE where
 |nil
 |cons (t:Tr) (ts:aE)
end
def aE.len:aE→Nat
 | .nil=>0
 | .cons _ ts=>ts.len+1
mutual
def Tr.flat:Tr→List bp
 | .mk n ks=>n::ks.flat
def aE.flat:aE→List bp
 | .nil=>[]
 | .cons t ts=>t.flat++ts.flat
end
def uH (n:bp) (nk:Nat):Prop:=
 n.kids=(nk:Int)∧(((n.op=1∨n.op=7∨n.op=8)∧nk=0)∨(n.op=2∧nk=0)∨((n.op=3∨n.op=4)∧2≤nk)∨
  (n.op=5∧nk=1∧0≤n.mn∧n.mn≤30∧(n.mx=-1∨(n.mn≤n.mx∧n.mx≤30)))∨(n.op=6∧nk=1∧1≤n.cap∧n.cap≤4))
mutual
def Tr.ok:Tr→Prop
 | .mk n ks=>uH n ks.len∧ks.ok
def aE.ok:aE→Prop
 | .nil=>True
 | .cons t ts=>t.ok∧ts.ok
end
def br (n:bp) (s k:Nat):Nat:=
 if n.op=2∨n.op=7∨n.op=8 then 1
 else if n.op=4 then s+2*(k-1)
 else if n.op=6 then s+2
 else if n.op=5 then(if n.mx=-1 then n.mn.toNat*s+s+2 else n.mn.toNat*s+(n.mx.toNat-n.mn.toNat)*(s+1))
 else s
mutual
def Tr.sz:Tr→Nat
 | .mk n ks=>br n ks.sz ks.len
def aE.sz:aE→Nat
 | .nil=>0
 | .cons t ts=>t.sz+ts.sz
end
def cH (op x y:Int) (rs:List Rg):aK:=⟨op,x,y,.sl ((rs.map av).map (kY 2)),rs⟩
def lX (s o:Nat) (lz:Bool):aK:=if lz=true then cH 2 (o:Nat) ((s+1:Nat):Int) [] else cH 2 ((s+1:Nat):Int) (o:Nat) []
def j9 (e:Nat):aK:=cH 3 (e:Nat) 0 []
def eZ (c:Nat→List aK) (z:Nat):Nat→Nat→List aK
 |0,_=>[]
 |k+1,b=>c b++eZ c z k (b+z)
def e_ (sp:Nat→aK) (c:Nat→List aK) (z:Nat):Nat→Nat→List aK
 |0,_=>[]
 |k+1,b=>sp b::(c (b+1)++e_ sp c z k (b+1+z))
def yf (z:Nat):Nat→Nat→List Nat
 |0,_=>[]
 |k+1,b=>b::yf z k (b+1+z)
def mS (n:bp) (c:Nat→List aK) (z b:Nat):List aK:=
 if n.mx=-1 then eZ c z n.mn.toNat b++(lX (b+n.mn.toNat*z) (b+n.mn.toNat*z+z+2) n.lz::(c (b+n.mn.toNat*z+1)++[j9 (b+n.mn.toNat*z)]))
 else eZ c z n.mn.toNat b++e_ (fun s=>lX s (b+n.mn.toNat*z+(n.mx.toNat-n.mn.toNat)*(z+1)) n.lz) c z (n.mx.toNat-n.mn.toNat) (b+n.mn.toNat*z)
mutual
def aM:Tr→Nat→List aK
 | .mk n ks,b=>
  if n.op=2 then[cH 1 0 0 n.rs]
  else if n.op=7 then[cH 5 0 0 []]
  else if n.op=8 then[cH 6 0 0 []]
  else if n.op=3 then eo ks b
  else if n.op=4 then di (j9 (b+br n ks.sz ks.len)) ks b
  else if n.op=5 then mS n (eo ks) ks.sz b
  else if n.op=6 then cH 4 (2*n.cap) 0 []::(eo ks (b+1)++[cH 4 (2*n.cap+1) 0 []])
  else[]
def eo:aE→Nat→List aK
 | .nil,_=>[]
 | .cons t ts,b=>aM t b++eo ts (b+t.sz)
def di (jp:aK):aE→Nat→List aK
 | .nil,_=>[]
 | .cons t ts,b=>if ts.len=0 then aM t b else lX b (b+1+t.sz+1) false::(aM t (b+1)++jp::di jp ts (b+t.sz+2))
end
def tt:aE→Nat→List Nat
 | .nil,_=>[]
 | .cons t ts,b=>if ts.len=0 then[] else(b+1+t.sz)::tt ts (b+t.sz+2)
theorem iU {c:Nat→List aK} {z:Nat} (hc:∀b,(c b).length=z):∀k b,(eZ c z k b).length=k*z
 |0,b=>by simp[eZ]
 |k+1,b=>by rw[eZ,List.length_append,hc,iU hc k,Nat.add_mul];omega
theorem nL {sp:Nat→aK} {c:Nat→List aK} {z:Nat} (hc:∀b,(c b).length=z):∀k b,(e_ sp c z k b).length=k*(z+1)
 |0,b=>by simp[e_]
 |k+1,b=>by rw[e_,List.length_cons,List.length_append,hc,nL hc k,Nat.add_mul];omega
theorem E7 {n:bp} {c:Nat→List aK} {z b:Nat} (hc:∀b,(c b).length=z) (h:n.op=5):(mS n c z b).length=br n z 1:=by
 unfold mS br;rw[if_neg (show¬(n.op=2∨n.op=7∨n.op=8) by omega),if_neg (show¬n.op=4 by omega),if_neg (show¬n.op=6 by omega),if_pos h]
 split
 ·rw[List.length_append,iU hc,List.length_cons,List.length_append,hc];simp only[List.length_cons,List.length_nil];omega
 ·rw[List.length_append,iU hc,nL hc]
theorem aE.B7 {ks:aE} (h:ks.len=1):∃t,ks=.cons t .nil:=by
 cases ks with
 |nil=>simp[aE.len] at h
 |cons t ts=>cases ts with
  |nil=>exact⟨t,rfl⟩
  |cons u us=>simp[aE.len] at h
theorem aE.len_nil {ks:aE} (h:ks.len=0):ks=.nil:=by
 cases ks with
 |nil=>rfl
 |cons t ts=>simp[aE.len] at h
mutual
theorem bw:∀(t:Tr) (b:Nat),t.ok→(aM t b).length=t.sz
 | .mk n ks,b,h=>by
  simp only[Tr.ok] at h;obtain⟨h1,h2⟩:=h;have hc:=fun b=>lP ks b h2;have ha:=fun jp b=>ou jp ks b h2;simp only[aM,Tr.sz];obtain⟨_,⟨h3,h4⟩|⟨h3,h4⟩|⟨h3,h4⟩|⟨h3,h4,h5⟩|⟨h3,h4,h5⟩⟩:=h1
  ·have hk:=aE.len_nil h4;subst hk
   by_cases q7:n.op=7
   ·simp[q7,br]
   ·by_cases q8:n.op=8
    ·simp[q8,br]
    ·have q1:n.op=1:=by omega
     simp[q1,br,aE.sz]
  ·simp[h3,br]
  ·rcases h3 with h3|h3
   ·simp[h3,br,hc]
   ·simp[h3,br,ha]
  ·have:=E7 (n:=n) (b:=b) hc h3;simp only[h3] at this⊢;simp only[show¬((5:Int)=2) by decide,show¬((5:Int)=7) by decide,show¬((5:Int)=8) by decide,show¬((5:Int)=3) by decide,show¬((5:Int)=4) by decide,if_false,if_true];rw[this,h4]
  ·simp[h3,br,hc]
theorem lP:∀(ts:aE) (b:Nat),ts.ok→(eo ts b).length=ts.sz
 | .nil,b,_=>by simp[eo,aE.sz]
 | .cons t ts,b,h=>by
  simp only[aE.ok] at h;simp only[eo,aE.sz,List.length_append];rw[bw t b h.1,lP ts _ h.2]
theorem ou (jp:aK):∀(ts:aE) (b:Nat),ts.ok→(di jp ts b).length=ts.sz+2*(ts.len-1)
 | .nil,b,_=>by simp[di,aE.sz,aE.len]
 | .cons t ts,b,h=>by
  simp only[aE.ok] at h;have h1:=ou jp ts (b+t.sz+2) h.2;simp only[di,aE.sz,aE.len]
  by_cases q:ts.len=0
  ·rw[if_pos q,bw t b h.1,q];have:=aE.len_nil q;subst this;simp[aE.sz]
  ·rw[if_neg q,List.length_cons,List.length_append,List.length_cons,bw t _ h.1,h1];omega
end
def iT (f:Nat→aK) (c:List aK) (l:List Nat):List aK:=l.foldl (fun c j=>c.set j (f j)) c
theorem re {α:Type} (pre post:List α) (x y:α):(pre++x::post).set pre.length y=pre++y::post:=by
 rw[List.set_append_right _ _ (Nat.le_refl _),Nat.sub_self];rfl
theorem rn {α:Type} (pre post:List α) (x:α):(pre++x::post)[pre.length]?=some x:=by
 rw[List.getElem?_append_right (Nat.le_refl _),Nat.sub_self];rfl
theorem oQ {sp:Nat→aK} {c:Nat→List aK} {z:Nat} (hc:∀b,(c b).length=z) {i0:aK}:∀(k b:Nat) (pre post:List aK),pre.length=b→iT sp (pre++e_ (fun _=>i0) c z k b++post) (yf z k b)=pre++e_ sp c z k b++post∧∀j∈yf z k b,(pre++e_ (fun _=>i0) c z k b++post)[j]?=some i0
 |0,b,pre,post,_=>⟨rfl,fun j hj=>by cases hj⟩
 |k+1,b,pre,post,h=>by
  have ih:=oQ (sp:=sp) hc (i0:=i0) k (b+1+z) (pre++i0::c (b+1)) post (by rw[List.length_append,List.length_cons,hc];omega);have Cc:=oQ (sp:=sp) hc (i0:=i0) k (b+1+z) (pre++sp b::c (b+1)) post (by rw[List.length_append,List.length_cons,hc];omega);simp only[e_,yf];have e:pre++i0::(c (b+1)++e_ (fun _=>i0) c z k (b+1+z))++post=pre++i0::(c (b+1)++e_ (fun _=>i0) c z k (b+1+z)++post):=by simp
  have e2:pre++i0::c (b+1)++e_ (fun _=>i0) c z k (b+1+z)++post=pre++i0::(c (b+1)++e_ (fun _=>i0) c z k (b+1+z)++post):=by simp
  refine⟨?_,fun j hj=>?_⟩
  ·unfold iT at Cc⊢;rw[List.foldl_cons,e]
   have hs:(pre++i0::(c (b+1)++e_ (fun _=>i0) c z k (b+1+z)++post)).set b (sp b)=pre++sp b::c (b+1)++e_ (fun _=>i0) c z k (b+1+z)++post:=by
    rw[←h,re];simp
   rw[hs,Cc.1];simp
  ·rw[e]
   rcases List.mem_cons.1 hj with rfl|hj
   ·rw[←h];exact rn _ _ _
   ·rw[←e2];exact ih.2 j hj
theorem py {jp i0:aK}:∀(ts:aE) (b:Nat) (pre post:List aK),ts.ok→pre.length=b→iT (fun _=>jp) (pre++di i0 ts b++post) (tt ts b)=pre++di jp ts b++post∧∀j∈tt ts b,(pre++di i0 ts b++post)[j]?=some i0
 | .nil,b,pre,post,_,_=>⟨by simp[di,tt,iT],fun j hj=>by simp[tt] at hj⟩
 | .cons t ts,b,pre,post,cn,h=>by
  simp only[aE.ok] at cn
  by_cases q:ts.len=0
  ·simp only[di,tt,if_pos q];exact⟨rfl,fun j hj=>by cases hj⟩
  ·simp only[di,tt,if_neg q];generalize lX b (b+1+t.sz+1) false=sp;have hcl:=bw t (b+1) cn.1;have ih:=py (jp:=jp) (i0:=i0) ts (b+t.sz+2) (pre++sp::(aM t (b+1)++[i0])) post cn.2 (by simp only[List.length_append,List.length_cons,List.length_nil,hcl];omega);have Cc:=py (jp:=jp) (i0:=i0) ts (b+t.sz+2) (pre++sp::(aM t (b+1)++[jp])) post cn.2 (by simp only[List.length_append,List.length_cons,List.length_nil,hcl];omega);generalize di i0 ts (b+t.sz+2)=A at*;have e:pre++sp::(aM t (b+1)++i0::A)++post=(pre++sp::aM t (b+1))++i0::(A++post):=by simp
   have hl:(pre++sp::aM t (b+1)).length=b+1+t.sz:=by simp only[List.length_append,List.length_cons,hcl];omega
   refine⟨?_,fun j hj=>?_⟩
   ·unfold iT at Cc⊢;rw[List.foldl_cons,e,←hl,re];have:=Cc.1;simp only[List.append_assoc,List.cons_append,List.nil_append] at this⊢;exact this
   ·rw[e]
    rcases List.mem_cons.1 hj with rfl|hj
    ·rw[←hl];exact rn _ _ _
    ·have:=ih.2 j hj;simp only[List.append_assoc,List.cons_append,List.nil_append] at this⊢;exact this
def gb {α:Type} (L:List α) (at_:Nat) (M:List α):Prop:=∃post,L.drop at_=M++post
theorem gb.head {α:Type} {L M:List α} {a:α} {at_:Nat} (h:gb L at_ (a::M)):L[at_]?=some a:=by
 obtain⟨post,h⟩:=h;have:=congrArg (·[0]?) h
 simpa using this
theorem gb.tail {α:Type} {L M:List α} {a:α} {at_:Nat} (h:gb L at_ (a::M)):gb L (at_+1) M:=by
 obtain⟨post,h⟩:=h;refine⟨post,?_⟩;rw[←List.drop_drop,h];rfl
theorem gb.left {α:Type} {L M M':List α} {at_:Nat} (h:gb L at_ (M++M')):gb L at_ M:=by
 obtain⟨post,h⟩:=h;exact⟨M'++post,by rw[h,List.append_assoc]⟩
theorem gb.right {α:Type} {L M M':List α} {at_:Nat} (h:gb L at_ (M++M')):gb L (at_+M.length) M':=by
 obtain⟨post,h⟩:=h;refine⟨post,?_⟩;rw[←List.drop_drop,h,List.append_assoc,List.drop_left]
theorem gb.le {α:Type} {L M:List α} {at_:Nat} (h:gb L at_ M) (hM:M≠[]):at_+M.length≤L.length:=by
 obtain⟨post,h⟩:=h;have:=congrArg List.length h;simp only[List.length_drop,List.length_append] at this
 have:0<M.length:=by cases M with|nil=>exact absurd rfl hM|cons _ _=>simp
 omega
theorem gb.all {α:Type} (L:List α):gb L 0 L:=⟨[],by simp⟩
mutual
def Tr.zs:Tr→List Int
 | .mk n ks=>((min (br n ks.sz ks.len) 401:Nat):Int)::ks.zs
def aE.zs:aE→List Int
 | .nil=>[]
 | .cons t ts=>t.zs++ts.zs
end
mutual
def Tr.es:Tr→Nat→List Int
 | .mk n ks,at_=>((at_+1+ks.flat.length:Nat):Int)::ks.es (at_+1)
def aE.es:aE→Nat→List Int
 | .nil,_=>[]
 | .cons t ts,at_=>t.es at_++ts.es (at_+t.flat.length)
end
mutual
theorem Tr.jI:∀t:Tr,t.zs.length=t.flat.length
 | .mk n ks=>by simp[Tr.zs,Tr.flat,aE.jI ks]
theorem aE.jI:∀ts:aE,ts.zs.length=ts.flat.length
 | .nil=>rfl
 | .cons t ts=>by simp[aE.zs,aE.flat,Tr.jI t,aE.jI ts]
end
mutual
theorem Tr.jR:∀(t:Tr) (a:Nat),(t.es a).length=t.flat.length
 | .mk n ks,a=>by simp[Tr.es,Tr.flat,aE.jR ks]
theorem aE.jR:∀(ts:aE) (a:Nat),(ts.es a).length=ts.flat.length
 | .nil,_=>rfl
 | .cons t ts,a=>by simp[aE.es,aE.flat,Tr.jR t,aE.jR ts]
end
theorem Tr.jf (t:Tr):0<t.flat.length:=by cases t;simp[Tr.flat]
theorem aE.oX:∀ts:aE,ts.len≤ts.flat.length
 | .nil=>Nat.le_refl _
 | .cons t ts=>by
  have h1:=aE.oX ts;have h2:=t.jf;simp only[aE.len,aE.flat,List.length_append];omega
end Go.Proofs.YthahmilhpmfkfaaGreat
namespace Go.V
variable{N:Nat} {S st:St} {H:List aZ}
theorem cN.at_ {α β:Type} {R:α→β→Prop}:∀{l:List α} {m:List β} {i:Nat} {b:β},cN R l m→m[i]?=some b→∃a,l[i]?=some a∧R a b
 |_,_,_,_,.nil,h=>by simp at h
 |_,_,0,_,.cons a t,h=>by simp only[List.getElem?_cons_zero,Option.some.injEq] at h;subst h;exact⟨_,rfl,a⟩
 |_,_,i+1,_,.cons a t,h=>by simp only[List.getElem?_cons_succ] at h⊢;exact t.at_ h
theorem cN.set {α β:Type} {R:α→β→Prop} {a:α} {b:β} (r:R a b):∀{l:List α} {m:List β} (i:Nat),cN R l m→cN R (l.set i a) (m.set i b)
 |_,_,_,.nil=>.nil
 |_,_,0,.cons _ t=>.cons r t
 |_,_,i+1,.cons h t=>.cons h (t.set r i)
theorem cN.setMany {R:D→D→Prop}:∀{xs ys:List D} {c d:List D} (o:Nat),cN R xs ys→cN R c d→cN R (setMany c o xs) (setMany d o ys)
 |_,_,_,_,_,.nil,h=>h
 |_,_,_,_,o,.cons r t,h=>by simp only[Go.V.setMany];exact t.setMany (o+1) (h.set r o)
theorem cN.same {R:D→D→Prop}:∀{l:List D},(∀d∈l,R d d)→cN R l l
 |[],_=>.nil
 |d::l,h=>.cons (h d (List.mem_cons_self ..)) (cN.same fun x hx=>h x (List.mem_cons_of_mem _ hx))
theorem Has.OO {j:Nat} {x:D} {s:Nat} {bb:Bool} {ks:Nat→Prop} {vs:List (List D)} (hH:Has N S st H) (hj:H[j]?=some (.cv bb ks x s vs)):∃es,Rows st s x es∧es.length=vs.length:=by
 obtain⟨⟨es,h1,h2⟩,_⟩:=(hH.ok j _ hj).1;exact⟨es,h1.rows,h2.len⟩
theorem Has.Tk {j k au off len s:Nat} {bb:Bool} {ks:Nat→Prop} {vs:List (List D)} {i o:Nat} {v cs:List D} (h:Has N S st H) (hj:H[j]?=some (.cv bb ks (.win k au off len s) s vs)) (hi:vs[i]?=some v) (hl:o+cs.length≤s) (hp:∀d∈cs,b_ d=true) (hw:S.flr≤N∨refs cs=0) (Ch:(cs.all (fun d=>!(F7 d))||bb)=true):
  ∃ah,st.wr k au (off+i*s+o) cs=some ah∧Has N S ah (H.set j (.cv bb ks (.win k au off len s) s (vs.set i (setMany v o cs)))):=by
 obtain⟨⟨es,he1,Cm⟩,he3⟩:=(h.ok j _ hj).1;have hK:=(h.ok j _ hj).2;obtain⟨e,Xg,aC⟩:=Cm.at_ hi
 have Jc:Has N S st [.aB (.win k au off len s) s es]:=by
  refine⟨h.ex,h.hN,h.eG,fun i e hi=>?_,fun i i' a b hii ha hb k mq fQ=>?_⟩
  ·cases i with
   |zero=>simp only[List.getElem?_cons_zero,Option.some.injEq] at hi;subst hi;exact⟨he1,fun k hk=>hK k (.inl hk)⟩
   |succ i=>simp at hi
  ·cases i with
   |zero=>cases i' with
    |zero=>exact hii rfl
    |succ i'=>simp at hb
   |succ i=>simp at ha
 obtain⟨ah,q1,q2⟩:=Jc.vO (j:=0) aG Xg hl hw;refine⟨ah,q1,?_⟩;have hown:=q2.own (j:=0) aG
 have RN:(∀n,n≠k→ah.bs[n]?=st.bs[n]?)∧st.bs.length=ah.bs.length∧ah.flr=st.flr∧ah.ro=st.ro:=by
  unfold St.wr at q1
  split at q1
  ·split at q1
   ·cases q1;exact⟨fun n hn=>by simp only;rw[List.getElem?_set_ne (fun e=>hn e.symm)],by simp,rfl,rfl⟩
   ·cases q1
  ·cases q1
 obtain⟨c1,c2,c3,c4⟩:=RN;have hkk:=hK k (.inl (by simp only[D.ref]));have hne:∀n,ks n→n≠k:=fun n hn e=>he3 k (by simp only[D.ref]) (e▸hn);have yQ:∀n,ks n→ah.bs[n]?=st.bs[n]?:=fun n hn=>c1 n (hne n hn);refine h.vJ hj (fun n hn hnot=>c1 n fun e=>hnot (.inl (by simp only[D.ref];omega))) (Nat.le_of_eq c2) c3 c4 ⟨⟨_,hown,?_⟩,he3⟩ (fun n hn=>.inl hn) fun n hn=>?_
 ·refine cN.set ?_ i (Cm.mono fun a b=>cN.mono fun c d=>eP.move yQ);exact(cN.same fun d hd=>.plain d (hp d hd) (by cases bb with|true=>simp|false=>simp only[Bool.or_false,List.all_eq_true] at Ch⊢;exact Ch d hd)).setMany o (aC.mono fun c d=>eP.move yQ)
 ·rw[←c2];exact(hK n hn).2
variable{P:Pv} {ops:Array Oper} {rest:List Oper} {fr az:Fr} {Q:Fr→St→Prop} {ty:TypeId} {pp:String} {a:Array Edge} {g:Option (Nat×Bool)} {dst:Nat}
theorem ae.D6 {t e:TypeId} {xo:Operand} {x:D} {s j:Nat} {bb:Bool} {ks:Nat→Prop} {vs:List (List D)} (hH:Has N S st H) (hg:ax ops fr ⟨some dst,.call ⟨.builtin .len,#[xo],#[t]⟩,ty,pp,a,g⟩=some true) (hx:fr.ev xo=x) (hj:H[j]?=some (.cv bb ks x s vs)) (ht:P.bZ t=some (.slice e)) (hp:fr.put dst (.int .i64 (vs.length:Nat))=az)
  (h:ae P ops rest az st Q):ae P ops (⟨some dst,.call ⟨.builtin .len,#[xo],#[t]⟩,ty,pp,a,g⟩::rest) fr st Q:=by
 obtain⟨es,h1,h2⟩:=hH.OO hj;exact ae.iA hg hx h1 ht (by rw[h2];exact hp) h
theorem ae.GZ {t e:TypeId} {xo io:Operand} {x:D} {s i j:Nat} {kk:IntKind} {bb:Bool} {ks:Nat→Prop} {vs:List (List D)} {az:D→Fr} (hH:Has N S st H) (hg:ax ops fr ⟨some dst,.indexAddr t xo io,ty,pp,a,g⟩=some true) (hx:fr.ev xo=x) (hi:fr.ev io=.int kk (i:Nat)) (hj:H[j]?=some (.cv bb ks x s vs)) (ht:P.bZ t=some (.slice e)) (hs:bR P e=some s) (hr:i<vs.length) (hp:∀p,fr.put dst p=az p)
  (h:∀p,pC x s i 0 p→ae P ops rest (az p) st Q):ae P ops (⟨some dst,.indexAddr t xo io,ty,pp,a,g⟩::rest) fr st Q:=by
 obtain⟨⟨es,he1,Cm⟩,he3⟩:=(hH.ok j _ hj).1;have hlen:=Cm.len
 cases he1 with
 |nul=>simp at hlen;omega
 |win k au off es c hm hl hc he=>
  refine ae.go hg rfl (d:=.ptr k au (off+i*s)) (st1:=st) ?_ (hp _) (h _ ⟨k,au,off,_,rfl,rfl⟩);simp only[dE,hx,hi,bM,ht,hs,Option.bind_some,St.mem_of hm,Option.isSome_some];rw[if_pos ⟨trivial,by omega,by omega,trivial⟩];rfl
theorem ae.s9 {t:TypeId} {ao vo:Operand} {x y v:D} {s i o j:Nat} {bb:Bool} {ks:Nat→Prop} {vs:List (List D)} {r cs:List D} (hH:Has N S st H) (hg:ax ops fr ⟨none,.store t ao vo,ty,pp,a,g⟩=some true) (ha:fr.ev ao=y) (hv:fr.ev vo=v) (hR:pC x s i o y) (hcs:v.cells?=some cs) (hs:bR P t=some cs.length) (hj:H[j]?=some (.cv bb ks x s vs)) (hr:vs[i]?=some r) (hl:o+cs.length≤s) (hq:∀d∈cs,b_ d=true) (hw:S.flr≤N∨refs cs=0)
  (h:∀ah,Has N S ah (H.set j (.cv bb ks x s (vs.set i (setMany r o cs))))→ae P ops rest fr ah Q) (Cf:(cs.all (fun d=>!(F7 d))||bb)=true:=by rfl):ae P ops (⟨none,.store t ao vo,ty,pp,a,g⟩::rest) fr st Q:=by
 obtain⟨k,au,off,len,rfl,rfl⟩:=hR;obtain⟨ah,h1,h2⟩:=hH.Tk hj hr hl hq hw Cf;refine ae.N hg rfl (d:=.tup []) (st1:=ah) ?_ (h _ h2);simp only[dE,ha,hv,lp,hcs,hs,if_pos trivial,h1];rfl
theorem ai.LV {dy:Dy} {i:Nat} {l:List Oper} {d n loc tmp st} {Q:Out→Fr→St→Prop} (ws:List Nat) (F:(Nat→D)→Prop)
  (h1:ae P l.toArray l ⟨n,loc,[]⟩ st fun az ah=>∃f tmp,az=⟨n,bk loc ws f,tmp⟩∧ah=st∧F f) (h2:∀f tmp,F f→Q .next ⟨n,bk loc ws f,tmp⟩ st) (h0:gO i dy=[]:=by rfl):ai P dy (.region i l.toArray d) ⟨n,loc,tmp⟩ st Q:=by
 refine ai.dP ?_ h0;unfold ae at h1⊢;obtain⟨az,ah,h3,f,Kp,rfl,rfl,h4⟩:=h1;exact⟨_,_,h3,h2 _ _ h4⟩
theorem lE {n:Nat} {L loc:List D} {vL:List (Nat×D)} {ws:List Nat} {F:(Nat→D)→Prop} {st:St} (h:L=bk loc ws (fun k=>nth .bf L k)) (h2:F (fun k=>nth .bf L k)):∃(f:Nat→D) (tmp:List (Nat×D)),(⟨n,L,vL⟩:Fr)=⟨n,bk loc ws f,tmp⟩∧st=st∧F f:=⟨_,vL,by rw[←h],rfl,h2⟩
theorem ae.M1 {t1 t2:TypeId} {xo yo:Operand} {x y z:Int} (hg:ax ops fr ⟨some dst,.call ⟨.builtin .min,#[xo,yo],#[t1,t2]⟩,ty,pp,a,g⟩=some true) (hx:fr.ev xo=.int .i64 x) (hy:fr.ev yo=.int .i64 y) (hz:min x y=z) (hp:fr.put dst (.int .i64 z)=az) (h:ae P ops rest az st Q):ae P ops (⟨some dst,.call ⟨.builtin .min,#[xo,yo],#[t1,t2]⟩,ty,pp,a,g⟩::rest) fr st Q:=
 ae.KO (t1:=t1) (t2:=t2) hg hx hy (by rw[hz];exact hp) h
theorem Has.sD {N:Nat} {S s0 S2 st2:St} {H:List aZ} {x:D} {s:Nat} {es zA:List (List D)} (h:Has N S s0 (.aB x s es::H)) (hS:S2.bs=s0.bs) (h2:Has N S2 st2 (.aB x s zA::H)):Has N S ⟨st2.bs.take s0.bs.length,s0.flr,s0.ro⟩ (.aB x s zA::H):=by
 refine h.nX hS h2 fun i e hi=>?_
 cases i with
 |zero=>simp only[List.getElem?_cons_zero,Option.some.injEq] at hi;subst hi;exact⟨_,rfl,fun k hk=>hk⟩
 |succ i=>exact⟨e,hi,fun k hk=>hk⟩
theorem Has.yD {N:Nat} {S s0 S2 st2:St} {H:List aZ} {k:Nat} {b b':jo} {bb:Bool} {ks:Nat→Prop} {x:D} {s:Nat} {vs My:List (List D)} (h:Has N S s0 (.box k b::.cv bb ks x s vs::H)) (hS:S2.bs=s0.bs) (h2:Has N S2 st2 (.box k b'::.cv bb ks x s My::H)):Has N S ⟨st2.bs.take s0.bs.length,s0.flr,s0.ro⟩ (.box k b'::.cv bb ks x s My::H):=by
 refine h.nX hS h2 fun i e hi=>?_
 match i with
 |0=>simp only[List.getElem?_cons_zero,Option.some.injEq] at hi;subst hi;exact⟨_,rfl,fun k hk=>hk⟩
 |1=>simp only[List.getElem?_cons_succ,List.getElem?_cons_zero,Option.some.injEq] at hi;subst hi;exact⟨_,rfl,fun k hk=>hk⟩
 |i+2=>exact⟨e,hi,fun k hk=>hk⟩
theorem Has.H8 {N:Nat} {S st:St} {H:List aZ} {a b c d e:aZ} (h:Has N S st (a::b::c::d::e::H)):Has N S st (b::c::d::e::a::H):=by
 refine h.sub (fun i=>if i=4 then 0 else if i<4 then i+1 else i) (fun i j hij=>?_) (fun i x hi=>?_)
 ·(try simp only at hij)
  split at hij<;>split at hij<;>(try split at hij)<;>(try split at hij)<;>omega
 ·match i,hi with
  |0,hi=>exact hi
  |1,hi=>exact hi
  |2,hi=>exact hi
  |3,hi=>exact hi
  |4,hi=>exact hi
  |i+5,hi=>
   have h1:¬(i+5=4):=by omega
   have h2:¬(i+5<4):=by omega
   simp only[if_neg h1,if_neg h2];exact hi
theorem Has.l_ {fr:Fr} {a k au off j u u2:Nat} {t:TypeId} {ar:Bool} {c:List D} {d e e2:D} (hH:Has N S st H) (ha:fr.get a=.ptr k au off) (hj:H[j]?=some (.box k (.mem au ar c))) (hd:dj P t (c.drop off)=some d) (he:fr.get u=e) (Cm:fr.get u2=e2):ku P fr st [.cell a t,.tmp u,.tmp u2]=some [d,e,e2]:=by
 simp only[ku,fZ,ha,St.mem_of (hH.at hj),Option.bind_some,hd,Option.map_some,he,Cm]
theorem ai.oU {dy:Dy} {c1 c2:Code} {fr:Fr} {st:St} {Q:Out→Fr→St→Prop} (M:Fr→St→Prop) (h1:ai P dy c1 fr st (bn P dy c2 (Hx M Q))) (h2:∀az ah,M az ah→Q .next az ah):ai P dy c1 fr st (bn P dy c2 Q):=
 h1.mono fun o az ah h=>by
  cases o with
  |next=>exact ai.merge M h h2
  |exit i=>exact h
  |ret=>exact h
end Go.V
namespace Go.Proofs.YthahmilhpmfkfaaGreat
open Go.V Go
theorem D1 {st:St} {L n:Nat} {kn:Bool} {k au off len s:Nat}:aJ st L kn n (.win k au off len s)=aJ st L false n (.win k au off len s):=by
 cases n<;>rfl
theorem DY (l:List Rg):(l.map av).map (·.map nh)=l.map av:=by
 rw[List.map_map];rfl
theorem zL (l:List Rg):∀e∈l.map av,∀d∈e,mG d=true:=by
 intro e he d hd;obtain⟨x,_,rfl⟩:=List.mem_map.1 he;simp only[av,List.mem_cons,List.not_mem_nil,or_false] at hd
 rcases hd with rfl|rfl<;>rfl
theorem pX {N L j:Nat} {S st:St} {H:List aZ} {x:D} {l:List Rg} (hH:Has N S st H) (hj:H[j]?=some (.aB x 2 (l.map av))) (hx:∀k,x.ref=k+1→L≤k) {n:Nat} (hn:3≤n):aJ st L false n x=some (aQ l):=by
 rw[hH.rp hj hx (zL l) hn,DY,gK]
theorem iz {gs:List (Nat×Nat)} {s:eA} {r:Int}:(bV gs s r).o=s.o∧(bV gs s r).g=s.g∧(bV gs s r).e=s.e∧s.i≤(bV gs s r).i∧(s.i≤gs.length→(bV gs s r).i≤gs.length):=by
 unfold bV
 split
 ·rename_i h;have:=sJ h;exact⟨rfl,rfl,rfl,by show s.i≤s.i+1;omega,fun _=>by show s.i+1≤_;omega⟩
 ·exact⟨rfl,rfl,rfl,Nat.le_refl _,fun h=>h⟩
end Go.Proofs.YthahmilhpmfkfaaGreat
namespace Go.Proofs.YthahmilhpmfkfaaGreat
open Go.V Go
def nz (n:bp):Prop:=n.rd=aQ n.rs∧n.rs.length≤1048576∧n.kids≤1048576
def jM (op mn mx:Int) (lz:Bool) (cap kids:Int) (a:List Rg):bp:=⟨op,aQ a,a,mn,mx,lz,cap,kids⟩
def sx (l:List bp):D:=.sl ((l.map aH).map (kY 7))
theorem Is (l:List bp):∀e∈l.map aH,e.length=7:=by
 intro e he;obtain⟨x,_,rfl⟩:=List.mem_map.1 he;rfl
theorem mg {l:List bp} (h:∀n∈l,nz n):∀e∈l.map aH,∀d∈e,b_ d=true:=by
 intro e he d hd;obtain⟨n,hn,rfl⟩:=List.mem_map.1 he;have hr:=(h n hn).1;simp only[aH,hr,List.mem_cons,List.not_mem_nil,or_false] at hd
 rcases hd with rfl|rfl|rfl|rfl|rfl|rfl|rfl<;>rfl
theorem nR {l:List bp} (h:∀n∈l,nz n):gY (sx l) 7 (l.map aH):=gY.frozen (Is l) (mg h)
theorem MW {l:List bp} (h:∀n∈l,nz n) (hl:l.length≤1048576):(⟨sx l,l⟩:Nl).ok:=by
 refine⟨nR h,fun n hn=>?_,hl⟩;obtain⟨h1,h2,h3⟩:=h n hn;exact⟨by rw[h1];exact gJ _,h2,by omega⟩
theorem wj {l:List bp} (h:∀n∈l,nz n):(l.map aH).map (·.map nh)=l.map aH:=by
 rw[List.map_map];refine List.map_congr_left fun n hn=>?_;have hr:=(h n hn).1;show(aH n).map nh=aH n;unfold aH;rw[hr];rfl
theorem sv {l:List bp} (h:∀n∈l,nz n):∀e∈l.map aH,∀d∈e,mG d=true:=by
 intro e he d hd;have:=mg h e he d hd
 cases d<;>first|rfl|exact this
theorem jz {N L j:Nat} {S st:St} {H:List aZ} {x:D} {es:List (List D)} {l:List bp} (hH:Has N S st H) (hj:H[j]?=some (.aB x 7 es)) (he:es.map (·.map nh)=l.map aH) (ht:∀e∈es,∀d∈e,mG d=true) (hx:∀k,x.ref=k+1→L≤k) {n:Nat} (hn:3≤n):aJ st L false n x=some (sx l):=by
 rw[hH.rp hj hx ht hn,he];rfl
theorem jA {N L j:Nat} {S st:St} {H:List aZ} {x w:D} {op mn mx cap kids:Int} {lz:Bool} {a:List Rg} (hH:Has N S st H) (hj:H[j]?=some (.aB x 7 [[.int .i64 op,w,.int .i64 mn,.int .i64 mx,.bool lz,.int .i64 cap,.int .i64 kids]])) (hw:w=aQ a∨w=.nul∧a=[]) (hx:∀k,x.ref=k+1→L≤k):aJ st L false 16 x=some (sx [jM op mn mx lz cap kids a]):=by
 refine jz hH hj ?_ (fun e he d hd=>?_) hx (by decide)
 ·rcases hw with rfl|⟨rfl,rfl⟩<;>rfl
 ·simp only[List.mem_cons,List.not_mem_nil,or_false] at he;subst he;simp only[List.mem_cons,List.not_mem_nil,or_false] at hd
  rcases hw with rfl|⟨rfl,rfl⟩<;>rcases hd with rfl|rfl|rfl|rfl|rfl|rfl|rfl<;>rfl
theorem FO {op mn mx cap kids:Int} {lz:Bool} {a:List Rg} (h:a.length≤1048576) (hk:kids≤1048576):∀n∈[jM op mn mx lz cap kids a],nz n:=by
 intro n hn;simp only[List.mem_cons,List.not_mem_nil,or_false] at hn;subst hn;exact⟨rfl,h,hk⟩
end Go.Proofs.YthahmilhpmfkfaaGreat
namespace Go.Proofs.YthahmilhpmfkfaaGreat
open Go.V Go
def vG (gs:List (Nat×Nat)) (s s':eA):Prop:=s'.o=s.o∧s'.g=s.g∧s.i<s'.i∧s'.i≤gs.length
end Go.Proofs.YthahmilhpmfkfaaGreat
namespace Go.Proofs.YthahmilhpmfkfaaGreat
open Go.V Go
theorem rS:∀{l:List D},(∀d∈l,b_ d=true)→refs l=0
 |[],_=>rfl
 |d::l,h=>by
  have h1:=rS (l:=l) fun d hd=>h d (List.mem_cons_of_mem _ hd);have h2:=h d (List.mem_cons_self ..)
  have h3:d.ref=0:=by cases d<;>first|rfl|(simp[b_] at h2)
  simp only[refs,h1,h3,Nat.max_self]
theorem uG {l:List bp} (h:∀n∈l,nz n):refs (l.map aH).flatten=0:=
 rS fun d hd=>by
  obtain⟨e,he,zz⟩:=List.mem_flatten.1 hd;exact mg h e he d zz
def d_ (l:List bp):List D:=[sx l]
theorem x_ {l:List (List bp)} {i:Nat} {q:List bp} (h:l[i]?=some q):(l.map d_)[i]?=some (d_ q):=by rw[List.getElem?_map,h];rfl
def fH:List (List bp)→Nat
 |[]=>0
 |l::ls=>l.length+fH ls
theorem dR:∀a b:List (List bp),fH (a++b)=fH a+fH b
 |[],b=>by simp[fH]
 |l::a,b=>by rw[List.cons_append,fH,fH,dR a b];omega
end Go.Proofs.YthahmilhpmfkfaaGreat
namespace Go.Proofs.YthahmilhpmfkfaaGreat
open Go.V Go
theorem ov {N:Nat} {S st:St} {H:List aZ} {a b c:aZ} (h:Has N S st (a::b::c::H)):Has N S st (b::c::a::H):=by
 have h1:=h.front aV;have h2:=h1.front bE;exact h2.front aV
end Go.Proofs.YthahmilhpmfkfaaGreat
namespace Go.Proofs.YthahmilhpmfkfaaGreat
open Go.V Go
theorem rb {gs:List (Nat×Nat)} {s:eA} {r:Int} (h:eR gs s.i r=false):bV gs s r=s:=by
 unfold bV;rw[if_neg (by rw[h];simp)]
theorem nG {gs:List (Nat×Nat)} {s:eA} {r:Int} (h:eR gs s.i r=true):(bV gs s r).i=s.i+1:=by
 unfold bV;rw[if_pos h]
end Go.Proofs.YthahmilhpmfkfaaGreat
namespace Go.Proofs.YthahmilhpmfkfaaGreat
open Go.V Go
end Go.Proofs.YthahmilhpmfkfaaGreat
namespace Go.Proofs.YthahmilhpmfkfaaGreat
open Go.V Go
theorem Ht:∀(n:Nat) (b:List UInt8),b.length≤n→(pz b).length≤b.length∧∀g∈pz b,g.2≤b.length:=by
 intro n
 induction n with
 |zero=>
  intro b hb;have:b=[]:=List.length_eq_zero_iff.1 (by omega);subst this;rw[tu];exact⟨Nat.le_refl _,fun g hg=>by cases hg⟩
 |succ n ih=>
  intro b hb
  by_cases h:b=[]
  ·subst h;rw[tu];exact⟨Nat.le_refl _,fun g hg=>by cases hg⟩
  ·have hp:=nM b;have hl:=BS h;obtain⟨h1,h2⟩:=ih (b.drop (j5 b).2) (by rw[List.length_drop];omega);rw[List.length_drop] at h1 h2;rw[vF h];refine⟨by rw[List.length_cons];omega,fun g hg=>?_⟩
   rcases List.mem_cons.1 hg with rfl|hg
   ·exact hl
   ·have:=h2 g hg;omega
end Go.Proofs.YthahmilhpmfkfaaGreat
namespace Go.Proofs.YthahmilhpmfkfaaGreat
open Go.V Go
end Go.Proofs.YthahmilhpmfkfaaGreat
namespace Go.Proofs.YthahmilhpmfkfaaGreat
open Go.V Go
structure mE (X:Nat→Prop) (c:List aK) (b:Nat) (A:Nat→Prop) (g:Nat→Nat→Prop):Prop where
 hd:g b=A
 tl:g (b+c.length)=A
 xs:∀n,X n→b≤n→n≤b+c.length→g n=A
 st:∀j i,c[j]?=some i→(∀v∈dC (b+j) i,∃n:Nat,v=(n:Int)∧((b≤n∧n≤b+c.length∧∀s,g n s→g (b+j) s∨(i.op=4∧i.x=(s:Int)))∨(X n∧∀s,A s→g (b+j) s∨(i.op=4∧i.x=(s:Int)))))∧
  i.op≠7∧(i.op=4→∃k:Nat,1≤k∧(i.x=((2*k:Nat):Int)∨(i.x=((2*k+1:Nat):Int)∧g (b+j) (2*k))))
theorem mE.nil (X:Nat→Prop) (b:Nat) (A:Nat→Prop):mE X [] b A fun _=>A:=⟨rfl,rfl,fun _ _ _ _=>rfl,fun j i h=>by simp at h⟩
theorem mE.one {X:Nat→Prop} {b:Nat} {A:Nat→Prop} {i:aK} (h4:i.op≠4) (h7:i.op≠7) (h:∀v∈dC b i,∃n:Nat,v=(n:Int)∧(n=b+1∨X n)):mE X [i] b A fun _=>A:=by
 refine⟨rfl,rfl,fun _ _ _ _=>rfl,fun j i' hj=>?_⟩
 cases j with
 |succ j=>simp at hj
 |zero=>
  simp only[List.getElem?_cons_zero,Option.some.injEq] at hj;subst hj;refine⟨fun v hv=>?_,h7,fun h=>absurd h h4⟩;obtain⟨n,h1,h2⟩:=h v hv;refine⟨n,h1,?_⟩
  rcases h2 with rfl|h2
  ·exact .inl ⟨by omega,by simp,fun s hs=>.inl hs⟩
  ·exact .inr ⟨h2,fun s hs=>.inl hs⟩
theorem mE.ry {X Y:Nat→Prop} {c:List aK} {b:Nat} {A:Nat→Prop} {g:Nat→Nat→Prop} (h:mE X c b A g) (h1:∀n,X n→Y n) (h2:∀n,Y n→X n∨n≤b∨b+c.length≤n):mE Y c b A g:=by
 refine⟨h.hd,h.tl,fun n hn h3 h4=>?_,fun j i hj=>⟨fun v hv=>?_,(h.st j i hj).2⟩⟩
 ·rcases h2 n hn with h5|h5|h5
  ·exact h.xs n h5 h3 h4
  ·rw[show n=b by omega];exact h.hd
  ·rw[show n=b+c.length by omega];exact h.tl
 ·obtain⟨n,e,h5⟩:=(h.st j i hj).1 v hv;refine⟨n,e,?_⟩
  rcases h5 with h5|⟨h5,h6⟩
  ·exact .inl h5
  ·exact .inr ⟨h1 n h5,h6⟩
theorem mE.close {X Y:Nat→Prop} {c:List aK} {b:Nat} {A:Nat→Prop} {g:Nat→Nat→Prop} (h:mE X c b A g) (h1:∀n,Y n→X n) (h2:∀n,X n→Y n∨(b≤n∧n≤b+c.length)):mE Y c b A g:=by
 refine⟨h.hd,h.tl,fun n hn=>h.xs n (h1 n hn),fun j i hj=>⟨fun v hv=>?_,(h.st j i hj).2⟩⟩;obtain⟨n,e,h5⟩:=(h.st j i hj).1 v hv;refine⟨n,e,?_⟩
 rcases h5 with h5|⟨h5,h6⟩
 ·exact .inl h5
 ·rcases h2 n h5 with h7|⟨h7,h8⟩
  ·exact .inr ⟨h7,h6⟩
  ·exact .inl ⟨h7,h8,fun s hs=>h6 s (by rw[h.xs n h5 h7 h8] at hs;exact hs)⟩
theorem mE.append {X:Nat→Prop} {c d:List aK} {b e:Nat} {A:Nat→Prop} {g f:Nat→Nat→Prop} (h:mE X c b A g) (he:e=b+c.length) (k:mE X d e A f):mE X (c++d) b A fun n=>if n<e then g n else f n:=by
 subst he;have hm:∀n,b+c.length=n→g n=f n:=fun n hn=>by subst hn;rw[h.tl,k.hd]
 refine⟨?_,?_,fun n hn h1 h2=>?_,fun j i hj=>?_⟩
 ·show(if b<b+c.length then g b else f b)=A
  split
  ·exact h.hd
  ·rw[show b=b+c.length by omega];exact k.hd
 ·show(if b+(c++d).length<b+c.length then g _ else f _)=A;rw[if_neg (by rw[List.length_append];omega),List.length_append,←Nat.add_assoc];exact k.tl
 ·show(if n<b+c.length then g n else f n)=A;rw[List.length_append] at h2
  split
  ·exact h.xs n hn h1 (by omega)
  ·exact k.xs n hn (by omega) (by omega)
 ·by_cases hjl:j<c.length
  ·rw[List.getElem?_append_left hjl] at hj;obtain⟨h1,h2⟩:=h.st j i hj;have hg:(if b+j<b+c.length then g (b+j) else f (b+j))=g (b+j):=if_pos (by omega);simp only[hg];refine⟨fun v hv=>?_,h2⟩;obtain⟨n,e1,h3⟩:=h1 v hv;refine⟨n,e1,?_⟩
   rcases h3 with⟨h3,h4,h5⟩|h3
   ·refine .inl ⟨h3,by rw[List.length_append];omega,fun s hs=>h5 s ?_⟩
    split at hs
    ·exact hs
    ·rw[hm n (by omega)];exact hs
   ·exact .inr h3
  ·rw[List.getElem?_append_right (by omega)] at hj;obtain⟨h1,h2⟩:=k.st (j-c.length) i hj;have Ml:b+c.length+(j-c.length)=b+j:=by omega
   rw[Ml] at h1 h2;have hg:(if b+j<b+c.length then g (b+j) else f (b+j))=f (b+j):=if_neg (by omega);simp only[hg];refine⟨fun v hv=>?_,h2⟩;obtain⟨n,e1,h3⟩:=h1 v hv;refine⟨n,e1,?_⟩
   rcases h3 with⟨h3,h4,h5⟩|h3
   ·refine .inl ⟨by omega,by rw[List.length_append];omega,fun s hs=>h5 s ?_⟩;rw[if_neg (by omega)] at hs;exact hs
   ·exact .inr h3
theorem mE.group {c:List aK} {b:Nat} {A:Nat→Prop} {g:Nat→Nat→Prop} {k:Nat} {q w:aK} (hk:1≤k) (hq:q.op=4∧q.x=((2*k:Nat):Int)) (hw:w.op=4∧w.x=((2*k+1:Nat):Int)) (h:mE (fun _=>False) c (b+1) (fun s=>A s∨s=2*k) g):
  mE (fun _=>False) (q::(c++[w])) b A fun n=>if n≤b∨b+1+c.length<n then A else g n:=by
 have pV:∀(i:aK) (m:Nat),i.op=4→dC m i=[((m+1:Nat):Int)]:=fun i m hi=>by unfold dC;rw[if_neg (by omega),if_neg (by omega),if_neg (by omega)]
 refine⟨if_pos (.inl (by omega)),if_pos (.inr (by simp;omega)),fun n hn=>hn.elim,fun j i hj=>?_⟩
 cases j with
 |zero=>
  simp only[List.getElem?_cons_zero,Option.some.injEq] at hj;subst hj;refine⟨fun v hv=>?_,by rw[hq.1];decide,fun _=>⟨k,hk,.inl hq.2⟩⟩;rw[pV q _ hq.1] at hv;simp only[List.mem_cons,List.not_mem_nil,or_false] at hv;subst hv;refine⟨b+0+1,rfl,.inl ⟨by omega,by simp,fun s hs=>?_⟩⟩;rw[if_neg (by omega)] at hs;rw[show b+0+1=b+1 by omega,h.hd] at hs
  rcases hs with hs|rfl
  ·exact .inl (by rw[if_pos (.inl (by omega))];exact hs)
  ·exact .inr ⟨hq.1,hq.2⟩
 |succ j=>
  rw[List.getElem?_cons_succ] at hj
  by_cases hjl:j<c.length
  ·rw[List.getElem?_append_left hjl] at hj;obtain⟨h1,h2⟩:=h.st j i hj;have Ml:b+1+j=b+(j+1):=by omega
   rw[Ml] at h1 h2;have hg:(if b+(j+1)≤b∨b+1+c.length<b+(j+1) then A else g (b+(j+1)))=g (b+(j+1)):=if_neg (by omega);simp only[hg];refine⟨fun v hv=>?_,h2⟩;obtain⟨n,e1,h3⟩:=h1 v hv;refine⟨n,e1,?_⟩
   rcases h3 with⟨h3,h4,h5⟩|⟨h3,_⟩
   ·refine .inl ⟨by omega,by simp;omega,fun s hs=>h5 s ?_⟩;rw[if_neg (by omega)] at hs;exact hs
   ·exact h3.elim
  ·rw[List.getElem?_append_right (by omega)] at hj
   have WV:j=c.length:=by
    rcases Nat.eq_or_lt_of_le (show c.length≤j by omega) with h'|h'
    ·exact h'.symm
    ·rw[List.getElem?_eq_none (by simp;omega)] at hj;cases hj
   subst WV;simp only[Nat.sub_self,List.getElem?_cons_zero,Option.some.injEq] at hj;subst hj;have hg:(if b+(c.length+1)≤b∨b+1+c.length<b+(c.length+1) then A else g (b+(c.length+1)))=g (b+(c.length+1)):=if_neg (by omega);have ht:g (b+(c.length+1))=fun s=>A s∨s=2*k:=by rw[←h.tl];congr 1;omega
   refine⟨fun v hv=>?_,by rw[hw.1];decide,fun _=>⟨k,hk,.inr ⟨hw.2,by rw[hg,ht];exact .inr rfl⟩⟩⟩;rw[pV w _ hw.1] at hv;simp only[List.mem_cons,List.not_mem_nil,or_false] at hv;subst hv;refine⟨b+(c.length+1)+1,rfl,.inl ⟨by omega,by simp;omega,fun s hs=>?_⟩⟩;rw[if_pos (.inr (by omega))] at hs;rw[hg,ht];exact .inl (.inl hs)
theorem mE.jp {b e:Nat} {X:Nat→Prop} (A:Nat→Prop) (he:X e):mE X [j9 e] b A fun _=>A:=by
 refine mE.one (by simp[j9,cH]) (by simp[j9,cH]) fun v hv=>?_;simp only[dC,j9,cH,if_true,List.mem_cons,List.not_mem_nil,or_false] at hv;rw[if_neg (by decide)] at hv;simp only[List.mem_cons,List.not_mem_nil,or_false] at hv;exact⟨e,hv,.inr he⟩
theorem mE.sp {b o:Nat} {lz:Bool} {X:Nat→Prop} (A:Nat→Prop) (he:X o):mE X [lX b o lz] b A fun _=>A:=by
 have h2:(lX b o lz).op=2:=by unfold lX;split<;>rfl
 refine mE.one (by omega) (by omega) fun v hv=>?_;unfold dC at hv;rw[if_pos h2] at hv;unfold lX at hv
 split at hv
 ·simp only[cH,List.mem_cons,List.not_mem_nil,or_false] at hv
  rcases hv with rfl|rfl
  ·exact⟨o,rfl,.inr he⟩
  ·exact⟨b+1,rfl,.inl rfl⟩
 ·simp only[cH,List.mem_cons,List.not_mem_nil,or_false] at hv
  rcases hv with rfl|rfl
  ·exact⟨b+1,rfl,.inl rfl⟩
  ·exact⟨o,rfl,.inr he⟩
def fk (X:Nat→Prop) (c:List aK) (b:Nat) (A:Nat→Prop):Prop:=∃g,mE X c b A g
theorem fk.append {X:Nat→Prop} {c d:List aK} {b e:Nat} {A:Nat→Prop} (h:fk X c b A) (he:e=b+c.length) (k:fk X d e A):fk X (c++d) b A:=by
 obtain⟨g,h⟩:=h;obtain⟨f,k⟩:=k;exact⟨_,h.append he k⟩
theorem xU {A:Nat→Prop} {c:Nat→List aK} {z:Nat} (hl:∀b,(c b).length=z) (hc:∀b,fk (fun _=>False) (c b) b A):∀k b,fk (fun _=>False) (eZ c z k b) b A
 |0,b=>⟨_,.nil _ b A⟩
 |k+1,b=>(hc b).append (by rw[hl]) (xU hl hc k (b+z))
theorem yg {A:Nat→Prop} {c:Nat→List aK} {z e:Nat} {lz:Bool} (hl:∀b,(c b).length=z) (hc:∀b,fk (fun _=>False) (c b) b A):∀k b,b+k*(z+1)≤e→fk (fun n=>n=e) (e_ (fun s=>lX s e lz) c z k b) b A
 |0,b,_=>⟨_,.nil _ b A⟩
 |k+1,b,he=>by
  rw[Nat.add_mul] at he;obtain⟨g,hg⟩:=hc (b+1)
  have h1:fk (fun n=>n=e) (c (b+1)) (b+1) A:=⟨g,hg.ry (fun n h=>h.elim) fun n h=>.inr (.inr (by rw[hl];omega))⟩
  have h2:=h1.append (e:=b+1+z) (by rw[hl]) (yg (lz:=lz) hl hc k (b+1+z) (by omega));exact fk.append (c:=[_]) ⟨_,mE.sp A rfl⟩ (e:=b+1) rfl h2
theorem fk.ry {X Y:Nat→Prop} {c:List aK} {b:Nat} {A:Nat→Prop} (h:fk X c b A) (h1:∀n,X n→Y n) (h2:∀n,Y n→X n∨n≤b∨b+c.length≤n):fk Y c b A:=by
 obtain⟨g,h⟩:=h;exact⟨g,h.ry h1 h2⟩
theorem fk.close {X Y:Nat→Prop} {c:List aK} {b:Nat} {A:Nat→Prop} (h:fk X c b A) (h1:∀n,Y n→X n) (h2:∀n,X n→Y n∨(b≤n∧n≤b+c.length)):fk Y c b A:=by
 obtain⟨g,h⟩:=h;exact⟨g,h.close h1 h2⟩
theorem E8 {A:Nat→Prop} {n:bp} {c:Nat→List aK} {z:Nat} (hl:∀b,(c b).length=z) (hc:∀b,fk (fun _=>False) (c b) b A) (b:Nat):fk (fun _=>False) (mS n c z b) b A:=by
 have hr:=xU hl hc n.mn.toNat b;have DM:(eZ c z n.mn.toNat b).length=n.mn.toNat*z:=iU hl _ _;unfold mS
 split
 ·refine hr.append (e:=b+n.mn.toNat*z) (by rw[DM]) ?_;generalize b+n.mn.toNat*z=s;have h1:fk (fun n=>n=s∨n=s+z+2) (c (s+1)) (s+1) A:=(hc (s+1)).ry (fun n h=>h.elim) fun n h=>by rw[hl];omega
  have h2:fk (fun n=>n=s∨n=s+z+2) [j9 s] (s+1+z) A:=⟨_,mE.jp A (.inl rfl)⟩
  have h3:=fk.append (c:=[lX s (s+z+2) n.lz]) (b:=s) ⟨_,mE.sp A (.inr rfl)⟩ (e:=s+1) rfl (h1.append (by rw[hl]) h2);refine fk.close h3 (fun n h=>h.elim) fun n h=>.inr ?_;simp only[List.length_append,List.length_cons,List.length_nil,hl];omega
 ·refine hr.append (e:=b+n.mn.toNat*z) (by rw[DM]) ?_;generalize b+n.mn.toNat*z=s;have h1:=yg (lz:=n.lz) (e:=s+(n.mx.toNat-n.mn.toNat)*(z+1)) hl hc (n.mx.toNat-n.mn.toNat) s (Nat.le_refl _);refine fk.close h1 (fun n h=>h.elim) fun n h=>.inr ?_;rw[nL hl];omega
mutual
theorem pt:∀(t:Tr) (b:Nat) (A:Nat→Prop),t.ok→fk (fun _=>False) (aM t b) b A
 | .mk n ks,b,A,h=>by
  have hlen:=bw (.mk n ks) b h;simp only[Tr.ok] at h;obtain⟨h1,h2⟩:=h;have hcl:=fun b=>lP ks b h2
  have pV:∀(op x y:Int) (rs:List Rg) (m:Nat),op≠2→op≠3→op≠7→∀v∈dC m (cH op x y rs),∃n:Nat,v=(n:Int)∧(n=m+1∨False):=by
   intro op x y rs m a1 a2 a3 v hv;unfold dC at hv;rw[if_neg (show¬(cH op x y rs).op=2 from a1),if_neg (show¬(cH op x y rs).op=3 from a2),if_neg (show¬(cH op x y rs).op=7 from a3)] at hv;simp only[List.mem_cons,List.not_mem_nil,or_false] at hv;exact⟨m+1,hv,.inl rfl⟩
  simp only[aM]
  split
  ·exact⟨_,mE.one (by simp[cH]) (by simp[cH]) (pV 1 0 0 _ b (by decide) (by decide) (by decide))⟩
  ·split
   ·exact⟨_,mE.one (by simp[cH]) (by simp[cH]) (pV 5 0 0 _ b (by decide) (by decide) (by decide))⟩
   ·split
    ·exact⟨_,mE.one (by simp[cH]) (by simp[cH]) (pV 6 0 0 _ b (by decide) (by decide) (by decide))⟩
    ·split
     ·exact om ks b A h2
     ·split
      ·rename_i h4;have hz:br n ks.sz ks.len=ks.sz+2*(ks.len-1):=by unfold br;rw[if_neg (by omega),if_pos h4]
       have ha:=ou (j9 (b+br n ks.sz ks.len)) ks b h2;refine fk.close (X:=fun m=>m=b+br n ks.sz ks.len) ?_ (fun n h=>h.elim) fun m hm=>.inr ?_
       ·exact zq _ ks b A h2 (by rw[ha,hz];omega)
       ·rw[ha];rw[hz] at hm;omega
      ·split
       ·exact E8 hcl (fun b=>om ks b A h2) b
       ·split
        ·rename_i h6;obtain⟨g,hg⟩:=om ks (b+1) (fun s=>A s∨s=2*n.cap.toNat) h2
         have lI:1≤n.cap:=by
          rcases h1.2 with h|h|h|h|h<;>omega
         exact⟨_,mE.group (k:=n.cap.toNat) (by omega) ⟨rfl,by show 2*n.cap=_;omega⟩ ⟨rfl,by show 2*n.cap+1=_;omega⟩ hg⟩
        ·exact⟨_,.nil _ b A⟩
theorem om:∀(ts:aE) (b:Nat) (A:Nat→Prop),ts.ok→fk (fun _=>False) (eo ts b) b A
 | .nil,b,A,_=>by simp only[eo];exact⟨_,.nil _ b A⟩
 | .cons t ts,b,A,h=>by
  simp only[aE.ok] at h;simp only[eo];exact(pt t b A h.1).append (by rw[bw t b h.1]) (om ts (b+t.sz) A h.2)
theorem zq (e:Nat):∀(ts:aE) (b:Nat) (A:Nat→Prop),ts.ok→b+(di (j9 e) ts b).length≤e→fk (fun n=>n=e) (di (j9 e) ts b) b A
 | .nil,b,A,_,_=>by simp only[di];exact⟨_,.nil _ b A⟩
 | .cons t ts,b,A,h,he=>by
  simp only[aE.ok] at h;simp only[di] at he⊢
  split
  ·rename_i h0;rw[if_pos h0] at he;exact(pt t b A h.1).ry (fun n h=>h.elim) fun n hn=>.inr (.inr (by omega))
  ·rename_i h0;rw[if_neg h0] at he;simp only[List.length_cons,List.length_append,bw t (b+1) h.1] at he;have h1:fk (fun n=>n=e∨n=b+1+t.sz+1) (aM t (b+1)) (b+1) A:=(pt t (b+1) A h.1).ry (fun n h=>h.elim) fun n hn=>.inr (.inr (by rw[bw t (b+1) h.1];omega));have h2:fk (fun n=>n=e∨n=b+1+t.sz+1) (di (j9 e) ts (b+t.sz+2)) (b+t.sz+2) A:=(zq e ts (b+t.sz+2) A h.2 (by omega)).ry (fun n h=>.inl h) fun n hn=>by omega
   have h3:fk (fun n=>n=e∨n=b+1+t.sz+1) (j9 e::di (j9 e) ts (b+t.sz+2)) (b+1+t.sz) A:=fk.append (c:=[j9 e]) ⟨_,mE.jp A (.inl rfl)⟩ (e:=b+t.sz+2) (by simp only[List.length_cons,List.length_nil];omega) h2;have h4:=fk.append (c:=[lX b (b+1+t.sz+1) false]) (b:=b) ⟨_,mE.sp A (.inr rfl)⟩ (e:=b+1) rfl (h1.append (by rw[bw t (b+1) h.1]) h3);refine fk.close h4 (fun n h=>.inl h) fun n hn=>?_
   rcases hn with hn|hn
   ·exact .inl hn
   ·refine .inr ?_;simp only[List.length_append,List.length_cons,List.length_nil,bw t (b+1) h.1];omega
end
end Go.Proofs.YthahmilhpmfkfaaGreat
namespace Go.Proofs.YthahmilhpmfkfaaGreat
open Go.V Go
def v_ (n:bp):Bool:=((n.op==2)||((n.rs.length:Nat):Int)==0) &&((n.op==5)||((n.mn==0) &&(n.mx==0) &&!n.lz)) &&((n.op==6)||(n.cap==0))
noncomputable def fI (n:bp) (g:Int):Int×Bool:=
 if v_ n=false then(0,false)
 else if n.op=1∨n.op=7∨n.op=8 then(0,n.kids==0)
 else if n.op=2 then(0,(n.kids==0) &&gH n.rs)
 else if n.op=3∨n.op=4 then(n.kids,decide (n.kids≥2))
 else if n.op=5 then(1,(n.kids==1) &&decide (n.mn≥0) &&decide (n.mn≤30) &&((n.mx==-1)||(decide (n.mx≥n.mn) &&decide (n.mx≤30))))
 else if n.op=6 then(1,(n.kids==1) &&(n.cap==g+1) &&decide (n.cap≤4))
 else(0,false)
def j8 (h:Nat→Nat→Option (Nat×Nat)):Nat→Nat→Nat→Option (Nat×Nat)
 |0,at_,g=>some (at_,g)
 |k+1,at_,g=>match h at_ g with
  |some r=>j8 h k r.1 r.2
  |none=>none
noncomputable def iX (l:List bp):Nat→Nat→Nat→Option (Nat×Nat)
 |0,_,_=>none
 |f+1,at_,g=>match l[at_]? with
  |none=>none
  |some n=>if(fI n (g:Nat)).2=true then j8 (iX l f) (fI n (g:Nat)).1.toNat (at_+1) (if n.op=6 then g+1 else g) else none
theorem xE {n:bp} {g:Nat} (h:(fI n (g:Nat)).2=true):uH n (fI n (g:Nat)).1.toNat∧0≤(fI n (g:Nat)).1∧(n.op=6→n.cap=g+1∧n.cap≤4):=by
 unfold fI at h⊢;unfold uH
 by_cases h0:v_ n=false
 ·rw[if_pos h0] at h;cases h
 rw[if_neg h0] at h⊢
 by_cases h1:n.op=1∨n.op=7∨n.op=8
 ·rw[if_pos h1] at h⊢;simp only[beq_iff_eq] at h;exact⟨⟨h,.inl ⟨h1,rfl⟩⟩,Int.le_refl _,fun h6=>by omega⟩
 rw[if_neg h1] at h⊢
 by_cases h2:n.op=2
 ·rw[if_pos h2] at h⊢;simp only[Bool.and_eq_true,beq_iff_eq] at h;exact⟨⟨h.1,.inr (.inl ⟨h2,rfl⟩)⟩,Int.le_refl _,fun h6=>by omega⟩
 rw[if_neg h2] at h⊢
 by_cases h3:n.op=3∨n.op=4
 ·rw[if_pos h3] at h⊢;simp only[decide_eq_true_eq] at h;exact⟨⟨by simp only;omega,.inr (.inr (.inl ⟨h3,by simp only;omega⟩))⟩,by simp only;omega,fun h6=>by omega⟩
 rw[if_neg h3] at h⊢
 by_cases h5:n.op=5
 ·rw[if_pos h5] at h⊢;simp only[Bool.and_eq_true,Bool.or_eq_true,beq_iff_eq,decide_eq_true_eq] at h;exact⟨⟨by simp only;omega,.inr (.inr (.inr (.inl ⟨h5,by simp only;rfl,by omega,by omega,by omega⟩)))⟩,by simp only;omega,fun h6=>by omega⟩
 rw[if_neg h5] at h⊢
 by_cases h6:n.op=6
 ·rw[if_pos h6] at h⊢;simp only[Bool.and_eq_true,beq_iff_eq,decide_eq_true_eq] at h;exact⟨⟨by simp only;omega,.inr (.inr (.inr (.inr ⟨h6,by simp only;rfl,by omega,by omega⟩)))⟩,by simp only;omega,fun _=>⟨h.1.2,h.2⟩⟩
 rw[if_neg h6] at h;cases h
theorem gb.cons {α:Type} {L M:List α} {a:α} {at_:Nat} (h:L[at_]?=some a) (h2:gb L (at_+1) M):gb L at_ (a::M):=by
 obtain⟨post,h2⟩:=h2;refine⟨post,?_⟩;have h3:L[at_]'(bX h)=a:=Option.some.inj ((List.getElem?_eq_getElem _).symm.trans h);rw[List.drop_eq_getElem_cons (bX h),h2,h3];rfl
theorem gb.append {α:Type} {L M M':List α} {at_:Nat} (h:gb L at_ M) (h2:gb L (at_+M.length) M'):gb L at_ (M++M'):=by
 obtain⟨post,h⟩:=h;obtain⟨MO,h2⟩:=h2;refine⟨MO,?_⟩;rw[←List.drop_drop,h,List.drop_left] at h2;rw[h,h2,List.append_assoc]
theorem gb.none {α:Type} (L:List α) (at_:Nat):gb L at_ []:=⟨_,rfl⟩
theorem uR {l:List bp} {h:Nat→Nat→Option (Nat×Nat)} (ih:∀at_ g r,h at_ g=some r→∃t:Tr,t.ok∧gb l at_ t.flat∧r.1=at_+t.flat.length):∀k at_ g r,j8 h k at_ g=some r→∃ts:aE,ts.len=k∧ts.ok∧gb l at_ ts.flat∧r.1=at_+ts.flat.length
 |0,at_,g,r,e=>by
  simp only[j8,Option.some.injEq] at e;subst e;exact⟨.nil,rfl,trivial,gb.none _ _,by simp[aE.flat]⟩
 |k+1,at_,g,r,e=>by
  unfold j8 at e
  cases hq:h at_ g with
  |none=>rw[hq] at e;cases e
  |some q=>
   rw[hq] at e;obtain⟨t,t1,t2,t3⟩:=ih _ _ _ hq;obtain⟨ts,u1,u2,u3,u4⟩:=uR ih k _ _ _ e;rw[t3] at u3 u4;exact⟨.cons t ts,by simp[aE.len,u1],by simp only[aE.ok];exact⟨t1,u2⟩,by simp only[aE.flat];exact t2.append u3,by rw[u4];simp only[aE.flat,List.length_append];omega⟩
theorem yi {l:List bp}:∀f at_ g r,iX l f at_ g=some r→∃t:Tr,t.ok∧gb l at_ t.flat∧r.1=at_+t.flat.length
 |0,_,_,_,e=>by simp[iX] at e
 |f+1,at_,g,r,e=>by
  unfold iX at e
  cases hn:l[at_]? with
  |none=>rw[hn] at e;cases e
  |some n=>
   rw[hn] at e;simp only at e
   split at e
   ·rename_i hs;obtain⟨ts,u1,u2,u3,u4⟩:=uR (yi f) _ _ _ _ e;have:=(xE hs).1;rw[←u1] at this;exact⟨.mk n ts,by simp only[Tr.ok];exact⟨this,u2⟩,by simp only[Tr.flat];exact gb.cons hn u3,by rw[u4];simp only[Tr.flat,List.length_cons];omega⟩
   ·cases e
noncomputable def fJ (l:List bp):Bool:=(decide (1≤l.length) &&decide (l.length≤480)) &&(match iX l 241 0 0 with|some r=>decide (r.1=l.length)|none=>false)
theorem rR {l:List bp} (h:fJ l=true):∃t:Tr,t.ok∧t.flat=l:=by
 unfold fJ at h;simp only[Bool.and_eq_true] at h;obtain⟨_,h⟩:=h
 split at h
 ·rename_i r hr;obtain⟨t,h1,⟨post,h2⟩,h3⟩:=yi _ _ _ _ hr;rw[decide_eq_true_eq] at h;refine⟨t,h1,?_⟩;rw[List.drop_zero] at h2;have h4:=congrArg List.length h2;rw[List.length_append] at h4;have h5:post=[]:=List.length_eq_zero_iff.1 (by omega);rw[h2,h5,List.append_nil]
 ·cases h
noncomputable def cq (l:List bp):Tr:=@dite _ (∃t:Tr,t.ok∧t.flat=l) (Classical.propDecidable _) (fun h=>Classical.choose h) (fun _=>.mk ⟨0,.nul,[],0,0,false,0,0⟩ .nil)
theorem nD {l:List bp} (h:fJ l=true):(cq l).ok∧(cq l).flat=l:=by
 unfold cq;rw[dif_pos (rR h)];exact Classical.choose_spec (rR h)
end Go.Proofs.YthahmilhpmfkfaaGreat
namespace Go.Proofs.YthahmilhpmfkfaaGreat
open Go.V Go
theorem JD {n:bp} {k s:Nat}:min (br n (min s 401) k) 401=min (br n s k) 401:=by
 by_cases hs:s≤401
 ·rw[Nat.min_eq_left hs]
 ·have hx:min s 401=401:=by omega
  rw[hx];unfold br
  split
  ·rfl
  ·split
   ·omega
   ·split
    ·omega
    ·split
     ·split
      ·omega
      ·by_cases h0:n.mn.toNat=0
       ·rw[h0]
        by_cases hd:n.mx.toNat-0=0
        ·rw[hd];simp
        ·have h1:=Nat.le_mul_of_pos_left (401+1) (show 0<n.mx.toNat-0 by omega);have h2:=Nat.le_mul_of_pos_left (s+1) (show 0<n.mx.toNat-0 by omega);omega
       ·have h1:=Nat.le_mul_of_pos_left 401 (show 0<n.mn.toNat by omega);have h2:=Nat.le_mul_of_pos_left s (show 0<n.mn.toNat by omega);omega
     ·omega
def eW (t:Tr) (b r:Nat):List aK:=cH 4 0 0 []::(aM t (b+1)++[cH 4 1 0 [],cH 7 (r:Nat) 0 []])
theorem lZ {t:Tr} {b r:Nat} (h:t.ok):(eW t b r).length=t.sz+3:=by
 unfold eW;rw[List.length_cons,List.length_append,bw t _ h];rfl
structure iK where
 code:List aK
 aF:List Int
 e:Int
 w:Int
noncomputable def gB:List (List bp)→Nat→List aK→List Int→iK
 |[],_,c,s=>⟨c,s,0,0⟩
 |l::ls,r,c,s=>if fJ l=false then⟨[],[],1,(r:Nat)⟩ else if 400<c.length+min (cq l).sz 401+3 then⟨[],[],12,(r:Nat)⟩ else gB ls (r+1) (c++eW (cq l) c.length r) (s++[((c.length:Nat):Int)])
noncomputable def bc (rules:List (List bp)):iK:=if 8<rules.length then⟨[],[],13,8⟩ else gB rules 0 [] []
def mb (code:List aK) (aF:List Int):Pg:=⟨.sl ((code.map aX).map (kY 4)),code,J0 aF,aF⟩
def kf (i:aK):Prop:=i.rd=.sl ((i.rs.map av).map (kY 2))∧i.rs.length≤1048576
theorem nU (op x y:Int):kf (cH op x y []):=⟨rfl,by simp[cH]⟩
theorem MZ (op x y:Int) {rs:List Rg} (h:rs.length≤1048576):kf (cH op x y rs):=⟨rfl,h⟩
theorem EW (s o:Nat) (lz:Bool):kf (lX s o lz):=by unfold lX;split<;>exact nU _ _ _
theorem JZ (e:Nat):kf (j9 e):=nU _ _ _
theorem AL {code:List aK} (h:∀i∈code,kf i):∀e∈code.map aX,∀d∈e,b_ d=true:=by
 intro e he d hd;obtain⟨q,hq,rfl⟩:=List.mem_map.1 he;have hr:=(h q hq).1;simp only[aX,hr,List.mem_cons,List.not_mem_nil,or_false] at hd
 rcases hd with rfl|rfl|rfl|rfl<;>rfl
theorem IG (code:List aK):∀e∈code.map aX,e.length=4:=by
 intro e he;obtain⟨q,_,rfl⟩:=List.mem_map.1 he;rfl
theorem Fp {code:List aK} {aF:List Int} (h:∀i∈code,kf i) (h1:code.length≤1048576) (h2:aF.length≤1048576):(mb code aF).ok:=by
 refine⟨gY.frozen (IG code) (AL h),F8 _,fun i hi=>?_,h1,h2⟩;obtain⟨h3,h4⟩:=h i hi;refine⟨?_,h4⟩;rw[h3];exact gY.frozen (oO _) (fX _)
theorem Ac {c:Nat→List aK} {z:Nat} (hc:∀b,∀i∈c b,kf i):∀k b,∀i∈eZ c z k b,kf i
 |0,b,i,hi=>by cases hi
 |k+1,b,i,hi=>by
  simp only[eZ] at hi
  rcases List.mem_append.1 hi with hi|hi
  ·exact hc b i hi
  ·exact Ac hc k _ i hi
theorem Fx {sp:Nat→aK} {c:Nat→List aK} {z:Nat} (hs:∀s,kf (sp s)) (hc:∀b,∀i∈c b,kf i):∀k b,∀i∈e_ sp c z k b,kf i
 |0,b,i,hi=>by cases hi
 |k+1,b,i,hi=>by
  simp only[e_] at hi
  rcases List.mem_cons.1 hi with rfl|hi
  ·exact hs _
  ·rcases List.mem_append.1 hi with hi|hi
   ·exact hc _ i hi
   ·exact Fx hs hc k _ i hi
mutual
theorem rr:∀(t:Tr) (b:Nat),(∀n∈t.flat,n.rs.length≤1048576)→∀i∈aM t b,kf i
 | .mk n ks,b,h,i,hi=>by
  simp only[Tr.flat] at h;have hn:=h n (List.mem_cons_self ..);have hk:∀n∈ks.flat,n.rs.length≤1048576:=fun m hm=>h m (List.mem_cons_of_mem _ hm);have hc:=fun b=>Hc ks b hk;have ha:=fun jp (hj:kf jp) b=>Hp jp hj ks b hk;simp only[aM] at hi
  split at hi
  ·simp only[List.mem_cons,List.not_mem_nil,or_false] at hi;subst hi;exact MZ _ _ _ hn
  split at hi
  ·simp only[List.mem_cons,List.not_mem_nil,or_false] at hi;subst hi;exact nU _ _ _
  split at hi
  ·simp only[List.mem_cons,List.not_mem_nil,or_false] at hi;subst hi;exact nU _ _ _
  split at hi
  ·exact hc b i hi
  split at hi
  ·exact ha _ (JZ _) b i hi
  split at hi
  ·unfold mS at hi
   split at hi
   ·rcases List.mem_append.1 hi with hi|hi
    ·exact Ac hc _ _ i hi
    ·rcases List.mem_cons.1 hi with rfl|hi
     ·exact EW _ _ _
     ·rcases List.mem_append.1 hi with hi|hi
      ·exact hc _ i hi
      ·simp only[List.mem_cons,List.not_mem_nil,or_false] at hi;subst hi;exact JZ _
   ·rcases List.mem_append.1 hi with hi|hi
    ·exact Ac hc _ _ i hi
    ·exact Fx (fun s=>EW _ _ _) hc _ _ i hi
  split at hi
  ·rcases List.mem_cons.1 hi with rfl|hi
   ·exact nU _ _ _
   ·rcases List.mem_append.1 hi with hi|hi
    ·exact hc _ i hi
    ·simp only[List.mem_cons,List.not_mem_nil,or_false] at hi;subst hi;exact nU _ _ _
  ·cases hi
theorem Hc:∀(ts:aE) (b:Nat),(∀n∈ts.flat,n.rs.length≤1048576)→∀i∈eo ts b,kf i
 | .nil,b,_,i,hi=>by simp[eo] at hi
 | .cons t ts,b,h,i,hi=>by
  simp only[aE.flat] at h;simp only[eo] at hi
  rcases List.mem_append.1 hi with hi|hi
  ·exact rr t b (fun n hn=>h n (List.mem_append_left _ hn)) i hi
  ·exact Hc ts _ (fun n hn=>h n (List.mem_append_right _ hn)) i hi
theorem Hp (jp:aK) (hj:kf jp):∀(ts:aE) (b:Nat),(∀n∈ts.flat,n.rs.length≤1048576)→∀i∈di jp ts b,kf i
 | .nil,b,_,i,hi=>by simp[di] at hi
 | .cons t ts,b,h,i,hi=>by
  simp only[aE.flat] at h;have h1:∀n∈t.flat,n.rs.length≤1048576:=fun n hn=>h n (List.mem_append_left _ hn);have h2:∀n∈ts.flat,n.rs.length≤1048576:=fun n hn=>h n (List.mem_append_right _ hn);simp only[di] at hi
  split at hi
  ·exact rr t b h1 i hi
  ·rcases List.mem_cons.1 hi with rfl|hi
   ·exact EW _ _ _
   ·rcases List.mem_append.1 hi with hi|hi
    ·exact rr t _ h1 i hi
    ·rcases List.mem_cons.1 hi with rfl|hi
     ·exact hj
     ·exact Hp jp hj ts _ h2 i hi
end
theorem H0 {t:Tr} {b r:Nat} (h:∀n∈t.flat,n.rs.length≤1048576):∀i∈eW t b r,kf i:=by
 intro i hi;unfold eW at hi
 rcases List.mem_cons.1 hi with rfl|hi
 ·exact nU _ _ _
 ·rcases List.mem_append.1 hi with hi|hi
  ·exact rr t _ h i hi
  ·simp only[List.mem_cons,List.not_mem_nil,or_false] at hi
   rcases hi with rfl|rfl
   ·exact nU _ _ _
   ·exact nU _ _ _
end Go.Proofs.YthahmilhpmfkfaaGreat
namespace Go.Proofs.YthahmilhpmfkfaaGreat
open Go.V Go
def o6 (fr:Go.V.Fr) (k:Nat):Go.V.D:=Go.V.nth .bf fr.loc k
theorem Fo {s0:St} {n:bp} (hn:n.ok):Ev pv 88 [.agg (aH n)] s0 (.bool (v_ n)) s0:=by
 refine Ev.iZ rfl Sb rfl rfl rfl ?_;refine zE ?_;obtain⟨aU,hF,hH⟩:=ri s0;generalize ag .ro s0=S at*;have AQ:=hn.1.arg s0.bs.length S;have DM:=hn.2.1;refine zQ 2 ?_;refine qb hH fun k1 st lG hH=>?_;dsimp only[u2,u1,u3,u4,setMany,u5,u6,D.cells,Nat.reduceAdd,aH] at hH;refine zQ 10 ?_;refine ai.qX 2 (.bool (((n.op==2)||((n.rs.length:Nat):Int)==0) &&((n.op==5)||((n.mn==0) &&(n.mx==0) &&!n.lz)) &&((n.op==6)||(n.cap==0)))) [] ?_ (fun ff tmp=>?_)
 ·refine zQ 4 ?_;refine ae.two 10 rfl (fun dM=>?_) (fun dM=>?_)
  ·refine zQ 8 ?_;refine ae.two 18 rfl (fun eD=>?_) (fun eD=>?_)
   ·refine zQ 20 ?_;refine ae.two 38 rfl (fun kJ=>?_) (fun kJ=>?_)
    ·refine zQ 6 ?_;refine ae.nil (aO ?_);refine zG ?_
     all_goals(simp[dM,eD,kJ];done)
    ·refine zQ 6 ?_;refine ae.nil (aO ?_);refine zG ?_
     all_goals(simp[dM,eD,kJ];done)
   ·refine zQ 4 ?_;refine ae.two 22 rfl (fun lH=>?_) (fun lH=>?_)
    ·refine zQ 3 ?_;refine ae.cQ (aj rfl rfl rfl eD) rfl lH (aa rfl _) ?_;refine zQ 1 ?_;refine ae.two 27 rfl (fun nf=>?_) (fun nf=>?_)
     ·refine zQ 3 ?_;refine ae.cQ (aj rfl rfl rfl eD) rfl nf (aa rfl _) ?_;refine zQ 3 ?_;refine ae.two 34 rfl (fun pe=>?_) (fun pe=>?_)
      ·refine zQ 4 ?_;refine ae.two 38 rfl (fun kJ=>?_) (fun kJ=>?_)
       ·refine zQ 3 ?_;refine ae.cQ (aj rfl rfl rfl pe) rfl kJ (aa rfl _) ?_;refine zQ 2 ?_;refine ae.nil (aO ?_);refine zG ?_
        all_goals(simp[dM,eD,lH,nf,pe,kJ];done)
       ·refine zQ 3 ?_;refine ae.cC (aj rfl rfl rfl pe) rfl kJ (aa rfl _) ?_;refine zQ 2 ?_;refine ae.nil (aO ?_);refine zG ?_
        all_goals(simp[dM,eD,lH,nf,pe,kJ];done)
      ·refine zQ 10 ?_;refine ae.nil (aO ?_);refine zG ?_
       all_goals(simp[dM,eD,lH,nf,pe];done)
     ·refine zQ 3 ?_;refine ae.cC (aj rfl rfl rfl eD) rfl nf (aa rfl _) ?_;refine zQ 13 ?_;refine ae.nil (aO ?_);refine zG ?_
      all_goals(simp[dM,eD,lH,nf];done)
    ·refine zQ 3 ?_;refine ae.cC (aj rfl rfl rfl eD) rfl lH (aa rfl _) ?_;refine zQ 18 ?_;refine ae.nil (aO ?_);refine zG ?_
     all_goals(simp[dM,eD,lH];done)
  ·refine zQ 2 ?_;refine qn ?_ (hg:=wi dM);simp only[List.length_map];refine zQ 3 ?_;refine ae.two 16 rfl (fun dw=>?_) (fun dw=>?_)
   ·refine zQ 2 ?_;refine ae.two 18 rfl (fun eD=>?_) (fun eD=>?_)
    ·refine zQ 13 ?_;refine ae.cQ (aj rfl rfl rfl dw) rfl eD (aa rfl _) ?_;refine zQ 6 ?_;refine ae.two 38 rfl (fun kJ=>?_) (fun kJ=>?_)
     ·refine zQ 6 ?_;refine ae.nil (aO ?_);refine zG ?_
      all_goals(simp[dM,dw,eD,kJ];done)
     ·refine zQ 6 ?_;refine ae.nil (aO ?_);refine zG ?_
      all_goals(simp[dM,dw,eD,kJ];done)
    ·refine zQ 4 ?_;refine ae.two 22 rfl (fun lH=>?_) (fun lH=>?_)
     ·refine zQ 3 ?_;refine ae.cQ (aj rfl rfl rfl eD) rfl lH (aa rfl _) ?_;refine zQ 1 ?_;refine ae.two 27 rfl (fun nf=>?_) (fun nf=>?_)
      ·refine zQ 3 ?_;refine ae.cQ (aj rfl rfl rfl eD) rfl nf (aa rfl _) ?_;refine ae.cC (aj rfl rfl rfl dw) rfl eD (aa rfl _) ?_;refine zQ 2 ?_;refine ae.two 34 rfl (fun pe=>?_) (fun pe=>?_)
       ·refine zQ 4 ?_;refine ae.two 38 rfl (fun kJ=>?_) (fun kJ=>?_)
        ·refine zQ 3 ?_;refine ae.cQ (aj rfl rfl rfl pe) rfl kJ (aa rfl _) ?_;refine zQ 2 ?_;refine ae.nil (aO ?_);refine zG ?_
         all_goals(simp[dM,dw,eD,lH,nf,pe,kJ];done)
        ·refine zQ 3 ?_;refine ae.cC (aj rfl rfl rfl pe) rfl kJ (aa rfl _) ?_;refine zQ 2 ?_;refine ae.nil (aO ?_);refine zG ?_
         all_goals(simp[dM,dw,eD,lH,nf,pe,kJ];done)
       ·refine zQ 10 ?_;refine ae.nil (aO ?_);refine zG ?_
        all_goals(simp[dM,dw,eD,lH,nf,pe];done)
      ·refine zQ 3 ?_;refine ae.cC (aj rfl rfl rfl eD) rfl nf (aa rfl _) ?_;refine ae.cC (aj rfl rfl rfl dw) rfl eD (aa rfl _) ?_;refine zQ 12 ?_;refine ae.nil (aO ?_);refine zG ?_
       all_goals(simp[dM,dw,eD,lH,nf];done)
     ·refine zQ 3 ?_;refine ae.cC (aj rfl rfl rfl eD) rfl lH (aa rfl _) ?_;refine zQ 5 ?_;refine ae.cC (aj rfl rfl rfl dw) rfl eD (aa rfl _) ?_;refine zQ 12 ?_;refine ae.nil (aO ?_);refine zG ?_
      all_goals(simp[dM,dw,eD,lH];done)
   ·refine zQ 28 ?_;refine ae.nil (aO ?_);refine zG ?_
    all_goals(simp[dM,dw];done)
 dsimp only[bk,List.foldl,nth,u2,u1];refine ai.ret ⟨rx,_,rfl,rl aU hH (rfl)⟩
theorem zT {s0:St} {n:bp} (hn:n.ok) {g:Nat} (hg:g≤1048576):Ev pv 75 [.agg (aH n),.int .i64 (g:Nat)] s0 (.tup [.int .i64 (fI n (g:Nat)).1,.bool (fI n (g:Nat)).2]) s0:=by
 refine Ev.iZ rfl Sn rfl rfl rfl ?_;refine zE ?_;obtain⟨aU,hF,hH⟩:=ri s0;generalize ag .ro s0=S at*;have AQ:=hn.1.arg s0.bs.length S;have DM:=hn.2.1;refine zQ 2 ?_;refine qb hH fun k2 st hk2 hH=>?_;dsimp only[u2,u1,u3,u4,setMany,u5,u6,D.cells,Nat.reduceAdd,aH] at hH;refine zQ 6 ?_;refine ae.aN (m:=7) hH rfl (ev rfl) (by exact aG) (by dsimp only[List.drop_succ_cons,List.drop_zero,List.take_succ_cons,List.take_zero,aH]<;>rfl) rfl rfl (by dsimp only[Fr.put,u1,u2]<;>rfl) ?_;refine qv (Fo hn) ?_;refine zQ 2 ?_;unfold fI
 cases hp:v_ n with
 |false=>
  rw[if_pos rfl];refine zQ 6 ?_;refine ai.ret ⟨rx,_,rfl,rl aU hH (rfl)⟩
 |true=>
  rw[if_neg (by simp)];refine zQ 15 ?_
  by_cases q1:n.op=1
  ·rw[if_pos (.inl q1)];refine qD rfl (by simp[q1]) ?_;refine zQ 1 ?_;refine qD rfl (by simp[q1]) ?_;refine zQ 8 ?_;refine ai.ret ⟨rx,_,rfl,rl aU hH (rfl)⟩
  refine qE rfl (by simp[q1]) ?_;refine zQ 5 ?_
  by_cases q7:n.op=7
  ·rw[if_pos (.inr (.inl q7))];refine qD rfl (by simp[q7]) ?_;refine zQ 1 ?_;refine qD rfl (by simp[q7]) ?_;refine zQ 8 ?_;refine ai.ret ⟨rx,_,rfl,rl aU hH (rfl)⟩
  refine qE rfl (by simp[q7]) ?_;refine zQ 4 ?_
  by_cases q8:n.op=8
  ·rw[if_pos (.inr (.inr q8))];refine qD rfl (by simp[q8]) ?_;refine zQ 8 ?_;refine ai.ret ⟨rx,_,rfl,rl aU hH (rfl)⟩
  refine qE rfl (by simp[q8]) ?_;rw[if_neg (by omega)];refine zQ 5 ?_;refine zI (fun q2=>?_) fun q2=>?_
  ·rw[if_pos q2];refine qq<|ai.LV [4,5] (fun ff=>ff 4=.int .i64 0∧ff 5=.bool ((n.kids==0) &&gH n.rs)) ?_ (fun ff tmp nv=>?_)
   ·refine zQ 4 ?_;refine ae.two 23 rfl (fun dM=>?_) (fun dM=>?_)
    ·refine zQ 2 ?_;refine qv (Fb (AQ.rows hH) DM) ?_ (hg:=wi dM);refine zQ 3 ?_;refine ae.nil (lE ?_ ?_)
     ·dsimp only[bk,List.foldl,nth,u2,u1]
     ·dsimp only[nth];refine zF ?_;refine⟨?_,?_⟩<;>(first|rfl|(simp[dM];done)|(simp_all;done)|(simp[dM];omega)|(simp_all;omega))
    ·refine zQ 6 ?_;refine ae.nil (lE ?_ ?_)
     ·dsimp only[bk,List.foldl,nth,u2,u1]
     ·dsimp only[nth];refine zF ?_;refine⟨?_,?_⟩<;>(first|rfl|(simp[dM];done)|(simp_all;done)|(simp[dM];omega)|(simp_all;omega))
   dsimp only[bk,List.foldl,nth,u2,u1];obtain⟨Gw,Gv⟩:=nv;rw[Gw,Gv];refine ai.ret ⟨rx,_,rfl,rl aU hH (rfl)⟩
  rw[if_neg q2];refine zQ 6 ?_
  by_cases q3:n.op=3
  ·rw[if_pos (.inl q3)];refine qD rfl (by simp[q3]) ?_;refine zQ 1 ?_;refine qD rfl (by simp[q3]) ?_;refine zQ 10 ?_;refine ai.ret ⟨rx,_,rfl,rl aU hH (rfl)⟩
  refine qE rfl (by simp[q3]) ?_;refine zQ 4 ?_
  by_cases q4:n.op=4
  ·rw[if_pos (.inr q4)];refine qD rfl (by simp[q4]) ?_;refine zQ 10 ?_;refine ai.ret ⟨rx,_,rfl,rl aU hH (rfl)⟩
  rw[if_neg (by omega)];refine qE rfl (by simp[q4]) ?_;refine zQ 5 ?_;refine zI (fun q5=>?_) fun q5=>?_
  ·rw[if_pos q5];refine qq<|ai.LV [4,5] (fun ff=>ff 4=.int .i64 1∧ff 5=.bool ((n.kids==1) &&decide (n.mn≥0) &&decide (n.mn≤30) &&((n.mx==-1)||(decide (n.mx≥n.mn) &&decide (n.mx≤30))))) ?_ (fun ff tmp nv=>?_)
   ·refine zQ 4 ?_;refine ae.two 41 rfl (fun dM=>?_) (fun dM=>?_)
    ·refine zQ 5 ?_;refine ae.two 46 rfl (fun dx=>?_) (fun dx=>?_)
     ·refine zQ 5 ?_;refine ae.two 51 rfl (fun ka=>?_) (fun ka=>?_)
      ·refine zQ 4 ?_;refine ae.two 55 rfl (fun ba=>?_) (fun ba=>?_)
       ·refine zQ 10 ?_;refine ae.cQ (aj rfl rfl rfl ka) rfl ba (aa rfl _) ?_;refine zQ 3 ?_;refine ae.nil (lE ?_ ?_)
        ·dsimp only[bk,List.foldl,nth,u2,u1]
        ·dsimp only[nth];refine zF ?_;refine⟨?_,?_⟩<;>(first|rfl|(simp[dM,dx,ka,ba];done)|(simp_all;done)|(simp[dM,dx,ka,ba];omega)|(simp_all;omega))
       ·refine zQ 6 ?_;refine ae.two 61 rfl (fun AV=>?_) (fun AV=>?_)
        ·refine zQ 3 ?_;refine ae.cQ (aj rfl rfl rfl ba) rfl AV (aa rfl _) ?_;refine ae.cC (aj rfl rfl rfl ka) rfl ba (aa rfl _) ?_;refine zQ 3 ?_;refine ae.nil (lE ?_ ?_)
         ·dsimp only[bk,List.foldl,nth,u2,u1]
         ·dsimp only[nth];refine zF ?_;refine⟨?_,?_⟩<;>(first|rfl|(simp[dM,dx,ka,ba,AV];done)|(simp_all;done)|(simp[dM,dx,ka,ba,AV];omega)|(simp_all;omega))
        ·refine zQ 3 ?_;refine ae.cC (aj rfl rfl rfl ba) rfl AV (aa rfl _) ?_;refine ae.cC (aj rfl rfl rfl ka) rfl ba (aa rfl _) ?_;refine zQ 3 ?_;refine ae.nil (lE ?_ ?_)
         ·dsimp only[bk,List.foldl,nth,u2,u1]
         ·dsimp only[nth];refine zF ?_;refine⟨?_,?_⟩<;>(first|rfl|(simp[dM,dx,ka,ba,AV];done)|(simp_all;done)|(simp[dM,dx,ka,ba,AV];omega)|(simp_all;omega))
      ·refine zQ 18 ?_;refine ae.nil (lE ?_ ?_)
       ·dsimp only[bk,List.foldl,nth,u2,u1]
       ·dsimp only[nth];refine zF ?_;refine⟨?_,?_⟩<;>(first|rfl|(simp[dM,dx,ka];done)|(simp_all;done)|(simp[dM,dx,ka];omega)|(simp_all;omega))
     ·refine zQ 23 ?_;refine ae.nil (lE ?_ ?_)
      ·dsimp only[bk,List.foldl,nth,u2,u1]
      ·dsimp only[nth];refine zF ?_;refine⟨?_,?_⟩<;>(first|rfl|(simp[dM,dx];done)|(simp_all;done)|(simp[dM,dx];omega)|(simp_all;omega))
    ·refine zQ 28 ?_;refine ae.nil (lE ?_ ?_)
     ·dsimp only[bk,List.foldl,nth,u2,u1]
     ·dsimp only[nth];refine zF ?_;refine⟨?_,?_⟩<;>(first|rfl|(simp[dM];done)|(simp_all;done)|(simp[dM];omega)|(simp_all;omega))
   dsimp only[bk,List.foldl,nth,u2,u1];obtain⟨Gw,Gv⟩:=nv;rw[Gw,Gv];refine ai.ret ⟨rx,_,rfl,rl aU hH (rfl)⟩
  rw[if_neg q5];refine zQ 5 ?_;refine zI (fun q6=>?_) fun q6=>?_
  ·rw[if_pos q6];refine qq<|ai.LV [4,5] (fun ff=>ff 4=.int .i64 1∧ff 5=.bool ((n.kids==1) &&(n.cap==((g+1:Nat):Int)) &&decide (n.cap≤4))) ?_ (fun ff tmp nv=>?_)
   ·refine zQ 4 ?_;refine ae.two 73 rfl (fun dM=>?_) (fun dM=>?_)
    ·refine zQ 7 ?_;refine ae.two 80 rfl (fun iO=>?_) (fun iO=>?_)
     ·refine zQ 6 ?_;refine ae.nil (lE ?_ ?_)
      ·dsimp only[bk,List.foldl,nth,u2,u1]
      ·dsimp only[nth];refine zF ?_;refine⟨?_,?_⟩<;>(first|rfl|(simp[dM,iO];done)|(simp_all;done)|(simp[dM,iO];omega)|(simp_all;omega))
     ·refine zQ 6 ?_;refine ae.nil (lE ?_ ?_)
      ·dsimp only[bk,List.foldl,nth,u2,u1]
      ·dsimp only[nth];refine zF ?_;refine⟨?_,?_⟩<;>(first|rfl|(simp[dM,iO];done)|(simp_all;done)|(simp[dM,iO];omega)|(simp_all;omega))
    ·refine zQ 13 ?_;refine ae.nil (lE ?_ ?_)
     ·dsimp only[bk,List.foldl,nth,u2,u1]
     ·dsimp only[nth];refine zF ?_;refine⟨?_,?_⟩<;>(first|rfl|(simp[dM];done)|(simp_all;done)|(simp[dM];omega)|(simp_all;omega))
   dsimp only[bk,List.foldl,nth,u2,u1];obtain⟨Gw,Gv⟩:=nv;rw[Gw,Gv];refine ai.ret ⟨rx,_,rfl,rl aU hH (rfl)⟩
  ·rw[if_neg q6];refine zQ 6 ?_;refine ai.ret ⟨rx,_,rfl,rl aU hH (rfl)⟩
theorem ym {n:bp} (h:n.ok):refs (aH n)=0:=by
 have:=h.1.ref;simp only[aH,refs,D.ref,this,Nat.max_self]
def pD (d:D) (at_ g:Nat):List D:=[d,.int .i64 (at_:Nat),.int .i64 (g:Nat)]
theorem FC {l:List bp} {d:D} (hl:l.length≤1048576) (hi:∀n∈l,n.ok) (hd:gY d 7 (l.map aH)):∀(f:Nat) {N k:Nat} {S s0:St} {H:List aZ} {at_ g:Nat},f≤241→g≤4→Has N S s0 (.box k (.mem 0 false (pD d at_ g))::H)→
  ∃r ah,Ev pv 63 [.ptr k 0 0,.int .i64 ((241-f:Nat):Int)] s0 r ah∧r=.bool (iX l f at_ g).isSome∧∃a' g',Has N S ah (.box k (.mem 0 false (pD d a' g'))::H)∧g'≤4∧∀q,iX l f at_ g=some q→a'=q.1∧g'=q.2:=by
 intro f
 induction f with
 |zero=>
  intro N k S s0 H at_ g hf hg hH;refine Ev.jN rfl Ov rfl rfl rfl ?_;refine zE ?_;have bS:=hH;have hH:=hH.bG;have bO:(ag .rw s0).bs=s0.bs:=rfl;generalize ag .rw s0=S2 at*;have hc:=hd.arg N S2;refine zQ 6 ?_;refine ai.mC 21 (.bool (decide ((at_:Int)≥(l.length:Nat))||decide (((241-0:Nat):Int)>240))) [] ?_ (fun ff tmp fv=>?_)
  ·refine zQ 8 ?_;refine qn ?_;simp only[List.length_map];refine zQ 2 ?_;refine ae.two 18 rfl (fun iO=>?_) (fun iO=>?_)
   ·refine zQ 3 ?_;refine ae.nil (c_ ?_ ?_)
    ·dsimp only[bk,List.foldl,nth,u2,u1]
     all_goals(first|rfl|simp)
    ·refine zF ?_
     all_goals(simp[iO];done)
   ·refine zQ 3 ?_;refine ae.nil (c_ ?_ ?_)
    ·dsimp only[bk,List.foldl,nth,u2,u1]
     all_goals(first|rfl|simp)
    ·refine zF ?_
     all_goals(simp[iO];done)
  dsimp only[bk,List.foldl,nth,u2,u1];have hT:(decide ((at_:Int)≥(l.length:Nat))||decide (((241-0:Nat):Int)>240))=true:=by simp
  rw[hT] at fv;refine zQ 5 ?_;refine ai.ret ⟨rx,_,_,_,rfl,ak (rfl),?_⟩;exact⟨rfl,_,_,bS.aq bO hH,hg,fun q hq=>by simp[iX] at hq⟩
 |succ f ih=>
  intro N k S s0 H at_ g hf hg hH;refine Ev.jN rfl Ov rfl rfl rfl ?_;refine zE ?_;have bS:=hH;have hH:=hH.bG;have bO:(ag .rw s0).bs=s0.bs:=rfl;generalize ag .rw s0=S2 at*;have hc:=hd.arg N S2;refine zQ 6 ?_;refine ai.mC 21 (.bool (decide ((at_:Int)≥(l.length:Nat))||decide (((241-(f+1):Nat):Int)>240))) [] ?_ (fun ff tmp fv=>?_)
  ·refine zQ 8 ?_;refine qn ?_;simp only[List.length_map];refine zQ 2 ?_;refine ae.two 18 rfl (fun iO=>?_) (fun iO=>?_)
   ·refine zQ 3 ?_;refine ae.nil (c_ ?_ ?_)
    ·dsimp only[bk,List.foldl,nth,u2,u1]
     all_goals(first|rfl|simp)
    ·refine zF ?_
     all_goals(simp_all;done)
   ·refine zQ 3 ?_;refine ae.nil (c_ ?_ ?_)
    ·dsimp only[bk,List.foldl,nth,u2,u1]
     all_goals(first|rfl|simp)
    ·refine zF ?_
     all_goals(simp_all;omega)
  dsimp only[bk,List.foldl,nth,u2,u1]
  by_cases ha:l.length≤at_
  ·have hT:(decide ((at_:Int)≥(l.length:Nat))||decide (((241-(f+1):Nat):Int)>240))=true:=by
    rw[Bool.or_eq_true];exact .inl (by rw[decide_eq_true_eq];omega)
   rw[hT] at fv;have hn:iX l (f+1) at_ g=none:=by unfold iX;rw[List.getElem?_eq_none ha]
   rw[hn];refine zQ 5 ?_;refine ai.ret ⟨rx,_,_,_,rfl,ak (rfl),?_⟩;exact⟨rfl,_,_,bS.aq bO hH,hg,fun q hq=>by cases hq⟩
  ·have hT:(decide ((at_:Int)≥(l.length:Nat))||decide (((241-(f+1):Nat):Int)>240))=false:=by
    rw[Bool.or_eq_false_iff];exact⟨by rw[decide_eq_false_iff_not];omega,by rw[decide_eq_false_iff_not];omega⟩
   rw[hT] at fv
   obtain⟨n,hn⟩:∃n,l[at_]?=some n:=⟨l[at_]'(by omega),List.getElem?_eq_getElem _⟩
   have pb:=hi n (List.mem_of_getElem? hn);have gr:=mh hn;have Mh:=ym pb
   have kH:iX l (f+1) at_ g=if(fI n (g:Nat)).2=true then j8 (iX l f) (fI n (g:Nat)).1.toNat (at_+1) (if n.op=6 then g+1 else g) else none:=by
    rw[iX,hn]
   rw[kH];clear kH;refine zQ 12 ?_;refine qr fun TP Ns=>?_;refine ae.cA rfl (ev rfl) (by assumption) rfl (aa rfl _) ?_;refine qa hH fun k5 st HG hH=>?_;dsimp only[u2,u1,u3,u4,setMany,u5,u6,D.cells,Nat.reduceAdd,pD,aH] at hH;refine ae.bC hH rfl (ev rfl) (ev rfl) (by rfl) (by exact rfl) (by exact aG) (by exact rfl) (by exact .inr (by assumption)) (fun st hH=>?_);dsimp only[u2,u1,u3,u4,setMany,u5,u6,D.cells,Nat.reduceAdd,pD,aH] at hH;refine zQ 3 ?_;refine ae.aN (m:=7) hH rfl (ev rfl) (by exact aG) (by dsimp only[List.drop_succ_cons,List.drop_zero,List.take_succ_cons,List.take_zero,pD,aH]<;>rfl) rfl rfl (aa rfl _) ?_;refine zQ 4 ?_;refine qv (zT pb (by omega)) ?_;refine zQ 12 ?_
   cases hsh:(fI n (g:Nat)).2 with
   |false=>
    rw[if_neg (by simp)];refine zQ 5 ?_;refine ai.ret ⟨rx,_,_,_,rfl,ak (rfl),?_⟩;exact⟨rfl,_,_,bS.aq bO (hH.drop 1),hg,fun q hq=>by cases hq⟩
   |true=>
    rw[if_pos rfl];obtain⟨⟨lG,_⟩,hk2,DQ⟩:=xE hsh;have NZ:=pb.2.2;obtain⟨kd,DO⟩:∃kd:Nat,(fI n (g:Nat)).1=(kd:Int):=Int.eq_ofNat_of_zero_le hk2;rw[DO,Int.toNat_natCast];rw[DO,Int.toNat_natCast] at lG;refine zQ 11 ?_;refine qT hH aV fun st hH=>?_;dsimp only[u2,u1,u3,u4,setMany,u5,u6,D.cells,Nat.reduceAdd,pD,aH] at hH;refine zQ 8 ?_;refine ai.merge (fun fr st=>∃(g2:Nat) (tmp:List (Nat×D)),fr=⟨8,[.ptr k 0 0,.int .i64 ((241-(f+1):Nat):Int),o6 fr 2,o6 fr 3,.bool false,.ptr k5 0 0,.int .i64 (kd:Nat),.bool true],tmp⟩∧Has N S2 st (.box k (.mem 0 false [d,.int .i64 ((at_+1:Nat):Int),.int .i64 (g2:Nat)])::.box k5 (.mem 0 false (aH n))::H)∧(g2=if n.op=6 then g+1 else g)∧(g2≤4)) ?_ ?_
    ·refine zI (fun q6=>?_) fun q6=>?_
     ·have:=DQ q6;refine zQ 8 ?_;refine qT hH aV fun st hH=>?_;dsimp only[u2,u1,u3,u4,setMany,u5,u6,D.cells,Nat.reduceAdd,pD,aH] at hH;refine zQ 1 ?_;exact⟨g+1,_,rfl,(by have:=hH.front aV;exact this),by rw[if_pos q6],by omega⟩
     ·refine zQ 1 ?_;exact⟨g,_,rfl,(by have:=hH.front aV;exact this),by rw[if_neg q6],hg⟩
    ·rintro fr st ⟨g2,tmp,hfr,hH,bN,dM⟩;rw[hfr];clear hfr;generalize o6 fr=ee;clear fr;rw[←bN];refine zQ 2 ?_;refine ai.loop (fun mm fr st=>∃(kk a2 g4:Nat),fr.clean=⟨8,[.ptr k 0 0,.int .i64 ((241-(f+1):Nat):Int),o6 fr 2,o6 fr 3,.bool false,.ptr k5 0 0,.int .i64 (kk:Nat),.bool true],[]⟩∧Has N S2 st (.box k (.mem 0 false [d,.int .i64 (a2:Nat),.int .i64 (g4:Nat)])::.box k5 (.mem 0 false (aH n))::H)∧(j8 (iX l f) kk a2 g4=j8 (iX l f) kd (at_+1) g2)∧(g4≤4)∧(kk=mm)∧(kk≤9223372036854775807)) (kd) ?_ ?_
     ·exact⟨kd,at_+1,g2,rfl,hH,rfl,dM,rfl,by omega⟩
     rintro mm fr st ⟨kk,a2,g4,hfr,hH,hX,dQ,Eu,hkk⟩;rw[hfr];clear hfr;generalize o6 fr=ee;clear fr;refine zQ 6 ?_
     cases kk with
     |zero=>
      refine ai.cond (v:=false) (by dsimp only[Fr.ev,Fr.get,nth,V.look];rfl) (fun h=>by cases h) (fun _=>?_);refine zQ 5 ?_;refine ai.ret ⟨rx,_,_,_,rfl,ak (rfl),?_⟩;exact⟨by rw[←hX];rfl,_,_,bS.aq bO (hH.erase 1),dQ,fun q hq=>by rw[←hX] at hq;simp only[j8,Option.some.injEq] at hq;subst hq;exact⟨rfl,rfl⟩⟩
     |succ kk=>
      rw[j8] at hX;refine qD rfl (by simp) ?_;refine zQ 7 ?_;refine ae.eN (z:=((241-f:Nat):Int)) rfl (ev rfl) (ev rfl) (by(try simp only[List.length_reverse,List.length_cons,List.length_nil,List.length_append,List.length_map,List.length_set]);rw[wrap_i64 (by omega) (by omega)]<;>omega) (aa rfl _) ?_;obtain⟨_,st,aC,rfl,a',g',hH,jQ,hq⟩:=ih (at_:=a2) (g:=g4) (by omega) dQ hH;refine qv aC ?_;refine zQ 2 ?_
      cases ho:iX l f a2 g4 with
      |none=>
       rw[ho] at hX;refine zQ 5 ?_;refine ai.ret ⟨rx,_,_,_,rfl,ak (rfl),?_⟩;exact⟨by rw[←hX];rfl,_,_,bS.aq bO (hH.erase 1),jQ,fun q hq=>by rw[←hX] at hq;cases hq⟩
      |some q=>
       rw[ho] at hX;obtain⟨rfl,rfl⟩:=hq q ho;refine zQ 4 ?_;refine ae.mQ (z:=((kk:Nat):Int)) rfl (ev rfl) (ev rfl) (by(try simp only[List.length_reverse,List.length_cons,List.length_nil,List.length_append,List.length_map,List.length_set]);rw[wrap_i64 (by omega) (by omega)]<;>omega) (aa rfl _) ?_;refine zQ 2 ?_;exact⟨mm-1,by omega,⟨kk,q.1,q.2,rfl,hH,hX,jQ,by omega,by omega⟩⟩
theorem uy {s0:St} {x:Nl} (hx:x.ok):Ev pv 44 [x.d] s0 (.bool (fJ x.l)) s0:=by
 refine Ev.iZ rfl SO rfl rfl rfl ?_;refine zE ?_;obtain⟨aU,hF,hH⟩:=ri s0;generalize ag .ro s0=S at*;have hc:=hx.c.arg s0.bs.length S;have hl:=hx.nl;have u_:=hx.c;refine zQ 6 ?_;refine ai.mC 11 (.bool (decide (((x.l.length:Nat):Int)<1)||decide (((x.l.length:Nat):Int)>480))) [] ?_ (fun ff tmp fv=>?_)
 ·refine qm ?_;refine qn ?_;simp only[List.length_map];refine zQ 2 ?_;refine ae.two 7 rfl (fun dM=>?_) (fun dM=>?_)
  ·refine zQ 4 ?_;refine ae.nil (c_ ?_ ?_)
   ·dsimp only[bk,List.foldl,nth,u2,u1]
    all_goals(first|rfl|simp)
   ·refine zF ?_
    all_goals(simp[dM];done)
  ·refine zQ 1 ?_;refine qn ?_ (hg:=wi dM);simp only[List.length_map];refine zQ 2 ?_;refine ae.nil (c_ ?_ ?_)
   ·dsimp only[bk,List.foldl,nth,u2,u1]
    all_goals(first|rfl|simp)
   ·refine zF ?_
    all_goals(simp[dM];done)
 dsimp only[bk,List.foldl,nth,u2,u1]
 by_cases hlen:1≤x.l.length∧x.l.length≤480
 ·have hT:(decide (((x.l.length:Nat):Int)<1)||decide (((x.l.length:Nat):Int)>480))=false:=by
   rw[Bool.or_eq_false_iff];exact⟨by rw[decide_eq_false_iff_not];omega,by rw[decide_eq_false_iff_not];omega⟩
  rw[hT] at fv
  have hR:fJ x.l=(match iX x.l 241 0 0 with|some r=>decide (r.1=x.l.length)|none=>false):=by
   unfold fJ;rw[decide_eq_true hlen.1,decide_eq_true hlen.2];rfl
  rw[hR];clear hR;refine zQ 5 ?_;refine ae.iC (qs:=[(0,_)]) rfl rfl rfl rfl ⟨rfl,(ev rfl),(by exact(gY.cells (by assumption)).1),trivial⟩ (by intro q hq;simp only[List.mem_cons,List.not_mem_nil,or_false] at hq;rcases hq with rfl<;>exact⟨rfl,by exact Nat.le_of_ble_eq_true rfl⟩) (by show List.foldl _ [_,_,_] _=_;dsimp only[List.foldl_cons,List.foldl_nil,u2,u1]<;>rfl) (aa rfl _) ?_;refine qb hH fun k14 st N1 hH=>?_;refine zQ 2 ?_;have hH:Has s0.bs.length S st (.box k14 (.mem 0 false (pD x.d 0 0))::[]):=hH
  cases bN:(iX x.l 241 0 0).isSome with
  |true=>
   obtain⟨q,hq⟩:=Option.isSome_iff_exists.1 bN;refine zQ 3 ?_;obtain⟨_,st,aC,rfl,a',g',hH,jQ,T9⟩:=FC hl hx.i hx.c 241 (by omega) (by omega) hH;refine qv aC ?_;refine zQ 6 ?_;refine qn ?_ (hg:=wi bN);simp only[List.length_map];refine zQ 4 ?_;obtain⟨rfl,rfl⟩:=T9 q hq;rw[hq]
   have he:decide (q.1=x.l.length)=(((q.1:Nat):Int)==((x.l.length:Nat):Int)):=by
    rw[Bool.eq_iff_iff];simp only[decide_eq_true_eq,beq_iff_eq];omega
   simp only[he];refine ai.ret ⟨rx,_,rfl,rl aU hH (rfl)⟩
  |false=>
   have hq:iX x.l 241 0 0=none:=by
    cases hq:iX x.l 241 0 0 with
    |none=>rfl
    |some q=>rw[hq] at bN;cases bN
   refine zQ 3 ?_;obtain⟨_,st,aC,rfl,a',g',hH,jQ,T9⟩:=FC hl hx.i hx.c 241 (by omega) (by omega) hH;refine qv aC ?_;refine zQ 11 ?_;rw[hq];refine ai.ret ⟨rx,_,rfl,rl aU hH (rfl)⟩
 ·have hT:(decide (((x.l.length:Nat):Int)<1)||decide (((x.l.length:Nat):Int)>480))=true:=by
   rw[Bool.or_eq_true,decide_eq_true_eq,decide_eq_true_eq];omega
  rw[hT] at fv
  have hR:fJ x.l=false:=by
   unfold fJ
   by_cases h1:1≤x.l.length
   ·rw[decide_eq_true h1,decide_eq_false (fun h2=>hlen ⟨h1,h2⟩)];rfl
   ·rw[decide_eq_false h1];rfl
  rw[hR];refine zQ 5 ?_;refine ai.ret ⟨rx,_,rfl,rl aU hH (rfl)⟩
end Go.Proofs.YthahmilhpmfkfaaGreat
