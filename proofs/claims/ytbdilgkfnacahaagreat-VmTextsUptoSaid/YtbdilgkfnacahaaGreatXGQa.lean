/-
 Patterns as trees; the code of a tree; how many instructions it has.
-/
import Derived.Test.YtbdilgkfnacahaaGreatXGUb
import Derived.Test.YtbdilgkfnacahaaGreatXGKa
set_option maxRecDepth 100000
set_option linter.unusedSimpArgs false
set_option linter.unusedVariables false
set_option linter.unusedSectionVars false
set_option maxHeartbeats 4000000
namespace Go.Proofs.YtbdilgkfnacahaaGreat
open Go.V Go
structure da where
 op:Int
 rd:D
 rs:List Rg
 mn:Int
 mx:Int
 lz:Bool
 cap:Int
 kids:Int
def bd (n:da):List D:=[.int .i64 n.op,n.rd,.int .i64 n.mn,.int .i64 n.mx,.bool n.lz,.int .i64 n.cap,.int .i64 n.kids]
def da.ok (n:da):Prop:=e_ n.rd 2 (n.rs.map au)∧n.rs.length≤1048576∧n.kids≤9223372036854775807
structure Nl where
 d:D
 l:List da
structure Nl.ok (x:Nl):Prop where
 c:e_ x.d 7 (x.l.map bd)
 i:∀n∈x.l,n.ok
 nl:x.l.length≤1048576
theorem kf {l:List da} {i:Nat} {q:da} (h:l[i]?=some q):(l.map bd)[i]?=some (bd q):=by rw[List.getElem?_map,h];rfl
mutual
inductive Tr where
 |mk (n:da) (ks:bA)
inductive bA where
 |nil
 |cons (t:Tr) (ts:bA)
end
def bA.len:bA→Nat
 | .nil=>0
 | .cons _ ts=>ts.len+1
mutual
def Tr.flat:Tr→List da
 | .mk n ks=>n::ks.flat
def bA.flat:bA→List da
 | .nil=>[]
 | .cons t ts=>t.flat++ts.flat
end
def ud (n:da) (nk:Nat):Prop:=
 n.kids=(nk:Int)∧(((n.op=1∨n.op=7∨n.op=8)∧nk=0)∨(n.op=2∧nk=0)∨((n.op=3∨n.op=4)∧2≤nk)∨
  (n.op=5∧nk=1∧0≤n.mn∧n.mn≤30∧(n.mx=-1∨(n.mn≤n.mx∧n.mx≤30)))∨(n.op=6∧nk=1∧1≤n.cap∧n.cap≤4))
mutual
def Tr.ok:Tr→Prop
 | .mk n ks=>ud n ks.len∧ks.ok
def bA.ok:bA→Prop
 | .nil=>True
 | .cons t ts=>t.ok∧ts.ok
end
def bH (n:da) (s k:Nat):Nat:=
 if n.op=2∨n.op=7∨n.op=8 then 1
 else if n.op=4 then s+2*(k-1)
 else if n.op=6 then s+2
 else if n.op=5 then(if n.mx=-1 then n.mn.toNat*s+s+2 else n.mn.toNat*s+(n.mx.toNat-n.mn.toNat)*(s+1))
 else s
mutual
def Tr.sz:Tr→Nat
 | .mk n ks=>bH n ks.sz ks.len
def bA.sz:bA→Nat
 | .nil=>0
 | .cons t ts=>t.sz+ts.sz
end
def cJ (op x y:Int) (rs:List Rg):aL:=⟨op,x,y,.sl ((rs.map au).map (jr 2)),rs⟩
def l3 (s o:Nat) (lz:Bool):aL:=if lz=true then cJ 2 (o:Nat) ((s+1:Nat):Int) [] else cJ 2 ((s+1:Nat):Int) (o:Nat) []
def ly (e:Nat):aL:=cJ 3 (e:Nat) 0 []
def eG (c:Nat→List aL) (z:Nat):Nat→Nat→List aL
 |0,_=>[]
 |k+1,b=>c b++eG c z k (b+z)
def ez (sp:Nat→aL) (c:Nat→List aL) (z:Nat):Nat→Nat→List aL
 |0,_=>[]
 |k+1,b=>sp b::(c (b+1)++ez sp c z k (b+1+z))
def tW (z:Nat):Nat→Nat→List Nat
 |0,_=>[]
 |k+1,b=>b::tW z k (b+1+z)
def l8 (n:da) (c:Nat→List aL) (z b:Nat):List aL:=
 if n.mx=-1 then eG c z n.mn.toNat b++(l3 (b+n.mn.toNat*z) (b+n.mn.toNat*z+z+2) n.lz::(c (b+n.mn.toNat*z+1)++[ly (b+n.mn.toNat*z)]))
 else eG c z n.mn.toNat b++ez (fun s=>l3 s (b+n.mn.toNat*z+(n.mx.toNat-n.mn.toNat)*(z+1)) n.lz) c z (n.mx.toNat-n.mn.toNat) (b+n.mn.toNat*z)
mutual
def aQ:Tr→Nat→List aL
 | .mk n ks,b=>
  if n.op=2 then[cJ 1 0 0 n.rs]
  else if n.op=7 then[cJ 5 0 0 []]
  else if n.op=8 then[cJ 6 0 0 []]
  else if n.op=3 then eZ ks b
  else if n.op=4 then dX (ly (b+bH n ks.sz ks.len)) ks b
  else if n.op=5 then l8 n (eZ ks) ks.sz b
  else if n.op=6 then cJ 4 (2*n.cap) 0 []::(eZ ks (b+1)++[cJ 4 (2*n.cap+1) 0 []])
  else[]
def eZ:bA→Nat→List aL
 | .nil,_=>[]
 | .cons t ts,b=>aQ t b++eZ ts (b+t.sz)
def dX (jp:aL):bA→Nat→List aL
 | .nil,_=>[]
 | .cons t ts,b=>if ts.len=0 then aQ t b else l3 b (b+1+t.sz+1) false::(aQ t (b+1)++jp::dX jp ts (b+t.sz+2))
end
def po:bA→Nat→List Nat
 | .nil,_=>[]
 | .cons t ts,b=>if ts.len=0 then[] else(b+1+t.sz)::po ts (b+t.sz+2)
theorem iA {c:Nat→List aL} {z:Nat} (hc:∀b,(c b).length=z):∀k b,(eG c z k b).length=k*z
 |0,b=>by simp[eG]
 |k+1,b=>by rw[eG,List.length_append,hc,iA hc k,Nat.add_mul];omega
theorem ou {sp:Nat→aL} {c:Nat→List aL} {z:Nat} (hc:∀b,(c b).length=z):∀k b,(ez sp c z k b).length=k*(z+1)
 |0,b=>by simp[ez]
 |k+1,b=>by rw[ez,List.length_cons,List.length_append,hc,ou hc k,Nat.add_mul];omega
theorem Aa {n:da} {c:Nat→List aL} {z b:Nat} (hc:∀b,(c b).length=z) (h:n.op=5):(l8 n c z b).length=bH n z 1:=by
 unfold l8 bH;rw[if_neg (show¬(n.op=2∨n.op=7∨n.op=8) by omega),if_neg (show¬n.op=4 by omega),if_neg (show¬n.op=6 by omega),if_pos h]
 split
 ·rw[List.length_append,iA hc,List.length_cons,List.length_append,hc];simp only[List.length_cons,List.length_nil];omega
 ·rw[List.length_append,iA hc,ou hc]
theorem bA.xF {ks:bA} (h:ks.len=1):∃t,ks=.cons t .nil:=by
 cases ks with
 |nil=>simp[bA.len] at h
 |cons t ts=>cases ts with
  |nil=>exact⟨t,rfl⟩
  |cons u us=>simp[bA.len] at h
theorem bA.len_nil {ks:bA} (h:ks.len=0):ks=.nil:=by
 cases ks with
 |nil=>rfl
 |cons t ts=>simp[bA.len] at h
mutual
theorem ck:∀(t:Tr) (b:Nat),t.ok→(aQ t b).length=t.sz
 | .mk n ks,b,h=>by
  simp only[Tr.ok] at h;obtain⟨h1,h2⟩:=h;have hc:=fun b=>lM ks b h2;have ha:=fun jp b=>pk jp ks b h2;simp only[aQ,Tr.sz];obtain⟨_,⟨h3,h4⟩|⟨h3,h4⟩|⟨h3,h4⟩|⟨h3,h4,h5⟩|⟨h3,h4,h5⟩⟩:=h1
  ·have hk:=bA.len_nil h4;subst hk
   by_cases q7:n.op=7
   ·simp[q7,bH]
   ·by_cases q8:n.op=8
    ·simp[q8,bH]
    ·have q1:n.op=1:=by omega
     simp[q1,bH,bA.sz]
  ·simp[h3,bH]
  ·rcases h3 with h3|h3
   ·simp[h3,bH,hc]
   ·simp[h3,bH,ha]
  ·have:=Aa (n:=n) (b:=b) hc h3;simp only[h3] at this⊢;simp only[show¬((5:Int)=2) by decide,show¬((5:Int)=7) by decide,show¬((5:Int)=8) by decide,show¬((5:Int)=3) by decide,show¬((5:Int)=4) by decide,if_false,if_true];rw[this,h4]
  ·simp[h3,bH,hc]
theorem lM:∀(ts:bA) (b:Nat),ts.ok→(eZ ts b).length=ts.sz
 | .nil,b,_=>by simp[eZ,bA.sz]
 | .cons t ts,b,h=>by
  simp only[bA.ok] at h;simp only[eZ,bA.sz,List.length_append];rw[ck t b h.1,lM ts _ h.2]
theorem pk (jp:aL):∀(ts:bA) (b:Nat),ts.ok→(dX jp ts b).length=ts.sz+2*(ts.len-1)
 | .nil,b,_=>by simp[dX,bA.sz,bA.len]
 | .cons t ts,b,h=>by
  simp only[bA.ok] at h;have h1:=pk jp ts (b+t.sz+2) h.2;simp only[dX,bA.sz,bA.len]
  by_cases q:ts.len=0
  ·rw[if_pos q,ck t b h.1,q];have:=bA.len_nil q;subst this;simp[bA.sz]
  ·rw[if_neg q,List.length_cons,List.length_append,List.length_cons,ck t _ h.1,h1];omega
end
def gx (f:Nat→aL) (c:List aL) (l:List Nat):List aL:=l.foldl (fun c j=>c.set j (f j)) c
theorem nK {α:Type} (pre post:List α) (x y:α):(pre++x::post).set pre.length y=pre++y::post:=by
 rw[List.set_append_right _ _ (Nat.le_refl _),Nat.sub_self];rfl
theorem nS {α:Type} (pre post:List α) (x:α):(pre++x::post)[pre.length]?=some x:=by
 rw[List.getElem?_append_right (Nat.le_refl _),Nat.sub_self];rfl
theorem ma {sp:Nat→aL} {c:Nat→List aL} {z:Nat} (hc:∀b,(c b).length=z) {i0:aL}:∀(k b:Nat) (pre post:List aL),pre.length=b→gx sp (pre++ez (fun _=>i0) c z k b++post) (tW z k b)=pre++ez sp c z k b++post∧∀j∈tW z k b,(pre++ez (fun _=>i0) c z k b++post)[j]?=some i0
 |0,b,pre,post,_=>⟨rfl,fun j hj=>by cases hj⟩
 |k+1,b,pre,post,h=>by
  have ih:=ma (sp:=sp) hc (i0:=i0) k (b+1+z) (pre++i0::c (b+1)) post (by rw[List.length_append,List.length_cons,hc];omega);have xH:=ma (sp:=sp) hc (i0:=i0) k (b+1+z) (pre++sp b::c (b+1)) post (by rw[List.length_append,List.length_cons,hc];omega);simp only[ez,tW];have e:pre++i0::(c (b+1)++ez (fun _=>i0) c z k (b+1+z))++post=pre++i0::(c (b+1)++ez (fun _=>i0) c z k (b+1+z)++post):=by simp
  have e2:pre++i0::c (b+1)++ez (fun _=>i0) c z k (b+1+z)++post=pre++i0::(c (b+1)++ez (fun _=>i0) c z k (b+1+z)++post):=by simp
  refine⟨?_,fun j hj=>?_⟩
  ·unfold gx at xH⊢;rw[List.foldl_cons,e]
   have hs:(pre++i0::(c (b+1)++ez (fun _=>i0) c z k (b+1+z)++post)).set b (sp b)=pre++sp b::c (b+1)++ez (fun _=>i0) c z k (b+1+z)++post:=by
    rw[←h,nK];simp
   rw[hs,xH.1];simp
  ·rw[e]
   rcases List.mem_cons.1 hj with rfl|hj
   ·rw[←h];exact nS _ _ _
   ·rw[←e2];exact ih.2 j hj
theorem mM {jp i0:aL}:∀(ts:bA) (b:Nat) (pre post:List aL),ts.ok→pre.length=b→gx (fun _=>jp) (pre++dX i0 ts b++post) (po ts b)=pre++dX jp ts b++post∧∀j∈po ts b,(pre++dX i0 ts b++post)[j]?=some i0
 | .nil,b,pre,post,_,_=>⟨by simp[dX,po,gx],fun j hj=>by simp[po] at hj⟩
 | .cons t ts,b,pre,post,ba,h=>by
  simp only[bA.ok] at ba
  by_cases q:ts.len=0
  ·simp only[dX,po,if_pos q];exact⟨rfl,fun j hj=>by cases hj⟩
  ·simp only[dX,po,if_neg q];generalize l3 b (b+1+t.sz+1) false=sp;have hcl:=ck t (b+1) ba.1;have ih:=mM (jp:=jp) (i0:=i0) ts (b+t.sz+2) (pre++sp::(aQ t (b+1)++[i0])) post ba.2 (by simp only[List.length_append,List.length_cons,List.length_nil,hcl];omega);have xH:=mM (jp:=jp) (i0:=i0) ts (b+t.sz+2) (pre++sp::(aQ t (b+1)++[jp])) post ba.2 (by simp only[List.length_append,List.length_cons,List.length_nil,hcl];omega);generalize dX i0 ts (b+t.sz+2)=A at*;have e:pre++sp::(aQ t (b+1)++i0::A)++post=(pre++sp::aQ t (b+1))++i0::(A++post):=by simp
   have hl:(pre++sp::aQ t (b+1)).length=b+1+t.sz:=by simp only[List.length_append,List.length_cons,hcl];omega
   refine⟨?_,fun j hj=>?_⟩
   ·unfold gx at xH⊢;rw[List.foldl_cons,e,←hl,nK];have:=xH.1;simp only[List.append_assoc,List.cons_append,List.nil_append] at this⊢;exact this
   ·rw[e]
    rcases List.mem_cons.1 hj with rfl|hj
    ·rw[←hl];exact nS _ _ _
    ·have:=ih.2 j hj;simp only[List.append_assoc,List.cons_append,List.nil_append] at this⊢;exact this
def eS {α:Type} (L:List α) (at_:Nat) (M:List α):Prop:=∃post,L.drop at_=M++post
theorem eS.head {α:Type} {L M:List α} {a:α} {at_:Nat} (h:eS L at_ (a::M)):L[at_]?=some a:=by
 obtain⟨post,h⟩:=h;have:=congrArg (·[0]?) h
 simpa using this
theorem eS.tail {α:Type} {L M:List α} {a:α} {at_:Nat} (h:eS L at_ (a::M)):eS L (at_+1) M:=by
 obtain⟨post,h⟩:=h;refine⟨post,?_⟩;rw[←List.drop_drop,h];rfl
theorem eS.left {α:Type} {L M M':List α} {at_:Nat} (h:eS L at_ (M++M')):eS L at_ M:=by
 obtain⟨post,h⟩:=h;exact⟨M'++post,by rw[h,List.append_assoc]⟩
theorem eS.right {α:Type} {L M M':List α} {at_:Nat} (h:eS L at_ (M++M')):eS L (at_+M.length) M':=by
 obtain⟨post,h⟩:=h;refine⟨post,?_⟩;rw[←List.drop_drop,h,List.append_assoc,List.drop_left]
theorem eS.le {α:Type} {L M:List α} {at_:Nat} (h:eS L at_ M) (hM:M≠[]):at_+M.length≤L.length:=by
 obtain⟨post,h⟩:=h;have:=congrArg List.length h;simp only[List.length_drop,List.length_append] at this
 have:0<M.length:=by cases M with|nil=>exact absurd rfl hM|cons _ _=>simp
 omega
theorem eS.all {α:Type} (L:List α):eS L 0 L:=⟨[],by simp⟩
mutual
def Tr.zs:Tr→List Int
 | .mk n ks=>((min (bH n ks.sz ks.len) 401:Nat):Int)::ks.zs
def bA.zs:bA→List Int
 | .nil=>[]
 | .cons t ts=>t.zs++ts.zs
end
mutual
def Tr.es:Tr→Nat→List Int
 | .mk n ks,at_=>((at_+1+ks.flat.length:Nat):Int)::ks.es (at_+1)
def bA.es:bA→Nat→List Int
 | .nil,_=>[]
 | .cons t ts,at_=>t.es at_++ts.es (at_+t.flat.length)
end
mutual
theorem Tr.hY:∀t:Tr,t.zs.length=t.flat.length
 | .mk n ks=>by simp[Tr.zs,Tr.flat,bA.hY ks]
theorem bA.hY:∀ts:bA,ts.zs.length=ts.flat.length
 | .nil=>rfl
 | .cons t ts=>by simp[bA.zs,bA.flat,Tr.hY t,bA.hY ts]
end
mutual
theorem Tr.il:∀(t:Tr) (a:Nat),(t.es a).length=t.flat.length
 | .mk n ks,a=>by simp[Tr.es,Tr.flat,bA.il ks]
theorem bA.il:∀(ts:bA) (a:Nat),(ts.es a).length=ts.flat.length
 | .nil,_=>rfl
 | .cons t ts,a=>by simp[bA.es,bA.flat,Tr.il t,bA.il ts]
end
theorem Tr.gH (t:Tr):0<t.flat.length:=by cases t;simp[Tr.flat]
theorem bA.jM:∀ts:bA,ts.len≤ts.flat.length
 | .nil=>Nat.le_refl _
 | .cons t ts=>by
  have h1:=bA.jM ts;have h2:=t.gH;simp only[bA.len,bA.flat,List.length_append];omega
end Go.Proofs.YtbdilgkfnacahaaGreat
namespace Go.V
variable{N:Nat} {S st:St} {H:List bF}
theorem cq.at_ {α β:Type} {R:α→β→Prop}:∀{l:List α} {m:List β} {i:Nat} {b:β},cq R l m→m[i]?=some b→∃a,l[i]?=some a∧R a b
 |_,_,_,_,.nil,h=>by simp at h
 |_,_,0,_,.cons a t,h=>by simp only[List.getElem?_cons_zero,Option.some.injEq] at h;subst h;exact⟨_,rfl,a⟩
 |_,_,i+1,_,.cons a t,h=>by simp only[List.getElem?_cons_succ] at h⊢;exact t.at_ h
theorem cq.set {α β:Type} {R:α→β→Prop} {a:α} {b:β} (r:R a b):∀{l:List α} {m:List β} (i:Nat),cq R l m→cq R (l.set i a) (m.set i b)
 |_,_,_,.nil=>.nil
 |_,_,0,.cons _ t=>.cons r t
 |_,_,i+1,.cons h t=>.cons h (t.set r i)
theorem cq.setMany {R:D→D→Prop}:∀{xs ys:List D} {c d:List D} (o:Nat),cq R xs ys→cq R c d→cq R (setMany c o xs) (setMany d o ys)
 |_,_,_,_,_,.nil,h=>h
 |_,_,_,_,o,.cons r t,h=>by simp only[Go.V.setMany];exact t.setMany (o+1) (h.set r o)
theorem cq.same {R:D→D→Prop}:∀{l:List D},(∀d∈l,R d d)→cq R l l
 |[],_=>.nil
 |d::l,h=>.cons (h d (List.mem_cons_self ..)) (cq.same fun x hx=>h x (List.mem_cons_of_mem _ hx))
theorem Has.Ov {j:Nat} {x:D} {s:Nat} {ks:Nat→Prop} {vs:List (List D)} (hH:Has N S st H) (hj:H[j]?=some (.deep ks x s vs)):∃es,Rows st s x es∧es.length=vs.length:=by
 obtain⟨⟨es,h1,h2⟩,_⟩:=(hH.ok j _ hj).1;exact⟨es,h1.rows,h2.len⟩
theorem Has.Se {j k ay off len s:Nat} {ks:Nat→Prop} {vs:List (List D)} {i o:Nat} {v cs:List D} (h:Has N S st H) (hj:H[j]?=some (.deep ks (.win k ay off len s) s vs)) (hi:vs[i]?=some v) (hl:o+cs.length≤s) (hp:∀d∈cs,b5 d=true) (hw:S.flr≤N∨refs cs=0):
  ∃ah,st.wr k ay (off+i*s+o) cs=some ah∧Has N S ah (H.set j (.deep ks (.win k ay off len s) s (vs.set i (setMany v o cs)))):=by
 obtain⟨⟨es,kQ,y8⟩,he3⟩:=(h.ok j _ hj).1;have hK:=(h.ok j _ hj).2;obtain⟨e,Wh,aI⟩:=y8.at_ hi
 have tl:Has N S st [.aM (.win k ay off len s) s es]:=by
  refine⟨h.ex,h.hN,h.e7,fun i e hi=>?_,fun i i' a b hii ha hb k uJ iQ=>?_⟩
  ·cases i with
   |zero=>simp only[List.getElem?_cons_zero,Option.some.injEq] at hi;subst hi;exact⟨kQ,fun k hk=>hK k (.inl hk)⟩
   |succ i=>simp at hi
  ·cases i with
   |zero=>cases i' with
    |zero=>exact hii rfl
    |succ i'=>simp at hb
   |succ i=>simp at ha
 obtain⟨ah,q1,q2⟩:=tl.xq (j:=0) ax Wh hl hw;refine⟨ah,q1,?_⟩;have hown:=q2.own (j:=0) ax
 have QV:(∀n,n≠k→ah.bs[n]?=st.bs[n]?)∧st.bs.length=ah.bs.length∧ah.flr=st.flr∧ah.ro=st.ro:=by
  unfold St.wr at q1
  split at q1
  ·split at q1
   ·cases q1;exact⟨fun n hn=>by simp only;rw[List.getElem?_set_ne (fun e=>hn e.symm)],by simp,rfl,rfl⟩
   ·cases q1
  ·cases q1
 obtain⟨c1,c2,c3,c4⟩:=QV;have hkk:=hK k (.inl (by simp only[D.ref]));have hne:∀n,ks n→n≠k:=fun n hn e=>he3 k (by simp only[D.ref]) (e▸hn);have uG:∀n,ks n→ah.bs[n]?=st.bs[n]?:=fun n hn=>c1 n (hne n hn);refine h.zN hj (fun n hn hnot=>c1 n fun e=>hnot (.inl (by simp only[D.ref];omega))) (Nat.le_of_eq c2) c3 c4 ⟨⟨_,hown,?_⟩,he3⟩ (fun n hn=>.inl hn) fun n hn=>?_
 ·refine cq.set ?_ i (y8.mono fun a b=>cq.mono fun c d=>ei.move uG);exact(cq.same fun d hd=>.plain d (hp d hd)).setMany o (aI.mono fun c d=>ei.move uG)
 ·rw[←c2];exact(hK n hn).2
variable{P:Pv} {ops:Array Oper} {rest:List Oper} {fr aG:Fr} {Q:Fr→St→Prop} {ty:TypeId} {pp:String} {a:Array Edge} {g:Option (Nat×Bool)} {dst:Nat}
theorem ab.zj {t e:TypeId} {xo:Operand} {x:D} {s j:Nat} {ks:Nat→Prop} {vs:List (List D)} (hH:Has N S st H) (hg:aD ops fr ⟨some dst,.call ⟨.builtin .len,#[xo],#[t]⟩,ty,pp,a,g⟩=some true) (hx:fr.ev xo=x) (hj:H[j]?=some (.deep ks x s vs)) (ht:P.cv t=some (.slice e)) (hp:fr.put dst (.int .i64 (vs.length:Nat))=aG)
  (h:ab P ops rest aG st Q):ab P ops (⟨some dst,.call ⟨.builtin .len,#[xo],#[t]⟩,ty,pp,a,g⟩::rest) fr st Q:=by
 obtain⟨es,h1,h2⟩:=hH.Ov hj;exact ab.Kl hg hx h1 ht (by rw[h2];exact hp) h
theorem ab.BF {t e:TypeId} {xo io:Operand} {x:D} {s i j:Nat} {kk:IntKind} {ks:Nat→Prop} {vs:List (List D)} {aG:D→Fr} (hH:Has N S st H) (hg:aD ops fr ⟨some dst,.indexAddr t xo io,ty,pp,a,g⟩=some true) (hx:fr.ev xo=x) (hi:fr.ev io=.int kk (i:Nat)) (hj:H[j]?=some (.deep ks x s vs)) (ht:P.cv t=some (.slice e)) (hs:b4 P e=some s) (hr:i<vs.length) (hp:∀p,fr.put dst p=aG p)
  (h:∀p,nE x s i 0 p→ab P ops rest (aG p) st Q):ab P ops (⟨some dst,.indexAddr t xo io,ty,pp,a,g⟩::rest) fr st Q:=by
 obtain⟨⟨es,kQ,y8⟩,he3⟩:=(hH.ok j _ hj).1;have hlen:=y8.len
 cases kQ with
 |nul=>simp at hlen;omega
 |win k ay off es c hm hl hc he=>
  refine ab.go hg rfl (d:=.ptr k ay (off+i*s)) (st1:=st) ?_ (hp _) (h _ ⟨k,ay,off,_,rfl,rfl⟩);simp only[dq,hx,hi,bS,ht,hs,Option.bind_some,St.mem_of hm,Option.isSome_some];rw[if_pos ⟨trivial,by omega,by omega,trivial⟩];rfl
theorem ab.o7 {t:TypeId} {ao vo:Operand} {x y v:D} {s i o j:Nat} {ks:Nat→Prop} {vs:List (List D)} {r cs:List D} (hH:Has N S st H) (hg:aD ops fr ⟨none,.store t ao vo,ty,pp,a,g⟩=some true) (ha:fr.ev ao=y) (hv:fr.ev vo=v) (hR:nE x s i o y) (gR:v.cells?=some cs) (hs:b4 P t=some cs.length) (hj:H[j]?=some (.deep ks x s vs)) (hr:vs[i]?=some r) (hl:o+cs.length≤s) (hq:∀d∈cs,b5 d=true) (hw:S.flr≤N∨refs cs=0)
  (h:∀ah,Has N S ah (H.set j (.deep ks x s (vs.set i (setMany r o cs))))→ab P ops rest fr ah Q):ab P ops (⟨none,.store t ao vo,ty,pp,a,g⟩::rest) fr st Q:=by
 obtain⟨k,ay,off,len,rfl,rfl⟩:=hR;obtain⟨ah,h1,h2⟩:=hH.Se hj hr hl hq hw;refine ab.N hg rfl (d:=.tup []) (st1:=ah) ?_ (h _ h2);simp only[dq,ha,hv,jz,gR,hs,if_pos trivial,h1];rfl
theorem af.Lz {dy:Dy} {i:Nat} {l:List Oper} {d n loc tmp st} {Q:Out→Fr→St→Prop} (ws:List Nat) (F:(Nat→D)→Prop)
  (h1:ab P l.toArray l ⟨n,loc,[]⟩ st fun aG ah=>∃f tmp,aG=⟨n,aO loc ws f,tmp⟩∧ah=st∧F f) (h2:∀f tmp,F f→Q .next ⟨n,aO loc ws f,tmp⟩ st) (h0:fx i dy=[]:=by rfl):af P dy (.region i l.toArray d) ⟨n,loc,tmp⟩ st Q:=by
 refine af.fh ?_ h0;unfold ab at h1⊢;obtain⟨aG,ah,h3,f,Hh,rfl,rfl,h4⟩:=h1;exact⟨_,_,h3,h2 _ _ h4⟩
theorem jN {n:Nat} {L loc:List D} {rJ:List (Nat×D)} {ws:List Nat} {F:(Nat→D)→Prop} {st:St} (h:L=aO loc ws (fun k=>nth .bu L k)) (h2:F (fun k=>nth .bu L k)):∃(f:Nat→D) (tmp:List (Nat×D)),(⟨n,L,rJ⟩:Fr)=⟨n,aO loc ws f,tmp⟩∧st=st∧F f:=⟨_,rJ,by rw[←h],rfl,h2⟩
theorem ab.MQ {t1 t2:TypeId} {xo yo:Operand} {x y z:Int} (hg:aD ops fr ⟨some dst,.call ⟨.builtin .min,#[xo,yo],#[t1,t2]⟩,ty,pp,a,g⟩=some true) (hx:fr.ev xo=.int .i64 x) (hy:fr.ev yo=.int .i64 y) (hz:min x y=z) (hp:fr.put dst (.int .i64 z)=aG) (h:ab P ops rest aG st Q):ab P ops (⟨some dst,.call ⟨.builtin .min,#[xo,yo],#[t1,t2]⟩,ty,pp,a,g⟩::rest) fr st Q:=
 ab.FT (t1:=t1) (t2:=t2) hg hx hy (by rw[hz];exact hp) h
theorem Has.uw {N:Nat} {S s0 S2 st2:St} {H:List bF} {x:D} {s:Nat} {es Sb:List (List D)} (h:Has N S s0 (.aM x s es::H)) (hS:S2.bs=s0.bs) (h2:Has N S2 st2 (.aM x s Sb::H)):Has N S ⟨st2.bs.take s0.bs.length,s0.flr,s0.ro⟩ (.aM x s Sb::H):=by
 refine h.sB hS h2 fun i e hi=>?_
 cases i with
 |zero=>simp only[List.getElem?_cons_zero,Option.some.injEq] at hi;subst hi;exact⟨_,rfl,fun k hk=>hk⟩
 |succ i=>exact⟨e,hi,fun k hk=>hk⟩
theorem Has.ux {N:Nat} {S s0 S2 st2:St} {H:List bF} {k:Nat} {b b':gU} {ks:Nat→Prop} {x:D} {s:Nat} {vs Md:List (List D)} (h:Has N S s0 (.box k b::.deep ks x s vs::H)) (hS:S2.bs=s0.bs) (h2:Has N S2 st2 (.box k b'::.deep ks x s Md::H)):Has N S ⟨st2.bs.take s0.bs.length,s0.flr,s0.ro⟩ (.box k b'::.deep ks x s Md::H):=by
 refine h.sB hS h2 fun i e hi=>?_
 match i with
 |0=>simp only[List.getElem?_cons_zero,Option.some.injEq] at hi;subst hi;exact⟨_,rfl,fun k hk=>hk⟩
 |1=>simp only[List.getElem?_cons_succ,List.getElem?_cons_zero,Option.some.injEq] at hi;subst hi;exact⟨_,rfl,fun k hk=>hk⟩
 |i+2=>exact⟨e,hi,fun k hk=>hk⟩
theorem Has.FB {N:Nat} {S st:St} {H:List bF} {a b c d e:bF} (h:Has N S st (a::b::c::d::e::H)):Has N S st (b::c::d::e::a::H):=by
 refine h.sub (fun i=>if i=4 then 0 else if i<4 then i+1 else i) (fun i j hij=>?_) (fun i x hi=>?_)
 ·(try simp only at hij)
  split at hij<;>split at hij<;>(try split at hij)<;>(try split at hij)<;>omega
 ·match i,hi with
  |0,hi=>exact hi
  |1,hi=>exact hi
  |2,hi=>exact hi
  |3,hi=>exact hi
  |4,hi=>exact hi
  |i+5,hi=>
   have h1:¬(i+5=4):=by omega
   have h2:¬(i+5<4):=by omega
   simp only[if_neg h1,if_neg h2];exact hi
theorem Has.j8 {fr:Fr} {a k ay off j u u2:Nat} {t:TypeId} {ar:Bool} {c:List D} {d e e2:D} (hH:Has N S st H) (ha:fr.get a=.ptr k ay off) (hj:H[j]?=some (.box k (.mem ay ar c))) (hd:c9 P t (c.drop off)=some d) (he:fr.get u=e) (y8:fr.get u2=e2):iX P fr st [.cell a t,.tmp u,.tmp u2]=some [d,e,e2]:=by
 simp only[iX,fm,ha,St.mem_of (hH.at hj),Option.bind_some,hd,Option.map_some,he,y8]
theorem af.ib {dy:Dy} {c1 c2:Code} {fr:Fr} {st:St} {Q:Out→Fr→St→Prop} (M:Fr→St→Prop) (h1:af P dy c1 fr st (bX P dy c2 (B4 M Q))) (h2:∀aG ah,M aG ah→Q .next aG ah):af P dy c1 fr st (bX P dy c2 Q):=
 h1.mono fun o aG ah h=>by
  cases o with
  |next=>exact af.merge M h h2
  |exit i=>exact h
  |ret=>exact h
end Go.V
namespace Go.Proofs.YtbdilgkfnacahaaGreat
open Go.V Go
def wh (fr:Go.V.Fr) (k:Nat):Go.V.D:=Go.V.nth .bu fr.loc k
theorem zf {st:St} {L n:Nat} {kn:Bool} {k ay off len s:Nat}:aV st L kn n (.win k ay off len s)=aV st L false n (.win k ay off len s):=by
 cases n<;>rfl
theorem zc (l:List Rg):(l.map au).map (·.map mE)=l.map au:=by
 rw[List.map_map];rfl
theorem vy (l:List Rg):∀e∈l.map au,∀d∈e,lf d=true:=by
 intro e he d hd;obtain⟨x,_,rfl⟩:=List.mem_map.1 he;simp only[au,List.mem_cons,List.not_mem_nil,or_false] at hd
 rcases hd with rfl|rfl<;>rfl
theorem ng {N L j:Nat} {S st:St} {H:List bF} {x:D} {l:List Rg} (hH:Has N S st H) (hj:H[j]?=some (.aM x 2 (l.map au))) (hx:∀k,x.ref=k+1→L≤k) {n:Nat} (hn:3≤n):aV st L false n x=some (bB l):=by
 rw[hH.sS hj hx (vy l) hn,zc,gy]
def Oz (gs:List (Nat×Nat)) (s s':eC) (d1:D) (b:Bool):Prop:=
 B3 gs s s' d1 b∨(s'=s∧d1=.nul∧b=false)
theorem xv {N k:Nat} {S s0:St} {H:List bF} {gs:List (Nat×Nat)} {bJ:D} {bT:List Int} {s:eC} (ba:jZ gs bT) (he:s.e=0) (hi:s.i<gs.length) (hH:Has N S s0 (.box k (.mem 0 false (aS gs bJ s))::.aM bJ 1 (bT.map av)::H)):
  ∃d ah,Ev pv 131 [.ptr k 0 0] s0 d ah∧∃(d1:D) (b:Bool) (s':eC),d=.tup [d1,.bool b]∧Oz gs s s' d1 b∧Has N S ah (.box k (.mem 0 false (aS gs bJ s'))::.aM bJ 1 (bT.map av)::H):=by
 have sP:=ba.gl;have ij:=ba.pl;refine Ev.i7 rfl Oe rfl rfl rfl ?_;dsimp only[u3,u4,List.length,Nat.reduceSub,Nat.reduceAdd,w1,w2];have cp:=hH;have hH:=hH.ct;have cn:(ai .rw s0).bs=s0.bs:=rfl;generalize ai .rw s0=S2 at*;have Gm:Arg N S2 2 (eO gs) (gs.map bh):=Arg.pure (fun st=>dr st gs)
 obtain⟨g,hg⟩:∃g,gs[s.i]?=some g:=⟨gs[s.i]'hi,List.getElem?_eq_getElem _⟩
 have gk:(gs.map bh)[s.i]?=some (bh g):=by rw[List.getElem?_map,hg];rfl
 refine qq<|qj fun K hK=>qm ?_;refine qm ?_;refine qe hK<|qq<|qq<|qj fun K hK=>qm ?_;refine qm ?_;refine qg ?_;refine qp (o:=2) ?_;refine ql hH ax ?_;obtain⟨_,st,aI,rfl,hH⟩:=wX (s:=s) s.i hi hH;refine qv aI ?_;refine qe hK ?_;refine qc (fun hb=>?_) (fun hb=>?_)<;>try simp only[cs] at hb
 ·refine qq<|qj fun K hK=>qm ?_;refine qm ?_;refine qg ?_;refine qp (o:=2) ?_;refine ql hH ax ?_;obtain⟨_,st,aI,rfl,hH⟩:=cL (s:=s) s.i 4 (by omega) hH;refine qv aI ?_;refine qe hK<|qq<|qj fun K hK=>qm ?_;refine qm ?_;refine qe hK ?_;obtain⟨h1,h2,h3,h4⟩:=cV (bT:=bT) (s:=s) (i:=s.i) (e:=4) he (by decide);refine af.ret ⟨rx,_,_,_,rfl,aj (rfl),?_⟩;exact⟨_,_,_,rfl,.inl ⟨h3,h4,by rw[h2];exact Nat.le_refl _,by rw[h2];omega,.inl rfl,.inl h1⟩,cp.aw cn hH⟩
 ·refine af.skip<|qq<|qj fun K hK=>qm ?_;refine qg ?_;refine qp (o:=0) ?_;refine ql hH ax ?_;refine qm ?_;refine qg ?_;refine qp (o:=2) ?_;refine ql hH ax ?_;refine qr fun ML Bc=>?_;refine qf (fo:=0) fun Uo Qh=>?_;refine qR ?_;refine qm ?_;refine qe hK<|qq<|qj fun K hK=>qm ?_;refine qe hK<|af.block<|qq<|qj fun K hK=>qg ?_;refine qm ?_;refine qe hK ?_;refine af.cond (by rfl) (fun q1=>?_) (fun q1=>?_)<;>try simp only[beq_iff_eq,beq_eq_false_iff_ne,ne_eq] at q1
  ·refine qq<|qj fun K hK=>qm ?_;obtain⟨_,st,aI,d1,b,s',rfl,hP,hH⟩:=xl (s:=s) ba he hi hH;refine qv aI ?_;refine qg ?_;refine qg ?_;refine qm ?_;refine qm ?_;refine qe hK ?_
   rcases hP.2.2.2.2.1 with rfl|⟨a,rfl,_⟩
   ·refine af.ret ⟨rx,_,_,_,rfl,aj (rfl),?_⟩;exact⟨_,_,_,rfl,.inl hP,cp.aw cn hH⟩
   ·refine af.ret ⟨rx,_,_,_,rfl,aj (rfl),?_⟩;exact⟨_,_,_,rfl,.inl hP,cp.aw cn hH⟩
  ·refine qq<|qq<|qj fun K hK=>qg ?_;refine qm ?_;refine qe hK ?_
   by_cases LP:((g.1:Nat):Int)=91
   ·refine qD rfl (by simp[LP]) ?_;refine af.skip<|qD rfl (by simp[LP]) ?_;refine qq<|qj fun K hK=>qm ?_;refine qm ?_;refine qe hK<|af.ret ⟨rx,_,_,_,rfl,aj (rfl),?_⟩;exact⟨_,_,_,rfl,.inr ⟨rfl,rfl,rfl⟩,cp.aw cn hH⟩
   refine qE rfl (by simp[LP]) ?_;refine qq<|qj fun K hK=>qg ?_;refine qm ?_;refine qe hK ?_
   by_cases O':((g.1:Nat):Int)=93
   ·refine qD rfl (by simp[O']) ?_;refine af.skip<|qD rfl (by simp[O']) ?_;refine qq<|qj fun K hK=>qm ?_;refine qm ?_;refine qe hK<|af.ret ⟨rx,_,_,_,rfl,aj (rfl),?_⟩;exact⟨_,_,_,rfl,.inr ⟨rfl,rfl,rfl⟩,cp.aw cn hH⟩
   refine qE rfl (by simp[O']) ?_;refine qj fun K hK=>qg ?_;refine qm ?_;refine qe hK ?_
   by_cases SL:((g.1:Nat):Int)=45
   ·refine qD rfl (by simp[SL]) ?_;refine qq<|qj fun K hK=>qm ?_;refine qm ?_;refine qe hK<|af.ret ⟨rx,_,_,_,rfl,aj (rfl),?_⟩;exact⟨_,_,_,rfl,.inr ⟨rfl,rfl,rfl⟩,cp.aw cn hH⟩
   refine qE rfl (by simp[SL]) ?_;refine qq<|qj fun K hK=>qm ?_;refine qg ?_;refine qp (o:=2) ?_;refine ql hH ax ?_;refine qA ?_;refine qg ?_;refine qp (o:=2) ?_;refine qT hH ax fun st hH=>?_;dsimp only[u2,u1,u3,u4,setMany,u5,u6,D.cells,Nat.reduceAdd,aS,bh,av,au] at hH;refine qe hK<|qq<|qj fun K hK=>qm ?_;refine qm ?_;refine ab.fu (qs:=[(0,_),(1,_)]) rfl rfl rfl rfl ⟨rfl,(ev rfl),(by rfl),rfl,(ev rfl),(by rfl),trivial⟩ (by intro q hq;simp only[List.mem_cons,List.not_mem_nil,or_false] at hq;rcases hq with rfl|rfl<;>exact⟨rfl,by exact Nat.le_of_ble_eq_true rfl⟩) (by show List.foldl _ [_,_] _=_;dsimp only[List.foldl_cons,List.foldl_nil,u2,u1]<;>rfl) (ag rfl _) ?_;refine qh (s:=2) (vs:=[_]) hH fun k39 st VT hH=>?_;refine qm ?_;refine qm ?_;refine qe hK ?_;have hH:Has N S2 st (.aM (.win k39 0 0 1 2) 2 (([((g.1:Nat),(g.1:Nat))]:List Rg).map au)::.box k (.mem 0 false (aS gs bJ {s with i:=s.i+1}))::.aM bJ 1 (bT.map av)::H):=hH;have hfz:=ng hH ax (L:=s0.bs.length) (n:=15) (fun k hk=>by simp only[D.ref] at hk;rw[←cn];omega) (by decide)
   have QH:aV st s0.bs.length true 16 (pE [.win k39 0 0 1 2,.bool true])=some (.tup [bB [(((g.1:Nat):Int),((g.1:Nat):Int))],.bool true]):=by
    show(eA (aV st s0.bs.length true 15) [.win k39 0 0 1 2,.bool true]).map D.tup=_;simp only[eA,zf,hfz];rfl
   refine af.ret ⟨rx,_,_,_,rfl,aj QH,⟨_,_,{s with i:=s.i+1},rfl,.inl ⟨rfl,rfl,?_,?_,.inr ⟨_,rfl,by simp⟩,.inr ⟨he,?_,_,rfl,?_,?_⟩⟩,cp.aw cn (hH.drop 1)⟩⟩
   ·show s.i≤s.i+1;omega
   ·show s.i+1≤_;omega
   ·show s.i<s.i+1;omega
   ·simp
   ·simp
def OB (gs:List (Nat×Nat)) (s s':eC) (d:D):Prop:=
 s'.o=s.o∧s'.g=s.g∧s.i≤s'.i∧s'.i≤gs.length∧∃a:List Rg,d=bB a∧a.length≤8∧(s'.e≠0∨s'.e=0∧s.i<s'.i)
theorem fY {gs:List (Nat×Nat)} {s:eC} {r:Int}:(cK gs s r).o=s.o∧(cK gs s r).g=s.g∧(cK gs s r).e=s.e∧s.i≤(cK gs s r).i∧(s.i≤gs.length→(cK gs s r).i≤gs.length):=by
 unfold cK
 split
 ·rename_i h;have:=oK h;exact⟨rfl,rfl,rfl,by show s.i≤s.i+1;omega,fun _=>by show s.i+1≤_;omega⟩
 ·exact⟨rfl,rfl,rfl,Nat.le_refl _,fun h=>h⟩
theorem F0 {N k:Nat} {S s0:St} {H:List bF} {gs:List (Nat×Nat)} {bJ:D} {bT:List Int} {s:eC} (ba:jZ gs bT) (he:s.e=0) (hi:s.i<gs.length) (hH:Has N S s0 (.box k (.mem 0 false (aS gs bJ s))::.aM bJ 1 (bT.map av)::H)):
  ∃d ah,Ev pv 120 [.ptr k 0 0] s0 d ah∧∃(s':eC),OB gs s s' d∧Has N S ah (.box k (.mem 0 false (aS gs bJ s'))::.aM bJ 1 (bT.map av)::H):=by
 have sP:=ba.gl;have ij:=ba.pl;refine Ev.i7 rfl Oh rfl rfl rfl ?_;dsimp only[u3,u4,List.length,Nat.reduceSub,Nat.reduceAdd,w1,w2];have cp:=hH;have hH:=hH.ct;have cn:(ai .rw s0).bs=s0.bs:=rfl;generalize ai .rw s0=S2 at*;have Gm:Arg N S2 2 (eO gs) (gs.map bh):=Arg.pure (fun st=>dr st gs);refine qq<|qj fun K hK=>qm ?_;refine qe hK<|qq<|qj fun K hK=>qm ?_;refine qg ?_;refine qp (o:=2) ?_;refine ql hH ax ?_;refine qm ?_;refine qe hK<|qq<|qj fun K hK=>qm ?_;obtain⟨_,st,aI,d1,b,s1,rfl,hP,hH⟩:=xv (s:=s) ba he hi hH;refine qv aI ?_;refine qm ?_;refine qg ?_;refine qg ?_;refine qm ?_;refine qm ?_;refine qe hK<|qq<|qq<|qj fun K hK=>qm ?_;refine qg ?_;refine qp (o:=5) ?_;refine ql hH ax ?_;refine qg ?_;refine qe hK ?_
 rcases hP with hP|⟨e1,rfl,rfl⟩
 ·obtain⟨p1,p2,p3,p4,p5,p6⟩:=hP
  rcases p6 with p6|⟨p6,p7,a,rfl,p8,p9⟩
  ·refine qD rfl (by simp[p6]) ?_;refine qq<|qj fun K hK=>qm ?_;refine qe hK<|af.ret ⟨rx,_,_,_,rfl,aj (rfl),?_⟩;exact⟨s1,⟨p1,p2,p3,p4,[],rfl,by simp,.inl p6⟩,cp.aw cn hH⟩
  ·obtain⟨q,a',rfl⟩:∃q a',a=q::a':=List.exists_cons_of_ne_nil p9;refine qE rfl (by simp[p6]) ?_;refine af.skip<|qq<|qq<|qj fun K hK=>qm ?_;refine ab.go (d:=.bool false) (st1:=_) rfl rfl rfl (ag rfl _) ?_;refine qe hK<|qC ?_;refine af.skip ?_;obtain⟨k1,k2,k3,k4,k5⟩:=fY (gs:=gs) (s:=s1) (r:=45);have k5:=k5 p4;refine qq<|qq<|qj fun K hK=>qm ?_;obtain⟨_,st,aI,rfl,hH⟩:=dz (s:=s1) (by omega) 45 hH;refine qv aI ?_;refine qg ?_;refine qe hK ?_;generalize cK gs s1 45=s2 at*
   cases hb:iu gs s1.i 45 with
   |false=>
    refine qB ?_;refine qq<|qj fun K hK=>qm ?_;refine qm ?_;refine qe hK<|af.ret ⟨rx,_,_,_,rfl,aj (rfl),?_⟩;exact⟨s2,⟨k1.trans p1,k2.trans p2,by omega,k5,q::a',rfl,p8,.inr ⟨k3.trans p6,by omega⟩⟩,cp.aw cn hH⟩
   |true=>
    refine qC ?_;refine af.skip<|qq<|qj fun K hK=>qm ?_;refine qe hK<|qq<|qj fun K hK=>qm ?_;refine qe hK<|qq<|qq<|qj fun K hK=>qm ?_;refine qg ?_;refine qp (o:=2) ?_;refine ql hH ax ?_;refine qm ?_;refine qg ?_;refine qp (o:=0) ?_;refine ql hH ax ?_;refine qn ?_;simp only[List.length_map];refine qg ?_;refine qe hK<|af.merge (fun fr st=>∃(d2:D) (two:Bool) (s3:eC) (tmp:List (Nat×D)),fr=⟨8,[.ptr k 0 0,wh fr 1,wh fr 2,.int .i64 (s.i:Nat),bB (q::a'),.bool b,d2,.bool two],tmp⟩∧Has N S2 st (.box k (.mem 0 false (aS gs bJ s3))::.aM bJ 1 (bT.map av)::H)∧(s3.o=s.o)∧(s3.g=s.g)∧(s2.i≤s3.i)∧(s3.i≤gs.length)∧(s3.e≠0∨s3.e=0∧(two=false∨∃a2:List Rg,d2=bB a2∧a2≠[]))) ?_ ?_
    ·refine af.cond (by rfl) (fun hlt=>?_) (fun hlt=>?_)<;>try simp only[decide_eq_true_eq,decide_eq_false_iff_not] at hlt
     ·refine qj fun K hK=>qm ?_;obtain⟨_,st,aI,d2,two,s3,rfl,WA,hH⟩:=xv (s:=s2) ba (k3.trans p6) (by omega) hH;refine qv aI ?_;refine qm ?_;refine qg ?_;refine qg ?_;refine qm ?_;refine qm ?_;refine qe hK ?_
      rcases WA with⟨r1,r2,r3,r4,r5,r6⟩|⟨e1,rfl,rfl⟩
      ·refine⟨d2,two,s3,_,rfl,hH,r1.trans (k1.trans p1),r2.trans (k2.trans p2),r3,r4,?_⟩
       rcases r6 with r6|⟨r6,r7,a2,rfl,r8,r9⟩
       ·exact .inl r6
       ·refine .inr ⟨r6,?_⟩
        cases two with
        |false=>exact .inl rfl
        |true=>exact .inr ⟨a2,rfl,r9⟩
      ·exact⟨.nul,false,s3,_,rfl,hH,by rw[e1];exact k1.trans p1,by rw[e1];exact k2.trans p2,by rw[e1];exact Nat.le_refl _,by rw[e1];exact k5,.inr ⟨by rw[e1];exact k3.trans p6,.inl rfl⟩⟩
     ·refine af.skip ?_;exact⟨.nul,false,s2,_,rfl,hH,k1.trans p1,k2.trans p2,Nat.le_refl _,k5,.inr ⟨k3.trans p6,.inl rfl⟩⟩
    ·rintro fr st ⟨d2,two,s3,tmp,hfr,hH,h1,h2,h3,h4,h5⟩;rw[hfr];clear hfr;generalize wh fr=ee;clear fr
     rcases h5 with h5|⟨h5,h6⟩
     ·have a7:(s3.e==0)=false:=by simpa using h5
      refine qq<|qq<|qj fun K hK=>qm ?_;refine qg ?_;refine qp (o:=5) ?_;refine ql hH ax ?_;refine qg ?_;refine qm ?_;refine qs ?_ (hg:=wn a7);refine qs ?_ (hg:=wn a7);refine qs ?_ (hg:=wn a7);refine qs ?_;refine qs ?_;refine qs ?_ (hg:=wn a7);refine qs ?_ (hg:=wn a7);refine qs ?_;refine qs ?_;refine qs ?_;refine qs ?_;refine qs ?_;refine qs ?_;refine qs ?_;refine qs ?_;refine qs ?_;refine qs ?_ (hg:=wn a7);refine qu a7 ?_;refine qe hK<|qC ?_;refine af.skip<|qq<|qq<|qj fun K hK=>qm ?_;refine qg ?_;refine qp (o:=5) ?_;refine ql hH ax ?_;refine qg ?_;refine qe hK<|qD rfl (by simp[h5]) ?_;refine qq<|qj fun K hK=>qm ?_;refine qe hK<|af.ret ⟨rx,_,_,_,rfl,aj (rfl),?_⟩;exact⟨s3,⟨h1,h2,by omega,h4,[],rfl,by simp,.inl h5⟩,cp.aw cn hH⟩
     ·have a7:(s3.e==0)=true:=by simpa using h5
      cases b with
      |false=>
       have gg:(!false)=true:=rfl;refine qq<|qq<|qj fun K hK=>qm ?_;refine qg ?_;refine qp (o:=5) ?_;refine ql hH ax ?_;refine qg ?_;refine qm ?_;refine qm ?_ (hg:=wi a7);refine qg ?_ (hg:=wi a7);refine qm ?_ (hg:=wi a7);refine qs ?_ (hg:=wn gg);refine qs ?_ (hg:=wn gg);refine ab.dO (aC rfl rfl rfl a7) rfl gg (ag rfl _) ?_;refine qm ?_ (hg:=wi a7);refine qs ?_;refine qs ?_;refine qs ?_;refine qs ?_;refine qs ?_;refine qs ?_;refine qs ?_;refine qs ?_;refine qs ?_;refine qg ?_ (hg:=wi a7);refine qt a7 ?_;refine qe hK<|qB ?_;refine qj fun K hK=>qm ?_;refine qm ?_;obtain⟨_,st,aI,rfl,hH⟩:=cL (s:=s3) s.i 4 (by omega) hH;refine qv aI ?_;refine qe hK ?_;obtain⟨w1,w2,w3,w4⟩:=cV (bT:=bT) (s:=s3) (i:=s.i) (e:=4) h5 (by decide);generalize h_ bT s3 s.i 4=s4 at*;refine qq<|qq<|qj fun K hK=>qm ?_;refine qg ?_;refine qp (o:=5) ?_;refine ql hH ax ?_;refine qg ?_;refine qe hK<|qD rfl (by simp[w1]) ?_;refine qq<|qj fun K hK=>qm ?_;refine qe hK<|af.ret ⟨rx,_,_,_,rfl,aj (rfl),?_⟩;exact⟨s4,⟨w3.trans h1,w4.trans h2,by omega,by omega,[],rfl,by simp,.inl w1⟩,cp.aw cn hH⟩
      |true=>
       have gg:(!true)=false:=rfl
       cases two with
       |false=>
        have cT:(!false)=true:=rfl;refine qq<|qq<|qj fun K hK=>qm ?_;refine qg ?_;refine qp (o:=5) ?_;refine ql hH ax ?_;refine qg ?_;refine qm ?_;refine qm ?_ (hg:=wi a7);refine qg ?_ (hg:=wi a7);refine qm ?_ (hg:=wi a7);refine qm ?_ (hg:=wi gg);refine qg ?_ (hg:=wi gg);refine ab.cZ (aC rfl rfl rfl a7) rfl gg (ag rfl _) ?_;refine qm ?_ (hg:=wi a7);refine qs ?_ (hg:=wn cT);refine qs ?_ (hg:=wn cT);refine qs ?_ (hg:=wn cT);refine qs ?_ (hg:=wn cT);refine qs ?_ (hg:=wn cT);refine qs ?_ (hg:=wn cT);refine qs ?_ (hg:=wn cT);refine qs ?_ (hg:=wn cT);refine qs ?_ (hg:=wn cT);refine ab.dO (aC rfl rfl rfl a7) rfl cT (ag rfl _) ?_;refine qt a7 ?_;refine qe hK<|qB ?_;refine qj fun K hK=>qm ?_;refine qm ?_;obtain⟨_,st,aI,rfl,hH⟩:=cL (s:=s3) s.i 4 (by omega) hH;refine qv aI ?_;refine qe hK ?_;obtain⟨w1,w2,w3,w4⟩:=cV (bT:=bT) (s:=s3) (i:=s.i) (e:=4) h5 (by decide);generalize h_ bT s3 s.i 4=s4 at*;refine qq<|qq<|qj fun K hK=>qm ?_;refine qg ?_;refine qp (o:=5) ?_;refine ql hH ax ?_;refine qg ?_;refine qe hK<|qD rfl (by simp[w1]) ?_;refine qq<|qj fun K hK=>qm ?_;refine qe hK<|af.ret ⟨rx,_,_,_,rfl,aj (rfl),?_⟩;exact⟨s4,⟨w3.trans h1,w4.trans h2,by omega,by omega,[],rfl,by simp,.inl w1⟩,cp.aw cn hH⟩
       |true=>
        have cT:(!true)=false:=rfl
        obtain⟨a2,rfl,h7⟩:∃a2:List Rg,d2=bB a2∧a2≠[]:=by
         rcases h6 with h6|h6
         ·cases h6
         ·exact h6
        obtain⟨q2,TN,rfl⟩:∃q a',a2=q::a':=List.exists_cons_of_ne_nil h7;have PV:=(iB (q::a')).arg N S2;have A_:=(iB (q2::TN)).arg N S2;have OL:((q::a').map au)[0]?=some (au q):=rfl;have gk:((q2::TN).map au)[0]?=some (au q2):=rfl;refine qq<|qq<|qj fun K hK=>qm ?_;refine qg ?_;refine qp (o:=5) ?_;refine ql hH ax ?_;refine qg ?_;refine qm ?_;refine qm ?_ (hg:=wi a7);refine qg ?_ (hg:=wi a7);refine qm ?_ (hg:=wi a7);refine qm ?_ (hg:=wi gg);refine qg ?_ (hg:=wi gg);refine ab.cZ (aC rfl rfl rfl a7) rfl gg (ag rfl _) ?_;refine qm ?_ (hg:=wi a7);refine qm ?_ (hg:=wi cT);refine qr (fun Xa U'=>?_) (hg:=wi cT);refine qf (fo:=0) (fun Ug P_=>?_) (hg:=wi cT);refine qR ?_ (hg:=wi cT);refine qm ?_ (hg:=wi cT);refine qr (fun SP Ng=>?_) (hg:=wi cT);refine qf (fo:=0) (fun Ue P8=>?_) (hg:=wi cT);refine qR ?_ (hg:=wi cT);refine qg ?_ (hg:=wi cT);refine ab.cZ (aC rfl rfl rfl a7) rfl cT (ag rfl _) ?_;refine qt a7 ?_;refine qe hK ?_;refine af.cond (by rfl) (fun hgt=>?_) (fun hgt=>?_)<;>try simp only[decide_eq_true_eq,decide_eq_false_iff_not] at hgt
        ·refine qj fun K hK=>qm ?_;refine qm ?_;obtain⟨_,st,aI,rfl,hH⟩:=cL (s:=s3) s.i 4 (by omega) hH;refine qv aI ?_;refine qe hK ?_;obtain⟨w1,w2,w3,w4⟩:=cV (bT:=bT) (s:=s3) (i:=s.i) (e:=4) h5 (by decide);generalize h_ bT s3 s.i 4=s4 at*;refine qq<|qq<|qj fun K hK=>qm ?_;refine qg ?_;refine qp (o:=5) ?_;refine ql hH ax ?_;refine qg ?_;refine qe hK<|qD rfl (by simp[w1]) ?_;refine qq<|qj fun K hK=>qm ?_;refine qe hK<|af.ret ⟨rx,_,_,_,rfl,aj (rfl),?_⟩;exact⟨s4,⟨w3.trans h1,w4.trans h2,by omega,by omega,[],rfl,by simp,.inl w1⟩,cp.aw cn hH⟩
        ·refine af.skip<|qq<|qq<|qj fun K hK=>qm ?_;refine qg ?_;refine qp (o:=5) ?_;refine ql hH ax ?_;refine qg ?_;refine qe hK<|qE rfl (by simp[h5]) ?_;refine af.skip<|qq<|qj fun K hK=>qm ?_;refine qr fun Ua P4=>?_;refine qf (fo:=0) fun W6 U6=>?_;refine qR ?_;refine qm ?_;refine qr fun W4 U4=>?_;refine qf (fo:=0) fun T9 P2=>?_;refine qR ?_;refine ab.fu (qs:=[(0,_),(1,_)]) rfl rfl rfl rfl ⟨rfl,(ev rfl),(by rfl),rfl,(ev rfl),(by rfl),trivial⟩ (by intro q hq;simp only[List.mem_cons,List.not_mem_nil,or_false] at hq;rcases hq with rfl|rfl<;>exact⟨rfl,by exact Nat.le_of_ble_eq_true rfl⟩) (by show List.foldl _ [_,_] _=_;dsimp only[List.foldl_cons,List.foldl_nil,u2,u1]<;>rfl) (ag rfl _) ?_;refine qh (s:=2) (vs:=[_]) hH fun k87 st VE hH=>?_;dsimp only[u2,u1,u3,u4,setMany,u5,u6,D.cells,Nat.reduceAdd,aS,bh,av,au] at hH;refine qm ?_;refine qe hK ?_;have hH:Has N S2 st (.aM (.win k87 0 0 1 2) 2 (([(q.1,q2.1)]:List Rg).map au)::.box k (.mem 0 false (aS gs bJ s3))::.aM bJ 1 (bT.map av)::H):=hH;have hfz:=ng hH ax (L:=s0.bs.length) (n:=16) (fun k hk=>by simp only[D.ref] at hk;rw[←cn];omega) (by decide);refine af.ret ⟨rx,_,_,_,rfl,aj hfz,⟨s3,⟨h1,h2,by omega,h4,[(q.1,q2.1)],rfl,by simp,.inr ⟨h5,by omega⟩⟩,cp.aw cn (hH.drop 1)⟩⟩
 ·have e2:s1.e=0:=by rw[e1];exact he
  have e3:s1.i=s.i∧s1.o=s.o∧s1.g=s.g:=by rw[e1];exact⟨rfl,rfl,rfl⟩
  clear e1;refine qE rfl (by simp[e2]) ?_;refine af.skip<|qq<|qq<|qj fun K hK=>qm ?_;refine ab.go (d:=.bool true) (st1:=_) rfl rfl rfl (ag rfl _) ?_;refine qe hK<|qB ?_;refine qq<|qj fun K hK=>qm ?_;refine qm ?_;obtain⟨_,st,aI,rfl,hH⟩:=cL (s:=s1) s.i 4 (by omega) hH;refine qv aI ?_;refine qe hK ?_;obtain⟨w1,w2,w3,w4⟩:=cV (bT:=bT) (s:=s1) (i:=s.i) (e:=4) e2 (by decide);refine qq<|qj fun K hK=>qm ?_;refine qe hK<|af.ret ⟨rx,_,_,_,rfl,aj (rfl),?_⟩;exact⟨_,⟨by omega,by omega,by omega,by omega,[],rfl,by simp,.inl w1⟩,cp.aw cn hH⟩
end Go.Proofs.YtbdilgkfnacahaaGreat
namespace Go.Proofs.YtbdilgkfnacahaaGreat
open Go.V Go
def wg (fr:Go.V.Fr) (k:Nat):Go.V.D:=Go.V.nth .bu fr.loc k
def tn (n:da):Prop:=n.rd=bB n.rs∧n.rs.length≤1048576∧n.kids≤1048576
def sa (op mn mx:Int) (lz:Bool) (cap kids:Int) (a:List Rg):da:=⟨op,bB a,a,mn,mx,lz,cap,kids⟩
def tg (l:List da):D:=.sl ((l.map bd).map (jr 7))
theorem FN (l:List da):∀e∈l.map bd,e.length=7:=by
 intro e he;obtain⟨x,_,rfl⟩:=List.mem_map.1 he;rfl
theorem mc {l:List da} (h:∀n∈l,tn n):∀e∈l.map bd,∀d∈e,b5 d=true:=by
 intro e he d hd;obtain⟨n,hn,rfl⟩:=List.mem_map.1 he;have hr:=(h n hn).1;simp only[bd,hr,List.mem_cons,List.not_mem_nil,or_false] at hd
 rcases hd with rfl|rfl|rfl|rfl|rfl|rfl|rfl<;>rfl
theorem qF {l:List da} (h:∀n∈l,tn n):e_ (tg l) 7 (l.map bd):=e_.frozen (FN l) (mc h)
theorem MN {l:List da} (h:∀n∈l,tn n) (hl:l.length≤1048576):(⟨tg l,l⟩:Nl).ok:=by
 refine⟨qF h,fun n hn=>?_,hl⟩;obtain⟨h1,h2,h3⟩:=h n hn;exact⟨by rw[h1];exact iB _,h2,by omega⟩
theorem rZ {l:List da} (h:∀n∈l,tn n):(l.map bd).map (·.map mE)=l.map bd:=by
 rw[List.map_map];refine List.map_congr_left fun n hn=>?_;have hr:=(h n hn).1;show(bd n).map mE=bd n;unfold bd;rw[hr];rfl
theorem oA {l:List da} (h:∀n∈l,tn n):∀e∈l.map bd,∀d∈e,lf d=true:=by
 intro e he d hd;have:=mc h e he d hd
 cases d<;>first|rfl|exact this
theorem gZ {N L j:Nat} {S st:St} {H:List bF} {x:D} {es:List (List D)} {l:List da} (hH:Has N S st H) (hj:H[j]?=some (.aM x 7 es)) (he:es.map (·.map mE)=l.map bd) (ht:∀e∈es,∀d∈e,lf d=true) (hx:∀k,x.ref=k+1→L≤k) {n:Nat} (hn:3≤n):aV st L false n x=some (tg l):=by
 rw[hH.sS hj hx ht hn,he];rfl
theorem g_ {N L j:Nat} {S st:St} {H:List bF} {x w:D} {op mn mx cap kids:Int} {lz:Bool} {a:List Rg} (hH:Has N S st H) (hj:H[j]?=some (.aM x 7 [[.int .i64 op,w,.int .i64 mn,.int .i64 mx,.bool lz,.int .i64 cap,.int .i64 kids]])) (hw:w=bB a∨w=.nul∧a=[]) (hx:∀k,x.ref=k+1→L≤k):aV st L false 16 x=some (tg [sa op mn mx lz cap kids a]):=by
 refine gZ hH hj ?_ (fun e he d hd=>?_) hx (by decide)
 ·rcases hw with rfl|⟨rfl,rfl⟩<;>rfl
 ·simp only[List.mem_cons,List.not_mem_nil,or_false] at he;subst he;simp only[List.mem_cons,List.not_mem_nil,or_false] at hd
  rcases hw with rfl|⟨rfl,rfl⟩<;>rcases hd with rfl|rfl|rfl|rfl|rfl|rfl|rfl<;>rfl
theorem AO {op mn mx cap kids:Int} {lz:Bool} {a:List Rg} (h:a.length≤1048576) (hk:kids≤1048576):∀n∈[sa op mn mx lz cap kids a],tn n:=by
 intro n hn;simp only[List.mem_cons,List.not_mem_nil,or_false] at hn;subst hn;exact⟨rfl,h,hk⟩
def te (gs:List (Nat×Nat)) (s s':eC) (d:D):Prop:=
 s'.o=s.o∧s'.g≤4∧s.i≤s'.i∧s'.i≤gs.length∧∃l:List da,d=tg l∧(∀n∈l,tn n)∧l.length≤4*(s'.i-s.i)+1
def ir (gs:List (Nat×Nat)) (s s':eC) (d:D) (c:Nat):Prop:=
 s'.o=s.o∧s'.g≤4∧s.i≤s'.i∧s'.i≤gs.length∧∃l:List da,d=tg l∧(∀n∈l,tn n)∧l.length≤4*(s'.i-s.i)+1∧(s'.e≠0∨s'.e=0∧l.length+c≤4*(s'.i-s.i))
theorem fv {gs:List (Nat×Nat)} {s s':eC} {c:Nat} (h1:s'.o=s.o) (h2:s'.g≤4) (h3:s.i≤s'.i) (h4:s'.i≤gs.length) (h5:s'.e≠0):ir gs s s' (.sl []) c:=
 ⟨h1,h2,h3,h4,[],rfl,fun n hn=>(by cases hn),by simp,.inl h5⟩
theorem BJ {N k:Nat} {S s0:St} {H:List bF} {gs:List (Nat×Nat)} {bJ:D} {bT:List Int} {s:eC} (ba:jZ gs bT) (he:s.e=0) (hi:s.i<gs.length) (hg:s.g≤4) (hH:Has N S s0 (.box k (.mem 0 false (aS gs bJ s))::.aM bJ 1 (bT.map av)::H)):
  ∃d ah,Ev pv 103 [.ptr k 0 0] s0 d ah∧∃(s':eC),ir gs s s' d 2∧Has N S ah (.box k (.mem 0 false (aS gs bJ s'))::.aM bJ 1 (bT.map av)::H):=by
 have sP:=ba.gl;have ij:=ba.pl;refine Ev.i7 rfl Oo rfl rfl rfl ?_;dsimp only[u3,u4,List.length,Nat.reduceSub,Nat.reduceAdd,w1,w2];have cp:=hH;have hH:=hH.ct;have cn:(ai .rw s0).bs=s0.bs:=rfl;generalize ai .rw s0=S2 at*;have Gm:Arg N S2 2 (eO gs) (gs.map bh):=Arg.pure (fun st=>dr st gs);refine qq<|qj fun K hK=>qm ?_;refine qe hK<|qq<|qj fun K hK=>qm ?_;refine qg ?_;refine qp (o:=2) ?_;refine ql hH ax ?_;refine qm ?_;refine qe hK<|qq<|qj fun K hK=>qm ?_;refine qg ?_;refine qp (o:=2) ?_;refine ql hH ax ?_;refine qA ?_;refine qg ?_;refine qp (o:=2) ?_;refine qT hH ax fun st hH=>?_;dsimp only[u2,u1,u3,u4,setMany,u5,u6,D.cells,Nat.reduceAdd,aS,bh,av,au] at hH;refine qe hK ?_;have hH:Has N S2 st (.box k (.mem 0 false (aS gs bJ {s with i:=s.i+1}))::.aM bJ 1 (bT.map av)::H):=hH;obtain⟨k1,k2,k3,k4,k5⟩:=fY (gs:=gs) (s:={s with i:=s.i+1}) (r:=94);have k5:=k5 (by show s.i+1≤_;omega);simp only at k1 k2 k3 k4;refine qq<|qj fun K hK=>qm ?_;obtain⟨_,st,aI,rfl,hH⟩:=dz (s:={s with i:=s.i+1}) (by omega) 94 hH;refine qv aI ?_;refine qm ?_;refine qe hK ?_;generalize cK gs {s with i:=s.i+1} 94=s1 at*;generalize iu gs ({s with i:=s.i+1}:eC).i 94=nt at*;refine qq<|qj fun K hK=>qm ?_;refine qe hK<|qq<|qj fun K hK=>qm ?_;refine qe hK ?_
 have hH:Has N S2 st (.box k (.mem 0 false (aS gs bJ s1))::.aM bJ 1 (bT.map av)::.aM .nul 2 (([]:List Rg).map au)::H):=((hH.dP 2).front bC|>.front dp|>fun h=>(h.front bC))
 refine qq<|af.block<|af.loop (fun mm fr st=>∃(s1:eC) (ld:D) (lr:List Rg) (nn:Bool),fr.clean=⟨7,[.ptr k 0 0,wg fr 1,wg fr 2,.int .i64 (s.i:Nat),.bool nt,ld,.bool nn],[]⟩∧Has N S2 st (.box k (.mem 0 false (aS gs bJ s1))::.aM bJ 1 (bT.map av)::.aM ld 2 (lr.map au)::H)∧(s1.o=s.o)∧(s1.g=s.g)∧(s.i<s1.i)∧(s1.i≤gs.length)∧(lr.length≤8*s1.i+8)∧(s1.e=0→lr.length≤8*s1.i)∧(gs.length-s1.i+(if s1.e=0 then 1 else 0)≤mm)) (gs.length+1) ?_ ?_
 ·exact⟨s1,.nul,[],true,rfl,hH,k1,k2,by omega,k5,by simp,fun _=>by simp,by split<;>omega⟩
 rintro mm fr st ⟨s1,ld,lr,nn,hfr,hH,h1,h2,h3,h4,h5,h6,wv⟩;rw[hfr];clear hfr;generalize wg fr=ee;clear fr
 by_cases kQ:s1.e=0
 ·rw[if_pos kQ] at wv;have h6:=h6 kQ;have a7:(s1.e==0)=true:=by simpa using kQ
  refine qq<|qq<|qj fun K hK=>qm ?_;refine qg ?_;refine qp (o:=5) ?_;refine ql hH ax ?_;refine qg ?_;refine qm ?_;refine qm ?_ (hg:=wi a7);obtain⟨_,st,aI,rfl,hH⟩:=nb (s:=s1) (by omega) 93 hH;refine qv aI ?_ (hg:=wi a7);refine qg ?_ (hg:=wi a7);refine qt a7 ?_;refine qe hK ?_
  cases hb:iu gs s1.i 93 with
  |true=>
   have hlt:=oK hb;refine qC ?_;refine af.exit<|qq<|qq<|qj fun K hK=>qm ?_;refine qg ?_;refine qp (o:=5) ?_;refine ql hH ax ?_;refine qg ?_;refine qe hK<|qE rfl (by simp[kQ]) ?_;refine af.skip<|qq<|qq<|qj fun K hK=>qm ?_;refine qe hK ?_
   cases nn with
   |true=>
    refine qB ?_;refine qq<|qj fun K hK=>qm ?_;refine qm ?_;obtain⟨_,st,aI,rfl,hH⟩:=cL (s:=s1) s.i 4 (by omega) hH;refine qv aI ?_;refine qm ?_;refine qe hK ?_;obtain⟨w1,w2,w3,w4⟩:=cV (bT:=bT) (s:=s1) (i:=s.i) (e:=4) kQ (by decide);refine af.ret ⟨rx,_,_,_,rfl,aj (rfl),?_⟩;exact⟨_,fv (by omega) (by omega) (by omega) (by omega) w1,cp.aw cn (hH.erase 2)⟩
   |false=>
    refine qC ?_;refine af.skip<|qq<|qj fun K hK=>qm ?_;refine qg ?_;refine qp (o:=2) ?_;refine ql hH ax ?_;refine qA ?_;refine qg ?_;refine qp (o:=2) ?_;refine qT hH ax fun st hH=>?_;dsimp only[u2,u1,u3,u4,setMany,u5,u6,D.cells,Nat.reduceAdd,aS,bh,av,au] at hH;refine qe hK<|qq<|qj fun K hK=>qm ?_;obtain⟨aI,Gi,_⟩:=lp (l:=lr) (hH.rows dp) (by omega);refine qv aI ?_;refine qm ?_;refine qe hK ?_;generalize jJ lr=m at*;refine qq<|qq<|qj fun K hK=>qm ?_;refine qe hK ?_
    have fG:∀(st:St) (a:List Rg) (k70:Nat),a.length≤1048576→S2.bs.length≤k70→Has N S2 st (.aM (.win k70 0 0 1 7) 7 [[.int .i64 2,bB a,.int .i64 0,.int .i64 0,.bool false,.int .i64 0,.int .i64 0]]::.box k (.mem 0 false (aS gs bJ {s1 with i:=s1.i+1}))::.aM bJ 1 (bT.map av)::.aM ld 2 (lr.map au)::H)→
      ∃d ah,cF .rw false s0 st (.win k70 0 0 1 7)=some (d,ah)∧∃(s':eC),ir gs s s' d 2∧Has N S ah (.box k (.mem 0 false (aS gs bJ s'))::.aM bJ 1 (bT.map av)::H):=by
     intro st a k70 ha hk hH;have hfz:=g_ hH ax (L:=s0.bs.length) (.inl rfl) (fun k hk=>by simp only[D.ref] at hk;rw[←cn];omega);exact⟨_,_,aj hfz,{s1 with i:=s1.i+1},⟨h1,by show s1.g≤4;omega,by show s.i≤s1.i+1;omega,by show s1.i+1≤_;omega,_,rfl,AO ha (by omega),by simp,.inr ⟨kQ,by show 1+2≤4*(s1.i+1-s.i);omega⟩⟩,cp.aw cn ((hH.drop 1).erase 2)⟩
    cases nt with
    |true=>
     refine qB ?_;refine qj fun K hK=>qm ?_;obtain⟨_,aI,a,rfl,hla⟩:=AH (l:=m) (eU _ _) (by omega);refine qv aI ?_;refine qm ?_;refine qe hK<|qq<|qj fun K hK=>qm ?_;refine ab.fu (qs:=[(0,_),(1,_)]) rfl rfl rfl rfl ⟨rfl,(ev rfl),(by rfl),rfl,(ev rfl),(by rfl),trivial⟩ (by intro q hq;simp only[List.mem_cons,List.not_mem_nil,or_false] at hq;rcases hq with rfl|rfl<;>exact⟨rfl,by exact Nat.le_of_ble_eq_true rfl⟩) (by show List.foldl _ [_,_,_,_,_,_,_] _=_;dsimp only[List.foldl_cons,List.foldl_nil,u2,u1]<;>rfl) (ag rfl _) ?_;refine qh (s:=7) (vs:=[_]) hH fun k70 st K_ hH=>?_;refine qm ?_;refine qe hK ?_;obtain⟨d',ah,sN,gf⟩:=fG _ a k70 (by omega) K_ hH;refine af.ret ⟨rx,_,d',ah,rfl,sN,gf⟩
    |false=>
     refine qC ?_;refine af.skip<|qq<|qj fun K hK=>qm ?_;refine ab.fu (qs:=[(0,_),(1,_)]) rfl rfl rfl rfl ⟨rfl,(ev rfl),(by rfl),rfl,(ev rfl),(by rfl),trivial⟩ (by intro q hq;simp only[List.mem_cons,List.not_mem_nil,or_false] at hq;rcases hq with rfl|rfl<;>exact⟨rfl,by exact Nat.le_of_ble_eq_true rfl⟩) (by show List.foldl _ [_,_,_,_,_,_,_] _=_;dsimp only[List.foldl_cons,List.foldl_nil,u2,u1]<;>rfl) (ag rfl _) ?_;refine qh (s:=7) (vs:=[_]) hH fun k70 st K_ hH=>?_;refine qm ?_;refine qe hK ?_;obtain⟨d',ah,sN,gf⟩:=fG _ m k70 (by omega) K_ hH;refine af.ret ⟨rx,_,d',ah,rfl,sN,gf⟩
  |false=>
   refine qB ?_;refine af.skip<|af.block<|qq<|qq<|qj fun K hK=>qm ?_;refine qg ?_;refine qp (o:=2) ?_;refine ql hH ax ?_;refine qm ?_;refine qg ?_;refine qp (o:=0) ?_;refine ql hH ax ?_;refine qn ?_;simp only[List.length_map];refine qg ?_;refine qe hK ?_;refine af.cond (by rfl) (fun hge=>?_) (fun hge=>?_)<;>try simp only[decide_eq_true_eq,decide_eq_false_iff_not] at hge
   ·refine qq<|qj fun K hK=>qm ?_;refine qm ?_;obtain⟨_,st,aI,rfl,hH⟩:=cL (s:=s1) s.i 4 (by omega) hH;refine qv aI ?_;refine qm ?_;refine qe hK ?_;obtain⟨w1,w2,w3,w4⟩:=cV (bT:=bT) (s:=s1) (i:=s.i) (e:=4) kQ (by decide);refine af.ret ⟨rx,_,_,_,rfl,aj (rfl),?_⟩;exact⟨_,fv (by omega) (by omega) (by omega) (by omega) w1,cp.aw cn (hH.erase 2)⟩
   ·refine af.skip<|qq<|qj fun K hK=>qm ?_;refine qm ?_;obtain⟨_,st,aI,s2,⟨i1,i2,i3,i4,a,rfl,i5,i6⟩,hH⟩:=F0 (s:=s1) ba kQ (by omega) hH;have PV:=(iB a).arg N S2;have KS:=vP a;refine qv aI ?_;refine ab.bQ (s:=2) hH rfl (ev rfl) (ev rfl) (by exact dp) (by exact Arg.rows (by assumption) hH) rfl rfl rfl rfl rfl rfl rfl ⟨(Nat.le_of_ble_eq_true rfl),(Nat.le_of_ble_eq_true rfl)⟩ (fun _=>(ag rfl _)) (by simp only[List.length_map]<;>omega) (by exact .inr (by assumption)) (fun TY st hH=>?_);dsimp only[u2,u1,u3,u4,setMany,u5,u6,D.cells,Nat.reduceAdd,aS,bh,av,au] at hH;refine qm ?_;refine qe hK<|qj fun K hK=>qm ?_;refine qe hK ?_;exact⟨mm-1,by omega,⟨s2,TY,lr++a,false,rfl,(by rw[List.map_append];exact hH),i1.trans h1,i2.trans h2,by omega,i4,by rw[List.length_append];omega,fun e=>by rw[List.length_append];omega,by split<;>omega⟩⟩
 ·have a7:(s1.e==0)=false:=by simpa using kQ
  refine qq<|qq<|qj fun K hK=>qm ?_;refine qg ?_;refine qp (o:=5) ?_;refine ql hH ax ?_;refine qg ?_;refine qm ?_;refine qs ?_ (hg:=wn a7);refine qs ?_ (hg:=wn a7);refine qs ?_ (hg:=wn a7);refine qu a7 ?_;refine qe hK<|qC ?_;refine af.exit<|qq<|qq<|qj fun K hK=>qm ?_;refine qg ?_;refine qp (o:=5) ?_;refine ql hH ax ?_;refine qg ?_;refine qe hK<|qD rfl (by simp[kQ]) ?_;refine qq<|qj fun K hK=>qm ?_;refine qe hK<|af.ret ⟨rx,_,_,_,rfl,aj (rfl),?_⟩;exact⟨_,fv h1 (by omega) (by omega) h4 kQ,cp.aw cn (hH.erase 2)⟩
end Go.Proofs.YtbdilgkfnacahaaGreat
namespace Go.Proofs.YtbdilgkfnacahaaGreat
open Go.V Go
def jb (fr:Go.V.Fr) (k:Nat):Go.V.D:=Go.V.nth .bu fr.loc k
def px (gs:List (Nat×Nat)) (s s':eC):Prop:=s'.o=s.o∧s'.g=s.g∧s.i<s'.i∧s'.i≤gs.length
theorem AB {N k:Nat} {S s0:St} {H:List bF} {gs:List (Nat×Nat)} {bJ:D} {bT:List Int} {s:eC} (ba:jZ gs bT) (he:s.e=0) (hi:s.i<gs.length) (hH:Has N S s0 (.box k (.mem 0 false (aS gs bJ s))::.aM bJ 1 (bT.map av)::H)):
  ∃d ah,Ev pv 97 [.ptr k 0 0] s0 d ah∧∃(n1 n2:Int) (s':eC),d=.tup [.int .i64 n1,.int .i64 n2]∧px gs s s'∧Has N S ah (.box k (.mem 0 false (aS gs bJ s'))::.aM bJ 1 (bT.map av)::H):=by
 have sP:=ba.gl;have ij:=ba.pl;have hne:gs≠[]:=by rintro rfl;simp at hi
 refine Ev.i7 rfl Rc rfl rfl rfl ?_;dsimp only[u3,u4,List.length,Nat.reduceSub,Nat.reduceAdd,w1,w2];have cp:=hH;have hH:=hH.ct;have cn:(ai .rw s0).bs=s0.bs:=rfl;generalize ai .rw s0=S2 at*;refine qq<|qj fun K hK=>qm ?_;refine qm ?_;refine qe hK<|qq<|qj fun K hK=>qm ?_;refine qg ?_;refine qp (o:=2) ?_;refine ql hH ax ?_;refine qm ?_;refine qe hK<|qq<|qj fun K hK=>qm ?_;refine qg ?_;refine qp (o:=2) ?_;refine ql hH ax ?_;refine qA ?_;refine qg ?_;refine qp (o:=2) ?_;refine qT hH ax fun st hH=>?_;dsimp only[u2,u1,u3,u4,setMany,u5,u6,D.cells,Nat.reduceAdd,aS,bh,av,au] at hH;refine qe hK ?_;have hH:Has N S2 st (.box k (.mem 0 false (aS gs bJ {s with i:=s.i+1}))::.aM bJ 1 (bT.map av)::H):=hH
 have Bl:∀(st:St) (s3:eC) (e:Int),e≠0→s3.e=0→px gs s s3→Has N S2 st (.box k (.mem 0 false (aS gs bJ s3))::.aM bJ 1 (bT.map av)::H)→∃d ah,Ev pv 66 [.ptr k 0 0,.int .i64 (s.i:Nat),.int .i64 e] st d ah∧d=.sl []∧∃s4,px gs s s4∧Has N S2 ah (.box k (.mem 0 false (aS gs bJ s4))::.aM bJ 1 (bT.map av)::H):=by
  intro st s3 e h0 h1 h2 hH;obtain⟨d,ah,aI,h4,hH⟩:=cL (s:=s3) s.i e (by omega) hH;obtain⟨w1,w2,w3,w4⟩:=cV (bT:=bT) (s:=s3) (i:=s.i) (e:=e) h1 h0;exact⟨d,ah,aI,h4,_,⟨w3.trans h2.1,w4.trans h2.2.1,by rw[w2];exact h2.2.2.1,by rw[w2];exact h2.2.2.2⟩,hH⟩
 refine qq<|qj fun K hK=>qm ?_;obtain⟨_,st,aI,m,ok,mm,rfl,Gi,Vt,hH⟩:=rr (s:={s with i:=s.i+1}) sP (by show s.i+1≤_;omega) hne hH;refine qv aI ?_;refine qm ?_;refine qg ?_;refine qg ?_;refine qm ?_;refine qm ?_;refine qe hK ?_
 obtain⟨s1,pI⟩:∃s1:eC,({s with i:=s.i+1+mm}:eC)=s1:=⟨_,rfl⟩
 have KL:s1.e=0:=by rw[←pI];exact he
 have A6:px gs s s1:=by rw[←pI];exact⟨rfl,rfl,by show s.i<s.i+1+mm;omega,Vt⟩
 have hH:Has N S2 st (.box k (.mem 0 false (aS gs bJ s1))::.aM bJ 1 (bT.map av)::H):=by rw[←pI];exact hH
 clear pI;refine qq<|qj fun K hK=>qm ?_;refine qm ?_;refine qm ?_;refine qe hK<|qq<|qq<|af.ib (fun fr st=>∃(n:List UInt8) (en:Bool) (s3:eC) (tmp:List (Nat×D)),fr=⟨14,[.ptr k 0 0,jb fr 1,jb fr 2,jb fr 3,.int .i64 (s.i:Nat),.str m,.bool ok,.str n,.bool en,jb fr 9,jb fr 10,jb fr 11,jb fr 12,jb fr 13],tmp⟩∧Has N S2 st (.box k (.mem 0 false (aS gs bJ s3))::.aM bJ 1 (bT.map av)::H)∧(s3.e=0)∧(px gs s s3)∧(n.length≤120)) ?_ ?_
 ·cases ok with
  |false=>
   have cM:false=false:=rfl;refine qj fun K hK=>qm ?_;refine qm ?_;refine qs ?_ (hg:=wn cM);refine qs ?_ (hg:=wn cM);refine qu cM ?_;refine qe hK<|qC ?_;refine af.skip ?_;exact⟨m,false,s1,_,rfl,hH,KL,A6,Gi⟩
  |true=>
   have cM:true=true:=rfl;obtain⟨k1,k2,k3,k4,k5⟩:=fY (gs:=gs) (s:=s1) (r:=44);have k5:=k5 A6.2.2.2;refine qj fun K hK=>qm ?_;refine qm ?_;refine qm ?_ (hg:=wi cM);obtain⟨_,st,aI,rfl,hH⟩:=dz (s:=s1) (by omega) 44 hH;refine qv aI ?_ (hg:=wi cM);refine qt cM ?_;refine qe hK ?_;generalize cK gs s1 44=s2 at*
   have F':px gs s s2:=⟨k1.trans A6.1,k2.trans A6.2.1,by have:=A6.2.2.1;omega,k5⟩
   cases hb:iu gs s1.i 44 with
   |false=>
    refine qC ?_;refine af.skip ?_;exact⟨m,false,s2,_,rfl,hH,k3.trans KL,F',Gi⟩
   |true=>
    refine qB ?_;refine qq<|qj fun K hK=>qm ?_;refine qe hK<|qq<|qj fun K hK=>qm ?_;obtain⟨_,st,aI,n,there,S5,rfl,Qo,hni,hH⟩:=rr (s:=s2) sP k5 hne hH;refine qv aI ?_;refine qm ?_;refine qg ?_;refine qg ?_;refine qm ?_;refine qm ?_;refine qe hK<|qj fun K hK=>qm ?_;refine qg ?_;refine qm ?_;refine qe hK ?_;exact⟨n,!there,{s2 with i:=s2.i+S5},_,rfl,hH,k3.trans KL,⟨F'.1,F'.2.1,by have:=F'.2.2.1;show s.i<s2.i+S5;omega,hni⟩,Qo⟩
 ·rintro fr st ⟨n,en,s3,tmp,hfr,hH,h1,h2,h3⟩;rw[hfr];clear hfr;generalize jb fr=ee;clear fr;obtain⟨k1,k2,k3,k4,k5⟩:=fY (gs:=gs) (s:=s3) (r:=125);have k5:=k5 h2.2.2.2
  have yY:px gs s (cK gs s3 125):=⟨k1.trans h2.1,k2.trans h2.2.1,by have:=h2.2.2.1;omega,k5⟩
  have F_:(cK gs s3 125).e=0:=k3.trans h1
  cases ok with
  |false=>
   have bk:(!false)=true:=rfl;refine qq<|qq<|qj fun K hK=>qm ?_;refine qg ?_;refine qm ?_;refine qs ?_ (hg:=wn bk);refine qs ?_ (hg:=wn bk);refine qs ?_ (hg:=wn bk);refine qt bk ?_;refine qm ?_;refine qs ?_;refine qs ?_;refine qs ?_;refine qs ?_;refine qs ?_;refine qs ?_;refine qs ?_;refine qg ?_;refine qe hK<|qB ?_;refine qq<|qj fun K hK=>qm ?_;refine qm ?_;obtain⟨_,st,aI,rfl,s4,Vv,hH⟩:=Bl _ s3 4 (by decide) h1 h2 hH;refine qv aI ?_;refine qe hK<|qq<|qj fun K hK=>qm ?_;refine qm ?_;refine qe hK<|af.ret ⟨rx,_,_,_,rfl,aj (rfl),?_⟩;exact⟨_,_,s4,rfl,Vv,cp.aw cn hH⟩
  |true=>
   have bk:(!true)=false:=rfl
   cases eX:(!iu gs s3.i 125) with
   |true=>
    refine qq<|qq<|qj fun K hK=>qm ?_;refine qg ?_;refine qm ?_;refine qm ?_ (hg:=wi bk);obtain⟨_,st,aI,rfl,hH⟩:=dz (s:=s3) (by omega) 125 hH;refine qv aI ?_ (hg:=wi bk);refine qg ?_ (hg:=wi bk);refine qu bk ?_;refine qm ?_;refine qs ?_ (hg:=wn eX);refine qs ?_ (hg:=wn eX);refine qs ?_ (hg:=wn eX);refine qs ?_;refine qs ?_;refine qs ?_;refine qs ?_ (hg:=wn eX);refine qt eX ?_;refine qe hK ?_;generalize cK gs s3 125=s4 at*;refine qB ?_;refine qq<|qj fun K hK=>qm ?_;refine qm ?_;obtain⟨_,st,aI,rfl,s5,K6,hH⟩:=Bl _ s4 4 (by decide) F_ yY hH;refine qv aI ?_;refine qe hK<|qq<|qj fun K hK=>qm ?_;refine qm ?_;refine qe hK<|af.ret ⟨rx,_,_,_,rfl,aj (rfl),?_⟩;exact⟨_,_,s5,rfl,K6,cp.aw cn hH⟩
   |false=>
    have gf:True:=trivial
    cases en with
    |true=>
     have a_:(!true)=false:=rfl;refine qq<|qq<|qj fun K hK=>qm ?_;refine qg ?_;refine qm ?_;refine qm ?_ (hg:=wi bk);obtain⟨_,st,aI,rfl,hH⟩:=dz (s:=s3) (by omega) 125 hH;refine qv aI ?_ (hg:=wi bk);refine qg ?_ (hg:=wi bk);refine qu bk ?_;refine qm ?_;refine qm ?_ (hg:=wi eX);refine qg ?_ (hg:=wi eX);refine qm ?_ (hg:=wi eX);refine qs ?_ (hg:=wn a_);refine qs ?_ (hg:=wn a_);refine qs ?_ (hg:=wn a_);refine ab.cZ (aC rfl rfl rfl eX) rfl a_ (ag rfl _) ?_;refine qu eX ?_;refine qe hK ?_;generalize cK gs s3 125=s4 at*;refine qC ?_;refine af.skip ?_;obtain⟨_,F7,a1,f1,rfl⟩:=k_ (s0:=st) m (by omega);refine qq<|qj fun K hK=>qm ?_;refine qv (F7) ?_;refine qm ?_;refine qg ?_;refine qg ?_;refine qm ?_;refine qm ?_;refine qe hK<|qq<|qq<|qj fun K hK=>qm ?_;refine qe hK<|qB ?_;refine qj fun K hK=>qm ?_;refine qe hK ?_;obtain⟨_,A3,a2,f2,rfl⟩:=k_ (s0:=st) [] (by simp);refine qq<|qj fun K hK=>qm ?_;refine qv (A3) ?_;refine qm ?_;refine qg ?_;refine qg ?_;refine qm ?_;refine qm ?_;refine qe hK<|qq<|qq<|af.jV 78 (.bool (!f1||!f2)) [] ?_ (fun ff tmp gE=>?_)
     ·refine qm ?_;refine qg ?_;refine qm ?_;refine ab.two 75 rfl (fun bk=>?_) (fun bk=>?_)
      ·refine qs ?_ (hg:=wn bk);refine qs ?_ (hg:=wn bk);refine qt bk ?_;refine ab.nil (cS ?_ ?_)
       ·dsimp only[aO,List.foldl,nth,u2,u1]
        all_goals(first|rfl|simp)
       ·dsimp only[Fr.aE,Fr.put,Fr.clean,Fr.ev,Fr.get,nth,V.look,u1,u2,v1,v2,v3,v4,v5,v6,v7,List.length,u3,u4,Nat.reduceSub,Nat.reduceAdd,List.map]
        all_goals(simp[bk];done)
      ·refine qm ?_ (hg:=wi bk);refine qg ?_ (hg:=wi bk);refine qu bk ?_;refine ab.nil (cS ?_ ?_)
       ·dsimp only[aO,List.foldl,nth,u2,u1]
        all_goals(first|rfl|simp)
       ·dsimp only[Fr.aE,Fr.put,Fr.clean,Fr.ev,Fr.get,nth,V.look,u1,u2,v1,v2,v3,v4,v5,v6,v7,List.length,u3,u4,Nat.reduceSub,Nat.reduceAdd,List.map]
        all_goals(simp[bk];done)
     dsimp only[aO,List.foldl,nth,u2,u1];refine qc (fun y7=>?_) (fun y7=>?_)<;>try simp only[cs] at y7
     ·refine qq<|qj fun K hK=>qm ?_;refine qm ?_;obtain⟨_,st,aI,rfl,s5,K6,hH⟩:=Bl _ s4 2 (by decide) F_ yY hH;refine qv aI ?_;refine qe hK<|qq<|qj fun K hK=>qm ?_;refine qm ?_;refine qe hK<|af.ret ⟨rx,_,_,_,rfl,aj (rfl),?_⟩;exact⟨_,_,s5,rfl,K6,cp.aw cn hH⟩
     ·refine af.skip<|qq<|qq<|qj fun K hK=>qm ?_;refine qe hK<|qB ?_;refine qj fun K hK=>qm ?_;refine qe hK<|qq<|qj fun K hK=>qm ?_;refine qm ?_;refine qm ?_;refine qm ?_;refine qe hK<|af.ret ⟨rx,_,_,_,rfl,aj (rfl),?_⟩;exact⟨_,_,s4,rfl,yY,cp.aw cn hH⟩
    |false=>
     have a_:(!false)=true:=rfl;refine qq<|qq<|qj fun K hK=>qm ?_;refine qg ?_;refine qm ?_;refine qm ?_ (hg:=wi bk);obtain⟨_,st,aI,rfl,hH⟩:=dz (s:=s3) (by omega) 125 hH;refine qv aI ?_ (hg:=wi bk);refine qg ?_ (hg:=wi bk);refine qu bk ?_;refine qm ?_;refine qm ?_ (hg:=wi eX);refine qg ?_ (hg:=wi eX);refine qm ?_ (hg:=wi eX);refine qm ?_ (hg:=wi a_);refine qm ?_ (hg:=wi a_);obtain⟨_,hle,v,rfl⟩:=FX (s0:=st) n m;refine ab.rb (aC rfl rfl rfl a_) rfl hle (ag rfl _) ?_;refine ab.dO (aC rfl rfl rfl eX) rfl a_ (ag rfl _) ?_;refine qu eX ?_;refine qe hK ?_;generalize cK gs s3 125=s4 at*
     cases v with
     |true=>
      refine qB ?_;refine qq<|qj fun K hK=>qm ?_;refine qm ?_;obtain⟨_,st,aI,rfl,s5,K6,hH⟩:=Bl _ s4 4 (by decide) F_ yY hH;refine qv aI ?_;refine qe hK<|qq<|qj fun K hK=>qm ?_;refine qm ?_;refine qe hK<|af.ret ⟨rx,_,_,_,rfl,aj (rfl),?_⟩;exact⟨_,_,s5,rfl,K6,cp.aw cn hH⟩
     |false=>
      refine qC ?_;refine af.skip ?_;obtain⟨_,F7,a1,f1,rfl⟩:=k_ (s0:=st) m (by omega);refine qq<|qj fun K hK=>qm ?_;refine qv (F7) ?_;refine qm ?_;refine qg ?_;refine qg ?_;refine qm ?_;refine qm ?_;refine qe hK<|qq<|qq<|qj fun K hK=>qm ?_;refine qe hK<|qC ?_;refine af.skip ?_;obtain⟨_,A3,a2,f2,rfl⟩:=k_ (s0:=st) n (by omega);refine qq<|qj fun K hK=>qm ?_;refine qv (A3) ?_;refine qm ?_;refine qg ?_;refine qg ?_;refine qm ?_;refine qm ?_;refine qe hK<|qq<|qq<|af.jV 78 (.bool (!f1||!f2)) [] ?_ (fun ff tmp gE=>?_)
      ·refine qm ?_;refine qg ?_;refine qm ?_;refine ab.two 75 rfl (fun bk=>?_) (fun bk=>?_)
       ·refine qs ?_ (hg:=wn bk);refine qs ?_ (hg:=wn bk);refine qt bk ?_;refine ab.nil (cS ?_ ?_)
        ·dsimp only[aO,List.foldl,nth,u2,u1]
         all_goals(first|rfl|simp)
        ·dsimp only[Fr.aE,Fr.put,Fr.clean,Fr.ev,Fr.get,nth,V.look,u1,u2,v1,v2,v3,v4,v5,v6,v7,List.length,u3,u4,Nat.reduceSub,Nat.reduceAdd,List.map]
         all_goals(simp[bk];done)
       ·refine qm ?_ (hg:=wi bk);refine qg ?_ (hg:=wi bk);refine qu bk ?_;refine ab.nil (cS ?_ ?_)
        ·dsimp only[aO,List.foldl,nth,u2,u1]
         all_goals(first|rfl|simp)
        ·dsimp only[Fr.aE,Fr.put,Fr.clean,Fr.ev,Fr.get,nth,V.look,u1,u2,v1,v2,v3,v4,v5,v6,v7,List.length,u3,u4,Nat.reduceSub,Nat.reduceAdd,List.map]
         all_goals(simp[bk];done)
      dsimp only[aO,List.foldl,nth,u2,u1];refine qc (fun y7=>?_) (fun y7=>?_)<;>try simp only[cs] at y7
      ·refine qq<|qj fun K hK=>qm ?_;refine qm ?_;obtain⟨_,st,aI,rfl,s5,K6,hH⟩:=Bl _ s4 2 (by decide) F_ yY hH;refine qv aI ?_;refine qe hK<|qq<|qj fun K hK=>qm ?_;refine qm ?_;refine qe hK<|af.ret ⟨rx,_,_,_,rfl,aj (rfl),?_⟩;exact⟨_,_,s5,rfl,K6,cp.aw cn hH⟩
      ·refine af.skip<|qq<|qq<|qj fun K hK=>qm ?_;refine qe hK<|qC ?_;refine af.skip<|qq<|qj fun K hK=>qm ?_;refine qm ?_;refine qm ?_;refine qm ?_;refine qe hK<|af.ret ⟨rx,_,_,_,rfl,aj (rfl),?_⟩;exact⟨_,_,s4,rfl,yY,cp.aw cn hH⟩
end Go.Proofs.YtbdilgkfnacahaaGreat
namespace Go.Proofs.YtbdilgkfnacahaaGreat
open Go.V Go
def cC (fr:Go.V.Fr) (k:Nat):Go.V.D:=Go.V.nth .bu fr.loc k
theorem oj:∀{l:List D},(∀d∈l,b5 d=true)→refs l=0
 |[],_=>rfl
 |d::l,h=>by
  have h1:=oj (l:=l) fun d hd=>h d (List.mem_cons_of_mem _ hd);have h2:=h d (List.mem_cons_self ..)
  have h3:d.ref=0:=by cases d<;>first|rfl|(simp[b5] at h2)
  simp only[refs,h1,h3,Nat.max_self]
theorem qz {l:List da} (h:∀n∈l,tn n):refs (l.map bd).flatten=0:=
 oj fun d hd=>by
  obtain⟨e,he,xO⟩:=List.mem_flatten.1 hd;exact mc h e he d xO
def dB (l:List da):List D:=[tg l]
theorem tU {l:List (List da)} {i:Nat} {q:List da} (h:l[i]?=some q):(l.map dB)[i]?=some (dB q):=by rw[List.getElem?_map,h];rfl
def eP:List (List da)→Nat
 |[]=>0
 |l::ls=>l.length+eP ls
theorem c_:∀a b:List (List da),eP (a++b)=eP a+eP b
 |[],b=>by simp[eP]
 |l::a,b=>by rw[List.cons_append,eP,eP,c_ a b];omega
theorem qY {s0:St} {x:D} {parts:List (List da)} (op:Int) (hx:V.Rows s0 1 x (parts.map dB)) (hv:∀l∈parts,∀n∈l,tn n) (hp:parts.length≤100000) (hs:eP parts≤100000):∃d,Ev pv 79 [.int .i64 op,x] s0 d s0∧∃l,d=tg l∧(∀n∈l,tn n)∧(parts.length=1→l.length≤eP parts)∧l.length≤eP parts+1:=by
 refine Ev.B_ rfl Rp rfl rfl rfl ?_;dsimp only[u3,u4,List.length,Nat.reduceSub,Nat.reduceAdd,w1,w2];obtain⟨bZ,hF,hH⟩:=ri s0;generalize ai .ro s0=S at*;have hx:=Arg.of hx bZ;refine qq<|qj fun K hK=>qm ?_;refine qe hK<|qq<|qq<|qj fun K hK=>qm ?_;refine qn ?_;simp only[List.length_map];refine qe hK<|af.block<|qq<|qj fun K hK=>qg ?_;refine qm ?_;refine qe hK ?_
 by_cases h0:parts.length=0
 ·refine qD rfl (by simp[h0]) ?_;refine qq<|qj fun K hK=>?_;refine ab.go (d:=.agg [.int .i64 1,.nul,.int .i64 0,.int .i64 0,.bool false,.int .i64 0,.int .i64 0]) (st1:=_) rfl rfl rfl (by dsimp only[Fr.put,u1,u2]<;>rfl) ?_;refine qh (s:=7) (vs:=[_]) hH fun k13 st NP hH=>?_;refine qm ?_;refine qe hK ?_;have hfz:=g_ (L:=s0.bs.length) (a:=[]) hH ax (.inr ⟨rfl,rfl⟩) (fun k hk=>by have jg:k13+1=k+1:=hk;rw[←bZ];omega);refine af.ret ⟨rx,_,_,rfl,rl bZ hH (hfz),?_⟩;exact⟨_,rfl,AO (by simp) (by omega),by omega,by simp⟩
 have QX:(((parts.length:Nat):Int)==0)=false:=by rw[beq_eq_false_iff_ne];omega
 refine qE rfl (by rw[QX]) ?_;refine qq<|qj fun K hK=>qg ?_;refine qm ?_;refine qe hK ?_
 by_cases h1:parts.length=1
 ·obtain⟨q,hq⟩:∃q,parts[0]?=some q:=⟨parts[0]'(by omega),List.getElem?_eq_getElem _⟩
  have gk:=tU hq
  have Gd:parts=[q]:=by
   match parts,h1,hq with
   |[a],_,hq=>simp at hq;rw[hq]
  refine qD rfl (by simp[h1]) ?_;refine qq<|qj fun K hK=>qm ?_;refine qr fun Uq Qj=>?_;refine qR ?_;refine qm ?_;refine qe hK<|af.ret ⟨rx,_,_,rfl,rl bZ hH (rfl),?_⟩;refine⟨q,rfl,hv q (List.mem_of_getElem? hq),fun _=>?_,?_⟩<;>rw[Gd]<;>simp[eP]
 have Wm:(((parts.length:Nat):Int)==1)=false:=by rw[beq_eq_false_iff_ne];omega
 refine qE rfl (by rw[Wm]) ?_;refine af.skip<|qq<|qj fun K hK=>qm ?_;refine qm ?_;refine qn ?_;simp only[List.length_map];refine ab.go (d:=.agg [.int .i64 op,.nul,.int .i64 0,.int .i64 0,.bool false,.int .i64 0,.int .i64 (parts.length:Nat)]) (st1:=_) rfl rfl rfl (by dsimp only[Fr.put,u1,u2]<;>rfl) ?_;refine qh (s:=7) (vs:=[_]) hH fun k23 st Lc hH=>?_;refine qm ?_;refine qe hK<|qq<|qq<|qj fun K hK=>qm ?_;refine qn ?_;simp only[List.length_map];refine qm ?_;refine qe hK ?_;have hH:Has s0.bs.length S st (.aM (.win k23 0 0 1 7) 7 [[.int .i64 op,.nul,.int .i64 0,.int .i64 0,.bool false,.int .i64 0,.int .i64 (parts.length:Nat)]]::[]):=hH;refine af.block<|af.loop (fun mm fr st=>∃(i:Nat) (od:D) (es:List (List D)) (lo:List da),fr.clean=⟨27,[cC fr 0,cC fr 1,cC fr 2,cC fr 3,cC fr 4,od,cC fr 6,cC fr 7,cC fr 8,cC fr 9,cC fr 10,cC fr 11,cC fr 12,cC fr 13,cC fr 14,cC fr 15,cC fr 16,cC fr 17,cC fr 18,cC fr 19,cC fr 20,cC fr 21,cC fr 22,cC fr 23,x,.int .i64 (parts.length:Nat),.int .i64 (i:Nat)],[]⟩∧Has s0.bs.length S st [.aM od 7 es]∧(i+mm=parts.length)∧(es.map (·.map mE)=lo.map bd)∧(∀e∈es,∀d∈e,lf d=true)∧(∀n∈lo,tn n)∧(lo.length=1+eP (parts.take i))∧(∀k,od.ref=k+1→S.bs.length≤k)) (parts.length) ?_ ?_
 ·refine⟨0,.win k23 0 0 1 7,[[.int .i64 op,.nul,.int .i64 0,.int .i64 0,.bool false,.int .i64 0,.int .i64 (parts.length:Nat)]],[sa op 0 0 false 0 (parts.length:Nat) []],rfl,hH,by omega,rfl,?_,AO (by simp) (by omega),by simp[eP],fun k hk=>by simp only[D.ref] at hk;omega⟩;intro e he d hd;simp only[List.mem_cons,List.not_mem_nil,or_false] at he;subst he;simp only[List.mem_cons,List.not_mem_nil,or_false] at hd
  rcases hd with rfl|rfl|rfl|rfl|rfl|rfl|rfl<;>rfl
 rintro mm fr st ⟨i,od,es,lo,hfr,hH,hi,uL,ht,G8,hlen,G5⟩;rw[hfr];clear hfr;generalize cC fr=ee;clear fr;refine qq<|qj fun K hK=>qg ?_;refine qe hK ?_
 by_cases hlt:i<parts.length
 ·obtain⟨q,hq⟩:∃q,parts[i]?=some q:=⟨parts[i]'hlt,List.getElem?_eq_getElem _⟩
  have gk:=tU hq;have OM:=hv q (List.mem_of_getElem? hq);have pB:es.length=lo.length:=by have:=congrArg List.length uL;simpa using this
  have PI:parts.take (i+1)=parts.take i++[q]:=by rw[List.take_add_one,hq];rfl
  have PM:eP (parts.take (i+1))=eP (parts.take i)+q.length:=by rw[PI,c_];simp[eP]
  have UR:eP (parts.take (i+1))≤eP parts:=by
   have:=c_ (parts.take (i+1)) (parts.drop (i+1));rw[List.take_append_drop] at this;omega
  refine qq<|qD rfl (by simp;omega) ?_;refine af.skip<|qq<|af.block<|qq<|qj fun K hK=>qr fun Xn Vl=>?_;refine qR ?_;refine qm ?_;refine qe hK<|qj fun K hK=>qm ?_;refine qm ?_;refine ab.oX (s:=7) hH rfl (ev rfl) (ev rfl) ax ((qF OM).rows st) rfl rfl rfl rfl rfl rfl rfl ⟨(Nat.le_of_ble_eq_true rfl),(Nat.le_of_ble_eq_true rfl)⟩ (fun _=>(ag rfl _)) (by rw[List.length_map];omega) (.inl hF) G5 (fun T2 st G5 hH=>?_);dsimp only[u2] at hH;refine qm ?_;refine qe hK<|qj fun K hK=>qA ?_;refine qm ?_;refine qe hK ?_;refine⟨mm-1,by omega,⟨i+1,T2,es++q.map bd,lo++q,rfl,hH,by omega,by rw[List.map_append,List.map_append,uL,rZ OM],?_,?_,by rw[List.length_append,hlen,PM];omega,G5⟩⟩
  ·intro e he
   rcases List.mem_append.1 he with he|he
   ·exact ht e he
   ·exact oA OM e he
  ·intro n hn
   rcases List.mem_append.1 hn with hn|hn
   ·exact G8 n hn
   ·exact OM n hn
 ·refine qq<|qE rfl (by simp;omega) ?_;refine af.exit<|qq<|qj fun K hK=>qm ?_;refine qm ?_;refine qe hK ?_;have hik:i=parts.length:=by omega
  rw[hik,List.take_length] at hlen;refine af.ret ⟨rx,_,_,rfl,rl bZ hH (gZ hH ax uL ht (fun k hk=>by have:=G5 k hk;rw[←bZ];exact this) (by decide)),?_⟩;exact⟨_,rfl,G8,by omega,by omega⟩
end Go.Proofs.YtbdilgkfnacahaaGreat
namespace Go.Proofs.YtbdilgkfnacahaaGreat
open Go.V Go
def fy (fr:Go.V.Fr) (k:Nat):Go.V.D:=Go.V.nth .bu fr.loc k
theorem lQ {N:Nat} {S st:St} {H:List bF} {a b c:bF} (h:Has N S st (a::b::c::H)):Has N S st (b::c::a::H):=by
 have h1:=h.front bC;have h2:=h1.front dp;exact h2.front bC
def kq (m:Nat):Prop:=∀{N k:Nat} {S s0:St} {H:List bF} {gs:List (Nat×Nat)} {bJ:D} {bT:List Int} {s:eC},jZ gs bT→s.e=0→s.i≤gs.length→s.g≤4→s.o+m=20→Has N S s0 (.box k (.mem 0 false (aS gs bJ s))::.aM bJ 1 (bT.map av)::H)→
 ∃d ah,Ev pv 65 [.ptr k 0 0] s0 d ah∧∃(s':eC),te gs s s' d∧Has N S ah (.box k (.mem 0 false (aS gs bJ s'))::.aM bJ 1 (bT.map av)::H)
theorem Bu {m:Nat} (hA:∀m',m'+1=m→kq m') {N k:Nat} {S s0:St} {H:List bF} {gs:List (Nat×Nat)} {bJ:D} {bT:List Int} {s:eC} (ba:jZ gs bT) (he:s.e=0) (hi:s.i<gs.length) (hg:s.g≤4) (ho:s.o+m=20) (hH:Has N S s0 (.box k (.mem 0 false (aS gs bJ s))::.aM bJ 1 (bT.map av)::H)):
  ∃d ah,Ev pv 102 [.ptr k 0 0] s0 d ah∧∃(s':eC),ir gs s s' d 2∧Has N S ah (.box k (.mem 0 false (aS gs bJ s'))::.aM bJ 1 (bT.map av)::H):=by
 have sP:=ba.gl;have ij:=ba.pl;refine Ev.i7 rfl Oq rfl rfl rfl ?_;dsimp only[u3,u4,List.length,Nat.reduceSub,Nat.reduceAdd,w1,w2];have cp:=hH;have hH:=hH.ct;have cn:(ai .rw s0).bs=s0.bs:=rfl;generalize ai .rw s0=S2 at*
 have hwr:∀(st:St) (s3:eC) (e:Int) (H2:List bF),e≠0→s3.e=0→s3.o=s.o→s3.g≤4→s.i≤s3.i→s3.i≤gs.length→Has N S2 st (.box k (.mem 0 false (aS gs bJ s3))::.aM bJ 1 (bT.map av)::H2)→∃d ah,Ev pv 66 [.ptr k 0 0,.int .i64 (s.i:Nat),.int .i64 e] st d ah∧d=.sl []∧∃s4,ir gs s s4 (.sl []) 2∧Has N S2 ah (.box k (.mem 0 false (aS gs bJ s4))::.aM bJ 1 (bT.map av)::H2):=by
  intro st s3 e H2 h0 h1 h2 h3 h4 h5 hH;obtain⟨d,ah,aI,h6,hH⟩:=cL (s:=s3) s.i e (by omega) hH;obtain⟨w1,w2,w3,w4⟩:=cV (bT:=bT) (s:=s3) (i:=s.i) (e:=e) h1 h0;exact⟨d,ah,aI,h6,_,fv (w3.trans h2) (by omega) (by omega) (by omega) w1,hH⟩
 refine qq<|qj fun K hK=>qm ?_;refine qe hK<|qq<|qj fun K hK=>qm ?_;refine qg ?_;refine qp (o:=2) ?_;refine ql hH ax ?_;refine qm ?_;refine qe hK<|qq<|qj fun K hK=>qm ?_;refine qg ?_;refine qp (o:=2) ?_;refine ql hH ax ?_;refine qA ?_;refine qg ?_;refine qp (o:=2) ?_;refine qT hH ax fun st hH=>?_;dsimp only[u2,u1,u3,u4,setMany,u5,u6,D.cells,Nat.reduceAdd,aS,bh,av,au,bd] at hH;refine qe hK ?_;have hH:Has N S2 st (.box k (.mem 0 false (aS gs bJ {s with i:=s.i+1}))::.aM bJ 1 (bT.map av)::H):=hH
 obtain⟨s1,pI⟩:∃s1:eC,({s with i:=s.i+1}:eC)=s1:=⟨_,rfl⟩
 have PR:s1.e=0∧s1.o=s.o∧s1.g=s.g∧s1.i=s.i+1:=by rw[←pI];exact⟨he,rfl,rfl,rfl⟩
 rw[pI] at hH;clear pI;obtain⟨f1,f2,f3,f4⟩:=PR;refine qq<|qj fun K hK=>qm ?_;refine qe hK<|qq<|qq<|af.ib (fun fr st=>∃(free:Bool) (s2:eC) (tmp:List (Nat×D)),fr=⟨7,[.ptr k 0 0,fy fr 1,fy fr 2,.int .i64 (s.i:Nat),.bool free,fy fr 5,fy fr 6],tmp⟩∧Has N S2 st (.box k (.mem 0 false (aS gs bJ s2))::.aM bJ 1 (bT.map av)::H)∧(s2.e=0)∧(s2.o=s.o)∧(s2.g=s.g)∧(s.i+1≤s2.i)∧(s2.i≤gs.length)) ?_ ?_
 ·obtain⟨k1,k2,k3,k4,k5⟩:=fY (gs:=gs) (s:=s1) (r:=63);have k5:=k5 (by omega);refine qj fun K hK=>qm ?_;obtain⟨_,st,aI,rfl,hH⟩:=dz (s:=s1) (by omega) 63 hH;refine qv aI ?_;refine qe hK ?_;generalize cK gs s1 63=s2 at*
  cases hb:iu gs s1.i 63 with
  |false=>
   refine qC ?_;refine af.skip ?_;exact⟨false,s2,_,rfl,hH,by omega,by omega,by omega,by omega,by omega⟩
  |true=>
   refine qB ?_;refine qq<|qj fun K hK=>qm ?_;refine qe hK ?_;obtain⟨r1,r2,r3,r4,r5⟩:=fY (gs:=gs) (s:=s2) (r:=58);have r5:=r5 k5;refine qq<|qj fun K hK=>qm ?_;obtain⟨_,st,aI,rfl,hH⟩:=dz (s:=s2) (by omega) 58 hH;refine qv aI ?_;refine qg ?_;refine qe hK ?_;generalize cK gs s2 58=s3 at*
   cases hb2:iu gs s2.i 58 with
   |false=>
    refine qB ?_;refine qq<|qj fun K hK=>qm ?_;refine qm ?_;obtain⟨_,st,aI,rfl,s4,hN,hH⟩:=hwr _ s3 4 _ (by decide) (by omega) (by omega) (by omega) (by omega) (by omega) hH;refine qv aI ?_;refine qm ?_;refine qe hK<|af.ret ⟨rx,_,_,_,rfl,aj (rfl),?_⟩;exact⟨s4,hN,cp.aw cn hH⟩
   |true=>
    refine qC ?_;refine af.skip ?_;exact⟨true,s3,_,rfl,hH,by omega,by omega,by omega,by omega,by omega⟩
 ·rintro fr st ⟨free,s2,tmp,hfr,hH,h1,h2,h3,h4,h5⟩;rw[hfr];clear hfr;generalize fy fr=ee;clear fr;refine qq<|qq<|qj fun K hK=>qm ?_;refine qg ?_;refine qp (o:=3) ?_;refine ql hH ax ?_;refine qg ?_;refine qe hK ?_
  by_cases TA:20≤s2.o
  ·have gS:decide (((s2.o:Nat):Int)≥20)=true:=by rw[decide_eq_true_eq];omega
   refine qD rfl (by rw[gS]) ?_;refine qq<|qj fun K hK=>qm ?_;refine qm ?_;obtain⟨_,st,aI,rfl,s4,hN,hH⟩:=hwr _ s2 10 _ (by decide) h1 h2 (by omega) (by omega) h5 hH;refine qv aI ?_;refine qm ?_;refine qe hK<|af.ret ⟨rx,_,_,_,rfl,aj (rfl),?_⟩;exact⟨s4,hN,cp.aw cn hH⟩
  have gS:decide (((s2.o:Nat):Int)≥20)=false:=by rw[decide_eq_false_iff_not];omega
  refine qE rfl (by rw[gS]) ?_;refine af.skip<|qq<|qj fun K hK=>ab.go (d:=.agg [.int .i64 6,.nul,.int .i64 0,.int .i64 0,.bool false,.int .i64 0,.int .i64 1]) (st1:=_) rfl rfl rfl (ag rfl _) ?_;refine qa hH fun k5 st Bg hH=>?_;dsimp only[u2,u1,u3,u4,setMany,u5,u6,D.cells,Nat.reduceAdd,aS,bh,av,au,bd] at hH;refine qS hH ax fun st hH=>?_;dsimp only[u2,u1,u3,u4,setMany,u5,u6,D.cells,Nat.reduceAdd,aS,bh,av,au,bd] at hH;refine qe hK ?_;have hH:Has N S2 st (.box k (.mem 0 false (aS gs bJ s2))::.aM bJ 1 (bT.map av)::.box k5 (.mem 0 false [.int .i64 6,.nul,.int .i64 0,.int .i64 0,.bool false,.int .i64 0,.int .i64 1])::H):=lQ hH;refine qq<|qq<|af.ib (fun fr st=>∃(cap:Int) (s3:eC) (tmp:List (Nat×D)),fr=⟨7,[.ptr k 0 0,fy fr 1,fy fr 2,.int .i64 (s.i:Nat),.bool free,.ptr k5 0 0,fy fr 6],tmp⟩∧Has N S2 st (.box k (.mem 0 false (aS gs bJ s3))::.aM bJ 1 (bT.map av)::.box k5 (.mem 0 false [.int .i64 6,.nul,.int .i64 0,.int .i64 0,.bool false,.int .i64 cap,.int .i64 1])::H)∧(s3.e=0)∧(s3.o=s.o)∧(s3.g≤4)∧(s3.i=s2.i)) ?_ ?_
  ·refine qj fun K hK=>qm ?_;refine qg ?_;refine qe hK ?_
   cases free with
   |true=>
    refine qC ?_;refine af.skip ?_;exact⟨0,s2,_,rfl,hH,h1,h2,by omega,rfl⟩
   |false=>
    refine qB ?_;refine qq<|qq<|qj fun K hK=>qm ?_;refine qg ?_;refine qp (o:=4) ?_;refine ql hH ax ?_;refine qg ?_;refine qe hK ?_
    by_cases Ti:4≤s2.g
    ·have gS:decide (((s2.g:Nat):Int)≥4)=true:=by rw[decide_eq_true_eq];omega
     refine qD rfl (by rw[gS]) ?_;refine qq<|qj fun K hK=>qm ?_;refine qm ?_;obtain⟨_,st,aI,rfl,s4,hN,hH⟩:=hwr _ s2 13 _ (by decide) h1 h2 (by omega) (by omega) h5 hH;refine qv aI ?_;refine qm ?_;refine qe hK<|af.ret ⟨rx,_,_,_,rfl,aj (rfl),?_⟩;exact⟨s4,hN,cp.aw cn (hH.erase 2)⟩
    ·have gS:decide (((s2.g:Nat):Int)≥4)=false:=by rw[decide_eq_false_iff_not];omega
     refine qE rfl (by rw[gS]) ?_;refine af.skip<|qq<|qj fun K hK=>qm ?_;refine qg ?_;refine qp (o:=4) ?_;refine ql hH ax ?_;refine qA ?_;refine qg ?_;refine qp (o:=4) ?_;refine qT hH ax fun st hH=>?_;dsimp only[u2,u1,u3,u4,setMany,u5,u6,D.cells,Nat.reduceAdd,aS,bh,av,au,bd] at hH;refine qe hK<|qj fun K hK=>qm ?_;refine qg ?_;refine qp (o:=4) ?_;refine ql hH ax ?_;refine qp (o:=5) ?_;refine qT hH dp fun st hH=>?_;dsimp only[u2,u1,u3,u4,setMany,u5,u6,D.cells,Nat.reduceAdd,aS,bh,av,au,bd] at hH;refine qe hK ?_;exact⟨((s2.g+1:Nat):Int),{s2 with g:=s2.g+1},_,rfl,hH,h1,h2,by show s2.g+1≤4;omega,rfl⟩
  ·rintro fr st ⟨cap,s3,tmp,hfr,hH,e1,e2,e3,e4⟩;rw[hfr];clear hfr;generalize fy fr=ee;clear fr;refine qq<|qj fun K hK=>qm ?_;refine qg ?_;refine qp (o:=3) ?_;refine ql hH ax ?_;refine qA ?_;refine qg ?_;refine qp (o:=3) ?_;refine qT hH ax fun st hH=>?_;dsimp only[u2,u1,u3,u4,setMany,u5,u6,D.cells,Nat.reduceAdd,aS,bh,av,au,bd] at hH;refine qe hK ?_;have hH:Has N S2 st (.box k (.mem 0 false (aS gs bJ {s3 with o:=s3.o+1}))::.aM bJ 1 (bT.map av)::.box k5 (.mem 0 false [.int .i64 6,.nul,.int .i64 0,.int .i64 0,.bool false,.int .i64 cap,.int .i64 1])::H):=hH;refine qq<|qj fun K hK=>qm ?_;obtain⟨_,st,aI,s4,⟨a1,a2,a3,a4,l,rfl,a5,a6⟩,hH⟩:=hA (m-1) (by omega) (s:={s3 with o:=s3.o+1}) ba e1 (by show s3.i≤_;omega) e3 (by show s3.o+1+(m-1)=20;omega) hH;refine qv aI ?_;refine qm ?_;refine qe hK ?_;have a1:s4.o=s3.o+1:=a1;have a3:s3.i≤s4.i:=a3;have a6:l.length≤4*(s4.i-s3.i)+1:=a6;have hla:=(qF a5).arg N S2;refine qq<|qj fun K hK=>qm ?_;refine qg ?_;refine qp (o:=3) ?_;refine ql hH ax ?_;refine ab.nv (z:=((s.o:Nat):Int)) rfl (ev rfl) (ev rfl) (by(try simp only[List.length_reverse,List.length_cons,List.length_nil,List.length_append,List.length_map,List.length_set]);rw[wrap_i64 (by omega) (by omega)]<;>omega) (ag rfl _) ?_;refine qg ?_;refine qp (o:=3) ?_;refine qT hH ax fun st hH=>?_;dsimp only[u2,u1,u3,u4,setMany,u5,u6,D.cells,Nat.reduceAdd,aS,bh,av,au,bd] at hH;refine qe hK ?_
   obtain⟨s5,PQ⟩:∃s5:eC,({s4 with o:=s.o}:eC)=s5:=⟨_,rfl⟩
   have hH:Has N S2 st (.box k (.mem 0 false (aS gs bJ s5))::.aM bJ 1 (bT.map av)::.box k5 (.mem 0 false [.int .i64 6,.nul,.int .i64 0,.int .i64 0,.bool false,.int .i64 cap,.int .i64 1])::H):=by rw[←PQ];exact hH
   have PO:s5.o=s.o∧s5.g=s4.g∧s5.i=s4.i:=by rw[←PQ];exact⟨rfl,rfl,rfl⟩
   clear PQ;obtain⟨b1,b2,b3⟩:=PO;refine qq<|qq<|af.ib (fun fr st=>∃(s6:eC) (tmp:List (Nat×D)),fr=⟨7,[.ptr k 0 0,fy fr 1,fy fr 2,fy fr 3,.bool free,.ptr k5 0 0,tg l],tmp⟩∧Has N S2 st (.box k (.mem 0 false (aS gs bJ s6))::.aM bJ 1 (bT.map av)::.box k5 (.mem 0 false [.int .i64 6,.nul,.int .i64 0,.int .i64 0,.bool false,.int .i64 cap,.int .i64 1])::H)∧(s6.o=s.o)∧(s6.g≤4)∧(s4.i≤s6.i)∧(s6.i≤gs.length)∧(s6.e≠0∨s6.e=0∧s4.i<s6.i)) ?_ ?_
   ·by_cases QP:s5.e=0
    ·have a7:(s5.e==0)=true:=by simpa using QP
     obtain⟨k1,k2,k3,k4,S6⟩:=fY (gs:=gs) (s:=s5) (r:=41);have S6:=S6 (by omega);have hsk:iu gs s5.i 41=true→(cK gs s5 41).i=s5.i+1:=fun h=>by unfold cK;rw[if_pos h]
     refine qj fun K hK=>qm ?_;refine qg ?_;refine qp (o:=5) ?_;refine ql hH ax ?_;refine qg ?_;refine qm ?_;refine qm ?_ (hg:=wi a7);obtain⟨_,st,aI,rfl,hH⟩:=dz (s:=s5) (by omega) 41 hH;refine qv aI ?_ (hg:=wi a7);refine qg ?_ (hg:=wi a7);refine qt a7 ?_;refine qe hK ?_;generalize cK gs s5 41=s6 at*
     cases hb:iu gs s5.i 41 with
     |false=>
      refine qB ?_;refine qq<|qj fun K hK=>qm ?_;refine qm ?_;obtain⟨_,st,aI,rfl,s7,hN,hH⟩:=hwr _ s6 4 _ (by decide) (by omega) (by omega) (by omega) (by omega) (by omega) hH;refine qv aI ?_;refine qm ?_;refine qe hK<|af.ret ⟨rx,_,_,_,rfl,aj (rfl),?_⟩;exact⟨s7,hN,cp.aw cn (hH.erase 2)⟩
     |true=>
      have hsk:=hsk hb;refine qC ?_;refine af.skip ?_;exact⟨s6,_,rfl,hH,by omega,by omega,by omega,by omega,.inr ⟨by omega,by omega⟩⟩
    ·have a7:(s5.e==0)=false:=by simpa using QP
     refine qj fun K hK=>qm ?_;refine qg ?_;refine qp (o:=5) ?_;refine ql hH ax ?_;refine qg ?_;refine qm ?_;refine qs ?_ (hg:=wn a7);refine qs ?_ (hg:=wn a7);refine qs ?_ (hg:=wn a7);refine qu a7 ?_;refine qe hK<|qC ?_;refine af.skip ?_;exact⟨s5,_,rfl,hH,b1,by omega,by omega,by omega,.inl QP⟩
   ·rintro fr st ⟨s6,tmp,hfr,hH,c1,c2,c3,c4,c5⟩;rw[hfr];clear hfr;generalize fy fr=ee;clear fr;refine qq<|qq<|qj fun K hK=>qm ?_;refine qe hK ?_
    cases free with
    |true=>
     refine qB ?_;refine qq<|qj fun K hK=>qm ?_;refine qm ?_;refine qe hK<|af.ret ⟨rx,_,_,_,rfl,aj (rfl),?_⟩;refine⟨s6,⟨c1,c2,by omega,c4,l,rfl,a5,by omega,?_⟩,cp.aw cn (hH.erase 2)⟩
     rcases c5 with c5|⟨c5,c6⟩
     ·exact .inl c5
     ·exact .inr ⟨c5,by omega⟩
    |false=>
     refine qC ?_;refine af.skip<|qq<|qj fun K hK=>?_;refine ab.aT (m:=7) hH rfl (ev rfl) (by exact dp) (by dsimp only[List.drop_succ_cons,List.drop_zero,List.take_succ_cons,List.take_zero,aS,bh,av,au,bd]<;>rfl) rfl rfl (ag rfl _) ?_;refine qh (s:=7) (vs:=[_]) hH fun k89 st VD hH=>?_;dsimp only[u2,u1,u3,u4,setMany,u5,u6,D.cells,Nat.reduceAdd,aS,bh,av,au,bd] at hH;refine qm ?_;refine ab.oX (s:=7) hH rfl (ev rfl) (ev rfl) ax ((qF a5).rows st) rfl rfl rfl rfl rfl rfl rfl ⟨(Nat.le_of_ble_eq_true rfl),(Nat.le_of_ble_eq_true rfl)⟩ (fun _=>(ag rfl _)) (by simp only[List.length_map,List.length_cons,List.length_nil];omega) (.inr (qz a5)) (fun k hk=>by have jg:k89+1=k+1:=hk;omega) (fun TT st G5 hH=>?_);dsimp only[u2] at hH;refine qm ?_;refine qe hK ?_;have hH:Has N S2 st (.aM TT 7 ([.int .i64 6,.nul,.int .i64 0,.int .i64 0,.bool false,.int .i64 cap,.int .i64 1]::l.map bd)::.box k (.mem 0 false (aS gs bJ s6))::.aM bJ 1 (bT.map av)::.box k5 (.mem 0 false [.int .i64 6,.nul,.int .i64 0,.int .i64 0,.bool false,.int .i64 cap,.int .i64 1])::H):=hH
     have hfz:=gZ (L:=s0.bs.length) (l:=sa 6 0 0 false cap 1 []::l) hH ax (by rw[List.map_cons,rZ a5];rfl) (fun e he d hd=>by
      rcases List.mem_cons.1 he with rfl|he
      ·simp only[List.mem_cons,List.not_mem_nil,or_false] at hd
       rcases hd with rfl|rfl|rfl|rfl|rfl|rfl|rfl<;>rfl
      ·exact oA a5 e he d hd) (fun k hk=>by rw[←cn];exact G5 k hk) (n:=16) (by decide)
     refine af.ret ⟨rx,_,_,_,rfl,aj hfz,⟨s6,⟨c1,c2,by omega,c4,_,rfl,?_,by simp only[List.length_cons];omega,?_⟩,cp.aw cn ((hH.drop 1).erase 2)⟩⟩
     ·intro n hn
      rcases List.mem_cons.1 hn with rfl|hn
      ·exact⟨rfl,by simp[sa],by simp[sa]⟩
      ·exact a5 n hn
     ·rcases c5 with c5|⟨c5,c6⟩
      ·exact .inl c5
      ·exact .inr ⟨c5,by simp only[List.length_cons];omega⟩
end Go.Proofs.YtbdilgkfnacahaaGreat
