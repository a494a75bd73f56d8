import Derived.Test.YtbdnabmmlbiomaaGreatXGUb
import Derived.Test.YtbdnabmmlbiomaaGreatXGKa
set_option linter.unusedSectionVars false
set_option maxRecDepth 100000
set_option linter.unusedSimpArgs false
set_option linter.unusedVariables false
set_option maxHeartbeats 4000000
namespace Go.Proofs.YtbdnabmmlbiomaaGreat
open Go.V Go
structure dM where
 op:Int
 rd:D
 rs:List Rg
 mn:Int
 mx:Int
 lz:Bool
 cap:Int
 kids:Int
def bm (n:dM):List D:=[.int .i64 n.op,n.rd,.int .i64 n.mn,.int .i64 n.mx,.bool n.lz,.int .i64 n.cap,.int .i64 n.kids]
def dM.ok (n:dM):Prop:=eE n.rd 2 (n.rs.map ax)∧n.rs.length≤1048576∧n.kids≤9223372036854775807
structure Nl where
 d:D
 l:List dM
structure Nl.ok (x:Nl):Prop where
 c:eE x.d 7 (x.l.map bm)
 i:∀n∈x.l,n.ok
 nl:x.l.length≤1048576
theorem lI {l:List dM} {i:Nat} {q:dM} (h:l[i]?=some q):(l.map bm)[i]?=some (bm q):=by rw[List.getElem?_map,h];rfl
mutual
inductive Tr where
 |mk (n:dM) (ks:bI)
inductive bI where
 |nil
 |cons (t:Tr) (ts:bI)
end
def bI.len:bI→Nat
 | .nil=>0
 | .cons _ ts=>ts.len+1
mutual
def Tr.flat:Tr→List dM
 | .mk n ks=>n::ks.flat
def bI.flat:bI→List dM
 | .nil=>[]
 | .cons t ts=>t.flat++ts.flat
end
def v_ (n:dM) (nk:Nat):Prop:=
 n.kids=(nk:Int)∧(((n.op=1∨n.op=7∨n.op=8)∧nk=0)∨(n.op=2∧nk=0)∨((n.op=3∨n.op=4)∧2≤nk)∨
  (n.op=5∧nk=1∧0≤n.mn∧n.mn≤30∧(n.mx=-1∨(n.mn≤n.mx∧n.mx≤30)))∨(n.op=6∧nk=1∧1≤n.cap∧n.cap≤4))
mutual
def Tr.ok:Tr→Prop
 | .mk n ks=>v_ n ks.len∧ks.ok
def bI.ok:bI→Prop
 | .nil=>True
 | .cons t ts=>t.ok∧ts.ok
end
def bQ (n:dM) (s k:Nat):Nat:=
 if n.op=2∨n.op=7∨n.op=8 then 1
 else if n.op=4 then s+2*(k-1)
 else if n.op=6 then s+2
 else if n.op=5 then(if n.mx=-1 then n.mn.toNat*s+s+2 else n.mn.toNat*s+(n.mx.toNat-n.mn.toNat)*(s+1))
 else s
mutual
def Tr.sz:Tr→Nat
 | .mk n ks=>bQ n ks.sz ks.len
def bI.sz:bI→Nat
 | .nil=>0
 | .cons t ts=>t.sz+ts.sz
end
def c8 (op x y:Int) (rs:List Rg):aO:=⟨op,x,y,.sl ((rs.map ax).map (ki 2)),rs⟩
def nE (s o:Nat) (lz:Bool):aO:=if lz=true then c8 2 (o:Nat) ((s+1:Nat):Int) [] else c8 2 ((s+1:Nat):Int) (o:Nat) []
def mK (e:Nat):aO:=c8 3 (e:Nat) 0 []
def fv (c:Nat→List aO) (z:Nat):Nat→Nat→List aO
 |0,_=>[]
 |k+1,b=>c b++fv c z k (b+z)
def fc (sp:Nat→aO) (c:Nat→List aO) (z:Nat):Nat→Nat→List aO
 |0,_=>[]
 |k+1,b=>sp b::(c (b+1)++fc sp c z k (b+1+z))
def vT (z:Nat):Nat→Nat→List Nat
 |0,_=>[]
 |k+1,b=>b::vT z k (b+1+z)
def nK (n:dM) (c:Nat→List aO) (z b:Nat):List aO:=
 if n.mx=-1 then fv c z n.mn.toNat b++(nE (b+n.mn.toNat*z) (b+n.mn.toNat*z+z+2) n.lz::(c (b+n.mn.toNat*z+1)++[mK (b+n.mn.toNat*z)]))
 else fv c z n.mn.toNat b++fc (fun s=>nE s (b+n.mn.toNat*z+(n.mx.toNat-n.mn.toNat)*(z+1)) n.lz) c z (n.mx.toNat-n.mn.toNat) (b+n.mn.toNat*z)
mutual
def aX:Tr→Nat→List aO
 | .mk n ks,b=>
  if n.op=2 then[c8 1 0 0 n.rs]
  else if n.op=7 then[c8 5 0 0 []]
  else if n.op=8 then[c8 6 0 0 []]
  else if n.op=3 then fZ ks b
  else if n.op=4 then eR (mK (b+bQ n ks.sz ks.len)) ks b
  else if n.op=5 then nK n (fZ ks) ks.sz b
  else if n.op=6 then c8 4 (2*n.cap) 0 []::(fZ ks (b+1)++[c8 4 (2*n.cap+1) 0 []])
  else[]
def fZ:bI→Nat→List aO
 | .nil,_=>[]
 | .cons t ts,b=>aX t b++fZ ts (b+t.sz)
def eR (jp:aO):bI→Nat→List aO
 | .nil,_=>[]
 | .cons t ts,b=>if ts.len=0 then aX t b else nE b (b+1+t.sz+1) false::(aX t (b+1)++jp::eR jp ts (b+t.sz+2))
end
def rJ:bI→Nat→List Nat
 | .nil,_=>[]
 | .cons t ts,b=>if ts.len=0 then[] else(b+1+t.sz)::rJ ts (b+t.sz+2)
theorem jA {c:Nat→List aO} {z:Nat} (hc:∀b,(c b).length=z):∀k b,(fv c z k b).length=k*z
 |0,b=>by simp[fv]
 |k+1,b=>by rw[fv,List.length_append,hc,jA hc k,Nat.add_mul];omega
theorem pW {sp:Nat→aO} {c:Nat→List aO} {z:Nat} (hc:∀b,(c b).length=z):∀k b,(fc sp c z k b).length=k*(z+1)
 |0,b=>by simp[fc]
 |k+1,b=>by rw[fc,List.length_cons,List.length_append,hc,pW hc k,Nat.add_mul];omega
theorem Cs {n:dM} {c:Nat→List aO} {z b:Nat} (hc:∀b,(c b).length=z) (h:n.op=5):(nK n c z b).length=bQ n z 1:=by
 unfold nK bQ;rw[if_neg (show¬(n.op=2∨n.op=7∨n.op=8) by omega),if_neg (show¬n.op=4 by omega),if_neg (show¬n.op=6 by omega),if_pos h]
 split
 ·rw[List.length_append,jA hc,List.length_cons,List.length_append,hc];simp only[List.length_cons,List.length_nil];omega
 ·rw[List.length_append,jA hc,pW hc]
theorem bI.zV {ks:bI} (h:ks.len=1):∃t,ks=.cons t .nil:=by
 cases ks with
 |nil=>simp[bI.len] at h
 |cons t ts=>cases ts with
  |nil=>exact⟨t,rfl⟩
  |cons u us=>simp[bI.len] at h
theorem bI.len_nil {ks:bI} (h:ks.len=0):ks=.nil:=by
 cases ks with
 |nil=>rfl
 |cons t ts=>simp[bI.len] at h
mutual
theorem cy:∀(t:Tr) (b:Nat),t.ok→(aX t b).length=t.sz
 | .mk n ks,b,h=>by
  simp only[Tr.ok] at h;obtain⟨h1,h2⟩:=h;have hc:=fun b=>nb ks b h2;have ha:=fun jp b=>rI jp ks b h2;simp only[aX,Tr.sz];obtain⟨_,⟨h3,h4⟩|⟨h3,h4⟩|⟨h3,h4⟩|⟨h3,h4,h5⟩|⟨h3,h4,h5⟩⟩:=h1
  ·have hk:=bI.len_nil h4;subst hk
   by_cases q7:n.op=7
   ·simp[q7,bQ]
   ·by_cases q8:n.op=8
    ·simp[q8,bQ]
    ·have q1:n.op=1:=by omega
     simp[q1,bQ,bI.sz]
  ·simp[h3,bQ]
  ·rcases h3 with h3|h3
   ·simp[h3,bQ,hc]
   ·simp[h3,bQ,ha]
  ·have:=Cs (n:=n) (b:=b) hc h3;simp only[h3] at this⊢;simp only[show¬((5:Int)=2) by decide,show¬((5:Int)=7) by decide,show¬((5:Int)=8) by decide,show¬((5:Int)=3) by decide,show¬((5:Int)=4) by decide,if_false,if_true];rw[this,h4]
  ·simp[h3,bQ,hc]
theorem nb:∀(ts:bI) (b:Nat),ts.ok→(fZ ts b).length=ts.sz
 | .nil,b,_=>by simp[fZ,bI.sz]
 | .cons t ts,b,h=>by
  simp only[bI.ok] at h;simp only[fZ,bI.sz,List.length_append];rw[cy t b h.1,nb ts _ h.2]
theorem rI (jp:aO):∀(ts:bI) (b:Nat),ts.ok→(eR jp ts b).length=ts.sz+2*(ts.len-1)
 | .nil,b,_=>by simp[eR,bI.sz,bI.len]
 | .cons t ts,b,h=>by
  simp only[bI.ok] at h;have h1:=rI jp ts (b+t.sz+2) h.2;simp only[eR,bI.sz,bI.len]
  by_cases q:ts.len=0
  ·rw[if_pos q,cy t b h.1,q];have:=bI.len_nil q;subst this;simp[bI.sz]
  ·rw[if_neg q,List.length_cons,List.length_append,List.length_cons,cy t _ h.1,h1];omega
end
def iy (f:Nat→aO) (c:List aO) (l:List Nat):List aO:=l.foldl (fun c j=>c.set j (f j)) c
theorem pf {α:Type} (pre post:List α) (x y:α):(pre++x::post).set pre.length y=pre++y::post:=by
 rw[List.set_append_right _ _ (Nat.le_refl _),Nat.sub_self];rfl
theorem py {α:Type} (pre post:List α) (x:α):(pre++x::post)[pre.length]?=some x:=by
 rw[List.getElem?_append_right (Nat.le_refl _),Nat.sub_self];rfl
theorem nN {sp:Nat→aO} {c:Nat→List aO} {z:Nat} (hc:∀b,(c b).length=z) {i0:aO}:∀(k b:Nat) (pre post:List aO),pre.length=b→iy sp (pre++fc (fun _=>i0) c z k b++post) (vT z k b)=pre++fc sp c z k b++post∧∀j∈vT z k b,(pre++fc (fun _=>i0) c z k b++post)[j]?=some i0
 |0,b,pre,post,_=>⟨rfl,fun j hj=>by cases hj⟩
 |k+1,b,pre,post,h=>by
  have ih:=nN (sp:=sp) hc (i0:=i0) k (b+1+z) (pre++i0::c (b+1)) post (by rw[List.length_append,List.length_cons,hc];omega);have zX:=nN (sp:=sp) hc (i0:=i0) k (b+1+z) (pre++sp b::c (b+1)) post (by rw[List.length_append,List.length_cons,hc];omega);simp only[fc,vT];have e:pre++i0::(c (b+1)++fc (fun _=>i0) c z k (b+1+z))++post=pre++i0::(c (b+1)++fc (fun _=>i0) c z k (b+1+z)++post):=by simp
  have e2:pre++i0::c (b+1)++fc (fun _=>i0) c z k (b+1+z)++post=pre++i0::(c (b+1)++fc (fun _=>i0) c z k (b+1+z)++post):=by simp
  refine⟨?_,fun j hj=>?_⟩
  ·unfold iy at zX⊢;rw[List.foldl_cons,e]
   have hs:(pre++i0::(c (b+1)++fc (fun _=>i0) c z k (b+1+z)++post)).set b (sp b)=pre++sp b::c (b+1)++fc (fun _=>i0) c z k (b+1+z)++post:=by
    rw[←h,pf];simp
   rw[hs,zX.1];simp
  ·rw[e]
   rcases List.mem_cons.1 hj with rfl|hj
   ·rw[←h];exact py _ _ _
   ·rw[←e2];exact ih.2 j hj
theorem oq {jp i0:aO}:∀(ts:bI) (b:Nat) (pre post:List aO),ts.ok→pre.length=b→iy (fun _=>jp) (pre++eR i0 ts b++post) (rJ ts b)=pre++eR jp ts b++post∧∀j∈rJ ts b,(pre++eR i0 ts b++post)[j]?=some i0
 | .nil,b,pre,post,_,_=>⟨by simp[eR,rJ,iy],fun j hj=>by simp[rJ] at hj⟩
 | .cons t ts,b,pre,post,bc,h=>by
  simp only[bI.ok] at bc
  by_cases q:ts.len=0
  ·simp only[eR,rJ,if_pos q];exact⟨rfl,fun j hj=>by cases hj⟩
  ·simp only[eR,rJ,if_neg q];generalize nE b (b+1+t.sz+1) false=sp;have hcl:=cy t (b+1) bc.1;have ih:=oq (jp:=jp) (i0:=i0) ts (b+t.sz+2) (pre++sp::(aX t (b+1)++[i0])) post bc.2 (by simp only[List.length_append,List.length_cons,List.length_nil,hcl];omega);have zX:=oq (jp:=jp) (i0:=i0) ts (b+t.sz+2) (pre++sp::(aX t (b+1)++[jp])) post bc.2 (by simp only[List.length_append,List.length_cons,List.length_nil,hcl];omega);generalize eR i0 ts (b+t.sz+2)=A at*;have e:pre++sp::(aX t (b+1)++i0::A)++post=(pre++sp::aX t (b+1))++i0::(A++post):=by simp
   have hl:(pre++sp::aX t (b+1)).length=b+1+t.sz:=by simp only[List.length_append,List.length_cons,hcl];omega
   refine⟨?_,fun j hj=>?_⟩
   ·unfold iy at zX⊢;rw[List.foldl_cons,e,←hl,pf];have:=zX.1;simp only[List.append_assoc,List.cons_append,List.nil_append] at this⊢;exact this
   ·rw[e]
    rcases List.mem_cons.1 hj with rfl|hj
    ·rw[←hl];exact py _ _ _
    ·have:=ih.2 j hj;simp only[List.append_assoc,List.cons_append,List.nil_append] at this⊢;exact this
def fO {α:Type} (L:List α) (at_:Nat) (M:List α):Prop:=∃post,L.drop at_=M++post
theorem fO.head {α:Type} {L M:List α} {a:α} {at_:Nat} (h:fO L at_ (a::M)):L[at_]?=some a:=by
 obtain⟨post,h⟩:=h;have:=congrArg (·[0]?) h
 simpa using this
theorem fO.tail {α:Type} {L M:List α} {a:α} {at_:Nat} (h:fO L at_ (a::M)):fO L (at_+1) M:=by
 obtain⟨post,h⟩:=h;refine⟨post,?_⟩;rw[←List.drop_drop,h];rfl
theorem fO.left {α:Type} {L M M':List α} {at_:Nat} (h:fO L at_ (M++M')):fO L at_ M:=by
 obtain⟨post,h⟩:=h;exact⟨M'++post,by rw[h,List.append_assoc]⟩
theorem fO.right {α:Type} {L M M':List α} {at_:Nat} (h:fO L at_ (M++M')):fO L (at_+M.length) M':=by
 obtain⟨post,h⟩:=h;refine⟨post,?_⟩;rw[←List.drop_drop,h,List.append_assoc,List.drop_left]
theorem fO.le {α:Type} {L M:List α} {at_:Nat} (h:fO L at_ M) (hM:M≠[]):at_+M.length≤L.length:=by
 obtain⟨post,h⟩:=h;have:=congrArg List.length h;simp only[List.length_drop,List.length_append] at this
 have:0<M.length:=by cases M with|nil=>exact absurd rfl hM|cons _ _=>simp
 omega
theorem fO.all {α:Type} (L:List α):fO L 0 L:=⟨[],by simp⟩
mutual
def Tr.zs:Tr→List Int
 | .mk n ks=>((min (bQ n ks.sz ks.len) 401:Nat):Int)::ks.zs
def bI.zs:bI→List Int
 | .nil=>[]
 | .cons t ts=>t.zs++ts.zs
end
mutual
def Tr.es:Tr→Nat→List Int
 | .mk n ks,at_=>((at_+1+ks.flat.length:Nat):Int)::ks.es (at_+1)
def bI.es:bI→Nat→List Int
 | .nil,_=>[]
 | .cons t ts,at_=>t.es at_++ts.es (at_+t.flat.length)
end
mutual
theorem Tr.jf:∀t:Tr,t.zs.length=t.flat.length
 | .mk n ks=>by simp[Tr.zs,Tr.flat,bI.jf ks]
theorem bI.jf:∀ts:bI,ts.zs.length=ts.flat.length
 | .nil=>rfl
 | .cons t ts=>by simp[bI.zs,bI.flat,Tr.jf t,bI.jf ts]
end
mutual
theorem Tr.jr:∀(t:Tr) (a:Nat),(t.es a).length=t.flat.length
 | .mk n ks,a=>by simp[Tr.es,Tr.flat,bI.jr ks]
theorem bI.jr:∀(ts:bI) (a:Nat),(ts.es a).length=ts.flat.length
 | .nil,_=>rfl
 | .cons t ts,a=>by simp[bI.es,bI.flat,Tr.jr t,bI.jr ts]
end
theorem Tr.iK (t:Tr):0<t.flat.length:=by cases t;simp[Tr.flat]
theorem bI.kW:∀ts:bI,ts.len≤ts.flat.length
 | .nil=>Nat.le_refl _
 | .cons t ts=>by
  have h1:=bI.kW ts;have h2:=t.iK;simp only[bI.len,bI.flat,List.length_append];omega
end Go.Proofs.YtbdnabmmlbiomaaGreat
namespace Go.V
variable{N:Nat} {S st:St} {H:List bt}
theorem cG.at_ {α β:Type} {R:α→β→Prop}:∀{l:List α} {m:List β} {i:Nat} {b:β},cG R l m→m[i]?=some b→∃a,l[i]?=some a∧R a b
 |_,_,_,_,.nil,h=>by simp at h
 |_,_,0,_,.cons a t,h=>by simp only[List.getElem?_cons_zero,Option.some.injEq] at h;subst h;exact⟨_,rfl,a⟩
 |_,_,i+1,_,.cons a t,h=>by simp only[List.getElem?_cons_succ] at h⊢;exact t.at_ h
theorem cG.set {α β:Type} {R:α→β→Prop} {a:α} {b:β} (r:R a b):∀{l:List α} {m:List β} (i:Nat),cG R l m→cG R (l.set i a) (m.set i b)
 |_,_,_,.nil=>.nil
 |_,_,0,.cons _ t=>.cons r t
 |_,_,i+1,.cons h t=>.cons h (t.set r i)
theorem cG.setMany {R:D→D→Prop}:∀{xs ys:List D} {c d:List D} (o:Nat),cG R xs ys→cG R c d→cG R (setMany c o xs) (setMany d o ys)
 |_,_,_,_,_,.nil,h=>h
 |_,_,_,_,o,.cons r t,h=>by simp only[Go.V.setMany];exact t.setMany (o+1) (h.set r o)
theorem cG.same {R:D→D→Prop}:∀{l:List D},(∀d∈l,R d d)→cG R l l
 |[],_=>.nil
 |d::l,h=>.cons (h d (List.mem_cons_self ..)) (cG.same fun x hx=>h x (List.mem_cons_of_mem _ hx))
theorem Has.UJ {j:Nat} {x:D} {s:Nat} {ks:Nat→Prop} {vs:List (List D)} (hH:Has N S st H) (hj:H[j]?=some (.deep ks x s vs)):∃es,Rows st s x es∧es.length=vs.length:=by
 obtain⟨⟨es,h1,h2⟩,_⟩:=(hH.ok j _ hj).1;exact⟨es,h1.rows,h2.len⟩
theorem Has.Yt {j k az off len s:Nat} {ks:Nat→Prop} {vs:List (List D)} {i o:Nat} {v cs:List D} (h:Has N S st H) (hj:H[j]?=some (.deep ks (.win k az off len s) s vs)) (hi:vs[i]?=some v) (hl:o+cs.length≤s) (hp:∀d∈cs,cj d=true) (hw:S.flr≤N∨refs cs=0):
  ∃ai,st.wr k az (off+i*s+o) cs=some ai∧Has N S ai (H.set j (.deep ks (.win k az off len s) s (vs.set i (setMany v o cs)))):=by
 obtain⟨⟨es,ma,Bu⟩,he3⟩:=(h.ok j _ hj).1;have hK:=(h.ok j _ hj).2;obtain⟨e,hei,aK⟩:=Bu.at_ hi
 have px:Has N S st [.aP (.win k az off len s) s es]:=by
  refine⟨h.ex,h.hN,h.dX,fun i e hi=>?_,fun i i' a b hii ha hb k rT iF=>?_⟩
  ·cases i with
   |zero=>simp only[List.getElem?_cons_zero,Option.some.injEq] at hi;subst hi;exact⟨ma,fun k hk=>hK k (.inl hk)⟩
   |succ i=>simp at hi
  ·cases i with
   |zero=>cases i' with
    |zero=>exact hii rfl
    |succ i'=>simp at hb
   |succ i=>simp at ha
 obtain⟨ai,q1,q2⟩:=px.zF (j:=0) aB hei hl hw;refine⟨ai,q1,?_⟩;have hown:=q2.own (j:=0) aB
 have Xh:(∀n,n≠k→ai.bs[n]?=st.bs[n]?)∧st.bs.length=ai.bs.length∧ai.flr=st.flr∧ai.ro=st.ro:=by
  unfold St.wr at q1
  split at q1
  ·split at q1
   ·cases q1;exact⟨fun n hn=>by simp only;rw[List.getElem?_set_ne (fun e=>hn e.symm)],by simp,rfl,rfl⟩
   ·cases q1
  ·cases q1
 obtain⟨c1,c2,c3,c4⟩:=Xh;have hkk:=hK k (.inl (by simp only[D.ref]));have hne:∀n,ks n→n≠k:=fun n hn e=>he3 k (by simp only[D.ref]) (e▸hn);have wJ:∀n,ks n→ai.bs[n]?=st.bs[n]?:=fun n hn=>c1 n (hne n hn);refine h.BV hj (fun n hn hnot=>c1 n fun e=>hnot (.inl (by simp only[D.ref];omega))) (Nat.le_of_eq c2) c3 c4 ⟨⟨_,hown,?_⟩,he3⟩ (fun n hn=>.inl hn) fun n hn=>?_
 ·refine cG.set ?_ i (Bu.mono fun a b=>cG.mono fun c d=>eW.move wJ);exact(cG.same fun d hd=>.plain d (hp d hd)).setMany o (aK.mono fun c d=>eW.move wJ)
 ·rw[←c2];exact(hK n hn).2
variable{P:Pv} {ops:Array Oper} {rest:List Oper} {fr aL:Fr} {Q:Fr→St→Prop} {ty:TypeId} {pp:String} {a:Array Edge} {g:Option (Nat×Bool)} {dst:Nat}
theorem aa.BI {t e:TypeId} {xo:Operand} {x:D} {s j:Nat} {ks:Nat→Prop} {vs:List (List D)} (hH:Has N S st H) (hg:aE ops fr ⟨some dst,.call ⟨.builtin .len,#[xo],#[t]⟩,ty,pp,a,g⟩=some true) (hx:fr.ev xo=x) (hj:H[j]?=some (.deep ks x s vs)) (ht:P.cz t=some (.slice e)) (hp:fr.put dst (.int .i64 (vs.length:Nat))=aL)
  (h:aa P ops rest aL st Q):aa P ops (⟨some dst,.call ⟨.builtin .len,#[xo],#[t]⟩,ty,pp,a,g⟩::rest) fr st Q:=by
 obtain⟨es,h1,h2⟩:=hH.UJ hj;exact aa.PA hg hx h1 ht (by rw[h2];exact hp) h
theorem aa.Ea {t e:TypeId} {xo io:Operand} {x:D} {s i j:Nat} {kk:IntKind} {ks:Nat→Prop} {vs:List (List D)} {aL:D→Fr} (hH:Has N S st H) (hg:aE ops fr ⟨some dst,.indexAddr t xo io,ty,pp,a,g⟩=some true) (hx:fr.ev xo=x) (hi:fr.ev io=.int kk (i:Nat)) (hj:H[j]?=some (.deep ks x s vs)) (ht:P.cz t=some (.slice e)) (hs:cg P e=some s) (hr:i<vs.length) (hp:∀p,fr.put dst p=aL p)
  (h:∀p,o8 x s i 0 p→aa P ops rest (aL p) st Q):aa P ops (⟨some dst,.indexAddr t xo io,ty,pp,a,g⟩::rest) fr st Q:=by
 obtain⟨⟨es,ma,Bu⟩,he3⟩:=(hH.ok j _ hj).1;have hlen:=Bu.len
 cases ma with
 |nul=>simp at hlen;omega
 |win k az off es c hm hl hc he=>
  refine aa.go hg rfl (d:=.ptr k az (off+i*s)) (st1:=st) ?_ (hp _) (h _ ⟨k,az,off,_,rfl,rfl⟩);simp only[dr,hx,hi,bN,ht,hs,Option.bind_some,St.mem_of hm,Option.isSome_some];rw[if_pos ⟨trivial,by omega,by omega,trivial⟩];rfl
theorem aa.ru {t:TypeId} {ao vo:Operand} {x y v:D} {s i o j:Nat} {ks:Nat→Prop} {vs:List (List D)} {r cs:List D} (hH:Has N S st H) (hg:aE ops fr ⟨none,.store t ao vo,ty,pp,a,g⟩=some true) (ha:fr.ev ao=y) (hv:fr.ev vo=v) (hR:o8 x s i o y) (h_:v.cells?=some cs) (hs:cg P t=some cs.length) (hj:H[j]?=some (.deep ks x s vs)) (hr:vs[i]?=some r) (hl:o+cs.length≤s) (hq:∀d∈cs,cj d=true) (hw:S.flr≤N∨refs cs=0)
  (h:∀ai,Has N S ai (H.set j (.deep ks x s (vs.set i (setMany r o cs))))→aa P ops rest fr ai Q):aa P ops (⟨none,.store t ao vo,ty,pp,a,g⟩::rest) fr st Q:=by
 obtain⟨k,az,off,len,rfl,rfl⟩:=hR;obtain⟨ai,h1,h2⟩:=hH.Yt hj hr hl hq hw;refine aa.N hg rfl (d:=.tup []) (st1:=ai) ?_ (h _ h2);simp only[dr,ha,hv,jU,h_,hs,if_pos trivial,h1];rfl
theorem ab.QZ {dy:Dy} {i:Nat} {l:List Oper} {d n loc tmp st} {Q:Out→Fr→St→Prop} (ws:List Nat) (F:(Nat→D)→Prop)
  (h1:aa P l.toArray l ⟨n,loc,[]⟩ st fun aL ai=>∃f tmp,aL=⟨n,aR loc ws f,tmp⟩∧ai=st∧F f) (h2:∀f tmp,F f→Q .next ⟨n,aR loc ws f,tmp⟩ st) (h0:gu i dy=[]:=by rfl):ab P dy (.region i l.toArray d) ⟨n,loc,tmp⟩ st Q:=by
 refine ab.br ?_ h0;unfold aa at h1⊢;obtain⟨aL,ai,h3,f,Mn,rfl,rfl,h4⟩:=h1;exact⟨_,_,h3,h2 _ _ h4⟩
theorem kX {n:Nat} {L loc:List D} {tE:List (Nat×D)} {ws:List Nat} {F:(Nat→D)→Prop} {st:St} (h:L=aR loc ws (fun k=>nth .bp L k)) (h2:F (fun k=>nth .bp L k)):∃(f:Nat→D) (tmp:List (Nat×D)),(⟨n,L,tE⟩:Fr)=⟨n,aR loc ws f,tmp⟩∧st=st∧F f:=⟨_,tE,by rw[←h],rfl,h2⟩
theorem aa.Si {t1 t2:TypeId} {xo yo:Operand} {x y z:Int} (hg:aE ops fr ⟨some dst,.call ⟨.builtin .min,#[xo,yo],#[t1,t2]⟩,ty,pp,a,g⟩=some true) (hx:fr.ev xo=.int .i64 x) (hy:fr.ev yo=.int .i64 y) (hz:min x y=z) (hp:fr.put dst (.int .i64 z)=aL) (h:aa P ops rest aL st Q):aa P ops (⟨some dst,.call ⟨.builtin .min,#[xo,yo],#[t1,t2]⟩,ty,pp,a,g⟩::rest) fr st Q:=
 aa.KQ (t1:=t1) (t2:=t2) hg hx hy (by rw[hz];exact hp) h
theorem Has.wu {N:Nat} {S s0 S2 st2:St} {H:List bt} {x:D} {s:Nat} {es Yq:List (List D)} (h:Has N S s0 (.aP x s es::H)) (hS:S2.bs=s0.bs) (h2:Has N S2 st2 (.aP x s Yq::H)):Has N S ⟨st2.bs.take s0.bs.length,s0.flr,s0.ro⟩ (.aP x s Yq::H):=by
 refine h.uf hS h2 fun i e hi=>?_
 cases i with
 |zero=>simp only[List.getElem?_cons_zero,Option.some.injEq] at hi;subst hi;exact⟨_,rfl,fun k hk=>hk⟩
 |succ i=>exact⟨e,hi,fun k hk=>hk⟩
theorem Has.wv {N:Nat} {S s0 S2 st2:St} {H:List bt} {k:Nat} {b b':gW} {ks:Nat→Prop} {x:D} {s:Nat} {vs RJ:List (List D)} (h:Has N S s0 (.box k b::.deep ks x s vs::H)) (hS:S2.bs=s0.bs) (h2:Has N S2 st2 (.box k b'::.deep ks x s RJ::H)):Has N S ⟨st2.bs.take s0.bs.length,s0.flr,s0.ro⟩ (.box k b'::.deep ks x s RJ::H):=by
 refine h.uf hS h2 fun i e hi=>?_
 match i with
 |0=>simp only[List.getElem?_cons_zero,Option.some.injEq] at hi;subst hi;exact⟨_,rfl,fun k hk=>hk⟩
 |1=>simp only[List.getElem?_cons_succ,List.getElem?_cons_zero,Option.some.injEq] at hi;subst hi;exact⟨_,rfl,fun k hk=>hk⟩
 |i+2=>exact⟨e,hi,fun k hk=>hk⟩
theorem Has.Kz {N:Nat} {S st:St} {H:List bt} {a b c d e:bt} (h:Has N S st (a::b::c::d::e::H)):Has N S st (b::c::d::e::a::H):=by
 refine h.sub (fun i=>if i=4 then 0 else if i<4 then i+1 else i) (fun i j hij=>?_) (fun i x hi=>?_)
 ·skip
  split at hij<;>split at hij<;>(try split at hij)<;>(try split at hij)<;>omega
 ·match i,hi with
  |0,hi=>exact hi
  |1,hi=>exact hi
  |2,hi=>exact hi
  |3,hi=>exact hi
  |4,hi=>exact hi
  |i+5,hi=>
   have h1:¬(i+5=4):=by omega
   have h2:¬(i+5<4):=by omega
   simp only[if_neg h1,if_neg h2];exact hi
theorem Has.lC {fr:Fr} {a k az off j u u2:Nat} {t:TypeId} {ar:Bool} {c:List D} {d e e2:D} (hH:Has N S st H) (ha:fr.get a=.ptr k az off) (hj:H[j]?=some (.box k (.mem az ar c))) (hd:dv P t (c.drop off)=some d) (he:fr.get u=e) (Bu:fr.get u2=e2):ji P fr st [.cell a t,.tmp u,.tmp u2]=some [d,e,e2]:=by
 simp only[ji,fe,ha,St.mem_of (hH.at hj),Option.bind_some,hd,Option.map_some,he,Bu]
theorem ab.j8 {dy:Dy} {c1 c2:Code} {fr:Fr} {st:St} {Q:Out→Fr→St→Prop} (M:Fr→St→Prop) (h1:ab P dy c1 fr st (aI P dy c2 (ED M Q))) (h2:∀aL ai,M aL ai→Q .next aL ai):ab P dy c1 fr st (aI P dy c2 Q):=
 h1.mono fun o aL ai h=>by
  cases o with
  |next=>exact ab.merge M h h2
  |exit i=>exact h
  |ret=>exact h
end Go.V
namespace Go.Proofs.YtbdnabmmlbiomaaGreat
open Go.V Go
def yD (fr:Go.V.Fr) (k:Nat):Go.V.D:=Go.V.nth .bp fr.loc k
theorem BC {st:St} {L n:Nat} {kn:Bool} {k az off len s:Nat}:aY st L kn n (.win k az off len s)=aY st L false n (.win k az off len s):=by
 cases n<;>rfl
theorem BA (l:List Rg):(l.map ax).map (·.map oe)=l.map ax:=by
 rw[List.map_map];rfl
theorem xE (l:List Rg):∀e∈l.map ax,∀d∈e,mz d=true:=by
 intro e he d hd;obtain⟨x,_,rfl⟩:=List.mem_map.1 he;simp only[ax,List.mem_cons,List.not_mem_nil,or_false] at hd
 rcases hd with rfl|rfl<;>rfl
theorem oL {N L j:Nat} {S st:St} {H:List bt} {x:D} {l:List Rg} (hH:Has N S st H) (hj:H[j]?=some (.aP x 2 (l.map ax))) (hx:∀k,x.ref=k+1→L≤k) {n:Nat} (hn:3≤n):aY st L false n x=some (bJ l):=by
 rw[hH.uG hj hx (xE l) hn,BA,iz]
def UN (gs:List (Nat×Nat)) (s s':fk) (d1:D) (b:Bool):Prop:=
 EC gs s s' d1 b∨(s'=s∧d1=.nul∧b=false)
theorem zJ {N k:Nat} {S s0:St} {H:List bt} {gs:List (Nat×Nat)} {bS:D} {b_:List Int} {s:fk} (bc:lu gs b_) (he:s.e=0) (hi:s.i<gs.length) (hH:Has N S s0 (.box k (.mem 0 false (a8 gs bS s))::.aP bS 1 (b_.map ay)::H)):
  ∃d ai,Ev pv 197 [.ptr k 0 0] s0 d ai∧∃(d1:D) (b:Bool) (s':fk),d=.tup [d1,.bool b]∧UN gs s s' d1 b∧Has N S ai (.box k (.mem 0 false (a8 gs bS s'))::.aP bS 1 (b_.map ay)::H):=by
 have s9:=bc.gl;have iq:=bc.pl;refine Ev.il rfl TY rfl rfl rfl ?_;dsimp only[u3,u4,List.length,Nat.reduceSub,Nat.reduceAdd,w1,w2];have cF:=hH;have hH:=hH.cI;have ct:(ag .rw s0).bs=s0.bs:=rfl;generalize ag .rw s0=S2 at*;have Ad:Arg N S2 2 (dJ gs) (gs.map aQ):=Arg.pure (fun st=>dF st gs)
 obtain⟨g,hg⟩:∃g,gs[s.i]?=some g:=⟨gs[s.i]'hi,List.getElem?_eq_getElem _⟩
 have gJ:(gs.map aQ)[s.i]?=some (aQ g):=by rw[List.getElem?_map,hg];rfl
 refine qq<|qj fun K hK=>qm ?_;refine qm ?_;refine qe hK<|qq<|qq<|qj fun K hK=>qm ?_;refine qm ?_;refine qg ?_;refine qp (o:=2) ?_;refine ql hH aB ?_;obtain⟨_,st,aK,rfl,hH⟩:=zg (s:=s) s.i hi hH;refine qv aK ?_;refine qe hK ?_;refine qc (fun hb=>?_) (fun hb=>?_)<;>try simp only[cs] at hb
 ·refine qq<|qj fun K hK=>qm ?_;refine qm ?_;refine qg ?_;refine qp (o:=2) ?_;refine ql hH aB ?_;obtain⟨_,st,aK,rfl,hH⟩:=dc (s:=s) s.i 4 (by omega) hH;refine qv aK ?_;refine qe hK<|qq<|qj fun K hK=>qm ?_;refine qm ?_;refine qe hK ?_;obtain⟨h1,h2,h3,h4⟩:=dt (b_:=b_) (s:=s) (i:=s.i) (e:=4) he (by decide);refine ab.ret ⟨rx,_,_,_,rfl,ak (rfl),?_⟩;exact⟨_,_,_,rfl,.inl ⟨h3,h4,by rw[h2];exact Nat.le_refl _,by rw[h2];omega,.inl rfl,.inl h1⟩,cF.aA ct hH⟩
 ·refine ab.skip<|qq<|qj fun K hK=>qm ?_;refine qg ?_;refine qp (o:=0) ?_;refine ql hH aB ?_;refine qm ?_;refine qg ?_;refine qp (o:=2) ?_;refine ql hH aB ?_;refine qr fun Sb DG=>?_;refine qf (fo:=0) fun p26 Wy=>?_;refine qR ?_;refine qm ?_;refine qe hK<|qq<|qj fun K hK=>qm ?_;refine qe hK<|ab.block<|qq<|qj fun K hK=>qg ?_;refine qm ?_;refine qe hK ?_;refine ab.cond (by rfl) (fun q1=>?_) (fun q1=>?_)<;>try simp only[beq_iff_eq,beq_eq_false_iff_ne,ne_eq] at q1
  ·refine qq<|qj fun K hK=>qm ?_;obtain⟨_,st,aK,d1,b,s',rfl,hP,hH⟩:=zD (s:=s) bc he hi hH;refine qv aK ?_;refine qg ?_;refine qg ?_;refine qm ?_;refine qm ?_;refine qe hK ?_
   rcases hP.2.2.2.2.1 with rfl|⟨a,rfl,_⟩
   ·refine ab.ret ⟨rx,_,_,_,rfl,ak (rfl),?_⟩;exact⟨_,_,_,rfl,.inl hP,cF.aA ct hH⟩
   ·refine ab.ret ⟨rx,_,_,_,rfl,ak (rfl),?_⟩;exact⟨_,_,_,rfl,.inl hP,cF.aA ct hH⟩
  ·refine qq<|qq<|qj fun K hK=>qg ?_;refine qm ?_;refine qe hK ?_
   by_cases Rj:((g.1:Nat):Int)=91
   ·refine qD rfl (by simp[Rj]) ?_;refine ab.skip<|qD rfl (by simp[Rj]) ?_;refine qq<|qj fun K hK=>qm ?_;refine qm ?_;refine qe hK<|ab.ret ⟨rx,_,_,_,rfl,ak (rfl),?_⟩;exact⟨_,_,_,rfl,.inr ⟨rfl,rfl,rfl⟩,cF.aA ct hH⟩
   refine qE rfl (by simp[Rj]) ?_;refine qq<|qj fun K hK=>qg ?_;refine qm ?_;refine qe hK ?_
   by_cases Vq:((g.1:Nat):Int)=93
   ·refine qD rfl (by simp[Vq]) ?_;refine ab.skip<|qD rfl (by simp[Vq]) ?_;refine qq<|qj fun K hK=>qm ?_;refine qm ?_;refine qe hK<|ab.ret ⟨rx,_,_,_,rfl,ak (rfl),?_⟩;exact⟨_,_,_,rfl,.inr ⟨rfl,rfl,rfl⟩,cF.aA ct hH⟩
   refine qE rfl (by simp[Vq]) ?_;refine qj fun K hK=>qg ?_;refine qm ?_;refine qe hK ?_
   by_cases YX:((g.1:Nat):Int)=45
   ·refine qD rfl (by simp[YX]) ?_;refine qq<|qj fun K hK=>qm ?_;refine qm ?_;refine qe hK<|ab.ret ⟨rx,_,_,_,rfl,ak (rfl),?_⟩;exact⟨_,_,_,rfl,.inr ⟨rfl,rfl,rfl⟩,cF.aA ct hH⟩
   refine qE rfl (by simp[YX]) ?_;refine qq<|qj fun K hK=>qm ?_;refine qg ?_;refine qp (o:=2) ?_;refine ql hH aB ?_;refine qA ?_;refine qg ?_;refine qp (o:=2) ?_;refine qT hH aB fun st hH=>?_;dsimp only[u2,u1,u3,u4,setMany,u5,u6,D.cells,Nat.reduceAdd,a8,aQ,ay,ax] at hH;refine qe hK<|qq<|qj fun K hK=>qm ?_;refine qm ?_;refine aa.gd (qs:=[(0,_),(1,_)]) rfl rfl rfl rfl ⟨rfl,(ev rfl),(by rfl),rfl,(ev rfl),(by rfl),trivial⟩ (by intro q hq;simp only[List.mem_cons,List.not_mem_nil,or_false] at hq;rcases hq with rfl|rfl<;>exact⟨rfl,by exact Nat.le_of_ble_eq_true rfl⟩) (by show List.foldl _ [_,_] _=_;dsimp only[List.foldl_cons,List.foldl_nil,u2,u1]<;>rfl) (ah rfl _) ?_;refine qh (s:=2) (vs:=[_]) hH fun k39 st aaY hH=>?_;refine qm ?_;refine qm ?_;refine qe hK ?_;have hH:Has N S2 st (.aP (.win k39 0 0 1 2) 2 (([((g.1:Nat),(g.1:Nat))]:List Rg).map ax)::.box k (.mem 0 false (a8 gs bS {s with i:=s.i+1}))::.aP bS 1 (b_.map ay)::H):=hH;have hfz:=oL hH aB (L:=s0.bs.length) (n:=15) (fun k hk=>by simp only[D.ref] at hk;rw[←ct];omega) (by decide)
   have W2:aY st s0.bs.length true 16 (pE [.win k39 0 0 1 2,.bool true])=some (.tup [bJ [(((g.1:Nat):Int),((g.1:Nat):Int))],.bool true]):=by
    show(eN (aY st s0.bs.length true 15) [.win k39 0 0 1 2,.bool true]).map D.tup=_;simp only[eN,BC,hfz];rfl
   refine ab.ret ⟨rx,_,_,_,rfl,ak W2,⟨_,_,{s with i:=s.i+1},rfl,.inl ⟨rfl,rfl,?_,?_,.inr ⟨_,rfl,by simp⟩,.inr ⟨he,?_,_,rfl,?_,?_⟩⟩,cF.aA ct (hH.drop 1)⟩⟩
   ·show s.i≤s.i+1;omega
   ·show s.i+1≤_;omega
   ·show s.i<s.i+1;omega
   ·simp
   ·simp
def UP (gs:List (Nat×Nat)) (s s':fk) (d:D):Prop:=
 s'.o=s.o∧s'.g=s.g∧s.i≤s'.i∧s'.i≤gs.length∧∃a:List Rg,d=bJ a∧a.length≤8∧(s'.e≠0∨s'.e=0∧s.i<s'.i)
theorem gS {gs:List (Nat×Nat)} {s:fk} {r:Int}:(c9 gs s r).o=s.o∧(c9 gs s r).g=s.g∧(c9 gs s r).e=s.e∧s.i≤(c9 gs s r).i∧(s.i≤gs.length→(c9 gs s r).i≤gs.length):=by
 unfold c9
 split
 ·rename_i h;have:=qO h;exact⟨rfl,rfl,rfl,by show s.i≤s.i+1;omega,fun _=>by show s.i+1≤_;omega⟩
 ·exact⟨rfl,rfl,rfl,Nat.le_refl _,fun h=>h⟩
theorem KZ {N k:Nat} {S s0:St} {H:List bt} {gs:List (Nat×Nat)} {bS:D} {b_:List Int} {s:fk} (bc:lu gs b_) (he:s.e=0) (hi:s.i<gs.length) (hH:Has N S s0 (.box k (.mem 0 false (a8 gs bS s))::.aP bS 1 (b_.map ay)::H)):
  ∃d ai,Ev pv 181 [.ptr k 0 0] s0 d ai∧∃(s':fk),UP gs s s' d∧Has N S ai (.box k (.mem 0 false (a8 gs bS s'))::.aP bS 1 (b_.map ay)::H):=by
 have s9:=bc.gl;have iq:=bc.pl;refine Ev.il rfl T1 rfl rfl rfl ?_;dsimp only[u3,u4,List.length,Nat.reduceSub,Nat.reduceAdd,w1,w2];have cF:=hH;have hH:=hH.cI;have ct:(ag .rw s0).bs=s0.bs:=rfl;generalize ag .rw s0=S2 at*;have Ad:Arg N S2 2 (dJ gs) (gs.map aQ):=Arg.pure (fun st=>dF st gs);refine qq<|qj fun K hK=>qm ?_;refine qe hK<|qq<|qj fun K hK=>qm ?_;refine qg ?_;refine qp (o:=2) ?_;refine ql hH aB ?_;refine qm ?_;refine qe hK<|qq<|qj fun K hK=>qm ?_;obtain⟨_,st,aK,d1,b,s1,rfl,hP,hH⟩:=zJ (s:=s) bc he hi hH;refine qv aK ?_;refine qm ?_;refine qg ?_;refine qg ?_;refine qm ?_;refine qm ?_;refine qe hK<|qq<|qq<|qj fun K hK=>qm ?_;refine qg ?_;refine qp (o:=5) ?_;refine ql hH aB ?_;refine qg ?_;refine qe hK ?_
 rcases hP with hP|⟨e1,rfl,rfl⟩
 ·obtain⟨p1,p2,p3,p4,p5,p6⟩:=hP
  rcases p6 with p6|⟨p6,p7,a,rfl,p8,p9⟩
  ·refine qD rfl (by simp[p6]) ?_;refine qq<|qj fun K hK=>qm ?_;refine qe hK<|ab.ret ⟨rx,_,_,_,rfl,ak (rfl),?_⟩;exact⟨s1,⟨p1,p2,p3,p4,[],rfl,by simp,.inl p6⟩,cF.aA ct hH⟩
  ·obtain⟨q,a',rfl⟩:∃q a',a=q::a':=List.exists_cons_of_ne_nil p9;refine qE rfl (by simp[p6]) ?_;refine ab.skip<|qq<|qq<|qj fun K hK=>qm ?_;refine aa.go (d:=.bool false) (st1:=_) rfl rfl rfl (ah rfl _) ?_;refine qe hK<|qC ?_;refine ab.skip ?_;obtain⟨k1,k2,k3,k4,k5⟩:=gS (gs:=gs) (s:=s1) (r:=45);have k5:=k5 p4;refine qq<|qq<|qj fun K hK=>qm ?_;obtain⟨_,st,aK,rfl,hH⟩:=er (s:=s1) (by omega) 45 hH;refine qv aK ?_;refine qg ?_;refine qe hK ?_;generalize c9 gs s1 45=s2 at*
   cases hb:kZ gs s1.i 45 with
   |false=>
    refine qB ?_;refine qq<|qj fun K hK=>qm ?_;refine qm ?_;refine qe hK<|ab.ret ⟨rx,_,_,_,rfl,ak (rfl),?_⟩;exact⟨s2,⟨k1.trans p1,k2.trans p2,by omega,k5,q::a',rfl,p8,.inr ⟨k3.trans p6,by omega⟩⟩,cF.aA ct hH⟩
   |true=>
    refine qC ?_;refine ab.skip<|qq<|qj fun K hK=>qm ?_;refine qe hK<|qq<|qj fun K hK=>qm ?_;refine qe hK<|qq<|qq<|qj fun K hK=>qm ?_;refine qg ?_;refine qp (o:=2) ?_;refine ql hH aB ?_;refine qm ?_;refine qg ?_;refine qp (o:=0) ?_;refine ql hH aB ?_;refine qn ?_;simp only[List.length_map];refine qg ?_;refine qe hK<|ab.merge (fun fr st=>∃(d2:D) (two:Bool) (s3:fk) (tmp:List (Nat×D)),fr=⟨8,[.ptr k 0 0,yD fr 1,yD fr 2,.int .i64 (s.i:Nat),bJ (q::a'),.bool b,d2,.bool two],tmp⟩∧Has N S2 st (.box k (.mem 0 false (a8 gs bS s3))::.aP bS 1 (b_.map ay)::H)∧(s3.o=s.o)∧(s3.g=s.g)∧(s2.i≤s3.i)∧(s3.i≤gs.length)∧(s3.e≠0∨s3.e=0∧(two=false∨∃a2:List Rg,d2=bJ a2∧a2≠[]))) ?_ ?_
    ·refine ab.cond (by rfl) (fun hlt=>?_) (fun hlt=>?_)<;>try simp only[decide_eq_true_eq,decide_eq_false_iff_not] at hlt
     ·refine qj fun K hK=>qm ?_;obtain⟨_,st,aK,d2,two,s3,rfl,hP2,hH⟩:=zJ (s:=s2) bc (k3.trans p6) (by omega) hH;refine qv aK ?_;refine qm ?_;refine qg ?_;refine qg ?_;refine qm ?_;refine qm ?_;refine qe hK ?_
      rcases hP2 with⟨r1,r2,r3,r4,r5,r6⟩|⟨e1,rfl,rfl⟩
      ·refine⟨d2,two,s3,_,rfl,hH,r1.trans (k1.trans p1),r2.trans (k2.trans p2),r3,r4,?_⟩
       rcases r6 with r6|⟨r6,r7,a2,rfl,r8,r9⟩
       ·exact .inl r6
       ·refine .inr ⟨r6,?_⟩
        cases two with
        |false=>exact .inl rfl
        |true=>exact .inr ⟨a2,rfl,r9⟩
      ·exact⟨.nul,false,s3,_,rfl,hH,by rw[e1];exact k1.trans p1,by rw[e1];exact k2.trans p2,by rw[e1];exact Nat.le_refl _,by rw[e1];exact k5,.inr ⟨by rw[e1];exact k3.trans p6,.inl rfl⟩⟩
     ·refine ab.skip ?_;exact⟨.nul,false,s2,_,rfl,hH,k1.trans p1,k2.trans p2,Nat.le_refl _,k5,.inr ⟨k3.trans p6,.inl rfl⟩⟩
    ·rintro fr st ⟨d2,two,s3,tmp,hfr,hH,h1,h2,h3,h4,h5⟩;rw[hfr];clear hfr;generalize yD fr=ee;clear fr
     rcases h5 with h5|⟨h5,h6⟩
     ·have bd:(s3.e==0)=false:=by simpa using h5
      refine qq<|qq<|qj fun K hK=>qm ?_;refine qg ?_;refine qp (o:=5) ?_;refine ql hH aB ?_;refine qg ?_;refine qm ?_;refine qs ?_ (hg:=wn bd);refine qs ?_ (hg:=wn bd);refine qs ?_ (hg:=wn bd);refine qs ?_;refine qs ?_;refine qs ?_ (hg:=wn bd);refine qs ?_ (hg:=wn bd);refine qs ?_;refine qs ?_;refine qs ?_;refine qs ?_;refine qs ?_;refine qs ?_;refine qs ?_;refine qs ?_;refine qs ?_;refine qs ?_ (hg:=wn bd);refine qu bd ?_;refine qe hK<|qC ?_;refine ab.skip<|qq<|qq<|qj fun K hK=>qm ?_;refine qg ?_;refine qp (o:=5) ?_;refine ql hH aB ?_;refine qg ?_;refine qe hK<|qD rfl (by simp[h5]) ?_;refine qq<|qj fun K hK=>qm ?_;refine qe hK<|ab.ret ⟨rx,_,_,_,rfl,ak (rfl),?_⟩;exact⟨s3,⟨h1,h2,by omega,h4,[],rfl,by simp,.inl h5⟩,cF.aA ct hH⟩
     ·have bd:(s3.e==0)=true:=by simpa using h5
      cases b with
      |false=>
       have gZ:(!false)=true:=rfl;refine qq<|qq<|qj fun K hK=>qm ?_;refine qg ?_;refine qp (o:=5) ?_;refine ql hH aB ?_;refine qg ?_;refine qm ?_;refine qm ?_ (hg:=wi bd);refine qg ?_ (hg:=wi bd);refine qm ?_ (hg:=wi bd);refine qs ?_ (hg:=wn gZ);refine qs ?_ (hg:=wn gZ);refine aa.eJ (aD rfl rfl rfl bd) rfl gZ (ah rfl _) ?_;refine qm ?_ (hg:=wi bd);refine qs ?_;refine qs ?_;refine qs ?_;refine qs ?_;refine qs ?_;refine qs ?_;refine qs ?_;refine qs ?_;refine qs ?_;refine qg ?_ (hg:=wi bd);refine qt bd ?_;refine qe hK<|qB ?_;refine qj fun K hK=>qm ?_;refine qm ?_;obtain⟨_,st,aK,rfl,hH⟩:=dc (s:=s3) s.i 4 (by omega) hH;refine qv aK ?_;refine qe hK ?_;obtain⟨w1,w2,w3,w4⟩:=dt (b_:=b_) (s:=s3) (i:=s.i) (e:=4) h5 (by decide);generalize jg b_ s3 s.i 4=s4 at*;refine qq<|qq<|qj fun K hK=>qm ?_;refine qg ?_;refine qp (o:=5) ?_;refine ql hH aB ?_;refine qg ?_;refine qe hK<|qD rfl (by simp[w1]) ?_;refine qq<|qj fun K hK=>qm ?_;refine qe hK<|ab.ret ⟨rx,_,_,_,rfl,ak (rfl),?_⟩;exact⟨s4,⟨w3.trans h1,w4.trans h2,by omega,by omega,[],rfl,by simp,.inl w1⟩,cF.aA ct hH⟩
      |true=>
       have gZ:(!true)=false:=rfl
       cases two with
       |false=>
        have dp:(!false)=true:=rfl;refine qq<|qq<|qj fun K hK=>qm ?_;refine qg ?_;refine qp (o:=5) ?_;refine ql hH aB ?_;refine qg ?_;refine qm ?_;refine qm ?_ (hg:=wi bd);refine qg ?_ (hg:=wi bd);refine qm ?_ (hg:=wi bd);refine qm ?_ (hg:=wi gZ);refine qg ?_ (hg:=wi gZ);refine aa.dA (aD rfl rfl rfl bd) rfl gZ (ah rfl _) ?_;refine qm ?_ (hg:=wi bd);refine qs ?_ (hg:=wn dp);refine qs ?_ (hg:=wn dp);refine qs ?_ (hg:=wn dp);refine qs ?_ (hg:=wn dp);refine qs ?_ (hg:=wn dp);refine qs ?_ (hg:=wn dp);refine qs ?_ (hg:=wn dp);refine qs ?_ (hg:=wn dp);refine qs ?_ (hg:=wn dp);refine aa.eJ (aD rfl rfl rfl bd) rfl dp (ah rfl _) ?_;refine qt bd ?_;refine qe hK<|qB ?_;refine qj fun K hK=>qm ?_;refine qm ?_;obtain⟨_,st,aK,rfl,hH⟩:=dc (s:=s3) s.i 4 (by omega) hH;refine qv aK ?_;refine qe hK ?_;obtain⟨w1,w2,w3,w4⟩:=dt (b_:=b_) (s:=s3) (i:=s.i) (e:=4) h5 (by decide);generalize jg b_ s3 s.i 4=s4 at*;refine qq<|qq<|qj fun K hK=>qm ?_;refine qg ?_;refine qp (o:=5) ?_;refine ql hH aB ?_;refine qg ?_;refine qe hK<|qD rfl (by simp[w1]) ?_;refine qq<|qj fun K hK=>qm ?_;refine qe hK<|ab.ret ⟨rx,_,_,_,rfl,ak (rfl),?_⟩;exact⟨s4,⟨w3.trans h1,w4.trans h2,by omega,by omega,[],rfl,by simp,.inl w1⟩,cF.aA ct hH⟩
       |true=>
        have dp:(!true)=false:=rfl
        obtain⟨a2,rfl,h7⟩:∃a2:List Rg,d2=bJ a2∧a2≠[]:=by
         rcases h6 with h6|h6
         ·cases h6
         ·exact h6
        obtain⟨q2,ZZ,rfl⟩:∃q a',a2=q::a':=List.exists_cons_of_ne_nil h7;have Wb:=(jB (q::a')).arg N S2;have DC:=(jB (q2::ZZ)).arg N S2;have UX:((q::a').map ax)[0]?=some (ax q):=rfl;have gJ:((q2::ZZ).map ax)[0]?=some (ax q2):=rfl;refine qq<|qq<|qj fun K hK=>qm ?_;refine qg ?_;refine qp (o:=5) ?_;refine ql hH aB ?_;refine qg ?_;refine qm ?_;refine qm ?_ (hg:=wi bd);refine qg ?_ (hg:=wi bd);refine qm ?_ (hg:=wi bd);refine qm ?_ (hg:=wi gZ);refine qg ?_ (hg:=wi gZ);refine aa.dA (aD rfl rfl rfl bd) rfl gZ (ah rfl _) ?_;refine qm ?_ (hg:=wi bd);refine qm ?_ (hg:=wi dp);refine qr (fun p60 aax=>?_) (hg:=wi dp);refine qf (fo:=0) (fun p61 aaw=>?_) (hg:=wi dp);refine qR ?_ (hg:=wi dp);refine qm ?_ (hg:=wi dp);refine qr (fun Y1 SV=>?_) (hg:=wi dp);refine qf (fo:=0) (fun p65 Wm=>?_) (hg:=wi dp);refine qR ?_ (hg:=wi dp);refine qg ?_ (hg:=wi dp);refine aa.dA (aD rfl rfl rfl bd) rfl dp (ah rfl _) ?_;refine qt bd ?_;refine qe hK ?_;refine ab.cond (by rfl) (fun hgt=>?_) (fun hgt=>?_)<;>try simp only[decide_eq_true_eq,decide_eq_false_iff_not] at hgt
        ·refine qj fun K hK=>qm ?_;refine qm ?_;obtain⟨_,st,aK,rfl,hH⟩:=dc (s:=s3) s.i 4 (by omega) hH;refine qv aK ?_;refine qe hK ?_;obtain⟨w1,w2,w3,w4⟩:=dt (b_:=b_) (s:=s3) (i:=s.i) (e:=4) h5 (by decide);generalize jg b_ s3 s.i 4=s4 at*;refine qq<|qq<|qj fun K hK=>qm ?_;refine qg ?_;refine qp (o:=5) ?_;refine ql hH aB ?_;refine qg ?_;refine qe hK<|qD rfl (by simp[w1]) ?_;refine qq<|qj fun K hK=>qm ?_;refine qe hK<|ab.ret ⟨rx,_,_,_,rfl,ak (rfl),?_⟩;exact⟨s4,⟨w3.trans h1,w4.trans h2,by omega,by omega,[],rfl,by simp,.inl w1⟩,cF.aA ct hH⟩
        ·refine ab.skip<|qq<|qq<|qj fun K hK=>qm ?_;refine qg ?_;refine qp (o:=5) ?_;refine ql hH aB ?_;refine qg ?_;refine qe hK<|qE rfl (by simp[h5]) ?_;refine ab.skip<|qq<|qj fun K hK=>qm ?_;refine qr fun p79 Wl=>?_;refine qf (fo:=0) fun p80 aao=>?_;refine qR ?_;refine qm ?_;refine qr fun p83 aam=>?_;refine qf (fo:=0) fun p84 Wi=>?_;refine qR ?_;refine aa.gd (qs:=[(0,_),(1,_)]) rfl rfl rfl rfl ⟨rfl,(ev rfl),(by rfl),rfl,(ev rfl),(by rfl),trivial⟩ (by intro q hq;simp only[List.mem_cons,List.not_mem_nil,or_false] at hq;rcases hq with rfl|rfl<;>exact⟨rfl,by exact Nat.le_of_ble_eq_true rfl⟩) (by show List.foldl _ [_,_] _=_;dsimp only[List.foldl_cons,List.foldl_nil,u2,u1]<;>rfl) (ah rfl _) ?_;refine qh (s:=2) (vs:=[_]) hH fun k87 st aaM hH=>?_;dsimp only[u2,u1,u3,u4,setMany,u5,u6,D.cells,Nat.reduceAdd,a8,aQ,ay,ax] at hH;refine qm ?_;refine qe hK ?_;have hH:Has N S2 st (.aP (.win k87 0 0 1 2) 2 (([(q.1,q2.1)]:List Rg).map ax)::.box k (.mem 0 false (a8 gs bS s3))::.aP bS 1 (b_.map ay)::H):=hH;have hfz:=oL hH aB (L:=s0.bs.length) (n:=16) (fun k hk=>by simp only[D.ref] at hk;rw[←ct];omega) (by decide);refine ab.ret ⟨rx,_,_,_,rfl,ak hfz,⟨s3,⟨h1,h2,by omega,h4,[(q.1,q2.1)],rfl,by simp,.inr ⟨h5,by omega⟩⟩,cF.aA ct (hH.drop 1)⟩⟩
 ·have e2:s1.e=0:=by rw[e1];exact he
  have e3:s1.i=s.i∧s1.o=s.o∧s1.g=s.g:=by rw[e1];exact⟨rfl,rfl,rfl⟩
  clear e1;refine qE rfl (by simp[e2]) ?_;refine ab.skip<|qq<|qq<|qj fun K hK=>qm ?_;refine aa.go (d:=.bool true) (st1:=_) rfl rfl rfl (ah rfl _) ?_;refine qe hK<|qB ?_;refine qq<|qj fun K hK=>qm ?_;refine qm ?_;obtain⟨_,st,aK,rfl,hH⟩:=dc (s:=s1) s.i 4 (by omega) hH;refine qv aK ?_;refine qe hK ?_;obtain⟨w1,w2,w3,w4⟩:=dt (b_:=b_) (s:=s1) (i:=s.i) (e:=4) e2 (by decide);refine qq<|qj fun K hK=>qm ?_;refine qe hK<|ab.ret ⟨rx,_,_,_,rfl,ak (rfl),?_⟩;exact⟨_,⟨by omega,by omega,by omega,by omega,[],rfl,by simp,.inl w1⟩,cF.aA ct hH⟩
end Go.Proofs.YtbdnabmmlbiomaaGreat
namespace Go.Proofs.YtbdnabmmlbiomaaGreat
open Go.V Go
def yC (fr:Go.V.Fr) (k:Nat):Go.V.D:=Go.V.nth .bp fr.loc k
def vc (n:dM):Prop:=n.rd=bJ n.rs∧n.rs.length≤1048576∧n.kids≤1048576
def tX (op mn mx:Int) (lz:Bool) (cap kids:Int) (a:List Rg):dM:=⟨op,bJ a,a,mn,mx,lz,cap,kids⟩
def uX (l:List dM):D:=.sl ((l.map bm).map (ki 7))
theorem KL (l:List dM):∀e∈l.map bm,e.length=7:=by
 intro e he;obtain⟨x,_,rfl⟩:=List.mem_map.1 he;rfl
theorem nP {l:List dM} (h:∀n∈l,vc n):∀e∈l.map bm,∀d∈e,cj d=true:=by
 intro e he d hd;obtain⟨n,hn,rfl⟩:=List.mem_map.1 he;have hr:=(h n hn).1;simp only[bm,hr,List.mem_cons,List.not_mem_nil,or_false] at hd
 rcases hd with rfl|rfl|rfl|rfl|rfl|rfl|rfl<;>rfl
theorem sM {l:List dM} (h:∀n∈l,vc n):eE (uX l) 7 (l.map bm):=eE.frozen (KL l) (nP h)
theorem Sf {l:List dM} (h:∀n∈l,vc n) (hl:l.length≤1048576):(⟨uX l,l⟩:Nl).ok:=by
 refine⟨sM h,fun n hn=>?_,hl⟩;obtain⟨h1,h2,h3⟩:=h n hn;exact⟨by rw[h1];exact jB _,h2,by omega⟩
theorem tV {l:List dM} (h:∀n∈l,vc n):(l.map bm).map (·.map oe)=l.map bm:=by
 rw[List.map_map];refine List.map_congr_left fun n hn=>?_;have hr:=(h n hn).1;show(bm n).map oe=bm n;unfold bm;rw[hr];rfl
theorem qz {l:List dM} (h:∀n∈l,vc n):∀e∈l.map bm,∀d∈e,mz d=true:=by
 intro e he d hd;have:=nP h e he d hd
 cases d<;>first|rfl|exact this
theorem i7 {N L j:Nat} {S st:St} {H:List bt} {x:D} {es:List (List D)} {l:List dM} (hH:Has N S st H) (hj:H[j]?=some (.aP x 7 es)) (he:es.map (·.map oe)=l.map bm) (ht:∀e∈es,∀d∈e,mz d=true) (hx:∀k,x.ref=k+1→L≤k) {n:Nat} (hn:3≤n):aY st L false n x=some (uX l):=by
 rw[hH.uG hj hx ht hn,he];rfl
theorem i_ {N L j:Nat} {S st:St} {H:List bt} {x w:D} {op mn mx cap kids:Int} {lz:Bool} {a:List Rg} (hH:Has N S st H) (hj:H[j]?=some (.aP x 7 [[.int .i64 op,w,.int .i64 mn,.int .i64 mx,.bool lz,.int .i64 cap,.int .i64 kids]])) (hw:w=bJ a∨w=.nul∧a=[]) (hx:∀k,x.ref=k+1→L≤k):aY st L false 16 x=some (uX [tX op mn mx lz cap kids a]):=by
 refine i7 hH hj ?_ (fun e he d hd=>?_) hx (by decide)
 ·rcases hw with rfl|⟨rfl,rfl⟩<;>rfl
 ·simp only[List.mem_cons,List.not_mem_nil,or_false] at he;subst he;simp only[List.mem_cons,List.not_mem_nil,or_false] at hd
  rcases hw with rfl|⟨rfl,rfl⟩<;>rcases hd with rfl|rfl|rfl|rfl|rfl|rfl|rfl<;>rfl
theorem Da {op mn mx cap kids:Int} {lz:Bool} {a:List Rg} (h:a.length≤1048576) (hk:kids≤1048576):∀n∈[tX op mn mx lz cap kids a],vc n:=by
 intro n hn;simp only[List.mem_cons,List.not_mem_nil,or_false] at hn;subst hn;exact⟨rfl,h,hk⟩
def uV (gs:List (Nat×Nat)) (s s':fk) (d:D):Prop:=
 s'.o=s.o∧s'.g≤4∧s.i≤s'.i∧s'.i≤gs.length∧∃l:List dM,d=uX l∧(∀n∈l,vc n)∧l.length≤4*(s'.i-s.i)+1
def ju (gs:List (Nat×Nat)) (s s':fk) (d:D) (c:Nat):Prop:=
 s'.o=s.o∧s'.g≤4∧s.i≤s'.i∧s'.i≤gs.length∧∃l:List dM,d=uX l∧(∀n∈l,vc n)∧l.length≤4*(s'.i-s.i)+1∧(s'.e≠0∨s'.e=0∧l.length+c≤4*(s'.i-s.i))
theorem gq {gs:List (Nat×Nat)} {s s':fk} {c:Nat} (h1:s'.o=s.o) (h2:s'.g≤4) (h3:s.i≤s'.i) (h4:s'.i≤gs.length) (h5:s'.e≠0):ju gs s s' (.sl []) c:=
 ⟨h1,h2,h3,h4,[],rfl,fun n hn=>(by cases hn),by simp,.inl h5⟩
theorem Eg {N k:Nat} {S s0:St} {H:List bt} {gs:List (Nat×Nat)} {bS:D} {b_:List Int} {s:fk} (bc:lu gs b_) (he:s.e=0) (hi:s.i<gs.length) (hg:s.g≤4) (hH:Has N S s0 (.box k (.mem 0 false (a8 gs bS s))::.aP bS 1 (b_.map ay)::H)):
  ∃d ai,Ev pv 168 [.ptr k 0 0] s0 d ai∧∃(s':fk),ju gs s s' d 2∧Has N S ai (.box k (.mem 0 false (a8 gs bS s'))::.aP bS 1 (b_.map ay)::H):=by
 have s9:=bc.gl;have iq:=bc.pl;refine Ev.il rfl T7 rfl rfl rfl ?_;dsimp only[u3,u4,List.length,Nat.reduceSub,Nat.reduceAdd,w1,w2];have cF:=hH;have hH:=hH.cI;have ct:(ag .rw s0).bs=s0.bs:=rfl;generalize ag .rw s0=S2 at*;have Ad:Arg N S2 2 (dJ gs) (gs.map aQ):=Arg.pure (fun st=>dF st gs);refine qq<|qj fun K hK=>qm ?_;refine qe hK<|qq<|qj fun K hK=>qm ?_;refine qg ?_;refine qp (o:=2) ?_;refine ql hH aB ?_;refine qm ?_;refine qe hK<|qq<|qj fun K hK=>qm ?_;refine qg ?_;refine qp (o:=2) ?_;refine ql hH aB ?_;refine qA ?_;refine qg ?_;refine qp (o:=2) ?_;refine qT hH aB fun st hH=>?_;dsimp only[u2,u1,u3,u4,setMany,u5,u6,D.cells,Nat.reduceAdd,a8,aQ,ay,ax] at hH;refine qe hK ?_;have hH:Has N S2 st (.box k (.mem 0 false (a8 gs bS {s with i:=s.i+1}))::.aP bS 1 (b_.map ay)::H):=hH;obtain⟨k1,k2,k3,k4,k5⟩:=gS (gs:=gs) (s:={s with i:=s.i+1}) (r:=94);have k5:=k5 (by show s.i+1≤_;omega);simp only at k1 k2 k3 k4;refine qq<|qj fun K hK=>qm ?_;obtain⟨_,st,aK,rfl,hH⟩:=er (s:={s with i:=s.i+1}) (by omega) 94 hH;refine qv aK ?_;refine qm ?_;refine qe hK ?_;generalize c9 gs {s with i:=s.i+1} 94=s1 at*;generalize kZ gs ({s with i:=s.i+1}:fk).i 94=nt at*;refine qq<|qj fun K hK=>qm ?_;refine qe hK<|qq<|qj fun K hK=>qm ?_;refine qe hK ?_
 have hH:Has N S2 st (.box k (.mem 0 false (a8 gs bS s1))::.aP bS 1 (b_.map ay)::.aP .nul 2 (([]:List Rg).map ax)::H):=((hH.d_ 2).front bF|>.front dL|>fun h=>(h.front bF))
 refine qq<|ab.block<|ab.loop (fun mm fr st=>∃(s1:fk) (ld:D) (lr:List Rg) (nn:Bool),fr.clean=⟨7,[.ptr k 0 0,yC fr 1,yC fr 2,.int .i64 (s.i:Nat),.bool nt,ld,.bool nn],[]⟩∧Has N S2 st (.box k (.mem 0 false (a8 gs bS s1))::.aP bS 1 (b_.map ay)::.aP ld 2 (lr.map ax)::H)∧(s1.o=s.o)∧(s1.g=s.g)∧(s.i<s1.i)∧(s1.i≤gs.length)∧(lr.length≤8*s1.i+8)∧(s1.e=0→lr.length≤8*s1.i)∧(gs.length-s1.i+(if s1.e=0 then 1 else 0)≤mm)) (gs.length+1) ?_ ?_
 ·exact⟨s1,.nul,[],true,rfl,hH,k1,k2,by omega,k5,by simp,fun _=>by simp,by split<;>omega⟩
 rintro mm fr st ⟨s1,ld,lr,nn,hfr,hH,h1,h2,h3,h4,h5,h6,yJ⟩;rw[hfr];clear hfr;generalize yC fr=ee;clear fr
 by_cases ma:s1.e=0
 ·rw[if_pos ma] at yJ;have h6:=h6 ma;have bd:(s1.e==0)=true:=by simpa using ma
  refine qq<|qq<|qj fun K hK=>qm ?_;refine qg ?_;refine qp (o:=5) ?_;refine ql hH aB ?_;refine qg ?_;refine qm ?_;refine qm ?_ (hg:=wi bd);obtain⟨_,st,aK,rfl,hH⟩:=oH (s:=s1) (by omega) 93 hH;refine qv aK ?_ (hg:=wi bd);refine qg ?_ (hg:=wi bd);refine qt bd ?_;refine qe hK ?_
  cases hb:kZ gs s1.i 93 with
  |true=>
   have hlt:=qO hb;refine qC ?_;refine ab.exit<|qq<|qq<|qj fun K hK=>qm ?_;refine qg ?_;refine qp (o:=5) ?_;refine ql hH aB ?_;refine qg ?_;refine qe hK<|qE rfl (by simp[ma]) ?_;refine ab.skip<|qq<|qq<|qj fun K hK=>qm ?_;refine qe hK ?_
   cases nn with
   |true=>
    refine qB ?_;refine qq<|qj fun K hK=>qm ?_;refine qm ?_;obtain⟨_,st,aK,rfl,hH⟩:=dc (s:=s1) s.i 4 (by omega) hH;refine qv aK ?_;refine qm ?_;refine qe hK ?_;obtain⟨w1,w2,w3,w4⟩:=dt (b_:=b_) (s:=s1) (i:=s.i) (e:=4) ma (by decide);refine ab.ret ⟨rx,_,_,_,rfl,ak (rfl),?_⟩;exact⟨_,gq (by omega) (by omega) (by omega) (by omega) w1,cF.aA ct (hH.erase 2)⟩
   |false=>
    refine qC ?_;refine ab.skip<|qq<|qj fun K hK=>qm ?_;refine qg ?_;refine qp (o:=2) ?_;refine ql hH aB ?_;refine qA ?_;refine qg ?_;refine qp (o:=2) ?_;refine qT hH aB fun st hH=>?_;dsimp only[u2,u1,u3,u4,setMany,u5,u6,D.cells,Nat.reduceAdd,a8,aQ,ay,ax] at hH;refine qe hK<|qq<|qj fun K hK=>qm ?_;obtain⟨aK,Bo,_⟩:=mD (l:=lr) (hH.rows dL) (by omega);refine qv aK ?_;refine qm ?_;refine qe hK ?_;generalize kU lr=m at*;refine qq<|qq<|qj fun K hK=>qm ?_;refine qe hK ?_
    have gy:∀(st:St) (a:List Rg) (k70:Nat),a.length≤1048576→S2.bs.length≤k70→Has N S2 st (.aP (.win k70 0 0 1 7) 7 [[.int .i64 2,bJ a,.int .i64 0,.int .i64 0,.bool false,.int .i64 0,.int .i64 0]]::.box k (.mem 0 false (a8 gs bS {s1 with i:=s1.i+1}))::.aP bS 1 (b_.map ay)::.aP ld 2 (lr.map ax)::H)→
      ∃d ai,cB .rw false s0 st (.win k70 0 0 1 7)=some (d,ai)∧∃(s':fk),ju gs s s' d 2∧Has N S ai (.box k (.mem 0 false (a8 gs bS s'))::.aP bS 1 (b_.map ay)::H):=by
     intro st a k70 ha hk hH;have hfz:=i_ hH aB (L:=s0.bs.length) (.inl rfl) (fun k hk=>by simp only[D.ref] at hk;rw[←ct];omega);exact⟨_,_,ak hfz,{s1 with i:=s1.i+1},⟨h1,by show s1.g≤4;omega,by show s.i≤s1.i+1;omega,by show s1.i+1≤_;omega,_,rfl,Da ha (by omega),by simp,.inr ⟨ma,by show 1+2≤4*(s1.i+1-s.i);omega⟩⟩,cF.aA ct ((hH.drop 1).erase 2)⟩
    cases nt with
    |true=>
     refine qB ?_;refine qj fun K hK=>qm ?_;obtain⟨_,aK,a,rfl,hla⟩:=C6 (l:=m) (fR _ _) (by omega);refine qv aK ?_;refine qm ?_;refine qe hK<|qq<|qj fun K hK=>qm ?_;refine aa.gd (qs:=[(0,_),(1,_)]) rfl rfl rfl rfl ⟨rfl,(ev rfl),(by rfl),rfl,(ev rfl),(by rfl),trivial⟩ (by intro q hq;simp only[List.mem_cons,List.not_mem_nil,or_false] at hq;rcases hq with rfl|rfl<;>exact⟨rfl,by exact Nat.le_of_ble_eq_true rfl⟩) (by show List.foldl _ [_,_,_,_,_,_,_] _=_;dsimp only[List.foldl_cons,List.foldl_nil,u2,u1]<;>rfl) (ah rfl _) ?_;refine qh (s:=7) (vs:=[_]) hH fun k70 st Qs hH=>?_;refine qm ?_;refine qe hK ?_;obtain⟨d',ai,uA,gY⟩:=gy _ a k70 (by omega) Qs hH;refine ab.ret ⟨rx,_,d',ai,rfl,uA,gY⟩
    |false=>
     refine qC ?_;refine ab.skip<|qq<|qj fun K hK=>qm ?_;refine aa.gd (qs:=[(0,_),(1,_)]) rfl rfl rfl rfl ⟨rfl,(ev rfl),(by rfl),rfl,(ev rfl),(by rfl),trivial⟩ (by intro q hq;simp only[List.mem_cons,List.not_mem_nil,or_false] at hq;rcases hq with rfl|rfl<;>exact⟨rfl,by exact Nat.le_of_ble_eq_true rfl⟩) (by show List.foldl _ [_,_,_,_,_,_,_] _=_;dsimp only[List.foldl_cons,List.foldl_nil,u2,u1]<;>rfl) (ah rfl _) ?_;refine qh (s:=7) (vs:=[_]) hH fun k70 st Qs hH=>?_;refine qm ?_;refine qe hK ?_;obtain⟨d',ai,uA,gY⟩:=gy _ m k70 (by omega) Qs hH;refine ab.ret ⟨rx,_,d',ai,rfl,uA,gY⟩
  |false=>
   refine qB ?_;refine ab.skip<|ab.block<|qq<|qq<|qj fun K hK=>qm ?_;refine qg ?_;refine qp (o:=2) ?_;refine ql hH aB ?_;refine qm ?_;refine qg ?_;refine qp (o:=0) ?_;refine ql hH aB ?_;refine qn ?_;simp only[List.length_map];refine qg ?_;refine qe hK ?_;refine ab.cond (by rfl) (fun hge=>?_) (fun hge=>?_)<;>try simp only[decide_eq_true_eq,decide_eq_false_iff_not] at hge
   ·refine qq<|qj fun K hK=>qm ?_;refine qm ?_;obtain⟨_,st,aK,rfl,hH⟩:=dc (s:=s1) s.i 4 (by omega) hH;refine qv aK ?_;refine qm ?_;refine qe hK ?_;obtain⟨w1,w2,w3,w4⟩:=dt (b_:=b_) (s:=s1) (i:=s.i) (e:=4) ma (by decide);refine ab.ret ⟨rx,_,_,_,rfl,ak (rfl),?_⟩;exact⟨_,gq (by omega) (by omega) (by omega) (by omega) w1,cF.aA ct (hH.erase 2)⟩
   ·refine ab.skip<|qq<|qj fun K hK=>qm ?_;refine qm ?_;obtain⟨_,st,aK,s2,⟨i1,i2,i3,i4,a,rfl,i5,i6⟩,hH⟩:=KZ (s:=s1) bc ma (by omega) hH;have Wb:=(jB a).arg N S2;have DA:=x_ a;refine qv aK ?_;refine aa.bO (s:=2) hH rfl (ev rfl) (ev rfl) (by exact dL) (by exact Arg.rows (by assumption) hH) rfl rfl rfl rfl rfl rfl rfl ⟨(Nat.le_of_ble_eq_true rfl),(Nat.le_of_ble_eq_true rfl)⟩ (fun _=>(ah rfl _)) (by simp only[List.length_map]<;>omega) (by exact .inr (by assumption)) (fun x46 st hH=>?_);dsimp only[u2,u1,u3,u4,setMany,u5,u6,D.cells,Nat.reduceAdd,a8,aQ,ay,ax] at hH;refine qm ?_;refine qe hK<|qj fun K hK=>qm ?_;refine qe hK ?_;exact⟨mm-1,by omega,⟨s2,x46,lr++a,false,rfl,(by rw[List.map_append];exact hH),i1.trans h1,i2.trans h2,by omega,i4,by rw[List.length_append];omega,fun e=>by rw[List.length_append];omega,by split<;>omega⟩⟩
 ·have bd:(s1.e==0)=false:=by simpa using ma
  refine qq<|qq<|qj fun K hK=>qm ?_;refine qg ?_;refine qp (o:=5) ?_;refine ql hH aB ?_;refine qg ?_;refine qm ?_;refine qs ?_ (hg:=wn bd);refine qs ?_ (hg:=wn bd);refine qs ?_ (hg:=wn bd);refine qu bd ?_;refine qe hK<|qC ?_;refine ab.exit<|qq<|qq<|qj fun K hK=>qm ?_;refine qg ?_;refine qp (o:=5) ?_;refine ql hH aB ?_;refine qg ?_;refine qe hK<|qD rfl (by simp[ma]) ?_;refine qq<|qj fun K hK=>qm ?_;refine qe hK<|ab.ret ⟨rx,_,_,_,rfl,ak (rfl),?_⟩;exact⟨_,gq h1 (by omega) (by omega) h4 ma,cF.aA ct (hH.erase 2)⟩
end Go.Proofs.YtbdnabmmlbiomaaGreat
namespace Go.Proofs.YtbdnabmmlbiomaaGreat
open Go.V Go
def kb (fr:Go.V.Fr) (k:Nat):Go.V.D:=Go.V.nth .bp fr.loc k
def rR (gs:List (Nat×Nat)) (s s':fk):Prop:=s'.o=s.o∧s'.g=s.g∧s.i<s'.i∧s'.i≤gs.length
theorem CY {N k:Nat} {S s0:St} {H:List bt} {gs:List (Nat×Nat)} {bS:D} {b_:List Int} {s:fk} (bc:lu gs b_) (he:s.e=0) (hi:s.i<gs.length) (hH:Has N S s0 (.box k (.mem 0 false (a8 gs bS s))::.aP bS 1 (b_.map ay)::H)):
  ∃d ai,Ev pv 152 [.ptr k 0 0] s0 d ai∧∃(n1 n2:Int) (s':fk),d=.tup [.int .i64 n1,.int .i64 n2]∧rR gs s s'∧Has N S ai (.box k (.mem 0 false (a8 gs bS s'))::.aP bS 1 (b_.map ay)::H):=by
 have s9:=bc.gl;have iq:=bc.pl;have hne:gs≠[]:=by rintro rfl;simp at hi
 refine Ev.il rfl Ua rfl rfl rfl ?_;dsimp only[u3,u4,List.length,Nat.reduceSub,Nat.reduceAdd,w1,w2];have cF:=hH;have hH:=hH.cI;have ct:(ag .rw s0).bs=s0.bs:=rfl;generalize ag .rw s0=S2 at*;refine qq<|qj fun K hK=>qm ?_;refine qm ?_;refine qe hK<|qq<|qj fun K hK=>qm ?_;refine qg ?_;refine qp (o:=2) ?_;refine ql hH aB ?_;refine qm ?_;refine qe hK<|qq<|qj fun K hK=>qm ?_;refine qg ?_;refine qp (o:=2) ?_;refine ql hH aB ?_;refine qA ?_;refine qg ?_;refine qp (o:=2) ?_;refine qT hH aB fun st hH=>?_;dsimp only[u2,u1,u3,u4,setMany,u5,u6,D.cells,Nat.reduceAdd,a8,aQ,ay,ax] at hH;refine qe hK ?_;have hH:Has N S2 st (.box k (.mem 0 false (a8 gs bS {s with i:=s.i+1}))::.aP bS 1 (b_.map ay)::H):=hH
 have DS:∀(st:St) (s3:fk) (e:Int),e≠0→s3.e=0→rR gs s s3→Has N S2 st (.box k (.mem 0 false (a8 gs bS s3))::.aP bS 1 (b_.map ay)::H)→∃d ai,Ev pv 100 [.ptr k 0 0,.int .i64 (s.i:Nat),.int .i64 e] st d ai∧d=.sl []∧∃s4,rR gs s s4∧Has N S2 ai (.box k (.mem 0 false (a8 gs bS s4))::.aP bS 1 (b_.map ay)::H):=by
  intro st s3 e h0 h1 h2 hH;obtain⟨d,ai,aK,h4,hH⟩:=dc (s:=s3) s.i e (by omega) hH;obtain⟨w1,w2,w3,w4⟩:=dt (b_:=b_) (s:=s3) (i:=s.i) (e:=e) h1 h0;exact⟨d,ai,aK,h4,_,⟨w3.trans h2.1,w4.trans h2.2.1,by rw[w2];exact h2.2.2.1,by rw[w2];exact h2.2.2.2⟩,hH⟩
 refine qq<|qj fun K hK=>qm ?_;obtain⟨_,st,aK,m,ok,mm,rfl,Bo,hmi,hH⟩:=tj (s:={s with i:=s.i+1}) s9 (by show s.i+1≤_;omega) hne hH;refine qv aK ?_;refine qm ?_;refine qg ?_;refine qg ?_;refine qm ?_;refine qm ?_;refine qe hK ?_
 obtain⟨s1,uq⟩:∃s1:fk,({s with i:=s.i+1+mm}:fk)=s1:=⟨_,rfl⟩
 have P6:s1.e=0:=by rw[←uq];exact he
 have Dw:rR gs s s1:=by rw[←uq];exact⟨rfl,rfl,by show s.i<s.i+1+mm;omega,hmi⟩
 have hH:Has N S2 st (.box k (.mem 0 false (a8 gs bS s1))::.aP bS 1 (b_.map ay)::H):=by rw[←uq];exact hH
 clear uq;refine qq<|qj fun K hK=>qm ?_;refine qm ?_;refine qm ?_;refine qe hK<|qq<|qq<|ab.j8 (fun fr st=>∃(n:List UInt8) (en:Bool) (s3:fk) (tmp:List (Nat×D)),fr=⟨14,[.ptr k 0 0,kb fr 1,kb fr 2,kb fr 3,.int .i64 (s.i:Nat),.str m,.bool ok,.str n,.bool en,kb fr 9,kb fr 10,kb fr 11,kb fr 12,kb fr 13],tmp⟩∧Has N S2 st (.box k (.mem 0 false (a8 gs bS s3))::.aP bS 1 (b_.map ay)::H)∧(s3.e=0)∧(rR gs s s3)∧(n.length≤120)) ?_ ?_
 ·cases ok with
  |false=>
   have cW:false=false:=rfl;refine qj fun K hK=>qm ?_;refine qm ?_;refine qs ?_ (hg:=wn cW);refine qs ?_ (hg:=wn cW);refine qu cW ?_;refine qe hK<|qC ?_;refine ab.skip ?_;exact⟨m,false,s1,_,rfl,hH,P6,Dw,Bo⟩
  |true=>
   have cW:true=true:=rfl;obtain⟨k1,k2,k3,k4,k5⟩:=gS (gs:=gs) (s:=s1) (r:=44);have k5:=k5 Dw.2.2.2;refine qj fun K hK=>qm ?_;refine qm ?_;refine qm ?_ (hg:=wi cW);obtain⟨_,st,aK,rfl,hH⟩:=er (s:=s1) (by omega) 44 hH;refine qv aK ?_ (hg:=wi cW);refine qt cW ?_;refine qe hK ?_;generalize c9 gs s1 44=s2 at*
   have K_:rR gs s s2:=⟨k1.trans Dw.1,k2.trans Dw.2.1,by have:=Dw.2.2.1;omega,k5⟩
   cases hb:kZ gs s1.i 44 with
   |false=>
    refine qC ?_;refine ab.skip ?_;exact⟨m,false,s2,_,rfl,hH,k3.trans P6,K_,Bo⟩
   |true=>
    refine qB ?_;refine qq<|qj fun K hK=>qm ?_;refine qe hK<|qq<|qj fun K hK=>qm ?_;obtain⟨_,st,aK,n,there,Y_,rfl,U1,hni,hH⟩:=tj (s:=s2) s9 k5 hne hH;refine qv aK ?_;refine qm ?_;refine qg ?_;refine qg ?_;refine qm ?_;refine qm ?_;refine qe hK<|qj fun K hK=>qm ?_;refine qg ?_;refine qm ?_;refine qe hK ?_;exact⟨n,!there,{s2 with i:=s2.i+Y_},_,rfl,hH,k3.trans P6,⟨K_.1,K_.2.1,by have:=K_.2.2.1;show s.i<s2.i+Y_;omega,hni⟩,U1⟩
 ·rintro fr st ⟨n,en,s3,tmp,hfr,hH,h1,h2,h3⟩;rw[hfr];clear hfr;generalize kb fr=ee;clear fr;obtain⟨k1,k2,k3,k4,k5⟩:=gS (gs:=gs) (s:=s3) (r:=125);have k5:=k5 h2.2.2.2
  have Bl:rR gs s (c9 gs s3 125):=⟨k1.trans h2.1,k2.trans h2.2.1,by have:=h2.2.2.1;omega,k5⟩
  have K9:(c9 gs s3 125).e=0:=k3.trans h1
  cases ok with
  |false=>
   have bj:(!false)=true:=rfl;refine qq<|qq<|qj fun K hK=>qm ?_;refine qg ?_;refine qm ?_;refine qs ?_ (hg:=wn bj);refine qs ?_ (hg:=wn bj);refine qs ?_ (hg:=wn bj);refine qt bj ?_;refine qm ?_;refine qs ?_;refine qs ?_;refine qs ?_;refine qs ?_;refine qs ?_;refine qs ?_;refine qs ?_;refine qg ?_;refine qe hK<|qB ?_;refine qq<|qj fun K hK=>qm ?_;refine qm ?_;obtain⟨_,st,aK,rfl,s4,Ru,hH⟩:=DS _ s3 4 (by decide) h1 h2 hH;refine qv aK ?_;refine qe hK<|qq<|qj fun K hK=>qm ?_;refine qm ?_;refine qe hK<|ab.ret ⟨rx,_,_,_,rfl,ak (rfl),?_⟩;exact⟨_,_,s4,rfl,Ru,cF.aA ct hH⟩
  |true=>
   have bj:(!true)=false:=rfl
   cases fX:(!kZ gs s3.i 125) with
   |true=>
    refine qq<|qq<|qj fun K hK=>qm ?_;refine qg ?_;refine qm ?_;refine qm ?_ (hg:=wi bj);obtain⟨_,st,aK,rfl,hH⟩:=er (s:=s3) (by omega) 125 hH;refine qv aK ?_ (hg:=wi bj);refine qg ?_ (hg:=wi bj);refine qu bj ?_;refine qm ?_;refine qs ?_ (hg:=wn fX);refine qs ?_ (hg:=wn fX);refine qs ?_ (hg:=wn fX);refine qs ?_;refine qs ?_;refine qs ?_;refine qs ?_ (hg:=wn fX);refine qt fX ?_;refine qe hK ?_;generalize c9 gs s3 125=s4 at*;refine qB ?_;refine qq<|qj fun K hK=>qm ?_;refine qm ?_;obtain⟨_,st,aK,rfl,s5,Lk,hH⟩:=DS _ s4 4 (by decide) K9 Bl hH;refine qv aK ?_;refine qe hK<|qq<|qj fun K hK=>qm ?_;refine qm ?_;refine qe hK<|ab.ret ⟨rx,_,_,_,rfl,ak (rfl),?_⟩;exact⟨_,_,s5,rfl,Lk,cF.aA ct hH⟩
   |false=>
    have gY:True:=trivial
    cases en with
    |true=>
     have bh:(!true)=false:=rfl;refine qq<|qq<|qj fun K hK=>qm ?_;refine qg ?_;refine qm ?_;refine qm ?_ (hg:=wi bj);obtain⟨_,st,aK,rfl,hH⟩:=er (s:=s3) (by omega) 125 hH;refine qv aK ?_ (hg:=wi bj);refine qg ?_ (hg:=wi bj);refine qu bj ?_;refine qm ?_;refine qm ?_ (hg:=wi fX);refine qg ?_ (hg:=wi fX);refine qm ?_ (hg:=wi fX);refine qs ?_ (hg:=wn bh);refine qs ?_ (hg:=wn bh);refine qs ?_ (hg:=wn bh);refine aa.dA (aD rfl rfl rfl fX) rfl bh (ah rfl _) ?_;refine qu fX ?_;refine qe hK ?_;generalize c9 gs s3 125=s4 at*;refine qC ?_;refine ab.skip ?_;obtain⟨_,K5,a1,f1,rfl⟩:=mw (s0:=st) m (by omega);refine qq<|qj fun K hK=>qm ?_;refine qv (K5) ?_;refine qm ?_;refine qg ?_;refine qg ?_;refine qm ?_;refine qm ?_;refine qe hK<|qq<|qq<|qj fun K hK=>qm ?_;refine qe hK<|qB ?_;refine qj fun K hK=>qm ?_;refine qe hK ?_;obtain⟨_,Dq,a2,f2,rfl⟩:=mw (s0:=st) [] (by simp);refine qq<|qj fun K hK=>qm ?_;refine qv (Dq) ?_;refine qm ?_;refine qg ?_;refine qg ?_;refine qm ?_;refine qm ?_;refine qe hK<|qq<|qq<|ab.kB 78 (.bool (!f1||!f2)) [] ?_ (fun ff tmp hU=>?_)
     ·refine qm ?_;refine qg ?_;refine qm ?_;refine aa.two 75 rfl (fun bj=>?_) (fun bj=>?_)
      ·refine qs ?_ (hg:=wn bj);refine qs ?_ (hg:=wn bj);refine qt bj ?_;refine aa.nil (c_ ?_ ?_)
       ·dsimp only[aR,List.foldl,nth,u2,u1]
        all_goals(first|rfl|simp)
       ·dsimp only[Fr.aj,Fr.put,Fr.clean,Fr.ev,Fr.get,nth,V.look,u1,u2,v1,v2,v3,v4,v5,v6,v7,List.length,u3,u4,Nat.reduceSub,Nat.reduceAdd,List.map]
        all_goals(simp[bj];done)
      ·refine qm ?_ (hg:=wi bj);refine qg ?_ (hg:=wi bj);refine qu bj ?_;refine aa.nil (c_ ?_ ?_)
       ·dsimp only[aR,List.foldl,nth,u2,u1]
        all_goals(first|rfl|simp)
       ·dsimp only[Fr.aj,Fr.put,Fr.clean,Fr.ev,Fr.get,nth,V.look,u1,u2,v1,v2,v3,v4,v5,v6,v7,List.length,u3,u4,Nat.reduceSub,Nat.reduceAdd,List.map]
        all_goals(simp[bj];done)
     dsimp only[aR,List.foldl,nth,u2,u1];refine qc (fun Br=>?_) (fun Br=>?_)<;>try simp only[cs] at Br
     ·refine qq<|qj fun K hK=>qm ?_;refine qm ?_;obtain⟨_,st,aK,rfl,s5,Lk,hH⟩:=DS _ s4 2 (by decide) K9 Bl hH;refine qv aK ?_;refine qe hK<|qq<|qj fun K hK=>qm ?_;refine qm ?_;refine qe hK<|ab.ret ⟨rx,_,_,_,rfl,ak (rfl),?_⟩;exact⟨_,_,s5,rfl,Lk,cF.aA ct hH⟩
     ·refine ab.skip<|qq<|qq<|qj fun K hK=>qm ?_;refine qe hK<|qB ?_;refine qj fun K hK=>qm ?_;refine qe hK<|qq<|qj fun K hK=>qm ?_;refine qm ?_;refine qm ?_;refine qm ?_;refine qe hK<|ab.ret ⟨rx,_,_,_,rfl,ak (rfl),?_⟩;exact⟨_,_,s4,rfl,Bl,cF.aA ct hH⟩
    |false=>
     have bh:(!false)=true:=rfl;refine qq<|qq<|qj fun K hK=>qm ?_;refine qg ?_;refine qm ?_;refine qm ?_ (hg:=wi bj);obtain⟨_,st,aK,rfl,hH⟩:=er (s:=s3) (by omega) 125 hH;refine qv aK ?_ (hg:=wi bj);refine qg ?_ (hg:=wi bj);refine qu bj ?_;refine qm ?_;refine qm ?_ (hg:=wi fX);refine qg ?_ (hg:=wi fX);refine qm ?_ (hg:=wi fX);refine qm ?_ (hg:=wi bh);refine qm ?_ (hg:=wi bh);obtain⟨_,hle,v,rfl⟩:=KV (s0:=st) n m;refine aa.iH (aD rfl rfl rfl bh) rfl hle (ah rfl _) ?_;refine aa.eJ (aD rfl rfl rfl fX) rfl bh (ah rfl _) ?_;refine qu fX ?_;refine qe hK ?_;generalize c9 gs s3 125=s4 at*
     cases v with
     |true=>
      refine qB ?_;refine qq<|qj fun K hK=>qm ?_;refine qm ?_;obtain⟨_,st,aK,rfl,s5,Lk,hH⟩:=DS _ s4 4 (by decide) K9 Bl hH;refine qv aK ?_;refine qe hK<|qq<|qj fun K hK=>qm ?_;refine qm ?_;refine qe hK<|ab.ret ⟨rx,_,_,_,rfl,ak (rfl),?_⟩;exact⟨_,_,s5,rfl,Lk,cF.aA ct hH⟩
     |false=>
      refine qC ?_;refine ab.skip ?_;obtain⟨_,K5,a1,f1,rfl⟩:=mw (s0:=st) m (by omega);refine qq<|qj fun K hK=>qm ?_;refine qv (K5) ?_;refine qm ?_;refine qg ?_;refine qg ?_;refine qm ?_;refine qm ?_;refine qe hK<|qq<|qq<|qj fun K hK=>qm ?_;refine qe hK<|qC ?_;refine ab.skip ?_;obtain⟨_,Dq,a2,f2,rfl⟩:=mw (s0:=st) n (by omega);refine qq<|qj fun K hK=>qm ?_;refine qv (Dq) ?_;refine qm ?_;refine qg ?_;refine qg ?_;refine qm ?_;refine qm ?_;refine qe hK<|qq<|qq<|ab.kB 78 (.bool (!f1||!f2)) [] ?_ (fun ff tmp hU=>?_)
      ·refine qm ?_;refine qg ?_;refine qm ?_;refine aa.two 75 rfl (fun bj=>?_) (fun bj=>?_)
       ·refine qs ?_ (hg:=wn bj);refine qs ?_ (hg:=wn bj);refine qt bj ?_;refine aa.nil (c_ ?_ ?_)
        ·dsimp only[aR,List.foldl,nth,u2,u1]
         all_goals(first|rfl|simp)
        ·dsimp only[Fr.aj,Fr.put,Fr.clean,Fr.ev,Fr.get,nth,V.look,u1,u2,v1,v2,v3,v4,v5,v6,v7,List.length,u3,u4,Nat.reduceSub,Nat.reduceAdd,List.map]
         all_goals(simp[bj];done)
       ·refine qm ?_ (hg:=wi bj);refine qg ?_ (hg:=wi bj);refine qu bj ?_;refine aa.nil (c_ ?_ ?_)
        ·dsimp only[aR,List.foldl,nth,u2,u1]
         all_goals(first|rfl|simp)
        ·dsimp only[Fr.aj,Fr.put,Fr.clean,Fr.ev,Fr.get,nth,V.look,u1,u2,v1,v2,v3,v4,v5,v6,v7,List.length,u3,u4,Nat.reduceSub,Nat.reduceAdd,List.map]
         all_goals(simp[bj];done)
      dsimp only[aR,List.foldl,nth,u2,u1];refine qc (fun Br=>?_) (fun Br=>?_)<;>try simp only[cs] at Br
      ·refine qq<|qj fun K hK=>qm ?_;refine qm ?_;obtain⟨_,st,aK,rfl,s5,Lk,hH⟩:=DS _ s4 2 (by decide) K9 Bl hH;refine qv aK ?_;refine qe hK<|qq<|qj fun K hK=>qm ?_;refine qm ?_;refine qe hK<|ab.ret ⟨rx,_,_,_,rfl,ak (rfl),?_⟩;exact⟨_,_,s5,rfl,Lk,cF.aA ct hH⟩
      ·refine ab.skip<|qq<|qq<|qj fun K hK=>qm ?_;refine qe hK<|qC ?_;refine ab.skip<|qq<|qj fun K hK=>qm ?_;refine qm ?_;refine qm ?_;refine qm ?_;refine qe hK<|ab.ret ⟨rx,_,_,_,rfl,ak (rfl),?_⟩;exact⟨_,_,s4,rfl,Bl,cF.aA ct hH⟩
end Go.Proofs.YtbdnabmmlbiomaaGreat
namespace Go.Proofs.YtbdnabmmlbiomaaGreat
open Go.V Go
def cS (fr:Go.V.Fr) (k:Nat):Go.V.D:=Go.V.nth .bp fr.loc k
theorem pR:∀{l:List D},(∀d∈l,cj d=true)→refs l=0
 |[],_=>rfl
 |d::l,h=>by
  have h1:=pR (l:=l) fun d hd=>h d (List.mem_cons_of_mem _ hd);have h2:=h d (List.mem_cons_self ..)
  have h3:d.ref=0:=by cases d<;>first|rfl|(simp[cj] at h2)
  simp only[refs,h1,h3,Nat.max_self]
theorem sL {l:List dM} (h:∀n∈l,vc n):refs (l.map bm).flatten=0:=
 pR fun d hd=>by
  obtain⟨e,he,xC⟩:=List.mem_flatten.1 hd;exact nP h e he d xC
def eu (l:List dM):List D:=[uX l]
theorem vR {l:List (List dM)} {i:Nat} {q:List dM} (h:l[i]?=some q):(l.map eu)[i]?=some (eu q):=by rw[List.getElem?_map,h];rfl
def fK:List (List dM)→Nat
 |[]=>0
 |l::ls=>l.length+fK ls
theorem dI:∀a b:List (List dM),fK (a++b)=fK a+fK b
 |[],b=>by simp[fK]
 |l::a,b=>by rw[List.cons_append,fK,fK,dI a b];omega
theorem sY {s0:St} {x:D} {parts:List (List dM)} (op:Int) (hx:V.Rows s0 1 x (parts.map eu)) (hv:∀l∈parts,∀n∈l,vc n) (hp:parts.length≤100000) (hs:fK parts≤100000):∃d,Ev pv 131 [.int .i64 op,x] s0 d s0∧∃l,d=uX l∧(∀n∈l,vc n)∧(parts.length=1→l.length≤fK parts)∧l.length≤fK parts+1:=by
 refine Ev.Dc rfl Un rfl rfl rfl ?_;dsimp only[u3,u4,List.length,Nat.reduceSub,Nat.reduceAdd,w1,w2];obtain⟨bT,hF,hH⟩:=ri s0;generalize ag .ro s0=S at*;have hx:=Arg.of hx bT;refine qq<|qj fun K hK=>qm ?_;refine qe hK<|qq<|qq<|qj fun K hK=>qm ?_;refine qn ?_;simp only[List.length_map];refine qe hK<|ab.block<|qq<|qj fun K hK=>qg ?_;refine qm ?_;refine qe hK ?_
 by_cases h0:parts.length=0
 ·refine qD rfl (by simp[h0]) ?_;refine qq<|qj fun K hK=>?_;refine aa.go (d:=.agg [.int .i64 1,.nul,.int .i64 0,.int .i64 0,.bool false,.int .i64 0,.int .i64 0]) (st1:=_) rfl rfl rfl (by dsimp only[Fr.put,u1,u2]<;>rfl) ?_;refine qh (s:=7) (vs:=[_]) hH fun k13 st To hH=>?_;refine qm ?_;refine qe hK ?_;have hfz:=i_ (L:=s0.bs.length) (a:=[]) hH aB (.inr ⟨rfl,rfl⟩) (fun k hk=>by have kg:k13+1=k+1:=hk;rw[←bT];omega);refine ab.ret ⟨rx,_,_,rfl,rl bT hH (hfz),?_⟩;exact⟨_,rfl,Da (by simp) (by omega),by omega,by simp⟩
 have TH:(((parts.length:Nat):Int)==0)=false:=by rw[beq_eq_false_iff_ne];omega
 refine qE rfl (by rw[TH]) ?_;refine qq<|qj fun K hK=>qg ?_;refine qm ?_;refine qe hK ?_
 by_cases h1:parts.length=1
 ·obtain⟨q,hq⟩:∃q,parts[0]?=some q:=⟨parts[0]'(by omega),List.getElem?_eq_getElem _⟩
  have gJ:=vR hq
  have Lc:parts=[q]:=by
   match parts,h1,hq with
   |[a],_,hq=>simp at hq;rw[hq]
  refine qD rfl (by simp[h1]) ?_;refine qq<|qj fun K hK=>qm ?_;refine qr fun p17 WA=>?_;refine qR ?_;refine qm ?_;refine qe hK<|ab.ret ⟨rx,_,_,rfl,rl bT hH (rfl),?_⟩;refine⟨q,rfl,hv q (List.mem_of_getElem? hq),fun _=>?_,?_⟩<;>rw[Lc]<;>simp[fK]
 have Bw:(((parts.length:Nat):Int)==1)=false:=by rw[beq_eq_false_iff_ne];omega
 refine qE rfl (by rw[Bw]) ?_;refine ab.skip<|qq<|qj fun K hK=>qm ?_;refine qm ?_;refine qn ?_;simp only[List.length_map];refine aa.go (d:=.agg [.int .i64 op,.nul,.int .i64 0,.int .i64 0,.bool false,.int .i64 0,.int .i64 (parts.length:Nat)]) (st1:=_) rfl rfl rfl (by dsimp only[Fr.put,u1,u2]<;>rfl) ?_;refine qh (s:=7) (vs:=[_]) hH fun k23 st Qu hH=>?_;refine qm ?_;refine qe hK<|qq<|qq<|qj fun K hK=>qm ?_;refine qn ?_;simp only[List.length_map];refine qm ?_;refine qe hK ?_;have hH:Has s0.bs.length S st (.aP (.win k23 0 0 1 7) 7 [[.int .i64 op,.nul,.int .i64 0,.int .i64 0,.bool false,.int .i64 0,.int .i64 (parts.length:Nat)]]::[]):=hH;refine ab.block<|ab.loop (fun mm fr st=>∃(i:Nat) (od:D) (es:List (List D)) (lo:List dM),fr.clean=⟨27,[cS fr 0,cS fr 1,cS fr 2,cS fr 3,cS fr 4,od,cS fr 6,cS fr 7,cS fr 8,cS fr 9,cS fr 10,cS fr 11,cS fr 12,cS fr 13,cS fr 14,cS fr 15,cS fr 16,cS fr 17,cS fr 18,cS fr 19,cS fr 20,cS fr 21,cS fr 22,cS fr 23,x,.int .i64 (parts.length:Nat),.int .i64 (i:Nat)],[]⟩∧Has s0.bs.length S st [.aP od 7 es]∧(i+mm=parts.length)∧(es.map (·.map oe)=lo.map bm)∧(∀e∈es,∀d∈e,mz d=true)∧(∀n∈lo,vc n)∧(lo.length=1+fK (parts.take i))∧(∀k,od.ref=k+1→S.bs.length≤k)) (parts.length) ?_ ?_
 ·refine⟨0,.win k23 0 0 1 7,[[.int .i64 op,.nul,.int .i64 0,.int .i64 0,.bool false,.int .i64 0,.int .i64 (parts.length:Nat)]],[tX op 0 0 false 0 (parts.length:Nat) []],rfl,hH,by omega,rfl,?_,Da (by simp) (by omega),by simp[fK],fun k hk=>by simp only[D.ref] at hk;omega⟩;intro e he d hd;simp only[List.mem_cons,List.not_mem_nil,or_false] at he;subst he;simp only[List.mem_cons,List.not_mem_nil,or_false] at hd
  rcases hd with rfl|rfl|rfl|rfl|rfl|rfl|rfl<;>rfl
 rintro mm fr st ⟨i,od,es,lo,hfr,hH,hi,uC,ht,Mb,hlen,L9⟩;rw[hfr];clear hfr;generalize cS fr=ee;clear fr;refine qq<|qj fun K hK=>qg ?_;refine qe hK ?_
 by_cases hlt:i<parts.length
 ·obtain⟨q,hq⟩:∃q,parts[i]?=some q:=⟨parts[i]'hlt,List.getElem?_eq_getElem _⟩
  have gJ:=vR hq;have UY:=hv q (List.mem_of_getElem? hq);have rV:es.length=lo.length:=by have:=congrArg List.length uC;simpa using this
  have Ds:parts.take (i+1)=parts.take i++[q]:=by rw[List.take_add_one,hq];rfl
  have V2:fK (parts.take (i+1))=fK (parts.take i)+q.length:=by rw[Ds,dI];simp[fK]
  have aag:fK (parts.take (i+1))≤fK parts:=by
   have:=dI (parts.take (i+1)) (parts.drop (i+1));rw[List.take_append_drop] at this;omega
  refine qq<|qD rfl (by simp;omega) ?_;refine ab.skip<|qq<|ab.block<|qq<|qj fun K hK=>qr fun p28 aaF=>?_;refine qR ?_;refine qm ?_;refine qe hK<|qj fun K hK=>qm ?_;refine qm ?_;refine aa.re (s:=7) hH rfl (ev rfl) (ev rfl) aB ((sM UY).rows st) rfl rfl rfl rfl rfl rfl rfl ⟨(Nat.le_of_ble_eq_true rfl),(Nat.le_of_ble_eq_true rfl)⟩ (fun _=>(ah rfl _)) (by rw[List.length_map];omega) (.inl hF) L9 (fun x32 st L9 hH=>?_);dsimp only[u2] at hH;refine qm ?_;refine qe hK<|qj fun K hK=>qA ?_;refine qm ?_;refine qe hK ?_;refine⟨mm-1,by omega,⟨i+1,x32,es++q.map bm,lo++q,rfl,hH,by omega,by rw[List.map_append,List.map_append,uC,tV UY],?_,?_,by rw[List.length_append,hlen,V2];omega,L9⟩⟩
  ·intro e he
   rcases List.mem_append.1 he with he|he
   ·exact ht e he
   ·exact qz UY e he
  ·intro n hn
   rcases List.mem_append.1 hn with hn|hn
   ·exact Mb n hn
   ·exact UY n hn
 ·refine qq<|qE rfl (by simp;omega) ?_;refine ab.exit<|qq<|qj fun K hK=>qm ?_;refine qm ?_;refine qe hK ?_;have hik:i=parts.length:=by omega
  rw[hik,List.take_length] at hlen;refine ab.ret ⟨rx,_,_,rfl,rl bT hH (i7 hH aB uC ht (fun k hk=>by have:=L9 k hk;rw[←bT];exact this) (by decide)),?_⟩;exact⟨_,rfl,Mb,by omega,by omega⟩
end Go.Proofs.YtbdnabmmlbiomaaGreat
namespace Go.Proofs.YtbdnabmmlbiomaaGreat
open Go.V Go
def gv (fr:Go.V.Fr) (k:Nat):Go.V.D:=Go.V.nth .bp fr.loc k
theorem ni {N:Nat} {S st:St} {H:List bt} {a b c:bt} (h:Has N S st (a::b::c::H)):Has N S st (b::c::a::H):=by
 have h1:=h.front bF;have h2:=h1.front dL;exact h2.front bF
def lQ (m:Nat):Prop:=∀{N k:Nat} {S s0:St} {H:List bt} {gs:List (Nat×Nat)} {bS:D} {b_:List Int} {s:fk},lu gs b_→s.e=0→s.i≤gs.length→s.g≤4→s.o+m=20→Has N S s0 (.box k (.mem 0 false (a8 gs bS s))::.aP bS 1 (b_.map ay)::H)→
 ∃d ai,Ev pv 99 [.ptr k 0 0] s0 d ai∧∃(s':fk),uV gs s s' d∧Has N S ai (.box k (.mem 0 false (a8 gs bS s'))::.aP bS 1 (b_.map ay)::H)
theorem D3 {m:Nat} (hA:∀m',m'+1=m→lQ m') {N k:Nat} {S s0:St} {H:List bt} {gs:List (Nat×Nat)} {bS:D} {b_:List Int} {s:fk} (bc:lu gs b_) (he:s.e=0) (hi:s.i<gs.length) (hg:s.g≤4) (ho:s.o+m=20) (hH:Has N S s0 (.box k (.mem 0 false (a8 gs bS s))::.aP bS 1 (b_.map ay)::H)):
  ∃d ai,Ev pv 167 [.ptr k 0 0] s0 d ai∧∃(s':fk),ju gs s s' d 2∧Has N S ai (.box k (.mem 0 false (a8 gs bS s'))::.aP bS 1 (b_.map ay)::H):=by
 have s9:=bc.gl;have iq:=bc.pl;refine Ev.il rfl T8 rfl rfl rfl ?_;dsimp only[u3,u4,List.length,Nat.reduceSub,Nat.reduceAdd,w1,w2];have cF:=hH;have hH:=hH.cI;have ct:(ag .rw s0).bs=s0.bs:=rfl;generalize ag .rw s0=S2 at*
 have hwr:∀(st:St) (s3:fk) (e:Int) (H2:List bt),e≠0→s3.e=0→s3.o=s.o→s3.g≤4→s.i≤s3.i→s3.i≤gs.length→Has N S2 st (.box k (.mem 0 false (a8 gs bS s3))::.aP bS 1 (b_.map ay)::H2)→∃d ai,Ev pv 100 [.ptr k 0 0,.int .i64 (s.i:Nat),.int .i64 e] st d ai∧d=.sl []∧∃s4,ju gs s s4 (.sl []) 2∧Has N S2 ai (.box k (.mem 0 false (a8 gs bS s4))::.aP bS 1 (b_.map ay)::H2):=by
  intro st s3 e H2 h0 h1 h2 h3 h4 h5 hH;obtain⟨d,ai,aK,h6,hH⟩:=dc (s:=s3) s.i e (by omega) hH;obtain⟨w1,w2,w3,w4⟩:=dt (b_:=b_) (s:=s3) (i:=s.i) (e:=e) h1 h0;exact⟨d,ai,aK,h6,_,gq (w3.trans h2) (by omega) (by omega) (by omega) w1,hH⟩
 refine qq<|qj fun K hK=>qm ?_;refine qe hK<|qq<|qj fun K hK=>qm ?_;refine qg ?_;refine qp (o:=2) ?_;refine ql hH aB ?_;refine qm ?_;refine qe hK<|qq<|qj fun K hK=>qm ?_;refine qg ?_;refine qp (o:=2) ?_;refine ql hH aB ?_;refine qA ?_;refine qg ?_;refine qp (o:=2) ?_;refine qT hH aB fun st hH=>?_;dsimp only[u2,u1,u3,u4,setMany,u5,u6,D.cells,Nat.reduceAdd,a8,aQ,ay,ax,bm] at hH;refine qe hK ?_;have hH:Has N S2 st (.box k (.mem 0 false (a8 gs bS {s with i:=s.i+1}))::.aP bS 1 (b_.map ay)::H):=hH
 obtain⟨s1,uq⟩:∃s1:fk,({s with i:=s.i+1}:fk)=s1:=⟨_,rfl⟩
 have V8:s1.e=0∧s1.o=s.o∧s1.g=s.g∧s1.i=s.i+1:=by rw[←uq];exact⟨he,rfl,rfl,rfl⟩
 rw[uq] at hH;clear uq;obtain⟨f1,f2,f3,f4⟩:=V8;refine qq<|qj fun K hK=>qm ?_;refine qe hK<|qq<|qq<|ab.j8 (fun fr st=>∃(free:Bool) (s2:fk) (tmp:List (Nat×D)),fr=⟨7,[.ptr k 0 0,gv fr 1,gv fr 2,.int .i64 (s.i:Nat),.bool free,gv fr 5,gv fr 6],tmp⟩∧Has N S2 st (.box k (.mem 0 false (a8 gs bS s2))::.aP bS 1 (b_.map ay)::H)∧(s2.e=0)∧(s2.o=s.o)∧(s2.g=s.g)∧(s.i+1≤s2.i)∧(s2.i≤gs.length)) ?_ ?_
 ·obtain⟨k1,k2,k3,k4,k5⟩:=gS (gs:=gs) (s:=s1) (r:=63);have k5:=k5 (by omega);refine qj fun K hK=>qm ?_;obtain⟨_,st,aK,rfl,hH⟩:=er (s:=s1) (by omega) 63 hH;refine qv aK ?_;refine qe hK ?_;generalize c9 gs s1 63=s2 at*
  cases hb:kZ gs s1.i 63 with
  |false=>
   refine qC ?_;refine ab.skip ?_;exact⟨false,s2,_,rfl,hH,by omega,by omega,by omega,by omega,by omega⟩
  |true=>
   refine qB ?_;refine qq<|qj fun K hK=>qm ?_;refine qe hK ?_;obtain⟨r1,r2,r3,r4,r5⟩:=gS (gs:=gs) (s:=s2) (r:=58);have r5:=r5 k5;refine qq<|qj fun K hK=>qm ?_;obtain⟨_,st,aK,rfl,hH⟩:=er (s:=s2) (by omega) 58 hH;refine qv aK ?_;refine qg ?_;refine qe hK ?_;generalize c9 gs s2 58=s3 at*
   cases hb2:kZ gs s2.i 58 with
   |false=>
    refine qB ?_;refine qq<|qj fun K hK=>qm ?_;refine qm ?_;obtain⟨_,st,aK,rfl,s4,hN,hH⟩:=hwr _ s3 4 _ (by decide) (by omega) (by omega) (by omega) (by omega) (by omega) hH;refine qv aK ?_;refine qm ?_;refine qe hK<|ab.ret ⟨rx,_,_,_,rfl,ak (rfl),?_⟩;exact⟨s4,hN,cF.aA ct hH⟩
   |true=>
    refine qC ?_;refine ab.skip ?_;exact⟨true,s3,_,rfl,hH,by omega,by omega,by omega,by omega,by omega⟩
 ·rintro fr st ⟨free,s2,tmp,hfr,hH,h1,h2,h3,h4,h5⟩;rw[hfr];clear hfr;generalize gv fr=ee;clear fr;refine qq<|qq<|qj fun K hK=>qm ?_;refine qg ?_;refine qp (o:=3) ?_;refine ql hH aB ?_;refine qg ?_;refine qe hK ?_
  by_cases ZH:20≤s2.o
  ·have gL:decide (((s2.o:Nat):Int)≥20)=true:=by rw[decide_eq_true_eq];omega
   refine qD rfl (by rw[gL]) ?_;refine qq<|qj fun K hK=>qm ?_;refine qm ?_;obtain⟨_,st,aK,rfl,s4,hN,hH⟩:=hwr _ s2 10 _ (by decide) h1 h2 (by omega) (by omega) h5 hH;refine qv aK ?_;refine qm ?_;refine qe hK<|ab.ret ⟨rx,_,_,_,rfl,ak (rfl),?_⟩;exact⟨s4,hN,cF.aA ct hH⟩
  have gL:decide (((s2.o:Nat):Int)≥20)=false:=by rw[decide_eq_false_iff_not];omega
  refine qE rfl (by rw[gL]) ?_;refine ab.skip<|qq<|qj fun K hK=>aa.go (d:=.agg [.int .i64 6,.nul,.int .i64 0,.int .i64 0,.bool false,.int .i64 0,.int .i64 1]) (st1:=_) rfl rfl rfl (ah rfl _) ?_;refine qa hH fun k5 st Aa hH=>?_;dsimp only[u2,u1,u3,u4,setMany,u5,u6,D.cells,Nat.reduceAdd,a8,aQ,ay,ax,bm] at hH;refine qS hH aB fun st hH=>?_;dsimp only[u2,u1,u3,u4,setMany,u5,u6,D.cells,Nat.reduceAdd,a8,aQ,ay,ax,bm] at hH;refine qe hK ?_;have hH:Has N S2 st (.box k (.mem 0 false (a8 gs bS s2))::.aP bS 1 (b_.map ay)::.box k5 (.mem 0 false [.int .i64 6,.nul,.int .i64 0,.int .i64 0,.bool false,.int .i64 0,.int .i64 1])::H):=ni hH;refine qq<|qq<|ab.j8 (fun fr st=>∃(cap:Int) (s3:fk) (tmp:List (Nat×D)),fr=⟨7,[.ptr k 0 0,gv fr 1,gv fr 2,.int .i64 (s.i:Nat),.bool free,.ptr k5 0 0,gv fr 6],tmp⟩∧Has N S2 st (.box k (.mem 0 false (a8 gs bS s3))::.aP bS 1 (b_.map ay)::.box k5 (.mem 0 false [.int .i64 6,.nul,.int .i64 0,.int .i64 0,.bool false,.int .i64 cap,.int .i64 1])::H)∧(s3.e=0)∧(s3.o=s.o)∧(s3.g≤4)∧(s3.i=s2.i)) ?_ ?_
  ·refine qj fun K hK=>qm ?_;refine qg ?_;refine qe hK ?_
   cases free with
   |true=>
    refine qC ?_;refine ab.skip ?_;exact⟨0,s2,_,rfl,hH,h1,h2,by omega,rfl⟩
   |false=>
    refine qB ?_;refine qq<|qq<|qj fun K hK=>qm ?_;refine qg ?_;refine qp (o:=4) ?_;refine ql hH aB ?_;refine qg ?_;refine qe hK ?_
    by_cases Zq:4≤s2.g
    ·have gL:decide (((s2.g:Nat):Int)≥4)=true:=by rw[decide_eq_true_eq];omega
     refine qD rfl (by rw[gL]) ?_;refine qq<|qj fun K hK=>qm ?_;refine qm ?_;obtain⟨_,st,aK,rfl,s4,hN,hH⟩:=hwr _ s2 13 _ (by decide) h1 h2 (by omega) (by omega) h5 hH;refine qv aK ?_;refine qm ?_;refine qe hK<|ab.ret ⟨rx,_,_,_,rfl,ak (rfl),?_⟩;exact⟨s4,hN,cF.aA ct (hH.erase 2)⟩
    ·have gL:decide (((s2.g:Nat):Int)≥4)=false:=by rw[decide_eq_false_iff_not];omega
     refine qE rfl (by rw[gL]) ?_;refine ab.skip<|qq<|qj fun K hK=>qm ?_;refine qg ?_;refine qp (o:=4) ?_;refine ql hH aB ?_;refine qA ?_;refine qg ?_;refine qp (o:=4) ?_;refine qT hH aB fun st hH=>?_;dsimp only[u2,u1,u3,u4,setMany,u5,u6,D.cells,Nat.reduceAdd,a8,aQ,ay,ax,bm] at hH;refine qe hK<|qj fun K hK=>qm ?_;refine qg ?_;refine qp (o:=4) ?_;refine ql hH aB ?_;refine qp (o:=5) ?_;refine qT hH dL fun st hH=>?_;dsimp only[u2,u1,u3,u4,setMany,u5,u6,D.cells,Nat.reduceAdd,a8,aQ,ay,ax,bm] at hH;refine qe hK ?_;exact⟨((s2.g+1:Nat):Int),{s2 with g:=s2.g+1},_,rfl,hH,h1,h2,by show s2.g+1≤4;omega,rfl⟩
  ·rintro fr st ⟨cap,s3,tmp,hfr,hH,e1,e2,e3,e4⟩;rw[hfr];clear hfr;generalize gv fr=ee;clear fr;refine qq<|qj fun K hK=>qm ?_;refine qg ?_;refine qp (o:=3) ?_;refine ql hH aB ?_;refine qA ?_;refine qg ?_;refine qp (o:=3) ?_;refine qT hH aB fun st hH=>?_;dsimp only[u2,u1,u3,u4,setMany,u5,u6,D.cells,Nat.reduceAdd,a8,aQ,ay,ax,bm] at hH;refine qe hK ?_;have hH:Has N S2 st (.box k (.mem 0 false (a8 gs bS {s3 with o:=s3.o+1}))::.aP bS 1 (b_.map ay)::.box k5 (.mem 0 false [.int .i64 6,.nul,.int .i64 0,.int .i64 0,.bool false,.int .i64 cap,.int .i64 1])::H):=hH;refine qq<|qj fun K hK=>qm ?_;obtain⟨_,st,aK,s4,⟨a1,a2,a3,a4,l,rfl,a5,a6⟩,hH⟩:=hA (m-1) (by omega) (s:={s3 with o:=s3.o+1}) bc e1 (by show s3.i≤_;omega) e3 (by show s3.o+1+(m-1)=20;omega) hH;refine qv aK ?_;refine qm ?_;refine qe hK ?_;have a1:s4.o=s3.o+1:=a1;have a3:s3.i≤s4.i:=a3;have a6:l.length≤4*(s4.i-s3.i)+1:=a6;have hla:=(sM a5).arg N S2;refine qq<|qj fun K hK=>qm ?_;refine qg ?_;refine qp (o:=3) ?_;refine ql hH aB ?_;refine aa.oS (z:=((s.o:Nat):Int)) rfl (ev rfl) (ev rfl) (by rw[wrap_i64 (by omega) (by omega)]<;>omega) (ah rfl _) ?_;refine qg ?_;refine qp (o:=3) ?_;refine qT hH aB fun st hH=>?_;dsimp only[u2,u1,u3,u4,setMany,u5,u6,D.cells,Nat.reduceAdd,a8,aQ,ay,ax,bm] at hH;refine qe hK ?_
   obtain⟨s5,V7⟩:∃s5:fk,({s4 with o:=s.o}:fk)=s5:=⟨_,rfl⟩
   have hH:Has N S2 st (.box k (.mem 0 false (a8 gs bS s5))::.aP bS 1 (b_.map ay)::.box k5 (.mem 0 false [.int .i64 6,.nul,.int .i64 0,.int .i64 0,.bool false,.int .i64 cap,.int .i64 1])::H):=by rw[←V7];exact hH
   have V6:s5.o=s.o∧s5.g=s4.g∧s5.i=s4.i:=by rw[←V7];exact⟨rfl,rfl,rfl⟩
   clear V7;obtain⟨b1,b2,b3⟩:=V6;refine qq<|qq<|ab.j8 (fun fr st=>∃(s6:fk) (tmp:List (Nat×D)),fr=⟨7,[.ptr k 0 0,gv fr 1,gv fr 2,gv fr 3,.bool free,.ptr k5 0 0,uX l],tmp⟩∧Has N S2 st (.box k (.mem 0 false (a8 gs bS s6))::.aP bS 1 (b_.map ay)::.box k5 (.mem 0 false [.int .i64 6,.nul,.int .i64 0,.int .i64 0,.bool false,.int .i64 cap,.int .i64 1])::H)∧(s6.o=s.o)∧(s6.g≤4)∧(s4.i≤s6.i)∧(s6.i≤gs.length)∧(s6.e≠0∨s6.e=0∧s4.i<s6.i)) ?_ ?_
   ·by_cases W_:s5.e=0
    ·have bd:(s5.e==0)=true:=by simpa using W_
     obtain⟨k1,k2,k3,k4,Y'⟩:=gS (gs:=gs) (s:=s5) (r:=41);have Y':=Y' (by omega);have hsk:kZ gs s5.i 41=true→(c9 gs s5 41).i=s5.i+1:=fun h=>by unfold c9;rw[if_pos h]
     refine qj fun K hK=>qm ?_;refine qg ?_;refine qp (o:=5) ?_;refine ql hH aB ?_;refine qg ?_;refine qm ?_;refine qm ?_ (hg:=wi bd);obtain⟨_,st,aK,rfl,hH⟩:=er (s:=s5) (by omega) 41 hH;refine qv aK ?_ (hg:=wi bd);refine qg ?_ (hg:=wi bd);refine qt bd ?_;refine qe hK ?_;generalize c9 gs s5 41=s6 at*
     cases hb:kZ gs s5.i 41 with
     |false=>
      refine qB ?_;refine qq<|qj fun K hK=>qm ?_;refine qm ?_;obtain⟨_,st,aK,rfl,s7,hN,hH⟩:=hwr _ s6 4 _ (by decide) (by omega) (by omega) (by omega) (by omega) (by omega) hH;refine qv aK ?_;refine qm ?_;refine qe hK<|ab.ret ⟨rx,_,_,_,rfl,ak (rfl),?_⟩;exact⟨s7,hN,cF.aA ct (hH.erase 2)⟩
     |true=>
      have hsk:=hsk hb;refine qC ?_;refine ab.skip ?_;exact⟨s6,_,rfl,hH,by omega,by omega,by omega,by omega,.inr ⟨by omega,by omega⟩⟩
    ·have bd:(s5.e==0)=false:=by simpa using W_
     refine qj fun K hK=>qm ?_;refine qg ?_;refine qp (o:=5) ?_;refine ql hH aB ?_;refine qg ?_;refine qm ?_;refine qs ?_ (hg:=wn bd);refine qs ?_ (hg:=wn bd);refine qs ?_ (hg:=wn bd);refine qu bd ?_;refine qe hK<|qC ?_;refine ab.skip ?_;exact⟨s5,_,rfl,hH,b1,by omega,by omega,by omega,.inl W_⟩
   ·rintro fr st ⟨s6,tmp,hfr,hH,c1,c2,c3,c4,c5⟩;rw[hfr];clear hfr;generalize gv fr=ee;clear fr;refine qq<|qq<|qj fun K hK=>qm ?_;refine qe hK ?_
    cases free with
    |true=>
     refine qB ?_;refine qq<|qj fun K hK=>qm ?_;refine qm ?_;refine qe hK<|ab.ret ⟨rx,_,_,_,rfl,ak (rfl),?_⟩;refine⟨s6,⟨c1,c2,by omega,c4,l,rfl,a5,by omega,?_⟩,cF.aA ct (hH.erase 2)⟩
     rcases c5 with c5|⟨c5,c6⟩
     ·exact .inl c5
     ·exact .inr ⟨c5,by omega⟩
    |false=>
     refine qC ?_;refine ab.skip<|qq<|qj fun K hK=>?_;refine aa.aT (m:=7) hH rfl (ev rfl) (by exact dL) (by dsimp only[List.drop_succ_cons,List.drop_zero,List.take_succ_cons,List.take_zero,a8,aQ,ay,ax,bm]<;>rfl) rfl rfl (ah rfl _) ?_;refine qh (s:=7) (vs:=[_]) hH fun k89 st aaL hH=>?_;dsimp only[u2,u1,u3,u4,setMany,u5,u6,D.cells,Nat.reduceAdd,a8,aQ,ay,ax,bm] at hH;refine qm ?_;refine aa.re (s:=7) hH rfl (ev rfl) (ev rfl) aB ((sM a5).rows st) rfl rfl rfl rfl rfl rfl rfl ⟨(Nat.le_of_ble_eq_true rfl),(Nat.le_of_ble_eq_true rfl)⟩ (fun _=>(ah rfl _)) (by simp only[List.length_map,List.length_cons,List.length_nil];omega) (.inr (sL a5)) (fun k hk=>by have kg:k89+1=k+1:=hk;omega) (fun Z_ st L9 hH=>?_);dsimp only[u2] at hH;refine qm ?_;refine qe hK ?_;have hH:Has N S2 st (.aP Z_ 7 ([.int .i64 6,.nul,.int .i64 0,.int .i64 0,.bool false,.int .i64 cap,.int .i64 1]::l.map bm)::.box k (.mem 0 false (a8 gs bS s6))::.aP bS 1 (b_.map ay)::.box k5 (.mem 0 false [.int .i64 6,.nul,.int .i64 0,.int .i64 0,.bool false,.int .i64 cap,.int .i64 1])::H):=hH
     have hfz:=i7 (L:=s0.bs.length) (l:=tX 6 0 0 false cap 1 []::l) hH aB (by rw[List.map_cons,tV a5];rfl) (fun e he d hd=>by
      rcases List.mem_cons.1 he with rfl|he
      ·simp only[List.mem_cons,List.not_mem_nil,or_false] at hd
       rcases hd with rfl|rfl|rfl|rfl|rfl|rfl|rfl<;>rfl
      ·exact qz a5 e he d hd) (fun k hk=>by rw[←ct];exact L9 k hk) (n:=16) (by decide)
     refine ab.ret ⟨rx,_,_,_,rfl,ak hfz,⟨s6,⟨c1,c2,by omega,c4,_,rfl,?_,by simp only[List.length_cons];omega,?_⟩,cF.aA ct ((hH.drop 1).erase 2)⟩⟩
     ·intro n hn
      rcases List.mem_cons.1 hn with rfl|hn
      ·exact⟨rfl,by simp[tX],by simp[tX]⟩
      ·exact a5 n hn
     ·rcases c5 with c5|⟨c5,c6⟩
      ·exact .inl c5
      ·exact .inr ⟨c5,by simp only[List.length_cons];omega⟩
end Go.Proofs.YtbdnabmmlbiomaaGreat
