/-
 Patterns as trees; the code of a tree; how many instructions it has.
-/
import Derived.Test.YtbdnabmmlbiomaaGreatXGPc
import Derived.Test.YtbdnabmmlbiomaaGreatXGKa
set_option maxRecDepth 100000
set_option linter.unusedSimpArgs false
set_option linter.unusedVariables false
set_option linter.unusedSectionVars false
set_option maxHeartbeats 4000000
open List renaming length_append→γ,length_cons→ζ,mem_cons→η,not_mem_nil→ι,length→μ,length_map→ξ,getElem?_cons_zero→ο,foldl→π,foldl_cons→ρ,append_assoc→υ,getElem?_eq_getElem→φ,length_nil→χ,foldl_nil→ω,getElem?_map→Γ,cons_append→Δ,map_append→Ξ,exists_cons_of_ne_nil→Φ,getElem?_cons_succ→Ψ,mem_map→Ω,map→QX,mem_cons_of_mem→QZ,mem_of_getElem?→QJ,mem_cons_self→Qx,mem_append→Qv,nil_append→Qk,drop_drop→QW,map_map→QK
open Nat renaming reduceAdd→δ,le_of_ble_eq_true→ε,reduceSub→ν,le_refl→τ,sub_self→QU,add_mul→QG
open Go.V.ab renaming skip→θ,ret→κ,block→Θ,cond→Qw,exit→QH,merge→QL
open Go.V.D renaming cells→ς,ref→Qj
open Option renaming some→ψ,bind_some→Qz
open Go.V.Fr renaming put→QQ,clean→Qq,get→QY,aj→QB,ev→QF
open Go.V.aa renaming go→Qy,nil→QV,de→QD,gK→QC,dI→QP
namespace Go.Proofs.YtbdnabmmlbiomaaGreat
open Go.V Go
structure ej where
 op:Int
 rd:D
 rs:List Rg
 mn:Int
 mx:Int
 lz:Bool
 cap:Int
 kids:Int
def bH (n:ej):List D:=[.int .i64 n.op,n.rd,.int .i64 n.mn,.int .i64 n.mx,.bool n.lz,.int .i64 n.cap,.int .i64 n.kids]
def ej.ok (n:ej):Prop:=dr n.rd 2 (n.rs.map ax)∧n.rs.length≤1048576∧n.kids≤9223372036854775807
structure Nl where
 d:D
 l:List ej
structure Nl.ok (x:Nl):Prop where
 c:dr x.d 7 (x.l.map bH)
 i:∀n∈x.l,n.ok
 nl:x.l.length≤1048576
theorem mg {l:List ej} {i:Nat} {q:ej} (h:l[i]?=some q):(l.map bH)[i]?=some (bH q):=by rw[Γ,h];rfl
mutual
inductive Tr where
 |mk (n:ej) (ks:bW)
inductive bW where
 |nil
 |cons (t:Tr) (ts:bW)
end
def bW.len:bW→Nat
 | .nil=>0
 | .cons _ ts=>ts.len+1
mutual
def Tr.flat:Tr→List ej
 | .mk n ks=>n::ks.flat
def bW.flat:bW→List ej
 | .nil=>[]
 | .cons t ts=>t.flat++ts.flat
end
def xF (n:ej) (nk:Nat):Prop:=
 n.kids=(nk:Int)∧(((n.op=1∨n.op=7∨n.op=8)∧nk=0)∨(n.op=2∧nk=0)∨((n.op=3∨n.op=4)∧2≤nk)∨
  (n.op=5∧nk=1∧0≤n.mn∧n.mn≤30∧(n.mx=-1∨(n.mn≤n.mx∧n.mx≤30)))∨(n.op=6∧nk=1∧1≤n.cap∧n.cap≤4))
mutual
def Tr.ok:Tr→Prop
 | .mk n ks=>xF n ks.len∧ks.ok
def bW.ok:bW→Prop
 | .nil=>True
 | .cons t ts=>t.ok∧ts.ok
end
def bY (n:ej) (s k:Nat):Nat:=
 if n.op=2∨n.op=7∨n.op=8 then 1
 else if n.op=4 then s+2*(k-1)
 else if n.op=6 then s+2
 else if n.op=5 then(if n.mx=-1 then n.mn.toNat*s+s+2 else n.mn.toNat*s+(n.mx.toNat-n.mn.toNat)*(s+1))
 else s
mutual
def Tr.sz:Tr→Nat
 | .mk n ks=>bY n ks.sz ks.len
def bW.sz:bW→Nat
 | .nil=>0
 | .cons t ts=>t.sz+ts.sz
end
def dx (op x y:Int) (rs:List Rg):aQ:=⟨op,x,y,.sl ((rs.map ax).map (jR 2)),rs⟩
def oC (s o:Nat) (lz:Bool):aQ:=if lz=true then dx 2 (o:Nat) ((s+1:Nat):Int) [] else dx 2 ((s+1:Nat):Int) (o:Nat) []
def nO (e:Nat):aQ:=dx 3 (e:Nat) 0 []
def fX (c:Nat→List aQ) (z:Nat):Nat→Nat→List aQ
 |0,_=>[]
 |k+1,b=>c b++fX c z k (b+z)
def fM (sp:Nat→aQ) (c:Nat→List aQ) (z:Nat):Nat→Nat→List aQ
 |0,_=>[]
 |k+1,b=>sp b::(c (b+1)++fM sp c z k (b+1+z))
def xy (z:Nat):Nat→Nat→List Nat
 |0,_=>[]
 |k+1,b=>b::xy z k (b+1+z)
def oH (n:ej) (c:Nat→List aQ) (z b:Nat):List aQ:=
 if n.mx=-1 then fX c z n.mn.toNat b++(oC (b+n.mn.toNat*z) (b+n.mn.toNat*z+z+2) n.lz::(c (b+n.mn.toNat*z+1)++[nO (b+n.mn.toNat*z)]))
 else fX c z n.mn.toNat b++fM (fun s=>oC s (b+n.mn.toNat*z+(n.mx.toNat-n.mn.toNat)*(z+1)) n.lz) c z (n.mx.toNat-n.mn.toNat) (b+n.mn.toNat*z)
mutual
def bc:Tr→Nat→List aQ
 | .mk n ks,b=>
  if n.op=2 then[dx 1 0 0 n.rs]
  else if n.op=7 then[dx 5 0 0 []]
  else if n.op=8 then[dx 6 0 0 []]
  else if n.op=3 then gE ks b
  else if n.op=4 then fp (nO (b+bY n ks.sz ks.len)) ks b
  else if n.op=5 then oH n (gE ks) ks.sz b
  else if n.op=6 then dx 4 (2*n.cap) 0 []::(gE ks (b+1)++[dx 4 (2*n.cap+1) 0 []])
  else[]
def gE:bW→Nat→List aQ
 | .nil,_=>[]
 | .cons t ts,b=>bc t b++gE ts (b+t.sz)
def fp (jp:aQ):bW→Nat→List aQ
 | .nil,_=>[]
 | .cons t ts,b=>if ts.len=0 then bc t b else oC b (b+1+t.sz+1) false::(bc t (b+1)++jp::fp jp ts (b+t.sz+2))
end
def ti:bW→Nat→List Nat
 | .nil,_=>[]
 | .cons t ts,b=>if ts.len=0 then[] else(b+1+t.sz)::ti ts (b+t.sz+2)
theorem jW {c:Nat→List aQ} {z:Nat} (hc:∀b,(c b).length=z):∀k b,(fX c z k b).length=k*z
 |0,b=>by simp[fX]
 |k+1,b=>by rw[fX,γ,hc,jW hc k,QG];omega
theorem rK {sp:Nat→aQ} {c:Nat→List aQ} {z:Nat} (hc:∀b,(c b).length=z):∀k b,(fM sp c z k b).length=k*(z+1)
 |0,b=>by simp[fM]
 |k+1,b=>by rw[fM,ζ,γ,hc,rK hc k,QG];omega
theorem DP {n:ej} {c:Nat→List aQ} {z b:Nat} (hc:∀b,(c b).length=z) (h:n.op=5):(oH n c z b).length=bY n z 1:=by
 unfold oH bY;rw[if_neg (show¬(n.op=2∨n.op=7∨n.op=8) by omega),if_neg (show¬n.op=4 by omega),if_neg (show¬n.op=6 by omega),if_pos h]
 split
 ·rw[γ,jW hc,ζ,γ,hc];simp only[ζ,χ];omega
 ·rw[γ,jW hc,rK hc]
theorem bW.Bh {ks:bW} (h:ks.len=1):∃t,ks=.cons t .nil:=by
 cases ks with
 |nil=>simp[bW.len] at h
 |cons t ts=>cases ts with
  |nil=>exact⟨t,rfl⟩
  |cons u us=>simp[bW.len] at h
theorem bW.len_nil {ks:bW} (h:ks.len=0):ks=.nil:=by
 cases ks with
 |nil=>rfl
 |cons t ts=>simp[bW.len] at h
mutual
theorem cS:∀(t:Tr) (b:Nat),t.ok→(bc t b).length=t.sz
 | .mk n ks,b,h=>by
  simp only[Tr.ok] at h;obtain⟨h1,h2⟩:=h;have hc:=fun b=>oe ks b h2;have ha:=fun jp b=>tg jp ks b h2;simp only[bc,Tr.sz];obtain⟨_,⟨h3,h4⟩|⟨h3,h4⟩|⟨h3,h4⟩|⟨h3,h4,h5⟩|⟨h3,h4,h5⟩⟩:=h1
  ·have hk:=bW.len_nil h4;subst hk
   by_cases q7:n.op=7
   ·simp[q7,bY]
   ·by_cases q8:n.op=8
    ·simp[q8,bY]
    ·have q1:n.op=1:=by omega
     simp[q1,bY,bW.sz]
  ·simp[h3,bY]
  ·rcases h3 with h3|h3
   ·simp[h3,bY,hc]
   ·simp[h3,bY,ha]
  ·have:=DP (n:=n) (b:=b) hc h3;simp only[h3] at this⊢;simp only[show¬((5:Int)=2) by decide,show¬((5:Int)=7) by decide,show¬((5:Int)=8) by decide,show¬((5:Int)=3) by decide,show¬((5:Int)=4) by decide,if_false,if_true];rw[this,h4]
  ·simp[h3,bY,hc]
theorem oe:∀(ts:bW) (b:Nat),ts.ok→(gE ts b).length=ts.sz
 | .nil,b,_=>by simp[gE,bW.sz]
 | .cons t ts,b,h=>by
  simp only[bW.ok] at h;simp only[gE,bW.sz,γ];rw[cS t b h.1,oe ts _ h.2]
theorem tg (jp:aQ):∀(ts:bW) (b:Nat),ts.ok→(fp jp ts b).length=ts.sz+2*(ts.len-1)
 | .nil,b,_=>by simp[fp,bW.sz,bW.len]
 | .cons t ts,b,h=>by
  simp only[bW.ok] at h;have h1:=tg jp ts (b+t.sz+2) h.2;simp only[fp,bW.sz,bW.len]
  by_cases q:ts.len=0
  ·rw[if_pos q,cS t b h.1,q];have:=bW.len_nil q;subst this;simp[bW.sz]
  ·rw[if_neg q,ζ,γ,ζ,cS t _ h.1,h1];omega
end
def iU (f:Nat→aQ) (c:List aQ) (l:List Nat):List aQ:=l.foldl (fun c j=>c.set j (f j)) c
theorem qO {α:Type} (pre post:List α) (x y:α):(pre++x::post).set pre.length y=pre++y::post:=by
 rw[List.set_append_right _ _ (τ _),QU];rfl
theorem q_ {α:Type} (pre post:List α) (x:α):(pre++x::post)[pre.length]?=some x:=by
 rw[List.getElem?_append_right (τ _),QU];rfl
theorem oQ {sp:Nat→aQ} {c:Nat→List aQ} {z:Nat} (hc:∀b,(c b).length=z) {i0:aQ}:∀(k b:Nat) (pre post:List aQ),pre.length=b→iU sp (pre++fM (fun _=>i0) c z k b++post) (xy z k b)=pre++fM sp c z k b++post∧∀j∈xy z k b,(pre++fM (fun _=>i0) c z k b++post)[j]?=some i0
 |0,b,pre,post,_=>⟨rfl,fun j hj=>by cases hj⟩
 |k+1,b,pre,post,h=>by
  have ih:=oQ (sp:=sp) hc (i0:=i0) k (b+1+z) (pre++i0::c (b+1)) post (by rw[γ,ζ,hc];omega);have Bk:=oQ (sp:=sp) hc (i0:=i0) k (b+1+z) (pre++sp b::c (b+1)) post (by rw[γ,ζ,hc];omega);simp only[fM,xy];have e:pre++i0::(c (b+1)++fM (fun _=>i0) c z k (b+1+z))++post=pre++i0::(c (b+1)++fM (fun _=>i0) c z k (b+1+z)++post):=by simp
  have e2:pre++i0::c (b+1)++fM (fun _=>i0) c z k (b+1+z)++post=pre++i0::(c (b+1)++fM (fun _=>i0) c z k (b+1+z)++post):=by simp
  refine⟨?_,fun j hj=>?_⟩
  ·unfold iU at Bk⊢;rw[ρ,e]
   have hs:(pre++i0::(c (b+1)++fM (fun _=>i0) c z k (b+1+z)++post)).set b (sp b)=pre++sp b::c (b+1)++fM (fun _=>i0) c z k (b+1+z)++post:=by
    rw[←h,qO];simp
   rw[hs,Bk.1];simp
  ·rw[e]
   rcases η.1 hj with rfl|hj
   ·rw[←h];exact q_ _ _ _
   ·rw[←e2];exact ih.2 j hj
theorem pr {jp i0:aQ}:∀(ts:bW) (b:Nat) (pre post:List aQ),ts.ok→pre.length=b→iU (fun _=>jp) (pre++fp i0 ts b++post) (ti ts b)=pre++fp jp ts b++post∧∀j∈ti ts b,(pre++fp i0 ts b++post)[j]?=some i0
 | .nil,b,pre,post,_,_=>⟨by simp[fp,ti,iU],fun j hj=>by simp[ti] at hj⟩
 | .cons t ts,b,pre,post,bA,h=>by
  simp only[bW.ok] at bA
  by_cases q:ts.len=0
  ·simp only[fp,ti,if_pos q];exact⟨rfl,fun j hj=>by cases hj⟩
  ·simp only[fp,ti,if_neg q];generalize oC b (b+1+t.sz+1) false=sp;have hcl:=cS t (b+1) bA.1;have ih:=pr (jp:=jp) (i0:=i0) ts (b+t.sz+2) (pre++sp::(bc t (b+1)++[i0])) post bA.2 (by simp only[γ,ζ,χ,hcl];omega);have Bk:=pr (jp:=jp) (i0:=i0) ts (b+t.sz+2) (pre++sp::(bc t (b+1)++[jp])) post bA.2 (by simp only[γ,ζ,χ,hcl];omega);generalize fp i0 ts (b+t.sz+2)=A at*;have e:pre++sp::(bc t (b+1)++i0::A)++post=(pre++sp::bc t (b+1))++i0::(A++post):=by simp
   have hl:(pre++sp::bc t (b+1)).length=b+1+t.sz:=by simp only[γ,ζ,hcl];omega
   refine⟨?_,fun j hj=>?_⟩
   ·unfold iU at Bk⊢;rw[ρ,e,←hl,qO];have:=Bk.1;simp only[υ,Δ,Qk] at this⊢;exact this
   ·rw[e]
    rcases η.1 hj with rfl|hj
    ·rw[←hl];exact q_ _ _ _
    ·have:=ih.2 j hj;simp only[υ,Δ,Qk] at this⊢;exact this
def gu {α:Type} (L:List α) (at_:Nat) (M:List α):Prop:=∃post,L.drop at_=M++post
theorem gu.head {α:Type} {L M:List α} {a:α} {at_:Nat} (h:gu L at_ (a::M)):L[at_]?=some a:=by
 obtain⟨post,h⟩:=h;have:=congrArg (·[0]?) h
 simpa using this
theorem gu.tail {α:Type} {L M:List α} {a:α} {at_:Nat} (h:gu L at_ (a::M)):gu L (at_+1) M:=by
 obtain⟨post,h⟩:=h;refine⟨post,?_⟩;rw[←QW,h];rfl
theorem gu.left {α:Type} {L M M':List α} {at_:Nat} (h:gu L at_ (M++M')):gu L at_ M:=by
 obtain⟨post,h⟩:=h;exact⟨M'++post,by rw[h,υ]⟩
theorem gu.right {α:Type} {L M M':List α} {at_:Nat} (h:gu L at_ (M++M')):gu L (at_+M.length) M':=by
 obtain⟨post,h⟩:=h;refine⟨post,?_⟩;rw[←QW,h,υ,List.drop_left]
theorem gu.le {α:Type} {L M:List α} {at_:Nat} (h:gu L at_ M) (hM:M≠[]):at_+M.length≤L.length:=by
 obtain⟨post,h⟩:=h;have:=congrArg μ h;simp only[List.length_drop,γ] at this
 have:0<M.length:=by cases M with|nil=>exact absurd rfl hM|cons _ _=>simp
 omega
theorem gu.all {α:Type} (L:List α):gu L 0 L:=⟨[],by simp⟩
mutual
def Tr.zs:Tr→List Int
 | .mk n ks=>((min (bY n ks.sz ks.len) 401:Nat):Int)::ks.zs
def bW.zs:bW→List Int
 | .nil=>[]
 | .cons t ts=>t.zs++ts.zs
end
mutual
def Tr.es:Tr→Nat→List Int
 | .mk n ks,at_=>((at_+1+ks.flat.length:Nat):Int)::ks.es (at_+1)
def bW.es:bW→Nat→List Int
 | .nil,_=>[]
 | .cons t ts,at_=>t.es at_++ts.es (at_+t.flat.length)
end
mutual
theorem Tr.jB:∀t:Tr,t.zs.length=t.flat.length
 | .mk n ks=>by simp[Tr.zs,Tr.flat,bW.jB ks]
theorem bW.jB:∀ts:bW,ts.zs.length=ts.flat.length
 | .nil=>rfl
 | .cons t ts=>by simp[bW.zs,bW.flat,Tr.jB t,bW.jB ts]
end
mutual
theorem Tr.jK:∀(t:Tr) (a:Nat),(t.es a).length=t.flat.length
 | .mk n ks,a=>by simp[Tr.es,Tr.flat,bW.jK ks]
theorem bW.jK:∀(ts:bW) (a:Nat),(ts.es a).length=ts.flat.length
 | .nil,_=>rfl
 | .cons t ts,a=>by simp[bW.es,bW.flat,Tr.jK t,bW.jK ts]
end
theorem Tr.jb (t:Tr):0<t.flat.length:=by cases t;simp[Tr.flat]
theorem bW.lM:∀ts:bW,ts.len≤ts.flat.length
 | .nil=>τ _
 | .cons t ts=>by
  have h1:=bW.lM ts;have h2:=t.jb;simp only[bW.len,bW.flat,γ];omega
end Go.Proofs.YtbdnabmmlbiomaaGreat
namespace Go.V
variable{N:Nat} {S st:St} {H:List bJ}
theorem c7.at_ {α β:Type} {R:α→β→Prop}:∀{l:List α} {m:List β} {i:Nat} {b:β},c7 R l m→m[i]?=some b→∃a,l[i]?=some a∧R a b
 |_,_,_,_,.nil,h=>by simp at h
 |_,_,0,_,.cons a t,h=>by simp only[ο,ψ.injEq] at h;subst h;exact⟨_,rfl,a⟩
 |_,_,i+1,_,.cons a t,h=>by simp only[Ψ] at h⊢;exact t.at_ h
theorem c7.set {α β:Type} {R:α→β→Prop} {a:α} {b:β} (r:R a b):∀{l:List α} {m:List β} (i:Nat),c7 R l m→c7 R (l.set i a) (m.set i b)
 |_,_,_,.nil=>.nil
 |_,_,0,.cons _ t=>.cons r t
 |_,_,i+1,.cons h t=>.cons h (t.set r i)
theorem c7.setMany {R:D→D→Prop}:∀{xs ys:List D} {c d:List D} (o:Nat),c7 R xs ys→c7 R c d→c7 R (setMany c o xs) (setMany d o ys)
 |_,_,_,_,_,.nil,h=>h
 |_,_,_,_,o,.cons r t,h=>by simp only[Go.V.setMany];exact t.setMany (o+1) (h.set r o)
theorem c7.same {R:D→D→Prop}:∀{l:List D},(∀d∈l,R d d)→c7 R l l
 |[],_=>.nil
 |d::l,h=>.cons (h d (Qx ..)) (c7.same fun x hx=>h x (QZ _ hx))
variable{j s k aG off i o:Nat}{x:D}{ks:Nat→Prop}{vs:List (List D)}{cs:List D}{xo:Operand}{dy:Dy}{s0 S2 st2:St}
theorem Has.Wy (hH:Has N S st H) (hj:H[j]?=some (.deep ks x s vs)):∃es,Rows st s x es∧es.length=vs.length:=by
 obtain⟨⟨es,h1,h2⟩,_⟩:=(hH.ok j _ hj).1;exact⟨es,h1.rows,h2.len⟩
theorem Has.aak {len:Nat} {v:List D} (h:Has N S st H) (hj:H[j]?=some (.deep ks (.win k aG off len s) s vs)) (hi:vs[i]?=some v) (hl:o+cs.length≤s) (hp:∀d∈cs,cv d=true) (hw:S.flr≤N∨refs cs=0):
  ∃ai,st.wr k aG (off+i*s+o) cs=some ai∧Has N S ai (H.set j (.deep ks (.win k aG off len s) s (vs.set i (setMany v o cs)))):=by
 obtain⟨⟨es,kZ,wI⟩,he3⟩:=(h.ok j _ hj).1;have hK:=(h.ok j _ hj).2;obtain⟨e,hei,aL⟩:=wI.at_ hi
 have tK:Has N S st [.aO (.win k aG off len s) s es]:=by
  refine⟨h.ex,h.hN,h.eT,fun i e hi=>?_,fun i i' a b hii ha hb k tw jl=>?_⟩
  ·cases i with
   |zero=>simp only[ο,ψ.injEq] at hi;subst hi;exact⟨kZ,fun k hk=>hK k (.inl hk)⟩
   |succ i=>simp at hi
  ·cases i with
   |zero=>cases i' with
    |zero=>exact hii rfl
    |succ i'=>simp at hb
   |succ i=>simp at ha
 obtain⟨ai,q1,q2⟩:=tK.A2 (j:=0) av hei hl hw;refine⟨ai,q1,?_⟩;have hown:=q2.own (j:=0) av
 have Y8:(∀n,n≠k→ai.bs[n]?=st.bs[n]?)∧st.bs.length=ai.bs.length∧ai.flr=st.flr∧ai.ro=st.ro:=by
  unfold St.wr at q1
  split at q1
  ·split at q1
   ·cases q1;exact⟨fun n hn=>by simp only;rw[List.getElem?_set_ne (fun e=>hn e.symm)],by simp,rfl,rfl⟩
   ·cases q1
  ·cases q1
 obtain⟨c1,c2,c3,c4⟩:=Y8;have hkk:=hK k (.inl (by simp only[Qj]));have hne:∀n,ks n→n≠k:=fun n hn e=>he3 k (by simp only[Qj]) (e▸hn);have ye:∀n,ks n→ai.bs[n]?=st.bs[n]?:=fun n hn=>c1 n (hne n hn);refine h.C_ hj (fun n hn hnot=>c1 n fun e=>hnot (.inl (by simp only[Qj];omega))) (Nat.le_of_eq c2) c3 c4 ⟨⟨_,hown,?_⟩,he3⟩ (fun n hn=>.inl hn) fun n hn=>?_
 ·refine c7.set ?_ i (wI.mono fun a b=>c7.mono fun c d=>fx.move ye);exact(c7.same fun d hd=>.plain d (hp d hd)).setMany o (aL.mono fun c d=>fx.move ye)
 ·rw[←c2];exact(hK n hn).2
variable{P:Pv} {ops:Array Oper} {rest:List Oper} {fr aM:Fr} {Q:Fr→St→Prop} {ty:TypeId} {pp:String} {a:Array Edge} {g:Option (Nat×Bool)} {dst:Nat}
theorem aa.CS {t e:TypeId} (hH:Has N S st H) (hg:aH ops fr ⟨some dst,.call ⟨.builtin .len,#[xo],#[t]⟩,ty,pp,a,g⟩=some true) (hx:fr.ev xo=x) (hj:H[j]?=some (.deep ks x s vs)) (ht:P.cJ t=some (.slice e)) (hp:fr.put dst (.int .i64 (vs.length:Nat))=aM) (h:aa P ops rest aM st Q):aa P ops (⟨some dst,.call ⟨.builtin .len,#[xo],#[t]⟩,ty,pp,a,g⟩::rest) fr st Q:=by
 obtain⟨es,h1,h2⟩:=hH.Wy hj;exact aa.Q0 hg hx h1 ht (by rw[h2];exact hp) h
theorem aa.Fq {t e:TypeId} {io:Operand} {kk:IntKind} {aM:D→Fr} (hH:Has N S st H) (hg:aH ops fr ⟨some dst,.indexAddr t xo io,ty,pp,a,g⟩=some true) (hx:fr.ev xo=x) (hi:fr.ev io=.int kk (i:Nat)) (hj:H[j]?=some (.deep ks x s vs)) (ht:P.cJ t=some (.slice e)) (hs:cB P e=some s) (hr:i<vs.length) (hp:∀p,fr.put dst p=aM p) (h:∀p,qI x s i 0 p→aa P ops rest (aM p) st Q):aa P ops (⟨some dst,.indexAddr t xo io,ty,pp,a,g⟩::rest) fr st Q:=by
 obtain⟨⟨es,kZ,wI⟩,he3⟩:=(hH.ok j _ hj).1;have hlen:=wI.len
 cases kZ with
 |nul=>simp at hlen;omega
 |win k aG off es c hm hl hc he=>
  refine Qy hg rfl (d:=.ptr k aG (off+i*s)) (st1:=st) ?_ (hp _) (h _ ⟨k,aG,off,_,rfl,rfl⟩);simp only[ef,hx,hi,cm,ht,hs,Qz,St.mem_of hm,Option.isSome_some];rw[if_pos ⟨trivial,by omega,by omega,trivial⟩];rfl
theorem aa.sX {t:TypeId} {ao vo:Operand} {y v:D} {r:List D} (hH:Has N S st H) (hg:aH ops fr ⟨none,.store t ao vo,ty,pp,a,g⟩=some true) (ha:fr.ev ao=y) (hv:fr.ev vo=v) (hR:qI x s i o y) (iy:v.cells?=some cs) (hs:cB P t=some cs.length) (hj:H[j]?=some (.deep ks x s vs)) (hr:vs[i]?=some r) (hl:o+cs.length≤s) (hq:∀d∈cs,cv d=true) (hw:S.flr≤N∨refs cs=0) (h:∀ai,Has N S ai (H.set j (.deep ks x s (vs.set i (setMany r o cs))))→aa P ops rest fr ai Q):aa P ops (⟨none,.store t ao vo,ty,pp,a,g⟩::rest) fr st Q:=by
 obtain⟨k,aG,off,len,rfl,rfl⟩:=hR;obtain⟨ai,h1,h2⟩:=hH.aak hj hr hl hq hw;refine aa.N hg rfl (d:=.tup []) (st1:=ai) ?_ (h _ h2);simp only[ef,ha,hv,lu,iy,hs,if_pos trivial,h1];rfl
theorem ab.SG {l:List Oper} {d n loc tmp st} {Q:Out→Fr→St→Prop} (ws:List Nat) (F:(Nat→D)→Prop) (h1:aa P l.toArray l ⟨n,loc,[]⟩ st fun aM ai=>∃f tmp,aM=⟨n,aB loc ws f,tmp⟩∧ai=st∧F f) (h2:∀f tmp,F f→Q .next ⟨n,aB loc ws f,tmp⟩ st) (h0:g_ i dy=[]:=by rfl):ab P dy (.region i l.toArray d) ⟨n,loc,tmp⟩ st Q:=by
 refine ab.cH ?_ h0;unfold aa at h1⊢;obtain⟨aM,ai,h3,f,NQ,rfl,rfl,h4⟩:=h1;exact⟨_,_,h3,h2 _ _ h4⟩
theorem lN {n:Nat} {L loc:List D} {vf:List (Nat×D)} {ws:List Nat} {F:(Nat→D)→Prop} {st:St} (h:L=aB loc ws (fun k=>nth .bD L k)) (h2:F (fun k=>nth .bD L k)):∃(f:Nat→D) (tmp:List (Nat×D)),(⟨n,L,vf⟩:Fr)=⟨n,aB loc ws f,tmp⟩∧st=st∧F f:=⟨_,vf,by rw[←h],rfl,h2⟩
theorem aa.T6 {t1 t2:TypeId} {yo:Operand} {x y z:Int} (hg:aH ops fr ⟨some dst,.call ⟨.builtin .min,#[xo,yo],#[t1,t2]⟩,ty,pp,a,g⟩=some true) (hx:fr.ev xo=.int .i64 x) (hy:fr.ev yo=.int .i64 y) (hz:min x y=z) (hp:fr.put dst (.int .i64 z)=aM) (h:aa P ops rest aM st Q):aa P ops (⟨some dst,.call ⟨.builtin .min,#[xo,yo],#[t1,t2]⟩,ty,pp,a,g⟩::rest) fr st Q:=
 aa.L6 (t1:=t1) (t2:=t2) hg hx hy (by rw[hz];exact hp) h
theorem Has.xQ {N:Nat} {S:St} {H:List bJ} {es es':List (List D)} (h:Has N S s0 (.aO x s es::H)) (hS:S2.bs=s0.bs) (h2:Has N S2 st2 (.aO x s es'::H)):Has N S ⟨st2.bs.take s0.bs.length,s0.flr,s0.ro⟩ (.aO x s es'::H):=by
 refine h.vN hS h2 fun i e hi=>?_
 cases i with
 |zero=>simp only[ο,ψ.injEq] at hi;subst hi;exact⟨_,rfl,fun k hk=>hk⟩
 |succ i=>exact⟨e,hi,fun k hk=>hk⟩
theorem Has.xR {N:Nat} {S:St} {H:List bJ} {b b':iI} {Tx:List (List D)} (h:Has N S s0 (.box k b::.deep ks x s vs::H)) (hS:S2.bs=s0.bs) (h2:Has N S2 st2 (.box k b'::.deep ks x s Tx::H)):Has N S ⟨st2.bs.take s0.bs.length,s0.flr,s0.ro⟩ (.box k b'::.deep ks x s Tx::H):=by
 refine h.vN hS h2 fun i e hi=>?_
 match i with
 |0=>simp only[ο,ψ.injEq] at hi;subst hi;exact⟨_,rfl,fun k hk=>hk⟩
 |1=>simp only[Ψ,ο,ψ.injEq] at hi;subst hi;exact⟨_,rfl,fun k hk=>hk⟩
 |i+2=>exact⟨e,hi,fun k hk=>hk⟩
theorem Has.LK {N:Nat} {S st:St} {H:List bJ} {a b c d e:bJ} (h:Has N S st (a::b::c::d::e::H)):Has N S st (b::c::d::e::a::H):=by
 refine h.sub (fun i=>if i=4 then 0 else if i<4 then i+1 else i) (fun i j hij=>?_) (fun i x hi=>?_)
 ·skip
  split at hij<;>split at hij<;>(try split at hij)<;>(try split at hij)<;>omega
 ·match i,hi with
  |0,hi=>exact hi
  |1,hi=>exact hi
  |2,hi=>exact hi
  |3,hi=>exact hi
  |4,hi=>exact hi
  |i+5,hi=>
   have h1:¬(i+5=4):=by omega
   have h2:¬(i+5<4):=by omega
   simp only[if_neg h1,if_neg h2];exact hi
theorem Has.l9 {fr:Fr} {a u u2:Nat} {t:TypeId} {ar:Bool} {c:List D} {d e e2:D} (hH:Has N S st H) (ha:fr.get a=.ptr k aG off) (hj:H[j]?=some (.box k (.mem aG ar c))) (hd:dW P t (c.drop off)=some d) (he:fr.get u=e) (wI:fr.get u2=e2):kz P fr st [.cell a t,.tmp u,.tmp u2]=some [d,e,e2]:=by
 simp only[kz,gO,ha,St.mem_of (hH.at hj),Qz,hd,Option.map_some,he,wI]
theorem ab.kE {c1 c2:Code} {fr:Fr} {st:St} {Q:Out→Fr→St→Prop} (M:Fr→St→Prop) (h1:ab P dy c1 fr st (bj P dy c2 (FT M Q))) (h2:∀aM ai,M aM ai→Q .next aM ai):ab P dy c1 fr st (bj P dy c2 Q):=
 h1.mono fun o aM ai h=>by
  cases o with
  |next=>exact QL M h h2
  |exit i=>exact h
  |ret=>exact h
end Go.V
namespace Go.Proofs.YtbdnabmmlbiomaaGreat
open Go.V Go
def zN (fr:Go.V.Fr) (k:Nat):Go.V.D:=Go.V.nth .bD fr.loc k
variable{st S s0:St}{L n k N j:Nat}{s:fU}{H:List bJ}{x bZ:D}{l:List ej}{gs:List (Nat×Nat)}{cw:List Int}{op mn mx cap kids:Int}{lz:Bool}{a:List Rg}
theorem CL {kn:Bool} {aG off len s:Nat}:bn st L kn n (.win k aG off len s)=bn st L false n (.win k aG off len s):=by
 cases n<;>rfl
theorem CJ (l:List Rg):(l.map ax).map (·.map o_)=l.map ax:=by
 rw[QK];rfl
theorem y3 (l:List Rg):∀e∈l.map ax,∀d∈e,nz d=true:=by
 intro e he d hd;obtain⟨x,_,rfl⟩:=Ω.1 he;simp only[ax,η,ι,or_false] at hd
 rcases hd with rfl|rfl<;>rfl
theorem pP {l:List Rg} (hH:Has N S st H) (hj:H[j]?=some (.aO x 2 (l.map ax))) (hx:∀k,x.ref=k+1→L≤k) (hn:3≤n):bn st L false n x=some (bS l):=by
 rw[hH.wh hj hx (y3 l) hn,CJ,gW]
def WC (gs:List (Nat×Nat)) (s s':fU) (d1:D) (b:Bool):Prop:=
 FR gs s s' d1 b∨(s'=s∧d1=.nul∧b=false)
theorem A7 (bA:l0 gs cw) (he:s.e=0) (hi:s.i<gs.length) (hH:Has N S s0 (.box k (.mem 0 false (bm gs bZ s))::.aO bZ 1 (cw.map aw)::H)):
  ∃d ai,Ev pv 197 [.ptr k 0 0] s0 d ai∧∃(d1:D) (b:Bool) (s':fU),d=.tup [d1,.bool b]∧WC gs s s' d1 b∧Has N S ai (.box k (.mem 0 false (bm gs bZ s'))::.aO bZ 1 (cw.map aw)::H):=by
 have uH:=bA.gl;have ib:=bA.pl;refine Ev.iD rfl VB rfl rfl rfl ?_;dsimp only[u3,u4,μ,ν,δ,w1,w2];have cX:=hH;have hH:=hH.c8;have cL:(ah .rw s0).bs=s0.bs:=rfl;generalize ah .rw s0=S2 at*;have MO:Arg N S2 2 (fP gs) (gs.map bo):=Arg.pure (fun st=>eH st gs)
 obtain⟨g,hg⟩:∃g,gs[s.i]?=some g:=⟨gs[s.i]'hi,φ _⟩
 have gB:(gs.map bo)[s.i]?=some (bo g):=by rw[Γ,hg];rfl
 refine qq<|qj fun K hK=>qm ?_;refine qm ?_;refine qe hK<|qq<|qq<|qj fun K hK=>qm ?_;refine qm ?_;refine qg ?_;refine qp (o:=2) ?_;refine ql hH av ?_;obtain⟨_,st,aL,rfl,hH⟩:=Ax (s:=s) s.i hi hH;refine qv aL ?_;refine qe hK ?_;refine qc (fun hb=>?_) (fun hb=>?_)<;>try simp only[cs] at hb
 ·refine qq<|qj fun K hK=>qm ?_;refine qm ?_;refine qg ?_;refine qp (o:=2) ?_;refine ql hH av ?_;obtain⟨_,st,aL,rfl,hH⟩:=dH (s:=s) s.i 4 (by omega) hH;refine qv aL ?_;refine qe hK<|qq<|qj fun K hK=>qm ?_;refine qm ?_;refine qe hK ?_;obtain⟨h1,h2,h3,h4⟩:=dV (cw:=cw) (s:=s) (i:=s.i) (e:=4) he (by decide);refine κ ⟨rx,_,_,_,rfl,au (rfl),?_⟩;exact⟨_,_,_,rfl,.inl ⟨h3,h4,by rw[h2];exact τ _,by rw[h2];omega,.inl rfl,.inl h1⟩,cX.aD cL hH⟩
 ·refine θ<|qq<|qj fun K hK=>qm ?_;refine qg ?_;refine qp (o:=0) ?_;refine ql hH av ?_;refine qm ?_;refine qg ?_;refine qp (o:=2) ?_;refine ql hH av ?_;refine qr fun S3 CC=>?_;refine qf (fo:=0) fun p26 Yp=>?_;refine qR ?_;refine qm ?_;refine qe hK<|qq<|qj fun K hK=>qm ?_;refine qe hK<|Θ<|qq<|qj fun K hK=>qg ?_;refine qm ?_;refine qe hK ?_;refine Qw (by rfl) (fun q1=>?_) (fun q1=>?_)<;>try simp only[beq_iff_eq,beq_eq_false_iff_ne,ne_eq] at q1
  ·refine qq<|qj fun K hK=>qm ?_;obtain⟨_,st,aL,d1,b,s',rfl,hP,hH⟩:=AZ (s:=s) bA he hi hH;refine qv aL ?_;refine qg ?_;refine qg ?_;refine qm ?_;refine qm ?_;refine qe hK ?_
   rcases hP.2.2.2.2.1 with rfl|⟨a,rfl,_⟩
   ·refine κ ⟨rx,_,_,_,rfl,au (rfl),?_⟩;exact⟨_,_,_,rfl,.inl hP,cX.aD cL hH⟩
   ·refine κ ⟨rx,_,_,_,rfl,au (rfl),?_⟩;exact⟨_,_,_,rfl,.inl hP,cX.aD cL hH⟩
  ·refine qq<|qq<|qj fun K hK=>qg ?_;refine qm ?_;refine qe hK ?_
   by_cases SZ:((g.1:Nat):Int)=91
   ·refine qD rfl (by simp[SZ]) ?_;refine θ<|qD rfl (by simp[SZ]) ?_;refine qq<|qj fun K hK=>qm ?_;refine qm ?_;refine qe hK<|κ ⟨rx,_,_,_,rfl,au (rfl),?_⟩;exact⟨_,_,_,rfl,.inr ⟨rfl,rfl,rfl⟩,cX.aD cL hH⟩
   refine qE rfl (by simp[SZ]) ?_;refine qq<|qj fun K hK=>qg ?_;refine qm ?_;refine qe hK ?_
   by_cases Xn:((g.1:Nat):Int)=93
   ·refine qD rfl (by simp[Xn]) ?_;refine θ<|qD rfl (by simp[Xn]) ?_;refine qq<|qj fun K hK=>qm ?_;refine qm ?_;refine qe hK<|κ ⟨rx,_,_,_,rfl,au (rfl),?_⟩;exact⟨_,_,_,rfl,.inr ⟨rfl,rfl,rfl⟩,cX.aD cL hH⟩
   refine qE rfl (by simp[Xn]) ?_;refine qj fun K hK=>qg ?_;refine qm ?_;refine qe hK ?_
   by_cases q45:((g.1:Nat):Int)=45
   ·refine qD rfl (by simp[q45]) ?_;refine qq<|qj fun K hK=>qm ?_;refine qm ?_;refine qe hK<|κ ⟨rx,_,_,_,rfl,au (rfl),?_⟩;exact⟨_,_,_,rfl,.inr ⟨rfl,rfl,rfl⟩,cX.aD cL hH⟩
   refine qE rfl (by simp[q45]) ?_;refine qq<|qj fun K hK=>qm ?_;refine qg ?_;refine qp (o:=2) ?_;refine ql hH av ?_;refine qA ?_;refine qg ?_;refine qp (o:=2) ?_;refine qT hH av fun st hH=>?_;dsimp only[u2,u1,u3,u4,setMany,u5,u6,ς,δ,bm,bo,aw,ax] at hH;refine qe hK<|qq<|qj fun K hK=>qm ?_;refine qm ?_;refine QC (qs:=[(0,_),(1,_)]) rfl rfl rfl rfl ⟨rfl,(ev rfl),(by rfl),rfl,(ev rfl),(by rfl),trivial⟩ (by intro q hq;simp only[η,ι,or_false] at hq;rcases hq with rfl|rfl<;>exact⟨rfl,by exact ε rfl⟩) (by show π _ [_,_] _=_;dsimp only[ρ,ω,u2,u1]<;>rfl) (ae rfl _) ?_;refine qh (s:=2) (vs:=[_]) hH fun k39 st abH hH=>?_;refine qm ?_;refine qm ?_;refine qe hK ?_;have hH:Has N S2 st (.aO (.win k39 0 0 1 2) 2 (([((g.1:Nat),(g.1:Nat))]:List Rg).map ax)::.box k (.mem 0 false (bm gs bZ {s with i:=s.i+1}))::.aO bZ 1 (cw.map aw)::H):=hH;have hfz:=pP hH av (L:=s0.bs.length) (n:=15) (fun k hk=>by simp only[Qj] at hk;rw[←cL];omega) (by decide)
   have YS:bn st s0.bs.length true 16 (tC [.win k39 0 0 1 2,.bool true])=some (.tup [bS [(((g.1:Nat):Int),((g.1:Nat):Int))],.bool true]):=by
    show(fN (bn st s0.bs.length true 15) [.win k39 0 0 1 2,.bool true]).map D.tup=_;simp only[fN,CL,hfz];rfl
   refine κ ⟨rx,_,_,_,rfl,au YS,⟨_,_,{s with i:=s.i+1},rfl,.inl ⟨rfl,rfl,?_,?_,.inr ⟨_,rfl,by simp⟩,.inr ⟨he,?_,_,rfl,?_,?_⟩⟩,cX.aD cL (hH.drop 1)⟩⟩
   ·show s.i≤s.i+1;omega
   ·show s.i+1≤_;omega
   ·show s.i<s.i+1;omega
   ·simp
   ·simp
def WE (gs:List (Nat×Nat)) (s s':fU) (d:D):Prop:=
 s'.o=s.o∧s'.g=s.g∧s.i≤s'.i∧s'.i≤gs.length∧∃a:List Rg,d=bS a∧a.length≤8∧(s'.e≠0∨s'.e=0∧s.i<s'.i)
theorem iv {r:Int}:(dA gs s r).o=s.o∧(dA gs s r).g=s.g∧(dA gs s r).e=s.e∧s.i≤(dA gs s r).i∧(s.i≤gs.length→(dA gs s r).i≤gs.length):=by
 unfold dA
 split
 ·rename_i h;have:=sm h;exact⟨rfl,rfl,rfl,by show s.i≤s.i+1;omega,fun _=>by show s.i+1≤_;omega⟩
 ·exact⟨rfl,rfl,rfl,τ _,fun h=>h⟩
theorem Me (bA:l0 gs cw) (he:s.e=0) (hi:s.i<gs.length) (hH:Has N S s0 (.box k (.mem 0 false (bm gs bZ s))::.aO bZ 1 (cw.map aw)::H)):
  ∃d ai,Ev pv 181 [.ptr k 0 0] s0 d ai∧∃(s':fU),WE gs s s' d∧Has N S ai (.box k (.mem 0 false (bm gs bZ s'))::.aO bZ 1 (cw.map aw)::H):=by
 have uH:=bA.gl;have ib:=bA.pl;refine Ev.iD rfl VE rfl rfl rfl ?_;dsimp only[u3,u4,μ,ν,δ,w1,w2];have cX:=hH;have hH:=hH.c8;have cL:(ah .rw s0).bs=s0.bs:=rfl;generalize ah .rw s0=S2 at*;have MO:Arg N S2 2 (fP gs) (gs.map bo):=Arg.pure (fun st=>eH st gs);refine qq<|qj fun K hK=>qm ?_;refine qe hK<|qq<|qj fun K hK=>qm ?_;refine qg ?_;refine qp (o:=2) ?_;refine ql hH av ?_;refine qm ?_;refine qe hK<|qq<|qj fun K hK=>qm ?_;obtain⟨_,st,aL,d1,b,s1,rfl,hP,hH⟩:=A7 (s:=s) bA he hi hH;refine qv aL ?_;refine qm ?_;refine qg ?_;refine qg ?_;refine qm ?_;refine qm ?_;refine qe hK<|qq<|qq<|qj fun K hK=>qm ?_;refine qg ?_;refine qp (o:=5) ?_;refine ql hH av ?_;refine qg ?_;refine qe hK ?_
 rcases hP with hP|⟨e1,rfl,rfl⟩
 ·obtain⟨p1,p2,p3,p4,p5,p6⟩:=hP
  rcases p6 with p6|⟨p6,p7,a,rfl,p8,p9⟩
  ·refine qD rfl (by simp[p6]) ?_;refine qq<|qj fun K hK=>qm ?_;refine qe hK<|κ ⟨rx,_,_,_,rfl,au (rfl),?_⟩;exact⟨s1,⟨p1,p2,p3,p4,[],rfl,by simp,.inl p6⟩,cX.aD cL hH⟩
  ·obtain⟨q,a',rfl⟩:∃q a',a=q::a':=Φ p9;refine qE rfl (by simp[p6]) ?_;refine θ<|qq<|qq<|qj fun K hK=>qm ?_;refine Qy (d:=.bool false) (st1:=_) rfl rfl rfl (ae rfl _) ?_;refine qe hK<|qC ?_;refine θ ?_;obtain⟨k1,k2,k3,k4,k5⟩:=iv (gs:=gs) (s:=s1) (r:=45);have k5:=k5 p4;refine qq<|qq<|qj fun K hK=>qm ?_;obtain⟨_,st,aL,rfl,hH⟩:=eO (s:=s1) (by omega) 45 hH;refine qv aL ?_;refine qg ?_;refine qe hK ?_;generalize dA gs s1 45=s2 at*
   cases hb:lP gs s1.i 45 with
   |false=>
    refine qB ?_;refine qq<|qj fun K hK=>qm ?_;refine qm ?_;refine qe hK<|κ ⟨rx,_,_,_,rfl,au (rfl),?_⟩;exact⟨s2,⟨k1.trans p1,k2.trans p2,by omega,k5,q::a',rfl,p8,.inr ⟨k3.trans p6,by omega⟩⟩,cX.aD cL hH⟩
   |true=>
    refine qC ?_;refine θ<|qq<|qj fun K hK=>qm ?_;refine qe hK<|qq<|qj fun K hK=>qm ?_;refine qe hK<|qq<|qq<|qj fun K hK=>qm ?_;refine qg ?_;refine qp (o:=2) ?_;refine ql hH av ?_;refine qm ?_;refine qg ?_;refine qp (o:=0) ?_;refine ql hH av ?_;refine qn ?_;simp only[ξ];refine qg ?_;refine qe hK<|QL (fun fr st=>∃(d2:D) (two:Bool) (s3:fU) (tmp:List (Nat×D)),fr=⟨8,[.ptr k 0 0,zN fr 1,zN fr 2,.int .i64 (s.i:Nat),bS (q::a'),.bool b,d2,.bool two],tmp⟩∧Has N S2 st (.box k (.mem 0 false (bm gs bZ s3))::.aO bZ 1 (cw.map aw)::H)∧(s3.o=s.o)∧(s3.g=s.g)∧(s2.i≤s3.i)∧(s3.i≤gs.length)∧(s3.e≠0∨s3.e=0∧(two=false∨∃a2:List Rg,d2=bS a2∧a2≠[]))) ?_ ?_
    ·refine Qw (by rfl) (fun hlt=>?_) (fun hlt=>?_)<;>try simp only[decide_eq_true_eq,decide_eq_false_iff_not] at hlt
     ·refine qj fun K hK=>qm ?_;obtain⟨_,st,aL,d2,two,s3,rfl,hP2,hH⟩:=A7 (s:=s2) bA (k3.trans p6) (by omega) hH;refine qv aL ?_;refine qm ?_;refine qg ?_;refine qg ?_;refine qm ?_;refine qm ?_;refine qe hK ?_
      rcases hP2 with⟨r1,r2,r3,r4,r5,r6⟩|⟨e1,rfl,rfl⟩
      ·refine⟨d2,two,s3,_,rfl,hH,r1.trans (k1.trans p1),r2.trans (k2.trans p2),r3,r4,?_⟩
       rcases r6 with r6|⟨r6,r7,a2,rfl,r8,r9⟩
       ·exact .inl r6
       ·refine .inr ⟨r6,?_⟩
        cases two with
        |false=>exact .inl rfl
        |true=>exact .inr ⟨a2,rfl,r9⟩
      ·exact⟨.nul,false,s3,_,rfl,hH,by rw[e1];exact k1.trans p1,by rw[e1];exact k2.trans p2,by rw[e1];exact τ _,by rw[e1];exact k5,.inr ⟨by rw[e1];exact k3.trans p6,.inl rfl⟩⟩
     ·refine θ ?_;exact⟨.nul,false,s2,_,rfl,hH,k1.trans p1,k2.trans p2,τ _,k5,.inr ⟨k3.trans p6,.inl rfl⟩⟩
    ·rintro fr st ⟨d2,two,s3,tmp,hfr,hH,h1,h2,h3,h4,h5⟩;rw[hfr];clear hfr;generalize zN fr=ee;clear fr
     rcases h5 with h5|⟨h5,h6⟩
     ·have bk:(s3.e==0)=false:=by simpa using h5
      refine qq<|qq<|qj fun K hK=>qm ?_;refine qg ?_;refine qp (o:=5) ?_;refine ql hH av ?_;refine qg ?_;refine qm ?_;refine qs ?_ (hg:=wn bk);refine qs ?_ (hg:=wn bk);refine qs ?_ (hg:=wn bk);refine qs ?_;refine qs ?_;refine qs ?_ (hg:=wn bk);refine qs ?_ (hg:=wn bk);refine qs ?_;refine qs ?_;refine qs ?_;refine qs ?_;refine qs ?_;refine qs ?_;refine qs ?_;refine qs ?_;refine qs ?_;refine qs ?_ (hg:=wn bk);refine qu bk ?_;refine qe hK<|qC ?_;refine θ<|qq<|qq<|qj fun K hK=>qm ?_;refine qg ?_;refine qp (o:=5) ?_;refine ql hH av ?_;refine qg ?_;refine qe hK<|qD rfl (by simp[h5]) ?_;refine qq<|qj fun K hK=>qm ?_;refine qe hK<|κ ⟨rx,_,_,_,rfl,au (rfl),?_⟩;exact⟨s3,⟨h1,h2,by omega,h4,[],rfl,by simp,.inl h5⟩,cX.aD cL hH⟩
     ·have bk:(s3.e==0)=true:=by simpa using h5
      cases b with
      |false=>
       have cV:(!false)=true:=rfl;refine qq<|qq<|qj fun K hK=>qm ?_;refine qg ?_;refine qp (o:=5) ?_;refine ql hH av ?_;refine qg ?_;refine qm ?_;refine qm ?_ (hg:=wi bk);refine qg ?_ (hg:=wi bk);refine qm ?_ (hg:=wi bk);refine qs ?_ (hg:=wn cV);refine qs ?_ (hg:=wn cV);refine QP (aq rfl rfl rfl bk) rfl cV (ae rfl _) ?_;refine qm ?_ (hg:=wi bk);refine qs ?_;refine qs ?_;refine qs ?_;refine qs ?_;refine qs ?_;refine qs ?_;refine qs ?_;refine qs ?_;refine qs ?_;refine qg ?_ (hg:=wi bk);refine qt bk ?_;refine qe hK<|qB ?_;refine qj fun K hK=>qm ?_;refine qm ?_;obtain⟨_,st,aL,rfl,hH⟩:=dH (s:=s3) s.i 4 (by omega) hH;refine qv aL ?_;refine qe hK ?_;obtain⟨w1,w2,w3,w4⟩:=dV (cw:=cw) (s:=s3) (i:=s.i) (e:=4) h5 (by decide);generalize jC cw s3 s.i 4=s4 at*;refine qq<|qq<|qj fun K hK=>qm ?_;refine qg ?_;refine qp (o:=5) ?_;refine ql hH av ?_;refine qg ?_;refine qe hK<|qD rfl (by simp[w1]) ?_;refine qq<|qj fun K hK=>qm ?_;refine qe hK<|κ ⟨rx,_,_,_,rfl,au (rfl),?_⟩;exact⟨s4,⟨w3.trans h1,w4.trans h2,by omega,by omega,[],rfl,by simp,.inl w1⟩,cX.aD cL hH⟩
      |true=>
       have cV:(!true)=false:=rfl
       cases two with
       |false=>
        have bG:(!false)=true:=rfl;refine qq<|qq<|qj fun K hK=>qm ?_;refine qg ?_;refine qp (o:=5) ?_;refine ql hH av ?_;refine qg ?_;refine qm ?_;refine qm ?_ (hg:=wi bk);refine qg ?_ (hg:=wi bk);refine qm ?_ (hg:=wi bk);refine qm ?_ (hg:=wi cV);refine qg ?_ (hg:=wi cV);refine QD (aq rfl rfl rfl bk) rfl cV (ae rfl _) ?_;refine qm ?_ (hg:=wi bk);refine qs ?_ (hg:=wn bG);refine qs ?_ (hg:=wn bG);refine qs ?_ (hg:=wn bG);refine qs ?_ (hg:=wn bG);refine qs ?_ (hg:=wn bG);refine qs ?_ (hg:=wn bG);refine qs ?_ (hg:=wn bG);refine qs ?_ (hg:=wn bG);refine qs ?_ (hg:=wn bG);refine QP (aq rfl rfl rfl bk) rfl bG (ae rfl _) ?_;refine qt bk ?_;refine qe hK<|qB ?_;refine qj fun K hK=>qm ?_;refine qm ?_;obtain⟨_,st,aL,rfl,hH⟩:=dH (s:=s3) s.i 4 (by omega) hH;refine qv aL ?_;refine qe hK ?_;obtain⟨w1,w2,w3,w4⟩:=dV (cw:=cw) (s:=s3) (i:=s.i) (e:=4) h5 (by decide);generalize jC cw s3 s.i 4=s4 at*;refine qq<|qq<|qj fun K hK=>qm ?_;refine qg ?_;refine qp (o:=5) ?_;refine ql hH av ?_;refine qg ?_;refine qe hK<|qD rfl (by simp[w1]) ?_;refine qq<|qj fun K hK=>qm ?_;refine qe hK<|κ ⟨rx,_,_,_,rfl,au (rfl),?_⟩;exact⟨s4,⟨w3.trans h1,w4.trans h2,by omega,by omega,[],rfl,by simp,.inl w1⟩,cX.aD cL hH⟩
       |true=>
        have bG:(!true)=false:=rfl
        obtain⟨a2,rfl,h7⟩:∃a2:List Rg,d2=bS a2∧a2≠[]:=by
         rcases h6 with h6|h6
         ·cases h6
         ·exact h6
        obtain⟨q2,a2',rfl⟩:∃q a',a2=q::a':=Φ h7;have S9:=(jX (q::a')).arg N S2;have EN:=(jX (q2::a2')).arg N S2;have S_:((q::a').map ax)[0]?=some (ax q):=rfl;have gB:((q2::a2').map ax)[0]?=some (ax q2):=rfl;refine qq<|qq<|qj fun K hK=>qm ?_;refine qg ?_;refine qp (o:=5) ?_;refine ql hH av ?_;refine qg ?_;refine qm ?_;refine qm ?_ (hg:=wi bk);refine qg ?_ (hg:=wi bk);refine qm ?_ (hg:=wi bk);refine qm ?_ (hg:=wi cV);refine qg ?_ (hg:=wi cV);refine QD (aq rfl rfl rfl bk) rfl cV (ae rfl _) ?_;refine qm ?_ (hg:=wi bk);refine qm ?_ (hg:=wi bG);refine qr (fun p60 abd=>?_) (hg:=wi bG);refine qf (fo:=0) (fun p61 abc=>?_) (hg:=wi bG);refine qR ?_ (hg:=wi bG);refine qm ?_ (hg:=wi bG);refine qr (fun Xp RM=>?_) (hg:=wi bG);refine qf (fo:=0) (fun p65 Yk=>?_) (hg:=wi bG);refine qR ?_ (hg:=wi bG);refine qg ?_ (hg:=wi bG);refine QD (aq rfl rfl rfl bk) rfl bG (ae rfl _) ?_;refine qt bk ?_;refine qe hK ?_;refine Qw (by rfl) (fun Ti=>?_) (fun Ti=>?_)<;>try simp only[decide_eq_true_eq,decide_eq_false_iff_not] at Ti
        ·refine qj fun K hK=>qm ?_;refine qm ?_;obtain⟨_,st,aL,rfl,hH⟩:=dH (s:=s3) s.i 4 (by omega) hH;refine qv aL ?_;refine qe hK ?_;obtain⟨w1,w2,w3,w4⟩:=dV (cw:=cw) (s:=s3) (i:=s.i) (e:=4) h5 (by decide);generalize jC cw s3 s.i 4=s4 at*;refine qq<|qq<|qj fun K hK=>qm ?_;refine qg ?_;refine qp (o:=5) ?_;refine ql hH av ?_;refine qg ?_;refine qe hK<|qD rfl (by simp[w1]) ?_;refine qq<|qj fun K hK=>qm ?_;refine qe hK<|κ ⟨rx,_,_,_,rfl,au (rfl),?_⟩;exact⟨s4,⟨w3.trans h1,w4.trans h2,by omega,by omega,[],rfl,by simp,.inl w1⟩,cX.aD cL hH⟩
        ·refine θ<|qq<|qq<|qj fun K hK=>qm ?_;refine qg ?_;refine qp (o:=5) ?_;refine ql hH av ?_;refine qg ?_;refine qe hK<|qE rfl (by simp[h5]) ?_;refine θ<|qq<|qj fun K hK=>qm ?_;refine qr fun WH Mx=>?_;refine qf (fo:=0) fun p80 Yh=>?_;refine qR ?_;refine qm ?_;refine qr fun p83 aa2=>?_;refine qf (fo:=0) fun p84 Yf=>?_;refine qR ?_;refine QC (qs:=[(0,_),(1,_)]) rfl rfl rfl rfl ⟨rfl,(ev rfl),(by rfl),rfl,(ev rfl),(by rfl),trivial⟩ (by intro q hq;simp only[η,ι,or_false] at hq;rcases hq with rfl|rfl<;>exact⟨rfl,by exact ε rfl⟩) (by show π _ [_,_] _=_;dsimp only[ρ,ω,u2,u1]<;>rfl) (ae rfl _) ?_;refine qh (s:=2) (vs:=[_]) hH fun k87 st abu hH=>?_;dsimp only[u2,u1,u3,u4,setMany,u5,u6,ς,δ,bm,bo,aw,ax] at hH;refine qm ?_;refine qe hK ?_;have hH:Has N S2 st (.aO (.win k87 0 0 1 2) 2 (([(q.1,q2.1)]:List Rg).map ax)::.box k (.mem 0 false (bm gs bZ s3))::.aO bZ 1 (cw.map aw)::H):=hH;have hfz:=pP hH av (L:=s0.bs.length) (n:=16) (fun k hk=>by simp only[Qj] at hk;rw[←cL];omega) (by decide);refine κ ⟨rx,_,_,_,rfl,au hfz,⟨s3,⟨h1,h2,by omega,h4,[(q.1,q2.1)],rfl,by simp,.inr ⟨h5,by omega⟩⟩,cX.aD cL (hH.drop 1)⟩⟩
 ·have e2:s1.e=0:=by rw[e1];exact he
  have e3:s1.i=s.i∧s1.o=s.o∧s1.g=s.g:=by rw[e1];exact⟨rfl,rfl,rfl⟩
  clear e1;refine qE rfl (by simp[e2]) ?_;refine θ<|qq<|qq<|qj fun K hK=>qm ?_;refine Qy (d:=.bool true) (st1:=_) rfl rfl rfl (ae rfl _) ?_;refine qe hK<|qB ?_;refine qq<|qj fun K hK=>qm ?_;refine qm ?_;obtain⟨_,st,aL,rfl,hH⟩:=dH (s:=s1) s.i 4 (by omega) hH;refine qv aL ?_;refine qe hK ?_;obtain⟨w1,w2,w3,w4⟩:=dV (cw:=cw) (s:=s1) (i:=s.i) (e:=4) e2 (by decide);refine qq<|qj fun K hK=>qm ?_;refine qe hK<|κ ⟨rx,_,_,_,rfl,au (rfl),?_⟩;exact⟨_,⟨by omega,by omega,by omega,by omega,[],rfl,by simp,.inl w1⟩,cX.aD cL hH⟩
def zM (fr:Go.V.Fr) (k:Nat):Go.V.D:=Go.V.nth .bD fr.loc k
def wL (n:ej):Prop:=n.rd=bS n.rs∧n.rs.length≤1048576∧n.kids≤1048576
def vD (op mn mx:Int) (lz:Bool) (cap kids:Int) (a:List Rg):ej:=⟨op,bS a,a,mn,mx,lz,cap,kids⟩
def wE (l:List ej):D:=.sl ((l.map bH).map (jR 7))
theorem LX (l:List ej):∀e∈l.map bH,e.length=7:=by
 intro e he;obtain⟨x,_,rfl⟩:=Ω.1 he;rfl
theorem oS (h:∀n∈l,wL n):∀e∈l.map bH,∀d∈e,cv d=true:=by
 intro e he d hd;obtain⟨n,hn,rfl⟩:=Ω.1 he;have hr:=(h n hn).1;simp only[bH,hr,η,ι,or_false] at hd
 rcases hd with rfl|rfl|rfl|rfl|rfl|rfl|rfl<;>rfl
theorem uh (h:∀n∈l,wL n):dr (wE l) 7 (l.map bH):=dr.frozen (LX l) (oS h)
theorem T3 (h:∀n∈l,wL n) (hl:l.length≤1048576):(⟨wE l,l⟩:Nl).ok:=by
 refine⟨uh h,fun n hn=>?_,hl⟩;obtain⟨h1,h2,h3⟩:=h n hn;exact⟨by rw[h1];exact jX _,h2,by omega⟩
theorem vB (h:∀n∈l,wL n):(l.map bH).map (·.map o_)=l.map bH:=by
 rw[QK];refine List.map_congr_left fun n hn=>?_;have hr:=(h n hn).1;show(bH n).map o_=bH n;unfold bH;rw[hr];rfl
theorem rQ (h:∀n∈l,wL n):∀e∈l.map bH,∀d∈e,nz d=true:=by
 intro e he d hd;have:=oS h e he d hd
 cases d<;>first|rfl|exact this
theorem jw {es:List (List D)} (hH:Has N S st H) (hj:H[j]?=some (.aO x 7 es)) (he:es.map (·.map o_)=l.map bH) (ht:∀e∈es,∀d∈e,nz d=true) (hx:∀k,x.ref=k+1→L≤k) (hn:3≤n):bn st L false n x=some (wE l):=by
 rw[hH.wh hj hx ht hn,he];rfl
theorem jx {w:D} (hH:Has N S st H) (hj:H[j]?=some (.aO x 7 [[.int .i64 op,w,.int .i64 mn,.int .i64 mx,.bool lz,.int .i64 cap,.int .i64 kids]])) (hw:w=bS a∨w=.nul∧a=[]) (hx:∀k,x.ref=k+1→L≤k):bn st L false 16 x=some (wE [vD op mn mx lz cap kids a]):=by
 refine jw hH hj ?_ (fun e he d hd=>?_) hx (by decide)
 ·rcases hw with rfl|⟨rfl,rfl⟩<;>rfl
 ·simp only[η,ι,or_false] at he;subst he;simp only[η,ι,or_false] at hd
  rcases hw with rfl|⟨rfl,rfl⟩<;>rcases hd with rfl|rfl|rfl|rfl|rfl|rfl|rfl<;>rfl
theorem Ep (h:a.length≤1048576) (hk:kids≤1048576):∀n∈[vD op mn mx lz cap kids a],wL n:=by
 intro n hn;simp only[η,ι,or_false] at hn;subst hn;exact⟨rfl,h,hk⟩
def wC (gs:List (Nat×Nat)) (s s':fU) (d:D):Prop:=
 s'.o=s.o∧s'.g≤4∧s.i≤s'.i∧s'.i≤gs.length∧∃l:List ej,d=wE l∧(∀n∈l,wL n)∧l.length≤4*(s'.i-s.i)+1
def jO (gs:List (Nat×Nat)) (s s':fU) (d:D) (c:Nat):Prop:=
 s'.o=s.o∧s'.g≤4∧s.i≤s'.i∧s'.i≤gs.length∧∃l:List ej,d=wE l∧(∀n∈l,wL n)∧l.length≤4*(s'.i-s.i)+1∧(s'.e≠0∨s'.e=0∧l.length+c≤4*(s'.i-s.i))
theorem gY {s':fU} {c:Nat} (h1:s'.o=s.o) (h2:s'.g≤4) (h3:s.i≤s'.i) (h4:s'.i≤gs.length) (h5:s'.e≠0):jO gs s s' (.sl []) c:=
 ⟨h1,h2,h3,h4,[],rfl,fun n hn=>(by cases hn),by simp,.inl h5⟩
theorem Fx (bA:l0 gs cw) (he:s.e=0) (hi:s.i<gs.length) (hg:s.g≤4) (hH:Has N S s0 (.box k (.mem 0 false (bm gs bZ s))::.aO bZ 1 (cw.map aw)::H)):
  ∃d ai,Ev pv 168 [.ptr k 0 0] s0 d ai∧∃(s':fU),jO gs s s' d 2∧Has N S ai (.box k (.mem 0 false (bm gs bZ s'))::.aO bZ 1 (cw.map aw)::H):=by
 have uH:=bA.gl;have ib:=bA.pl;refine Ev.iD rfl VM rfl rfl rfl ?_;dsimp only[u3,u4,μ,ν,δ,w1,w2];have cX:=hH;have hH:=hH.c8;have cL:(ah .rw s0).bs=s0.bs:=rfl;generalize ah .rw s0=S2 at*;have MO:Arg N S2 2 (fP gs) (gs.map bo):=Arg.pure (fun st=>eH st gs);refine qq<|qj fun K hK=>qm ?_;refine qe hK<|qq<|qj fun K hK=>qm ?_;refine qg ?_;refine qp (o:=2) ?_;refine ql hH av ?_;refine qm ?_;refine qe hK<|qq<|qj fun K hK=>qm ?_;refine qg ?_;refine qp (o:=2) ?_;refine ql hH av ?_;refine qA ?_;refine qg ?_;refine qp (o:=2) ?_;refine qT hH av fun st hH=>?_;dsimp only[u2,u1,u3,u4,setMany,u5,u6,ς,δ,bm,bo,aw,ax] at hH;refine qe hK ?_;have hH:Has N S2 st (.box k (.mem 0 false (bm gs bZ {s with i:=s.i+1}))::.aO bZ 1 (cw.map aw)::H):=hH;obtain⟨k1,k2,k3,k4,k5⟩:=iv (gs:=gs) (s:={s with i:=s.i+1}) (r:=94);have k5:=k5 (by show s.i+1≤_;omega);simp only at k1 k2 k3 k4;refine qq<|qj fun K hK=>qm ?_;obtain⟨_,st,aL,rfl,hH⟩:=eO (s:={s with i:=s.i+1}) (by omega) 94 hH;refine qv aL ?_;refine qm ?_;refine qe hK ?_;generalize dA gs {s with i:=s.i+1} 94=s1 at*;generalize lP gs ({s with i:=s.i+1}:fU).i 94=nt at*;refine qq<|qj fun K hK=>qm ?_;refine qe hK<|qq<|qj fun K hK=>qm ?_;refine qe hK ?_
 have hH:Has N S2 st (.box k (.mem 0 false (bm gs bZ s1))::.aO bZ 1 (cw.map aw)::.aO .nul 2 (([]:List Rg).map ax)::H):=((hH.ew 2).front bh|>.front dF|>fun h=>(h.front bh))
 refine qq<|Θ<|ab.loop (fun mm fr st=>∃(s1:fU) (ld:D) (lr:List Rg) (nn:Bool),fr.clean=⟨7,[.ptr k 0 0,zM fr 1,zM fr 2,.int .i64 (s.i:Nat),.bool nt,ld,.bool nn],[]⟩∧Has N S2 st (.box k (.mem 0 false (bm gs bZ s1))::.aO bZ 1 (cw.map aw)::.aO ld 2 (lr.map ax)::H)∧(s1.o=s.o)∧(s1.g=s.g)∧(s.i<s1.i)∧(s1.i≤gs.length)∧(lr.length≤8*s1.i+8)∧(s1.e=0→lr.length≤8*s1.i)∧(gs.length-s1.i+(if s1.e=0 then 1 else 0)≤mm)) (gs.length+1) ?_ ?_
 ·exact⟨s1,.nul,[],true,rfl,hH,k1,k2,by omega,k5,by simp,fun _=>by simp,by split<;>omega⟩
 rintro mm fr st ⟨s1,ld,lr,nn,hfr,hH,h1,h2,h3,h4,h5,h6,yX⟩;rw[hfr];clear hfr;generalize zM fr=ee;clear fr
 by_cases kZ:s1.e=0
 ·rw[if_pos kZ] at yX;have h6:=h6 kZ;have bk:(s1.e==0)=true:=by simpa using kZ
  refine qq<|qq<|qj fun K hK=>qm ?_;refine qg ?_;refine qp (o:=5) ?_;refine ql hH av ?_;refine qg ?_;refine qm ?_;refine qm ?_ (hg:=wi bk);obtain⟨_,st,aL,rfl,hH⟩:=pM (s:=s1) (by omega) 93 hH;refine qv aL ?_ (hg:=wi bk);refine qg ?_ (hg:=wi bk);refine qt bk ?_;refine qe hK ?_
  cases hb:lP gs s1.i 93 with
  |true=>
   have hlt:=sm hb;refine qC ?_;refine QH<|qq<|qq<|qj fun K hK=>qm ?_;refine qg ?_;refine qp (o:=5) ?_;refine ql hH av ?_;refine qg ?_;refine qe hK<|qE rfl (by simp[kZ]) ?_;refine θ<|qq<|qq<|qj fun K hK=>qm ?_;refine qe hK ?_
   cases nn with
   |true=>
    refine qB ?_;refine qq<|qj fun K hK=>qm ?_;refine qm ?_;obtain⟨_,st,aL,rfl,hH⟩:=dH (s:=s1) s.i 4 (by omega) hH;refine qv aL ?_;refine qm ?_;refine qe hK ?_;obtain⟨w1,w2,w3,w4⟩:=dV (cw:=cw) (s:=s1) (i:=s.i) (e:=4) kZ (by decide);refine κ ⟨rx,_,_,_,rfl,au (rfl),?_⟩;exact⟨_,gY (by omega) (by omega) (by omega) (by omega) w1,cX.aD cL (hH.erase 2)⟩
   |false=>
    refine qC ?_;refine θ<|qq<|qj fun K hK=>qm ?_;refine qg ?_;refine qp (o:=2) ?_;refine ql hH av ?_;refine qA ?_;refine qg ?_;refine qp (o:=2) ?_;refine qT hH av fun st hH=>?_;dsimp only[u2,u1,u3,u4,setMany,u5,u6,ς,δ,bm,bo,aw,ax] at hH;refine qe hK<|qq<|qj fun K hK=>qm ?_;obtain⟨aL,zX,_⟩:=nG (l:=lr) (hH.rows dF) (by omega);refine qv aL ?_;refine qm ?_;refine qe hK ?_;generalize lJ lr=m at*;refine qq<|qq<|qj fun K hK=>qm ?_;refine qe hK ?_
    have gb:∀(st:St) (a:List Rg) (k70:Nat),a.length≤1048576→S2.bs.length≤k70→Has N S2 st (.aO (.win k70 0 0 1 7) 7 [[.int .i64 2,bS a,.int .i64 0,.int .i64 0,.bool false,.int .i64 0,.int .i64 0]]::.box k (.mem 0 false (bm gs bZ {s1 with i:=s1.i+1}))::.aO bZ 1 (cw.map aw)::.aO ld 2 (lr.map ax)::H)→
      ∃d ai,c_ .rw false s0 st (.win k70 0 0 1 7)=some (d,ai)∧∃(s':fU),jO gs s s' d 2∧Has N S ai (.box k (.mem 0 false (bm gs bZ s'))::.aO bZ 1 (cw.map aw)::H):=by
     intro st a k70 ha hk hH;have hfz:=jx hH av (L:=s0.bs.length) (.inl rfl) (fun k hk=>by simp only[Qj] at hk;rw[←cL];omega);exact⟨_,_,au hfz,{s1 with i:=s1.i+1},⟨h1,by show s1.g≤4;omega,by show s.i≤s1.i+1;omega,by show s1.i+1≤_;omega,_,rfl,Ep ha (by omega),by simp,.inr ⟨kZ,by show 1+2≤4*(s1.i+1-s.i);omega⟩⟩,cX.aD cL ((hH.drop 1).erase 2)⟩
    cases nt with
    |true=>
     refine qB ?_;refine qj fun K hK=>qm ?_;obtain⟨_,aL,a,rfl,hla⟩:=Ei (l:=m) (fh _ _) (by omega);refine qv aL ?_;refine qm ?_;refine qe hK<|qq<|qj fun K hK=>qm ?_;refine QC (qs:=[(0,_),(1,_)]) rfl rfl rfl rfl ⟨rfl,(ev rfl),(by rfl),rfl,(ev rfl),(by rfl),trivial⟩ (by intro q hq;simp only[η,ι,or_false] at hq;rcases hq with rfl|rfl<;>exact⟨rfl,by exact ε rfl⟩) (by show π _ [_,_,_,_,_,_,_] _=_;dsimp only[ρ,ω,u2,u1]<;>rfl) (ae rfl _) ?_;refine qh (s:=7) (vs:=[_]) hH fun k70 st R9 hH=>?_;refine qm ?_;refine qe hK ?_;obtain⟨d',ai,wa,iF⟩:=gb _ a k70 (by omega) R9 hH;refine κ ⟨rx,_,d',ai,rfl,wa,iF⟩
    |false=>
     refine qC ?_;refine θ<|qq<|qj fun K hK=>qm ?_;refine QC (qs:=[(0,_),(1,_)]) rfl rfl rfl rfl ⟨rfl,(ev rfl),(by rfl),rfl,(ev rfl),(by rfl),trivial⟩ (by intro q hq;simp only[η,ι,or_false] at hq;rcases hq with rfl|rfl<;>exact⟨rfl,by exact ε rfl⟩) (by show π _ [_,_,_,_,_,_,_] _=_;dsimp only[ρ,ω,u2,u1]<;>rfl) (ae rfl _) ?_;refine qh (s:=7) (vs:=[_]) hH fun k70 st R9 hH=>?_;refine qm ?_;refine qe hK ?_;obtain⟨d',ai,wa,iF⟩:=gb _ m k70 (by omega) R9 hH;refine κ ⟨rx,_,d',ai,rfl,wa,iF⟩
  |false=>
   refine qB ?_;refine θ<|Θ<|qq<|qq<|qj fun K hK=>qm ?_;refine qg ?_;refine qp (o:=2) ?_;refine ql hH av ?_;refine qm ?_;refine qg ?_;refine qp (o:=0) ?_;refine ql hH av ?_;refine qn ?_;simp only[ξ];refine qg ?_;refine qe hK ?_;refine Qw (by rfl) (fun hge=>?_) (fun hge=>?_)<;>try simp only[decide_eq_true_eq,decide_eq_false_iff_not] at hge
   ·refine qq<|qj fun K hK=>qm ?_;refine qm ?_;obtain⟨_,st,aL,rfl,hH⟩:=dH (s:=s1) s.i 4 (by omega) hH;refine qv aL ?_;refine qm ?_;refine qe hK ?_;obtain⟨w1,w2,w3,w4⟩:=dV (cw:=cw) (s:=s1) (i:=s.i) (e:=4) kZ (by decide);refine κ ⟨rx,_,_,_,rfl,au (rfl),?_⟩;exact⟨_,gY (by omega) (by omega) (by omega) (by omega) w1,cX.aD cL (hH.erase 2)⟩
   ·refine θ<|qq<|qj fun K hK=>qm ?_;refine qm ?_;obtain⟨_,st,aL,s2,⟨i1,i2,i3,i4,a,rfl,i5,i6⟩,hH⟩:=Me (s:=s1) bA kZ (by omega) hH;have S9:=(jX a).arg N S2;have Mu:=zn a;refine qv aL ?_;refine aa.bL (s:=2) hH rfl (ev rfl) (ev rfl) (by exact dF) (by exact Arg.rows (by assumption) hH) rfl rfl rfl rfl rfl rfl rfl ⟨(ε rfl),(ε rfl)⟩ (fun _=>(ae rfl _)) (by simp only[ξ]<;>omega) (by exact .inr (by assumption)) (fun x46 st hH=>?_);dsimp only[u2,u1,u3,u4,setMany,u5,u6,ς,δ,bm,bo,aw,ax] at hH;refine qm ?_;refine qe hK<|qj fun K hK=>qm ?_;refine qe hK ?_;exact⟨mm-1,by omega,⟨s2,x46,lr++a,false,rfl,(by rw[Ξ];exact hH),i1.trans h1,i2.trans h2,by omega,i4,by rw[γ];omega,fun e=>by rw[γ];omega,by split<;>omega⟩⟩
 ·have bk:(s1.e==0)=false:=by simpa using kZ
  refine qq<|qq<|qj fun K hK=>qm ?_;refine qg ?_;refine qp (o:=5) ?_;refine ql hH av ?_;refine qg ?_;refine qm ?_;refine qs ?_ (hg:=wn bk);refine qs ?_ (hg:=wn bk);refine qs ?_ (hg:=wn bk);refine qu bk ?_;refine qe hK<|qC ?_;refine QH<|qq<|qq<|qj fun K hK=>qm ?_;refine qg ?_;refine qp (o:=5) ?_;refine ql hH av ?_;refine qg ?_;refine qe hK<|qD rfl (by simp[kZ]) ?_;refine qq<|qj fun K hK=>qm ?_;refine qe hK<|κ ⟨rx,_,_,_,rfl,au (rfl),?_⟩;exact⟨_,gY h1 (by omega) (by omega) h4 kZ,cX.aD cL (hH.erase 2)⟩
def kI (fr:Go.V.Fr) (k:Nat):Go.V.D:=Go.V.nth .bD fr.loc k
def tq (gs:List (Nat×Nat)) (s s':fU):Prop:=s'.o=s.o∧s'.g=s.g∧s.i<s'.i∧s'.i≤gs.length
theorem Ed (bA:l0 gs cw) (he:s.e=0) (hi:s.i<gs.length) (hH:Has N S s0 (.box k (.mem 0 false (bm gs bZ s))::.aO bZ 1 (cw.map aw)::H)):
  ∃d ai,Ev pv 152 [.ptr k 0 0] s0 d ai∧∃(n1 n2:Int) (s':fU),d=.tup [.int .i64 n1,.int .i64 n2]∧tq gs s s'∧Has N S ai (.box k (.mem 0 false (bm gs bZ s'))::.aO bZ 1 (cw.map aw)::H):=by
 have uH:=bA.gl;have ib:=bA.pl;have hne:gs≠[]:=by rintro rfl;simp at hi
 refine Ev.iD rfl VT rfl rfl rfl ?_;dsimp only[u3,u4,μ,ν,δ,w1,w2];have cX:=hH;have hH:=hH.c8;have cL:(ah .rw s0).bs=s0.bs:=rfl;generalize ah .rw s0=S2 at*;refine qq<|qj fun K hK=>qm ?_;refine qm ?_;refine qe hK<|qq<|qj fun K hK=>qm ?_;refine qg ?_;refine qp (o:=2) ?_;refine ql hH av ?_;refine qm ?_;refine qe hK<|qq<|qj fun K hK=>qm ?_;refine qg ?_;refine qp (o:=2) ?_;refine ql hH av ?_;refine qA ?_;refine qg ?_;refine qp (o:=2) ?_;refine qT hH av fun st hH=>?_;dsimp only[u2,u1,u3,u4,setMany,u5,u6,ς,δ,bm,bo,aw,ax] at hH;refine qe hK ?_;have hH:Has N S2 st (.box k (.mem 0 false (bm gs bZ {s with i:=s.i+1}))::.aO bZ 1 (cw.map aw)::H):=hH
 have E4:∀(st:St) (s3:fU) (e:Int),e≠0→s3.e=0→tq gs s s3→Has N S2 st (.box k (.mem 0 false (bm gs bZ s3))::.aO bZ 1 (cw.map aw)::H)→∃d ai,Ev pv 100 [.ptr k 0 0,.int .i64 (s.i:Nat),.int .i64 e] st d ai∧d=.sl []∧∃s4,tq gs s s4∧Has N S2 ai (.box k (.mem 0 false (bm gs bZ s4))::.aO bZ 1 (cw.map aw)::H):=by
  intro st s3 e h0 h1 h2 hH;obtain⟨d,ai,aL,h4,hH⟩:=dH (s:=s3) s.i e (by omega) hH;obtain⟨w1,w2,w3,w4⟩:=dV (cw:=cw) (s:=s3) (i:=s.i) (e:=e) h1 h0;exact⟨d,ai,aL,h4,_,⟨w3.trans h2.1,w4.trans h2.2.1,by rw[w2];exact h2.2.2.1,by rw[w2];exact h2.2.2.2⟩,hH⟩
 refine qq<|qj fun K hK=>qm ?_;obtain⟨_,st,aL,m,ok,mm,rfl,zX,hmi,hH⟩:=uS (s:={s with i:=s.i+1}) uH (by show s.i+1≤_;omega) hne hH;refine qv aL ?_;refine qm ?_;refine qg ?_;refine qg ?_;refine qm ?_;refine qm ?_;refine qe hK ?_
 obtain⟨s1,j9⟩:∃s1:fU,({s with i:=s.i+1+mm}:fU)=s1:=⟨_,rfl⟩
 have RE:s1.e=0:=by rw[←j9];exact he
 have EJ:tq gs s s1:=by rw[←j9];exact⟨rfl,rfl,by show s.i<s.i+1+mm;omega,hmi⟩
 have hH:Has N S2 st (.box k (.mem 0 false (bm gs bZ s1))::.aO bZ 1 (cw.map aw)::H):=by rw[←j9];exact hH
 clear j9;refine qq<|qj fun K hK=>qm ?_;refine qm ?_;refine qm ?_;refine qe hK<|qq<|qq<|ab.kE (fun fr st=>∃(n:List UInt8) (en:Bool) (s3:fU) (tmp:List (Nat×D)),fr=⟨14,[.ptr k 0 0,kI fr 1,kI fr 2,kI fr 3,.int .i64 (s.i:Nat),.str m,.bool ok,.str n,.bool en,kI fr 9,kI fr 10,kI fr 11,kI fr 12,kI fr 13],tmp⟩∧Has N S2 st (.box k (.mem 0 false (bm gs bZ s3))::.aO bZ 1 (cw.map aw)::H)∧(s3.e=0)∧(tq gs s s3)∧(n.length≤120)) ?_ ?_
 ·cases ok with
  |false=>
   have cW:false=false:=rfl;refine qj fun K hK=>qm ?_;refine qm ?_;refine qs ?_ (hg:=wn cW);refine qs ?_ (hg:=wn cW);refine qu cW ?_;refine qe hK<|qC ?_;refine θ ?_;exact⟨m,false,s1,_,rfl,hH,RE,EJ,zX⟩
  |true=>
   have cW:true=true:=rfl;obtain⟨k1,k2,k3,k4,k5⟩:=iv (gs:=gs) (s:=s1) (r:=44);have k5:=k5 EJ.2.2.2;refine qj fun K hK=>qm ?_;refine qm ?_;refine qm ?_ (hg:=wi cW);obtain⟨_,st,aL,rfl,hH⟩:=eO (s:=s1) (by omega) 44 hH;refine qv aL ?_ (hg:=wi cW);refine qt cW ?_;refine qe hK ?_;generalize dA gs s1 44=s2 at*
   have Mq:tq gs s s2:=⟨k1.trans EJ.1,k2.trans EJ.2.1,by have:=EJ.2.2.1;omega,k5⟩
   cases hb:lP gs s1.i 44 with
   |false=>
    refine qC ?_;refine θ ?_;exact⟨m,false,s2,_,rfl,hH,k3.trans RE,Mq,zX⟩
   |true=>
    refine qB ?_;refine qq<|qj fun K hK=>qm ?_;refine qe hK<|qq<|qj fun K hK=>qm ?_;obtain⟨_,st,aL,n,there,mm2,rfl,Dg,hni,hH⟩:=uS (s:=s2) uH k5 hne hH;refine qv aL ?_;refine qm ?_;refine qg ?_;refine qg ?_;refine qm ?_;refine qm ?_;refine qe hK<|qj fun K hK=>qm ?_;refine qg ?_;refine qm ?_;refine qe hK ?_;exact⟨n,!there,{s2 with i:=s2.i+mm2},_,rfl,hH,k3.trans RE,⟨Mq.1,Mq.2.1,by have:=Mq.2.2.1;show s.i<s2.i+mm2;omega,hni⟩,Dg⟩
 ·rintro fr st ⟨n,en,s3,tmp,hfr,hH,h1,h2,h3⟩;rw[hfr];clear hfr;generalize kI fr=ee;clear fr;obtain⟨k1,k2,k3,k4,k5⟩:=iv (gs:=gs) (s:=s3) (r:=125);have k5:=k5 h2.2.2.2
  have Cy:tq gs s (dA gs s3 125):=⟨k1.trans h2.1,k2.trans h2.2.1,by have:=h2.2.2.1;omega,k5⟩
  have Mp:(dA gs s3 125).e=0:=k3.trans h1
  cases ok with
  |false=>
   have aZ:(!false)=true:=rfl;refine qq<|qq<|qj fun K hK=>qm ?_;refine qg ?_;refine qm ?_;refine qs ?_ (hg:=wn aZ);refine qs ?_ (hg:=wn aZ);refine qs ?_ (hg:=wn aZ);refine qt aZ ?_;refine qm ?_;refine qs ?_;refine qs ?_;refine qs ?_;refine qs ?_;refine qs ?_;refine qs ?_;refine qs ?_;refine qg ?_;refine qe hK<|qB ?_;refine qq<|qj fun K hK=>qm ?_;refine qm ?_;obtain⟨_,st,aL,rfl,s4,WT,hH⟩:=E4 _ s3 4 (by decide) h1 h2 hH;refine qv aL ?_;refine qe hK<|qq<|qj fun K hK=>qm ?_;refine qm ?_;refine qe hK<|κ ⟨rx,_,_,_,rfl,au (rfl),?_⟩;exact⟨_,_,s4,rfl,WT,cX.aD cL hH⟩
  |true=>
   have aZ:(!true)=false:=rfl
   cases gC:(!lP gs s3.i 125) with
   |true=>
    refine qq<|qq<|qj fun K hK=>qm ?_;refine qg ?_;refine qm ?_;refine qm ?_ (hg:=wi aZ);obtain⟨_,st,aL,rfl,hH⟩:=eO (s:=s3) (by omega) 125 hH;refine qv aL ?_ (hg:=wi aZ);refine qg ?_ (hg:=wi aZ);refine qu aZ ?_;refine qm ?_;refine qs ?_ (hg:=wn gC);refine qs ?_ (hg:=wn gC);refine qs ?_ (hg:=wn gC);refine qs ?_;refine qs ?_;refine qs ?_;refine qs ?_ (hg:=wn gC);refine qt gC ?_;refine qe hK ?_;generalize dA gs s3 125=s4 at*;refine qB ?_;refine qq<|qj fun K hK=>qm ?_;refine qm ?_;obtain⟨_,st,aL,rfl,s5,MF,hH⟩:=E4 _ s4 4 (by decide) Mp Cy hH;refine qv aL ?_;refine qe hK<|qq<|qj fun K hK=>qm ?_;refine qm ?_;refine qe hK<|κ ⟨rx,_,_,_,rfl,au (rfl),?_⟩;exact⟨_,_,s5,rfl,MF,cX.aD cL hH⟩
   |false=>
    have iF:True:=trivial
    cases en with
    |true=>
     have aX:(!true)=false:=rfl;refine qq<|qq<|qj fun K hK=>qm ?_;refine qg ?_;refine qm ?_;refine qm ?_ (hg:=wi aZ);obtain⟨_,st,aL,rfl,hH⟩:=eO (s:=s3) (by omega) 125 hH;refine qv aL ?_ (hg:=wi aZ);refine qg ?_ (hg:=wi aZ);refine qu aZ ?_;refine qm ?_;refine qm ?_ (hg:=wi gC);refine qg ?_ (hg:=wi gC);refine qm ?_ (hg:=wi gC);refine qs ?_ (hg:=wn aX);refine qs ?_ (hg:=wn aX);refine qs ?_ (hg:=wn aX);refine QD (aq rfl rfl rfl gC) rfl aX (ae rfl _) ?_;refine qu gC ?_;refine qe hK ?_;generalize dA gs s3 125=s4 at*;refine qC ?_;refine θ ?_;obtain⟨_,Mk,a1,f1,rfl⟩:=nu (s0:=st) m (by omega);refine qq<|qj fun K hK=>qm ?_;refine qv (Mk) ?_;refine qm ?_;refine qg ?_;refine qg ?_;refine qm ?_;refine qm ?_;refine qe hK<|qq<|qq<|qj fun K hK=>qm ?_;refine qe hK<|qB ?_;refine qj fun K hK=>qm ?_;refine qe hK ?_;obtain⟨_,EG,a2,f2,rfl⟩:=nu (s0:=st) [] (by simp);refine qq<|qj fun K hK=>qm ?_;refine qv (EG) ?_;refine qm ?_;refine qg ?_;refine qg ?_;refine qm ?_;refine qm ?_;refine qe hK<|qq<|qq<|ab.dz 78 (.bool (!f1||!f2)) [] ?_ (fun ff tmp cY=>?_)
     ·refine qm ?_;refine qg ?_;refine qm ?_;refine aa.two 75 rfl (fun aZ=>?_) (fun aZ=>?_)
      ·refine qs ?_ (hg:=wn aZ);refine qs ?_ (hg:=wn aZ);refine qt aZ ?_;refine QV (aY ?_ ?_)
       ·dsimp only[aB,π,nth,u2,u1]
        all_goals(first|rfl|simp)
       ·dsimp only[QB,QQ,Qq,QF,QY,nth,V.look,u1,u2,v1,v2,v3,v4,v5,v6,v7,μ,u3,u4,ν,δ,QX]
        all_goals(simp[aZ];done)
      ·refine qm ?_ (hg:=wi aZ);refine qg ?_ (hg:=wi aZ);refine qu aZ ?_;refine QV (aY ?_ ?_)
       ·dsimp only[aB,π,nth,u2,u1]
        all_goals(first|rfl|simp)
       ·dsimp only[QB,QQ,Qq,QF,QY,nth,V.look,u1,u2,v1,v2,v3,v4,v5,v6,v7,μ,u3,u4,ν,δ,QX]
        all_goals(simp[aZ];done)
     dsimp only[aB,π,nth,u2,u1];refine qc (fun CD=>?_) (fun CD=>?_)<;>try simp only[cs] at CD
     ·refine qq<|qj fun K hK=>qm ?_;refine qm ?_;obtain⟨_,st,aL,rfl,s5,MF,hH⟩:=E4 _ s4 2 (by decide) Mp Cy hH;refine qv aL ?_;refine qe hK<|qq<|qj fun K hK=>qm ?_;refine qm ?_;refine qe hK<|κ ⟨rx,_,_,_,rfl,au (rfl),?_⟩;exact⟨_,_,s5,rfl,MF,cX.aD cL hH⟩
     ·refine θ<|qq<|qq<|qj fun K hK=>qm ?_;refine qe hK<|qB ?_;refine qj fun K hK=>qm ?_;refine qe hK<|qq<|qj fun K hK=>qm ?_;refine qm ?_;refine qm ?_;refine qm ?_;refine qe hK<|κ ⟨rx,_,_,_,rfl,au (rfl),?_⟩;exact⟨_,_,s4,rfl,Cy,cX.aD cL hH⟩
    |false=>
     have aX:(!false)=true:=rfl;refine qq<|qq<|qj fun K hK=>qm ?_;refine qg ?_;refine qm ?_;refine qm ?_ (hg:=wi aZ);obtain⟨_,st,aL,rfl,hH⟩:=eO (s:=s3) (by omega) 125 hH;refine qv aL ?_ (hg:=wi aZ);refine qg ?_ (hg:=wi aZ);refine qu aZ ?_;refine qm ?_;refine qm ?_ (hg:=wi gC);refine qg ?_ (hg:=wi gC);refine qm ?_ (hg:=wi gC);refine qm ?_ (hg:=wi aX);refine qm ?_ (hg:=wi aX);obtain⟨_,hle,v,rfl⟩:=Mb (s0:=st) n m;refine aa.ju (aq rfl rfl rfl aX) rfl hle (ae rfl _) ?_;refine QP (aq rfl rfl rfl gC) rfl aX (ae rfl _) ?_;refine qu gC ?_;refine qe hK ?_;generalize dA gs s3 125=s4 at*
     cases v with
     |true=>
      refine qB ?_;refine qq<|qj fun K hK=>qm ?_;refine qm ?_;obtain⟨_,st,aL,rfl,s5,MF,hH⟩:=E4 _ s4 4 (by decide) Mp Cy hH;refine qv aL ?_;refine qe hK<|qq<|qj fun K hK=>qm ?_;refine qm ?_;refine qe hK<|κ ⟨rx,_,_,_,rfl,au (rfl),?_⟩;exact⟨_,_,s5,rfl,MF,cX.aD cL hH⟩
     |false=>
      refine qC ?_;refine θ ?_;obtain⟨_,Mk,a1,f1,rfl⟩:=nu (s0:=st) m (by omega);refine qq<|qj fun K hK=>qm ?_;refine qv (Mk) ?_;refine qm ?_;refine qg ?_;refine qg ?_;refine qm ?_;refine qm ?_;refine qe hK<|qq<|qq<|qj fun K hK=>qm ?_;refine qe hK<|qC ?_;refine θ ?_;obtain⟨_,EG,a2,f2,rfl⟩:=nu (s0:=st) n (by omega);refine qq<|qj fun K hK=>qm ?_;refine qv (EG) ?_;refine qm ?_;refine qg ?_;refine qg ?_;refine qm ?_;refine qm ?_;refine qe hK<|qq<|qq<|ab.dz 78 (.bool (!f1||!f2)) [] ?_ (fun ff tmp cY=>?_)
      ·refine qm ?_;refine qg ?_;refine qm ?_;refine aa.two 75 rfl (fun aZ=>?_) (fun aZ=>?_)
       ·refine qs ?_ (hg:=wn aZ);refine qs ?_ (hg:=wn aZ);refine qt aZ ?_;refine QV (aY ?_ ?_)
        ·dsimp only[aB,π,nth,u2,u1]
         all_goals(first|rfl|simp)
        ·dsimp only[QB,QQ,Qq,QF,QY,nth,V.look,u1,u2,v1,v2,v3,v4,v5,v6,v7,μ,u3,u4,ν,δ,QX]
         all_goals(simp[aZ];done)
       ·refine qm ?_ (hg:=wi aZ);refine qg ?_ (hg:=wi aZ);refine qu aZ ?_;refine QV (aY ?_ ?_)
        ·dsimp only[aB,π,nth,u2,u1]
         all_goals(first|rfl|simp)
        ·dsimp only[QB,QQ,Qq,QF,QY,nth,V.look,u1,u2,v1,v2,v3,v4,v5,v6,v7,μ,u3,u4,ν,δ,QX]
         all_goals(simp[aZ];done)
      dsimp only[aB,π,nth,u2,u1];refine qc (fun CD=>?_) (fun CD=>?_)<;>try simp only[cs] at CD
      ·refine qq<|qj fun K hK=>qm ?_;refine qm ?_;obtain⟨_,st,aL,rfl,s5,MF,hH⟩:=E4 _ s4 2 (by decide) Mp Cy hH;refine qv aL ?_;refine qe hK<|qq<|qj fun K hK=>qm ?_;refine qm ?_;refine qe hK<|κ ⟨rx,_,_,_,rfl,au (rfl),?_⟩;exact⟨_,_,s5,rfl,MF,cX.aD cL hH⟩
      ·refine θ<|qq<|qq<|qj fun K hK=>qm ?_;refine qe hK<|qC ?_;refine θ<|qq<|qj fun K hK=>qm ?_;refine qm ?_;refine qm ?_;refine qm ?_;refine qe hK<|κ ⟨rx,_,_,_,rfl,au (rfl),?_⟩;exact⟨_,_,s4,rfl,Cy,cX.aD cL hH⟩
def dp (fr:Go.V.Fr) (k:Nat):Go.V.D:=Go.V.nth .bD fr.loc k
theorem rF:∀{l:List D},(∀d∈l,cv d=true)→refs l=0
 |[],_=>rfl
 |d::l,h=>by
  have h1:=rF (l:=l) fun d hd=>h d (QZ _ hd);have h2:=h d (Qx ..)
  have h3:d.ref=0:=by cases d<;>first|rfl|(simp[cv] at h2)
  simp only[refs,h1,h3,Nat.max_self]
theorem ug (h:∀n∈l,wL n):refs (l.map bH).flatten=0:=
 rF fun d hd=>by
  obtain⟨e,he,Bu⟩:=List.mem_flatten.1 hd;exact oS h e he d Bu
def eP (l:List ej):List D:=[wE l]
theorem xw {l:List (List ej)} {i:Nat} {q:List ej} (h:l[i]?=some q):(l.map eP)[i]?=some (eP q):=by rw[Γ,h];rfl
def gm:List (List ej)→Nat
 |[]=>0
 |l::ls=>l.length+gm ls
theorem ek:∀a b:List (List ej),gm (a++b)=gm a+gm b
 |[],b=>by simp[gm]
 |l::a,b=>by rw[Δ,gm,gm,ek a b];omega
theorem uD {parts:List (List ej)} (op:Int) (hx:V.Rows s0 1 x (parts.map eP)) (hv:∀l∈parts,∀n∈l,wL n) (hp:parts.length≤100000) (hs:gm parts≤100000):∃d,Ev pv 131 [.int .i64 op,x] s0 d s0∧∃l,d=wE l∧(∀n∈l,wL n)∧(parts.length=1→l.length≤gm parts)∧l.length≤gm parts+1:=by
 refine Ev.Db rfl V8 rfl rfl rfl ?_;dsimp only[u3,u4,μ,ν,δ,w1,w2];obtain⟨bt,hF,hH⟩:=ri s0;generalize ah .ro s0=S at*;have hx:=Arg.of hx bt;refine qq<|qj fun K hK=>qm ?_;refine qe hK<|qq<|qq<|qj fun K hK=>qm ?_;refine qn ?_;simp only[ξ];refine qe hK<|Θ<|qq<|qj fun K hK=>qg ?_;refine qm ?_;refine qe hK ?_
 by_cases h0:parts.length=0
 ·refine qD rfl (by simp[h0]) ?_;refine qq<|qj fun K hK=>?_;refine Qy (d:=.agg [.int .i64 1,.nul,.int .i64 0,.int .i64 0,.bool false,.int .i64 0,.int .i64 0]) (st1:=_) rfl rfl rfl (by dsimp only[QQ,u1,u2]<;>rfl) ?_;refine qh (s:=7) (vs:=[_]) hH fun k13 st U3 hH=>?_;refine qm ?_;refine qe hK ?_;have hfz:=jx (L:=s0.bs.length) (a:=[]) hH av (.inr ⟨rfl,rfl⟩) (fun k hk=>by have kM:k13+1=k+1:=hk;rw[←bt];omega);refine κ ⟨rx,_,_,rfl,rl bt hH (hfz),?_⟩;exact⟨_,rfl,Ep (by simp) (by omega),by omega,by simp⟩
 have Y9:(((parts.length:Nat):Int)==0)=false:=by rw[beq_eq_false_iff_ne];omega
 refine qE rfl (by rw[Y9]) ?_;refine qq<|qj fun K hK=>qg ?_;refine qm ?_;refine qe hK ?_
 by_cases h1:parts.length=1
 ·obtain⟨q,hq⟩:∃q,parts[0]?=some q:=⟨parts[0]'(by omega),φ _⟩
  have gB:=xw hq
  have Mw:parts=[q]:=by
   match parts,h1,hq with
   |[a],_,hq=>simp at hq;rw[hq]
  refine qD rfl (by simp[h1]) ?_;refine qq<|qj fun K hK=>qm ?_;refine qr fun XA RX=>?_;refine qR ?_;refine qm ?_;refine qe hK<|κ ⟨rx,_,_,rfl,rl bt hH (rfl),?_⟩;refine⟨q,rfl,hv q (QJ hq),fun _=>?_,?_⟩<;>rw[Mw]<;>simp[gm]
 have Vh:(((parts.length:Nat):Int)==1)=false:=by rw[beq_eq_false_iff_ne];omega
 refine qE rfl (by rw[Vh]) ?_;refine θ<|qq<|qj fun K hK=>qm ?_;refine qm ?_;refine qn ?_;simp only[ξ];refine Qy (d:=.agg [.int .i64 op,.nul,.int .i64 0,.int .i64 0,.bool false,.int .i64 0,.int .i64 (parts.length:Nat)]) (st1:=_) rfl rfl rfl (by dsimp only[QQ,u1,u2]<;>rfl) ?_;refine qh (s:=7) (vs:=[_]) hH fun k23 st U2 hH=>?_;refine qm ?_;refine qe hK<|qq<|qq<|qj fun K hK=>qm ?_;refine qn ?_;simp only[ξ];refine qm ?_;refine qe hK ?_;have hH:Has s0.bs.length S st (.aO (.win k23 0 0 1 7) 7 [[.int .i64 op,.nul,.int .i64 0,.int .i64 0,.bool false,.int .i64 0,.int .i64 (parts.length:Nat)]]::[]):=hH;refine Θ<|ab.loop (fun mm fr st=>∃(i:Nat) (od:D) (es:List (List D)) (lo:List ej),fr.clean=⟨27,[dp fr 0,dp fr 1,dp fr 2,dp fr 3,dp fr 4,od,dp fr 6,dp fr 7,dp fr 8,dp fr 9,dp fr 10,dp fr 11,dp fr 12,dp fr 13,dp fr 14,dp fr 15,dp fr 16,dp fr 17,dp fr 18,dp fr 19,dp fr 20,dp fr 21,dp fr 22,dp fr 23,x,.int .i64 (parts.length:Nat),.int .i64 (i:Nat)],[]⟩∧Has s0.bs.length S st [.aO od 7 es]∧(i+mm=parts.length)∧(es.map (·.map o_)=lo.map bH)∧(∀e∈es,∀d∈e,nz d=true)∧(∀n∈lo,wL n)∧(lo.length=1+gm (parts.take i))∧(∀k,od.ref=k+1→S.bs.length≤k)) (parts.length) ?_ ?_
 ·refine⟨0,.win k23 0 0 1 7,[[.int .i64 op,.nul,.int .i64 0,.int .i64 0,.bool false,.int .i64 0,.int .i64 (parts.length:Nat)]],[vD op 0 0 false 0 (parts.length:Nat) []],rfl,hH,by omega,rfl,?_,Ep (by simp) (by omega),by simp[gm],fun k hk=>by simp only[Qj] at hk;omega⟩;intro e he d hd;simp only[η,ι,or_false] at he;subst he;simp only[η,ι,or_false] at hd
  rcases hd with rfl|rfl|rfl|rfl|rfl|rfl|rfl<;>rfl
 rintro mm fr st ⟨i,od,es,lo,hfr,hH,hi,o9,ht,NI,hlen,NF⟩;rw[hfr];clear hfr;generalize dp fr=ee;clear fr;refine qq<|qj fun K hK=>qg ?_;refine qe hK ?_
 by_cases hlt:i<parts.length
 ·obtain⟨q,hq⟩:∃q,parts[i]?=some q:=⟨parts[i]'hlt,φ _⟩
  have gB:=xw hq;have WR:=hv q (QJ hq);have tz:es.length=lo.length:=by have:=congrArg μ o9;simpa using this
  have XX:parts.take (i+1)=parts.take i++[q]:=by rw[List.take_add_one,hq];rfl
  have X0:gm (parts.take (i+1))=gm (parts.take i)+q.length:=by rw[XX,ek];simp[gm]
  have aaS:gm (parts.take (i+1))≤gm parts:=by
   have:=ek (parts.take (i+1)) (parts.drop (i+1));rw[List.take_append_drop] at this;omega
  refine qq<|qD rfl (by simp;omega) ?_;refine θ<|qq<|Θ<|qq<|qj fun K hK=>qr fun Xx RU=>?_;refine qR ?_;refine qm ?_;refine qe hK<|qj fun K hK=>qm ?_;refine qm ?_;refine aa.sH (s:=7) hH rfl (ev rfl) (ev rfl) av ((uh WR).rows st) rfl rfl rfl rfl rfl rfl rfl ⟨(ε rfl),(ε rfl)⟩ (fun _=>(ae rfl _)) (by rw[ξ];omega) (.inl hF) NF (fun x32 st NF hH=>?_);dsimp only[u2] at hH;refine qm ?_;refine qe hK<|qj fun K hK=>qA ?_;refine qm ?_;refine qe hK ?_;refine⟨mm-1,by omega,⟨i+1,x32,es++q.map bH,lo++q,rfl,hH,by omega,by rw[Ξ,Ξ,o9,vB WR],?_,?_,by rw[γ,hlen,X0];omega,NF⟩⟩
  ·intro e he
   rcases Qv.1 he with he|he
   ·exact ht e he
   ·exact rQ WR e he
  ·intro n hn
   rcases Qv.1 hn with hn|hn
   ·exact NI n hn
   ·exact WR n hn
 ·refine qq<|qE rfl (by simp;omega) ?_;refine QH<|qq<|qj fun K hK=>qm ?_;refine qm ?_;refine qe hK ?_;have hik:i=parts.length:=by omega
  rw[hik,List.take_length] at hlen;refine κ ⟨rx,_,_,rfl,rl bt hH (jw hH av o9 ht (fun k hk=>by have:=NF k hk;rw[←bt];exact this) (by decide)),?_⟩;exact⟨_,rfl,NI,by omega,by omega⟩
def hD (fr:Go.V.Fr) (k:Nat):Go.V.D:=Go.V.nth .bD fr.loc k
theorem oo {a b c:bJ} (h:Has N S st (a::b::c::H)):Has N S st (b::c::a::H):=by
 have h1:=h.front bh;have h2:=h1.front dF;exact h2.front bh
def mw (m:Nat):Prop:=∀{N k:Nat} {S s0:St} {H:List bJ} {gs:List (Nat×Nat)} {bZ:D} {cw:List Int} {s:fU},l0 gs cw→s.e=0→s.i≤gs.length→s.g≤4→s.o+m=20→Has N S s0 (.box k (.mem 0 false (bm gs bZ s))::.aO bZ 1 (cw.map aw)::H)→
 ∃d ai,Ev pv 99 [.ptr k 0 0] s0 d ai∧∃(s':fU),wC gs s s' d∧Has N S ai (.box k (.mem 0 false (bm gs bZ s'))::.aO bZ 1 (cw.map aw)::H)
theorem Fe {m:Nat} (hA:∀m',m'+1=m→mw m') (bA:l0 gs cw) (he:s.e=0) (hi:s.i<gs.length) (hg:s.g≤4) (ho:s.o+m=20) (hH:Has N S s0 (.box k (.mem 0 false (bm gs bZ s))::.aO bZ 1 (cw.map aw)::H)):
  ∃d ai,Ev pv 167 [.ptr k 0 0] s0 d ai∧∃(s':fU),jO gs s s' d 2∧Has N S ai (.box k (.mem 0 false (bm gs bZ s'))::.aO bZ 1 (cw.map aw)::H):=by
 have uH:=bA.gl;have ib:=bA.pl;refine Ev.iD rfl VN rfl rfl rfl ?_;dsimp only[u3,u4,μ,ν,δ,w1,w2];have cX:=hH;have hH:=hH.c8;have cL:(ah .rw s0).bs=s0.bs:=rfl;generalize ah .rw s0=S2 at*
 have hwr:∀(st:St) (s3:fU) (e:Int) (H2:List bJ),e≠0→s3.e=0→s3.o=s.o→s3.g≤4→s.i≤s3.i→s3.i≤gs.length→Has N S2 st (.box k (.mem 0 false (bm gs bZ s3))::.aO bZ 1 (cw.map aw)::H2)→∃d ai,Ev pv 100 [.ptr k 0 0,.int .i64 (s.i:Nat),.int .i64 e] st d ai∧d=.sl []∧∃s4,jO gs s s4 (.sl []) 2∧Has N S2 ai (.box k (.mem 0 false (bm gs bZ s4))::.aO bZ 1 (cw.map aw)::H2):=by
  intro st s3 e H2 h0 h1 h2 h3 h4 h5 hH;obtain⟨d,ai,aL,h6,hH⟩:=dH (s:=s3) s.i e (by omega) hH;obtain⟨w1,w2,w3,w4⟩:=dV (cw:=cw) (s:=s3) (i:=s.i) (e:=e) h1 h0;exact⟨d,ai,aL,h6,_,gY (w3.trans h2) (by omega) (by omega) (by omega) w1,hH⟩
 refine qq<|qj fun K hK=>qm ?_;refine qe hK<|qq<|qj fun K hK=>qm ?_;refine qg ?_;refine qp (o:=2) ?_;refine ql hH av ?_;refine qm ?_;refine qe hK<|qq<|qj fun K hK=>qm ?_;refine qg ?_;refine qp (o:=2) ?_;refine ql hH av ?_;refine qA ?_;refine qg ?_;refine qp (o:=2) ?_;refine qT hH av fun st hH=>?_;dsimp only[u2,u1,u3,u4,setMany,u5,u6,ς,δ,bm,bo,aw,ax,bH] at hH;refine qe hK ?_;have hH:Has N S2 st (.box k (.mem 0 false (bm gs bZ {s with i:=s.i+1}))::.aO bZ 1 (cw.map aw)::H):=hH
 obtain⟨s1,j9⟩:∃s1:fU,({s with i:=s.i+1}:fU)=s1:=⟨_,rfl⟩
 have X3:s1.e=0∧s1.o=s.o∧s1.g=s.g∧s1.i=s.i+1:=by rw[←j9];exact⟨he,rfl,rfl,rfl⟩
 rw[j9] at hH;clear j9;obtain⟨f1,f2,f3,f4⟩:=X3;refine qq<|qj fun K hK=>qm ?_;refine qe hK<|qq<|qq<|ab.kE (fun fr st=>∃(free:Bool) (s2:fU) (tmp:List (Nat×D)),fr=⟨7,[.ptr k 0 0,hD fr 1,hD fr 2,.int .i64 (s.i:Nat),.bool free,hD fr 5,hD fr 6],tmp⟩∧Has N S2 st (.box k (.mem 0 false (bm gs bZ s2))::.aO bZ 1 (cw.map aw)::H)∧(s2.e=0)∧(s2.o=s.o)∧(s2.g=s.g)∧(s.i+1≤s2.i)∧(s2.i≤gs.length)) ?_ ?_
 ·obtain⟨k1,k2,k3,k4,k5⟩:=iv (gs:=gs) (s:=s1) (r:=63);have k5:=k5 (by omega);refine qj fun K hK=>qm ?_;obtain⟨_,st,aL,rfl,hH⟩:=eO (s:=s1) (by omega) 63 hH;refine qv aL ?_;refine qe hK ?_;generalize dA gs s1 63=s2 at*
  cases hb:lP gs s1.i 63 with
  |false=>
   refine qC ?_;refine θ ?_;exact⟨false,s2,_,rfl,hH,by omega,by omega,by omega,by omega,by omega⟩
  |true=>
   refine qB ?_;refine qq<|qj fun K hK=>qm ?_;refine qe hK ?_;obtain⟨r1,r2,r3,r4,r5⟩:=iv (gs:=gs) (s:=s2) (r:=58);have r5:=r5 k5;refine qq<|qj fun K hK=>qm ?_;obtain⟨_,st,aL,rfl,hH⟩:=eO (s:=s2) (by omega) 58 hH;refine qv aL ?_;refine qg ?_;refine qe hK ?_;generalize dA gs s2 58=s3 at*
   cases hb2:lP gs s2.i 58 with
   |false=>
    refine qB ?_;refine qq<|qj fun K hK=>qm ?_;refine qm ?_;obtain⟨_,st,aL,rfl,s4,hN,hH⟩:=hwr _ s3 4 _ (by decide) (by omega) (by omega) (by omega) (by omega) (by omega) hH;refine qv aL ?_;refine qm ?_;refine qe hK<|κ ⟨rx,_,_,_,rfl,au (rfl),?_⟩;exact⟨s4,hN,cX.aD cL hH⟩
   |true=>
    refine qC ?_;refine θ ?_;exact⟨true,s3,_,rfl,hH,by omega,by omega,by omega,by omega,by omega⟩
 ·rintro fr st ⟨free,s2,tmp,hfr,hH,h1,h2,h3,h4,h5⟩;rw[hfr];clear hfr;generalize hD fr=ee;clear fr;refine qq<|qq<|qj fun K hK=>qm ?_;refine qg ?_;refine qp (o:=3) ?_;refine ql hH av ?_;refine qg ?_;refine qe hK ?_
  by_cases aaD:20≤s2.o
  ·have jm:decide (((s2.o:Nat):Int)≥20)=true:=by rw[decide_eq_true_eq];omega
   refine qD rfl (by rw[jm]) ?_;refine qq<|qj fun K hK=>qm ?_;refine qm ?_;obtain⟨_,st,aL,rfl,s4,hN,hH⟩:=hwr _ s2 10 _ (by decide) h1 h2 (by omega) (by omega) h5 hH;refine qv aL ?_;refine qm ?_;refine qe hK<|κ ⟨rx,_,_,_,rfl,au (rfl),?_⟩;exact⟨s4,hN,cX.aD cL hH⟩
  have jm:decide (((s2.o:Nat):Int)≥20)=false:=by rw[decide_eq_false_iff_not];omega
  refine qE rfl (by rw[jm]) ?_;refine θ<|qq<|qj fun K hK=>Qy (d:=.agg [.int .i64 6,.nul,.int .i64 0,.int .i64 0,.bool false,.int .i64 0,.int .i64 1]) (st1:=_) rfl rfl rfl (ae rfl _) ?_;refine qa hH fun k5 st yh hH=>?_;dsimp only[u2,u1,u3,u4,setMany,u5,u6,ς,δ,bm,bo,aw,ax,bH] at hH;refine qS hH av fun st hH=>?_;dsimp only[u2,u1,u3,u4,setMany,u5,u6,ς,δ,bm,bo,aw,ax,bH] at hH;refine qe hK ?_;have hH:Has N S2 st (.box k (.mem 0 false (bm gs bZ s2))::.aO bZ 1 (cw.map aw)::.box k5 (.mem 0 false [.int .i64 6,.nul,.int .i64 0,.int .i64 0,.bool false,.int .i64 0,.int .i64 1])::H):=oo hH;refine qq<|qq<|ab.kE (fun fr st=>∃(cap:Int) (s3:fU) (tmp:List (Nat×D)),fr=⟨7,[.ptr k 0 0,hD fr 1,hD fr 2,.int .i64 (s.i:Nat),.bool free,.ptr k5 0 0,hD fr 6],tmp⟩∧Has N S2 st (.box k (.mem 0 false (bm gs bZ s3))::.aO bZ 1 (cw.map aw)::.box k5 (.mem 0 false [.int .i64 6,.nul,.int .i64 0,.int .i64 0,.bool false,.int .i64 cap,.int .i64 1])::H)∧(s3.e=0)∧(s3.o=s.o)∧(s3.g≤4)∧(s3.i=s2.i)) ?_ ?_
  ·refine qj fun K hK=>qm ?_;refine qg ?_;refine qe hK ?_
   cases free with
   |true=>
    refine qC ?_;refine θ ?_;exact⟨0,s2,_,rfl,hH,h1,h2,by omega,rfl⟩
   |false=>
    refine qB ?_;refine qq<|qq<|qj fun K hK=>qm ?_;refine qg ?_;refine qp (o:=4) ?_;refine ql hH av ?_;refine qg ?_;refine qe hK ?_
    by_cases aaz:4≤s2.g
    ·have jm:decide (((s2.g:Nat):Int)≥4)=true:=by rw[decide_eq_true_eq];omega
     refine qD rfl (by rw[jm]) ?_;refine qq<|qj fun K hK=>qm ?_;refine qm ?_;obtain⟨_,st,aL,rfl,s4,hN,hH⟩:=hwr _ s2 13 _ (by decide) h1 h2 (by omega) (by omega) h5 hH;refine qv aL ?_;refine qm ?_;refine qe hK<|κ ⟨rx,_,_,_,rfl,au (rfl),?_⟩;exact⟨s4,hN,cX.aD cL (hH.erase 2)⟩
    ·have jm:decide (((s2.g:Nat):Int)≥4)=false:=by rw[decide_eq_false_iff_not];omega
     refine qE rfl (by rw[jm]) ?_;refine θ<|qq<|qj fun K hK=>qm ?_;refine qg ?_;refine qp (o:=4) ?_;refine ql hH av ?_;refine qA ?_;refine qg ?_;refine qp (o:=4) ?_;refine qT hH av fun st hH=>?_;dsimp only[u2,u1,u3,u4,setMany,u5,u6,ς,δ,bm,bo,aw,ax,bH] at hH;refine qe hK<|qj fun K hK=>qm ?_;refine qg ?_;refine qp (o:=4) ?_;refine ql hH av ?_;refine qp (o:=5) ?_;refine qT hH dF fun st hH=>?_;dsimp only[u2,u1,u3,u4,setMany,u5,u6,ς,δ,bm,bo,aw,ax,bH] at hH;refine qe hK ?_;exact⟨((s2.g+1:Nat):Int),{s2 with g:=s2.g+1},_,rfl,hH,h1,h2,by show s2.g+1≤4;omega,rfl⟩
  ·rintro fr st ⟨cap,s3,tmp,hfr,hH,e1,e2,e3,e4⟩;rw[hfr];clear hfr;generalize hD fr=ee;clear fr;refine qq<|qj fun K hK=>qm ?_;refine qg ?_;refine qp (o:=3) ?_;refine ql hH av ?_;refine qA ?_;refine qg ?_;refine qp (o:=3) ?_;refine qT hH av fun st hH=>?_;dsimp only[u2,u1,u3,u4,setMany,u5,u6,ς,δ,bm,bo,aw,ax,bH] at hH;refine qe hK ?_;have hH:Has N S2 st (.box k (.mem 0 false (bm gs bZ {s3 with o:=s3.o+1}))::.aO bZ 1 (cw.map aw)::.box k5 (.mem 0 false [.int .i64 6,.nul,.int .i64 0,.int .i64 0,.bool false,.int .i64 cap,.int .i64 1])::H):=hH;refine qq<|qj fun K hK=>qm ?_;obtain⟨_,st,aL,s4,⟨a1,a2,a3,a4,l,rfl,a5,a6⟩,hH⟩:=hA (m-1) (by omega) (s:={s3 with o:=s3.o+1}) bA e1 (by show s3.i≤_;omega) e3 (by show s3.o+1+(m-1)=20;omega) hH;refine qv aL ?_;refine qm ?_;refine qe hK ?_;have a1:s4.o=s3.o+1:=a1;have a3:s3.i≤s4.i:=a3;have a6:l.length≤4*(s4.i-s3.i)+1:=a6;have hla:=(uh a5).arg N S2;refine qq<|qj fun K hK=>qm ?_;refine qg ?_;refine qp (o:=3) ?_;refine ql hH av ?_;refine aa.ji (z:=((s.o:Nat):Int)) rfl (ev rfl) (ev rfl) (by rw[wrap_i64 (by omega) (by omega)]<;>omega) (ae rfl _) ?_;refine qg ?_;refine qp (o:=3) ?_;refine qT hH av fun st hH=>?_;dsimp only[u2,u1,u3,u4,setMany,u5,u6,ς,δ,bm,bo,aw,ax,bH] at hH;refine qe hK ?_
   obtain⟨s5,X2⟩:∃s5:fU,({s4 with o:=s.o}:fU)=s5:=⟨_,rfl⟩
   have hH:Has N S2 st (.box k (.mem 0 false (bm gs bZ s5))::.aO bZ 1 (cw.map aw)::.box k5 (.mem 0 false [.int .i64 6,.nul,.int .i64 0,.int .i64 0,.bool false,.int .i64 cap,.int .i64 1])::H):=by rw[←X2];exact hH
   have X1:s5.o=s.o∧s5.g=s4.g∧s5.i=s4.i:=by rw[←X2];exact⟨rfl,rfl,rfl⟩
   clear X2;obtain⟨b1,b2,b3⟩:=X1;refine qq<|qq<|ab.kE (fun fr st=>∃(s6:fU) (tmp:List (Nat×D)),fr=⟨7,[.ptr k 0 0,hD fr 1,hD fr 2,hD fr 3,.bool free,.ptr k5 0 0,wE l],tmp⟩∧Has N S2 st (.box k (.mem 0 false (bm gs bZ s6))::.aO bZ 1 (cw.map aw)::.box k5 (.mem 0 false [.int .i64 6,.nul,.int .i64 0,.int .i64 0,.bool false,.int .i64 cap,.int .i64 1])::H)∧(s6.o=s.o)∧(s6.g≤4)∧(s4.i≤s6.i)∧(s6.i≤gs.length)∧(s6.e≠0∨s6.e=0∧s4.i<s6.i)) ?_ ?_
   ·by_cases Y0:s5.e=0
    ·have bk:(s5.e==0)=true:=by simpa using Y0
     obtain⟨k1,k2,k3,k4,k5'⟩:=iv (gs:=gs) (s:=s5) (r:=41);have k5':=k5' (by omega);have hsk:lP gs s5.i 41=true→(dA gs s5 41).i=s5.i+1:=fun h=>by unfold dA;rw[if_pos h]
     refine qj fun K hK=>qm ?_;refine qg ?_;refine qp (o:=5) ?_;refine ql hH av ?_;refine qg ?_;refine qm ?_;refine qm ?_ (hg:=wi bk);obtain⟨_,st,aL,rfl,hH⟩:=eO (s:=s5) (by omega) 41 hH;refine qv aL ?_ (hg:=wi bk);refine qg ?_ (hg:=wi bk);refine qt bk ?_;refine qe hK ?_;generalize dA gs s5 41=s6 at*
     cases hb:lP gs s5.i 41 with
     |false=>
      refine qB ?_;refine qq<|qj fun K hK=>qm ?_;refine qm ?_;obtain⟨_,st,aL,rfl,s7,hN,hH⟩:=hwr _ s6 4 _ (by decide) (by omega) (by omega) (by omega) (by omega) (by omega) hH;refine qv aL ?_;refine qm ?_;refine qe hK<|κ ⟨rx,_,_,_,rfl,au (rfl),?_⟩;exact⟨s7,hN,cX.aD cL (hH.erase 2)⟩
     |true=>
      have hsk:=hsk hb;refine qC ?_;refine θ ?_;exact⟨s6,_,rfl,hH,by omega,by omega,by omega,by omega,.inr ⟨by omega,by omega⟩⟩
    ·have bk:(s5.e==0)=false:=by simpa using Y0
     refine qj fun K hK=>qm ?_;refine qg ?_;refine qp (o:=5) ?_;refine ql hH av ?_;refine qg ?_;refine qm ?_;refine qs ?_ (hg:=wn bk);refine qs ?_ (hg:=wn bk);refine qs ?_ (hg:=wn bk);refine qu bk ?_;refine qe hK<|qC ?_;refine θ ?_;exact⟨s5,_,rfl,hH,b1,by omega,by omega,by omega,.inl Y0⟩
   ·rintro fr st ⟨s6,tmp,hfr,hH,c1,c2,c3,c4,c5⟩;rw[hfr];clear hfr;generalize hD fr=ee;clear fr;refine qq<|qq<|qj fun K hK=>qm ?_;refine qe hK ?_
    cases free with
    |true=>
     refine qB ?_;refine qq<|qj fun K hK=>qm ?_;refine qm ?_;refine qe hK<|κ ⟨rx,_,_,_,rfl,au (rfl),?_⟩;refine⟨s6,⟨c1,c2,by omega,c4,l,rfl,a5,by omega,?_⟩,cX.aD cL (hH.erase 2)⟩
     rcases c5 with c5|⟨c5,c6⟩
     ·exact .inl c5
     ·exact .inr ⟨c5,by omega⟩
    |false=>
     refine qC ?_;refine θ<|qq<|qj fun K hK=>?_;refine aa.aF (m:=7) hH rfl (ev rfl) (by exact dF) (by dsimp only[List.drop_succ_cons,List.drop_zero,List.take_succ_cons,List.take_zero,bm,bo,aw,ax,bH]<;>rfl) rfl rfl (ae rfl _) ?_;refine qh (s:=7) (vs:=[_]) hH fun k89 st abt hH=>?_;dsimp only[u2,u1,u3,u4,setMany,u5,u6,ς,δ,bm,bo,aw,ax,bH] at hH;refine qm ?_;refine aa.sH (s:=7) hH rfl (ev rfl) (ev rfl) av ((uh a5).rows st) rfl rfl rfl rfl rfl rfl rfl ⟨(ε rfl),(ε rfl)⟩ (fun _=>(ae rfl _)) (by simp only[ξ,ζ,χ];omega) (.inr (ug a5)) (fun k hk=>by have kM:k89+1=k+1:=hk;omega) (fun x91 st NF hH=>?_);dsimp only[u2] at hH;refine qm ?_;refine qe hK ?_;have hH:Has N S2 st (.aO x91 7 ([.int .i64 6,.nul,.int .i64 0,.int .i64 0,.bool false,.int .i64 cap,.int .i64 1]::l.map bH)::.box k (.mem 0 false (bm gs bZ s6))::.aO bZ 1 (cw.map aw)::.box k5 (.mem 0 false [.int .i64 6,.nul,.int .i64 0,.int .i64 0,.bool false,.int .i64 cap,.int .i64 1])::H):=hH
     have hfz:=jw (L:=s0.bs.length) (l:=vD 6 0 0 false cap 1 []::l) hH av (by rw[List.map_cons,vB a5];rfl) (fun e he d hd=>by
      rcases η.1 he with rfl|he
      ·simp only[η,ι,or_false] at hd
       rcases hd with rfl|rfl|rfl|rfl|rfl|rfl|rfl<;>rfl
      ·exact rQ a5 e he d hd) (fun k hk=>by rw[←cL];exact NF k hk) (n:=16) (by decide)
     refine κ ⟨rx,_,_,_,rfl,au hfz,⟨s6,⟨c1,c2,by omega,c4,_,rfl,?_,by simp only[ζ];omega,?_⟩,cX.aD cL ((hH.drop 1).erase 2)⟩⟩
     ·intro n hn
      rcases η.1 hn with rfl|hn
      ·exact⟨rfl,by simp[vD],by simp[vD]⟩
      ·exact a5 n hn
     ·rcases c5 with c5|⟨c5,c6⟩
      ·exact .inl c5
      ·exact .inr ⟨c5,by simp only[ζ];omega⟩
end Go.Proofs.YtbdnabmmlbiomaaGreat
