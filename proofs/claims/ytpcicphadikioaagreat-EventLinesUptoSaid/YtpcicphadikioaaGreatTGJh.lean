/-
 What a rule reaches: the search, both texts.
-/
import Derived.Test.YtpcicphadikioaaGreatTGHr
import Derived.Test.YtpcicphadikioaaGreatTGUa
import Derived.Test.YtpcicphadikioaaGreatTM2
set_option maxRecDepth 100000
set_option maxHeartbeats 4000000
set_option linter.unusedSimpArgs false
set_option linter.unusedVariables false
set_option linter.unusedSectionVars false
namespace Go.Proofs.YtpcicphadikioaaGreat
open Go.V Go
theorem nH (l:List Int):∀e∈l.map az,∀d∈e,bK d=true:=by
 intro e he d hd;obtain⟨x,_,rfl⟩:=List.mem_map.1 he;simp only[az,List.mem_cons,List.not_mem_nil,or_false] at hd;subst hd;rfl
theorem FU (l:List Int):∀e∈l.map az,e.length=1:=by
 intro e he;obtain⟨x,_,rfl⟩:=List.mem_map.1 he;rfl
def Dv (l:List Int):D:=.sl ((l.map az).map (jn 1))
theorem Du (l:List Int):eZ (Dv l) 1 (l.map az):=eZ.frozen (FU l) (nH l)
def jH (pc:Nat) (i:aT):List Int:=
 if i.op=2 then[i.x,i.y] else if i.op=3 then[i.x] else if i.op=7 then[] else[((pc+1:Nat):Int)]
def Ar (code:List aT):Prop:=∀pc i,code[pc]?=some i→∀v∈jH pc i,0≤v∧v<code.length
theorem vy {n ns pc:Nat} {i:aT} (h:o3 n ns pc i=true):∀v∈jH pc i,0≤v∧v<n:=by
 intro v hv
 have pa:∀a b:Int,FV a b=true→0≤a∧a<b:=fun a b h=>by
  unfold FV at h;simp only[Bool.and_eq_true,decide_eq_true_eq] at h;exact⟨h.1,h.2⟩
 unfold o3 at h;unfold jH at hv
 split at h
 ·rename_i h1;rw[if_neg (by omega),if_neg (by omega),if_neg (by omega)] at hv;simp only[Bool.and_eq_true,decide_eq_true_eq] at h;simp only[List.mem_cons,List.not_mem_nil,or_false] at hv;subst hv;omega
 ·simp only[Bool.and_eq_true] at h;obtain⟨_,h⟩:=h
  split at h
  ·rename_i h2;rw[if_pos h2] at hv;simp only[Bool.and_eq_true] at h;simp only[List.mem_cons,List.not_mem_nil,or_false] at hv
   rcases hv with rfl|rfl
   ·exact pa _ _ h.1
   ·exact pa _ _ h.2
  ·rename_i h2;rw[if_neg h2] at hv;simp only[Bool.and_eq_true] at h;obtain⟨_,h⟩:=h
   split at h
   ·rename_i h3;rw[if_pos h3] at hv;simp only[List.mem_cons,List.not_mem_nil,or_false] at hv;subst hv;exact pa _ _ h
   ·rename_i h3;rw[if_neg h3] at hv
    split at h
    ·rename_i h4;rw[if_neg (by omega)] at hv;simp only[Bool.and_eq_true,decide_eq_true_eq] at h;simp only[List.mem_cons,List.not_mem_nil,or_false] at hv;subst hv;omega
    ·split at h
     ·rename_i h5;rw[if_neg (by omega)] at hv;simp only[Bool.and_eq_true,decide_eq_true_eq] at h;simp only[List.mem_cons,List.not_mem_nil,or_false] at hv;subst hv;omega
     ·split at h
      ·rename_i h7;rw[if_pos h7] at hv;cases hv
      ·cases h
def Pp (code:List aT):Nat→List Bool→List Int→List Bool
 |0,seen,_=>seen
 |_+1,seen,[]=>seen
 |f+1,seen,v::PN=>match seen[v.toNat]? with
  |some false=>match code[v.toNat]? with
   |some i=>Pp code f (seen.set v.toNat true) ((jH v.toNat i).reverse++PN)
   |none=>seen
  |_=>Pp code f seen PN
def Hl (code:List aT) (start:Int):List Bool:=Pp code (3*code.length+1) (List.replicate code.length false) [start]
theorem count_set {seen:List Bool} {k:Nat} (h:seen[k]?=some false):(seen.set k true).count false+1=seen.count false:=by
 induction seen generalizing k with
 |nil=>simp at h
 |cons b l ih=>
  cases k with
  |zero=>simp at h;subst h;simp
  |succ k=>
   have:=ih (k:=k) (by simpa using h);simp only[List.set_cons_succ,List.count_cons];omega
def CW (p:Pg) (r:Nat) (s:Int) (n:Nat):Prop:=∀pc i,pc<n→(Hl p.code s)[pc]?=some true→p.code[pc]?=some i→i.op=7→i.x=(r:Int)
structure EM (p:Pg):Prop where
 cl:p.code.length≤400
 sl:p.bp.length≤8
 sh:∀pc i,p.code[pc]?=some i→o3 p.code.length p.bp.length pc i=true
 st:∀v∈p.bp,0≤v∧v<(p.code.length:Int)
 fo:∀r s,p.bp[r]?=some s→CW p r s p.code.length
theorem BT {p:Pg} (h:∀pc i,p.code[pc]?=some i→o3 p.code.length p.bp.length pc i=true):Ar p.code:=
 fun pc i hi=>vy (h pc i hi)
theorem EM.closed {p:Pg} (h:EM p):Ar p.code:=BT h.sh
theorem pa {a b:Int}:FV a b=true↔0≤a∧a<b:=by
 unfold FV;simp only[Bool.and_eq_true,decide_eq_true_eq,ge_iff_le]
structure bn where
 op:Int
 rd:D
 rs:List Rg
 mn:Int
 mx:Int
 lz:Bool
 cap:Int
 kids:Int
def aE (n:bn):List D:=[.int .i64 n.op,n.rd,.int .i64 n.mn,.int .i64 n.mx,.bool n.lz,.int .i64 n.cap,.int .i64 n.kids]
def bn.ok (n:bn):Prop:=eZ n.rd 2 (n.rs.map av)∧n.rs.length≤1048576∧n.kids≤9223372036854775807
structure Nl where
 d:D
 l:List bn
structure Nl.ok (x:Nl):Prop where
 c:eZ x.d 7 (x.l.map aE)
 i:∀n∈x.l,n.ok
 nl:x.l.length≤1048576
theorem kJ {l:List bn} {i:Nat} {q:bn} (h:l[i]?=some q):(l.map aE)[i]?=some (aE q):=by rw[List.getElem?_map,h];rfl
mutual
inductive Tr where
 |mk (n:bn) (ks:aJ)
inductive aJ where
 |nil
 |cons (t:Tr) (ts:aJ)
end
def aJ.len:aJ→Nat
 | .nil=>0
 | .cons _ ts=>ts.len+1
mutual
def Tr.flat:Tr→List bn
 | .mk n ks=>n::ks.flat
def aJ.flat:aJ→List bn
 | .nil=>[]
 | .cons t ts=>t.flat++ts.flat
end
def sC (n:bn) (nk:Nat):Prop:=
 n.kids=(nk:Int)∧(((n.op=1∨n.op=7∨n.op=8)∧nk=0)∨(n.op=2∧nk=0)∨((n.op=3∨n.op=4)∧2≤nk)∨
  (n.op=5∧nk=1∧0≤n.mn∧n.mn≤30∧(n.mx=-1∨(n.mn≤n.mx∧n.mx≤30)))∨(n.op=6∧nk=1∧1≤n.cap∧n.cap≤4))
mutual
def Tr.ok:Tr→Prop
 | .mk n ks=>sC n ks.len∧ks.ok
def aJ.ok:aJ→Prop
 | .nil=>True
 | .cons t ts=>t.ok∧ts.ok
end
def bC (n:bn) (s k:Nat):Nat:=
 if n.op=2∨n.op=7∨n.op=8 then 1
 else if n.op=4 then s+2*(k-1)
 else if n.op=6 then s+2
 else if n.op=5 then(if n.mx=-1 then n.mn.toNat*s+s+2 else n.mn.toNat*s+(n.mx.toNat-n.mn.toNat)*(s+1))
 else s
mutual
def Tr.sz:Tr→Nat
 | .mk n ks=>bC n ks.sz ks.len
def aJ.sz:aJ→Nat
 | .nil=>0
 | .cons t ts=>t.sz+ts.sz
end
def du (op x y:Int) (rs:List Rg):aT:=⟨op,x,y,.sl ((rs.map av).map (jn 2)),rs⟩
def n9 (s o:Nat) (lz:Bool):aT:=if lz=true then du 2 (o:Nat) ((s+1:Nat):Int) [] else du 2 ((s+1:Nat):Int) (o:Nat) []
def lv (e:Nat):aT:=du 3 (e:Nat) 0 []
def gZ (c:Nat→List aT) (z:Nat):Nat→Nat→List aT
 |0,_=>[]
 |k+1,b=>c b++gZ c z k (b+z)
def gN (sp:Nat→aT) (c:Nat→List aT) (z:Nat):Nat→Nat→List aT
 |0,_=>[]
 |k+1,b=>sp b::(c (b+1)++gN sp c z k (b+1+z))
def vX (z:Nat):Nat→Nat→List Nat
 |0,_=>[]
 |k+1,b=>b::vX z k (b+1+z)
def tO (n:bn) (c:Nat→List aT) (z b:Nat):List aT:=
 if n.mx=-1 then gZ c z n.mn.toNat b++(n9 (b+n.mn.toNat*z) (b+n.mn.toNat*z+z+2) n.lz::(c (b+n.mn.toNat*z+1)++[lv (b+n.mn.toNat*z)]))
 else gZ c z n.mn.toNat b++gN (fun s=>n9 s (b+n.mn.toNat*z+(n.mx.toNat-n.mn.toNat)*(z+1)) n.lz) c z (n.mx.toNat-n.mn.toNat) (b+n.mn.toNat*z)
mutual
def aN:Tr→Nat→List aT
 | .mk n ks,b=>
  if n.op=2 then[du 1 0 0 n.rs]
  else if n.op=7 then[du 5 0 0 []]
  else if n.op=8 then[du 6 0 0 []]
  else if n.op=3 then jj ks b
  else if n.op=4 then fz (lv (b+bC n ks.sz ks.len)) ks b
  else if n.op=5 then tO n (jj ks) ks.sz b
  else if n.op=6 then du 4 (2*n.cap) 0 []::(jj ks (b+1)++[du 4 (2*n.cap+1) 0 []])
  else[]
def jj:aJ→Nat→List aT
 | .nil,_=>[]
 | .cons t ts,b=>aN t b++jj ts (b+t.sz)
def fz (jp:aT):aJ→Nat→List aT
 | .nil,_=>[]
 | .cons t ts,b=>if ts.len=0 then aN t b else n9 b (b+1+t.sz+1) false::(aN t (b+1)++jp::fz jp ts (b+t.sz+2))
end
def rq:aJ→Nat→List Nat
 | .nil,_=>[]
 | .cons t ts,b=>if ts.len=0 then[] else(b+1+t.sz)::rq ts (b+t.sz+2)
theorem jY {c:Nat→List aT} {z:Nat} (hc:∀b,(c b).length=z):∀k b,(gZ c z k b).length=k*z
 |0,b=>by simp[gZ]
 |k+1,b=>by rw[gZ,List.length_append,hc,jY hc k,Nat.add_mul];omega
theorem mg {sp:Nat→aT} {c:Nat→List aT} {z:Nat} (hc:∀b,(c b).length=z):∀k b,(gN sp c z k b).length=k*(z+1)
 |0,b=>by simp[gN]
 |k+1,b=>by rw[gN,List.length_cons,List.length_append,hc,mg hc k,Nat.add_mul];omega
theorem CF {n:bn} {c:Nat→List aT} {z b:Nat} (hc:∀b,(c b).length=z) (h:n.op=5):(tO n c z b).length=bC n z 1:=by
 unfold tO bC;rw[if_neg (show¬(n.op=2∨n.op=7∨n.op=8) by omega),if_neg (show¬n.op=4 by omega),if_neg (show¬n.op=6 by omega),if_pos h]
 split
 ·rw[List.length_append,jY hc,List.length_cons,List.length_append,hc];simp only[List.length_cons,List.length_nil];omega
 ·rw[List.length_append,jY hc,mg hc]
theorem aJ.zZ {ks:aJ} (h:ks.len=1):∃t,ks=.cons t .nil:=by
 cases ks with
 |nil=>simp[aJ.len] at h
 |cons t ts=>cases ts with
  |nil=>exact⟨t,rfl⟩
  |cons u us=>simp[aJ.len] at h
theorem aJ.len_nil {ks:aJ} (h:ks.len=0):ks=.nil:=by
 cases ks with
 |nil=>rfl
 |cons t ts=>simp[aJ.len] at h
mutual
theorem bW:∀(t:Tr) (b:Nat),t.ok→(aN t b).length=t.sz
 | .mk n ks,b,h=>by
  simp only[Tr.ok] at h;obtain⟨h1,h2⟩:=h;have hc:=fun b=>mP ks b h2;have ha:=fun jp b=>mU jp ks b h2;simp only[aN,Tr.sz];obtain⟨_,⟨h3,h4⟩|⟨h3,h4⟩|⟨h3,h4⟩|⟨h3,h4,h5⟩|⟨h3,h4,h5⟩⟩:=h1
  ·have hk:=aJ.len_nil h4;subst hk
   by_cases q7:n.op=7
   ·simp[q7,bC]
   ·by_cases q8:n.op=8
    ·simp[q8,bC]
    ·have q1:n.op=1:=by omega
     simp[q1,bC,aJ.sz]
  ·simp[h3,bC]
  ·rcases h3 with h3|h3
   ·simp[h3,bC,hc]
   ·simp[h3,bC,ha]
  ·have:=CF (n:=n) (b:=b) hc h3;simp only[h3] at this⊢;simp only[show¬((5:Int)=2) by decide,show¬((5:Int)=7) by decide,show¬((5:Int)=8) by decide,show¬((5:Int)=3) by decide,show¬((5:Int)=4) by decide,if_false,if_true];rw[this,h4]
  ·simp[h3,bC,hc]
theorem mP:∀(ts:aJ) (b:Nat),ts.ok→(jj ts b).length=ts.sz
 | .nil,b,_=>by simp[jj,aJ.sz]
 | .cons t ts,b,h=>by
  simp only[aJ.ok] at h;simp only[jj,aJ.sz,List.length_append];rw[bW t b h.1,mP ts _ h.2]
theorem mU (jp:aT):∀(ts:aJ) (b:Nat),ts.ok→(fz jp ts b).length=ts.sz+2*(ts.len-1)
 | .nil,b,_=>by simp[fz,aJ.sz,aJ.len]
 | .cons t ts,b,h=>by
  simp only[aJ.ok] at h;have h1:=mU jp ts (b+t.sz+2) h.2;simp only[fz,aJ.sz,aJ.len]
  by_cases q:ts.len=0
  ·rw[if_pos q,bW t b h.1,q];have:=aJ.len_nil q;subst this;simp[aJ.sz]
  ·rw[if_neg q,List.length_cons,List.length_append,List.length_cons,bW t _ h.1,h1];omega
end
def gX (f:Nat→aT) (c:List aT) (l:List Nat):List aT:=l.foldl (fun c j=>c.set j (f j)) c
theorem o4 {α:Type} (pre post:List α) (x y:α):(pre++x::post).set pre.length y=pre++y::post:=by
 rw[List.set_append_right _ _ (Nat.le_refl _),Nat.sub_self];rfl
theorem pe {α:Type} (pre post:List α) (x:α):(pre++x::post)[pre.length]?=some x:=by
 rw[List.getElem?_append_right (Nat.le_refl _),Nat.sub_self];rfl
theorem ny {sp:Nat→aT} {c:Nat→List aT} {z:Nat} (hc:∀b,(c b).length=z) {i0:aT}:∀(k b:Nat) (pre post:List aT),pre.length=b→gX sp (pre++gN (fun _=>i0) c z k b++post) (vX z k b)=pre++gN sp c z k b++post∧∀j∈vX z k b,(pre++gN (fun _=>i0) c z k b++post)[j]?=some i0
 |0,b,pre,post,_=>⟨rfl,fun j hj=>by cases hj⟩
 |k+1,b,pre,post,h=>by
  have ih:=ny (sp:=sp) hc (i0:=i0) k (b+1+z) (pre++i0::c (b+1)) post (by rw[List.length_append,List.length_cons,hc];omega);have B8:=ny (sp:=sp) hc (i0:=i0) k (b+1+z) (pre++sp b::c (b+1)) post (by rw[List.length_append,List.length_cons,hc];omega);simp only[gN,vX];have e:pre++i0::(c (b+1)++gN (fun _=>i0) c z k (b+1+z))++post=pre++i0::(c (b+1)++gN (fun _=>i0) c z k (b+1+z)++post):=by simp
  have e2:pre++i0::c (b+1)++gN (fun _=>i0) c z k (b+1+z)++post=pre++i0::(c (b+1)++gN (fun _=>i0) c z k (b+1+z)++post):=by simp
  refine⟨?_,fun j hj=>?_⟩
  ·unfold gX at B8⊢;rw[List.foldl_cons,e]
   have hs:(pre++i0::(c (b+1)++gN (fun _=>i0) c z k (b+1+z)++post)).set b (sp b)=pre++sp b::c (b+1)++gN (fun _=>i0) c z k (b+1+z)++post:=by
    rw[←h,o4];simp
   rw[hs,B8.1];simp
  ·rw[e]
   rcases List.mem_cons.1 hj with rfl|hj
   ·rw[←h];exact pe _ _ _
   ·rw[←e2];exact ih.2 j hj
theorem nU {jp i0:aT}:∀(ts:aJ) (b:Nat) (pre post:List aT),ts.ok→pre.length=b→gX (fun _=>jp) (pre++fz i0 ts b++post) (rq ts b)=pre++fz jp ts b++post∧∀j∈rq ts b,(pre++fz i0 ts b++post)[j]?=some i0
 | .nil,b,pre,post,_,_=>⟨by simp[fz,rq,gX],fun j hj=>by simp[rq] at hj⟩
 | .cons t ts,b,pre,post,eC,h=>by
  simp only[aJ.ok] at eC
  by_cases q:ts.len=0
  ·simp only[fz,rq,if_pos q];exact⟨rfl,fun j hj=>by cases hj⟩
  ·simp only[fz,rq,if_neg q];generalize n9 b (b+1+t.sz+1) false=sp;have hcl:=bW t (b+1) eC.1;have ih:=nU (jp:=jp) (i0:=i0) ts (b+t.sz+2) (pre++sp::(aN t (b+1)++[i0])) post eC.2 (by simp only[List.length_append,List.length_cons,List.length_nil,hcl];omega);have B8:=nU (jp:=jp) (i0:=i0) ts (b+t.sz+2) (pre++sp::(aN t (b+1)++[jp])) post eC.2 (by simp only[List.length_append,List.length_cons,List.length_nil,hcl];omega);generalize fz i0 ts (b+t.sz+2)=A at*;have e:pre++sp::(aN t (b+1)++i0::A)++post=(pre++sp::aN t (b+1))++i0::(A++post):=by simp
   have hl:(pre++sp::aN t (b+1)).length=b+1+t.sz:=by simp only[List.length_append,List.length_cons,hcl];omega
   refine⟨?_,fun j hj=>?_⟩
   ·unfold gX at B8⊢;rw[List.foldl_cons,e,←hl,o4];have:=B8.1;simp only[List.append_assoc,List.cons_append,List.nil_append] at this⊢;exact this
   ·rw[e]
    rcases List.mem_cons.1 hj with rfl|hj
    ·rw[←hl];exact pe _ _ _
    ·have:=ih.2 j hj;simp only[List.append_assoc,List.cons_append,List.nil_append] at this⊢;exact this
def fK {α:Type} (L:List α) (at_:Nat) (M:List α):Prop:=∃post,L.drop at_=M++post
theorem fK.head {α:Type} {L M:List α} {a:α} {at_:Nat} (h:fK L at_ (a::M)):L[at_]?=some a:=by
 obtain⟨post,h⟩:=h;have:=congrArg (·[0]?) h
 simpa using this
theorem fK.tail {α:Type} {L M:List α} {a:α} {at_:Nat} (h:fK L at_ (a::M)):fK L (at_+1) M:=by
 obtain⟨post,h⟩:=h;refine⟨post,?_⟩;rw[←List.drop_drop,h];rfl
theorem fK.left {α:Type} {L M M':List α} {at_:Nat} (h:fK L at_ (M++M')):fK L at_ M:=by
 obtain⟨post,h⟩:=h;exact⟨M'++post,by rw[h,List.append_assoc]⟩
theorem fK.right {α:Type} {L M M':List α} {at_:Nat} (h:fK L at_ (M++M')):fK L (at_+M.length) M':=by
 obtain⟨post,h⟩:=h;refine⟨post,?_⟩;rw[←List.drop_drop,h,List.append_assoc,List.drop_left]
theorem fK.le {α:Type} {L M:List α} {at_:Nat} (h:fK L at_ M) (hM:M≠[]):at_+M.length≤L.length:=by
 obtain⟨post,h⟩:=h;have:=congrArg List.length h;simp only[List.length_drop,List.length_append] at this
 have:0<M.length:=by cases M with|nil=>exact absurd rfl hM|cons _ _=>simp
 omega
theorem fK.all {α:Type} (L:List α):fK L 0 L:=⟨[],by simp⟩
mutual
def Tr.zs:Tr→List Int
 | .mk n ks=>((min (bC n ks.sz ks.len) 401:Nat):Int)::ks.zs
def aJ.zs:aJ→List Int
 | .nil=>[]
 | .cons t ts=>t.zs++ts.zs
end
mutual
def Tr.es:Tr→Nat→List Int
 | .mk n ks,at_=>((at_+1+ks.flat.length:Nat):Int)::ks.es (at_+1)
def aJ.es:aJ→Nat→List Int
 | .nil,_=>[]
 | .cons t ts,at_=>t.es at_++ts.es (at_+t.flat.length)
end
mutual
theorem Tr.iH:∀t:Tr,t.zs.length=t.flat.length
 | .mk n ks=>by simp[Tr.zs,Tr.flat,aJ.iH ks]
theorem aJ.iH:∀ts:aJ,ts.zs.length=ts.flat.length
 | .nil=>rfl
 | .cons t ts=>by simp[aJ.zs,aJ.flat,Tr.iH t,aJ.iH ts]
end
mutual
theorem Tr.iQ:∀(t:Tr) (a:Nat),(t.es a).length=t.flat.length
 | .mk n ks,a=>by simp[Tr.es,Tr.flat,aJ.iQ ks]
theorem aJ.iQ:∀(ts:aJ) (a:Nat),(ts.es a).length=ts.flat.length
 | .nil,_=>rfl
 | .cons t ts,a=>by simp[aJ.es,aJ.flat,Tr.iQ t,aJ.iQ ts]
end
theorem Tr.jg (t:Tr):0<t.flat.length:=by cases t;simp[Tr.flat]
theorem aJ.pX:∀ts:aJ,ts.len≤ts.flat.length
 | .nil=>Nat.le_refl _
 | .cons t ts=>by
  have h1:=aJ.pX ts;have h2:=t.jg;simp only[aJ.len,aJ.flat,List.length_append];omega
end Go.Proofs.YtpcicphadikioaaGreat
namespace Go.V
variable{N:Nat} {S st:St} {H:List bh}
theorem cv.at_ {α β:Type} {R:α→β→Prop}:∀{l:List α} {m:List β} {i:Nat} {b:β},cv R l m→m[i]?=some b→∃a,l[i]?=some a∧R a b
 |_,_,_,_,.nil,h=>by simp at h
 |_,_,0,_,.cons a t,h=>by simp only[List.getElem?_cons_zero,Option.some.injEq] at h;subst h;exact⟨_,rfl,a⟩
 |_,_,i+1,_,.cons a t,h=>by simp only[List.getElem?_cons_succ] at h⊢;exact t.at_ h
theorem cv.set {α β:Type} {R:α→β→Prop} {a:α} {b:β} (r:R a b):∀{l:List α} {m:List β} (i:Nat),cv R l m→cv R (l.set i a) (m.set i b)
 |_,_,_,.nil=>.nil
 |_,_,0,.cons _ t=>.cons r t
 |_,_,i+1,.cons h t=>.cons h (t.set r i)
theorem cv.setMany {R:D→D→Prop}:∀{xs ys:List D} {c d:List D} (o:Nat),cv R xs ys→cv R c d→cv R (setMany c o xs) (setMany d o ys)
 |_,_,_,_,_,.nil,h=>h
 |_,_,_,_,o,.cons r t,h=>by simp only[Go.V.setMany];exact t.setMany (o+1) (h.set r o)
theorem cv.same {R:D→D→Prop}:∀{l:List D},(∀d∈l,R d d)→cv R l l
 |[],_=>.nil
 |d::l,h=>.cons (h d (List.mem_cons_self ..)) (cv.same fun x hx=>h x (List.mem_cons_of_mem _ hx))
theorem Has.Lf {j:Nat} {x:D} {s:Nat} {ks:Nat→Prop} {vs:List (List D)} (hH:Has N S st H) (hj:H[j]?=some (.deep ks x s vs)):∃es,Rows st s x es∧es.length=vs.length:=by
 obtain⟨⟨es,h1,h2⟩,_⟩:=(hH.ok j _ hj).1;exact⟨es,h1.rows,h2.len⟩
theorem Has.Pn {j k aq off len s:Nat} {ks:Nat→Prop} {vs:List (List D)} {i o:Nat} {v cs:List D} (h:Has N S st H) (hj:H[j]?=some (.deep ks (.win k aq off len s) s vs)) (hi:vs[i]?=some v) (hl:o+cs.length≤s) (hp:∀d∈cs,bK d=true) (hw:S.flr≤N∨refs cs=0):
  ∃ah,st.wr k aq (off+i*s+o) cs=some ah∧Has N S ah (H.set j (.deep ks (.win k aq off len s) s (vs.set i (setMany v o cs)))):=by
 obtain⟨⟨es,he1,xI⟩,he3⟩:=(h.ok j _ hj).1;have hK:=(h.ok j _ hj).2;obtain⟨e,Tf,aF⟩:=xI.at_ hi
 have Ge:Has N S st [.aD (.win k aq off len s) s es]:=by
  refine⟨h.ex,h.hN,h.eL,fun i e hi=>?_,fun i i' a b hii ha hb k mD fX=>?_⟩
  ·cases i with
   |zero=>simp only[List.getElem?_cons_zero,Option.some.injEq] at hi;subst hi;exact⟨he1,fun k hk=>hK k (.inl hk)⟩
   |succ i=>simp at hi
  ·cases i with
   |zero=>cases i' with
    |zero=>exact hii rfl
    |succ i'=>simp at hb
   |succ i=>simp at ha
 obtain⟨ah,q1,q2⟩:=Ge.tL (j:=0) aG Tf hl hw;refine⟨ah,q1,?_⟩;have hown:=q2.own (j:=0) aG
 have NY:(∀n,n≠k→ah.bs[n]?=st.bs[n]?)∧st.bs.length=ah.bs.length∧ah.flr=st.flr∧ah.ro=st.ro:=by
  unfold St.wr at q1
  split at q1
  ·split at q1
   ·cases q1;exact⟨fun n hn=>by simp only;rw[List.getElem?_set_ne (fun e=>hn e.symm)],by simp,rfl,rfl⟩
   ·cases q1
  ·cases q1
 obtain⟨c1,c2,c3,c4⟩:=NY;have hkk:=hK k (.inl (by simp only[D.ref]));have hne:∀n,ks n→n≠k:=fun n hn e=>he3 k (by simp only[D.ref]) (e▸hn);have wU:∀n,ks n→ah.bs[n]?=st.bs[n]?:=fun n hn=>c1 n (hne n hn);refine h.zn hj (fun n hn hnot=>c1 n fun e=>hnot (.inl (by simp only[D.ref];omega))) (Nat.le_of_eq c2) c3 c4 ⟨⟨_,hown,?_⟩,he3⟩ (fun n hn=>.inl hn) fun n hn=>?_
 ·refine cv.set ?_ i (xI.mono fun a b=>cv.mono fun c d=>fe.move wU);exact(cv.same fun d hd=>.plain d (hp d hd)).setMany o (aF.mono fun c d=>fe.move wU)
 ·rw[←c2];exact(hK n hn).2
variable{P:Pv} {ops:Array Oper} {rest:List Oper} {fr aA:Fr} {Q:Fr→St→Prop} {ty:TypeId} {pp:String} {a:Array Edge} {g:Option (Nat×Bool)} {dst:Nat}
theorem ae.BN {t e:TypeId} {xo:Operand} {x:D} {s j:Nat} {ks:Nat→Prop} {vs:List (List D)} (hH:Has N S st H) (hg:ay ops fr ⟨some dst,.call ⟨.builtin .len,#[xo],#[t]⟩,ty,pp,a,g⟩=some true) (hx:fr.ev xo=x) (hj:H[j]?=some (.deep ks x s vs)) (ht:P.bY t=some (.slice e)) (hp:fr.put dst (.int .i64 (vs.length:Nat))=aA)
  (h:ae P ops rest aA st Q):ae P ops (⟨some dst,.call ⟨.builtin .len,#[xo],#[t]⟩,ty,pp,a,g⟩::rest) fr st Q:=by
 obtain⟨es,h1,h2⟩:=hH.Lf hj;exact ae.iZ hg hx h1 ht (by rw[h2];exact hp) h
theorem ae.Eh {t e:TypeId} {xo io:Operand} {x:D} {s i j:Nat} {kk:IntKind} {ks:Nat→Prop} {vs:List (List D)} {aA:D→Fr} (hH:Has N S st H) (hg:ay ops fr ⟨some dst,.indexAddr t xo io,ty,pp,a,g⟩=some true) (hx:fr.ev xo=x) (hi:fr.ev io=.int kk (i:Nat)) (hj:H[j]?=some (.deep ks x s vs)) (ht:P.bY t=some (.slice e)) (hs:bG P e=some s) (hr:i<vs.length) (hp:∀p,fr.put dst p=aA p)
  (h:∀p,nX x s i 0 p→ae P ops rest (aA p) st Q):ae P ops (⟨some dst,.indexAddr t xo io,ty,pp,a,g⟩::rest) fr st Q:=by
 obtain⟨⟨es,he1,xI⟩,he3⟩:=(hH.ok j _ hj).1;have hlen:=xI.len
 cases he1 with
 |nul=>simp at hlen;omega
 |win k aq off es c hm hl hc he=>
  refine ae.go hg rfl (d:=.ptr k aq (off+i*s)) (st1:=st) ?_ (hp _) (h _ ⟨k,aq,off,_,rfl,rfl⟩);simp only[dJ,hx,hi,bB,ht,hs,Option.bind_some,St.mem_of hm,Option.isSome_some];rw[if_pos ⟨trivial,by omega,by omega,trivial⟩];rfl
theorem ae.rb {t:TypeId} {ao vo:Operand} {x y v:D} {s i o j:Nat} {ks:Nat→Prop} {vs:List (List D)} {r cs:List D} (hH:Has N S st H) (hg:ay ops fr ⟨none,.store t ao vo,ty,pp,a,g⟩=some true) (ha:fr.ev ao=y) (hv:fr.ev vo=v) (hR:nX x s i o y) (hcs:v.cells?=some cs) (hs:bG P t=some cs.length) (hj:H[j]?=some (.deep ks x s vs)) (hr:vs[i]?=some r) (hl:o+cs.length≤s) (hq:∀d∈cs,bK d=true) (hw:S.flr≤N∨refs cs=0)
  (h:∀ah,Has N S ah (H.set j (.deep ks x s (vs.set i (setMany r o cs))))→ae P ops rest fr ah Q):ae P ops (⟨none,.store t ao vo,ty,pp,a,g⟩::rest) fr st Q:=by
 obtain⟨k,aq,off,len,rfl,rfl⟩:=hR;obtain⟨ah,h1,h2⟩:=hH.Pn hj hr hl hq hw;refine ae.N hg rfl (d:=.tup []) (st1:=ah) ?_ (h _ h2);simp only[dJ,ha,hv,jU,hcs,hs,if_pos trivial,h1];rfl
theorem ag.IC {dy:Dy} {i:Nat} {l:List Oper} {d n loc tmp st} {Q:Out→Fr→St→Prop} (ws:List Nat) (F:(Nat→D)→Prop)
  (h1:ae P l.toArray l ⟨n,loc,[]⟩ st fun aA ah=>∃f tmp,aA=⟨n,bd loc ws f,tmp⟩∧ah=st∧F f) (h2:∀f tmp,F f→Q .next ⟨n,bd loc ws f,tmp⟩ st) (h0:fU i dy=[]:=by rfl):ag P dy (.region i l.toArray d) ⟨n,loc,tmp⟩ st Q:=by
 refine ag.dD ?_ h0;unfold ae at h1⊢;obtain⟨aA,ah,h3,f,G9,rfl,rfl,h4⟩:=h1;exact⟨_,_,h3,h2 _ _ h4⟩
theorem j9 {n:Nat} {L loc:List D} {tH:List (Nat×D)} {ws:List Nat} {F:(Nat→D)→Prop} {st:St} (h:L=bd loc ws (fun k=>nth .aY L k)) (h2:F (fun k=>nth .aY L k)):∃(f:Nat→D) (tmp:List (Nat×D)),(⟨n,L,tH⟩:Fr)=⟨n,bd loc ws f,tmp⟩∧st=st∧F f:=⟨_,tH,by rw[←h],rfl,h2⟩
theorem ae.JH {t1 t2:TypeId} {xo yo:Operand} {x y z:Int} (hg:ay ops fr ⟨some dst,.call ⟨.builtin .min,#[xo,yo],#[t1,t2]⟩,ty,pp,a,g⟩=some true) (hx:fr.ev xo=.int .i64 x) (hy:fr.ev yo=.int .i64 y) (hz:min x y=z) (hp:fr.put dst (.int .i64 z)=aA) (h:ae P ops rest aA st Q):ae P ops (⟨some dst,.call ⟨.builtin .min,#[xo,yo],#[t1,t2]⟩,ty,pp,a,g⟩::rest) fr st Q:=
 ae.Hy (t1:=t1) (t2:=t2) hg hx hy (by rw[hz];exact hp) h
theorem Has.pZ {N:Nat} {S s0 S2 st2:St} {H:List bh} {x:D} {s:Nat} {es xM:List (List D)} (h:Has N S s0 (.aD x s es::H)) (hS:S2.bs=s0.bs) (h2:Has N S2 st2 (.aD x s xM::H)):Has N S ⟨st2.bs.take s0.bs.length,s0.flr,s0.ro⟩ (.aD x s xM::H):=by
 refine h.my hS h2 fun i e hi=>?_
 cases i with
 |zero=>simp only[List.getElem?_cons_zero,Option.some.injEq] at hi;subst hi;exact⟨_,rfl,fun k hk=>hk⟩
 |succ i=>exact⟨e,hi,fun k hk=>hk⟩
theorem Has.wE {N:Nat} {S s0 S2 st2:St} {H:List bh} {k:Nat} {b b':iu} {ks:Nat→Prop} {x:D} {s:Nat} {vs Jj:List (List D)} (h:Has N S s0 (.box k b::.deep ks x s vs::H)) (hS:S2.bs=s0.bs) (h2:Has N S2 st2 (.box k b'::.deep ks x s Jj::H)):Has N S ⟨st2.bs.take s0.bs.length,s0.flr,s0.ro⟩ (.box k b'::.deep ks x s Jj::H):=by
 refine h.my hS h2 fun i e hi=>?_
 match i with
 |0=>simp only[List.getElem?_cons_zero,Option.some.injEq] at hi;subst hi;exact⟨_,rfl,fun k hk=>hk⟩
 |1=>simp only[List.getElem?_cons_succ,List.getElem?_cons_zero,Option.some.injEq] at hi;subst hi;exact⟨_,rfl,fun k hk=>hk⟩
 |i+2=>exact⟨e,hi,fun k hk=>hk⟩
theorem Has.Fj {N:Nat} {S st:St} {H:List bh} {a b c d e:bh} (h:Has N S st (a::b::c::d::e::H)):Has N S st (b::c::d::e::a::H):=by
 refine h.sub (fun i=>if i=4 then 0 else if i<4 then i+1 else i) (fun i j hij=>?_) (fun i x hi=>?_)
 ·(try simp only at hij)
  split at hij<;>split at hij<;>(try split at hij)<;>(try split at hij)<;>omega
 ·match i,hi with
  |0,hi=>exact hi
  |1,hi=>exact hi
  |2,hi=>exact hi
  |3,hi=>exact hi
  |4,hi=>exact hi
  |i+5,hi=>
   have h1:¬(i+5=4):=by omega
   have h2:¬(i+5<4):=by omega
   simp only[if_neg h1,if_neg h2];exact hi
theorem Has.kC {fr:Fr} {a k aq off j u u2:Nat} {t:TypeId} {ar:Bool} {c:List D} {d e e2:D} (hH:Has N S st H) (ha:fr.get a=.ptr k aq off) (hj:H[j]?=some (.box k (.mem aq ar c))) (hd:cU P t (c.drop off)=some d) (he:fr.get u=e) (xI:fr.get u2=e2):iL P fr st [.cell a t,.tmp u,.tmp u2]=some [d,e,e2]:=by
 simp only[iL,fv,ha,St.mem_of (hH.at hj),Option.bind_some,hd,Option.map_some,he,xI]
theorem ag.pV {dy:Dy} {c1 c2:Code} {fr:Fr} {st:St} {Q:Out→Fr→St→Prop} (M:Fr→St→Prop) (h1:ag P dy c1 fr st (bf P dy c2 (EO M Q))) (h2:∀aA ah,M aA ah→Q .next aA ah):ag P dy c1 fr st (bf P dy c2 Q):=
 h1.mono fun o aA ah h=>by
  cases o with
  |next=>exact ag.merge M h h2
  |exit i=>exact h
  |ret=>exact h
end Go.V
namespace Go.Proofs.YtpcicphadikioaaGreat
open Go.V Go
theorem BI {st:St} {L n:Nat} {kn:Bool} {k aq off len s:Nat}:aB st L kn n (.win k aq off len s)=aB st L false n (.win k aq off len s):=by
 cases n<;>rfl
theorem BG (l:List Rg):(l.map av).map (·.map lO)=l.map av:=by
 rw[List.map_map];rfl
theorem xV (l:List Rg):∀e∈l.map av,∀d∈e,lj d=true:=by
 intro e he d hd;obtain⟨x,_,rfl⟩:=List.mem_map.1 he;simp only[av,List.mem_cons,List.not_mem_nil,or_false] at hd
 rcases hd with rfl|rfl<;>rfl
theorem oD {N L j:Nat} {S st:St} {H:List bh} {x:D} {l:List Rg} (hH:Has N S st H) (hj:H[j]?=some (.aD x 2 (l.map av))) (hx:∀k,x.ref=k+1→L≤k) {n:Nat} (hn:3≤n):aB st L false n x=some (aL l):=by
 rw[hH.pf hj hx (xV l) hn,BG,fS]
theorem gC {gs:List (Nat×Nat)} {s:dR} {r:Int}:(bF gs s r).o=s.o∧(bF gs s r).g=s.g∧(bF gs s r).e=s.e∧s.i≤(bF gs s r).i∧(s.i≤gs.length→(bF gs s r).i≤gs.length):=by
 unfold bF
 split
 ·rename_i h;have:=qz h;exact⟨rfl,rfl,rfl,by show s.i≤s.i+1;omega,fun _=>by show s.i+1≤_;omega⟩
 ·exact⟨rfl,rfl,rfl,Nat.le_refl _,fun h=>h⟩
end Go.Proofs.YtpcicphadikioaaGreat
namespace Go.Proofs.YtpcicphadikioaaGreat
open Go.V Go
def lX (n:bn):Prop:=n.rd=aL n.rs∧n.rs.length≤1048576∧n.kids≤1048576
def iM (op mn mx:Int) (lz:Bool) (cap kids:Int) (a:List Rg):bn:=⟨op,aL a,a,mn,mx,lz,cap,kids⟩
def pT (l:List bn):D:=.sl ((l.map aE).map (jn 7))
theorem FG (l:List bn):∀e∈l.map aE,e.length=7:=by
 intro e he;obtain⟨x,_,rfl⟩:=List.mem_map.1 he;rfl
theorem kI {l:List bn} (h:∀n∈l,lX n):∀e∈l.map aE,∀d∈e,bK d=true:=by
 intro e he d hd;obtain⟨n,hn,rfl⟩:=List.mem_map.1 he;have hr:=(h n hn).1;simp only[aE,hr,List.mem_cons,List.not_mem_nil,or_false] at hd
 rcases hd with rfl|rfl|rfl|rfl|rfl|rfl|rfl<;>rfl
theorem ml {l:List bn} (h:∀n∈l,lX n):eZ (pT l) 7 (l.map aE):=eZ.frozen (FG l) (kI h)
theorem JD {l:List bn} (h:∀n∈l,lX n) (hl:l.length≤1048576):(⟨pT l,l⟩:Nl).ok:=by
 refine⟨ml h,fun n hn=>?_,hl⟩;obtain⟨h1,h2,h3⟩:=h n hn;exact⟨by rw[h1];exact fR _,h2,by omega⟩
theorem t_ {l:List bn} (h:∀n∈l,lX n):(l.map aE).map (·.map lO)=l.map aE:=by
 rw[List.map_map];refine List.map_congr_left fun n hn=>?_;have hr:=(h n hn).1;show(aE n).map lO=aE n;unfold aE;rw[hr];rfl
theorem pS {l:List bn} (h:∀n∈l,lX n):∀e∈l.map aE,∀d∈e,lj d=true:=by
 intro e he d hd;have:=kI h e he d hd
 cases d<;>first|rfl|exact this
theorem iC {N L j:Nat} {S st:St} {H:List bh} {x:D} {es:List (List D)} {l:List bn} (hH:Has N S st H) (hj:H[j]?=some (.aD x 7 es)) (he:es.map (·.map lO)=l.map aE) (ht:∀e∈es,∀d∈e,lj d=true) (hx:∀k,x.ref=k+1→L≤k) {n:Nat} (hn:3≤n):aB st L false n x=some (pT l):=by
 rw[hH.pf hj hx ht hn,he];rfl
theorem iD {N L j:Nat} {S st:St} {H:List bh} {x w:D} {op mn mx cap kids:Int} {lz:Bool} {a:List Rg} (hH:Has N S st H) (hj:H[j]?=some (.aD x 7 [[.int .i64 op,w,.int .i64 mn,.int .i64 mx,.bool lz,.int .i64 cap,.int .i64 kids]])) (hw:w=aL a∨w=.nul∧a=[]) (hx:∀k,x.ref=k+1→L≤k):aB st L false 16 x=some (pT [iM op mn mx lz cap kids a]):=by
 refine iC hH hj ?_ (fun e he d hd=>?_) hx (by decide)
 ·rcases hw with rfl|⟨rfl,rfl⟩<;>rfl
 ·simp only[List.mem_cons,List.not_mem_nil,or_false] at he;subst he;simp only[List.mem_cons,List.not_mem_nil,or_false] at hd
  rcases hw with rfl|⟨rfl,rfl⟩<;>rcases hd with rfl|rfl|rfl|rfl|rfl|rfl|rfl<;>rfl
theorem Db {op mn mx cap kids:Int} {lz:Bool} {a:List Rg} (h:a.length≤1048576) (hk:kids≤1048576):∀n∈[iM op mn mx lz cap kids a],lX n:=by
 intro n hn;simp only[List.mem_cons,List.not_mem_nil,or_false] at hn;subst hn;exact⟨rfl,h,hk⟩
end Go.Proofs.YtpcicphadikioaaGreat
namespace Go.Proofs.YtpcicphadikioaaGreat
open Go.V Go
def tD (gs:List (Nat×Nat)) (s s':dR):Prop:=s'.o=s.o∧s'.g=s.g∧s.i<s'.i∧s'.i≤gs.length
end Go.Proofs.YtpcicphadikioaaGreat
namespace Go.Proofs.YtpcicphadikioaaGreat
open Go.V Go
theorem pH:∀{l:List D},(∀d∈l,bK d=true)→refs l=0
 |[],_=>rfl
 |d::l,h=>by
  have h1:=pH (l:=l) fun d hd=>h d (List.mem_cons_of_mem _ hd);have h2:=h d (List.mem_cons_self ..)
  have h3:d.ref=0:=by cases d<;>first|rfl|(simp[bK] at h2)
  simp only[refs,h1,h3,Nat.max_self]
theorem sB {l:List bn} (h:∀n∈l,lX n):refs (l.map aE).flatten=0:=
 pH fun d hd=>by
  obtain⟨e,he,xJ⟩:=List.mem_flatten.1 hd;exact kI h e he d xJ
def dI (l:List bn):List D:=[pT l]
theorem vU {l:List (List bn)} {i:Nat} {q:List bn} (h:l[i]?=some q):(l.map dI)[i]?=some (dI q):=by rw[List.getElem?_map,h];rfl
def eM:List (List bn)→Nat
 |[]=>0
 |l::ls=>l.length+eM ls
theorem dx:∀a b:List (List bn),eM (a++b)=eM a+eM b
 |[],b=>by simp[eM]
 |l::a,b=>by rw[List.cons_append,eM,eM,dx a b];omega
end Go.Proofs.YtpcicphadikioaaGreat
namespace Go.Proofs.YtpcicphadikioaaGreat
open Go.V Go
theorem mW {N:Nat} {S st:St} {H:List bh} {a b c:bh} (h:Has N S st (a::b::c::H)):Has N S st (b::c::a::H):=by
 have h1:=h.front aV;have h2:=h1.front b8;exact h2.front aV
end Go.Proofs.YtpcicphadikioaaGreat
namespace Go.Proofs.YtpcicphadikioaaGreat
open Go.V Go
theorem oZ {gs:List (Nat×Nat)} {s:dR} {r:Int} (h:dG gs s.i r=false):bF gs s r=s:=by
 unfold bF;rw[if_neg (by rw[h];simp)]
theorem mb {gs:List (Nat×Nat)} {s:dR} {r:Int} (h:dG gs s.i r=true):(bF gs s r).i=s.i+1:=by
 unfold bF;rw[if_pos h]
end Go.Proofs.YtpcicphadikioaaGreat
namespace Go.Proofs.YtpcicphadikioaaGreat
open Go.V Go
end Go.Proofs.YtpcicphadikioaaGreat
namespace Go.Proofs.YtpcicphadikioaaGreat
open Go.V Go
theorem EK:∀(n:Nat) (b:List UInt8),b.length≤n→(nV b).length≤b.length∧∀g∈nV b,g.2≤b.length:=by
 intro n
 induction n with
 |zero=>
  intro b hb;have:b=[]:=List.length_eq_zero_iff.1 (by omega);subst this;rw[rr];exact⟨Nat.le_refl _,fun g hg=>by cases hg⟩
 |succ n ih=>
  intro b hb
  by_cases h:b=[]
  ·subst h;rw[rr];exact⟨Nat.le_refl _,fun g hg=>by cases hg⟩
  ·have hp:=mh b;have hl:=zJ h;obtain⟨h1,h2⟩:=ih (b.drop (ja b).2) (by rw[List.length_drop];omega);rw[List.length_drop] at h1 h2;rw[tw h];refine⟨by rw[List.length_cons];omega,fun g hg=>?_⟩
   rcases List.mem_cons.1 hg with rfl|hg
   ·exact hl
   ·have:=h2 g hg;omega
end Go.Proofs.YtpcicphadikioaaGreat
namespace Go.Proofs.YtpcicphadikioaaGreat
open Go.V Go
end Go.Proofs.YtpcicphadikioaaGreat
namespace Go.Proofs.YtpcicphadikioaaGreat
open Go.V Go
structure kZ (X:Nat→Prop) (c:List aT) (b:Nat) (A:Nat→Prop) (g:Nat→Nat→Prop):Prop where
 hd:g b=A
 tl:g (b+c.length)=A
 xs:∀n,X n→b≤n→n≤b+c.length→g n=A
 st:∀j i,c[j]?=some i→(∀v∈jH (b+j) i,∃n:Nat,v=(n:Int)∧((b≤n∧n≤b+c.length∧∀s,g n s→g (b+j) s∨(i.op=4∧i.x=(s:Int)))∨(X n∧∀s,A s→g (b+j) s∨(i.op=4∧i.x=(s:Int)))))∧
  i.op≠7∧(i.op=4→∃k:Nat,1≤k∧(i.x=((2*k:Nat):Int)∨(i.x=((2*k+1:Nat):Int)∧g (b+j) (2*k))))
theorem kZ.nil (X:Nat→Prop) (b:Nat) (A:Nat→Prop):kZ X [] b A fun _=>A:=⟨rfl,rfl,fun _ _ _ _=>rfl,fun j i h=>by simp at h⟩
theorem kZ.one {X:Nat→Prop} {b:Nat} {A:Nat→Prop} {i:aT} (h4:i.op≠4) (h7:i.op≠7) (h:∀v∈jH b i,∃n:Nat,v=(n:Int)∧(n=b+1∨X n)):kZ X [i] b A fun _=>A:=by
 refine⟨rfl,rfl,fun _ _ _ _=>rfl,fun j i' hj=>?_⟩
 cases j with
 |succ j=>simp at hj
 |zero=>
  simp only[List.getElem?_cons_zero,Option.some.injEq] at hj;subst hj;refine⟨fun v hv=>?_,h7,fun h=>absurd h h4⟩;obtain⟨n,h1,h2⟩:=h v hv;refine⟨n,h1,?_⟩
  rcases h2 with rfl|h2
  ·exact .inl ⟨by omega,by simp,fun s hs=>.inl hs⟩
  ·exact .inr ⟨h2,fun s hs=>.inl hs⟩
theorem kZ.pq {X Y:Nat→Prop} {c:List aT} {b:Nat} {A:Nat→Prop} {g:Nat→Nat→Prop} (h:kZ X c b A g) (h1:∀n,X n→Y n) (h2:∀n,Y n→X n∨n≤b∨b+c.length≤n):kZ Y c b A g:=by
 refine⟨h.hd,h.tl,fun n hn h3 h4=>?_,fun j i hj=>⟨fun v hv=>?_,(h.st j i hj).2⟩⟩
 ·rcases h2 n hn with h5|h5|h5
  ·exact h.xs n h5 h3 h4
  ·rw[show n=b by omega];exact h.hd
  ·rw[show n=b+c.length by omega];exact h.tl
 ·obtain⟨n,e,h5⟩:=(h.st j i hj).1 v hv;refine⟨n,e,?_⟩
  rcases h5 with h5|⟨h5,h6⟩
  ·exact .inl h5
  ·exact .inr ⟨h1 n h5,h6⟩
theorem kZ.close {X Y:Nat→Prop} {c:List aT} {b:Nat} {A:Nat→Prop} {g:Nat→Nat→Prop} (h:kZ X c b A g) (h1:∀n,Y n→X n) (h2:∀n,X n→Y n∨(b≤n∧n≤b+c.length)):kZ Y c b A g:=by
 refine⟨h.hd,h.tl,fun n hn=>h.xs n (h1 n hn),fun j i hj=>⟨fun v hv=>?_,(h.st j i hj).2⟩⟩;obtain⟨n,e,h5⟩:=(h.st j i hj).1 v hv;refine⟨n,e,?_⟩
 rcases h5 with h5|⟨h5,h6⟩
 ·exact .inl h5
 ·rcases h2 n h5 with h7|⟨h7,h8⟩
  ·exact .inr ⟨h7,h6⟩
  ·exact .inl ⟨h7,h8,fun s hs=>h6 s (by rw[h.xs n h5 h7 h8] at hs;exact hs)⟩
theorem kZ.append {X:Nat→Prop} {c d:List aT} {b e:Nat} {A:Nat→Prop} {g f:Nat→Nat→Prop} (h:kZ X c b A g) (he:e=b+c.length) (k:kZ X d e A f):kZ X (c++d) b A fun n=>if n<e then g n else f n:=by
 subst he;have hm:∀n,b+c.length=n→g n=f n:=fun n hn=>by subst hn;rw[h.tl,k.hd]
 refine⟨?_,?_,fun n hn h1 h2=>?_,fun j i hj=>?_⟩
 ·show(if b<b+c.length then g b else f b)=A
  split
  ·exact h.hd
  ·rw[show b=b+c.length by omega];exact k.hd
 ·show(if b+(c++d).length<b+c.length then g _ else f _)=A;rw[if_neg (by rw[List.length_append];omega),List.length_append,←Nat.add_assoc];exact k.tl
 ·show(if n<b+c.length then g n else f n)=A;rw[List.length_append] at h2
  split
  ·exact h.xs n hn h1 (by omega)
  ·exact k.xs n hn (by omega) (by omega)
 ·by_cases hjl:j<c.length
  ·rw[List.getElem?_append_left hjl] at hj;obtain⟨h1,h2⟩:=h.st j i hj;have hg:(if b+j<b+c.length then g (b+j) else f (b+j))=g (b+j):=if_pos (by omega);simp only[hg];refine⟨fun v hv=>?_,h2⟩;obtain⟨n,e1,h3⟩:=h1 v hv;refine⟨n,e1,?_⟩
   rcases h3 with⟨h3,h4,h5⟩|h3
   ·refine .inl ⟨h3,by rw[List.length_append];omega,fun s hs=>h5 s ?_⟩
    split at hs
    ·exact hs
    ·rw[hm n (by omega)];exact hs
   ·exact .inr h3
  ·rw[List.getElem?_append_right (by omega)] at hj;obtain⟨h1,h2⟩:=k.st (j-c.length) i hj;have I':b+c.length+(j-c.length)=b+j:=by omega
   rw[I'] at h1 h2;have hg:(if b+j<b+c.length then g (b+j) else f (b+j))=f (b+j):=if_neg (by omega);simp only[hg];refine⟨fun v hv=>?_,h2⟩;obtain⟨n,e1,h3⟩:=h1 v hv;refine⟨n,e1,?_⟩
   rcases h3 with⟨h3,h4,h5⟩|h3
   ·refine .inl ⟨by omega,by rw[List.length_append];omega,fun s hs=>h5 s ?_⟩;rw[if_neg (by omega)] at hs;exact hs
   ·exact .inr h3
theorem kZ.group {c:List aT} {b:Nat} {A:Nat→Prop} {g:Nat→Nat→Prop} {k:Nat} {q w:aT} (hk:1≤k) (hq:q.op=4∧q.x=((2*k:Nat):Int)) (hw:w.op=4∧w.x=((2*k+1:Nat):Int)) (h:kZ (fun _=>False) c (b+1) (fun s=>A s∨s=2*k) g):
  kZ (fun _=>False) (q::(c++[w])) b A fun n=>if n≤b∨b+1+c.length<n then A else g n:=by
 have oA:∀(i:aT) (m:Nat),i.op=4→jH m i=[((m+1:Nat):Int)]:=fun i m hi=>by unfold jH;rw[if_neg (by omega),if_neg (by omega),if_neg (by omega)]
 refine⟨if_pos (.inl (by omega)),if_pos (.inr (by simp;omega)),fun n hn=>hn.elim,fun j i hj=>?_⟩
 cases j with
 |zero=>
  simp only[List.getElem?_cons_zero,Option.some.injEq] at hj;subst hj;refine⟨fun v hv=>?_,by rw[hq.1];decide,fun _=>⟨k,hk,.inl hq.2⟩⟩;rw[oA q _ hq.1] at hv;simp only[List.mem_cons,List.not_mem_nil,or_false] at hv;subst hv;refine⟨b+0+1,rfl,.inl ⟨by omega,by simp,fun s hs=>?_⟩⟩;rw[if_neg (by omega)] at hs;rw[show b+0+1=b+1 by omega,h.hd] at hs
  rcases hs with hs|rfl
  ·exact .inl (by rw[if_pos (.inl (by omega))];exact hs)
  ·exact .inr ⟨hq.1,hq.2⟩
 |succ j=>
  rw[List.getElem?_cons_succ] at hj
  by_cases hjl:j<c.length
  ·rw[List.getElem?_append_left hjl] at hj;obtain⟨h1,h2⟩:=h.st j i hj;have I':b+1+j=b+(j+1):=by omega
   rw[I'] at h1 h2;have hg:(if b+(j+1)≤b∨b+1+c.length<b+(j+1) then A else g (b+(j+1)))=g (b+(j+1)):=if_neg (by omega);simp only[hg];refine⟨fun v hv=>?_,h2⟩;obtain⟨n,e1,h3⟩:=h1 v hv;refine⟨n,e1,?_⟩
   rcases h3 with⟨h3,h4,h5⟩|⟨h3,_⟩
   ·refine .inl ⟨by omega,by simp;omega,fun s hs=>h5 s ?_⟩;rw[if_neg (by omega)] at hs;exact hs
   ·exact h3.elim
  ·rw[List.getElem?_append_right (by omega)] at hj
   have SZ:j=c.length:=by
    rcases Nat.eq_or_lt_of_le (show c.length≤j by omega) with h'|h'
    ·exact h'.symm
    ·rw[List.getElem?_eq_none (by simp;omega)] at hj;cases hj
   subst SZ;simp only[Nat.sub_self,List.getElem?_cons_zero,Option.some.injEq] at hj;subst hj;have hg:(if b+(c.length+1)≤b∨b+1+c.length<b+(c.length+1) then A else g (b+(c.length+1)))=g (b+(c.length+1)):=if_neg (by omega);have ht:g (b+(c.length+1))=fun s=>A s∨s=2*k:=by rw[←h.tl];congr 1;omega
   refine⟨fun v hv=>?_,by rw[hw.1];decide,fun _=>⟨k,hk,.inr ⟨hw.2,by rw[hg,ht];exact .inr rfl⟩⟩⟩;rw[oA w _ hw.1] at hv;simp only[List.mem_cons,List.not_mem_nil,or_false] at hv;subst hv;refine⟨b+(c.length+1)+1,rfl,.inl ⟨by omega,by simp;omega,fun s hs=>?_⟩⟩;rw[if_pos (.inr (by omega))] at hs;rw[hg,ht];exact .inl (.inl hs)
theorem kZ.jp {b e:Nat} {X:Nat→Prop} (A:Nat→Prop) (he:X e):kZ X [lv e] b A fun _=>A:=by
 refine kZ.one (by simp[lv,du]) (by simp[lv,du]) fun v hv=>?_;simp only[jH,lv,du,if_true,List.mem_cons,List.not_mem_nil,or_false] at hv;rw[if_neg (by decide)] at hv;simp only[List.mem_cons,List.not_mem_nil,or_false] at hv;exact⟨e,hv,.inr he⟩
theorem kZ.sp {b o:Nat} {lz:Bool} {X:Nat→Prop} (A:Nat→Prop) (he:X o):kZ X [n9 b o lz] b A fun _=>A:=by
 have h2:(n9 b o lz).op=2:=by unfold n9;split<;>rfl
 refine kZ.one (by omega) (by omega) fun v hv=>?_;unfold jH at hv;rw[if_pos h2] at hv;unfold n9 at hv
 split at hv
 ·simp only[du,List.mem_cons,List.not_mem_nil,or_false] at hv
  rcases hv with rfl|rfl
  ·exact⟨o,rfl,.inr he⟩
  ·exact⟨b+1,rfl,.inl rfl⟩
 ·simp only[du,List.mem_cons,List.not_mem_nil,or_false] at hv
  rcases hv with rfl|rfl
  ·exact⟨b+1,rfl,.inl rfl⟩
  ·exact⟨o,rfl,.inr he⟩
def eB (X:Nat→Prop) (c:List aT) (b:Nat) (A:Nat→Prop):Prop:=∃g,kZ X c b A g
theorem eB.append {X:Nat→Prop} {c d:List aT} {b e:Nat} {A:Nat→Prop} (h:eB X c b A) (he:e=b+c.length) (k:eB X d e A):eB X (c++d) b A:=by
 obtain⟨g,h⟩:=h;obtain⟨f,k⟩:=k;exact⟨_,h.append he k⟩
theorem vM {A:Nat→Prop} {c:Nat→List aT} {z:Nat} (hl:∀b,(c b).length=z) (hc:∀b,eB (fun _=>False) (c b) b A):∀k b,eB (fun _=>False) (gZ c z k b) b A
 |0,b=>⟨_,.nil _ b A⟩
 |k+1,b=>(hc b).append (by rw[hl]) (vM hl hc k (b+z))
theorem vY {A:Nat→Prop} {c:Nat→List aT} {z e:Nat} {lz:Bool} (hl:∀b,(c b).length=z) (hc:∀b,eB (fun _=>False) (c b) b A):∀k b,b+k*(z+1)≤e→eB (fun n=>n=e) (gN (fun s=>n9 s e lz) c z k b) b A
 |0,b,_=>⟨_,.nil _ b A⟩
 |k+1,b,he=>by
  rw[Nat.add_mul] at he;obtain⟨g,hg⟩:=hc (b+1)
  have h1:eB (fun n=>n=e) (c (b+1)) (b+1) A:=⟨g,hg.pq (fun n h=>h.elim) fun n h=>.inr (.inr (by rw[hl];omega))⟩
  have h2:=h1.append (e:=b+1+z) (by rw[hl]) (vY (lz:=lz) hl hc k (b+1+z) (by omega));exact eB.append (c:=[_]) ⟨_,kZ.sp A rfl⟩ (e:=b+1) rfl h2
theorem eB.pq {X Y:Nat→Prop} {c:List aT} {b:Nat} {A:Nat→Prop} (h:eB X c b A) (h1:∀n,X n→Y n) (h2:∀n,Y n→X n∨n≤b∨b+c.length≤n):eB Y c b A:=by
 obtain⟨g,h⟩:=h;exact⟨g,h.pq h1 h2⟩
theorem eB.close {X Y:Nat→Prop} {c:List aT} {b:Nat} {A:Nat→Prop} (h:eB X c b A) (h1:∀n,Y n→X n) (h2:∀n,X n→Y n∨(b≤n∧n≤b+c.length)):eB Y c b A:=by
 obtain⟨g,h⟩:=h;exact⟨g,h.close h1 h2⟩
theorem CG {A:Nat→Prop} {n:bn} {c:Nat→List aT} {z:Nat} (hl:∀b,(c b).length=z) (hc:∀b,eB (fun _=>False) (c b) b A) (b:Nat):eB (fun _=>False) (tO n c z b) b A:=by
 have hr:=vM hl hc n.mn.toNat b;have B':(gZ c z n.mn.toNat b).length=n.mn.toNat*z:=jY hl _ _;unfold tO
 split
 ·refine hr.append (e:=b+n.mn.toNat*z) (by rw[B']) ?_;generalize b+n.mn.toNat*z=s;have h1:eB (fun n=>n=s∨n=s+z+2) (c (s+1)) (s+1) A:=(hc (s+1)).pq (fun n h=>h.elim) fun n h=>by rw[hl];omega
  have h2:eB (fun n=>n=s∨n=s+z+2) [lv s] (s+1+z) A:=⟨_,kZ.jp A (.inl rfl)⟩
  have h3:=eB.append (c:=[n9 s (s+z+2) n.lz]) (b:=s) ⟨_,kZ.sp A (.inr rfl)⟩ (e:=s+1) rfl (h1.append (by rw[hl]) h2);refine eB.close h3 (fun n h=>h.elim) fun n h=>.inr ?_;simp only[List.length_append,List.length_cons,List.length_nil,hl];omega
 ·refine hr.append (e:=b+n.mn.toNat*z) (by rw[B']) ?_;generalize b+n.mn.toNat*z=s;have h1:=vY (lz:=n.lz) (e:=s+(n.mx.toNat-n.mn.toNat)*(z+1)) hl hc (n.mx.toNat-n.mn.toNat) s (Nat.le_refl _);refine eB.close h1 (fun n h=>h.elim) fun n h=>.inr ?_;rw[mg hl];omega
mutual
theorem nR:∀(t:Tr) (b:Nat) (A:Nat→Prop),t.ok→eB (fun _=>False) (aN t b) b A
 | .mk n ks,b,A,h=>by
  have hlen:=bW (.mk n ks) b h;simp only[Tr.ok] at h;obtain⟨h1,h2⟩:=h;have hcl:=fun b=>mP ks b h2
  have oA:∀(op x y:Int) (rs:List Rg) (m:Nat),op≠2→op≠3→op≠7→∀v∈jH m (du op x y rs),∃n:Nat,v=(n:Int)∧(n=m+1∨False):=by
   intro op x y rs m a1 a2 a3 v hv;unfold jH at hv;rw[if_neg (show¬(du op x y rs).op=2 from a1),if_neg (show¬(du op x y rs).op=3 from a2),if_neg (show¬(du op x y rs).op=7 from a3)] at hv;simp only[List.mem_cons,List.not_mem_nil,or_false] at hv;exact⟨m+1,hv,.inl rfl⟩
  simp only[aN]
  split
  ·exact⟨_,kZ.one (by simp[du]) (by simp[du]) (oA 1 0 0 _ b (by decide) (by decide) (by decide))⟩
  ·split
   ·exact⟨_,kZ.one (by simp[du]) (by simp[du]) (oA 5 0 0 _ b (by decide) (by decide) (by decide))⟩
   ·split
    ·exact⟨_,kZ.one (by simp[du]) (by simp[du]) (oA 6 0 0 _ b (by decide) (by decide) (by decide))⟩
    ·split
     ·exact mQ ks b A h2
     ·split
      ·rename_i h4;have hz:bC n ks.sz ks.len=ks.sz+2*(ks.len-1):=by unfold bC;rw[if_neg (by omega),if_pos h4]
       have ha:=mU (lv (b+bC n ks.sz ks.len)) ks b h2;refine eB.close (X:=fun m=>m=b+bC n ks.sz ks.len) ?_ (fun n h=>h.elim) fun m hm=>.inr ?_
       ·exact xx _ ks b A h2 (by rw[ha,hz];omega)
       ·rw[ha];rw[hz] at hm;omega
      ·split
       ·exact CG hcl (fun b=>mQ ks b A h2) b
       ·split
        ·rename_i h6;obtain⟨g,hg⟩:=mQ ks (b+1) (fun s=>A s∨s=2*n.cap.toNat) h2
         have kc:1≤n.cap:=by
          rcases h1.2 with h|h|h|h|h<;>omega
         exact⟨_,kZ.group (k:=n.cap.toNat) (by omega) ⟨rfl,by show 2*n.cap=_;omega⟩ ⟨rfl,by show 2*n.cap+1=_;omega⟩ hg⟩
        ·exact⟨_,.nil _ b A⟩
theorem mQ:∀(ts:aJ) (b:Nat) (A:Nat→Prop),ts.ok→eB (fun _=>False) (jj ts b) b A
 | .nil,b,A,_=>by simp only[jj];exact⟨_,.nil _ b A⟩
 | .cons t ts,b,A,h=>by
  simp only[aJ.ok] at h;simp only[jj];exact(nR t b A h.1).append (by rw[bW t b h.1]) (mQ ts (b+t.sz) A h.2)
theorem xx (e:Nat):∀(ts:aJ) (b:Nat) (A:Nat→Prop),ts.ok→b+(fz (lv e) ts b).length≤e→eB (fun n=>n=e) (fz (lv e) ts b) b A
 | .nil,b,A,_,_=>by simp only[fz];exact⟨_,.nil _ b A⟩
 | .cons t ts,b,A,h,he=>by
  simp only[aJ.ok] at h;simp only[fz] at he⊢
  split
  ·rename_i h0;rw[if_pos h0] at he;exact(nR t b A h.1).pq (fun n h=>h.elim) fun n hn=>.inr (.inr (by omega))
  ·rename_i h0;rw[if_neg h0] at he;simp only[List.length_cons,List.length_append,bW t (b+1) h.1] at he;have h1:eB (fun n=>n=e∨n=b+1+t.sz+1) (aN t (b+1)) (b+1) A:=(nR t (b+1) A h.1).pq (fun n h=>h.elim) fun n hn=>.inr (.inr (by rw[bW t (b+1) h.1];omega));have h2:eB (fun n=>n=e∨n=b+1+t.sz+1) (fz (lv e) ts (b+t.sz+2)) (b+t.sz+2) A:=(xx e ts (b+t.sz+2) A h.2 (by omega)).pq (fun n h=>.inl h) fun n hn=>by omega
   have h3:eB (fun n=>n=e∨n=b+1+t.sz+1) (lv e::fz (lv e) ts (b+t.sz+2)) (b+1+t.sz) A:=eB.append (c:=[lv e]) ⟨_,kZ.jp A (.inl rfl)⟩ (e:=b+t.sz+2) (by simp only[List.length_cons,List.length_nil];omega) h2;have h4:=eB.append (c:=[n9 b (b+1+t.sz+1) false]) (b:=b) ⟨_,kZ.sp A (.inr rfl)⟩ (e:=b+1) rfl (h1.append (by rw[bW t (b+1) h.1]) h3);refine eB.close h4 (fun n h=>.inl h) fun n hn=>?_
   rcases hn with hn|hn
   ·exact .inl hn
   ·refine .inr ?_;simp only[List.length_append,List.length_cons,List.length_nil,bW t (b+1) h.1];omega
end
end Go.Proofs.YtpcicphadikioaaGreat
namespace Go.Proofs.YtpcicphadikioaaGreat
open Go.V Go
def tU (n:bn):Bool:=((n.op==2)||((n.rs.length:Nat):Int)==0) &&((n.op==5)||((n.mn==0) &&(n.mx==0) &&!n.lz)) &&((n.op==6)||(n.cap==0))
noncomputable def fP (n:bn) (g:Int):Int×Bool:=
 if tU n=false then(0,false)
 else if n.op=1∨n.op=7∨n.op=8 then(0,n.kids==0)
 else if n.op=2 then(0,(n.kids==0) &&nu n.rs)
 else if n.op=3∨n.op=4 then(n.kids,decide (n.kids≥2))
 else if n.op=5 then(1,(n.kids==1) &&decide (n.mn≥0) &&decide (n.mn≤30) &&((n.mx==-1)||(decide (n.mx≥n.mn) &&decide (n.mx≤30))))
 else if n.op=6 then(1,(n.kids==1) &&(n.cap==g+1) &&decide (n.cap≤4))
 else(0,false)
def lu (h:Nat→Nat→Option (Nat×Nat)):Nat→Nat→Nat→Option (Nat×Nat)
 |0,at_,g=>some (at_,g)
 |k+1,at_,g=>match h at_ g with
  |some r=>lu h k r.1 r.2
  |none=>none
noncomputable def i_ (l:List bn):Nat→Nat→Nat→Option (Nat×Nat)
 |0,_,_=>none
 |f+1,at_,g=>match l[at_]? with
  |none=>none
  |some n=>if(fP n (g:Nat)).2=true then lu (i_ l f) (fP n (g:Nat)).1.toNat (at_+1) (if n.op=6 then g+1 else g) else none
theorem vz {n:bn} {g:Nat} (h:(fP n (g:Nat)).2=true):sC n (fP n (g:Nat)).1.toNat∧0≤(fP n (g:Nat)).1∧(n.op=6→n.cap=g+1∧n.cap≤4):=by
 unfold fP at h⊢;unfold sC
 by_cases h0:tU n=false
 ·rw[if_pos h0] at h;cases h
 rw[if_neg h0] at h⊢
 by_cases h1:n.op=1∨n.op=7∨n.op=8
 ·rw[if_pos h1] at h⊢;simp only[beq_iff_eq] at h;exact⟨⟨h,.inl ⟨h1,rfl⟩⟩,Int.le_refl _,fun h6=>by omega⟩
 rw[if_neg h1] at h⊢
 by_cases h2:n.op=2
 ·rw[if_pos h2] at h⊢;simp only[Bool.and_eq_true,beq_iff_eq] at h;exact⟨⟨h.1,.inr (.inl ⟨h2,rfl⟩)⟩,Int.le_refl _,fun h6=>by omega⟩
 rw[if_neg h2] at h⊢
 by_cases h3:n.op=3∨n.op=4
 ·rw[if_pos h3] at h⊢;simp only[decide_eq_true_eq] at h;exact⟨⟨by simp only;omega,.inr (.inr (.inl ⟨h3,by simp only;omega⟩))⟩,by simp only;omega,fun h6=>by omega⟩
 rw[if_neg h3] at h⊢
 by_cases h5:n.op=5
 ·rw[if_pos h5] at h⊢;simp only[Bool.and_eq_true,Bool.or_eq_true,beq_iff_eq,decide_eq_true_eq] at h;exact⟨⟨by simp only;omega,.inr (.inr (.inr (.inl ⟨h5,by simp only;rfl,by omega,by omega,by omega⟩)))⟩,by simp only;omega,fun h6=>by omega⟩
 rw[if_neg h5] at h⊢
 by_cases h6:n.op=6
 ·rw[if_pos h6] at h⊢;simp only[Bool.and_eq_true,beq_iff_eq,decide_eq_true_eq] at h;exact⟨⟨by simp only;omega,.inr (.inr (.inr (.inr ⟨h6,by simp only;rfl,by omega,by omega⟩)))⟩,by simp only;omega,fun _=>⟨h.1.2,h.2⟩⟩
 rw[if_neg h6] at h;cases h
theorem fK.cons {α:Type} {L M:List α} {a:α} {at_:Nat} (h:L[at_]?=some a) (h2:fK L (at_+1) M):fK L at_ (a::M):=by
 obtain⟨post,h2⟩:=h2;refine⟨post,?_⟩;have h3:L[at_]'(cQ h)=a:=Option.some.inj ((List.getElem?_eq_getElem _).symm.trans h);rw[List.drop_eq_getElem_cons (cQ h),h2,h3];rfl
theorem fK.append {α:Type} {L M M':List α} {at_:Nat} (h:fK L at_ M) (h2:fK L (at_+M.length) M'):fK L at_ (M++M'):=by
 obtain⟨post,h⟩:=h;obtain⟨Jx,h2⟩:=h2;refine⟨Jx,?_⟩;rw[←List.drop_drop,h,List.drop_left] at h2;rw[h,h2,List.append_assoc]
theorem fK.none {α:Type} (L:List α) (at_:Nat):fK L at_ []:=⟨_,rfl⟩
theorem sQ {l:List bn} {h:Nat→Nat→Option (Nat×Nat)} (ih:∀at_ g r,h at_ g=some r→∃t:Tr,t.ok∧fK l at_ t.flat∧r.1=at_+t.flat.length):∀k at_ g r,lu h k at_ g=some r→∃ts:aJ,ts.len=k∧ts.ok∧fK l at_ ts.flat∧r.1=at_+ts.flat.length
 |0,at_,g,r,e=>by
  simp only[lu,Option.some.injEq] at e;subst e;exact⟨.nil,rfl,trivial,fK.none _ _,by simp[aJ.flat]⟩
 |k+1,at_,g,r,e=>by
  unfold lu at e
  cases hq:h at_ g with
  |none=>rw[hq] at e;cases e
  |some q=>
   rw[hq] at e;obtain⟨t,t1,t2,t3⟩:=ih _ _ _ hq;obtain⟨ts,u1,u2,u3,u4⟩:=sQ ih k _ _ _ e;rw[t3] at u3 u4;exact⟨.cons t ts,by simp[aJ.len,u1],by simp only[aJ.ok];exact⟨t1,u2⟩,by simp only[aJ.flat];exact t2.append u3,by rw[u4];simp only[aJ.flat,List.length_append];omega⟩
theorem v_ {l:List bn}:∀f at_ g r,i_ l f at_ g=some r→∃t:Tr,t.ok∧fK l at_ t.flat∧r.1=at_+t.flat.length
 |0,_,_,_,e=>by simp[i_] at e
 |f+1,at_,g,r,e=>by
  unfold i_ at e
  cases hn:l[at_]? with
  |none=>rw[hn] at e;cases e
  |some n=>
   rw[hn] at e;simp only at e
   split at e
   ·rename_i hs;obtain⟨ts,u1,u2,u3,u4⟩:=sQ (v_ f) _ _ _ _ e;have:=(vz hs).1;rw[←u1] at this;exact⟨.mk n ts,by simp only[Tr.ok];exact⟨this,u2⟩,by simp only[Tr.flat];exact fK.cons hn u3,by rw[u4];simp only[Tr.flat,List.length_cons];omega⟩
   ·cases e
noncomputable def gD (l:List bn):Bool:=(decide (1≤l.length) &&decide (l.length≤480)) &&(match i_ l 241 0 0 with|some r=>decide (r.1=l.length)|none=>false)
theorem pG {l:List bn} (h:gD l=true):∃t:Tr,t.ok∧t.flat=l:=by
 unfold gD at h;simp only[Bool.and_eq_true] at h;obtain⟨_,h⟩:=h
 split at h
 ·rename_i r hr;obtain⟨t,h1,⟨post,h2⟩,h3⟩:=v_ _ _ _ _ hr;rw[decide_eq_true_eq] at h;refine⟨t,h1,?_⟩;rw[List.drop_zero] at h2;have h4:=congrArg List.length h2;rw[List.length_append] at h4;have h5:post=[]:=List.length_eq_zero_iff.1 (by omega);rw[h2,h5,List.append_nil]
 ·cases h
noncomputable def de (l:List bn):Tr:=@dite _ (∃t:Tr,t.ok∧t.flat=l) (Classical.propDecidable _) (fun h=>Classical.choose h) (fun _=>.mk ⟨0,.nul,[],0,0,false,0,0⟩ .nil)
theorem tG {l:List bn} (h:gD l=true):(de l).ok∧(de l).flat=l:=by
 unfold de;rw[dif_pos (pG h)];exact Classical.choose_spec (pG h)
end Go.Proofs.YtpcicphadikioaaGreat
namespace Go.Proofs.YtpcicphadikioaaGreat
open Go.V Go
theorem Gv {n:bn} {k s:Nat}:min (bC n (min s 401) k) 401=min (bC n s k) 401:=by
 by_cases hs:s≤401
 ·rw[Nat.min_eq_left hs]
 ·have hx:min s 401=401:=by omega
  rw[hx];unfold bC
  split
  ·rfl
  ·split
   ·omega
   ·split
    ·omega
    ·split
     ·split
      ·omega
      ·by_cases h0:n.mn.toNat=0
       ·rw[h0]
        by_cases hd:n.mx.toNat-0=0
        ·rw[hd];simp
        ·have h1:=Nat.le_mul_of_pos_left (401+1) (show 0<n.mx.toNat-0 by omega);have h2:=Nat.le_mul_of_pos_left (s+1) (show 0<n.mx.toNat-0 by omega);omega
       ·have h1:=Nat.le_mul_of_pos_left 401 (show 0<n.mn.toNat by omega);have h2:=Nat.le_mul_of_pos_left s (show 0<n.mn.toNat by omega);omega
     ·omega
def sq (t:Tr) (b r:Nat):List aT:=du 4 0 0 []::(aN t (b+1)++[du 4 1 0 [],du 7 (r:Nat) 0 []])
theorem AS {t:Tr} {b r:Nat} (h:t.ok):(sq t b r).length=t.sz+3:=by
 unfold sq;rw[List.length_cons,List.length_append,bW t _ h];rfl
structure mY where
 code:List aT
 bp:List Int
 e:Int
 w:Int
noncomputable def rj:List (List bn)→Nat→List aT→List Int→mY
 |[],_,c,s=>⟨c,s,0,0⟩
 |l::ls,r,c,s=>if gD l=false then⟨[],[],1,(r:Nat)⟩ else if 400<c.length+min (de l).sz 401+3 then⟨[],[],12,(r:Nat)⟩ else rj ls (r+1) (c++sq (de l) c.length r) (s++[((c.length:Nat):Int)])
noncomputable def cx (rules:List (List bn)):mY:=if 8<rules.length then⟨[],[],13,8⟩ else rj rules 0 [] []
def Fu (code:List aT) (bp:List Int):Pg:=⟨.sl ((code.map bS).map (jn 4)),code,Dv bp,bp⟩
def mV (i:aT):Prop:=i.rd=.sl ((i.rs.map av).map (jn 2))∧i.rs.length≤1048576
theorem sE (op x y:Int):mV (du op x y []):=⟨rfl,by simp[du]⟩
theorem JG (op x y:Int) {rs:List Rg} (h:rs.length≤1048576):mV (du op x y rs):=⟨rfl,h⟩
theorem Cx (s o:Nat) (lz:Bool):mV (n9 s o lz):=by unfold n9;split<;>exact sE _ _ _
theorem GJ (e:Nat):mV (lv e):=sE _ _ _
theorem yf {c:Nat→List aT} {z:Nat} (hc:∀b,∀i∈c b,mV i):∀k b,∀i∈gZ c z k b,mV i
 |0,b,i,hi=>by cases hi
 |k+1,b,i,hi=>by
  simp only[gZ] at hi
  rcases List.mem_append.1 hi with hi|hi
  ·exact hc b i hi
  ·exact yf hc k _ i hi
theorem CX {sp:Nat→aT} {c:Nat→List aT} {z:Nat} (hs:∀s,mV (sp s)) (hc:∀b,∀i∈c b,mV i):∀k b,∀i∈gN sp c z k b,mV i
 |0,b,i,hi=>by cases hi
 |k+1,b,i,hi=>by
  simp only[gN] at hi
  rcases List.mem_cons.1 hi with rfl|hi
  ·exact hs _
  ·rcases List.mem_append.1 hi with hi|hi
   ·exact hc _ i hi
   ·exact CX hs hc k _ i hi
mutual
theorem uV:∀(t:Tr) (b:Nat),(∀n∈t.flat,n.rs.length≤1048576)→∀i∈aN t b,mV i
 | .mk n ks,b,h,i,hi=>by
  simp only[Tr.flat] at h;have hn:=h n (List.mem_cons_self ..);have hk:∀n∈ks.flat,n.rs.length≤1048576:=fun m hm=>h m (List.mem_cons_of_mem _ hm);have hc:=fun b=>Er ks b hk;have ha:=fun jp (hj:mV jp) b=>EH jp hj ks b hk;simp only[aN] at hi
  split at hi
  ·simp only[List.mem_cons,List.not_mem_nil,or_false] at hi;subst hi;exact JG _ _ _ hn
  split at hi
  ·simp only[List.mem_cons,List.not_mem_nil,or_false] at hi;subst hi;exact sE _ _ _
  split at hi
  ·simp only[List.mem_cons,List.not_mem_nil,or_false] at hi;subst hi;exact sE _ _ _
  split at hi
  ·exact hc b i hi
  split at hi
  ·exact ha _ (GJ _) b i hi
  split at hi
  ·unfold tO at hi
   split at hi
   ·rcases List.mem_append.1 hi with hi|hi
    ·exact yf hc _ _ i hi
    ·rcases List.mem_cons.1 hi with rfl|hi
     ·exact Cx _ _ _
     ·rcases List.mem_append.1 hi with hi|hi
      ·exact hc _ i hi
      ·simp only[List.mem_cons,List.not_mem_nil,or_false] at hi;subst hi;exact GJ _
   ·rcases List.mem_append.1 hi with hi|hi
    ·exact yf hc _ _ i hi
    ·exact CX (fun s=>Cx _ _ _) hc _ _ i hi
  split at hi
  ·rcases List.mem_cons.1 hi with rfl|hi
   ·exact sE _ _ _
   ·rcases List.mem_append.1 hi with hi|hi
    ·exact hc _ i hi
    ·simp only[List.mem_cons,List.not_mem_nil,or_false] at hi;subst hi;exact sE _ _ _
  ·cases hi
theorem Er:∀(ts:aJ) (b:Nat),(∀n∈ts.flat,n.rs.length≤1048576)→∀i∈jj ts b,mV i
 | .nil,b,_,i,hi=>by simp[jj] at hi
 | .cons t ts,b,h,i,hi=>by
  simp only[aJ.flat] at h;simp only[jj] at hi
  rcases List.mem_append.1 hi with hi|hi
  ·exact uV t b (fun n hn=>h n (List.mem_append_left _ hn)) i hi
  ·exact Er ts _ (fun n hn=>h n (List.mem_append_right _ hn)) i hi
theorem EH (jp:aT) (hj:mV jp):∀(ts:aJ) (b:Nat),(∀n∈ts.flat,n.rs.length≤1048576)→∀i∈fz jp ts b,mV i
 | .nil,b,_,i,hi=>by simp[fz] at hi
 | .cons t ts,b,h,i,hi=>by
  simp only[aJ.flat] at h;have h1:∀n∈t.flat,n.rs.length≤1048576:=fun n hn=>h n (List.mem_append_left _ hn);have h2:∀n∈ts.flat,n.rs.length≤1048576:=fun n hn=>h n (List.mem_append_right _ hn);simp only[fz] at hi
  split at hi
  ·exact uV t b h1 i hi
  ·rcases List.mem_cons.1 hi with rfl|hi
   ·exact Cx _ _ _
   ·rcases List.mem_append.1 hi with hi|hi
    ·exact uV t _ h1 i hi
    ·rcases List.mem_cons.1 hi with rfl|hi
     ·exact hj
     ·exact EH jp hj ts _ h2 i hi
end
end Go.Proofs.YtpcicphadikioaaGreat
namespace Go.Proofs.YtpcicphadikioaaGreat
open Go.V Go
def nE (fr:Go.V.Fr) (k:Nat):Go.V.D:=Go.V.nth .aY fr.loc k
theorem CQ {s0:St} {n:bn} (hn:n.ok):Ev pv 78 [.agg (aE n)] s0 (.bool (tU n)) s0:=by
 refine Ev.jL rfl Ow rfl rfl rfl ?_;refine zE ?_;obtain⟨aW,hF,hH⟩:=ri s0;generalize ai .ro s0=S at*;have xD:=hn.1.arg s0.bs.length S;have B':=hn.2.1;refine zQ 2 ?_;refine qb hH fun k1 st lL hH=>?_;dsimp only[u2,u1,u3,u4,setMany,u5,u6,D.cells,Nat.reduceAdd,aE] at hH;refine zQ 10 ?_;refine ag.rR 2 (.bool (((n.op==2)||((n.rs.length:Nat):Int)==0) &&((n.op==5)||((n.mn==0) &&(n.mx==0) &&!n.lz)) &&((n.op==6)||(n.cap==0)))) [] ?_ (fun ff tmp=>?_)
 ·refine zQ 4 ?_;refine ae.two 10 rfl (fun dK=>?_) (fun dK=>?_)
  ·refine zQ 8 ?_;refine ae.two 18 rfl (fun ew=>?_) (fun ew=>?_)
   ·refine zQ 20 ?_;refine ae.two 38 rfl (fun jB=>?_) (fun jB=>?_)
    ·refine zQ 6 ?_;refine ae.nil (aI ?_);refine zG ?_
     all_goals(simp[dK,ew,jB];done)
    ·refine zQ 6 ?_;refine ae.nil (aI ?_);refine zG ?_
     all_goals(simp[dK,ew,jB];done)
   ·refine zQ 4 ?_;refine ae.two 22 rfl (fun kb=>?_) (fun kb=>?_)
    ·refine zQ 3 ?_;refine ae.cF (aj rfl rfl rfl ew) rfl kb (aa rfl _) ?_;refine zQ 1 ?_;refine ae.two 27 rfl (fun lM=>?_) (fun lM=>?_)
     ·refine zQ 3 ?_;refine ae.cF (aj rfl rfl rfl ew) rfl lM (aa rfl _) ?_;refine zQ 3 ?_;refine ae.two 34 rfl (fun nK=>?_) (fun nK=>?_)
      ·refine zQ 4 ?_;refine ae.two 38 rfl (fun jB=>?_) (fun jB=>?_)
       ·refine zQ 3 ?_;refine ae.cF (aj rfl rfl rfl nK) rfl jB (aa rfl _) ?_;refine zQ 2 ?_;refine ae.nil (aI ?_);refine zG ?_
        all_goals(simp[dK,ew,kb,lM,nK,jB];done)
       ·refine zQ 3 ?_;refine ae.cp (aj rfl rfl rfl nK) rfl jB (aa rfl _) ?_;refine zQ 2 ?_;refine ae.nil (aI ?_);refine zG ?_
        all_goals(simp[dK,ew,kb,lM,nK,jB];done)
      ·refine zQ 10 ?_;refine ae.nil (aI ?_);refine zG ?_
       all_goals(simp[dK,ew,kb,lM,nK];done)
     ·refine zQ 3 ?_;refine ae.cp (aj rfl rfl rfl ew) rfl lM (aa rfl _) ?_;refine zQ 13 ?_;refine ae.nil (aI ?_);refine zG ?_
      all_goals(simp[dK,ew,kb,lM];done)
    ·refine zQ 3 ?_;refine ae.cp (aj rfl rfl rfl ew) rfl kb (aa rfl _) ?_;refine zQ 18 ?_;refine ae.nil (aI ?_);refine zG ?_
     all_goals(simp[dK,ew,kb];done)
  ·refine zQ 2 ?_;refine qn ?_ (hg:=wi dK);simp only[List.length_map];refine zQ 3 ?_;refine ae.two 16 rfl (fun dt=>?_) (fun dt=>?_)
   ·refine zQ 2 ?_;refine ae.two 18 rfl (fun ew=>?_) (fun ew=>?_)
    ·refine zQ 13 ?_;refine ae.cF (aj rfl rfl rfl dt) rfl ew (aa rfl _) ?_;refine zQ 6 ?_;refine ae.two 38 rfl (fun jB=>?_) (fun jB=>?_)
     ·refine zQ 6 ?_;refine ae.nil (aI ?_);refine zG ?_
      all_goals(simp[dK,dt,ew,jB];done)
     ·refine zQ 6 ?_;refine ae.nil (aI ?_);refine zG ?_
      all_goals(simp[dK,dt,ew,jB];done)
    ·refine zQ 4 ?_;refine ae.two 22 rfl (fun kb=>?_) (fun kb=>?_)
     ·refine zQ 3 ?_;refine ae.cF (aj rfl rfl rfl ew) rfl kb (aa rfl _) ?_;refine zQ 1 ?_;refine ae.two 27 rfl (fun lM=>?_) (fun lM=>?_)
      ·refine zQ 3 ?_;refine ae.cF (aj rfl rfl rfl ew) rfl lM (aa rfl _) ?_;refine ae.cp (aj rfl rfl rfl dt) rfl ew (aa rfl _) ?_;refine zQ 2 ?_;refine ae.two 34 rfl (fun nK=>?_) (fun nK=>?_)
       ·refine zQ 4 ?_;refine ae.two 38 rfl (fun jB=>?_) (fun jB=>?_)
        ·refine zQ 3 ?_;refine ae.cF (aj rfl rfl rfl nK) rfl jB (aa rfl _) ?_;refine zQ 2 ?_;refine ae.nil (aI ?_);refine zG ?_
         all_goals(simp[dK,dt,ew,kb,lM,nK,jB];done)
        ·refine zQ 3 ?_;refine ae.cp (aj rfl rfl rfl nK) rfl jB (aa rfl _) ?_;refine zQ 2 ?_;refine ae.nil (aI ?_);refine zG ?_
         all_goals(simp[dK,dt,ew,kb,lM,nK,jB];done)
       ·refine zQ 10 ?_;refine ae.nil (aI ?_);refine zG ?_
        all_goals(simp[dK,dt,ew,kb,lM,nK];done)
      ·refine zQ 3 ?_;refine ae.cp (aj rfl rfl rfl ew) rfl lM (aa rfl _) ?_;refine ae.cp (aj rfl rfl rfl dt) rfl ew (aa rfl _) ?_;refine zQ 12 ?_;refine ae.nil (aI ?_);refine zG ?_
       all_goals(simp[dK,dt,ew,kb,lM];done)
     ·refine zQ 3 ?_;refine ae.cp (aj rfl rfl rfl ew) rfl kb (aa rfl _) ?_;refine zQ 5 ?_;refine ae.cp (aj rfl rfl rfl dt) rfl ew (aa rfl _) ?_;refine zQ 12 ?_;refine ae.nil (aI ?_);refine zG ?_
      all_goals(simp[dK,dt,ew,kb];done)
   ·refine zQ 28 ?_;refine ae.nil (aI ?_);refine zG ?_
    all_goals(simp[dK,dt];done)
 dsimp only[bd,List.foldl,nth,u2,u1];refine ag.ret ⟨rx,_,rfl,rl aW hH (rfl)⟩
theorem x0 {s0:St} {n:bn} (hn:n.ok) {g:Nat} (hg:g≤1048576):Ev pv 60 [.agg (aE n),.int .i64 (g:Nat)] s0 (.tup [.int .i64 (fP n (g:Nat)).1,.bool (fP n (g:Nat)).2]) s0:=by
 refine Ev.jL rfl OJ rfl rfl rfl ?_;refine zE ?_;obtain⟨aW,hF,hH⟩:=ri s0;generalize ai .ro s0=S at*;have xD:=hn.1.arg s0.bs.length S;have B':=hn.2.1;refine zQ 2 ?_;refine qb hH fun k2 st hk2 hH=>?_;dsimp only[u2,u1,u3,u4,setMany,u5,u6,D.cells,Nat.reduceAdd,aE] at hH;refine zQ 6 ?_;refine ae.aO (m:=7) hH rfl (ev rfl) (by exact aG) (by dsimp only[List.drop_succ_cons,List.drop_zero,List.take_succ_cons,List.take_zero,aE]<;>rfl) rfl rfl (by dsimp only[Fr.put,u1,u2]<;>rfl) ?_;refine qv (CQ hn) ?_;refine zQ 2 ?_;unfold fP
 cases hp:tU n with
 |false=>
  rw[if_pos rfl];refine zQ 6 ?_;refine ag.ret ⟨rx,_,rfl,rl aW hH (rfl)⟩
 |true=>
  rw[if_neg (by simp)];refine zQ 15 ?_
  by_cases q1:n.op=1
  ·rw[if_pos (.inl q1)];refine qD rfl (by simp[q1]) ?_;refine zQ 1 ?_;refine qD rfl (by simp[q1]) ?_;refine zQ 8 ?_;refine ag.ret ⟨rx,_,rfl,rl aW hH (rfl)⟩
  refine qE rfl (by simp[q1]) ?_;refine zQ 5 ?_
  by_cases q7:n.op=7
  ·rw[if_pos (.inr (.inl q7))];refine qD rfl (by simp[q7]) ?_;refine zQ 1 ?_;refine qD rfl (by simp[q7]) ?_;refine zQ 8 ?_;refine ag.ret ⟨rx,_,rfl,rl aW hH (rfl)⟩
  refine qE rfl (by simp[q7]) ?_;refine zQ 4 ?_
  by_cases q8:n.op=8
  ·rw[if_pos (.inr (.inr q8))];refine qD rfl (by simp[q8]) ?_;refine zQ 8 ?_;refine ag.ret ⟨rx,_,rfl,rl aW hH (rfl)⟩
  refine qE rfl (by simp[q8]) ?_;rw[if_neg (by omega)];refine zQ 5 ?_;refine zI (fun q2=>?_) fun q2=>?_
  ·rw[if_pos q2];refine qq<|ag.IC [4,5] (fun ff=>ff 4=.int .i64 0∧ff 5=.bool ((n.kids==0) &&nu n.rs)) ?_ (fun ff tmp lW=>?_)
   ·refine zQ 4 ?_;refine ae.two 23 rfl (fun dK=>?_) (fun dK=>?_)
    ·refine zQ 2 ?_;refine qv (CI (xD.rows hH) B') ?_ (hg:=wi dK);refine zQ 3 ?_;refine ae.nil (j9 ?_ ?_)
     ·dsimp only[bd,List.foldl,nth,u2,u1]
     ·dsimp only[nth];refine zF ?_;refine⟨?_,?_⟩<;>(first|rfl|(simp[dK];done)|(simp_all;done)|(simp[dK];omega)|(simp_all;omega))
    ·refine zQ 6 ?_;refine ae.nil (j9 ?_ ?_)
     ·dsimp only[bd,List.foldl,nth,u2,u1]
     ·dsimp only[nth];refine zF ?_;refine⟨?_,?_⟩<;>(first|rfl|(simp[dK];done)|(simp_all;done)|(simp[dK];omega)|(simp_all;omega))
   dsimp only[bd,List.foldl,nth,u2,u1];obtain⟨DV,DU⟩:=lW;rw[DV,DU];refine ag.ret ⟨rx,_,rfl,rl aW hH (rfl)⟩
  rw[if_neg q2];refine zQ 6 ?_
  by_cases q3:n.op=3
  ·rw[if_pos (.inl q3)];refine qD rfl (by simp[q3]) ?_;refine zQ 1 ?_;refine qD rfl (by simp[q3]) ?_;refine zQ 10 ?_;refine ag.ret ⟨rx,_,rfl,rl aW hH (rfl)⟩
  refine qE rfl (by simp[q3]) ?_;refine zQ 4 ?_
  by_cases q4:n.op=4
  ·rw[if_pos (.inr q4)];refine qD rfl (by simp[q4]) ?_;refine zQ 10 ?_;refine ag.ret ⟨rx,_,rfl,rl aW hH (rfl)⟩
  rw[if_neg (by omega)];refine qE rfl (by simp[q4]) ?_;refine zQ 5 ?_;refine zI (fun q5=>?_) fun q5=>?_
  ·rw[if_pos q5];refine qq<|ag.IC [4,5] (fun ff=>ff 4=.int .i64 1∧ff 5=.bool ((n.kids==1) &&decide (n.mn≥0) &&decide (n.mn≤30) &&((n.mx==-1)||(decide (n.mx≥n.mn) &&decide (n.mx≤30))))) ?_ (fun ff tmp lW=>?_)
   ·refine zQ 4 ?_;refine ae.two 41 rfl (fun dK=>?_) (fun dK=>?_)
    ·refine zQ 5 ?_;refine ae.two 46 rfl (fun dv=>?_) (fun dv=>?_)
     ·refine zQ 5 ?_;refine ae.two 51 rfl (fun kW=>?_) (fun kW=>?_)
      ·refine zQ 4 ?_;refine ae.two 55 rfl (fun aR=>?_) (fun aR=>?_)
       ·refine zQ 10 ?_;refine ae.cF (aj rfl rfl rfl kW) rfl aR (aa rfl _) ?_;refine zQ 3 ?_;refine ae.nil (j9 ?_ ?_)
        ·dsimp only[bd,List.foldl,nth,u2,u1]
        ·dsimp only[nth];refine zF ?_;refine⟨?_,?_⟩<;>(first|rfl|(simp[dK,dv,kW,aR];done)|(simp_all;done)|(simp[dK,dv,kW,aR];omega)|(simp_all;omega))
       ·refine zQ 6 ?_;refine ae.two 61 rfl (fun yO=>?_) (fun yO=>?_)
        ·refine zQ 3 ?_;refine ae.cF (aj rfl rfl rfl aR) rfl yO (aa rfl _) ?_;refine ae.cp (aj rfl rfl rfl kW) rfl aR (aa rfl _) ?_;refine zQ 3 ?_;refine ae.nil (j9 ?_ ?_)
         ·dsimp only[bd,List.foldl,nth,u2,u1]
         ·dsimp only[nth];refine zF ?_;refine⟨?_,?_⟩<;>(first|rfl|(simp[dK,dv,kW,aR,yO];done)|(simp_all;done)|(simp[dK,dv,kW,aR,yO];omega)|(simp_all;omega))
        ·refine zQ 3 ?_;refine ae.cp (aj rfl rfl rfl aR) rfl yO (aa rfl _) ?_;refine ae.cp (aj rfl rfl rfl kW) rfl aR (aa rfl _) ?_;refine zQ 3 ?_;refine ae.nil (j9 ?_ ?_)
         ·dsimp only[bd,List.foldl,nth,u2,u1]
         ·dsimp only[nth];refine zF ?_;refine⟨?_,?_⟩<;>(first|rfl|(simp[dK,dv,kW,aR,yO];done)|(simp_all;done)|(simp[dK,dv,kW,aR,yO];omega)|(simp_all;omega))
      ·refine zQ 18 ?_;refine ae.nil (j9 ?_ ?_)
       ·dsimp only[bd,List.foldl,nth,u2,u1]
       ·dsimp only[nth];refine zF ?_;refine⟨?_,?_⟩<;>(first|rfl|(simp[dK,dv,kW];done)|(simp_all;done)|(simp[dK,dv,kW];omega)|(simp_all;omega))
     ·refine zQ 23 ?_;refine ae.nil (j9 ?_ ?_)
      ·dsimp only[bd,List.foldl,nth,u2,u1]
      ·dsimp only[nth];refine zF ?_;refine⟨?_,?_⟩<;>(first|rfl|(simp[dK,dv];done)|(simp_all;done)|(simp[dK,dv];omega)|(simp_all;omega))
    ·refine zQ 28 ?_;refine ae.nil (j9 ?_ ?_)
     ·dsimp only[bd,List.foldl,nth,u2,u1]
     ·dsimp only[nth];refine zF ?_;refine⟨?_,?_⟩<;>(first|rfl|(simp[dK];done)|(simp_all;done)|(simp[dK];omega)|(simp_all;omega))
   dsimp only[bd,List.foldl,nth,u2,u1];obtain⟨DV,DU⟩:=lW;rw[DV,DU];refine ag.ret ⟨rx,_,rfl,rl aW hH (rfl)⟩
  rw[if_neg q5];refine zQ 5 ?_;refine zI (fun q6=>?_) fun q6=>?_
  ·rw[if_pos q6];refine qq<|ag.IC [4,5] (fun ff=>ff 4=.int .i64 1∧ff 5=.bool ((n.kids==1) &&(n.cap==((g+1:Nat):Int)) &&decide (n.cap≤4))) ?_ (fun ff tmp lW=>?_)
   ·refine zQ 4 ?_;refine ae.two 73 rfl (fun dK=>?_) (fun dK=>?_)
    ·refine zQ 7 ?_;refine ae.two 80 rfl (fun gQ=>?_) (fun gQ=>?_)
     ·refine zQ 6 ?_;refine ae.nil (j9 ?_ ?_)
      ·dsimp only[bd,List.foldl,nth,u2,u1]
      ·dsimp only[nth];refine zF ?_;refine⟨?_,?_⟩<;>(first|rfl|(simp[dK,gQ];done)|(simp_all;done)|(simp[dK,gQ];omega)|(simp_all;omega))
     ·refine zQ 6 ?_;refine ae.nil (j9 ?_ ?_)
      ·dsimp only[bd,List.foldl,nth,u2,u1]
      ·dsimp only[nth];refine zF ?_;refine⟨?_,?_⟩<;>(first|rfl|(simp[dK,gQ];done)|(simp_all;done)|(simp[dK,gQ];omega)|(simp_all;omega))
    ·refine zQ 13 ?_;refine ae.nil (j9 ?_ ?_)
     ·dsimp only[bd,List.foldl,nth,u2,u1]
     ·dsimp only[nth];refine zF ?_;refine⟨?_,?_⟩<;>(first|rfl|(simp[dK];done)|(simp_all;done)|(simp[dK];omega)|(simp_all;omega))
   dsimp only[bd,List.foldl,nth,u2,u1];obtain⟨DV,DU⟩:=lW;rw[DV,DU];refine ag.ret ⟨rx,_,rfl,rl aW hH (rfl)⟩
  ·rw[if_neg q6];refine zQ 6 ?_;refine ag.ret ⟨rx,_,rfl,rl aW hH (rfl)⟩
theorem wg {n:bn} (h:n.ok):refs (aE n)=0:=by
 have:=h.1.ref;simp only[aE,refs,D.ref,this,Nat.max_self]
def nY (d:D) (at_ g:Nat):List D:=[d,.int .i64 (at_:Nat),.int .i64 (g:Nat)]
theorem C4 {l:List bn} {d:D} (hl:l.length≤1048576) (hi:∀n∈l,n.ok) (hd:eZ d 7 (l.map aE)):∀(f:Nat) {N k:Nat} {S s0:St} {H:List bh} {at_ g:Nat},f≤241→g≤4→Has N S s0 (.box k (.mem 0 false (nY d at_ g))::H)→
  ∃r ah,Ev pv 47 [.ptr k 0 0,.int .i64 ((241-f:Nat):Int)] s0 r ah∧r=.bool (i_ l f at_ g).isSome∧∃a' g',Has N S ah (.box k (.mem 0 false (nY d a' g'))::H)∧g'≤4∧∀q,i_ l f at_ g=some q→a'=q.1∧g'=q.2:=by
 intro f
 induction f with
 |zero=>
  intro N k S s0 H at_ g hf hg hH;refine Ev.kT rfl K5 rfl rfl rfl ?_;refine zE ?_;have cm:=hH;have hH:=hH.cq;have b9:(ai .rw s0).bs=s0.bs:=rfl;generalize ai .rw s0=S2 at*;have hc:=hd.arg N S2;refine zQ 6 ?_;refine ag.mJ 21 (.bool (decide ((at_:Int)≥(l.length:Nat))||decide (((241-0:Nat):Int)>240))) [] ?_ (fun ff tmp fg=>?_)
  ·refine zQ 8 ?_;refine qn ?_;simp only[List.length_map];refine zQ 2 ?_;refine ae.two 18 rfl (fun gQ=>?_) (fun gQ=>?_)
   ·refine zQ 3 ?_;refine ae.nil (dn ?_ ?_)
    ·dsimp only[bd,List.foldl,nth,u2,u1]
     all_goals(first|rfl|simp)
    ·refine zF ?_
     all_goals(simp[gQ];done)
   ·refine zQ 3 ?_;refine ae.nil (dn ?_ ?_)
    ·dsimp only[bd,List.foldl,nth,u2,u1]
     all_goals(first|rfl|simp)
    ·refine zF ?_
     all_goals(simp[gQ];done)
  dsimp only[bd,List.foldl,nth,u2,u1];have hT:(decide ((at_:Int)≥(l.length:Nat))||decide (((241-0:Nat):Int)>240))=true:=by simp
  rw[hT] at fg;refine zQ 5 ?_;refine ag.ret ⟨rx,_,_,_,rfl,ak (rfl),?_⟩;exact⟨rfl,_,_,cm.ax b9 hH,hg,fun q hq=>by simp[i_] at hq⟩
 |succ f ih=>
  intro N k S s0 H at_ g hf hg hH;refine Ev.kT rfl K5 rfl rfl rfl ?_;refine zE ?_;have cm:=hH;have hH:=hH.cq;have b9:(ai .rw s0).bs=s0.bs:=rfl;generalize ai .rw s0=S2 at*;have hc:=hd.arg N S2;refine zQ 6 ?_;refine ag.mJ 21 (.bool (decide ((at_:Int)≥(l.length:Nat))||decide (((241-(f+1):Nat):Int)>240))) [] ?_ (fun ff tmp fg=>?_)
  ·refine zQ 8 ?_;refine qn ?_;simp only[List.length_map];refine zQ 2 ?_;refine ae.two 18 rfl (fun gQ=>?_) (fun gQ=>?_)
   ·refine zQ 3 ?_;refine ae.nil (dn ?_ ?_)
    ·dsimp only[bd,List.foldl,nth,u2,u1]
     all_goals(first|rfl|simp)
    ·refine zF ?_
     all_goals(simp_all;done)
   ·refine zQ 3 ?_;refine ae.nil (dn ?_ ?_)
    ·dsimp only[bd,List.foldl,nth,u2,u1]
     all_goals(first|rfl|simp)
    ·refine zF ?_
     all_goals(simp_all;omega)
  dsimp only[bd,List.foldl,nth,u2,u1]
  by_cases ha:l.length≤at_
  ·have hT:(decide ((at_:Int)≥(l.length:Nat))||decide (((241-(f+1):Nat):Int)>240))=true:=by
    rw[Bool.or_eq_true];exact .inl (by rw[decide_eq_true_eq];omega)
   rw[hT] at fg;have hn:i_ l (f+1) at_ g=none:=by unfold i_;rw[List.getElem?_eq_none ha]
   rw[hn];refine zQ 5 ?_;refine ag.ret ⟨rx,_,_,_,rfl,ak (rfl),?_⟩;exact⟨rfl,_,_,cm.ax b9 hH,hg,fun q hq=>by cases hq⟩
  ·have hT:(decide ((at_:Int)≥(l.length:Nat))||decide (((241-(f+1):Nat):Int)>240))=false:=by
    rw[Bool.or_eq_false_iff];exact⟨by rw[decide_eq_false_iff_not];omega,by rw[decide_eq_false_iff_not];omega⟩
   rw[hT] at fg
   obtain⟨n,hn⟩:∃n,l[at_]?=some n:=⟨l[at_]'(by omega),List.getElem?_eq_getElem _⟩
   have rz:=hi n (List.mem_of_getElem? hn);have gJ:=kJ hn;have EW:=wg rz
   have jy:i_ l (f+1) at_ g=if(fP n (g:Nat)).2=true then lu (i_ l f) (fP n (g:Nat)).1.toNat (at_+1) (if n.op=6 then g+1 else g) else none:=by
    rw[i_,hn]
   rw[jy];clear jy;refine zQ 12 ?_;refine qr fun PS J2=>?_;refine ae.cJ rfl (ev rfl) (by assumption) rfl (aa rfl _) ?_;refine qa hH fun k5 st DQ hH=>?_;dsimp only[u2,u1,u3,u4,setMany,u5,u6,D.cells,Nat.reduceAdd,nY,aE] at hH;refine ae.bP hH rfl (ev rfl) (ev rfl) (by rfl) (by exact rfl) (by exact aG) (by exact rfl) (by exact .inr (by assumption)) (fun st hH=>?_);dsimp only[u2,u1,u3,u4,setMany,u5,u6,D.cells,Nat.reduceAdd,nY,aE] at hH;refine zQ 3 ?_;refine ae.aO (m:=7) hH rfl (ev rfl) (by exact aG) (by dsimp only[List.drop_succ_cons,List.drop_zero,List.take_succ_cons,List.take_zero,nY,aE]<;>rfl) rfl rfl (aa rfl _) ?_;refine zQ 4 ?_;refine qv (x0 rz (by omega)) ?_;refine zQ 12 ?_
   cases hsh:(fP n (g:Nat)).2 with
   |false=>
    rw[if_neg (by simp)];refine zQ 5 ?_;refine ag.ret ⟨rx,_,_,_,rfl,ak (rfl),?_⟩;exact⟨rfl,_,_,cm.ax b9 (hH.drop 1),hg,fun q hq=>by cases hq⟩
   |true=>
    rw[if_pos rfl];obtain⟨⟨lL,_⟩,hk2,Ib⟩:=vz hsh;have I_:=rz.2.2;obtain⟨kd,Bv⟩:∃kd:Nat,(fP n (g:Nat)).1=(kd:Int):=Int.eq_ofNat_of_zero_le hk2;rw[Bv,Int.toNat_natCast];rw[Bv,Int.toNat_natCast] at lL;refine zQ 11 ?_;refine qT hH aV fun st hH=>?_;dsimp only[u2,u1,u3,u4,setMany,u5,u6,D.cells,Nat.reduceAdd,nY,aE] at hH;refine zQ 8 ?_;refine ag.merge (fun fr st=>∃(g2:Nat) (tmp:List (Nat×D)),fr=⟨8,[.ptr k 0 0,.int .i64 ((241-(f+1):Nat):Int),nE fr 2,nE fr 3,.bool false,.ptr k5 0 0,.int .i64 (kd:Nat),.bool true],tmp⟩∧Has N S2 st (.box k (.mem 0 false [d,.int .i64 ((at_+1:Nat):Int),.int .i64 (g2:Nat)])::.box k5 (.mem 0 false (aE n))::H)∧(g2=if n.op=6 then g+1 else g)∧(g2≤4)) ?_ ?_
    ·refine zI (fun q6=>?_) fun q6=>?_
     ·have:=Ib q6;refine zQ 8 ?_;refine qT hH aV fun st hH=>?_;dsimp only[u2,u1,u3,u4,setMany,u5,u6,D.cells,Nat.reduceAdd,nY,aE] at hH;refine zQ 1 ?_;exact⟨g+1,_,rfl,(by have:=hH.front aV;exact this),by rw[if_pos q6],by omega⟩
     ·refine zQ 1 ?_;exact⟨g,_,rfl,(by have:=hH.front aV;exact this),by rw[if_neg q6],hg⟩
    ·rintro fr st ⟨g2,tmp,hfr,hH,bH,dK⟩;rw[hfr];clear hfr;generalize nE fr=ee;clear fr;rw[←bH];refine zQ 2 ?_;refine ag.loop (fun mm fr st=>∃(kk a2 g4:Nat),fr.clean=⟨8,[.ptr k 0 0,.int .i64 ((241-(f+1):Nat):Int),nE fr 2,nE fr 3,.bool false,.ptr k5 0 0,.int .i64 (kk:Nat),.bool true],[]⟩∧Has N S2 st (.box k (.mem 0 false [d,.int .i64 (a2:Nat),.int .i64 (g4:Nat)])::.box k5 (.mem 0 false (aE n))::H)∧(lu (i_ l f) kk a2 g4=lu (i_ l f) kd (at_+1) g2)∧(g4≤4)∧(kk=mm)∧(kk≤9223372036854775807)) (kd) ?_ ?_
     ·exact⟨kd,at_+1,g2,rfl,hH,rfl,dK,rfl,by omega⟩
     rintro mm fr st ⟨kk,a2,g4,hfr,hH,hX,fY,Cd,hkk⟩;rw[hfr];clear hfr;generalize nE fr=ee;clear fr;refine zQ 6 ?_
     cases kk with
     |zero=>
      refine ag.cond (v:=false) (by dsimp only[Fr.ev,Fr.get,nth,V.look];rfl) (fun h=>by cases h) (fun _=>?_);refine zQ 5 ?_;refine ag.ret ⟨rx,_,_,_,rfl,ak (rfl),?_⟩;exact⟨by rw[←hX];rfl,_,_,cm.ax b9 (hH.erase 1),fY,fun q hq=>by rw[←hX] at hq;simp only[lu,Option.some.injEq] at hq;subst hq;exact⟨rfl,rfl⟩⟩
     |succ kk=>
      rw[lu] at hX;refine qD rfl (by simp) ?_;refine zQ 7 ?_;refine ae.cS (z:=((241-f:Nat):Int)) rfl (ev rfl) (ev rfl) (by(try simp only[List.length_reverse,List.length_cons,List.length_nil,List.length_append,List.length_map,List.length_set]);rw[wrap_i64 (by omega) (by omega)]<;>omega) (aa rfl _) ?_;obtain⟨_,st,aF,rfl,a',g',hH,iP,hq⟩:=ih (at_:=a2) (g:=g4) (by omega) fY hH;refine qv aF ?_;refine zQ 2 ?_
      cases ho:i_ l f a2 g4 with
      |none=>
       rw[ho] at hX;refine zQ 5 ?_;refine ag.ret ⟨rx,_,_,_,rfl,ak (rfl),?_⟩;exact⟨by rw[←hX];rfl,_,_,cm.ax b9 (hH.erase 1),iP,fun q hq=>by rw[←hX] at hq;cases hq⟩
      |some q=>
       rw[ho] at hX;obtain⟨rfl,rfl⟩:=hq q ho;refine zQ 4 ?_;refine ae.kQ (z:=((kk:Nat):Int)) rfl (ev rfl) (ev rfl) (by(try simp only[List.length_reverse,List.length_cons,List.length_nil,List.length_append,List.length_map,List.length_set]);rw[wrap_i64 (by omega) (by omega)]<;>omega) (aa rfl _) ?_;refine zQ 2 ?_;exact⟨mm-1,by omega,⟨kk,q.1,q.2,rfl,hH,hX,iP,by omega,by omega⟩⟩
theorem sr {s0:St} {x:Nl} (hx:x.ok):Ev pv 28 [x.d] s0 (.bool (gD x.l)) s0:=by
 refine Ev.jL rfl O5 rfl rfl rfl ?_;refine zE ?_;obtain⟨aW,hF,hH⟩:=ri s0;generalize ai .ro s0=S at*;have hc:=hx.c.arg s0.bs.length S;have hl:=hx.nl;have w5:=hx.c;refine zQ 6 ?_;refine ag.mJ 11 (.bool (decide (((x.l.length:Nat):Int)<1)||decide (((x.l.length:Nat):Int)>480))) [] ?_ (fun ff tmp fg=>?_)
 ·refine qm ?_;refine qn ?_;simp only[List.length_map];refine zQ 2 ?_;refine ae.two 7 rfl (fun dK=>?_) (fun dK=>?_)
  ·refine zQ 4 ?_;refine ae.nil (dn ?_ ?_)
   ·dsimp only[bd,List.foldl,nth,u2,u1]
    all_goals(first|rfl|simp)
   ·refine zF ?_
    all_goals(simp[dK];done)
  ·refine zQ 1 ?_;refine qn ?_ (hg:=wi dK);simp only[List.length_map];refine zQ 2 ?_;refine ae.nil (dn ?_ ?_)
   ·dsimp only[bd,List.foldl,nth,u2,u1]
    all_goals(first|rfl|simp)
   ·refine zF ?_
    all_goals(simp[dK];done)
 dsimp only[bd,List.foldl,nth,u2,u1]
 by_cases hlen:1≤x.l.length∧x.l.length≤480
 ·have hT:(decide (((x.l.length:Nat):Int)<1)||decide (((x.l.length:Nat):Int)>480))=false:=by
   rw[Bool.or_eq_false_iff];exact⟨by rw[decide_eq_false_iff_not];omega,by rw[decide_eq_false_iff_not];omega⟩
  rw[hT] at fg
  have hR:gD x.l=(match i_ x.l 241 0 0 with|some r=>decide (r.1=x.l.length)|none=>false):=by
   unfold gD;rw[decide_eq_true hlen.1,decide_eq_true hlen.2];rfl
  rw[hR];clear hR;refine zQ 5 ?_;refine ae.gE (qs:=[(0,_)]) rfl rfl rfl rfl ⟨rfl,(ev rfl),(by exact(eZ.cells (by assumption)).1),trivial⟩ (by intro q hq;simp only[List.mem_cons,List.not_mem_nil,or_false] at hq;rcases hq with rfl<;>exact⟨rfl,by exact Nat.le_of_ble_eq_true rfl⟩) (by show List.foldl _ [_,_,_] _=_;dsimp only[List.foldl_cons,List.foldl_nil,u2,u1]<;>rfl) (aa rfl _) ?_;refine qb hH fun k14 st KC hH=>?_;refine zQ 2 ?_;have hH:Has s0.bs.length S st (.box k14 (.mem 0 false (nY x.d 0 0))::[]):=hH
  cases bH:(i_ x.l 241 0 0).isSome with
  |true=>
   obtain⟨q,hq⟩:=Option.isSome_iff_exists.1 bH;refine zQ 3 ?_;obtain⟨_,st,aF,rfl,a',g',hH,iP,Qe⟩:=C4 hl hx.i hx.c 241 (by omega) (by omega) hH;refine qv aF ?_;refine zQ 6 ?_;refine qn ?_ (hg:=wi bH);simp only[List.length_map];refine zQ 4 ?_;obtain⟨rfl,rfl⟩:=Qe q hq;rw[hq]
   have he:decide (q.1=x.l.length)=(((q.1:Nat):Int)==((x.l.length:Nat):Int)):=by
    rw[Bool.eq_iff_iff];simp only[decide_eq_true_eq,beq_iff_eq];omega
   simp only[he];refine ag.ret ⟨rx,_,rfl,rl aW hH (rfl)⟩
  |false=>
   have hq:i_ x.l 241 0 0=none:=by
    cases hq:i_ x.l 241 0 0 with
    |none=>rfl
    |some q=>rw[hq] at bH;cases bH
   refine zQ 3 ?_;obtain⟨_,st,aF,rfl,a',g',hH,iP,Qe⟩:=C4 hl hx.i hx.c 241 (by omega) (by omega) hH;refine qv aF ?_;refine zQ 11 ?_;rw[hq];refine ag.ret ⟨rx,_,rfl,rl aW hH (rfl)⟩
 ·have hT:(decide (((x.l.length:Nat):Int)<1)||decide (((x.l.length:Nat):Int)>480))=true:=by
   rw[Bool.or_eq_true,decide_eq_true_eq,decide_eq_true_eq];omega
  rw[hT] at fg
  have hR:gD x.l=false:=by
   unfold gD
   by_cases h1:1≤x.l.length
   ·rw[decide_eq_true h1,decide_eq_false (fun h2=>hlen ⟨h1,h2⟩)];rfl
   ·rw[decide_eq_false h1];rfl
  rw[hR];refine zQ 5 ?_;refine ag.ret ⟨rx,_,rfl,rl aW hH (rfl)⟩
end Go.Proofs.YtpcicphadikioaaGreat
