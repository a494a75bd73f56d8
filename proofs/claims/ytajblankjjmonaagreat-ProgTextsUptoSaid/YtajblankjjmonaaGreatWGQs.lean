/-
 What is saved for certain ahead of each instruction of a pattern's code.
-/
import Derived.Test.YtajblankjjmonaaGreatWGM3
import Derived.Test.YtajblankjjmonaaGreatWGKb
import Derived.Test.YtajblankjjmonaaGreatWGQh
import Derived.Test.YtajblankjjmonaaGreatWGCa
import Derived.Test.YtajblankjjmonaaGreatWGHr
set_option linter.unusedSimpArgs false
set_option linter.unusedVariables false
set_option maxRecDepth 100000
set_option maxHeartbeats 4000000
set_option linter.unusedSectionVars false
namespace Go.Proofs.YtajblankjjmonaaGreat
open Go.V Go
structure kX (X:Nat→Prop) (c:List aN) (b:Nat) (A:Nat→Prop) (g:Nat→Nat→Prop):Prop where
 hd:g b=A
 tl:g (b+c.length)=A
 xs:∀n,X n→b≤n→n≤b+c.length→g n=A
 st:∀j i,c[j]?=some i→(∀v∈jg (b+j) i,∃n:Nat,v=(n:Int)∧((b≤n∧n≤b+c.length∧∀s,g n s→g (b+j) s∨(i.op=4∧i.x=(s:Int)))∨(X n∧∀s,A s→g (b+j) s∨(i.op=4∧i.x=(s:Int)))))∧
  i.op≠7∧(i.op=4→∃k:Nat,1≤k∧(i.x=((2*k:Nat):Int)∨(i.x=((2*k+1:Nat):Int)∧g (b+j) (2*k))))
theorem kX.nil (X:Nat→Prop) (b:Nat) (A:Nat→Prop):kX X [] b A fun _=>A:=⟨rfl,rfl,fun _ _ _ _=>rfl,fun j i h=>by simp at h⟩
theorem kX.one {X:Nat→Prop} {b:Nat} {A:Nat→Prop} {i:aN} (h4:i.op≠4) (h7:i.op≠7) (h:∀v∈jg b i,∃n:Nat,v=(n:Int)∧(n=b+1∨X n)):kX X [i] b A fun _=>A:=by
 refine⟨rfl,rfl,fun _ _ _ _=>rfl,fun j i' hj=>?_⟩
 cases j with
 |succ j=>simp at hj
 |zero=>
  simp only[List.getElem?_cons_zero,Option.some.injEq] at hj;subst hj;refine⟨fun v hv=>?_,h7,fun h=>absurd h h4⟩;obtain⟨n,h1,h2⟩:=h v hv;refine⟨n,h1,?_⟩
  rcases h2 with rfl|h2
  ·exact .inl ⟨by omega,by simp,fun s hs=>.inl hs⟩
  ·exact .inr ⟨h2,fun s hs=>.inl hs⟩
theorem kX.oX {X Y:Nat→Prop} {c:List aN} {b:Nat} {A:Nat→Prop} {g:Nat→Nat→Prop} (h:kX X c b A g) (h1:∀n,X n→Y n) (h2:∀n,Y n→X n∨n≤b∨b+c.length≤n):kX Y c b A g:=by
 refine⟨h.hd,h.tl,fun n hn h3 h4=>?_,fun j i hj=>⟨fun v hv=>?_,(h.st j i hj).2⟩⟩
 ·rcases h2 n hn with h5|h5|h5
  ·exact h.xs n h5 h3 h4
  ·rw[show n=b by omega];exact h.hd
  ·rw[show n=b+c.length by omega];exact h.tl
 ·obtain⟨n,e,h5⟩:=(h.st j i hj).1 v hv;refine⟨n,e,?_⟩
  rcases h5 with h5|⟨h5,h6⟩
  ·exact .inl h5
  ·exact .inr ⟨h1 n h5,h6⟩
theorem kX.close {X Y:Nat→Prop} {c:List aN} {b:Nat} {A:Nat→Prop} {g:Nat→Nat→Prop} (h:kX X c b A g) (h1:∀n,Y n→X n) (h2:∀n,X n→Y n∨(b≤n∧n≤b+c.length)):kX Y c b A g:=by
 refine⟨h.hd,h.tl,fun n hn=>h.xs n (h1 n hn),fun j i hj=>⟨fun v hv=>?_,(h.st j i hj).2⟩⟩;obtain⟨n,e,h5⟩:=(h.st j i hj).1 v hv;refine⟨n,e,?_⟩
 rcases h5 with h5|⟨h5,h6⟩
 ·exact .inl h5
 ·rcases h2 n h5 with h7|⟨h7,h8⟩
  ·exact .inr ⟨h7,h6⟩
  ·exact .inl ⟨h7,h8,fun s hs=>h6 s (by rw[h.xs n h5 h7 h8] at hs;exact hs)⟩
theorem kX.append {X:Nat→Prop} {c d:List aN} {b e:Nat} {A:Nat→Prop} {g f:Nat→Nat→Prop} (h:kX X c b A g) (he:e=b+c.length) (k:kX X d e A f):kX X (c++d) b A fun n=>if n<e then g n else f n:=by
 subst he;have hm:∀n,b+c.length=n→g n=f n:=fun n hn=>by subst hn;rw[h.tl,k.hd]
 refine⟨?_,?_,fun n hn h1 h2=>?_,fun j i hj=>?_⟩
 ·show(if b<b+c.length then g b else f b)=A
  split
  ·exact h.hd
  ·rw[show b=b+c.length by omega];exact k.hd
 ·show(if b+(c++d).length<b+c.length then g _ else f _)=A;rw[if_neg (by rw[List.length_append];omega),List.length_append,←Nat.add_assoc];exact k.tl
 ·show(if n<b+c.length then g n else f n)=A;rw[List.length_append] at h2
  split
  ·exact h.xs n hn h1 (by omega)
  ·exact k.xs n hn (by omega) (by omega)
 ·by_cases jB:j<c.length
  ·rw[List.getElem?_append_left jB] at hj;obtain⟨h1,h2⟩:=h.st j i hj;have hg:(if b+j<b+c.length then g (b+j) else f (b+j))=g (b+j):=if_pos (by omega);simp only[hg];refine⟨fun v hv=>?_,h2⟩;obtain⟨n,e1,h3⟩:=h1 v hv;refine⟨n,e1,?_⟩
   rcases h3 with⟨h3,h4,h5⟩|h3
   ·refine .inl ⟨h3,by rw[List.length_append];omega,fun s hs=>h5 s ?_⟩
    split at hs
    ·exact hs
    ·rw[hm n (by omega)];exact hs
   ·exact .inr h3
  ·rw[List.getElem?_append_right (by omega)] at hj;obtain⟨h1,h2⟩:=k.st (j-c.length) i hj;have Hc:b+c.length+(j-c.length)=b+j:=by omega
   rw[Hc] at h1 h2;have hg:(if b+j<b+c.length then g (b+j) else f (b+j))=f (b+j):=if_neg (by omega);simp only[hg];refine⟨fun v hv=>?_,h2⟩;obtain⟨n,e1,h3⟩:=h1 v hv;refine⟨n,e1,?_⟩
   rcases h3 with⟨h3,h4,h5⟩|h3
   ·refine .inl ⟨by omega,by rw[List.length_append];omega,fun s hs=>h5 s ?_⟩;rw[if_neg (by omega)] at hs;exact hs
   ·exact .inr h3
theorem kX.group {c:List aN} {b:Nat} {A:Nat→Prop} {g:Nat→Nat→Prop} {k:Nat} {q w:aN} (hk:1≤k) (hq:q.op=4∧q.x=((2*k:Nat):Int)) (hw:w.op=4∧w.x=((2*k+1:Nat):Int)) (h:kX (fun _=>False) c (b+1) (fun s=>A s∨s=2*k) g):
  kX (fun _=>False) (q::(c++[w])) b A fun n=>if n≤b∨b+1+c.length<n then A else g n:=by
 have G9:∀(i:aN) (m:Nat),i.op=4→jg m i=[((m+1:Nat):Int)]:=fun i m hi=>by unfold jg;rw[if_neg (by omega),if_neg (by omega),if_neg (by omega)]
 refine⟨if_pos (.inl (by omega)),if_pos (.inr (by simp;omega)),fun n hn=>hn.elim,fun j i hj=>?_⟩
 cases j with
 |zero=>
  simp only[List.getElem?_cons_zero,Option.some.injEq] at hj;subst hj;refine⟨fun v hv=>?_,by rw[hq.1];decide,fun _=>⟨k,hk,.inl hq.2⟩⟩;rw[G9 q _ hq.1] at hv;simp only[List.mem_cons,List.not_mem_nil,or_false] at hv;subst hv;refine⟨b+0+1,rfl,.inl ⟨by omega,by simp,fun s hs=>?_⟩⟩;rw[if_neg (by omega)] at hs;rw[show b+0+1=b+1 by omega,h.hd] at hs
  rcases hs with hs|rfl
  ·exact .inl (by rw[if_pos (.inl (by omega))];exact hs)
  ·exact .inr ⟨hq.1,hq.2⟩
 |succ j=>
  rw[List.getElem?_cons_succ] at hj
  by_cases jB:j<c.length
  ·rw[List.getElem?_append_left jB] at hj;obtain⟨h1,h2⟩:=h.st j i hj;have Hc:b+1+j=b+(j+1):=by omega
   rw[Hc] at h1 h2;have hg:(if b+(j+1)≤b∨b+1+c.length<b+(j+1) then A else g (b+(j+1)))=g (b+(j+1)):=if_neg (by omega);simp only[hg];refine⟨fun v hv=>?_,h2⟩;obtain⟨n,e1,h3⟩:=h1 v hv;refine⟨n,e1,?_⟩
   rcases h3 with⟨h3,h4,h5⟩|⟨h3,_⟩
   ·refine .inl ⟨by omega,by simp;omega,fun s hs=>h5 s ?_⟩;rw[if_neg (by omega)] at hs;exact hs
   ·exact h3.elim
  ·rw[List.getElem?_append_right (by omega)] at hj
   have Rp:j=c.length:=by
    rcases Nat.eq_or_lt_of_le (show c.length≤j by omega) with h'|h'
    ·exact h'.symm
    ·rw[List.getElem?_eq_none (by simp;omega)] at hj;cases hj
   subst Rp;simp only[Nat.sub_self,List.getElem?_cons_zero,Option.some.injEq] at hj;subst hj;have hg:(if b+(c.length+1)≤b∨b+1+c.length<b+(c.length+1) then A else g (b+(c.length+1)))=g (b+(c.length+1)):=if_neg (by omega);have ht:g (b+(c.length+1))=fun s=>A s∨s=2*k:=by rw[←h.tl];congr 1;omega
   refine⟨fun v hv=>?_,by rw[hw.1];decide,fun _=>⟨k,hk,.inr ⟨hw.2,by rw[hg,ht];exact .inr rfl⟩⟩⟩;rw[G9 w _ hw.1] at hv;simp only[List.mem_cons,List.not_mem_nil,or_false] at hv;subst hv;refine⟨b+(c.length+1)+1,rfl,.inl ⟨by omega,by simp;omega,fun s hs=>?_⟩⟩;rw[if_pos (.inr (by omega))] at hs;rw[hg,ht];exact .inl (.inl hs)
theorem kX.jp {b e:Nat} {X:Nat→Prop} (A:Nat→Prop) (he:X e):kX X [eZ e] b A fun _=>A:=by
 refine kX.one (by simp[eZ,bh]) (by simp[eZ,bh]) fun v hv=>?_;simp only[jg,eZ,bh,if_true] at hv;rw[if_neg (by decide)] at hv;simp only[List.mem_cons,List.not_mem_nil,or_false] at hv;exact⟨e,hv,.inr he⟩
theorem kX.sp {b o:Nat} {lz:Bool} {X:Nat→Prop} (A:Nat→Prop) (he:X o):kX X [gJ b o lz] b A fun _=>A:=by
 have h2:(gJ b o lz).op=2:=by unfold gJ;split<;>rfl
 refine kX.one (by omega) (by omega) fun v hv=>?_;unfold jg at hv;rw[if_pos h2] at hv;unfold gJ at hv
 split at hv
 ·simp only[bh,List.mem_cons,List.not_mem_nil,or_false] at hv
  rcases hv with rfl|rfl
  ·exact⟨o,rfl,.inr he⟩
  ·exact⟨b+1,rfl,.inl rfl⟩
 ·simp only[bh,List.mem_cons,List.not_mem_nil,or_false] at hv
  rcases hv with rfl|rfl
  ·exact⟨b+1,rfl,.inl rfl⟩
  ·exact⟨o,rfl,.inr he⟩
def eB (X:Nat→Prop) (c:List aN) (b:Nat) (A:Nat→Prop):Prop:=∃g,kX X c b A g
theorem eB.append {X:Nat→Prop} {c d:List aN} {b e:Nat} {A:Nat→Prop} (h:eB X c b A) (he:e=b+c.length) (k:eB X d e A):eB X (c++d) b A:=by
 obtain⟨g,h⟩:=h;obtain⟨f,k⟩:=k;exact⟨_,h.append he k⟩
theorem uE {A:Nat→Prop} {c:Nat→List aN} {z:Nat} (hl:∀b,(c b).length=z) (hc:∀b,eB (fun _=>False) (c b) b A):∀k b,eB (fun _=>False) (ei c z k b) b A
 |0,b=>⟨_,.nil _ b A⟩
 |k+1,b=>(hc b).append (by rw[hl]) (uE hl hc k (b+z))
theorem uX {A:Nat→Prop} {c:Nat→List aN} {z e:Nat} {lz:Bool} (hl:∀b,(c b).length=z) (hc:∀b,eB (fun _=>False) (c b) b A):∀k b,b+k*(z+1)≤e→eB (fun n=>n=e) (dK (fun s=>gJ s e lz) c z k b) b A
 |0,b,_=>⟨_,.nil _ b A⟩
 |k+1,b,he=>by
  rw[Nat.add_mul] at he;obtain⟨g,hg⟩:=hc (b+1)
  have h1:eB (fun n=>n=e) (c (b+1)) (b+1) A:=⟨g,hg.oX (fun n h=>h.elim) fun n h=>.inr (.inr (by rw[hl];omega))⟩
  have h2:=h1.append (e:=b+1+z) (by rw[hl]) (uX (lz:=lz) hl hc k (b+1+z) (by omega));exact eB.append (c:=[_]) ⟨_,kX.sp A rfl⟩ (e:=b+1) rfl h2
theorem eB.oX {X Y:Nat→Prop} {c:List aN} {b:Nat} {A:Nat→Prop} (h:eB X c b A) (h1:∀n,X n→Y n) (h2:∀n,Y n→X n∨n≤b∨b+c.length≤n):eB Y c b A:=by
 obtain⟨g,h⟩:=h;exact⟨g,h.oX h1 h2⟩
theorem eB.close {X Y:Nat→Prop} {c:List aN} {b:Nat} {A:Nat→Prop} (h:eB X c b A) (h1:∀n,Y n→X n) (h2:∀n,X n→Y n∨(b≤n∧n≤b+c.length)):eB Y c b A:=by
 obtain⟨g,h⟩:=h;exact⟨g,h.close h1 h2⟩
theorem Bp {A:Nat→Prop} {n:Nod} {c:Nat→List aN} {z:Nat} (hl:∀b,(c b).length=z) (hc:∀b,eB (fun _=>False) (c b) b A) (b:Nat):eB (fun _=>False) (n_ n c z b) b A:=by
 have hr:=uE hl hc n.mn.toNat b;have vz:(ei c z n.mn.toNat b).length=n.mn.toNat*z:=iv hl _ _;unfold n_
 split
 ·refine hr.append (e:=b+n.mn.toNat*z) (by rw[vz]) ?_;generalize b+n.mn.toNat*z=s;have h1:eB (fun n=>n=s∨n=s+z+2) (c (s+1)) (s+1) A:=(hc (s+1)).oX (fun n h=>h.elim) fun n h=>by rw[hl];omega
  have h2:eB (fun n=>n=s∨n=s+z+2) [eZ s] (s+1+z) A:=⟨_,kX.jp A (.inl rfl)⟩
  have h3:=eB.append (c:=[gJ s (s+z+2) n.lz]) (b:=s) ⟨_,kX.sp A (.inr rfl)⟩ (e:=s+1) rfl (h1.append (by rw[hl]) h2);refine eB.close h3 (fun n h=>h.elim) fun n h=>.inr ?_;simp only[List.length_append,List.length_cons,List.length_nil,hl];omega
 ·refine hr.append (e:=b+n.mn.toNat*z) (by rw[vz]) ?_;generalize b+n.mn.toNat*z=s;have h1:=uX (lz:=n.lz) (e:=s+(n.mx.toNat-n.mn.toNat)*(z+1)) hl hc (n.mx.toNat-n.mn.toNat) s (Nat.le_refl _);refine eB.close h1 (fun n h=>h.elim) fun n h=>.inr ?_;rw[gv hl];omega
mutual
theorem nD:∀(t:Tr) (b:Nat) (A:Nat→Prop),t.ok→eB (fun _=>False) (av t b) b A
 | .mk n ks,b,A,h=>by
  have hlen:=bw (.mk n ks) b h;simp only[Tr.ok] at h;obtain⟨h1,h2⟩:=h;have hcl:=fun b=>mz ks b h2
  have G9:∀(op x y:Int) (rs:List Rg) (m:Nat),op≠2→op≠3→op≠7→∀v∈jg m (bh op x y rs),∃n:Nat,v=(n:Int)∧(n=m+1∨False):=by
   intro op x y rs m a1 a2 a3 v hv;unfold jg at hv;rw[if_neg (show¬(bh op x y rs).op=2 from a1),if_neg (show¬(bh op x y rs).op=3 from a2),if_neg (show¬(bh op x y rs).op=7 from a3)] at hv;simp only[List.mem_cons,List.not_mem_nil,or_false] at hv;exact⟨m+1,hv,.inl rfl⟩
  simp only[av]
  split
  ·exact⟨_,kX.one (by simp[bh]) (by simp[bh]) (G9 1 0 0 _ b (by decide) (by decide) (by decide))⟩
  ·split
   ·exact⟨_,kX.one (by simp[bh]) (by simp[bh]) (G9 5 0 0 _ b (by decide) (by decide) (by decide))⟩
   ·split
    ·exact⟨_,kX.one (by simp[bh]) (by simp[bh]) (G9 6 0 0 _ b (by decide) (by decide) (by decide))⟩
    ·split
     ·exact mA ks b A h2
     ·split
      ·rename_i h4;have hz:bk n ks.sz ks.len=ks.sz+2*(ks.len-1):=by unfold bk;rw[if_neg (by omega),if_pos h4]
       have ha:=kf (eZ (b+bk n ks.sz ks.len)) ks b h2;refine eB.close (X:=fun m=>m=b+bk n ks.sz ks.len) ?_ (fun n h=>h.elim) fun m hm=>.inr ?_
       ·exact wj _ ks b A h2 (by rw[ha,hz];omega)
       ·rw[ha];rw[hz] at hm;omega
      ·split
       ·exact Bp hcl (fun b=>mA ks b A h2) b
       ·split
        ·rename_i h6;obtain⟨g,hg⟩:=mA ks (b+1) (fun s=>A s∨s=2*n.cap.toNat) h2
         have iC:1≤n.cap:=by
          rcases h1.2 with h|h|h|h|h<;>omega
         exact⟨_,kX.group (k:=n.cap.toNat) (by omega) ⟨rfl,by show 2*n.cap=_;omega⟩ ⟨rfl,by show 2*n.cap+1=_;omega⟩ hg⟩
        ·exact⟨_,.nil _ b A⟩
theorem mA:∀(ts:aJ) (b:Nat) (A:Nat→Prop),ts.ok→eB (fun _=>False) (eT ts b) b A
 | .nil,b,A,_=>by simp only[eT];exact⟨_,.nil _ b A⟩
 | .cons t ts,b,A,h=>by
  simp only[aJ.ok] at h;simp only[eT];exact(nD t b A h.1).append (by rw[bw t b h.1]) (mA ts (b+t.sz) A h.2)
theorem wj (e:Nat):∀(ts:aJ) (b:Nat) (A:Nat→Prop),ts.ok→b+(cA (eZ e) ts b).length≤e→eB (fun n=>n=e) (cA (eZ e) ts b) b A
 | .nil,b,A,_,_=>by simp only[cA];exact⟨_,.nil _ b A⟩
 | .cons t ts,b,A,h,he=>by
  simp only[aJ.ok] at h;simp only[cA] at he⊢
  split
  ·rename_i h0;rw[if_pos h0] at he;exact(nD t b A h.1).oX (fun n h=>h.elim) fun n hn=>.inr (.inr (by omega))
  ·rename_i h0;rw[if_neg h0] at he;simp only[List.length_cons,List.length_append,bw t (b+1) h.1] at he;have h1:eB (fun n=>n=e∨n=b+1+t.sz+1) (av t (b+1)) (b+1) A:=(nD t (b+1) A h.1).oX (fun n h=>h.elim) fun n hn=>.inr (.inr (by rw[bw t (b+1) h.1];omega));have h2:eB (fun n=>n=e∨n=b+1+t.sz+1) (cA (eZ e) ts (b+t.sz+2)) (b+t.sz+2) A:=(wj e ts (b+t.sz+2) A h.2 (by omega)).oX (fun n h=>.inl h) fun n hn=>by omega
   have h3:eB (fun n=>n=e∨n=b+1+t.sz+1) (eZ e::cA (eZ e) ts (b+t.sz+2)) (b+1+t.sz) A:=eB.append (c:=[eZ e]) ⟨_,kX.jp A (.inl rfl)⟩ (e:=b+t.sz+2) (by simp only[List.length_cons,List.length_nil];omega) h2;have h4:=eB.append (c:=[gJ b (b+1+t.sz+1) false]) (b:=b) ⟨_,kX.sp A (.inr rfl)⟩ (e:=b+1) rfl (h1.append (by rw[bw t (b+1) h.1]) h3);refine eB.close h4 (fun n h=>.inl h) fun n hn=>?_
   rcases hn with hn|hn
   ·exact .inl hn
   ·refine .inr ?_;simp only[List.length_append,List.length_cons,List.length_nil,bw t (b+1) h.1];omega
end
def aJ.l:aJ→List Tr
 | .nil=>[]
 | .cons t ts=>t::ts.l
def aR:List Tr→aJ
 |[]=>.nil
 |t::l=>.cons t (aR l)
theorem wG:∀ks:aJ,aR ks.l=ks
 | .nil=>rfl
 | .cons t ts=>by simp only[aJ.l,aR,wG ts]
theorem ue:∀l:List Tr,(aR l).l=l
 |[]=>rfl
 |t::l=>by simp only[aJ.l,aR,ue l]
theorem lR:∀ks:aJ,ks.l.length=ks.len
 | .nil=>rfl
 | .cons t ts=>by simp only[aJ.l,aJ.len,List.length_cons,lR ts]
def Tr.n:Tr→Nod
 | .mk n _=>n
def Tr.ks:Tr→List Tr
 | .mk _ ks=>ks.l
mutual
def Tr.c:Tr→List D
 | .mk n ks=>[.int .i64 n.op,n.rd,.int .i64 n.mn,.int .i64 n.mx,.bool n.lz,.int .i64 n.cap,.int .i64 n.kids,.sl ks.ds]
def aJ.ds:aJ→List D
 | .nil=>[]
 | .cons t ts=>.agg t.c::ts.ds
end
theorem A8:∀ks:aJ,ks.ds=(ks.l.map Tr.c).map (ic 8)
 | .nil=>by simp[aJ.ds,aJ.l]
 | .cons t ts=>by simp only[aJ.ds,aJ.l,List.map_cons,A8 ts];rfl
def og (l:List Tr):D:=.sl ((l.map Tr.c).map (ic 8))
def jn (n:Nod) (x:D):List D:=[.int .i64 n.op,n.rd,.int .i64 n.mn,.int .i64 n.mx,.bool n.lz,.int .i64 n.cap,.int .i64 n.kids,x]
theorem Tr.NS (t:Tr):t.c=jn t.n (og t.ks):=by
 cases t with
 |mk n ks=>simp only[Tr.c,jn,Tr.n,Tr.ks,og,A8]
mutual
def Tr.fa (P:Nod→Prop):Tr→Prop
 | .mk n ks=>P n∧ks.fa P
def aJ.fa (P:Nod→Prop):aJ→Prop
 | .nil=>True
 | .cons t ts=>t.fa P∧ts.fa P
end
theorem wH {P:Nod→Prop}:∀{ks:aJ},ks.fa P↔∀t∈ks.l,t.fa P
 | .nil=>by simp[aJ.fa,aJ.l]
 | .cons t ts=>by simp only[aJ.fa,aJ.l,List.mem_cons,forall_eq_or_imp,wH (ks:=ts)]
theorem Tr.pV {P:Nod→Prop} {t:Tr}:t.fa P↔P t.n∧∀k∈t.ks,k.fa P:=by
 cases t with
 |mk n ks=>simp only[Tr.fa,Tr.n,Tr.ks,wH]
theorem yD {P:Nod→Prop} {n:Nod} {l:List Tr}:(Tr.mk n (aR l)).fa P↔P n∧∀k∈l,k.fa P:=by
 rw[Tr.pV];simp only[Tr.n,Tr.ks,ue]
mutual
theorem Tr.gk {P:Nod→Prop}:∀(t:Tr),t.fa P↔∀n∈t.flat,P n
 | .mk n ks=>by simp only[Tr.fa,Tr.flat,List.mem_cons,forall_eq_or_imp,aJ.gk ks]
theorem aJ.gk {P:Nod→Prop}:∀(ts:aJ),ts.fa P↔∀n∈ts.flat,P n
 | .nil=>by simp[aJ.fa,aJ.flat]
 | .cons t ts=>by simp only[aJ.fa,aJ.flat,List.mem_append,or_imp,forall_and,Tr.gk t,aJ.gk ts]
end
mutual
def Tr.fw:Tr→Nat
 | .mk n ks=>ks.fw+1
def aJ.fw:aJ→Nat
 | .nil=>0
 | .cons t ts=>t.fw+ts.fw
end
def cv (l:List Tr):Nat:=(l.map Tr.fw).sum
theorem sF:∀ks:aJ,ks.fw=cv ks.l
 | .nil=>rfl
 | .cons t ts=>by simp only[aJ.fw,aJ.l,cv,List.map_cons,List.sum_cons,sF ts]
theorem Tr.gE (t:Tr):t.fw=cv t.ks+1:=by
 cases t with
 |mk n ks=>simp only[Tr.fw,Tr.ks,sF]
theorem mY (n:Nod) (l:List Tr):(Tr.mk n (aR l)).fw=cv l+1:=by
 rw[Tr.gE];simp only[Tr.ks,ue]
mutual
theorem Tr.ka:∀t:Tr,t.flat.length=t.fw
 | .mk n ks=>by simp only[Tr.flat,Tr.fw,List.length_cons,aJ.ka ks]
theorem aJ.ka:∀ts:aJ,ts.flat.length=ts.fw
 | .nil=>rfl
 | .cons t ts=>by simp only[aJ.flat,aJ.fw,List.length_append,Tr.ka t,aJ.ka ts]
end
theorem mq (a b:List Tr):cv (a++b)=cv a+cv b:=by unfold cv;rw[List.map_append,List.sum_append]
theorem bL (t:Tr) (b:List Tr):cv (t::b)=t.fw+cv b:=by unfold cv;rw[List.map_cons,List.sum_cons]
theorem kc:∀l:List Tr,l.length≤cv l
 |[]=>Nat.le_refl _
 |t::l=>by have:=kc l;have:=Tr.gE t;rw[bL,List.length_cons];omega
theorem kb {l:List Tr} {t:Tr} (h:t∈l):t.fw≤cv l:=by
 induction l with
 |nil=>cases h
 |cons x l ih=>
  rw[bL]
  rcases List.mem_cons.1 h with rfl|h
  ·omega
  ·have:=ih h;omega
mutual
def Tr.same:Tr→Tr→Bool
 | .mk n ks,.mk m js=>n.op==m.op &&n.mn==m.mn &&n.mx==m.mx &&n.lz==m.lz &&n.cap==m.cap &&n.rs==m.rs &&ks.same js
def aJ.same:aJ→aJ→Bool
 | .nil,.nil=>true
 | .cons t ts,.cons u us=>t.same u &&ts.same us
 | .nil,.cons _ _=>false
 | .cons _ _,.nil=>false
end
mutual
def Tr.Gw:Tr→Bool
 | .mk n ks=>n.op==6||ks.Gw
def aJ.Gw:aJ→Bool
 | .nil=>false
 | .cons t ts=>t.Gw||ts.Gw
end
def Ko (op:Int):Nod:=⟨op,aA [],[],0,0,false,0,0⟩
def Fb (op:Int) (l:List Tr):Tr:=.mk (Ko op) (aR l)
def e9 (op:Int) (l:List Tr):List Tr:=l.flatMap fun t=>if t.n.op=op then t.ks else[t]
def mK (op:Int) (l:List Tr):Tr:=match l with
 |[]=>Fb 1 []
 |[t]=>t
 |l=>Fb op l
def pq (l:List Tr):List Tr:=l.foldl (fun out k=>if out.any (fun x=>x.same k)=true then out else out++[k]) []
noncomputable def AK (a b:List Rg):Tr:=.mk ⟨2,aA (bp (a++b)),bp (a++b),0,0,false,0,0⟩ .nil
noncomputable def pH (out:List Tr) (k:Tr):List Tr:=match out.getLast? with
 |some t=>if k.n.op=2∧t.n.op=2 then out.set (out.length-1) (AK t.n.rs k.n.rs) else out++[k]
 |none=>out++[k]
noncomputable def kH (l:List Tr):List Tr:=l.foldl pH []
noncomputable def sy:Nat→List Tr→List Tr
 |0,l=>l
 |f+1,l=>if(kH (pq l)).length=l.length then l else sy f (kH (pq l))
def EF (n:Nod):Bool:=n.op==5 &&!n.lz &&n.mx==-1 &&decide (n.mn≤1)
def HU (l:List Tr):Bool:=match l with
 |[]=>false
 |t::_=>t.n.op==2
def Bn (n:Nod) (k:Tr) (l:List Tr):Tr:=
 if k.n.op=1 then k
 else if n.mn=1∧n.mx=1 then k
 else if n.mx=0∧k.Gw=false then Fb 1 []
 else if(EF {n with lz:=n.lz &&n.mn !=n.mx} &&(EF k.n &&HU k.ks))=true then .mk {k.n with mn:=k.n.mn*n.mn} (aR k.ks)
 else .mk {n with lz:=n.lz &&n.mn !=n.mx} (aR l)
noncomputable def yM (n:Nod) (l:List Tr):Tr:=
 if n.op=3 then mK 3 ((e9 3 l).filter fun t=>t.n.op !=1)
 else if n.op=4 then mK 4 (sy (e9 4 l).length (e9 4 l))
 else if n.op=5 then(match l with|k::_=>Bn n k l|[]=>.mk n .nil)
 else .mk n (aR l)
mutual
noncomputable def Tr.less:Tr→Tr
 | .mk n ks=>yM n ks.less
noncomputable def aJ.less:aJ→List Tr
 | .nil=>[]
 | .cons t ts=>t.less::ts.less
end
mutual
def Tr.AB:Tr→List Nod
 | .mk n ks=>{n with kids:=(ks.len:Nat)}::ks.AB
def aJ.AB:aJ→List Nod
 | .nil=>[]
 | .cons t ts=>t.AB++ts.AB
end
mutual
theorem Tr.oQ:∀t:Tr,t.AB.length=t.fw
 | .mk n ks=>by simp only[Tr.AB,Tr.fw,List.length_cons,aJ.oQ ks]
theorem aJ.oQ:∀ts:aJ,ts.AB.length=ts.fw
 | .nil=>rfl
 | .cons t ts=>by simp only[aJ.AB,aJ.fw,List.length_append,Tr.oQ t,aJ.oQ ts]
end
theorem sr:∀{l:List Rg} {b:Int},canon l→(∀x∈l,b≤x.1∧x.2≤1114111)→2*(l.length:Int)≤max 0 (1114113-b)
 |[],b,_,_=>by simp;omega
 |x::l,b,hc,hb=>by
  obtain⟨h1,h2,h3⟩:=gF hc;have hx:=hb x (List.mem_cons_self ..)
  have ih:=sr (b:=x.2+2) h1 fun y hy=>by
   have wz:=hb y (List.mem_cons_of_mem _ hy);have hle:=h1.1 y hy;have:=h3 y.1 ⟨y,hy,Int.le_refl _,hle⟩;omega
  rw[List.length_cons];omega
theorem xh {l a:List Rg} (h:di l a):a.length≤557057:=by
 have hb:∀x∈a,0≤x.1∧x.2≤1114111:=fun x hx=>by
  have hle:=h.1.1 x hx;have g1:=((h.2 x.1).1 ⟨x,hx,Int.le_refl _,hle⟩).1;have g2:=((h.2 x.2).1 ⟨x,hx,hle,Int.le_refl _⟩).1;unfold bT at g1 g2;omega
 have:=sr (b:=0) h.1 hb;omega
def ox (n:Nod):Prop:=n.rd=aA n.rs∧n.rs.length≤1048576
def ub (l:List Tr):Prop:=∀t∈l,t.fa ox
theorem oZ {op:Int} {l:List Tr} (h:ub l):ub (e9 op l):=by
 intro t ht;obtain⟨u,hu,ht⟩:=List.mem_flatMap.1 ht
 split at ht
 ·exact(Tr.pV.1 (h u hu)).2 t ht
 ·simp only[List.mem_cons,List.not_mem_nil,or_false] at ht;rw[ht];exact h u hu
theorem lh (op:Int):∀l:List Tr,cv (e9 op l)≤cv l
 |[]=>Nat.le_refl _
 |t::l=>by
  have:=lh op l;unfold e9 at this⊢;rw[List.flatMap_cons,mq,bL];have h2:=Tr.gE t
  split
  ·omega
  ·simp only[bL];unfold cv at this⊢;simp only[List.map_nil,List.sum_nil];omega
theorem pU (p:Tr→Bool):∀l:List Tr,cv (l.filter p)≤cv l
 |[]=>Nat.le_refl _
 |t::l=>by
  have:=pU p l;rw[List.filter_cons,bL]
  split
  ·rw[bL];omega
  ·omega
theorem HM (op:Int):ox (Ko op):=⟨rfl,by simp[Ko]⟩
theorem wJ {op:Int} {l:List Tr} (h:ub l):(Fb op l).fa ox:=yD.2 ⟨HM op,h⟩
theorem rm {op:Int} {l:List Tr} (h:ub l):(mK op l).fa ox:=by
 unfold mK
 split
 ·exact wJ (by intro t ht;cases ht)
 ·exact h _ (List.mem_cons_self ..)
 ·exact wJ h
theorem rn (op:Int) (l:List Tr):(mK op l).fw≤cv l+1:=by
 unfold mK
 split
 ·unfold Fb;rw[mY];omega
 ·rw[bL];omega
 ·unfold Fb;rw[mY];omega
theorem vN {α β:Type} {f:β→α→β} {P:β→Prop} {l:List α} (h:∀b a,a∈l→P b→P (f b a)):∀b,P b→P (l.foldl f b):=by
 induction l with
 |nil=>exact fun b hb=>hb
 |cons a l ih=>exact fun b hb=>ih (fun b a ha=>h b a (List.mem_cons_of_mem _ ha)) _ (h b a (List.mem_cons_self ..) hb)
theorem BO {l:List Tr} (h:ub l):ub (pq l):=by
 unfold pq;refine vN (P:=ub) (fun b a ha hb=>?_) _ (by intro t ht;cases ht)
 split
 ·exact hb
 ·intro t ht
  rcases List.mem_append.1 ht with ht|ht
  ·exact hb t ht
  ·simp only[List.mem_cons,List.not_mem_nil,or_false] at ht;rw[ht];exact h a ha
theorem z7 (l:List Tr):∀b,cv (l.foldl (fun out k=>if out.any (fun x=>x.same k)=true then out else out++[k]) b)≤cv b+cv l:=by
 induction l with
 |nil=>intro b;unfold cv;simp
 |cons a l ih=>
  intro b;rw[List.foldl_cons,bL]
  split
  ·have:=ih b;omega
  ·have:=ih (b++[a]);rw[mq,bL] at this;unfold cv at this⊢;simp only[List.map_nil,List.sum_nil] at this;omega
theorem BP (l:List Tr):cv (pq l)≤cv l:=by
 have:=z7 l [];unfold pq;unfold cv at this⊢;simp only[List.map_nil,List.sum_nil] at this;omega
theorem Ju (a b:List Rg):(bp (a++b)).length≤557057:=by
 unfold bp
 split
 ·rename_i h;exact xh (Classical.choose_spec h)
 ·simp
theorem GF (a b:List Rg):(AK a b).fa ox:=by
 unfold AK;simp only[Tr.fa,aJ.fa,and_true];exact⟨rfl,by have:=Ju a b;show(bp (a++b)).length≤_;omega⟩
theorem CU {l:List Tr} {i:Nat} {t u:Tr} (h:l[i]?=some t):cv (l.set i u)+t.fw=cv l+u.fw:=by
 induction l generalizing i with
 |nil=>simp at h
 |cons x l ih=>
  cases i with
  |zero=>simp only[List.getElem?_cons_zero,Option.some.injEq] at h;subst h;rw[List.set_cons_zero,bL,bL];omega
  |succ i=>rw[List.set_cons_succ,bL,bL];have:=ih (i:=i) (by simpa using h);omega
theorem zu {l:List Tr} {t:Tr} (h:l.getLast?=some t):l[l.length-1]?=some t:=by rw[←h,List.getLast?_eq_getElem?]
theorem B8 (b:List Tr) (a:Tr):cv (pH b a)≤cv b+a.fw:=by
 unfold pH
 split
 ·rename_i t ht
  split
  ·have:=CU (u:=AK t.n.rs a.n.rs) (zu ht);have h1:(AK t.n.rs a.n.rs).fw=1:=by unfold AK;simp[Tr.fw,aJ.fw]
   have h2:=Tr.gE t;omega
  ·rw[mq,bL];unfold cv;simp
 ·rw[mq,bL];unfold cv;simp
theorem vu (l:List Tr):∀b,cv (l.foldl pH b)≤cv b+cv l:=by
 induction l with
 |nil=>intro b;unfold cv;simp
 |cons a l ih=>intro b;rw[List.foldl_cons,bL];have:=ih (pH b a);have:=B8 b a;omega
theorem xl (l:List Tr):cv (kH l)≤cv l:=by
 have:=vu l [];unfold kH;unfold cv at this⊢;simp only[List.map_nil,List.sum_nil] at this;omega
theorem B7 {b:List Tr} {a:Tr} (hb:ub b) (ha:a.fa ox):ub (pH b a):=by
 have ra:ub (b++[a]):=by
  intro t ht
  rcases List.mem_append.1 ht with ht|ht
  ·exact hb t ht
  ·simp only[List.mem_cons,List.not_mem_nil,or_false] at ht;rw[ht];exact ha
 unfold pH
 split
 ·split
  ·intro t ht
   rcases List.mem_or_eq_of_mem_set ht with ht|rfl
   ·exact hb t ht
   ·exact GF _ _
  ·exact ra
 ·exact ra
theorem xk {l:List Tr} (h:ub l):ub (kH l):=by
 unfold kH;exact vN (P:=ub) (fun b a ha hb=>B7 hb (h a ha)) _ (by intro t ht;cases ht)
theorem sx:∀(f:Nat) {l:List Tr},ub l→ub (sy f l)∧cv (sy f l)≤cv l
 |0,l,h=>⟨h,Nat.le_refl _⟩
 |f+1,l,h=>by
  unfold sy
  split
  ·exact⟨h,Nat.le_refl _⟩
  ·obtain⟨h1,h2⟩:=sx f (xk (BO h));have:=xl (pq l);have:=BP l;exact⟨h1,by omega⟩
theorem DE {n:Nod} {k:Tr} {l:List Tr} (hn:ox n) (h:ub l) (hk:k∈l):(Bn n k l).fa ox:=by
 have hkk:=h k hk;unfold Bn
 split
 ·exact hkk
 split
 ·exact hkk
 split
 ·exact wJ (by intro t ht;cases ht)
 split
 ·exact yD.2 ⟨(Tr.pV.1 hkk).1,(Tr.pV.1 hkk).2⟩
 ·exact yD.2 ⟨hn,h⟩
theorem DF {n:Nod} {k:Tr} {l:List Tr} (hk:k∈l):(Bn n k l).fw≤cv l+1:=by
 have:=kb hk;unfold Bn
 split
 ·omega
 split
 ·omega
 split
 ·unfold Fb;rw[mY];unfold cv;simp
 split
 ·rw[mY];have:=Tr.gE k;omega
 ·rw[mY];omega
theorem Ad {n:Nod} {l:List Tr} (hn:ox n) (h:ub l):(yM n l).fa ox∧(yM n l).fw≤cv l+1:=by
 unfold yM
 split
 ·have h1:=pU (fun t=>t.n.op !=1) (e9 3 l);have h2:=lh 3 l;have h3:=rn 3 ((e9 3 l).filter fun t=>t.n.op !=1);exact⟨rm fun t ht=>oZ h t (List.mem_filter.1 ht).1,by omega⟩
 split
 ·obtain⟨h1,h2⟩:=sx (e9 4 l).length (oZ (op:=4) h);have h3:=lh 4 l;have h4:=rn 4 (sy (e9 4 l).length (e9 4 l));exact⟨rm h1,by omega⟩
 split
 ·cases l with
  |nil=>exact⟨by simp only[Tr.fa,aJ.fa,and_true];exact hn,by simp[Tr.fw,aJ.fw,cv]⟩
  |cons k l=>exact⟨DE hn h (List.mem_cons_self ..),DF (List.mem_cons_self ..)⟩
 ·exact⟨yD.2 ⟨hn,h⟩,by rw[mY];omega⟩
mutual
theorem Tr.l9:∀(t:Tr),t.fa ox→t.less.fa ox∧t.less.fw≤t.fw
 | .mk n ks,h=>by
  simp only[Tr.fa] at h;obtain⟨h1,h2⟩:=aJ.l9 ks h.2;obtain⟨h3,h4⟩:=Ad h.1 h1;simp only[Tr.less,Tr.fw];exact⟨h3,by omega⟩
theorem aJ.l9:∀(ts:aJ),ts.fa ox→ub ts.less∧cv ts.less≤ts.fw
 | .nil,_=>⟨by intro t ht;simp[aJ.less] at ht,by simp[aJ.less,cv]⟩
 | .cons t ts,h=>by
  simp only[aJ.fa] at h;obtain⟨h1,h2⟩:=Tr.l9 t h.1;obtain⟨h3,h4⟩:=aJ.l9 ts h.2;simp only[aJ.less,aJ.fw];refine⟨fun u hu=>?_,by rw[bL];omega⟩
  rcases List.mem_cons.1 hu with rfl|hu
  ·exact h1
  ·exact h3 u hu
end
mutual
theorem Tr.zb:∀(t:Tr),t.fa ox→t.fw≤1048576→∀n∈t.AB,NdV n
 | .mk n ks,h,hc=>by
  simp only[Tr.fa] at h;simp only[Tr.fw] at hc;have ih:=aJ.zb ks h.2 (by omega);simp only[Tr.AB,List.mem_cons];rintro m (rfl|hm)
  ·have h1:=lR ks;have h2:=kc ks.l;rw[←sF] at h2;exact⟨h.1.1,h.1.2,by show((ks.len:Nat):Int)≤_;omega⟩
  ·exact ih m hm
theorem aJ.zb:∀(ts:aJ),ts.fa ox→ts.fw≤1048576→∀n∈ts.AB,NdV n
 | .nil,_,_=>by simp[aJ.AB]
 | .cons t ts,h,hc=>by
  simp only[aJ.fa] at h;simp only[aJ.fw] at hc;have h1:=Tr.zb t h.1 (by omega);have h2:=aJ.zb ts h.2 (by omega);simp only[aJ.AB,List.mem_append];rintro m (hm|hm)
  ·exact h1 m hm
  ·exact h2 m hm
end
def tC (t:Tr):List D:=jn t.n (og t.ks)
theorem Hu:Tr.c=tC:=by funext t;exact Tr.NS t
theorem xj (l:List Tr):og l=.sl ((l.map tC).map (ic 8)):=by unfold og;rw[Hu]
theorem A' {l:List Tr} {i:Nat} {q:Tr} (h:l[i]?=some q):(l.map tC)[i]?=some (tC q):=by rw[List.getElem?_map,h];rfl
theorem EC (l:List Tr):∀e∈l.map tC,e.length=8:=by
 intro e he;obtain⟨r,_,rfl⟩:=List.mem_map.1 he;rfl
theorem sI {l:List Tr} (h:∀t∈l,t.fa ox):∀e∈l.map tC,∀d∈e,bS d=true:=by
 intro e he d hd;obtain⟨r,hr,rfl⟩:=List.mem_map.1 he;have h1:=(Tr.pV.1 (h r hr)).1.1;simp only[tC,jn,og,List.mem_cons,List.not_mem_nil,or_false] at hd
 rcases hd with rfl|rfl|rfl|rfl|rfl|rfl|rfl|rfl<;>try rfl
 rw[h1];rfl
theorem B6 (st:St) {l:List Tr} (h:∀t∈l,t.fa ox):V.Rows st 8 (og l) (l.map tC):=by
 rw[xj];exact Rows.l4 (EC l) (sI h)
end Go.Proofs.YtajblankjjmonaaGreat
namespace Go.V
variable{N:Nat} {S st:St} {H:List bG}
theorem Has.Fj (A B:List bG) (h:Has N S st (A++(B++H))):Has N S st (B++(A++H)):=by
 refine h.sub (fun i=>if i<B.length then i+A.length else if i<B.length+A.length then i-B.length else i) (fun a b e=>?_) fun i e hi=>?_
 ·have e':(if a<B.length then a+A.length else if a<B.length+A.length then a-B.length else a)=(if b<B.length then b+A.length else if b<B.length+A.length then b-B.length else b):=e
  repeat' split at e'
  all_goals omega
 ·show(A++(B++H))[if i<B.length then i+A.length else if i<B.length+A.length then i-B.length else i]?=some e
  by_cases h1:i<B.length
  ·rw[if_pos h1,List.getElem?_append_right (by omega),Nat.add_sub_cancel,List.getElem?_append_left h1]
   rwa [List.getElem?_append_left h1] at hi
  ·rw[List.getElem?_append_right (by omega)] at hi
   by_cases h2:i<B.length+A.length
   ·rw[if_neg h1,if_pos h2,List.getElem?_append_left (by omega)]
    rwa [List.getElem?_append_left (by omega)] at hi
   ·rw[if_neg h1,if_neg h2,List.getElem?_append_right (by omega),List.getElem?_append_right (by omega)];rw[List.getElem?_append_right (by omega)] at hi;rw[←hi];congr 1;omega
theorem Has.eu {j:Nat} {e:bG} (h:Has N S st (e::H)) (hj:j<H.length):Has N S st (H.set j e):=
 Has.back (h.erase (j+1)) hj
theorem Has.clear {P:Pv} {j:Nat} {x:D} {s:Nat} {es:List (List D)} {t e:TypeId} {z:List D} (h:Has N S st H) (hj:H[j]?=some (.lst x s es)) (ht:P.b9 t=some (.slice e)) (hz:cT P e=some z) (k_:z.length=s) (hr:refs z=0):
  ∃ae,ke P [t] x st=some (.tup [],ae)∧Has N S ae (H.set j (.lst x s (List.replicate es.length z))):=by
 have Ap:=(h.ok j _ hj).2;have hown:=h.own hj
 have jB:j<H.length:=by
  rcases Nat.lt_or_ge j H.length with h'|h'
  ·exact h'
  ·rw[List.getElem?_eq_none h'] at hj;cases hj
 cases hown with
 |nul=>
  refine⟨st,by simp only[ke,ht],?_⟩
  have:H.set j (.lst .nul s (List.replicate ([]:List (List D)).length z))=H:=by
   refine List.ext_getElem? fun i=>?_
   by_cases hi:i=j
   ·subst hi;rw[List.getElem?_set_self jB,hj];rfl
   ·rw[List.getElem?_set_ne (fun e=>hi e.symm)]
  rw[this];exact h
 |win k aq off es c hm hle hc he=>
  have hk:=Ap k (by simp only[bG.lst,D.ref])
  have Dn:∀n,refs (Go.V.eu n z)=0:=by
   intro n;unfold Go.V.eu
   induction n with
   |zero=>rfl
   |succ n ih=>
    rw[List.replicate_succ,List.flatten_cons]
    have ra:∀(a b:List D),refs a=0→refs b=0→refs (a++b)=0:=by
     intro a
     induction a with
     |nil=>intro b _ hb;exact hb
     |cons d a Dm=>
      intro b ha hb;simp only[refs,List.cons_append] at ha⊢;have:=Dm b (by omega) hb;omega
    exact ra _ _ hr ih
  have AZ:(Go.V.eu es.length z).length=es.length*s:=by
   unfold Go.V.eu;rw[c8 (s:=s) (fun e he=>by rw[(List.mem_replicate.1 he).2];exact k_),List.length_replicate]
  have hw:st.wr k aq off (Go.V.eu es.length z)=some ⟨st.bs.set k (.mem aq true (c.take off++Go.V.eu es.length z++c.drop (off+(Go.V.eu es.length z).length))),st.flr,st.ro⟩:=lf hm (by omega) (iE h hk.1 (.inr (Dn _)));refine⟨_,by simp only[ke,ht,hz,Option.bind_some];rw[if_pos k_,hw];rfl,?_⟩;refine h.Dx hj (fun n hn hne=>?_) (by simp) rfl rfl ?_ (fun n hn=>.inl hn) fun n hn=>?_
  ·simp only;rw[List.getElem?_set_ne (fun e=>hne (by simp only[bG.lst,D.ref];omega))]
  ·have Cp:∀e'∈List.replicate es.length z,e'.length=s:=fun e' rT=>by rw[(List.mem_replicate.1 rT).2];exact k_
   have:=gq.win (st:=⟨st.bs.set k (.mem aq true (c.take off++Go.V.eu es.length z++c.drop (off+(Go.V.eu es.length z).length))),st.flr,st.ro⟩) (s:=s) k aq off (List.replicate es.length z) (c.take off++Go.V.eu es.length z++c.drop (off+(Go.V.eu es.length z).length))
    (by simp only;rw[List.getElem?_set_self hk.2]) (by rw[List.length_replicate];simp;omega) ?_ Cp
   ·rw[List.length_replicate] at this;exact this
   ·rw[List.length_replicate,List.append_assoc,List.drop_append_of_le_length (by simp;omega),List.drop_take,Nat.sub_self,List.take_zero,List.nil_append,←AZ,List.take_left']
    ·rfl
    ·rfl
  ·simp only[bG.lst,D.ref] at hn;have:n=k:=by omega
   subst this
   simpa using hk.2
variable{P:Pv} {ops:Array Oper} {rest:List Oper} {fr aw:Fr} {Q:Fr→St→Prop} {ty:TypeId} {pp:String} {a:Array Edge} {g:Option (Nat×Bool)} {dst:Nat}
end Go.V
namespace Go.Proofs.YtajblankjjmonaaGreat
open Go.V Go
theorem J5 {P:Nod→Prop} (l:List Tr):(∀n∈(aR l).flat,P n)↔∀t∈l,t.fa P:=by rw[←aJ.gk,wH,ue]
theorem qN {l:List Tr} {i:Nat} {t:Tr} (h:l[i]?=some t):(aR (l.drop i)).flat=t.flat++(aR (l.drop (i+1))).flat:=by
 obtain⟨h3,h4⟩:=List.getElem?_eq_some_iff.1 h;rw[List.drop_eq_getElem_cons h3,h4];rfl
theorem Tr.Ej (t:Tr):t.flat=t.n::(aR t.ks).flat:=by
 cases t;simp only[Tr.flat,Tr.n,Tr.ks,wG]
theorem Tr.BR {t:Tr}:t.ok↔jO t.n t.ks.length∧∀k∈t.ks,k.ok:=by
 cases t with
 |mk n ks=>
  have:∀ks:aJ,ks.ok↔∀k∈ks.l,k.ok:=by
   intro ks
   induction ks using aJ.rec (motive_1:=fun _=>True) with
   |mk n ks _=>trivial
   |nil=>simp[aJ.ok,aJ.l]
   |cons t ts _ ih=>simp only[aJ.ok,aJ.l,List.mem_cons,forall_eq_or_imp,ih]
  simp only[Tr.ok,Tr.n,Tr.ks,lR,this]
def tz:List D:=[.int .i64 0,.nul,.int .i64 0,.int .i64 0,.bool false,.int .i64 0,.int .i64 0,.nul]
end Go.Proofs.YtajblankjjmonaaGreat
namespace Go.Proofs.YtajblankjjmonaaGreat
open Go.V Go
def fW (fr:Go.V.Fr) (k:Nat):Go.V.D:=Go.V.nth .junk fr.loc k
theorem yu {l : List Nod} (hl : l.length ≤ 1048576) (hv : ∀ n ∈ l, NdV n) {x : D} (hx : SlD x 7 (l.map ay)) : ∀ (m : Nat) (t : Tr), t.fw ≤ m → m ≤ 1048576 → t.ok → ∀ (s0 : St) (at_ : Nat), fp l at_ t.flat → Ev pv 19 [x, .int .i64 (at_ : Nat)] s0 (.tup [.agg (tC t), .int .i64 ((at_ + t.flat.length : Nat) : Int)]) s0
 | 0, t, h, _, _, _, _, _ => by have := Tr.gE t; omega
 | m + 1, t, h, hm, hok, s0, at_, kV => by
  suffices hg : ∃ d, Ev pv 19 [x, .int .i64 (at_ : Nat)] s0 d s0 ∧ d = .tup [.agg (tC t), .int .i64 ((at_ + t.flat.length : Nat) : Int)] by
   obtain ⟨_, h1, rfl⟩ := hg;exact h1
  have OK := Tr.gE t;have nu := kc t.ks;obtain ⟨ho, rS⟩ := Tr.BR.1 hok;have hkk : t.n.kids = (t.ks.length : Nat) := ho.1;have lD := Tr.Ej t;rw [lD] at kV ⊢;have hle := kV.le (by simp);simp only [List.length_cons] at hle;have hn := kV.head;have kV := kV.tail;have hr1 := gi hn;have QN := hv t.n (List.mem_of_getElem? hn)
  have bV : ∀ k ∈ t.ks, k.fa NdV := (J5 (P := NdV) t.ks).1 (fun n hn => by
   obtain ⟨post, hp⟩ := kV
   exact hv n (List.mem_of_mem_drop (hp ▸ List.mem_append_left _ hn)))
  refine Ev.yE rfl Nw rfl rfl rfl ?_;refine zE ?_;obtain ⟨hSb, hF, hH⟩ := ri s0;generalize enterSt .ro s0 = S at *;have hx := hx.arg s0.bs.length S;refine zQ 2 ?_;refine qa hH fun k4 st IJ hH => ?_;refine zQ 6 ?_;refine qr fun Kh F3 => ?_;refine EvO.cx rfl (ev rfl) (by assumption) rfl (put_T rfl _) ?_;refine EvO.go (d := .agg (ay t.n ++ [.nul])) (st1 := _) rfl rfl rfl (put_T rfl _) ?_;refine qa hH fun k6 st EX hH => ?_;refine qS hH at0 fun st hH => ?_;dsimp only [u2, u1, u3, u4, setMany, u5, u6, D.cells, Nat.reduceAdd, tC, jn, ay] at hH;refine zQ 12 ?_;have hH : Has s0.bs.length S st (.box k6 (.mem 0 false (jn t.n .nul)) :: .lst .nul 8 (([] : List Tr).map tC) :: .box k4 (.mem 0 false tz) :: []) := Has.Fj [_] [_] (hH.nulE 8);refine zQ 1 ?_;refine EvC.loop (fun mm fr st => ∃ (i j : Nat) (kd : D), fr.clean = ⟨10, [x, .int .i64 (j : Nat), fW fr 2, fW fr 3, .ptr k4 0 0, fW fr 5, .ptr k6 0 0, .int .i64 (i : Nat), fW fr 8, fW fr 9], []⟩ ∧ Has s0.bs.length S st (.box k6 (.mem 0 false (jn t.n kd)) :: .lst kd 8 ((t.ks.take i).map tC) :: .box k4 (.mem 0 false tz) :: []) ∧ (i + mm = t.ks.length) ∧ (fp l j (aR (t.ks.drop i)).flat) ∧ (j + (aR (t.ks.drop i)).flat.length = at_ + 1 + (aR t.ks).flat.length) ∧ (∀ k, kd.ref = k + 1 → S.bs.length ≤ k)) (t.ks.length) ?_ ?_
  ·exact ⟨0, at_ + 1, .nul, rfl, hH, by omega, kV, rfl, fun k hk => by simp only [D.ref] at hk; omega⟩
  rintro mm fr st ⟨i, j, kd, hfr, hH, hi, hj, EY, q_⟩;rw [hfr];clear hfr;generalize fW fr = ee;clear fr;refine zQ 9 ?_;refine zP (fun h1 => ?_) fun h1 => ?_
  ·refine zQ 1 ?_
   obtain ⟨p, hp⟩ : ∃ p, t.ks[i]? = some p := ⟨t.ks[i]'(by omega), List.getElem?_eq_getElem _⟩
   have q9 := List.mem_of_getElem? hp;have Oo := kb q9;rw [qN hp] at hj EY;rw [List.length_append] at EY;have Ct := fun st => yu hl hv ‹_› m p (by omega) (by omega) (rS p q9) st j hj.left;refine zQ 6 ?_;refine qv ((Ct _)) ?_;refine zQ 3 ?_;refine qa hH fun k8 st hk8 hH => ?_;dsimp only [u2, u1, u3, u4, setMany, u5, u6, D.cells, Nat.reduceAdd, tC, jn, ay] at hH;refine qS hH at0 fun st hH => ?_;dsimp only [u2, u1, u3, u4, setMany, u5, u6, D.cells, Nat.reduceAdd, tC, jn, ay] at hH;refine zQ 2 ?_;have hH : Has s0.bs.length S st (.box k8 (.mem 0 false (tC p)) :: .box k6 (.mem 0 false (jn t.n kd)) :: .lst kd 8 ((t.ks.take i).map tC) :: .box k4 (.mem 0 false tz) :: []) := hH;refine zQ 3 ?_;refine EvO.hload hH rfl (ev rfl) at1 rfl (put_T rfl _) ?_;refine EvO.hloadS (m := 8) (r := tC p) hH rfl (ev rfl) at0 rfl rfl rfl (put_T rfl _) ?_;refine qh (s := 8) (vs := [_]) hH fun k33 st IL hH => ?_;dsimp only [u2, u1, u3, u4, setMany, u5, u6, D.cells, Nat.reduceAdd, tC, jn, ay] at hH;refine EvO.gD (s := 8) hH rfl (ev rfl) (ev rfl) at3 (hH.rows at0) rfl rfl rfl rfl rfl rfl rfl ⟨(Nat.le_of_ble_eq_true rfl), (Nat.le_of_ble_eq_true rfl)⟩ (fun _ => (put_T rfl _)) (by simp only [List.length_map, List.length_take, List.length_cons, List.length_nil]; omega) (.inl hF) q_ (fun Hl st q_ hH => ?_);dsimp only [u1, u2] at hH;refine zQ 1 ?_;refine qT hH at2 (fun st hH => ?_) (jk := hH.ocells at3);dsimp only [u2, u1, u3, u4, setMany, u5, u6, D.cells, Nat.reduceAdd, tC, jn, ay] at hH;refine zQ 1 ?_;have hH := hH.drop 2;refine zQ 9 ?_;exact ⟨mm - 1, by omega, ⟨i + 1, j + p.flat.length, Hl, rfl, (by rw [List.take_add_one, hp, List.map_append]; exact hH), by omega, hj.right, by omega, q_⟩⟩
  ·refine zQ 1 ?_;have he : i = t.ks.length := by omega
   rw [he, List.drop_length] at EY;rw [he, List.take_length] at hH;have Rq : (aR []).flat.length = 0 := rfl;rw [Rq] at EY;have LK : ∀ k ∈ t.ks, k.fa ox := fun k hk => (Tr.gk k).2 (fun n hn => ⟨((Tr.gk k).1 (bV k hk) n hn).1, ((Tr.gk k).1 (bV k hk) n hn).2.1⟩);refine zQ 2 ?_;refine EvO.hloadS (m := 8) (r := jn t.n kd) hH rfl (ev rfl) at0 rfl rfl rfl (put_T rfl _) ?_;refine qm ?_;refine EvO.hstoreA hH rfl (ev rfl) (ev rfl) rfl (by exact rfl) at2 (by exact rfl) (.inl hF) (fun st hH => ?_);dsimp only [u1, u2] at hH;refine zQ 2 ?_;have hH : Has s0.bs.length S st (.box k6 (.mem 0 false (jn t.n kd)) :: .lst kd 8 (t.ks.map tC) :: .box k4 (.mem 0 false (jn t.n kd)) :: []) := hH;have EW : aO st s0.bs.length false 14 kd = some (og t.ks) := by rw [xj]; exact hH.freeze at1 (sI LK) (n := 13) (by decide)
   have RM : aO st s0.bs.length false 15 (.agg (jn t.n kd)) = some (.agg (tC t)) := by
    show (eG (aO st s0.bs.length false 14) (jn t.n kd)).map D.agg = _;have qJ : aO st s0.bs.length false 14 t.n.rd = some t.n.rd := by rw [QN.1]; rfl
    simp only [jn, eG, EW, qJ]
    rfl
   refine EvC.ret ⟨rx, _, _, hH.Br rfl at2 rfl rfl, rl hSb hH (d' := .tup [.agg (tC t), .int .i64 (j : Nat)]) ?_, ?_⟩
   ·show (eG (aO st s0.bs.length false 15) [.agg (jn t.n kd), .int .i64 (j : Nat)]).map D.tup = _;simp only [eG, RM]
    rfl
   ·rw [show j = at_ + ((aR t.ks).flat.length + 1) by omega]
def iL (l:List Tr):Nat:=(l.map Tr.sz).sum
theorem sE:∀ks:aJ,ks.sz=iL ks.l
 | .nil=>rfl
 | .cons t ts=>by simp only[aJ.sz,aJ.l,iL,List.map_cons,List.sum_cons,sE ts]
theorem Tr.Hv (t:Tr):t.sz=bk t.n (iL t.ks) t.ks.length:=by
 cases t with
 |mk n ks=>simp only[Tr.sz,Tr.n,Tr.ks,sE,lR]
theorem Ba {l:List Tr}:iL l=0↔∀k∈l,k.sz=0:=by
 induction l with
 |nil=>simp[iL]
 |cons t l ih=>
  have e:iL (t::l)=t.sz+iL l:=by simp[iL]
  rw[e];constructor
  ·intro h k hk
   rcases List.mem_cons.1 hk with rfl|hk
   ·omega
   ·exact ih.1 (by omega) k hk
  ·intro h;have h1:=h t (List.mem_cons_self ..);have h2:=ih.2 fun k hk=>h k (List.mem_cons_of_mem _ hk);omega
theorem Bu {t:Tr} (ho:jO t.n t.ks.length):decide (t.sz=0)=(if t.n.op=1 then true else if t.n.op=3 then decide (∀k∈t.ks,k.sz=0) else if t.n.op=5 then((t.n.mx==0)||((t.n.mn==t.n.mx) &&decide (iL t.ks=0))) else false):=by
 rw[Tr.Hv];unfold bk;unfold jO at ho
 by_cases q1:t.n.op=1
 ·have hk:t.ks=[]:=by
   have:t.ks.length=0:=by omega
   exact List.length_eq_zero_iff.1 this
  simp[q1,hk,iL]
 rw[if_neg q1]
 by_cases q3:t.n.op=3
 ·simp only[q3];simp[Ba]
 rw[if_neg q3]
 by_cases q5:t.n.op=5
 ·have h5:0≤t.n.mn∧t.n.mn≤30∧(t.n.mx=-1∨(t.n.mn≤t.n.mx∧t.n.mx≤30)):=by omega
  generalize iL t.ks=z;simp only[q5];simp only[show¬((5:Int)=2∨(5:Int)=7∨(5:Int)=8) by decide,show¬((5:Int)=4) by decide,show¬((5:Int)=6) by decide,if_false,if_true]
  by_cases qm:t.n.mx=-1
  ·rw[if_pos qm];have hb:(t.n.mn==t.n.mx)=false:=by simp;omega
   rw[hb,qm];simp
  ·rw[if_neg qm];obtain⟨a,ha⟩:∃a:Nat,t.n.mn=(a:Int):=Int.eq_ofNat_of_zero_le h5.1;obtain⟨b,hb⟩:∃b:Nat,t.n.mx=(b:Int):=Int.eq_ofNat_of_zero_le (by omega);rw[ha,hb];have hab:a≤b:=by omega
   simp only[Int.toNat_natCast];rw[Bool.eq_iff_iff];simp only[decide_eq_true_eq,Bool.or_eq_true,Bool.and_eq_true,beq_iff_eq,Nat.add_eq_zero_iff,Nat.mul_eq_zero];omega
 rw[if_neg q5,if_neg q5]
 by_cases q2:t.n.op=2∨t.n.op=7∨t.n.op=8
 ·rw[if_pos q2];rfl
 rw[if_neg q2]
 by_cases q4:t.n.op=4
 ·have nv:2≤t.ks.length:=by omega
  rw[if_pos q4,decide_eq_false];omega
 rw[if_neg q4]
 by_cases q6:t.n.op=6
 ·rw[if_pos q6];simp
 exact absurd ho.2 (by omega)
theorem uO:∀(m:Nat) (t:Tr),t.fw≤m→m≤1048576→t.ok→t.fa ox→∀s0:St,Ev pv 41 [.agg (tC t)] s0 (.bool (decide (t.sz=0))) s0
 |0,t,h,_,_,_,_=>by have:=Tr.gE t;omega
 |m+1,t,h,hm,hok,Gi,s0=>by
  have OK:=Tr.gE t;have nu:=kc t.ks;obtain⟨ho,EV⟩:=Tr.BR.1 hok;have Gb:=(Tr.pV.1 Gi).2;have H_:∀k∈t.ks,∀s,Ev pv 41 [.agg (tC k)] s (.bool (decide (k.sz=0))) s:=fun k hk s=>uO m k (by have:=kb hk;omega) (by omega) (EV k hk) (Gb k hk) s;rw[Bu ho];refine Ev.mk1 rfl M_ rfl rfl rfl ?_;refine zE ?_;obtain⟨hSb,hF,hH⟩:=ri s0;generalize enterSt .ro s0=S at*;have Lq:V.Rows s0 8 (og t.ks) (t.ks.map tC):=B6 s0 Gb;have tX:=Arg.of Lq hSb;refine zQ 2 ?_;refine qb hH fun k1 st nx hH=>?_;dsimp only[u2,u1,u3,u4,setMany,u5,u6,D.cells,Nat.reduceAdd,tC,jn,ay] at hH;refine zQ 15 ?_
  by_cases q1:t.n.op=1
  ·rw[if_pos q1];refine qD rfl (by simp[q1]) ?_;refine zQ 4 ?_;refine EvC.ret ⟨rx,_,rfl,rl hSb hH (rfl)⟩
  rw[if_neg q1];refine qE rfl (by simp[q1]) ?_;refine zQ 5 ?_
  by_cases q3:t.n.op=3
  ·rw[if_pos q3];refine qD rfl (by simp[q3]) ?_;refine zQ 6 ?_;refine EvC.loop (fun mm fr st=>∃(i:Nat),fr.clean=⟨7,[fW fr 0,.ptr k1 0 0,fW fr 2,.int .i64 (i:Nat),fW fr 4,fW fr 5,fW fr 6],[]⟩∧Has s0.bs.length S st (.box k1 (.mem 0 false (tC t))::[])∧(i+mm=t.ks.length)∧(∀k∈t.ks.take i,k.sz=0)) (t.ks.length) ?_ ?_
   ·exact⟨0,rfl,hH,by omega,by simp⟩
   rintro mm fr st ⟨i,hfr,hH,hi,hq⟩;rw[hfr];clear hfr;generalize fW fr=ee;clear fr;refine zQ 6 ?_;refine qn ?_;simp only[List.length_map];refine zQ 2 ?_;refine zP (fun h1=>?_) fun h1=>?_
   ·refine zQ 1 ?_
    obtain⟨p,hp⟩:∃p,t.ks[i]?=some p:=⟨t.ks[i]'(by omega),List.getElem?_eq_getElem _⟩
    have q9:=List.mem_of_getElem? hp;have hr1:=A' hp;refine zQ 7 ?_;refine qr fun G5 An=>?_;refine EvO.cx rfl (ev rfl) (by assumption) rfl (put_T rfl _) ?_;refine qv ((H_ p q9 _)) ?_;refine zQ 2 ?_
    by_cases hz:p.sz=0
    ·refine qE rfl (by simp[hz]) ?_;refine zQ 6 ?_;exact⟨mm-1,by omega,⟨i+1,rfl,hH,by omega,(by rw[List.take_add_one,hp];intro k hk;rcases List.mem_append.1 hk with hk|hk;exact hq k hk;have:=List.mem_singleton.1 hk;rw[this];exact hz)⟩⟩
    ·have hF:decide (∀k∈t.ks,k.sz=0)=false:=decide_eq_false fun h=>hz (h p q9);rw[hF];refine qD rfl (by simp[hz]) ?_;refine zQ 4 ?_;refine EvC.ret ⟨rx,_,rfl,rl hSb hH (rfl)⟩
   ·refine zQ 1 ?_;have he:i=t.ks.length:=by omega
    rw[he,List.take_length] at hq;have hT:decide (∀k∈t.ks,k.sz=0)=true:=decide_eq_true hq;rw[hT];refine zQ 4 ?_;refine EvC.ret ⟨rx,_,rfl,rl hSb hH (rfl)⟩
  rw[if_neg q3];refine qE rfl (by simp[q3]) ?_;refine zQ 5 ?_
  by_cases q5:t.n.op=5
  ·rw[if_pos q5];have nx:t.ks.length=1:=by unfold jO at ho;omega
   obtain⟨p,hp⟩:∃p,t.ks=[p]:=List.length_eq_one_iff.1 nx;have q9:p∈t.ks:=by rw[hp];simp
   have hz:iL t.ks=p.sz:=by rw[hp];simp[iL]
   have hr1:(t.ks.map tC)[0]?=some (tC p):=by rw[hp];rfl
   rw[hz];refine qD rfl (by simp[q5]) ?_;refine qq<|EvC.ml 2 (.bool ((t.n.mx==0)||((t.n.mn==t.n.mx) &&decide (p.sz=0)))) [] ?_ (fun ff tmp=>?_)
   ·refine zQ 5 ?_;refine EvO.two 31 rfl (fun hg4=>?_) (fun hg4=>?_)
    ·refine zQ 16 ?_;refine EvO.nil (aI ?_);refine zG ?_
     all_goals(simp[hg4];done)
    ·refine zQ 8 ?_;refine EvO.two 39 rfl (fun gB=>?_) (fun gB=>?_)
     ·refine zQ 2 ?_;refine qr (fun N_ Il=>?_) (hg:=wi gB);refine EvO.cx (wantD_is rfl rfl rfl gB) (ev rfl) (by assumption) rfl (put_T rfl _) ?_;refine qv ((H_ p q9 _)) ?_ (hg:=wi gB);refine EvO.pickT (wantD_is rfl rfl rfl hg4) rfl gB (put_T rfl _) ?_;refine zQ 2 ?_;refine EvO.nil (aI ?_);refine zG ?_
      all_goals(simp[hg4,gB];done)
     ·refine zQ 5 ?_;refine EvO.pickF (wantD_is rfl rfl rfl hg4) rfl gB (put_T rfl _) ?_;refine zQ 2 ?_;refine EvO.nil (aI ?_);refine zG ?_
      all_goals(simp[hg4,gB];done)
   dsimp only[setW,List.foldl,nth,u2,u1];refine EvC.ret ⟨rx,_,rfl,rl hSb hH (rfl)⟩
  ·rw[if_neg q5];refine qE rfl (by simp[q5]) ?_;refine zQ 5 ?_;refine EvC.ret ⟨rx,_,rfl,rl hSb hH (rfl)⟩
end Go.Proofs.YtajblankjjmonaaGreat
namespace Go.Proofs.YtajblankjjmonaaGreat
open Go.V Go
def Dh (N:Nat) (S st:St) (k:Nat) (H:List bG) (full:List aN):Prop:=
 ∃(cd:D) (dk:Nat→Prop) (code:List aN) (mD:Bool),Has N S st (.box k (.mem 0 false [cd,.bool mD])::.deep dk cd 4 (code.map aT)::H)∧
  ((mD=false∧code=full∧full.length≤400)∨(mD=true∧code.length=400∧400<full.length))
theorem Dh.more {N:Nat} {S st:St} {k:Nat} {H:List bG} {full more:List aN} {cd:D} {dk:Nat→Prop} {code:List aN} (hH:Has N S st (.box k (.mem 0 false [cd,.bool true])::.deep dk cd 4 (code.map aT)::H)) (h1:code.length=400) (h2:400<full.length):Dh N S st k H (full++more):=
 ⟨cd,dk,code,true,hH,.inr ⟨rfl,h1,by rw[List.length_append];omega⟩⟩
theorem ej {N k:Nat} {S s0:St} {H:List bG} {w:D} {full:List aN} {op x y:Int} {rs:List Rg} (hF:S.flr≤N) (hw:(w=.nul∧rs=[])∨w=.sl ((rs.map ag).map (ic 2))) (hM:Dh N S s0 k H full):
  ∃r ae,Ev pv 20 [.ptr k 0 0,.agg [.int .i64 op,.int .i64 x,.int .i64 y,w]] s0 r ae∧r=.int .i64 ((if full.length<400 then full.length else 0:Nat):Int)∧Dh N S ae k H (full++[bh op x y rs]):=by
 obtain⟨cd,dk,code,mD,hH,hO⟩:=hM
 have LW:∀(st:St) (ks:Nat→Prop),qG st ks w (.sl ((rs.map ag).map (ic 2))):=by
  intro st ks
  rcases hw with⟨rfl,h⟩|rfl
  ·subst h;exact .lst .nul 2 [] .nul (by simp) (by simp[D.ref])
  ·exact .plain _ rfl
 have Dn:w.ref=0:=by rcases hw with⟨rfl,_⟩|rfl<;>rfl
 have hcl:code.length≤400:=by rcases hO with⟨_,rfl,h⟩|⟨_,h,_⟩<;>omega
 refine Ev.gT rfl Nv rfl rfl rfl ?_;refine zE ?_;change EvC _ _ _ _ s0 _;refine zQ 2 ?_;refine qb hH fun k3 st Hb hH=>?_;refine zQ 9 ?_;refine EvO.nA hH rfl (ev rfl) (by exact at2) rfl (put_T rfl _) ?_;simp only[List.length_map];refine zQ 2 ?_
 by_cases h4:400≤code.length
 ·have S9:400≤full.length:=by rcases hO with⟨_,rfl,h⟩|⟨_,h,h5⟩<;>omega
  refine qD rfl (by simp;omega) ?_;refine zQ 5 ?_;refine qT hH at1 fun st hH=>?_;dsimp only[u2,u1,u3,u4,setMany,u5,u6,D.cells,Nat.reduceAdd,aT] at hH;refine zQ 5 ?_;refine EvC.ret ⟨rx,_,_,_,rfl,rfl,?_⟩;refine⟨?_,cd,dk,code,true,hH.drop 1,.inr ⟨rfl,by omega,by rw[List.length_append];simp;omega⟩⟩;rw[if_neg (by omega)];rfl
 ·obtain⟨rfl,rfl,h⟩:mD=false∧code=full∧full.length≤400:=by
   rcases hO with h|h
   ·exact h
   ·omega
  refine qE rfl (by simp;omega) ?_;refine zQ 8 ?_;refine EvO.hloadS (m:=4) hH rfl (ev rfl) (by exact at0) (by dsimp only[List.drop_succ_cons,List.drop_zero,List.take_succ_cons,List.take_zero,aT]<;>rfl) rfl rfl (put_T rfl _) ?_;refine qh (s:=4) (vs:=[_]) hH fun k20 st LD hH=>?_;refine EvO.oR hH rfl (ev rfl) (ev rfl) at3 (hH.rows at0) (.cons (.cons (.plain _ rfl) (.cons (.plain _ rfl) (.cons (.plain _ rfl) (.cons (LW _ _) .nil)))) .nil) rfl rfl rfl rfl rfl rfl rfl ⟨(Nat.le_of_ble_eq_true rfl),(Nat.le_of_ble_eq_true rfl)⟩ (fun _=>(put_T rfl _)) (by simp only[List.length_map,List.length_cons,List.length_nil];omega) (.inl hF) (fun Pf st hH=>?_);dsimp only[u1,u2] at hH;refine zQ 2 ?_;refine EvO.pL hH rfl (ev rfl) (ev rfl) (by exact hH.dcells (by exact at3)) (by exact rfl) (by exact at2) (by exact Nat.le_of_ble_eq_true rfl) (by exact .inl hF) (fun st hH=>?_);dsimp only[u2,u1,u3,u4,setMany,u5,u6,D.cells,Nat.reduceAdd,aT] at hH;refine zQ 7 ?_;refine EvO.nA hH rfl (ev rfl) (by exact at3) rfl (put_T rfl _) ?_;simp only[List.length_map,List.length_append,List.length_cons,List.length_nil];refine EvO.jo (z:=((code.length:Nat):Int)) rfl (ev rfl) (ev rfl) (by rw[wrap_i64 (by omega) (by omega)]<;>omega) (put_T rfl _) ?_;refine zQ 2 ?_;refine EvC.ret ⟨rx,_,_,_,rfl,rfl,?_⟩;exact⟨by rw[if_pos (by omega)];rfl,_,_,code++[bh op x y rs],false,by rw[List.map_append];exact hH.drop 2,.inl ⟨rfl,rfl,by rw[List.length_append];simp;omega⟩⟩
theorem za {N k:Nat} {S s0:St} {H:List bG} {ks:Nat→Prop} {cd:D} {mD:Bool} {code:List aN} {at_ over:Nat} {lz:Bool} {x y:Int} (h_:code[at_]?=some (bh 2 x y [])) (hl:code.length≤1048576) (hH:Has N S s0 (.box k (.mem 0 false [cd,.bool mD])::.deep ks cd 4 (code.map aT)::H)):
  ∃r ae,Ev pv 42 [.ptr k 0 0,.int .i64 (at_:Nat),.int .i64 (over:Nat),.bool lz] s0 r ae∧r=.tup []∧Has N S ae (.box k (.mem 0 false [cd,.bool mD])::.deep ks cd 4 ((code.set at_ (gJ at_ over lz)).map aT)::H):=by
 have hlt:=lt_get h_;have hr1:(code.map aT)[at_]?=some [.int .i64 2,.int .i64 x,.int .i64 y,.sl []]:=kI h_;refine Ev.gT rfl M9 rfl rfl rfl<|zE ?_;have a_:=hH;have hH:=hH.aY;have aU:(enterSt .rw s0).bs=s0.bs:=rfl;generalize enterSt .rw s0=S2 at*;refine zQ 13 ?_;refine EvO.fM (z:=((at_+1:Nat):Int)) rfl (ev rfl) (ev rfl) (by rw[wrap_i64 (by omega) (by omega)]<;>omega) (put_T rfl _) ?_;refine qm<|EvO.ou (s:=4) hH rfl (ev rfl) (ev rfl) (by exact at1) rfl rfl (by exact lt_get (by assumption)) (fun _=>(put_T rfl _)) (fun G5 An=>?_);refine EvO.cI (fo:=1) (m:=0) (o2:=1) rfl (ev rfl) (by assumption) rfl rfl rfl (fun _=>(put_T rfl _)) (fun G4 Am=>?_);refine EvO.fZ hH rfl (ev rfl) (ev rfl) (by assumption) rfl rfl (by exact at1) (by assumption) (Nat.le_of_ble_eq_true rfl) (by intro d hd;simp only[List.mem_cons,List.not_mem_nil,or_false] at hd;subst hd;rfl) (by exact .inr rfl) (fun st hH=>?_);dsimp only[u2,u1,u3,u4,setMany,u5,u6,D.cells,Nat.reduceAdd,aT] at hH;refine EvO.ou (s:=4) hH rfl (ev rfl) (ev rfl) (by exact at1) rfl rfl (by simp only[List.length_map,List.length_set]<;>omega) (fun _=>(put_T rfl _)) (fun HF Cl=>?_);refine EvO.cI (fo:=2) (m:=0) (o2:=2) rfl (ev rfl) (by assumption) rfl rfl rfl (fun _=>(put_T rfl _)) (fun Fs xx=>?_);refine EvO.fZ hH rfl (ev rfl) (ev rfl) (by assumption) rfl rfl (by exact at1) (List.getElem?_set_self (by simp only[List.length_map];omega)) (Nat.le_of_ble_eq_true rfl) (by intro d hd;simp only[List.mem_cons,List.not_mem_nil,or_false] at hd;subst hd;rfl) (by exact .inr rfl) (fun st hH=>?_);dsimp only[u1,u2,setMany] at hH;rw[List.set_set] at hH;refine zQ 5 ?_
 cases lz with
 |false=>
  refine zQ 2 ?_;refine⟨fun i h=>(by cases h),_,_,_,rfl,ab rfl,?_⟩;exact⟨rfl,by rw[List.map_set];exact a_.l_ aU hH⟩
 |true=>
  refine zQ 14 ?_;refine EvO.fM (z:=((at_+1:Nat):Int)) rfl (ev rfl) (ev rfl) (by rw[wrap_i64 (by omega) (by omega)]<;>omega) (put_T rfl _) ?_;refine EvO.ou (s:=4) hH rfl (ev rfl) (ev rfl) (by exact at1) rfl rfl (by simp only[List.length_map,List.length_set]<;>omega) (fun _=>(put_T rfl _)) (fun N' Im=>?_);refine EvO.cI (fo:=1) (m:=0) (o2:=1) rfl (ev rfl) (by assumption) rfl rfl rfl (fun _=>(put_T rfl _)) (fun Kd FZ=>?_);refine EvO.fZ hH rfl (ev rfl) (ev rfl) (by assumption) rfl rfl (by exact at1) (List.getElem?_set_self (by simp only[List.length_map];omega)) (Nat.le_of_ble_eq_true rfl) (by intro d hd;simp only[List.mem_cons,List.not_mem_nil,or_false] at hd;subst hd;rfl) (by exact .inr rfl) (fun st hH=>?_);dsimp only[u1,u2,setMany] at hH;rw[List.set_set] at hH;refine EvO.ou (s:=4) hH rfl (ev rfl) (ev rfl) (by exact at1) rfl rfl (by simp only[List.length_map,List.length_set]<;>omega) (fun _=>(put_T rfl _)) (fun Pr K'=>?_);refine EvO.cI (fo:=2) (m:=0) (o2:=2) rfl (ev rfl) (by assumption) rfl rfl rfl (fun _=>(put_T rfl _)) (fun N_ Il=>?_);refine EvO.fZ hH rfl (ev rfl) (ev rfl) (by assumption) rfl rfl (by exact at1) (List.getElem?_set_self (by simp only[List.length_map];omega)) (Nat.le_of_ble_eq_true rfl) (by intro d hd;simp only[List.mem_cons,List.not_mem_nil,or_false] at hd;subst hd;rfl) (by exact .inr rfl) (fun st hH=>?_);dsimp only[u1,u2,setMany] at hH;rw[List.set_set] at hH;refine zQ 1 ?_;refine⟨fun i h=>(by cases h),_,_,_,rfl,ab rfl,?_⟩;exact⟨rfl,by rw[List.map_set];exact a_.l_ aU hH⟩
def qH (t:Tr):Prop:=∀{N k:Nat} {S s0:St} {H:List bG} {full:List aN},S.flr≤N→Dh N S s0 k H full→
 ∃r ae,Ev pv 21 [.ptr k 0 0,.agg (tC t)] s0 r ae∧r=.tup []∧Dh N S ae k H (full++av t full.length)
theorem A7 {l:List Tr}:(aR l).ok↔∀k∈l,k.ok:=by
 induction l with
 |nil=>simp[aR,aJ.ok]
 |cons t l ih=>simp only[aR,aJ.ok,ih,List.mem_cons,forall_eq_or_imp]
theorem mL:∀l:List Tr,(aR l).len=l.length
 |[]=>rfl
 |t::l=>by simp only[aR,aJ.len,List.length_cons,mL l]
theorem A9 (l:List Tr):(aR l).sz=iL l:=by rw[sE,ue]
theorem drop_cons {α:Type} {l:List α} {i:Nat} {t:α} (h:l[i]?=some t):l.drop i=t::l.drop (i+1):=by
 obtain⟨h3,h4⟩:=List.getElem?_eq_some_iff.1 h;rw[List.drop_eq_getElem_cons h3,h4]
end Go.Proofs.YtajblankjjmonaaGreat
namespace Go.Proofs.YtajblankjjmonaaGreat
open Go.V Go
def dz (fr:Go.V.Fr) (k:Nat):Go.V.D:=Go.V.nth .junk fr.loc k
theorem B5 {l:List Tr} (h:∀t∈l,t.fa ox):SlD (og l) 8 (l.map tC):=by
 rw[xj];exact SlD.frozen (EC l) (sI h)
theorem C5 {l:List Tr} (h:∀k∈l,k.ok) (jp:aN) (b:Nat):(cA jp (aR l) b).length=iL l+2*(l.length-1):=by
 rw[kf jp _ b (A7.2 h),A9,mL]
theorem Bb (t:Tr) (l:List Tr):iL (t::l)=t.sz+iL l:=by simp[iL]
theorem Ew {ks:List Tr} (ih:∀t∈ks,qH t) (hok:∀t∈ks,t.ok) (Gi:∀t∈ks,t.fa ox) (nv:2≤ks.length) (hkn:ks.length≤1048576) {N k:Nat} {S s0:St} {H:List bG} {full:List aN} (hF:S.flr≤N) (hM:Dh N S s0 k H full):
  ∃r ae,Ev pv 33 [.ptr k 0 0,og ks] s0 r ae∧r=.tup []∧Dh N S ae k H (full++cA (eZ (full.length+(iL ks+2*(ks.length-1)))) (aR ks) full.length):=by
 obtain⟨cd,dk,code,mD,hH,hO⟩:=hM;have EV:=A7.2 hok;have hE:=C5 hok (eZ 0) full.length;have J0:=C5 hok (eZ (full.length+(iL ks+2*(ks.length-1)))) full.length;refine Ev.gT rfl Nh rfl rfl rfl ?_;refine zE ?_;change EvC _ _ _ _ s0 _;have hc:=(B5 Gi).arg N S;refine zQ 4 ?_;have hH:Has N S s0 (.box k (.mem 0 false [cd,.bool mD])::.deep dk cd 4 (code.map aT)::.lst .nul 1 (([]:List Nat).map ew)::H):=Has.Fj [_] [_,_] (hH.nulE 1);refine zQ 5 ?_;refine EvC.merge (fun fr st=>∃(cd jd:D) (dk:Nat→Prop) (aL:List aN) (bD:Bool) (js:List Nat) (tmp:List (Nat×D)),fr=⟨8,[.ptr k 0 0,dz fr 1,dz fr 2,dz fr 3,jd,dz fr 5,dz fr 6,dz fr 7],tmp⟩∧Has N S st (.box k (.mem 0 false [cd,.bool bD])::.deep dk cd 4 (aL.map aT)::.lst jd 1 (js.map ew)::H)∧((bD=false∧aL=full++cA (eZ 0) (aR ks) full.length∧js=gN (aR ks) full.length∧aL.length≤400)∨(bD=true∧aL.length=400∧400<full.length+(iL ks+2*(ks.length-1))))∧(js.length≤ks.length)) ?_ ?_
 ·have Aw:(mD=false∧code.length≤400∧code++cA (eZ 0) (aR (ks.drop 0)) code.length=full++cA (eZ 0) (aR ks) full.length∧([]:List Nat)++gN (aR (ks.drop 0)) code.length=gN (aR ks) full.length)∨(mD=true∧code.length=400∧400<full.length+(iL ks+2*(ks.length-1))):=by
   rcases hO with⟨h1,h2,h3⟩|⟨h1,h2,h3⟩
   ·exact .inl ⟨h1,by rw[h2];exact h3,by rw[h2];rfl,by rw[h2];rfl⟩
   ·exact .inr ⟨h1,h2,by omega⟩
  refine zQ 1 ?_;refine EvC.loop (fun mm fr st=>∃(i:Nat) (cd jd:D) (dk:Nat→Prop) (ak:List aN) (cj:Bool) (js:List Nat),fr.clean=⟨8,[.ptr k 0 0,og ks,dz fr 2,dz fr 3,jd,.int .i64 (i:Nat),dz fr 6,dz fr 7],[]⟩∧Has N S st (.box k (.mem 0 false [cd,.bool cj])::.deep dk cd 4 (ak.map aT)::.lst jd 1 (js.map ew)::H)∧(i+mm=ks.length)∧(js.length≤i)∧((cj=false∧ak.length≤400∧ak++cA (eZ 0) (aR (ks.drop i)) ak.length=full++cA (eZ 0) (aR ks) full.length∧js++gN (aR (ks.drop i)) ak.length=gN (aR ks) full.length)∨(cj=true∧ak.length=400∧400<full.length+(iL ks+2*(ks.length-1))))) (ks.length) ?_ ?_
  ·exact⟨0,cd,.nul,dk,code,mD,[],rfl,hH,by omega,by simp,Aw⟩
  rintro mm fr st ⟨i,cd,jd,dk,ak,cj,js,hfr,hH,hi,jB,Aw⟩;rw[hfr];clear hfr;generalize dz fr=ee;clear fr;refine zQ 2 ?_;refine EvC.cutT 18 (.bool (decide ((i:Int)<(ks.length:Nat)) &&!cj)) [] ?_ (fun ff tmp htmp=>?_)
  ·refine zQ 2 ?_;refine qn ?_;simp only[List.length_map];refine zQ 2 ?_;refine EvO.two 12 rfl (fun hg4=>?_) (fun hg4=>?_)
   ·refine zQ 6 ?_;refine EvO.nil (leafT ?_ ?_)
    ·dsimp only[setW,List.foldl,nth,u2,u1]
     all_goals(first|rfl|simp)
    ·refine zF ?_
     all_goals(simp_all;done)
   ·refine zQ 6 ?_;refine EvO.nil (leafT ?_ ?_)
    ·dsimp only[setW,List.foldl,nth,u2,u1]
     all_goals(first|rfl|simp)
    ·refine zF ?_
     all_goals(simp_all;omega)
  refine zG ?_
  by_cases hgo:i<ks.length∧cj=false
  ·obtain⟨hlt,oo⟩:=hgo;have hcc:(decide ((i:Int)<(ks.length:Nat)) &&!cj)=true:=by rw[oo];simp;omega
   rw[hcc] at htmp
   obtain⟨oN,cJ,hjs⟩:ak.length≤400∧ak++cA (eZ 0) (aR (ks.drop i)) ak.length=full++cA (eZ 0) (aR ks) full.length∧js++gN (aR (ks.drop i)) ak.length=gN (aR ks) full.length:=by
    rcases Aw with h|h
    ·exact h.2
    ·rw[oo] at h;cases h.1
   obtain⟨p,hp⟩:∃p,ks[i]?=some p:=⟨ks[i]'hlt,List.getElem?_eq_getElem _⟩
   have q9:=List.mem_of_getElem? hp;have hr1:=A' hp;have Qm:=hok p q9;have Eg:(ks.drop i).length=ks.length-i:=List.length_drop;have hlen:=congrArg List.length cJ;rw[List.length_append,List.length_append,hE,C5 (fun k hk=>hok k (List.mem_of_mem_drop hk)),Eg] at hlen;have hsz:iL (ks.drop i)=p.sz+iL (ks.drop (i+1)):=by rw[drop_cons hp,Bb]
   rw[drop_cons hp] at cJ hjs;simp only[aR,cA,gN,mL,List.length_drop] at cJ hjs;refine zQ 9 ?_;refine qn ?_;simp only[List.length_map];refine EvO.jo (z:=((ks.length-1:Nat):Int)) rfl (ev rfl) (ev rfl) (by rw[wrap_i64 (by omega) (by omega)]<;>omega) (put_T rfl _) ?_;refine zQ 2 ?_
   by_cases mf:i+1=ks.length
   ·have xC:(((i:Nat):Int)==((ks.length-1:Nat):Int))=true:=by rw[beq_iff_eq];omega
    rw[if_pos (by omega)] at cJ hjs;refine qD rfl (by rw[xC]) ?_;refine zQ 5 ?_;refine qr fun JG D_=>?_;refine EvO.cx rfl (ev rfl) (by assumption) rfl (put_T rfl _) ?_;obtain⟨_,st,hev,rfl,cd,dk,aL,bD,hH,lG⟩:=ih p q9 hF ⟨cd,dk,ak,cj,hH,.inl ⟨oo,rfl,oN⟩⟩;refine qv hev ?_;refine zQ 1 ?_
    have t_:(bD=false∧aL=full++cA (eZ 0) (aR ks) full.length∧js=gN (aR ks) full.length∧aL.length≤400)∨(bD=true∧aL.length=400∧400<full.length+(iL ks+2*(ks.length-1))):=by
     rcases lG with⟨h1,h2,h3⟩|⟨h1,h2,h3⟩
     ·exact .inl ⟨h1,by rw[h2];exact cJ,by rw[List.append_nil] at hjs;exact hjs,by rw[h2];exact h3⟩
     ·rw[cJ,List.length_append,hE] at h3;exact .inr ⟨h1,h2,h3⟩
    refine zQ 1 ?_;exact⟨cd,jd,dk,aL,bD,js,_,rfl,hH,t_,by omega⟩
   ·rw[if_neg (by omega)] at cJ hjs;have xC:(((i:Nat):Int)==((ks.length-1:Nat):Int))=false:=by rw[beq_eq_false_iff_ne];omega
    refine qE rfl (by rw[xC]) ?_;refine zQ 4 ?_;refine EvO.go (d:=.agg [.int .i64 2,.int .i64 0,.int .i64 0,.nul]) (st1:=_) rfl rfl rfl (put_T rfl _) ?_;obtain⟨_,st,hev,rfl,cd,dk,aL,bD,hH,lG⟩:=ej (rs:=[]) hF (.inl ⟨rfl,rfl⟩) ⟨cd,dk,ak,cj,hH,.inl ⟨oo,rfl,oN⟩⟩;refine qv hev ?_;refine zQ 2 ?_;have JR:(ak++[bh 2 0 0 []]).length=ak.length+1:=by simp
    refine zQ 5 ?_;refine qr fun Ps Io=>?_;refine EvO.cx rfl (ev rfl) (by assumption) rfl (put_T rfl _) ?_;obtain⟨_,st,hev,rfl,cd,dk,j_,qw,hH,t_⟩:=ih p q9 hF ⟨cd,dk,aL,bD,hH,lG⟩;refine qv hev ?_;refine zQ 1 ?_;rw[JR] at t_;have OI:(ak++[bh 2 0 0 []]++av p (ak.length+1)).length=ak.length+1+p.sz:=by rw[List.length_append,JR,bw p _ Qm]
    refine zQ 4 ?_;refine EvO.go (d:=.agg [.int .i64 3,.int .i64 0,.int .i64 0,.nul]) (st1:=_) rfl rfl rfl (put_T rfl _) ?_;obtain⟨_,st,hev,rfl,cd,dk,gb,jy,hH,Av⟩:=ej (rs:=[]) hF (.inl ⟨rfl,rfl⟩) ⟨cd,dk,j_,qw,hH,t_⟩;refine qv hev ?_;refine qh (s:=1) (vs:=[_]) hH fun k45 st Ra hH=>?_;refine EvO.happend (s:=1) hH rfl (ev rfl) (ev rfl) (by exact at3) (by exact hH.rows (by exact at0)) rfl rfl rfl rfl rfl rfl rfl ⟨(Nat.le_of_ble_eq_true rfl),(Nat.le_of_ble_eq_true rfl)⟩ (fun _=>(put_T rfl _)) (by simp only[List.length_append,List.length_cons,List.length_nil,List.length_map]<;>omega) (by exact .inl hF) (fun Fa st hH=>?_);dsimp only[u2,u1,u3,u4,setMany,u5,u6,D.cells,Nat.reduceAdd,aT,ew,tC,jn,ay] at hH;refine zQ 2 ?_;have hH:Has N S st (.box k (.mem 0 false [cd,.bool jy])::.deep dk cd 4 (gb.map aT)::.lst Fa 1 _::H):=hH.drop 1;have JQ:(ak++[bh 2 0 0 []]++av p (ak.length+1)++[bh 3 0 0 []]).length=ak.length+p.sz+2:=by rw[List.length_append,OI];simp only[List.length_cons,List.length_nil];omega
    refine zQ 8 ?_
    by_cases As:jy=false
    ·obtain⟨Ax,CI⟩:gb=ak++[bh 2 0 0 []]++av p (ak.length+1)++[bh 3 0 0 []]∧(ak++[bh 2 0 0 []]++av p (ak.length+1)++[bh 3 0 0 []]).length≤400:=by
      rcases Av with h|h
      ·exact h.2
      ·rw[As] at h;cases h.1
     rw[JQ] at CI;rw[OI,if_pos (by omega)] at hH;rw[if_pos (by omega)];rw[Ax] at hH
     have vJ:(ak++[bh 2 0 0 []]++av p (ak.length+1)++[bh 3 0 0 []])[ak.length]?=some (bh 2 0 0 []):=by
      rw[List.append_assoc,List.append_assoc];exact kJ _ _ _
     have tk:(ak++[bh 2 0 0 []]++av p (ak.length+1)++[bh 3 0 0 []]).set ak.length (gJ ak.length (ak.length+1+p.sz+1) false)=ak++(gJ ak.length (ak.length+1+p.sz+1) false::(av p (ak.length+1)++[eZ 0])):=by
      rw[List.append_assoc,List.append_assoc];exact ko _ _ _ _
     have tE:(ak++(gJ ak.length (ak.length+1+p.sz+1) false::(av p (ak.length+1)++[eZ 0]))).length=ak.length+p.sz+2:=by rw[←tk,List.length_set,JQ]
     generalize ak++[bh 2 0 0 []]++av p (ak.length+1)++[bh 3 0 0 []]=c3 at*;have nY:(c3.map aT)[ak.length]?=some [.int .i64 2,.int .i64 0,.int .i64 0,.sl []]:=kI vJ;have Lp:=lt_get vJ;refine qD rfl (by simp[As]) ?_;refine zQ 12 ?_;refine EvO.fM (z:=((ak.length+1:Nat):Int)) rfl (ev rfl) (ev rfl) (by rw[wrap_i64 (by omega) (by omega)]<;>omega) (put_T rfl _) ?_;refine zQ 4 ?_;refine EvO.nA hH rfl (ev rfl) (by exact at1) rfl (put_T rfl _) ?_;simp only[List.length_map];refine EvO.ou (s:=4) hH rfl (ev rfl) (ev rfl) (by exact at1) rfl rfl (by exact lt_get (by assumption)) (fun _=>(put_T rfl _)) (fun Po K8=>?_);refine EvO.cI (fo:=1) (m:=0) (o2:=1) rfl (ev rfl) (by assumption) rfl rfl rfl (fun _=>(put_T rfl _)) (fun SA Qw=>?_);refine EvO.fZ hH rfl (ev rfl) (ev rfl) (by assumption) rfl rfl (by exact at1) (by assumption) (Nat.le_of_ble_eq_true rfl) (by intro d hd;simp only[List.mem_cons,List.not_mem_nil,or_false] at hd;subst hd;rfl) (by exact .inl hF) (fun st hH=>?_);dsimp only[u2,u1,u3,u4,setMany,u5,u6,D.cells,Nat.reduceAdd,aT,ew,tC,jn,ay] at hH;refine EvO.ou (s:=4) hH rfl (ev rfl) (ev rfl) (by exact at1) rfl rfl (by simp only[List.length_map,List.length_set]<;>omega) (fun _=>(put_T rfl _)) (fun G3 Ig=>?_);refine EvO.cI (fo:=2) (m:=0) (o2:=2) rfl (ev rfl) (by assumption) rfl rfl rfl (fun _=>(put_T rfl _)) (fun Kb K7=>?_);refine EvO.fZ hH rfl (ev rfl) (ev rfl) (by assumption) rfl rfl (by exact at1) (List.getElem?_set_self (by simp only[List.length_map];omega)) (Nat.le_of_ble_eq_true rfl) (by intro d hd;simp only[List.mem_cons,List.not_mem_nil,or_false] at hd;subst hd;rfl) (by exact .inl hF) (fun st hH=>?_);dsimp only[u1,u2,setMany] at hH;rw[List.set_set] at hH;refine zQ 1 ?_;have wA:ak.length+p.sz+2=ak.length+1+p.sz+1:=by omega
     have hH:Has N S st (.box k (.mem 0 false [cd,.bool jy])::.deep dk cd 4 ((c3.set ak.length (gJ ak.length (ak.length+1+p.sz+1) false)).map aT)::.lst Fa 1 ((js++[ak.length+1+p.sz]).map ew)::H):=by
      rw[List.map_set,List.map_append];rw[JQ,wA] at hH;exact hH
     rw[tk] at hH;refine zQ 5 ?_;exact⟨mm-1,by omega,⟨i+1,cd,Fa,dk,ak++(gJ ak.length (ak.length+1+p.sz+1) false::(av p (ak.length+1)++[eZ 0])),jy,js++[ak.length+1+p.sz],rfl,hH,by omega,(by rw[List.length_append];simp only[List.length_cons,List.length_nil];omega),.inl ⟨As,by rw[tE];omega,by rw[tE,←cJ];simp only[List.append_assoc,List.cons_append,List.nil_append],by rw[tE,←hjs];simp only[List.append_assoc,List.cons_append,List.nil_append]⟩⟩⟩
    ·obtain⟨Gv,Ax,CI⟩:jy=true∧gb.length=400∧400<(ak++[bh 2 0 0 []]++av p (ak.length+1)++[bh 3 0 0 []]).length:=by
      rcases Av with h|h
      ·exact absurd h.1 As
      ·exact h
     rw[JQ] at CI;refine qE rfl (by simp[Gv]) ?_;refine zQ 6 ?_;exact⟨mm-1,by omega,⟨i+1,cd,Fa,dk,gb,jy,js++[if(ak++[bh 2 0 0 []]++av p (ak.length+1)).length<400 then(ak++[bh 2 0 0 []]++av p (ak.length+1)).length else 0],rfl,(by rw[List.map_append];exact hH),by omega,(by rw[List.length_append];simp only[List.length_cons,List.length_nil];omega),.inr ⟨Gv,Ax,by omega⟩⟩⟩
  ·have hcc:(decide ((i:Int)<(ks.length:Nat)) &&!cj)=false:=by
    by_cases h:i<ks.length
    ·have:cj=true:=by cases cj;exact absurd ⟨h,rfl⟩ hgo;rfl
     rw[this];simp
    ·rw[decide_eq_false (by omega)];rfl
   rw[hcc] at htmp
   have t_:(cj=false∧ak=full++cA (eZ 0) (aR ks) full.length∧js=gN (aR ks) full.length∧ak.length≤400)∨(cj=true∧ak.length=400∧400<full.length+(iL ks+2*(ks.length-1))):=by
    rcases Aw with⟨h1,h2,h3,h4⟩|h
    ·have he:ks.drop i=[]:=List.drop_eq_nil_of_le (by
      by_cases h:i<ks.length
      ·exact absurd ⟨h,h1⟩ hgo
      ·omega)
     rw[he] at h3 h4;simp only[aR,cA,gN,List.append_nil] at h3 h4;exact .inl ⟨h1,h3,h4,h2⟩
    ·exact .inr h
   refine zQ 2 ?_;exact⟨cd,jd,dk,ak,cj,js,_,rfl,hH,t_,by omega⟩
 ·rintro fr st ⟨cd,jd,dk,aL,bD,js,tmp,hfr,hH,lG,jB⟩;rw[hfr];clear hfr;generalize dz fr=ee;clear fr;refine zQ 4 ?_;obtain⟨wC,vA⟩:=kQ (jp:=eZ (full.length+(iL ks+2*(ks.length-1)))) (i0:=eZ 0) (aR ks) full.length full [] EV rfl;simp only[List.append_nil] at wC vA;have t':(full++cA (eZ 0) (aR ks) full.length).length=full.length+(iL ks+2*(ks.length-1)):=by rw[List.length_append,hE]
  have cC:(full++cA (eZ (full.length+(iL ks+2*(ks.length-1)))) (aR ks) full.length).length=full.length+(iL ks+2*(ks.length-1)):=by rw[List.length_append,J0]
  generalize full++cA (eZ 0) (aR ks) full.length=C0 at*;generalize full++cA (eZ (full.length+(iL ks+2*(ks.length-1)))) (aR ks) full.length=C1 at*;generalize full.length+(iL ks+2*(ks.length-1))=e at*
  have Mf:(bD=false∧dU (fun _=>eZ e) aL (js.drop 0)=C1∧(∀p∈js,∃v:Int,aL[p]?=some (bh 3 v 0 []))∧aL.length=e∧e≤400)∨(bD=true∧aL.length=400∧400<e):=by
   rcases lG with⟨h1,h2,h3,h4⟩|h
   ·exact .inl ⟨h1,by rw[h2,h3];exact wC,fun p hp=>⟨_,by rw[h2];exact vA p (h3▸hp)⟩,by rw[h2];exact t',by rw[h2,t'] at h4;exact h4⟩
   ·exact .inr h
  refine zQ 1 ?_;refine EvC.loop (fun mm fr st=>∃(q:Nat) (C:List aN),fr.clean=⟨8,[.ptr k 0 0,dz fr 1,dz fr 2,dz fr 3,jd,dz fr 5,dz fr 6,.int .i64 (q:Nat)],[]⟩∧Has N S st (.box k (.mem 0 false [cd,.bool bD])::.deep dk cd 4 (C.map aT)::.lst jd 1 (js.map ew)::H)∧(q+mm=js.length)∧((bD=false∧dU (fun _=>eZ e) C (js.drop q)=C1∧(∀p∈js,∃v:Int,C[p]?=some (bh 3 v 0 []))∧C.length=e∧e≤400)∨(bD=true∧C.length=400∧400<e))) (js.length) ?_ ?_
  ·exact⟨0,aL,rfl,hH,by omega,Mf⟩
  rintro mm fr st ⟨q,C,hfr,hH,hq,hC⟩;rw[hfr];clear hfr;generalize dz fr=ee;clear fr;refine zQ 2 ?_;refine EvC.cutT 83 (.bool (decide ((q:Int)<(js.length:Nat)) &&!bD)) [] ?_ (fun ff tmp htmp=>?_)
  ·refine zQ 2 ?_;refine qn ?_ (hR:=hH.rows at2);simp only[List.length_map];refine zQ 2 ?_;refine EvO.two 77 rfl (fun hg4=>?_) (fun hg4=>?_)
   ·refine zQ 6 ?_;refine EvO.nil (leafT ?_ ?_)
    ·dsimp only[setW,List.foldl,nth,u2,u1]
     all_goals(first|rfl|simp)
    ·refine zF ?_
     all_goals(simp_all;done)
   ·refine zQ 6 ?_;refine EvO.nil (leafT ?_ ?_)
    ·dsimp only[setW,List.foldl,nth,u2,u1]
     all_goals(first|rfl|simp)
    ·refine zF ?_
     all_goals(simp_all;omega)
  refine zG ?_
  by_cases hgo:q<js.length∧bD=false
  ·obtain⟨Dp,oo⟩:=hgo;have hcc:(decide ((q:Int)<(js.length:Nat)) &&!bD)=true:=by rw[oo];simp;omega
   rw[hcc] at htmp
   obtain⟨fq,bV,CH,LQ⟩:dU (fun _=>eZ e) C (js.drop q)=C1∧(∀p∈js,∃v:Int,C[p]?=some (bh 3 v 0 []))∧C.length=e∧e≤400:=by
    rcases hC with h|h
    ·exact h.2
    ·rw[oo] at h;cases h.1
   obtain⟨p,hp⟩:∃p,js[q]?=some p:=⟨js[q]'Dp,List.getElem?_eq_getElem _⟩
   obtain⟨v,hv⟩:=bV p (List.mem_of_getElem? hp);have hr1:=l5 hp;have nY:=kI hv;have hpl:=lt_get hv;refine zQ 11 ?_;refine qi hH at2 fun Su Qq=>?_;refine zQ 5 ?_;refine EvO.nA hH rfl (ev rfl) (by exact at1) rfl (put_T rfl _) ?_;simp only[List.length_map];refine EvO.ou (s:=4) hH rfl (ev rfl) (ev rfl) (by exact at1) rfl rfl (by exact lt_get (by assumption)) (fun _=>(put_T rfl _)) (fun Sr Qo=>?_);refine EvO.cI (fo:=1) (m:=0) (o2:=1) rfl (ev rfl) (by assumption) rfl rfl rfl (fun _=>(put_T rfl _)) (fun PM OC=>?_);refine EvO.fZ hH rfl (ev rfl) (ev rfl) (by assumption) rfl rfl (by exact at1) (by assumption) (Nat.le_of_ble_eq_true rfl) (by intro d hd;simp only[List.mem_cons,List.not_mem_nil,or_false] at hd;subst hd;rfl) (by exact .inl hF) (fun st hH=>?_);dsimp only[u2,u1,u3,u4,setMany,u5,u6,D.cells,Nat.reduceAdd,aT,ew,tC,jn,ay] at hH;refine zQ 6 ?_;have om:js.drop q=p::js.drop (q+1):=drop_cons hp
   have CF:∀p'∈js,∃v:Int,(C.set p (eZ e))[p']?=some (bh 3 v 0 []):=by
    intro p' pM
    by_cases hpp:p'=p
    ·subst hpp;exact⟨_,List.getElem?_set_self hpl⟩
    ·rw[List.getElem?_set_ne (fun e=>hpp e.symm)];exact bV p' pM
   exact⟨mm-1,by omega,⟨q+1,C.set p (eZ e),rfl,(by rw[List.map_set,←CH];exact hH),by omega,.inl ⟨oo,by rw[om] at fq;exact fq,CF,by rw[List.length_set];exact CH,LQ⟩⟩⟩
  ·have hcc:(decide ((q:Int)<(js.length:Nat)) &&!bD)=false:=by
    by_cases h:q<js.length
    ·have:bD=true:=by cases bD;exact absurd ⟨h,rfl⟩ hgo;rfl
     rw[this];simp
    ·rw[decide_eq_false (by omega)];rfl
   rw[hcc] at htmp;refine zQ 2 ?_;refine⟨fun i h=>(by cases h),_,_,_,rfl,rfl,?_⟩;refine⟨rfl,cd,dk,C,bD,hH.erase 2,?_⟩
   rcases hC with⟨h1,h2,h3,h4,h5⟩|⟨h1,h2,h3⟩
   ·have he:js.drop q=[]:=List.drop_eq_nil_of_le (by
     by_cases h:q<js.length
     ·exact absurd ⟨h,h1⟩ hgo
     ·omega)
    rw[he] at h2;have h2:C=C1:=h2;exact .inl ⟨h1,h2,by rw[cC];exact h5⟩
   ·exact .inr ⟨h1,h2,by rw[cC];exact h3⟩
end Go.Proofs.YtajblankjjmonaaGreat
