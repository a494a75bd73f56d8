/-
 What is saved for certain ahead of each instruction of a pattern's code.
-/
import Derived.Test.YtnleclohocdkaaaWGPc
import Derived.Test.YtnleclohocdkaaaWGBl
import Derived.Test.YtnleclohocdkaaaWGQe
import Derived.Test.YtnleclohocdkaaaWGCa
set_option linter.unusedSimpArgs false
set_option linter.unusedVariables false
set_option maxRecDepth 100000
set_option maxHeartbeats 4000000
set_option linter.unusedSectionVars false
namespace Go.Proofs.Ytnleclohocdkaaa
open Go.V Go
structure kP (X:Nat→Prop) (c:List aN) (b:Nat) (A:Nat→Prop) (g:Nat→Nat→Prop):Prop where
 hd:g b=A
 tl:g (b+c.length)=A
 xs:∀n,X n→b≤n→n≤b+c.length→g n=A
 st:∀j i,c[j]?=some i→(∀v∈bP (b+j) i,∃n:Nat,v=(n:Int)∧((b≤n∧n≤b+c.length∧∀s,g n s→g (b+j) s∨(i.op=4∧i.x=(s:Int)))∨(X n∧∀s,A s→g (b+j) s∨(i.op=4∧i.x=(s:Int)))))∧
  i.op≠7∧(i.op=4→∃k:Nat,1≤k∧(i.x=((2*k:Nat):Int)∨(i.x=((2*k+1:Nat):Int)∧g (b+j) (2*k))))
theorem kP.nil (X:Nat→Prop) (b:Nat) (A:Nat→Prop):kP X [] b A fun _=>A:=⟨rfl,rfl,fun _ _ _ _=>rfl,fun j i h=>by simp at h⟩
theorem kP.one {X:Nat→Prop} {b:Nat} {A:Nat→Prop} {i:aN} (h4:i.op≠4) (h7:i.op≠7) (h:∀v∈bP b i,∃n:Nat,v=(n:Int)∧(n=b+1∨X n)):kP X [i] b A fun _=>A:=by
 refine⟨rfl,rfl,fun _ _ _ _=>rfl,fun j i' hj=>?_⟩
 cases j with
 |succ j=>simp at hj
 |zero=>
  simp only[List.getElem?_cons_zero,Option.some.injEq] at hj;subst hj;refine⟨fun v hv=>?_,h7,fun h=>absurd h h4⟩;obtain⟨n,h1,h2⟩:=h v hv;refine⟨n,h1,?_⟩
  rcases h2 with rfl|h2
  ·exact .inl ⟨by omega,by simp,fun s hs=>.inl hs⟩
  ·exact .inr ⟨h2,fun s hs=>.inl hs⟩
theorem kP.oZ {X Y:Nat→Prop} {c:List aN} {b:Nat} {A:Nat→Prop} {g:Nat→Nat→Prop} (h:kP X c b A g) (h1:∀n,X n→Y n) (h2:∀n,Y n→X n∨n≤b∨b+c.length≤n):kP Y c b A g:=by
 refine⟨h.hd,h.tl,fun n hn h3 h4=>?_,fun j i hj=>⟨fun v hv=>?_,(h.st j i hj).2⟩⟩
 ·rcases h2 n hn with h5|h5|h5
  ·exact h.xs n h5 h3 h4
  ·rw[show n=b by omega];exact h.hd
  ·rw[show n=b+c.length by omega];exact h.tl
 ·obtain⟨n,e,h5⟩:=(h.st j i hj).1 v hv;refine⟨n,e,?_⟩
  rcases h5 with h5|⟨h5,h6⟩
  ·exact .inl h5
  ·exact .inr ⟨h1 n h5,h6⟩
theorem kP.close {X Y:Nat→Prop} {c:List aN} {b:Nat} {A:Nat→Prop} {g:Nat→Nat→Prop} (h:kP X c b A g) (h1:∀n,Y n→X n) (h2:∀n,X n→Y n∨(b≤n∧n≤b+c.length)):kP Y c b A g:=by
 refine⟨h.hd,h.tl,fun n hn=>h.xs n (h1 n hn),fun j i hj=>⟨fun v hv=>?_,(h.st j i hj).2⟩⟩;obtain⟨n,e,h5⟩:=(h.st j i hj).1 v hv;refine⟨n,e,?_⟩
 rcases h5 with h5|⟨h5,h6⟩
 ·exact .inl h5
 ·rcases h2 n h5 with h7|⟨h7,h8⟩
  ·exact .inr ⟨h7,h6⟩
  ·exact .inl ⟨h7,h8,fun s hs=>h6 s (by rw[h.xs n h5 h7 h8] at hs;exact hs)⟩
theorem kP.append {X:Nat→Prop} {c d:List aN} {b e:Nat} {A:Nat→Prop} {g f:Nat→Nat→Prop} (h:kP X c b A g) (he:e=b+c.length) (k:kP X d e A f):kP X (c++d) b A fun n=>if n<e then g n else f n:=by
 subst he;have hm:∀n,b+c.length=n→g n=f n:=fun n hn=>by subst hn;rw[h.tl,k.hd]
 refine⟨?_,?_,fun n hn h1 h2=>?_,fun j i hj=>?_⟩
 ·show(if b<b+c.length then g b else f b)=A
  split
  ·exact h.hd
  ·rw[show b=b+c.length by omega];exact k.hd
 ·show(if b+(c++d).length<b+c.length then g _ else f _)=A;rw[if_neg (by rw[List.length_append];omega),List.length_append,←Nat.add_assoc];exact k.tl
 ·show(if n<b+c.length then g n else f n)=A;rw[List.length_append] at h2
  split
  ·exact h.xs n hn h1 (by omega)
  ·exact k.xs n hn (by omega) (by omega)
 ·by_cases lK:j<c.length
  ·rw[List.getElem?_append_left lK] at hj;obtain⟨h1,h2⟩:=h.st j i hj;have hg:(if b+j<b+c.length then g (b+j) else f (b+j))=g (b+j):=if_pos (by omega);simp only[hg];refine⟨fun v hv=>?_,h2⟩;obtain⟨n,e1,h3⟩:=h1 v hv;refine⟨n,e1,?_⟩
   rcases h3 with⟨h3,h4,h5⟩|h3
   ·refine .inl ⟨h3,by rw[List.length_append];omega,fun s hs=>h5 s ?_⟩
    split at hs
    ·exact hs
    ·rw[hm n (by omega)];exact hs
   ·exact .inr h3
  ·rw[List.getElem?_append_right (by omega)] at hj;obtain⟨h1,h2⟩:=k.st (j-c.length) i hj;have Fm:b+c.length+(j-c.length)=b+j:=by omega
   rw[Fm] at h1 h2;have hg:(if b+j<b+c.length then g (b+j) else f (b+j))=f (b+j):=if_neg (by omega);simp only[hg];refine⟨fun v hv=>?_,h2⟩;obtain⟨n,e1,h3⟩:=h1 v hv;refine⟨n,e1,?_⟩
   rcases h3 with⟨h3,h4,h5⟩|h3
   ·refine .inl ⟨by omega,by rw[List.length_append];omega,fun s hs=>h5 s ?_⟩;rw[if_neg (by omega)] at hs;exact hs
   ·exact .inr h3
theorem kP.group {c:List aN} {b:Nat} {A:Nat→Prop} {g:Nat→Nat→Prop} {k:Nat} {q w:aN} (hk:1≤k) (hq:q.op=4∧q.x=((2*k:Nat):Int)) (hw:w.op=4∧w.x=((2*k+1:Nat):Int)) (h:kP (fun _=>False) c (b+1) (fun s=>A s∨s=2*k) g):
  kP (fun _=>False) (q::(c++[w])) b A fun n=>if n≤b∨b+1+c.length<n then A else g n:=by
 have CE:∀(i:aN) (m:Nat),i.op=4→bP m i=[((m+1:Nat):Int)]:=fun i m hi=>by unfold bP;rw[if_neg (by omega),if_neg (by omega),if_neg (by omega)]
 refine⟨if_pos (.inl (by omega)),if_pos (.inr (by simp;omega)),fun n hn=>hn.elim,fun j i hj=>?_⟩
 cases j with
 |zero=>
  simp only[List.getElem?_cons_zero,Option.some.injEq] at hj;subst hj;refine⟨fun v hv=>?_,by rw[hq.1];decide,fun _=>⟨k,hk,.inl hq.2⟩⟩;rw[CE q _ hq.1] at hv;simp only[List.mem_cons,List.not_mem_nil,or_false] at hv;subst hv;refine⟨b+0+1,rfl,.inl ⟨by omega,by simp,fun s hs=>?_⟩⟩;rw[if_neg (by omega)] at hs;rw[show b+0+1=b+1 by omega,h.hd] at hs
  rcases hs with hs|rfl
  ·exact .inl (by rw[if_pos (.inl (by omega))];exact hs)
  ·exact .inr ⟨hq.1,hq.2⟩
 |succ j=>
  rw[List.getElem?_cons_succ] at hj
  by_cases lK:j<c.length
  ·rw[List.getElem?_append_left lK] at hj;obtain⟨h1,h2⟩:=h.st j i hj;have Fm:b+1+j=b+(j+1):=by omega
   rw[Fm] at h1 h2;have hg:(if b+(j+1)≤b∨b+1+c.length<b+(j+1) then A else g (b+(j+1)))=g (b+(j+1)):=if_neg (by omega);simp only[hg];refine⟨fun v hv=>?_,h2⟩;obtain⟨n,e1,h3⟩:=h1 v hv;refine⟨n,e1,?_⟩
   rcases h3 with⟨h3,h4,h5⟩|⟨h3,_⟩
   ·refine .inl ⟨by omega,by simp;omega,fun s hs=>h5 s ?_⟩;rw[if_neg (by omega)] at hs;exact hs
   ·exact h3.elim
  ·rw[List.getElem?_append_right (by omega)] at hj
   have Qc:j=c.length:=by
    rcases Nat.eq_or_lt_of_le (show c.length≤j by omega) with h'|h'
    ·exact h'.symm
    ·rw[List.getElem?_eq_none (by simp;omega)] at hj;cases hj
   subst Qc;simp only[Nat.sub_self,List.getElem?_cons_zero,Option.some.injEq] at hj;subst hj;have hg:(if b+(c.length+1)≤b∨b+1+c.length<b+(c.length+1) then A else g (b+(c.length+1)))=g (b+(c.length+1)):=if_neg (by omega);have ht:g (b+(c.length+1))=fun s=>A s∨s=2*k:=by rw[←h.tl];congr 1;omega
   refine⟨fun v hv=>?_,by rw[hw.1];decide,fun _=>⟨k,hk,.inr ⟨hw.2,by rw[hg,ht];exact .inr rfl⟩⟩⟩;rw[CE w _ hw.1] at hv;simp only[List.mem_cons,List.not_mem_nil,or_false] at hv;subst hv;refine⟨b+(c.length+1)+1,rfl,.inl ⟨by omega,by simp;omega,fun s hs=>?_⟩⟩;rw[if_pos (.inr (by omega))] at hs;rw[hg,ht];exact .inl (.inl hs)
theorem kP.jp {b e:Nat} {X:Nat→Prop} (A:Nat→Prop) (he:X e):kP X [jv e] b A fun _=>A:=by
 refine kP.one (by simp[jv,cq]) (by simp[jv,cq]) fun v hv=>?_;simp only[bP,jv,cq,if_true,List.mem_cons,List.not_mem_nil,or_false] at hv;rw[if_neg (by decide)] at hv;simp only[List.mem_cons,List.not_mem_nil,or_false] at hv;exact⟨e,hv,.inr he⟩
theorem kP.sp {b o:Nat} {lz:Bool} {X:Nat→Prop} (A:Nat→Prop) (he:X o):kP X [kT b o lz] b A fun _=>A:=by
 have h2:(kT b o lz).op=2:=by unfold kT;split<;>rfl
 refine kP.one (by omega) (by omega) fun v hv=>?_;unfold bP at hv;rw[if_pos h2] at hv;unfold kT at hv
 split at hv
 ·simp only[cq,List.mem_cons,List.not_mem_nil,or_false] at hv
  rcases hv with rfl|rfl
  ·exact⟨o,rfl,.inr he⟩
  ·exact⟨b+1,rfl,.inl rfl⟩
 ·simp only[cq,List.mem_cons,List.not_mem_nil,or_false] at hv
  rcases hv with rfl|rfl
  ·exact⟨b+1,rfl,.inl rfl⟩
  ·exact⟨o,rfl,.inr he⟩
def eT (X:Nat→Prop) (c:List aN) (b:Nat) (A:Nat→Prop):Prop:=∃g,kP X c b A g
theorem eT.append {X:Nat→Prop} {c d:List aN} {b e:Nat} {A:Nat→Prop} (h:eT X c b A) (he:e=b+c.length) (k:eT X d e A):eT X (c++d) b A:=by
 obtain⟨g,h⟩:=h;obtain⟨f,k⟩:=k;exact⟨_,h.append he k⟩
theorem vi {A:Nat→Prop} {c:Nat→List aN} {z:Nat} (hl:∀b,(c b).length=z) (hc:∀b,eT (fun _=>False) (c b) b A):∀k b,eT (fun _=>False) (eo c z k b) b A
 |0,b=>⟨_,.nil _ b A⟩
 |k+1,b=>(hc b).append (by rw[hl]) (vi hl hc k (b+z))
theorem vE {A:Nat→Prop} {c:Nat→List aN} {z e:Nat} {lz:Bool} (hl:∀b,(c b).length=z) (hc:∀b,eT (fun _=>False) (c b) b A):∀k b,b+k*(z+1)≤e→eT (fun n=>n=e) (eu (fun s=>kT s e lz) c z k b) b A
 |0,b,_=>⟨_,.nil _ b A⟩
 |k+1,b,he=>by
  rw[Nat.add_mul] at he;obtain⟨g,hg⟩:=hc (b+1)
  have h1:eT (fun n=>n=e) (c (b+1)) (b+1) A:=⟨g,hg.oZ (fun n h=>h.elim) fun n h=>.inr (.inr (by rw[hl];omega))⟩
  have h2:=h1.append (e:=b+1+z) (by rw[hl]) (vE (lz:=lz) hl hc k (b+1+z) (by omega));exact eT.append (c:=[_]) ⟨_,kP.sp A rfl⟩ (e:=b+1) rfl h2
theorem eT.oZ {X Y:Nat→Prop} {c:List aN} {b:Nat} {A:Nat→Prop} (h:eT X c b A) (h1:∀n,X n→Y n) (h2:∀n,Y n→X n∨n≤b∨b+c.length≤n):eT Y c b A:=by
 obtain⟨g,h⟩:=h;exact⟨g,h.oZ h1 h2⟩
theorem eT.close {X Y:Nat→Prop} {c:List aN} {b:Nat} {A:Nat→Prop} (h:eT X c b A) (h1:∀n,Y n→X n) (h2:∀n,X n→Y n∨(b≤n∧n≤b+c.length)):eT Y c b A:=by
 obtain⟨g,h⟩:=h;exact⟨g,h.close h1 h2⟩
theorem BW {A:Nat→Prop} {n:bF} {c:Nat→List aN} {z:Nat} (hl:∀b,(c b).length=z) (hc:∀b,eT (fun _=>False) (c b) b A) (b:Nat):eT (fun _=>False) (ke n c z b) b A:=by
 have hr:=vi hl hc n.mn.toNat b;have zq:(eo c z n.mn.toNat b).length=n.mn.toNat*z:=ie hl _ _;unfold ke
 split
 ·refine hr.append (e:=b+n.mn.toNat*z) (by rw[zq]) ?_;generalize b+n.mn.toNat*z=s;have h1:eT (fun n=>n=s∨n=s+z+2) (c (s+1)) (s+1) A:=(hc (s+1)).oZ (fun n h=>h.elim) fun n h=>by rw[hl];omega
  have h2:eT (fun n=>n=s∨n=s+z+2) [jv s] (s+1+z) A:=⟨_,kP.jp A (.inl rfl)⟩
  have h3:=eT.append (c:=[kT s (s+z+2) n.lz]) (b:=s) ⟨_,kP.sp A (.inr rfl)⟩ (e:=s+1) rfl (h1.append (by rw[hl]) h2);refine eT.close h3 (fun n h=>h.elim) fun n h=>.inr ?_;simp only[List.length_append,List.length_cons,List.length_nil,hl];omega
 ·refine hr.append (e:=b+n.mn.toNat*z) (by rw[zq]) ?_;generalize b+n.mn.toNat*z=s;have h1:=vE (lz:=n.lz) (e:=s+(n.mx.toNat-n.mn.toNat)*(z+1)) hl hc (n.mx.toNat-n.mn.toNat) s (Nat.le_refl _);refine eT.close h1 (fun n h=>h.elim) fun n h=>.inr ?_;rw[mh hl];omega
mutual
theorem nN:∀(t:Tr) (b:Nat) (A:Nat→Prop),t.ok→eT (fun _=>False) (aD t b) b A
 | .mk n ks,b,A,h=>by
  have hlen:=bH (.mk n ks) b h;simp only[Tr.ok] at h;obtain⟨h1,h2⟩:=h;have hcl:=fun b=>kH ks b h2
  have CE:∀(op x y:Int) (rs:List Rg) (m:Nat),op≠2→op≠3→op≠7→∀v∈bP m (cq op x y rs),∃n:Nat,v=(n:Int)∧(n=m+1∨False):=by
   intro op x y rs m a1 a2 a3 v hv;unfold bP at hv;rw[if_neg (show¬(cq op x y rs).op=2 from a1),if_neg (show¬(cq op x y rs).op=3 from a2),if_neg (show¬(cq op x y rs).op=7 from a3)] at hv;simp only[List.mem_cons,List.not_mem_nil,or_false] at hv;exact⟨m+1,hv,.inl rfl⟩
  simp only[aD]
  split
  ·exact⟨_,kP.one (by simp[cq]) (by simp[cq]) (CE 1 0 0 _ b (by decide) (by decide) (by decide))⟩
  ·split
   ·exact⟨_,kP.one (by simp[cq]) (by simp[cq]) (CE 5 0 0 _ b (by decide) (by decide) (by decide))⟩
   ·split
    ·exact⟨_,kP.one (by simp[cq]) (by simp[cq]) (CE 6 0 0 _ b (by decide) (by decide) (by decide))⟩
    ·split
     ·exact mL ks b A h2
     ·split
      ·rename_i h4;have hz:bD n ks.sz ks.len=ks.sz+2*(ks.len-1):=by unfold bD;rw[if_neg (by omega),if_pos h4]
       have ha:=mT (jv (b+bD n ks.sz ks.len)) ks b h2;refine eT.close (X:=fun m=>m=b+bD n ks.sz ks.len) ?_ (fun n h=>h.elim) fun m hm=>.inr ?_
       ·exact wY _ ks b A h2 (by rw[ha,hz];omega)
       ·rw[ha];rw[hz] at hm;omega
      ·split
       ·exact BW hcl (fun b=>mL ks b A h2) b
       ·split
        ·rename_i h6;obtain⟨g,hg⟩:=mL ks (b+1) (fun s=>A s∨s=2*n.cap.toNat) h2
         have jz:1≤n.cap:=by
          rcases h1.2 with h|h|h|h|h<;>omega
         exact⟨_,kP.group (k:=n.cap.toNat) (by omega) ⟨rfl,by show 2*n.cap=_;omega⟩ ⟨rfl,by show 2*n.cap+1=_;omega⟩ hg⟩
        ·exact⟨_,.nil _ b A⟩
theorem mL:∀(ts:bf) (b:Nat) (A:Nat→Prop),ts.ok→eT (fun _=>False) (d_ ts b) b A
 | .nil,b,A,_=>by simp only[d_];exact⟨_,.nil _ b A⟩
 | .cons t ts,b,A,h=>by
  simp only[bf.ok] at h;simp only[d_];exact(nN t b A h.1).append (by rw[bH t b h.1]) (mL ts (b+t.sz) A h.2)
theorem wY (e:Nat):∀(ts:bf) (b:Nat) (A:Nat→Prop),ts.ok→b+(dz (jv e) ts b).length≤e→eT (fun n=>n=e) (dz (jv e) ts b) b A
 | .nil,b,A,_,_=>by simp only[dz];exact⟨_,.nil _ b A⟩
 | .cons t ts,b,A,h,he=>by
  simp only[bf.ok] at h;simp only[dz] at he⊢
  split
  ·rename_i h0;rw[if_pos h0] at he;exact(nN t b A h.1).oZ (fun n h=>h.elim) fun n hn=>.inr (.inr (by omega))
  ·rename_i h0;rw[if_neg h0] at he;simp only[List.length_cons,List.length_append,bH t (b+1) h.1] at he;have h1:eT (fun n=>n=e∨n=b+1+t.sz+1) (aD t (b+1)) (b+1) A:=(nN t (b+1) A h.1).oZ (fun n h=>h.elim) fun n hn=>.inr (.inr (by rw[bH t (b+1) h.1];omega));have h2:eT (fun n=>n=e∨n=b+1+t.sz+1) (dz (jv e) ts (b+t.sz+2)) (b+t.sz+2) A:=(wY e ts (b+t.sz+2) A h.2 (by omega)).oZ (fun n h=>.inl h) fun n hn=>by omega
   have h3:eT (fun n=>n=e∨n=b+1+t.sz+1) (jv e::dz (jv e) ts (b+t.sz+2)) (b+1+t.sz) A:=eT.append (c:=[jv e]) ⟨_,kP.jp A (.inl rfl)⟩ (e:=b+t.sz+2) (by simp only[List.length_cons,List.length_nil];omega) h2;have h4:=eT.append (c:=[kT b (b+1+t.sz+1) false]) (b:=b) ⟨_,kP.sp A (.inr rfl)⟩ (e:=b+1) rfl (h1.append (by rw[bH t (b+1) h.1]) h3);refine eT.close h4 (fun n h=>.inl h) fun n hn=>?_
   rcases hn with hn|hn
   ·exact .inl hn
   ·refine .inr ?_;simp only[List.length_append,List.length_cons,List.length_nil,bH t (b+1) h.1];omega
end
structure IP (gs:List (Nat×Nat)) (pl:List Int) (g:Nat→Nat→Prop) (n i:Nat) (t:ji):Prop where
 le:i≤t.at_
 ml:t.at_≤gs.length
 z:t.pc=0→t.c=bj∧t.at_=i
 b0:1≤t.pc→t.c 0=pl.getD i 0
 b1:t.pc≤n+1→t.c 1=-1
 b2:t.pc=n+2→t.c 1=pl.getD t.at_ 0
 ins:∀s,2≤s→t.c s=-1∨∃a,i≤a∧a≤t.at_∧t.c s=pl.getD a 0
 gr:1≤t.pc→t.pc≤n+1→∀s,g t.pc s→s≠0→t.c s≠-1
 pr:∀k,1≤k→t.c (2*k+1)≠-1→t.c (2*k)≠-1
theorem IP.go {gs:List (Nat×Nat)} {pl:List Int} {g:Nat→Nat→Prop} {n i:Nat} {t:ji} {m a:Nat} (h:IP gs pl g n i t) (h1:1≤t.pc) (h2:t.pc≤n) (hm:1≤m∧m≤n+1) (ha:t.at_≤a∧a≤gs.length) (hg:∀s,g m s→g t.pc s):IP gs pl g n i ⟨m,a,t.c⟩:=by
 refine⟨Nat.le_trans h.le ha.1,ha.2,fun h0=>?_,fun _=>h.b0 h1,fun _=>h.b1 (by omega),fun h0=>?_,fun s hs=>?_,fun _ _ s hs h0=>h.gr h1 (by omega) s (hg s hs) h0,h.pr⟩
 ·simp only at h0;omega
 ·simp only at h0;omega
 ·rcases h.ins s hs with h3|⟨b,h3,h4,h5⟩
  ·exact .inl h3
  ·exact .inr ⟨b,h3,Nat.le_trans h4 ha.1,h5⟩
theorem IP.save {gs:List (Nat×Nat)} {pl:List Int} {g:Nat→Nat→Prop} {n i:Nat} {t:ji} {x:Nat} (jT:∀a,0≤pl.getD a 0) (h:IP gs pl g n i t) (h1:1≤t.pc) (h2:t.pc≤n) (hx:∃k,1≤k∧(x=2*k∨(x=2*k+1∧g t.pc (2*k)))) (hg:∀s,g (t.pc+1) s→g t.pc s∨x=s):IP gs pl g n i ⟨t.pc+1,t.at_,fK t.c x (pl.getD t.at_ 0)⟩:=by
 obtain⟨k,hk,hx⟩:=hx;have hp:=jT t.at_;refine⟨h.le,h.ml,fun h0=>?_,fun _=>?_,fun _=>?_,fun h0=>?_,fun s hs=>?_,fun _ _ s hs h0=>?_,fun q hq hn=>?_⟩
 ·simp only at h0;omega
 ·show fK t.c x _ 0=_;unfold fK;rw[if_neg (by omega)];exact h.b0 h1
 ·show fK t.c x _ 1=_;unfold fK;rw[if_neg (by omega)];exact h.b1 (by omega)
 ·simp only at h0;omega
 ·show fK t.c x _ s=_∨_
  by_cases he:s=x
  ·exact .inr ⟨t.at_,h.le,Nat.le_refl _,by show fK t.c x _ s=_;unfold fK;rw[if_pos he]⟩
  ·unfold fK;rw[if_neg he]
   rcases h.ins s hs with h3|h3
   ·exact .inl h3
   ·exact .inr (by simpa only[he,if_false] using h3)
 ·show fK t.c x _ s≠_;unfold fK
  split
  ·omega
  ·rename_i he
   rcases hg s hs with h3|h3
   ·exact h.gr h1 (by omega) s h3 h0
   ·exact absurd h3.symm he
 ·change fK t.c x _ (2*q+1)≠-1 at hn;show fK t.c x _ (2*q)≠-1;unfold fK at hn⊢
  split
  ·omega
  ·rename_i he
   split at hn
   ·rename_i ya
    rcases hx with hx|⟨hx,LH⟩
    ·omega
    ·have:q=k:=by omega
     subst this;exact h.gr h1 (by omega) _ LH (by omega)
   ·exact h.pr q hq hn
theorem IP.step {tr:Tr} {r:Nat} {gs:List (Nat×Nat)} {pl:List Int} {g:Nat→Nat→Prop} {i:Nat} {t:ji} {l:List ji} (jT:∀a,0≤pl.getD a 0) (hL:kP (fun _=>False) (aD tr 1) 1 (fun s=>s=0) g)
  (h:IP gs pl g (aD tr 1).length i t) (hs:cG (cB tr 0 r) gs pl t=.more l):∀t'∈l,IP gs pl g (aD tr 1).length i t':=by
 generalize hn:(aD tr 1).length=n at*;have Bs:(aD tr (0+1)).length=n:=hn;have IU:(cB tr 0 r)[0]?=some (cq 4 0 0 []):=rfl
 have LW:∀j,j<n→(cB tr 0 r)[j+1]?=(aD tr 1)[j]?:=fun j hj=>by
  show(cq 4 0 0 []::(aD tr (0+1)++_))[j+1]?=_;rw[List.getElem?_cons_succ,List.getElem?_append_left (by omega)]
 have xc:(cB tr 0 r)[n+1]?=some (cq 4 1 0 []):=by
  show(cq 4 0 0 []::(aD tr (0+1)++_))[n+1]?=_;rw[List.getElem?_cons_succ,List.getElem?_append_right (by omega),show n-(aD tr (0+1)).length=0 by omega];rfl
 have Qu:∀j,n+1≤j→(cB tr 0 r)[j+1]?=none∨(cB tr 0 r)[j+1]?=some (cq 7 (r:Nat) 0 []):=fun j hj=>by
  show(cq 4 0 0 []::(aD tr (0+1)++_))[j+1]?=_∨(cq 4 0 0 []::(aD tr (0+1)++_))[j+1]?=_;rw[List.getElem?_cons_succ,List.getElem?_append_right (by omega)]
  obtain⟨q,hq⟩:∃q,j-(aD tr (0+1)).length=q+1:=⟨j-(aD tr (0+1)).length-1,by omega⟩
  rw[hq,List.getElem?_cons_succ]
  cases q with
  |zero=>exact .inr rfl
  |succ q=>exact .inl rfl
 unfold cG at hs;obtain⟨pc,at_,c⟩:=t;simp only at hs
 rcases pc with _|j
 ·rw[IU] at hs;obtain⟨hz,he⟩:=h.z rfl;simp only at hz he;subst hz;subst he;change DJ.more [⟨0+1,at_,fK bj (Int.toNat 0) (pl.getD at_ 0)⟩]=.more l at hs;cases hs;intro t' ht;simp only[List.mem_cons,List.not_mem_nil,or_false] at ht;subst ht;refine⟨Nat.le_refl _,h.ml,fun h0=>by simp at h0,fun _=>rfl,fun _=>rfl,fun h0=>by simp at h0,fun s hs=>.inl ?_,fun _ _ s hs h0=>?_,fun q hq hn=>?_⟩
  ·show fK bj 0 _ s=-1;unfold fK;rw[if_neg (by omega)];rfl
  ·have h9:=hL.hd;change g 1 s at hs;rw[h9] at hs;exact absurd hs h0
  ·exact absurd (show fK bj (Int.toNat 0) (pl.getD at_ 0) (2*q+1)=-1 by unfold fK;rw[if_neg (by simp)];rfl) hn
 ·by_cases hj:j<n
  ·rw[LW j hj] at hs
   split at hs
   ·cases hs;intro t' ht;cases ht
   ·rename_i ins hi;obtain⟨CE,h7,h4⟩:=hL.st j ins hi;rw[show 1+j=j+1 by omega] at CE h4
    have Fe:∀v∈bP (j+1) ins,∃m:Nat,v=(m:Int)∧(1≤m∧m≤n+1)∧∀s,g m s→g (j+1) s∨(ins.op=4∧ins.x=(s:Int)):=fun v hv=>by
     obtain⟨m,e,h1⟩:=CE v hv
     rcases h1 with⟨h1,h2,h3⟩|⟨h1,_⟩
     ·exact⟨m,e,⟨h1,by omega⟩,h3⟩
     ·exact h1.elim
    have JZ:ins.op≠4→∀v∈bP (j+1) ins,∀a,at_≤a→a≤gs.length→IP gs pl g n i ⟨v.toNat,a,c⟩:=fun h4 v hv a h1 h2=>by
     obtain⟨m,rfl,hm,hg⟩:=Fe v hv;exact h.go (by simp) (by simp;omega) (by simpa using hm) ⟨h1,h2⟩ fun s hs=>(hg s (by simpa using hs)).elim id fun h=>absurd h.1 h4
    rw[if_neg h7] at hs
    by_cases h2:ins.op=2
    ·rw[if_pos h2] at hs;cases hs;intro t' ht;simp only[List.mem_cons,List.not_mem_nil,or_false] at ht;have hY:bP (j+1) ins=[ins.x,ins.y]:=by unfold bP;rw[if_pos h2]
     rcases ht with rfl|rfl
     ·exact JZ (by omega) _ (by rw[hY];simp) _ (Nat.le_refl _) h.ml
     ·exact JZ (by omega) _ (by rw[hY];simp) _ (Nat.le_refl _) h.ml
    ·rw[if_neg h2] at hs
     by_cases h3:ins.op=3
     ·rw[if_pos h3] at hs;cases hs;intro t' ht;simp only[List.mem_cons,List.not_mem_nil,or_false] at ht;subst ht;exact JZ (by omega) ins.x (by unfold bP;rw[if_neg h2,if_pos h3];simp) _ (Nat.le_refl _) h.ml
     ·rw[if_neg h3] at hs;have x6:bP (j+1) ins=[((j+1+1:Nat):Int)]:=by unfold bP;rw[if_neg h2,if_neg h3,if_neg h7]
      by_cases h4':ins.op=4
      ·rw[if_pos h4'] at hs;cases hs;intro t' ht;simp only[List.mem_cons,List.not_mem_nil,or_false] at ht;subst ht;obtain⟨k,hk,hx⟩:=h4 h4';obtain⟨m,e,hm,hg⟩:=Fe ((j+1+1:Nat):Int) (by rw[x6];simp);have PM:m=j+1+1:=by omega
       subst PM;refine h.save jT (by simp) (by simp;omega) ⟨k,hk,?_⟩ fun s hs=>?_
       ·rcases hx with hx|⟨hx,LH⟩
        ·exact .inl (by omega)
        ·exact .inr ⟨by omega,LH⟩
       ·rcases hg s hs with h5|⟨_,h5⟩
        ·exact .inl h5
        ·exact .inr (by omega)
      ·rw[if_neg h4'] at hs;have EA:=JZ h4' ((j+1+1:Nat):Int) (by rw[x6];simp);simp only[Int.toNat_natCast] at EA
       split at hs
       ·cases hs;intro t' ht
        split at ht
        ·simp only[List.mem_cons,List.not_mem_nil,or_false] at ht;subst ht;exact EA _ (Nat.le_refl _) h.ml
        ·cases ht
       ·split at hs
        ·cases hs;intro t' ht
         split at ht
         ·simp only[List.mem_cons,List.not_mem_nil,or_false] at ht;subst ht;exact EA _ (Nat.le_refl _) h.ml
         ·cases ht
        ·cases hs;intro t' ht
         split at ht
         ·rename_i hlt;simp only[List.mem_cons,List.not_mem_nil,or_false] at ht;subst ht;exact EA _ (by omega) (by omega)
         ·cases ht
  ·by_cases Qe:j=n
   ·subst Qe;rw[xc] at hs;change DJ.more [⟨_+1,at_,fK c (Int.toNat 1) (pl.getD at_ 0)⟩]=.more l at hs;cases hs;intro t' ht;simp only[List.mem_cons,List.not_mem_nil,or_false] at ht;subst ht;refine⟨h.le,h.ml,fun h0=>by simp at h0,fun _=>?_,fun h0=>(by change j+1+1≤j+1 at h0;omega),fun _=>rfl,fun s hs=>?_,fun _ h0=>(by change j+1+1≤j+1 at h0;omega),fun q hq hn=>?_⟩
    ·exact h.b0 (by simp)
    ·have:=h.ins s hs;show fK c 1 _ s=_∨∃a,_∧_∧fK c 1 _ s=_;unfold fK;rw[if_neg (by omega)];exact this
    ·change fK c 1 _ (2*q+1)≠-1 at hn;show fK c 1 _ (2*q)≠-1;unfold fK at hn⊢;rw[if_neg (by omega)] at hn⊢;exact h.pr q hq hn
   ·rcases Qu j (by omega) with h9|h9
    ·rw[h9] at hs;cases hs;intro t' ht;cases ht
    ·rw[h9] at hs;simp only[cq,if_true] at hs;cases hs
theorem IP.found {tr:Tr} {r:Nat} {gs:List (Nat×Nat)} {pl:List Int} {g:Nat→Nat→Prop} {i:Nat} {t:ji} (hL:kP (fun _=>False) (aD tr 1) 1 (fun s=>s=0) g)
  (h:IP gs pl g (aD tr 1).length i t) (hs:cG (cB tr 0 r) gs pl t=.found):t.c 0=pl.getD i 0∧t.c 1=pl.getD t.at_ 0:=by
 have gw:∃q,(cB tr 0 r)[t.pc]?=some q∧q.op=7:=by
  unfold cG at hs
  split at hs
  ·cases hs
  ·rename_i q hq;refine⟨q,hq,?_⟩
   split at hs
   ·assumption
   ·repeat' split at hs
    all_goals cases hs
 obtain⟨q,hq,h7⟩:=gw
 have hlen:(cB tr 0 r).length=(aD tr 1).length+3:=by
  show(cq 4 0 0 []::(aD tr (0+1)++_)).length=_;simp only[List.length_cons,List.length_append,List.length_nil]
 have hlt:=bn hq
 have Ia:t.pc=(aD tr 1).length+2:=by
  rcases Nat.eq_zero_or_pos t.pc with h0|h0
  ·rw[h0] at hq;cases hq;cases h7
  ·obtain⟨j,hj⟩:∃j,t.pc=j+1:=⟨t.pc-1,by omega⟩
   rw[hj] at hq hlt
   by_cases h1:j<(aD tr 1).length
   ·have we:(aD tr 1)[j]?=some q:=by
     rw[←hq];show _=(cq 4 0 0 []::(aD tr (0+1)++_))[j+1]?;rw[List.getElem?_cons_succ,List.getElem?_append_left h1]
    exact absurd h7 (hL.st j q we).2.1
   ·by_cases h2:j=(aD tr 1).length
    ·have we:(cB tr 0 r)[j+1]?=some (cq 4 1 0 []):=by
      show(cq 4 0 0 []::(aD tr (0+1)++_))[j+1]?=_;rw[List.getElem?_cons_succ,List.getElem?_append_right (by rw[h2];exact Nat.le_refl _),show j-(aD tr (0+1)).length=0 by rw[h2];exact Nat.sub_self _];rfl
     rw[we] at hq;cases hq;cases h7
    ·omega
 exact⟨h.b0 (by omega),h.b2 Ia⟩
def yY (n:Nat) (i:aN):aN:=if i.op=2 then⟨2,i.x+n,i.y+n,i.rd,i.rs⟩ else if i.op=3 then⟨3,i.x+n,i.y,i.rd,i.rs⟩ else i
theorem o9 (n:Nat) {op:Int} (x y:Int) (rs:List Rg) (h2:op≠2) (h3:op≠3):yY n (cq op x y rs)=cq op x y rs:=by
 unfold yY cq;rw[if_neg h2,if_neg h3]
theorem xk (n s o:Nat) (lz:Bool):yY n (kT s o lz)=kT (s+n) (o+n) lz:=by
 cases lz
 ·show(⟨2,((s+1:Nat):Int)+n,(o:Int)+n,_,_⟩:aN)=cq 2 ((s+n+1:Nat):Int) ((o+n:Nat):Int) [];unfold cq
  congr 1;omega
 ·show(⟨2,(o:Int)+n,((s+1:Nat):Int)+n,_,_⟩:aN)=cq 2 ((o+n:Nat):Int) ((s+n+1:Nat):Int) [];unfold cq
  congr 1;omega
theorem BR (n e:Nat):yY n (jv e)=jv (e+n):=by
 show(⟨3,(e:Int)+n,0,_,_⟩:aN)=cq 3 ((e+n:Nat):Int) 0 [];unfold cq
 congr 1
theorem tp {c:Nat→List aN} {z n:Nat} (hc:∀b,c (b+n)=(c b).map (yY n)):∀k b,eo c z k (b+n)=(eo c z k b).map (yY n)
 |0,b=>rfl
 |k+1,b=>by
  have h:=tp hc (z:=z) k (b+z);rw[Nat.add_right_comm] at h;rw[eo,eo,List.map_append,hc,h]
theorem y_ {sp M7:Nat→aN} {c:Nat→List aN} {z n:Nat} (hs:∀s,M7 (s+n)=yY n (sp s)) (hc:∀b,c (b+n)=(c b).map (yY n)):∀k b,eu M7 c z k (b+n)=(eu sp c z k b).map (yY n)
 |0,b=>rfl
 |k+1,b=>by
  have h:=y_ hs hc (z:=z) k (b+1+z);have e1:b+1+z+n=b+n+1+z:=by omega
  have e2:b+n+1=b+1+n:=by omega
  rw[e1] at h;rw[eu,eu,List.map_cons,List.map_append,hs,h,e2,hc]
theorem DY {nd:bF} {c:Nat→List aN} {z n b:Nat} (hc:∀b,c (b+n)=(c b).map (yY n)):ke nd c z (b+n)=(ke nd c z b).map (yY n):=by
 unfold ke
 split
 ·rw[List.map_append,tp hc,List.map_cons,List.map_append,xk,List.map_cons,List.map_nil,BR];have e1:b+n+nd.mn.toNat*z=b+nd.mn.toNat*z+n:=by omega
  have e2:b+nd.mn.toNat*z+n+1=b+nd.mn.toNat*z+1+n:=by omega
  have e3:b+nd.mn.toNat*z+n+z+2=b+nd.mn.toNat*z+z+2+n:=by omega
  rw[e1,e2,e3,hc]
 ·rw[List.map_append,tp hc];have e1:b+n+nd.mn.toNat*z=b+nd.mn.toNat*z+n:=by omega
  rw[e1]
  congr 1
  refine y_ (fun s=>?_) hc _ _;rw[xk]
  congr 1
  omega
mutual
theorem qZ (n:Nat):∀(t:Tr) (b:Nat),aD t (b+n)=(aD t b).map (yY n)
 | .mk nd ks,b=>by
  have hc:=fun b=>zK n ks b;have ha:=fun e b=>zT n e ks b;simp only[aD]
  split
  ·rw[List.map_cons,List.map_nil,o9 _ _ _ _ (by decide) (by decide)]
  split
  ·rw[List.map_cons,List.map_nil,o9 _ _ _ _ (by decide) (by decide)]
  split
  ·rw[List.map_cons,List.map_nil,o9 _ _ _ _ (by decide) (by decide)]
  split
  ·exact hc b
  split
  ·rw[Nat.add_right_comm];exact ha _ b
  split
  ·exact DY hc
  split
  ·rw[List.map_cons,List.map_append,List.map_cons,List.map_nil,o9 _ _ _ _ (by decide) (by decide),o9 _ _ _ _ (by decide) (by decide),Nat.add_right_comm,hc]
  ·rfl
theorem zK (n:Nat):∀(ts:bf) (b:Nat),d_ ts (b+n)=(d_ ts b).map (yY n)
 | .nil,b=>by simp only[d_,List.map_nil]
 | .cons t ts,b=>by
  have h:=zK n ts (b+t.sz);rw[Nat.add_right_comm] at h;simp only[d_,List.map_append];rw[qZ n t b,h]
theorem zT (n:Nat):∀(e:Nat) (ts:bf) (b:Nat),dz (jv (e+n)) ts (b+n)=(dz (jv e) ts b).map (yY n)
 |e,.nil,b=>by simp only[dz,List.map_nil]
 |e,.cons t ts,b=>by
  have h:=zT n e ts (b+t.sz+2);have h1:=qZ n t (b+1);have e1:b+t.sz+2+n=b+n+t.sz+2:=by omega
  have e2:b+1+n=b+n+1:=by omega
  have e3:b+1+t.sz+1+n=b+n+1+t.sz+1:=by omega
  rw[e1] at h;rw[e2] at h1;simp only[dz]
  split
  ·exact qZ n t b
  ·rw[List.map_cons,List.map_append,List.map_cons,xk,BR,h1,h,e3]
end
def nU (lo hi:Nat) (i:aN):Prop:=i.op≠7∧(i.op=2→((lo:Int)≤i.x∧i.x≤hi)∧(lo:Int)≤i.y∧i.y≤hi)∧(i.op=3→(lo:Int)≤i.x∧i.x≤hi)
theorem nU.mono {lo hi sE iH:Nat} {i:aN} (h:nU lo hi i) (h1:sE≤lo) (h2:hi≤iH):nU sE iH i:=
 ⟨h.1,fun e=>by have:=h.2.1 e;omega,fun e=>by have:=h.2.2 e;omega⟩
theorem nU.mk {lo hi:Nat} {op:Int} (x y:Int) (rs:List Rg) (h2:op≠2) (h3:op≠3) (h7:op≠7):nU lo hi (cq op x y rs):=⟨h7,fun h=>absurd h h2,fun h=>absurd h h3⟩
theorem nU.sp {lo hi s o:Nat} {lz:Bool} (h1:lo≤s+1∧s+1≤hi) (h2:lo≤o∧o≤hi):nU lo hi (kT s o lz):=by
 cases lz
 ·exact⟨by show(2:Int)≠7;decide,fun _=>by show((lo:Int)≤((s+1:Nat):Int)∧((s+1:Nat):Int)≤hi)∧(lo:Int)≤(o:Int)∧(o:Int)≤hi;omega,fun h=>absurd h (by show¬(2:Int)=3;decide)⟩
 ·exact⟨by show(2:Int)≠7;decide,fun _=>by show((lo:Int)≤(o:Int)∧(o:Int)≤hi)∧(lo:Int)≤((s+1:Nat):Int)∧((s+1:Nat):Int)≤hi;omega,fun h=>absurd h (by show¬(2:Int)=3;decide)⟩
theorem nU.jp {lo hi e:Nat} (h1:lo≤e∧e≤hi):nU lo hi (jv e):=
 ⟨by show(3:Int)≠7;decide,fun h=>absurd h (by show¬(3:Int)=2;decide),fun _=>by show(lo:Int)≤(e:Int)∧(e:Int)≤hi;omega⟩
theorem tq {c:Nat→List aN} {z:Nat} (hc:∀b,∀i∈c b,nU b (b+z) i):∀k b,∀i∈eo c z k b,nU b (b+k*z) i
 |0,b,i,hi=>by cases hi
 |k+1,b,i,hi=>by
  simp only[eo] at hi;rw[Nat.succ_mul]
  rcases List.mem_append.1 hi with hi|hi
  ·exact(hc b i hi).mono (Nat.le_refl _) (by omega)
  ·exact(tq hc k _ i hi).mono (by omega) (by omega)
theorem za {sp:Nat→aN} {c:Nat→List aN} {z lo hi:Nat} (hs:∀s,lo≤s→s+1≤hi→nU lo hi (sp s)) (hc:∀b,∀i∈c b,nU b (b+z) i):∀k b,lo≤b→b+k*(z+1)≤hi→∀i∈eu sp c z k b,nU lo hi i
 |0,b,_,_,i,iH=>by cases iH
 |k+1,b,h1,h2,i,iH=>by
  simp only[eu] at iH;rw[Nat.succ_mul] at h2
  rcases List.mem_cons.1 iH with rfl|iH
  ·exact hs b h1 (by omega)
  ·rcases List.mem_append.1 iH with iH|iH
   ·exact(hc _ i iH).mono (by omega) (by omega)
   ·exact za hs hc k _ (by omega) (by omega) i iH
mutual
theorem q_:∀(t:Tr) (b:Nat),t.ok→∀i∈aD t b,nU b (b+t.sz) i
 | .mk n ks,b,cH,i,hi=>by
  simp only[Tr.ok] at cH;have hc:=fun b=>zL ks b cH.2;obtain⟨_,hq⟩:=cH.1;simp only[aD] at hi;simp only[Tr.sz]
  by_cases q2:n.op=2
  ·rw[if_pos q2] at hi;simp only[List.mem_cons,List.not_mem_nil,or_false] at hi;subst hi;exact nU.mk _ _ _ (by decide) (by decide) (by decide)
  rw[if_neg q2] at hi
  by_cases q7:n.op=7
  ·rw[if_pos q7] at hi;simp only[List.mem_cons,List.not_mem_nil,or_false] at hi;subst hi;exact nU.mk _ _ _ (by decide) (by decide) (by decide)
  rw[if_neg q7] at hi
  by_cases q8:n.op=8
  ·rw[if_pos q8] at hi;simp only[List.mem_cons,List.not_mem_nil,or_false] at hi;subst hi;exact nU.mk _ _ _ (by decide) (by decide) (by decide)
  rw[if_neg q8] at hi
  have hz:∀s k,bD n s k=if n.op=4 then s+2*(k-1) else if n.op=6 then s+2 else if n.op=5 then(if n.mx=-1 then n.mn.toNat*s+s+2 else n.mn.toNat*s+(n.mx.toNat-n.mn.toNat)*(s+1)) else s:=by
   intro s k;unfold bD;rw[if_neg (by omega)]
  by_cases q3:n.op=3
  ·rw[if_pos q3] at hi;rw[hz,if_neg (by omega),if_neg (by omega),if_neg (by omega)];exact hc b i hi
  rw[if_neg q3] at hi
  by_cases q4:n.op=4
  ·rw[if_pos q4] at hi;have HZ:bD n ks.sz ks.len=ks.sz+2*(ks.len-1):=by rw[hz,if_pos q4]
   rw[HZ] at hi⊢;exact zU ks b (b+(ks.sz+2*(ks.len-1))) cH.2 (Nat.le_refl _) i hi
  rw[if_neg q4] at hi
  by_cases q5:n.op=5
  ·rw[if_pos q5] at hi;rw[hz,if_neg q4,if_neg (by omega),if_pos q5];unfold ke at hi
   by_cases qm:n.mx=-1
   ·rw[if_pos qm] at hi⊢
    rcases List.mem_append.1 hi with hi|hi
    ·exact(tq hc _ _ i hi).mono (Nat.le_refl _) (by omega)
    ·rcases List.mem_cons.1 hi with rfl|hi
     ·exact nU.sp (by omega) (by omega)
     ·rcases List.mem_append.1 hi with hi|hi
      ·exact(hc _ i hi).mono (by omega) (by omega)
      ·simp only[List.mem_cons,List.not_mem_nil,or_false] at hi;subst hi;exact nU.jp (by omega)
   ·rw[if_neg qm] at hi⊢
    rcases List.mem_append.1 hi with hi|hi
    ·exact(tq hc _ _ i hi).mono (Nat.le_refl _) (by omega)
    ·exact za (fun s h1 h2=>nU.sp (by omega) (by omega)) hc _ _ (by omega) (by omega) i hi
  rw[if_neg q5] at hi
  by_cases q6:n.op=6
  ·rw[if_pos q6] at hi;rw[hz,if_neg q4,if_pos q6]
   rcases List.mem_cons.1 hi with rfl|hi
   ·exact nU.mk _ _ _ (by decide) (by decide) (by decide)
   ·rcases List.mem_append.1 hi with hi|hi
    ·exact(hc _ i hi).mono (by omega) (by omega)
    ·simp only[List.mem_cons,List.not_mem_nil,or_false] at hi;subst hi;exact nU.mk _ _ _ (by decide) (by decide) (by decide)
  ·rw[if_neg q6] at hi;cases hi
theorem zL:∀(ts:bf) (b:Nat),ts.ok→∀i∈d_ ts b,nU b (b+ts.sz) i
 | .nil,b,_,i,hi=>by simp[d_] at hi
 | .cons t ts,b,cH,i,hi=>by
  simp only[bf.ok] at cH;simp only[d_] at hi;simp only[bf.sz]
  rcases List.mem_append.1 hi with hi|hi
  ·exact(q_ t b cH.1 i hi).mono (Nat.le_refl _) (by omega)
  ·exact(zL ts _ cH.2 i hi).mono (by omega) (by omega)
theorem zU:∀(ts:bf) (b e:Nat),ts.ok→b+(ts.sz+2*(ts.len-1))≤e→∀i∈dz (jv e) ts b,nU b e i
 | .nil,b,e,_,_,i,hi=>by simp[dz] at hi
 | .cons t ts,b,e,cH,he,i,hi=>by
  simp only[bf.ok] at cH;simp only[dz] at hi;simp only[bf.sz,bf.len] at he
  by_cases q:ts.len=0
  ·rw[if_pos q] at hi;exact(q_ t b cH.1 i hi).mono (Nat.le_refl _) (by omega)
  ·rw[if_neg q] at hi
   rcases List.mem_cons.1 hi with rfl|hi
   ·exact nU.sp (by omega) (by omega)
   ·rcases List.mem_append.1 hi with hi|hi
    ·exact(q_ t _ cH.1 i hi).mono (by omega) (by omega)
    ·rcases List.mem_cons.1 hi with rfl|hi
     ·exact nU.jp (by omega)
     ·exact(zU ts _ e cH.2 (by omega) i hi).mono (by omega) (by omega)
end
theorem qY (r:Nat) (c:List aN) (s:List Int):eF [] r c s=⟨c,s,0,0⟩:=by simp only[eF]
theorem wM (a:List bF):aH [a]=if bN a=false then⟨[],[],1,0⟩ else if 400<min (bV a).sz 401+3 then⟨[],[],12,0⟩ else⟨cB (bV a) 0 0,[0],0,0⟩:=by
 unfold aH;rw[if_neg (by simp),eF];simp only[qY,List.length_nil,List.nil_append,Nat.zero_add]
 rfl
theorem eE {a:List bF} (h:(aH [a]).e=0):bN a=true∧(aH [a]).code=cB (bV a) 0 0∧(aH [a]).aK=[0]:=by
 rw[wM] at h⊢
 split at h
 ·cases h
 ·rename_i h1
  split at h
  ·cases h
  ·rename_i h2;rw[if_neg h1,if_neg h2];exact⟨by cases hr:bN a with|true=>rfl|false=>exact absurd hr h1,rfl,rfl⟩
mutual
theorem Tr.uniq:∀(t u:Tr) (x y:List bF),t.ok→u.ok→t.flat++x=u.flat++y→t=u∧x=y
 | .mk n ks,.mk m js,x,y,h1,h2,e=>by
  simp only[Tr.flat,List.cons_append,List.cons.injEq] at e;obtain⟨rfl,e⟩:=e;simp only[Tr.ok] at h1 h2;have k1:=h1.1.1;have k2:=h2.1.1;obtain⟨rfl,e2⟩:=bf.uniq ks js x y h1.2 h2.2 (by omega) e;exact⟨rfl,e2⟩
theorem bf.uniq:∀(ts us:bf) (x y:List bF),ts.ok→us.ok→ts.len=us.len→ts.flat++x=us.flat++y→ts=us∧x=y
 | .nil,.nil,x,y,_,_,_,e=>⟨rfl,by simpa[bf.flat] using e⟩
 | .cons t ts,.cons u us,x,y,h1,h2,hl,e=>by
  simp only[bf.flat,List.append_assoc] at e;simp only[bf.ok] at h1 h2;simp only[bf.len] at hl;obtain⟨rfl,e2⟩:=Tr.uniq t u _ _ h1.1 h2.1 e;obtain⟨rfl,e3⟩:=bf.uniq ts us x y h1.2 h2.2 (by omega) e2;exact⟨rfl,e3⟩
 | .nil,.cons _ _,_,_,_,_,hl,_=>by simp[bf.len] at hl
 | .cons _ _,.nil,_,_,_,_,hl,_=>by simp[bf.len] at hl
end
theorem uO {n:bF} {l:List bF} (hk:n.kids=1) (h:bN (n::l)=true):∃t:Tr,bV (n::l)=.mk n (.cons t .nil)∧t.ok∧t.flat=l:=by
 obtain⟨h1,h2⟩:=l_ h;generalize bV (n::l)=T at*;obtain⟨m,ks⟩:=T;simp only[Tr.flat,List.cons.injEq] at h2;obtain⟨rfl,h2⟩:=h2;simp only[Tr.ok] at h1;have:=h1.1.1;obtain⟨t,rfl⟩:=bf.mr (ks:=ks) (by omega);simp only[bf.flat,List.append_nil] at h2;simp only[bf.ok] at h1;exact⟨t,rfl,h1.2.1,h2⟩
theorem uN {n:bF} {l:List bF} (hk:n.kids=2) (h:bN (n::l)=true):∃t u:Tr,bV (n::l)=.mk n (.cons t (.cons u .nil))∧t.ok∧u.ok∧t.flat++u.flat=l:=by
 obtain⟨h1,h2⟩:=l_ h;generalize bV (n::l)=T at*;obtain⟨m,ks⟩:=T;simp only[Tr.flat,List.cons.injEq] at h2;obtain⟨rfl,h2⟩:=h2;simp only[Tr.ok] at h1;have hkk:=h1.1.1
 cases ks with
 |nil=>simp only[bf.len] at hkk;omega
 |cons t ts=>
  simp only[bf.len] at hkk;obtain⟨u,rfl⟩:=bf.mr (ks:=ts) (by omega);simp only[bf.flat,List.append_nil] at h2;simp only[bf.ok] at h1;exact⟨t,u,rfl,h1.2.1,h1.2.2.1,h2⟩
def pf (mn mx:Int):bF:=fy 5 mn mx false 0 1 []
def Bc:bF:=fy 3 0 0 false 0 2 []
theorem yu {l:List bF} (h1:bN (pf 2 2::l)=true) (h2:bN (Bc::(l++l))=true) (b:Nat):aD (bV (pf 2 2::l)) b=aD (bV (Bc::(l++l))) b:=by
 obtain⟨t,e1,t1,t2⟩:=uO rfl h1;obtain⟨u,v,e2,u1,v1,uv⟩:=uN rfl h2;rw[←t2] at uv;obtain⟨rfl,hv⟩:=Tr.uniq u t _ _ u1 t1 uv;obtain⟨rfl,_⟩:=Tr.uniq v u [] [] v1 u1 (by rw[List.append_nil,List.append_nil];exact hv);rw[e1,e2];have hc:=mK v;have hs:=o5 v;simp only[aD,pf,Bc,fy];simp only[d_];simp[ke,eo,eu,hc,hs,d_,bf.sz]
theorem Be {l:List bF} (h1:bN (pf 1 (-1)::l)=true) (h2:bN (Bc::(l++(pf 0 (-1)::l)))=true) (b:Nat):aD (bV (pf 1 (-1)::l)) b=aD (bV (Bc::(l++(pf 0 (-1)::l)))) b:=by
 obtain⟨t,e1,t1,t2⟩:=uO rfl h1;obtain⟨u,v,e2,u1,v1,uv⟩:=uN rfl h2;rw[←t2] at uv;obtain⟨rfl,hv⟩:=Tr.uniq u t _ _ u1 t1 uv;obtain⟨m,js⟩:=v;simp only[Tr.flat,List.cons.injEq] at hv;obtain⟨rfl,hv⟩:=hv;simp only[Tr.ok] at v1;have hk:=v1.1.1;obtain⟨w,rfl⟩:=bf.mr (ks:=js) (by simp only[pf,fy] at hk;omega);simp only[bf.flat,List.append_nil] at hv;simp only[bf.ok] at v1;obtain⟨rfl,_⟩:=Tr.uniq w u [] [] v1.2.1 u1 (by rw[List.append_nil,List.append_nil];exact hv);rw[e1,e2];have hc:=mK w;have hs:=o5 w;simp only[aD,pf,Bc,fy,d_];simp[ke,eo,eu,hc,hs,d_,bf.sz]
theorem Aw {c:UInt8} (h:c.toNat<128) (y:List UInt8):gQ (c::y)=(c.toNat,1):=by
 have hm:bu c.toNat=(0,0,0):=by unfold bu;rw[if_pos h]
 have e:eC (c::y)=(c.toNat,1,false):=by
  show(if(bu c.toNat).1<0 then(0,0,false) else dM (bu c.toNat).1.toNat ((bu c.toNat).1.toNat+1) (if(bu c.toNat).1>0 then c.toNat %(64/2^(bu c.toNat).1.toNat) else c.toNat) (bu c.toNat).2.1 (bu c.toNat).2.2 y)=_;rw[hm];rfl
 unfold gQ;rw[e];rfl
theorem eK {c:UInt8} (h:c.toNat<128) (y:List UInt8):aV (c::y)=(c.toNat,1)::aV y:=by
 rw[jC (by simp),Aw h];rfl
theorem va {c:UInt8} (hc:c.toNat<128) (y:List UInt8):∀(left n r lo hi:Nat) (xs:List UInt8),128≤lo→(dM left n r lo hi (xs++c::y)).1=(dM left n r lo hi xs).1∧(dM left n r lo hi (xs++c::y)).2.1=(dM left n r lo hi xs).2.1
 |0,_,_,_,_,xs,_=>by cases xs<;>exact⟨rfl,rfl⟩
 |left+1,n,r,lo,hi,[],h=>by
  have e1:dM (left+1) n r lo hi ([]++c::y)=if c.toNat<lo∨hi<c.toNat then(0,0,false) else dM left n (r*64+c.toNat %64) 128 191 y:=rfl;rw[e1,if_pos (.inl (by omega))];exact⟨rfl,rfl⟩
 |left+1,n,r,lo,hi,x::xs,h=>by
  have e1:dM (left+1) n r lo hi ((x::xs)++c::y)=if x.toNat<lo∨hi<x.toNat then(0,0,false) else dM left n (r*64+x.toNat %64) 128 191 (xs++c::y):=rfl;have e2:dM (left+1) n r lo hi (x::xs)=if x.toNat<lo∨hi<x.toNat then(0,0,false) else dM left n (r*64+x.toNat %64) 128 191 xs:=rfl;rw[e1,e2]
  split
  ·exact⟨rfl,rfl⟩
  ·exact va hc y left n _ 128 191 xs (Nat.le_refl _)
theorem D3 {c:UInt8} (hc:c.toNat<128) (y:List UInt8) {x:List UInt8} (hx:x≠[]):gQ (x++c::y)=gQ x:=by
 cases x with
 |nil=>exact absurd rfl hx
 |cons h xs=>
  have key:(eC ((h::xs)++c::y)).1=(eC (h::xs)).1∧(eC ((h::xs)++c::y)).2.1=(eC (h::xs)).2.1:=by
   have e:∀z:List UInt8,eC (h::z)=if(bu h.toNat).1<0 then(0,0,false) else dM (bu h.toNat).1.toNat ((bu h.toNat).1.toNat+1) (if(bu h.toNat).1>0 then h.toNat %(64/2^(bu h.toNat).1.toNat) else h.toNat) (bu h.toNat).2.1 (bu h.toNat).2.2 z:=fun z=>rfl;rw[List.cons_append,e,e]
   split
   ·exact⟨rfl,rfl⟩
   ·by_cases h0:(bu h.toNat).1.toNat=0
    ·rw[h0];cases xs<;>exact⟨rfl,rfl⟩
    ·have wm:128≤(bu h.toNat).2.1:=by
      unfold bu at h0⊢
      repeat' (split at h0)
      all_goals first|(exfalso;exact h0 rfl)|skip
      all_goals simp only[*,if_true,if_false]
      all_goals first|omega|decide|simp
     exact va hc y _ _ _ _ _ xs wm
  unfold gQ;rw[key.1,key.2]
theorem z8 {c:UInt8} (hc:c.toNat<128) (y:List UInt8):∀(n:Nat) (x:List UInt8),x.length≤n→aV (x++c::y)=aV x++aV (c::y)
 |_,[],_=>rfl
 |0,h::xs,hl=>by simp at hl
 |n+1,h::xs,hl=>by
  have h1:=D3 hc y (x:=h::xs) (by simp);have h2:=tA (b:=h::xs) (by simp);have h3:=km (h::xs);rw[jC (b:=(h::xs)++c::y) (by simp),jC (b:=h::xs) (by simp),h1,List.drop_append_of_le_length h2,z8 hc y n _ (by rw[List.length_drop];simp only[List.length_cons] at*;omega)]
  rfl
def brk (a z:List UInt8):List UInt8:=40::63::58::(a++41::z)
theorem E1 (a z:List UInt8):aV (brk a z)=(40,1)::(63,1)::(58,1)::(aV a++(41,1)::aV z):=by
 unfold brk;rw[eK (by decide),eK (by decide),eK (by decide),z8 (by decide) z a.length a (Nat.le_refl _),eK (by decide)]
 rfl
def xe {α:Type} (R:PR α):Prop:=∀e w,R=.er e w→e≠0
theorem yX (gs:List (Nat×Nat)) (f:Nat):xe (fJ gs f):=by
 intro e w h;unfold fJ at h
 split at h
 ·cases h;decide
 ·repeat' (split at h)
  all_goals first|(cases h;done)|(cases h;decide)
theorem y9 (gs:List (Nat×Nat)) (i:Nat):xe (gG gs i):=by
 intro e w h;unfold gG at h
 split at h
 ·cases h;decide
 ·split at h
  ·cases h;decide
  ·split at h
   ·split at h
    ·cases h
    ·rename_i hs;cases h;exact yX _ _ _ _ hs
   ·split at h<;>cases h
theorem Eh (gs:List (Nat×Nat)) (i:Nat):xe (fw gs i):=by
 intro e w h;unfold fw at h
 split at h
 ·rename_i hs;cases h;exact y9 _ _ _ _ hs
 ·cases h;decide
 ·split at h
  ·split at h
   ·split at h
    ·rename_i hs;cases h;exact y9 _ _ _ _ hs
    ·cases h;decide
    ·split at h
     ·cases h
     ·cases h;decide
   ·cases h;decide
  ·cases h
theorem sY (gs:List (Nat×Nat)) (f:Nat):∀n i l nn,xe (eS gs f n i l nn)
 |0,_,_,_=>fun e w h=>by cases h;decide
 |n+1,i,l,nn=>fun e w h=>by
  unfold eS at h
  split at h
  ·split at h
   ·cases h;decide
   ·cases h
  ·split at h
   ·cases h;decide
   ·split at h
    ·rename_i hs;cases h;exact Eh _ _ _ _ hs
    ·exact sY gs f _ _ _ _ _ _ h
theorem ET (gs:List (Nat×Nat)) (i g:Nat):xe (lY gs i g):=by
 intro e w h;unfold lY kG at h
 split at h
 ·rename_i h1;cases h
  split at h1
  ·rename_i h2;cases h1;exact sY _ _ _ _ _ _ _ _ h2
  ·cases h1
 ·cases h
theorem Cc (gs:List (Nat×Nat)) (f:Nat):xe (dQ gs f):=by
 intro e w h;unfold dQ at h
 repeat' (split at h)
 all_goals first|(cases h;done)|(cases h;decide)
theorem FH {gs:List (Nat×Nat)} {A:PF} (hA:∀i g,xe (A i g)) (m i g:Nat):xe (gP A gs m i g):=by
 intro e w h;unfold gP at h
 split at h
 ·rename_i h1;cases h;unfold iX at h1
  split at h1
  ·cases h1;decide
  ·split at h1
   ·cases h1;decide
   ·unfold ot at h1
    split at h1
    ·have hB:∀{free:Bool} {j0:Nat},xe (eB A gs m i g free j0):=by
      intro free j0 e w h;unfold eB at h
      split at h
      ·cases h;decide
      ·split at h
       ·cases h;decide
       ·split at h
        ·rename_i h2;cases h;exact hA _ _ _ _ h2
        ·split at h
         ·cases h
         ·cases h;decide
     unfold iC at h1
     split at h1
     ·split at h1
      ·exact hB _ _ h1
      ·cases h1;decide
     ·exact hB _ _ h1
    ·split at h1
     ·exact ET _ _ _ _ _ h1
     ·split at h1
      ·split at h1
       ·rename_i h2;cases h1;exact yX _ _ _ _ h2
       ·cases h1
      ·repeat' (split at h1)
       all_goals first|(cases h1;done)|(cases h1;decide)
 ·unfold lx j5 at h
  repeat' (split at h)
  all_goals first|(cases h;done)|(rename_i h2;cases h;exact Cc _ _ _ _ h2)
theorem uy {gs:List (Nat×Nat)} {A:PF} (hA:∀i g,xe (A i g)) (m:Nat):∀n i g ps,xe (gX A gs m n i g ps)
 |0,_,_,_=>fun e w h=>by cases h
 |n+1,i,g,ps=>fun e w h=>by
  unfold gX at h
  split at h
  ·split at h
   ·rename_i h1;cases h;exact FH hA _ _ _ _ _ h1
   ·exact uy hA m _ _ _ _ _ _ h
  ·cases h
theorem zV {gs:List (Nat×Nat)} {A:PF} (hA:∀i g,xe (A i g)) (m:Nat):∀n i g ps,xe (kK A gs m n i g ps)
 |0,_,_,_=>fun e w h=>by cases h
 |n+1,i,g,ps=>fun e w h=>by
  unfold kK at h
  split at h
  ·split at h
   ·rename_i h1;cases h;exact uy hA _ _ _ _ _ _ _ h1
   ·exact zV hA m _ _ _ _ _ _ h
  ·cases h
theorem zZ {gs:List (Nat×Nat)} {A:PF} (hA:∀i g,xe (A i g)) (m:Nat):∀i g,xe (g_ A gs m i g):=by
 intro i g e w h;unfold g_ at h
 split at h
 ·rename_i h1;cases h;exact uy hA _ _ _ _ _ _ _ h1
 ·exact zV hA _ _ _ _ _ _ _ h
theorem zX (gs:List (Nat×Nat)):∀m i g,xe (jh gs m i g)
 |0=>zZ (fun _ _ e w h=>by cases h;decide) 0
 |m+1=>zZ (zX gs m) (m+1)
theorem G0 {gs:List (Nat×Nat)} {m i g:Nat} {v} {j:Nat} (hi:i≤gs.length) (h:jh gs m i g=.ok v j):j≤gs.length:=by
 have hE:l5 gs (gs++[(41,1)]) 0:=⟨fun i hi=>by rw[Nat.add_zero,List.getElem?_append_left hi],by simp⟩
 exact(mU hE m 0 (by omega) i g hi v j h).2
theorem kj {a:List UInt8} (h:(aO a).2.1=0):a.length≤120∧∃l,jh (aV a) 20 0 0=.ok (l,c6 l) (aV a).length∧(aO a).1=l:=by
 unfold aO at h⊢
 by_cases hl:120<a.length
 ·rw[if_pos hl] at h;cases h
 rw[if_neg hl] at h⊢;refine⟨by omega,?_⟩;unfold tz at h⊢
 cases hR:jh (aV a) 20 0 0 with
 |er e w=>
  rw[hR] at h;exact absurd h (zX _ _ _ _ _ _ hR)
 |ok p j=>
  obtain⟨l,g⟩:=p;rw[hR] at h;simp only at h⊢;have hc:=zY (aV a) 20 _ _ _ _ _ hR;have hle:=G0 (by omega) hR
  by_cases hj:j<(aV a).length
  ·rw[if_pos hj] at h;cases h
  ·rw[if_neg hj];have Fm:j=(aV a).length:=by omega
   exact⟨l,by rw[hc,Fm,Nat.zero_add],rfl⟩
theorem uB {gs cv:List (Nat×Nat)} {i0 g:Nat} {l:List bF} (hE:l5 gs cv (i0+3)) (h0:cv[i0]?=some (40,1)) (h1:cv[i0+1]?=some (63,1)) (h2:cv[i0+2]?=some (58,1)) (hA:jh gs 20 0 0=.ok (l,g) gs.length):
  gP (jh cv 19) cv 20 i0 0=lx cv l g (i0+3+gs.length+1)∨∃w,gP (jh cv 19) cv 20 i0 0=.er 10 w:=by
 have iB:iX (jh cv 19) cv 20 i0 0=eB (jh cv 19) cv 20 i0 0 true (i0+3):=by
  unfold iX;rw[h0];have hb:nQ cv i0=false:=by unfold nQ;rw[h0];rfl
  simp only[hb];rw[if_neg (by simp)];unfold ot;rw[if_pos (by decide)];unfold iC;rw[if_pos (by unfold ct;rw[h1];rfl),if_pos (by unfold ct;rw[h2];rfl)]
 have x9:=(mU hE 20 19 (by omega) 0 0 (by omega) _ _ hA).1;unfold gP;rw[iB];unfold eB;rw[if_neg (by omega),if_neg (by simp)];simp only[if_true];rw[Nat.zero_add] at x9
 rcases x9 with x9|⟨w,x9⟩
 ·rw[x9];simp only;have L6:ct cv (gs.length+(i0+3)) 41=true:=by unfold ct;rw[hE.en];rfl
  rw[if_pos L6];exact .inl (by rw[show gs.length+(i0+3)+1=i0+3+gs.length+1 by omega])
 ·rw[x9];exact .inr ⟨w,rfl⟩
theorem EY {gs:List (Nat×Nat)} {A:PF} {x:List bF} {g:Nat} (h0:0<gs.length) (hn:ct gs 0 124=false) (h:gP A gs 20 0 0=.ok (x,g) gs.length):g_ A gs 20 0 0=.ok (x,g) gs.length:=by
 have hc:kJ A gs 20 0 0=.ok (x,g) gs.length:=by
  unfold kJ gX;rw[if_pos ⟨h0,hn,.inr rfl⟩,h]
  obtain⟨n,hn⟩:∃n,gs.length=n+1:=⟨gs.length-1,by omega⟩
  simp only;generalize hk:gs.length=k at*;subst hn;unfold gX;rw[if_neg (by omega)]
  rfl
 unfold g_;rw[hc];simp only;unfold kK;rw[pU (Nat.le_refl _),if_neg (by simp)]
 rfl
theorem EX {gs:List (Nat×Nat)} {A:PF} {x y:List bF} {g1 g2 j:Nat} (h0:0<gs.length) (hn:ct gs 0 124=false) (h:gP A gs 20 0 0=.ok (x,g1) j) (hj:j<gs.length) (hY:ct gs j 124=false) (h2:gP A gs 20 j g1=.ok (y,g2) gs.length):g_ A gs 20 0 0=.ok (Bc::(x++y),g2) gs.length:=by
 have hc:kJ A gs 20 0 0=.ok (Bc::(x++y),g2) gs.length:=by
  unfold kJ gX;rw[if_pos ⟨h0,hn,.inr rfl⟩,h];simp only
  obtain⟨n,hn⟩:∃n,gs.length=n+1:=⟨gs.length-1,by omega⟩
  rw[hn];unfold gX;rw[if_pos ⟨hj,hY,.inr rfl⟩,h2];simp only
  cases n with
  |zero=>
   unfold gX;simp[ew,Bc,hn]
  |succ n=>
   unfold gX;rw[if_neg (by omega)];simp[ew,Bc,hn]
 unfold g_;rw[hc];simp only;unfold kK;rw[pU (Nat.le_refl _),if_neg (by simp)]
 rfl
theorem Dq {gs:List (Nat×Nat)} {A:PF} {e:Int} {w:Nat} (h0:0<gs.length) (hn:ct gs 0 124=false) (h:gP A gs 20 0 0=.er e w):g_ A gs 20 0 0=.er e w:=by
 have hc:kJ A gs 20 0 0=.er e w:=by
  unfold kJ gX;rw[if_pos ⟨h0,hn,.inr rfl⟩,h]
 unfold g_;rw[hc]
theorem EZ {gs:List (Nat×Nat)} {A:PF} {x:List bF} {g1 j:Nat} {e:Int} {w:Nat} (h0:0<gs.length) (hn:ct gs 0 124=false) (h:gP A gs 20 0 0=.ok (x,g1) j) (hj:j<gs.length) (hY:ct gs j 124=false) (h2:gP A gs 20 j g1=.er e w):g_ A gs 20 0 0=.er e w:=by
 have hc:kJ A gs 20 0 0=.er e w:=by
  unfold kJ gX;rw[if_pos ⟨h0,hn,.inr rfl⟩,h];simp only
  obtain⟨n,hn⟩:∃n,gs.length=n+1:=⟨gs.length-1,by omega⟩
  rw[hn];unfold gX;rw[if_pos ⟨hj,hY,.inr rfl⟩,h2]
 unfold g_;rw[hc]
abbrev Sn:=Nat→Nat→Bool
def Ad (s:Sn) (t:ji):Sn:=fun a b=>if a=t.pc∧b=t.at_ then true else s a b
inductive E3 (oM:ji→DJ):Sn→List ji→Option rQ→Sn→Prop
 |nil {s:Sn}:E3 oM s [] none s
 |nv {s s':Sn} {t:ji} {c9:List ji} {r:Option rQ}:s t.pc t.at_=true→E3 oM s c9 r s'→E3 oM s (t::c9) r s'
 |found {s:Sn} {t:ji} {c9:List ji}:s t.pc t.at_=false→oM t=.found→E3 oM s (t::c9) (some t.c) (Ad s t)
 |more {s s':Sn} {t:ji} {c9 l:List ji} {r:Option rQ}:s t.pc t.at_=false→oM t=.more l→E3 oM (Ad s t) (l++c9) r s'→E3 oM s (t::c9) r s'
theorem E3.one {oM:ji→DJ} {s s1 s2:Sn} {c9:List ji} {r1 r2:Option rQ} (h1:E3 oM s c9 r1 s1):E3 oM s c9 r2 s2→r1=r2∧s1=s2:=by
 induction h1 with
 |nil=>intro h;cases h;exact⟨rfl,rfl⟩
 |nv h _ ih=>
  intro h2
  cases h2 with
  |nv _ h'=>exact ih h'
  |found h' _=>rw[h] at h';cases h'
  |more h' _ _=>rw[h] at h';cases h'
 |found h hf=>
  intro h2
  cases h2 with
  |nv h' _=>rw[h] at h';cases h'
  |found _ _=>exact⟨rfl,rfl⟩
  |more _ h' _=>rw[hf] at h';cases h'
 |more h hm _ ih=>
  intro h2
  cases h2 with
  |nv h' _=>rw[h] at h';cases h'
  |found _ h'=>rw[hm] at h';cases h'
  |more _ h' QN=>
   rw[hm] at h';cases h';exact ih QN
def G7 (idx:Nat→Nat→Nat) (ok:Nat→Nat→Prop) (arr:List Bool) (s:Sn):Prop:=∀a b,ok a b→arr[idx a b]?=some (s a b)
def MU (idx:Nat→Nat→Nat) (ok:Nat→Nat→Prop):Prop:=∀a b a' b',ok a b→ok a' b'→idx a b=idx a' b'→a=a'∧b=b'
theorem G7.Ae {idx:Nat→Nat→Nat} {ok:Nat→Nat→Prop} {arr:List Bool} {s:Sn} {t:ji} (hI:MU idx ok) (ht:ok t.pc t.at_) (h:G7 idx ok arr s):G7 idx ok (arr.set (idx t.pc t.at_) true) (Ad s t):=by
 intro a b hab;unfold Ad
 by_cases he:idx a b=idx t.pc t.at_
 ·rw[if_pos (hI _ _ _ _ hab ht he),he];have:=bn (h _ _ ht);rw[List.getElem?_set_self this]
 ·rw[if_neg (by rintro⟨rfl,rfl⟩;exact he rfl),List.getElem?_set_ne (fun e=>he e.symm)];exact h a b hab
end Go.Proofs.Ytnleclohocdkaaa
namespace Go.V
variable{N:Nat} {S st:St} {H:List cx}
theorem Has.Oa (A B:List cx) (h:Has N S st (A++(B++H))):Has N S st (B++(A++H)):=by
 refine h.sub (fun i=>if i<B.length then i+A.length else if i<B.length+A.length then i-B.length else i) (fun a b e=>?_) fun i e hi=>?_
 ·have e':(if a<B.length then a+A.length else if a<B.length+A.length then a-B.length else a)=(if b<B.length then b+A.length else if b<B.length+A.length then b-B.length else b):=e
  repeat' split at e'
  all_goals omega
 ·show(A++(B++H))[if i<B.length then i+A.length else if i<B.length+A.length then i-B.length else i]?=some e
  by_cases h1:i<B.length
  ·rw[if_pos h1,List.getElem?_append_right (by omega),Nat.add_sub_cancel,List.getElem?_append_left h1]
   rwa [List.getElem?_append_left h1] at hi
  ·rw[List.getElem?_append_right (by omega)] at hi
   by_cases h2:i<B.length+A.length
   ·rw[if_neg h1,if_pos h2,List.getElem?_append_left (by omega)]
    rwa [List.getElem?_append_left (by omega)] at hi
   ·rw[if_neg h1,if_neg h2,List.getElem?_append_right (by omega),List.getElem?_append_right (by omega)];rw[List.getElem?_append_right (by omega)] at hi;rw[←hi];congr 1;omega
theorem Has.eP {j:Nat} {e:cx} (h:Has N S st (e::H)) (hj:j<H.length):Has N S st (H.set j e):=
 Has.back (h.erase (j+1)) hj
theorem Has.clear {P:Pv} {j:Nat} {x:D} {s:Nat} {es:List (List D)} {t e:TypeId} {z:List D} (h:Has N S st H) (hj:H[j]?=some (.aR x s es)) (ht:P.cL t=some (.slice e)) (hz:dj P e=some z) (lI:z.length=s) (hr:refs z=0):
  ∃ag,kF P [t] x st=some (.tup [],ag)∧Has N S ag (H.set j (.aR x s (List.replicate es.length z))):=by
 have x8:=(h.ok j _ hj).2;have hown:=h.own hj
 have lK:j<H.length:=by
  rcases Nat.lt_or_ge j H.length with h'|h'
  ·exact h'
  ·rw[List.getElem?_eq_none h'] at hj;cases hj
 cases hown with
 |nul=>
  refine⟨st,by simp only[kF,ht],?_⟩
  have:H.set j (.aR .nul s (List.replicate ([]:List (List D)).length z))=H:=by
   refine List.ext_getElem? fun i=>?_
   by_cases hi:i=j
   ·subst hi;rw[List.getElem?_set_self lK,hj];rfl
   ·rw[List.getElem?_set_ne (fun e=>hi e.symm)]
  rw[this];exact h
 |win k ay off es c hm hle hc he=>
  have hk:=x8 k (by simp only[cx.aR,D.ref])
  have JN:∀n,refs (Go.V.eP n z)=0:=by
   intro n;unfold Go.V.eP
   induction n with
   |zero=>rfl
   |succ n ih=>
    rw[List.replicate_succ,List.flatten_cons]
    have EE:∀(a b:List D),refs a=0→refs b=0→refs (a++b)=0:=by
     intro a
     induction a with
     |nil=>intro b _ hb;exact hb
     |cons d a DD=>
      intro b ha hb;simp only[refs,List.cons_append] at ha⊢;have:=DD b (by omega) hb;omega
    exact EE _ _ hr ih
  have w_:(Go.V.eP es.length z).length=es.length*s:=by
   unfold Go.V.eP;rw[cP (s:=s) (fun e he=>by rw[(List.mem_replicate.1 he).2];exact lI),List.length_replicate]
  have hw:st.wr k ay off (Go.V.eP es.length z)=some ⟨st.bs.set k (.mem ay true (c.take off++Go.V.eP es.length z++c.drop (off+(Go.V.eP es.length z).length))),st.flr,st.ro⟩:=lN hm (by omega) (jA h hk.1 (.inr (JN _)));refine⟨_,by simp only[kF,ht,hz,Option.bind_some];rw[if_pos lI,hw];rfl,?_⟩;refine h.Ae hj (fun n hn hne=>?_) (by simp) rfl rfl ?_ (fun n hn=>.inl hn) fun n hn=>?_
  ·simp only;rw[List.getElem?_set_ne (fun e=>hne (by simp only[cx.aR,D.ref];omega))]
  ·have CG:∀e'∈List.replicate es.length z,e'.length=s:=fun e' oS=>by rw[(List.mem_replicate.1 oS).2];exact lI
   have:=gS.win (st:=⟨st.bs.set k (.mem ay true (c.take off++Go.V.eP es.length z++c.drop (off+(Go.V.eP es.length z).length))),st.flr,st.ro⟩) (s:=s) k ay off (List.replicate es.length z) (c.take off++Go.V.eP es.length z++c.drop (off+(Go.V.eP es.length z).length))
    (by simp only;rw[List.getElem?_set_self hk.2]) (by rw[List.length_replicate];simp;omega) ?_ CG
   ·rw[List.length_replicate] at this;exact this
   ·rw[List.length_replicate,List.append_assoc,List.drop_append_of_le_length (by simp;omega),List.drop_take,Nat.sub_self,List.take_zero,List.nil_append,←w_,List.take_left']
    ·rfl
    ·rfl
  ·simp only[cx.aR,D.ref] at hn;have:n=k:=by omega
   subst this
   simpa using hk.2
variable{P:Pv} {ops:Array Oper} {rest:List Oper} {fr aF:Fr} {Q:Fr→St→Prop} {ty:TypeId} {pp:String} {a:Array Edge} {g:Option (Nat×Bool)} {dst:Nat}
end Go.V
namespace Go.Proofs.Ytnleclohocdkaaa
open Go.V Go
def HL (n:Nat):List D:=[.int .i64 (n:Nat)]
def Nh (n:Nat):List D:=[.int .i64 (n:Nat),.bool true]
structure kM (P Q:List Nat) (seen:List Bool):Prop where
 len:P.length=seen.length
 mem:∀(i p:Nat),P[i]?=some p→seen[i]?=some (decide (Q[p]?=some i))
 cnt:Q.length=seen.count true
 small:seen.length≤4096
theorem kM.get {P Q:List Nat} {seen:List Bool} (h:kM P Q seen) {i:Nat} {b:Bool} (hi:seen[i]?=some b):∃p,P[i]?=some p∧b=decide (Q[p]?=some i):=by
 have hl:=bn hi;have ub:=h.len;refine⟨P[i]'(by omega),List.getElem?_eq_getElem _,?_⟩;have:=h.mem i _ (List.getElem?_eq_getElem (by omega));rw[hi] at this;exact Option.some.inj this
theorem kM.add {P Q:List Nat} {seen:List Bool} (h:kM P Q seen) {i:Nat} (hi:seen[i]?=some false):kM (P.set i Q.length) (Q++[i]) (seen.set i true):=by
 have hl:=bn hi;have ub:=h.len;refine⟨by simp[ub],fun j p hj=>?_,?_,by rw[List.length_set];exact h.small⟩
 ·by_cases hij:j=i
  ·subst hij;rw[List.getElem?_set_self (by omega)] at hj⊢;cases hj;simp
  ·rw[List.getElem?_set_ne (fun e=>hij e.symm)] at hj⊢;rw[h.mem j p hj]
   congr 2
   rcases Nat.lt_trichotomy p Q.length with hp|hp|hp
   ·rw[List.getElem?_append_left hp]
   ·subst hp;have hne:¬i=j:=fun e=>hij e.symm;simp[hne]
   ·rw[List.getElem?_eq_none (by omega),List.getElem?_eq_none (by simp;omega)]
 ·have h1:=List.length_eq_countP_add_countP (fun b=>b==true) (l:=seen);have h2:=List.length_eq_countP_add_countP (fun b=>b==true) (l:=seen.set i true);have h3:=count_set hi
  have e1:∀l:List Bool,l.countP (fun a=>decide (¬(a==true)=true))=l.count false:=by
   intro l;unfold List.count;congr 1;funext b;cases b<;>rfl
  have e2:∀l:List Bool,l.countP (fun a=>a==true)=l.count true:=fun l=>rfl;rw[e1,e2] at h1 h2;rw[List.length_append,h.cnt];simp only[List.length_set,List.length_cons,List.length_nil] at h2⊢;omega
theorem kM.clear {P Q:List Nat} {seen:List Bool} (h:kM P Q seen):kM P [] (List.replicate seen.length false):=by
 refine⟨by rw[List.length_replicate];exact h.len,fun i p hi=>?_,?_,by rw[List.length_replicate];exact h.small⟩
 ·have:=bn hi;have:=h.len;rw[List.getElem?_replicate,if_pos (by omega)];simp
 ·rw[List.count_replicate];simp
theorem kM.nB {P Q:List Nat} {seen:List Bool} (h:kM P Q seen):Q.length≤4096:=by
 have:=h.cnt;have:=h.small;have:=List.count_le_length (a:=true) (l:=seen);omega
end Go.Proofs.Ytnleclohocdkaaa
namespace Go.Proofs.Ytnleclohocdkaaa
open Go.V Go
structure J9 where
 pc:Nat
 c:rQ
def Kd (t:J9):List D:=[.int .i64 (t.pc:Nat),.int .i64 (t.c 0),.int .i64 (t.c 1),.int .i64 (t.c 2),.int .i64 (t.c 3),.int .i64 (t.c 4),.int .i64 (t.c 5),.int .i64 (t.c 6),.int .i64 (t.c 7),.int .i64 (t.c 8),.int .i64 (t.c 9)]
def Ku (dn:Bool) (f:rQ) (d:D):List D:=[.bool dn,.int .i64 (f 0),.int .i64 (f 1),.int .i64 (f 2),.int .i64 (f 3),.int .i64 (f 4),.int .i64 (f 5),.int .i64 (f 6),.int .i64 (f 7),.int .i64 (f 8),.int .i64 (f 9),d]
structure Wk where
 seen:List Bool
 dn:Bool
 best:rQ
 rdy:List J9
def Good (code:List aN) (w w':Wk):Prop:=
 w'.seen.length=w.seen.length∧w'.seen.count false≤w.seen.count false∧w'.rdy.length+w'.seen.count false≤w.rdy.length+w.seen.count false∧∀t∈w'.rdy,t∈w.rdy∨∃i,code[t.pc]?=some i∧i.op=1
theorem Good.refl {code:List aN} {w:Wk}:Good code w w:=⟨rfl,Nat.le_refl _,Nat.le_refl _,fun t h=>.inl h⟩
theorem Good.trans {code:List aN} {a b c:Wk} (h:Good code a b) (k:Good code b c):Good code a c:=
 ⟨k.1.trans h.1,Nat.le_trans k.2.1 h.2.1,Nat.le_trans k.2.2.1 h.2.2.1,fun t ht=>by
  rcases k.2.2.2 t ht with q|q
  ·exact h.2.2.2 t q
  ·exact .inr q⟩
theorem Good.step {code:List aN} {w w':Wk} {j:Nat} (hj:w.seen[j]?=some false) (k:Good code ⟨w.seen.set j true,w.dn,w.best,w.rdy⟩ w'):Good code w w':=by
 have hc:=count_set hj;refine Good.trans (b:=⟨w.seen.set j true,w.dn,w.best,w.rdy⟩) ⟨?_,?_,?_,fun t h=>.inl h⟩ k
 ·simp
 ·show(w.seen.set j true).count false≤_;omega
 ·show w.rdy.length+(w.seen.set j true).count false≤_;omega
end Go.Proofs.Ytnleclohocdkaaa
namespace Go.Proofs.Ytnleclohocdkaaa
open Go.V Go
structure VL where
 dn:Bool
 best:rQ
 td:D
 ths:List J9
def M1 (l:VL):List D:=Ku l.dn l.best l.td
def M0 (l:VL):cx:=.aR l.td 11 (l.ths.map Kd)
def MH (A:List cx) (N:Nat) (S st:St) (ks kv:Nat) (p:Pg) (pl:Nat) (ld:D) (L:List VL) (H:List cx):Prop:=
 ∃pd qd P Q sn,Has N S st (A++(.box kv (.mem 0 false [p.cd,p.sd,.int .i64 (pl:Nat),ld,.ptr ks 0 0])::.box ks (.mem 0 false [pd,qd])::.aR pd 1 (P.map HL)::.aR qd 2 (Q.map Nh)::.aR ld 12 (L.map M1)::(L.map M0++H)))∧kM P Q sn∧sn.length=p.code.length
theorem MH.push (A B:List cx) {N:Nat} {S st:St} {ks kv:Nat} {p:Pg} {pl:Nat} {ld:D} {L:List VL} {H:List cx} (h:MH (A++B) N S st ks kv p pl ld L H):MH B N S st ks kv p pl ld L (A++H):=by
 obtain⟨pd,qd,P,Q,sn,hH,cH,F4⟩:=h;refine⟨pd,qd,P,Q,sn,?_,cH,F4⟩;have:=Has.Oa (H:=H) A (B++(.box kv (.mem 0 false [p.cd,p.sd,.int .i64 (pl:Nat),ld,.ptr ks 0 0])::.box ks (.mem 0 false [pd,qd])::.aR pd 1 (P.map HL)::.aR qd 2 (Q.map Nh)::.aR ld 12 (L.map M1)::L.map M0)) (by simpa only[List.append_assoc,List.cons_append] using hH)
 simpa only[List.append_assoc,List.cons_append] using this
end Go.Proofs.Ytnleclohocdkaaa
namespace Go.Proofs.Ytnleclohocdkaaa
open Go.V Go
structure PL where
 dn:Bool
 best:rQ
 ths:List J9
def PL.ok (n:Nat) (l:PL):Prop:=(∀t∈l.ths,t.pc<n)∧l.ths.length≤1000
end Go.Proofs.Ytnleclohocdkaaa
namespace Go.Proofs.Ytnleclohocdkaaa
open Go.V Go
def VL.pl (l:VL):PL:=⟨l.dn,l.best,l.ths⟩
theorem MH.mono {A:List cx} {N:Nat} {S st:St} {ks kv:Nat} {p:Pg} {pl:Nat} {ld:D} {L:List VL} {H:List cx} (n:Nat) (h:MH A N S st ks kv p pl ld L H):MH (A.drop n) N S st ks kv p pl ld L H:=by
 obtain⟨pd,qd,P,Q,sn,hH,cH,F4⟩:=h;refine⟨pd,qd,P,Q,sn,?_,cH,F4⟩
 rcases Nat.le_total n A.length with hn|hn
 ·have:=hH.drop n
  rwa [List.drop_append_of_le_length hn] at this
 ·have:=hH.drop A.length;rw[List.drop_append_of_le_length (Nat.le_refl _),List.drop_length] at this;rw[List.drop_eq_nil_of_le hn];exact this
end Go.Proofs.Ytnleclohocdkaaa
namespace Go.Proofs.Ytnleclohocdkaaa
open Go.V Go
section
variable{oM:ji→DJ}
def Ag (k:Nat) (s s':Sn):Prop:=∀a b,k<b→s a b=s' a b
theorem Ag.symm {k:Nat} {s s':Sn} (h:Ag k s s'):Ag k s' s:=fun a b hb=>(h a b hb).symm
theorem Ag.trans {k:Nat} {s s' M9:Sn} (h:Ag k s s') (h2:Ag k s' M9):Ag k s M9:=fun a b hb=>(h a b hb).trans (h2 a b hb)
theorem Ag.Ae {k:Nat} {s:Sn} {t:ji} (ht:t.at_=k):Ag k s (Ad s t):=fun a b hb=>by
 unfold Ad;rw[if_neg (by omega)]
end
section
variable{code:List aN} {ns:Nat} {gs:List (Nat×Nat)} {aS:List Int} {k pl:Nat} {e:Bool}
end
end Go.Proofs.Ytnleclohocdkaaa
namespace Go.Proofs.Ytnleclohocdkaaa
open Go.V Go
end Go.Proofs.Ytnleclohocdkaaa
namespace Go.Proofs.Ytnleclohocdkaaa
open Go.V Go
noncomputable def jI (n:bF):Int×Bool:=
 if n.op=1∨n.op=7∨n.op=8 then(0,(n.kids==0) &&iq n)
 else if n.op=2 then(0,eO n.rs &&((n.kids==0) &&iq n))
 else if n.op=3∨n.op=4 then(n.kids,decide (n.kids≥2) &&iq n)
 else if n.op=5 then(1,((((decide (0≤n.mn) &&decide (n.mn≤30)) &&decide (n.mx≤30)) &&decide (-1≤n.mx)) &&(decide (n.mx<0)||decide (n.mn≤n.mx))) &&((n.kids==1) &&iq n))
 else if n.op=6 then(1,(decide (1≤n.cap) &&decide (n.cap≤4)) &&((n.kids==1) &&iq n))
 else(0,false)
def fQ (h:Nat→Option Nat):Nat→Nat→Option Nat
 |0,at_=>some at_
 |k+1,at_=>match h at_ with
  |some j=>fQ h k j
  |none=>none
noncomputable def fv (l:List bF):Nat→Nat→Option Nat
 |0,_=>none
 |f+1,at_=>match l[at_]? with
  |none=>none
  |some n=>if(jI n).2=true then fQ (fv l f) (jI n).1.toNat (at_+1) else none
def eN:List bF→Nat→Option Nat
 |[],g=>some g
 |n::l,g=>if n.op=6 then(if n.cap=((g+1:Nat):Int) then eN l (g+1) else none) else eN l g
theorem lq:∀(a b:List bF) (g:Nat),eN (a++b) g=(eN a g).bind (eN b)
 |[],b,g=>rfl
 |n::a,b,g=>by
  rw[List.cons_append];unfold eN
  split
  ·split
   ·exact lq a b _
   ·rfl
  ·exact lq a b _
theorem uY {n:bF} {g:Nat}:(dp n (g:Nat)).2=true↔(jI n).2=true∧(n.op=6→n.cap=((g+1:Nat):Int)):=by
 unfold dp jI
 cases hp:iq n with
 |false=>
  rw[if_pos rfl];simp only[Bool.and_false];constructor
  ·intro h;cases h
  ·rintro⟨h,_⟩
   (repeat' split at h)<;>simp at h
 |true=>
  rw[if_neg (by simp)];simp only[Bool.and_true]
  by_cases h1:n.op=1∨n.op=7∨n.op=8
  ·rw[if_pos h1,if_pos h1];exact⟨fun h=>⟨h,fun h6=>by omega⟩,fun h=>h.1⟩
  rw[if_neg h1,if_neg h1]
  by_cases h2:n.op=2
  ·rw[if_pos h2,if_pos h2];simp only[Bool.and_eq_true,beq_iff_eq];exact⟨fun h=>⟨⟨h.2,h.1⟩,fun h6=>by omega⟩,fun h=>⟨h.1.2,h.1.1⟩⟩
  rw[if_neg h2,if_neg h2]
  by_cases h3:n.op=3∨n.op=4
  ·rw[if_pos h3,if_pos h3];exact⟨fun h=>⟨h,fun h6=>by omega⟩,fun h=>h.1⟩
  rw[if_neg h3,if_neg h3]
  by_cases h5:n.op=5
  ·rw[if_pos h5,if_pos h5];simp only[Bool.and_eq_true,Bool.or_eq_true,beq_iff_eq,decide_eq_true_eq];constructor
   ·intro h;refine⟨⟨⟨⟨⟨⟨?_,?_⟩,?_⟩,?_⟩,?_⟩,?_⟩,fun h6=>by omega⟩<;>omega
   ·rintro⟨h,_⟩;refine⟨⟨⟨?_,?_⟩,?_⟩,?_⟩<;>omega
  rw[if_neg h5,if_neg h5]
  by_cases h6:n.op=6
  ·rw[if_pos h6,if_pos h6];simp only[Bool.and_eq_true,beq_iff_eq,decide_eq_true_eq];constructor
   ·intro h;exact⟨⟨⟨by omega,h.2⟩,h.1.1⟩,fun _=>by omega⟩
   ·rintro⟨h,h7⟩;have:=h7 h6;exact⟨⟨h.2,by omega⟩,h.1.2⟩
  rw[if_neg h6,if_neg h6];exact⟨fun h=>(by cases h),fun h=>(by cases h.1)⟩
theorem o8 {n:bF} {g:Nat} (h:(dp n (g:Nat)).2=true):(dp n (g:Nat)).1=(jI n).1:=by
 unfold dp at h⊢;unfold jI
 cases hp:iq n with
 |false=>rw[hp,if_pos rfl] at h;cases h
 |true=>
  rw[if_neg (by simp)]
  repeat' split
  all_goals rfl
theorem u9 {l:List bF} {a j:Nat} {n:bF} (h:l[a]?=some n) (hj:a<j):(l.drop a).take (j-a)=n::(l.drop (a+1)).take (j-(a+1)):=by
 have hlt:=bn h
 have he:l.drop a=n::l.drop (a+1):=by
  rw[List.drop_eq_getElem_cons hlt];congr 1;rw[List.getElem?_eq_getElem hlt] at h;exact Option.some.inj h
 rw[he,show j-a=(j-(a+1))+1 by omega,List.take_succ_cons]
theorem y0 {l:List bF} {a b c:Nat} (h1:a≤b) (h2:b≤c):(l.drop a).take (c-a)=(l.drop a).take (b-a)++(l.drop b).take (c-b):=by
 have e1:c-a=(b-a)+(c-b):=by omega
 have e2:l.drop b=(l.drop a).drop (b-a):=by rw[List.drop_drop];congr 1;omega
 rw[e1,List.take_add,e2]
theorem pQ {h:Nat→Option Nat} (ih:∀a j,h a=some j→a≤j):∀k a j,fQ h k a=some j→a≤j
 |0,a,j,e=>by simp only[fQ,Option.some.injEq] at e;omega
 |k+1,a,j,e=>by
  unfold fQ at e
  cases hq:h a with
  |none=>rw[hq] at e;cases e
  |some q=>rw[hq] at e;have:=ih _ _ hq;have:=pQ ih k _ _ e;omega
theorem l8 {l:List bF}:∀f a j,fv l f a=some j→a<j
 |0,_,_,e=>by cases e
 |f+1,a,j,e=>by
  unfold fv at e
  cases hn:l[a]? with
  |none=>rw[hn] at e;cases e
  |some n=>
   rw[hn] at e;simp only at e
   split at e
   ·have:=pQ (fun a j h=>Nat.le_of_lt (l8 f a j h)) _ _ _ e;omega
   ·cases e
theorem vZ {l:List bF} {h:Nat→Nat→Option (Nat×Nat)} {h':Nat→Option Nat} (ih:∀a g r,h a g=some r→h' a=some r.1∧a≤r.1∧eN ((l.drop a).take (r.1-a)) g=some r.2):
  ∀k a g r,gd h k a g=some r→fQ h' k a=some r.1∧a≤r.1∧eN ((l.drop a).take (r.1-a)) g=some r.2
 |0,a,g,r,e=>by
  simp only[gd,Option.some.injEq] at e;subst e;exact⟨rfl,Nat.le_refl _,by simp[eN]⟩
 |k+1,a,g,r,e=>by
  unfold gd at e
  cases hq:h a g with
  |none=>rw[hq] at e;cases e
  |some q=>
   rw[hq] at e;obtain⟨t1,t2,t3⟩:=ih _ _ _ hq;obtain⟨u1,u2,u3⟩:=vZ ih k _ _ _ e;refine⟨by unfold fQ;rw[t1];exact u1,by omega,?_⟩;rw[y0 t2 u2,lq,t3];exact u3
theorem zb {l:List bF}:∀f a g r,fM l f a g=some r→fv l f a=some r.1∧a≤r.1∧eN ((l.drop a).take (r.1-a)) g=some r.2
 |0,_,_,_,e=>by simp[fM] at e
 |f+1,a,g,r,e=>by
  unfold fM at e
  cases hn:l[a]? with
  |none=>rw[hn] at e;cases e
  |some n=>
   rw[hn] at e;simp only at e
   split at e
   ·rename_i hs;rw[o8 hs] at e;obtain⟨u1,u2,u3⟩:=vZ (zb f) _ _ _ _ e;obtain⟨v1,v2⟩:=uY.1 hs;refine⟨by unfold fv;rw[hn];simp only;rw[if_pos v1];exact u1,by omega,?_⟩;rw[u9 hn (by omega)];unfold eN
    split
    ·rename_i h6;rw[if_pos (v2 h6)];rw[if_pos h6] at u3;exact u3
    ·rename_i h6;rw[if_neg h6] at u3;exact u3
   ·cases e
theorem v_ {l:List bF} {h:Nat→Nat→Option (Nat×Nat)} {h':Nat→Option Nat} (hle:∀a j,h' a=some j→a≤j) (ih:∀a g j g',h' a=some j→eN ((l.drop a).take (j-a)) g=some g'→h a g=some (j,g')):
  ∀k a g j g',fQ h' k a=some j→eN ((l.drop a).take (j-a)) g=some g'→gd h k a g=some (j,g')
 |0,a,g,j,g',e,hc=>by
  simp only[fQ,Option.some.injEq] at e;subst e;simp only[Nat.sub_self,List.take_zero,eN,Option.some.injEq] at hc;subst hc;rfl
 |k+1,a,g,j,g',e,hc=>by
  unfold fQ at e
  cases hq:h' a with
  |none=>rw[hq] at e;cases e
  |some q=>
   rw[hq] at e;have t2:=hle _ _ hq;have u2:=pQ hle _ _ _ e;rw[y0 t2 u2,lq] at hc
   cases we:eN ((l.drop a).take (q-a)) g with
   |none=>rw[we] at hc;cases hc
   |some g2=>
    rw[we] at hc;have hc:eN ((l.drop q).take (j-q)) g2=some g':=hc;unfold gd;rw[ih _ _ _ _ hq we];exact v_ hle ih k _ _ _ _ e hc
theorem zc {l:List bF}:∀f a g j g',fv l f a=some j→eN ((l.drop a).take (j-a)) g=some g'→fM l f a g=some (j,g')
 |0,_,_,_,_,e,_=>by cases e
 |f+1,a,g,j,g',e,hc=>by
  have hlt:=l8 _ _ _ e;unfold fv at e
  cases hn:l[a]? with
  |none=>rw[hn] at e;cases e
  |some n=>
   rw[hn] at e;simp only at e
   split at e
   ·rename_i hs;rw[u9 hn hlt] at hc;unfold eN at hc
    have jz:n.op=6→n.cap=((g+1:Nat):Int):=fun h6=>by
     rw[if_pos h6] at hc
     by_cases h7:n.cap=((g+1:Nat):Int)
     ·exact h7
     ·rw[if_neg h7] at hc;cases hc
    have Eo:=uY.2 ⟨hs,jz⟩
    have hc:eN ((l.drop (a+1)).take (j-(a+1))) (if n.op=6 then g+1 else g)=some g':=by
     by_cases h6:n.op=6
     ·rw[if_pos h6,if_pos (jz h6)] at hc;rw[if_pos h6];exact hc
     ·rw[if_neg h6] at hc;rw[if_neg h6];exact hc
    unfold fM;rw[hn];simp only;rw[if_pos Eo,o8 Eo];exact v_ (fun a j h=>Nat.le_of_lt (l8 f a j h)) (zc f) _ _ _ _ _ e hc
   ·cases e
noncomputable def xq (l:List bF):Bool:=((decide (1≤l.length) &&decide (l.length≤480)) &&decide (fv l 241 0=some l.length)) &&(eN l 0).isSome
theorem Ao (l:List bF):xq l=bN l:=by
 unfold xq bN;rw[Bool.and_assoc]
 congr 1
 have Fo:(l.drop 0).take (l.length-0)=l:=by simp
 cases h:fM l 241 0 0 with
 |some r=>
  obtain⟨h1,h2,h3⟩:=zb _ _ _ _ h;simp only;rw[h1]
  by_cases h4:r.1=l.length
  ·rw[h4] at h3;rw[Fo] at h3;rw[h3];simp[h4]
  ·simp[h4]
 |none=>
  simp only
  by_cases h1:fv l 241 0=some l.length
  ·cases h2:eN l 0 with
   |none=>simp
   |some g=>
    have:=zc 241 0 0 l.length g h1 (by rw[Fo];exact h2);rw[h] at this;cases this
  ·simp[h1]
end Go.Proofs.Ytnleclohocdkaaa
namespace Go.Proofs.Ytnleclohocdkaaa
open Go.V Go
theorem gD {α:Type} {pre rest cv:List α} (h:cv=pre++rest) {n:Nat} (hn:pre.length=n) (k:Nat):cv[n+k]?=rest[k]?:=by
 rw[h,←hn,List.getElem?_append_right (by omega),Nat.add_sub_cancel_left]
theorem gq {gs:List (Nat×Nat)} {i:Nat} {q:Nat×Nat} (h:gs[i]?=some q) (r:Int):ct gs i r=(((q.1:Nat):Int)==r):=by
 unfold ct;rw[h]
def re:List (Nat×Nat):=[(40,1),(63,1),(58,1)]
theorem uC {gs cv pre JB:List (Nat×Nat)} (h:cv=pre++(re++(gs++(41,1)::JB))):l5 gs cv (pre.length+3)∧cv[pre.length]?=some (40,1)∧cv[pre.length+1]?=some (63,1)∧cv[pre.length+2]?=some (58,1):=by
 have h2:cv=(pre++re)++(gs++(41,1)::JB):=by rw[h,List.append_assoc]
 have hl:(pre++re).length=pre.length+3:=by rw[List.length_append];rfl
 refine⟨⟨fun i hi=>?_,?_⟩,?_,gD h rfl 1,gD h rfl 2⟩
 ·rw[Nat.add_comm,gD h2 hl,List.getElem?_append_left hi]
 ·rw[Nat.add_comm,gD h2 hl,List.getElem?_append_right (Nat.le_refl _),Nat.sub_self];rfl
 ·exact gD h rfl 0
theorem fW (a z:List UInt8):aV (brk a z)=re++(aV a++(41,1)::aV z):=by rw[E1];rfl
theorem y6 {gs:List (Nat×Nat)} {l:List bF} {g j:Nat} (h:∀r:Int,r=42∨r=43∨r=63∨r=123→ct gs j r=false):lx gs l g j=.ok (l,g) j:=by
 unfold lx;rw[h 42 (by omega),h 43 (by omega),h 63 (by omega),h 123 (by omega)];simp
theorem po {gs:List (Nat×Nat)} {l:List bF} {g j:Nat} {mn mx:Int} (h:gs.length≤j):j5 gs l g mn mx j=.ok (pf mn mx::l,g) j:=by
 unfold j5;rw[pU h]
 rfl
theorem rY {a z:List UInt8} (h:(aO a).2.1=0) {x:List bF} (hx:lx (aV (brk a z)) (aO a).1 (c6 (aO a).1) ((aV a).length+4)=.ok (x,c6 (aO a).1) (aV (brk a z)).length) (hp:(aO (brk a z)).2.1=0):(aO (brk a z)).1=x:=by
 obtain⟨_,l,h1,h2⟩:=kj h;obtain⟨_,l',h3,h4⟩:=kj hp;rw[h2] at hx;have hs:=fW a z;obtain⟨e1,e2,e3,e4⟩:=uC (pre:=[]) (gs:=aV a) (JB:=aV z) (cv:=aV (brk a z)) hs;have h0:0<(aV (brk a z)).length:=by rw[hs];simp[re]
 have hn:ct (aV (brk a z)) 0 124=false:=by rw[gq (i:=0) e2];rfl
 have hr:=uB (i0:=0) e1 e2 e3 e4 h1;rw[show 0+3+(aV a).length+1=(aV a).length+4 by omega,hx] at hr;have h3:g_ (jh (aV (brk a z)) 19) (aV (brk a z)) 20 0 0=.ok (l',c6 l') (aV (brk a z)).length:=h3
 rcases hr with hr|⟨w,hr⟩
 ·rw[EY h0 hn hr] at h3;have h5:=(PR.ok.inj h3).1;rw[h4,←(Prod.mk.inj h5).1]
 ·rw[Dq h0 hn hr] at h3;cases h3
theorem px {a z:List UInt8} (h:(aO a).2.1=0) (hc:c6 (aO a).1=0) {x:List bF} (hx:lx (aV (brk a (brk a z))) (aO a).1 0 ((aV a).length+4+((aV a).length+4))=.ok (x,0) (aV (brk a (brk a z))).length) (hp:(aO (brk a (brk a z))).2.1=0):(aO (brk a (brk a z))).1=Bc::((aO a).1++x):=by
 obtain⟨_,l,h1,h2⟩:=kj h;obtain⟨_,l',h3,h4⟩:=kj hp;rw[h2] at hc hx⊢;rw[hc] at h1;have hs:=fW a (brk a z)
 have Eo:aV (brk a (brk a z))=(re++(aV a++[(41,1)]))++(re++(aV a++(41,1)::aV z)):=by
  rw[hs,fW];simp
 have hl:(re++(aV a++[(41,1)])).length=(aV a).length+4:=by simp[re]
 obtain⟨e1,e2,e3,e4⟩:=uC (pre:=[]) (gs:=aV a) (JB:=aV (brk a z)) (cv:=aV (brk a (brk a z))) hs;obtain⟨f1,f2,f3,f4⟩:=uC Eo;rw[hl] at f1 f2 f3 f4;have h0:0<(aV (brk a (brk a z))).length:=by rw[hs];simp[re]
 have hj:(aV a).length+4<(aV (brk a (brk a z))).length:=by rw[Eo,List.length_append,hl];simp[re]
 have hn:ct (aV (brk a (brk a z))) 0 124=false:=by rw[gq (i:=0) e2];rfl
 have hY:ct (aV (brk a (brk a z))) ((aV a).length+4) 124=false:=by rw[gq f2];rfl
 have hr:=uB (i0:=0) e1 e2 e3 e4 h1;rw[show 0+3+(aV a).length+1=(aV a).length+4 by omega,y6 (fun r hr=>by rw[gq f2,beq_eq_false_iff_ne];show((40:Nat):Int)≠r;omega)] at hr;have m_:=uB f1 f2 f3 f4 h1;rw[show(aV a).length+4+3+(aV a).length+1=(aV a).length+4+((aV a).length+4) by omega,hx] at m_;have h3:g_ (jh (aV (brk a (brk a z))) 19) (aV (brk a (brk a z))) 20 0 0=.ok (l',c6 l') (aV (brk a (brk a z))).length:=h3
 rcases hr with hr|⟨w,hr⟩
 ·rcases m_ with m_|⟨w,m_⟩
  ·rw[EX h0 hn hr hj hY m_] at h3;have h5:=(PR.ok.inj h3).1;rw[h4,←(Prod.mk.inj h5).1]
  ·rw[EZ h0 hn hr hj hY m_] at h3;cases h3
 ·rw[Dq h0 hn hr] at h3;cases h3
theorem vB {a:List UInt8} (h:(aO a).2.1=0) (hp:(aO (brk a [123,50,125])).2.1=0):(aO (brk a [123,50,125])).1=pf 2 2::(aO a).1:=by
 refine rY h ?_ hp;have hz:aV [123,50,125]=[(123,1),(50,1),(125,1)]:=by rw[eK (by decide),eK (by decide),eK (by decide)];rfl
 have hs:aV (brk a [123,50,125])=(re++(aV a++[(41,1)]))++[(123,1),(50,1),(125,1)]:=by rw[fW,hz];simp
 have hl:(re++(aV a++[(41,1)])).length=(aV a).length+4:=by simp[re]
 generalize aV (brk a [123,50,125])=gs at*;have g0:=gD hs hl 0;have g1:=gD hs hl 1;have g2:=gD hs hl 2;have hlen:gs.length=(aV a).length+4+3:=by rw[hs,List.length_append,hl];rfl
 generalize(aV a).length+4=n at*
 have hd:dY gs (n+1)=[50,125]:=by
  unfold dY;rw[hs,List.map_append,List.drop_append];rw[List.drop_eq_nil_of_le (by rw[List.length_map,hl];omega),List.length_map,hl,show n+1-n=1 by omega]
  rfl
 have ho:dQ gs n=.ok (2,2) (n+3):=by
  unfold dQ;rw[hd];have e1:digS [50,125] []=([50],1):=by decide
  rw[e1];simp only;rw[if_neg (by decide),show n+1+1=n+2 by omega,gq g2,if_neg (by decide),gq g2,if_pos (by decide),if_neg (by decide),if_pos (by decide)]
  rfl
 unfold lx;rw[gq g0,gq g0,gq g0,gq g0,if_neg (by decide),if_neg (by decide),if_neg (by decide),if_pos (by decide),ho];simp only;rw[po (by omega),hlen]
theorem xG {a:List UInt8} (h:(aO a).2.1=0) (hp:(aO (brk a [43])).2.1=0):(aO (brk a [43])).1=pf 1 (-1)::(aO a).1:=by
 refine rY h ?_ hp;have hz:aV [43]=[(43,1)]:=by rw[eK (by decide)];rfl
 have hs:aV (brk a [43])=(re++(aV a++[(41,1)]))++[(43,1)]:=by rw[fW,hz];simp
 have hl:(re++(aV a++[(41,1)])).length=(aV a).length+4:=by simp[re]
 generalize aV (brk a [43])=gs at*;have g0:=gD hs hl 0;have hlen:gs.length=(aV a).length+4+1:=by rw[hs,List.length_append,hl];rfl
 generalize(aV a).length+4=n at*;unfold lx;rw[gq g0,gq g0,if_neg (by decide),if_pos (by decide),show n+0+1=n+1 from rfl];rw[po (by omega),hlen]
theorem xH {a:List UInt8} (h:(aO a).2.1=0) (hc:c6 (aO a).1=0) (hp:(aO (brk a (brk a []))).2.1=0):(aO (brk a (brk a []))).1=Bc::((aO a).1++(aO a).1):=by
 refine px h hc ?_ hp;have hl:(aV (brk a (brk a []))).length=(aV a).length+4+((aV a).length+4):=by rw[fW,fW];simp[re,aV,yG];omega
 rw[y6 (fun r _=>pU (by omega)),hl]
theorem xF {a:List UInt8} (h:(aO a).2.1=0) (hc:c6 (aO a).1=0) (hp:(aO (brk a (brk a [42]))).2.1=0):(aO (brk a (brk a [42]))).1=Bc::((aO a).1++(pf 0 (-1)::(aO a).1)):=by
 refine px h hc ?_ hp;have hz:aV [42]=[(42,1)]:=by rw[eK (by decide)];rfl
 have hs:aV (brk a (brk a [42]))=(re++(aV a++[(41,1)])++(re++(aV a++[(41,1)])))++[(42,1)]:=by rw[fW,fW,hz];simp
 have hl:(re++(aV a++[(41,1)])++(re++(aV a++[(41,1)]))).length=(aV a).length+4+((aV a).length+4):=by simp[re];omega
 generalize aV (brk a (brk a [42]))=gs at*;have g0:=gD hs hl 0;have hlen:gs.length=(aV a).length+4+((aV a).length+4)+1:=by rw[hs,List.length_append,hl];rfl
 generalize(aV a).length+4+((aV a).length+4)=n at*;unfold lx;rw[gq g0,if_pos (by decide),show n+0+1=n+1 from rfl];rw[po (by omega),hlen]
theorem sW {m n:List bF} (h1:(aH [m]).e=0) (h2:(aH [n]).e=0) (h:bN m=true→bN n=true→∀b,aD (bV m) b=aD (bV n) b):ly (aH [m]).code (aH [m]).aK=ly (aH [n]).code (aH [n]).aK:=by
 obtain⟨r1,c1,s1⟩:=eE h1;obtain⟨r2,c2,s2⟩:=eE h2;rw[c1,c2,s1,s2];unfold cB;rw[h r1 r2]
theorem sG {h h':Nat→Option Nat} (ih:∀a,h (a+1)=(h' a).map (·+1)):∀k a,fQ h k (a+1)=(fQ h' k a).map (·+1)
 |0,a=>rfl
 |k+1,a=>by
  unfold fQ;rw[ih a]
  cases h' a with
  |none=>rfl
  |some j=>exact sG ih k j
theorem o3 (n:bF) (l:List bF):∀f a,fv (n::l) f (a+1)=(fv l f a).map (·+1)
 |0,a=>rfl
 |f+1,a=>by
  unfold fv;rw[List.getElem?_cons_succ]
  cases l[a]? with
  |none=>rfl
  |some m=>
   simp only
   split
   ·exact sG (o3 n l f) _ _
   ·rfl
theorem pP {h h':Nat→Option Nat} (ih:∀a j,h a=some j→h' a=some j):∀k a j,fQ h k a=some j→fQ h' k a=some j
 |0,a,j,e=>e
 |k+1,a,j,e=>by
  unfold fQ at e⊢
  cases hq:h a with
  |none=>rw[hq] at e;cases e
  |some q=>
   rw[hq] at e;rw[ih _ _ hq];exact pP ih k _ _ e
theorem o0 {l:List bF}:∀f a j,fv l f a=some j→fv l (f+1) a=some j
 |0,_,_,e=>by cases e
 |f+1,a,j,e=>by
  unfold fv at e⊢
  cases hn:l[a]? with
  |none=>rw[hn] at e;cases e
  |some n=>
   rw[hn] at e;simp only at e⊢
   split at e
   ·rename_i hs;rw[if_pos hs];exact pP (fun a j h=>o0 f a j h) _ _ _ e
   ·cases e
theorem xl {mn mx:Int} {l:List bF} (h:bN (pf mn mx::l)=true):bN l=true:=by
 rw[←Ao] at h⊢;unfold xq at h⊢;simp only[Bool.and_eq_true,decide_eq_true_eq,List.length_cons] at h⊢;obtain⟨⟨⟨h1,h2⟩,h3⟩,h4⟩:=h
 have h5:fv (pf mn mx::l) 240 1=some (l.length+1):=by
  have e:fv (pf mn mx::l) 241 0=if(jI (pf mn mx)).2=true then fQ (fv (pf mn mx::l) 240) (jI (pf mn mx)).1.toNat (0+1) else none:=rfl;rw[e] at h3
  split at h3
  ·have e2:(jI (pf mn mx)).1.toNat=1:=rfl;rw[e2] at h3;unfold fQ at h3
   cases hw:fv (pf mn mx::l) 240 (0+1) with
   |none=>rw[hw] at h3;cases h3
   |some j=>
    rw[hw] at h3;simp only[fQ] at h3;exact h3
  ·cases h3
 rw[o3] at h5
 cases hw:fv l 240 0 with
 |none=>rw[hw] at h5;cases h5
 |some j=>
  rw[hw] at h5;simp only[Option.map_some,Option.some.injEq] at h5;have hj:j=l.length:=by omega
  have hlt:=l8 _ _ _ hw;exact⟨⟨⟨by omega,by omega⟩,by rw[o0 _ _ _ hw,hj]⟩,by simpa[eN,pf,fy] using h4⟩
theorem jM {b:List UInt8} (h:(aH [(aO b).1]).e=0):(aO b).2.1=0:=by
 obtain⟨h1,_,_⟩:=eE h
 have hne:(aO b).1≠[]:=by
  intro h2;rw[h2] at h1;unfold bN at h1;simp at h1
 unfold aO at hne⊢
 split
 ·rename_i h3;rw[if_pos h3] at hne;exact absurd rfl hne
 ·rename_i h3;rw[if_neg h3] at hne;unfold tz at hne⊢
  split
  ·rename_i h4;rw[h4] at hne;exact absurd rfl hne
  ·rename_i h4;rw[h4] at hne;simp only at hne
   split
   ·rename_i h5;rw[if_pos h5] at hne;exact absurd rfl hne
   ·rfl
end Go.Proofs.Ytnleclohocdkaaa
namespace Go.Proofs.Ytnleclohocdkaaa
open Go.V Go
def jc (seen:List Bool) (v:Int):Prop:=0≤v∧seen[v.toNat]?=some true
structure yL (code:List aN) (start:Int) (seen:List Bool) (c9:List Int):Prop where
 a:∀u i,seen[u]?=some true→code[u]?=some i→∀w∈bP u i,jc seen w∨w∈c9
 b:∀v∈c9,v=start∨∃u i,seen[u]?=some true∧code[u]?=some i∧v∈bP u i
 c:∀v,jc seen v→v=start∨∃u i,seen[u]?=some true∧code[u]?=some i∧v∈bP u i∧v≠(u:Int)
 d:jc seen start∨start∈c9
theorem eV {seen:List Bool} {k:Nat} (hk:k<seen.length) {v:Int}:jc (seen.set k true) v↔v=(k:Int)∨jc seen v:=by
 unfold jc;constructor
 ·rintro⟨h0,h⟩
  by_cases hv:v.toNat=k
  ·left;omega
  ·rw[List.getElem?_set_ne (fun e=>hv e.symm)] at h;exact .inr ⟨h0,h⟩
 ·rintro(rfl|⟨h0,h⟩)
  ·exact⟨by omega,by rw[Int.toNat_natCast,List.getElem?_set_self hk]⟩
  ·refine⟨h0,?_⟩
   by_cases hv:v.toNat=k
   ·rw[hv,List.getElem?_set_self hk]
   ·rw[List.getElem?_set_ne (fun e=>hv e.symm)];exact h
theorem dr {seen:List Bool} {u:Nat}:seen[u]?=some true↔jc seen (u:Int):=by
 unfold jc;rw[Int.toNat_natCast];exact⟨fun h=>⟨by omega,h⟩,fun h=>h.2⟩
theorem yk {code:List aN} {start:Int} (hcl:iW code):∀(f:Nat) (seen:List Bool) (c9:List Int),seen.length=code.length→(∀v∈c9,0≤v∧v<(code.length:Int))→3*seen.count false+c9.length≤f→yL code start seen c9→yL code start (Bx code f seen c9) []
 |0,seen,c9,_,_,hm,hi=>by
  have:c9=[]:=by cases c9 with|nil=>rfl|cons _ _=>simp at hm
  subst this;exact hi
 |f+1,seen,[],_,_,_,hi=>hi
 |f+1,seen,v::c9,hl,hs,hm,hi=>by
  have hv:=hs v (List.mem_cons_self ..);have x0:∀w∈c9,0≤w∧w<(code.length:Int):=fun w hw=>hs w (List.mem_cons_of_mem _ hw);obtain⟨k,rfl⟩:=Int.eq_ofNat_of_zero_le hv.1;have hk:k<code.length:=by omega
  obtain⟨i,hci⟩:∃i,code[k]?=some i:=⟨code[k]'hk,List.getElem?_eq_getElem _⟩
  obtain⟨b,hb⟩:∃b,seen[k]?=some b:=⟨seen[k]'(by omega),List.getElem?_eq_getElem _⟩
  simp only[List.length_cons] at hm;have hp:∀w,w∈((k:Int)::c9)→w=(k:Int)∨w∈c9:=fun w hw=>List.mem_cons.1 hw;unfold Bx;simp only[Int.toNat_natCast,hb,hci]
  cases b with
  |true=>
   have l4:jc seen (k:Int):=dr.1 hb;refine yk hcl f seen c9 hl x0 (by omega) ⟨fun u j hu hj w hw=>?_,fun w hw=>hi.b w (List.mem_cons_of_mem _ hw),hi.c,?_⟩
   ·rcases hi.a u j hu hj w hw with h|h
    ·exact .inl h
    ·rcases hp w h with rfl|h
     ·exact .inl l4
     ·exact .inr h
   ·rcases hi.d with h|h
    ·exact .inl h
    ·rcases hp start h with h|h
     ·exact .inl (h▸l4)
     ·exact .inr h
  |false=>
   have Gr:=count_set hb;have jy:k<seen.length:=by omega
   have Il:=vO k i;refine yk hcl f _ _ (by rw[List.length_set];exact hl) (fun w hw=>?_) (by simp only[List.length_append,List.length_reverse];omega) ⟨fun u j hu hj w hw=>?_,fun w hw=>?_,fun w hw=>?_,?_⟩
   ·rcases List.mem_append.1 hw with hw|hw
    ·exact hcl k i hci w (List.mem_reverse.1 hw)
    ·exact x0 w hw
   ·rcases(eV jy).1 (dr.1 hu) with h|h
    ·have:u=k:=by omega
     subst this;rw[hci] at hj;cases hj;exact .inr (List.mem_append.2 (.inl (List.mem_reverse.2 hw)))
    ·rcases hi.a u j (dr.2 h) hj w hw with h|h
     ·exact .inl ((eV jy).2 (.inr h))
     ·rcases hp w h with h|h
      ·exact .inl ((eV jy).2 (.inl h))
      ·exact .inr (List.mem_append.2 (.inr h))
   ·rcases List.mem_append.1 hw with hw|hw
    ·exact .inr ⟨k,i,dr.2 ((eV jy).2 (.inl rfl)),hci,List.mem_reverse.1 hw⟩
    ·rcases hi.b w (List.mem_cons_of_mem _ hw) with h|⟨u,j,h1,h2,h3⟩
     ·exact .inl h
     ·exact .inr ⟨u,j,dr.2 ((eV jy).2 (.inr (dr.1 h1))),h2,h3⟩
   ·rcases(eV jy).1 hw with rfl|h
    ·rcases hi.b (k:Int) (List.mem_cons_self ..) with h|⟨u,j,h1,h2,h3⟩
     ·exact .inl h
     ·refine .inr ⟨u,j,dr.2 ((eV jy).2 (.inr (dr.1 h1))),h2,h3,fun e=>?_⟩;have:k=u:=by omega
      subst this;rw[hb] at h1;cases h1
    ·rcases hi.c w h with h|⟨u,j,h1,h2,h3,h4⟩
     ·exact .inl h
     ·exact .inr ⟨u,j,dr.2 ((eV jy).2 (.inr (dr.1 h1))),h2,h3,h4⟩
   ·rcases hi.d with h|h
    ·exact .inl ((eV jy).2 (.inr h))
    ·rcases hp start h with h|h
     ·exact .inl ((eV jy).2 (.inl h))
     ·exact .inr (List.mem_append.2 (.inr h))
theorem vm {code:List aN} {start:Int} (hcl:iW code) (gv:0≤start∧start<(code.length:Int)):yL code start (cX code start) []:=by
 have lJ:∀v,¬jc (List.replicate code.length false) v:=by
  rintro v ⟨h0,h⟩;rw[List.getElem?_replicate] at h
  split at h<;>cases h
 refine yk hcl _ _ _ (by simp) (fun v hv=>?_) (by simp) ⟨fun u i hu=>absurd (dr.1 hu) (lJ _),fun v hv=>?_,fun v hv=>absurd hv (lJ v),.inr (by simp)⟩
 ·simp only[List.mem_cons,List.not_mem_nil,or_false] at hv;subst hv;exact gv
 ·simp only[List.mem_cons,List.not_mem_nil,or_false] at hv;exact .inl hv
theorem jn:∀{L:List Bool} {s:Nat} {v:Int},v∈pG s L↔∃k:Nat,L[k]?=some true∧v=((s+k:Nat):Int)
 |[],s,v=>⟨fun h=>(by cases h),fun⟨k,h,_⟩=>by simp at h⟩
 |b::l,s,v=>by
  simp only[pG,List.mem_append];constructor
  ·rintro(h|h)
   ·split at h
    ·rename_i hb;simp only[List.mem_cons,List.not_mem_nil,or_false] at h;exact⟨0,by simp[hb],by rw[h];simp⟩
    ·cases h
   ·obtain⟨k,h1,h2⟩:=jn.1 h;exact⟨k+1,by simpa using h1,by rw[h2];congr 1;omega⟩
  ·rintro⟨k,h1,h2⟩
   cases k with
   |zero=>simp at h1;subst h1;left;simp[h2]
   |succ k=>exact .inr (jn.2 ⟨k,by simpa using h1,by rw[h2];congr 1;omega⟩)
theorem sc : ∀ (L : List Bool) (s : Nat), (pG s L).Pairwise (· < ·)
 | [], s => .nil
 | b :: l, s => by
  simp only [pG];have ih := sc l (s + 1)
  split
  ·rw [List.singleton_append, List.pairwise_cons];refine ⟨fun v hv => ?_, ih⟩;obtain ⟨k, _, rfl⟩ := jn.1 hv;omega
  ·exact ih
end Go.Proofs.Ytnleclohocdkaaa
