/-
 A pattern in brackets is parsed as it is alone: plain.
-/
import Derived.Test.YtnleclohocdkaaaWGTg
import Derived.Test.YtnleclohocdkaaaWGCa
import Derived.Test.YtnleclohocdkaaaWGM3
import Derived.Test.YtnleclohocdkaaaWGPc
set_option maxRecDepth 100000
set_option maxHeartbeats 4000000
set_option linter.unusedSimpArgs false
set_option linter.unusedVariables false
namespace Go.Proofs.Ytnleclohocdkaaa
open Go.V Go
structure l5 (gs cv:List (Nat×Nat)) (p:Nat):Prop where
 el:∀i,i<gs.length→cv[i+p]?=gs[i]?
 en:cv[gs.length+p]?=some (41,1)
theorem l5.len {gs cv:List (Nat×Nat)} {p:Nat} (h:l5 gs cv p):gs.length+p<cv.length:=bn h.en
theorem pU {gs:List (Nat×Nat)} {i:Nat} {r:Int} (h:gs.length≤i):ct gs i r=false:=by
 unfold ct;rw[List.getElem?_eq_none h]
theorem l5.is {gs cv:List (Nat×Nat)} {p:Nat} (h:l5 gs cv p) {i:Nat} {r:Int} (hr:r≠41) (hi:i≤gs.length):ct cv (i+p) r=ct gs i r:=by
 rcases Nat.lt_or_ge i gs.length with h1|h1
 ·unfold ct;rw[h.el i h1]
 ·obtain rfl:i=gs.length:=by omega
  rw[pU (Nat.le_refl _)];unfold ct;rw[h.en];simp only[beq_eq_false_iff_ne];exact fun h2=>hr h2.symm
theorem l5.G_ {gs cv:List (Nat×Nat)} {p:Nat} (h:l5 gs cv p) {i:Nat} {r:Int} (hi:i<gs.length):ct cv (i+p) r=ct gs i r:=by
 unfold ct;rw[h.el i hi]
theorem l5.bad {gs cv:List (Nat×Nat)} {p:Nat} (h:l5 gs cv p) {i:Nat} (hi:i<gs.length):nQ cv (i+p)=nQ gs i:=by
 unfold nQ;rw[h.el i hi]
def Fx {α:Type} (gs:List (Nat×Nat)) (p:Nat) (R R':PR α):Prop:=∀v j,R=.ok v j→(R'=.ok v (j+p)∨∃w,R'=.er 10 w)∧j≤gs.length
def DK {α:Type} (gs:List (Nat×Nat)) (p:Nat) (R R':PR α):Prop:=∀v j,R=.ok v j→R'=.ok v (j+p)∧j≤gs.length
theorem DK.e {α:Type} {gs:List (Nat×Nat)} {p:Nat} {R R':PR α} (h:DK gs p R R'):Fx gs p R R':=fun v j e=>⟨.inl (h v j e).1,(h v j e).2⟩
theorem uR {gs cv:List (Nat×Nat)} {p:Nat} (h:l5 gs cv p) (f:Nat):DK gs p (fJ gs f) (fJ cv (f+p)):=by
 intro v j e;have hx:f+p+1=f+1+p:=by omega
 have hy:f+p+2=f+2+p:=by omega
 unfold fJ at e⊢
 cases hg:gs[f+1]? with
 |none=>rw[hg] at e;cases e
 |some g=>
  have hlt:=bn hg;rw[hg] at e;rw[hx,hy,h.el _ hlt,hg];simp only at e⊢;rw[h.bad hlt];generalize(((g.1:Nat):Int))=r at*
  repeat' (split at e)
  all_goals first
   |(cases e;done)
   |(cases e;exact⟨by simp[*],by omega⟩)
theorem vy {gs cv:List (Nat×Nat)} {p:Nat} (h:l5 gs cv p) (i:Nat):DK gs p (gG gs i) (gG cv (i+p)):=by
 intro v j e;have hx:i+p+1=i+1+p:=by omega
 unfold gG at e⊢
 cases hg:gs[i]? with
 |none=>rw[hg] at e;cases e
 |some g=>
  have hlt:=bn hg;rw[hg] at e;rw[h.el _ hlt,hg];simp only at e⊢;rw[h.bad hlt]
  by_cases h1:nQ gs i=true
  ·rw[if_pos h1] at e;cases e
  rw[if_neg h1] at e⊢
  by_cases h2:((g.1:Nat):Int)=92
  ·rw[if_pos h2] at e⊢
   cases hs:fJ gs i with
   |er a b=>rw[hs] at e;cases e
   |ok q k=>
    obtain⟨h3,h4⟩:=uR h i _ _ hs;obtain⟨a,b⟩:=q;rw[hs] at e;cases e;rw[h3];exact⟨rfl,h4⟩
  rw[if_neg h2] at e⊢
  by_cases h3:((g.1:Nat):Int)=91∨((g.1:Nat):Int)=93∨((g.1:Nat):Int)=45
  ·rw[if_pos h3] at e⊢;cases e;exact⟨rfl,by omega⟩
  ·rw[if_neg h3] at e⊢;cases e;exact⟨by rw[hx],by omega⟩
theorem Ct {gs cv:List (Nat×Nat)} {p:Nat} (h:l5 gs cv p) (i:Nat):DK gs p (fw gs i) (fw cv (i+p)):=by
 intro v j e;have hlen:=h.len;unfold fw at e⊢
 cases hp:gG gs i with
 |er a b=>rw[hp] at e;cases e
 |ok q k=>
  obtain⟨h1,h2⟩:=vy h i _ _ hp;rw[hp] at e;rw[h1]
  cases q with
  |none=>cases e
  |some q=>
   obtain⟨a,one⟩:=q;simp only at e⊢;rw[h.is (by decide) h2]
   by_cases h3:ct gs k 45=true
   ·rw[if_pos h3] at e⊢
    by_cases h4:k+1<gs.length
    ·rw[if_pos h4] at e;rw[if_pos (by omega)];have hx:k+p+1=k+1+p:=by omega
     rw[hx]
     cases CD:gG gs (k+1) with
     |er a b=>rw[CD] at e;cases e
     |ok q2 k2=>
      obtain⟨h5,h6⟩:=vy h _ _ _ CD;rw[CD] at e;rw[h5]
      cases q2 with
      |none=>cases e
      |some q2=>
       obtain⟨b,two⟩:=q2;simp only at e⊢
       split at e
       ·rename_i h7;cases e;rw[if_pos h7];exact⟨rfl,h6⟩
       ·cases e
    ·rw[if_neg h4] at e;cases e
   ·rw[if_neg h3] at e⊢;cases e;exact⟨rfl,h2⟩
theorem ra {gs cv:List (Nat×Nat)} {p:Nat} (h:l5 gs cv p) {f f':Nat}:∀n n' i l nn v j,n≤n'→eS gs f n i l nn=.ok v j→eS cv f' n' (i+p) l nn=.ok v (j+p)∧j<gs.length
 |0,_,_,_,_,_,_,_,e=>by cases e
 |n+1,n',i,l,nn,v,j,hn,e=>by
  obtain⟨n',rfl⟩:∃m,n'=m+1:=⟨n'-1,by omega⟩
  have hlen:=h.len;unfold eS at e⊢
  by_cases h1:ct gs i 93=true
  ·have hlt:=dF h1;rw[if_pos h1] at e;rw[h.G_ hlt,if_pos h1]
   split at e
   ·cases e
   ·rename_i h2;cases e;rw[if_neg h2];exact⟨rfl,hlt⟩
  ·rw[if_neg h1] at e
   by_cases h2:gs.length≤i
   ·rw[if_pos h2] at e;cases e
   ·rw[if_neg h2] at e;rw[h.G_ (by omega),if_neg h1,if_neg (by omega)]
    cases hi:fw gs i with
    |er a b=>rw[hi] at e;cases e
    |ok a k=>
     obtain⟨h3,h4⟩:=Ct h i _ _ hi;rw[hi] at e;rw[h3];exact ra h n n' k _ _ v j (by omega) e
theorem Bg {gs cv:List (Nat×Nat)} {p:Nat} (h:l5 gs cv p) {i:Nat} (hi:i<gs.length):DK gs p (kG gs i) (kG cv (i+p)):=by
 intro v j e;have hlen:=h.len;unfold kG at e⊢;have hx:i+p+1=i+1+p:=by omega
 have hy:i+p+2=i+2+p:=by omega
 rw[hx,hy,h.is (by decide) (by omega)];have hz:(if ct gs (i+1) 94=true then i+2+p else i+1+p)=(if ct gs (i+1) 94=true then i+2 else i+1)+p:=by split<;>rfl
 rw[hz]
 cases hc:eS gs i (gs.length+1) (if ct gs (i+1) 94=true then i+2 else i+1) [] true with
 |er a b=>rw[hc] at e;cases e
 |ok l k=>
  obtain⟨h3,h4⟩:=ra h (f':=i+p) _ (cv.length+1) _ _ _ _ _ (by omega) hc;rw[hc] at e;rw[h3];simp only at e⊢;cases e;exact⟨by rw[show k+p+1=k+1+p by omega],by omega⟩
theorem Dc {gs cv:List (Nat×Nat)} {p:Nat} (h:l5 gs cv p) {i:Nat} (hi:i<gs.length) (g:Nat):DK gs p (lY gs i g) (lY cv (i+p) g):=by
 intro v j e;unfold lY at e⊢
 cases hc:kG gs i with
 |er a b=>rw[hc] at e;cases e
 |ok a k=>
  obtain⟨h3,h4⟩:=Bg h hi _ _ hc;rw[hc] at e;rw[h3];cases e;exact⟨rfl,h4⟩
theorem wI:∀(l r:List Int) (acc:List UInt8),digS (l++41::r) acc=digS l acc
 |[],r,acc=>by
  rw[List.nil_append];unfold digS;rw[if_neg (by omega)]
 |x::l,r,acc=>by
  rw[List.cons_append];unfold digS;simp only[wI l r]
theorem DX {gs cv:List (Nat×Nat)} {p:Nat} (h:l5 gs cv p) {i:Nat} (hi:i≤gs.length):∃r,dY cv (i+p)=dY gs i++41::r:=by
 have hlen:=h.len;refine⟨dY cv (gs.length+1+p),?_⟩;unfold dY;apply List.ext_getElem?;intro k;rw[List.getElem?_drop,List.getElem?_map]
 rcases Nat.lt_or_ge (i+k) gs.length with h1|h1
 ·rw[List.getElem?_append_left (by simp;omega),List.getElem?_drop,List.getElem?_map,show i+p+k=i+k+p by omega,h.el _ h1]
 ·rw[List.getElem?_append_right (by simp;omega)];simp only[List.length_drop,List.length_map]
  rcases Nat.lt_or_ge gs.length (i+k) with h2|h2
  ·obtain⟨q,hq⟩:∃q,k-(gs.length-i)=q+1:=⟨k-(gs.length-i)-1,by omega⟩
   rw[hq,List.getElem?_cons_succ,List.getElem?_drop,List.getElem?_map]
   congr 2;omega
  ·have:k-(gs.length-i)=0:=by omega
   rw[this,List.getElem?_cons_zero,show i+p+k=gs.length+p by omega,h.en];rfl
theorem zH {gs cv:List (Nat×Nat)} {p:Nat} (h:l5 gs cv p) {i:Nat} (hi:i≤gs.length):digS (dY cv (i+p)) []=digS (dY gs i) []∧i+(digS (dY gs i) []).2≤gs.length:=by
 obtain⟨r,hr⟩:=DX h hi;refine⟨by rw[hr,wI],?_⟩;have:=(mD (dY gs i) []).1;have h2:(dY gs i).length=gs.length-i:=by unfold dY;simp
 have h3:=mD (dY gs i) [];omega
def HD {α:Type} (p:Nat):PR α→PR α
 | .ok v j=>.ok v (j+p)
 | .er e w=>.er e (w+p)
theorem Az {gs cv:List (Nat×Nat)} {p:Nat} (h:l5 gs cv p) {f:Nat} (hf:f<gs.length):DK gs p (dQ gs f) (dQ cv (f+p)):=by
 obtain⟨d1,d2⟩:=zH h (i:=f+1) (by omega);intro v j e
 have key:dQ cv (f+p)=HD p (dQ gs f):=by
  unfold dQ;rw[show f+p+1=f+1+p by omega,d1];generalize hA:digS (dY gs (f+1)) []=A at*;rw[show f+1+p+A.2=f+1+A.2+p by omega,h.is (by decide) d2,h.is (by decide) d2]
  by_cases h0:A.2=0
  ·simp only[h0,if_true];rfl
  simp only[h0,if_false]
  by_cases h1:ct gs (f+1+A.2) 44=true
  ·have hlt:=dF h1;obtain⟨d3,d4⟩:=zH h (i:=f+1+A.2+1) (by omega);simp only[h1,if_true];rw[show f+1+A.2+p+1=f+1+A.2+1+p by omega,d3];generalize hB:digS (dY gs (f+1+A.2+1)) []=B at*;rw[show f+1+A.2+1+p+B.2=f+1+A.2+1+B.2+p by omega,h.is (by decide) d4];simp only[apply_ite (HD p)];simp only[HD];rw[show f+1+A.2+1+B.2+p+1=f+1+A.2+1+B.2+1+p by omega]
  ·simp only[h1,if_false];simp only[apply_ite (HD p)];simp only[HD];rw[show f+1+A.2+p+1=f+1+A.2+1+p by omega]
   rfl
 rw[key,e];refine⟨rfl,?_⟩;unfold dQ at e;generalize hA:digS (dY gs (f+1)) []=A at*;generalize hB:digS (dY gs (f+1+A.2+1)) []=B at*
 split at e
 ·cases e
 split at e
 ·split at e
  ·rename_i h5;have hlt:=dF h5
   repeat' (split at e)
   all_goals first|(cases e;omega)|(cases e;done)
  ·cases e
 ·split at e
  ·rename_i h5;have hlt:=dF h5
   repeat' (split at e)
   all_goals first|(cases e;omega)|(cases e;done)
  ·cases e
def E4 (gs cv:List (Nat×Nat)) (p:Nat) (A A':PF):Prop:=∀i g,i≤gs.length→Fx gs p (A i g) (A' (i+p) g)
theorem qI {gs cv:List (Nat×Nat)} {p:Nat} (h:l5 gs cv p) {A A':PF} (hA:E4 gs cv p A A') {m m' i g:Nat} {free:Bool} {j:Nat} (hj:j≤gs.length):Fx gs p (eB A gs m i g free j) (eB A' cv m' (i+p) g free (j+p)):=by
 intro v k e;unfold eB at e⊢
 by_cases h1:m=0
 ·rw[if_pos h1] at e;cases e
 rw[if_neg h1] at e
 by_cases h2:free=false∧4≤g
 ·rw[if_pos h2] at e;cases e
 rw[if_neg h2] at e
 cases ha:A j (if free=true then g else g+1) with
 |er a b=>rw[ha] at e;cases e
 |ok q k2=>
  obtain⟨h3,h4⟩:=hA j _ hj _ _ ha;obtain⟨l,g2⟩:=q;rw[ha] at e;simp only at e
  split at e
  ·rename_i h5;have hlt:=dF h5;cases e;refine⟨?_,by omega⟩
   by_cases h6:m'=0
   ·exact .inr ⟨_,by rw[if_pos h6]⟩
   rw[if_neg h6,if_neg h2]
   rcases h3 with h3|⟨w,h3⟩
   ·rw[h3];simp only;rw[h.G_ hlt,if_pos h5];exact .inl (by rw[show k2+p+1=k2+1+p by omega])
   ·rw[h3];exact .inr ⟨w,rfl⟩
  ·cases e
theorem A2 {gs cv:List (Nat×Nat)} {p:Nat} (h:l5 gs cv p) {A A':PF} (hA:E4 gs cv p A A') {m m' i g:Nat} (hi:i<gs.length):Fx gs p (iC A gs m i g) (iC A' cv m' (i+p) g):=by
 intro v k e;unfold iC at e⊢;rw[show i+p+1=i+1+p by omega,h.is (by decide) (by omega)]
 by_cases h1:ct gs (i+1) 63=true
 ·have hlt:=dF h1;rw[if_pos h1] at e⊢;rw[show i+p+2=i+2+p by omega,h.is (by decide) (by omega)]
  by_cases h2:ct gs (i+2) 58=true
  ·have Is:=dF h2;rw[if_pos h2] at e⊢;rw[show i+p+3=i+3+p by omega];exact qI h hA (by omega) v k e
  ·rw[if_neg h2] at e;cases e
 ·rw[if_neg h1] at e⊢;exact qI h hA (by omega) v k e
theorem Dn {gs cv:List (Nat×Nat)} {p:Nat} (h:l5 gs cv p) {A A':PF} (hA:E4 gs cv p A A') {m m' i g:Nat}:Fx gs p (iX A gs m i g) (iX A' cv m' (i+p) g):=by
 intro v k e;unfold iX at e⊢
 cases hg:gs[i]? with
 |none=>rw[hg] at e;cases e
 |some q=>
  have hlt:=bn hg;rw[hg] at e;rw[h.el _ hlt,hg];simp only at e⊢;rw[h.bad hlt]
  by_cases h1:nQ gs i=true
  ·rw[if_pos h1] at e;cases e
  rw[if_neg h1] at e⊢;unfold ot at e⊢;rw[show i+p+1=i+1+p by omega]
  split at e
  ·rename_i h2;rw[if_pos h2];exact A2 h hA hlt v k e
  rename_i h2;rw[if_neg h2]
  split at e
  ·rename_i h3;rw[if_pos h3];exact(Dc h hlt g).e v k e
  rename_i h3;rw[if_neg h3]
  split at e
  ·rename_i h4;rw[if_pos h4]
   cases hs:fJ gs i with
   |er a b=>rw[hs] at e;cases e
   |ok q2 k2=>
    obtain⟨h5,h6⟩:=uR h i _ _ hs;obtain⟨a,b⟩:=q2;rw[hs] at e;cases e;rw[h5];exact⟨.inl rfl,h6⟩
  rename_i h4;rw[if_neg h4]
  split at e
  ·rename_i h5;rw[if_pos h5];cases e;exact⟨.inl rfl,by omega⟩
  rename_i h5;rw[if_neg h5]
  split at e
  ·rename_i h6;rw[if_pos h6];cases e;exact⟨.inl rfl,by omega⟩
  rename_i h6;rw[if_neg h6]
  split at e
  ·rename_i h7;rw[if_pos h7];cases e;exact⟨.inl rfl,by omega⟩
  rename_i h7;rw[if_neg h7]
  split at e
  ·cases e
  rename_i h8;rw[if_neg h8];cases e;exact⟨.inl rfl,by omega⟩
theorem mg {gs cv:List (Nat×Nat)} {p:Nat} (h:l5 gs cv p) {l:List bF} {g:Nat} {mn mx:Int} {j:Nat} (hj:j≤gs.length):DK gs p (j5 gs l g mn mx j) (j5 cv l g mn mx (j+p)):=by
 intro v k e;unfold j5 at e⊢;rw[h.is (by decide) hj]
 by_cases h1:ct gs j 63=true
 ·have hlt:=dF h1;rw[if_pos h1] at e⊢;cases e;exact⟨by rw[show j+p+1=j+1+p by omega],by omega⟩
 ·rw[if_neg h1] at e⊢;cases e;exact⟨rfl,hj⟩
theorem vh {gs cv:List (Nat×Nat)} {p:Nat} (h:l5 gs cv p) {l:List bF} {g j:Nat} (hj:j≤gs.length):DK gs p (lx gs l g j) (lx cv l g (j+p)):=by
 intro v k e;unfold lx at e⊢;rw[h.is (by decide) hj,h.is (by decide) hj,h.is (by decide) hj,h.is (by decide) hj,show j+p+1=j+1+p by omega]
 split at e
 ·rename_i h1;have:=dF h1;rw[if_pos h1];exact mg h (by omega) v k e
 rename_i h1;rw[if_neg h1]
 split at e
 ·rename_i h1;have:=dF h1;rw[if_pos h1];exact mg h (by omega) v k e
 rename_i h1;rw[if_neg h1]
 split at e
 ·rename_i h1;have:=dF h1;rw[if_pos h1];exact mg h (by omega) v k e
 rename_i h1;rw[if_neg h1]
 split at e
 ·rename_i h1;have hlt:=dF h1;rw[if_pos h1]
  cases ho:dQ gs j with
  |er a b=>rw[ho] at e;cases e
  |ok q k2=>
   obtain⟨h5,h6⟩:=Az h hlt _ _ ho;obtain⟨a,b⟩:=q;rw[ho] at e;rw[h5];exact mg h h6 v k e
 ·rename_i h1;rw[if_neg h1];cases e;exact⟨rfl,hj⟩
theorem D1 {gs cv:List (Nat×Nat)} {p:Nat} (h:l5 gs cv p) {A A':PF} (hA:E4 gs cv p A A') {m m' i g:Nat}:Fx gs p (gP A gs m i g) (gP A' cv m' (i+p) g):=by
 intro v k e;unfold gP at e⊢
 cases ha:iX A gs m i g with
 |er a b=>rw[ha] at e;cases e
 |ok q k2=>
  obtain⟨h1,h2⟩:=Dn h hA (m':=m') _ _ ha;obtain⟨l,g1⟩:=q;rw[ha] at e
  rcases h1 with h1|⟨w,h1⟩
  ·rw[h1];exact(vh h h2).e v k e
  ·rw[h1];refine⟨.inr ⟨w,rfl⟩,(vh h h2 v k e).2⟩
theorem uS {gs:List (Nat×Nat)} {f:Nat} {v} {j:Nat} (e:fJ gs f=.ok v j):f<j:=by
 unfold fJ at e
 split at e
 ·cases e
 ·repeat' (split at e)
  all_goals first|(cases e;done)|(cases e;omega)
theorem vz {gs:List (Nat×Nat)} {i:Nat} {v} {j:Nat} (e:gG gs i=.ok (some v) j):i<j:=by
 unfold gG at e
 split at e
 ·cases e
 ·split at e
  ·cases e
  ·split at e
   ·split at e
    ·rename_i hs;cases e;exact uS hs
    ·cases e
   ·split at e
    ·cases e
    ·cases e;omega
theorem Cu {gs:List (Nat×Nat)} {i:Nat} {v} {j:Nat} (e:fw gs i=.ok v j):i<j:=by
 unfold fw at e
 split at e
 ·cases e
 ·cases e
 ·rename_i h1;have Fu:=vz h1;clear h1
  split at e
  ·split at e
   ·split at e
    ·cases e
    ·cases e
    ·rename_i h2;have J8:=vz h2;clear h2
     split at e
     ·cases e;omega
     ·cases e
   ·cases e
  ·cases e;exact Fu
theorem rb {gs:List (Nat×Nat)} {f:Nat}:∀n i l nn v j,eS gs f n i l nn=.ok v j→i≤j
 |0,_,_,_,_,_,e=>by cases e
 |n+1,i,l,nn,v,j,e=>by
  unfold eS at e
  split at e
  ·split at e
   ·cases e
   ·cases e;omega
  ·split at e
   ·cases e
   ·split at e
    ·cases e
    ·rename_i h1;have:=Cu h1;have:=rb _ _ _ _ _ _ e;omega
theorem Dd {gs:List (Nat×Nat)} {i g:Nat} {v} {j:Nat} (e:lY gs i g=.ok v j):i<j:=by
 unfold lY kG at e
 split at e
 ·cases e
 ·rename_i h1
  split at h1
  ·cases h1
  ·rename_i h2;have:=rb _ _ _ _ _ _ h2;cases h1;cases e
   split at this<;>omega
theorem AA {gs:List (Nat×Nat)} {f:Nat} {v} {j:Nat} (e:dQ gs f=.ok v j):f<j:=by
 unfold dQ at e
 repeat' (split at e)
 all_goals first|(cases e;done)|(cases e;omega)
theorem tn {gs:List (Nat×Nat)} {A:PF} (hA:∀i g v j,A i g=.ok v j→i≤j) {m i g:Nat} {v} {j:Nat} (e:gP A gs m i g=.ok v j):i<j:=by
 unfold gP at e
 split at e
 ·cases e
 ·rename_i l g1 k h1
  have h2:i<k:=by
   unfold iX at h1
   split at h1
   ·cases h1
   ·split at h1
    ·cases h1
    ·unfold ot at h1
     split at h1
     ·have hB:∀{free:Bool} {j0:Nat} {v} {k},i<j0→eB A gs m i g free j0=.ok v k→i<k:=by
       intro free j0 v k h0 e;unfold eB at e
       split at e
       ·cases e
       ·split at e
        ·cases e
        ·split at e
         ·cases e
         ·rename_i h3;have:=hA _ _ _ _ h3
          split at e
          ·cases e;omega
          ·cases e
      unfold iC at h1
      split at h1
      ·split at h1
       ·exact hB (by omega) h1
       ·cases h1
      ·exact hB (by omega) h1
     ·split at h1
      ·exact Dd h1
      ·split at h1
       ·split at h1
        ·cases h1
        ·rename_i h3;cases h1;exact uS h3
       ·repeat' (split at h1)
        all_goals first|(cases h1;done)|(cases h1;omega)
  have hb:∀{mn mx:Int} {j0:Nat} {v} {k},j5 gs l g1 mn mx j0=.ok v k→j0≤k:=by
   intro mn mx j0 v k e;unfold j5 at e
   split at e<;>(cases e;omega)
  unfold lx at e
  split at e
  ·have:=hb e;omega
  ·split at e
   ·have:=hb e;omega
   ·split at e
    ·have:=hb e;omega
    ·split at e
     ·split at e
      ·cases e
      ·rename_i h3;have:=AA h3;have:=hb e;omega
     ·cases e;exact h2
theorem kI {gs:List (Nat×Nat)} {A:PF} (hA:∀i g v j,A i g=.ok v j→i≤j) {m:Nat}:∀n i g ps v j,gX A gs m n i g ps=.ok v j→i≤j
 |0,_,_,_,_,_,e=>by cases e;omega
 |n+1,i,g,ps,v,j,e=>by
  unfold gX at e
  split at e
  ·split at e
   ·cases e
   ·rename_i h1;have:=tn hA h1;have:=kI hA _ _ _ _ _ _ e;omega
  ·cases e;omega
theorem wZ {gs:List (Nat×Nat)} {A:PF} (hA:∀i g v j,A i g=.ok v j→i≤j) {m:Nat}:∀n i g ps v j,kK A gs m n i g ps=.ok v j→i≤j
 |0,_,_,_,_,_,e=>by cases e;omega
 |n+1,i,g,ps,v,j,e=>by
  unfold kK at e
  split at e
  ·split at e
   ·cases e
   ·rename_i h1;have:=kI hA _ _ _ _ _ _ h1;have:=wZ hA _ _ _ _ _ _ e;omega
  ·cases e;omega
theorem w5 {gs:List (Nat×Nat)} {A:PF} (hA:∀i g v j,A i g=.ok v j→i≤j) {m:Nat}:∀i g v j,g_ A gs m i g=.ok v j→i≤j:=by
 intro i g v j e;unfold g_ at e
 split at e
 ·cases e
 ·rename_i h1;have:=kI hA _ _ _ _ _ _ h1;have:=wZ hA _ _ _ _ _ _ e;omega
theorem rn (gs:List (Nat×Nat)):∀m i g v j,jh gs m i g=.ok v j→i≤j
 |0=>w5 (fun _ _ _ _ e=>by cases e)
 |m+1=>w5 (rn gs m)
theorem ux {gs cv:List (Nat×Nat)} {p:Nat} (h:l5 gs cv p) {A A':PF} (hA:E4 gs cv p A A') {m m':Nat} (hm:m'≠20):∀n n' i g ps,n≤n'→i≤gs.length→gs.length<n+i→(∀i g v j,i<gs.length→gP A gs m i g=.ok v j→i<j)→Fx gs p (gX A gs m n i g ps) (gX A' cv m' n' (i+p) g ps)
 |0,_,_,_,_,_,_,_,_=>by omega
 |n+1,n',i,g,ps,hn,hi,hf,hp=>by
  obtain⟨n',rfl⟩:∃m,n'=m+1:=⟨n'-1,by omega⟩
  have hlen:=h.len;intro v k e;unfold gX at e⊢
  by_cases h1:i<gs.length∧ct gs i 124=false∧(ct gs i 41=false∨m=20)
  ·rw[if_pos h1] at e
   cases hr:gP A gs m i g with
   |er a b=>rw[hr] at e;cases e
   |ok q k2=>
    have L6:ct gs i 41=false:=by
     cases h2:ct gs i 41 with
     |false=>rfl
     |true=>
      exfalso
      have hlt:=dF h2;have hg:gs[i]?=some gs[i]:=List.getElem?_eq_getElem hlt;generalize gs[i]=q at hg;unfold ct at h2;rw[hg] at h2;simp only[beq_iff_eq] at h2;unfold gP iX at hr;rw[hg] at hr;simp only at hr
      split at hr
      ·cases hr
      ·rename_i x heq;unfold ot at heq;rw[h2] at heq
       split at heq<;>first|(cases heq;done)|(simp at heq;done)|skip
       all_goals simp at heq
    rw[if_pos ⟨by omega,by rw[h.G_ h1.1];exact h1.2.1,.inl (by rw[h.G_ h1.1];exact L6)⟩];obtain⟨h2,h3⟩:=D1 h hA (m':=m') _ _ hr;have h4:=hp _ _ _ _ h1.1 hr;obtain⟨l,g2⟩:=q;rw[hr] at e;simp only at e;obtain⟨h5,h6⟩:=ux h hA (m':=m') hm n n' k2 g2 (ps++[l]) (by omega) h3 (by omega) hp v k e
    rcases h2 with h2|⟨w,h2⟩
    ·rw[h2];exact⟨h5,h6⟩
    ·rw[h2];exact⟨.inr ⟨w,rfl⟩,h6⟩
  ·rw[if_neg h1] at e;cases e;refine⟨.inl ?_,hi⟩;rw[if_neg ?_];rintro⟨h2,h3,h4⟩;have h4:=h4.resolve_right hm
   rcases Nat.lt_or_ge i gs.length with h5|h5
   ·rw[h.G_ h5] at h3 h4;exact h1 ⟨h5,h3,.inl h4⟩
   ·obtain rfl:i=gs.length:=by omega
    unfold ct at h4;rw[h.en] at h4;simp at h4
theorem zS {gs cv:List (Nat×Nat)} {p:Nat} (h:l5 gs cv p) {A A':PF} (hA:E4 gs cv p A A') (hv:∀i g v j,A i g=.ok v j→i≤j) {m m':Nat} (hm:m'≠20):∀n n' i g ps,n≤n'→i≤gs.length→gs.length<n+i→Fx gs p (kK A gs m n i g ps) (kK A' cv m' n' (i+p) g ps)
 |0,_,_,_,_,_,_,_=>by omega
 |n+1,n',i,g,ps,hn,hi,hf=>by
  obtain⟨n',rfl⟩:∃m,n'=m+1:=⟨n'-1,by omega⟩
  have hlen:=h.len;intro v k e;unfold kK at e⊢;rw[h.is (by decide) hi]
  by_cases h1:ct gs i 124=true
  ·have hlt:=dF h1;rw[if_pos h1] at e⊢;rw[show i+p+1=i+1+p by omega]
   cases hr:kJ A gs m (i+1) g with
   |er a b=>rw[hr] at e;cases e
   |ok q k2=>
    have h4:=kI hv _ _ _ _ _ _ hr;obtain⟨h2,h3⟩:=ux h hA (m':=m') hm (gs.length+1) (cv.length+1) (i+1) g [] (by omega) (by omega) (by omega) (fun i g v j _ e=>tn hv e) _ _ hr;obtain⟨l,g2⟩:=q;rw[hr] at e;simp only at e;obtain⟨h5,h6⟩:=zS h hA hv (m':=m') hm n n' k2 g2 (ps++[l]) (by omega) h3 (by omega) v k e;unfold kJ
    rcases h2 with h2|⟨w,h2⟩
    ·rw[h2];exact⟨h5,h6⟩
    ·rw[h2];exact⟨.inr ⟨w,rfl⟩,h6⟩
  ·rw[if_neg h1] at e⊢;cases e;exact⟨.inl rfl,hi⟩
theorem mV {gs cv:List (Nat×Nat)} {p:Nat} (h:l5 gs cv p) {A A':PF} (hA:E4 gs cv p A A') (hv:∀i g v j,A i g=.ok v j→i≤j) {m m':Nat} (hm:m'≠20):E4 gs cv p (g_ A gs m) (g_ A' cv m'):=by
 intro i g hi v k e;have hlen:=h.len;unfold g_ at e⊢
 cases hr:kJ A gs m i g with
 |er a b=>rw[hr] at e;cases e
 |ok q k2=>
  have h4:=kI hv _ _ _ _ _ _ hr;obtain⟨h2,h3⟩:=ux h hA (m':=m') hm (gs.length+1) (cv.length+1) i g [] (by omega) hi (by omega) (fun i g v j _ e=>tn hv e) _ _ hr;obtain⟨l,g2⟩:=q;rw[hr] at e;simp only at e;obtain⟨h5,h6⟩:=zS h hA hv (m':=m') hm (gs.length+1) (cv.length+1) k2 g2 [l] (by omega) h3 (by omega) v k e;unfold kJ
  rcases h2 with h2|⟨w,h2⟩
  ·rw[h2];exact⟨h5,h6⟩
  ·rw[h2];exact⟨.inr ⟨w,rfl⟩,h6⟩
theorem mU {gs cv:List (Nat×Nat)} {p:Nat} (h:l5 gs cv p):∀m m',m'<20→E4 gs cv p (jh gs m) (jh cv m')
 |0,0,_=>mV h (fun i g _ v j e=>by cases e) (fun _ _ _ _ e=>by cases e) (by omega)
 |0,m'+1,_=>mV h (fun i g _ v j e=>by cases e) (fun _ _ _ _ e=>by cases e) (by omega)
 |m+1,0,_=>mV h (fun i g hi v j e=>⟨.inr ⟨_,rfl⟩,by
   have:=(mU h m 0 (by omega) i g hi v j e).2;exact this⟩) (rn gs m) (by omega)
 |m+1,m'+1,hm=>mV h (mU h m m' (by omega)) (rn gs m) (by omega)
def c6 (l:List bF):Nat:=l.countP fun n=>n.op==6
theorem Dk (a b:List bF):c6 (a++b)=c6 a+c6 b:=List.countP_append
theorem oW (n:bF) (l:List bF):c6 (n::l)=c6 l+if n.op=6 then 1 else 0:=by
 unfold c6;rw[List.countP_cons];simp only[beq_iff_eq]
theorem oV {op:Int} (h:op≠6) (ps:List (List bF)):c6 (ew op ps)=(ps.map c6).sum:=by
 unfold ew
 match ps with
 |[]=>rfl
 |[l]=>simp
 |a::b::ps=>
  rw[oW,if_neg (by simpa[fy] using h)]
  have:∀l:List (List bF),c6 l.flatten=(l.map c6).sum:=by
   intro l
   induction l with
   |nil=>rfl
   |cons x l ih=>rw[List.flatten_cons,Dk,ih];rfl
  rw[this];rfl
def Ho (A:PF):Prop:=∀i g l g2 j,A i g=.ok (l,g2) j→g2=g+c6 l
theorem FI {gs:List (Nat×Nat)} {A:PF} (hA:Ho A) {m i g:Nat} {l g2 j} (e:gP A gs m i g=.ok (l,g2) j):g2=g+c6 l:=by
 unfold gP at e
 split at e
 ·cases e
 ·rename_i l1 g1 k h1
  have h2:g1=g+c6 l1:=by
   unfold iX at h1
   split at h1
   ·cases h1
   ·split at h1
    ·cases h1
    ·unfold ot at h1
     split at h1
     ·have hB:∀{free:Bool} {j0:Nat} {l g2 k},eB A gs m i g free j0=.ok (l,g2) k→g2=g+c6 l:=by
       intro free j0 l g2 k e;unfold eB at e
       split at e
       ·cases e
       ·split at e
        ·cases e
        ·split at e
         ·cases e
         ·rename_i h3;have h3:=hA _ _ _ _ _ h3
          split at e
          ·cases e
           cases free with
           |true=>simpa using h3
           |false=>
            simp only[Bool.false_eq_true,if_false] at h3⊢;rw[oW,if_pos (show(fy 6 0 0 false ((g+1:Nat):Int) 1 []).op=6 from rfl)];omega
          ·cases e
      unfold iC at h1
      split at h1
      ·split at h1
       ·exact hB h1
       ·cases h1
      ·exact hB h1
     ·split at h1
      ·unfold lY at h1
       split at h1
       ·cases h1
       ·cases h1;rfl
      ·split at h1
       ·split at h1
        ·cases h1
        ·cases h1;rfl
       ·repeat' (split at h1)
        all_goals first|(cases h1;done)|(cases h1;rfl)
  have hb:∀{mn mx:Int} {j0:Nat} {l g2 k},j5 gs l1 g1 mn mx j0=.ok (l,g2) k→g2=g+c6 l:=by
   intro mn mx j0 l g2 k e;unfold j5 at e;cases e;rw[oW,if_neg (by simp[fy])];exact h2
  unfold lx at e
  split at e
  ·exact hb e
  ·split at e
   ·exact hb e
   ·split at e
    ·exact hb e
    ·split at e
     ·split at e
      ·cases e
      ·exact hb e
     ·cases e;exact h2
theorem yy {gs:List (Nat×Nat)} {A:PF} (hA:Ho A) {m:Nat}:∀n i g ps l g2 j,gX A gs m n i g ps=.ok (l,g2) j→g2+(ps.map c6).sum=g+c6 l
 |0,_,_,ps,_,_,_,e=>by cases e;rw[oV (by decide)]
 |n+1,i,g,ps,l,g2,j,e=>by
  unfold gX at e
  split at e
  ·split at e
   ·cases e
   ·rename_i l1 g1 k h1;have h2:=FI hA h1;have h3:=yy hA _ _ _ _ _ _ _ e;rw[List.map_append,List.sum_append] at h3;simp only[List.map_cons,List.map_nil,List.sum_cons,List.sum_nil] at h3;omega
  ·cases e;rw[oV (by decide)]
theorem zW {gs:List (Nat×Nat)} {A:PF} (hA:Ho A) {m:Nat}:∀n i g ps l g2 j,kK A gs m n i g ps=.ok (l,g2) j→g2+(ps.map c6).sum=g+c6 l
 |0,_,_,ps,_,_,_,e=>by cases e;rw[oV (by decide)]
 |n+1,i,g,ps,l,g2,j,e=>by
  unfold kK at e
  split at e
  ·split at e
   ·cases e
   ·rename_i l1 g1 k h1;have h2:=yy hA _ _ _ _ _ _ _ h1;have h3:=zW hA _ _ _ _ _ _ _ e;rw[List.map_append,List.sum_append] at h3;simp only[List.map_cons,List.map_nil,List.sum_cons,List.sum_nil] at h2 h3;omega
  ·cases e;rw[oV (by decide)]
theorem z7 {gs:List (Nat×Nat)} {A:PF} (hA:Ho A) {m:Nat}:Ho (g_ A gs m):=by
 intro i g l g2 j e;unfold g_ at e
 split at e
 ·cases e
 ·rename_i h1;have h2:=yy hA _ _ _ _ _ _ _ h1;have h3:=zW hA _ _ _ _ _ _ _ e;simp only[List.map_cons,List.map_nil,List.sum_cons,List.sum_nil] at h2 h3;omega
theorem zY (gs:List (Nat×Nat)):∀m,Ho (jh gs m)
 |0=>z7 (fun _ _ _ _ _ e=>by cases e)
 |m+1=>z7 (zY gs m)
theorem Da {p:Prop} (h:dec p=true):p:=by
 refine Classical.byContradiction fun g=>?_;rw[qU g] at h;cases h
def dE (fr:Go.V.Fr) (k:Nat):Go.V.D:=Go.V.nth .bG fr.loc k
abbrev rQ:=Nat→Int
def aL (f:rQ):List D:=[.int .i64 (f 0),.int .i64 (f 1),.int .i64 (f 2),.int .i64 (f 3),.int .i64 (f 4),.int .i64 (f 5),.int .i64 (f 6),.int .i64 (f 7),.int .i64 (f 8),.int .i64 (f 9)]
def bj:rQ:=fun _=>-1
def aG:rQ:=fun _=>0
def fK (f:rQ) (x:Nat) (v:Int):rQ:=fun j=>if j=x then v else f j
structure ji where
 pc:Nat
 at_:Nat
 c:rQ
def bE (t:ji):List D:=.int .i64 (t.pc:Nat)::.int .i64 (t.at_:Nat)::aL t.c
theorem BS {a b:D} {f:rQ} {x:Nat} {v:Int} (hx:x<10):setMany (a::b::aL f) (2+x) [.int .i64 v]=a::b::aL (fK f x v):=by
 match x,hx with
 |0,_=>rfl
 |1,_=>rfl
 |2,_=>rfl
 |3,_=>rfl
 |4,_=>rfl
 |5,_=>rfl
 |6,_=>rfl
 |7,_=>rfl
 |8,_=>rfl
 |9,_=>rfl
inductive DJ where
 |found
 |more (l:List ji)
def cG (code:List aN) (gs:List (Nat×Nat)) (pl:List Int) (t:ji):DJ:=
 match code[t.pc]? with
 |none=>.more []
 |some i=>
  if i.op=7 then .found
  else if i.op=2 then .more [⟨i.x.toNat,t.at_,t.c⟩,⟨i.y.toNat,t.at_,t.c⟩]
  else if i.op=3 then .more [⟨i.x.toNat,t.at_,t.c⟩]
  else if i.op=4 then .more [⟨t.pc+1,t.at_,fK t.c i.x.toNat (pl.getD t.at_ 0)⟩]
  else if i.op=5 then .more (if t.at_=0 then[⟨t.pc+1,t.at_,t.c⟩] else[])
  else if i.op=6 then .more (if t.at_=gs.length then[⟨t.pc+1,t.at_,t.c⟩] else[])
  else .more (if t.at_<gs.length∧lD i.rs ((gs.getD t.at_ (0,0)).1:Nat)=true then[⟨t.pc+1,t.at_+1,t.c⟩] else[])
theorem me {n ns pc:Nat} {i:aN} (h:dh n ns pc i=true):
  i.op=7∨(i.op=2∧(0≤i.x∧i.x<(n:Int))∧0≤i.y∧i.y<(n:Int))∨(i.op=3∧0≤i.x∧i.x<(n:Int))∨(i.op=4∧pc+1<n∧0≤i.x∧i.x<10)∨(i.op=5∧pc+1<n)∨(i.op=6∧pc+1<n)∨(i.op=1∧pc+1<n):=by
 unfold dh at h
 split at h
 ·rename_i h1;simp only[Bool.and_eq_true,decide_eq_true_eq] at h;refine .inr (.inr (.inr (.inr (.inr (.inr ⟨h1,?_⟩)))));omega
 ·simp only[Bool.and_eq_true] at h;obtain⟨_,h⟩:=h
  split at h
  ·rename_i h2;simp only[Bool.and_eq_true] at h;exact .inr (.inl ⟨h2,dU.1 h.1,dU.1 h.2⟩)
  ·simp only[Bool.and_eq_true] at h;obtain⟨_,h⟩:=h
   split at h
   ·rename_i h3;exact .inr (.inr (.inl ⟨h3,dU.1 h⟩))
   ·split at h
    ·rename_i h4;simp only[Bool.and_eq_true,decide_eq_true_eq] at h;exact .inr (.inr (.inr (.inl ⟨h4,by omega,dU.1 h.2⟩)))
    ·split at h
     ·rename_i h5;simp only[Bool.and_eq_true,decide_eq_true_eq] at h
      rcases h5 with h5|h5
      ·exact .inr (.inr (.inr (.inr (.inl ⟨h5,by omega⟩))))
      ·exact .inr (.inr (.inr (.inr (.inr (.inl ⟨h5,by omega⟩)))))
     ·split at h
      ·rename_i h7;exact .inl h7
      ·cases h
def fI (N:Nat) (S:St) (k:Nat) (p:Pg) (gs:List (Nat×Nat)) (bz ic:D) (aS:List Int) (H:List cx) (t:ji) (c9:List ji) (d:D) (ag:St):Prop:=
 match cG p.code gs aS t with
 | .found=>d=.tup [.agg (aL t.c),.bool true]∧∃gb,Has N S ag (.box k (.mem 0 false [p.cd,p.sd,cO gs,bz,ic,gb])::.aR gb 12 (c9.reverse.map bE)::.aR bz 1 (aS.map au)::H)
 | .more l=>d=.tup [.agg (aL aG),.bool false]∧∃gb,Has N S ag (.box k (.mem 0 false [p.cd,p.sd,cO gs,bz,ic,gb])::.aR gb 12 ((l++c9).reverse.map bE)::.aR bz 1 (aS.map au)::H)
theorem DT {N:Nat} {S st:St} {H:List cx} {k:Nat} {p:Pg} {gs:List (Nat×Nat)} {bz ic gb:D} {aS:List Int} {t:ji} {c9:List ji} {i:aN} (hF:S.flr≤N) (hp:p.ok) (hi:p.code[t.pc]?=some i) (hsh:dh p.code.length p.aK.length t.pc i=true) (qk:gs.length≤1048576) (iB:t.at_≤gs.length) (jT:aS.length=gs.length+1) (lB:c9.length≤536870912)
  (hH:Has N S st (.box k (.mem 0 false [p.cd,p.sd,cO gs,bz,ic,gb])::.aR gb 12 (c9.reverse.map bE)::.aR bz 1 (aS.map au)::H)):
  ∃d ag,Ev pv 84 [.ptr k 0 0,.agg (bE t)] st d ag∧fI N S k p gs bz ic aS H t c9 d ag:=by
 have hc:=hp.c.arg N S;have hlen:=hp.cl;have Bv:Arg N S 2 (cO gs) (gs.map bq):=Arg.pure (fun st=>dw st gs);have hr:=lh hi;have CB:=(hp.i i (List.mem_of_getElem? hi)).1;have JO:=CB.arg N S;have zq:=(hp.i i (List.mem_of_getElem? hi)).2;have hlt:=bn hi;have yc:=me hsh;obtain⟨op,x,y,rd,rs⟩:=i;obtain⟨pc,at_,c⟩:=t;simp only at*;refine Ev.ow rfl Mb rfl rfl rfl ?_;dsimp only[u3,u4,List.length,Nat.reduceSub,Nat.reduceAdd,w1,w2];change af _ _ _ _ st _;refine qq<|qj fun K hK=>qb hH fun k3 st JX hH=>?_;dsimp only[u2,u1,u3,u4,setMany,u5,u6,D.cells,Nat.reduceAdd,aX,au,bE,aL] at hH;refine qa hH fun k4 st JW hH=>?_;refine qm ?_;refine qe hK<|qq<|qj fun K hK=>qm ?_;refine qg ?_;refine qp (o:=0) ?_;refine qp (o:=0) ?_;refine ql hH dx ?_;refine qp (o:=0) ?_;refine ql hH cp ?_;refine qr fun Ox Li=>?_;refine ab.fk rfl (ev rfl) (by assumption) rfl (by dsimp only[Fr.put,u1,u2]<;>rfl) ?_;refine qa hH fun k6 st Fl hH=>?_;refine qS hH aC fun st hH=>?_;dsimp only[u2,u1,u3,u4,setMany,u5,u6,D.cells,Nat.reduceAdd,aX,au,bE,aL] at hH;refine qe hK<|qq<|qj fun K hK=>?_;refine ab.cI (m:=12) hH rfl (ev rfl) (by exact dx) (by dsimp only[List.drop_succ_cons,List.drop_zero,List.take_succ_cons,List.take_zero,aX,au,bE,aL]<;>rfl) rfl rfl (by dsimp only[Fr.put,u1,u2]<;>rfl) ?_;refine qa hH fun k7 st NB hH=>?_;refine qS hH aC fun st hH=>?_;dsimp only[u2,u1,u3,u4,setMany,u5,u6,D.cells,Nat.reduceAdd,aX,au,bE,aL] at hH;refine qe hK<|qq<|qj fun K hK=>qp (o:=0) ?_;refine ql hH aC ?_;refine qA ?_;refine qp (o:=0) ?_;refine qT hH aC fun st hH=>?_;dsimp only[u2,u1,u3,u4,setMany,u5,u6,D.cells,Nat.reduceAdd,aX,au,bE,aL] at hH;refine qe hK<|qq<|qq<|qj fun K hK=>qp (o:=0) ?_;refine ql hH cp ?_;refine qe hK ?_;have RH:D.agg [.int .i64 0,.int .i64 0,.int .i64 0,.int .i64 0,.int .i64 0,.int .i64 0,.int .i64 0,.int .i64 0,.int .i64 0,.int .i64 0]=.agg (aL aG):=rfl;refine af.merge (fun fr st=>∃(t':ji) (tmp:List (Nat×D)),fr=⟨24,[.ptr k 0 0,dE fr 1,dE fr 2,.ptr k3 0 0,.ptr k4 0 0,.bool false,.ptr k6 0 0,.ptr k7 0 0,dE fr 8,dE fr 9,dE fr 10,dE fr 11,dE fr 12,dE fr 13,dE fr 14,dE fr 15,dE fr 16,dE fr 17,dE fr 18,dE fr 19,dE fr 20,dE fr 21,dE fr 22,dE fr 23],tmp⟩∧Has N S st (.box k7 (.mem 0 false (bE t'))::.box k6 (.mem 0 false [.int .i64 op,.int .i64 x,.int .i64 y,rd])::.box k4 (.mem 0 false (aL aG))::.box k3 (.mem 0 false (bE ⟨pc,at_,c⟩))::.box k (.mem 0 false [p.cd,p.sd,cO gs,bz,ic,gb])::.aR gb 12 (c9.reverse.map bE)::.aR bz 1 (aS.map au)::H)∧(cG p.code gs aS ⟨pc,at_,c⟩=.more [t'])) ?_ ?_
 ·refine af.block<|qq<|qj fun K hK=>qg ?_;refine qm ?_;refine qe hK ?_;refine af.cond (by rfl) (fun h7=>?_) (fun h7=>?_)<;>try simp only[beq_iff_eq,beq_eq_false_iff_ne,ne_eq] at h7
  ·have hS:cG p.code gs aS ⟨pc,at_,c⟩=.found:=by unfold cG;simp only[hi];rw[if_pos h7]
   refine qq<|qj fun K hK=>qp (o:=2) ?_;refine ab.cI (m:=10) hH rfl (ev rfl) (by exact fc) (by dsimp only[List.drop_succ_cons,List.drop_zero,List.take_succ_cons,List.take_zero,aX,au,bE,aL]<;>rfl) rfl rfl (aa rfl _) ?_;refine qS hH dx fun st hH=>?_;dsimp only[u2,u1,u3,u4,setMany,u5,u6,D.cells,Nat.reduceAdd,aX,au,bE,aL] at hH;refine qm ?_;refine qe hK<|af.ret ⟨rx,_,_,_,hH.db rfl dx rfl rfl,rfl,?_⟩;unfold fI;rw[hS];exact⟨rfl,gb,hH.drop 4⟩
  ·refine qq<|qj fun K hK=>qg ?_;refine qm ?_;refine qe hK ?_;refine af.cond (by rfl) (fun h2=>?_) (fun h2=>?_)<;>try simp only[beq_iff_eq,beq_eq_false_iff_ne,ne_eq] at h2
   ·obtain⟨_,⟨hx0,hx1⟩,hy0,hy1⟩:=(yc.resolve_left h7).resolve_right (by omega);obtain⟨xn,rfl⟩:=Int.eq_ofNat_of_zero_le hx0;obtain⟨yn,rfl⟩:=Int.eq_ofNat_of_zero_le hy0;have hS:cG p.code gs aS ⟨pc,at_,c⟩=.more [⟨xn,at_,c⟩,⟨yn,at_,c⟩]:=by unfold cG;simp only[hi];rw[if_neg h7,if_pos h2];rfl
    refine qq<|qj fun K hK=>qm ?_;refine qm ?_;refine qg ?_;refine qp (o:=5) ?_;refine ql hH fH ?_;refine qp (o:=2) ?_;refine ql hH cp ?_;refine qp (o:=1) ?_;refine ql hH fc ?_;refine qp (o:=2) ?_;refine ab.cI (m:=10) hH rfl (ev rfl) (by exact fc) (by dsimp only[List.drop_succ_cons,List.drop_zero,List.take_succ_cons,List.take_zero,aX,au,bE,aL]<;>rfl) rfl rfl (aa rfl _) ?_;refine ab.go (d:=.agg (bE ⟨yn,at_,c⟩)) (st1:=_) rfl rfl rfl (aa rfl _) ?_;refine qp (o:=1) ?_;refine ql hH cp ?_;refine qp (o:=1) ?_;refine ql hH fc ?_;refine qp (o:=2) ?_;refine ab.cI (m:=10) hH rfl (ev rfl) (by exact fc) (by dsimp only[List.drop_succ_cons,List.drop_zero,List.take_succ_cons,List.take_zero,aX,au,bE,aL]<;>rfl) rfl rfl (aa rfl _) ?_;refine ab.go (d:=.agg (bE ⟨xn,at_,c⟩)) (st1:=_) rfl rfl rfl (aa rfl _) ?_;refine qh (s:=12) (vs:=[_,_]) hH fun k49 st P1 hH=>?_;dsimp only[u2,u1,u3,u4,setMany,u5,u6,D.cells,Nat.reduceAdd,aX,au,bE,aL] at hH;refine ab.cT (s:=12) hH rfl (ev rfl) (ev rfl) (by exact mS) (by exact hH.rows (by exact aC)) rfl rfl rfl rfl rfl rfl rfl ⟨(Nat.le_of_ble_eq_true rfl),(Nat.le_of_ble_eq_true rfl)⟩ (fun _=>(aa rfl _)) (by simp only[List.length_cons,List.length_nil,List.length_map,List.length_reverse]<;>omega) (by exact .inl hF) (fun N4 st hH=>?_);dsimp only[u2,u1,u3,u4,setMany,u5,u6,D.cells,Nat.reduceAdd,aX,au,bE,aL] at hH;refine qg ?_;refine qp (o:=5) ?_;refine qT hH jG (fun st hH=>?_) (jF:=hH.gk mS);dsimp only[u2,u1,u3,u4,setMany,u5,u6,D.cells,Nat.reduceAdd,aX,au,bE,aL] at hH;refine qe hK<|qq<|qj fun K hK=>ab.go (d:=.agg (aL aG)) (st1:=_) rfl rfl rfl (aa rfl _) ?_;refine qS hH fc fun st hH=>?_;dsimp only[u2,u1,u3,u4,setMany,u5,u6,D.cells,Nat.reduceAdd,aX,au,bE,aL] at hH;refine qm ?_;refine qe hK<|af.ret ⟨rx,_,_,_,hH.db rfl fc rfl rfl,rfl,?_⟩;unfold fI;rw[hS];refine⟨rfl,N4,?_⟩;have KV:((([⟨xn,at_,c⟩,⟨yn,at_,c⟩]:List ji)++c9).reverse.map bE)=c9.reverse.map bE++[bE ⟨yn,at_,c⟩,bE ⟨xn,at_,c⟩]:=by simp
    rw[KV];exact hH.drop 5
   ·refine qq<|qj fun K hK=>qg ?_;refine qm ?_;refine qe hK ?_;refine af.cond (by rfl) (fun h3=>?_) (fun h3=>?_)<;>try simp only[beq_iff_eq,beq_eq_false_iff_ne,ne_eq] at h3
    ·obtain⟨_,hx0,hx1⟩:=((yc.resolve_left h7).resolve_left (by omega)).resolve_right (by omega);obtain⟨xn,rfl⟩:=Int.eq_ofNat_of_zero_le hx0;refine qj fun K hK=>qp (o:=1) ?_;refine ql hH cp ?_;refine qp (o:=0) ?_;refine qT hH aC fun st hH=>?_;dsimp only[u2,u1,u3,u4,setMany,u5,u6,D.cells,Nat.reduceAdd,aX,au,bE,aL] at hH;refine qe hK ?_;exact⟨⟨xn,at_,c⟩,_,rfl,hH,by unfold cG;simp only[hi];rw[if_neg h7,if_neg h2,if_pos h3];rfl⟩
    ·refine qq<|qj fun K hK=>qg ?_;refine qm ?_;refine qe hK ?_;refine af.cond (by rfl) (fun h4=>?_) (fun h4=>?_)<;>try simp only[beq_iff_eq,beq_eq_false_iff_ne,ne_eq] at h4
     ·obtain⟨_,Pb,hx0,hx1⟩:=(((yc.resolve_left h7).resolve_left (by omega)).resolve_left (by omega)).resolve_right (by omega);obtain⟨xn,rfl⟩:=Int.eq_ofNat_of_zero_le hx0
      obtain⟨eY,JQ⟩:∃v,aS[at_]?=some v:=⟨aS[at_]'(by omega),List.getElem?_eq_getElem _⟩
      have jx:=fR JQ;refine qj fun K hK=>qp (o:=1) ?_;refine ql hH cp ?_;refine qm ?_;refine qg ?_;refine qp (o:=3) ?_;refine ql hH fH ?_;refine qp (o:=1) ?_;refine ql hH fc ?_;refine qi hH mS fun Oh K8=>?_;refine qo hH mS ?_;refine qp (o:=2) ?_;refine ab.Gy (m:=10) (s:=1) (i:=xn) (o:=2+xn) rfl (ev rfl) (ev rfl) rfl rfl (by omega) (by omega) (aa rfl _) ?_;refine ab.tW hH rfl (ev rfl) (ev rfl) rfl (by exact rfl) aC (by show 2+xn+1≤12;omega) (.inl hF) (fun st hH=>?_);change Has _ _ _ (.box k7 (.mem 0 false (setMany (_::_::aL c) (2+xn) [.int .i64 eY]))::_) at hH;rw[BS (by omega)] at hH;refine qe hK ?_;refine⟨⟨pc+1,at_,fK c xn eY⟩,_,rfl,hH,by unfold cG;simp only[hi];rw[if_neg h7,if_neg h2,if_neg h3,if_pos h4];simp[List.getD_eq_getElem?_getD,JQ]⟩
     ·refine qq<|qj fun K hK=>qg ?_;refine qm ?_;refine qe hK ?_;refine af.cond (by rfl) (fun h5=>?_) (fun h5=>?_)<;>try simp only[beq_iff_eq,beq_eq_false_iff_ne,ne_eq] at h5
      ·refine qq<|qj fun K hK=>qp (o:=1) ?_;refine ql hH fc ?_;refine qg ?_;refine qe hK ?_
       by_cases ha:at_=0
       ·subst ha;refine af.cond (v:=false) (by dsimp only[Fr.ev,Fr.get,nth,V.look];rfl) (fun h=>by cases h) (fun _=>?_);refine af.skip ?_;exact⟨⟨pc+1,0,c⟩,_,rfl,hH,by unfold cG;simp only[hi];rw[if_neg h7,if_neg h2,if_neg h3,if_neg h4,if_pos h5];rfl⟩
       ·refine qD rfl (by simp;omega) ?_;refine qq<|qj fun K hK=>ab.go (d:=.agg (aL aG)) (st1:=_) rfl rfl rfl (aa rfl _) ?_;refine qS hH dx fun st hH=>?_;dsimp only[u2,u1,u3,u4,setMany,u5,u6,D.cells,Nat.reduceAdd,aX,au,bE,aL] at hH;refine qm ?_;refine qe hK<|af.ret ⟨rx,_,_,_,hH.db rfl dx rfl rfl,rfl,?_⟩;have hS:cG p.code gs aS ⟨pc,at_,c⟩=.more []:=by unfold cG;simp only[hi];rw[if_neg h7,if_neg h2,if_neg h3,if_neg h4,if_pos h5,if_neg ha]
        unfold fI;rw[hS];exact⟨rfl,gb,hH.drop 4⟩
      ·refine qq<|qj fun K hK=>qg ?_;refine qm ?_;refine qe hK ?_;refine af.cond (by rfl) (fun h6=>?_) (fun h6=>?_)<;>try simp only[beq_iff_eq,beq_eq_false_iff_ne,ne_eq] at h6
       ·refine qq<|qj fun K hK=>qp (o:=1) ?_;refine ql hH fc ?_;refine qm ?_;refine qg ?_;refine qp (o:=2) ?_;refine ql hH fH ?_;refine qn ?_;simp only[List.length_map];refine qg ?_;refine qe hK ?_
        by_cases ha:at_=gs.length
        ·refine qE rfl (by rw[ha];simp) ?_;refine af.skip ?_;exact⟨⟨pc+1,at_,c⟩,_,rfl,hH,by unfold cG;simp only[hi];rw[if_neg h7,if_neg h2,if_neg h3,if_neg h4,if_neg h5,if_pos h6,if_pos ha]⟩
        ·refine qD rfl (by simp;omega) ?_;refine qq<|qj fun K hK=>ab.go (d:=.agg (aL aG)) (st1:=_) rfl rfl rfl (aa rfl _) ?_;refine qS hH dx fun st hH=>?_;dsimp only[u2,u1,u3,u4,setMany,u5,u6,D.cells,Nat.reduceAdd,aX,au,bE,aL] at hH;refine qm ?_;refine qe hK<|af.ret ⟨rx,_,_,_,hH.db rfl dx rfl rfl,rfl,?_⟩;have hS:cG p.code gs aS ⟨pc,at_,c⟩=.more []:=by unfold cG;simp only[hi];rw[if_neg h7,if_neg h2,if_neg h3,if_neg h4,if_neg h5,if_pos h6,if_neg ha]
         unfold fI;rw[hS];exact⟨rfl,gb,hH.drop 4⟩
       ·have h1:op=1:=by omega
        refine qq<|qj fun K hK=>qg ?_;refine qm ?_;refine qe hK<|qD rfl (by simp[h1]) ?_
        have lJ:∀b,cG p.code gs aS ⟨pc,at_,c⟩=.more b↔(.more (if at_<gs.length∧lD rs ((gs.getD at_ (0,0)).1:Nat)=true then[⟨pc+1,at_+1,c⟩] else[]):DJ)=.more b:=by
         intro b;unfold cG;simp only[hi];rw[if_neg h7,if_neg h2,if_neg h3,if_neg h4,if_neg h5,if_neg h6]
        by_cases ha:at_<gs.length
        ·obtain⟨g,hg⟩:∃g,gs[at_]?=some g:=⟨gs[at_]'ha,List.getElem?_eq_getElem _⟩
         have jx:(gs.map bq)[at_]?=some (bq g):=by rw[List.getElem?_map,hg];rfl
         have Gm:gs.getD at_ (0,0)=g:=by rw[List.getD_eq_getElem?_getD,hg];rfl
         have fe:decide ((at_:Int)≥(gs.length:Nat))=false:=by rw[decide_eq_false];simp;omega
         rw[Gm] at lJ;refine qq<|qq<|af.qV 114 (.bool (!lD rs (g.1:Nat))) [] ?_ (fun ff tmp lU=>?_)
         ·refine qp (o:=1) ?_;refine ql hH fc ?_;refine qm ?_;refine qg ?_;refine qp (o:=2) ?_;refine ql hH fH ?_;refine qn ?_;simp only[List.length_map];refine qg ?_;refine qm ?_;refine qp (o:=3) ?_ (hg:=wi fe);refine ql hH cp ?_ (hg:=wi fe);refine qm ?_ (hg:=wi fe);refine qg ?_ (hg:=wi fe);refine qp (o:=2) ?_ (hg:=wi fe);refine ql hH fH ?_ (hg:=wi fe);refine qp (o:=1) ?_ (hg:=wi fe);refine ql hH fc ?_ (hg:=wi fe);refine qr (fun OA Nu=>?_) (hg:=wi fe);refine qf (fo:=0) (fun Oz Nt=>?_) (hg:=wi fe);refine qR ?_ (hg:=wi fe);refine qv (Gx (JO.rows hH) (by omega)) ?_ (hg:=wi fe);refine qg ?_ (hg:=wi fe);refine qu fe ?_;refine ab.nil (fP ?_ ?_)
          ·dsimp only[aI,List.foldl,nth,u2,u1]
           all_goals(first|rfl|simp)
          ·dsimp only[Fr.az,Fr.put,Fr.clean,Fr.ev,Fr.get,nth,look,u1,u2,v1,v2,v4]
           all_goals(first|rfl|(simp[fe];done)|(simp_all;done)|(simp[fe];omega)|(simp_all;omega))
         dsimp only[aI,List.foldl,nth,u2,u1];refine af.cond (by assumption) (fun hh=>?_) (fun hh=>?_)<;>try simp only[Bool.not_eq_true',Bool.not_eq_false'] at hh
         ·refine qq<|qj fun K hK=>ab.go (d:=.agg (aL aG)) (st1:=_) rfl rfl rfl (aa rfl _) ?_;refine qS hH dx fun st hH=>?_;dsimp only[u2,u1,u3,u4,setMany,u5,u6,D.cells,Nat.reduceAdd,aX,au,bE,aL] at hH;refine qm ?_;refine qe hK<|af.ret ⟨rx,_,_,_,hH.db rfl dx rfl rfl,rfl,?_⟩;have hS:=(lJ []).2 (by rw[if_neg (by rintro⟨_,h⟩;rw[h] at hh;cases hh)]);unfold fI;rw[hS];exact⟨rfl,gb,hH.drop 4⟩
         ·refine af.skip<|qj fun K hK=>qp (o:=1) ?_;refine ql hH aC ?_;refine qA ?_;refine qp (o:=1) ?_;refine qT hH aC fun st hH=>?_;dsimp only[u2,u1,u3,u4,setMany,u5,u6,D.cells,Nat.reduceAdd,aX,au,bE,aL] at hH;refine qe hK ?_;exact⟨⟨pc+1,at_+1,c⟩,_,rfl,hH,(lJ _).2 (by rw[if_pos ⟨ha,by simpa using hh⟩])⟩
        ·have fe:decide ((at_:Int)≥(gs.length:Nat))=true:=by rw[decide_eq_true];simp;omega
         refine qq<|qq<|af.qV 114 (.bool true) [] ?_ (fun ff tmp lU=>?_)
         ·refine qp (o:=1) ?_;refine ql hH fc ?_;refine qm ?_;refine qg ?_;refine qp (o:=2) ?_;refine ql hH fH ?_;refine qn ?_;simp only[List.length_map];refine qg ?_;refine qm ?_;refine qs ?_ (hg:=wn fe);refine qs ?_ (hg:=wn fe);refine qs ?_ (hg:=wn fe);refine qs ?_ (hg:=wn fe);refine qs ?_ (hg:=wn fe);refine qs ?_ (hg:=wn fe);refine qs ?_ (hg:=wn fe);refine qs ?_ (hg:=wn fe);refine qs ?_ (hg:=wn fe);refine qs ?_ (hg:=wn fe);refine qs ?_ (hg:=wn fe);refine qs ?_ (hg:=wn fe);refine qs ?_ (hg:=wn fe);refine qt fe ?_;refine ab.nil (fP ?_ ?_)
          ·dsimp only[aI,List.foldl,nth,u2,u1]
           all_goals(first|rfl|simp)
          ·dsimp only[Fr.az,Fr.put,Fr.clean,Fr.ev,Fr.get,nth,look,u1,u2,v1,v2,v4]
           all_goals(first|rfl|(simp[fe];done)|(simp_all;done)|(simp[fe];omega)|(simp_all;omega))
         dsimp only[aI,List.foldl,nth,u2,u1];refine qB ?_;refine qq<|qj fun K hK=>ab.go (d:=.agg (aL aG)) (st1:=_) rfl rfl rfl (aa rfl _) ?_;refine qS hH dx fun st hH=>?_;dsimp only[u2,u1,u3,u4,setMany,u5,u6,D.cells,Nat.reduceAdd,aX,au,bE,aL] at hH;refine qm ?_;refine qe hK<|af.ret ⟨rx,_,_,_,hH.db rfl dx rfl rfl,rfl,?_⟩;have hS:=(lJ []).2 (by rw[if_neg (fun h=>ha h.1)]);unfold fI;rw[hS];exact⟨rfl,gb,hH.drop 4⟩
 ·rintro fr st ⟨t',tmp,hfr,hH,hS⟩;rw[hfr];clear hfr;generalize dE fr=ee;clear fr;obtain⟨M_,NX,c'⟩:=t';dsimp only[bE,aL] at hH;refine qq<|qj fun K hK=>qm ?_;refine qm ?_;refine qg ?_;refine qp (o:=5) ?_;refine ql hH fH ?_;refine ab.cI (m:=12) hH rfl (ev rfl) (by exact aC) (by dsimp only[List.drop_succ_cons,List.drop_zero,List.take_succ_cons,List.take_zero,aX,au,bE,aL]<;>rfl) rfl rfl (aa rfl _) ?_;refine qh (s:=12) (vs:=[_]) hH fun k126 st NC hH=>?_;refine ab.cT (s:=12) hH rfl (ev rfl) (ev rfl) (by exact mS) (by exact hH.rows (by exact aC)) rfl rfl rfl rfl rfl rfl rfl ⟨(Nat.le_of_ble_eq_true rfl),(Nat.le_of_ble_eq_true rfl)⟩ (fun _=>(aa rfl _)) (by simp only[List.length_cons,List.length_nil,List.length_map,List.length_reverse]<;>omega) (by exact .inl hF) (fun Kb st hH=>?_);dsimp only[u2,u1,u3,u4,setMany,u5,u6,D.cells,Nat.reduceAdd,aX,au,bE,aL] at hH;refine qg ?_;refine qp (o:=5) ?_;refine qT hH jG (fun st hH=>?_) (jF:=hH.gk mS);dsimp only[u2,u1,u3,u4,setMany,u5,u6,D.cells,Nat.reduceAdd,aX,au,bE,aL] at hH;refine qe hK<|qq<|qj fun K hK=>ab.go (d:=.agg (aL aG)) (st1:=_) rfl rfl rfl (aa rfl _) ?_;refine qS hH fc fun st hH=>?_;dsimp only[u2,u1,u3,u4,setMany,u5,u6,D.cells,Nat.reduceAdd,aX,au,bE,aL] at hH;refine qm ?_;refine qe hK<|af.ret ⟨rx,_,_,_,hH.db rfl fc rfl rfl,rfl,?_⟩;unfold fI;rw[hS];refine⟨rfl,Kb,?_⟩;have KV:((([⟨M_,NX,c'⟩]:List ji)++c9).reverse.map bE)=c9.reverse.map bE++[bE ⟨M_,NX,c'⟩]:=by simp
  rw[KV];exact hH.drop 5
def jb (fr:Go.V.Fr) (k:Nat):Go.V.D:=Go.V.nth .bG fr.loc k
def lX (idx:Nat→Nat→Nat) (oM:ji→DJ):Nat→List Bool→List ji→Option rQ×List Bool
 |0,arr,_=>(none,arr)
 |_+1,arr,[]=>(none,arr)
 |f+1,arr,t::c9=>match arr[idx t.pc t.at_]? with
  |some false=>match oM t with
   | .found=>(some t.c,arr.set (idx t.pc t.at_) true)
   | .more l=>lX idx oM f (arr.set (idx t.pc t.at_) true) (l++c9)
  |_=>lX idx oM f arr c9
theorem BL (code:List aN) (gs:List (Nat×Nat)) (pl:List Int) (t:ji):∀l,cG code gs pl t=.more l→l.length≤2:=by
 intro l h;unfold cG at h
 split at h
 ·cases h;simp
 ·repeat' split at h
  all_goals(first|(cases h;done)|(cases h;simp;done)|(cases h;split<;>simp))
def ze (p:Pg) (gs:List (Nat×Nat)) (t:ji):Prop:=t.pc<p.code.length∧t.at_≤gs.length
theorem DS {p:Pg} {gs:List (Nat×Nat)} {pl:List Int} (hR:fu p) {t:ji} (ht:ze p gs t):∀l,cG p.code gs pl t=.more l→∀u∈l,ze p gs u:=by
 intro l h u hu;obtain⟨h1,h2⟩:=ht
 obtain⟨i,hi⟩:∃i,p.code[t.pc]?=some i:=⟨p.code[t.pc]'h1,List.getElem?_eq_getElem _⟩
 have hc:=me (hR.sh t.pc i hi);unfold cG at h;rw[hi] at h;simp only at h
 split at h
 ·cases h
 ·split at h
  ·cases h;simp only[List.mem_cons,List.not_mem_nil,or_false] at hu
   rcases hu with rfl|rfl
   ·exact⟨by show i.x.toNat<_;omega,h2⟩
   ·exact⟨by show i.y.toNat<_;omega,h2⟩
  ·split at h
   ·cases h;simp only[List.mem_cons,List.not_mem_nil,or_false] at hu;subst hu;exact⟨by show i.x.toNat<_;omega,h2⟩
   ·split at h
    ·cases h;simp only[List.mem_cons,List.not_mem_nil,or_false] at hu;subst hu;exact⟨by show t.pc+1<_;omega,h2⟩
    ·split at h
     ·cases h
      split at hu
      ·simp only[List.mem_cons,List.not_mem_nil,or_false] at hu;subst hu;exact⟨by show t.pc+1<_;omega,h2⟩
      ·cases hu
     ·split at h
      ·cases h
       split at hu
       ·simp only[List.mem_cons,List.not_mem_nil,or_false] at hu;subst hu;exact⟨by show t.pc+1<_;omega,h2⟩
       ·cases hu
      ·cases h
       split at hu
       ·rename_i h8;simp only[List.mem_cons,List.not_mem_nil,or_false] at hu;subst hu;exact⟨by show t.pc+1<_;omega,by show t.at_+1≤_;omega⟩
       ·cases hu
theorem BF (v:ji) (r:List ji):((v::r).reverse.map bE)[r.length]?=some (bE v):=by
 rw[List.getElem?_map,List.reverse_cons,List.getElem?_append_right (by simp)];simp
theorem DN (v:ji) (r:List ji):(((v::r).reverse.map bE).take r.length).drop 0=r.reverse.map bE:=by
 rw[List.reverse_cons,List.map_append,List.drop_zero,List.take_left' (by simp)]
def FK (r:Option rQ):D:=match r with
 |some c=>.tup [.agg (aL c),.bool true]
 |none=>.tup [.agg (aL aG),.bool false]
def lT (n:Nat) (pc at_:Nat):Nat:=at_*n+pc
theorem CY {N:Nat} {S st:St} {H:List cx} {k:Nat} {p:Pg} {gs:List (Nat×Nat)} {bz ic gb:D} {aS:List Int} {nv:List (List D)} {arr:List Bool} {start i:Nat} (hF:S.flr≤N) (hp:p.ok) (hR:fu p) (qk:gs.length≤1048576) (jT:aS.length=gs.length+1) (hsz:(gs.length+1)*p.code.length≤134217728) (hal:arr.length=(gs.length+1)*p.code.length) (gv:start<p.code.length) (hi:i≤gs.length)
  (hH:Has N S st (.box k (.mem 0 false [p.cd,p.sd,cO gs,bz,ic,gb])::.aR gb 12 nv::.aR bz 1 (aS.map au)::.aR ic 1 (arr.map bw)::H)):
  ∃d ag,Ev pv 60 [.ptr k 0 0,.int .i64 (start:Nat),.int .i64 (i:Nat)] st d ag∧∃Cp FN,d=FK (lX (lT p.code.length) (cG p.code gs aS) (3*arr.length+1) arr [⟨start,i,bj⟩]).1∧
   Has N S ag (.box k (.mem 0 false [p.cd,p.sd,cO gs,bz,ic,Cp])::.aR Cp 12 FN::.aR bz 1 (aS.map au)::.aR ic 1 ((lX (lT p.code.length) (cG p.code gs aS) (3*arr.length+1) arr [⟨start,i,bj⟩]).2.map bw)::H):=by
 have hlen:=hp.cl
 obtain⟨R,GD⟩:∃R,lX (lT p.code.length) (cG p.code gs aS) (3*arr.length+1) arr [⟨start,i,bj⟩]=R:=⟨_,rfl⟩
 rw[GD];have Qs:=List.count_le_length (a:=false) (l:=arr);refine Ev.ow rfl Mj rfl rfl rfl ?_;dsimp only[u3,u4,List.length,Nat.reduceSub,Nat.reduceAdd,w1,w2];change af _ _ _ _ st _;refine qq<|qj fun K hK=>qa hH fun k6 st Fl hH=>?_;refine qm ?_;refine qe hK<|qq<|qj fun K hK=>qm ?_;refine qm ?_;refine qg ?_;refine qp (o:=5) ?_;refine ql hH cp ?_;refine ab.xI hH rfl (ev rfl) (by exact dx) rfl rfl (lu (n:=0) (by omega)) ⟨by omega,by omega⟩ (fun _=>(aa rfl _)) (fun Q5 hH=>?_);dsimp only[u1,u2,List.take_zero] at hH;rw[List.drop_nil] at hH;refine qm ?_;refine qm ?_;refine qv (Ev.gj rfl rfl) ?_;refine ab.go (d:=.agg (bE ⟨start,i,bj⟩)) (st1:=_) rfl rfl rfl (aa rfl _) ?_;refine qh (s:=12) (vs:=[_]) hH fun k22 st P9 hH=>?_;dsimp only[u2,u1,u3,u4,setMany,u5,u6,D.cells,Nat.reduceAdd,aX,au,bw,bE,aL,bj,aG] at hH;refine ab.cT (s:=12) hH rfl (ev rfl) (ev rfl) (by exact fc) (by exact hH.rows (by exact aC)) rfl rfl rfl rfl rfl rfl rfl ⟨(Nat.le_of_ble_eq_true rfl),(Nat.le_of_ble_eq_true rfl)⟩ (fun _=>(aa rfl _)) (by simp only[List.length_cons,List.length_nil,List.length_map]<;>omega) (by exact .inl hF) (fun Q_ st hH=>?_);dsimp only[u2,u1,u3,u4,setMany,u5,u6,D.cells,Nat.reduceAdd,aX,au,bw,bE,aL,bj,aG] at hH;refine qg ?_;refine qp (o:=5) ?_;refine qT hH dx (fun st hH=>?_) (jF:=hH.gk fc);dsimp only[u2,u1,u3,u4,setMany,u5,u6,D.cells,Nat.reduceAdd,aX,au,bw,bE,aL,bj,aG] at hH;refine qe hK<|qq<|af.block<|af.loop (fun mm fr st=>∃(ld:D) (ar:List Bool) (c9:List ji),fr.clean=⟨12,[.ptr k 0 0,jb fr 1,jb fr 2,jb fr 3,jb fr 4,jb fr 5,.ptr k6 0 0,.bool false,jb fr 8,jb fr 9,jb fr 10,jb fr 11],[]⟩∧Has N S st (.box k6 (.mem 0 false (aL aG))::.box k (.mem 0 false [p.cd,p.sd,cO gs,bz,ic,ld])::.aR ld 12 (c9.reverse.map bE)::.aR bz 1 (aS.map au)::.aR ic 1 (ar.map bw)::H)∧(lX (lT p.code.length) (cG p.code gs aS) mm ar c9=R)∧(3*ar.count false+c9.length≤mm)∧(ar.length=(gs.length+1)*p.code.length)∧(∀v∈c9,ze p gs v)∧(mm≤3*arr.length+1)) (3*arr.length+1) ?_ ?_
 ·exact⟨_,arr,[⟨start,i,bj⟩],rfl,(by exact hH.drop 1),GD,(by simp only[List.length_cons,List.length_nil];omega),hal,(by intro v hv;simp only[List.mem_cons,List.not_mem_nil,or_false] at hv;subst hv;exact⟨gv,hi⟩),Nat.le_refl _⟩
 rintro mm fr st ⟨ld,ar,c9,hfr,hH,hd,hm,hal,hsk,w9⟩;rw[hfr];clear hfr;generalize jb fr=ee;clear fr
 rcases c9 with _|⟨v,c9⟩
 ·refine qq<|qq<|qj fun K hK=>qm ?_;refine qg ?_;refine qp (o:=5) ?_;refine ql hH cp ?_;refine qn ?_ (hR:=hH.rows dx);simp only[List.length_map,List.length_nil,List.length_reverse];refine qg ?_;refine qe hK<|af.cond (v:=false) (by dsimp only[Fr.ev,Fr.get,nth,V.look];rfl) (fun h=>by cases h) (fun _=>?_);refine af.exit<|qq<|qj fun K hK=>ab.go (d:=.agg (aL aG)) (st1:=_) rfl rfl rfl (aa rfl _) ?_;refine qS hH aC fun st hH=>?_;dsimp only[u2,u1,u3,u4,setMany,u5,u6,D.cells,Nat.reduceAdd,aX,au,bw,bE,aL,bj,aG] at hH;refine qm ?_;refine qe hK ?_;have fZ:R=(none,ar):=by rw[←hd];cases mm<;>rfl
  refine af.ret ⟨rx,_,_,_,hH.db rfl aC rfl rfl,rfl,?_⟩;rw[fZ];exact⟨_,_,rfl,hH.drop 1⟩
 ·have hv:=hsk v (List.mem_cons_self ..);obtain⟨ox,w8⟩:=hv;have gv:∀w∈c9,ze p gs w:=fun w hw=>hsk w (List.mem_cons_of_mem _ hw);simp only[List.length_cons] at hm
  obtain⟨mm,rfl⟩:∃m',mm=m'+1:=⟨mm-1,by omega⟩
  have hbd:v.at_*p.code.length+v.pc<ar.length:=by
   have h1:(v.at_+1)*p.code.length≤(gs.length+1)*p.code.length:=Nat.mul_le_mul_right _ (by omega);rw[Nat.add_mul,Nat.one_mul] at h1;omega
  obtain⟨b,hb⟩:∃b,ar[lT p.code.length v.pc v.at_]?=some b:=⟨ar[lT p.code.length v.pc v.at_]'hbd,List.getElem?_eq_getElem _⟩
  obtain⟨ii,hii⟩:∃x,p.code[v.pc]?=some x:=⟨p.code[v.pc]'ox,List.getElem?_eq_getElem _⟩
  have KN:=fun l=>DS (pl:=aS) hR (t:=v) ⟨ox,w8⟩ l;have KO:=BL p.code gs aS v;have jx:=BF v c9;have m_:=rh hb
  obtain⟨m,rB⟩:∃m,v.at_*p.code.length=m:=⟨_,rfl⟩
  have JY:lT p.code.length v.pc v.at_=m+v.pc:=by unfold lT;rw[rB]
  rw[rB] at hbd;rw[JY] at m_;have Qt:=hp.c.arg N S;refine qq<|qq<|qj fun K hK=>qm ?_;refine qg ?_;refine qp (o:=5) ?_;refine ql hH cp ?_;refine qn ?_ (hR:=hH.rows dx);simp only[List.length_map,List.length_cons,List.length_reverse];refine qg ?_;refine qe hK<|qD rfl (by simp) ?_;refine af.skip<|af.block<|qq<|qj fun K hK=>qm ?_;refine qg ?_;refine qp (o:=5) ?_;refine ql hH cp ?_;refine qm ?_;refine qg ?_;refine qp (o:=5) ?_;refine ql hH cp ?_;refine qn ?_ (hR:=hH.rows dx);simp only[List.length_map,List.length_cons,List.length_reverse];refine ab.mb (z:=((c9.length:Nat):Int)) rfl (ev rfl) (ev rfl) (by(try simp only[List.length_reverse,List.length_cons,List.length_nil,List.length_append,List.length_map,List.length_set]);rw[wrap_i64 (by omega) (by omega)]<;>omega) (aa rfl _) ?_;refine qi hH dx fun On Lb=>?_;refine ab.tB hH rfl (ev rfl) (by assumption) (by exact dx) (by assumption) rfl (aa rfl _) ?_;refine qa hH fun k8 st Ls hH=>?_;dsimp only[u2,u1,u3,u4,setMany,u5,u6,D.cells,Nat.reduceAdd,aX,au,bw,bE,aL,bj,aG] at hH;refine qS hH aC fun st hH=>?_;dsimp only[u2,u1,u3,u4,setMany,u5,u6,D.cells,Nat.reduceAdd,aX,au,bw,bE,aL,bj,aG] at hH;refine qe hK<|qq<|qj fun K hK=>qm ?_;refine qm ?_;refine qg ?_;refine qp (o:=5) ?_;refine ql hH dx ?_;refine qm ?_;refine qg ?_;refine qp (o:=5) ?_;refine ql hH dx ?_;refine qn ?_ (hR:=hH.rows fc);simp only[List.length_map,List.length_cons,List.length_reverse];refine ab.mb (z:=((c9.length:Nat):Int)) rfl (ev rfl) (ev rfl) (by(try simp only[List.length_reverse,List.length_cons,List.length_nil,List.length_append,List.length_map,List.length_set]);rw[wrap_i64 (by omega) (by omega)]<;>omega) (aa rfl _) ?_;refine ab.xI hH rfl (ev rfl) (by exact fc) rfl rfl (lu (by simp only[List.length_map,List.length_reverse,List.length_cons,List.length_append,List.length_nil,List.length_take,List.length_drop,List.length_set,List.length_replicate];omega)) ⟨(by omega),(by simp only[List.length_map,List.length_reverse,List.length_cons,List.length_append,List.length_nil,List.length_take,List.length_drop,List.length_set,List.length_replicate];omega)⟩ (fun _=>(aa rfl _)) (fun MW hH=>?_);refine qg ?_;refine qp (o:=5) ?_;refine qT hH dx (fun st hH=>?_) (jF:=hH.gk fc);dsimp only[u2,u1,u3,u4,setMany,u5,u6,D.cells,Nat.reduceAdd,aX,au,bw,bE,aL,bj,aG] at hH;refine qe hK ?_;rw[DN] at hH;refine qq<|qj fun K hK=>qp (o:=1) ?_;refine ql hH aC ?_;refine qm ?_;refine qg ?_;refine qp (o:=0) ?_;refine qp (o:=0) ?_;refine ql hH dx ?_;refine qn ?_;simp only[List.length_map];refine ab.tH (z:=((m:Nat):Int)) rfl (ev rfl) (ev rfl) (by rw[←Int.natCast_mul,rB];exact ei (by simp only[lA];omega)) (aa rfl _) ?_;refine qp (o:=0) ?_;refine ql hH aC ?_;refine ab.E2 rfl (ev rfl) (ev rfl) (by omega) (aa rfl _) ?_;refine qm ?_;refine qe hK<|qq<|qq<|qj fun K hK=>qm ?_;refine qg ?_;refine qp (o:=4) ?_;refine ql hH dx ?_;refine qm ?_;refine qi hH jG fun Rl Pj=>?_;refine qo hH jG ?_;refine qe hK ?_
  cases b with
  |true=>
   refine qB ?_;refine af.exit ?_;simp only[lX,hb] at hd;exact⟨mm,by omega,⟨_,ar,c9,rfl,(hH.drop 1),hd,by omega,hal,gv,by omega⟩⟩
  |false=>
   have Gr:=count_set hb;have gR:(ar.set (lT p.code.length v.pc v.at_) true).map bw=(ar.map bw).set (m+v.pc) [.bool true]:=by rw[List.map_set,JY];rfl
   simp only[lX,hb] at hd;refine qC ?_;refine af.skip<|qq<|qj fun K hK=>qm ?_;refine qg ?_;refine qp (o:=4) ?_;refine ql hH dx ?_;refine qm ?_;refine qi hH jG fun Od K5=>?_;refine ab.pA hH rfl (ev rfl) (ev rfl) (by assumption) rfl rfl (by exact jG) (by assumption) (Nat.le_of_ble_eq_true rfl) (by exact .inl hF) (fun st hH=>?_);dsimp only[u2,u1,u3,u4,setMany,u5,u6,D.cells,Nat.reduceAdd,aX,au,bw,bE,aL,bj,aG] at hH;refine qe hK ?_
   have QI:Has N S st (.box k (.mem 0 false [p.cd,p.sd,cO gs,bz,ic,MW])::.aR MW 12 (c9.reverse.map bE)::.aR bz 1 (aS.map au)::.box k6 (.mem 0 false (aL aG))::.aR ic 1 ((ar.map bw).set (m+v.pc) [.bool true])::H):=
    (((hH.drop 1).front (j:=3) rfl).front (j:=3) rfl).front (j:=3) rfl
   obtain⟨d,st1,aM,kB⟩:=DT hF hp hii (hR.sh v.pc ii hii) qk w8 jT (by omega) QI;unfold fI at kB
   cases hS:cG p.code gs aS v with
   |found=>
    rw[hS] at kB hd;simp only at kB hd;obtain⟨rfl,Kv,GF⟩:=kB;have GF:=GF.front (j:=3) rfl;refine qq<|qj fun K hK=>qm ?_;refine ab.cI (m:=12) hH rfl (ev rfl) (by exact aC) (by dsimp only[List.drop_succ_cons,List.drop_zero,List.take_succ_cons,List.take_zero,aX,au,bw,bE,aL,bj,aG]<;>rfl) rfl rfl (aa rfl _) ?_;refine qv (aM) ?_;refine qm ?_;refine qg ?_;refine qg ?_;refine ab.jX GF rfl rfl (fun _=>by dsimp only[Fr.put,u1,u2]<;>rfl) (fun k10 st Ly hH=>?_);dsimp only[aL,aG] at hH;refine qT hH aC fun st hH=>?_;dsimp only[u2,u1,u3,u4,setMany,u5,u6,D.cells,Nat.reduceAdd,aX,au,bw,bE,aL,bj,aG] at hH;refine qm ?_;refine qe hK<|qq<|qj fun K hK=>qm ?_;refine qe hK<|qB ?_;refine qq<|qj fun K hK=>?_;refine ab.cI (m:=10) hH rfl (ev rfl) (by exact aC) (by dsimp only[List.drop_succ_cons,List.drop_zero,List.take_succ_cons,List.take_zero,aX,au,bw,bE,aL,bj,aG]<;>rfl) rfl rfl (aa rfl _) ?_;refine qS hH cp fun st hH=>?_;dsimp only[u2,u1,u3,u4,setMany,u5,u6,D.cells,Nat.reduceAdd,aX,au,bw,bE,aL,bj,aG] at hH;refine qm ?_;refine qe hK<|af.ret ⟨rx,_,_,_,hH.db rfl cp rfl rfl,rfl,?_⟩;rw[←hd];exact⟨_,_,rfl,(by rw[gR];exact hH.drop 2)⟩
   |more l=>
    rw[hS] at kB hd;simp only at kB hd;obtain⟨rfl,Kv,GF⟩:=kB;have GF:=GF.front (j:=3) rfl;have ub:=KO l hS;refine qq<|qj fun K hK=>qm ?_;refine ab.cI (m:=12) hH rfl (ev rfl) (by exact aC) (by dsimp only[List.drop_succ_cons,List.drop_zero,List.take_succ_cons,List.take_zero,aX,au,bw,bE,aL,bj,aG]<;>rfl) rfl rfl (aa rfl _) ?_;refine qv (aM) ?_;refine qm ?_;refine qg ?_;refine qg ?_;refine ab.jX GF rfl rfl (fun _=>by dsimp only[Fr.put,u1,u2]<;>rfl) (fun k10 st Ly hH=>?_);dsimp only[aL,aG] at hH;refine qT hH aC fun st hH=>?_;dsimp only[u2,u1,u3,u4,setMany,u5,u6,D.cells,Nat.reduceAdd,aX,au,bw,bE,aL,bj,aG] at hH;refine qm ?_;refine qe hK<|qq<|qj fun K hK=>qm ?_;refine qe hK<|qC ?_;refine af.skip ?_;refine⟨mm,by omega,⟨_,ar.set (lT p.code.length v.pc v.at_) true,l++c9,rfl,(by rw[gR];exact hH.drop 1),hd,by simp only[List.length_append];omega,by rw[List.length_set];exact hal,?_,by omega⟩⟩;intro w hw
    rcases List.mem_append.1 hw with hw|hw
    ·exact KN l hS w hw
    ·exact gv w hw
def ai (fr:Go.V.Fr) (k:Nat):Go.V.D:=Go.V.nth .bG fr.loc k
def DC:Int→List (Nat×Nat)→List Int
 |a,[]=>[a]
 |a,g::r=>a::DC (a+(g.2:Nat)) r
theorem y8:∀(l:List (Nat×Nat)) (a:Int),(DC a l).length=l.length+1
 |[],_=>rfl
 |g::r,a=>by simp only[DC,List.length_cons,y8 r]
def sN (idx:Nat→Nat→Nat) (oM:ji→DJ) (fuel start:Nat):Nat→Nat→List Bool→Option rQ
 |0,_,_=>none
 |m+1,i,arr=>match(lX idx oM fuel arr [⟨start,i,bj⟩]).1 with
  |some c=>some c
  |none=>sN idx oM fuel start m (i+1) (lX idx oM fuel arr [⟨start,i,bj⟩]).2
noncomputable def il (p:Pg) (lO:Int) (b:List UInt8):Option rQ:=
 if dec (fu p)=true∧0≤lO∧lO<(p.aK.length:Int) then
  sN (lT p.code.length) (cG p.code (aV b) (DC 0 (aV b))) (3*(((aV b).length+1)*p.code.length)+1) (p.aK.getD lO.toNat 0).toNat ((aV b).length+1) 0 (List.replicate (((aV b).length+1)*p.code.length) false)
 else none
theorem qQ (idx:Nat→Nat→Nat) (oM:ji→DJ):∀(f:Nat) (arr:List Bool) (c9:List ji),(lX idx oM f arr c9).2.length=arr.length
 |0,arr,_=>by simp[lX]
 |f+1,arr,[]=>by simp[lX]
 |f+1,arr,t::c9=>by
  unfold lX
  split
  ·split
   ·simp
   ·rw[qQ idx oM f,List.length_set]
  ·exact qQ idx oM f arr c9
theorem C4 {s0:St} {p:Pg} {b:List UInt8} (hp:p.ok) (lO:Int) (hbl:b.length≤1048576) (hsz:((aV b).length+1)*p.code.length≤134217728):
  Ev pv 27 [p.d,.int .i64 lO,.str b] s0 (FK (il p lO b)) s0:=by
 obtain⟨qk,LG⟩:=rq _ b (Nat.le_refl _);have aM:∀(st:St) (x:D),Bytes st x b→Ev pv 28 [x] st (cO (aV b)) st:=fun st x h=>Dt h hbl;unfold il;generalize aV b=gs at*;refine Ev.pJ rfl Mx rfl rfl rfl ?_;dsimp only[u3,u4,List.length,Nat.reduceSub,Nat.reduceAdd,w1,w2];obtain⟨cE,hF,hH⟩:=ri s0;generalize aj .ro s0=S at*;have hc:=hp.c.arg s0.bs.length S;have hs:=hp.s.arg s0.bs.length S;have hlen:=hp.cl;have lB:=hp.sl;unfold Pg.d;refine qq<|qj fun K hK=>qb hH fun k3 st JX hH=>?_;refine qa hH fun k6 st Fl hH=>?_;refine qm ?_;refine qe hK<|qq<|qq<|af.lE 28 (.bool ((!dec (fu p)||decide (lO<0))||decide (lO≥p.aK.length))) [15,16,17,18,19,20,21,22,23,24,25,26,27] ?_ (fun ff tmp=>?_)
 ·refine ab.cI (m:=2) hH rfl (ev rfl) (by exact cp) (by dsimp only[List.drop_succ_cons,List.drop_zero,List.take_succ_cons,List.take_zero,aX,au,bw,bE,aL,bj,aG]<;>rfl) rfl rfl (by dsimp only[Fr.put,u1,u2]<;>rfl) ?_;refine qv (rM (p:=p) hp) ?_;refine qg ?_;refine qm ?_;refine ab.two 18 rfl (fun cm=>?_) (fun cm=>?_)
  ·refine qs ?_ (hg:=wn cm);refine qs ?_ (hg:=wn cm);refine qt cm ?_;refine qm ?_;refine qs ?_;refine qs ?_;refine qs ?_;refine qs ?_;refine qs ?_;refine qg ?_;refine ab.nil (aQ ?_);dsimp only[aI,List.foldl,nth,u2,u1];dsimp only[Fr.az,Fr.put,Fr.clean,Fr.ev,Fr.get,nth,look,u1,u2,v1,v2,v4]
   all_goals(simp[cm];done)
  ·refine qm ?_ (hg:=wi cm);refine qg ?_ (hg:=wi cm);refine qu cm ?_;refine qm ?_;refine ab.two 22 rfl (fun lC=>?_) (fun lC=>?_)
   ·refine qs ?_ (hg:=wn lC);refine qs ?_ (hg:=wn lC);refine qs ?_ (hg:=wn lC);refine qs ?_ (hg:=wn lC);refine qs ?_ (hg:=wn lC);refine qt lC ?_;refine ab.nil (aQ ?_);dsimp only[aI,List.foldl,nth,u2,u1];dsimp only[Fr.az,Fr.put,Fr.clean,Fr.ev,Fr.get,nth,look,u1,u2,v1,v2,v4]
    all_goals(simp[cm,lC];done)
   ·refine qm ?_ (hg:=wi lC);refine qp (o:=1) ?_ (hg:=wi lC);refine ql hH cp ?_ (hg:=wi lC);refine qn ?_ (hg:=wi lC);simp only[List.length_map];refine qg ?_ (hg:=wi lC);refine qu lC ?_;refine ab.nil (aQ ?_);dsimp only[aI,List.foldl,nth,u2,u1];dsimp only[Fr.az,Fr.put,Fr.clean,Fr.ev,Fr.get,nth,look,u1,u2,v1,v2,v4]
    all_goals(simp[cm,lC];done)
 dsimp only[aI,List.foldl,nth,u2,u1];generalize ff 15=Q1;generalize ff 16=Q0;generalize ff 17=R9;generalize ff 18=QZ;generalize ff 19=QY;generalize ff 20=QX;generalize ff 21=QW;generalize ff 22=QV;generalize ff 23=QU;generalize ff 24=QT;generalize ff 25=QS;generalize ff 26=QR;generalize ff 27=QQ;refine qc (fun h0=>?_) (fun h0=>?_)<;>try simp only[cs] at h0
 ·have hn:¬(dec (fu p)=true∧0≤lO∧lO<(p.aK.length:Int)):=by
   rintro⟨h1,h2,h3⟩;rw[h1] at h0;simp at h0;omega
  rw[if_neg hn];refine qq<|qj fun K hK=>?_;refine ab.go (d:=.agg (aL aG)) (st1:=_) rfl rfl rfl (by dsimp only[Fr.put,u1,u2]<;>rfl) ?_;refine qS hH aC fun st hH=>?_;dsimp only[u2,u1,u3,u4,setMany,u5,u6,D.cells,Nat.reduceAdd,aX,au,bw,bE,aL,bj,aG] at hH;refine qm ?_;refine qe hK<|af.ret ⟨rx,_,hH.db rfl aC rfl rfl,rl cE hH rfl⟩
 ·have h1:fu p∧0≤lO∧lO<(p.aK.length:Int):=by
   simp only[Bool.or_eq_false_iff,Bool.not_eq_false',decide_eq_false_iff_not] at h0;exact⟨Da h0.1.1,by omega,by omega⟩
  obtain⟨hR,IC,LC⟩:=h1;rw[if_pos ⟨uu hR,IC,LC⟩];obtain⟨ru,rfl⟩:=Int.eq_ofNat_of_zero_le IC
  obtain⟨start,sJ⟩:∃v,p.aK[ru]?=some v:=⟨p.aK[ru]'(by omega),List.getElem?_eq_getElem _⟩
  have gv:=hR.st start (List.mem_of_getElem? sJ);obtain⟨sn,rfl⟩:=Int.eq_ofNat_of_zero_le gv.1
  have Gm:(p.aK.getD ((ru:Nat):Int).toNat 0).toNat=sn:=by
   rw[Int.toNat_natCast,List.getD_eq_getElem?_getD,sJ];rfl
  rw[Gm];have JP:=fR sJ;have Bv:Arg s0.bs.length S 2 (cO gs) (gs.map bq):=Arg.pure (fun st=>dw st gs);refine af.skip<|qq<|qj fun K hK=>?_;refine ab.cI (m:=2) hH rfl (ev rfl) (by exact cp) (by dsimp only[List.drop_succ_cons,List.drop_zero,List.take_succ_cons,List.take_zero,aX,au,bw,bE,aL,bj,aG]<;>rfl) rfl rfl (by dsimp only[Fr.put,u1,u2]<;>rfl) ?_;refine qm ?_;refine ab.CQ hH rfl rfl rfl rfl rfl (by omega) (fun _=>by dsimp only[Fr.put,u1,u2]<;>rfl) (fun k32 st Lw hH=>?_);refine qv ((aM _ _ (hH.rows aC))) ?_;refine ab.go (d:=.agg [p.cd,p.sd,cO gs,.nul,.nul,.nul]) (st1:=_) rfl rfl rfl (by dsimp only[Fr.put,u1,u2]<;>rfl) ?_;refine qb hH fun k35 st P6 hH=>?_;refine qm ?_;refine qe hK<|qq<|qj fun K hK=>qm ?_;refine qe hK<|qq<|qq<|qj fun K hK=>qm ?_;refine qg ?_;refine qp (o:=2) ?_;refine ql hH aC ?_;refine qn ?_;simp only[List.length_map];refine qm ?_;refine qe hK<|af.block<|af.loop (fun mm fr st=>∃(i:Nat) (a:Int) (done:List Int) (pd:D),fr.clean=⟨89,[ai fr 0,.int .i64 (ru:Nat),ai fr 2,.ptr k3 0 0,ai fr 4,ai fr 5,.ptr k6 0 0,.bool false,.ptr k35 0 0,.int .i64 a,ai fr 10,ai fr 11,ai fr 12,ai fr 13,ai fr 14,ai fr 15,ai fr 16,ai fr 17,ai fr 18,ai fr 19,ai fr 20,ai fr 21,ai fr 22,ai fr 23,ai fr 24,ai fr 25,ai fr 26,ai fr 27,ai fr 28,ai fr 29,ai fr 30,ai fr 31,ai fr 32,ai fr 33,ai fr 34,ai fr 35,ai fr 36,ai fr 37,ai fr 38,cO gs,.int .i64 (gs.length:Nat),.int .i64 (i:Nat),ai fr 42,ai fr 43,ai fr 44,ai fr 45,ai fr 46,ai fr 47,ai fr 48,ai fr 49,ai fr 50,ai fr 51,ai fr 52,ai fr 53,ai fr 54,ai fr 55,ai fr 56,ai fr 57,ai fr 58,ai fr 59,ai fr 60,ai fr 61,ai fr 62,ai fr 63,ai fr 64,ai fr 65,ai fr 66,ai fr 67,ai fr 68,ai fr 69,ai fr 70,ai fr 71,ai fr 72,ai fr 73,ai fr 74,ai fr 75,ai fr 76,ai fr 77,ai fr 78,ai fr 79,ai fr 80,ai fr 81,ai fr 82,ai fr 83,ai fr 84,ai fr 85,ai fr 86,ai fr 87,ai fr 88],[]⟩∧Has s0.bs.length S st [.box k35 (.mem 0 false [p.cd,p.sd,cO gs,pd,.nul,.nul]),.aR pd 1 (done.map au),.box k6 (.mem 0 false (aL aG)),.box k3 (.mem 0 false [p.cd,p.sd])]∧(i+mm=gs.length)∧(done++DC a (gs.drop i)=DC 0 gs)∧(0≤a)∧(a≤1048576*i)∧(done.length=i)) (gs.length) ?_ ?_
  ·refine⟨0,0,[],.nul,rfl,?_,by omega,rfl,Int.le_refl _,(by omega),rfl⟩;exact(((hH.drop 0).erase 1).gH 1).front (j:=1) rfl
  rintro mm fr st ⟨i,a,done,pd,hfr,hH,hi,J1,RV,RU,J2⟩;rw[hfr];clear hfr;generalize ai fr=ee;clear fr;refine qq<|qj fun K hK=>qg ?_;refine qe hK<|qq ?_;refine af.cond (by rfl) (fun h3=>?_) (fun h3=>?_)<;>try simp only[decide_eq_true_eq,decide_eq_false_iff_not] at h3
  ·refine af.skip ?_
   obtain⟨g,hg⟩:∃g,gs[i]?=some g:=⟨gs[i]'(by omega),List.getElem?_eq_getElem _⟩
   have bd:=LG g (List.mem_of_getElem? hg);have jx:(gs.map bq)[i]?=some (bq g):=by rw[List.getElem?_map,hg];rfl
   have wy:gs.drop i=g::gs.drop (i+1):=by
    have:=List.drop_eq_getElem_cons (l:=gs) (i:=i) (by omega);rw[this];congr 1;rw[List.getElem?_eq_getElem (by omega)] at hg;exact Option.some.inj hg
   refine qq<|af.block<|qq<|qj fun K hK=>qr fun Rx Pu=>?_;refine ab.fk rfl (ev rfl) (by assumption) rfl (by dsimp only[Fr.put,u1,u2]<;>rfl) ?_;refine qa hH fun k11 st IA hH=>?_;dsimp only[u2,u1,u3,u4,setMany,u5,u6,D.cells,Nat.reduceAdd,aX,au,bw,bE,aL,bj,aG] at hH;refine qS hH aC fun st hH=>?_;dsimp only[u2,u1,u3,u4,setMany,u5,u6,D.cells,Nat.reduceAdd,aX,au,bw,bE,aL,bj,aG] at hH;refine qe hK<|qq<|qj fun K hK=>qm ?_;refine qm ?_;refine qg ?_;refine qp (o:=3) ?_;refine ql hH cp ?_;refine qm ?_;refine qh (s:=1) (vs:=[_]) hH fun k51 st P0 hH=>?_;refine qP hH fc (hH.rows aC) fun N3 st hH=>?_;dsimp only[u2,u1,u3,u4,setMany,u5,u6,D.cells,Nat.reduceAdd,aX,au,bw,bE,aL,bj,aG] at hH;refine qg ?_;refine qp (o:=3) ?_;refine qT hH dx (fun st hH=>?_) (jF:=hH.gk fc);dsimp only[u2,u1,u3,u4,setMany,u5,u6,D.cells,Nat.reduceAdd,aX,au,bw,bE,aL,bj,aG] at hH;refine qe hK<|qj fun K hK=>qm ?_;refine qp (o:=1) ?_;refine ql hH cp ?_;refine qA ?_;refine qm ?_;refine qe hK<|qj fun K hK=>qA ?_;refine qm ?_;refine qe hK ?_;exact⟨mm-1,by omega,⟨i+1,a+(g.2:Nat),done++[a],N3,rfl,(by rw[List.map_append];exact hH.drop 2),by omega,by rw[←J1,wy];simp[DC],by omega,by omega,by simp[J2]⟩⟩
  ·refine af.exit ?_;have wy:gs.drop i=[]:=List.drop_eq_nil_of_le (by omega);rw[wy] at J1;simp only[DC] at J1;have jT:=y8 gs 0;refine qq<|qj fun K hK=>qm ?_;refine qm ?_;refine qg ?_;refine qp (o:=3) ?_;refine ql hH aC ?_;refine qm ?_;refine qh (s:=1) (vs:=[_]) hH fun k66 st Iw hH=>?_;dsimp only[u2,u1,u3,u4,setMany,u5,u6,D.cells,Nat.reduceAdd,aX,au,bw,bE,aL,bj,aG] at hH;refine qP hH dx (hH.rows aC) fun JA st hH=>?_;dsimp only[u2,u1,u3,u4,setMany,u5,u6,D.cells,Nat.reduceAdd,aX,au,bw,bE,aL,bj,aG] at hH;refine qg ?_;refine qp (o:=3) ?_;refine qT hH cp (fun st hH=>?_) (jF:=hH.gk dx);dsimp only[u2,u1,u3,u4,setMany,u5,u6,D.cells,Nat.reduceAdd,aX,au,bw,bE,aL,bj,aG] at hH;refine qe hK ?_
   have hH:Has s0.bs.length S st [.box k35 (.mem 0 false [p.cd,p.sd,cO gs,JA,.nul,.nul]),.aR JA 1 ((DC 0 gs).map au),.box k6 (.mem 0 false (aL aG)),.box k3 (.mem 0 false [p.cd,p.sd])]:=by
    rw[←J1,List.map_append];exact hH.drop 1
   rw[←jT] at hsz⊢;generalize DC 0 gs=aS at*;refine qq<|qj fun K hK=>qm ?_;refine qm ?_;refine qg ?_;refine qp (o:=3) ?_;refine ql hH aC ?_;refine qn ?_ (hR:=hH.rows cp);simp only[List.length_map];refine qp (o:=0) ?_;refine ql hH fc ?_;refine qn ?_;simp only[List.length_map];refine ab.tH (z:=((aS.length*p.code.length:Nat):Int)) rfl (ev rfl) (ev rfl) (by rw[←Int.natCast_mul];exact ei (by simp only[lA];omega)) (by dsimp only[Fr.put,u1,u2]<;>rfl) ?_;refine ab.zt (s:=1) hH rfl rfl rfl rfl rfl rfl rfl rfl (Nat.le_of_ble_eq_true rfl) (by omega) (fun _=>by dsimp only[Fr.put,u1,u2]<;>rfl) (fun k80 st Lr hH=>?_);dsimp only[u2,u1,u3,u4,setMany,u5,u6,D.cells,Nat.reduceAdd,aX,au,bw,bE,aL,bj,aG] at hH;refine qg ?_;refine qp (o:=4) ?_;refine qT hH cp fun st hH=>?_;dsimp only[u2,u1,u3,u4,setMany,u5,u6,D.cells,Nat.reduceAdd,aX,au,bw,bE,aL,bj,aG] at hH;refine qe hK<|qq<|qq<|qj fun K hK=>qm ?_;refine qg ?_;refine qp (o:=3) ?_;refine ql hH cp ?_;refine qn ?_ (hR:=hH.rows dx);simp only[List.length_map];refine qm ?_;refine qe hK ?_
   obtain⟨R,GD⟩:∃R,sN (lT p.code.length) (cG p.code gs aS) (3*(aS.length*p.code.length)+1) sn aS.length 0 (List.replicate (aS.length*p.code.length) false)=R:=⟨_,rfl⟩
   rw[GD];refine af.block<|af.loop (fun mm fr st=>∃(i:Nat) (ar:List Bool) (ld:D) (nv:List (List D)),fr.clean=⟨89,[ai fr 0,.int .i64 (ru:Nat),ai fr 2,.ptr k3 0 0,ai fr 4,ai fr 5,.ptr k6 0 0,.bool false,.ptr k35 0 0,ai fr 9,ai fr 10,ai fr 11,ai fr 12,ai fr 13,ai fr 14,ai fr 15,ai fr 16,ai fr 17,ai fr 18,ai fr 19,ai fr 20,ai fr 21,ai fr 22,ai fr 23,ai fr 24,ai fr 25,ai fr 26,ai fr 27,ai fr 28,ai fr 29,ai fr 30,ai fr 31,ai fr 32,ai fr 33,ai fr 34,ai fr 35,ai fr 36,ai fr 37,ai fr 38,ai fr 39,ai fr 40,ai fr 41,ai fr 42,ai fr 43,ai fr 44,ai fr 45,ai fr 46,ai fr 47,ai fr 48,ai fr 49,ai fr 50,ai fr 51,ai fr 52,ai fr 53,ai fr 54,ai fr 55,ai fr 56,ai fr 57,ai fr 58,ai fr 59,ai fr 60,ai fr 61,ai fr 62,ai fr 63,ai fr 64,ai fr 65,ai fr 66,ai fr 67,ai fr 68,ai fr 69,ai fr 70,ai fr 71,ai fr 72,ai fr 73,ai fr 74,ai fr 75,ai fr 76,ai fr 77,ai fr 78,ai fr 79,ai fr 80,ai fr 81,ai fr 82,ai fr 83,ai fr 84,ai fr 85,ai fr 86,.int .i64 (aS.length:Nat),.int .i64 (i:Nat)],[]⟩∧Has s0.bs.length S st [.box k35 (.mem 0 false [p.cd,p.sd,cO gs,JA,.win k80 0 0 (aS.length*p.code.length) 1,ld]),.aR ld 12 nv,.aR JA 1 (aS.map au),.aR (.win k80 0 0 (aS.length*p.code.length) 1) 1 (ar.map bw),.box k6 (.mem 0 false (aL aG)),.box k3 (.mem 0 false [p.cd,p.sd])]∧(i+mm=aS.length)∧(ar.length=aS.length*p.code.length)∧(sN (lT p.code.length) (cG p.code gs aS) (3*(aS.length*p.code.length)+1) sn mm i ar=R)) (aS.length) ?_ ?_
   ·refine⟨0,List.replicate (aS.length*p.code.length) false,.nul,[],rfl,?_,by omega,by rw[List.length_replicate],GD⟩;rw[List.map_replicate];exact((hH.front (j:=2) rfl).gH 12).front (j:=3) rfl
   rintro mm fr st ⟨i,ar,ld,nv,hfr,hH,hi,LY,II⟩;rw[hfr];clear hfr;generalize ai fr=ee;clear fr;refine qq<|qj fun K hK=>qg ?_;refine qe hK<|qq ?_;refine af.cond (by rfl) (fun h4=>?_) (fun h4=>?_)<;>try simp only[decide_eq_true_eq,decide_eq_false_iff_not] at h4
   ·refine af.skip ?_
    obtain⟨mm,rfl⟩:∃m',mm=m'+1:=⟨mm-1,by omega⟩
    refine qq<|af.block<|qq<|qj fun K hK=>qm ?_;refine qm ?_;refine qe hK ?_;obtain⟨d,st1,aM,Kv,FN,hd,Hl⟩:=CY (start:=sn) (i:=i) hF hp hR (by omega) jT (by rw[←jT];exact hsz) (by rw[←jT];exact LY) (by omega) (by omega) hH;rw[LY] at hd Hl
    cases hD:(lX (lT p.code.length) (cG p.code gs aS) (3*(aS.length*p.code.length)+1) ar [⟨sn,i,bj⟩]).1 with
    |some c=>
     simp only[sN,hD] at II;rw[hD] at hd;have hd:d=.tup [.agg (aL c),.bool true]:=hd;subst hd;refine qq<|qj fun K hK=>qm ?_;refine qp (o:=1) ?_;refine ql hH jG ?_;refine qm ?_;refine qr fun Oc K4=>?_;refine qR ?_;refine qm ?_;refine qv (aM) ?_;refine qm ?_;refine qg ?_;refine qg ?_;refine ab.jX Hl rfl rfl (fun _=>by dsimp only[Fr.put,u1,u2]<;>rfl) (fun k13 st Ez hH=>?_);dsimp only[aL,aG] at hH;refine qT hH aC fun st hH=>?_;dsimp only[u2,u1,u3,u4,setMany,u5,u6,D.cells,Nat.reduceAdd,aX,au,bw,bE,aL,bj,aG] at hH;refine qm ?_;refine qe hK<|qq<|qj fun K hK=>qm ?_;refine qe hK<|qB ?_;refine qq<|qj fun K hK=>?_;refine ab.cI (m:=10) hH rfl (ev rfl) (by exact aC) (by dsimp only[List.drop_succ_cons,List.drop_zero,List.take_succ_cons,List.take_zero,aX,au,bw,bE,aL,bj,aG]<;>rfl) rfl rfl (aa rfl _) ?_;refine qS hH jG fun st hH=>?_;dsimp only[u2,u1,u3,u4,setMany,u5,u6,D.cells,Nat.reduceAdd,aX,au,bw,bE,aL,bj,aG] at hH;refine qm ?_;refine qe hK ?_;rw[←II];refine af.ret ⟨rx,_,hH.db rfl jG rfl rfl,rl cE hH rfl⟩
    |none=>
     have zu:=qQ (lT p.code.length) (cG p.code gs aS) (3*(aS.length*p.code.length)+1) ar [⟨sn,i,bj⟩];simp only[sN,hD] at II;rw[hD] at hd;have hd:d=.tup [.agg (aL aG),.bool false]:=hd;subst hd;refine qq<|qj fun K hK=>qm ?_;refine qp (o:=1) ?_;refine ql hH jG ?_;refine qm ?_;refine qr fun Oc K4=>?_;refine qR ?_;refine qm ?_;refine qv (aM) ?_;refine qm ?_;refine qg ?_;refine qg ?_;refine ab.jX Hl rfl rfl (fun _=>by dsimp only[Fr.put,u1,u2]<;>rfl) (fun k13 st Ez hH=>?_);dsimp only[aL,aG] at hH;refine qT hH aC fun st hH=>?_;dsimp only[u2,u1,u3,u4,setMany,u5,u6,D.cells,Nat.reduceAdd,aX,au,bw,bE,aL,bj,aG] at hH;refine qm ?_;refine qe hK<|qq<|qj fun K hK=>qm ?_;refine qe hK<|qC ?_;refine af.skip<|qj fun K hK=>qA ?_;refine qm ?_;refine qe hK ?_;exact⟨mm,by omega,⟨i+1,_,Kv,FN,rfl,(hH.drop 1),by omega,by rw[zu];exact LY,II⟩⟩
   ·refine af.exit<|qq<|qj fun K hK=>ab.go (d:=.agg (aL aG)) (st1:=_) rfl rfl rfl (aa rfl _) ?_;refine qS hH fH fun st hH=>?_;dsimp only[u2,u1,u3,u4,setMany,u5,u6,D.cells,Nat.reduceAdd,aX,au,bw,bE,aL,bj,aG] at hH;refine qm ?_;refine qe hK ?_
    have fZ:R=none:=by
     have:mm=0:=by omega
     subst this;rw[←II];rfl
    rw[fZ];refine af.ret ⟨rx,_,hH.db rfl fH rfl rfl,rl cE hH rfl⟩
end Go.Proofs.Ytnleclohocdkaaa
