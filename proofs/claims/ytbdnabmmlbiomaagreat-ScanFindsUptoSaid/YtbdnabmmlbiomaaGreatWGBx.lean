import Derived.Test.YtbdnabmmlbiomaaGreatWGBb
import Derived.Test.YtbdnabmmlbiomaaGreatWGYc
import Derived.Test.YtbdnabmmlbiomaaGreatWGZb
set_option linter.unusedSimpArgs false
set_option linter.unusedVariables false
set_option maxRecDepth 100000
set_option maxHeartbeats 4000000
namespace Go.Proofs.YtbdnabmmlbiomaaGreat
open Go.V Go
abbrev Sn:=Nat→Nat→Bool
def gY (s:Sn) (t:gm):Sn:=fun a b=>if a=t.pc∧b=t.at_ then true else s a b
theorem Cq (s:Sn) (t:gm):gY s t t.pc t.at_=true:=by unfold gY;rw[if_pos ⟨rfl,rfl⟩]
theorem Fc {s:Sn} {t:gm} {a b:Nat} (h:s a b=true):gY s t a b=true:=by unfold gY;split<;>first|rfl|exact h
inductive mb (gr:gm→Cg):Sn→List gm→Option l6→Sn→Prop
 |nil {s:Sn}:mb gr s [] none s
 |j5 {s s':Sn} {t:gm} {cD:List gm} {r:Option l6}:s t.pc t.at_=true→mb gr s cD r s'→mb gr s (t::cD) r s'
 |found {s:Sn} {t:gm} {cD:List gm}:s t.pc t.at_=false→gr t=.found→mb gr s (t::cD) (some t.c) (gY s t)
 |more {s s':Sn} {t:gm} {cD l:List gm} {r:Option l6}:s t.pc t.at_=false→gr t=.more l→mb gr (gY s t) (l++cD) r s'→mb gr s (t::cD) r s'
theorem mb.one {gr:gm→Cg} {s s1 s2:Sn} {cD:List gm} {r1 r2:Option l6} (h1:mb gr s cD r1 s1):mb gr s cD r2 s2→r1=r2∧s1=s2:=by
 induction h1 with
 |nil=>intro h;cases h;exact⟨rfl,rfl⟩
 |j5 h _ ih=>
  intro h2
  cases h2 with
  |j5 _ h'=>exact ih h'
  |found h' _=>rw[h] at h';cases h'
  |more h' _ _=>rw[h] at h';cases h'
 |found h hf=>
  intro h2
  cases h2 with
  |j5 h' _=>rw[h] at h';cases h'
  |found _ _=>exact⟨rfl,rfl⟩
  |more _ h' _=>rw[hf] at h';cases h'
 |more h hm _ ih=>
  intro h2
  cases h2 with
  |j5 h' _=>rw[h] at h';cases h'
  |found _ h'=>rw[hm] at h';cases h'
  |more _ h' h''=>
   rw[hm] at h';cases h';exact ih h''
def B8 (idx:Nat→Nat→Nat) (ok:Nat→Nat→Prop) (arr:List Bool) (s:Sn):Prop:=∀a b,ok a b→arr[idx a b]?=some (s a b)
def Rq (idx:Nat→Nat→Nat) (ok:Nat→Nat→Prop):Prop:=∀a b a' b',ok a b→ok a' b'→idx a b=idx a' b'→a=a'∧b=b'
def MA (gr:gm→Cg) (ok:Nat→Nat→Prop):Prop:=∀t l,ok t.pc t.at_→gr t=.more l→l.length≤2∧∀u∈l,ok u.pc u.at_
theorem B8.sH {idx:Nat→Nat→Nat} {ok:Nat→Nat→Prop} {arr:List Bool} {s:Sn} {t:gm} (hI:Rq idx ok) (ht:ok t.pc t.at_) (h:B8 idx ok arr s):B8 idx ok (arr.set (idx t.pc t.at_) true) (gY s t):=by
 intro a b hab;unfold gY
 by_cases he:idx a b=idx t.pc t.at_
 ·rw[if_pos (hI _ _ _ _ hab ht he),he];have:=bj (h _ _ ht);rw[List.getElem?_set_self this]
 ·rw[if_neg (by rintro⟨rfl,rfl⟩;exact he rfl),List.getElem?_set_ne (fun e=>he e.symm)];exact h a b hab
theorem Eg {idx:Nat→Nat→Nat} {ok:Nat→Nat→Prop} {gr:gm→Cg} (hI:Rq idx ok) (hK:MA gr ok):∀(f:Nat) (arr:List Bool) (cD:List gm) (s:Sn),3*arr.count false+cD.length≤f→B8 idx ok arr s→(∀t∈cD,ok t.pc t.at_)→∃s',mb gr s cD (kC idx gr f arr cD).1 s'∧B8 idx ok (kC idx gr f arr cD).2 s':=by
 intro f
 induction f with
 |zero=>
  intro arr cD s h1 hr _;have:cD=[]:=List.length_eq_zero_iff.1 (by omega);subst this;exact⟨s,.nil,hr⟩
 |succ f ih=>
  intro arr cD s h1 hr hs
  cases cD with
  |nil=>exact⟨s,.nil,hr⟩
  |cons t cD=>
   have ht:=hs t (List.mem_cons_self ..);have DF:∀u∈cD,ok u.pc u.at_:=fun u hu=>hs u (List.mem_cons_of_mem _ hu);simp only[List.length_cons] at h1;have hb:=hr _ _ ht;unfold kC;rw[hb]
   cases dB:s t.pc t.at_ with
   |true=>
    obtain⟨s',h2,h3⟩:=ih arr cD s (by omega) hr DF;exact⟨s',.j5 dB h2,h3⟩
   |false=>
    rw[dB] at hb;have yS:=count_set hb;simp only
    cases hS:gr t with
    |found=>exact⟨_,.found dB hS,hr.sH hI ht⟩
    |more l=>
     obtain⟨hl,bd⟩:=hK t l ht hS
     obtain⟨s',h2,h3⟩:=ih (arr.set (idx t.pc t.at_) true) (l++cD) (gY s t) (by rw[List.length_append];omega) (hr.sH hI ht) (by
      intro u hu
      rcases List.mem_append.1 hu with hu|hu
      ·exact bd u hu
      ·exact DF u hu)
     exact⟨s',.more dB hS h2,h3⟩
theorem K4 {n a b a' b':Nat} (h1:b<n) (h2:b'<n) (h:a*n+b=a'*n+b'):a=a'∧b=b':=by
 have hb:b=b':=by
  have:=congrArg (·%n) h;simp only[Nat.mul_add_mod_self_right,Nat.mod_eq_of_lt h1,Nat.mod_eq_of_lt h2] at this;exact this
 subst hb;exact⟨Nat.eq_of_mul_eq_mul_right (by omega) (by omega:a*n=a'*n),rfl⟩
theorem mul_lt {n m a b:Nat} (h1:a<m) (h2:b<n):a*n+b<m*n:=by
 have:=Nat.mul_le_mul_right n (show a+1≤m by omega);rw[Nat.add_mul,Nat.one_mul] at this;omega
section
variable{gr:gm→Cg}
theorem cT {s s1:Sn} {A:List gm} {r1:Option l6} (h:mb gr s A r1 s1):∀B,(∀c,r1=some c→∃s2,mb gr s (A++B) (some c) s2)∧(r1=none→∀r s2,mb gr s1 B r s2→mb gr s (A++B) r s2):=by
 induction h with
 |nil=>exact fun B=>⟨fun c h=>(by cases h),fun _ r s2 h=>h⟩
 |j5 ht _ ih=>
  intro B;obtain⟨h1,h2⟩:=ih B;exact⟨fun c hc=>(by obtain⟨s2,h⟩:=h1 c hc;exact⟨s2,.j5 ht h⟩),fun hn r s2 h=>.j5 ht (h2 hn r s2 h)⟩
 |found ht hf=>exact fun B=>⟨fun c hc=>(by cases hc;exact⟨_,.found ht hf⟩),fun hn=>(by cases hn)⟩
 |@more s s' t cD l r ht hm _ ih=>
  intro B;obtain⟨h1,h2⟩:=ih B;rw[List.append_assoc] at h1 h2;exact⟨fun c hc=>(by obtain⟨s2,h⟩:=h1 c hc;exact⟨s2,.more ht hm h⟩),fun hn r s2 h=>.more ht hm (h2 hn r s2 h)⟩
theorem lJ {s s2:Sn} {X:List gm} {r:Option l6} (h:mb gr s X r s2):∀A B,X=A++B→(∃c s1,r=some c∧mb gr s A (some c) s1)∨∃s1,mb gr s A none s1∧mb gr s1 B r s2:=by
 induction h with
 |nil=>
  intro A B h;obtain⟨rfl,rfl⟩:=List.append_eq_nil_iff.1 h.symm;exact .inr ⟨_,.nil,.nil⟩
 |@j5 s s' t cD r ht hr ih=>
  intro A B h
  cases A with
  |nil=>rw[List.nil_append] at h;subst h;exact .inr ⟨_,.nil,.j5 ht hr⟩
  |cons a A=>
   rw[List.cons_append] at h;obtain⟨rfl,rfl⟩:=List.cons.inj h
   rcases ih A B rfl with⟨c,s1,h1,h2⟩|⟨s1,h1,h2⟩
   ·exact .inl ⟨c,s1,h1,.j5 ht h2⟩
   ·exact .inr ⟨s1,.j5 ht h1,h2⟩
 |@found s t cD ht hf=>
  intro A B h
  cases A with
  |nil=>rw[List.nil_append] at h;subst h;exact .inr ⟨_,.nil,.found ht hf⟩
  |cons a A=>
   rw[List.cons_append] at h;obtain⟨rfl,rfl⟩:=List.cons.inj h;exact .inl ⟨_,_,rfl,.found ht hf⟩
 |@more s s' t cD l r ht hm hr ih=>
  intro A B h
  cases A with
  |nil=>rw[List.nil_append] at h;subst h;exact .inr ⟨_,.nil,.more ht hm hr⟩
  |cons a A=>
   rw[List.cons_append] at h;obtain⟨rfl,rfl⟩:=List.cons.inj h
   rcases ih (l++A) B (by rw[List.append_assoc]) with⟨c,s1,h1,h2⟩|⟨s1,h1,h2⟩
   ·exact .inl ⟨c,s1,h1,.more ht hm h2⟩
   ·exact .inr ⟨s1,.more ht hm h1,h2⟩
theorem CK {s s1:Sn} {A:List gm} {r:Option l6} (h:mb gr s A r s1):r=none→(∀a b,s a b=true→s1 a b=true)∧∀t∈A,s1 t.pc t.at_=true:=by
 induction h with
 |nil=>exact fun _=>⟨fun _ _ h=>h,fun t h=>by cases h⟩
 |j5 ht _ ih=>
  intro hn;obtain⟨h1,h2⟩:=ih hn;refine⟨h1,fun t h=>?_⟩
  rcases List.mem_cons.1 h with rfl|h
  ·exact h1 _ _ ht
  ·exact h2 t h
 |found _ _=>intro hn;cases hn
 |more ht hm _ ih=>
  intro hn;obtain⟨h1,h2⟩:=ih hn;refine⟨fun a b h=>h1 a b (Fc h),fun t h=>?_⟩
  rcases List.mem_cons.1 h with rfl|h
  ·exact h1 _ _ (Cq _ _)
  ·exact h2 t (List.mem_append_right _ h)
theorem zS {s s2:Sn} {A B:List gm} {r:Option l6} {u w:gm} (hw:w∈A) (hp:w.pc=u.pc) (ha:w.at_=u.at_) (h:mb gr s (A++B) r s2):∃s3,mb gr s (A++u::B) r s3:=by
 rcases lJ h A B rfl with⟨c,s1,rfl,h2⟩|⟨s1,h1,h2⟩
 ·exact(cT h2 _).1 c rfl
 ·have:=(CK h1 rfl).2 w hw;rw[hp,ha] at this;exact⟨s2,(cT h1 _).2 rfl _ _ (.j5 this h2)⟩
def Ag (k:Nat) (s s':Sn):Prop:=∀a b,k<b→s a b=s' a b
theorem Ag.symm {k:Nat} {s s':Sn} (h:Ag k s s'):Ag k s' s:=fun a b hb=>(h a b hb).symm
theorem Ag.trans {k:Nat} {s s' YZ:Sn} (h:Ag k s s') (h2:Ag k s' YZ):Ag k s YZ:=fun a b hb=>(h a b hb).trans (h2 a b hb)
theorem Ag.sH {k:Nat} {s:Sn} {t:gm} (ht:t.at_=k):Ag k s (gY s t):=fun a b hb=>by
 unfold gY;rw[if_neg (by omega)]
theorem kb (SC:∀t l,gr t=.more l→∀u∈l,t.at_≤u.at_) {k:Nat} {s s1:Sn} {A:List gm} {r:Option l6} (h:mb gr s A r s1):(∀t∈A,k<t.at_)→∀z,Ag k s z→∃z1,mb gr z A r z1∧Ag k s1 z1∧∀a b,b≤k→z1 a b=z a b:=by
 induction h with
 |nil=>exact fun _ z hz=>⟨z,.nil,hz,fun _ _ _=>rfl⟩
 |@j5 s s' t cD r ht _ ih=>
  intro hA z hz;obtain⟨z1,h1,h2,h3⟩:=ih (fun t h=>hA t (List.mem_cons_of_mem _ h)) z hz;exact⟨z1,.j5 (by rw[←hz _ _ (hA t (List.mem_cons_self ..))];exact ht) h1,h2,h3⟩
 |@found s t cD ht hf=>
  intro hA z hz;have Cb:=hA t (List.mem_cons_self ..);refine⟨gY z t,.found (by rw[←hz _ _ Cb];exact ht) hf,fun a b hb=>?_,fun a b hb=>?_⟩
  ·unfold gY;rw[hz a b hb]
  ·unfold gY;rw[if_neg (by omega)]
 |@more s s' t cD l r ht hm _ ih=>
  intro hA z hz;have Cb:=hA t (List.mem_cons_self ..)
  obtain⟨z1,h1,h2,h3⟩:=ih (fun u h=>by
   rcases List.mem_append.1 h with h|h
   ·exact Nat.lt_of_lt_of_le Cb (SC t l hm u h)
   ·exact hA u (List.mem_cons_of_mem _ h)) (gY z t) (fun a b hb=>by unfold gY;rw[hz a b hb])
  refine⟨z1,.more (by rw[←hz _ _ Cb];exact ht) hm h1,h2,fun a b hb=>?_⟩;rw[h3 a b hb];unfold gY;rw[if_neg (by omega)]
end
def ch (k:Nat) (t:gW):gm:=⟨t.pc,k,t.c⟩
def ie (code:List aJ) (gs:List (Nat×Nat)) (k:Nat) (l:List gW):List gm:=
 l.flatMap fun t=>if k<gs.length∧iw (qN code t.pc) ((gs.getD k (0,0)).1:Nat)=true then[⟨t.pc+1,k+1,t.c⟩] else[]
theorem jU (code:List aJ) (gs:List (Nat×Nat)) (k:Nat):ie code gs k []=[]:=rfl
theorem tU (code:List aJ) (gs:List (Nat×Nat)) (k:Nat) (a b:List gW):ie code gs k (a++b)=ie code gs k a++ie code gs k b:=by
 unfold ie;rw[List.flatMap_append]
theorem jV {code:List aJ} {gs:List (Nat×Nat)} {k:Nat} {l:List gW}:∀u∈ie code gs k l,k<u.at_:=by
 intro u hu;obtain⟨t,_,ht⟩:=List.mem_flatMap.1 hu
 split at ht
 ·simp only[List.mem_cons,List.not_mem_nil,or_false] at ht;subst ht;exact Nat.lt_succ_self k
 ·cases ht
theorem j8 (code:List aJ) (gs:List (Nat×Nat)) (a8:List Int):∀t l,bV code gs a8 t=.more l→∀u∈l,t.at_≤u.at_:=by
 intro t l h u hu;unfold bV at h
 split at h
 ·cases h;cases hu
 ·split at h
  ·cases h
  ·split at h
   ·cases h;simp only[List.mem_cons,List.not_mem_nil,or_false] at hu
    rcases hu with rfl|rfl<;>exact Nat.le_refl _
   ·split at h
    ·cases h;simp only[List.mem_cons,List.not_mem_nil,or_false] at hu;subst hu;exact Nat.le_refl _
    ·split at h
     ·cases h;simp only[List.mem_cons,List.not_mem_nil,or_false] at hu;subst hu;exact Nat.le_refl _
     ·split at h
      ·cases h
       split at hu
       ·simp only[List.mem_cons,List.not_mem_nil,or_false] at hu;subst hu;exact Nat.le_refl _
       ·cases hu
      ·split at h
       ·cases h
        split at hu
        ·simp only[List.mem_cons,List.not_mem_nil,or_false] at hu;subst hu;exact Nat.le_refl _
        ·cases hu
       ·cases h
        split at hu
        ·simp only[List.mem_cons,List.not_mem_nil,or_false] at hu;subst hu;exact Nat.le_succ _
        ·cases hu
def AR (gr:gm→Cg) (N:List gm) (k n:Nat) (s:Sn) (A:List gm) (RP:List Bool) (a_:l6) (RE:Bool):Prop:=
 ∀r1 s1,mb gr s N r1 s1→
  (∀c,r1=some c→∃s2,mb gr s A (some c) s2)∧
  (r1=none→RE=true→∃s2,mb gr s A (some a_) s2)∧
  (r1=none→RE=false→∃s2,mb gr s A none s2∧Ag k s1 s2∧∀a,a<n→s2 a k=RP.getD a true)
theorem BK {l:List Bool} {i a:Nat} (hi:i<l.length):(l.set i true).getD a true=if a=i then true else l.getD a true:=by
 rw[List.getD_eq_getElem?_getD,List.getD_eq_getElem?_getD]
 by_cases h:a=i
 ·subst h;rw[if_pos rfl,List.getElem?_set_self hi];rfl
 ·rw[if_neg h,List.getElem?_set_ne (fun e=>h e.symm)]
section
variable{code:List aJ} {ns:Nat} {gs:List (Nat×Nat)} {a8:List Int} {k pl:Nat} {e:Bool}
theorem zD {s:Sn} {seen:List Bool} {t:gW} (hl:seen.length=code.length) (ht:t.pc<code.length) (hs:∀a,a<code.length→s a k=seen.getD a true):∀a,a<code.length→gY s (ch k t) a k=(seen.set t.pc true).getD a true:=by
 intro a ha;rw[BK (by omega)];unfold gY ch;simp only[and_true]
 split
 ·rfl
 ·exact hs a ha
theorem Cj {w':Wk×Bool} {N:List gm} {s:Sn} {t u:gW} (hN:∀x∈N,k<x.at_) (dB:s t.pc k=false) (hm:bV code gs a8 (ch k t)=.more [ch k u])
  (h:AR (bV code gs a8) N k code.length (gY s (ch k t)) [ch k u] w'.1.seen w'.1.a_ w'.2):AR (bV code gs a8) N k code.length s [ch k t] w'.1.seen w'.1.a_ w'.2:=by
 intro r1 s1 hr;obtain⟨z1,h1,h2,_⟩:=kb (j8 code gs a8) hr hN (gY s (ch k t)) (Ag.sH rfl);obtain⟨q1,q2,q3⟩:=h r1 z1 h1;refine⟨fun c hc=>?_,fun hn hh=>?_,fun hn hh=>?_⟩
 ·obtain⟨s2,g⟩:=q1 c hc;exact⟨s2,.more dB hm g⟩
 ·obtain⟨s2,g⟩:=q2 hn hh;exact⟨s2,.more dB hm g⟩
 ·obtain⟨s2,g,g2,g3⟩:=q3 hn hh;exact⟨s2,.more dB hm g,h2.trans g2,g3⟩
theorem Ck {seen:List Bool} {a_:l6} {s:Sn} {t:gW} (hl:seen.length=code.length) (ht:t.pc<code.length) (hs:∀a,a<code.length→s a k=seen.getD a true) (dB:s t.pc k=false) (hm:bV code gs a8 (ch k t)=.more []):
  AR (bV code gs a8) (ie code gs k []) k code.length s [ch k t] (seen.set t.pc true) a_ false:=by
 intro r1 s1 hr;rw[jU] at hr;cases hr;exact⟨fun c hc=>(by cases hc),fun _ h=>(by cases h),fun _ _=>⟨_,.more dB hm .nil,Ag.sH rfl,zD hl ht hs⟩⟩
structure ub (code:List aJ) (gs:List (Nat×Nat)) (a8:List Int) (k:Nat) (s:Sn) (A:List gm) (w:Wk) (w':Wk) (RE:Bool) (new:List gW):Prop where
 rdy:w'.rdy=w.rdy++new
 aW:RE=false→w'.dn=w.dn∧w'.a_=w.a_
 got:RE=true→w'.dn=true
 run:AR (bV code gs a8) (ie code gs k new) k code.length s A w'.seen w'.a_ RE
theorem nQ (hsh:∀pc i,code[pc]?=some i→db code.length ns pc i=true) (fU:a8.getD k 0=(pl:Int)) (hz:pl=0↔k=0) (he:e=true↔k=gs.length):∀(f:Nat) (w:Wk) (t:gW) (s:Sn),w.seen.count false<f→w.seen.length=code.length→t.pc<code.length→(∀a,a<code.length→s a k=w.seen.getD a true)→
  ∃new,ub code gs a8 k s [ch k t] w (ck code pl e f w t).1 (ck code pl e f w t).2 new
 |0,_,_,_,h,_,_,_=>absurd h (Nat.not_lt_zero _)
 |f+1,w,t,s,hc,hl,ht,hs=>by
  have dB:=hs t.pc ht;unfold ck
  by_cases h0:w.seen.getD t.pc true=true
  ·rw[if_pos h0];rw[h0] at dB;refine⟨[],by simp,fun _=>⟨rfl,rfl⟩,fun h=>(by cases h),fun r1 s1 hr=>?_⟩;rw[jU] at hr;cases hr;exact⟨fun c hc=>(by cases hc),fun _ h=>(by cases h),fun _ _=>⟨_,.j5 dB .nil,fun _ _ _=>rfl,hs⟩⟩
  rw[if_neg h0];rw[Bool.not_eq_true] at h0;rw[h0] at dB
  have hsf:w.seen[t.pc]?=some false:=by
   rw[List.getD_eq_getElem?_getD,List.getElem?_eq_getElem (by omega)] at h0;rw[List.getElem?_eq_getElem (by omega)];exact congrArg some h0
  have iS:=count_set hsf
  obtain⟨i,hi⟩:∃i,code[t.pc]?=some i:=⟨code[t.pc]'ht,List.getElem?_eq_getElem _⟩
  have hsc:=eU (hsh _ _ hi);have Zr:=zD (t:=t) hl ht hs;have sO:(w.seen.set t.pc true).length=code.length:=by rw[List.length_set];exact hl
  have ih:=fun(u:gW) (hu:u.pc<code.length)=>nQ hsh fU hz he f ⟨w.seen.set t.pc true,w.dn,w.a_,w.rdy⟩ u (gY s (ch k t)) (by show(w.seen.set t.pc true).count false<f;omega) sO hu Zr
  have one:∀(u:gW),u.pc<code.length→bV code gs a8 (ch k t)=.more [ch k u]→∃new,ub code gs a8 k s [ch k t] w (ck code pl e f ⟨w.seen.set t.pc true,w.dn,w.a_,w.rdy⟩ u).1 (ck code pl e f ⟨w.seen.set t.pc true,w.dn,w.a_,w.rdy⟩ u).2 new:=fun u hu hm=>by
   obtain⟨new,g1,g2,g3,g4⟩:=ih u hu;exact⟨new,g1,g2,g3,Cj (w':=(ck code pl e f ⟨w.seen.set t.pc true,w.dn,w.a_,w.rdy⟩ u)) jV dB hm g4⟩
  have stop:bV code gs a8 (ch k t)=.more []→∃new,ub code gs a8 k s [ch k t] w ⟨w.seen.set t.pc true,w.dn,w.a_,w.rdy⟩ false new:=fun hm=>
   ⟨[],by simp,fun _=>⟨rfl,rfl⟩,fun h=>(by cases h),Ck hl ht hs dB hm⟩
  have hS:bV code gs a8 (ch k t)=(if i.op=7 then .found
    else if i.op=2 then .more [⟨i.x.toNat,k,t.c⟩,⟨i.y.toNat,k,t.c⟩]
    else if i.op=3 then .more [⟨i.x.toNat,k,t.c⟩]
    else if i.op=4 then .more [⟨t.pc+1,k,vQ t.c i.x.toNat (a8.getD k 0)⟩]
    else if i.op=5 then .more (if k=0 then[⟨t.pc+1,k,t.c⟩] else[])
    else if i.op=6 then .more (if k=gs.length then[⟨t.pc+1,k,t.c⟩] else[])
    else .more (if k<gs.length∧iw i.rs ((gs.getD k (0,0)).1:Nat)=true then[⟨t.pc+1,k+1,t.c⟩] else[])):=by
   unfold bV;simp only[ch,hi]
   rfl
  rw[hi];simp only
  rcases hsc with h7|⟨h2,hx,hy⟩|⟨h3,hx⟩|⟨h4,hx,_⟩|⟨h5,hx⟩|⟨h6,hx⟩|⟨h1,hx⟩
  ·rw[if_pos h7];rw[if_pos h7] at hS;refine⟨[],by simp,fun h=>(by cases h),fun _=>rfl,fun r1 s1 hr=>?_⟩;rw[jU] at hr;cases hr;exact⟨fun c hc=>(by cases hc),fun _ _=>⟨_,.found dB hS⟩,fun _ h=>(by cases h)⟩
  ·rw[if_neg (by omega),if_pos h2];rw[if_neg (by omega),if_pos h2] at hS;have hxn:i.x.toNat<code.length:=by omega
   have hyn:i.y.toNat<code.length:=by omega
   obtain⟨nx,T_,T9,X1,Q5⟩:=ih ⟨i.x.toNat,t.c⟩ hxn;have Mr:=cH code pl e f ⟨w.seen.set t.pc true,w.dn,w.a_,w.rdy⟩ ⟨i.x.toNat,t.c⟩;generalize ck code pl e f ⟨w.seen.set t.pc true,w.dn,w.a_,w.rdy⟩ ⟨i.x.toNat,t.c⟩=R1 at*;obtain⟨w1,b1⟩:=R1;obtain⟨dz,bz,_,_⟩:=Mr;simp only at*
   cases b1 with
   |true=>
    rw[if_pos rfl];refine⟨nx,T_,T9,X1,fun r1 s1 hr=>?_⟩;obtain⟨z1,k1,k2,_⟩:=kb (j8 code gs a8) hr jV (gY s (ch k t)) (Ag.sH rfl);obtain⟨q1,q2,q3⟩:=Q5 r1 z1 k1;refine⟨fun c hc=>?_,fun hn hh=>?_,fun _ h=>(by cases h)⟩
    ·obtain⟨s2,g⟩:=q1 c hc;obtain⟨s3,g⟩:=(cT g [ch k ⟨i.y.toNat,t.c⟩]).1 c rfl;exact⟨s3,.more dB hS g⟩
    ·obtain⟨s2,g⟩:=q2 hn hh;obtain⟨s3,g⟩:=(cT g [ch k ⟨i.y.toNat,t.c⟩]).1 _ rfl;exact⟨s3,.more dB hS g⟩
   |false=>
    rw[if_neg (by decide)];obtain⟨X0,XZ⟩:=T9 rfl
    have uU:∀z:Sn,(∀a,a<code.length→z a k=w1.seen.getD a true)→∃new,ub code gs a8 k z [ch k ⟨i.y.toNat,t.c⟩] w1 (ck code pl e f w1 ⟨i.y.toNat,t.c⟩).1 (ck code pl e f w1 ⟨i.y.toNat,t.c⟩).2 new:=fun z hz1=>
     nQ hsh fU hz he f w1 ⟨i.y.toNat,t.c⟩ z (by omega) (by rw[dz,List.length_set];exact hl) hyn hz1
    obtain⟨ny,T8,XY,XX,_⟩:=uU (fun a b=>w1.seen.getD a true) (fun _ _=>rfl);refine⟨nx++ny,by rw[T8,T_,List.append_assoc],fun h=>?_,XX,fun r1 s1 hr=>?_⟩
    ·obtain⟨p1,p2⟩:=XY h;exact⟨p1.trans X0,p2.trans XZ⟩
    obtain⟨z1,k1,k2,_⟩:=kb (j8 code gs a8) hr jV (gY s (ch k t)) (Ag.sH rfl);rw[tU] at k1
    rcases lJ k1 _ _ rfl with⟨c,u1,rfl,hA⟩|⟨u1,hA,hB⟩
    ·obtain⟨q1,_,_⟩:=Q5 _ _ hA;obtain⟨s2,g⟩:=q1 c rfl;obtain⟨s3,g⟩:=(cT g [ch k ⟨i.y.toNat,t.c⟩]).1 c rfl;exact⟨fun c' xP=>(by cases xP;exact⟨s3,.more dB hS g⟩),fun h=>(by cases h),fun h=>(by cases h)⟩
    ·obtain⟨_,_,q3⟩:=Q5 _ _ hA;obtain⟨s2,g,g2,g3⟩:=q3 rfl rfl;obtain⟨VM,Q4,_,_,XW⟩:=uU s2 g3;have WV:VM=ny:=List.append_cancel_left (Q4.symm.trans T8);subst WV;obtain⟨z2,k3,k4,_⟩:=kb (j8 code gs a8) hB jV s2 g2;obtain⟨p1,p2,p3⟩:=XW _ _ k3;refine⟨fun c hc=>?_,fun hn hh=>?_,fun hn hh=>?_⟩
     ·obtain⟨s3,g4⟩:=p1 c hc;exact⟨s3,.more dB hS ((cT g [ch k ⟨i.y.toNat,t.c⟩]).2 rfl _ _ g4)⟩
     ·obtain⟨s3,g4⟩:=p2 hn hh;exact⟨s3,.more dB hS ((cT g [ch k ⟨i.y.toNat,t.c⟩]).2 rfl _ _ g4)⟩
     ·obtain⟨s3,g4,g5,g6⟩:=p3 hn hh;exact⟨s3,.more dB hS ((cT g [ch k ⟨i.y.toNat,t.c⟩]).2 rfl _ _ g4),(k2.trans k4).trans g5,g6⟩
  ·rw[if_neg (by omega),if_neg (by omega),if_neg (by omega),if_pos h3];rw[if_neg (by omega),if_neg (by omega),if_pos h3] at hS;exact one ⟨i.x.toNat,t.c⟩ (show i.x.toNat<code.length by omega) hS
  ·rw[if_neg (by omega),if_neg (by omega),if_neg (by omega),if_neg (by omega),if_pos h4];rw[if_neg (by omega),if_neg (by omega),if_neg (by omega),if_pos h4,fU] at hS;exact one ⟨t.pc+1,vQ t.c i.x.toNat (pl:Nat)⟩ hx hS
  ·rw[if_neg (by omega),if_neg (by omega),if_neg (by omega),if_neg (by omega),if_neg (by omega),if_pos h5];rw[if_neg (by omega),if_neg (by omega),if_neg (by omega),if_neg (by omega),if_pos h5] at hS
   by_cases hk:k=0
   ·rw[if_pos (hz.2 hk)];rw[if_pos hk] at hS;exact one ⟨t.pc+1,t.c⟩ hx hS
   ·rw[if_neg (fun h=>hk (hz.1 h))];rw[if_neg hk] at hS;exact stop hS
  ·rw[if_neg (by omega),if_neg (by omega),if_neg (by omega),if_neg (by omega),if_neg (by omega),if_neg (by omega)];rw[if_neg (by omega),if_neg (by omega),if_neg (by omega),if_neg (by omega),if_neg (by omega),if_pos h6] at hS
   by_cases hk:k=gs.length
   ·rw[if_pos (he.2 hk)];rw[if_pos hk] at hS;exact one ⟨t.pc+1,t.c⟩ hx hS
   ·rw[if_neg (fun h=>hk (he.1 h))];rw[if_neg hk] at hS;exact stop hS
  ·rw[if_neg (by omega),if_neg (by omega),if_pos h1];rw[if_neg (by omega),if_neg (by omega),if_neg (by omega),if_neg (by omega),if_neg (by omega),if_neg (by omega)] at hS
   have TP:ie code gs k [t]=if k<gs.length∧iw i.rs ((gs.getD k (0,0)).1:Nat)=true then[⟨t.pc+1,k+1,t.c⟩] else[]:=by
    unfold ie qN;rw[List.flatMap_cons,List.flatMap_nil,List.append_nil,hi]
   rw[←TP] at hS;refine⟨[t],rfl,fun _=>⟨rfl,rfl⟩,fun h=>(by cases h),fun r1 s1 hr=>?_⟩;obtain⟨z1,k1,k2,k3⟩:=kb (j8 code gs a8) hr jV (gY s (ch k t)) (Ag.sH rfl);have oE:mb (bV code gs a8) s [ch k t] r1 z1:=.more dB hS (by rw[List.append_nil];exact k1);refine⟨fun c hc=>⟨z1,hc▸oE⟩,fun _ h=>(by cases h),fun hn _=>⟨z1,hn▸oE,k2,fun a ha=>?_⟩⟩;rw[k3 a k (Nat.le_refl _)];exact Zr a ha
def Mz (code:List aJ) (pl:Nat) (e:Bool):List gW→Wk→Bool
 |[],_=>false
 |t::ts,w=>if(ck code pl e (code.length+1) w t).2=true then true else Mz code pl e ts (ck code pl e (code.length+1) w t).1
theorem ve (hsh:∀pc i,code[pc]?=some i→db code.length ns pc i=true) (fU:a8.getD k 0=(pl:Int)) (hz:pl=0↔k=0) (he:e=true↔k=gs.length):∀(l:List gW) (w:Wk) (s:Sn),w.seen.length=code.length→(∀t∈l,t.pc<code.length)→(∀a,a<code.length→s a k=w.seen.getD a true)→
  ∃new,ub code gs a8 k s (l.map (ch k)) w (nN code pl e l w) (Mz code pl e l w) new
 |[],w,s,hl,_,hs=>⟨[],by simp[nN],fun _=>⟨rfl,rfl⟩,fun h=>(by cases h),fun r1 s1 hr=>by
   rw[jU] at hr;cases hr
   exact⟨fun c hc=>(by cases hc),fun _ h=>(by cases h),fun _ _=>⟨_,.nil,fun _ _ _=>rfl,hs⟩⟩⟩
 |t::ts,w,s,hl,hts,hs=>by
  have ht:=hts t (List.mem_cons_self ..);have hcl:=List.count_le_length (a:=false) (l:=w.seen);obtain⟨nx,T_,T9,X1,Q5⟩:=nQ hsh fU hz he (code.length+1) w t s (by omega) hl ht hs;obtain⟨dz,_,_,_⟩:=cH code pl e (code.length+1) w t;unfold nN Mz;generalize ck code pl e (code.length+1) w t=R1 at*;obtain⟨w1,b1⟩:=R1;simp only at*;rw[List.map_cons]
  cases b1 with
  |true=>
   rw[if_pos rfl,if_pos rfl];refine⟨nx,T_,T9,X1,fun r1 s1 hr=>?_⟩;obtain⟨q1,q2,q3⟩:=Q5 _ _ hr;refine⟨fun c hc=>?_,fun hn hh=>?_,fun _ h=>(by cases h)⟩
   ·obtain⟨s2,g⟩:=q1 c hc;exact(cT g (ts.map (ch k))).1 c rfl
   ·obtain⟨s2,g⟩:=q2 hn hh;exact(cT g (ts.map (ch k))).1 _ rfl
  |false=>
   rw[if_neg (by decide),if_neg (by decide)];obtain⟨X0,XZ⟩:=T9 rfl
   have uU:∀z:Sn,(∀a,a<code.length→z a k=w1.seen.getD a true)→∃new,ub code gs a8 k z (ts.map (ch k)) w1 (nN code pl e ts w1) (Mz code pl e ts w1) new:=fun z hz1=>
    ve hsh fU hz he ts w1 z (dz.trans hl) (fun t h=>hts t (List.mem_cons_of_mem _ h)) hz1
   obtain⟨ny,T8,XY,XX,_⟩:=uU (fun a b=>w1.seen.getD a true) (fun _ _=>rfl);refine⟨nx++ny,by rw[T8,T_,List.append_assoc],fun h=>?_,XX,fun r1 s1 hr=>?_⟩
   ·obtain⟨p1,p2⟩:=XY h;exact⟨p1.trans X0,p2.trans XZ⟩
   rw[tU] at hr
   rcases lJ hr _ _ rfl with⟨c,u1,rfl,hA⟩|⟨u1,hA,hB⟩
   ·obtain⟨q1,_,_⟩:=Q5 _ _ hA;obtain⟨s2,g⟩:=q1 c rfl;obtain⟨s3,g⟩:=(cT g (ts.map (ch k))).1 c rfl;exact⟨fun c' xP=>(by cases xP;exact⟨s3,g⟩),fun h=>(by cases h),fun h=>(by cases h)⟩
   ·obtain⟨_,_,q3⟩:=Q5 _ _ hA;obtain⟨s2,g,g2,g3⟩:=q3 rfl rfl;obtain⟨VM,Q4,_,_,XW⟩:=uU s2 g3;have WV:VM=ny:=List.append_cancel_left (Q4.symm.trans T8);subst WV;obtain⟨z2,k3,k4,_⟩:=kb (j8 code gs a8) hB jV s2 g2;obtain⟨p1,p2,p3⟩:=XW _ _ k3;refine⟨fun c hc=>?_,fun hn hh=>?_,fun hn hh=>?_⟩
    ·obtain⟨s3,g4⟩:=p1 c hc;exact⟨s3,(cT g (ts.map (ch k))).2 rfl _ _ g4⟩
    ·obtain⟨s3,g4⟩:=p2 hn hh;exact⟨s3,(cT g (ts.map (ch k))).2 rfl _ _ g4⟩
    ·obtain⟨s3,g4,g5,g6⟩:=p3 hn hh;exact⟨s3,(cT g (ts.map (ch k))).2 rfl _ _ g4,k4.trans g5,g6⟩
end
theorem oi {code:List aJ} {gs:List (Nat×Nat)} {a8:List Int} {k:Nat} {r:Int} (hk:k<gs.length) (hr:((gs.getD k (0,0)).1:Nat)=r):∀(l acc:List gW) (R:List gm) (s s1:Sn) (q:Option l6),mb (bV code gs a8) s ((eQ code r l acc).map (ch (k+1))++R) q s1→∃s2,mb (bV code gs a8) s (acc.map (ch (k+1))++(ie code gs k l++R)) q s2
 |[],acc,R,s,s1,q,h=>⟨s1,by rw[jU,List.nil_append];exact h⟩
 |t::ts,acc,R,s,s1,q,h=>by
  unfold eQ at h
  have hc:ie code gs k (t::ts)=(if iw (qN code t.pc) r=true then[⟨t.pc+1,k+1,t.c⟩] else[])++ie code gs k ts:=by
   unfold ie;rw[List.flatMap_cons,hr]
   congr 1
   by_cases hh:iw (qN code t.pc) r=true
   ·rw[if_pos ⟨hk,hh⟩,if_pos hh]
   ·rw[if_neg (fun x=>hh x.2),if_neg hh]
  rw[hc];obtain⟨s2,h2⟩:=oi hk hr ts _ R s s1 q h
  by_cases hh:iw (qN code t.pc) r=true
  ·rw[if_pos hh] at h2⊢;unfold mJ at h2
   split at h2
   ·rename_i hp;obtain⟨w,hw,V2⟩:=List.any_eq_true.1 hp;rw[beq_iff_eq] at V2;obtain⟨s3,h3⟩:=zS (u:=⟨t.pc+1,k+1,t.c⟩) (List.mem_map_of_mem (f:=ch (k+1)) hw) V2 rfl h2;exact⟨s3,by rw[List.singleton_append,List.cons_append];exact h3⟩
   ·exact⟨s2,by rw[List.map_append,List.append_assoc] at h2;exact h2⟩
  ·rw[if_neg hh] at h2⊢;exact⟨s2,by rw[List.nil_append];exact h2⟩
theorem wH {code:List aJ} {r:Int} {n:Nat}:∀(l acc:List gW),(∀t∈l,t.pc+1<n)→(∀t∈acc,t.pc<n)→∀t∈eQ code r l acc,t.pc<n
 |[],acc,_,h=>h
 |t::ts,acc,hl,h=>by
  unfold eQ;refine wH ts _ (fun u hu=>hl u (List.mem_cons_of_mem _ hu)) ?_;have:=hl t (List.mem_cons_self ..)
  split
  ·unfold mJ
   split
   ·exact h
   ·intro u hu
    rcases List.mem_append.1 hu with hu|hu
    ·exact h u hu
    ·simp only[List.mem_cons,List.not_mem_nil,or_false] at hu;subst hu;exact this
  ·exact h
def sR (code:List aJ) (start:Nat):List (Nat×Nat)→Nat→PL→PL
 |[],pl,l=>kB code pl l
 |g::gs,pl,l=>sR code start gs (pl+gi (g.2:Nat)) (fS code pl start (g.1:Nat) l)
def gZ (start k n:Nat):List gm:=(List.range' k (n+1-k)).map fun j=>⟨start,j,aP⟩
theorem oW {start k n:Nat} (h:k≤n):gZ start k n=⟨start,k,aP⟩::gZ start (k+1) n:=by
 unfold gZ;rw[show n+1-k=(n+1-(k+1))+1 by omega,List.range'_succ];rfl
theorem vJ {start n:Nat}:gZ start (n+1) n=[]:=by unfold gZ;rw[Nat.sub_self];rfl
theorem zV:∀(l:List (Nat×Nat)) (a:Int) (k:Nat) (g:Nat×Nat),l[k]?=some g→(vq a l).getD (k+1) 0=(vq a l).getD k 0+(g.2:Nat)
 |[],_,_,_,h=>by simp at h
 |x::r,a,0,g,h=>by
  simp only[List.getElem?_cons_zero,Option.some.injEq] at h;subst h;cases r<;>rfl
 |x::r,a,k+1,g,h=>by
  rw[List.getElem?_cons_succ] at h;exact zV r _ k g h
theorem vb {code:List aJ} {ns start:Nat} {gs:List (Nat×Nat)} (hsh:∀pc i,code[pc]?=some i→db code.length ns pc i=true) (dB:start<code.length) (hg:∀g∈gs,1≤g.2∧g.2≤4):
  ∀(m k pl:Nat) (l:PL) (s:Sn),k+m=gs.length→(vq 0 gs).getD k 0=(pl:Int)→(pl=0↔k=0)→(∀a b,k≤b→s a b=false)→(∀t∈l.eL,t.pc<code.length)→
   ∃r s',mb (bV code gs (vq 0 gs)) s (l.eL.map (ch k)++(if l.dn=true then[] else gZ start (k+1) gs.length)) r s'∧(sR code start (gs.drop k) pl l).dn=(r.isSome||l.dn)∧(∀c,r=some c→(sR code start (gs.drop k) pl l).a_=c)∧(r=none→l.dn=true→(sR code start (gs.drop k) pl l).a_=l.a_)
 |0,k,pl,l,s,hk,fU,hz,hs,E3=>by
  have hkn:k=gs.length:=by omega
  subst hkn;rw[List.drop_length,vJ,ite_self,List.append_nil];obtain⟨new,g1,g2,g3,g4⟩:=ve (gs:=gs) (e:=true) hsh fU hz ⟨fun _=>rfl,fun _=>rfl⟩ l.eL (kI code.length l.dn l.a_) s (by simp[kI]) E3 (fun a ha=>by rw[hs a _ (Nat.le_refl _)];simp[kI,List.getD_eq_getElem?_getD,List.getElem?_replicate,ha])
  have XA:∀x:List gW,ie code gs gs.length x=[]:=fun x=>by
   unfold ie;rw[List.flatMap_eq_nil_iff];intro t _;rw[if_neg (fun h=>Nat.lt_irrefl _ h.1)]
  rw[XA] at g4;obtain⟨_,q2,q3⟩:=g4 none s .nil;unfold sR kB
  cases hh:Mz code pl true l.eL (kI code.length l.dn l.a_) with
  |true=>
   obtain⟨s2,h2⟩:=q2 rfl hh;exact⟨_,s2,h2,by simp[g3 hh],fun c hc=>(by cases hc;rfl),fun h=>(by cases h)⟩
  |false=>
   obtain⟨s2,h2,_⟩:=q3 rfl hh;obtain⟨h3,h4⟩:=g2 hh;exact⟨_,s2,h2,h3,fun c hc=>(by cases hc),fun _ _=>h4⟩
 |m+1,k,pl,l,s,hk,fU,hz,hs,E3=>by
  have gq:k<gs.length:=by omega
  obtain⟨g,Lz⟩:∃g,gs[k]?=some g:=⟨gs[k]'gq,List.getElem?_eq_getElem _⟩
  have bz:=hg g (List.mem_of_getElem? Lz)
  have sQ:gs.drop k=g::gs.drop (k+1):=by
   rw[List.drop_eq_getElem_cons gq]
   congr 1
   exact Option.some.inj ((List.getElem?_eq_getElem _).symm.trans Lz)
  have yO:(((gs.getD k (0,0)).1:Nat):Int)=((g.1:Nat):Int):=by rw[List.getD_eq_getElem?_getD,Lz];rfl
  have hcl:gi ((g.2:Nat):Int)=g.2:=by unfold gi;omega
  obtain⟨new,g1,g2,g3,g4⟩:=ve (gs:=gs) (e:=false) hsh fU hz ⟨fun h=>(by cases h),fun h=>absurd h (by omega)⟩ l.eL (kI code.length l.dn l.a_) s (by simp[kI]) E3 (fun a ha=>by rw[hs a _ (Nat.le_refl _)];simp[kI,List.getD_eq_getElem?_getD,List.getElem?_replicate,ha]);obtain⟨_,hb⟩:=nP (code:=code) (pl:=pl) (e:=false) (l:=l.eL) (dn:=l.dn) (a_:=l.a_);rw[sQ];unfold sR;rw[hcl];unfold fS;generalize nN code pl false l.eL (kI code.length l.dn l.a_)=w at*;simp only[kI,List.nil_append] at g1 g2;subst g1
  have WW:∀t∈w.rdy,t.pc+1<code.length:=fun t ht=>by
   obtain⟨i,hi,h1⟩:=hb t ht
   rcases eU (hsh _ _ hi) with h|⟨h,_⟩|⟨h,_⟩|⟨h,_⟩|⟨h,_⟩|⟨h,_⟩|⟨_,h⟩<;>omega
  have WY:=wH (code:=code) (r:=((g.1:Nat):Int)) w.rdy [] WW (fun t h=>by cases h);have Qt:(vq 0 gs).getD (k+1) 0=((pl+g.2:Nat):Int):=by rw[zV gs 0 k g Lz,fU];omega
  by_cases hd:w.dn=true
  ·rw[if_pos hd];obtain⟨r,s',h1,h2,h3,h4⟩:=vb hsh dB hg m (k+1) (pl+g.2) ⟨w.dn,w.a_,eQ code ((g.1:Nat):Int) w.rdy []⟩ s (by omega) Qt ⟨fun h=>absurd h (by omega),fun h=>absurd h (by omega)⟩ (fun a b hb=>hs a b (by omega)) WY;simp only[hd,if_true] at h1 h2 h3 h4⊢;obtain⟨s2,h5⟩:=oi gq yO w.rdy [] [] s s' r h1;rw[List.map_nil,List.nil_append,List.append_nil] at h5;obtain⟨q1,q2,q3⟩:=g4 _ _ h5
   cases hr:r with
   |some c=>
    subst hr;obtain⟨s3,h6⟩:=q1 c rfl;obtain⟨s4,h7⟩:=(cT h6 (if l.dn=true then[] else gZ start (k+1) gs.length)).1 c rfl;exact⟨_,s4,h7,by rw[h2];rfl,h3,fun h=>by cases h⟩
   |none=>
    subst hr
    cases hh:Mz code pl false l.eL (kI code.length l.dn l.a_) with
    |true=>
     obtain⟨s3,h6⟩:=q2 rfl hh;obtain⟨s4,h7⟩:=(cT h6 (if l.dn=true then[] else gZ start (k+1) gs.length)).1 _ rfl;exact⟨_,s4,h7,by rw[h2];rfl,fun c hc=>by cases hc;exact h4 rfl trivial,fun h=>by cases h⟩
    |false=>
     obtain⟨s3,h6,_⟩:=q3 rfl hh;obtain⟨e1,e2⟩:=g2 hh;rw[if_pos (e1.symm.trans hd),List.append_nil];exact⟨_,s3,h6,by rw[h2,←e1,hd],fun c hc=>(by cases hc),fun _ _=>(h4 rfl trivial).trans e2⟩
  ·rw[if_neg hd];rw[Bool.not_eq_true] at hd
   have hh:Mz code pl false l.eL (kI code.length l.dn l.a_)=false:=by
    cases h:Mz code pl false l.eL (kI code.length l.dn l.a_) with
    |false=>rfl
    |true=>rw[g3 h] at hd;cases hd
   obtain⟨e1,e2⟩:=g2 hh;have sN:l.dn=false:=e1.symm.trans hd
   obtain⟨r,s',h1,h2,h3,h4⟩:=vb hsh dB hg m (k+1) (pl+g.2) ⟨w.dn,w.a_,mJ (eQ code ((g.1:Nat):Int) w.rdy []) ⟨start,aP⟩⟩ s (by omega) Qt ⟨fun h=>absurd h (by omega),fun h=>absurd h (by omega)⟩ (fun a b hb=>hs a b (by omega)) (by
    unfold mJ
    split
    ·exact WY
    ·intro u hu
     rcases List.mem_append.1 hu with hu|hu
     ·exact WY u hu
     ·simp only[List.mem_cons,List.not_mem_nil,or_false] at hu;subst hu;exact dB)
   simp only[hd,sN,Bool.false_eq_true,if_false,Bool.or_false] at h1 h2 h3 h4⊢
   have h0:∃s3,mb (bV code gs (vq 0 gs)) s ((eQ code ((g.1:Nat):Int) w.rdy []).map (ch (k+1))++gZ start (k+1) gs.length) r s3:=by
    rw[oW (by omega)];unfold mJ at h1
    split at h1
    ·rename_i hp;obtain⟨u,hu,ko⟩:=List.any_eq_true.1 hp;rw[beq_iff_eq] at ko;exact zS (u:=⟨start,k+1,aP⟩) (List.mem_map_of_mem (f:=ch (k+1)) hu) ko rfl h1
    ·exact⟨s',by rw[List.map_append,List.append_assoc] at h1;exact h1⟩
   obtain⟨s3,h5⟩:=h0;obtain⟨s4,h6⟩:=oi gq yO w.rdy [] _ s s3 r h5;rw[List.map_nil,List.nil_append] at h6
   rcases lJ h6 _ _ rfl with⟨c,u1,rfl,hA⟩|⟨u1,hA,hB⟩
   ·obtain⟨q1,_,_⟩:=g4 _ _ hA;obtain⟨s5,h7⟩:=q1 c rfl;obtain⟨s6,h8⟩:=(cT h7 (gZ start (k+1) gs.length)).1 c rfl;exact⟨_,s6,h8,h2,h3,fun h=>by cases h⟩
   ·obtain⟨_,_,q3⟩:=g4 _ _ hA;obtain⟨s5,h7,h8,_⟩:=q3 rfl hh
    obtain⟨z,k1,_,_⟩:=kb (j8 code gs (vq 0 gs)) hB (fun t ht=>by
     unfold gZ at ht;obtain⟨j,hj,rfl⟩:=List.mem_map.1 ht;have:=List.mem_range'_1.1 hj
     show k<j;omega) s5 h8
    exact⟨r,z,(cT h7 _).2 rfl _ _ k1,h2,h3,fun _ h=>by cases h⟩
theorem tK {idx:Nat→Nat→Nat} {ok:Nat→Nat→Prop} {gr:gm→Cg} (hI:Rq idx ok) (hK:MA gr ok) {fuel start:Nat}:∀(m i:Nat) (arr:List Bool) (V:Sn),B8 idx ok arr V→(∀j,j<i+m→ok start j)→3*arr.length+1≤fuel→∃s',mb gr V ((List.range' i m).map fun j=>⟨start,j,aP⟩) (pf idx gr fuel start m i arr) s'
 |0,i,arr,V,_,_,_=>⟨V,.nil⟩
 |m+1,i,arr,V,hr,dB,hf=>by
  have Mt:=List.count_le_length (a:=false) (l:=arr)
  obtain⟨sP,i_,hrel⟩:=Eg hI hK fuel arr [⟨start,i,aP⟩] V (by simp only[List.length_cons,List.length_nil];omega) hr (fun t ht=>by
   simp only[List.mem_cons,List.not_mem_nil,or_false] at ht;subst ht
   exact dB i (by omega))
  unfold pf;rw[List.range'_succ,List.map_cons]
  cases hQ:(kC idx gr fuel arr [⟨start,i,aP⟩]).1 with
  |some c=>
   rw[hQ] at i_;exact(cT i_ _).1 c rfl
  |none=>
   rw[hQ] at i_;obtain⟨s',h⟩:=tK hI hK m (i+1) _ sP hrel (fun j hj=>dB j (by omega)) (by rw[np];exact hf);exact⟨s',(cT i_ _).2 rfl _ _ h⟩
theorem PX (b:List UInt8):(cM b).2≤4:=by
 match b with
 |[]=>exact Nat.le_of_ble_eq_true rfl
 |c::xs=>
  unfold cM
  split
  ·exact Nat.le_of_ble_eq_true rfl
  ·rename_i hz;simp only[cC] at hz⊢
   split at hz
   ·simp at hz
   ·rename_i hk;rw[if_neg hk];have:=qJ _ _ _ _ _ _ hz;rw[this.1];have:=o4 c.toNat;show(b4 c.toNat).1.toNat+1≤4;omega
theorem EK:∀(n:Nat) (b:List UInt8),b.length≤n→∀g∈ez b,1≤g.2∧g.2≤4:=by
 intro n
 induction n with
 |zero=>
  intro b hb g hg;have:b=[]:=List.length_eq_zero_iff.1 (by omega);subst this;rw[jZ] at hg;cases hg
 |succ n ih=>
  intro b hb g hg
  by_cases h:b=[]
  ·subst h;rw[jZ] at hg;cases hg
  ·rw[iG h] at hg
   rcases List.mem_cons.1 hg with rfl|hg
   ·exact⟨eo b,PX b⟩
   ·have hp:=eo b;exact ih (b.drop (cM b).2) (by rw[List.length_drop];have:=List.length_pos_iff.2 h;omega) g hg
def lj (s:Nat):PL:=⟨false,aP,[⟨s,aP⟩]⟩
theorem Cn {p:Pg} (hR:bB p) {r:Nat} {start:Int} (hs:p.az[r]?=some start) (b:List UInt8):
  (sR p.code start.toNat (ez b) 0 (lj start.toNat)).dn=(fw p (r:Nat) b).isSome∧∀c,fw p (r:Nat) b=some c→(sR p.code start.toNat (ez b) 0 (lj start.toNat)).a_=c:=by
 have dB:=hR.st start (List.mem_of_getElem? hs);have hlt:=bj hs;have hg:=EK _ b (Nat.le_refl _);unfold fw;rw[if_pos ⟨nr hR,by omega,by omega⟩]
 have yO:(p.az.getD ((r:Nat):Int).toNat 0).toNat=start.toNat:=by
  rw[Int.toNat_natCast,List.getD_eq_getElem?_getD,hs];rfl
 rw[yO];generalize ez b=gs at*
 obtain⟨s',h1⟩:=tK (idx:=ln p.code.length) (ok:=fun a b=>a<p.code.length∧b≤gs.length) (gr:=bV p.code gs (vq 0 gs)) (fuel:=3*((gs.length+1)*p.code.length)+1) (start:=start.toNat) (by
   rintro a b a' b' ⟨q1,q2⟩ ⟨q3,q4⟩ he;obtain⟨r1,r2⟩:=K4 q1 q3 he
   exact⟨r2,r1⟩) (fun t l ht hl=>⟨vI _ _ _ _ _ hl,fun u hu=>zH (p:=p) hR ht l hl u hu⟩) (gs.length+1) 0 (List.replicate ((gs.length+1)*p.code.length) false) (fun _ _=>false) (by
   rintro a b ⟨q1,q2⟩;unfold ln
   rw[List.getElem?_replicate,if_pos (mul_lt (by omega) q1)]) (fun j hj=>⟨by omega,by omega⟩) (by rw[List.length_replicate];exact Nat.le_refl _)
 obtain⟨r2,s2,g1,g2,g3,_⟩:=vb (ns:=p.az.length) (gs:=gs) (start:=start.toNat) hR.sh (by omega) hg gs.length 0 0 (lj start.toNat) (fun _ _=>false) (by omega) (by cases gs<;>rfl) ⟨fun _=>rfl,fun _=>rfl⟩ (fun _ _ _=>rfl) (fun t ht=>by
  simp only[lj,List.mem_cons,List.not_mem_nil,or_false] at ht;subst ht
  show start.toNat<p.code.length;omega)
 have Wb:(lj start.toNat).eL.map (ch 0)++(if(lj start.toNat).dn=true then[] else gZ start.toNat (0+1) gs.length)=(List.range' 0 (gs.length+1)).map fun j=>(⟨start.toNat,j,aP⟩:gm):=by
  simp only[lj,Bool.false_eq_true,if_false,List.map_cons,List.map_nil,List.singleton_append];exact(oW (k:=0) (Nat.zero_le _)).symm
 rw[Wb] at g1;obtain⟨he,_⟩:=h1.one g1;rw[List.drop_zero] at g2 g3;rw[he];exact⟨by rw[g2];simp[lj],g3⟩
end Go.Proofs.YtbdnabmmlbiomaaGreat
namespace Go.Proofs.YtbdnabmmlbiomaaGreat
open Go.V Go
theorem vX (code:List aJ) (ss:List Nat):∀(gs:List (Nat×Nat)) (pl:Nat) (ls:List PL) (r s:Nat) (l:PL),ss[r]?=some s→ls[r]?=some l→∃l',(dA code ss gs pl ls).2[r]?=some l'∧sR code s gs pl l=kB code (dA code ss gs pl ls).1 l'
 |[],pl,ls,r,s,l,_,h2=>⟨l,h2,rfl⟩
 |g::gs,pl,ls,r,s,l,h1,h2=>by
  simp only[dA,sR];exact vX code ss gs _ _ r s _ h1 (mo code pl _ ss ls r s l h1 h2)
theorem tb (code:List aJ) (ss:List Nat) (ls:List PL) (b:List UInt8):∃T,dA code ss T 0 ls=((cj code ss b ([],0,ls)).2.1,(cj code ss b ([],0,ls)).2.2)∧(∀rest,ez (b++rest)=T++ez ((cj code ss b ([],0,ls)).1++rest))∧(T.map (·.2)).sum+(cj code ss b ([],0,ls)).1.length=b.length∧(cP (cj code ss b ([],0,ls)).1=true∨(cj code ss b ([],0,ls)).1=[]):=by
 have key:∀n,∃T,dA code ss T 0 ls=((cj code ss (b.take n) ([],0,ls)).2.1,(cj code ss (b.take n) ([],0,ls)).2.2)∧(∀rest,ez (b.take n++rest)=T++ez ((cj code ss (b.take n) ([],0,ls)).1++rest))∧(T.map (·.2)).sum+(cj code ss (b.take n) ([],0,ls)).1.length=(b.take n).length∧(cP (cj code ss (b.take n) ([],0,ls)).1=true∨(cj code ss (b.take n) ([],0,ls)).1=[]):=by
  intro n
  induction n with
  |zero=>exact⟨[],rfl,fun rest=>rfl,rfl,.inr rfl⟩
  |succ n ih=>
   obtain⟨T,h1,h2,h3,h4⟩:=ih
   by_cases hlt:n<b.length
   ·have Cb:b.take (n+1)=b.take n++[b[n]]:=by rw[List.take_add_one,List.getElem?_eq_getElem hlt];rfl
    rw[Cb,qH];generalize cj code ss (b.take n) ([],0,ls)=X at*;refine⟨T++(dO X.1 b[n]).1,?_,fun rest=>?_,?_,vT ..⟩
    ·rw[qM,h1];rfl
    ·rw[List.append_assoc,h2,List.append_assoc,←List.append_assoc X.1];unfold dO me dO;rw[vG (X.1.length+1) (X.1++[b[n]]) rest (by simp)]
    ·have:=(vF (X.1.length+1) (X.1++[b[n]]) (by simp)).1;unfold me dO;simp only[List.map_append,List.sum_append,List.length_append,List.length_cons,List.length_nil] at this⊢;omega
   ·rw[show b.take (n+1)=b.take n by rw[List.take_of_length_le (by omega),List.take_of_length_le (by omega)]];exact⟨T,h1,h2,h3,h4⟩
 have:=key b.length
 rwa [List.take_length] at this
theorem EF {h:List UInt8} (hb:cP h=true∨h=[]):ez h=gU h.length:=by
 rcases hb with hb|rfl
 ·exact B5 hb
 ·exact jZ
theorem vW (code:List aJ) (ss:List Nat):∀(gs:List (Nat×Nat)) (pl:Nat) (ls:List PL),(∀g∈gs,1≤g.2∧g.2≤4)→(dA code ss gs pl ls).1=pl+(gs.map (·.2)).sum
 |[],_,_,_=>rfl
 |g::gs,pl,ls,h=>by
  have hg:=h g (List.mem_cons_self ..);have hc:gi ((g.2:Nat):Int)=g.2:=by unfold gi;omega
  simp only[dA,List.map_cons,List.sum_cons];rw[vW code ss gs _ _ fun x hx=>h x (List.mem_cons_of_mem _ hx),hc];omega
theorem x0 {p:Pg} (hR:bB p) (b:List UInt8) {h:List UInt8} {pl:Nat} {ls:List PL} (hX:cj p.code (aF p) b ([],0,(aF p).map fT)=(h,pl,ls)):
  pl+h.length=b.length∧∀(r:Nat) (x:PL),((dA p.code (aF p) (gU h.length) pl ls).2.map (kB p.code (dA p.code (aF p) (gU h.length) pl ls).1))[r]?=some x→x.dn=(fw p (r:Nat) b).isSome∧∀f,fw p (r:Nat) b=some f→x.a_=f:=by
 obtain⟨T,h1,h2,h3,h4⟩:=tb p.code (aF p) ((aF p).map fT) b;rw[hX] at h1 h2 h3 h4;simp only at h1 h2 h3 h4
 have lu:ez b=T++gU h.length:=by
  have:=h2 [];rw[List.append_nil,List.append_nil,EF h4] at this;exact this
 have hT:∀g∈T,1≤g.2∧g.2≤4:=fun g hg=>EK _ b (Nat.le_refl _) g (by rw[lu];exact List.mem_append_left _ hg);have fU:=vW p.code (aF p) T 0 ((aF p).map fT) hT;rw[h1] at fU;simp only at fU;refine⟨by omega,fun r x hx=>?_⟩;have i_:dA p.code (aF p) (gU h.length) pl ls=dA p.code (aF p) (ez b) 0 ((aF p).map fT):=by rw[lu,qM,h1]
 rw[i_] at hx;obtain⟨y,hy,rfl⟩:=List.getElem?_map▸hx|>Option.map_eq_some_iff.1
 have pt:r<p.az.length:=by
  have:=bj hy;rw[(mR hR (ez b) 0 ((aF p).map fT) (by unfold aF;simp) (th hR)).1] at this;exact this
 obtain⟨s,pP⟩:∃s,p.az[r]?=some s:=⟨p.az[r]'pt,List.getElem?_eq_getElem _⟩
 have DF:(aF p)[r]?=some s.toNat:=by unfold aF;rw[List.getElem?_map,pP];rfl
 obtain⟨l',g1,g2⟩:=vX p.code (aF p) (ez b) 0 ((aF p).map fT) r s.toNat (fT s.toNat) DF (by rw[List.getElem?_map,DF];rfl);rw[hy] at g1;cases g1;rw[←g2];exact Cn hR pP b
end Go.Proofs.YtbdnabmmlbiomaaGreat
