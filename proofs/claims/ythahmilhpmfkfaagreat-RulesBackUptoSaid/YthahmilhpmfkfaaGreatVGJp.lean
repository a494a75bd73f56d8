/-
 What the search comes to: it is closed, and nothing can be left out.
-/
import Derived.Test.YthahmilhpmfkfaaGreatVGRf
set_option maxRecDepth 100000
set_option linter.unusedSimpArgs false
set_option linter.unusedVariables false
namespace Go.Proofs.YthahmilhpmfkfaaGreat
open Go.V Go
def jP (seen:List Bool) (v:Int):Prop:=0≤v∧seen[v.toNat]?=some true
structure Bm (code:List aK) (start:Int) (seen:List Bool) (qw:List Int):Prop where
 a:∀u i,seen[u]?=some true→code[u]?=some i→∀w∈dC u i,jP seen w∨w∈qw
 b:∀v∈qw,v=start∨∃u i,seen[u]?=some true∧code[u]?=some i∧v∈dC u i
 c:∀v,jP seen v→v=start∨∃u i,seen[u]?=some true∧code[u]?=some i∧v∈dC u i∧v≠(u:Int)
 d:jP seen start∨start∈qw
theorem fp {seen:List Bool} {k:Nat} (hk:k<seen.length) {v:Int}:jP (seen.set k true) v↔v=(k:Int)∨jP seen v:=by
 unfold jP;constructor
 ·rintro⟨h0,h⟩
  by_cases hv:v.toNat=k
  ·left;omega
  ·rw[List.getElem?_set_ne (fun e=>hv e.symm)] at h;exact .inr ⟨h0,h⟩
 ·rintro(rfl|⟨h0,h⟩)
  ·exact⟨by omega,by rw[Int.toNat_natCast,List.getElem?_set_self hk]⟩
  ·refine⟨h0,?_⟩
   by_cases hv:v.toNat=k
   ·rw[hv,List.getElem?_set_self hk]
   ·rw[List.getElem?_set_ne (fun e=>hv e.symm)];exact h
theorem dI {seen:List Bool} {u:Nat}:seen[u]?=some true↔jP seen (u:Int):=by
 unfold jP;rw[Int.toNat_natCast];exact⟨fun h=>⟨by omega,h⟩,fun h=>h.2⟩
theorem A4 {code:List aK} {start:Int} (hcl:kM code):∀(f:Nat) (seen:List Bool) (qw:List Int),seen.length=code.length→(∀v∈qw,0≤v∧v<(code.length:Int))→3*seen.count false+qw.length≤f→Bm code start seen qw→Bm code start (LQ code f seen qw) []
 |0,seen,qw,_,_,hm,hi=>by
  have:qw=[]:=by cases qw with|nil=>rfl|cons _ _=>simp at hm
  subst this;exact hi
 |f+1,seen,[],_,_,_,hi=>hi
 |f+1,seen,v::qw,hl,hs,hm,hi=>by
  have hv:=hs v (List.mem_cons_self ..);have J4:∀w∈qw,0≤w∧w<(code.length:Int):=fun w hw=>hs w (List.mem_cons_of_mem _ hw);obtain⟨k,rfl⟩:=Int.eq_ofNat_of_zero_le hv.1;have hk:k<code.length:=by omega
  obtain⟨i,hci⟩:∃i,code[k]?=some i:=⟨code[k]'hk,List.getElem?_eq_getElem _⟩
  obtain⟨b,hb⟩:∃b,seen[k]?=some b:=⟨seen[k]'(by omega),List.getElem?_eq_getElem _⟩
  simp only[List.length_cons] at hm;have hp:∀w,w∈((k:Int)::qw)→w=(k:Int)∨w∈qw:=fun w hw=>List.mem_cons.1 hw;unfold LQ;simp only[Int.toNat_natCast,hb,hci]
  cases b with
  |true=>
   have mM:jP seen (k:Int):=dI.1 hb;refine A4 hcl f seen qw hl J4 (by omega) ⟨fun u j hu hj w hw=>?_,fun w hw=>hi.b w (List.mem_cons_of_mem _ hw),hi.c,?_⟩
   ·rcases hi.a u j hu hj w hw with h|h
    ·exact .inl h
    ·rcases hp w h with rfl|h
     ·exact .inl mM
     ·exact .inr h
   ·rcases hi.d with h|h
    ·exact .inl h
    ·rcases hp start h with h|h
     ·exact .inl (h▸mM)
     ·exact .inr h
  |false=>
   have RL:=count_set hb;have gT:k<seen.length:=by omega
   have Lg:=FL k i;refine A4 hcl f _ _ (by rw[List.length_set];exact hl) (fun w hw=>?_) (by simp only[List.length_append,List.length_reverse];omega) ⟨fun u j hu hj w hw=>?_,fun w hw=>?_,fun w hw=>?_,?_⟩
   ·rcases List.mem_append.1 hw with hw|hw
    ·exact hcl k i hci w (List.mem_reverse.1 hw)
    ·exact J4 w hw
   ·rcases(fp gT).1 (dI.1 hu) with h|h
    ·have:u=k:=by omega
     subst this;rw[hci] at hj;cases hj;exact .inr (List.mem_append.2 (.inl (List.mem_reverse.2 hw)))
    ·rcases hi.a u j (dI.2 h) hj w hw with h|h
     ·exact .inl ((fp gT).2 (.inr h))
     ·rcases hp w h with h|h
      ·exact .inl ((fp gT).2 (.inl h))
      ·exact .inr (List.mem_append.2 (.inr h))
   ·rcases List.mem_append.1 hw with hw|hw
    ·exact .inr ⟨k,i,dI.2 ((fp gT).2 (.inl rfl)),hci,List.mem_reverse.1 hw⟩
    ·rcases hi.b w (List.mem_cons_of_mem _ hw) with h|⟨u,j,h1,h2,h3⟩
     ·exact .inl h
     ·exact .inr ⟨u,j,dI.2 ((fp gT).2 (.inr (dI.1 h1))),h2,h3⟩
   ·rcases(fp gT).1 hw with rfl|h
    ·rcases hi.b (k:Int) (List.mem_cons_self ..) with h|⟨u,j,h1,h2,h3⟩
     ·exact .inl h
     ·refine .inr ⟨u,j,dI.2 ((fp gT).2 (.inr (dI.1 h1))),h2,h3,fun e=>?_⟩;have:k=u:=by omega
      subst this;rw[hb] at h1;cases h1
    ·rcases hi.c w h with h|⟨u,j,h1,h2,h3,h4⟩
     ·exact .inl h
     ·exact .inr ⟨u,j,dI.2 ((fp gT).2 (.inr (dI.1 h1))),h2,h3,h4⟩
   ·rcases hi.d with h|h
    ·exact .inl ((fp gT).2 (.inr h))
    ·rcases hp start h with h|h
     ·exact .inl ((fp gT).2 (.inl h))
     ·exact .inr (List.mem_append.2 (.inr h))
theorem xZ {code:List aK} {start:Int} (hcl:kM code) (hst:0≤start∧start<(code.length:Int)):Bm code start (gI code start) []:=by
 have pb:∀v,¬jP (List.replicate code.length false) v:=by
  rintro v ⟨h0,h⟩;rw[List.getElem?_replicate] at h
  split at h<;>cases h
 refine A4 hcl _ _ _ (by simp) (fun v hv=>?_) (by simp) ⟨fun u i hu=>absurd (dI.1 hu) (pb _),fun v hv=>?_,fun v hv=>absurd hv (pb v),.inr (by simp)⟩
 ·simp only[List.mem_cons,List.not_mem_nil,or_false] at hv;subst hv;exact hst
 ·simp only[List.mem_cons,List.not_mem_nil,or_false] at hv;exact .inl hv
theorem j6:∀{L:List Bool} {s:Nat} {v:Int},v∈sq s L↔∃k:Nat,L[k]?=some true∧v=((s+k:Nat):Int)
 |[],s,v=>⟨fun h=>(by cases h),fun⟨k,h,_⟩=>by simp at h⟩
 |b::l,s,v=>by
  simp only[sq,List.mem_append];constructor
  ·rintro(h|h)
   ·split at h
    ·rename_i hb;simp only[List.mem_cons,List.not_mem_nil,or_false] at h;exact⟨0,by simp[hb],by rw[h];simp⟩
    ·cases h
   ·obtain⟨k,h1,h2⟩:=j6.1 h;exact⟨k+1,by simpa using h1,by rw[h2];congr 1;omega⟩
  ·rintro⟨k,h1,h2⟩
   cases k with
   |zero=>simp at h1;subst h1;left;simp[h2]
   |succ k=>exact .inr (j6.2 ⟨k,by simpa using h1,by rw[h2];congr 1;omega⟩)
theorem uF : ∀ (L : List Bool) (s : Nat), (sq s L).Pairwise (· < ·)
 | [], s => .nil
 | b :: l, s => by
  simp only [sq];have ih := uF l (s + 1)
  split
  ·rw [List.singleton_append, List.pairwise_cons];refine ⟨fun v hv => ?_, ih⟩;obtain ⟨k, _, rfl⟩ := j6.1 hv;omega
  ·exact ih
def dr (lo hi:Nat) (i:aK):Prop:=
 (i.op=1∧i.x=0∧i.y=0∧gH i.rs=true)∨(i.op=2∧i.rs=[]∧((lo:Int)≤i.x∧i.x≤hi)∧(lo:Int)≤i.y∧i.y≤hi)∨(i.op=3∧i.rs=[]∧i.y=0∧(lo:Int)≤i.x∧i.x≤hi)∨(i.op=4∧i.rs=[]∧i.y=0∧0≤i.x∧i.x<10)∨((i.op=5∨i.op=6)∧i.rs=[]∧i.y=0∧i.x=0)
theorem dr.mono {lo hi uQ iw:Nat} {i:aK} (h:dr lo hi i) (h1:uQ≤lo) (h2:hi≤iw):dr uQ iw i:=by
 rcases h with h|⟨a,b,c,d⟩|⟨a,b,c,d⟩|h|h
 ·exact .inl h
 ·exact .inr (.inl ⟨a,b,by omega,by omega⟩)
 ·exact .inr (.inr (.inl ⟨a,b,c,by omega⟩))
 ·exact .inr (.inr (.inr (.inl h)))
 ·exact .inr (.inr (.inr (.inr h)))
theorem dr.sp {lo hi s o:Nat} {lz:Bool} (h1:lo≤s+1∧s+1≤hi) (h2:lo≤o∧o≤hi):dr lo hi (lX s o lz):=by
 refine .inr (.inl ?_);cases lz
 ·refine⟨rfl,rfl,?_⟩;show((lo:Int)≤((s+1:Nat):Int)∧((s+1:Nat):Int)≤hi)∧(lo:Int)≤(o:Int)∧(o:Int)≤hi;omega
 ·refine⟨rfl,rfl,?_⟩;show((lo:Int)≤(o:Int)∧(o:Int)≤hi)∧(lo:Int)≤((s+1:Nat):Int)∧((s+1:Nat):Int)≤hi;omega
theorem dr.jp {lo hi e:Nat} (h1:lo≤e∧e≤hi):dr lo hi (j9 e):=by
 refine .inr (.inr (.inl ⟨rfl,rfl,rfl,?_⟩));show(lo:Int)≤(e:Int)∧(e:Int)≤hi;omega
theorem dr.save {lo hi:Nat} {x:Int} (h:0≤x∧x<10):dr lo hi (cH 4 x 0 []):=.inr (.inr (.inr (.inl ⟨rfl,rfl,rfl,h⟩)))
theorem oN {c:Nat→List aK} {z:Nat} (hc:∀b,∀i∈c b,dr b (b+z) i):∀k b,∀i∈eZ c z k b,dr b (b+k*z) i
 |0,b,i,hi=>by cases hi
 |k+1,b,i,hi=>by
  simp only[eZ] at hi;rw[Nat.succ_mul]
  rcases List.mem_append.1 hi with hi|hi
  ·exact(hc b i hi).mono (Nat.le_refl _) (by omega)
  ·exact(oN hc k _ i hi).mono (by omega) (by omega)
theorem uD {sp:Nat→aK} {c:Nat→List aK} {z lo hi:Nat} (hs:∀s,lo≤s→s+1≤hi→dr lo hi (sp s)) (hc:∀b,∀i∈c b,dr b (b+z) i):∀k b,lo≤b→b+k*(z+1)≤hi→∀i∈e_ sp c z k b,dr lo hi i
 |0,b,_,_,i,iw=>by cases iw
 |k+1,b,h1,h2,i,iw=>by
  simp only[e_] at iw;rw[Nat.succ_mul] at h2
  rcases List.mem_cons.1 iw with rfl|iw
  ·exact hs b h1 (by omega)
  ·rcases List.mem_append.1 iw with iw|iw
   ·exact(hc _ i iw).mono (by omega) (by omega)
   ·exact uD hs hc k _ (by omega) (by omega) i iw
def HA (l:List bp):Prop:=∀n∈l,n.op=2→gH n.rs=true
mutual
theorem kL:∀(t:Tr) (b:Nat),t.ok→HA t.flat→∀i∈aM t b,dr b (b+t.sz) i
 | .mk n ks,b,cn,nb,i,hi=>by
  simp only[Tr.ok] at cn;simp only[Tr.flat] at nb;have hc:=fun b=>vz ks b cn.2 (fun n hn=>nb n (List.mem_cons_of_mem _ hn));obtain⟨_,hq⟩:=cn.1;simp only[aM] at hi;simp only[Tr.sz]
  by_cases q2:n.op=2
  ·rw[if_pos q2] at hi;simp only[List.mem_cons,List.not_mem_nil,or_false] at hi;subst hi;exact .inl ⟨rfl,rfl,rfl,nb n (List.mem_cons_self ..) q2⟩
  rw[if_neg q2] at hi
  by_cases q7:n.op=7
  ·rw[if_pos q7] at hi;simp only[List.mem_cons,List.not_mem_nil,or_false] at hi;subst hi;exact .inr (.inr (.inr (.inr ⟨.inl rfl,rfl,rfl,rfl⟩)))
  rw[if_neg q7] at hi
  by_cases q8:n.op=8
  ·rw[if_pos q8] at hi;simp only[List.mem_cons,List.not_mem_nil,or_false] at hi;subst hi;exact .inr (.inr (.inr (.inr ⟨.inr rfl,rfl,rfl,rfl⟩)))
  rw[if_neg q8] at hi
  have hz:∀s k,br n s k=if n.op=4 then s+2*(k-1) else if n.op=6 then s+2 else if n.op=5 then(if n.mx=-1 then n.mn.toNat*s+s+2 else n.mn.toNat*s+(n.mx.toNat-n.mn.toNat)*(s+1)) else s:=by
   intro s k;unfold br;rw[if_neg (by omega)]
  by_cases q3:n.op=3
  ·rw[if_pos q3] at hi;rw[hz,if_neg (by omega),if_neg (by omega),if_neg (by omega)];exact hc b i hi
  rw[if_neg q3] at hi
  by_cases q4:n.op=4
  ·rw[if_pos q4] at hi;have Nd:br n ks.sz ks.len=ks.sz+2*(ks.len-1):=by rw[hz,if_pos q4]
   rw[Nd] at hi⊢;exact vD ks b (b+(ks.sz+2*(ks.len-1))) cn.2 (fun n hn=>nb n (List.mem_cons_of_mem _ hn)) (Nat.le_refl _) i hi
  rw[if_neg q4] at hi
  by_cases q5:n.op=5
  ·rw[if_pos q5] at hi;rw[hz,if_neg q4,if_neg (by omega),if_pos q5];unfold mS at hi
   by_cases qx:n.mx=-1
   ·rw[if_pos qx] at hi⊢
    rcases List.mem_append.1 hi with hi|hi
    ·exact(oN hc _ _ i hi).mono (Nat.le_refl _) (by omega)
    ·rcases List.mem_cons.1 hi with rfl|hi
     ·exact dr.sp (by omega) (by omega)
     ·rcases List.mem_append.1 hi with hi|hi
      ·exact(hc _ i hi).mono (by omega) (by omega)
      ·simp only[List.mem_cons,List.not_mem_nil,or_false] at hi;subst hi;exact dr.jp (by omega)
   ·rw[if_neg qx] at hi⊢
    rcases List.mem_append.1 hi with hi|hi
    ·exact(oN hc _ _ i hi).mono (Nat.le_refl _) (by omega)
    ·exact uD (fun s h1 h2=>dr.sp (by omega) (by omega)) hc _ _ (by omega) (by omega) i hi
  rw[if_neg q5] at hi
  by_cases q6:n.op=6
  ·rw[if_pos q6] at hi;rw[hz,if_neg q4,if_pos q6]
   rcases List.mem_cons.1 hi with rfl|hi
   ·exact dr.save (by omega)
   ·rcases List.mem_append.1 hi with hi|hi
    ·exact(hc _ i hi).mono (by omega) (by omega)
    ·simp only[List.mem_cons,List.not_mem_nil,or_false] at hi;subst hi;exact dr.save (by omega)
  ·rw[if_neg q6] at hi;cases hi
theorem vz:∀(ts:aE) (b:Nat),ts.ok→HA ts.flat→∀i∈eo ts b,dr b (b+ts.sz) i
 | .nil,b,_,_,i,hi=>by simp[eo] at hi
 | .cons t ts,b,cn,nb,i,hi=>by
  simp only[aE.ok] at cn;simp only[aE.flat] at nb;simp only[eo] at hi;simp only[aE.sz]
  rcases List.mem_append.1 hi with hi|hi
  ·exact(kL t b cn.1 (fun n hn=>nb n (List.mem_append_left _ hn)) i hi).mono (Nat.le_refl _) (by omega)
  ·exact(vz ts _ cn.2 (fun n hn=>nb n (List.mem_append_right _ hn)) i hi).mono (by omega) (by omega)
theorem vD:∀(ts:aE) (b e:Nat),ts.ok→HA ts.flat→b+(ts.sz+2*(ts.len-1))≤e→∀i∈di (j9 e) ts b,dr b e i
 | .nil,b,e,_,_,_,i,hi=>by simp[di] at hi
 | .cons t ts,b,e,cn,nb,he,i,hi=>by
  simp only[aE.ok] at cn;simp only[aE.flat] at nb;simp only[di] at hi;simp only[aE.sz,aE.len] at he;have h1:HA t.flat:=fun n hn=>nb n (List.mem_append_left _ hn);have h2:HA ts.flat:=fun n hn=>nb n (List.mem_append_right _ hn)
  by_cases q:ts.len=0
  ·rw[if_pos q] at hi;exact(kL t b cn.1 h1 i hi).mono (Nat.le_refl _) (by omega)
  ·rw[if_neg q] at hi
   rcases List.mem_cons.1 hi with rfl|hi
   ·exact dr.sp (by omega) (by omega)
   ·rcases List.mem_append.1 hi with hi|hi
    ·exact(kL t _ cn.1 h1 i hi).mono (by omega) (by omega)
    ·rcases List.mem_cons.1 hi with rfl|hi
     ·exact dr.jp (by omega)
     ·exact(vD ts _ e cn.2 h2 (by omega) i hi).mono (by omega) (by omega)
end
inductive Path (C:List aK):Nat→Nat→Prop where
 |refl (u:Nat):Path C u u
 |step {u v w:Nat} {i:aK} (h:C[u]?=some i) (hn:(v:Int)∈dC u i) (p:Path C v w):Path C u w
theorem Path.trans {C:List aK} {u v w:Nat} (h:Path C u v) (g:Path C v w):Path C u w:=by
 induction h with
 |refl=>exact g
 |step h hn _ ih=>exact .step h hn (ih g)
theorem Path.A0 {C:List aK} {u:Nat} {i:aK} (h:C[u]?=some i) (ho:i.op≠2∧i.op≠3∧i.op≠7):Path C u (u+1):=
 .step h (by unfold dC;rw[if_neg ho.1,if_neg ho.2.1,if_neg ho.2.2];exact List.mem_cons_self ..) (.refl _)
theorem Path.jp {C:List aK} {u e:Nat} (h:C[u]?=some (j9 e)):Path C u e:=
 .step h (by show(e:Int)∈dC u (cH 3 (e:Nat) 0 []);unfold dC;rw[if_neg (show¬(cH 3 (e:Nat) 0 []).op=2 by show¬(3:Int)=2;decide),if_pos (show(cH 3 (e:Nat) 0 []).op=3 from rfl)];exact List.mem_cons_self ..) (.refl _)
theorem Path.sp {C:List aK} {u s o:Nat} {lz:Bool} (h:C[u]?=some (lX s o lz)):Path C u (s+1)∧Path C u o:=by
 have hn:dC u (lX s o lz)=[(lX s o lz).x,(lX s o lz).y]:=by
  unfold dC;rw[if_pos (by cases lz<;>rfl)]
 cases lz
 ·exact⟨.step h (by rw[hn];exact List.mem_cons_self ..) (.refl _),.step h (by rw[hn];exact List.mem_cons_of_mem _ (List.mem_cons_self ..)) (.refl _)⟩
 ·exact⟨.step h (by rw[hn];exact List.mem_cons_of_mem _ (List.mem_cons_self ..)) (.refl _),.step h (by rw[hn];exact List.mem_cons_self ..) (.refl _)⟩
theorem oM {C:List aK} {c:Nat→List aK} {z:Nat} (hl:∀b,(c b).length=z) (hc:∀b,gb C b (c b)→Path C b (b+z)):∀k b,gb C b (eZ c z k b)→Path C b (b+k*z)
 |0,b,_=>by rw[Nat.zero_mul];exact .refl _
 |k+1,b,h=>by
  rw[eZ] at h;have h2:=h.right;rw[hl] at h2;have:=oM hl hc k (b+z) h2;rw[Nat.succ_mul,show b+(k*z+z)=b+z+k*z by omega];exact(hc b h.left).trans this
theorem Ea {C : List aK} : ∀ (m : Nat) (t : Tr), t.flat.length ≤ m → ∀ b : Nat, t.ok → gb C b (aM t b) → Path C b (b + t.sz) := by
  intro m
  induction m with
  | zero => intro t h; have := t.jf; omega
  | succ m ih =>
    rintro ⟨n, ks⟩ hm b cn h
    simp only [Tr.flat, List.length_cons] at hm
    simp only [Tr.ok] at cn
    have hcat : ∀ (ts : aE) (b : Nat), ts.flat.length ≤ m → ts.ok → gb C b (eo ts b) → Path C b (b + ts.sz) := by
      intro ts
      induction ts using aE.rec (motive_1 := fun _ => True) with
      | mk => trivial
      | nil => intro b _ _ _; exact .refl _
      | cons t ts _ Cc =>
        intro b h1 h2 h3
        simp only [aE.flat, List.length_append] at h1
        simp only [aE.ok] at h2
        simp only [eo] at h3
        have h4 := h3.right
        rw [bw t b h2.1] at h4
        have h5 := Cc (b + t.sz) (by omega) h2.2 h4
        simp only [aE.sz]
        rw [← Nat.add_assoc]
        exact (ih t (by omega) b h2.1 h3.left).trans h5
    obtain ⟨pb, mM⟩ := cn
    obtain ⟨_, hq⟩ := pb
    have gT := fun b => lP ks b mM
    simp only [aM] at h
    simp only [Tr.sz]
    have hz : ∀ s k, br n s k = if n.op = 2 ∨ n.op = 7 ∨ n.op = 8 then 1 else if n.op = 4 then s + 2 * (k - 1) else if n.op = 6 then s + 2 else if n.op = 5 then (if n.mx = -1 then n.mn.toNat * s + s + 2 else n.mn.toNat * s + (n.mx.toNat - n.mn.toNat) * (s + 1)) else s := fun s k => rfl
    rw [hz]
    by_cases q2 : n.op = 2
    · rw [if_pos q2] at h
      rw [if_pos (.inl q2)]
      exact Path.A0 h.head (by show (1 : Int) ≠ 2 ∧ (1 : Int) ≠ 3 ∧ (1 : Int) ≠ 7; decide)
    rw [if_neg q2] at h
    by_cases q7 : n.op = 7
    · rw [if_pos q7] at h
      rw [if_pos (.inr (.inl q7))]
      exact Path.A0 h.head (by show (5 : Int) ≠ 2 ∧ (5 : Int) ≠ 3 ∧ (5 : Int) ≠ 7; decide)
    rw [if_neg q7] at h
    by_cases q8 : n.op = 8
    · rw [if_pos q8] at h
      rw [if_pos (.inr (.inr q8))]
      exact Path.A0 h.head (by show (6 : Int) ≠ 2 ∧ (6 : Int) ≠ 3 ∧ (6 : Int) ≠ 7; decide)
    rw [if_neg q8] at h
    rw [if_neg (by omega)]
    by_cases q3 : n.op = 3
    · rw [if_pos q3] at h
      rw [if_neg (by omega), if_neg (by omega), if_neg (by omega)]
      exact hcat ks b (by omega) mM h
    rw [if_neg q3] at h
    by_cases q4 : n.op = 4
    · rw [if_pos q4] at h
      have Nd : br n ks.sz ks.len = ks.sz + 2 * (ks.len - 1) := by rw [hz, if_neg (by omega), if_pos q4]
      rw [Nd] at h
      rw [if_pos q4]
      cases ks with
      | nil => simp only [aE.len] at hq; omega
      | cons t ts =>
        simp only [aE.len] at hq
        simp only [aE.flat, List.length_append] at hm
        simp only [aE.ok] at mM
        simp only [di] at h
        rw [if_neg (by omega)] at h
        have h1 := (Path.sp h.head).1
        have h2 := ih t (by omega) (b + 1) mM.1 h.tail.left
        have h3 := h.tail.right
        rw [bw t _ mM.1] at h3
        exact h1.trans (h2.trans (Path.jp h3.head))
    rw [if_neg q4] at h
    rw [if_neg q4]
    by_cases q5 : n.op = 5
    · rw [if_pos q5] at h
      rw [if_neg (by omega), if_pos q5]
      unfold mS at h
      by_cases qx : n.mx = -1
      · rw [if_pos qx] at h ⊢
        have h1 := oM gT (fun b hb => hcat ks b (by omega) mM hb) _ _ h.left
        have h2 := h.right
        rw [iU gT] at h2
        have h3 := (Path.sp h2.head).2
        rw [show b + (n.mn.toNat * ks.sz + ks.sz + 2) = b + n.mn.toNat * ks.sz + ks.sz + 2 by omega]
        exact h1.trans h3
      · rw [if_neg qx] at h ⊢
        have h1 := oM gT (fun b hb => hcat ks b (by omega) mM hb) _ _ h.left
        have h2 := h.right
        rw [iU gT] at h2
        by_cases hd : n.mx.toNat - n.mn.toNat = 0
        · rw [hd, Nat.zero_mul, Nat.add_zero]; exact h1
        · obtain ⟨d, qN⟩ : ∃ d, n.mx.toNat - n.mn.toNat = d + 1 := ⟨n.mx.toNat - n.mn.toNat - 1, by omega⟩
          rw [qN] at h2 ⊢
          rw [e_] at h2
          have h3 := (Path.sp h2.head).2
          rw [← Nat.add_assoc]
          exact h1.trans h3
    rw [if_neg q5] at h
    by_cases q6 : n.op = 6
    · rw [if_pos q6] at h
      rw [if_pos q6]
      have h1 : Path C b (b + 1) := Path.A0 h.head (by show (4 : Int) ≠ 2 ∧ (4 : Int) ≠ 3 ∧ (4 : Int) ≠ 7; decide)
      have h2 := hcat ks (b + 1) (by omega) mM h.tail.left
      have h3 := h.tail.right
      rw [gT] at h3
      have h4 : Path C (b + 1 + ks.sz) (b + 1 + ks.sz + 1) := Path.A0 h3.head (by show (4 : Int) ≠ 2 ∧ (4 : Int) ≠ 3 ∧ (4 : Int) ≠ 7; decide)
      rw [show b + (ks.sz + 2) = b + 1 + ks.sz + 1 by omega]
      exact h1.trans (h2.trans h4)
    · have tT : ks.len = 0 := by omega
      have := aE.len_nil tT
      subst this
      rw [if_neg q6, if_neg q5]
      exact .refl _
theorem A5 {code:List aK} {I:Nat→Prop} (hI:∀u i,I u→code[u]?=some i→∀v∈dC u i,I v.toNat):∀(f:Nat) (seen:List Bool) (qw:List Int),(∀v∈qw,I v.toNat)→(∀u:Nat,seen[u]?=some true→I u)→∀u:Nat,(LQ code f seen qw)[u]?=some true→I u
 |0,seen,qw,_,h2,u,h=>h2 u h
 |f+1,seen,[],_,h2,u,h=>h2 u h
 |f+1,seen,v::qw,h1,h2,u,h=>by
  have hv:=h1 v (List.mem_cons_self ..);have hs:∀w∈qw,I w.toNat:=fun w hw=>h1 w (List.mem_cons_of_mem _ hw);unfold LQ at h
  split at h
  ·split at h
   ·rename_i i hi;refine A5 hI f _ _ (fun w hw=>?_) (fun w hw=>?_) u h
    ·rcases List.mem_append.1 hw with hw|hw
     ·exact hI _ i hv hi w (List.mem_reverse.1 hw)
     ·exact hs w hw
    ·by_cases he:v.toNat=w
     ·rw[←he];exact hv
     ·rw[List.getElem?_set_ne he] at hw;exact h2 w hw
   ·exact h2 u h
  ·exact A5 hI f _ _ hs h2 u h
theorem Df {code:List aK} {start:Int} (hcl:kM code) (hst:0≤start∧start<(code.length:Int)) {u v:Nat} (p:Path code u v):(gI code start)[u]?=some true→(gI code start)[v]?=some true:=by
 obtain⟨ha,_,_,_⟩:=xZ hcl hst
 induction p with
 |refl=>exact id
 |@step u v w i h hn _ ih=>
  intro hu;refine ih ?_
  rcases ha u i hu h _ hn with hs|hs
  ·exact dI.2 hs
  ·cases hs
theorem xY {code:List aK} {s:Nat} (hcl:kM code) (hs:s<code.length):(gI code (s:Nat))[s]?=some true:=by
 obtain⟨_,_,_,hd⟩:=xZ (start:=((s:Nat):Int)) hcl ⟨by omega,by omega⟩
 rcases hd with hd|hd
 ·exact dI.2 hd
 ·cases hd
mutual
theorem Tr.P8:∀t:Tr,True
 | .mk _ _=>trivial
theorem aE.P8:∀t:aE,True
 | .nil=>trivial
 | .cons _ _=>trivial
end
theorem E1 {n:bp} {g:Int} (h:(fI n g).2=true) (h2:n.op=2):gH n.rs=true:=by
 unfold fI at h
 split at h
 ·cases h
 ·rw[if_neg (show¬(n.op=1∨n.op=7∨n.op=8) by omega)] at h;have h:(n.kids==0 &&gH n.rs)=true:=h;rw[Bool.and_eq_true] at h;exact h.2
theorem B8 {l:List bp} {h:Nat→Nat→Option (Nat×Nat)} (ih:∀at_ g r,h at_ g=some r→at_≤r.1∧∀j n,at_≤j→j<r.1→l[j]?=some n→n.op=2→gH n.rs=true):∀k at_ g r,j8 h k at_ g=some r→at_≤r.1∧∀j n,at_≤j→j<r.1→l[j]?=some n→n.op=2→gH n.rs=true
 |0,at_,g,r,e=>by
  simp only[j8,Option.some.injEq] at e;subst e;exact⟨Nat.le_refl _,fun j n h1 h2=>by simp only at h2;omega⟩
 |k+1,at_,g,r,e=>by
  unfold j8 at e
  cases hq:h at_ g with
  |none=>rw[hq] at e;cases e
  |some q=>
   rw[hq] at e;obtain⟨t1,t2⟩:=ih _ _ _ hq;obtain⟨u1,u2⟩:=B8 ih k _ _ _ e;refine⟨Nat.le_trans t1 u1,fun j n h1 h2 hj ho=>?_⟩
   by_cases WT:j<q.1
   ·exact t2 j n h1 WT hj ho
   ·exact u2 j n (by omega) h2 hj ho
theorem FB {l:List bp}:∀f at_ g r,iX l f at_ g=some r→at_≤r.1∧∀j n,at_≤j→j<r.1→l[j]?=some n→n.op=2→gH n.rs=true
 |0,_,_,_,e=>by simp[iX] at e
 |f+1,at_,g,r,e=>by
  unfold iX at e
  cases hn:l[at_]? with
  |none=>rw[hn] at e;cases e
  |some n=>
   rw[hn] at e;simp only at e
   split at e
   ·rename_i hs;obtain⟨u1,u2⟩:=B8 (FB f) _ _ _ _ e;refine⟨by omega,fun j m h1 h2 hj ho=>?_⟩
    by_cases WW:j=at_
    ·subst WW;rw[hn] at hj;cases hj;exact E1 hs ho
    ·exact u2 j m (by omega) h2 hj ho
   ·cases e
theorem Fa {l:List bp} (h:fJ l=true):HA l:=by
 unfold fJ at h;simp only[Bool.and_eq_true] at h;obtain⟨_,h⟩:=h
 split at h
 ·rename_i r hr;rw[decide_eq_true_eq] at h;obtain⟨_,h2⟩:=FB _ _ _ _ hr;intro n hn ho;obtain⟨j,hj⟩:=List.getElem?_of_mem hn;exact h2 j n (Nat.zero_le _) (by rw[h];exact bX hj) hj ho
 ·cases h
structure L_ (n0 r0:Nat) (C:List aK) (B:List Int) (k:Nat):Prop where
 bl:B.length=k
 fs:0<k→B[0]?=some ((n0:Nat):Int)
 el:∀j,j<k→∃(t:Tr) (b:Nat),t.ok∧HA t.flat∧B[j]?=some (b:Int)∧n0≤b∧(∀b':Int,B[j+1]?=some b'→b'=((b+t.sz+3:Nat):Int))∧(j+1=k→n0+C.length=b+t.sz+3)∧∃pre post,C=pre++eW t b (r0+j)++post∧n0+pre.length=b
 al:∀i q,C[i]?=some q→∃j,j<k∧∃(t:Tr) (b:Nat),B[j]?=some (b:Int)∧t.ok∧HA t.flat∧b≤n0+i∧n0+i<b+t.sz+3∧b+t.sz+3≤n0+C.length∧q∈eW t b (r0+j)∧(eW t b (r0+j))[n0+i-b]?=some q
theorem tj:∀(ls:List (List bp)) (r:Nat) (c:List aK) (s:List Int),(gB ls r c s).e=0→∃C B,(gB ls r c s).code=c++C∧(gB ls r c s).aF=s++B∧L_ c.length r C B ls.length
 |[],r,c,s,h=>by
  rw[A'];exact⟨[],[],by simp,by simp,rfl,fun h=>by simp at h,fun j hj=>by simp at hj,fun i q hi=>by simp at hi⟩
 |l::ls,r,c,s,h=>by
  rw[gB] at h⊢
  by_cases hr:fJ l=false
  ·rw[if_pos hr] at h;cases h
  rw[if_neg hr] at h⊢;rw[Bool.not_eq_false] at hr
  by_cases hb:400<c.length+min (cq l).sz 401+3
  ·rw[if_pos hb] at h;cases h
  rw[if_neg hb] at h⊢;obtain⟨t1,t2⟩:=nD hr;have nb:HA (cq l).flat:=by rw[t2];exact Fa hr
  have hlen:=lZ (b:=c.length) (r:=r) t1;obtain⟨C,B,h1,h2,h3⟩:=tj ls (r+1) _ _ h;rw[List.length_append,hlen] at h3;refine⟨eW (cq l) c.length r++C,((c.length:Nat):Int)::B,by rw[h1,List.append_assoc],by rw[h2,List.append_assoc];rfl,by simp[h3.bl],fun _=>rfl,fun j hj=>?_,fun i q hi=>?_⟩
  ·cases j with
   |zero=>
    refine⟨cq l,c.length,t1,nb,rfl,Nat.le_refl _,fun b' eH=>?_,fun Lo=>?_,[],C,by simp,by simp⟩
    ·simp only[Nat.zero_add,List.getElem?_cons_succ] at eH;have hB:=h3.bl;have hlt:=bX eH;rw[h3.fs (by omega)] at eH;cases eH
     congr 1
    ·simp only[List.length_cons] at Lo;have J_:ls.length=0:=by omega
     have hC:C=[]:=by
      cases hc:C with
      |nil=>rfl
      |cons q C'=>
       obtain⟨j,hj,_⟩:=h3.al 0 q (by rw[hc];rfl);omega
     rw[hC,List.append_nil,hlen];omega
   |succ j=>
    simp only[List.length_cons] at hj;obtain⟨t,b,q1,q2,q3,q4,q5,q6,pre,post,q7,q8⟩:=h3.el j (by omega);refine⟨t,b,q1,q2,q3,by omega,q5,fun Lo=>?_,eW (cq l) c.length r++pre,post,?_,?_⟩
    ·simp only[List.length_cons] at Lo;have:=q6 (by omega);rw[List.length_append,hlen];omega
    ·rw[q7,show r+1+j=r+(j+1) by omega];simp only[List.append_assoc]
    ·rw[List.length_append,hlen];omega
  ·by_cases hil:i<(eW (cq l) c.length r).length
   ·rw[List.getElem?_append_left hil] at hi;refine⟨0,by simp,cq l,c.length,rfl,t1,nb,by omega,by omega,by rw[List.length_append,hlen];omega,List.mem_of_getElem? hi,?_⟩;rw[show c.length+i-c.length=i by omega];exact hi
   ·rw[List.getElem?_append_right (by omega)] at hi;obtain⟨j,q1,t,b,q2,q3,q4,q5,q6,q7,q8,q9⟩:=h3.al _ q hi;rw[hlen] at q5 q6 q9 hil;refine⟨j+1,by simp only[List.length_cons];omega,t,b,q2,q3,q4,by omega,by omega,by rw[List.length_append,hlen];omega,by rw[show r+(j+1)=r+1+j by omega];exact q8,?_⟩;rw[show r+(j+1)=r+1+j by omega,show c.length+i-b=c.length+((cq l).sz+3)+(i-((cq l).sz+3))-b by omega];exact q9
theorem DX {lo hi u:Nat} {i:aK} (h:dr lo hi i) (h1:lo≤u+1) (h2:u+1≤hi):∀v∈dC u i,(lo:Int)≤v∧v≤hi:=by
 intro v hv;unfold dC at hv
 rcases h with⟨a,_⟩|⟨a,_,c,d⟩|⟨a,_,_,d⟩|⟨a,_⟩|⟨a,_⟩
 ·rw[if_neg (by omega),if_neg (by omega),if_neg (by omega)] at hv;simp only[List.mem_cons,List.not_mem_nil,or_false] at hv;omega
 ·rw[if_pos a] at hv;simp only[List.mem_cons,List.not_mem_nil,or_false] at hv
  rcases hv with rfl|rfl<;>omega
 ·rw[if_neg (by omega),if_pos a] at hv;simp only[List.mem_cons,List.not_mem_nil,or_false] at hv;omega
 ·rw[if_neg (by omega),if_neg (by omega),if_neg (by omega)] at hv;simp only[List.mem_cons,List.not_mem_nil,or_false] at hv;omega
 ·rw[if_neg (by omega),if_neg (by omega),if_neg (by omega)] at hv;simp only[List.mem_cons,List.not_mem_nil,or_false] at hv;omega
theorem yZ {lo hi n ns pc:Nat} {i:aK} (h:dr lo hi i) (h1:hi<n) (h2:pc+1<n):jr n ns pc i=true:=by
 have hin:∀v:Int,(lo:Int)≤v→v≤hi→DF v n=true:=fun v a b=>jw.2 ⟨by omega,by omega⟩;have hd:decide (((pc+1:Nat):Int)<n)=true:=by rw[decide_eq_true_eq];omega
 unfold jr
 rcases h with⟨a,b,c,d⟩|⟨a,b,c,d⟩|⟨a,b,c,d⟩|⟨a,b,c,d⟩|⟨a,b,c,d⟩
 ·rw[if_pos a,hd,b,c,d];rfl
 ·rw[if_neg (by omega),if_pos a,b,hin _ c.1 c.2,hin _ d.1 d.2];rfl
 ·rw[if_neg (by omega),if_neg (by omega),if_pos a,b,c,hin _ d.1 d.2];rfl
 ·rw[if_neg (by omega),if_neg (by omega),if_neg (by omega),if_pos a,b,c,hd,jw.2 ⟨d.1,d.2⟩];rfl
 ·rw[if_neg (by omega),if_neg (by omega),if_neg (by omega),if_neg (by omega),if_pos a,b,c,hd,d];rfl
theorem oK {t:Tr} {b r o:Nat} {q:aK} (h1:t.ok) (h2:HA t.flat) (h:(eW t b r)[o]?=some q):(o<t.sz+2∧dr b (b+t.sz+2) q)∨(o=t.sz+2∧q=cH 7 (r:Nat) 0 []):=by
 have hl:=bw t (b+1) h1;have hA:eW t b r=(cH 4 0 0 []::(aM t (b+1)++[cH 4 1 0 []]))++[cH 7 (r:Nat) 0 []]:=by unfold eW;simp
 have XI:(cH 4 0 0 []::(aM t (b+1)++[cH 4 1 0 []])).length=t.sz+2:=by simp[hl]
 rw[hA] at h
 by_cases ho:o<t.sz+2
 ·rw[List.getElem?_append_left (by omega)] at h;refine .inl ⟨ho,?_⟩;have hm:=List.mem_of_getElem? h
  rcases List.mem_cons.1 hm with rfl|hm
  ·exact dr.save (by omega)
  ·rcases List.mem_append.1 hm with hm|hm
   ·exact(kL t (b+1) h1 h2 q hm).mono (by omega) (by omega)
   ·simp only[List.mem_cons,List.not_mem_nil,or_false] at hm;subst hm;exact dr.save (by omega)
 ·rw[List.getElem?_append_right (by omega),XI] at h;have h0:=bX h;simp only[List.length_cons,List.length_nil] at h0;have tF:o=t.sz+2:=by omega
  refine .inr ⟨tF,?_⟩;rw[tF,Nat.sub_self] at h;exact(Option.some.inj h).symm
structure OW (p:Pg) (r s e:Nat):Prop where
 st:p.aF[r]?=some (s:Int)
 se:s<e
 el:e≤p.code.length
 nx:∀b':Int,p.aF[r+1]?=some b'→b'=(e:Int)
 la:r+1=p.aF.length→p.code.length=e
 mt:p.code[e-1]?=some (cH 7 (r:Nat) 0 [])
 fi:(rT p (r:Nat))[0]?=some (s:Int)
 lt:(rT p (r:Nat))[(rT p (r:Nat)).length-1]?=some ((e-1:Nat):Int)
theorem C9 {X:List Int} {a b:Int} (hp:X.Pairwise (·<·)) (ha:a∈X) (hb:b∈X) (h:∀v∈X,a≤v∧v≤b):X[0]?=some a∧X[X.length-1]?=some b:=by
 obtain⟨i,hi⟩:=List.getElem?_of_mem ha;obtain⟨j,hj⟩:=List.getElem?_of_mem hb;have hil:=bX hi;have hjl:=bX hj
 have hlt:∀u v (x y:Int),u<v→X[u]?=some x→X[v]?=some y→x<y:=fun u v x y Vr hx hy=>by
  have:=List.pairwise_iff_getElem.1 hp u v (bX hx) (bX hy) Vr;have ex:X[u]'(bX hx)=x:=Option.some.inj ((List.getElem?_eq_getElem _).symm.trans hx);have ey:X[v]'(bX hy)=y:=Option.some.inj ((List.getElem?_eq_getElem _).symm.trans hy);rw[ex,ey] at this;exact this
 constructor
 ·obtain⟨x,hx⟩:∃x,X[0]?=some x:=⟨X[0]'(by omega),List.getElem?_eq_getElem _⟩
  have:=h x (List.mem_of_getElem? hx)
  by_cases h0:i=0
  ·rw[←h0];exact hi
  ·have:=hlt 0 i x a (by omega) hx hi;omega
 ·obtain⟨x,hx⟩:∃x,X[X.length-1]?=some x:=⟨X[X.length-1]'(by omega),List.getElem?_eq_getElem _⟩
  have:=h x (List.mem_of_getElem? hx)
  by_cases h0:j=X.length-1
  ·rw[←h0];exact hj
  ·have:=hlt j (X.length-1) b x (by omega) hj hx;omega
theorem Ay {parts:List (List bp)} (hl:parts.length≤8) (he:(bc parts).e=0) (hcl:(bc parts).code.length≤400):
  tv (mb (bc parts).code (bc parts).aF)∧(bc parts).aF.length=parts.length∧∀r,r<parts.length→∃s e,OW (mb (bc parts).code (bc parts).aF) r s e:=by
 have hcs:bc parts=gB parts 0 [] []:=by unfold bc;rw[if_neg (by omega)]
 rw[hcs] at he hcl⊢;obtain⟨C,B,h1,h2,h3⟩:=tj parts 0 [] [] he;simp only[List.nil_append] at h1 h2;simp only[List.length_nil] at h3;rw[h1] at hcl;rw[h1,h2];have Py:=h3.bl
 have hsh:∀pc i,C[pc]?=some i→jr C.length B.length pc i=true:=by
  intro pc i hi;obtain⟨j,q1,t,b,q2,q3,q4,q5,q6,q7,q8,q9⟩:=h3.al pc i hi;rw[Nat.zero_add] at q9
  rcases oK q3 q4 q9 with⟨g1,g2⟩|⟨g1,g2⟩
  ·exact yZ g2 (by omega) (by omega)
  ·rw[g2];have:DF ((j:Nat):Int) B.length=true:=jw.2 ⟨by omega,by omega⟩;unfold jr cH;simp[this]
 have N6:kM C:=vw (p:=mb C B) hsh
 have Gb:∀r,r<parts.length→∃s e:Nat,B[r]?=some (s:Int)∧s<e∧e≤C.length∧(∀b':Int,B[r+1]?=some b'→b'=(e:Int))∧(r+1=parts.length→C.length=e)∧C[e-1]?=some (cH 7 (r:Nat) 0 [])∧(∀u:Nat,(gI C (s:Nat))[u]?=some true→s≤u∧u<e)∧(gI C (s:Nat))[s]?=some true∧(gI C (s:Nat))[e-1]?=some true∧∀u i,s≤u→u<e→C[u]?=some i→i.op=7→i.x=(r:Int):=by
  intro r hr;obtain⟨t,b,q1,q2,q3,q4,q5,q6,pre,post,q7,q8⟩:=h3.el r hr;rw[Nat.zero_add] at q6 q8;rw[Nat.zero_add] at q7;have DM:=lZ (b:=b) (r:=r) q1;have Mm:C.length=b+(t.sz+3)+post.length:=by rw[q7,List.length_append,List.length_append,DM,q8]
  have hat:∀u,b≤u→u<b+t.sz+3→C[u]?=(eW t b r)[u-b]?:=fun u g1 g2=>by
   rw[q7,List.append_assoc,List.getElem?_append_right (by omega),q8,List.getElem?_append_left (by omega)]
  have kG:gb C b (eW t b r):=⟨post,by rw[q7,List.append_assoc,←q8,List.drop_left]⟩
  have hin:∀u:Nat,(gI C (b:Nat))[u]?=some true→b≤u∧u<b+t.sz+3:=by
   unfold gI;refine A5 (I:=fun u=>b≤u∧u<b+t.sz+3) (fun u i hu hi v hv=>?_) _ _ _ (fun v hv=>?_) (fun u hu=>?_)
   ·rw[hat u hu.1 hu.2] at hi
    rcases oK q1 q2 hi with⟨g1,g2⟩|⟨g1,g2⟩
    ·have:=DX (u:=u) g2 (by omega) (by omega) v hv;omega
    ·rw[g2] at hv;have:dC u (cH 7 (r:Nat) 0 [])=[]:=by unfold dC cH;simp
     rw[this] at hv;cases hv
   ·simp only[List.mem_cons,List.not_mem_nil,or_false] at hv;subst hv;rw[Int.toNat_natCast];omega
   ·rw[List.getElem?_replicate] at hu
    split at hu<;>cases hu
  have hs:=xY (s:=b) N6 (by omega)
  have Wl:C[b+t.sz+3-1]?=some (cH 7 (r:Nat) 0 []):=by
   rw[hat _ (by omega) (by omega)];unfold eW;have u7:=bw t (b+1) q1;rw[show b+t.sz+3-1-b=(t.sz+1)+1 by omega,List.getElem?_cons_succ,List.getElem?_append_right (by omega),u7,show t.sz+1-t.sz=1 by omega]
   rfl
  have Np:Path C b (b+t.sz+3-1):=by
   unfold eW at kG;have p1:Path C b (b+1):=Path.A0 kG.head (by show(4:Int)≠2∧(4:Int)≠3∧(4:Int)≠7;decide);have p2:=Ea (C:=C) _ t (Nat.le_refl _) (b+1) q1 kG.tail.left;have h4:=kG.tail.right;rw[bw t _ q1] at h4;have p3:Path C (b+1+t.sz) (b+1+t.sz+1):=Path.A0 h4.head (by show(4:Int)≠2∧(4:Int)≠3∧(4:Int)≠7;decide);rw[show b+t.sz+3-1=b+1+t.sz+1 by omega];exact p1.trans (p2.trans p3)
  refine⟨b,b+t.sz+3,q3,by omega,by omega,fun b' eH=>q5 b' eH,q6,Wl,hin,hs,Df N6 ⟨by omega,by omega⟩ Np hs,fun u i g1 g2 hi ho=>?_⟩;rw[hat u g1 g2] at hi
  rcases oK q1 q2 hi with⟨_,g3⟩|⟨_,g3⟩
  ·rcases g3 with⟨a,_⟩|⟨a,_⟩|⟨a,_⟩|⟨a,_⟩|⟨a,_⟩<;>omega
  ·rw[g3];rfl
 have hR:tv (mb C B):=by
  refine⟨hcl,by show B.length≤8;omega,hsh,fun v hv=>?_,fun r s hs pc i J7 Nh hi ho=>?_⟩
  ·obtain⟨r,hr⟩:=List.getElem?_of_mem (show v∈B from hv);obtain⟨s,e,g1,g2,g3,_⟩:=Gb r (by rw[←Py];exact bX hr);rw[g1] at hr;cases hr;show(0:Int)≤(s:Int)∧(s:Int)<(C.length:Int);omega
  ·have hs:B[r]?=some s:=hs;obtain⟨s',e,g1,g2,g3,g4,g5,g6,g7,g8,g9,g10⟩:=Gb r (by rw[←Py];exact bX hs);rw[g1] at hs;cases hs;obtain⟨k1,k2⟩:=g7 pc Nh;exact g10 pc i k1 k2 hi ho
 refine⟨hR,by rw[Py],fun r hr=>?_⟩;obtain⟨s,e,g1,g2,g3,g4,g5,g6,g7,g8,g9,g10⟩:=Gb r hr
 have T7:rT (mb C B) (r:Nat)=sq 0 (gI C (s:Nat)):=by
  unfold rT;have hi:DF ((r:Nat):Int) (mb C B).aF.length=true:=jw.2 ⟨by omega,by show((r:Nat):Int)<(B.length:Nat);omega⟩;rw[Jr hR,hi]
  have hgd:(mb C B).aF.getD ((r:Nat):Int).toNat 0=(s:Int):=by
   rw[Int.toNat_natCast,List.getD_eq_getElem?_getD];show(B[r]?).getD 0=_;rw[g1];rfl
  rw[hgd];rfl
 have Ka:=C9 (uF (gI C (s:Nat)) 0) (a:=(s:Int)) (b:=((e-1:Nat):Int)) (j6.2 ⟨s,g8,by rw[Nat.zero_add]⟩) (j6.2 ⟨e-1,g9,by rw[Nat.zero_add]⟩) (fun v hv=>by
  obtain⟨k,k1,k2⟩:=j6.1 hv;have:=g7 k k1
  omega)
 exact⟨s,e,g1,g2,g3,fun b' eH=>g4 b' eH,fun gr=>g5 (by rw[←Py];exact gr),g6,by rw[T7];exact Ka.1,by rw[T7];exact Ka.2⟩
end Go.Proofs.YthahmilhpmfkfaaGreat
