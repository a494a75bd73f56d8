/-
 What the search comes to: it is closed, and nothing can be left out.
-/
import Derived.Test.YtnleclohocdkaaaGreatVGQe
import Derived.Test.YtnleclohocdkaaaGreatVGHr
import Derived.Test.YtnleclohocdkaaaGreatVGJi
import Derived.Test.YtnleclohocdkaaaGreatVGUa
set_option maxRecDepth 100000
set_option linter.unusedSimpArgs false
set_option linter.unusedVariables false
set_option maxHeartbeats 4000000
set_option linter.unusedSectionVars false
namespace Go.Proofs.YtnleclohocdkaaaGreat
open Go.V Go
def ig (seen:List Bool) (v:Int):Prop:=0≤v∧seen[v.toNat]?=some true
structure yX (code:List aC) (start:Int) (seen:List Bool) (dS:List Int):Prop where
 a:∀u i,seen[u]?=some true→code[u]?=some i→∀w∈bj u i,ig seen w∨w∈dS
 b:∀v∈dS,v=start∨∃u i,seen[u]?=some true∧code[u]?=some i∧v∈bj u i
 c:∀v,ig seen v→v=start∨∃u i,seen[u]?=some true∧code[u]?=some i∧v∈bj u i∧v≠(u:Int)
 d:ig seen start∨start∈dS
theorem eo {seen:List Bool} {k:Nat} (hk:k<seen.length) {v:Int}:ig (seen.set k true) v↔v=(k:Int)∨ig seen v:=by
 unfold ig;constructor
 ·rintro⟨h0,h⟩
  by_cases hv:v.toNat=k
  ·left;omega
  ·rw[List.getElem?_set_ne (fun e=>hv e.symm)] at h;exact .inr ⟨h0,h⟩
 ·rintro(rfl|⟨h0,h⟩)
  ·exact⟨by omega,by rw[Int.toNat_natCast,List.getElem?_set_self hk]⟩
  ·refine⟨h0,?_⟩
   by_cases hv:v.toNat=k
   ·rw[hv,List.getElem?_set_self hk]
   ·rw[List.getElem?_set_ne (fun e=>hv e.symm)];exact h
theorem cV {seen:List Bool} {u:Nat}:seen[u]?=some true↔ig seen (u:Int):=by
 unfold ig;rw[Int.toNat_natCast];exact⟨fun h=>⟨by omega,h⟩,fun h=>h.2⟩
theorem yF {code:List aC} {start:Int} (hcl:gr code):∀(f:Nat) (seen:List Bool) (dS:List Int),seen.length=code.length→(∀v∈dS,0≤v∧v<(code.length:Int))→3*seen.count false+dS.length≤f→yX code start seen dS→yX code start (uV code f seen dS) []
 |0,seen,dS,_,_,hm,hi=>by
  have:dS=[]:=by cases dS with|nil=>rfl|cons _ _=>simp at hm
  subst this;exact hi
 |f+1,seen,[],_,_,_,hi=>hi
 |f+1,seen,v::dS,hl,hs,hm,hi=>by
  have hv:=hs v (List.mem_cons_self ..);have kH:∀w∈dS,0≤w∧w<(code.length:Int):=fun w hw=>hs w (List.mem_cons_of_mem _ hw);obtain⟨k,rfl⟩:=Int.eq_ofNat_of_zero_le hv.1;have hk:k<code.length:=by omega
  obtain⟨i,hci⟩:∃i,code[k]?=some i:=⟨code[k]'hk,List.getElem?_eq_getElem _⟩
  obtain⟨b,hb⟩:∃b,seen[k]?=some b:=⟨seen[k]'(by omega),List.getElem?_eq_getElem _⟩
  simp only[List.length_cons] at hm;have hp:∀w,w∈((k:Int)::dS)→w=(k:Int)∨w∈dS:=fun w hw=>List.mem_cons.1 hw;unfold uV;simp only[Int.toNat_natCast,hb,hci]
  cases b with
  |true=>
   have jI:ig seen (k:Int):=cV.1 hb;refine yF hcl f seen dS hl kH (by omega) ⟨fun u j hu hj w hw=>?_,fun w hw=>hi.b w (List.mem_cons_of_mem _ hw),hi.c,?_⟩
   ·rcases hi.a u j hu hj w hw with h|h
    ·exact .inl h
    ·rcases hp w h with rfl|h
     ·exact .inl jI
     ·exact .inr h
   ·rcases hi.d with h|h
    ·exact .inl h
    ·rcases hp start h with h|h
     ·exact .inl (h▸jI)
     ·exact .inr h
  |false=>
   have uz:=count_set hb;have ij:k<seen.length:=by omega
   have C8:=py k i;refine yF hcl f _ _ (by rw[List.length_set];exact hl) (fun w hw=>?_) (by simp only[List.length_append,List.length_reverse];omega) ⟨fun u j hu hj w hw=>?_,fun w hw=>?_,fun w hw=>?_,?_⟩
   ·rcases List.mem_append.1 hw with hw|hw
    ·exact hcl k i hci w (List.mem_reverse.1 hw)
    ·exact kH w hw
   ·rcases(eo ij).1 (cV.1 hu) with h|h
    ·have:u=k:=by omega
     subst this;rw[hci] at hj;cases hj;exact .inr (List.mem_append.2 (.inl (List.mem_reverse.2 hw)))
    ·rcases hi.a u j (cV.2 h) hj w hw with h|h
     ·exact .inl ((eo ij).2 (.inr h))
     ·rcases hp w h with h|h
      ·exact .inl ((eo ij).2 (.inl h))
      ·exact .inr (List.mem_append.2 (.inr h))
   ·rcases List.mem_append.1 hw with hw|hw
    ·exact .inr ⟨k,i,cV.2 ((eo ij).2 (.inl rfl)),hci,List.mem_reverse.1 hw⟩
    ·rcases hi.b w (List.mem_cons_of_mem _ hw) with h|⟨u,j,h1,h2,h3⟩
     ·exact .inl h
     ·exact .inr ⟨u,j,cV.2 ((eo ij).2 (.inr (cV.1 h1))),h2,h3⟩
   ·rcases(eo ij).1 hw with rfl|h
    ·rcases hi.b (k:Int) (List.mem_cons_self ..) with h|⟨u,j,h1,h2,h3⟩
     ·exact .inl h
     ·refine .inr ⟨u,j,cV.2 ((eo ij).2 (.inr (cV.1 h1))),h2,h3,fun e=>?_⟩;have:k=u:=by omega
      subst this;rw[hb] at h1;cases h1
    ·rcases hi.c w h with h|⟨u,j,h1,h2,h3,h4⟩
     ·exact .inl h
     ·exact .inr ⟨u,j,cV.2 ((eo ij).2 (.inr (cV.1 h1))),h2,h3,h4⟩
   ·rcases hi.d with h|h
    ·exact .inl ((eo ij).2 (.inr h))
    ·rcases hp start h with h|h
     ·exact .inl ((eo ij).2 (.inl h))
     ·exact .inr (List.mem_append.2 (.inr h))
theorem vB {code:List aC} {start:Int} (hcl:gr code) (e_:0≤start∧start<(code.length:Int)):yX code start (aR code start) []:=by
 have jA:∀v,¬ig (List.replicate code.length false) v:=by
  rintro v ⟨h0,h⟩;rw[List.getElem?_replicate] at h
  split at h<;>cases h
 refine yF hcl _ _ _ (by simp) (fun v hv=>?_) (by simp) ⟨fun u i hu=>absurd (cV.1 hu) (jA _),fun v hv=>?_,fun v hv=>absurd hv (jA v),.inr (by simp)⟩
 ·simp only[List.mem_cons,List.not_mem_nil,or_false] at hv;subst hv;exact e_
 ·simp only[List.mem_cons,List.not_mem_nil,or_false] at hv;exact .inl hv
theorem iH:∀{L:List Bool} {s:Nat} {v:Int},v∈pw s L↔∃k:Nat,L[k]?=some true∧v=((s+k:Nat):Int)
 |[],s,v=>⟨fun h=>(by cases h),fun⟨k,h,_⟩=>by simp at h⟩
 |b::l,s,v=>by
  simp only[pw,List.mem_append];constructor
  ·rintro(h|h)
   ·split at h
    ·rename_i hb;simp only[List.mem_cons,List.not_mem_nil,or_false] at h;exact⟨0,by simp[hb],by rw[h];simp⟩
    ·cases h
   ·obtain⟨k,h1,h2⟩:=iH.1 h;exact⟨k+1,by simpa using h1,by rw[h2];congr 1;omega⟩
  ·rintro⟨k,h1,h2⟩
   cases k with
   |zero=>simp at h1;subst h1;left;simp[h2]
   |succ k=>exact .inr (iH.2 ⟨k,by simpa using h1,by rw[h2];congr 1;omega⟩)
theorem sx : ∀ (L : List Bool) (s : Nat), (pw s L).Pairwise (· < ·)
 | [], s => .nil
 | b :: l, s => by
  simp only [pw];have ih := sx l (s + 1)
  split
  ·rw [List.singleton_append, List.pairwise_cons];refine ⟨fun v hv => ?_, ih⟩;obtain ⟨k, _, rfl⟩ := iH.1 hv;omega
  ·exact ih
def cH (lo hi:Nat) (i:aC):Prop:=
 (i.op=1∧i.x=0∧i.y=0∧dt i.rs=true)∨(i.op=2∧i.rs=[]∧((lo:Int)≤i.x∧i.x≤hi)∧(lo:Int)≤i.y∧i.y≤hi)∨(i.op=3∧i.rs=[]∧i.y=0∧(lo:Int)≤i.x∧i.x≤hi)∨(i.op=4∧i.rs=[]∧i.y=0∧0≤i.x∧i.x<10)∨((i.op=5∨i.op=6)∧i.rs=[]∧i.y=0∧i.x=0)
theorem cH.mono {lo hi sO gH:Nat} {i:aC} (h:cH lo hi i) (h1:sO≤lo) (h2:hi≤gH):cH sO gH i:=by
 rcases h with h|⟨a,b,c,d⟩|⟨a,b,c,d⟩|h|h
 ·exact .inl h
 ·exact .inr (.inl ⟨a,b,by omega,by omega⟩)
 ·exact .inr (.inr (.inl ⟨a,b,c,by omega⟩))
 ·exact .inr (.inr (.inr (.inl h)))
 ·exact .inr (.inr (.inr (.inr h)))
theorem cH.sp {lo hi s o:Nat} {lz:Bool} (h1:lo≤s+1∧s+1≤hi) (h2:lo≤o∧o≤hi):cH lo hi (mK s o lz):=by
 refine .inr (.inl ?_);cases lz
 ·refine⟨rfl,rfl,?_⟩;show((lo:Int)≤((s+1:Nat):Int)∧((s+1:Nat):Int)≤hi)∧(lo:Int)≤(o:Int)∧(o:Int)≤hi;omega
 ·refine⟨rfl,rfl,?_⟩;show((lo:Int)≤(o:Int)∧(o:Int)≤hi)∧(lo:Int)≤((s+1:Nat):Int)∧((s+1:Nat):Int)≤hi;omega
theorem cH.jp {lo hi e:Nat} (h1:lo≤e∧e≤hi):cH lo hi (l3 e):=by
 refine .inr (.inr (.inl ⟨rfl,rfl,rfl,?_⟩));show(lo:Int)≤(e:Int)∧(e:Int)≤hi;omega
theorem cH.save {lo hi:Nat} {x:Int} (h:0≤x∧x<10):cH lo hi (cz 4 x 0 []):=.inr (.inr (.inr (.inl ⟨rfl,rfl,rfl,h⟩)))
theorem mR {c:Nat→List aC} {z:Nat} (hc:∀b,∀i∈c b,cH b (b+z) i):∀k b,∀i∈eF c z k b,cH b (b+k*z) i
 |0,b,i,hi=>by cases hi
 |k+1,b,i,hi=>by
  simp only[eF] at hi;rw[Nat.succ_mul]
  rcases List.mem_append.1 hi with hi|hi
  ·exact(hc b i hi).mono (Nat.le_refl _) (by omega)
  ·exact(mR hc k _ i hi).mono (by omega) (by omega)
theorem su {sp:Nat→aC} {c:Nat→List aC} {z lo hi:Nat} (hs:∀s,lo≤s→s+1≤hi→cH lo hi (sp s)) (hc:∀b,∀i∈c b,cH b (b+z) i):∀k b,lo≤b→b+k*(z+1)≤hi→∀i∈eu sp c z k b,cH lo hi i
 |0,b,_,_,i,gH=>by cases gH
 |k+1,b,h1,h2,i,gH=>by
  simp only[eu] at gH;rw[Nat.succ_mul] at h2
  rcases List.mem_cons.1 gH with rfl|gH
  ·exact hs b h1 (by omega)
  ·rcases List.mem_append.1 gH with gH|gH
   ·exact(hc _ i gH).mono (by omega) (by omega)
   ·exact su hs hc k _ (by omega) (by omega) i gH
def D7 (l:List Nod):Prop:=∀n∈l,n.op=2→dt n.rs=true
mutual
theorem jv:∀(t:Tr) (b:Nat),t.ok→D7 t.flat→∀i∈aH t b,cH b (b+t.sz) i
 | .mk n ks,b,hok,iy,i,hi=>by
  simp only[Tr.ok] at hok;simp only[Tr.flat] at iy;have hc:=fun b=>tm ks b hok.2 (fun n hn=>iy n (List.mem_cons_of_mem _ hn));obtain⟨_,hq⟩:=hok.1;simp only[aH] at hi;simp only[Tr.sz]
  by_cases q2:n.op=2
  ·rw[if_pos q2] at hi;simp only[List.mem_cons,List.not_mem_nil,or_false] at hi;subst hi;exact .inl ⟨rfl,rfl,rfl,iy n (List.mem_cons_self ..) q2⟩
  rw[if_neg q2] at hi
  by_cases q7:n.op=7
  ·rw[if_pos q7] at hi;simp only[List.mem_cons,List.not_mem_nil,or_false] at hi;subst hi;exact .inr (.inr (.inr (.inr ⟨.inl rfl,rfl,rfl,rfl⟩)))
  rw[if_neg q7] at hi
  by_cases q8:n.op=8
  ·rw[if_pos q8] at hi;simp only[List.mem_cons,List.not_mem_nil,or_false] at hi;subst hi;exact .inr (.inr (.inr (.inr ⟨.inr rfl,rfl,rfl,rfl⟩)))
  rw[if_neg q8] at hi
  have hz:∀s k,bh n s k=if n.op=4 then s+2*(k-1) else if n.op=6 then s+2 else if n.op=5 then(if n.mx=-1 then n.mn.toNat*s+s+2 else n.mn.toNat*s+(n.mx.toNat-n.mn.toNat)*(s+1)) else s:=by
   intro s k;unfold bh;rw[if_neg (by omega)]
  by_cases q3:n.op=3
  ·rw[if_pos q3] at hi;rw[hz,if_neg (by omega),if_neg (by omega),if_neg (by omega)];exact hc b i hi
  rw[if_neg q3] at hi
  by_cases q4:n.op=4
  ·rw[if_pos q4] at hi;have Jx:bh n ks.sz ks.len=ks.sz+2*(ks.len-1):=by rw[hz,if_pos q4]
   rw[Jx] at hi⊢;exact tt ks b (b+(ks.sz+2*(ks.len-1))) hok.2 (fun n hn=>iy n (List.mem_cons_of_mem _ hn)) (Nat.le_refl _) i hi
  rw[if_neg q4] at hi
  by_cases q5:n.op=5
  ·rw[if_pos q5] at hi;rw[hz,if_neg q4,if_neg (by omega),if_pos q5];unfold mP at hi
   by_cases qx:n.mx=-1
   ·rw[if_pos qx] at hi⊢
    rcases List.mem_append.1 hi with hi|hi
    ·exact(mR hc _ _ i hi).mono (Nat.le_refl _) (by omega)
    ·rcases List.mem_cons.1 hi with rfl|hi
     ·exact cH.sp (by omega) (by omega)
     ·rcases List.mem_append.1 hi with hi|hi
      ·exact(hc _ i hi).mono (by omega) (by omega)
      ·simp only[List.mem_cons,List.not_mem_nil,or_false] at hi;subst hi;exact cH.jp (by omega)
   ·rw[if_neg qx] at hi⊢
    rcases List.mem_append.1 hi with hi|hi
    ·exact(mR hc _ _ i hi).mono (Nat.le_refl _) (by omega)
    ·exact su (fun s h1 h2=>cH.sp (by omega) (by omega)) hc _ _ (by omega) (by omega) i hi
  rw[if_neg q5] at hi
  by_cases q6:n.op=6
  ·rw[if_pos q6] at hi;rw[hz,if_neg q4,if_pos q6]
   rcases List.mem_cons.1 hi with rfl|hi
   ·exact cH.save (by omega)
   ·rcases List.mem_append.1 hi with hi|hi
    ·exact(hc _ i hi).mono (by omega) (by omega)
    ·simp only[List.mem_cons,List.not_mem_nil,or_false] at hi;subst hi;exact cH.save (by omega)
  ·rw[if_neg q6] at hi;cases hi
theorem tm:∀(ts:bc) (b:Nat),ts.ok→D7 ts.flat→∀i∈fg ts b,cH b (b+ts.sz) i
 | .nil,b,_,_,i,hi=>by simp[fg] at hi
 | .cons t ts,b,hok,iy,i,hi=>by
  simp only[bc.ok] at hok;simp only[bc.flat] at iy;simp only[fg] at hi;simp only[bc.sz]
  rcases List.mem_append.1 hi with hi|hi
  ·exact(jv t b hok.1 (fun n hn=>iy n (List.mem_append_left _ hn)) i hi).mono (Nat.le_refl _) (by omega)
  ·exact(tm ts _ hok.2 (fun n hn=>iy n (List.mem_append_right _ hn)) i hi).mono (by omega) (by omega)
theorem tt:∀(ts:bc) (b e:Nat),ts.ok→D7 ts.flat→b+(ts.sz+2*(ts.len-1))≤e→∀i∈dR (l3 e) ts b,cH b e i
 | .nil,b,e,_,_,_,i,hi=>by simp[dR] at hi
 | .cons t ts,b,e,hok,iy,he,i,hi=>by
  simp only[bc.ok] at hok;simp only[bc.flat] at iy;simp only[dR] at hi;simp only[bc.sz,bc.len] at he;have h1:D7 t.flat:=fun n hn=>iy n (List.mem_append_left _ hn);have h2:D7 ts.flat:=fun n hn=>iy n (List.mem_append_right _ hn)
  by_cases q:ts.len=0
  ·rw[if_pos q] at hi;exact(jv t b hok.1 h1 i hi).mono (Nat.le_refl _) (by omega)
  ·rw[if_neg q] at hi
   rcases List.mem_cons.1 hi with rfl|hi
   ·exact cH.sp (by omega) (by omega)
   ·rcases List.mem_append.1 hi with hi|hi
    ·exact(jv t _ hok.1 h1 i hi).mono (by omega) (by omega)
    ·rcases List.mem_cons.1 hi with rfl|hi
     ·exact cH.jp (by omega)
     ·exact(tt ts _ e hok.2 h2 (by omega) i hi).mono (by omega) (by omega)
end
inductive Path (C:List aC):Nat→Nat→Prop where
 |refl (u:Nat):Path C u u
 |step {u v w:Nat} {i:aC} (h:C[u]?=some i) (hn:(v:Int)∈bj u i) (p:Path C v w):Path C u w
theorem Path.trans {C:List aC} {u v w:Nat} (h:Path C u v) (g:Path C v w):Path C u w:=by
 induction h with
 |refl=>exact g
 |step h hn _ ih=>exact .step h hn (ih g)
theorem Path.yB {C:List aC} {u:Nat} {i:aC} (h:C[u]?=some i) (ho:i.op≠2∧i.op≠3∧i.op≠7):Path C u (u+1):=
 .step h (by unfold bj;rw[if_neg ho.1,if_neg ho.2.1,if_neg ho.2.2];exact List.mem_cons_self ..) (.refl _)
theorem Path.jp {C:List aC} {u e:Nat} (h:C[u]?=some (l3 e)):Path C u e:=
 .step h (by show(e:Int)∈bj u (cz 3 (e:Nat) 0 []);unfold bj;rw[if_neg (show¬(cz 3 (e:Nat) 0 []).op=2 by show¬(3:Int)=2;decide),if_pos (show(cz 3 (e:Nat) 0 []).op=3 from rfl)];exact List.mem_cons_self ..) (.refl _)
theorem Path.sp {C:List aC} {u s o:Nat} {lz:Bool} (h:C[u]?=some (mK s o lz)):Path C u (s+1)∧Path C u o:=by
 have hn:bj u (mK s o lz)=[(mK s o lz).x,(mK s o lz).y]:=by
  unfold bj;rw[if_pos (by cases lz<;>rfl)]
 cases lz
 ·exact⟨.step h (by rw[hn];exact List.mem_cons_self ..) (.refl _),.step h (by rw[hn];exact List.mem_cons_of_mem _ (List.mem_cons_self ..)) (.refl _)⟩
 ·exact⟨.step h (by rw[hn];exact List.mem_cons_of_mem _ (List.mem_cons_self ..)) (.refl _),.step h (by rw[hn];exact List.mem_cons_self ..) (.refl _)⟩
theorem mQ {C:List aC} {c:Nat→List aC} {z:Nat} (hl:∀b,(c b).length=z) (hc:∀b,eT C b (c b)→Path C b (b+z)):∀k b,eT C b (eF c z k b)→Path C b (b+k*z)
 |0,b,_=>by rw[Nat.zero_mul];exact .refl _
 |k+1,b,h=>by
  rw[eF] at h;have h2:=h.right;rw[hl] at h2;have:=mQ hl hc k (b+z) h2;rw[Nat.succ_mul,show b+(k*z+z)=b+z+k*z by omega];exact(hc b h.left).trans this
theorem Bp {C : List aC} : ∀ (m : Nat) (t : Tr), t.flat.length ≤ m → ∀ b : Nat, t.ok → eT C b (aH t b) → Path C b (b + t.sz) := by
  intro m
  induction m with
  | zero => intro t h; have := t.gJ; omega
  | succ m ih =>
    rintro ⟨n, ks⟩ hm b hok h
    simp only [Tr.flat, List.length_cons] at hm
    simp only [Tr.ok] at hok
    have hcat : ∀ (ts : bc) (b : Nat), ts.flat.length ≤ m → ts.ok → eT C b (fg ts b) → Path C b (b + ts.sz) := by
      intro ts
      induction ts using bc.rec (motive_1 := fun _ => True) with
      | mk => trivial
      | nil => intro b _ _ _; exact .refl _
      | cons t ts _ zC =>
        intro b h1 h2 h3
        simp only [bc.flat, List.length_append] at h1
        simp only [bc.ok] at h2
        simp only [fg] at h3
        have h4 := h3.right
        rw [bW t b h2.1] at h4
        have h5 := zC (b + t.sz) (by omega) h2.2 h4
        simp only [bc.sz]
        rw [← Nat.add_assoc]
        exact (ih t (by omega) b h2.1 h3.left).trans h5
    obtain ⟨jA, jI⟩ := hok
    obtain ⟨_, hq⟩ := jA
    have ij := fun b => mj ks b jI
    simp only [aH] at h
    simp only [Tr.sz]
    have hz : ∀ s k, bh n s k = if n.op = 2 ∨ n.op = 7 ∨ n.op = 8 then 1 else if n.op = 4 then s + 2 * (k - 1) else if n.op = 6 then s + 2 else if n.op = 5 then (if n.mx = -1 then n.mn.toNat * s + s + 2 else n.mn.toNat * s + (n.mx.toNat - n.mn.toNat) * (s + 1)) else s := fun s k => rfl
    rw [hz]
    by_cases q2 : n.op = 2
    · rw [if_pos q2] at h
      rw [if_pos (.inl q2)]
      exact Path.yB h.head (by show (1 : Int) ≠ 2 ∧ (1 : Int) ≠ 3 ∧ (1 : Int) ≠ 7; decide)
    rw [if_neg q2] at h
    by_cases q7 : n.op = 7
    · rw [if_pos q7] at h
      rw [if_pos (.inr (.inl q7))]
      exact Path.yB h.head (by show (5 : Int) ≠ 2 ∧ (5 : Int) ≠ 3 ∧ (5 : Int) ≠ 7; decide)
    rw [if_neg q7] at h
    by_cases q8 : n.op = 8
    · rw [if_pos q8] at h
      rw [if_pos (.inr (.inr q8))]
      exact Path.yB h.head (by show (6 : Int) ≠ 2 ∧ (6 : Int) ≠ 3 ∧ (6 : Int) ≠ 7; decide)
    rw [if_neg q8] at h
    rw [if_neg (by omega)]
    by_cases q3 : n.op = 3
    · rw [if_pos q3] at h
      rw [if_neg (by omega), if_neg (by omega), if_neg (by omega)]
      exact hcat ks b (by omega) jI h
    rw [if_neg q3] at h
    by_cases q4 : n.op = 4
    · rw [if_pos q4] at h
      have Jx : bh n ks.sz ks.len = ks.sz + 2 * (ks.len - 1) := by rw [hz, if_neg (by omega), if_pos q4]
      rw [Jx] at h
      rw [if_pos q4]
      cases ks with
      | nil => simp only [bc.len] at hq; omega
      | cons t ts =>
        simp only [bc.len] at hq
        simp only [bc.flat, List.length_append] at hm
        simp only [bc.ok] at jI
        simp only [dR] at h
        rw [if_neg (by omega)] at h
        have h1 := (Path.sp h.head).1
        have h2 := ih t (by omega) (b + 1) jI.1 h.tail.left
        have h3 := h.tail.right
        rw [bW t _ jI.1] at h3
        exact h1.trans (h2.trans (Path.jp h3.head))
    rw [if_neg q4] at h
    rw [if_neg q4]
    by_cases q5 : n.op = 5
    · rw [if_pos q5] at h
      rw [if_neg (by omega), if_pos q5]
      unfold mP at h
      by_cases qx : n.mx = -1
      · rw [if_pos qx] at h ⊢
        have h1 := mQ ij (fun b hb => hcat ks b (by omega) jI hb) _ _ h.left
        have h2 := h.right
        rw [iE ij] at h2
        have h3 := (Path.sp h2.head).2
        rw [show b + (n.mn.toNat * ks.sz + ks.sz + 2) = b + n.mn.toNat * ks.sz + ks.sz + 2 by omega]
        exact h1.trans h3
      · rw [if_neg qx] at h ⊢
        have h1 := mQ ij (fun b hb => hcat ks b (by omega) jI hb) _ _ h.left
        have h2 := h.right
        rw [iE ij] at h2
        by_cases hd : n.mx.toNat - n.mn.toNat = 0
        · rw [hd, Nat.zero_mul, Nat.add_zero]; exact h1
        · obtain ⟨d, uS⟩ : ∃ d, n.mx.toNat - n.mn.toNat = d + 1 := ⟨n.mx.toNat - n.mn.toNat - 1, by omega⟩
          rw [uS] at h2 ⊢
          rw [eu] at h2
          have h3 := (Path.sp h2.head).2
          rw [← Nat.add_assoc]
          exact h1.trans h3
    rw [if_neg q5] at h
    by_cases q6 : n.op = 6
    · rw [if_pos q6] at h
      rw [if_pos q6]
      have h1 : Path C b (b + 1) := Path.yB h.head (by show (4 : Int) ≠ 2 ∧ (4 : Int) ≠ 3 ∧ (4 : Int) ≠ 7; decide)
      have h2 := hcat ks (b + 1) (by omega) jI h.tail.left
      have h3 := h.tail.right
      rw [ij] at h3
      have h4 : Path C (b + 1 + ks.sz) (b + 1 + ks.sz + 1) := Path.yB h3.head (by show (4 : Int) ≠ 2 ∧ (4 : Int) ≠ 3 ∧ (4 : Int) ≠ 7; decide)
      rw [show b + (ks.sz + 2) = b + 1 + ks.sz + 1 by omega]
      exact h1.trans (h2.trans h4)
    · have wE : ks.len = 0 := by omega
      have := bc.len_nil wE
      subst this
      rw [if_neg q6, if_neg q5]
      exact .refl _
theorem yG {code:List aC} {I:Nat→Prop} (hI:∀u i,I u→code[u]?=some i→∀v∈bj u i,I v.toNat):∀(f:Nat) (seen:List Bool) (dS:List Int),(∀v∈dS,I v.toNat)→(∀u:Nat,seen[u]?=some true→I u)→∀u:Nat,(uV code f seen dS)[u]?=some true→I u
 |0,seen,dS,_,h2,u,h=>h2 u h
 |f+1,seen,[],_,h2,u,h=>h2 u h
 |f+1,seen,v::dS,h1,h2,u,h=>by
  have hv:=h1 v (List.mem_cons_self ..);have hs:∀w∈dS,I w.toNat:=fun w hw=>h1 w (List.mem_cons_of_mem _ hw);unfold uV at h
  split at h
  ·split at h
   ·rename_i i hi;refine yG hI f _ _ (fun w hw=>?_) (fun w hw=>?_) u h
    ·rcases List.mem_append.1 hw with hw|hw
     ·exact hI _ i hv hi w (List.mem_reverse.1 hw)
     ·exact hs w hw
    ·by_cases he:v.toNat=w
     ·rw[←he];exact hv
     ·rw[List.getElem?_set_ne he] at hw;exact h2 w hw
   ·exact h2 u h
  ·exact yG hI f _ _ hs h2 u h
theorem AO {code:List aC} {start:Int} (hcl:gr code) (e_:0≤start∧start<(code.length:Int)) {u v:Nat} (p:Path code u v):(aR code start)[u]?=some true→(aR code start)[v]?=some true:=by
 obtain⟨ha,_,_,_⟩:=vB hcl e_
 induction p with
 |refl=>exact id
 |@step u v w i h hn _ ih=>
  intro hu;refine ih ?_
  rcases ha u i hu h _ hn with hs|hs
  ·exact cV.2 hs
  ·cases hs
theorem vA {code:List aC} {s:Nat} (hcl:gr code) (hs:s<code.length):(aR code (s:Nat))[s]?=some true:=by
 obtain⟨_,_,_,hd⟩:=vB (start:=((s:Nat):Int)) hcl ⟨by omega,by omega⟩
 rcases hd with hd|hd
 ·exact cV.2 hd
 ·cases hd
mutual
theorem Tr.MF:∀t:Tr,True
 | .mk _ _=>trivial
theorem bc.MF:∀t:bc,True
 | .nil=>trivial
 | .cons _ _=>trivial
end
theorem B2 {n:Nod} {g:Int} (h:(eE n g).2=true) (h2:n.op=2):dt n.rs=true:=by
 unfold eE at h
 split at h
 ·cases h
 ·rw[if_neg (show¬(n.op=1∨n.op=7∨n.op=8) by omega)] at h;have h:(n.kids==0 &&dt n.rs)=true:=h;rw[Bool.and_eq_true] at h;exact h.2
theorem zA {l:List Nod} {h:Nat→Nat→Option (Nat×Nat)} (ih:∀at_ g r,h at_ g=some r→at_≤r.1∧∀j n,at_≤j→j<r.1→l[j]?=some n→n.op=2→dt n.rs=true):∀k at_ g r,iM h k at_ g=some r→at_≤r.1∧∀j n,at_≤j→j<r.1→l[j]?=some n→n.op=2→dt n.rs=true
 |0,at_,g,r,e=>by
  simp only[iM,Option.some.injEq] at e;subst e;exact⟨Nat.le_refl _,fun j n h1 h2=>by simp only at h2;omega⟩
 |k+1,at_,g,r,e=>by
  unfold iM at e
  cases hq:h at_ g with
  |none=>rw[hq] at e;cases e
  |some q=>
   rw[hq] at e;obtain⟨t1,t2⟩:=ih _ _ _ hq;obtain⟨u1,u2⟩:=zA ih k _ _ _ e;refine⟨Nat.le_trans t1 u1,fun j n h1 h2 hj ho=>?_⟩
   by_cases Tp:j<q.1
   ·exact t2 j n h1 Tp hj ho
   ·exact u2 j n (by omega) h2 hj ho
theorem Cw {l:List Nod}:∀f at_ g r,gC l f at_ g=some r→at_≤r.1∧∀j n,at_≤j→j<r.1→l[j]?=some n→n.op=2→dt n.rs=true
 |0,_,_,_,e=>by simp[gC] at e
 |f+1,at_,g,r,e=>by
  unfold gC at e
  cases hn:l[at_]? with
  |none=>rw[hn] at e;cases e
  |some n=>
   rw[hn] at e;simp only at e
   split at e
   ·rename_i hs;obtain⟨u1,u2⟩:=zA (Cw f) _ _ _ _ e;refine⟨by omega,fun j m h1 h2 hj ho=>?_⟩
    by_cases Tt:j=at_
    ·subst Tt;rw[hn] at hj;cases hj;exact B2 hs ho
    ·exact u2 j m (by omega) h2 hj ho
   ·cases e
theorem B8 {l:List Nod} (h:fy l=true):D7 l:=by
 unfold fy at h;simp only[Bool.and_eq_true] at h;obtain⟨_,h⟩:=h
 split at h
 ·rename_i r hr;rw[decide_eq_true_eq] at h;obtain⟨_,h2⟩:=Cw _ _ _ _ hr;intro n hn ho;obtain⟨j,hj⟩:=List.getElem?_of_mem hn;exact h2 j n (Nat.zero_le _) (by rw[h];exact lt_get hj) hj ho
 ·cases h
structure Is (n0 r0:Nat) (C:List aC) (B:List Int) (k:Nat):Prop where
 bl:B.length=k
 fs:0<k→B[0]?=some ((n0:Nat):Int)
 el:∀j,j<k→∃(t:Tr) (b:Nat),t.ok∧D7 t.flat∧B[j]?=some (b:Int)∧n0≤b∧(∀b':Int,B[j+1]?=some b'→b'=((b+t.sz+3:Nat):Int))∧(j+1=k→n0+C.length=b+t.sz+3)∧∃pre post,C=pre++dU t b (r0+j)++post∧n0+pre.length=b
 al:∀i q,C[i]?=some q→∃j,j<k∧∃(t:Tr) (b:Nat),B[j]?=some (b:Int)∧t.ok∧D7 t.flat∧b≤n0+i∧n0+i<b+t.sz+3∧b+t.sz+3≤n0+C.length∧q∈dU t b (r0+j)∧(dU t b (r0+j))[n0+i-b]?=some q
theorem rh:∀(ls:List (List Nod)) (r:Nat) (c:List aC) (s:List Int),(dY ls r c s).e=0→∃C B,(dY ls r c s).code=c++C∧(dY ls r c s).af=s++B∧Is c.length r C B ls.length
 |[],r,c,s,h=>by
  rw[yL];exact⟨[],[],by simp,by simp,rfl,fun h=>by simp at h,fun j hj=>by simp at hj,fun i q hi=>by simp at hi⟩
 |l::ls,r,c,s,h=>by
  rw[dY] at h⊢
  by_cases hr:fy l=false
  ·rw[if_pos hr] at h;cases h
  rw[if_neg hr] at h⊢;rw[Bool.not_eq_false] at hr
  by_cases hb:400<c.length+min (cj l).sz 401+3
  ·rw[if_pos hb] at h;cases h
  rw[if_neg hb] at h⊢;obtain⟨t1,t2⟩:=tz hr;have iy:D7 (cj l).flat:=by rw[t2];exact B8 hr
  have hlen:=ky (b:=c.length) (r:=r) t1;obtain⟨C,B,h1,h2,h3⟩:=rh ls (r+1) _ _ h;rw[List.length_append,hlen] at h3;refine⟨dU (cj l) c.length r++C,((c.length:Nat):Int)::B,by rw[h1,List.append_assoc],by rw[h2,List.append_assoc];rfl,by simp[h3.bl],fun _=>rfl,fun j hj=>?_,fun i q hi=>?_⟩
  ·cases j with
   |zero=>
    refine⟨cj l,c.length,t1,iy,rfl,Nat.le_refl _,fun b' dr=>?_,fun HM=>?_,[],C,by simp,by simp⟩
    ·simp only[Nat.zero_add,List.getElem?_cons_succ] at dr;have hB:=h3.bl;have hlt:=lt_get dr;rw[h3.fs (by omega)] at dr;cases dr
     congr 1
    ·simp only[List.length_cons] at HM;have II:ls.length=0:=by omega
     have hC:C=[]:=by
      cases hc:C with
      |nil=>rfl
      |cons q C'=>
       obtain⟨j,hj,_⟩:=h3.al 0 q (by rw[hc];rfl);omega
     rw[hC,List.append_nil,hlen];omega
   |succ j=>
    simp only[List.length_cons] at hj;obtain⟨t,b,q1,q2,q3,q4,q5,q6,pre,post,q7,q8⟩:=h3.el j (by omega);refine⟨t,b,q1,q2,q3,by omega,q5,fun HM=>?_,dU (cj l) c.length r++pre,post,?_,?_⟩
    ·simp only[List.length_cons] at HM;have:=q6 (by omega);rw[List.length_append,hlen];omega
    ·rw[q7,show r+1+j=r+(j+1) by omega];simp only[List.append_assoc]
    ·rw[List.length_append,hlen];omega
  ·by_cases hil:i<(dU (cj l) c.length r).length
   ·rw[List.getElem?_append_left hil] at hi;refine⟨0,by simp,cj l,c.length,rfl,t1,iy,by omega,by omega,by rw[List.length_append,hlen];omega,List.mem_of_getElem? hi,?_⟩;rw[show c.length+i-c.length=i by omega];exact hi
   ·rw[List.getElem?_append_right (by omega)] at hi;obtain⟨j,q1,t,b,q2,q3,q4,q5,q6,q7,q8,q9⟩:=h3.al _ q hi;rw[hlen] at q5 q6 q9 hil;refine⟨j+1,by simp only[List.length_cons];omega,t,b,q2,q3,q4,by omega,by omega,by rw[List.length_append,hlen];omega,by rw[show r+(j+1)=r+1+j by omega];exact q8,?_⟩;rw[show r+(j+1)=r+1+j by omega,show c.length+i-b=c.length+((cj l).sz+3)+(i-((cj l).sz+3))-b by omega];exact q9
theorem Be {lo hi u:Nat} {i:aC} (h:cH lo hi i) (h1:lo≤u+1) (h2:u+1≤hi):∀v∈bj u i,(lo:Int)≤v∧v≤hi:=by
 intro v hv;unfold bj at hv
 rcases h with⟨a,_⟩|⟨a,_,c,d⟩|⟨a,_,_,d⟩|⟨a,_⟩|⟨a,_⟩
 ·rw[if_neg (by omega),if_neg (by omega),if_neg (by omega)] at hv;simp only[List.mem_cons,List.not_mem_nil,or_false] at hv;omega
 ·rw[if_pos a] at hv;simp only[List.mem_cons,List.not_mem_nil,or_false] at hv
  rcases hv with rfl|rfl<;>omega
 ·rw[if_neg (by omega),if_pos a] at hv;simp only[List.mem_cons,List.not_mem_nil,or_false] at hv;omega
 ·rw[if_neg (by omega),if_neg (by omega),if_neg (by omega)] at hv;simp only[List.mem_cons,List.not_mem_nil,or_false] at hv;omega
 ·rw[if_neg (by omega),if_neg (by omega),if_neg (by omega)] at hv;simp only[List.mem_cons,List.not_mem_nil,or_false] at hv;omega
theorem wO {lo hi n ns pc:Nat} {i:aC} (h:cH lo hi i) (h1:hi<n) (h2:pc+1<n):bI n ns pc i=true:=by
 have oN:∀v:Int,(lo:Int)≤v→v≤hi→iw v n=true:=fun v a b=>cS.2 ⟨by omega,by omega⟩;have hd:decide (((pc+1:Nat):Int)<n)=true:=by rw[decide_eq_true_eq];omega
 unfold bI
 rcases h with⟨a,b,c,d⟩|⟨a,b,c,d⟩|⟨a,b,c,d⟩|⟨a,b,c,d⟩|⟨a,b,c,d⟩
 ·rw[if_pos a,hd,b,c,d];rfl
 ·rw[if_neg (by omega),if_pos a,b,oN _ c.1 c.2,oN _ d.1 d.2];rfl
 ·rw[if_neg (by omega),if_neg (by omega),if_pos a,b,c,oN _ d.1 d.2];rfl
 ·rw[if_neg (by omega),if_neg (by omega),if_neg (by omega),if_pos a,b,c,hd,cS.2 ⟨d.1,d.2⟩];rfl
 ·rw[if_neg (by omega),if_neg (by omega),if_neg (by omega),if_neg (by omega),if_pos a,b,c,hd,d];rfl
theorem mO {t:Tr} {b r o:Nat} {q:aC} (h1:t.ok) (h2:D7 t.flat) (h:(dU t b r)[o]?=some q):(o<t.sz+2∧cH b (b+t.sz+2) q)∨(o=t.sz+2∧q=cz 7 (r:Nat) 0 []):=by
 have hl:=bW t (b+1) h1;have hA:dU t b r=(cz 4 0 0 []::(aH t (b+1)++[cz 4 1 0 []]))++[cz 7 (r:Nat) 0 []]:=by unfold dU;simp
 have Ue:(cz 4 0 0 []::(aH t (b+1)++[cz 4 1 0 []])).length=t.sz+2:=by simp[hl]
 rw[hA] at h
 by_cases ho:o<t.sz+2
 ·rw[List.getElem?_append_left (by omega)] at h;refine .inl ⟨ho,?_⟩;have hm:=List.mem_of_getElem? h
  rcases List.mem_cons.1 hm with rfl|hm
  ·exact cH.save (by omega)
  ·rcases List.mem_append.1 hm with hm|hm
   ·exact(jv t (b+1) h1 h2 q hm).mono (by omega) (by omega)
   ·simp only[List.mem_cons,List.not_mem_nil,or_false] at hm;subst hm;exact cH.save (by omega)
 ·rw[List.getElem?_append_right (by omega),Ue] at h;have h0:=lt_get h;simp only[List.length_cons,List.length_nil] at h0;have sU:o=t.sz+2:=by omega
  refine .inr ⟨sU,?_⟩;rw[sU,Nat.sub_self] at h;exact(Option.some.inj h).symm
structure LB (p:Pg) (r s e:Nat):Prop where
 st:p.af[r]?=some (s:Int)
 se:s<e
 el:e≤p.code.length
 nx:∀b':Int,p.af[r+1]?=some b'→b'=(e:Int)
 la:r+1=p.af.length→p.code.length=e
 mt:p.code[e-1]?=some (cz 7 (r:Nat) 0 [])
 fi:(pf p (r:Nat))[0]?=some (s:Int)
 lt:(pf p (r:Nat))[(pf p (r:Nat)).length-1]?=some ((e-1:Nat):Int)
theorem AD {X:List Int} {a b:Int} (hp:X.Pairwise (·<·)) (ha:a∈X) (hb:b∈X) (h:∀v∈X,a≤v∧v≤b):X[0]?=some a∧X[X.length-1]?=some b:=by
 obtain⟨i,hi⟩:=List.getElem?_of_mem ha;obtain⟨j,hj⟩:=List.getElem?_of_mem hb;have hil:=lt_get hi;have iV:=lt_get hj
 have hlt:∀u v (x y:Int),u<v→X[u]?=some x→X[v]?=some y→x<y:=fun u v x y R4 hx hy=>by
  have:=List.pairwise_iff_getElem.1 hp u v (lt_get hx) (lt_get hy) R4;have ex:X[u]'(lt_get hx)=x:=Option.some.inj ((List.getElem?_eq_getElem _).symm.trans hx);have ey:X[v]'(lt_get hy)=y:=Option.some.inj ((List.getElem?_eq_getElem _).symm.trans hy);rw[ex,ey] at this;exact this
 constructor
 ·obtain⟨x,hx⟩:∃x,X[0]?=some x:=⟨X[0]'(by omega),List.getElem?_eq_getElem _⟩
  have:=h x (List.mem_of_getElem? hx)
  by_cases h0:i=0
  ·rw[←h0];exact hi
  ·have:=hlt 0 i x a (by omega) hx hi;omega
 ·obtain⟨x,hx⟩:∃x,X[X.length-1]?=some x:=⟨X[X.length-1]'(by omega),List.getElem?_eq_getElem _⟩
  have:=h x (List.mem_of_getElem? hx)
  by_cases h0:j=X.length-1
  ·rw[←h0];exact hj
  ·have:=hlt j (X.length-1) b x (by omega) hj hx;omega
theorem xY {parts:List (List Nod)} (hl:parts.length≤8) (he:(compileS parts).e=0) (hcl:(compileS parts).code.length≤400):
  aX (pgV (compileS parts).code (compileS parts).af)∧(compileS parts).af.length=parts.length∧∀r,r<parts.length→∃s e,LB (pgV (compileS parts).code (compileS parts).af) r s e:=by
 have gQ:compileS parts=dY parts 0 [] []:=by unfold compileS;rw[if_neg (by omega)]
 rw[gQ] at he hcl⊢;obtain⟨C,B,h1,h2,h3⟩:=rh parts 0 [] [] he;simp only[List.nil_append] at h1 h2;simp only[List.length_nil] at h3;rw[h1] at hcl;rw[h1,h2];have Mb:=h3.bl
 have hsh:∀pc i,C[pc]?=some i→bI C.length B.length pc i=true:=by
  intro pc i hi;obtain⟨j,q1,t,b,q2,q3,q4,q5,q6,q7,q8,q9⟩:=h3.al pc i hi;rw[Nat.zero_add] at q9
  rcases mO q3 q4 q9 with⟨g1,g2⟩|⟨g1,g2⟩
  ·exact wO g2 (by omega) (by omega)
  ·rw[g2];have:iw ((j:Nat):Int) B.length=true:=cS.2 ⟨by omega,by omega⟩;unfold bI cz;simp[this]
 have Kt:gr C:=kL (p:=pgV C B) hsh
 have CV:∀r,r<parts.length→∃s e:Nat,B[r]?=some (s:Int)∧s<e∧e≤C.length∧(∀b':Int,B[r+1]?=some b'→b'=(e:Int))∧(r+1=parts.length→C.length=e)∧C[e-1]?=some (cz 7 (r:Nat) 0 [])∧(∀u:Nat,(aR C (s:Nat))[u]?=some true→s≤u∧u<e)∧(aR C (s:Nat))[s]?=some true∧(aR C (s:Nat))[e-1]?=some true∧∀u i,s≤u→u<e→C[u]?=some i→i.op=7→i.x=(r:Int):=by
  intro r hr;obtain⟨t,b,q1,q2,q3,q4,q5,q6,pre,post,q7,q8⟩:=h3.el r hr;rw[Nat.zero_add] at q6 q8;rw[Nat.zero_add] at q7;have n_:=ky (b:=b) (r:=r) q1;have IV:C.length=b+(t.sz+3)+post.length:=by rw[q7,List.length_append,List.length_append,n_,q8]
  have g_:∀u,b≤u→u<b+t.sz+3→C[u]?=(dU t b r)[u-b]?:=fun u g1 g2=>by
   rw[q7,List.append_assoc,List.getElem?_append_right (by omega),q8,List.getElem?_append_left (by omega)]
  have jn:eT C b (dU t b r):=⟨post,by rw[q7,List.append_assoc,←q8,List.drop_left]⟩
  have oN:∀u:Nat,(aR C (b:Nat))[u]?=some true→b≤u∧u<b+t.sz+3:=by
   unfold aR;refine yG (I:=fun u=>b≤u∧u<b+t.sz+3) (fun u i hu hi v hv=>?_) _ _ _ (fun v hv=>?_) (fun u hu=>?_)
   ·rw[g_ u hu.1 hu.2] at hi
    rcases mO q1 q2 hi with⟨g1,g2⟩|⟨g1,g2⟩
    ·have:=Be (u:=u) g2 (by omega) (by omega) v hv;omega
    ·rw[g2] at hv;have:bj u (cz 7 (r:Nat) 0 [])=[]:=by unfold bj cz;simp
     rw[this] at hv;cases hv
   ·simp only[List.mem_cons,List.not_mem_nil,or_false] at hv;subst hv;rw[Int.toNat_natCast];omega
   ·rw[List.getElem?_replicate] at hu
    split at hu<;>cases hu
  have hs:=vA (s:=b) Kt (by omega)
  have SU:C[b+t.sz+3-1]?=some (cz 7 (r:Nat) 0 []):=by
   rw[g_ _ (by omega) (by omega)];unfold dU;have ux:=bW t (b+1) q1;rw[show b+t.sz+3-1-b=(t.sz+1)+1 by omega,List.getElem?_cons_succ,List.getElem?_append_right (by omega),ux,show t.sz+1-t.sz=1 by omega]
   rfl
  have JM:Path C b (b+t.sz+3-1):=by
   unfold dU at jn;have p1:Path C b (b+1):=Path.yB jn.head (by show(4:Int)≠2∧(4:Int)≠3∧(4:Int)≠7;decide);have p2:=Bp (C:=C) _ t (Nat.le_refl _) (b+1) q1 jn.tail.left;have h4:=jn.tail.right;rw[bW t _ q1] at h4;have p3:Path C (b+1+t.sz) (b+1+t.sz+1):=Path.yB h4.head (by show(4:Int)≠2∧(4:Int)≠3∧(4:Int)≠7;decide);rw[show b+t.sz+3-1=b+1+t.sz+1 by omega];exact p1.trans (p2.trans p3)
  refine⟨b,b+t.sz+3,q3,by omega,by omega,fun b' dr=>q5 b' dr,q6,SU,oN,hs,AO Kt ⟨by omega,by omega⟩ JM hs,fun u i g1 g2 hi ho=>?_⟩;rw[g_ u g1 g2] at hi
  rcases mO q1 q2 hi with⟨_,g3⟩|⟨_,g3⟩
  ·rcases g3 with⟨a,_⟩|⟨a,_⟩|⟨a,_⟩|⟨a,_⟩|⟨a,_⟩<;>omega
  ·rw[g3];rfl
 have hR:aX (pgV C B):=by
  refine⟨hcl,by show B.length≤8;omega,hsh,fun v hv=>?_,fun r s hs pc i wv JH hi ho=>?_⟩
  ·obtain⟨r,hr⟩:=List.getElem?_of_mem (show v∈B from hv);obtain⟨s,e,g1,g2,g3,_⟩:=CV r (by rw[←Mb];exact lt_get hr);rw[g1] at hr;cases hr;show(0:Int)≤(s:Int)∧(s:Int)<(C.length:Int);omega
  ·have hs:B[r]?=some s:=hs;obtain⟨s',e,g1,g2,g3,g4,g5,g6,g7,g8,g9,g10⟩:=CV r (by rw[←Mb];exact lt_get hs);rw[g1] at hs;cases hs;obtain⟨k1,k2⟩:=g7 pc JH;exact g10 pc i k1 k2 hi ho
 refine⟨hR,by rw[Mb],fun r hr=>?_⟩;obtain⟨s,e,g1,g2,g3,g4,g5,g6,g7,g8,g9,g10⟩:=CV r hr
 have Qg:pf (pgV C B) (r:Nat)=pw 0 (aR C (s:Nat)):=by
  unfold pf;have hi:iw ((r:Nat):Int) (pgV C B).af.length=true:=cS.2 ⟨by omega,by show((r:Nat):Int)<(B.length:Nat);omega⟩;rw[bR hR,hi]
  have FB:(pgV C B).af.getD ((r:Nat):Int).toNat 0=(s:Int):=by
   rw[Int.toNat_natCast,List.getD_eq_getElem?_getD];show(B[r]?).getD 0=_;rw[g1];rfl
  rw[FB];rfl
 have Gt:=AD (sx (aR C (s:Nat)) 0) (a:=(s:Int)) (b:=((e-1:Nat):Int)) (iH.2 ⟨s,g8,by rw[Nat.zero_add]⟩) (iH.2 ⟨e-1,g9,by rw[Nat.zero_add]⟩) (fun v hv=>by
  obtain⟨k,k1,k2⟩:=iH.1 hv;have:=g7 k k1
  omega)
 exact⟨s,e,g1,g2,g3,fun b' dr=>g4 b' dr,fun hr1=>g5 (by rw[←Mb];exact hr1),g6,by rw[Qg];exact Gt.1,by rw[Qg];exact Gt.2⟩
def lv (fr:Go.V.Fr) (k:Nat):Go.V.D:=Go.V.nth .junk fr.loc k
theorem ti:∀(ls:List (List Nod)) (r:Nat) (c:List aC) (s:List Int),(dY ls r c s).e≠0→(dY ls r c s).code=[]∧(dY ls r c s).af=[]
 |[],r,c,s,h=>by rw[nB] at h;exact absurd rfl h
 |l::ls,r,c,s,h=>by
  rw[dY] at h⊢
  split
  ·exact⟨rfl,rfl⟩
  ·rename_i h1;rw[if_neg h1] at h
   split
   ·exact⟨rfl,rfl⟩
   ·rename_i h2;rw[if_neg h2] at h;exact ti ls _ _ _ h
theorem oj {ls:List (List Nod)} (h:(compileS ls).e≠0):(compileS ls).code=[]∧(compileS ls).af=[]:=by
 unfold compileS at h⊢
 split
 ·exact⟨rfl,rfl⟩
 ·rename_i h1;rw[if_neg h1] at h;exact ti _ _ _ _ h
theorem xB:aX (pgV [] []):=⟨by simp[pgV],by simp[pgV],fun pc i h=>by simp[pgV] at h,fun v h=>by simp[pgV] at h,fun r s h=>by simp[pgV] at h⟩
theorem rS {ls:List (List Nod)} (hl:ls.length≤8) (hcl:(compileS ls).code.length≤400):aX (pgV (compileS ls).code (compileS ls).af):=by
 by_cases he:(compileS ls).e=0
 ·exact(xY hl he hcl).1
 ·rw[(oj he).1,(oj he).2];exact xB
theorem xZ {s0:St} {x:D} {ps:List (List UInt8)} (hx:V.Rows s0 1 x (ps.map strC)) (hl:ps.length≤1048576) (hb:∀b∈ps,b.length≤1048576):∃d,Ev pv 12 [x] s0 d s0∧∃(ls:List (List Nod)) (R:rD),compileS ls=R∧ls.length≤8∧R.code.length≤400∧d=.tup [(pgV R.code R.af).d,.bool (R.e==0)]∧(pgV R.code R.af).ok:=by
 refine Ev.Bx rfl Pk rfl rfl rfl ?_;refine zE ?_;obtain⟨hSb,hF,hH⟩:=ri s0;generalize enterSt .ro s0=S at*;have hx:=Arg.of hx hSb;refine zQ 2 ?_;refine qa hH fun k2 st hk2 hH=>?_;refine zQ 11 ?_;have hH:Has s0.bs.length S st (.lst .nul 1 (([]:List (List Nod)).map partC)::.box k2 (.mem 0 false [.nul,.nul])::[]):=hH.nulE 1;refine zQ 1 ?_;refine EvC.loop (fun mm fr st=>∃(i:Nat) (ld:D) (parts:List (List Nod)),fr.clean=⟨11,[x,lv fr 1,.ptr k2 0 0,.bool false,ld,.int .i64 (i:Nat),lv fr 6,lv fr 7,lv fr 8,lv fr 9,lv fr 10],[]⟩∧Has s0.bs.length S st [.lst ld 1 (parts.map partC),.box k2 (.mem 0 false [.nul,.nul])]∧(i+mm=8)∧(∀l∈parts,(∀n∈l,NdV n)∧l.length≤500)∧(parts.length≤i)) (8) ?_ ?_
 ·exact⟨0,.nul,[],rfl,hH,by omega,fun l hl=>(by cases hl),by simp⟩
 rintro mm fr st ⟨i,ld,parts,hfr,hH,hi,hp,hpl⟩;rw[hfr];clear hfr;generalize lv fr=ee;clear fr;refine zQ 2 ?_;refine EvC.cutT 19 (.bool (decide (((i:Nat):Int)<((ps.length:Nat):Int)) &&decide (((i:Nat):Int)<8))) [] ?_ (fun ff tmp htmp=>?_)
 ·refine zQ 2 ?_;refine qn ?_;simp only[List.length_map];refine zQ 2 ?_;refine EvO.two 16 rfl (fun hg4=>?_) (fun hg4=>?_)
  ·refine zQ 3 ?_;refine EvO.nil (leafT ?_ ?_)
   ·dsimp only[setW,List.foldl,nth,u2,u1]
    all_goals(first|rfl|simp)
   ·refine zF ?_
    all_goals(simp_all;done)
  ·refine zQ 3 ?_;refine EvO.nil (leafT ?_ ?_)
   ·dsimp only[setW,List.foldl,nth,u2,u1]
    all_goals(first|rfl|simp)
   ·refine zF ?_
    all_goals(simp_all;omega)
 refine zG ?_
 by_cases hlt:i<ps.length∧i<8
 ·obtain⟨b,hbb⟩:∃b,ps[i]?=some b:=⟨ps[i]'hlt.1,List.getElem?_eq_getElem _⟩
  have hr1:=str_get hbb;have hbl:=hb b (List.mem_of_getElem? hbb);have zU:(decide (((i:Nat):Int)<((ps.length:Nat):Int)) &&decide (((i:Nat):Int)<8))=true:=by rw[Bool.and_eq_true,decide_eq_true_eq,decide_eq_true_eq];omega
  rw[zU] at htmp;refine zQ 4 ?_;obtain⟨_,hev,l,e,w,rfl,hv,hll⟩:=Cp (s0:=st) hbl;refine zQ 4 ?_;refine qr fun GP yj=>?_;refine qR ?_;refine qv (hev) ?_;refine zQ 13 ?_;refine zI (fun he=>?_) fun he=>?_
  ·refine zQ 3 ?_;refine qh (s:=1) (vs:=[_]) hH fun k35 st Tk hH=>?_;refine EvO.happend (s:=1) hH rfl (ev rfl) (ev rfl) (by exact at1) (by exact hH.rows (by exact at0)) rfl rfl rfl rfl rfl rfl rfl ⟨(Nat.le_of_ble_eq_true rfl),(Nat.le_of_ble_eq_true rfl)⟩ (fun _=>(put_T rfl _)) (by simp only[List.length_cons,List.length_nil,List.length_map]<;>omega) (by exact .inl hF) (fun Rb st hH=>?_);dsimp only[u2,u1,u3,u4,setMany,u5,u6,D.cells,Nat.reduceAdd,partC,compD,Pg.d,Pg.cs,pgV] at hH;refine zQ 2 ?_;have hH:=hH.drop 1;refine zQ 5 ?_;refine⟨mm-1,by omega,⟨i+1,Rb,parts++[l],rfl,(by rw[List.map_append];exact hH),by omega,?_,by rw[List.length_append];simp only[List.length_cons,List.length_nil];omega⟩⟩;intro l' hl'
   rcases List.mem_append.1 hl' with hl'|hl'
   ·exact hp l' hl'
   ·simp only[List.mem_cons,List.not_mem_nil,or_false] at hl';subst hl';exact⟨hv,hll⟩
  ·refine zQ 6 ?_;exact⟨mm-1,by omega,⟨i+1,ld,parts,rfl,hH,by omega,hp,by omega⟩⟩
 ·have zU:(decide (((i:Nat):Int)<((ps.length:Nat):Int)) &&decide (((i:Nat):Int)<8))=false:=by
   rw[Bool.and_eq_false_iff,decide_eq_false_iff_not,decide_eq_false_iff_not];omega
  rw[zU] at htmp;refine zQ 2 ?_;obtain⟨hev,hok,hlen⟩:=comp_parts hp (by omega) (hH.rows at0);generalize T1:compileS parts=R at*;refine zQ 3 ?_;refine qv (hev) ?_;refine zQ 4 ?_;refine qa hH fun k9 st NK hH=>?_;refine qS hH at0 fun st hH=>?_;dsimp only[u2,u1,u3,u4,setMany,u5,u6,D.cells,Nat.reduceAdd,partC,compD,Pg.d,Pg.cs,pgV] at hH;refine zQ 5 ?_;refine EvO.hloadS (m:=2) hH rfl (ev rfl) (by exact at0) (by dsimp only[List.drop_succ_cons,List.drop_zero,List.take_succ_cons,List.take_zero,partC,compD,Pg.d,Pg.cs,pgV]<;>rfl) rfl rfl (put_T rfl _) ?_;refine zQ 2 ?_;refine qS hH at2 fun st hH=>?_;dsimp only[u2,u1,u3,u4,setMany,u5,u6,D.cells,Nat.reduceAdd,partC,compD,Pg.d,Pg.cs,pgV] at hH;refine zQ 2 ?_;refine EvC.ret ⟨rx,_,_,hH.jN rfl at2 rfl rfl,rl hSb hH (show _=some (D.tup [(pgV R.code R.af).d,.bool (R.e==0)]) from rfl),⟨parts,R,T1,by omega,hlen,rfl,hok⟩⟩
theorem AY {s0:St} {x:D} {ps:List (List UInt8)} (hx:V.Rows s0 1 x (ps.map strC)) (hl:ps.length≤1048576) (hb:∀b∈ps,b.length≤1048576):∃d,Ev pv 12 [x] s0 d s0∧∃(p:Pg) (ok:Bool),d=.tup [p.d,.bool ok]∧p.ok∧aX p:=by
 obtain⟨d,hev,ls,R,rfl,NI,hcl,rfl,hok⟩:=xZ (s0:=s0) hx hl hb;exact⟨_,hev,_,_,rfl,hok,rS NI hcl⟩
end Go.Proofs.YtnleclohocdkaaaGreat
namespace Go.V
variable{N:Nat} {S st:St} {H:List aP}
theorem Has.iD (A B:List aP) (h:Has N S st (A++(B++H))):Has N S st (B++(A++H)):=by
 refine h.sub (fun i=>if i<B.length then i+A.length else if i<B.length+A.length then i-B.length else i) (fun a b e=>?_) fun i e hi=>?_
 ·have e':(if a<B.length then a+A.length else if a<B.length+A.length then a-B.length else a)=(if b<B.length then b+A.length else if b<B.length+A.length then b-B.length else b):=e
  repeat' split at e'
  all_goals omega
 ·show(A++(B++H))[if i<B.length then i+A.length else if i<B.length+A.length then i-B.length else i]?=some e
  by_cases h1:i<B.length
  ·rw[if_pos h1,List.getElem?_append_right (by omega),Nat.add_sub_cancel,List.getElem?_append_left h1]
   rwa [List.getElem?_append_left h1] at hi
  ·rw[List.getElem?_append_right (by omega)] at hi
   by_cases h2:i<B.length+A.length
   ·rw[if_neg h1,if_pos h2,List.getElem?_append_left (by omega)]
    rwa [List.getElem?_append_left (by omega)] at hi
   ·rw[if_neg h1,if_neg h2,List.getElem?_append_right (by omega),List.getElem?_append_right (by omega)];rw[List.getElem?_append_right (by omega)] at hi;rw[←hi];congr 1;omega
theorem Has.dL {j:Nat} {e:aP} (h:Has N S st (e::H)) (hj:j<H.length):Has N S st (H.set j e):=
 Has.back (h.erase (j+1)) hj
theorem Has.pJ {j k:Nat} {e:aP} (h:Has N S st H) (hj:H[j]?=some e) (hk:e.K k):k+1≤st.bs.length:=((h.ok j e hj).2 k hk).2
theorem dQ {x y:Oper} {fi fj:Fr} {si oE sj D6:St} {a:Operand} {k av off v:Nat} {ar:Bool} {c:List D} (hy:fO y.op=none) (hx:fO x.op=some a) (ha:fi.ev a=.ptr k av off) (h1:sj.bs[k]?=some (.mem v ar c)) (h2:D6.bs[k]?=some (.mem v ar c)) (h3:si.bs[k]?=some (.mem v ar c)) (hr:refs c≤si.bs.length):gB x fi si oE y fj sj D6=true:=by
 unfold gB;simp only[hy,hx,ha,D.lF,Bool.and_eq_true];refine⟨mI h1 h2,?_⟩;unfold lh;simp only[h3]
 split
 ·rfl
 ·simpa using hr
theorem Has.clear {P:Pv} {j:Nat} {x:D} {s:Nat} {es:List (List D)} {t e:TypeId} {z:List D} (h:Has N S st H) (hj:H[j]?=some (.lst x s es)) (ht:P.bP t=some (.slice e)) (hz:cE P e=some z) (jF:z.length=s) (hr:refs z=0):
  ∃ab,j_ P [t] x st=some (.tup [],ab)∧Has N S ab (H.set j (.lst x s (List.replicate es.length z))):=by
 have wE:=(h.ok j _ hj).2;have hown:=h.own hj
 have iV:j<H.length:=by
  rcases Nat.lt_or_ge j H.length with h'|h'
  ·exact h'
  ·rw[List.getElem?_eq_none h'] at hj;cases hj
 cases hown with
 |nul=>
  refine⟨st,by simp only[j_,ht],?_⟩
  have:H.set j (.lst .nul s (List.replicate ([]:List (List D)).length z))=H:=by
   refine List.ext_getElem? fun i=>?_
   by_cases hi:i=j
   ·subst hi;rw[List.getElem?_set_self iV,hj];rfl
   ·rw[List.getElem?_set_ne (fun e=>hi e.symm)]
  rw[this];exact h
 |win k av off es c hm hle hc he=>
  have hk:=wE k (by simp only[aP.lst,D.ref])
  have Gh:∀n,refs (Go.V.dL n z)=0:=by
   intro n;unfold Go.V.dL
   induction n with
   |zero=>rfl
   |succ n ih=>
    rw[List.replicate_succ,List.flatten_cons]
    have FI:∀(a b:List D),refs a=0→refs b=0→refs (a++b)=0:=by
     intro a
     induction a with
     |nil=>intro b _ hb;exact hb
     |cons d a Eb=>
      intro b ha hb;simp only[refs,List.cons_append] at ha⊢;have:=Eb b (by omega) hb;omega
    exact FI _ _ hr ih
  have xl:(Go.V.dL es.length z).length=es.length*s:=by
   unfold Go.V.dL;rw[cm (s:=s) (fun e he=>by rw[(List.mem_replicate.1 he).2];exact jF),List.length_replicate]
  have hw:st.wr k av off (Go.V.dL es.length z)=some ⟨st.bs.set k (.mem av true (c.take off++Go.V.dL es.length z++c.drop (off+(Go.V.dL es.length z).length))),st.flr,st.ro⟩:=lf hm (by omega) (fS h hk.1 (.inr (Gh _)));refine⟨_,by simp only[j_,ht,hz,Option.bind_some];rw[if_pos jF,hw];rfl,?_⟩;refine h.BO hj (fun n hn hne=>?_) (by simp) rfl rfl ?_ (fun n hn=>.inl hn) fun n hn=>?_
  ·simp only;rw[List.getElem?_set_ne (fun e=>hne (by simp only[aP.lst,D.ref];omega))]
  ·have Da:∀e'∈List.replicate es.length z,e'.length=s:=fun e' oP=>by rw[(List.mem_replicate.1 oP).2];exact jF
   have:=gf.win (st:=⟨st.bs.set k (.mem av true (c.take off++Go.V.dL es.length z++c.drop (off+(Go.V.dL es.length z).length))),st.flr,st.ro⟩) (s:=s) k av off (List.replicate es.length z) (c.take off++Go.V.dL es.length z++c.drop (off+(Go.V.dL es.length z).length))
    (by simp only;rw[List.getElem?_set_self hk.2]) (by rw[List.length_replicate];simp;omega) ?_ Da
   ·rw[List.length_replicate] at this;exact this
   ·rw[List.length_replicate,List.append_assoc,List.drop_append_of_le_length (by simp;omega),List.drop_take,Nat.sub_self,List.take_zero,List.nil_append,←xl,List.take_left']
    ·rfl
    ·rfl
  ·simp only[aP.lst,D.ref] at hn;have:n=k:=by omega
   subst this
   simpa using hk.2
variable{P:Pv} {ops:Array Oper} {rest:List Oper} {fr aA:Fr} {Q:Fr→St→Prop} {ty:TypeId} {pp:String} {a:Array Edge} {g:Option (Nat×Bool)} {dst:Nat}
theorem EvO.GW {j:Nat} {x:D} {s:Nat} {es:List (List D)} {t e:TypeId} {z:List D} {xo:Operand} (hH:Has N S st H) (hg:aw ops fr ⟨none,.call ⟨.builtin .clear,#[xo],#[t]⟩,ty,pp,a,g⟩=some true) (hx:fr.ev xo=x) (hj:H[j]?=some (.lst x s es)) (ht:P.bP t=some (.slice e)) (hz:cE P e=some z) (jF:z.length=s) (hr:refs z=0)
  (h:∀ab,Has N S ab (H.set j (.lst x s (List.replicate es.length z)))→EvO P ops rest fr ab Q):EvO P ops (⟨none,.call ⟨.builtin .clear,#[xo],#[t]⟩,ty,pp,a,g⟩::rest) fr st Q:=by
 obtain⟨ab,h1,h2⟩:=hH.clear hj ht hz jF hr;refine EvO.N hg rfl (d:=.tup []) (st1:=ab) ?_ (h _ h2);simp only[cZ,List.map_cons,List.map_nil,hx,aV,List.toList_toArray];exact h1
theorem dG {st:St} {s:Nat} {x:D} {es:List (List D)} (h:V.Rows st s x es):x.cells?=some [x]:=by cases h<;>rfl
end Go.V
namespace Go.Proofs.YtnleclohocdkaaaGreat
open Go.V Go
def fF (n:Nat):List D:=[.int .i64 (n:Nat)]
def ni (n:Nat):List D:=[.int .i64 (n:Nat),.bool true]
theorem vN {l:List Nat} {i q:Nat} (h:l[i]?=some q):(l.map fF)[i]?=some (fF q):=by rw[List.getElem?_map,h];rfl
theorem E2 {l:List Nat} {i q:Nat} (h:l[i]?=some q):(l.map ni)[i]?=some (ni q):=by rw[List.getElem?_map,h];rfl
structure cy (P Q:List Nat) (seen:List Bool):Prop where
 len:P.length=seen.length
 mem:∀(i p:Nat),P[i]?=some p→seen[i]?=some (decide (Q[p]?=some i))
 cnt:Q.length=seen.count true
 small:seen.length≤4096
def D0 (N:Nat) (S st:St) (ks:Nat) (seen:List Bool) (H:List aP):Prop:=
 ∃pd qd P Q,Has N S st (.box ks (.mem 0 false [pd,qd])::.lst pd 1 (P.map fF)::.lst qd 2 (Q.map ni)::H)∧cy P Q seen
theorem cy.get {P Q:List Nat} {seen:List Bool} (h:cy P Q seen) {i:Nat} {b:Bool} (hi:seen[i]?=some b):∃p,P[i]?=some p∧b=decide (Q[p]?=some i):=by
 have hl:=lt_get hi;have pX:=h.len;refine⟨P[i]'(by omega),List.getElem?_eq_getElem _,?_⟩;have:=h.mem i _ (List.getElem?_eq_getElem (by omega));rw[hi] at this;exact Option.some.inj this
theorem cy.add {P Q:List Nat} {seen:List Bool} (h:cy P Q seen) {i:Nat} (hi:seen[i]?=some false):cy (P.set i Q.length) (Q++[i]) (seen.set i true):=by
 have hl:=lt_get hi;have pX:=h.len;refine⟨by simp[pX],fun j p hj=>?_,?_,by rw[List.length_set];exact h.small⟩
 ·by_cases hij:j=i
  ·subst hij;rw[List.getElem?_set_self (by omega)] at hj⊢;cases hj;simp
  ·rw[List.getElem?_set_ne (fun e=>hij e.symm)] at hj⊢;rw[h.mem j p hj]
   congr 2
   rcases Nat.lt_trichotomy p Q.length with hp|hp|hp
   ·rw[List.getElem?_append_left hp]
   ·subst hp;have hne:¬i=j:=fun e=>hij e.symm;simp[hne]
   ·rw[List.getElem?_eq_none (by omega),List.getElem?_eq_none (by simp;omega)]
 ·have h1:=List.length_eq_countP_add_countP (fun b=>b==true) (l:=seen);have h2:=List.length_eq_countP_add_countP (fun b=>b==true) (l:=seen.set i true);have h3:=count_set hi
  have e1:∀l:List Bool,l.countP (fun a=>decide (¬(a==true)=true))=l.count false:=by
   intro l;unfold List.count;congr 1;funext b;cases b<;>rfl
  have e2:∀l:List Bool,l.countP (fun a=>a==true)=l.count true:=fun l=>rfl;rw[e1,e2] at h1 h2;rw[List.length_append,h.cnt];simp only[List.length_set,List.length_cons,List.length_nil] at h2⊢;omega
theorem cy.clear {P Q:List Nat} {seen:List Bool} (h:cy P Q seen):cy P [] (List.replicate seen.length false):=by
 refine⟨by rw[List.length_replicate];exact h.len,fun i p hi=>?_,?_,by rw[List.length_replicate];exact h.small⟩
 ·have:=lt_get hi;have:=h.len;rw[List.getElem?_replicate,if_pos (by omega)];simp
 ·rw[List.count_replicate];simp
theorem cy.jY {P Q:List Nat} {seen:List Bool} (h:cy P Q seen):Q.length≤4096:=by
 have:=h.cnt;have:=h.small;have:=List.count_le_length (a:=true) (l:=seen);omega
theorem Ax {N ks:Nat} {S s0:St} {H:List aP} {seen:List Bool} {i:Nat} {b:Bool} (hi:seen[i]?=some b) {pd qd:D} {P Q:List Nat} (hok:cy P Q seen) (hH:Has N S s0 (.box ks (.mem 0 false [pd,qd])::.lst pd 1 (P.map fF)::.lst qd 2 (Q.map ni)::H)):
  ∃r ab,Ev pv 122 [.ptr ks 0 0,.int .i64 (i:Nat)] s0 r ab∧r=.bool b∧ab=s0:=by
 obtain⟨p,hp,rfl⟩:=hok.get hi;have hl:=lt_get hp;have pX:=hok.len;have Sd:=hok.small;have hr1:=vN hp
 have eM:(⟨(enterSt .rw s0).bs.take s0.bs.length,s0.flr,s0.ro⟩:St)=s0:=by
  show(⟨s0.bs.take s0.bs.length,s0.flr,s0.ro⟩:St)=s0;rw[List.take_length]
 refine Ev.iI rfl Lg rfl rfl rfl ?_;refine zE ?_;have bY:=hH;have hH:=hH.cg;have bZ:(enterSt .rw s0).bs=s0.bs:=rfl;generalize enterSt .rw s0=S2 at*;refine zQ 4 ?_;have bL:decide (((i:Nat):Int)<0)=false:=by rw[decide_eq_false];omega
 refine zQ 2 ?_;refine EvC.cutT 16 (.bool false) [] ?_ (fun ff tmp htmp=>?_)
 ·refine zQ 8 ?_;refine qn ?_ (hR:=hH.rows at1) (hg:=wi bL);simp only[List.length_map];refine zQ 2 ?_;refine EvO.nil (leafT ?_ ?_)
  ·dsimp only[setW,List.foldl,nth,u2,u1]
   all_goals(first|rfl|simp)
  ·refine zF ?_
   all_goals(simp_all;done)
 dsimp only[setW,List.foldl,nth,u2,u1];refine zQ 9 ?_;refine qi hH at1 fun Jc C5=>?_;refine zQ 3 ?_
 by_cases hq:p<Q.length
 ·obtain⟨q,JL⟩:∃q,Q[p]?=some q:=⟨Q[p]'hq,List.getElem?_eq_getElem _⟩
  have kW:=E2 JL;have oO:decide (((p:Nat):Int)<((Q.length:Nat):Int))=true:=by rw[decide_eq_true_eq];omega
  refine zQ 7 ?_;refine qn ?_ (hR:=hH.rows at2);simp only[List.length_map];refine zQ 7 ?_;refine qi hH at2 (fun LK Fq=>?_) (hg:=wi oO);refine EvO.da (fo:=0) (m:=0) (o2:=0) (wantD_is rfl rfl rfl oO) (ev rfl) (by assumption) rfl rfl rfl (fun _=>(put_T rfl _)) (fun PV JP=>?_);refine zQ 6 ?_;refine EvC.ret ⟨rx,_,_,_,rfl,ag (rfl),?_⟩;refine⟨?_,eM⟩
  have hd:(((q:Nat):Int)==((i:Nat):Int))=decide (Q[p]?=some i):=by
   rw[JL]
   by_cases h:q=i
   ·simp[h]
   ·simp[h];omega
  exact congrArg D.bool hd
 ·have oO:decide (((p:Nat):Int)<((Q.length:Nat):Int))=false:=by rw[decide_eq_false];omega
  refine zQ 7 ?_;refine qn ?_ (hR:=hH.rows at2);simp only[List.length_map];refine zQ 15 ?_;refine EvC.ret ⟨rx,_,_,_,rfl,ag (rfl),?_⟩;refine⟨?_,eM⟩;rw[List.getElem?_eq_none (by omega)];rfl
theorem Ay {N ks:Nat} {S s0:St} {H:List aP} {seen:List Bool} {i:Nat} {b:Bool} (hF:S.flr≤N) (hi:seen[i]?=some b) (hH:D0 N S s0 ks seen H):
  ∃r ab,Ev pv 104 [.ptr ks 0 0,.int .i64 (i:Nat),.bool true] s0 r ab∧r=.bool (!b)∧D0 N S ab ks (seen.set i true) H:=by
 obtain⟨pd,qd,P,Q,hH,hok⟩:=hH;have hl:=lt_get hi;have pX:=hok.len;have Sd:=hok.small;have Gi:=hok.jY;obtain⟨p0,SQ,_⟩:=hok.get hi;have hr1:=vN SQ;refine Ev.iI rfl Lr rfl rfl rfl ?_;refine zE ?_;change EvC _ _ _ _ s0 _;refine zQ 4 ?_;have bL:decide (((i:Nat):Int)<0)=false:=by rw[decide_eq_false];omega
 have bt:decide (((i:Nat):Int)≥((P.length:Nat):Int))=false:=by rw[decide_eq_false];omega
 obtain⟨_,st,hev,rfl,rfl⟩:=Ax hi hok hH;refine zQ 2 ?_;refine EvC.cutT 22 (.bool b) [] ?_ (fun ff tmp htmp=>?_)
 ·refine zQ 8 ?_;refine qn ?_ (hR:=hH.rows at1) (hg:=wi bL);simp only[List.length_map];refine zQ 5 ?_;refine qv hev ?_ (hg:=wi bt);refine zQ 1 ?_;refine EvO.nil (leafT ?_ ?_)
  ·dsimp only[setW,List.foldl,nth,u2,u1]
   all_goals(first|rfl|simp)
  ·dsimp only[Fr.putO,Fr.put,Fr.clean,Fr.ev,Fr.get,nth,look,u1,u2,v1,v2,v4]
   all_goals(first|rfl|(simp[bL,bt];done)|(simp_all;done)|(simp[bL,bt];omega)|(simp_all;omega))
 dsimp only[setW,List.foldl,nth,u2,u1]
 cases b with
 |true=>
  refine zQ 5 ?_;refine EvC.ret ⟨rx,_,_,_,rfl,rfl,?_⟩;refine⟨rfl,pd,qd,P,Q,hH,?_⟩
  have:seen.set i true=seen:=by
   refine List.ext_getElem? fun j=>?_
   by_cases hj:j=i
   ·subst hj;rw[List.getElem?_set_self hl,hi]
   ·rw[List.getElem?_set_ne (fun e=>hj e.symm)]
  rw[this];exact hok
 |false=>
  refine zQ 13 ?_;refine qn ?_ (hR:=hH.rows at2);simp only[List.length_map];refine qi hH at1 fun Vc SP=>?_;refine EvO.eW hH rfl (ev rfl) (ev rfl) (by assumption) rfl rfl (by exact at1) (by assumption) (Nat.le_of_ble_eq_true rfl) (by exact .inl hF) (fun st hH=>?_);dsimp only[u2,u1,u3,u4,setMany,u5,u6,D.cells,Nat.reduceAdd,fF,ni] at hH;refine zQ 11 ?_;refine qh (s:=2) (vs:=[_]) hH fun k42 st Ti hH=>?_;dsimp only[u2,u1,u3,u4,setMany,u5,u6,D.cells,Nat.reduceAdd,fF,ni] at hH;refine EvO.happend (s:=2) hH rfl (ev rfl) (ev rfl) (by exact at3) (by exact hH.rows (by exact at0)) rfl rfl rfl rfl rfl rfl rfl ⟨(Nat.le_of_ble_eq_true rfl),(Nat.le_of_ble_eq_true rfl)⟩ (fun _=>(put_T rfl _)) (by simp only[List.length_cons,List.length_nil,List.length_map]<;>omega) (by exact .inl hF) (fun Ra st hH=>?_);dsimp only[u2,u1,u3,u4,setMany,u5,u6,D.cells,Nat.reduceAdd,fF,ni] at hH;refine zQ 2 ?_;refine qT hH at1 (fun st hH=>?_) (gQ:=hH.ocells at3);dsimp only[u2,u1,u3,u4,setMany,u5,u6,D.cells,Nat.reduceAdd,fF,ni] at hH;refine zQ 5 ?_;refine EvC.ret ⟨rx,_,_,_,rfl,rfl,?_⟩;refine⟨rfl,pd,Ra,P.set i Q.length,Q++[i],?_,hok.add hi⟩;rw[List.map_set,List.map_append];exact hH.drop 1
theorem vg {N ks:Nat} {S s0:St} {H:List aP} {seen:List Bool} (hF:S.flr≤N) (hH:D0 N S s0 ks seen H):
  ∃r ab,Ev pv 102 [.ptr ks 0 0] s0 r ab∧r=.tup []∧D0 N S ab ks (List.replicate seen.length false) H:=by
 obtain⟨pd,qd,P,Q,hH,hok⟩:=hH;have Gi:=hok.jY;refine Ev.iI rfl Lt rfl rfl rfl ?_;refine zE ?_;change EvC _ _ _ _ s0 _;refine zQ 6 ?_;refine EvO.GW hH rfl (ev rfl) at2 rfl rfl rfl rfl (fun st hH=>?_);dsimp only[u1,u2] at hH;refine zQ 7 ?_;refine EvO.xP hH rfl (ev rfl) (by exact at2) rfl rfl (nF (by simp only[List.length_map,List.length_reverse,List.length_cons,List.length_append,List.length_nil,List.length_take,List.length_drop,List.length_set,List.length_replicate];omega)) ⟨(by omega),(by simp only[List.length_map,List.length_reverse,List.length_cons,List.length_append,List.length_nil,List.length_take,List.length_drop,List.length_set,List.length_replicate];omega)⟩ (fun _=>(put_T rfl _)) (fun UE hH=>?_);refine zQ 2 ?_;refine qT hH at0 (fun st hH=>?_) (gQ:=hH.ocells at2);dsimp only[u2,u1,u3,u4,setMany,u5,u6,D.cells,Nat.reduceAdd,fF,ni] at hH;refine zQ 1 ?_;refine⟨fun i h=>(by cases h),_,_,_,rfl,rfl,?_⟩;exact⟨rfl,pd,_,P,[],hH,hok.clear⟩
theorem Aw {N n:Nat} {S s0:St} {H:List aP} (hF:S.flr≤N) (hn:n≤4096) (hH:Has N S s0 H):
  ∃r ab,Ev pv 96 [.int .i64 (n:Nat)] s0 r ab∧∃ks,r=.tup [.ptr ks 0 0,.int .i64 0]∧D0 N S ab ks (List.replicate n false) H:=by
 refine Ev.iI rfl OJ rfl rfl rfl ?_;refine zE ?_;change EvC _ _ _ _ s0 _;refine zQ 5 ?_;have bL:decide (((n:Nat):Int)<0)=false:=by rw[decide_eq_false];omega
 refine zQ 2 ?_;refine EvC.cutT 9 (.bool false) [] ?_ (fun ff tmp htmp=>?_)
 ·refine zQ 6 ?_;refine EvO.nil (leafT ?_ ?_)
  ·dsimp only[setW,List.foldl,nth,u2,u1]
   all_goals(first|rfl|simp)
  ·refine zF ?_
   all_goals(simp[bL];omega)
 dsimp only[setW,List.foldl,nth,u2,u1];refine zQ 5 ?_;refine EvO.pW (s:=1) hH rfl rfl rfl rfl rfl rfl rfl rfl (Nat.le_of_ble_eq_true rfl) (by omega) (fun _=>(put_T rfl _)) (fun k11 st hk11 hH=>?_);refine EvO.eX (qs:=[(0,_)]) rfl rfl rfl rfl ⟨rfl,(ev rfl),(by rfl),trivial⟩ (by intro q hq;simp only[List.mem_cons,List.not_mem_nil,or_false] at hq;rcases hq with rfl<;>exact⟨rfl,by exact Nat.le_of_ble_eq_true rfl⟩) (by show List.foldl _ [_,_] _=_;dsimp only[List.foldl_cons,List.foldl_nil,u2,u1]<;>rfl) (put_T rfl _) ?_;refine qb hH fun k13 st Ke hH=>?_;refine zQ 3 ?_;refine EvC.ret ⟨rx,_,_,_,rfl,rfl,?_⟩;refine⟨k13,rfl,.win k11 0 0 n 1,.nul,List.replicate n 0,[],?_,?_⟩
 ·rw[List.map_replicate];exact Has.iD [_] [_,_] (hH.nulE 2)
 ·refine⟨by simp,fun i p hi=>?_,by rw[List.count_replicate];simp,by simpa using hn⟩;have:=lt_get hi;rw[List.length_replicate] at this;rw[List.getElem?_replicate,if_pos this];simp
end Go.Proofs.YtnleclohocdkaaaGreat
namespace Go.Proofs.YtnleclohocdkaaaGreat
open Go.V Go
abbrev lb:=Nat→Int
def ai (f:lb):List D:=[.int .i64 (f 0),.int .i64 (f 1),.int .i64 (f 2),.int .i64 (f 3),.int .i64 (f 4),.int .i64 (f 5),.int .i64 (f 6),.int .i64 (f 7),.int .i64 (f 8),.int .i64 (f 9)]
def bG:lb:=fun _=>-1
def lK:lb:=fun _=>0
def B4 (f:lb) (x:Nat) (v:Int):lb:=fun j=>if j=x then v else f j
theorem iZ {n ns pc:Nat} {i:aC} (h:bI n ns pc i=true):
  i.op=7∨(i.op=2∧(0≤i.x∧i.x<(n:Int))∧0≤i.y∧i.y<(n:Int))∨(i.op=3∧0≤i.x∧i.x<(n:Int))∨(i.op=4∧pc+1<n∧0≤i.x∧i.x<10)∨(i.op=5∧pc+1<n)∨(i.op=6∧pc+1<n)∨(i.op=1∧pc+1<n):=by
 unfold bI at h
 split at h
 ·rename_i h1;simp only[Bool.and_eq_true,decide_eq_true_eq] at h;refine .inr (.inr (.inr (.inr (.inr (.inr ⟨h1,?_⟩)))));omega
 ·simp only[Bool.and_eq_true] at h;obtain⟨_,h⟩:=h
  split at h
  ·rename_i h2;simp only[Bool.and_eq_true] at h;exact .inr (.inl ⟨h2,cS.1 h.1,cS.1 h.2⟩)
  ·simp only[Bool.and_eq_true] at h;obtain⟨_,h⟩:=h
   split at h
   ·rename_i h3;exact .inr (.inr (.inl ⟨h3,cS.1 h⟩))
   ·split at h
    ·rename_i h4;simp only[Bool.and_eq_true,decide_eq_true_eq] at h;exact .inr (.inr (.inr (.inl ⟨h4,by omega,cS.1 h.2⟩)))
    ·split at h
     ·rename_i h5;simp only[Bool.and_eq_true,decide_eq_true_eq] at h
      rcases h5 with h5|h5
      ·exact .inr (.inr (.inr (.inr (.inl ⟨h5,by omega⟩))))
      ·exact .inr (.inr (.inr (.inr (.inr (.inl ⟨h5,by omega⟩)))))
     ·split at h
      ·rename_i h7;exact .inl h7
      ·cases h
end Go.Proofs.YtnleclohocdkaaaGreat
namespace Go.Proofs.YtnleclohocdkaaaGreat
open Go.V Go
def bO (fr:Go.V.Fr) (k:Nat):Go.V.D:=Go.V.nth .junk fr.loc k
structure eQ where
 pc:Nat
 c:lb
def az (t:eQ):List D:=[.int .i64 (t.pc:Nat),.int .i64 (t.c 0),.int .i64 (t.c 1),.int .i64 (t.c 2),.int .i64 (t.c 3),.int .i64 (t.c 4),.int .i64 (t.c 5),.int .i64 (t.c 6),.int .i64 (t.c 7),.int .i64 (t.c 8),.int .i64 (t.c 9)]
def ax (dn:Bool) (f:lb) (d:D):List D:=[.bool dn,.int .i64 (f 0),.int .i64 (f 1),.int .i64 (f 2),.int .i64 (f 3),.int .i64 (f 4),.int .i64 (f 5),.int .i64 (f 6),.int .i64 (f 7),.int .i64 (f 8),.int .i64 (f 9),d]
theorem Ey {a:D} {f:lb} {x:Nat} {v:Int} (hx:x<10):setMany (a::ai f) (1+x) [.int .i64 v]=a::ai (B4 f x v):=by
 match x,hx with
 |0,_=>rfl
 |1,_=>rfl
 |2,_=>rfl
 |3,_=>rfl
 |4,_=>rfl
 |5,_=>rfl
 |6,_=>rfl
 |7,_=>rfl
 |8,_=>rfl
 |9,_=>rfl
structure Wk where
 seen:List Bool
 dn:Bool
 aD:lb
 rdy:List eQ
def bm (code:List aC) (pl:Nat) (e:Bool):Nat→Wk→eQ→Wk×Bool
 |0,w,_=>(w,false)
 |f+1,w,t=>
  if w.seen.getD t.pc true=true then(w,false) else
  match code[t.pc]? with
  |none=>(w,false)
  |some i=>
   if i.op=7 then(⟨w.seen.set t.pc true,true,t.c,w.rdy⟩,true)
   else if i.op=2 then
    if(bm code pl e f ⟨w.seen.set t.pc true,w.dn,w.aD,w.rdy⟩ ⟨i.x.toNat,t.c⟩).2=true then bm code pl e f ⟨w.seen.set t.pc true,w.dn,w.aD,w.rdy⟩ ⟨i.x.toNat,t.c⟩
    else bm code pl e f (bm code pl e f ⟨w.seen.set t.pc true,w.dn,w.aD,w.rdy⟩ ⟨i.x.toNat,t.c⟩).1 ⟨i.y.toNat,t.c⟩
   else if i.op=1 then(⟨w.seen.set t.pc true,w.dn,w.aD,w.rdy++[t]⟩,false)
   else if i.op=3 then bm code pl e f ⟨w.seen.set t.pc true,w.dn,w.aD,w.rdy⟩ ⟨i.x.toNat,t.c⟩
   else if i.op=4 then bm code pl e f ⟨w.seen.set t.pc true,w.dn,w.aD,w.rdy⟩ ⟨t.pc+1,B4 t.c i.x.toNat (pl:Nat)⟩
   else if i.op=5 then if pl=0 then bm code pl e f ⟨w.seen.set t.pc true,w.dn,w.aD,w.rdy⟩ ⟨t.pc+1,t.c⟩ else(⟨w.seen.set t.pc true,w.dn,w.aD,w.rdy⟩,false)
   else if e=true then bm code pl e f ⟨w.seen.set t.pc true,w.dn,w.aD,w.rdy⟩ ⟨t.pc+1,t.c⟩ else(⟨w.seen.set t.pc true,w.dn,w.aD,w.rdy⟩,false)
def Good (code:List aC) (w w':Wk):Prop:=
 w'.seen.length=w.seen.length∧w'.seen.count false≤w.seen.count false∧w'.rdy.length+w'.seen.count false≤w.rdy.length+w.seen.count false∧∀t∈w'.rdy,t∈w.rdy∨∃i,code[t.pc]?=some i∧i.op=1
theorem Good.refl {code:List aC} {w:Wk}:Good code w w:=⟨rfl,Nat.le_refl _,Nat.le_refl _,fun t h=>.inl h⟩
theorem Good.trans {code:List aC} {a b c:Wk} (h:Good code a b) (k:Good code b c):Good code a c:=
 ⟨k.1.trans h.1,Nat.le_trans k.2.1 h.2.1,Nat.le_trans k.2.2.1 h.2.2.1,fun t ht=>by
  rcases k.2.2.2 t ht with q|q
  ·exact h.2.2.2 t q
  ·exact .inr q⟩
theorem Good.step {code:List aC} {w w':Wk} {j:Nat} (hj:w.seen[j]?=some false) (k:Good code ⟨w.seen.set j true,w.dn,w.aD,w.rdy⟩ w'):Good code w w':=by
 have hc:=count_set hj;refine Good.trans (b:=⟨w.seen.set j true,w.dn,w.aD,w.rdy⟩) ⟨?_,?_,?_,fun t h=>.inl h⟩ k
 ·simp
 ·show(w.seen.set j true).count false≤_;omega
 ·show w.rdy.length+(w.seen.set j true).count false≤_;omega
theorem xz {l:List Bool} {j:Nat} (h:¬l.getD j true=true):l[j]?=some false:=by
 rw[List.getD_eq_getElem?_getD] at h
 cases hq:l[j]? with
 |none=>rw[hq] at h;exact absurd rfl h
 |some b=>rw[hq] at h;cases b with
  |false=>rfl
  |true=>exact absurd rfl h
theorem sa {l:List Bool} {j:Nat} {b:Bool} (h:l[j]?=some b):l.getD j true=b:=by
 rw[List.getD_eq_getElem?_getD,h];rfl
theorem bT (code:List aC) (pl:Nat) (e:Bool):∀(f:Nat) (w:Wk) (t:eQ),Good code w (bm code pl e f w t).1
 |0,w,t=>.refl
 |f+1,w,t=>by
  unfold bm
  split
  ·exact .refl
  ·rename_i hs;have hs:=xz hs;have hc:=count_set hs
   split
   ·exact .refl
   ·rename_i i hi
    split
    ·exact Good.step hs ⟨rfl,Nat.le_refl _,Nat.le_refl _,fun t h=>.inl h⟩
    ·split
     ·split
      ·exact Good.step hs (bT code pl e f _ _)
      ·exact Good.step hs ((bT code pl e f _ _).trans (bT code pl e f _ _))
     ·split
      ·rename_i h1;refine⟨by simp,by show(w.seen.set t.pc true).count false≤_;omega,by show(w.rdy++[t]).length+(w.seen.set t.pc true).count false≤_;rw[List.length_append];simp only[List.length_cons,List.length_nil];omega,fun t' h=>?_⟩
       rcases List.mem_append.1 h with h|h
       ·exact .inl h
       ·simp only[List.mem_cons,List.not_mem_nil,or_false] at h;subst h;exact .inr ⟨i,hi,h1⟩
      ·split
       ·exact Good.step hs (bT code pl e f _ _)
       ·split
        ·exact Good.step hs (bT code pl e f _ _)
        ·split
         ·split
          ·exact Good.step hs (bT code pl e f _ _)
          ·exact Good.step hs .refl
         ·split
          ·exact Good.step hs (bT code pl e f _ _)
          ·exact Good.step hs .refl
theorem Er (l:List eQ):∀e∈l.map az,e.length=11:=by
 intro e he;obtain⟨x,_,rfl⟩:=List.mem_map.1 he;rfl
theorem mL (A:List aP) {N ks:Nat} {S s0:St} {H:List aP} {seen:List Bool} {i:Nat} {b:Bool} {pd qd:D} {P Q:List Nat} (hF:S.flr≤N) (hi:seen[i]?=some b) (hok:cy P Q seen) (hH:Has N S s0 (A++(.box ks (.mem 0 false [pd,qd])::.lst pd 1 (P.map fF)::.lst qd 2 (Q.map ni)::H))):
  ∃r ab,Ev pv 104 [.ptr ks 0 0,.int .i64 (i:Nat),.bool true] s0 r ab∧r=.bool (!b)∧∃pd qd P Q,Has N S ab (A++(.box ks (.mem 0 false [pd,qd])::.lst pd 1 (P.map fF)::.lst qd 2 (Q.map ni)::H))∧cy P Q (seen.set i true):=by
 obtain⟨r,ab,h1,h2,Ea,D_,P',Q',h3,h4⟩:=Ay (H:=A++H) hF hi ⟨pd,qd,P,Q,Has.iD A [_,_,_] hH,hok⟩;exact⟨r,ab,h1,h2,Ea,D_,P',Q',Has.iD [_,_,_] A h3,h4⟩
theorem nO (A:List aP) {N ks:Nat} {S s0:St} {H:List aP} {seen:List Bool} {pd qd:D} {P Q:List Nat} (hF:S.flr≤N) (hok:cy P Q seen) (hH:Has N S s0 (A++(.box ks (.mem 0 false [pd,qd])::.lst pd 1 (P.map fF)::.lst qd 2 (Q.map ni)::H))):
  ∃r ab,Ev pv 102 [.ptr ks 0 0] s0 r ab∧r=.tup []∧∃pd qd P Q,Has N S ab (A++(.box ks (.mem 0 false [pd,qd])::.lst pd 1 (P.map fF)::.lst qd 2 (Q.map ni)::H))∧cy P Q (List.replicate seen.length false):=by
 obtain⟨r,ab,h1,h2,Ea,D_,P',Q',h3,h4⟩:=vg (H:=A++H) hF ⟨pd,qd,P,Q,Has.iD A [_,_,_] hH,hok⟩;exact⟨r,ab,h1,h2,Ea,D_,P',Q',Has.iD [_,_,_] A h3,h4⟩
def QZ (N:Nat) (S st:St) (ks kv kw kl:Nat) (p:Pg) (pl:Nat) (ld:D) (e:Bool) (w:Wk) (H:List aP):Prop:=
 ∃rd pd qd P Q,Has N S st (.box kv (.mem 0 false [p.cd,p.sd,.int .i64 (pl:Nat),ld,.ptr ks 0 0])::.box kw (.mem 0 false [.ptr kl 0 0,rd,.bool e])::.box kl (.mem 0 false (ax w.dn w.aD .nul))::.lst rd 11 (w.rdy.map az)::.box ks (.mem 0 false [pd,qd])::.lst pd 1 (P.map fF)::.lst qd 2 (Q.map ni)::H)∧cy P Q w.seen
theorem F6 {N ks kv kw kl:Nat} {S:St} {H:List aP} {p:Pg} {pl:Nat} {ld:D} {e:Bool} (hF:S.flr≤N) (hp:p.ok) (hR:aX p) (hpl:pl≤4000000000000):∀(f:Nat) (w:Wk) (t:eQ) (s0:St) (H:List aP),t.pc<p.code.length→w.seen.length=p.code.length→w.seen.count false<f→w.rdy.length+w.seen.count false≤1048576→QZ N S s0 ks kv kw kl p pl ld e w H→
  ∃r ab,Ev pv 105 [.ptr kv 0 0,.ptr kw 0 0,.agg (az t)] s0 r ab∧r=.bool (bm p.code pl e f w t).2∧QZ N S ab ks kv kw kl p pl ld e (bm p.code pl e f w t).1 H
 |0,_,_,_,_,_,_,h,_,_=>absurd h (Nat.not_lt_zero _)
 |f+1,w,t,s0,H,wv,gi,du,n_,hT=>by
  have ih:=F6 (ks:=ks) (kv:=kv) (kw:=kw) (kl:=kl) (S:=S) (H:=H) (ld:=ld) (e:=e) hF hp hR hpl f;obtain⟨rd,pd,qd,P,Q,hH,hok⟩:=hT;have hc:=hp.c.arg N S;have hlen:=hp.cl
  obtain⟨i,hi⟩:∃i,p.code[t.pc]?=some i:=⟨p.code[t.pc]'wv,List.getElem?_eq_getElem _⟩
  obtain⟨b,hb⟩:∃b,w.seen[t.pc]?=some b:=⟨w.seen[t.pc]'(by omega),List.getElem?_eq_getElem _⟩
  have hr:=de hi;have uo:=(hp.i i (List.mem_of_getElem? hi)).1;have lD:=iZ (hR.sh t.pc i hi);have FB:=sa hb;have dC:bm p.code pl e (f+1) w t=bm p.code pl e (f+1) w t:=rfl
  conv at dC=>rhs;unfold bm
  rw[FB] at dC;simp only[hi] at dC;generalize bm p.code pl e (f+1) w t=R at*;obtain⟨op,x,y,PN,rs⟩:=i;obtain⟨pc,c⟩:=t;simp only at*;refine Ev.iI rfl Lq rfl rfl rfl ?_;refine zE ?_;change EvC _ _ _ _ s0 _;refine qq<|qj fun K hK=>qb hH fun k5 st zO hH=>?_;dsimp only[u2,u1,u3,u4,setMany,u5,u6,D.cells,Nat.reduceAdd,aq,az,ax,ai] at hH;refine qm ?_;refine qe hK<|qq<|qq<|qj fun K hK=>qm ?_;refine qg ?_;refine qp (o:=4) ?_;refine ql hH at1 ?_;refine qp (o:=0) ?_;refine ql hH at0 ?_;obtain⟨_,st,hev,rfl,pd,qd,P,Q,hH,hok⟩:=mL [_,_,_,_,_] hF hb hok hH;dsimp only[u3,u4] at hH;refine qv hev ?_;refine qg ?_;refine qe hK ?_
  cases b with
  |true=>
   rw[if_pos rfl] at dC;subst dC;refine qB ?_;refine qq<|qj fun K hK=>qm ?_;refine qe hK<|EvC.ret ⟨rx,_,_,_,rfl,rfl,?_⟩;refine⟨rfl,rd,pd,qd,P,Q,hH.drop 1,?_⟩
   have:w.seen.set pc true=w.seen:=by
    refine List.ext_getElem? fun j=>?_
    by_cases hj:j=pc
    ·subst hj;rw[List.getElem?_set_self (by omega),hb]
    ·rw[List.getElem?_set_ne (fun e=>hj e.symm)]
   rw[←this];exact hok
  |false=>
   rw[if_neg (by decide)] at dC;have uz:=count_set hb;have nr:(w.seen.set pc true).length=p.code.length:=by rw[List.length_set];exact gi
   have wJ:(w.seen.set pc true).count false<f:=by omega
   have wm:w.rdy.length+(w.seen.set pc true).count false≤1048576:=by omega
   generalize w.seen.set pc true=sn at*;clear hb FB uz gi du n_;refine qC ?_;refine EvC.skip<|qq<|qj fun K hK=>qm ?_;refine qg ?_;refine qp (o:=0) ?_;refine qp (o:=0) ?_;refine ql hH at1 ?_;refine qp (o:=0) ?_;refine ql hH at0 ?_;refine qr fun F9 wx=>?_;refine EvO.bF rfl (ev rfl) (by assumption) rfl (by dsimp only[Fr.put,u1,u2]<;>rfl) ?_;refine qa hH fun k7 st IL hH=>?_;refine qS hH at0 fun st hH=>?_;dsimp only[u2,u1,u3,u4,setMany,u5,u6,D.cells,Nat.reduceAdd,aq,az,ax,ai] at hH;refine qe hK<|qq<|qj fun K hK=>?_;refine EvO.hloadS (m:=11) hH rfl (ev rfl) (by exact at1) (by dsimp only[List.drop_succ_cons,List.drop_zero,List.take_succ_cons,List.take_zero,aq,az,ax,ai]<;>rfl) rfl rfl (by dsimp only[Fr.put,u1,u2]<;>rfl) ?_;refine qa hH fun k8 st hk8 hH=>?_;refine qS hH at0 fun st hH=>?_;dsimp only[u2,u1,u3,u4,setMany,u5,u6,D.cells,Nat.reduceAdd,aq,az,ax,ai] at hH;refine qe hK<|qq<|qj fun K hK=>qp (o:=0) ?_;refine ql hH at0 ?_;refine qA ?_;refine qp (o:=0) ?_;refine qT hH at0 fun st hH=>?_;dsimp only[u2,u1,u3,u4,setMany,u5,u6,D.cells,Nat.reduceAdd,aq,az,ax,ai] at hH;refine qe hK<|qq<|qq<|qj fun K hK=>qp (o:=0) ?_;refine ql hH at1 ?_;refine qe hK<|EvC.merge (fun fr st=>∃(t':eQ) (tmp:List (Nat×D)),fr=⟨33,[.ptr kv 0 0,.ptr kw 0 0,bO fr 2,bO fr 3,bO fr 4,.ptr k5 0 0,.bool false,.ptr k7 0 0,.ptr k8 0 0,bO fr 9,bO fr 10,bO fr 11,bO fr 12,bO fr 13,bO fr 14,bO fr 15,bO fr 16,bO fr 17,bO fr 18,bO fr 19,bO fr 20,bO fr 21,bO fr 22,bO fr 23,bO fr 24,bO fr 25,bO fr 26,bO fr 27,bO fr 28,bO fr 29,bO fr 30,bO fr 31,bO fr 32],tmp⟩∧Has N S st (.box k8 (.mem 0 false (az t'))::.box k7 (.mem 0 false [.int .i64 op,.int .i64 x,.int .i64 y,PN])::.box k5 (.mem 0 false (az ⟨pc,c⟩))::.box kv (.mem 0 false [p.cd,p.sd,.int .i64 (pl:Nat),ld,.ptr ks 0 0])::.box kw (.mem 0 false [.ptr kl 0 0,rd,.bool e])::.box kl (.mem 0 false (ax w.dn w.aD .nul))::.lst rd 11 (w.rdy.map az)::.box ks (.mem 0 false [pd,qd])::.lst pd 1 (P.map fF)::.lst qd 2 (Q.map ni)::H)∧(R=bm p.code pl e f ⟨sn,w.dn,w.aD,w.rdy⟩ t')∧(t'.pc<p.code.length)) ?_ ?_
   ·refine EvC.block<|qq<|qj fun K hK=>qg ?_;refine qm ?_;refine qe hK<|zI (fun h7=>?_) fun h7=>?_
    ·rw[if_pos h7] at dC;subst dC;have rN:=hH;change EvC _ _ _ _ _ _;refine qq ?_;generalize hK:SeqQ _ _ _ _=K;refine EvC.lT rfl ?_;refine ba.cons ?_;refine qm ?_;refine EvO.nil ⟨rfl,?_⟩;refine ba.cons ?_;refine qg ?_;refine EvO.nil ⟨rfl,?_⟩;refine ba.cons ?_;refine qp (o:=0) ?_;refine EvO.nil ⟨rfl,?_⟩;refine ba.cons ?_;refine ql hH at4 ?_;refine EvO.nil ⟨rfl,?_⟩;refine ba.cons ?_;refine qm ?_;refine EvO.nil ⟨rfl,?_⟩;refine ba.cons ?_;refine qg ?_;refine EvO.nil ⟨rfl,?_⟩;refine ba.cons ?_;refine qp (o:=0) ?_;refine EvO.nil ⟨rfl,?_⟩;refine ba.cons ?_;refine ql hH at4 ?_;refine EvO.nil ⟨rfl,?_⟩;refine ba.cons ?_;refine qp (o:=1) ?_;refine EvO.nil ⟨rfl,?_⟩;refine ba.cons ?_;refine EvO.hloadS (m:=10) hH rfl (ev rfl) (by exact at2) (by dsimp only[List.drop_succ_cons,List.drop_zero,List.take_succ_cons,List.take_zero,aq,az,ax,ai]<;>rfl) rfl rfl (put_T rfl _) ?_;refine EvO.nil ⟨rfl,?_⟩;refine ba.cons ?_;refine qg ?_;refine EvO.nil ⟨rfl,?_⟩;refine ba.cons ?_;refine qp (o:=0) ?_;refine EvO.nil ⟨rfl,?_⟩;refine ba.cons ?_;refine qT hH at5 fun st hH=>?_;dsimp only[u2,u1,u3,u4,setMany,u5,u6,D.cells,Nat.reduceAdd,aq,az,ax,ai] at hH;refine EvO.nil ⟨by exact Bool.and_eq_true_iff.2 ⟨tl rfl rfl rfl (rN.at at2) (hH.at at2) (rN.at at2) rfl,rfl⟩,?_⟩;refine ba.cons ?_;refine qg ?_;refine EvO.nil ⟨rfl,?_⟩;refine ba.cons ?_;refine qp (o:=1) ?_;refine EvO.nil ⟨rfl,?_⟩;refine ba.cons ?_;refine qT hH at5 fun st hH=>?_;dsimp only[u2,u1,u3,u4,setMany,u5,u6,D.cells,Nat.reduceAdd,aq,az,ax,ai] at hH;refine EvO.nil ⟨rfl,?_⟩;refine ba.nil ?_;subst hK;refine qq<|qj fun K hK=>qm ?_;refine qe hK<|EvC.ret ⟨rx,_,_,_,rfl,rfl,?_⟩;exact⟨rfl,rd,pd,qd,P,Q,hH.drop 3,hok⟩
    ·rw[if_neg h7] at dC;refine qq<|qj fun K hK=>qg ?_;refine qm ?_;refine qe hK<|zI (fun h2=>?_) fun h2=>?_
     ·rw[if_pos h2] at dC;obtain⟨_,⟨hx0,hx1⟩,hy0,hy1⟩:=(lD.resolve_left h7).resolve_right (by omega);obtain⟨xn,rfl⟩:=Int.eq_ofNat_of_zero_le hx0;obtain⟨yn,rfl⟩:=Int.eq_ofNat_of_zero_le hy0;have hgo:=bT p.code pl e f ⟨sn,w.dn,w.aD,w.rdy⟩ ⟨xn,c⟩;have wL:=Has.iD [_,_,_] [_,_,_,_,_,_,_] hH;obtain⟨_,st1,hev,rfl,hT⟩:=ih ⟨sn,w.dn,w.aD,w.rdy⟩ ⟨xn,c⟩ _ _ (by show xn<_;omega) nr wJ wm ⟨rd,pd,qd,P,Q,wL,hok⟩;clear wL;have dC:R=if(bm p.code pl e f ⟨sn,w.dn,w.aD,w.rdy⟩ ⟨xn,c⟩).2=true then bm p.code pl e f ⟨sn,w.dn,w.aD,w.rdy⟩ ⟨xn,c⟩ else bm p.code pl e f (bm p.code pl e f ⟨sn,w.dn,w.aD,w.rdy⟩ ⟨xn,c⟩).1 ⟨yn,c⟩:=dC;generalize bm p.code pl e f ⟨sn,w.dn,w.aD,w.rdy⟩ ⟨xn,c⟩=R1 at*;obtain⟨w1,b1⟩:=R1;obtain⟨fu,bL,hg3,hg4⟩:=hgo;simp only at fu bL hg3 hg4 hev hT dC;obtain⟨PO,PS,PQ,P1,Q1,wL,hok1⟩:=hT;have wL:=Has.iD [_,_,_,_,_,_,_] [_,_,_] wL;dsimp only[u3,u4] at wL
      cases b1 with
      |true=>
       rw[if_pos rfl] at dC;subst dC;have hg8:true=true:=rfl;refine qq<|qj fun K hK=>qm ?_;refine qm ?_;refine qp (o:=1) ?_;refine ql hH at1 ?_;refine qp (o:=1) ?_;refine EvO.hloadS (m:=10) hH rfl (ev rfl) (by exact at2) (by dsimp only[List.drop_succ_cons,List.drop_zero,List.take_succ_cons,List.take_zero,aq,az,ax,ai]<;>rfl) rfl rfl (put_T rfl _) ?_;refine EvO.go (d:=.agg (az ⟨xn,c⟩)) (st1:=_) rfl rfl rfl (put_T rfl _) ?_;refine qv hev ?_;refine qm ?_;refine qs ?_ (hg:=wn hg8);refine qs ?_ (hg:=wn hg8);refine qs ?_ (hg:=wn hg8);refine qs ?_ (hg:=wn hg8);refine qs ?_ (hg:=wn hg8);refine qs ?_ (hg:=wn hg8);refine qs ?_ (hg:=wn hg8);refine qs ?_ (hg:=wn hg8);refine qt hg8 ?_;refine qm ?_;refine qe hK<|EvC.ret ⟨rx,_,_,_,rfl,rfl,?_⟩;exact⟨rfl,PO,PS,PQ,P1,Q1,wL.drop 3,hok1⟩
      |false=>
       rw[if_neg (by decide)] at dC;have hg8:false=false:=rfl;refine qq<|qj fun K hK=>qm ?_;refine qm ?_;refine qp (o:=1) ?_;refine ql hH at1 ?_;refine qp (o:=1) ?_;refine EvO.hloadS (m:=10) hH rfl (ev rfl) (by exact at2) (by dsimp only[List.drop_succ_cons,List.drop_zero,List.take_succ_cons,List.take_zero,aq,az,ax,ai]<;>rfl) rfl rfl (put_T rfl _) ?_;refine EvO.go (d:=.agg (az ⟨xn,c⟩)) (st1:=_) rfl rfl rfl (put_T rfl _) ?_;have hH:=wL;refine qv hev ?_;refine qm ?_;refine qm ?_ (hg:=wi hg8);refine qm ?_ (hg:=wi hg8);refine qp (o:=2) ?_ (hg:=wi hg8);refine ql hH at1 ?_ (hg:=wi hg8);refine qp (o:=1) ?_ (hg:=wi hg8);refine EvO.hloadS (m:=10) hH (wantD_is rfl rfl rfl hg8) (ev rfl) (by exact at2) (by dsimp only[List.drop_succ_cons,List.drop_zero,List.take_succ_cons,List.take_zero,aq,az,ax,ai]<;>rfl) rfl rfl (put_T rfl _) ?_;refine EvO.go (d:=.agg (az ⟨yn,c⟩)) (st1:=_) (wantD_is rfl rfl rfl hg8) rfl rfl (put_T rfl _) ?_;obtain⟨_,st,hev,rfl,hT⟩:=ih w1 ⟨yn,c⟩ _ _ (by show yn<_;omega) (by omega) (by omega) (by omega) ⟨PO,PS,PQ,P1,Q1,hH.drop 3,hok1⟩;refine qv hev ?_ (hg:=wi hg8);refine qu hg8 ?_;refine qm ?_;refine qe hK<|EvC.ret ⟨rx,_,_,_,rfl,rfl,?_⟩;rw[dC];exact⟨rfl,hT⟩
     ·rw[if_neg h2] at dC;refine qq<|qj fun K hK=>qg ?_;refine qm ?_;refine qe hK<|zI (fun h1=>?_) fun h1=>?_
      ·rw[if_pos h1] at dC;subst dC;refine qq<|qj fun K hK=>qm ?_;refine qm ?_;refine qg ?_;refine qp (o:=1) ?_;refine ql hH at4 ?_;refine EvO.hloadS (m:=11) hH rfl (ev rfl) (by exact at2) (by dsimp only[List.drop_succ_cons,List.drop_zero,List.take_succ_cons,List.take_zero,aq,az,ax,ai]<;>rfl) rfl rfl (put_T rfl _) ?_;refine qh (s:=11) (vs:=[_]) hH fun k77 st Ka hH=>?_;refine EvO.happend (s:=11) hH rfl (ev rfl) (ev rfl) (by exact at7) (by exact hH.rows (by exact at0)) rfl rfl rfl rfl rfl rfl rfl ⟨(Nat.le_of_ble_eq_true rfl),(Nat.le_of_ble_eq_true rfl)⟩ (fun _=>(put_T rfl _)) (by simp only[List.length_cons,List.length_nil,List.length_map]<;>omega) (by exact .inl hF) (fun Q6 st hH=>?_);dsimp only[u2,u1,u3,u4,setMany,u5,u6,D.cells,Nat.reduceAdd,aq,az,ax,ai] at hH;refine qg ?_;refine qp (o:=1) ?_;refine qT hH at5 (fun st hH=>?_) (gQ:=hH.ocells at7);dsimp only[u2,u1,u3,u4,setMany,u5,u6,D.cells,Nat.reduceAdd,aq,az,ax,ai] at hH;refine qe hK<|qq<|qj fun K hK=>qm ?_;refine qe hK<|EvC.ret ⟨rx,_,_,_,rfl,rfl,?_⟩;refine⟨rfl,Q6,pd,qd,P,Q,?_,hok⟩;rw[List.map_append];exact hH.drop 4
      ·rw[if_neg h1] at dC;refine qq<|qj fun K hK=>qg ?_;refine qm ?_;refine qe hK<|zI (fun h3=>?_) fun h3=>?_
       ·rw[if_pos h3] at dC;obtain⟨_,hx0,hx1⟩:=((lD.resolve_left h7).resolve_left (by omega)).resolve_right (by omega);obtain⟨xn,rfl⟩:=Int.eq_ofNat_of_zero_le hx0;refine qj fun K hK=>qp (o:=1) ?_;refine ql hH at1 ?_;refine qp (o:=0) ?_;refine qT hH at0 fun st hH=>?_;dsimp only[u2,u1,u3,u4,setMany,u5,u6,D.cells,Nat.reduceAdd,aq,az,ax,ai] at hH;refine qe hK ?_;exact⟨⟨xn,c⟩,_,rfl,hH,dC,by show xn<_;omega⟩
       ·rw[if_neg h3] at dC;refine qq<|qj fun K hK=>qg ?_;refine qm ?_;refine qe hK<|zI (fun h4=>?_) fun h4=>?_
        ·rw[if_pos h4] at dC;obtain⟨_,pV,hx0,hx1⟩:=(((lD.resolve_left h7).resolve_left (by omega)).resolve_left (by omega)).resolve_right (by omega);obtain⟨xn,rfl⟩:=Int.eq_ofNat_of_zero_le hx0;refine qj fun K hK=>qp (o:=1) ?_;refine ql hH at1 ?_;refine qm ?_;refine qg ?_;refine qp (o:=2) ?_;refine ql hH at3 ?_;refine qp (o:=1) ?_;refine EvO.FH (m:=10) (s:=1) (i:=xn) (o:=1+xn) rfl (ev rfl) (ev rfl) rfl rfl (by omega) (by omega) (put_T rfl _) ?_;refine EvO.lA hH rfl (ev rfl) (ev rfl) rfl (by exact rfl) at0 (by show 1+xn+1≤11;omega) (.inl hF) (fun st hH=>?_);change Has _ _ _ (.box k8 (.mem 0 false (setMany (_::ai c) (1+xn) [.int .i64 (pl:Nat)]))::_) at hH;rw[Ey (by omega)] at hH;refine qe hK ?_;exact⟨⟨pc+1,B4 c xn (pl:Nat)⟩,_,rfl,hH,dC,pV⟩
        ·rw[if_neg h4] at dC;refine qq<|qj fun K hK=>qg ?_;refine qm ?_;refine qe hK<|zI (fun h5=>?_) fun h5=>?_
         ·rw[if_pos h5] at dC;have pV:pc+1<p.code.length:=by omega
          refine qq<|qj fun K hK=>qm ?_;refine qg ?_;refine qp (o:=2) ?_;refine ql hH at3 ?_;refine qg ?_;refine qe hK ?_
          by_cases ha:pl=0
          ·rw[if_pos ha] at dC;subst ha;refine EvC.cond (v:=false) (by dsimp only[Fr.ev,Fr.get,nth,V.look];rfl) (fun h=>by cases h) (fun _=>?_);refine EvC.skip ?_;exact⟨⟨pc+1,c⟩,_,rfl,hH,dC,pV⟩
          ·rw[if_neg ha] at dC;subst dC;refine qD rfl (by simp;omega) ?_;refine qq<|qj fun K hK=>qm ?_;refine qe hK<|EvC.ret ⟨rx,_,_,_,rfl,rfl,?_⟩;exact⟨rfl,rd,pd,qd,P,Q,hH.drop 3,hok⟩
         ·rw[if_neg h5] at dC;have h6:op=6:=by omega
          have pV:pc+1<p.code.length:=by omega
          refine qq<|qj fun K hK=>qg ?_;refine qm ?_;refine qe hK<|qD rfl (by simp[h6]) ?_;refine qq<|qj fun K hK=>qm ?_;refine qg ?_;refine qp (o:=2) ?_;refine ql hH at4 ?_;refine qg ?_;refine qe hK ?_
          cases e with
          |true=>
           rw[if_pos rfl] at dC;refine qC ?_;refine EvC.skip ?_;exact⟨⟨pc+1,c⟩,_,rfl,hH,dC,pV⟩
          |false=>
           rw[if_neg (by decide)] at dC;subst dC;refine qB ?_;refine qq<|qj fun K hK=>qm ?_;refine qe hK<|EvC.ret ⟨rx,_,_,_,rfl,rfl,?_⟩;exact⟨rfl,rd,pd,qd,P,Q,hH.drop 3,hok⟩
   ·rintro fr st ⟨t',tmp,hfr,hH,T2,Nh⟩;rw[hfr];clear hfr;generalize bO fr=ee;clear fr;obtain⟨Rw,c'⟩:=t';dsimp only[az] at hH;refine qq<|qj fun K hK=>qm ?_;refine qm ?_;refine EvO.hloadS (m:=11) hH rfl (ev rfl) (by exact at0) (by dsimp only[List.drop_succ_cons,List.drop_zero,List.take_succ_cons,List.take_zero,aq,az,ax,ai]<;>rfl) rfl rfl (put_T rfl _) ?_;have hH:=hH.drop 3;obtain⟨_,st,hev,rfl,hT⟩:=ih ⟨sn,w.dn,w.aD,w.rdy⟩ ⟨Rw,c'⟩ _ _ Nh nr wJ wm ⟨rd,pd,qd,P,Q,hH,hok⟩;refine qv hev ?_;refine qm ?_;refine qe hK<|EvC.ret ⟨rx,_,_,_,rfl,rfl,?_⟩;rw[T2];exact⟨rfl,hT⟩
end Go.Proofs.YtnleclohocdkaaaGreat
namespace Go.Proofs.YtnleclohocdkaaaGreat
open Go.V Go
def bV (fr:Go.V.Fr) (k:Nat):Go.V.D:=Go.V.nth .junk fr.loc k
structure VL where
 dn:Bool
 aD:lb
 td:D
 aM:List eQ
def dp (l:VL):List D:=ax l.dn l.aD l.td
def mF (l:VL):aP:=.lst l.td 11 (l.aM.map az)
theorem BK (A:List aP) {n:Nat} (hn:A.length=n) {L:List VL} {i:Nat} {l:VL} (h:L[i]?=some l) {H:List aP}:(A++(L.map mF++H))[n+i]?=some (mF l):=by
 have hi:=lt_get h;rw[List.getElem?_append_right (by omega),List.getElem?_append_left (by simp;omega),hn,Nat.add_sub_cancel_left,List.getElem?_map,h];rfl
theorem oW {L:List VL} {i:Nat} {l:VL} (h:L[i]?=some l):(L.map dp)[i]?=some (dp l):=by rw[List.getElem?_map,h];rfl
theorem kq {l:List eQ} {i:Nat} {q:eQ} (h:l[i]?=some q):(l.map az)[i]?=some (az q):=by rw[List.getElem?_map,h];rfl
theorem jk {N:Nat} {S st:St} {H:List aP} {j:Nat} {x:D} {s:Nat} {es:List (List D)} (h:Has N S st H) (hj:H[j]?=some (.lst x s es)):x.ref≤st.bs.length:=by
 rcases Nat.eq_zero_or_pos x.ref with h0|h0
 ·omega
 ·have:=h.pJ hj (k:=x.ref-1) (by show x.ref=x.ref-1+1;omega);omega
def MH (A:List aP) (N:Nat) (S st:St) (ks kv:Nat) (p:Pg) (pl:Nat) (ld:D) (L:List VL) (H:List aP):Prop:=
 ∃pd qd P Q sn,Has N S st (A++(.box kv (.mem 0 false [p.cd,p.sd,.int .i64 (pl:Nat),ld,.ptr ks 0 0])::.box ks (.mem 0 false [pd,qd])::.lst pd 1 (P.map fF)::.lst qd 2 (Q.map ni)::.lst ld 12 (L.map dp)::(L.map mF++H)))∧cy P Q sn∧sn.length=p.code.length
theorem MH.push (A B:List aP) {N:Nat} {S st:St} {ks kv:Nat} {p:Pg} {pl:Nat} {ld:D} {L:List VL} {H:List aP} (h:MH (A++B) N S st ks kv p pl ld L H):MH B N S st ks kv p pl ld L (A++H):=by
 obtain⟨pd,qd,P,Q,sn,hH,hok,fc⟩:=h;refine⟨pd,qd,P,Q,sn,?_,hok,fc⟩;have:=Has.iD (H:=H) A (B++(.box kv (.mem 0 false [p.cd,p.sd,.int .i64 (pl:Nat),ld,.ptr ks 0 0])::.box ks (.mem 0 false [pd,qd])::.lst pd 1 (P.map fF)::.lst qd 2 (Q.map ni)::.lst ld 12 (L.map dp)::L.map mF)) (by simpa only[List.append_assoc,List.cons_append] using hH)
 simpa only[List.append_assoc,List.cons_append] using this
theorem MH.pull (A B:List aP) {N:Nat} {S st:St} {ks kv:Nat} {p:Pg} {pl:Nat} {ld:D} {L:List VL} {H:List aP} (h:MH B N S st ks kv p pl ld L (A++H)):MH (A++B) N S st ks kv p pl ld L H:=by
 obtain⟨pd,qd,P,Q,sn,hH,hok,fc⟩:=h;refine⟨pd,qd,P,Q,sn,?_,hok,fc⟩;have:=Has.iD (H:=H) (B++(.box kv (.mem 0 false [p.cd,p.sd,.int .i64 (pl:Nat),ld,.ptr ks 0 0])::.box ks (.mem 0 false [pd,qd])::.lst pd 1 (P.map fF)::.lst qd 2 (Q.map ni)::.lst ld 12 (L.map dp)::L.map mF)) A (by simpa only[List.append_assoc,List.cons_append] using hH)
 simpa only[List.append_assoc,List.cons_append] using this
def jJ (code:List aC) (pl:Nat) (e:Bool):List eQ→Wk→Wk
 |[],w=>w
 |t::ts,w=>if(bm code pl e (code.length+1) w t).2=true then(bm code pl e (code.length+1) w t).1 else jJ code pl e ts (bm code pl e (code.length+1) w t).1
def iz (n:Nat) (dn:Bool) (aD:lb):Wk:=⟨List.replicate n false,dn,aD,[]⟩
theorem qQ (code:List aC) (pl:Nat) (e:Bool):∀(l:List eQ) (w:Wk),Good code w (jJ code pl e l w)
 |[],w=>.refl
 |t::ts,w=>by
  unfold jJ
  split
  ·exact bT ..
  ·exact(bT ..).trans (qQ code pl e ts _)
theorem s9 {N ks kv:Nat} {S s0:St} {H:List aP} {p:Pg} {pl:Nat} {ld:D} {L:List VL} {i:Nat} {l:VL} {e:Bool} (hF:S.flr≤N) (hp:p.ok) (hR:aX p) (hpl:pl≤4000000000000) (hl:L[i]?=some l) (uh:∀t∈l.aM,t.pc<p.code.length) (lI:l.aM.length≤1048576) (hM:MH [] N S s0 ks kv p pl ld L H):
  ∃r ab,Ev pv 68 [.ptr kv 0 0,.int .i64 (i:Nat),.bool e] s0 r ab∧∃rd,r=.tup [.agg (ax (jJ p.code pl e l.aM (iz p.code.length l.dn l.aD)).dn (jJ p.code pl e l.aM (iz p.code.length l.dn l.aD)).aD .nul),rd]∧MH [.lst rd 11 ((jJ p.code pl e l.aM (iz p.code.length l.dn l.aD)).rdy.map az)] N S ab ks kv p pl ld L H:=by
 obtain⟨pd,qd,P,Q,sn,hH,hok,fc⟩:=hM;have hcl:=hR.cl;have hr1:=oW hl;have hil:=lt_get hl;generalize hW:jJ p.code pl e l.aM (iz p.code.length l.dn l.aD)=W at*;obtain⟨dn,aD,td,aM⟩:=l;simp only at hW uh lI;dsimp only[u4] at hH;refine Ev.iI rfl OU rfl rfl rfl ?_;refine zE ?_;change EvC _ _ _ _ s0 _;refine qq<|qj fun K hK=>qa hH fun k6 st Ef hH=>?_;refine qm ?_;refine qe hK<|qq<|qj fun K hK=>qm ?_;refine qg ?_;refine qp (o:=3) ?_;refine ql hH at1 ?_;refine qm ?_;refine qi hH at5 fun PY JS=>?_;refine EvO.tP hH rfl (ev rfl) (by assumption) (by exact at5) (by assumption) rfl (by dsimp only[Fr.put,u1,u2]<;>rfl) ?_;refine qa hH fun k8 st hk8 hH=>?_;refine qS hH at0 fun st hH=>?_;dsimp only[u2,u1,u3,u4,setMany,u5,u6,D.cells,Nat.reduceAdd,aq,az,ax,ai,dp] at hH;refine qe hK<|qq<|qj fun K hK=>qp (o:=0) ?_;refine ql hH at0 ?_;refine qp (o:=1) ?_;refine EvO.hloadS (m:=10) hH rfl (ev rfl) (by exact at0) (by dsimp only[List.drop_succ_cons,List.drop_zero,List.take_succ_cons,List.take_zero,aq,az,ax,ai,dp]<;>rfl) rfl rfl (by dsimp only[Fr.put,u1,u2]<;>rfl) ?_;refine EvO.go (d:=.agg (ax dn aD .nul)) (st1:=_) rfl rfl rfl (by dsimp only[Fr.put,u1,u2]<;>rfl) ?_;refine qa hH fun k9 st NK hH=>?_;refine qS hH at0 fun st hH=>?_;dsimp only[u2,u1,u3,u4,setMany,u5,u6,D.cells,Nat.reduceAdd,aq,az,ax,ai,dp] at hH;refine qe hK<|qq<|qj fun K hK=>qm ?_;refine EvO.eX (qs:=[(0,_),(2,_)]) rfl rfl rfl rfl ⟨rfl,(ev rfl),(by rfl),rfl,(ev rfl),(by rfl),trivial⟩ (by intro q hq;simp only[List.mem_cons,List.not_mem_nil,or_false] at hq;rcases hq with rfl|rfl<;>exact⟨rfl,by exact Nat.le_of_ble_eq_true rfl⟩) (by show List.foldl _ [_,_,_] _=_;dsimp only[List.foldl_cons,List.foldl_nil,u2,u1]<;>rfl) (by dsimp only[Fr.put,u1,u2]<;>rfl) ?_;refine qb hH fun k27 st NR hH=>?_;refine qm ?_;refine qe hK ?_;have bY:=hH;refine qq<|qj fun K hK=>qm ?_;refine qg ?_;refine qp (o:=4) ?_;refine ql hH at4 ?_;obtain⟨_,st,hev,rfl,pd,qd,P,Q,hH,hok⟩:=nO [_,_,_,_,_] hF hok hH;dsimp only[u3,u4] at hH;refine qv hev ?_;refine qe hK ?_;clear bY;rw[fc] at hok;have hH:=Has.iD [_,_,_,_] [_] hH;have hH:=Has.iD [_,_,_,_,_] [_,_,_] hH;have hH:=Has.iD [_,_,_] [_,_,_] hH;have hH:=Has.iD [_] [_,_,_] (hH.nulE 11);dsimp only[u3,u4] at hH;have M8:=hH.rows (BK [_,_,_,_,_,_,_,_,_,_] rfl hl);have QA:=qQ p.code pl e aM (iz p.code.length dn aD);refine qq<|qq<|qj fun K hK=>qp (o:=11) ?_;refine ql hH at7 ?_;refine EvO.rlen rfl (ev rfl) M8 rfl (by dsimp only[Fr.put,u1,u2]<;>rfl) ?_;simp only[List.length_map];refine qm ?_;refine qe hK<|EvC.block<|EvC.loop (fun mm fr st=>∃(j:Nat) (w:Wk) (rest:List eQ) (rd pd qd:D) (P Q:List Nat),fr.clean=⟨37,[.ptr kv 0 0,.int .i64 (i:Nat),.bool e,bV fr 3,bV fr 4,bV fr 5,.ptr k6 0 0,.nul,.ptr k8 0 0,.ptr k9 0 0,.ptr k27 0 0,bV fr 11,bV fr 12,bV fr 13,bV fr 14,bV fr 15,bV fr 16,bV fr 17,bV fr 18,bV fr 19,bV fr 20,bV fr 21,bV fr 22,bV fr 23,bV fr 24,bV fr 25,bV fr 26,bV fr 27,bV fr 28,bV fr 29,bV fr 30,bV fr 31,bV fr 32,bV fr 33,td,.int .i64 (aM.length:Nat),.int .i64 (j:Nat)],[]⟩∧Has N S st (.box kv (.mem 0 false [p.cd,p.sd,.int .i64 (pl:Nat),ld,.ptr ks 0 0])::.box k27 (.mem 0 false [.ptr k9 0 0,rd,.bool e])::.box k9 (.mem 0 false (ax w.dn w.aD .nul))::.lst rd 11 (w.rdy.map az)::.box ks (.mem 0 false [pd,qd])::.lst pd 1 (P.map fF)::.lst qd 2 (Q.map ni)::.box k8 (.mem 0 false (ax dn aD td))::.box k6 (.mem 0 false (ax false lK .nul))::.lst ld 12 (L.map dp)::(L.map mF++H))∧(j+mm=aM.length)∧(rest=aM.drop j)∧(jJ p.code pl e rest w=W)∧(w.seen.length=p.code.length)∧(w.rdy.length+w.seen.count false≤1048576)∧(cy P Q w.seen)) (aM.length) ?_ ?_
 ·exact⟨0,iz p.code.length dn aD,aM,.nul,_,_,_,_,rfl,hH,by omega,rfl,hW,by simp[iz],by(have:=List.count_le_length (a:=false) (l:=(iz p.code.length dn aD).seen);simp[iz] at this⊢;omega),hok⟩
 rintro mm fr st ⟨j,w,rest,rd,pd,qd,P,Q,hfr,hH,hj,iy,hex,gi,n_,hok⟩;rw[hfr];clear hfr;generalize bV fr=ee;clear fr;refine qq<|qj fun K hK=>qg ?_;refine qe hK ?_;have M8:=hH.rows (BK [_,_,_,_,_,_,_,_,_,_] rfl hl);refine qq<|zP (fun hlt=>?_) fun hlt=>?_
 ·refine EvC.skip ?_;have iV:j<aM.length:=by omega
  obtain⟨t,ht⟩:∃t,aM[j]?=some t:=⟨aM[j]'iV,List.getElem?_eq_getElem _⟩
  have Fh:=kq ht;have JD:=uh t (List.mem_of_getElem? ht)
  have wG:rest=t::aM.drop (j+1):=by
   rw[iy,List.drop_eq_getElem_cons iV]
   congr 1
   exact Option.some.inj ((List.getElem?_eq_getElem _).symm.trans ht)
  have uz:=List.count_le_length (a:=false) (l:=w.seen);have hgo:=bT p.code pl e (p.code.length+1) w t;rw[wG] at hex;have hex:(if(bm p.code pl e (p.code.length+1) w t).2=true then(bm p.code pl e (p.code.length+1) w t).1 else jJ p.code pl e (aM.drop (j+1)) (bm p.code pl e (p.code.length+1) w t).1)=W:=hex;refine qq<|EvC.block<|qq<|qj fun K hK=>EvO.ridx rfl (ev rfl) (ev rfl) M8 rfl rfl Fh (fun _=>(put_T rfl _)) (fun PV JP=>?_);refine qR ?_;refine qa hH fun k12 st NZ hH=>?_;dsimp only[u2,u1,u3,u4,setMany,u5,u6,D.cells,Nat.reduceAdd,aq,az,ax,ai,dp] at hH;refine qS hH at0 fun st hH=>?_;dsimp only[u2,u1,u3,u4,setMany,u5,u6,D.cells,Nat.reduceAdd,aq,az,ax,ai,dp] at hH;refine qe hK<|qq<|qj fun K hK=>qm ?_;refine qm ?_;refine EvO.hloadS (m:=11) hH rfl (ev rfl) (by exact at0) (by dsimp only[List.drop_succ_cons,List.drop_zero,List.take_succ_cons,List.take_zero,aq,az,ax,ai,dp]<;>rfl) rfl rfl (put_T rfl _) ?_;have hH:=hH.drop 1;obtain⟨_,st,hev,rfl,hT⟩:=F6 (ks:=ks) (kv:=kv) (kw:=k27) (kl:=k9) (S:=S) (H:=H) (ld:=ld) (e:=e) hF hp hR hpl (p.code.length+1) w t _ _ JD gi (by omega) n_ ⟨rd,pd,qd,P,Q,hH,hok⟩;refine qv hev ?_;refine qe hK ?_;generalize bm p.code pl e (p.code.length+1) w t=R1 at*;obtain⟨w1,b1⟩:=R1;obtain⟨fu,bL,hg3,hg4⟩:=hgo;simp only at fu bL hg3 hg4 hT hex;obtain⟨rd,pd,qd,P,Q,hH,hok⟩:=hT;have nr:w1.seen.length=p.code.length:=fu.trans gi
  cases b1 with
  |true=>
   rw[if_pos rfl] at hex;subst hex;refine qB ?_;refine EvC.exit ?_;have hH:=Has.iD [_,_,_,_,_,_,_] [_,_] hH;dsimp only[u3,u4] at hH;have rN:=hH;have A8:=jk hH at5;have Fj:=hH.pJ at4 (k:=k9) rfl;change EvC _ _ _ _ _ _;refine qq ?_;generalize hK:SeqQ _ _ _ _=K;refine EvC.lT rfl ?_;refine ba.cons ?_;refine EvO.hloadS (m:=12) hH rfl (ev rfl) (by exact at4) (by dsimp only[List.drop_succ_cons,List.drop_zero,List.take_succ_cons,List.take_zero,aq,az,ax,ai,dp]<;>rfl) rfl rfl (put_T rfl _) ?_;refine EvO.nil ⟨rfl,?_⟩;refine ba.cons ?_;refine qm ?_;refine EvO.nil ⟨rfl,?_⟩;refine ba.cons ?_;refine qg ?_;refine EvO.nil ⟨rfl,?_⟩;refine ba.cons ?_;refine qp (o:=1) ?_;refine EvO.nil ⟨rfl,?_⟩;refine ba.cons ?_;refine ql hH at3 ?_;refine EvO.nil ⟨rfl,?_⟩;refine ba.cons ?_;refine qS hH at1 fun st hH=>?_;dsimp only[u2,u1,u3,u4,setMany,u5,u6,D.cells,Nat.reduceAdd,aq,az,ax,ai,dp] at hH;refine EvO.nil ⟨by exact Bool.and_eq_true_iff.2 ⟨dQ rfl rfl rfl (rN.at at3) (hH.at at3) (rN.at at3) (by simp only[refs,D.ref];omega),rfl⟩,?_⟩;refine ba.cons ?_;refine qm ?_;refine EvO.nil ⟨rfl,?_⟩;refine ba.nil ?_;subst hK;refine EvC.ret ⟨rx,_,_,_,hH.jN rfl at1 rfl rfl,rfl,rd,rfl,pd,qd,P,Q,_,?_,hok,nr⟩;exact((Has.iD [_,_,_] [_] (hH.drop 2)).erase 2).erase 2
  |false=>
   rw[if_neg (by decide)] at hex;refine qC ?_;refine EvC.skip<|qj fun K hK=>qA ?_;refine qm ?_;refine qe hK ?_;exact⟨mm-1,by omega,⟨j+1,w1,aM.drop (j+1),rd,pd,qd,P,Q,rfl,hH,by omega,rfl,hex,nr,by omega,hok⟩⟩
 ·refine EvC.exit ?_;have uw:rest=[]:=by rw[iy,List.drop_eq_nil_iff];omega
  subst uw;have hex:w=W:=hex;subst hex;have hH:=Has.iD [_,_,_,_,_,_,_] [_,_] hH;dsimp only[u3,u4] at hH;have rN:=hH;have A8:=jk hH at5;have Fj:=hH.pJ at4 (k:=k9) rfl;change EvC _ _ _ _ _ _;refine qq ?_;generalize hK:SeqQ _ _ _ _=K;refine EvC.lT rfl ?_;refine ba.cons ?_;refine EvO.hloadS (m:=12) hH rfl (ev rfl) (by exact at4) (by dsimp only[List.drop_succ_cons,List.drop_zero,List.take_succ_cons,List.take_zero,aq,az,ax,ai,dp]<;>rfl) rfl rfl (put_T rfl _) ?_;refine EvO.nil ⟨rfl,?_⟩;refine ba.cons ?_;refine qm ?_;refine EvO.nil ⟨rfl,?_⟩;refine ba.cons ?_;refine qg ?_;refine EvO.nil ⟨rfl,?_⟩;refine ba.cons ?_;refine qp (o:=1) ?_;refine EvO.nil ⟨rfl,?_⟩;refine ba.cons ?_;refine ql hH at3 ?_;refine EvO.nil ⟨rfl,?_⟩;refine ba.cons ?_;refine qS hH at1 fun st hH=>?_;dsimp only[u2,u1,u3,u4,setMany,u5,u6,D.cells,Nat.reduceAdd,aq,az,ax,ai,dp] at hH;refine EvO.nil ⟨by exact Bool.and_eq_true_iff.2 ⟨dQ rfl rfl rfl (rN.at at3) (hH.at at3) (rN.at at3) (by simp only[refs,D.ref];omega),rfl⟩,?_⟩;refine ba.cons ?_;refine qm ?_;refine EvO.nil ⟨rfl,?_⟩;refine ba.nil ?_;subst hK;refine EvC.ret ⟨rx,_,_,_,hH.jN rfl at1 rfl rfl,rfl,rd,rfl,pd,qd,P,Q,_,?_,hok,gi⟩;exact((Has.iD [_,_,_] [_] (hH.drop 2)).erase 2).erase 2
end Go.Proofs.YtnleclohocdkaaaGreat
