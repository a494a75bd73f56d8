/-
 What the search comes to: it is closed, and nothing can be left out.
-/
import Derived.Test.YtecjacicdpejaaaGreatXGQe
import Derived.Test.YtecjacicdpejaaaGreatXGHr
import Derived.Test.YtecjacicdpejaaaGreatXGPh
import Derived.Test.YtecjacicdpejaaaGreatXM2
import Derived.Test.YtecjacicdpejaaaGreatXGUa
set_option maxRecDepth 100000
set_option linter.unusedSimpArgs false
set_option linter.unusedVariables false
set_option maxHeartbeats 4000000
set_option linter.unusedSectionVars false
namespace Go.Proofs.YtecjacicdpejaaaGreat
open Go.V Go
def jF (seen:List Bool) (v:Int):Prop:=0≤v∧seen[v.toNat]?=some true
structure AY (code:List aK) (start:Int) (seen:List Bool) (eU:List Int):Prop where
 a:∀u i,seen[u]?=some true→code[u]?=some i→∀w∈bI u i,jF seen w∨w∈eU
 b:∀v∈eU,v=start∨∃u i,seen[u]?=some true∧code[u]?=some i∧v∈bI u i
 c:∀v,jF seen v→v=start∨∃u i,seen[u]?=some true∧code[u]?=some i∧v∈bI u i∧v≠(u:Int)
 d:jF seen start∨start∈eU
theorem fu {seen:List Bool} {k:Nat} (hk:k<seen.length) {v:Int}:jF (seen.set k true) v↔v=(k:Int)∨jF seen v:=by
 unfold jF;constructor
 ·rintro⟨h0,h⟩
  by_cases hv:v.toNat=k
  ·left;omega
  ·rw[List.getElem?_set_ne (fun e=>hv e.symm)] at h;exact .inr ⟨h0,h⟩
 ·rintro(rfl|⟨h0,h⟩)
  ·exact⟨by omega,by rw[Int.toNat_natCast,List.getElem?_set_self hk]⟩
  ·refine⟨h0,?_⟩
   by_cases hv:v.toNat=k
   ·rw[hv,List.getElem?_set_self hk]
   ·rw[List.getElem?_set_ne (fun e=>hv e.symm)];exact h
theorem dC {seen:List Bool} {u:Nat}:seen[u]?=some true↔jF seen (u:Int):=by
 unfold jF;rw[Int.toNat_natCast];exact⟨fun h=>⟨by omega,h⟩,fun h=>h.2⟩
theorem Az {code:List aK} {start:Int} (hcl:iI code):∀(f:Nat) (seen:List Bool) (eU:List Int),seen.length=code.length→(∀v∈eU,0≤v∧v<(code.length:Int))→3*seen.count false+eU.length≤f→AY code start seen eU→AY code start (wV code f seen eU) []
 |0,seen,eU,_,_,hm,hi=>by
  have:eU=[]:=by cases eU with|nil=>rfl|cons _ _=>simp at hm
  subst this;exact hi
 |f+1,seen,[],_,_,_,hi=>hi
 |f+1,seen,v::eU,hl,hs,hm,hi=>by
  have hv:=hs v (List.mem_cons_self ..);have nc:∀w∈eU,0≤w∧w<(code.length:Int):=fun w hw=>hs w (List.mem_cons_of_mem _ hw);obtain⟨k,rfl⟩:=Int.eq_ofNat_of_zero_le hv.1;have hk:k<code.length:=by omega
  obtain⟨i,hci⟩:∃i,code[k]?=some i:=⟨code[k]'hk,List.getElem?_eq_getElem _⟩
  obtain⟨b,hb⟩:∃b,seen[k]?=some b:=⟨seen[k]'(by omega),List.getElem?_eq_getElem _⟩
  simp only[List.length_cons] at hm;have hp:∀w,w∈((k:Int)::eU)→w=(k:Int)∨w∈eU:=fun w hw=>List.mem_cons.1 hw;unfold wV;simp only[Int.toNat_natCast,hb,hci]
  cases b with
  |true=>
   have jt:jF seen (k:Int):=dC.1 hb;refine Az hcl f seen eU hl nc (by omega) ⟨fun u j hu hj w hw=>?_,fun w hw=>hi.b w (List.mem_cons_of_mem _ hw),hi.c,?_⟩
   ·rcases hi.a u j hu hj w hw with h|h
    ·exact .inl h
    ·rcases hp w h with rfl|h
     ·exact .inl jt
     ·exact .inr h
   ·rcases hi.d with h|h
    ·exact .inl h
    ·rcases hp start h with h|h
     ·exact .inl (h▸jt)
     ·exact .inr h
  |false=>
   have Kh:=count_set hb;have j4:k<seen.length:=by omega
   have Dv:=rV k i;refine Az hcl f _ _ (by rw[List.length_set];exact hl) (fun w hw=>?_) (by simp only[List.length_append,List.length_reverse];omega) ⟨fun u j hu hj w hw=>?_,fun w hw=>?_,fun w hw=>?_,?_⟩
   ·rcases List.mem_append.1 hw with hw|hw
    ·exact hcl k i hci w (List.mem_reverse.1 hw)
    ·exact nc w hw
   ·rcases(fu j4).1 (dC.1 hu) with h|h
    ·have:u=k:=by omega
     subst this;rw[hci] at hj;cases hj;exact .inr (List.mem_append.2 (.inl (List.mem_reverse.2 hw)))
    ·rcases hi.a u j (dC.2 h) hj w hw with h|h
     ·exact .inl ((fu j4).2 (.inr h))
     ·rcases hp w h with h|h
      ·exact .inl ((fu j4).2 (.inl h))
      ·exact .inr (List.mem_append.2 (.inr h))
   ·rcases List.mem_append.1 hw with hw|hw
    ·exact .inr ⟨k,i,dC.2 ((fu j4).2 (.inl rfl)),hci,List.mem_reverse.1 hw⟩
    ·rcases hi.b w (List.mem_cons_of_mem _ hw) with h|⟨u,j,h1,h2,h3⟩
     ·exact .inl h
     ·exact .inr ⟨u,j,dC.2 ((fu j4).2 (.inr (dC.1 h1))),h2,h3⟩
   ·rcases(fu j4).1 hw with rfl|h
    ·rcases hi.b (k:Int) (List.mem_cons_self ..) with h|⟨u,j,h1,h2,h3⟩
     ·exact .inl h
     ·refine .inr ⟨u,j,dC.2 ((fu j4).2 (.inr (dC.1 h1))),h2,h3,fun e=>?_⟩;have:k=u:=by omega
      subst this;rw[hb] at h1;cases h1
    ·rcases hi.c w h with h|⟨u,j,h1,h2,h3,h4⟩
     ·exact .inl h
     ·exact .inr ⟨u,j,dC.2 ((fu j4).2 (.inr (dC.1 h1))),h2,h3,h4⟩
   ·rcases hi.d with h|h
    ·exact .inl ((fu j4).2 (.inr h))
    ·rcases hp start h with h|h
     ·exact .inl ((fu j4).2 (.inl h))
     ·exact .inr (List.mem_append.2 (.inr h))
theorem xD {code:List aK} {start:Int} (hcl:iI code) (gC:0≤start∧start<(code.length:Int)):AY code start (ba code start) []:=by
 have lb:∀v,¬jF (List.replicate code.length false) v:=by
  rintro v ⟨h0,h⟩;rw[List.getElem?_replicate] at h
  split at h<;>cases h
 refine Az hcl _ _ _ (by simp) (fun v hv=>?_) (by simp) ⟨fun u i hu=>absurd (dC.1 hu) (lb _),fun v hv=>?_,fun v hv=>absurd hv (lb v),.inr (by simp)⟩
 ·simp only[List.mem_cons,List.not_mem_nil,or_false] at hv;subst hv;exact gC
 ·simp only[List.mem_cons,List.not_mem_nil,or_false] at hv;exact .inl hv
theorem jT:∀{L:List Bool} {s:Nat} {v:Int},v∈rR s L↔∃k:Nat,L[k]?=some true∧v=((s+k:Nat):Int)
 |[],s,v=>⟨fun h=>(by cases h),fun⟨k,h,_⟩=>by simp at h⟩
 |b::l,s,v=>by
  simp only[rR,List.mem_append];constructor
  ·rintro(h|h)
   ·split at h
    ·rename_i hb;simp only[List.mem_cons,List.not_mem_nil,or_false] at h;exact⟨0,by simp[hb],by rw[h];simp⟩
    ·cases h
   ·obtain⟨k,h1,h2⟩:=jT.1 h;exact⟨k+1,by simpa using h1,by rw[h2];congr 1;omega⟩
  ·rintro⟨k,h1,h2⟩
   cases k with
   |zero=>simp at h1;subst h1;left;simp[h2]
   |succ k=>exact .inr (jT.2 ⟨k,by simpa using h1,by rw[h2];congr 1;omega⟩)
theorem uf : ∀ (L : List Bool) (s : Nat), (rR s L).Pairwise (· < ·)
 | [], s => .nil
 | b :: l, s => by
  simp only [rR];have ih := uf l (s + 1)
  split
  ·rw [List.singleton_append, List.pairwise_cons];refine ⟨fun v hv => ?_, ih⟩;obtain ⟨k, _, rfl⟩ := jT.1 hv;omega
  ·exact ih
def dp (lo hi:Nat) (i:aK):Prop:=
 (i.op=1∧i.x=0∧i.y=0∧dO i.rs=true)∨(i.op=2∧i.rs=[]∧((lo:Int)≤i.x∧i.x≤hi)∧(lo:Int)≤i.y∧i.y≤hi)∨(i.op=3∧i.rs=[]∧i.y=0∧(lo:Int)≤i.x∧i.x≤hi)∨(i.op=4∧i.rs=[]∧i.y=0∧0≤i.x∧i.x<10)∨((i.op=5∨i.op=6)∧i.rs=[]∧i.y=0∧i.x=0)
theorem dp.mono {lo hi uB iW:Nat} {i:aK} (h:dp lo hi i) (h1:uB≤lo) (h2:hi≤iW):dp uB iW i:=by
 rcases h with h|⟨a,b,c,d⟩|⟨a,b,c,d⟩|h|h
 ·exact .inl h
 ·exact .inr (.inl ⟨a,b,by omega,by omega⟩)
 ·exact .inr (.inr (.inl ⟨a,b,c,by omega⟩))
 ·exact .inr (.inr (.inr (.inl h)))
 ·exact .inr (.inr (.inr (.inr h)))
theorem dp.sp {lo hi s o:Nat} {lz:Bool} (h1:lo≤s+1∧s+1≤hi) (h2:lo≤o∧o≤hi):dp lo hi (ox s o lz):=by
 refine .inr (.inl ?_);cases lz
 ·refine⟨rfl,rfl,?_⟩;show((lo:Int)≤((s+1:Nat):Int)∧((s+1:Nat):Int)≤hi)∧(lo:Int)≤(o:Int)∧(o:Int)≤hi;omega
 ·refine⟨rfl,rfl,?_⟩;show((lo:Int)≤(o:Int)∧(o:Int)≤hi)∧(lo:Int)≤((s+1:Nat):Int)∧((s+1:Nat):Int)≤hi;omega
theorem dp.jp {lo hi e:Nat} (h1:lo≤e∧e≤hi):dp lo hi (nK e):=by
 refine .inr (.inr (.inl ⟨rfl,rfl,rfl,?_⟩));show(lo:Int)≤(e:Int)∧(e:Int)≤hi;omega
theorem dp.save {lo hi:Nat} {x:Int} (h:0≤x∧x<10):dp lo hi (de 4 x 0 []):=.inr (.inr (.inr (.inl ⟨rfl,rfl,rfl,h⟩)))
theorem oD {c:Nat→List aK} {z:Nat} (hc:∀b,∀i∈c b,dp b (b+z) i):∀k b,∀i∈fO c z k b,dp b (b+k*z) i
 |0,b,i,hi=>by cases hi
 |k+1,b,i,hi=>by
  simp only[fO] at hi;rw[Nat.succ_mul]
  rcases List.mem_append.1 hi with hi|hi
  ·exact(hc b i hi).mono (Nat.le_refl _) (by omega)
  ·exact(oD hc k _ i hi).mono (by omega) (by omega)
theorem ud {sp:Nat→aK} {c:Nat→List aK} {z lo hi:Nat} (hs:∀s,lo≤s→s+1≤hi→dp lo hi (sp s)) (hc:∀b,∀i∈c b,dp b (b+z) i):∀k b,lo≤b→b+k*(z+1)≤hi→∀i∈fx sp c z k b,dp lo hi i
 |0,b,_,_,i,iW=>by cases iW
 |k+1,b,h1,h2,i,iW=>by
  simp only[fx] at iW;rw[Nat.succ_mul] at h2
  rcases List.mem_cons.1 iW with rfl|iW
  ·exact hs b h1 (by omega)
  ·rcases List.mem_append.1 iW with iW|iW
   ·exact(hc _ i iW).mono (by omega) (by omega)
   ·exact ud hs hc k _ (by omega) (by omega) i iW
def Gy (l:List dI):Prop:=∀n∈l,n.op=2→dO n.rs=true
mutual
theorem kJ:∀(t:Tr) (b:Nat),t.ok→Gy t.flat→∀i∈aO t b,dp b (b+t.sz) i
 | .mk n ks,b,bq,tn,i,hi=>by
  simp only[Tr.ok] at bq;simp only[Tr.flat] at tn;have hc:=fun b=>u9 ks b bq.2 (fun n hn=>tn n (List.mem_cons_of_mem _ hn));obtain⟨_,hq⟩:=bq.1;simp only[aO] at hi;simp only[Tr.sz]
  by_cases q2:n.op=2
  ·rw[if_pos q2] at hi;simp only[List.mem_cons,List.not_mem_nil,or_false] at hi;subst hi;exact .inl ⟨rfl,rfl,rfl,tn n (List.mem_cons_self ..) q2⟩
  rw[if_neg q2] at hi
  by_cases q7:n.op=7
  ·rw[if_pos q7] at hi;simp only[List.mem_cons,List.not_mem_nil,or_false] at hi;subst hi;exact .inr (.inr (.inr (.inr ⟨.inl rfl,rfl,rfl,rfl⟩)))
  rw[if_neg q7] at hi
  by_cases q8:n.op=8
  ·rw[if_pos q8] at hi;simp only[List.mem_cons,List.not_mem_nil,or_false] at hi;subst hi;exact .inr (.inr (.inr (.inr ⟨.inr rfl,rfl,rfl,rfl⟩)))
  rw[if_neg q8] at hi
  have hz:∀s k,bH n s k=if n.op=4 then s+2*(k-1) else if n.op=6 then s+2 else if n.op=5 then(if n.mx=-1 then n.mn.toNat*s+s+2 else n.mn.toNat*s+(n.mx.toNat-n.mn.toNat)*(s+1)) else s:=by
   intro s k;unfold bH;rw[if_neg (by omega)]
  by_cases q3:n.op=3
  ·rw[if_pos q3] at hi;rw[hz,if_neg (by omega),if_neg (by omega),if_neg (by omega)];exact hc b i hi
  rw[if_neg q3] at hi
  by_cases q4:n.op=4
  ·rw[if_pos q4] at hi;have LU:bH n ks.sz ks.len=ks.sz+2*(ks.len-1):=by rw[hz,if_pos q4]
   rw[LU] at hi⊢;exact vf ks b (b+(ks.sz+2*(ks.len-1))) bq.2 (fun n hn=>tn n (List.mem_cons_of_mem _ hn)) (Nat.le_refl _) i hi
  rw[if_neg q4] at hi
  by_cases q5:n.op=5
  ·rw[if_pos q5] at hi;rw[hz,if_neg q4,if_neg (by omega),if_pos q5];unfold oB at hi
   by_cases qx:n.mx=-1
   ·rw[if_pos qx] at hi⊢
    rcases List.mem_append.1 hi with hi|hi
    ·exact(oD hc _ _ i hi).mono (Nat.le_refl _) (by omega)
    ·rcases List.mem_cons.1 hi with rfl|hi
     ·exact dp.sp (by omega) (by omega)
     ·rcases List.mem_append.1 hi with hi|hi
      ·exact(hc _ i hi).mono (by omega) (by omega)
      ·simp only[List.mem_cons,List.not_mem_nil,or_false] at hi;subst hi;exact dp.jp (by omega)
   ·rw[if_neg qx] at hi⊢
    rcases List.mem_append.1 hi with hi|hi
    ·exact(oD hc _ _ i hi).mono (Nat.le_refl _) (by omega)
    ·exact ud (fun s h1 h2=>dp.sp (by omega) (by omega)) hc _ _ (by omega) (by omega) i hi
  rw[if_neg q5] at hi
  by_cases q6:n.op=6
  ·rw[if_pos q6] at hi;rw[hz,if_neg q4,if_pos q6]
   rcases List.mem_cons.1 hi with rfl|hi
   ·exact dp.save (by omega)
   ·rcases List.mem_append.1 hi with hi|hi
    ·exact(hc _ i hi).mono (by omega) (by omega)
    ·simp only[List.mem_cons,List.not_mem_nil,or_false] at hi;subst hi;exact dp.save (by omega)
  ·rw[if_neg q6] at hi;cases hi
theorem u9:∀(ts:bD) (b:Nat),ts.ok→Gy ts.flat→∀i∈gp ts b,dp b (b+ts.sz) i
 | .nil,b,_,_,i,hi=>by simp[gp] at hi
 | .cons t ts,b,bq,tn,i,hi=>by
  simp only[bD.ok] at bq;simp only[bD.flat] at tn;simp only[gp] at hi;simp only[bD.sz]
  rcases List.mem_append.1 hi with hi|hi
  ·exact(kJ t b bq.1 (fun n hn=>tn n (List.mem_append_left _ hn)) i hi).mono (Nat.le_refl _) (by omega)
  ·exact(u9 ts _ bq.2 (fun n hn=>tn n (List.mem_append_right _ hn)) i hi).mono (by omega) (by omega)
theorem vf:∀(ts:bD) (b e:Nat),ts.ok→Gy ts.flat→b+(ts.sz+2*(ts.len-1))≤e→∀i∈eT (nK e) ts b,dp b e i
 | .nil,b,e,_,_,_,i,hi=>by simp[eT] at hi
 | .cons t ts,b,e,bq,tn,he,i,hi=>by
  simp only[bD.ok] at bq;simp only[bD.flat] at tn;simp only[eT] at hi;simp only[bD.sz,bD.len] at he;have h1:Gy t.flat:=fun n hn=>tn n (List.mem_append_left _ hn);have h2:Gy ts.flat:=fun n hn=>tn n (List.mem_append_right _ hn)
  by_cases q:ts.len=0
  ·rw[if_pos q] at hi;exact(kJ t b bq.1 h1 i hi).mono (Nat.le_refl _) (by omega)
  ·rw[if_neg q] at hi
   rcases List.mem_cons.1 hi with rfl|hi
   ·exact dp.sp (by omega) (by omega)
   ·rcases List.mem_append.1 hi with hi|hi
    ·exact(kJ t _ bq.1 h1 i hi).mono (by omega) (by omega)
    ·rcases List.mem_cons.1 hi with rfl|hi
     ·exact dp.jp (by omega)
     ·exact(vf ts _ e bq.2 h2 (by omega) i hi).mono (by omega) (by omega)
end
inductive Path (C:List aK):Nat→Nat→Prop where
 |refl (u:Nat):Path C u u
 |step {u v w:Nat} {i:aK} (h:C[u]?=some i) (hn:(v:Int)∈bI u i) (p:Path C v w):Path C u w
theorem Path.trans {C:List aK} {u v w:Nat} (h:Path C u v) (g:Path C v w):Path C u w:=by
 induction h with
 |refl=>exact g
 |step h hn _ ih=>exact .step h hn (ih g)
theorem Path.Av {C:List aK} {u:Nat} {i:aK} (h:C[u]?=some i) (ho:i.op≠2∧i.op≠3∧i.op≠7):Path C u (u+1):=
 .step h (by unfold bI;rw[if_neg ho.1,if_neg ho.2.1,if_neg ho.2.2];exact List.mem_cons_self ..) (.refl _)
theorem Path.jp {C:List aK} {u e:Nat} (h:C[u]?=some (nK e)):Path C u e:=
 .step h (by show(e:Int)∈bI u (de 3 (e:Nat) 0 []);unfold bI;rw[if_neg (show¬(de 3 (e:Nat) 0 []).op=2 by show¬(3:Int)=2;decide),if_pos (show(de 3 (e:Nat) 0 []).op=3 from rfl)];exact List.mem_cons_self ..) (.refl _)
theorem Path.sp {C:List aK} {u s o:Nat} {lz:Bool} (h:C[u]?=some (ox s o lz)):Path C u (s+1)∧Path C u o:=by
 have hn:bI u (ox s o lz)=[(ox s o lz).x,(ox s o lz).y]:=by
  unfold bI;rw[if_pos (by cases lz<;>rfl)]
 cases lz
 ·exact⟨.step h (by rw[hn];exact List.mem_cons_self ..) (.refl _),.step h (by rw[hn];exact List.mem_cons_of_mem _ (List.mem_cons_self ..)) (.refl _)⟩
 ·exact⟨.step h (by rw[hn];exact List.mem_cons_of_mem _ (List.mem_cons_self ..)) (.refl _),.step h (by rw[hn];exact List.mem_cons_self ..) (.refl _)⟩
theorem oC {C:List aK} {c:Nat→List aK} {z:Nat} (hl:∀b,(c b).length=z) (hc:∀b,ga C b (c b)→Path C b (b+z)):∀k b,ga C b (fO c z k b)→Path C b (b+k*z)
 |0,b,_=>by rw[Nat.zero_mul];exact .refl _
 |k+1,b,h=>by
  rw[fO] at h;have h2:=h.right;rw[hl] at h2;have:=oC hl hc k (b+z) h2;rw[Nat.succ_mul,show b+(k*z+z)=b+z+k*z by omega];exact(hc b h.left).trans this
theorem Dg {C : List aK} : ∀ (m : Nat) (t : Tr), t.flat.length ≤ m → ∀ b : Nat, t.ok → ga C b (aO t b) → Path C b (b + t.sz) := by
  intro m
  induction m with
  | zero => intro t h; have := t.i7; omega
  | succ m ih =>
    rintro ⟨n, ks⟩ hm b bq h
    simp only [Tr.flat, List.length_cons] at hm
    simp only [Tr.ok] at bq
    have hcat : ∀ (ts : bD) (b : Nat), ts.flat.length ≤ m → ts.ok → ga C b (gp ts b) → Path C b (b + ts.sz) := by
      intro ts
      induction ts using bD.rec (motive_1 := fun _ => True) with
      | mk => trivial
      | nil => intro b _ _ _; exact .refl _
      | cons t ts _ BE =>
        intro b h1 h2 h3
        simp only [bD.flat, List.length_append] at h1
        simp only [bD.ok] at h2
        simp only [gp] at h3
        have h4 := h3.right
        rw [cG t b h2.1] at h4
        have h5 := BE (b + t.sz) (by omega) h2.2 h4
        simp only [bD.sz]
        rw [← Nat.add_assoc]
        exact (ih t (by omega) b h2.1 h3.left).trans h5
    obtain ⟨lb, jt⟩ := bq
    obtain ⟨_, hq⟩ := lb
    have j4 := fun b => n9 ks b jt
    simp only [aO] at h
    simp only [Tr.sz]
    have hz : ∀ s k, bH n s k = if n.op = 2 ∨ n.op = 7 ∨ n.op = 8 then 1 else if n.op = 4 then s + 2 * (k - 1) else if n.op = 6 then s + 2 else if n.op = 5 then (if n.mx = -1 then n.mn.toNat * s + s + 2 else n.mn.toNat * s + (n.mx.toNat - n.mn.toNat) * (s + 1)) else s := fun s k => rfl
    rw [hz]
    by_cases q2 : n.op = 2
    · rw [if_pos q2] at h
      rw [if_pos (.inl q2)]
      exact Path.Av h.head (by show (1 : Int) ≠ 2 ∧ (1 : Int) ≠ 3 ∧ (1 : Int) ≠ 7; decide)
    rw [if_neg q2] at h
    by_cases q7 : n.op = 7
    · rw [if_pos q7] at h
      rw [if_pos (.inr (.inl q7))]
      exact Path.Av h.head (by show (5 : Int) ≠ 2 ∧ (5 : Int) ≠ 3 ∧ (5 : Int) ≠ 7; decide)
    rw [if_neg q7] at h
    by_cases q8 : n.op = 8
    · rw [if_pos q8] at h
      rw [if_pos (.inr (.inr q8))]
      exact Path.Av h.head (by show (6 : Int) ≠ 2 ∧ (6 : Int) ≠ 3 ∧ (6 : Int) ≠ 7; decide)
    rw [if_neg q8] at h
    rw [if_neg (by omega)]
    by_cases q3 : n.op = 3
    · rw [if_pos q3] at h
      rw [if_neg (by omega), if_neg (by omega), if_neg (by omega)]
      exact hcat ks b (by omega) jt h
    rw [if_neg q3] at h
    by_cases q4 : n.op = 4
    · rw [if_pos q4] at h
      have LU : bH n ks.sz ks.len = ks.sz + 2 * (ks.len - 1) := by rw [hz, if_neg (by omega), if_pos q4]
      rw [LU] at h
      rw [if_pos q4]
      cases ks with
      | nil => simp only [bD.len] at hq; omega
      | cons t ts =>
        simp only [bD.len] at hq
        simp only [bD.flat, List.length_append] at hm
        simp only [bD.ok] at jt
        simp only [eT] at h
        rw [if_neg (by omega)] at h
        have h1 := (Path.sp h.head).1
        have h2 := ih t (by omega) (b + 1) jt.1 h.tail.left
        have h3 := h.tail.right
        rw [cG t _ jt.1] at h3
        exact h1.trans (h2.trans (Path.jp h3.head))
    rw [if_neg q4] at h
    rw [if_neg q4]
    by_cases q5 : n.op = 5
    · rw [if_pos q5] at h
      rw [if_neg (by omega), if_pos q5]
      unfold oB at h
      by_cases qx : n.mx = -1
      · rw [if_pos qx] at h ⊢
        have h1 := oC j4 (fun b hb => hcat ks b (by omega) jt hb) _ _ h.left
        have h2 := h.right
        rw [jQ j4] at h2
        have h3 := (Path.sp h2.head).2
        rw [show b + (n.mn.toNat * ks.sz + ks.sz + 2) = b + n.mn.toNat * ks.sz + ks.sz + 2 by omega]
        exact h1.trans h3
      · rw [if_neg qx] at h ⊢
        have h1 := oC j4 (fun b hb => hcat ks b (by omega) jt hb) _ _ h.left
        have h2 := h.right
        rw [jQ j4] at h2
        by_cases hd : n.mx.toNat - n.mn.toNat = 0
        · rw [hd, Nat.zero_mul, Nat.add_zero]; exact h1
        · obtain ⟨d, tJ⟩ : ∃ d, n.mx.toNat - n.mn.toNat = d + 1 := ⟨n.mx.toNat - n.mn.toNat - 1, by omega⟩
          rw [tJ] at h2 ⊢
          rw [fx] at h2
          have h3 := (Path.sp h2.head).2
          rw [← Nat.add_assoc]
          exact h1.trans h3
    rw [if_neg q5] at h
    by_cases q6 : n.op = 6
    · rw [if_pos q6] at h
      rw [if_pos q6]
      have h1 : Path C b (b + 1) := Path.Av h.head (by show (4 : Int) ≠ 2 ∧ (4 : Int) ≠ 3 ∧ (4 : Int) ≠ 7; decide)
      have h2 := hcat ks (b + 1) (by omega) jt h.tail.left
      have h3 := h.tail.right
      rw [j4] at h3
      have h4 : Path C (b + 1 + ks.sz) (b + 1 + ks.sz + 1) := Path.Av h3.head (by show (4 : Int) ≠ 2 ∧ (4 : Int) ≠ 3 ∧ (4 : Int) ≠ 7; decide)
      rw [show b + (ks.sz + 2) = b + 1 + ks.sz + 1 by omega]
      exact h1.trans (h2.trans h4)
    · have yr : ks.len = 0 := by omega
      have := bD.len_nil yr
      subst this
      rw [if_neg q6, if_neg q5]
      exact .refl _
theorem AA {code:List aK} {I:Nat→Prop} (hI:∀u i,I u→code[u]?=some i→∀v∈bI u i,I v.toNat):∀(f:Nat) (seen:List Bool) (eU:List Int),(∀v∈eU,I v.toNat)→(∀u:Nat,seen[u]?=some true→I u)→∀u:Nat,(wV code f seen eU)[u]?=some true→I u
 |0,seen,eU,_,h2,u,h=>h2 u h
 |f+1,seen,[],_,h2,u,h=>h2 u h
 |f+1,seen,v::eU,h1,h2,u,h=>by
  have hv:=h1 v (List.mem_cons_self ..);have hs:∀w∈eU,I w.toNat:=fun w hw=>h1 w (List.mem_cons_of_mem _ hw);unfold wV at h
  split at h
  ·split at h
   ·rename_i i hi;refine AA hI f _ _ (fun w hw=>?_) (fun w hw=>?_) u h
    ·rcases List.mem_append.1 hw with hw|hw
     ·exact hI _ i hv hi w (List.mem_reverse.1 hw)
     ·exact hs w hw
    ·by_cases he:v.toNat=w
     ·rw[←he];exact hv
     ·rw[List.getElem?_set_ne he] at hw;exact h2 w hw
   ·exact h2 u h
  ·exact AA hI f _ _ hs h2 u h
theorem CA {code:List aK} {start:Int} (hcl:iI code) (gC:0≤start∧start<(code.length:Int)) {u v:Nat} (p:Path code u v):(ba code start)[u]?=some true→(ba code start)[v]?=some true:=by
 obtain⟨ha,_,_,_⟩:=xD hcl gC
 induction p with
 |refl=>exact id
 |@step u v w i h hn _ ih=>
  intro hu;refine ih ?_
  rcases ha u i hu h _ hn with hs|hs
  ·exact dC.2 hs
  ·cases hs
theorem xC {code:List aK} {s:Nat} (hcl:iI code) (hs:s<code.length):(ba code (s:Nat))[s]?=some true:=by
 obtain⟨_,_,_,hd⟩:=xD (start:=((s:Nat):Int)) hcl ⟨by omega,by omega⟩
 rcases hd with hd|hd
 ·exact dC.2 hd
 ·cases hd
mutual
theorem Tr.PO:∀t:Tr,True
 | .mk _ _=>trivial
theorem bD.PO:∀t:bD,True
 | .nil=>trivial
 | .cons _ _=>trivial
end
theorem DX {n:dI} {g:Int} (h:(fM n g).2=true) (h2:n.op=2):dO n.rs=true:=by
 unfold fM at h
 split at h
 ·cases h
 ·rw[if_neg (show¬(n.op=1∨n.op=7∨n.op=8) by omega)] at h;have h:(n.kids==0 &&dO n.rs)=true:=h;rw[Bool.and_eq_true] at h;exact h.2
theorem BA {l:List dI} {h:Nat→Nat→Option (Nat×Nat)} (ih:∀at_ g r,h at_ g=some r→at_≤r.1∧∀j n,at_≤j→j<r.1→l[j]?=some n→n.op=2→dO n.rs=true):∀k at_ g r,jX h k at_ g=some r→at_≤r.1∧∀j n,at_≤j→j<r.1→l[j]?=some n→n.op=2→dO n.rs=true
 |0,at_,g,r,e=>by
  simp only[jX,Option.some.injEq] at e;subst e;exact⟨Nat.le_refl _,fun j n h1 h2=>by simp only at h2;omega⟩
 |k+1,at_,g,r,e=>by
  unfold jX at e
  cases hq:h at_ g with
  |none=>rw[hq] at e;cases e
  |some q=>
   rw[hq] at e;obtain⟨t1,t2⟩:=ih _ _ _ hq;obtain⟨u1,u2⟩:=BA ih k _ _ _ e;refine⟨Nat.le_trans t1 u1,fun j n h1 h2 hj ho=>?_⟩
   by_cases V_:j<q.1
   ·exact t2 j n h1 V_ hj ho
   ·exact u2 j n (by omega) h2 hj ho
theorem Es {l:List dI}:∀f at_ g r,iR l f at_ g=some r→at_≤r.1∧∀j n,at_≤j→j<r.1→l[j]?=some n→n.op=2→dO n.rs=true
 |0,_,_,_,e=>by simp[iR] at e
 |f+1,at_,g,r,e=>by
  unfold iR at e
  cases hn:l[at_]? with
  |none=>rw[hn] at e;cases e
  |some n=>
   rw[hn] at e;simp only at e
   split at e
   ·rename_i hs;obtain⟨u1,u2⟩:=BA (Es f) _ _ _ _ e;refine⟨by omega,fun j m h1 h2 hj ho=>?_⟩
    by_cases Wc:j=at_
    ·subst Wc;rw[hn] at hj;cases hj;exact DX hs ho
    ·exact u2 j m (by omega) h2 hj ho
   ·cases e
theorem D4 {l:List dI} (h:gL l=true):Gy l:=by
 unfold gL at h;simp only[Bool.and_eq_true] at h;obtain⟨_,h⟩:=h
 split at h
 ·rename_i r hr;rw[decide_eq_true_eq] at h;obtain⟨_,h2⟩:=Es _ _ _ _ hr;intro n hn ho;obtain⟨j,hj⟩:=List.getElem?_of_mem hn;exact h2 j n (Nat.zero_le _) (by rw[h];exact bo hj) hj ho
 ·cases h
structure KN (n0 r0:Nat) (C:List aK) (B:List Int) (k:Nat):Prop where
 bl:B.length=k
 fs:0<k→B[0]?=some ((n0:Nat):Int)
 el:∀j,j<k→∃(t:Tr) (b:Nat),t.ok∧Gy t.flat∧B[j]?=some (b:Int)∧n0≤b∧(∀b':Int,B[j+1]?=some b'→b'=((b+t.sz+3:Nat):Int))∧(j+1=k→n0+C.length=b+t.sz+3)∧∃pre post,C=pre++eV t b (r0+j)++post∧n0+pre.length=b
 al:∀i q,C[i]?=some q→∃j,j<k∧∃(t:Tr) (b:Nat),B[j]?=some (b:Int)∧t.ok∧Gy t.flat∧b≤n0+i∧n0+i<b+t.sz+3∧b+t.sz+3≤n0+C.length∧q∈eV t b (r0+j)∧(eV t b (r0+j))[n0+i-b]?=some q
theorem s8:∀(ls:List (List dI)) (r:Nat) (c:List aK) (s:List Int),(eX ls r c s).e=0→∃C B,(eX ls r c s).code=c++C∧(eX ls r c s).aq=s++B∧KN c.length r C B ls.length
 |[],r,c,s,h=>by
  rw[AJ];exact⟨[],[],by simp,by simp,rfl,fun h=>by simp at h,fun j hj=>by simp at hj,fun i q hi=>by simp at hi⟩
 |l::ls,r,c,s,h=>by
  rw[eX] at h⊢
  by_cases hr:gL l=false
  ·rw[if_pos hr] at h;cases h
  rw[if_neg hr] at h⊢;rw[Bool.not_eq_false] at hr
  by_cases hb:400<c.length+min (cP l).sz 401+3
  ·rw[if_pos hb] at h;cases h
  rw[if_neg hb] at h⊢;obtain⟨t1,t2⟩:=vp hr;have tn:Gy (cP l).flat:=by rw[t2];exact D4 hr
  have hlen:=lZ (b:=c.length) (r:=r) t1;obtain⟨C,B,h1,h2,h3⟩:=s8 ls (r+1) _ _ h;rw[List.length_append,hlen] at h3;refine⟨eV (cP l) c.length r++C,((c.length:Nat):Int)::B,by rw[h1,List.append_assoc],by rw[h2,List.append_assoc];rfl,by simp[h3.bl],fun _=>rfl,fun j hj=>?_,fun i q hi=>?_⟩
  ·cases j with
   |zero=>
    refine⟨cP l,c.length,t1,tn,rfl,Nat.le_refl _,fun b' dW=>?_,fun Kd=>?_,[],C,by simp,by simp⟩
    ·simp only[Nat.zero_add,List.getElem?_cons_succ] at dW;have hB:=h3.bl;have hlt:=bo dW;rw[h3.fs (by omega)] at dW;cases dW
     congr 1
    ·simp only[List.length_cons] at Kd;have CV:ls.length=0:=by omega
     have hC:C=[]:=by
      cases hc:C with
      |nil=>rfl
      |cons q C'=>
       obtain⟨j,hj,_⟩:=h3.al 0 q (by rw[hc];rfl);omega
     rw[hC,List.append_nil,hlen];omega
   |succ j=>
    simp only[List.length_cons] at hj;obtain⟨t,b,q1,q2,q3,q4,q5,q6,pre,post,q7,q8⟩:=h3.el j (by omega);refine⟨t,b,q1,q2,q3,by omega,q5,fun Kd=>?_,eV (cP l) c.length r++pre,post,?_,?_⟩
    ·simp only[List.length_cons] at Kd;have:=q6 (by omega);rw[List.length_append,hlen];omega
    ·rw[q7,show r+1+j=r+(j+1) by omega];simp only[List.append_assoc]
    ·rw[List.length_append,hlen];omega
  ·by_cases hil:i<(eV (cP l) c.length r).length
   ·rw[List.getElem?_append_left hil] at hi;refine⟨0,by simp,cP l,c.length,rfl,t1,tn,by omega,by omega,by rw[List.length_append,hlen];omega,List.mem_of_getElem? hi,?_⟩;rw[show c.length+i-c.length=i by omega];exact hi
   ·rw[List.getElem?_append_right (by omega)] at hi;obtain⟨j,q1,t,b,q2,q3,q4,q5,q6,q7,q8,q9⟩:=h3.al _ q hi;rw[hlen] at q5 q6 q9 hil;refine⟨j+1,by simp only[List.length_cons];omega,t,b,q2,q3,q4,by omega,by omega,by rw[List.length_append,hlen];omega,by rw[show r+(j+1)=r+1+j by omega];exact q8,?_⟩;rw[show r+(j+1)=r+1+j by omega,show c.length+i-b=c.length+((cP l).sz+3)+(i-((cP l).sz+3))-b by omega];exact q9
theorem C4 {lo hi u:Nat} {i:aK} (h:dp lo hi i) (h1:lo≤u+1) (h2:u+1≤hi):∀v∈bI u i,(lo:Int)≤v∧v≤hi:=by
 intro v hv;unfold bI at hv
 rcases h with⟨a,_⟩|⟨a,_,c,d⟩|⟨a,_,_,d⟩|⟨a,_⟩|⟨a,_⟩
 ·rw[if_neg (by omega),if_neg (by omega),if_neg (by omega)] at hv;simp only[List.mem_cons,List.not_mem_nil,or_false] at hv;omega
 ·rw[if_pos a] at hv;simp only[List.mem_cons,List.not_mem_nil,or_false] at hv
  rcases hv with rfl|rfl<;>omega
 ·rw[if_neg (by omega),if_pos a] at hv;simp only[List.mem_cons,List.not_mem_nil,or_false] at hv;omega
 ·rw[if_neg (by omega),if_neg (by omega),if_neg (by omega)] at hv;simp only[List.mem_cons,List.not_mem_nil,or_false] at hv;omega
 ·rw[if_neg (by omega),if_neg (by omega),if_neg (by omega)] at hv;simp only[List.mem_cons,List.not_mem_nil,or_false] at hv;omega
theorem yz {lo hi n ns pc:Nat} {i:aK} (h:dp lo hi i) (h1:hi<n) (h2:pc+1<n):cv n ns pc i=true:=by
 have nf:∀v:Int,(lo:Int)≤v→v≤hi→jq v n=true:=fun v a b=>fH.2 ⟨by omega,by omega⟩;have hd:decide (((pc+1:Nat):Int)<n)=true:=by rw[decide_eq_true_eq];omega
 unfold cv
 rcases h with⟨a,b,c,d⟩|⟨a,b,c,d⟩|⟨a,b,c,d⟩|⟨a,b,c,d⟩|⟨a,b,c,d⟩
 ·rw[if_pos a,hd,b,c,d];rfl
 ·rw[if_neg (by omega),if_pos a,b,nf _ c.1 c.2,nf _ d.1 d.2];rfl
 ·rw[if_neg (by omega),if_neg (by omega),if_pos a,b,c,nf _ d.1 d.2];rfl
 ·rw[if_neg (by omega),if_neg (by omega),if_neg (by omega),if_pos a,b,c,hd,fH.2 ⟨d.1,d.2⟩];rfl
 ·rw[if_neg (by omega),if_neg (by omega),if_neg (by omega),if_neg (by omega),if_pos a,b,c,hd,d];rfl
theorem oA {t:Tr} {b r o:Nat} {q:aK} (h1:t.ok) (h2:Gy t.flat) (h:(eV t b r)[o]?=some q):(o<t.sz+2∧dp b (b+t.sz+2) q)∨(o=t.sz+2∧q=de 7 (r:Nat) 0 []):=by
 have hl:=cG t (b+1) h1;have hA:eV t b r=(de 4 0 0 []::(aO t (b+1)++[de 4 1 0 []]))++[de 7 (r:Nat) 0 []]:=by unfold eV;simp
 have WS:(de 4 0 0 []::(aO t (b+1)++[de 4 1 0 []])).length=t.sz+2:=by simp[hl]
 rw[hA] at h
 by_cases ho:o<t.sz+2
 ·rw[List.getElem?_append_left (by omega)] at h;refine .inl ⟨ho,?_⟩;have hm:=List.mem_of_getElem? h
  rcases List.mem_cons.1 hm with rfl|hm
  ·exact dp.save (by omega)
  ·rcases List.mem_append.1 hm with hm|hm
   ·exact(kJ t (b+1) h1 h2 q hm).mono (by omega) (by omega)
   ·simp only[List.mem_cons,List.not_mem_nil,or_false] at hm;subst hm;exact dp.save (by omega)
 ·rw[List.getElem?_append_right (by omega),WS] at h;have h0:=bo h;simp only[List.length_cons,List.length_nil] at h0;have wT:o=t.sz+2:=by omega
  refine .inr ⟨wT,?_⟩;rw[wT,Nat.sub_self] at h;exact(Option.some.inj h).symm
structure OL (p:Pg) (r s e:Nat):Prop where
 st:p.aq[r]?=some (s:Int)
 se:s<e
 el:e≤p.code.length
 nx:∀b':Int,p.aq[r+1]?=some b'→b'=(e:Int)
 la:r+1=p.aq.length→p.code.length=e
 mt:p.code[e-1]?=some (de 7 (r:Nat) 0 [])
 fi:(rJ p (r:Nat))[0]?=some (s:Int)
 lt:(rJ p (r:Nat))[(rJ p (r:Nat)).length-1]?=some ((e-1:Nat):Int)
theorem Cu {X:List Int} {a b:Int} (hp:X.Pairwise (·<·)) (ha:a∈X) (hb:b∈X) (h:∀v∈X,a≤v∧v≤b):X[0]?=some a∧X[X.length-1]?=some b:=by
 obtain⟨i,hi⟩:=List.getElem?_of_mem ha;obtain⟨j,hj⟩:=List.getElem?_of_mem hb;have hil:=bo hi;have oo:=bo hj
 have hlt:∀u v (x y:Int),u<v→X[u]?=some x→X[v]?=some y→x<y:=fun u v x y US hx hy=>by
  have:=List.pairwise_iff_getElem.1 hp u v (bo hx) (bo hy) US;have ex:X[u]'(bo hx)=x:=Option.some.inj ((List.getElem?_eq_getElem _).symm.trans hx);have ey:X[v]'(bo hy)=y:=Option.some.inj ((List.getElem?_eq_getElem _).symm.trans hy);rw[ex,ey] at this;exact this
 constructor
 ·obtain⟨x,hx⟩:∃x,X[0]?=some x:=⟨X[0]'(by omega),List.getElem?_eq_getElem _⟩
  have:=h x (List.mem_of_getElem? hx)
  by_cases h0:i=0
  ·rw[←h0];exact hi
  ·have:=hlt 0 i x a (by omega) hx hi;omega
 ·obtain⟨x,hx⟩:∃x,X[X.length-1]?=some x:=⟨X[X.length-1]'(by omega),List.getElem?_eq_getElem _⟩
  have:=h x (List.mem_of_getElem? hx)
  by_cases h0:j=X.length-1
  ·rw[←h0];exact hj
  ·have:=hlt j (X.length-1) b x (by omega) hj hx;omega
theorem zL {parts:List (List dI)} (hl:parts.length≤8) (he:(bm parts).e=0) (hcl:(bm parts).code.length≤400):
  cL (py (bm parts).code (bm parts).aq)∧(bm parts).aq.length=parts.length∧∀r,r<parts.length→∃s e,OL (py (bm parts).code (bm parts).aq) r s e:=by
 have lf:bm parts=eX parts 0 [] []:=by unfold bm;rw[if_neg (by omega)]
 rw[lf] at he hcl⊢;obtain⟨C,B,h1,h2,h3⟩:=s8 parts 0 [] [] he;simp only[List.nil_append] at h1 h2;simp only[List.length_nil] at h3;rw[h1] at hcl;rw[h1,h2];have Pl:=h3.bl
 have hsh:∀pc i,C[pc]?=some i→cv C.length B.length pc i=true:=by
  intro pc i hi;obtain⟨j,q1,t,b,q2,q3,q4,q5,q6,q7,q8,q9⟩:=h3.al pc i hi;rw[Nat.zero_add] at q9
  rcases oA q3 q4 q9 with⟨g1,g2⟩|⟨g1,g2⟩
  ·exact yz g2 (by omega) (by omega)
  ·rw[g2];have:jq ((j:Nat):Int) B.length=true:=fH.2 ⟨by omega,by omega⟩;unfold cv de;simp[this]
 have MV:iI C:=ml (p:=py C B) hsh
 have E3:∀r,r<parts.length→∃s e:Nat,B[r]?=some (s:Int)∧s<e∧e≤C.length∧(∀b':Int,B[r+1]?=some b'→b'=(e:Int))∧(r+1=parts.length→C.length=e)∧C[e-1]?=some (de 7 (r:Nat) 0 [])∧(∀u:Nat,(ba C (s:Nat))[u]?=some true→s≤u∧u<e)∧(ba C (s:Nat))[s]?=some true∧(ba C (s:Nat))[e-1]?=some true∧∀u i,s≤u→u<e→C[u]?=some i→i.op=7→i.x=(r:Int):=by
  intro r hr;obtain⟨t,b,q1,q2,q3,q4,q5,q6,pre,post,q7,q8⟩:=h3.el r hr;rw[Nat.zero_add] at q6 q8;rw[Nat.zero_add] at q7;have Ac:=lZ (b:=b) (r:=r) q1;have Lc:C.length=b+(t.sz+3)+post.length:=by rw[q7,List.length_append,List.length_append,Ac,q8]
  have jv:∀u,b≤u→u<b+t.sz+3→C[u]?=(eV t b r)[u-b]?:=fun u g1 g2=>by
   rw[q7,List.append_assoc,List.getElem?_append_right (by omega),q8,List.getElem?_append_left (by omega)]
  have kC:ga C b (eV t b r):=⟨post,by rw[q7,List.append_assoc,←q8,List.drop_left]⟩
  have nf:∀u:Nat,(ba C (b:Nat))[u]?=some true→b≤u∧u<b+t.sz+3:=by
   unfold ba;refine AA (I:=fun u=>b≤u∧u<b+t.sz+3) (fun u i hu hi v hv=>?_) _ _ _ (fun v hv=>?_) (fun u hu=>?_)
   ·rw[jv u hu.1 hu.2] at hi
    rcases oA q1 q2 hi with⟨g1,g2⟩|⟨g1,g2⟩
    ·have:=C4 (u:=u) g2 (by omega) (by omega) v hv;omega
    ·rw[g2] at hv;have:bI u (de 7 (r:Nat) 0 [])=[]:=by unfold bI de;simp
     rw[this] at hv;cases hv
   ·simp only[List.mem_cons,List.not_mem_nil,or_false] at hv;subst hv;rw[Int.toNat_natCast];omega
   ·rw[List.getElem?_replicate] at hu
    split at hu<;>cases hu
  have hs:=xC (s:=b) MV (by omega)
  have VJ:C[b+t.sz+3-1]?=some (de 7 (r:Nat) 0 []):=by
   rw[jv _ (by omega) (by omega)];unfold eV;have wm:=cG t (b+1) q1;rw[show b+t.sz+3-1-b=(t.sz+1)+1 by omega,List.getElem?_cons_succ,List.getElem?_append_right (by omega),wm,show t.sz+1-t.sz=1 by omega]
   rfl
  have Me:Path C b (b+t.sz+3-1):=by
   unfold eV at kC;have p1:Path C b (b+1):=Path.Av kC.head (by show(4:Int)≠2∧(4:Int)≠3∧(4:Int)≠7;decide);have p2:=Dg (C:=C) _ t (Nat.le_refl _) (b+1) q1 kC.tail.left;have h4:=kC.tail.right;rw[cG t _ q1] at h4;have p3:Path C (b+1+t.sz) (b+1+t.sz+1):=Path.Av h4.head (by show(4:Int)≠2∧(4:Int)≠3∧(4:Int)≠7;decide);rw[show b+t.sz+3-1=b+1+t.sz+1 by omega];exact p1.trans (p2.trans p3)
  refine⟨b,b+t.sz+3,q3,by omega,by omega,fun b' dW=>q5 b' dW,q6,VJ,nf,hs,CA MV ⟨by omega,by omega⟩ Me hs,fun u i g1 g2 hi ho=>?_⟩;rw[jv u g1 g2] at hi
  rcases oA q1 q2 hi with⟨_,g3⟩|⟨_,g3⟩
  ·rcases g3 with⟨a,_⟩|⟨a,_⟩|⟨a,_⟩|⟨a,_⟩|⟨a,_⟩<;>omega
  ·rw[g3];rfl
 have hR:cL (py C B):=by
  refine⟨hcl,by show B.length≤8;omega,hsh,fun v hv=>?_,fun r s hs pc i BJ L8 hi ho=>?_⟩
  ·obtain⟨r,hr⟩:=List.getElem?_of_mem (show v∈B from hv);obtain⟨s,e,g1,g2,g3,_⟩:=E3 r (by rw[←Pl];exact bo hr);rw[g1] at hr;cases hr;show(0:Int)≤(s:Int)∧(s:Int)<(C.length:Int);omega
  ·have hs:B[r]?=some s:=hs;obtain⟨s',e,g1,g2,g3,g4,g5,g6,g7,g8,g9,g10⟩:=E3 r (by rw[←Pl];exact bo hs);rw[g1] at hs;cases hs;obtain⟨k1,k2⟩:=g7 pc L8;exact g10 pc i k1 k2 hi ho
 refine⟨hR,by rw[Pl],fun r hr=>?_⟩;obtain⟨s,e,g1,g2,g3,g4,g5,g6,g7,g8,g9,g10⟩:=E3 r hr
 have Tc:rJ (py C B) (r:Nat)=rR 0 (ba C (s:Nat)):=by
  unfold rJ;have hi:jq ((r:Nat):Int) (py C B).aq.length=true:=fH.2 ⟨by omega,by show((r:Nat):Int)<(B.length:Nat);omega⟩;rw[bK hR,hi]
  have Q6:(py C B).aq.getD ((r:Nat):Int).toNat 0=(s:Int):=by
   rw[Int.toNat_natCast,List.getD_eq_getElem?_getD];show(B[r]?).getD 0=_;rw[g1];rfl
  rw[Q6];rfl
 have I1:=Cu (uf (ba C (s:Nat)) 0) (a:=(s:Int)) (b:=((e-1:Nat):Int)) (jT.2 ⟨s,g8,by rw[Nat.zero_add]⟩) (jT.2 ⟨e-1,g9,by rw[Nat.zero_add]⟩) (fun v hv=>by
  obtain⟨k,k1,k2⟩:=jT.1 hv;have:=g7 k k1
  omega)
 exact⟨s,e,g1,g2,g3,fun b' dW=>g4 b' dW,fun gm=>g5 (by rw[←Pl];exact gm),g6,by rw[Tc];exact I1.1,by rw[Tc];exact I1.2⟩
def mS (fr:Go.V.Fr) (k:Nat):Go.V.D:=Go.V.nth .bj fr.loc k
theorem uY:∀(ls:List (List dI)) (r:Nat) (c:List aK) (s:List Int),(eX ls r c s).e≠0→(eX ls r c s).code=[]∧(eX ls r c s).aq=[]
 |[],r,c,s,h=>by rw[o_] at h;exact absurd rfl h
 |l::ls,r,c,s,h=>by
  rw[eX] at h⊢
  split
  ·exact⟨rfl,rfl⟩
  ·rename_i h1;rw[if_neg h1] at h
   split
   ·exact⟨rfl,rfl⟩
   ·rename_i h2;rw[if_neg h2] at h;exact uY ls _ _ _ h
theorem pQ {ls:List (List dI)} (h:(bm ls).e≠0):(bm ls).code=[]∧(bm ls).aq=[]:=by
 unfold bm at h⊢
 split
 ·exact⟨rfl,rfl⟩
 ·rename_i h1;rw[if_neg h1] at h;exact uY _ _ _ _ h
theorem zj:cL (py [] []):=⟨by simp[py],by simp[py],fun pc i h=>by simp[py] at h,fun v h=>by simp[py] at h,fun r s h=>by simp[py] at h⟩
theorem tM {ls:List (List dI)} (hl:ls.length≤8) (hcl:(bm ls).code.length≤400):cL (py (bm ls).code (bm ls).aq):=by
 by_cases he:(bm ls).e=0
 ·exact(zL hl he hcl).1
 ·rw[(pQ he).1,(pQ he).2];exact zj
theorem zM {s0:St} {x:D} {ps:List (List UInt8)} (hx:V.Rows s0 1 x (ps.map zc)) (hl:ps.length≤1048576) (hb:∀b∈ps,b.length≤1048576):∃d,Ev pv 14 [x] s0 d s0∧∃(ls:List (List dI)) (R:tl),bm ls=R∧ls.length≤8∧R.code.length≤400∧d=.tup [(py R.code R.aq).d,.bool (R.e==0)]∧(py R.code R.aq).ok:=by
 refine Ev.Dq rfl Sb rfl rfl rfl ?_;refine zE ?_;obtain⟨aP,hF,hH⟩:=ri s0;generalize ae .ro s0=S at*;have hx:=Arg.of hx aP;refine zQ 2 ?_;refine qa hH fun k2 st hk2 hH=>?_;refine zQ 11 ?_;have hH:Has s0.bs.length S st (.aC .nul 1 (([]:List (List dI)).map eo)::.box k2 (.mem 0 false [.nul,.nul])::[]):=hH.gf 1;refine zQ 1 ?_;refine ak.loop (fun mm fr st=>∃(i:Nat) (ld:D) (parts:List (List dI)),fr.clean=⟨11,[x,mS fr 1,.ptr k2 0 0,.bool false,ld,.int .i64 (i:Nat),mS fr 6,mS fr 7,mS fr 8,mS fr 9,mS fr 10],[]⟩∧Has s0.bs.length S st [.aC ld 1 (parts.map eo),.box k2 (.mem 0 false [.nul,.nul])]∧(i+mm=8)∧(∀l∈parts,(∀n∈l,wX n)∧l.length≤500)∧(parts.length≤i)) (8) ?_ ?_
 ·exact⟨0,.nul,[],rfl,hH,by omega,fun l hl=>(by cases hl),by simp⟩
 rintro mm fr st ⟨i,ld,parts,hfr,hH,hi,hp,jL⟩;rw[hfr];clear hfr;generalize mS fr=ee;clear fr;refine zQ 2 ?_;refine ak.cY 19 (.bool (decide (((i:Nat):Int)<((ps.length:Nat):Int)) &&decide (((i:Nat):Int)<8))) [] ?_ (fun ff tmp cx=>?_)
 ·refine zQ 2 ?_;refine qn ?_;simp only[List.length_map];refine zQ 2 ?_;refine aa.two 16 rfl (fun ng=>?_) (fun ng=>?_)
  ·refine zQ 3 ?_;refine aa.nil (aJ ?_ ?_)
   ·dsimp only[aF,List.foldl,nth,u2,u1]
    all_goals(first|rfl|simp)
   ·refine zF ?_
    all_goals(simp_all;done)
  ·refine zQ 3 ?_;refine aa.nil (aJ ?_ ?_)
   ·dsimp only[aF,List.foldl,nth,u2,u1]
    all_goals(first|rfl|simp)
   ·refine zF ?_
    all_goals(simp_all;omega)
 refine zG ?_
 by_cases hlt:i<ps.length∧i<8
 ·obtain⟨b,Kk⟩:∃b,ps[i]?=some b:=⟨ps[i]'hlt.1,List.getElem?_eq_getElem _⟩
  have gm:=GU Kk;have hbl:=hb b (List.mem_of_getElem? Kk);have mI:(decide (((i:Nat):Int)<((ps.length:Nat):Int)) &&decide (((i:Nat):Int)<8))=true:=by rw[Bool.and_eq_true,decide_eq_true_eq,decide_eq_true_eq];omega
  rw[mI] at cx;refine zQ 4 ?_;obtain⟨_,aB,l,e,w,rfl,hv,tp⟩:=Ek (s0:=st) hbl;refine zQ 4 ?_;refine qr fun KW CT=>?_;refine qR ?_;refine qv (aB) ?_;refine zQ 13 ?_;refine zI (fun he=>?_) fun he=>?_
  ·refine zQ 3 ?_;refine qh (s:=1) (vs:=[_]) hH fun k35 st V5 hH=>?_;refine aa.cJ (s:=1) hH rfl (ev rfl) (ev rfl) (by exact bV) (by exact hH.rows (by exact aN)) rfl rfl rfl rfl rfl rfl rfl ⟨(Nat.le_of_ble_eq_true rfl),(Nat.le_of_ble_eq_true rfl)⟩ (fun _=>(ab rfl _)) (by simp only[List.length_cons,List.length_nil,List.length_map]<;>omega) (by exact .inl hF) (fun T3 st hH=>?_);dsimp only[u2,u1,u3,u4,setMany,u5,u6,D.cells,Nat.reduceAdd,eo,pR,Pg.d,Pg.cs,py] at hH;refine zQ 2 ?_;have hH:=hH.drop 1;refine zQ 5 ?_;refine⟨mm-1,by omega,⟨i+1,T3,parts++[l],rfl,(by rw[List.map_append];exact hH),by omega,?_,by rw[List.length_append];simp only[List.length_cons,List.length_nil];omega⟩⟩;intro l' iM
   rcases List.mem_append.1 iM with iM|iM
   ·exact hp l' iM
   ·simp only[List.mem_cons,List.not_mem_nil,or_false] at iM;subst iM;exact⟨hv,tp⟩
  ·refine zQ 6 ?_;exact⟨mm-1,by omega,⟨i+1,ld,parts,rfl,hH,by omega,hp,by omega⟩⟩
 ·have mI:(decide (((i:Nat):Int)<((ps.length:Nat):Int)) &&decide (((i:Nat):Int)<8))=false:=by
   rw[Bool.and_eq_false_iff,decide_eq_false_iff_not,decide_eq_false_iff_not];omega
  rw[mI] at cx;refine zQ 2 ?_;obtain⟨aB,bq,hlen⟩:=AH hp (by omega) (hH.rows aN);generalize WG:bm parts=R at*;refine zQ 3 ?_;refine qv (aB) ?_;refine zQ 4 ?_;refine qa hH fun k9 st ME hH=>?_;refine qS hH aN fun st hH=>?_;dsimp only[u2,u1,u3,u4,setMany,u5,u6,D.cells,Nat.reduceAdd,eo,pR,Pg.d,Pg.cs,py] at hH;refine zQ 5 ?_;refine aa.aL (m:=2) hH rfl (ev rfl) (by exact aN) (by dsimp only[List.drop_succ_cons,List.drop_zero,List.take_succ_cons,List.take_zero,eo,pR,Pg.d,Pg.cs,py]<;>rfl) rfl rfl (ab rfl _) ?_;refine zQ 2 ?_;refine qS hH fm fun st hH=>?_;dsimp only[u2,u1,u3,u4,setMany,u5,u6,D.cells,Nat.reduceAdd,eo,pR,Pg.d,Pg.cs,py] at hH;refine zQ 2 ?_;refine ak.ret ⟨rx,_,_,hH.eH rfl fm rfl rfl,rl aP hH (show _=some (D.tup [(py R.code R.aq).d,.bool (R.e==0)]) from rfl),⟨parts,R,WG,by omega,hlen,rfl,bq⟩⟩
theorem CH {s0:St} {x:D} {ps:List (List UInt8)} (hx:V.Rows s0 1 x (ps.map zc)) (hl:ps.length≤1048576) (hb:∀b∈ps,b.length≤1048576):∃d,Ev pv 14 [x] s0 d s0∧∃(p:Pg) (ok:Bool),d=.tup [p.d,.bool ok]∧p.ok∧cL p:=by
 obtain⟨d,aB,ls,R,rfl,QJ,hcl,rfl,bq⟩:=zM (s0:=s0) hx hl hb;exact⟨_,aB,_,_,rfl,bq,tM QJ hcl⟩
def kF:Nat→Nat→Nat
 |0,_=>0
 |f+1,m=>if m=0 then 0 else kF f (m/256)+1
def kB (m:Nat):Nat:=kF 8 m
def B_:Nat→Nat→List UInt8
 |0,_=>[]
 |k+1,m=>UInt8.ofNat (m/256^k)::B_ k m
def bu (n:Int):List UInt8:=UInt8.ofNat (kB n.toNat)::B_ (kB n.toNat) n.toNat
theorem II:∀f m,kF f m≤f
 |0,_=>Nat.le_refl _
 |f+1,m=>by
  unfold kF
  split
  ·omega
  ·have:=II f (m/256);omega
theorem EY (m:Nat):kB m≤8:=II 8 m
theorem rf:∀k m,(B_ k m).length=k
 |0,_=>rfl
 |k+1,m=>by simp only[B_,List.length_cons,rf k m]
theorem EB (n:Int):(bu n).length=kB n.toNat+1:=by simp only[bu,List.length_cons,rf]
theorem bY (n:Int):(bu n).length≤9:=by rw[EB];have:=EY n.toNat;omega
theorem BB:∀f m,m<256^f→m/256^kF f m=0∧∀j,j<kF f m→0<m/256^j
 |0,m,h=>by
  have:m=0:=by simpa using h
  subst this;exact⟨by simp[kF],fun j hj=>by simp[kF] at hj⟩
 |f+1,m,h=>by
  unfold kF
  split
  ·rename_i h0;subst h0;exact⟨by simp,fun j hj=>by omega⟩
  ·rename_i h0
   have hd:m/256<256^f:=by
    rw[Nat.pow_succ] at h;exact Nat.div_lt_of_lt_mul (by omega)
   obtain⟨h1,h2⟩:=BB f (m/256) hd;refine⟨by rw[Nat.pow_succ,Nat.mul_comm,←Nat.div_div_eq_div_mul];exact h1,fun j hj=>?_⟩
   cases j with
   |zero=>simp;omega
   |succ j=>rw[Nat.pow_succ,Nat.mul_comm,←Nat.div_div_eq_div_mul];exact h2 j (by omega)
theorem BC {m:Nat} (h:m<256^8):m/256^kB m=0∧∀j,j<kB m→0<m/256^j:=BB 8 m h
def fL (u:Nat):List UInt8→Nat
 |[]=>u
 |c::l=>fL (u*256+c.toNat) l
theorem vl:∀(l:List UInt8) (u:Nat),fL u l<(u+1)*256^l.length
 |[],u=>by simp[fL]
 |c::l,u=>by
  simp only[fL,List.length_cons];have h1:=vl l (u*256+c.toNat);have h2:c.toNat<256:=c.toNat_lt;rw[Nat.pow_succ,Nat.mul_comm (256^l.length) 256,←Nat.mul_assoc];refine Nat.lt_of_lt_of_le h1 (Nat.mul_le_mul_right _ ?_);omega
structure c8 where
 at_:Nat
 e:Int
def aX (b:List UInt8) (s:c8):Int×c8:=
 if s.e≠0 then(0,s) else
 match b.drop s.at_ with
 |[]=>(0,⟨s.at_,3⟩)
 |k::rest=>
  if 8<k.toNat then(0,⟨s.at_,4⟩)
  else if rest.length<k.toNat then(0,⟨s.at_,3⟩)
  else if(0<k.toNat∧rest.head?=some 0)∨9223372036854775808≤fL 0 (rest.take k.toNat) then(0,⟨s.at_,4⟩)
  else((fL 0 (rest.take k.toNat):Nat),⟨s.at_+1+k.toNat,0⟩)
def br (b:List UInt8) (most:Int) (s:c8):Int×c8:=
 if(aX b s).2.e=0∧(aX b s).1>most then(0,⟨s.at_,2⟩) else aX b s
def db (b:List UInt8) (s:c8):Bool×c8:=
 if(aX b s).2.e=0∧(aX b s).1>1 then(false,⟨s.at_,4⟩)
 else(decide ((aX b s).2.e=0∧(aX b s).1=1),(aX b s).2)
def dY (b:List UInt8) (most:Int) (s:c8):List UInt8×c8:=
 if(br b most s).2.e≠0 then([],(br b most s).2)
 else if((b.length:Int)-(br b most s).2.at_)<(br b most s).1 then([],⟨s.at_,3⟩)
 else((b.drop (br b most s).2.at_).take (br b most s).1.toNat,⟨(br b most s).2.at_+(br b most s).1.toNat,0⟩)
def kV (b:List UInt8) (s:c8):c8:=if s.e=0∧s.at_<b.length then⟨s.at_,5⟩ else s
def bF (b:List UInt8) (most:Int) (s:c8):Int×c8:=
 if(br b most s).2.e=0∧(br b most s).1>(b.length:Int)-(br b most s).2.at_ then((br b most s).1,⟨s.at_,3⟩) else br b most s
def c8.ok (b:List UInt8) (s:c8):Prop:=s.at_≤b.length
theorem dc {b:List UInt8} {s:c8} (h:s.ok b):(aX b s).2.ok b∧s.at_≤(aX b s).2.at_∧0≤(aX b s).1∧(aX b s).1<9223372036854775808∧((aX b s).2.e≠0→(aX b s).1=0∧(aX b s).2.at_=s.at_):=by
 unfold aX c8.ok at*
 split
 ·exact⟨h,Nat.le_refl _,by simp,by simp,fun _=>⟨rfl,rfl⟩⟩
 ·split
  ·exact⟨h,Nat.le_refl _,by simp,by simp,fun _=>⟨rfl,rfl⟩⟩
  ·rename_i k rest hd;have hl:=congrArg List.length hd;simp only[List.length_drop,List.length_cons] at hl
   split
   ·exact⟨h,Nat.le_refl _,by simp,by simp,fun _=>⟨rfl,rfl⟩⟩
   ·split
    ·exact⟨h,Nat.le_refl _,by simp,by simp,fun _=>⟨rfl,rfl⟩⟩
    ·split
     ·exact⟨h,Nat.le_refl _,by simp,by simp,fun _=>⟨rfl,rfl⟩⟩
     ·rename_i h5;have:¬9223372036854775808≤fL 0 (rest.take k.toNat):=fun h=>h5 (.inr h);exact⟨by show s.at_+1+k.toNat≤_;omega,by show s.at_≤s.at_+1+k.toNat;omega,by simp only;omega,by simp only;omega,fun h=>absurd rfl h⟩
end Go.Proofs.YtecjacicdpejaaaGreat
namespace Go.V
def oG (x:D) (l r:Nat):D:=match x with
 | .win k az off _ s=>.win k az (off+l*s) (r-l) s
 | .sl es=>.sl ((es.take r).drop l)
 |d=>d
theorem Rows.prt {P:Pv} {st:St} {s:Nat} {x:D} {es:List (List D)} (h:Rows st s x es) {t e:TypeId} (ht:P.ch t=some (.slice e)) (hs:cg P e=some s) {lo hi:Option D} {l r:Nat} (hb:cC es.length lo hi=some (l,r)) (pI:l≤r∧r≤es.length) (st2:St):
  eG P t x lo hi st2=some (oG x l r):=by
 cases h with
 |nul=>
  simp only[eG,ht,hs,Option.bind_some];simp only[List.length_nil] at hb;rw[hb];rfl
 |sl es h=>
  simp only[eG,ht,hs,Option.bind_some]
  have:mV s es=true:=by
   cases es with
   |nil=>rfl
   |cons e es=>obtain⟨h1,h2⟩:=h e (List.mem_cons_self ..);simp[mV,h1,h2]
  rw[if_pos this];simp only[List.length_map] at hb;rw[hb];rfl
 |win k az off es ar c hm hl he=>
  simp only[eG,ht,hs,Option.bind_some,if_true,hb];rfl
theorem Rows.Ls {st:St} {s:Nat} {x:D} {es:List (List D)} (h:Rows st s x es) {l r:Nat} (pI:l≤r∧r≤es.length):Rows st s (oG x l r) ((es.take r).drop l):=by
 cases h with
 |nul=>simp only[oG];simp;exact .nul
 |sl es h=>
  have:=Rows.sl (st:=st) (s:=s) ((es.take r).drop l) fun e he=>h e (List.mem_of_mem_take (List.mem_of_mem_drop he))
  simpa[oG,List.map_drop,List.map_take] using this
 |win k az off es ar c hm hl he=>
  have hlen:((es.take r).drop l).length=r-l:=by simp;omega
  have h1:l*s+(r-l)*s≤es.length*s:=by rw[←Nat.add_mul];exact Nat.mul_le_mul_right s (by omega)
  have:=Rows.win (st:=st) (s:=s) k az (off+l*s) ((es.take r).drop l) ar c hm (by rw[hlen];omega) fun i e hi=>by
   have hil:=(List.getElem?_eq_some_iff.1 hi).1;rw[hlen] at hil;rw[List.getElem?_drop,List.getElem?_take] at hi
   split at hi
   ·have:=he (l+i) e hi;rw[Nat.add_mul,←Nat.add_assoc] at this;exact this
   ·cases hi
  rw[hlen] at this;exact this
variable{P:Pv} {ops:Array Oper} {rest:List Oper} {fr aE:Fr} {st:St} {Q:Fr→St→Prop} {ty:TypeId} {pp:String} {a:Array Edge} {g:Option (Nat×Bool)} {dst:Nat}
theorem aa.prt {t e:TypeId} {xo:Operand} {lo hi:Option Operand} {x:D} {s:Nat} {es:List (List D)} {l r:Nat} (hg:aA ops fr ⟨some dst,.slice t xo lo hi none,ty,pp,a,g⟩=some true) (hx:fr.ev xo=x) (hR:Rows st s x es) (ht:P.ch t=some (.slice e)) (hs:cg P e=some s)
  (hb:cC es.length (lo.map fr.ev) (hi.map fr.ev)=some (l,r)) (pI:l≤r∧r≤es.length) (hp:fr.put dst (oG x l r)=aE)
  (h:aa P ops rest aE st Q):aa P ops (⟨some dst,.slice t xo lo hi none,ty,pp,a,g⟩::rest) fr st Q:=by
 refine aa.go hg rfl (d:=oG x l r) (st1:=st) ?_ hp h;simp only[dq,hx,hR.prt ht hs hb pI,Option.map_some]
variable{N:Nat} {S:St} {H:List a_}
theorem Has.Iw {j:Nat} {x y:D} {s:Nat} {es ys:List (List D)} (hH:Has N S st H) (hj:H[j]?=some (.aC x s es)) (jj:ny st y=some (ys.length,ys.flatten)) (y3:∀e∈ys,e.length=s) {t1 t2 e:TypeId} {td:TypeDesc} {inf:TypeInfo} {z:List D}
  (h1:P.ch t1=some (.slice e)) (h2:P.ch t2=some td) (h3:eJ td=false) (h4:P.info e=some inf) (h5:cO P e=some z) (h6:inf.size=s) (h7:z.length=s) (h8:0<inf.bytes∧inf.bytes≤1024)
  (hb1:inf.bytes=1) (oq:es.length+ys.length≤1099511627776) (hw:S.flr≤N∨refs ys.flatten=0):
  ∃x' ah,bc P .append [t1,t2] [x,y] st=some (x',ah)∧Has N S ah (H.set j (.aC x' s (es++ys)))∧(ys=[]→x'=x):=by
 have hb:(es.length+ys.length)*inf.bytes≤1099511627776:=by rw[hb1,Nat.mul_one];exact oq
 have mb:=cE y3;have hown:=hH.own hj;have hkk:=(hH.ok j _ hj).2;have hS:=hH.len;have WK:=hH.hN;subst h6;simp only[bc,gy,h1,h2,h3,Bool.false_eq_true,if_false,h4,h5,jj,Option.bind_some];rw[if_neg (by rintro(h|h|h);exact h mb;exact absurd h (by omega);exact h h7)]
 have fy:∀e,H[j]?=some e→H.set j e=H:=fun e he=>by
  apply List.ext_getElem?;intro i
  by_cases hij:i=j
  ·subst hij
   have:i<H.length:=by
    rcases Nat.lt_or_ge i H.length with h'|h'
    ·exact h'
    ·rw[List.getElem?_eq_none h'] at he;cases he
   rw[List.getElem?_set_self this,he]
  ·rw[List.getElem?_set_ne (fun e=>hij e.symm)]
 cases hown with
 |nul=>
  simp only[List.nil_append]
  by_cases h0:ys.length=0
  ·rw[if_pos h0]
   have:ys=[]:=by cases ys with|nil=>rfl|cons _ _=>simp at h0
   subst this;exact⟨.nul,st,rfl,by rw[fy _ hj];exact hH,fun _=>rfl⟩
  ·rw[if_neg h0,if_pos (by simpa using hb)];refine⟨_,_,rfl,?_,fun e=>absurd (by rw[e];rfl) h0⟩;refine hH.A2 hj (fun k hk _=>by simp only[St.push];rw[List.getElem?_append_left hk]) (by simp[St.push]) rfl rfl ?_ (fun k hk=>?_) fun k hk=>?_
   ·exact gT.win _ 0 0 ys ys.flatten (jm st _) (by rw[mb];omega) (by rw[List.drop_zero,←mb,List.take_length]) y3
   ·simp only[a_.aC,D.ref] at hk;right;omega
   ·simp only[a_.aC,D.ref] at hk;simp only[St.push,List.length_append,List.length_cons,List.length_nil];omega
 |win k az off es c hm hl hc he=>
  have hk:=hkk k (by simp only[a_.aC,D.ref]);simp only[St.mem_of hm];rw[if_neg (by rintro(h|h);exact h rfl;omega)]
  by_cases h0:ys.length=0
  ·rw[if_pos h0]
   have:ys=[]:=by cases ys with|nil=>rfl|cons _ _=>simp at h0
   subst this;simp only[List.append_nil];exact⟨_,st,rfl,by rw[fy _ hj];exact hH,fun _=>rfl⟩
  ·rw[if_neg h0,if_pos ⟨hb,gq hH hk.1 hw⟩];refine⟨_,_,rfl,?_,fun e=>absurd (by rw[e];rfl) h0⟩;have tp:es.length+ys.length=(es++ys).length:=by simp
   have iZ:(c.take (off+es.length*inf.size)).drop off=es.flatten:=by rw[List.drop_take,←hc];congr 1;omega
   rw[tp,iZ];refine hH.A2 hj (fun n hn hne=>by simp only;rw[List.getElem?_set_ne (fun e=>hne (by simp only[a_.aC,D.ref];omega))]) (by simp) rfl rfl ?_ (fun n hn=>?_) fun n hn=>?_
   ·have sG:∀e∈es++ys,e.length=inf.size:=fun e h=>by
     rcases List.mem_append.1 h with h|h
     ·exact he e h
     ·exact y3 e h
    have Fm:=cE sG;refine gT.win k (az+1) 0 (es++ys) (es++ys).flatten ?_ (by rw[Fm];omega) (by rw[List.drop_zero,←Fm,List.take_length]) sG;simp only;rw[List.getElem?_set_self hk.2,List.flatten_append]
   ·simp only[a_.aC,D.ref] at hn⊢;left;omega
   ·simp only[a_.aC,D.ref] at hn;simp only[List.length_set];omega
theorem aa.hO {j:Nat} {x y:D} {s:Nat} {es ys:List (List D)} {t1 t2 e:TypeId} {td:TypeDesc} {inf:TypeInfo} {z:List D} {xo yo:Operand} {aE:D→Fr} (hH:Has N S st H) (hg:aA ops fr ⟨some dst,.call ⟨.builtin .append,#[xo,yo],#[t1,t2]⟩,ty,pp,a,g⟩=some true)
  (hx:fr.ev xo=x) (hy:fr.ev yo=y) (hj:H[j]?=some (.aC x s es)) (jr:Rows st s y ys)
  (h1:P.ch t1=some (.slice e)) (h2:P.ch t2=some td) (h3:eJ td=false) (h4:P.info e=some inf) (h5:cO P e=some z) (h6:inf.size=s) (h7:z.length=s) (h8:0<inf.bytes∧inf.bytes≤1024)
  (hp:∀x',fr.put dst x'=aE x') (hb1:inf.bytes=1) (hb:es.length+ys.length≤1099511627776) (hw:S.flr≤N∨refs ys.flatten=0)
  (h:∀x' ah,Has N S ah (H.set j (.aC x' s (es++ys)))→aa P ops rest (aE x') ah Q):
  aa P ops (⟨some dst,.call ⟨.builtin .append,#[xo,yo],#[t1,t2]⟩,ty,pp,a,g⟩::rest) fr st Q:=by
 obtain⟨x',ah,q1,q2,q3⟩:=hH.Iw hj jr.row (fun e he=>by obtain⟨i,hi⟩:=List.getElem?_of_mem he;exact jr.sW i e hi) h1 h2 h3 h4 h5 h6 h7 h8 hb1 hb hw;refine aa.go hg rfl (d:=x') (st1:=ah) ?_ (hp _) (h x' ah q2);simp only[dq,List.map_cons,List.map_nil,hx,hy];exact q1
theorem aa.J5 {t e:TypeId} {lo co:Operand} {k1 k2:IntKind} {m:Int} {inf:TypeInfo} {z:List D} {s:Nat} {aE:Nat→Fr} (hH:Has N S st H) (hg:aA ops fr ⟨some dst,.makeSlice t lo co,ty,pp,a,g⟩=some true)
  (hl:fr.ev lo=.int k1 0) (hc:fr.ev co=.int k2 m) (ht:P.ch t=some (.slice e)) (hi:P.info e=some inf) (hz:cO P e=some z) (hsz:inf.size=s) (kZ:z.length=s) (O5:inf.bytes≤1024) (ma:0≤m∧m≤137438953472) (hp:∀k,fr.put dst (.win k 0 0 0 s)=aE k)
  (h:∀k ah,S.bs.length≤k→Has N S ah (.aC (.win k 0 0 0 s) s []::H)→aa P ops rest (aE k) ah Q):aa P ops (⟨some dst,.makeSlice t lo co,ty,pp,a,g⟩::rest) fr st Q:=by
 subst hsz;have hb:m*(inf.bytes:Int)≤140737488355328:=Int.le_trans (Int.mul_le_mul ma.2 (show(inf.bytes:Int)≤1024 by omega) (by omega) (by omega)) (by decide);refine aa.go hg rfl (d:=.win st.bs.length 0 0 0 inf.size) (st1:=st.push (.mem 0 true [])) ?_ (hp _) (h _ _ hH.len (hH.qQ rfl rfl (fun e he=>by cases he)));simp only[dq,hl,hc,fS,ht,hi,hz,Option.bind_some];rw[if_pos ⟨kZ,by omega,by omega,by omega,hb⟩]
 rfl
theorem Has.gV {s0 S st:St} {H:List a_} (hS:S.bs=s0.bs) (di:s0.ro≤s0.bs.length) (h:Has s0.bs.length S st H):Has s0.bs.length s0 ⟨st.bs,s0.flr,s0.ro⟩ H:=by
 refine⟨⟨fun k hk=>?_,?_,rfl,rfl⟩,Nat.le_refl _,di,fun i e hi=>⟨@a_.loc e st ⟨st.bs,s0.flr,s0.ro⟩ (fun _ _=>rfl) (h.ok i e hi).1,(h.ok i e hi).2⟩,h.dis⟩
 ·rw[←hS];exact h.ex.low k hk
 ·rw[←hS];exact h.ex.len
theorem Has.oJ {N:Nat} {S st ah:St} {H H2:List a_} (h:Has N S st H) (h2:Has st.bs.length st ah H2):Has N S ah (H2++H):=by
 have hN:=h.hN;have hl:=h.ex.len;have wk:=h2.ex.len;refine⟨⟨fun k hk=>?_,by omega,h2.ex.flr.trans h.ex.flr,h2.ex.ro.trans h.ex.ro⟩,hN,h.di,fun i e hi=>?_,fun i j a b hij ha hb k nP ib=>?_⟩
 ·rw[h2.ex.low k (by omega)];exact h.ex.low k hk
 ·by_cases hlt:i<H2.length
  ·rw[List.getElem?_append_left hlt] at hi;obtain⟨h3,h4⟩:=h2.ok i e hi;exact⟨h3,fun k hk=>⟨by have:=(h4 k hk).1;omega,(h4 k hk).2⟩⟩
  ·rw[List.getElem?_append_right (by omega)] at hi;obtain⟨h3,h4⟩:=h.ok _ e hi;exact⟨e.loc (fun k hk=>h2.ex.low k (h4 k hk).2) h3,fun k hk=>⟨(h4 k hk).1,by have:=(h4 k hk).2;omega⟩⟩
 ·by_cases h1:i<H2.length<;>by_cases h3:j<H2.length
  ·rw[List.getElem?_append_left h1] at ha;rw[List.getElem?_append_left h3] at hb;exact h2.dis i j a b hij ha hb k nP ib
  ·rw[List.getElem?_append_left h1] at ha;rw[List.getElem?_append_right (by omega)] at hb;have:=((h2.ok _ a ha).2 k nP).1;have:=((h.ok _ b hb).2 k ib).2;omega
  ·rw[List.getElem?_append_right (by omega)] at ha;rw[List.getElem?_append_left h3] at hb;have:=((h2.ok _ b hb).2 k ib).1;have:=((h.ok _ a ha).2 k nP).2;omega
  ·rw[List.getElem?_append_right (by omega)] at ha hb;exact h.dis _ _ a b (by omega) ha hb k nP ib
theorem Has.ir (hF:S.flr≤N) (hH:Has N S st H):st.flr≤st.bs.length∧st.ro≤st.bs.length:=by
 have h1:=hH.ex.flr;have h2:=hH.ex.ro;have h3:=hH.di;have h4:=hH.hN;have h5:=hH.ex.len;constructor<;>omega
end Go.V
namespace Go.Proofs.YtecjacicdpejaaaGreat
open Go.V Go
def gi (fr:Go.V.Fr) (k:Nat):Go.V.D:=Go.V.nth .bj fr.loc k
def qk (s0 st:St) (d:D) (b:List UInt8):Prop:=Has s0.bs.length s0 st [.aC d 1 (byteCells b)]
theorem qk.over {N:Nat} {S s0 st:St} {H:List a_} {d:D} {b:List UInt8} (h:qk s0 st d b) (hH:Has N S s0 H):Has N S st (.aC d 1 (byteCells b)::H):=hH.oJ h
theorem wM (a b:List UInt8):byteCells (a++b)=byteCells a++byteCells b:=by unfold byteCells;rw[List.map_append]
theorem F5 (k:Nat) (hk:k<2^63) (st:St):iB pv 3 123 (.int .i64 (k:Nat)) st=some (.int .u64 (k:Nat),st):=by
 show some (D.int .u64 (a7 .u64 (k:Nat)),st)=_;rw[bA (by simp only[fQ];omega)]
theorem Bq (k:Nat) (hk:k≤8) (st:St):(eL pv .mul 123 (.int .u64 8) (.int .u64 (k:Nat))).map (fun d=>(d,st))=some (.int .u64 ((8*k:Nat):Int),st):=by
 show Option.map _ (some (D.int .u64 (a7 .u64 (8*(k:Nat)))))=_;rw[show(8:Int)*(k:Nat)=((8*k:Nat):Int) by omega,bA (by simp only[fQ];omega)];rfl
theorem FT (m k:Nat):Int.fdiv (m:Nat) (2^(8*k))=((m/256^k:Nat):Int):=by
 have e:((2:Int)^(8*k))=((256^k:Nat):Int):=by
  rw[Int.pow_mul,Int.natCast_pow];rfl
 rw[e,Int.fdiv_eq_ediv_of_nonneg _ (Int.natCast_nonneg _)];rfl
theorem Ba (m k:Nat) (hk:k≤8) (st:St):(eL pv .shr 151 (.int .u64 (m:Nat)) (.int .u64 ((8*k:Nat):Int))).map (fun d=>(d,st))=some (.int .u64 ((m/256^k:Nat):Int),st):=by
 show Option.map _ (if((8*k:Nat):Int)<0 then none else some (D.int .u64 (Int.fdiv (m:Nat) (2^(min ((8*k:Nat):Int).toNat 64)))))=_;rw[if_neg (by omega),Int.toNat_natCast,Nat.min_eq_left (by omega),FT];rfl
theorem I8 {q:Nat} (hq:q<256):byteCells [UInt8.ofNat q]=[[D.int .u8 (q:Nat)]]:=by
 show[[D.int .u8 ((UInt8.ofNat q).toNat:Nat)]]=_;rw[UInt8.toNat_ofNat',Nat.mod_eq_of_lt hq]
theorem Ga {q:Nat}:byteCells [UInt8.ofNat q]=[[D.int .u8 ((q %256:Nat):Int)]]:=by
 show[[D.int .u8 ((UInt8.ofNat q).toNat:Nat)]]=_;rw[UInt8.toNat_ofNat']
theorem DC (q:Nat):a7 .u8 (q:Nat)=((q %256:Nat):Int):=by
 rw[gY];rfl
theorem KA (q:Nat) (st:St):iB pv 151 5 (.int .u64 (q:Nat)) st=some (.int .u8 ((q %256:Nat):Int),st):=by
 show some (D.int .u8 (a7 .u8 (q:Nat)),st)=_;rw[DC]
theorem DE {s0:St} {x:D} {b:List UInt8} (hF:s0.flr≤s0.bs.length) (di:s0.ro≤s0.bs.length) (hx:V.Rows s0 1 x (byteCells b)) (hl:b.length≤68719476736) (room:Nat) (hr:room≤68719476736):
  ∃d ah,Ev pv 140 [x,.int .i64 (room:Nat)] s0 d ah∧qk s0 ah d b:=by
 have uJ:=ay b;refine Ev.gA rfl Ol rfl rfl rfl ?_;refine zE ?_;have aP:(ae .nw s0).bs=s0.bs:=rfl;have hF:(ae .nw s0).flr≤s0.bs.length:=hF;have hH:Has s0.bs.length (ae .nw s0) (ae .nw s0) []:=Has.start (Nat.le_refl _) (Nat.le_refl _);generalize ae .nw s0=S at*;have hx:=Arg.of hx aP;refine zQ 7 ?_;refine qn ?_;refine qm ?_;refine aa.eC (z:=((b.length+room:Nat):Int)) rfl (ev rfl) (ev rfl) (by rw[wrap_i64 (by omega) (by omega)]<;>omega) (ab rfl _) ?_;refine aa.J5 (s:=1) hH rfl (ev rfl) (ev rfl) rfl rfl rfl rfl rfl (Nat.le_of_ble_eq_true rfl) (by omega) (fun _=>(ab rfl _)) (fun k10 st QZ hH=>?_);refine zQ 6 ?_;refine aa.hO (s:=1) hH rfl (ev rfl) (ev rfl) (by exact aN) (by exact Arg.rows (by assumption) hH) rfl rfl rfl rfl rfl rfl rfl ⟨(Nat.le_of_ble_eq_true rfl),(Nat.le_of_ble_eq_true rfl)⟩ (fun _=>(ab rfl _)) rfl (by simp only[List.length_nil]<;>omega) (by exact .inl hF) (fun Xk st hH=>?_);dsimp only[u2,u1,u3,u4,setMany,u5,u6,D.cells,Nat.reduceAdd] at hH;refine zQ 2 ?_;refine ak.ret ⟨rx,_,_,_,rfl,rfl,?_⟩;exact hH.gV aP di
theorem iD {s0:St} {x:D} {b:List UInt8} (hF:s0.flr≤s0.bs.length) (di:s0.ro≤s0.bs.length) (hx:V.Rows s0 1 x (byteCells b)) (hl:b.length≤60000000000) (n:Int) (hn:n<9223372036854775808):
  ∃d ah,Ev pv 73 [x,.int .i64 n] s0 d ah∧qk s0 ah d (b++bu n):=by
 obtain⟨m,hm⟩:∃m,n.toNat=m:=⟨_,rfl⟩
 have HQ:m<256^8:=by omega
 obtain⟨o6,hk2⟩:=BC HQ;have J_:=EY m;have My:bu n=UInt8.ofNat (kB m)::B_ (kB m) m:=by unfold bu;rw[hm]
 have uJ:=ay b;rw[My];refine Ev.gA rfl RQ rfl rfl rfl ?_;refine zE ?_;have aP:(ae .nw s0).bs=s0.bs:=rfl;have hF:(ae .nw s0).flr≤s0.bs.length:=hF;have hH:Has s0.bs.length (ae .nw s0) (ae .nw s0) []:=Has.start (Nat.le_refl _) (Nat.le_refl _);generalize ae .nw s0=S at*;have hx:=Arg.of hx aP;refine zQ 7 ?_;obtain⟨d5,st,aB,ho⟩:=DE (s0:=S) (x:=x) (b:=b) (by rw[aP];exact hF) (by rw[aP];exact hH.di) (hx.rows hH) (by omega) 9 (by omega);have hH:=hH.oJ ho
 skip
 refine qv aB ?_;refine zQ 5 ?_;refine aa.Hk (t1:=0) (t2:=0) rfl (ev rfl) (ev rfl) (ab rfl _) ?_;refine aa.go (d:=.int .u64 (m:Nat)) (st1:=_) rfl rfl (by show some (D.int .u64 (a7 .u64 (max n 0)),_)=_;rw[show max n 0=(m:Int) by omega,bA (by simp only[fQ];omega)]) (ab rfl _) ?_;refine zQ 8 ?_;refine ak.loop (fun mm fr st=>∃(k:Nat),fr.clean=⟨9,[gi fr 0,gi fr 1,gi fr 2,gi fr 3,gi fr 4,d5,.int .u64 (m:Nat),.int .i64 (k:Nat),gi fr 8],[]⟩∧Has s0.bs.length S st [.aC d5 1 (byteCells b)]∧(k+mm=kB m)) (kB m) ?_ ?_
 ·exact⟨0,rfl,hH,by omega⟩
 rintro mm fr st ⟨k,hfr,hH,hk⟩;rw[hfr];clear hfr;generalize gi fr=ee;clear fr;refine zQ 2 ?_;refine ak.cY 23 (.bool (decide (((k:Nat):Int)<8) &&decide (((m/256^k:Nat):Int)>0))) [] ?_ (fun ff tmp cx=>?_)
 ·refine zQ 3 ?_;refine aa.two 16 rfl (fun cu=>?_) (fun cu=>?_)
  ·refine zQ 2 ?_;refine aa.go (d:=.int .u64 (k:Nat)) (st1:=_) (ai rfl rfl rfl cu) rfl (by exact F5 k (by omega) _) (ab rfl _) ?_;refine aa.go (d:=.int .u64 ((8*k:Nat):Int)) (st1:=_) (ai rfl rfl rfl cu) rfl (by exact Bq k (by omega) _) (ab rfl _) ?_;refine aa.go (d:=.int .u64 ((m/256^k:Nat):Int)) (st1:=_) (ai rfl rfl rfl cu) rfl (by exact Ba m k (by omega) _) (ab rfl _) ?_;refine zQ 2 ?_;refine aa.nil (aJ ?_ ?_)
   ·dsimp only[aF,List.foldl,nth,u2,u1]
    all_goals(first|rfl|simp)
   ·refine zF ?_
    all_goals(simp[cu];done)
  ·refine zQ 7 ?_;refine aa.nil (aJ ?_ ?_)
   ·dsimp only[aF,List.foldl,nth,u2,u1]
    all_goals(first|rfl|simp)
   ·refine zF ?_
    all_goals(simp[cu];done)
 refine zG ?_
 by_cases hlt:k<kB m
 ·have hp:=hk2 k hlt
  have Wt:(decide (((k:Nat):Int)<8) &&decide (((m/256^k:Nat):Int)>0))=true:=by
   rw[decide_eq_true (by omega),decide_eq_true (by omega)];rfl
  refine ak.cond (v:=true) (by dsimp only[Fr.ev,Fr.get,nth,V.look];exact cx.trans (congrArg D.bool Wt)) (fun _=>?_) (fun h=>by cases h);refine zQ 7 ?_;exact⟨mm-1,by omega,⟨k+1,rfl,hH,by omega⟩⟩
 ·have MD:k=kB m:=by omega
  subst MD
  have eA:(decide (((kB m:Nat):Int)<8) &&decide (((m/256^kB m:Nat):Int)>0))=false:=by
   rw[o6];simp
  refine ak.cond (v:=false) (by dsimp only[Fr.ev,Fr.get,nth,V.look];exact cx.trans (congrArg D.bool eA)) (fun h=>by cases h) (fun _=>?_);refine zQ 5 ?_;refine aa.go (d:=.int .u8 (kB m:Nat)) (st1:=_) rfl rfl (by show some (D.int .u8 (a7 .u8 (kB m:Nat)),_)=_;rw[bA (by simp only[fQ];omega)]) (ab rfl _) ?_;refine qh (s:=1) (vs:=[_]) hH fun k29 st MJ hH=>?_;refine aa.hO (s:=1) hH rfl (ev rfl) (ev rfl) (by exact bV) (by exact hH.rows (by exact aN)) rfl rfl rfl rfl rfl rfl rfl ⟨(Nat.le_of_ble_eq_true rfl),(Nat.le_of_ble_eq_true rfl)⟩ (fun _=>(ab rfl _)) rfl (by simp only[List.length_cons,List.length_nil,List.length_map]<;>omega) (by exact .inl hF) (fun Pt st hH=>?_);dsimp only[u2,u1,u3,u4,setMany,u5,u6,D.cells,Nat.reduceAdd] at hH;refine zQ 2 ?_
  have hH:Has s0.bs.length S st [.aC Pt 1 (byteCells (b++[UInt8.ofNat (kB m)]))]:=by
   rw[wM,I8 (by omega)];exact hH.drop 1
  refine zQ 4 ?_;refine aa.DO rfl (ev rfl) (ev rfl) (by omega) (by omega) (ab rfl _) ?_;refine zQ 2 ?_;have hbl:∀j,(B_ j m).length=j:=fun j=>rf j m
  obtain⟨T,hT⟩:∃T,b++UInt8.ofNat (kB m)::B_ (kB m) m=T:=⟨_,rfl⟩
  have Pb:T.length=b.length+kB m+1:=by rw[←hT];simp[hbl];omega
  refine zQ 1 ?_;refine ak.loop (fun mm fr st=>∃(j:Nat) (y:D) (pre:List UInt8),fr.clean=⟨9,[gi fr 0,gi fr 1,gi fr 2,gi fr 3,gi fr 4,y,.int .u64 (m:Nat),gi fr 7,.int .i64 ((j:Int)-1)],[]⟩∧Has s0.bs.length S st [.aC y 1 (byteCells pre)]∧(j=mm)∧(j≤kB m)∧(pre++B_ j m=T)) (kB m) ?_ ?_
  ·exact⟨kB m,Pt,b++[UInt8.ofNat (kB m)],rfl,hH,rfl,Nat.le_refl _,(by rw[←hT,List.append_assoc];rfl)⟩
  rintro mm fr st ⟨j,y,pre,hfr,hH,hj,Wb,hp⟩;rw[hfr];clear hfr;generalize gi fr=ee;clear fr;have jL:pre.length+j=T.length:=by rw[←hp,List.length_append,hbl]
  have Wx:=ay pre;refine zQ 6 ?_
  cases j with
  |succ j=>
   have hc:decide (((j+1:Nat):Int)-1≥0)=true:=by rw[decide_eq_true_eq];omega
   refine qD rfl (by rw[hc]) ?_;refine zQ 1 ?_;have Kc:((j+1:Nat):Int)-1=(j:Nat):=by omega
   rw[Kc];have hq:m/256^j %256<256:=Nat.mod_lt _ (by decide);refine zQ 6 ?_;refine aa.go (d:=.int .u64 (j:Nat)) (st1:=_) rfl rfl (by exact F5 j (by omega) _) (ab rfl _) ?_;refine aa.go (d:=.int .u64 ((8*j:Nat):Int)) (st1:=_) rfl rfl (by exact Bq j (by omega) _) (ab rfl _) ?_;refine aa.go (d:=.int .u64 ((m/256^j:Nat):Int)) (st1:=_) rfl rfl (by exact Ba m j (by omega) _) (ab rfl _) ?_;refine aa.go (d:=.int .u8 ((m/256^j %256:Nat):Int)) (st1:=_) rfl rfl (by exact KA _ _) (ab rfl _) ?_;refine qh (s:=1) (vs:=[_]) hH fun k44 st QS hH=>?_;refine aa.hO (s:=1) hH rfl (ev rfl) (ev rfl) (by exact bV) (by exact hH.rows (by exact aN)) rfl rfl rfl rfl rfl rfl rfl ⟨(Nat.le_of_ble_eq_true rfl),(Nat.le_of_ble_eq_true rfl)⟩ (fun _=>(ab rfl _)) rfl (by simp only[List.length_cons,List.length_nil,List.length_map]<;>omega) (by exact .inl hF) (fun Ps st hH=>?_);dsimp only[u2,u1,u3,u4,setMany,u5,u6,D.cells,Nat.reduceAdd] at hH;refine zQ 2 ?_
   have hH:Has s0.bs.length S st [.aC Ps 1 (byteCells (pre++[UInt8.ofNat (m/256^j)]))]:=by
    rw[wM,Ga];exact hH.drop 1
   refine zQ 2 ?_;refine aa.eY (z:=((j:Int)-1)) rfl (ev rfl) (ev rfl) (by rw[wrap_i64 (by omega) (by omega)]<;>omega) (ab rfl _) ?_;refine zQ 2 ?_;exact⟨j,by omega,⟨j,Ps,pre++[UInt8.ofNat (m/256^j)],rfl,hH,rfl,by omega,(by rw[List.append_assoc];exact hp)⟩⟩
  |zero=>
   have hc:decide (((0:Nat):Int)-1≥0)=false:=rfl;refine qE rfl (by rw[hc]) ?_;refine zQ 1 ?_;have Ql:pre=T:=by rw[←hp];simp[B_]
   subst Ql;refine zQ 5 ?_;refine ak.ret ⟨rx,_,_,_,rfl,rfl,?_⟩;rw[hT];exact hH.gV aP di
end Go.Proofs.YtecjacicdpejaaaGreat
namespace Go.Proofs.YtecjacicdpejaaaGreat
open Go.V Go
def c9 (c:Nat):Nat:=if c<128 then 1 else if c<194 then 0 else if c<224 then 2 else if c<240 then 3 else if c<245 then 4 else 0
theorem Bp (c : Nat) (st : St) : Ev pv 223 [.int .u8 c] st (.int .i64 (c9 c : Nat)) st := by
 refine Ev.ia rfl NM rfl rfl rfl ?_;refine zE ?_;unfold c9
 repeat' split
 ·(repeat (first | refine xT ?_ | refine xL ?_ | refine xN ?_ | refine xo ?_ | refine xp ?_ | (refine aa.nil ?_; try refine zF ?_) | refine qq ?_ | refine ak.jg ?_ | refine ak.cond (v := true) rfl (fun _ => ?_) (fun h => by cases h) | refine ak.cond (v := false) rfl (fun h => by cases h) (fun _ => ?_) | refine ak.skip ?_ | refine ak.block ?_ | simp (disch := omega) only [decide_eq_true, decide_eq_false, ew, gw, eu, gv]));refine ak.ret ⟨rx, _, rfl, aH (by simp) (by simp [ae]) ?_⟩
  rfl
 ·(repeat (first | refine xT ?_ | refine xL ?_ | refine xN ?_ | refine xo ?_ | refine xp ?_ | (refine aa.nil ?_; try refine zF ?_) | refine qq ?_ | refine ak.jg ?_ | refine ak.cond (v := true) rfl (fun _ => ?_) (fun h => by cases h) | refine ak.cond (v := false) rfl (fun h => by cases h) (fun _ => ?_) | refine ak.skip ?_ | refine ak.block ?_ | simp (disch := omega) only [decide_eq_true, decide_eq_false, ew, gw, eu, gv]));refine ak.ret ⟨rx, _, rfl, aH (by simp) (by simp [ae]) ?_⟩
  rfl
 ·(repeat (first | refine xT ?_ | refine xL ?_ | refine xN ?_ | refine xo ?_ | refine xp ?_ | (refine aa.nil ?_; try refine zF ?_) | refine qq ?_ | refine ak.jg ?_ | refine ak.cond (v := true) rfl (fun _ => ?_) (fun h => by cases h) | refine ak.cond (v := false) rfl (fun h => by cases h) (fun _ => ?_) | refine ak.skip ?_ | refine ak.block ?_ | simp (disch := omega) only [decide_eq_true, decide_eq_false, ew, gw, eu, gv]));refine ak.ret ⟨rx, _, rfl, aH (by simp) (by simp [ae]) ?_⟩
  rfl
 ·(repeat (first | refine xT ?_ | refine xL ?_ | refine xN ?_ | refine xo ?_ | refine xp ?_ | (refine aa.nil ?_; try refine zF ?_) | refine qq ?_ | refine ak.jg ?_ | refine ak.cond (v := true) rfl (fun _ => ?_) (fun h => by cases h) | refine ak.cond (v := false) rfl (fun h => by cases h) (fun _ => ?_) | refine ak.skip ?_ | refine ak.block ?_ | simp (disch := omega) only [decide_eq_true, decide_eq_false, ew, gw, eu, gv]));refine ak.ret ⟨rx, _, rfl, aH (by simp) (by simp [ae]) ?_⟩
  rfl
 ·(repeat (first | refine xT ?_ | refine xL ?_ | refine xN ?_ | refine xo ?_ | refine xp ?_ | (refine aa.nil ?_; try refine zF ?_) | refine qq ?_ | refine ak.jg ?_ | refine ak.cond (v := true) rfl (fun _ => ?_) (fun h => by cases h) | refine ak.cond (v := false) rfl (fun h => by cases h) (fun _ => ?_) | refine ak.skip ?_ | refine ak.block ?_ | simp (disch := omega) only [decide_eq_true, decide_eq_false, ew, gw, eu, gv]));refine ak.ret ⟨rx, _, rfl, aH (by simp) (by simp [ae]) ?_⟩
  rfl
 ·(repeat (first | refine xT ?_ | refine xL ?_ | refine xN ?_ | refine xo ?_ | refine xp ?_ | (refine aa.nil ?_; try refine zF ?_) | refine qq ?_ | refine ak.jg ?_ | refine ak.cond (v := true) rfl (fun _ => ?_) (fun h => by cases h) | refine ak.cond (v := false) rfl (fun h => by cases h) (fun _ => ?_) | refine ak.skip ?_ | refine ak.block ?_ | simp (disch := omega) only [decide_eq_true, decide_eq_false, ew, gw, eu, gv]));refine ak.ret ⟨rx, _, rfl, aH (by simp) (by simp [ae]) ?_⟩
  rfl
def zT (c:Nat):Nat:=if c=224 then 160 else if c=237 then 128 else if c=240 then 144 else 128
def BN (c:Nat):Nat:=if c=224 then 191 else if c=237 then 159 else if c=240 then 191 else if c=244 then 143 else 191
theorem Cn (c d : Nat) (st : St) : Ev pv 224 [.int .u8 c, .int .u8 d] st (.bool (decide (zT c ≤ d ∧ d ≤ BN c))) st := by
 refine Ev.ia rfl NL rfl rfl rfl ?_;refine zE ?_
 have key : (c = 224 ∧ zT c = 160 ∧ BN c = 191) ∨ (c = 237 ∧ zT c = 128 ∧ BN c = 159) ∨ (c = 240 ∧ zT c = 144 ∧ BN c = 191) ∨ (c = 244 ∧ zT c = 128 ∧ BN c = 143) ∨ (c ≠ 224 ∧ c ≠ 237 ∧ c ≠ 240 ∧ c ≠ 244 ∧ zT c = 128 ∧ BN c = 191) := by
  unfold zT BN
  split
  ·omega
  split
  ·omega
  split
  ·omega
  split
  ·omega
  ·omega
 have PS : d < zT c ∨ (zT c ≤ d ∧ BN c < d) ∨ (zT c ≤ d ∧ d ≤ BN c) := by omega
 generalize zT c = lo at *;generalize BN c = hi at *
 rcases key with ⟨h, rfl, rfl⟩ | ⟨h, rfl, rfl⟩ | ⟨h, rfl, rfl⟩ | ⟨h, rfl, rfl⟩ | ⟨h1, h2, h3, h4, rfl, rfl⟩ <;> rcases PS with k | ⟨k1, k2⟩ | ⟨k1, k2⟩
 all_goals
  (repeat (first | refine xT ?_ | refine xL ?_ | refine xN ?_ | refine xo ?_ | refine xp ?_ | (refine aa.nil ?_; try refine zF ?_) | refine qq ?_ | refine ak.jg ?_ | refine ak.cond (v := true) rfl (fun _ => ?_) (fun h => by cases h) | refine ak.cond (v := false) rfl (fun h => by cases h) (fun _ => ?_) | refine ak.skip ?_ | refine ak.block ?_ | simp (disch := omega) only [decide_eq_true, decide_eq_false, ew, gw, eu, gv]));refine ak.ret ⟨rx, _, rfl, aH (by simp) (by simp [ae]) ?_⟩;simp (disch := omega) only [decide_eq_true, decide_eq_false]
  rfl
end Go.Proofs.YtecjacicdpejaaaGreat
namespace Go.Proofs.YtecjacicdpejaaaGreat
open Go.V Go
def kQ (c i y:Nat):Bool:=if i=1 then decide (zT c≤y∧y≤BN c) else decide (128≤y∧y≤191)
def iv (c:Nat):(left i:Nat)→List UInt8→Bool
 |0,_,_=>true
 |_+1,_,[]=>true
 |left+1,i,y::ys=>kQ c i y.toNat &&iv c left (i+1) ys
def cT:List UInt8→Nat×Nat
 |[]=>(0,0)
 |c::xs=>if c9 c.toNat=0 then(0,0) else if iv c.toNat (c9 c.toNat-1) 1 xs=true then(if xs.length+1<c9 c.toNat then(xs.length+1,c9 c.toNat) else(c9 c.toNat,c9 c.toNat)) else(0,0)
theorem rW (c:Nat):c9 c≤4:=by
 unfold c9
 repeat' split
 all_goals omega
theorem Ib {st:St} {x:D} {b:List UInt8} (hb:Bytes st x b) (hlen:b.length≤1048576):Ev pv 194 [x] st (.tup [.int .i64 ((cT b).1:Nat),.int .i64 ((cT b).2:Nat)]) st:=by
 refine Ev.ia rfl NV rfl rfl rfl ?_;refine zE ?_;have hb:=hb.enter .ro;have hbl:=ay b;refine zR ?_;refine zU ?_
 refine zW ?_
 refine aa.len rfl rfl rfl hb rfl ?_
 refine zW ?_
 refine zW ?_
 rw[hbl]
 cases b with
 |nil=>
  refine zY ?_;refine zN ?_;refine ak.cond (v:=true) rfl (fun _=>?_) (fun h=>by cases h);refine zR ?_;refine ak.ret ⟨rx,_,rfl,aH (by simp) (by simp[ae]) ?_⟩
  rfl
 |cons c xs=>
 simp only[List.length_cons] at hlen hbl;have hc:=A3 c;simp only[List.length_cons];simp(disch:=omega) only[decide_eq_true,decide_eq_false,ew,gw,eu,gv]
 refine zW ?_
 refine aa.dz rfl rfl rfl (fun _=>rfl) rfl rfl hb rfl rfl (by omega) (i:=0) (r:=[.int .u8 (c.toNat:Nat)]) rfl rfl (fun p=>?_);refine aa.oa rfl rfl rfl (Bp _ _) ?_;refine zX ?_;refine zN ?_;(repeat refine qq ?_);refine qc (fun h1=>?_) (fun h1=>?_)<;>try simp only[cs] at h1
 ·refine zR ?_;refine ak.ret ⟨rx,_,rfl,aH (by simp) (by simp[ae]) ?_⟩;rw[show cT (c::xs)=(0,0) by simp only[cT];rw[if_pos (by omega)]];rfl
 have Dv:=rW c.toNat;refine ak.skip<|zU ?_
 refine zW ?_
 refine aa.dz rfl rfl rfl (fun _=>rfl) rfl rfl hb rfl rfl (by omega) (i:=0) (r:=[.int .u8 (c.toNat:Nat)]) rfl rfl (fun p=>?_);refine aa.oa rfl rfl rfl (Bp _ _) ?_;refine zX ?_;refine zN ?_;refine zR ?_;(repeat refine qq ?_);refine ak.block ?_;generalize hn:c9 c.toNat=n at*;refine ak.loop (fun j fr ah=>∃(i:Nat),fr.clean=⟨6,[x,.tup [],.int .i64 0,.int .i64 0,.int .i64 (n:Nat),.int .i64 (i:Nat)],[]⟩∧ah=ae .ro st∧1≤i∧i+j=n∧iv c.toNat j i (xs.drop (i-1))=iv c.toNat (n-1) 1 xs∧i≤xs.length+1) (n-1) ⟨1,rfl,rfl,by omega,by omega,rfl,by omega⟩ ?_;rintro j fr ah ⟨i,hfr,rfl,MP,hij,hS,TA⟩;rw[hfr]
 have fin:(n≤i∨xs.length+1≤i)→cT (c::xs)=if xs.length+1<n then(xs.length+1,n) else(n,n):=by
  intro h
  have ht:iv c.toNat (n-1) 1 xs=true:=by
   rw[←hS]
   rcases h with h|h
   ·have:j=0:=by omega
    subst this;rfl
   ·have:xs.drop (i-1)=[]:=List.drop_eq_nil_of_le (by omega);rw[this];cases j<;>rfl
  simp only[cT,hn];rw[if_neg (by omega),if_pos ht]
 by_cases h4:i<n
 ·by_cases h5:i<xs.length+1
  ·refine zU ?_
   refine zW ?_
   refine zW ?_
   refine zW ?_
   simp(disch:=omega) only[decide_eq_true,decide_eq_false,ew,gw,eu,gv]
   refine zW ?_
   refine zW ?_
   refine zW ?_
   refine aa.len rfl rfl rfl hb rfl ?_;rw[hbl];refine zY ?_;refine zN ?_;refine ak.cond (v:=true) rfl (fun _=>?_) (fun h=>by cases h);refine ak.skip ?_;refine qy ?_;(repeat refine qq ?_);refine ak.block ?_
   obtain⟨j,rfl⟩:∃l,j=l+1:=⟨j-1,by omega⟩
   obtain⟨y,ys,yh⟩:∃y ys,xs.drop (i-1)=y::ys:=by
    cases h:xs.drop (i-1) with
    |nil=>have:=congrArg List.length h;simp at this;omega
    |cons y ys=>exact⟨y,ys,rfl⟩
   have hy:(c::xs)[i]?=some y:=by
    obtain⟨i,rfl⟩:∃i',i=i'+1:=⟨i-1,by omega⟩
    have:=congrArg (fun l=>l[0]?) yh
    simpa using this
   have jr:xs.drop (i+1-1)=ys:=by
    have:=congrArg (fun l=>l.drop 1) yh;simp only[List.drop_drop,List.drop_succ_cons,List.drop_zero] at this;rw[←this];congr 1;omega
   have K2:=jJ hy;have S6:=A3 y;rw[yh] at hS;simp only[iv] at hS;generalize Kq:eD _ _ _ _=K0
   have step:kQ c.toNat i y.toNat=true→∀m,K0 .next ⟨6,[x,.tup [],.int .i64 0,.int .i64 0,.int .i64 (n:Nat),.int .i64 (i:Nat)],m⟩ (ae .ro st):=by
    intro hg m;subst Kq;refine zR ?_;rw[wrap_i64 (by omega) (by omega)];rw[hg,Bool.true_and] at hS;exact⟨j,by omega,i+1,rfl,rfl,by omega,by omega,by rw[jr];exact hS,by omega⟩
   by_cases uI:i=1
   ·subst uI;have hx0:xs=y::ys:=yh;subst hx0;refine zU ?_
    refine zW ?_
    refine zW ?_
    refine zW ?_
    refine zW ?_
    refine aa.dz rfl rfl rfl (fun _=>rfl) rfl rfl hb rfl rfl (by omega) (i:=0) (r:=[.int .u8 (c.toNat:Nat)]) rfl rfl (fun p=>?_)
    refine zW ?_
    refine aa.dz rfl rfl rfl (fun _=>rfl) rfl rfl hb rfl rfl (by omega) (i:=1) (r:=[.int .u8 (y.toNat:Nat)]) rfl rfl (fun p=>?_);refine aa.oa rfl rfl rfl (Cn _ _ _) ?_
    by_cases hg:zT c.toNat≤y.toNat∧y.toNat≤BN c.toNat
    ·rw[decide_eq_true hg];refine zX ?_;refine zN ?_;refine ak.cond (v:=false) rfl (fun h=>by cases h) fun _=>?_;refine ak.skip ?_;exact step (by unfold kQ;rw[if_pos rfl,decide_eq_true hg]) _
    ·rw[decide_eq_false hg];refine zX ?_;refine zN ?_;refine ak.cond (v:=true) rfl (fun _=>?_) (fun h=>by cases h);refine zR ?_;subst Kq;refine ak.ret ⟨rx,_,rfl,aH (by simp) (by simp[ae]) ?_⟩;have:iv c.toNat (n-1) 1 (y::ys)=false:=by rw[←hS];unfold kQ;rw[if_pos rfl,decide_eq_false hg];rfl
     rw[show cT (c::y::ys)=(0,0) by simp only[cT,hn];rw[if_neg (by omega),this];rfl];rfl
   ·refine zU ?_
    refine zW ?_
    refine zW ?_
    simp(disch:=omega) only[decide_eq_true,decide_eq_false,ew,gw,eu,gv]
    refine zW ?_
    refine zW ?_
    refine zW ?_
    refine zW ?_
    refine zW ?_
    refine zW ?_
    refine zW ?_
    refine zW ?_
    refine zW ?_
    refine zW ?_
    refine zW ?_
    refine zW ?_
    refine zW ?_
    simp(disch:=omega) only[decide_eq_true,decide_eq_false,ew,gw,eu,gv]
    refine zW ?_
    refine zW ?_
    refine zW ?_
    refine aa.dz rfl rfl rfl (fun _=>rfl) rfl rfl hb rfl rfl (by omega) K2 rfl (fun p=>?_)
    by_cases y7:y.toNat<128
    ·refine zY ?_;refine zN ?_;refine ak.cond (v:=true) rfl (fun _=>?_) (fun h=>by cases h);refine zR ?_;subst Kq;refine ak.ret ⟨rx,_,rfl,aH (by simp) (by simp[ae]) ?_⟩;have hf:kQ c.toNat i y.toNat=false:=by unfold kQ;rw[if_neg uI,decide_eq_false (by omega)]
     have:iv c.toNat (n-1) 1 xs=false:=by rw[←hS,hf];rfl
     rw[show cT (c::xs)=(0,0) by simp only[cT,hn];rw[if_neg (by omega),this];rfl];rfl
    ·refine zW ?_
     simp(disch:=omega) only[decide_eq_true,decide_eq_false,ew,gw,eu,gv]
     refine zW ?_
     refine zW ?_
     refine zW ?_
     refine aa.dz rfl rfl rfl (fun _=>rfl) rfl rfl hb rfl rfl (by omega) K2 rfl (fun p=>?_)
     by_cases BO:191<y.toNat
     ·refine zY ?_;refine zN ?_;refine ak.cond (v:=true) rfl (fun _=>?_) (fun h=>by cases h);refine zR ?_;subst Kq;refine ak.ret ⟨rx,_,rfl,aH (by simp) (by simp[ae]) ?_⟩;have hf:kQ c.toNat i y.toNat=false:=by unfold kQ;rw[if_neg uI,decide_eq_false (by omega)]
      have:iv c.toNat (n-1) 1 xs=false:=by rw[←hS,hf];rfl
      rw[show cT (c::xs)=(0,0) by simp only[cT,hn];rw[if_neg (by omega),this];rfl];rfl
     ·refine zY ?_;refine zN ?_;refine ak.cond (v:=false) rfl (fun h=>by cases h) fun _=>?_;refine ak.skip ?_;exact step (by unfold kQ;rw[if_neg uI,decide_eq_true (by omega)]) _
  ·refine zU ?_
   refine zW ?_
   refine zW ?_
   refine zW ?_
   simp(disch:=omega) only[decide_eq_true,decide_eq_false,ew,gw,eu,gv]
   refine zW ?_
   refine zW ?_
   refine zW ?_
   refine aa.len rfl rfl rfl hb rfl ?_;rw[hbl];refine zY ?_;refine zN ?_;refine ak.cond (v:=false) rfl (fun h=>by cases h) fun _=>?_;refine ak.exit ?_;rw[fin (by omega)];refine zU ?_
   refine zW ?_
   refine aa.len rfl rfl rfl hb rfl ?_;rw[hbl];refine zX ?_;refine zN ?_;refine ak.cond (v:=true) (by dsimp only[Fr.ev,Fr.get,V.look];rw[decide_eq_true (by omega)]) (fun _=>?_) (fun h=>by cases h);refine zU ?_
   refine zW ?_
   refine aa.len rfl rfl rfl hb rfl ?_;rw[hbl];refine zX ?_;refine zN ?_;refine ak.ret ⟨rx,_,rfl,aH (by simp) (by simp[ae]) ?_⟩;rw[if_pos (by omega)];rfl
 ·refine zU ?_
  refine zW ?_
  refine zW ?_
  refine zW ?_
  refine zY ?_;refine zN ?_;refine ak.cond (v:=false) rfl (fun h=>by cases h) fun _=>?_;refine ak.exit ?_;rw[fin (by omega)];refine zU ?_
  refine zW ?_
  refine aa.len rfl rfl rfl hb rfl ?_;rw[hbl];refine zX ?_;refine zN ?_;(repeat refine qq ?_);refine qc (fun h9=>?_) (fun h9=>?_)<;>try simp only[cs] at h9
  ·refine zU ?_
   refine zW ?_
   refine aa.len rfl rfl rfl hb rfl ?_;rw[hbl];refine zX ?_;refine zN ?_;refine ak.ret ⟨rx,_,rfl,aH (by simp) (by simp[ae]) ?_⟩;rw[if_pos (by omega)];rfl
  ·refine ak.skip<|zR ?_;refine ak.ret ⟨rx,_,rfl,aH (by simp) (by simp[ae]) ?_⟩;rw[if_neg (by omega)];rfl
end Go.Proofs.YtecjacicdpejaaaGreat
namespace Go.Proofs.YtecjacicdpejaaaGreat
open Go.V Go
/- the plain law: the two ways to look at the first rune -/
theorem CG (c:Nat):(c9 c=0∧(bS c).1=-1)∨(c9 c=1∧(bS c).1=0)∨(2≤c9 c∧(bS c).1=(c9 c:Int)-1∧(bS c).2.1=zT c∧(bS c).2.2=BN c):=by
 unfold c9 bS zT BN
 by_cases h1:c<128
 ·simp[h1]
 by_cases h2:c<194
 ·simp[h1,h2]
 by_cases h0:245≤c
 ·left;rw[if_neg (by omega),if_neg (by omega),if_neg (by omega),if_neg (by omega),if_neg (by omega),if_neg (by omega),if_neg (by omega),if_neg (by omega),if_neg (by omega),if_neg (by omega),if_neg (by omega),if_neg (by omega),if_neg (by omega),if_neg (by omega)];simp
 right;right
 by_cases h3:c<224
 ·simp only[h1,h2,h3,if_true,if_false];rw[if_neg (by omega),if_neg (by omega),if_neg (by omega),if_neg (by omega),if_neg (by omega),if_neg (by omega),if_neg (by omega)];simp
 by_cases h4:c=224
 ·subst h4;simp
 by_cases h5:c=237
 ·subst h5;simp
 by_cases h6:c<240
 ·simp only[h1,h2,h3,h4,h5,h6,if_true,if_false];rw[if_neg (by omega),if_neg (by omega),if_neg (by omega)];simp
 by_cases h7:c=240
 ·subst h7;simp
 by_cases h8:c<244
 ·simp only[h1,h2,h3,h4,h5,h6,h7,h8,if_true,if_false];rw[if_pos (by omega),if_neg (by omega)];simp
 by_cases h9:c=244
 ·subst h9;simp
 omega
def sP (r:Nat):Nat→List UInt8→Nat
 |0,_=>r
 |_+1,[]=>r
 |left+1,y::ys=>sP (r*64+y.toNat %64) left ys
theorem tW (c n:Nat):∀(left i r lo hi:Nat) (xs:List UInt8),1≤i→(∀y,kQ c i y=(decide (lo≤y∧y≤hi)))→
  gF left n r lo hi xs=if iv c left i xs=true then(if xs.length<left then(0,0,true) else(sP r left xs,n,false)) else(0,0,false)
 |0,i,r,lo,hi,xs,_,_=>by simp[gF,iv,sP]
 |left+1,i,r,lo,hi,[],_,_=>by simp[gF,iv]
 |left+1,i,r,lo,hi,y::ys,MP,hg=>by
  simp only[gF,iv,hg,sP]
  by_cases hb:lo≤y.toNat∧y.toNat≤hi
  ·rw[if_neg (by omega),decide_eq_true hb,Bool.true_and];rw[tW c n left (i+1) _ 128 191 ys (by omega) (fun z=>by unfold kQ;rw[if_neg (by omega)])];simp only[List.length_cons,Nat.add_lt_add_iff_right]
  ·rw[if_pos (by omega),decide_eq_false hb];simp
def rm (c n:Nat):Nat:=if n≤1 then c else c %(64/2^(n-1))
theorem C_ (c:UInt8) (xs:List UInt8):dt (c::xs)=if c9 c.toNat=0 then(0,0,false) else if iv c.toNat (c9 c.toNat-1) 1 xs=true then(if xs.length<c9 c.toNat-1 then(0,0,true) else(sP (rm c.toNat (c9 c.toNat)) (c9 c.toNat-1) xs,c9 c.toNat,false)) else(0,0,false):=by
 simp only[dt]
 rcases CG c.toNat with⟨h1,h2⟩|⟨h1,h2⟩|⟨h1,h2,h3,h4⟩
 ·rw[h1,h2];simp
 ·rw[h1,h2];simp[gF,iv,sP,rm]
 ·have hk:(bS c.toNat).1.toNat=c9 c.toNat-1:=by omega
  rw[if_neg (show¬(bS c.toNat).1<0 by omega),if_neg (show¬c9 c.toNat=0 by omega),if_pos (show(bS c.toNat).1>0 by omega),hk,h3,h4];rw[tW c.toNat _ _ 1 _ _ _ _ (by omega) (fun y=>by unfold kQ;rw[if_pos rfl])];have:c9 c.toNat-1+1=c9 c.toNat:=by omega
  rw[this];have h5:rm c.toNat (c9 c.toNat)=c.toNat %(64/2^(c9 c.toNat-1)):=by unfold rm;rw[if_neg (by omega)]
  rw[h5]
def cm (b:List UInt8):Bool:=(dt b).2.2
theorem sQ (b:List UInt8):(cm b=true↔(0<(cT b).1∧(cT b).1<(cT b).2∧(cT b).1=b.length))∧
  (((cT b).1=0∨(cT b).1<(cT b).2)→iG b=(65533,1))∧
  (¬((cT b).1=0∨(cT b).1<(cT b).2)→∃c xs,b=c::xs∧1≤(cT b).2∧(cT b).2≤4∧(cT b).2-1≤xs.length∧iG b=(sP (rm c.toNat (cT b).2) ((cT b).2-1) xs,(cT b).2)):=by
 cases b with
 |nil=>simp[cm,dt,cT,iG]
 |cons c xs=>
  have hn:=rW c.toNat;simp only[cm,iG,C_,cT]
  by_cases h1:c9 c.toNat=0
  ·simp[h1]
  rw[if_neg h1,if_neg h1]
  by_cases h2:iv c.toNat (c9 c.toNat-1) 1 xs=true
  ·rw[if_pos h2,if_pos h2]
   by_cases h3:xs.length+1<c9 c.toNat
   ·rw[if_pos (by omega),if_pos h3];simp<;>omega
   ·rw[if_neg (by omega),if_neg h3];refine⟨by simp<;>omega,by simp<;>omega,fun _=>⟨c,xs,rfl,by simp only;omega,by simp only;omega,by simp only;omega,?_⟩⟩;simp only;rw[if_neg h1]
  ·rw[if_neg h2,if_neg h2];simp
end Go.Proofs.YtecjacicdpejaaaGreat
namespace Go.Proofs.YtecjacicdpejaaaGreat
open Go.V Go
end Go.Proofs.YtecjacicdpejaaaGreat
namespace Go.Proofs.YtecjacicdpejaaaGreat
open Go.V Go
end Go.Proofs.YtecjacicdpejaaaGreat
namespace Go.Proofs.YtecjacicdpejaaaGreat
open Go.V Go
theorem Cr {st:St} {x y:D} {l:List UInt8} (hx:Bytes st x l) (hy:Bytes st y l) (hl:l.length<4611686018427387904):Ev pv 21 [x,y] st (.bool true) st:=by
 refine Ev.ia rfl R9 rfl rfl rfl ?_;refine zE ?_;have hx:=hx.enter .ro;have hy:=hy.enter .ro;have hlen:(byteCells l).length=l.length:=ay l;refine zR ?_;refine zU ?_
 refine zW ?_
 refine aa.len rfl rfl rfl hx rfl ?_
 refine zW ?_
 refine aa.len rfl rfl rfl hy rfl ?_;refine zX ?_;refine zN ?_;(repeat refine qq ?_);refine qc (fun h1=>?_) (fun h1=>?_)<;>try simp only[cs] at h1
 ·exact absurd trivial h1
 refine ak.skip<|zR ?_;(repeat refine qq ?_);refine ak.block<|ak.loop (fun j fr ah=>∃i:Nat,fr.clean=⟨6,[x,y,.tup [],.tup [],.bool false,.int .i64 (i:Nat)],[]⟩∧ah=ae .ro st∧i+j=l.length) l.length ⟨0,rfl,rfl,by omega⟩ ?_;rintro j fr ah ⟨i,hfr,rfl,hij⟩;rw[hfr];refine zU ?_
 refine zW ?_
 refine zW ?_
 refine aa.len rfl rfl rfl hx rfl ?_;refine zX ?_;refine zN ?_;rw[hlen];refine qy ?_;(repeat refine qq ?_);refine qc (fun h2=>?_) (fun h2=>?_)<;>try simp only[cs] at h2
 ·refine ak.skip ?_;refine qy ?_
  obtain⟨g,hg⟩:∃g,l[i]?=some g:=⟨l[i]'(by omega),List.getElem?_eq_getElem _⟩
  have hr:=jJ hg;refine qy ?_;(repeat refine qq ?_);refine ak.block<|zU ?_
  refine zW ?_
  refine zW ?_
  refine aa.dz rfl rfl rfl (fun _=>rfl) rfl rfl hx rfl rfl (by omega) hr rfl (fun p=>?_)
  refine zW ?_
  refine zW ?_
  refine aa.dz rfl rfl rfl (fun _=>rfl) rfl rfl hy rfl rfl (by omega) hr rfl (fun p=>?_);refine zX ?_;refine zN ?_;(repeat refine qq ?_);refine qc (fun h3=>?_) (fun h3=>?_)<;>try simp only[cs] at h3
  ·exact absurd trivial h3
  refine ak.skip<|zR ?_;rw[wrap_i64 (by omega) (by omega)];exact⟨j-1,by omega,i+1,rfl,rfl,by omega⟩
 ·refine ak.exit<|zR ?_;refine ak.ret ⟨rx,_,rfl,aH (by simp) (by simp[ae]) ?_⟩
  rfl
def gr (b:List UInt8):D:=.sl ((byteCells b).map (j7 1))
theorem jI (b:List UInt8):∀e∈byteCells b,e.length=1:=by
 intro e he;obtain⟨y,_,rfl⟩:=List.mem_map.1 he;rfl
theorem fI (b:List UInt8):∀e∈byteCells b,∀d∈e,ck d=true:=by
 intro e he d hd;obtain⟨y,_,rfl⟩:=List.mem_map.1 he;simp only[List.mem_cons,List.not_mem_nil,or_false] at hd;subst hd;rfl
theorem vc (st:St) (b:List UInt8):Bytes st (gr b) b:=Rows.nC (jI b) (fI b)
def wR (y:UInt8):D:=.int .u8 (y.toNat:Nat)
theorem gu (b:List UInt8):(byteCells b).flatten=b.map wR:=by
 induction b with
 |nil=>rfl
 |cons y b ih=>simp only[byteCells,List.map_cons,List.flatten_cons] at ih⊢;rw[ih];rfl
end Go.Proofs.YtecjacicdpejaaaGreat
