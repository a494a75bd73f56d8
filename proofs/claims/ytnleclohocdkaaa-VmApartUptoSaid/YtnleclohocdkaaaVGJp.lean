/-
 What the search comes to: it is closed, and nothing can be left out.
-/
import Derived.Test.YtnleclohocdkaaaVGQe
import Derived.Test.YtnleclohocdkaaaVGHr
import Derived.Test.YtnleclohocdkaaaVGCa
import Derived.Test.YtnleclohocdkaaaVDig
import Derived.Test.YtnleclohocdkaaaVGJh
set_option maxRecDepth 100000
set_option linter.unusedSimpArgs false
set_option linter.unusedVariables false
set_option maxHeartbeats 4000000
namespace Go.Proofs.Ytnleclohocdkaaa
open Go.V Go
def iT (seen:List Bool) (v:Int):Prop:=0≤v∧seen[v.toNat]?=some true
structure zo (code:List aC) (start:Int) (seen:List Bool) (cS:List Int):Prop where
 a:∀u i,seen[u]?=some true→code[u]?=some i→∀w∈bB u i,iT seen w∨w∈cS
 b:∀v∈cS,v=start∨∃u i,seen[u]?=some true∧code[u]?=some i∧v∈bB u i
 c:∀v,iT seen v→v=start∨∃u i,seen[u]?=some true∧code[u]?=some i∧v∈bB u i∧v≠(u:Int)
 d:iT seen start∨start∈cS
theorem eM {seen:List Bool} {k:Nat} (hk:k<seen.length) {v:Int}:iT (seen.set k true) v↔v=(k:Int)∨iT seen v:=by
 unfold iT;constructor
 ·rintro⟨h0,h⟩
  by_cases hv:v.toNat=k
  ·left;omega
  ·rw[List.getElem?_set_ne (fun e=>hv e.symm)] at h;exact .inr ⟨h0,h⟩
 ·rintro(rfl|⟨h0,h⟩)
  ·exact⟨by omega,by rw[Int.toNat_natCast,List.getElem?_set_self hk]⟩
  ·refine⟨h0,?_⟩
   by_cases hv:v.toNat=k
   ·rw[hv,List.getElem?_set_self hk]
   ·rw[List.getElem?_set_ne (fun e=>hv e.symm)];exact h
theorem dp {seen:List Bool} {u:Nat}:seen[u]?=some true↔iT seen (u:Int):=by
 unfold iT;rw[Int.toNat_natCast];exact⟨fun h=>⟨by omega,h⟩,fun h=>h.2⟩
theorem yY {code:List aC} {start:Int} (hcl:iN code):∀(f:Nat) (seen:List Bool) (cS:List Int),seen.length=code.length→(∀v∈cS,0≤v∧v<(code.length:Int))→3*seen.count false+cS.length≤f→zo code start seen cS→zo code start (y0 code f seen cS) []
 |0,seen,cS,_,_,hm,hi=>by
  have:cS=[]:=by cases cS with|nil=>rfl|cons _ _=>simp at hm
  subst this;exact hi
 |f+1,seen,[],_,_,_,hi=>hi
 |f+1,seen,v::cS,hl,hs,hm,hi=>by
  have hv:=hs v (List.mem_cons_self ..);have rb:∀w∈cS,0≤w∧w<(code.length:Int):=fun w hw=>hs w (List.mem_cons_of_mem _ hw);obtain⟨k,rfl⟩:=Int.eq_ofNat_of_zero_le hv.1;have hk:k<code.length:=by omega
  obtain⟨i,hci⟩:∃i,code[k]?=some i:=⟨code[k]'hk,List.getElem?_eq_getElem _⟩
  obtain⟨b,hb⟩:∃b,seen[k]?=some b:=⟨seen[k]'(by omega),List.getElem?_eq_getElem _⟩
  simp only[List.length_cons] at hm;have hp:∀w,w∈((k:Int)::cS)→w=(k:Int)∨w∈cS:=fun w hw=>List.mem_cons.1 hw;unfold y0;simp only[Int.toNat_natCast,hb,hci]
  cases b with
  |true=>
   have l6:iT seen (k:Int):=dp.1 hb;refine yY hcl f seen cS hl rb (by omega) ⟨fun u j hu hj w hw=>?_,fun w hw=>hi.b w (List.mem_cons_of_mem _ hw),hi.c,?_⟩
   ·rcases hi.a u j hu hj w hw with h|h
    ·exact .inl h
    ·rcases hp w h with rfl|h
     ·exact .inl l6
     ·exact .inr h
   ·rcases hi.d with h|h
    ·exact .inl h
    ·rcases hp start h with h|h
     ·exact .inl (h▸l6)
     ·exact .inr h
  |false=>
   have BH:=count_set hb;have ir:k<seen.length:=by omega
   have Kb:=wv k i;refine yY hcl f _ _ (by rw[List.length_set];exact hl) (fun w hw=>?_) (by simp only[List.length_append,List.length_reverse];omega) ⟨fun u j hu hj w hw=>?_,fun w hw=>?_,fun w hw=>?_,?_⟩
   ·rcases List.mem_append.1 hw with hw|hw
    ·exact hcl k i hci w (List.mem_reverse.1 hw)
    ·exact rb w hw
   ·rcases(eM ir).1 (dp.1 hu) with h|h
    ·have:u=k:=by omega
     subst this;rw[hci] at hj;cases hj;exact .inr (List.mem_append.2 (.inl (List.mem_reverse.2 hw)))
    ·rcases hi.a u j (dp.2 h) hj w hw with h|h
     ·exact .inl ((eM ir).2 (.inr h))
     ·rcases hp w h with h|h
      ·exact .inl ((eM ir).2 (.inl h))
      ·exact .inr (List.mem_append.2 (.inr h))
   ·rcases List.mem_append.1 hw with hw|hw
    ·exact .inr ⟨k,i,dp.2 ((eM ir).2 (.inl rfl)),hci,List.mem_reverse.1 hw⟩
    ·rcases hi.b w (List.mem_cons_of_mem _ hw) with h|⟨u,j,h1,h2,h3⟩
     ·exact .inl h
     ·exact .inr ⟨u,j,dp.2 ((eM ir).2 (.inr (dp.1 h1))),h2,h3⟩
   ·rcases(eM ir).1 hw with rfl|h
    ·rcases hi.b (k:Int) (List.mem_cons_self ..) with h|⟨u,j,h1,h2,h3⟩
     ·exact .inl h
     ·refine .inr ⟨u,j,dp.2 ((eM ir).2 (.inr (dp.1 h1))),h2,h3,fun e=>?_⟩;have:k=u:=by omega
      subst this;rw[hb] at h1;cases h1
    ·rcases hi.c w h with h|⟨u,j,h1,h2,h3,h4⟩
     ·exact .inl h
     ·exact .inr ⟨u,j,dp.2 ((eM ir).2 (.inr (dp.1 h1))),h2,h3,h4⟩
   ·rcases hi.d with h|h
    ·exact .inl ((eM ir).2 (.inr h))
    ·rcases hp start h with h|h
     ·exact .inl ((eM ir).2 (.inl h))
     ·exact .inr (List.mem_append.2 (.inr h))
theorem vP {code:List aC} {start:Int} (hcl:iN code) (df:0≤start∧start<(code.length:Int)):zo code start (cu code start) []:=by
 have nO:∀v,¬iT (List.replicate code.length false) v:=by
  rintro v ⟨h0,h⟩;rw[List.getElem?_replicate] at h
  split at h<;>cases h
 refine yY hcl _ _ _ (by simp) (fun v hv=>?_) (by simp) ⟨fun u i hu=>absurd (dp.1 hu) (nO _),fun v hv=>?_,fun v hv=>absurd hv (nO v),.inr (by simp)⟩
 ·simp only[List.mem_cons,List.not_mem_nil,or_false] at hv;subst hv;exact df
 ·simp only[List.mem_cons,List.not_mem_nil,or_false] at hv;exact .inl hv
theorem jg:∀{L:List Bool} {s:Nat} {v:Int},v∈pV s L↔∃k:Nat,L[k]?=some true∧v=((s+k:Nat):Int)
 |[],s,v=>⟨fun h=>(by cases h),fun⟨k,h,_⟩=>by simp at h⟩
 |b::l,s,v=>by
  simp only[pV,List.mem_append];constructor
  ·rintro(h|h)
   ·split at h
    ·rename_i hb;simp only[List.mem_cons,List.not_mem_nil,or_false] at h;exact⟨0,by simp[hb],by rw[h];simp⟩
    ·cases h
   ·obtain⟨k,h1,h2⟩:=jg.1 h;exact⟨k+1,by simpa using h1,by rw[h2];congr 1;omega⟩
  ·rintro⟨k,h1,h2⟩
   cases k with
   |zero=>simp at h1;subst h1;left;simp[h2]
   |succ k=>exact .inr (jg.2 ⟨k,by simpa using h1,by rw[h2];congr 1;omega⟩)
theorem sK : ∀ (L : List Bool) (s : Nat), (pV s L).Pairwise (· < ·)
 | [], s => .nil
 | b :: l, s => by
  simp only [pV];have ih := sK l (s + 1)
  split
  ·rw [List.singleton_append, List.pairwise_cons];refine ⟨fun v hv => ?_, ih⟩;obtain ⟨k, _, rfl⟩ := jg.1 hv;omega
  ·exact ih
def c_ (lo hi:Nat) (i:aC):Prop:=
 (i.op=1∧i.x=0∧i.y=0∧eY i.rs=true)∨(i.op=2∧i.rs=[]∧((lo:Int)≤i.x∧i.x≤hi)∧(lo:Int)≤i.y∧i.y≤hi)∨(i.op=3∧i.rs=[]∧i.y=0∧(lo:Int)≤i.x∧i.x≤hi)∨(i.op=4∧i.rs=[]∧i.y=0∧0≤i.x∧i.x<10)∨((i.op=5∨i.op=6)∧i.rs=[]∧i.y=0∧i.x=0)
theorem c_.mono {lo hi s_ gT:Nat} {i:aC} (h:c_ lo hi i) (h1:s_≤lo) (h2:hi≤gT):c_ s_ gT i:=by
 rcases h with h|⟨a,b,c,d⟩|⟨a,b,c,d⟩|h|h
 ·exact .inl h
 ·exact .inr (.inl ⟨a,b,by omega,by omega⟩)
 ·exact .inr (.inr (.inl ⟨a,b,c,by omega⟩))
 ·exact .inr (.inr (.inr (.inl h)))
 ·exact .inr (.inr (.inr (.inr h)))
theorem c_.sp {lo hi s o:Nat} {lz:Bool} (h1:lo≤s+1∧s+1≤hi) (h2:lo≤o∧o≤hi):c_ lo hi (kS s o lz):=by
 refine .inr (.inl ?_);cases lz
 ·refine⟨rfl,rfl,?_⟩;show((lo:Int)≤((s+1:Nat):Int)∧((s+1:Nat):Int)≤hi)∧(lo:Int)≤(o:Int)∧(o:Int)≤hi;omega
 ·refine⟨rfl,rfl,?_⟩;show((lo:Int)≤(o:Int)∧(o:Int)≤hi)∧(lo:Int)≤((s+1:Nat):Int)∧((s+1:Nat):Int)≤hi;omega
theorem c_.jp {lo hi e:Nat} (h1:lo≤e∧e≤hi):c_ lo hi (jk e):=by
 refine .inr (.inr (.inl ⟨rfl,rfl,rfl,?_⟩));show(lo:Int)≤(e:Int)∧(e:Int)≤hi;omega
theorem c_.save {lo hi:Nat} {x:Int} (h:0≤x∧x<10):c_ lo hi (bX 4 x 0 []):=.inr (.inr (.inr (.inl ⟨rfl,rfl,rfl,h⟩)))
theorem nu {c:Nat→List aC} {z:Nat} (hc:∀b,∀i∈c b,c_ b (b+z) i):∀k b,∀i∈eC c z k b,c_ b (b+k*z) i
 |0,b,i,hi=>by cases hi
 |k+1,b,i,hi=>by
  simp only[eC] at hi;rw[Nat.succ_mul]
  rcases List.mem_append.1 hi with hi|hi
  ·exact(hc b i hi).mono (Nat.le_refl _) (by omega)
  ·exact(nu hc k _ i hi).mono (by omega) (by omega)
theorem sI {sp:Nat→aC} {c:Nat→List aC} {z lo hi:Nat} (hs:∀s,lo≤s→s+1≤hi→c_ lo hi (sp s)) (hc:∀b,∀i∈c b,c_ b (b+z) i):∀k b,lo≤b→b+k*(z+1)≤hi→∀i∈eD sp c z k b,c_ lo hi i
 |0,b,_,_,i,gT=>by cases gT
 |k+1,b,h1,h2,i,gT=>by
  simp only[eD] at gT;rw[Nat.succ_mul] at h2
  rcases List.mem_cons.1 gT with rfl|gT
  ·exact hs b h1 (by omega)
  ·rcases List.mem_append.1 gT with gT|gT
   ·exact(hc _ i gT).mono (by omega) (by omega)
   ·exact sI hs hc k _ (by omega) (by omega) i gT
def EM (l:List cg):Prop:=∀n∈l,n.op=2→eY n.rs=true
mutual
theorem jQ:∀(t:Tr) (b:Nat),t.ok→EM t.flat→∀i∈aF t b,c_ b (b+t.sz) i
 | .mk n ks,b,aY,mw,i,hi=>by
  simp only[Tr.ok] at aY;simp only[Tr.flat] at mw;have hc:=fun b=>tE ks b aY.2 (fun n hn=>mw n (List.mem_cons_of_mem _ hn));obtain⟨_,hq⟩:=aY.1;simp only[aF] at hi;simp only[Tr.sz]
  by_cases q2:n.op=2
  ·rw[if_pos q2] at hi;simp only[List.mem_cons,List.not_mem_nil,or_false] at hi;subst hi;exact .inl ⟨rfl,rfl,rfl,mw n (List.mem_cons_self ..) q2⟩
  rw[if_neg q2] at hi
  by_cases q7:n.op=7
  ·rw[if_pos q7] at hi;simp only[List.mem_cons,List.not_mem_nil,or_false] at hi;subst hi;exact .inr (.inr (.inr (.inr ⟨.inl rfl,rfl,rfl,rfl⟩)))
  rw[if_neg q7] at hi
  by_cases q8:n.op=8
  ·rw[if_pos q8] at hi;simp only[List.mem_cons,List.not_mem_nil,or_false] at hi;subst hi;exact .inr (.inr (.inr (.inr ⟨.inr rfl,rfl,rfl,rfl⟩)))
  rw[if_neg q8] at hi
  have hz:∀s k,bk n s k=if n.op=4 then s+2*(k-1) else if n.op=6 then s+2 else if n.op=5 then(if n.mx=-1 then n.mn.toNat*s+s+2 else n.mn.toNat*s+(n.mx.toNat-n.mn.toNat)*(s+1)) else s:=by
   intro s k;unfold bk;rw[if_neg (by omega)]
  by_cases q3:n.op=3
  ·rw[if_pos q3] at hi;rw[hz,if_neg (by omega),if_neg (by omega),if_neg (by omega)];exact hc b i hi
  rw[if_neg q3] at hi
  by_cases q4:n.op=4
  ·rw[if_pos q4] at hi;have Jx:bk n ks.sz ks.len=ks.sz+2*(ks.len-1):=by rw[hz,if_pos q4]
   rw[Jx] at hi⊢;exact tH ks b (b+(ks.sz+2*(ks.len-1))) aY.2 (fun n hn=>mw n (List.mem_cons_of_mem _ hn)) (Nat.le_refl _) i hi
  rw[if_neg q4] at hi
  by_cases q5:n.op=5
  ·rw[if_pos q5] at hi;rw[hz,if_neg q4,if_neg (by omega),if_pos q5];unfold lL at hi
   by_cases qx:n.mx=-1
   ·rw[if_pos qx] at hi⊢
    rcases List.mem_append.1 hi with hi|hi
    ·exact(nu hc _ _ i hi).mono (Nat.le_refl _) (by omega)
    ·rcases List.mem_cons.1 hi with rfl|hi
     ·exact c_.sp (by omega) (by omega)
     ·rcases List.mem_append.1 hi with hi|hi
      ·exact(hc _ i hi).mono (by omega) (by omega)
      ·simp only[List.mem_cons,List.not_mem_nil,or_false] at hi;subst hi;exact c_.jp (by omega)
   ·rw[if_neg qx] at hi⊢
    rcases List.mem_append.1 hi with hi|hi
    ·exact(nu hc _ _ i hi).mono (Nat.le_refl _) (by omega)
    ·exact sI (fun s h1 h2=>c_.sp (by omega) (by omega)) hc _ _ (by omega) (by omega) i hi
  rw[if_neg q5] at hi
  by_cases q6:n.op=6
  ·rw[if_pos q6] at hi;rw[hz,if_neg q4,if_pos q6]
   rcases List.mem_cons.1 hi with rfl|hi
   ·exact c_.save (by omega)
   ·rcases List.mem_append.1 hi with hi|hi
    ·exact(hc _ i hi).mono (by omega) (by omega)
    ·simp only[List.mem_cons,List.not_mem_nil,or_false] at hi;subst hi;exact c_.save (by omega)
  ·rw[if_neg q6] at hi;cases hi
theorem tE:∀(ts:bj) (b:Nat),ts.ok→EM ts.flat→∀i∈eU ts b,c_ b (b+ts.sz) i
 | .nil,b,_,_,i,hi=>by simp[eU] at hi
 | .cons t ts,b,aY,mw,i,hi=>by
  simp only[bj.ok] at aY;simp only[bj.flat] at mw;simp only[eU] at hi;simp only[bj.sz]
  rcases List.mem_append.1 hi with hi|hi
  ·exact(jQ t b aY.1 (fun n hn=>mw n (List.mem_append_left _ hn)) i hi).mono (Nat.le_refl _) (by omega)
  ·exact(tE ts _ aY.2 (fun n hn=>mw n (List.mem_append_right _ hn)) i hi).mono (by omega) (by omega)
theorem tH:∀(ts:bj) (b e:Nat),ts.ok→EM ts.flat→b+(ts.sz+2*(ts.len-1))≤e→∀i∈du (jk e) ts b,c_ b e i
 | .nil,b,e,_,_,_,i,hi=>by simp[du] at hi
 | .cons t ts,b,e,aY,mw,he,i,hi=>by
  simp only[bj.ok] at aY;simp only[bj.flat] at mw;simp only[du] at hi;simp only[bj.sz,bj.len] at he;have h1:EM t.flat:=fun n hn=>mw n (List.mem_append_left _ hn);have h2:EM ts.flat:=fun n hn=>mw n (List.mem_append_right _ hn)
  by_cases q:ts.len=0
  ·rw[if_pos q] at hi;exact(jQ t b aY.1 h1 i hi).mono (Nat.le_refl _) (by omega)
  ·rw[if_neg q] at hi
   rcases List.mem_cons.1 hi with rfl|hi
   ·exact c_.sp (by omega) (by omega)
   ·rcases List.mem_append.1 hi with hi|hi
    ·exact(jQ t _ aY.1 h1 i hi).mono (by omega) (by omega)
    ·rcases List.mem_cons.1 hi with rfl|hi
     ·exact c_.jp (by omega)
     ·exact(tH ts _ e aY.2 h2 (by omega) i hi).mono (by omega) (by omega)
end
inductive Path (C:List aC):Nat→Nat→Prop where
 |refl (u:Nat):Path C u u
 |step {u v w:Nat} {i:aC} (h:C[u]?=some i) (hn:(v:Int)∈bB u i) (p:Path C v w):Path C u w
theorem Path.trans {C:List aC} {u v w:Nat} (h:Path C u v) (g:Path C v w):Path C u w:=by
 induction h with
 |refl=>exact g
 |step h hn _ ih=>exact .step h hn (ih g)
theorem Path.yT {C:List aC} {u:Nat} {i:aC} (h:C[u]?=some i) (ho:i.op≠2∧i.op≠3∧i.op≠7):Path C u (u+1):=
 .step h (by unfold bB;rw[if_neg ho.1,if_neg ho.2.1,if_neg ho.2.2];exact List.mem_cons_self ..) (.refl _)
theorem Path.jp {C:List aC} {u e:Nat} (h:C[u]?=some (jk e)):Path C u e:=
 .step h (by show(e:Int)∈bB u (bX 3 (e:Nat) 0 []);unfold bB;rw[if_neg (show¬(bX 3 (e:Nat) 0 []).op=2 by show¬(3:Int)=2;decide),if_pos (show(bX 3 (e:Nat) 0 []).op=3 from rfl)];exact List.mem_cons_self ..) (.refl _)
theorem Path.sp {C:List aC} {u s o:Nat} {lz:Bool} (h:C[u]?=some (kS s o lz)):Path C u (s+1)∧Path C u o:=by
 have hn:bB u (kS s o lz)=[(kS s o lz).x,(kS s o lz).y]:=by
  unfold bB;rw[if_pos (by cases lz<;>rfl)]
 cases lz
 ·exact⟨.step h (by rw[hn];exact List.mem_cons_self ..) (.refl _),.step h (by rw[hn];exact List.mem_cons_of_mem _ (List.mem_cons_self ..)) (.refl _)⟩
 ·exact⟨.step h (by rw[hn];exact List.mem_cons_of_mem _ (List.mem_cons_self ..)) (.refl _),.step h (by rw[hn];exact List.mem_cons_self ..) (.refl _)⟩
theorem nr {C:List aC} {c:Nat→List aC} {z:Nat} (hl:∀b,(c b).length=z) (hc:∀b,fw C b (c b)→Path C b (b+z)):∀k b,fw C b (eC c z k b)→Path C b (b+k*z)
 |0,b,_=>by rw[Nat.zero_mul];exact .refl _
 |k+1,b,h=>by
  rw[eC] at h;have h2:=h.right;rw[hl] at h2;have:=nr hl hc k (b+z) h2;rw[Nat.succ_mul,show b+(k*z+z)=b+z+k*z by omega];exact(hc b h.left).trans this
theorem B1 {C : List aC} : ∀ (m : Nat) (t : Tr), t.flat.length ≤ m → ∀ b : Nat, t.ok → fw C b (aF t b) → Path C b (b + t.sz) := by
  intro m
  induction m with
  | zero => intro t h; have := t.ie; omega
  | succ m ih =>
    rintro ⟨n, ks⟩ hm b aY h
    simp only [Tr.flat, List.length_cons] at hm
    simp only [Tr.ok] at aY
    have hcat : ∀ (ts : bj) (b : Nat), ts.flat.length ≤ m → ts.ok → fw C b (eU ts b) → Path C b (b + ts.sz) := by
      intro ts
      induction ts using bj.rec (motive_1 := fun _ => True) with
      | mk => trivial
      | nil => intro b _ _ _; exact .refl _
      | cons t ts _ Af =>
        intro b h1 h2 h3
        simp only [bj.flat, List.length_append] at h1
        simp only [bj.ok] at h2
        simp only [eU] at h3
        have h4 := h3.right
        rw [bp t b h2.1] at h4
        have h5 := Af (b + t.sz) (by omega) h2.2 h4
        simp only [bj.sz]
        rw [← Nat.add_assoc]
        exact (ih t (by omega) b h2.1 h3.left).trans h5
    obtain ⟨nO, l6⟩ := aY
    obtain ⟨_, hq⟩ := nO
    have ir := fun b => kK ks b l6
    simp only [aF] at h
    simp only [Tr.sz]
    have hz : ∀ s k, bk n s k = if n.op = 2 ∨ n.op = 7 ∨ n.op = 8 then 1 else if n.op = 4 then s + 2 * (k - 1) else if n.op = 6 then s + 2 else if n.op = 5 then (if n.mx = -1 then n.mn.toNat * s + s + 2 else n.mn.toNat * s + (n.mx.toNat - n.mn.toNat) * (s + 1)) else s := fun s k => rfl
    rw [hz]
    by_cases q2 : n.op = 2
    · rw [if_pos q2] at h
      rw [if_pos (.inl q2)]
      exact Path.yT h.head (by show (1 : Int) ≠ 2 ∧ (1 : Int) ≠ 3 ∧ (1 : Int) ≠ 7; decide)
    rw [if_neg q2] at h
    by_cases q7 : n.op = 7
    · rw [if_pos q7] at h
      rw [if_pos (.inr (.inl q7))]
      exact Path.yT h.head (by show (5 : Int) ≠ 2 ∧ (5 : Int) ≠ 3 ∧ (5 : Int) ≠ 7; decide)
    rw [if_neg q7] at h
    by_cases q8 : n.op = 8
    · rw [if_pos q8] at h
      rw [if_pos (.inr (.inr q8))]
      exact Path.yT h.head (by show (6 : Int) ≠ 2 ∧ (6 : Int) ≠ 3 ∧ (6 : Int) ≠ 7; decide)
    rw [if_neg q8] at h
    rw [if_neg (by omega)]
    by_cases q3 : n.op = 3
    · rw [if_pos q3] at h
      rw [if_neg (by omega), if_neg (by omega), if_neg (by omega)]
      exact hcat ks b (by omega) l6 h
    rw [if_neg q3] at h
    by_cases q4 : n.op = 4
    · rw [if_pos q4] at h
      have Jx : bk n ks.sz ks.len = ks.sz + 2 * (ks.len - 1) := by rw [hz, if_neg (by omega), if_pos q4]
      rw [Jx] at h
      rw [if_pos q4]
      cases ks with
      | nil => simp only [bj.len] at hq; omega
      | cons t ts =>
        simp only [bj.len] at hq
        simp only [bj.flat, List.length_append] at hm
        simp only [bj.ok] at l6
        simp only [du] at h
        rw [if_neg (by omega)] at h
        have h1 := (Path.sp h.head).1
        have h2 := ih t (by omega) (b + 1) l6.1 h.tail.left
        have h3 := h.tail.right
        rw [bp t _ l6.1] at h3
        exact h1.trans (h2.trans (Path.jp h3.head))
    rw [if_neg q4] at h
    rw [if_neg q4]
    by_cases q5 : n.op = 5
    · rw [if_pos q5] at h
      rw [if_neg (by omega), if_pos q5]
      unfold lL at h
      by_cases qx : n.mx = -1
      · rw [if_pos qx] at h ⊢
        have h1 := nr ir (fun b hb => hcat ks b (by omega) l6 hb) _ _ h.left
        have h2 := h.right
        rw [g_ ir] at h2
        have h3 := (Path.sp h2.head).2
        rw [show b + (n.mn.toNat * ks.sz + ks.sz + 2) = b + n.mn.toNat * ks.sz + ks.sz + 2 by omega]
        exact h1.trans h3
      · rw [if_neg qx] at h ⊢
        have h1 := nr ir (fun b hb => hcat ks b (by omega) l6 hb) _ _ h.left
        have h2 := h.right
        rw [g_ ir] at h2
        by_cases hd : n.mx.toNat - n.mn.toNat = 0
        · rw [hd, Nat.zero_mul, Nat.add_zero]; exact h1
        · obtain ⟨d, xK⟩ : ∃ d, n.mx.toNat - n.mn.toNat = d + 1 := ⟨n.mx.toNat - n.mn.toNat - 1, by omega⟩
          rw [xK] at h2 ⊢
          rw [eD] at h2
          have h3 := (Path.sp h2.head).2
          rw [← Nat.add_assoc]
          exact h1.trans h3
    rw [if_neg q5] at h
    by_cases q6 : n.op = 6
    · rw [if_pos q6] at h
      rw [if_pos q6]
      have h1 : Path C b (b + 1) := Path.yT h.head (by show (4 : Int) ≠ 2 ∧ (4 : Int) ≠ 3 ∧ (4 : Int) ≠ 7; decide)
      have h2 := hcat ks (b + 1) (by omega) l6 h.tail.left
      have h3 := h.tail.right
      rw [ir] at h3
      have h4 : Path C (b + 1 + ks.sz) (b + 1 + ks.sz + 1) := Path.yT h3.head (by show (4 : Int) ≠ 2 ∧ (4 : Int) ≠ 3 ∧ (4 : Int) ≠ 7; decide)
      rw [show b + (ks.sz + 2) = b + 1 + ks.sz + 1 by omega]
      exact h1.trans (h2.trans h4)
    · have yK : ks.len = 0 := by omega
      have := bj.len_nil yK
      subst this
      rw [if_neg q6, if_neg q5]
      exact .refl _
theorem yZ {code:List aC} {I:Nat→Prop} (hI:∀u i,I u→code[u]?=some i→∀v∈bB u i,I v.toNat):∀(f:Nat) (seen:List Bool) (cS:List Int),(∀v∈cS,I v.toNat)→(∀u:Nat,seen[u]?=some true→I u)→∀u:Nat,(y0 code f seen cS)[u]?=some true→I u
 |0,seen,cS,_,h2,u,h=>h2 u h
 |f+1,seen,[],_,h2,u,h=>h2 u h
 |f+1,seen,v::cS,h1,h2,u,h=>by
  have hv:=h1 v (List.mem_cons_self ..);have hs:∀w∈cS,I w.toNat:=fun w hw=>h1 w (List.mem_cons_of_mem _ hw);unfold y0 at h
  split at h
  ·split at h
   ·rename_i i hi;refine yZ hI f _ _ (fun w hw=>?_) (fun w hw=>?_) u h
    ·rcases List.mem_append.1 hw with hw|hw
     ·exact hI _ i hv hi w (List.mem_reverse.1 hw)
     ·exact hs w hw
    ·by_cases he:v.toNat=w
     ·rw[←he];exact hv
     ·rw[List.getElem?_set_ne he] at hw;exact h2 w hw
   ·exact h2 u h
  ·exact yZ hI f _ _ hs h2 u h
theorem Bd {code:List aC} {start:Int} (hcl:iN code) (df:0≤start∧start<(code.length:Int)) {u v:Nat} (p:Path code u v):(cu code start)[u]?=some true→(cu code start)[v]?=some true:=by
 obtain⟨ha,_,_,_⟩:=vP hcl df
 induction p with
 |refl=>exact id
 |@step u v w i h hn _ ih=>
  intro hu;refine ih ?_
  rcases ha u i hu h _ hn with hs|hs
  ·exact dp.2 hs
  ·cases hs
theorem vO {code:List aC} {s:Nat} (hcl:iN code) (hs:s<code.length):(cu code (s:Nat))[s]?=some true:=by
 obtain⟨_,_,_,hd⟩:=vP (start:=((s:Nat):Int)) hcl ⟨by omega,by omega⟩
 rcases hd with hd|hd
 ·exact dp.2 hd
 ·cases hd
mutual
theorem Tr.Mw:∀t:Tr,True
 | .mk _ _=>trivial
theorem bj.Mw:∀t:bj,True
 | .nil=>trivial
 | .cons _ _=>trivial
end
theorem CK {n:cg} {g:Int} (h:(eX n g).2=true) (h2:n.op=2):eY n.rs=true:=by
 unfold eX at h
 split at h
 ·cases h
 ·rw[if_neg (show¬(n.op=1∨n.op=7∨n.op=8) by omega)] at h;have h:(n.kids==0 &&eY n.rs)=true:=h;rw[Bool.and_eq_true] at h;exact h.2
theorem Ad {l:List cg} {h:Nat→Nat→Option (Nat×Nat)} (ih:∀at_ g r,h at_ g=some r→at_≤r.1∧∀j n,at_≤j→j<r.1→l[j]?=some n→n.op=2→eY n.rs=true):∀k at_ g r,jj h k at_ g=some r→at_≤r.1∧∀j n,at_≤j→j<r.1→l[j]?=some n→n.op=2→eY n.rs=true
 |0,at_,g,r,e=>by
  simp only[jj,Option.some.injEq] at e;subst e;exact⟨Nat.le_refl _,fun j n h1 h2=>by simp only at h2;omega⟩
 |k+1,at_,g,r,e=>by
  unfold jj at e
  cases hq:h at_ g with
  |none=>rw[hq] at e;cases e
  |some q=>
   rw[hq] at e;obtain⟨t1,t2⟩:=ih _ _ _ hq;obtain⟨u1,u2⟩:=Ad ih k _ _ _ e;refine⟨Nat.le_trans t1 u1,fun j n h1 h2 hj ho=>?_⟩
   by_cases Tc:j<q.1
   ·exact t2 j n h1 Tc hj ho
   ·exact u2 j n (by omega) h2 hj ho
theorem Dd {l:List cg}:∀f at_ g r,hO l f at_ g=some r→at_≤r.1∧∀j n,at_≤j→j<r.1→l[j]?=some n→n.op=2→eY n.rs=true
 |0,_,_,_,e=>by simp[hO] at e
 |f+1,at_,g,r,e=>by
  unfold hO at e
  cases hn:l[at_]? with
  |none=>rw[hn] at e;cases e
  |some n=>
   rw[hn] at e;simp only at e
   split at e
   ·rename_i hs;obtain⟨u1,u2⟩:=Ad (Dd f) _ _ _ _ e;refine⟨by omega,fun j m h1 h2 hj ho=>?_⟩
    by_cases Tf:j=at_
    ·subst Tf;rw[hn] at hj;cases hj;exact CK hs ho
    ·exact u2 j m (by omega) h2 hj ho
   ·cases e
theorem CS {l:List cg} (h:dq l=true):EM l:=by
 unfold dq at h;simp only[Bool.and_eq_true] at h;obtain⟨_,h⟩:=h
 split at h
 ·rename_i r hr;rw[decide_eq_true_eq] at h;obtain⟨_,h2⟩:=Dd _ _ _ _ hr;intro n hn ho;obtain⟨j,hj⟩:=List.getElem?_of_mem hn;exact h2 j n (Nat.zero_le _) (by rw[h];exact aR hj) hj ho
 ·cases h
structure Ip (n0 r0:Nat) (C:List aC) (B:List Int) (k:Nat):Prop where
 bl:B.length=k
 fs:0<k→B[0]?=some ((n0:Nat):Int)
 el:∀j,j<k→∃(t:Tr) (b:Nat),t.ok∧EM t.flat∧B[j]?=some (b:Int)∧n0≤b∧(∀b':Int,B[j+1]?=some b'→b'=((b+t.sz+3:Nat):Int))∧(j+1=k→n0+C.length=b+t.sz+3)∧∃pre post,C=pre++bK t b (r0+j)++post∧n0+pre.length=b
 al:∀i q,C[i]?=some q→∃j,j<k∧∃(t:Tr) (b:Nat),B[j]?=some (b:Int)∧t.ok∧EM t.flat∧b≤n0+i∧n0+i<b+t.sz+3∧b+t.sz+3≤n0+C.length∧q∈bK t b (r0+j)∧(bK t b (r0+j))[n0+i-b]?=some q
theorem rH:∀(ls:List (List cg)) (r:Nat) (c:List aC) (s:List Int),(dG ls r c s).e=0→∃C B,(dG ls r c s).code=c++C∧(dG ls r c s).av=s++B∧Ip c.length r C B ls.length
 |[],r,c,s,h=>by
  rw[lX];exact⟨[],[],by simp,by simp,rfl,fun h=>by simp at h,fun j hj=>by simp at hj,fun i q hi=>by simp at hi⟩
 |l::ls,r,c,s,h=>by
  rw[dG] at h⊢
  by_cases hr:dq l=false
  ·rw[if_pos hr] at h;cases h
  rw[if_neg hr] at h⊢;rw[Bool.not_eq_false] at hr
  by_cases hb:400<c.length+min (bD l).sz 401+3
  ·rw[if_pos hb] at h;cases h
  rw[if_neg hb] at h⊢;obtain⟨t1,t2⟩:=l_ hr;have mw:EM (bD l).flat:=by rw[t2];exact CS hr
  have hlen:=gP (b:=c.length) (r:=r) t1;obtain⟨C,B,h1,h2,h3⟩:=rH ls (r+1) _ _ h;rw[List.length_append,hlen] at h3;refine⟨bK (bD l) c.length r++C,((c.length:Nat):Int)::B,by rw[h1,List.append_assoc],by rw[h2,List.append_assoc];rfl,by simp[h3.bl],fun _=>rfl,fun j hj=>?_,fun i q hi=>?_⟩
  ·cases j with
   |zero=>
    refine⟨bD l,c.length,t1,mw,rfl,Nat.le_refl _,fun b' dW=>?_,fun HP=>?_,[],C,by simp,by simp⟩
    ·simp only[Nat.zero_add,List.getElem?_cons_succ] at dW;have hB:=h3.bl;have hlt:=aR dW;rw[h3.fs (by omega)] at dW;cases dW
     congr 1
    ·simp only[List.length_cons] at HP;have IE:ls.length=0:=by omega
     have hC:C=[]:=by
      cases hc:C with
      |nil=>rfl
      |cons q C'=>
       obtain⟨j,hj,_⟩:=h3.al 0 q (by rw[hc];rfl);omega
     rw[hC,List.append_nil,hlen];omega
   |succ j=>
    simp only[List.length_cons] at hj;obtain⟨t,b,q1,q2,q3,q4,q5,q6,pre,post,q7,q8⟩:=h3.el j (by omega);refine⟨t,b,q1,q2,q3,by omega,q5,fun HP=>?_,bK (bD l) c.length r++pre,post,?_,?_⟩
    ·simp only[List.length_cons] at HP;have:=q6 (by omega);rw[List.length_append,hlen];omega
    ·rw[q7,show r+1+j=r+(j+1) by omega];simp only[List.append_assoc]
    ·rw[List.length_append,hlen];omega
  ·by_cases hil:i<(bK (bD l) c.length r).length
   ·rw[List.getElem?_append_left hil] at hi;refine⟨0,by simp,bD l,c.length,rfl,t1,mw,by omega,by omega,by rw[List.length_append,hlen];omega,List.mem_of_getElem? hi,?_⟩;rw[show c.length+i-c.length=i by omega];exact hi
   ·rw[List.getElem?_append_right (by omega)] at hi;obtain⟨j,q1,t,b,q2,q3,q4,q5,q6,q7,q8,q9⟩:=h3.al _ q hi;rw[hlen] at q5 q6 q9 hil;refine⟨j+1,by simp only[List.length_cons];omega,t,b,q2,q3,q4,by omega,by omega,by rw[List.length_append,hlen];omega,by rw[show r+(j+1)=r+1+j by omega];exact q8,?_⟩;rw[show r+(j+1)=r+1+j by omega,show c.length+i-b=c.length+((bD l).sz+3)+(i-((bD l).sz+3))-b by omega];exact q9
theorem BM {lo hi u:Nat} {i:aC} (h:c_ lo hi i) (h1:lo≤u+1) (h2:u+1≤hi):∀v∈bB u i,(lo:Int)≤v∧v≤hi:=by
 intro v hv;unfold bB at hv
 rcases h with⟨a,_⟩|⟨a,_,c,d⟩|⟨a,_,_,d⟩|⟨a,_⟩|⟨a,_⟩
 ·rw[if_neg (by omega),if_neg (by omega),if_neg (by omega)] at hv;simp only[List.mem_cons,List.not_mem_nil,or_false] at hv;omega
 ·rw[if_pos a] at hv;simp only[List.mem_cons,List.not_mem_nil,or_false] at hv
  rcases hv with rfl|rfl<;>omega
 ·rw[if_neg (by omega),if_pos a] at hv;simp only[List.mem_cons,List.not_mem_nil,or_false] at hv;omega
 ·rw[if_neg (by omega),if_neg (by omega),if_neg (by omega)] at hv;simp only[List.mem_cons,List.not_mem_nil,or_false] at hv;omega
 ·rw[if_neg (by omega),if_neg (by omega),if_neg (by omega)] at hv;simp only[List.mem_cons,List.not_mem_nil,or_false] at hv;omega
theorem wZ {lo hi n ns pc:Nat} {i:aC} (h:c_ lo hi i) (h1:hi<n) (h2:pc+1<n):cT n ns pc i=true:=by
 have GF:∀v:Int,(lo:Int)≤v→v≤hi→qY v n=true:=fun v a b=>dN.2 ⟨by omega,by omega⟩;have hd:decide (((pc+1:Nat):Int)<n)=true:=by rw[decide_eq_true_eq];omega
 unfold cT
 rcases h with⟨a,b,c,d⟩|⟨a,b,c,d⟩|⟨a,b,c,d⟩|⟨a,b,c,d⟩|⟨a,b,c,d⟩
 ·rw[if_pos a,hd,b,c,d];rfl
 ·rw[if_neg (by omega),if_pos a,b,GF _ c.1 c.2,GF _ d.1 d.2];rfl
 ·rw[if_neg (by omega),if_neg (by omega),if_pos a,b,c,GF _ d.1 d.2];rfl
 ·rw[if_neg (by omega),if_neg (by omega),if_neg (by omega),if_pos a,b,c,hd,dN.2 ⟨d.1,d.2⟩];rfl
 ·rw[if_neg (by omega),if_neg (by omega),if_neg (by omega),if_neg (by omega),if_pos a,b,c,hd,d];rfl
theorem np {t:Tr} {b r o:Nat} {q:aC} (h1:t.ok) (h2:EM t.flat) (h:(bK t b r)[o]?=some q):(o<t.sz+2∧c_ b (b+t.sz+2) q)∨(o=t.sz+2∧q=bX 7 (r:Nat) 0 []):=by
 have hl:=bp t (b+1) h1;have hA:bK t b r=(bX 4 0 0 []::(aF t (b+1)++[bX 4 1 0 []]))++[bX 7 (r:Nat) 0 []]:=by unfold bK;simp
 have T5:(bX 4 0 0 []::(aF t (b+1)++[bX 4 1 0 []])).length=t.sz+2:=by simp[hl]
 rw[hA] at h
 by_cases ho:o<t.sz+2
 ·rw[List.getElem?_append_left (by omega)] at h;refine .inl ⟨ho,?_⟩;have hm:=List.mem_of_getElem? h
  rcases List.mem_cons.1 hm with rfl|hm
  ·exact c_.save (by omega)
  ·rcases List.mem_append.1 hm with hm|hm
   ·exact(jQ t (b+1) h1 h2 q hm).mono (by omega) (by omega)
   ·simp only[List.mem_cons,List.not_mem_nil,or_false] at hm;subst hm;exact c_.save (by omega)
 ·rw[List.getElem?_append_right (by omega),T5] at h;have h0:=aR h;simp only[List.length_cons,List.length_nil] at h0;have th:o=t.sz+2:=by omega
  refine .inr ⟨th,?_⟩;rw[th,Nat.sub_self] at h;exact(Option.some.inj h).symm
structure Ln (p:Pg) (r s e:Nat):Prop where
 st:p.av[r]?=some (s:Int)
 se:s<e
 el:e≤p.code.length
 nx:∀b':Int,p.av[r+1]?=some b'→b'=(e:Int)
 la:r+1=p.av.length→p.code.length=e
 mt:p.code[e-1]?=some (bX 7 (r:Nat) 0 [])
 fi:(pN p (r:Nat))[0]?=some (s:Int)
 lt:(pN p (r:Nat))[(pN p (r:Nat)).length-1]?=some ((e-1:Nat):Int)
theorem A8 {X:List Int} {a b:Int} (hp:X.Pairwise (·<·)) (ha:a∈X) (hb:b∈X) (h:∀v∈X,a≤v∧v≤b):X[0]?=some a∧X[X.length-1]?=some b:=by
 obtain⟨i,hi⟩:=List.getElem?_of_mem ha;obtain⟨j,hj⟩:=List.getElem?_of_mem hb;have hil:=aR hi;have jU:=aR hj
 have hlt:∀u v (x y:Int),u<v→X[u]?=some x→X[v]?=some y→x<y:=fun u v x y RE hx hy=>by
  have:=List.pairwise_iff_getElem.1 hp u v (aR hx) (aR hy) RE;have ex:X[u]'(aR hx)=x:=Option.some.inj ((List.getElem?_eq_getElem _).symm.trans hx);have ey:X[v]'(aR hy)=y:=Option.some.inj ((List.getElem?_eq_getElem _).symm.trans hy);rw[ex,ey] at this;exact this
 constructor
 ·obtain⟨x,hx⟩:∃x,X[0]?=some x:=⟨X[0]'(by omega),List.getElem?_eq_getElem _⟩
  have:=h x (List.mem_of_getElem? hx)
  by_cases h0:i=0
  ·rw[←h0];exact hi
  ·have:=hlt 0 i x a (by omega) hx hi;omega
 ·obtain⟨x,hx⟩:∃x,X[X.length-1]?=some x:=⟨X[X.length-1]'(by omega),List.getElem?_eq_getElem _⟩
  have:=h x (List.mem_of_getElem? hx)
  by_cases h0:j=X.length-1
  ·rw[←h0];exact hj
  ·have:=hlt j (X.length-1) b x (by omega) hj hx;omega
theorem yu {parts:List (List cg)} (hl:parts.length≤8) (he:(aw parts).e=0) (hcl:(aw parts).code.length≤400):
  a_ (mX (aw parts).code (aw parts).av)∧(aw parts).av.length=parts.length∧∀r,r<parts.length→∃s e,Ln (mX (aw parts).code (aw parts).av) r s e:=by
 have i_:aw parts=dG parts 0 [] []:=by unfold aw;rw[if_neg (by omega)]
 rw[i_] at he hcl⊢;obtain⟨C,B,h1,h2,h3⟩:=rH parts 0 [] [] he;simp only[List.nil_append] at h1 h2;simp only[List.length_nil] at h3;rw[h1] at hcl;rw[h1,h2];have LO:=h3.bl
 have hsh:∀pc i,C[pc]?=some i→cT C.length B.length pc i=true:=by
  intro pc i hi;obtain⟨j,q1,t,b,q2,q3,q4,q5,q6,q7,q8,q9⟩:=h3.al pc i hi;rw[Nat.zero_add] at q9
  rcases np q3 q4 q9 with⟨g1,g2⟩|⟨g1,g2⟩
  ·exact wZ g2 (by omega) (by omega)
  ·rw[g2];have:qY ((j:Nat):Int) B.length=true:=dN.2 ⟨by omega,by omega⟩;unfold cT bX;simp[this]
 have KB:iN C:=nW (p:=mX C B) hsh
 have DF:∀r,r<parts.length→∃s e:Nat,B[r]?=some (s:Int)∧s<e∧e≤C.length∧(∀b':Int,B[r+1]?=some b'→b'=(e:Int))∧(r+1=parts.length→C.length=e)∧C[e-1]?=some (bX 7 (r:Nat) 0 [])∧(∀u:Nat,(cu C (s:Nat))[u]?=some true→s≤u∧u<e)∧(cu C (s:Nat))[s]?=some true∧(cu C (s:Nat))[e-1]?=some true∧∀u i,s≤u→u<e→C[u]?=some i→i.op=7→i.x=(r:Int):=by
  intro r hr;obtain⟨t,b,q1,q2,q3,q4,q5,q6,pre,post,q7,q8⟩:=h3.el r hr;rw[Nat.zero_add] at q6 q8;rw[Nat.zero_add] at q7;have rZ:=gP (b:=b) (r:=r) q1;have IQ:C.length=b+(t.sz+3)+post.length:=by rw[q7,List.length_append,List.length_append,rZ,q8]
  have iI:∀u,b≤u→u<b+t.sz+3→C[u]?=(bK t b r)[u-b]?:=fun u g1 g2=>by
   rw[q7,List.append_assoc,List.getElem?_append_right (by omega),q8,List.getElem?_append_left (by omega)]
  have jK:fw C b (bK t b r):=⟨post,by rw[q7,List.append_assoc,←q8,List.drop_left]⟩
  have GF:∀u:Nat,(cu C (b:Nat))[u]?=some true→b≤u∧u<b+t.sz+3:=by
   unfold cu;refine yZ (I:=fun u=>b≤u∧u<b+t.sz+3) (fun u i hu hi v hv=>?_) _ _ _ (fun v hv=>?_) (fun u hu=>?_)
   ·rw[iI u hu.1 hu.2] at hi
    rcases np q1 q2 hi with⟨g1,g2⟩|⟨g1,g2⟩
    ·have:=BM (u:=u) g2 (by omega) (by omega) v hv;omega
    ·rw[g2] at hv;have:bB u (bX 7 (r:Nat) 0 [])=[]:=by unfold bB bX;simp
     rw[this] at hv;cases hv
   ·simp only[List.mem_cons,List.not_mem_nil,or_false] at hv;subst hv;rw[Int.toNat_natCast];omega
   ·rw[List.getElem?_replicate] at hu
    split at hu<;>cases hu
  have hs:=vO (s:=b) KB (by omega)
  have SE:C[b+t.sz+3-1]?=some (bX 7 (r:Nat) 0 []):=by
   rw[iI _ (by omega) (by omega)];unfold bK;have rQ:=bp t (b+1) q1;rw[show b+t.sz+3-1-b=(t.sz+1)+1 by omega,List.getElem?_cons_succ,List.getElem?_append_right (by omega),rQ,show t.sz+1-t.sz=1 by omega]
   rfl
  have JN:Path C b (b+t.sz+3-1):=by
   unfold bK at jK;have p1:Path C b (b+1):=Path.yT jK.head (by show(4:Int)≠2∧(4:Int)≠3∧(4:Int)≠7;decide);have p2:=B1 (C:=C) _ t (Nat.le_refl _) (b+1) q1 jK.tail.left;have h4:=jK.tail.right;rw[bp t _ q1] at h4;have p3:Path C (b+1+t.sz) (b+1+t.sz+1):=Path.yT h4.head (by show(4:Int)≠2∧(4:Int)≠3∧(4:Int)≠7;decide);rw[show b+t.sz+3-1=b+1+t.sz+1 by omega];exact p1.trans (p2.trans p3)
  refine⟨b,b+t.sz+3,q3,by omega,by omega,fun b' dW=>q5 b' dW,q6,SE,GF,hs,Bd KB ⟨by omega,by omega⟩ JN hs,fun u i g1 g2 hi ho=>?_⟩;rw[iI u g1 g2] at hi
  rcases np q1 q2 hi with⟨_,g3⟩|⟨_,g3⟩
  ·rcases g3 with⟨a,_⟩|⟨a,_⟩|⟨a,_⟩|⟨a,_⟩|⟨a,_⟩<;>omega
  ·rw[g3];rfl
 have hR:a_ (mX C B):=by
  refine⟨hcl,by show B.length≤8;omega,hsh,fun v hv=>?_,fun r s hs pc i DK JF hi ho=>?_⟩
  ·obtain⟨r,hr⟩:=List.getElem?_of_mem (show v∈B from hv);obtain⟨s,e,g1,g2,g3,_⟩:=DF r (by rw[←LO];exact aR hr);rw[g1] at hr;cases hr;show(0:Int)≤(s:Int)∧(s:Int)<(C.length:Int);omega
  ·have hs:B[r]?=some s:=hs;obtain⟨s',e,g1,g2,g3,g4,g5,g6,g7,g8,g9,g10⟩:=DF r (by rw[←LO];exact aR hs);rw[g1] at hs;cases hs;obtain⟨k1,k2⟩:=g7 pc JF;exact g10 pc i k1 k2 hi ho
 refine⟨hR,by rw[LO],fun r hr=>?_⟩;obtain⟨s,e,g1,g2,g3,g4,g5,g6,g7,g8,g9,g10⟩:=DF r hr
 have Qb:pN (mX C B) (r:Nat)=pV 0 (cu C (s:Nat)):=by
  unfold pN;have hi:qY ((r:Nat):Int) (mX C B).av.length=true:=dN.2 ⟨by omega,by show((r:Nat):Int)<(B.length:Nat);omega⟩;rw[mG hR,hi]
  have BD:(mX C B).av.getD ((r:Nat):Int).toNat 0=(s:Int):=by
   rw[Int.toNat_natCast,List.getD_eq_getElem?_getD];show(B[r]?).getD 0=_;rw[g1];rfl
  rw[BD];rfl
 have GJ:=A8 (sK (cu C (s:Nat)) 0) (a:=(s:Int)) (b:=((e-1:Nat):Int)) (jg.2 ⟨s,g8,by rw[Nat.zero_add]⟩) (jg.2 ⟨e-1,g9,by rw[Nat.zero_add]⟩) (fun v hv=>by
  obtain⟨k,k1,k2⟩:=jg.1 hv;have:=g7 k k1
  omega)
 exact⟨s,e,g1,g2,g3,fun b' dW=>g4 b' dW,fun iH=>g5 (by rw[←LO];exact iH),g6,by rw[Qb];exact GJ.1,by rw[Qb];exact GJ.2⟩
theorem tA:∀(ls:List (List cg)) (r:Nat) (c:List aC) (s:List Int),(dG ls r c s).e≠0→(dG ls r c s).code=[]∧(dG ls r c s).av=[]
 |[],r,c,s,h=>by rw[nT] at h;exact absurd rfl h
 |l::ls,r,c,s,h=>by
  rw[dG] at h⊢
  split
  ·exact⟨rfl,rfl⟩
  ·rename_i h1;rw[if_neg h1] at h
   split
   ·exact⟨rfl,rfl⟩
   ·rename_i h2;rw[if_neg h2] at h;exact tA ls _ _ _ h
theorem oI {ls:List (List cg)} (h:(aw ls).e≠0):(aw ls).code=[]∧(aw ls).av=[]:=by
 unfold aw at h⊢
 split
 ·exact⟨rfl,rfl⟩
 ·rename_i h1;rw[if_neg h1] at h;exact tA _ _ _ _ h
theorem x6:a_ (mX [] []):=⟨by simp[mX],by simp[mX],fun pc i h=>by simp[mX] at h,fun v h=>by simp[mX] at h,fun r s h=>by simp[mX] at h⟩
theorem sk {ls:List (List cg)} (hl:ls.length≤8) (hcl:(aw ls).code.length≤400):a_ (mX (aw ls).code (aw ls).av):=by
 by_cases he:(aw ls).e=0
 ·exact(yu hl he hcl).1
 ·rw[(oI he).1,(oI he).2];exact x6
def eE (fr:Go.V.Fr) (k:Nat):Go.V.D:=Go.V.nth .bh fr.loc k
inductive PR (α:Type) where
 |ok (a:α) (i:Nat)
 |er (e:Int) (w:Nat)
def wm:List Rg→Int→List Rg
 |[],n=>[(n,1114111)]
 |q::m,n=>(n,bz .i32 (q.1-1))::wm m (bz .i32 (q.2+1))
noncomputable def oO (l:List Rg):List Rg:=cV (wm (cV l) 0)
theorem wk:∀(l:List Rg) (n:Int),(wm l n).length=l.length+1
 |[],_=>rfl
 |q::m,n=>by simp only[wm,List.length_cons,wk m]
theorem uh {s0:St} {x:D} {l:List Rg} (hx:V.Rows s0 2 x (l.map au)) (hl:l.length≤131072):Ev pv 132 [x] s0 (bf (oO l)) s0∧(oO l).length≤4*l.length+2:=by
 suffices hg:∃d,Ev pv 132 [x] s0 d s0∧d=bf (oO l)∧(oO l).length≤4*l.length+2 by
  obtain⟨d,h1,rfl,h2⟩:=hg;exact⟨h1,h2⟩
 have hN:oO l=cV (wm (cV l) 0):=rfl;refine Ev.He rfl KW rfl rfl rfl ?_;refine zE ?_;obtain⟨cD,hF,hH⟩:=ri s0;generalize ag .ro s0=S at*;have hx:=Arg.of hx cD;refine zQ 12 ?_;obtain⟨aG,Cm,_⟩:=mg (hx.rows hH) (by omega);have hla:=(gQ (cV l)).arg s0.bs.length S;generalize cV l=m at*;refine zQ 4 ?_;refine qv (aG) ?_;refine qn ?_;simp only[List.length_map];refine zQ 2 ?_;have hH:=hH.e_ 2;refine zQ 1 ?_;refine ah.loop (fun mm fr st=>∃(i:Nat) (n:Int) (o:D) (out:List Rg),fr.clean=⟨11,[eE fr 0,eE fr 1,eE fr 2,o,.int .i32 n,eE fr 5,eE fr 6,eE fr 7,bf m,.int .i64 (m.length:Nat),.int .i64 (i:Nat)],[]⟩∧Has s0.bs.length S st [.aI o 2 (out.map au)]∧(i+mm=m.length)∧(out.length=i)∧(out++wm (m.drop i) n=wm m 0)) (m.length) ?_ ?_
 ·exact⟨0,0,.nul,[],rfl,hH,by omega,rfl,rfl⟩
 rintro mm fr st ⟨i,n,o,out,hfr,hH,hi,ho,hn⟩;rw[hfr];clear hfr;generalize eE fr=ee;clear fr;refine zQ 5 ?_;refine zP (fun h1=>?_) fun h1=>?_
 ·refine zQ 1 ?_
  obtain⟨q,hq⟩:∃q,m[i]?=some q:=⟨m[i]'(by omega),List.getElem?_eq_getElem _⟩
  have hr:=fX hq
  have sa:m.drop i=q::m.drop (i+1):=by
   have:=List.drop_eq_getElem_cons (l:=m) (i:=i) (by omega);rw[this];congr 1;rw[List.getElem?_eq_getElem (by omega)] at hq;exact Option.some.inj hq
  rw[sa] at hn;refine zQ 4 ?_;refine qr fun PY J8=>?_;refine ab.eB rfl (ev rfl) (by assumption) rfl (aa rfl _) ?_;refine qa hH fun k6 st HM hH=>?_;refine qS hH aS fun st hH=>?_;dsimp only[u2,u1,u3,u4,setMany,u5,u6,D.cells,Nat.reduceAdd,au] at hH;refine zQ 7 ?_;refine ab.oM (z:=bz .i32 (q.1-1)) rfl (ev rfl) (ev rfl) rfl (aa rfl _) ?_;refine ab.gm (qs:=[(0,_),(1,_)]) rfl rfl rfl rfl ⟨rfl,(ev rfl),(by rfl),rfl,(ev rfl),(by rfl),trivial⟩ (by intro q hq;simp only[List.mem_cons,List.not_mem_nil,or_false] at hq;rcases hq with rfl|rfl<;>exact⟨rfl,by exact Nat.le_of_ble_eq_true rfl⟩) (by show List.foldl _ [_,_] _=_;dsimp only[List.foldl_cons,List.foldl_nil,u2,u1]<;>rfl) (aa rfl _) ?_;refine qh (s:=2) (vs:=[_]) hH fun k20 st NQ hH=>?_;refine ab.bT (s:=2) hH rfl (ev rfl) (ev rfl) (by exact cU) (by exact hH.rows (by exact aS)) rfl rfl rfl rfl rfl rfl rfl ⟨(Nat.le_of_ble_eq_true rfl),(Nat.le_of_ble_eq_true rfl)⟩ (fun _=>(aa rfl _)) (by simp only[List.length_cons,List.length_nil,List.length_map]<;>omega) (by exact .inl hF) (fun Ui st hH=>?_);dsimp only[u2,u1,u3,u4,setMany,u5,u6,D.cells,Nat.reduceAdd,au] at hH;refine zQ 5 ?_;refine ab.lD (z:=bz .i32 (q.2+1)) rfl (ev rfl) (ev rfl) rfl (aa rfl _) ?_;refine zQ 6 ?_;exact⟨mm-1,by omega,⟨i+1,_,_,out++[(n,bz .i32 (q.1-1))],rfl,(by rw[List.map_append];exact hH.drop 2),by omega,by simp[ho],(by rw[←hn,List.append_assoc];rfl)⟩⟩
 ·refine zQ 1 ?_;have wV:m.drop i=[]:=List.drop_eq_nil_of_le (by omega);rw[wV] at hn;have hn:out++[(n,1114111)]=wm m 0:=hn;refine zQ 4 ?_;refine ab.gm (qs:=[(0,_),(1,_)]) rfl rfl rfl rfl ⟨rfl,(ev rfl),(by rfl),rfl,(ev rfl),(by rfl),trivial⟩ (by intro q hq;simp only[List.mem_cons,List.not_mem_nil,or_false] at hq;rcases hq with rfl|rfl<;>exact⟨rfl,by exact Nat.le_of_ble_eq_true rfl⟩) (by show List.foldl _ [_,_] _=_;dsimp only[List.foldl_cons,List.foldl_nil,u2,u1]<;>rfl) (aa rfl _) ?_;refine qh (s:=2) (vs:=[_]) hH fun k29 st S6 hH=>?_;refine ab.bT (s:=2) hH rfl (ev rfl) (ev rfl) (by exact bZ) (by exact hH.rows (by exact aS)) rfl rfl rfl rfl rfl rfl rfl ⟨(Nat.le_of_ble_eq_true rfl),(Nat.le_of_ble_eq_true rfl)⟩ (fun _=>(aa rfl _)) (by simp only[List.length_cons,List.length_nil,List.length_map]<;>omega) (by exact .inl hF) (fun Uh st hH=>?_);dsimp only[u2,u1,u3,u4,setMany,u5,u6,D.cells,Nat.reduceAdd,au] at hH;obtain⟨aG,pa,_⟩:=mg (l:=out++[(n,1114111)]) (by rw[List.map_append];exact hH.rows bZ) (by simp;omega);refine qv aG ?_;refine zQ 2 ?_;rw[hn] at pa⊢;refine ah.ret ⟨rx,_,_,rfl,rl cD hH (rfl),?_⟩;rw[wk] at pa;exact⟨by rw[hN];rfl,by rw[hN];omega⟩
noncomputable def BV:List Rg:=oO [(10,10)]
theorem F9 {s0:St}:Ev pv 124 [] s0 (bf BV) s0∧BV.length≤6:=by
 have hl:(oO [(10,10)]).length≤4*1+2:=(uh (s0:=s0) (gQ [(10,10)]|>.rows s0) (by simp)).2;refine⟨?_,hl⟩;unfold BV;refine Ev.o9 rfl K2 rfl rfl rfl ?_;refine zE ?_;obtain⟨cD,hF,hH⟩:=ri s0;generalize ag .ro s0=S at*;refine zQ 6 ?_;refine ab.gm (qs:=[(0,_),(1,_)]) rfl rfl rfl rfl ⟨rfl,(ev rfl),(by rfl),rfl,(ev rfl),(by rfl),trivial⟩ (by intro q hq;simp only[List.mem_cons,List.not_mem_nil,or_false] at hq;rcases hq with rfl|rfl<;>exact⟨rfl,by exact Nat.le_of_ble_eq_true rfl⟩) (by show List.foldl _ [_,_] _=_;dsimp only[List.foldl_cons,List.foldl_nil,u2,u1]<;>rfl) (aa rfl _) ?_;refine qh (s:=2) (vs:=[_]) hH fun k2 st hk2 hH=>?_;obtain⟨aG,_⟩:=uh (l:=[(10,10)]) (hH.rows aS) (by simp);refine qv aG ?_;refine zQ 2 ?_;refine ah.ret ⟨rx,_,rfl,rl cD hH (rfl)⟩
def oA (a b:List UInt8):Bool:=decide ((a.length:Int)<b.length)||(((a.length:Int)==b.length) &&Op.bytesLess a b)
theorem Dt {s0:St} (a b:List UInt8):Ev pv 127 [.str a,.str b] s0 (.bool (oA a b)) s0:=by
 unfold oA;refine Ev.o9 rfl K0 rfl rfl rfl ?_;refine zE ?_;obtain⟨cD,hF,hH⟩:=ri s0;generalize ag .ro s0=S at*;refine zQ 5 ?_;refine ah.mH 4 (.bool (decide ((a.length:Int)<b.length)||(((a.length:Int)==b.length) &&Op.bytesLess a b))) [] ?_ (fun ff tmp=>?_)
 ·refine qm ?_;refine ab.rU rfl rfl rfl (aa rfl _) ?_;refine qm ?_;refine ab.rU rfl rfl rfl (aa rfl _) ?_;refine zQ 2 ?_;refine ab.two 10 rfl (fun ly=>?_) (fun ly=>?_)
  ·refine zQ 12 ?_;refine ab.nil (aT ?_);refine zG ?_
   all_goals(simp_all;done)
  ·refine zQ 1 ?_;refine ab.rU (ax rfl rfl rfl ly) rfl rfl (aa rfl _) ?_;refine zQ 1 ?_;refine ab.rU (ax rfl rfl rfl ly) rfl rfl (aa rfl _) ?_;refine zQ 2 ?_;refine ab.two 16 rfl (fun db=>?_) (fun db=>?_)
   ·refine zQ 3 ?_;refine ab.cz (ax rfl rfl rfl ly) rfl db (aa rfl _) ?_;refine zQ 2 ?_;refine ab.nil (aT ?_);refine zG ?_
    all_goals(simp_all;done)
   ·refine zQ 3 ?_;refine ab.b_ (ax rfl rfl rfl ly) rfl db (aa rfl _) ?_;refine zQ 2 ?_;refine ab.nil (aT ?_);refine zG ?_
    all_goals(simp_all;done)
 dsimp only[aX,List.foldl,nth,u2,u1];refine ah.ret ⟨rx,_,rfl,rl cD hH (rfl)⟩
def AV:List UInt8→Int→Int
 |[],n=>n
 |c::l,n=>AV l (bz .i64 (bz .i64 (10*n)+bz .i64 (bz .u8 ((c.toNat:Nat)-48))))
def gX (b:List UInt8):Int×Bool:=if 2<b.length then(0,false) else(AV b 0,decide (AV b 0≤30))
theorem kQ {s0:St} (b:List UInt8) (hb:b.length≤1048576):Ev pv 128 [.str b] s0 (.tup [.int .i64 (gX b).1,.bool (gX b).2]) s0:=by
 suffices hg:∃d,Ev pv 128 [.str b] s0 d s0∧d=.tup [.int .i64 (gX b).1,.bool (gX b).2] by
  obtain⟨d,h1,rfl⟩:=hg;exact h1
 unfold gX;refine Ev.He rfl KZ rfl rfl rfl ?_;refine zE ?_;obtain⟨cD,hF,hH⟩:=ri s0;generalize ag .ro s0=S at*;refine zQ 9 ?_;refine ab.rU rfl rfl rfl (by dsimp only[Fr.put,u1,u2]<;>rfl) ?_;refine zQ 2 ?_;refine zP (fun h0=>?_) fun h0=>?_
 ·rw[if_pos (by omega)];refine zQ 5 ?_;refine ah.ret ⟨rx,_,_,rfl,rl cD hH (rfl),?_⟩
  rfl
 ·rw[if_neg (by omega)];refine zQ 9 ?_;refine ab.rU rfl rfl rfl (by dsimp only[Fr.put,u1,u2]<;>rfl) ?_;refine zQ 3 ?_;refine ah.loop (fun mm fr st=>∃(i:Nat) (n:Int),fr.clean=⟨12,[.str b,eE fr 1,eE fr 2,eE fr 3,.int .i64 n,eE fr 5,eE fr 6,eE fr 7,eE fr 8,eE fr 9,.int .i64 (b.length:Nat),.int .i64 (i:Nat)],[]⟩∧Has s0.bs.length S st []∧(i+mm=b.length)∧(AV (b.drop i) n=AV b 0)) (b.length) ?_ ?_
  ·exact⟨0,0,rfl,hH,by omega,rfl⟩
  rintro mm fr st ⟨i,n,hfr,hH,hi,hn⟩;rw[hfr];clear hfr;generalize eE fr=ee;clear fr;refine zQ 5 ?_;refine zP (fun h1=>?_) fun h1=>?_
  ·refine zQ 1 ?_
   obtain⟨c,hc⟩:∃c,b[i]?=some c:=⟨b[i]'(by omega),List.getElem?_eq_getElem _⟩
   have sa:b.drop i=c::b.drop (i+1):=by
    have:=List.drop_eq_getElem_cons (l:=b) (i:=i) (by omega);rw[this];congr 1;rw[List.getElem?_eq_getElem (by omega)] at hc;exact Option.some.inj hc
   rw[sa] at hn;refine zQ 9 ?_;refine ab.yp (z:=bz .i64 (10*n)) rfl (ev rfl) (ev rfl) rfl (aa rfl _) ?_;refine zQ 2 ?_;refine ab.LY rfl (ev rfl) (ev rfl) rfl (by assumption) (aa rfl _) ?_;refine ab.go (d:=.int .u8 (bz .u8 ((c.toNat:Nat)-48))) (st1:=_) rfl rfl rfl (aa rfl _) ?_;refine qg ?_;refine ab.lD (z:=bz .i64 (bz .i64 (10*n)+bz .i64 (bz .u8 ((c.toNat:Nat)-48)))) rfl (ev rfl) (ev rfl) rfl (aa rfl _) ?_;refine zQ 6 ?_;exact⟨mm-1,by omega,⟨i+1,_,rfl,hH,by omega,hn⟩⟩
  ·refine zQ 1 ?_;have wV:b.drop i=[]:=List.drop_eq_nil_of_le (by omega);rw[wV] at hn;have hn:n=AV b 0:=hn;rw[←hn];refine zQ 8 ?_;refine ah.ret ⟨rx,_,_,rfl,rl cD hH (rfl),?_⟩
   rfl
def et {α:Type} (R:PR α) (aN:List Int) (s':dP):Prop:=∃e w,R=.er e w∧e≠0∧s'.e=e∧s'.w=aN.getD w 0
theorem et.ne {α:Type} {R:PR α} {aN:List Int} {s':dP} (h:et R aN s'):s'.e≠0:=by
 obtain⟨e,w,_,h1,h2,_⟩:=h;rw[h2];exact h1
theorem et.map {α β:Type} {R:PR α} {R':PR β} {aN:List Int} {s':dP} (h:et R aN s') (hR:∀e w,R=.er e w→R'=.er e w):et R' aN s':=by
 obtain⟨e,w,h0,h1,h2,h3⟩:=h;exact⟨e,w,hR e w h0,h1,h2,h3⟩
theorem gi {α:Type} {R:PR α} {aN:List Int} {s:dP} {i:Nat} {e:Int} (he:s.e=0) (h:e≠0) (hR:R=.er e i):et R aN (iP aN s i e)∧(iP aN s i e).i=s.i∧(iP aN s i e).o=s.o∧(iP aN s i e).g=s.g:=by
 unfold iP;rw[if_pos he];exact⟨⟨e,i,hR,h,rfl,rfl⟩,rfl,rfl,rfl⟩
def fR (gs:List (Nat×Nat)) (i:Nat):List Int:=(gs.map fun g=>((g.1:Nat):Int)).drop i
theorem rD {N k:Nat} {S s0:St} {H:List bm} {gs:List (Nat×Nat)} {bw:D} {s:dP} (uM:gs.length≤120) (hi:s.i≤gs.length) (hne:gs≠[]) (hH:Has N S s0 (.box k (.mem 0 false (aL gs bw s))::H)):
  ∃d af,Ev pv 126 [.ptr k 0 0] s0 d af∧d=.tup [.str (digS (fR gs s.i) []).1,.bool (decide (0<(digS (fR gs s.i) []).2))]∧(digS (fR gs s.i) []).1.length≤120∧s.i+(digS (fR gs s.i) []).2≤gs.length∧Has N S af (.box k (.mem 0 false (aL gs bw {s with i:=s.i+(digS (fR gs s.i) []).2}))::H):=by
 have hb:=hH.at aS;have hw:=jt (cs:=[.int .i64 0]) hH (hH.ge aS).1 (.inr rfl);have hl:=xe (fR gs s.i) [];unfold fR at*;obtain⟨h1,h2⟩:=hl;simp only[List.length_drop,List.length_map,List.length_nil] at h1 h2;refine⟨_,_,Ev.jW rfl ?_,rfl,by omega,by omega,hH.CM (aA:=0) aS⟩
 have hd:decide ((gs.map fun g=>((g.1:Nat):Int))≠[]∧(0:Int)≤(s.i:Nat)∧((s.i:Nat):Int).toNat≤(gs.map fun g=>((g.1:Nat):Int)).length∧(gs.map fun g=>((g.1:Nat):Int)).length<1099511627776)=true:=by
  rw[decide_eq_true];refine⟨by simpa using hne,by omega,by simp;omega,by simp;omega⟩
 show BX [.ptr k 0 0] s0=_;simp only[BX,St.mem_of hb];show(match jA ((gs.map aU).map (j7 2)) with|some rs=>F_ s0 k 0 0 rs (s.i:Nat)|none=>none)=_;rw[oq];simp only[F_,hd];have hwr:=lH (cs:=[.int .i64 ((s.i+(digS ((gs.map fun g=>((g.1:Nat):Int)).drop s.i) []).2:Nat))]) (off:=2) hb (by show 2+1≤7;omega) hw;simp only[Int.toNat_natCast,Nat.zero_add];rw[hwr]
 rfl
noncomputable def lF (gs:List (Nat×Nat)) (f:Nat):PR (List Rg×Bool):=
 match gs[f+1]? with
 |none=>.er 4 f
 |some g=>
  if B7 gs (f+1)=true then .er 4 (f+1)
  else if((g.1:Nat):Int)=110 then .ok (cV [(10,10)],true) (f+2)
  else if((g.1:Nat):Int)=116 then .ok (cV [(9,9)],true) (f+2)
  else if((g.1:Nat):Int)=114 then .ok (cV [(13,13)],true) (f+2)
  else if((g.1:Nat):Int)=100 then .ok (cV [(48,57)],false) (f+2)
  else if((g.1:Nat):Int)=115 then .ok (cV [(9,10),(13,13),(32,32)],false) (f+2)
  else if((g.1:Nat):Int)=119 then .ok (cV [(48,57),(65,90),(95,95),(97,122)],false) (f+2)
  else if(33≤((g.1:Nat):Int)∧((g.1:Nat):Int)≤47∨58≤((g.1:Nat):Int)∧((g.1:Nat):Int)≤64∨91≤((g.1:Nat):Int)∧((g.1:Nat):Int)≤96∨123≤((g.1:Nat):Int)∧((g.1:Nat):Int)≤126) then .ok (cV [(((g.1:Nat):Int),((g.1:Nat):Int))],true) (f+2)
  else .er 4 f
def GQ (gs:List (Nat×Nat)) (aN:List Int) (R:PR (List Rg×Bool)) (s s':dP) (d1:D) (b:Bool):Prop:=
 s'.o=s.o∧s'.g=s.g∧s.i≤s'.i∧s'.i≤gs.length∧(et R aN s'∧d1=.nul∨s'.e=0∧s.i<s'.i∧∃a,R=.ok (a,b) s'.i∧d1=bf a∧a.length≤8∧a≠[])
theorem vx {N k:Nat} {S s0:St} {H:List bm} {gs:List (Nat×Nat)} {bw:D} {aN:List Int} {s:dP} (aY:kN gs aN) (he:s.e=0) (hi:s.i<gs.length) (hH:Has N S s0 (.box k (.mem 0 false (aL gs bw s))::.aI bw 1 (aN.map az)::H)):
  ∃d af,Ev pv 123 [.ptr k 0 0] s0 d af∧∃(d1:D) (b:Bool) (s':dP),d=.tup [d1,.bool b]∧GQ gs aN (lF gs s.i) s s' d1 b∧Has N S af (.box k (.mem 0 false (aL gs bw s'))::.aI bw 1 (aN.map az)::H):=by
 have uM:=aY.gl;have gR:=aY.pl;refine Ev.ko rfl K3 rfl rfl rfl ?_;refine zE ?_;have cx:=hH;have hH:=hH.cB;have cw:(ag .rw s0).bs=s0.bs:=rfl;generalize ag .rw s0=S2 at*;have FY:Arg N S2 2 (fq gs) (gs.map aU):=Arg.pure (fun st=>dH st gs);refine zQ 22 ?_;refine qT hH aS fun st hH=>?_;dsimp only[u2,u1,u3,u4,setMany,u5,u6,D.cells,Nat.reduceAdd,aL,aU,az,au] at hH;refine zQ 12 ?_;refine qn ?_;simp only[List.length_map];refine zQ 2 ?_;refine zP (fun h0=>?_) fun h0=>?_
 ·have hv:lF gs s.i=.er 4 s.i:=by
   unfold lF;rw[List.getElem?_eq_none (by omega)]
  refine zQ 4 ?_;obtain⟨_,st,aG,rfl,hH⟩:=dX (s:={s with i:=s.i+1}) s.i 4 (by omega) hH;refine qv aG ?_;refine zQ 6 ?_;obtain⟨h1,h2,h3,h4⟩:=gi (aN:=aN) (s:={s with i:=s.i+1}) (i:=s.i) (e:=4) he (by decide) hv;refine ah.ret ⟨rx,_,_,_,rfl,ai (rfl),?_⟩;exact⟨_,_,_,rfl,⟨h3,h4,by rw[h2];simp,by rw[h2];exact hi,.inl ⟨h1,rfl⟩⟩,cx.ay cw hH⟩
 ·obtain⟨g,hg⟩:∃g,gs[s.i+1]?=some g:=⟨gs[s.i+1]'(by omega),List.getElem?_eq_getElem _⟩
  have iH:(gs.map aU)[s.i+1]?=some (aU g):=by rw[List.getElem?_map,hg];rfl
  have hlt:=aR hg;have hv:lF gs s.i=lF gs s.i:=rfl
  conv at hv=>rhs;unfold lF;simp only[hg]
  refine zQ 9 ?_;obtain⟨_,st,aG,rfl,hH⟩:=zg (s:={s with i:=s.i+1}) (s.i+1) hlt hH;refine qv aG ?_;refine zQ 1 ?_;dsimp only[aL] at hH;refine qc (fun hb=>?_) (fun hb=>?_)<;>try simp only[cs] at hb
  ·rw[if_pos hb] at hv;refine zQ 7 ?_;obtain⟨_,st,aG,rfl,hH⟩:=dX (s:={s with i:=s.i+1}) (s.i+1) 4 (by omega) hH;refine qv aG ?_;refine zQ 6 ?_;obtain⟨h1,h2,h3,h4⟩:=gi (aN:=aN) (s:={s with i:=s.i+1}) (i:=s.i+1) (e:=4) he (by decide) hv;refine ah.ret ⟨rx,_,_,_,rfl,ai (rfl),?_⟩;exact⟨_,_,_,rfl,⟨h3,h4,by rw[h2];simp,by rw[h2];exact hi,.inl ⟨h1,rfl⟩⟩,cx.ay cw hH⟩
  ·rw[if_neg (by rw[hb];simp)] at hv;refine zQ 11 ?_;refine qr fun PO JO=>?_;refine qf (fo:=0) fun Q9 Np=>?_;refine zQ 12 ?_;refine qT hH aS fun st hH=>?_;dsimp only[u2,u1,u3,u4,setMany,u5,u6,D.cells,Nat.reduceAdd,aL,aU,az,au] at hH;refine zQ 6 ?_
   have gd:∀(a:List Rg) (b:Bool),lF gs s.i=.ok (a,b) (s.i+2)→a.length≤8→a≠[]→GQ gs aN (lF gs s.i) s {s with i:=s.i+1+1} (bf a) b:=fun a b h0 h1 h2=>⟨rfl,rfl,by show s.i≤s.i+1+1;omega,by show s.i+1+1≤_;omega,.inr ⟨he,by show s.i<s.i+1+1;omega,a,h0,rfl,h1,h2⟩⟩
   have jL:∀(r:Int),0≤r→r<55296→(cV [(r,r)]).length≤8∧cV [(r,r)]≠[]:=by
    intro r h1 h2;obtain⟨_,h3,h4⟩:=mg (s0:=s0) (x:=bf [(r,r)]) (l:=[(r,r)]) (fG _ _) (by simp);exact⟨by simp at h3;omega,wB h1 h2 h4⟩
   refine zQ 6 ?_;refine zI (fun q1=>?_) fun q1=>?_
   ·rw[if_pos q1] at hv;refine zQ 2 ?_;refine qv (jc 10) ?_;refine zQ 3 ?_;refine ah.ret ⟨rx,_,_,_,rfl,ai (rfl),?_⟩;exact⟨_,_,_,rfl,gd _ _ hv (jL 10 (by decide) (by decide)).1 (jL 10 (by decide) (by decide)).2,cx.ay cw hH⟩
   ·rw[if_neg q1] at hv;refine zQ 5 ?_;refine zI (fun q2=>?_) fun q2=>?_
    ·rw[if_pos q2] at hv;refine zQ 2 ?_;refine qv (jc 9) ?_;refine zQ 3 ?_;refine ah.ret ⟨rx,_,_,_,rfl,ai (rfl),?_⟩;exact⟨_,_,_,rfl,gd _ _ hv (jL 9 (by decide) (by decide)).1 (jL 9 (by decide) (by decide)).2,cx.ay cw hH⟩
    ·rw[if_neg q2] at hv;refine zQ 5 ?_;refine zI (fun q3=>?_) fun q3=>?_
     ·rw[if_pos q3] at hv;refine zQ 2 ?_;refine qv (jc 13) ?_;refine zQ 3 ?_;refine ah.ret ⟨rx,_,_,_,rfl,ai (rfl),?_⟩;exact⟨_,_,_,rfl,gd _ _ hv (jL 13 (by decide) (by decide)).1 (jL 13 (by decide) (by decide)).2,cx.ay cw hH⟩
     ·rw[if_neg q3] at hv;refine zQ 5 ?_;refine zI (fun q4=>?_) fun q4=>?_
      ·rw[if_pos q4] at hv;refine zQ 2 ?_;refine ab.gm (qs:=[(0,_),(1,_)]) rfl rfl rfl rfl ⟨rfl,(ev rfl),(by rfl),rfl,(ev rfl),(by rfl),trivial⟩ (by intro q hq;simp only[List.mem_cons,List.not_mem_nil,or_false] at hq;rcases hq with rfl|rfl<;>exact⟨rfl,by exact Nat.le_of_ble_eq_true rfl⟩) (by show List.foldl _ [_,_] _=_;dsimp only[List.foldl_cons,List.foldl_nil,u2,u1]<;>rfl) (aa rfl _) ?_;refine qh (s:=2) (vs:=[_]) hH fun k73 st SS hH=>?_;obtain⟨aG,hl,GA⟩:=mg (l:=[(48,57)]) (hH.rows aS) (by simp);refine qv aG ?_;refine zQ 3 ?_;refine ah.ret ⟨rx,_,_,_,rfl,ai (rfl),?_⟩;exact⟨_,_,_,rfl,gd _ _ hv (by simp at hl;omega) (uB (r:=48) (by decide) (by decide) ⟨_,List.mem_cons_self ..,by decide,by decide⟩ GA),cx.ay cw (hH.drop 1)⟩
      ·rw[if_neg q4] at hv;refine zQ 5 ?_;refine zI (fun q5=>?_) fun q5=>?_
       ·rw[if_pos q5] at hv;refine zQ 2 ?_;refine ab.gm (qs:=[(0,_),(1,_)]) rfl rfl rfl rfl ⟨rfl,(ev rfl),(by rfl),rfl,(ev rfl),(by rfl),trivial⟩ (by intro q hq;simp only[List.mem_cons,List.not_mem_nil,or_false] at hq;rcases hq with rfl|rfl<;>exact⟨rfl,by exact Nat.le_of_ble_eq_true rfl⟩) (by show List.foldl _ [_,_] _=_;dsimp only[List.foldl_cons,List.foldl_nil,u2,u1]<;>rfl) (aa rfl _) ?_;refine ab.gm (qs:=[(0,_),(1,_)]) rfl rfl rfl rfl ⟨rfl,(ev rfl),(by rfl),rfl,(ev rfl),(by rfl),trivial⟩ (by intro q hq;simp only[List.mem_cons,List.not_mem_nil,or_false] at hq;rcases hq with rfl|rfl<;>exact⟨rfl,by exact Nat.le_of_ble_eq_true rfl⟩) (by show List.foldl _ [_,_] _=_;dsimp only[List.foldl_cons,List.foldl_nil,u2,u1]<;>rfl) (aa rfl _) ?_;refine ab.gm (qs:=[(0,_),(1,_)]) rfl rfl rfl rfl ⟨rfl,(ev rfl),(by rfl),rfl,(ev rfl),(by rfl),trivial⟩ (by intro q hq;simp only[List.mem_cons,List.not_mem_nil,or_false] at hq;rcases hq with rfl|rfl<;>exact⟨rfl,by exact Nat.le_of_ble_eq_true rfl⟩) (by show List.foldl _ [_,_] _=_;dsimp only[List.foldl_cons,List.foldl_nil,u2,u1]<;>rfl) (aa rfl _) ?_;refine qh (s:=2) (vs:=[_,_,_]) hH fun k80 st SQ hH=>?_;obtain⟨aG,hl,GA⟩:=mg (l:=[(9,10),(13,13),(32,32)]) (hH.rows aS) (by simp);refine qv aG ?_;refine zQ 3 ?_;refine ah.ret ⟨rx,_,_,_,rfl,ai (rfl),?_⟩;exact⟨_,_,_,rfl,gd _ _ hv (by simp at hl;omega) (uB (r:=9) (by decide) (by decide) ⟨_,List.mem_cons_self ..,by decide,by decide⟩ GA),cx.ay cw (hH.drop 1)⟩
       ·rw[if_neg q5] at hv;refine zQ 5 ?_;refine zI (fun q6=>?_) fun q6=>?_
        ·rw[if_pos q6] at hv;refine zQ 2 ?_;refine ab.gm (qs:=[(0,_),(1,_)]) rfl rfl rfl rfl ⟨rfl,(ev rfl),(by rfl),rfl,(ev rfl),(by rfl),trivial⟩ (by intro q hq;simp only[List.mem_cons,List.not_mem_nil,or_false] at hq;rcases hq with rfl|rfl<;>exact⟨rfl,by exact Nat.le_of_ble_eq_true rfl⟩) (by show List.foldl _ [_,_] _=_;dsimp only[List.foldl_cons,List.foldl_nil,u2,u1]<;>rfl) (aa rfl _) ?_;refine ab.gm (qs:=[(0,_),(1,_)]) rfl rfl rfl rfl ⟨rfl,(ev rfl),(by rfl),rfl,(ev rfl),(by rfl),trivial⟩ (by intro q hq;simp only[List.mem_cons,List.not_mem_nil,or_false] at hq;rcases hq with rfl|rfl<;>exact⟨rfl,by exact Nat.le_of_ble_eq_true rfl⟩) (by show List.foldl _ [_,_] _=_;dsimp only[List.foldl_cons,List.foldl_nil,u2,u1]<;>rfl) (aa rfl _) ?_;refine ab.gm (qs:=[(0,_),(1,_)]) rfl rfl rfl rfl ⟨rfl,(ev rfl),(by rfl),rfl,(ev rfl),(by rfl),trivial⟩ (by intro q hq;simp only[List.mem_cons,List.not_mem_nil,or_false] at hq;rcases hq with rfl|rfl<;>exact⟨rfl,by exact Nat.le_of_ble_eq_true rfl⟩) (by show List.foldl _ [_,_] _=_;dsimp only[List.foldl_cons,List.foldl_nil,u2,u1]<;>rfl) (aa rfl _) ?_;refine ab.gm (qs:=[(0,_),(1,_)]) rfl rfl rfl rfl ⟨rfl,(ev rfl),(by rfl),rfl,(ev rfl),(by rfl),trivial⟩ (by intro q hq;simp only[List.mem_cons,List.not_mem_nil,or_false] at hq;rcases hq with rfl|rfl<;>exact⟨rfl,by exact Nat.le_of_ble_eq_true rfl⟩) (by show List.foldl _ [_,_] _=_;dsimp only[List.foldl_cons,List.foldl_nil,u2,u1]<;>rfl) (aa rfl _) ?_;refine qh (s:=2) (vs:=[_,_,_,_]) hH fun k88 st Kj hH=>?_;obtain⟨aG,hl,GA⟩:=mg (l:=[(48,57),(65,90),(95,95),(97,122)]) (hH.rows aS) (by simp);refine qv aG ?_;refine zQ 3 ?_;refine ah.ret ⟨rx,_,_,_,rfl,ai (rfl),?_⟩;exact⟨_,_,_,rfl,gd _ _ hv (by simp at hl;omega) (uB (r:=48) (by decide) (by decide) ⟨_,List.mem_cons_self ..,by decide,by decide⟩ GA),cx.ay cw (hH.drop 1)⟩
        ·rw[if_neg q6] at hv;refine zQ 5 ?_;refine qv (FE _) ?_;refine zQ 2 ?_;refine ah.cond (by rfl) (fun q7=>?_) (fun q7=>?_)<;>try simp only[decide_eq_true_eq,decide_eq_false_iff_not,Bool.not_eq_true',Bool.not_eq_false'] at q7
         ·rw[if_neg q7] at hv;refine zQ 4 ?_;obtain⟨_,st,aG,rfl,hH⟩:=dX (s:={s with i:=s.i+1+1}) s.i 4 (by omega) hH;refine qv aG ?_;refine zQ 6 ?_;obtain⟨h1,h2,h3,h4⟩:=gi (aN:=aN) (s:={s with i:=s.i+1+1}) (i:=s.i) (e:=4) he (by decide) hv;refine ah.ret ⟨rx,_,_,_,rfl,ai (rfl),?_⟩;exact⟨_,_,_,rfl,⟨h3,h4,by rw[h2];show s.i≤s.i+1+1;omega,by rw[h2];show s.i+1+1≤_;omega,.inl ⟨h1,rfl⟩⟩,cx.ay cw hH⟩
         ·rw[if_pos q7] at hv;refine zQ 4 ?_;refine qv (jc _) ?_;refine zQ 3 ?_;have hm:=jL ((g.1:Nat):Int) (by omega) (by omega);refine ah.ret ⟨rx,_,_,_,rfl,ai (rfl),?_⟩;exact⟨_,_,_,rfl,gd _ _ hv hm.1 hm.2,cx.ay cw hH⟩
def yz (fr:Go.V.Fr) (k:Nat):Go.V.D:=Go.V.nth .bh fr.loc k
noncomputable def ou (gs:List (Nat×Nat)) (i:Nat):PR (Option (List Rg×Bool)):=
 match gs[i]? with
 |none=>.er 4 i
 |some g=>
  if B7 gs i=true then .er 4 i
  else if((g.1:Nat):Int)=92 then
   match lF gs i with
   | .ok (a,b) j=>.ok (some (a,b)) j
   | .er e w=>.er e w
  else if((g.1:Nat):Int)=91∨((g.1:Nat):Int)=93∨((g.1:Nat):Int)=45 then .ok none i
  else .ok (some ([(((g.1:Nat):Int),((g.1:Nat):Int))],true)) (i+1)
def Lo (gs:List (Nat×Nat)) (aN:List Int) (R:PR (Option (List Rg×Bool))) (s s':dP) (d1:D) (b:Bool):Prop:=
 s'.o=s.o∧s'.g=s.g∧s.i≤s'.i∧s'.i≤gs.length∧(et R aN s'∧d1=.nul∨(s'=s∧R=.ok none s.i∧d1=.nul∧b=false)∨(s'.e=0∧s.i<s'.i∧∃a,R=.ok (some (a,b)) s'.i∧d1=bf a∧a.length≤8∧a≠[]))
theorem vX {N k:Nat} {S s0:St} {H:List bm} {gs:List (Nat×Nat)} {bw:D} {aN:List Int} {s:dP} (aY:kN gs aN) (he:s.e=0) (hi:s.i<gs.length) (hH:Has N S s0 (.box k (.mem 0 false (aL gs bw s))::.aI bw 1 (aN.map az)::H)):
  ∃d af,Ev pv 147 [.ptr k 0 0] s0 d af∧∃(d1:D) (b:Bool) (s':dP),d=.tup [d1,.bool b]∧Lo gs aN (ou gs s.i) s s' d1 b∧Has N S af (.box k (.mem 0 false (aL gs bw s'))::.aI bw 1 (aN.map az)::H):=by
 have uM:=aY.gl;have gR:=aY.pl;refine Ev.ko rfl KU rfl rfl rfl ?_;refine zE ?_;have cx:=hH;have hH:=hH.cB;have cw:(ag .rw s0).bs=s0.bs:=rfl;generalize ag .rw s0=S2 at*;have FY:Arg N S2 2 (fq gs) (gs.map aU):=Arg.pure (fun st=>dH st gs)
 obtain⟨g,hg⟩:∃g,gs[s.i]?=some g:=⟨gs[s.i]'hi,List.getElem?_eq_getElem _⟩
 have iH:(gs.map aU)[s.i]?=some (aU g):=by rw[List.getElem?_map,hg];rfl
 have hv:ou gs s.i=ou gs s.i:=rfl
 conv at hv=>rhs;unfold ou;simp only[hg]
 refine zQ 13 ?_;obtain⟨_,st,aG,rfl,hH⟩:=zg (s:=s) s.i hi hH;refine qv aG ?_;refine zQ 1 ?_;refine qc (fun hb=>?_) (fun hb=>?_)<;>try simp only[cs] at hb
 ·rw[if_pos hb] at hv;refine zQ 7 ?_;obtain⟨_,st,aG,rfl,hH⟩:=dX (s:=s) s.i 4 (by omega) hH;refine qv aG ?_;refine zQ 6 ?_;obtain⟨h1,h2,h3,h4⟩:=gi (aN:=aN) (s:=s) (i:=s.i) (e:=4) he (by decide) hv;refine ah.ret ⟨rx,_,_,_,rfl,ai (rfl),?_⟩;exact⟨_,_,_,rfl,⟨h3,h4,by rw[h2];exact Nat.le_refl _,by rw[h2];omega,.inl ⟨h1,rfl⟩⟩,cx.ay cw hH⟩
 ·rw[if_neg (by rw[hb];simp)] at hv;refine zQ 11 ?_;refine qr fun Jd DM=>?_;refine qf (fo:=0) fun Re Nv=>?_;refine zQ 13 ?_;refine zI (fun q1=>?_) fun q1=>?_
  ·rw[if_pos q1] at hv;refine zQ 3 ?_;obtain⟨_,st,aG,d1,b,s',rfl,⟨p1,p2,p3,p4,p5⟩,hH⟩:=vx (s:=s) aY he hi hH;refine qv aG ?_;refine zQ 5 ?_
   rcases p5 with⟨p5,rfl⟩|⟨p5,p6,a,p7,rfl,p8,p9⟩
   ·refine ah.ret ⟨rx,_,_,_,rfl,ai (rfl),?_⟩;exact⟨_,_,_,rfl,⟨p1,p2,p3,p4,.inl ⟨p5.map fun e w h=>by rw[hv,h],rfl⟩⟩,cx.ay cw hH⟩
   ·refine ah.ret ⟨rx,_,_,_,rfl,ai (rfl),?_⟩;exact⟨_,_,_,rfl,⟨p1,p2,p3,p4,.inr (.inr ⟨p5,p6,a,by rw[hv,p7],rfl,p8,p9⟩)⟩,cx.ay cw hH⟩
  ·rw[if_neg q1] at hv;refine zQ 6 ?_
   by_cases Fm:((g.1:Nat):Int)=91
   ·rw[if_pos (.inl Fm)] at hv;refine qD rfl (by simp[Fm]) ?_;refine zQ 1 ?_;refine qD rfl (by simp[Fm]) ?_;refine zQ 5 ?_;refine ah.ret ⟨rx,_,_,_,rfl,ai (rfl),?_⟩;exact⟨_,_,s,rfl,⟨rfl,rfl,Nat.le_refl _,by omega,.inr (.inl ⟨rfl,hv,rfl,rfl⟩)⟩,cx.ay cw hH⟩
   refine qE rfl (by simp[Fm]) ?_;refine zQ 5 ?_
   by_cases Ja:((g.1:Nat):Int)=93
   ·rw[if_pos (.inr (.inl Ja))] at hv;refine qD rfl (by simp[Ja]) ?_;refine zQ 1 ?_;refine qD rfl (by simp[Ja]) ?_;refine zQ 5 ?_;refine ah.ret ⟨rx,_,_,_,rfl,ai (rfl),?_⟩;exact⟨_,_,s,rfl,⟨rfl,rfl,Nat.le_refl _,by omega,.inr (.inl ⟨rfl,hv,rfl,rfl⟩)⟩,cx.ay cw hH⟩
   refine qE rfl (by simp[Ja]) ?_;refine zQ 4 ?_
   by_cases Lr:((g.1:Nat):Int)=45
   ·rw[if_pos (.inr (.inr Lr))] at hv;refine qD rfl (by simp[Lr]) ?_;refine zQ 5 ?_;refine ah.ret ⟨rx,_,_,_,rfl,ai (rfl),?_⟩;exact⟨_,_,s,rfl,⟨rfl,rfl,Nat.le_refl _,by omega,.inr (.inl ⟨rfl,hv,rfl,rfl⟩)⟩,cx.ay cw hH⟩
   refine qE rfl (by simp[Lr]) ?_;rw[if_neg (by rintro(h|h|h);exact Fm h;exact Ja h;exact Lr h)] at hv;refine zQ 9 ?_;refine qT hH aS fun st hH=>?_;dsimp only[u2,u1,u3,u4,setMany,u5,u6,D.cells,Nat.reduceAdd,aL,aU,az,au] at hH;refine zQ 5 ?_;refine ab.gm (qs:=[(0,_),(1,_)]) rfl rfl rfl rfl ⟨rfl,(ev rfl),(by rfl),rfl,(ev rfl),(by rfl),trivial⟩ (by intro q hq;simp only[List.mem_cons,List.not_mem_nil,or_false] at hq;rcases hq with rfl|rfl<;>exact⟨rfl,by exact Nat.le_of_ble_eq_true rfl⟩) (by show List.foldl _ [_,_] _=_;dsimp only[List.foldl_cons,List.foldl_nil,u2,u1]<;>rfl) (aa rfl _) ?_;refine qh (s:=2) (vs:=[_]) hH fun k39 st S4 hH=>?_;refine zQ 3 ?_;have hH:Has N S2 st (.aI (.win k39 0 0 1 2) 2 (([((g.1:Nat),(g.1:Nat))]:List Rg).map au)::.box k (.mem 0 false (aL gs bw {s with i:=s.i+1}))::.aI bw 1 (aN.map az)::H):=hH;have hfz:=oF hH aS (L:=s0.bs.length) (n:=15) (fun k hk=>by simp only[D.ref] at hk;rw[←cw];omega) (by decide)
   have NX:bo st s0.bs.length true 16 (rT [.win k39 0 0 1 2,.bool true])=some (.tup [bf [(((g.1:Nat):Int),((g.1:Nat):Int))],.bool true]):=by
    show(iv (bo st s0.bs.length true 15) [.win k39 0 0 1 2,.bool true]).map D.tup=_;simp only[iv,BQ,hfz];rfl
   refine ah.ret ⟨rx,_,_,_,rfl,ai NX,⟨_,_,{s with i:=s.i+1},rfl,⟨rfl,rfl,?_,?_,.inr (.inr ⟨he,?_,_,hv,rfl,by simp,by simp⟩)⟩,cx.ay cw (hH.drop 1)⟩⟩
   ·show s.i≤s.i+1;omega
   ·show s.i+1≤_;omega
   ·show s.i<s.i+1;omega
def wD:List Rg→Int
 |[]=>0
 |q::_=>q.1
noncomputable def jS (gs:List (Nat×Nat)) (i:Nat):PR (List Rg):=
 match ou gs i with
 | .er e w=>.er e w
 | .ok none _=>.er 4 i
 | .ok (some (a,one)) j=>
  if dB gs j 45=true then
   if j+1<gs.length then
    match ou gs (j+1) with
    | .er e w=>.er e w
    | .ok none _=>.er 4 i
    | .ok (some (b,two)) l=>if one=true∧two=true∧wD a≤wD b then .ok [(wD a,wD b)] l else .er 4 i
   else .er 4 i
  else .ok a j
def GU (gs:List (Nat×Nat)) (aN:List Int) (R:PR (List Rg)) (s s':dP) (d:D):Prop:=
 s'.o=s.o∧s'.g=s.g∧s.i≤s'.i∧s'.i≤gs.length∧∃a:List Rg,d=bf a∧a.length≤8∧(et R aN s'∨s'.e=0∧s.i<s'.i∧R=.ok a s'.i)
theorem Dx {N k:Nat} {S s0:St} {H:List bm} {gs:List (Nat×Nat)} {bw:D} {aN:List Int} {s:dP} (aY:kN gs aN) (he:s.e=0) (hi:s.i<gs.length) (hH:Has N S s0 (.box k (.mem 0 false (aL gs bw s))::.aI bw 1 (aN.map az)::H)):
  ∃d af,Ev pv 131 [.ptr k 0 0] s0 d af∧∃(s':dP),GU gs aN (jS gs s.i) s s' d∧Has N S af (.box k (.mem 0 false (aL gs bw s'))::.aI bw 1 (aN.map az)::H):=by
 have uM:=aY.gl;have gR:=aY.pl;refine Ev.ko rfl KY rfl rfl rfl ?_;refine zE ?_;have cx:=hH;have hH:=hH.cB;have cw:(ag .rw s0).bs=s0.bs:=rfl;generalize ag .rw s0=S2 at*;have FY:Arg N S2 2 (fq gs) (gs.map aU):=Arg.pure (fun st=>dH st gs)
 have hwr:∀(st:St) (s3:dP),s3.e=0→jS gs s.i=.er 4 s.i→s3.o=s.o→s3.g=s.g→s.i≤s3.i→s3.i≤gs.length→Has N S2 st (.box k (.mem 0 false (aL gs bw s3))::.aI bw 1 (aN.map az)::H)→∃d af,Ev pv 39 [.ptr k 0 0,.int .i64 (s.i:Nat),.int .i64 4] st d af∧d=.sl []∧∃s4:dP,s4.e≠0∧GU gs aN (jS gs s.i) s s4 (.sl [])∧Has N S2 af (.box k (.mem 0 false (aL gs bw s4))::.aI bw 1 (aN.map az)::H):=by
  intro st s3 h1 hv h2 h3 h4 h5 hH;obtain⟨d,af,aG,h6,hH⟩:=dX (s:=s3) s.i 4 (by omega) hH;obtain⟨w1,w2,w3,w4⟩:=gi (aN:=aN) (s:=s3) (i:=s.i) (e:=4) h1 (by decide) hv;exact⟨d,af,aG,h6,_,w1.ne,⟨w3.trans h2,w4.trans h3,by omega,by omega,[],rfl,by simp,.inl w1⟩,hH⟩
 have rP:jS gs s.i=match ou gs s.i with
  | .er e w=>.er e w
  | .ok none _=>.er 4 s.i
  | .ok (some (a,one)) j=>
   if dB gs j 45=true then
    if j+1<gs.length then
     match ou gs (j+1) with
     | .er e w=>.er e w
     | .ok none _=>.er 4 s.i
     | .ok (some (b,two)) l=>if one=true∧two=true∧wD a≤wD b then .ok [(wD a,wD b)] l else .er 4 s.i
    else .er 4 s.i
   else .ok a j:=rfl
 refine zQ 15 ?_;obtain⟨_,st,aG,d1,b,s1,rfl,⟨p1,p2,p3,p4,p5⟩,hH⟩:=vX (s:=s) aY he hi hH;refine qv aG ?_;refine zQ 15 ?_
 rcases p5 with⟨p5,rfl⟩|⟨e1,e2,rfl,rfl⟩|⟨p6,p7,a,e2,rfl,p8,p9⟩
 ·have hne:=p5.ne;refine qD rfl (by simp[hne]) ?_;refine zQ 4 ?_;refine ah.ret ⟨rx,_,_,_,rfl,ai (rfl),?_⟩;exact⟨s1,⟨p1,p2,p3,p4,[],rfl,by simp,.inl (p5.map fun e w h=>by rw[rP,h])⟩,cx.ay cw hH⟩
 ·rw[e2] at rP;simp only at rP;have e3:s1.e=0:=by rw[e1];exact he
  refine qE rfl (by simp[e3]) ?_;refine zQ 5 ?_;refine ab.go (d:=.bool true) (st1:=_) rfl rfl rfl (aa rfl _) ?_;refine zQ 6 ?_;obtain⟨_,st,aG,rfl,s4,SC,hX,hH⟩:=hwr _ s1 e3 rP p1 p2 p3 p4 hH;refine qv aG ?_;refine zQ 5 ?_;refine ah.ret ⟨rx,_,_,_,rfl,ai (rfl),?_⟩;exact⟨s4,hX,cx.ay cw hH⟩
 ·rw[e2] at rP;simp only at rP;obtain⟨q,a',rfl⟩:∃q a',a=q::a':=List.exists_cons_of_ne_nil p9;refine qE rfl (by simp[p6]) ?_;refine zQ 5 ?_;refine ab.go (d:=.bool false) (st1:=_) rfl rfl rfl (aa rfl _) ?_;refine zQ 3 ?_;obtain⟨k1,k2,k3,k4,k5⟩:=gz (gs:=gs) (s:=s1) (r:=45);have k5:=k5 p4;refine zQ 4 ?_;obtain⟨_,st,aG,rfl,hH⟩:=dK (s:=s1) (by omega) 45 hH;refine qv aG ?_;refine zQ 2 ?_;have hsk:dB gs s1.i 45=true→(bP gs s1 45).i=s1.i+1:=fun h=>by unfold bP;rw[if_pos h]
  have iw:dB gs s1.i 45=false→(bP gs s1 45).i=s1.i:=fun h=>by unfold bP;rw[if_neg (by rw[h];simp)]
  generalize bP gs s1 45=s2 at*
  cases hb:dB gs s1.i 45 with
  |false=>
   have iw:=iw hb;rw[hb,if_neg (by simp),←iw] at rP;refine zQ 6 ?_;refine ah.ret ⟨rx,_,_,_,rfl,ai (rfl),?_⟩;exact⟨s2,⟨k1.trans p1,k2.trans p2,by omega,k5,q::a',rfl,p8,.inr ⟨k3.trans p6,by omega,rP⟩⟩,cx.ay cw hH⟩
  |true=>
   have hsk:=hsk hb;rw[hb,if_pos rfl,←hsk] at rP;refine zQ 21 ?_;refine qn ?_;simp only[List.length_map];refine zQ 2 ?_;refine ah.merge (fun fr st=>∃(d2:D) (two:Bool) (s3:dP) (tmp:List (Nat×D)),fr=⟨8,[.ptr k 0 0,yz fr 1,yz fr 2,.int .i64 (s.i:Nat),bf (q::a'),.bool b,d2,.bool two],tmp⟩∧Has N S2 st (.box k (.mem 0 false (aL gs bw s3))::.aI bw 1 (aN.map az)::H)∧(s3.o=s.o)∧(s3.g=s.g)∧(s2.i≤s3.i)∧(s3.i≤gs.length)∧(et (jS gs s.i) aN s3∨s3.e=0∧(two=false∧jS gs s.i=.er 4 s.i∨∃a2:List Rg,d2=bf a2∧a2≠[]∧jS gs s.i=if b=true∧two=true∧wD (q::a')≤wD a2 then .ok [(wD (q::a'),wD a2)] s3.i else .er 4 s.i))) ?_ ?_
   ·refine zP (fun hlt=>?_) fun hlt=>?_
    ·have NJ:s2.i<gs.length:=by omega
     rw[if_pos NJ] at rP;refine zQ 2 ?_;obtain⟨_,st,aG,d2,two,s3,rfl,⟨r1,r2,r3,r4,r5⟩,hH⟩:=vX (s:=s2) aY (k3.trans p6) (by omega) hH;refine qv aG ?_;refine zQ 6 ?_
     rcases r5 with⟨r5,rfl⟩|⟨e4,e5,rfl,rfl⟩|⟨r6,r7,a2,e5,rfl,r8,r9⟩
     ·exact⟨.nul,two,s3,_,rfl,hH,r1.trans (k1.trans p1),r2.trans (k2.trans p2),r3,r4,.inl (r5.map fun e w h=>by rw[rP,h])⟩
     ·rw[e5] at rP;simp only at rP;exact⟨.nul,false,s3,_,rfl,hH,r1.trans (k1.trans p1),r2.trans (k2.trans p2),r3,r4,.inr ⟨by rw[e4];exact k3.trans p6,.inl ⟨rfl,rP⟩⟩⟩
     ·rw[e5] at rP;simp only at rP;exact⟨bf a2,two,s3,_,rfl,hH,r1.trans (k1.trans p1),r2.trans (k2.trans p2),r3,r4,.inr ⟨r6,.inr ⟨a2,rfl,r9,rP⟩⟩⟩
    ·rw[if_neg (by omega)] at rP;refine zQ 1 ?_;exact⟨.nul,false,s2,_,rfl,hH,k1.trans p1,k2.trans p2,Nat.le_refl _,k5,.inr ⟨k3.trans p6,.inl ⟨rfl,rP⟩⟩⟩
   ·rintro fr st ⟨d2,two,s3,tmp,hfr,hH,h1,h2,h3,h4,h5⟩;rw[hfr];clear hfr;generalize yz fr=ee;clear fr
    rcases h5 with h5|⟨h5,h6⟩
    ·have hne:=h5.ne;have ly:(s3.e==0)=false:=by simpa using hne
     refine zQ 39 ?_;refine qD rfl (by simp[hne]) ?_;refine zQ 4 ?_;refine ah.ret ⟨rx,_,_,_,rfl,ai (rfl),?_⟩;exact⟨s3,⟨h1,h2,by omega,h4,[],rfl,by simp,.inl h5⟩,cx.ay cw hH⟩
    ·have ly:(s3.e==0)=true:=by simpa using h5
     cases b with
     |false=>
      have rO:jS gs s.i=.er 4 s.i:=by
       rcases h6 with⟨_,h⟩|⟨a2,_,_,h⟩
       ·exact h
       ·rw[h,if_neg (by simp)]
      have jO:(!false)=true:=rfl;refine zQ 14 ?_;refine ab.cz (ax rfl rfl rfl ly) rfl jO (aa rfl _) ?_;refine zQ 17 ?_;obtain⟨_,st,aG,rfl,s4,w1,hX,hH⟩:=hwr _ s3 h5 rO h1 h2 (by omega) h4 hH;refine qv aG ?_;refine zQ 10 ?_;refine qD rfl (by simp[w1]) ?_;refine zQ 4 ?_;refine ah.ret ⟨rx,_,_,_,rfl,ai (rfl),?_⟩;exact⟨s4,hX,cx.ay cw hH⟩
     |true=>
      have jO:(!true)=false:=rfl
      cases two with
      |false=>
       have rO:jS gs s.i=.er 4 s.i:=by
        rcases h6 with⟨_,h⟩|⟨a2,_,_,h⟩
        ·exact h
        ·rw[h,if_neg (by simp)]
       have rh:(!false)=true:=rfl;refine zQ 14 ?_;refine ab.b_ (ax rfl rfl rfl ly) rfl jO (aa rfl _) ?_;refine zQ 10 ?_;refine ab.cz (ax rfl rfl rfl ly) rfl rh (aa rfl _) ?_;refine zQ 6 ?_;obtain⟨_,st,aG,rfl,s4,w1,hX,hH⟩:=hwr _ s3 h5 rO h1 h2 (by omega) h4 hH;refine qv aG ?_;refine zQ 10 ?_;refine qD rfl (by simp[w1]) ?_;refine zQ 4 ?_;refine ah.ret ⟨rx,_,_,_,rfl,ai (rfl),?_⟩;exact⟨s4,hX,cx.ay cw hH⟩
      |true=>
       have rh:(!true)=false:=rfl
       obtain⟨a2,rfl,h7,rO⟩:∃a2:List Rg,d2=bf a2∧a2≠[]∧jS gs s.i=if true=true∧true=true∧wD (q::a')≤wD a2 then .ok [(wD (q::a'),wD a2)] s3.i else .er 4 s.i:=by
        rcases h6 with h6|h6
        ·cases h6.1
        ·exact h6
       obtain⟨q2,QH,rfl⟩:∃q a',a2=q::a':=List.exists_cons_of_ne_nil h7
       have rO:jS gs s.i=if q.1≤q2.1 then .ok [(q.1,q2.1)] s3.i else .er 4 s.i:=by
        rw[rO];simp[wD]
       have M_:=(gQ (q::a')).arg N S2;have Hz:=(gQ (q2::QH)).arg N S2;have Ly:((q::a').map au)[0]?=some (au q):=rfl;have iH:((q2::QH).map au)[0]?=some (au q2):=rfl;refine zQ 14 ?_;refine ab.b_ (ax rfl rfl rfl ly) rfl jO (aa rfl _) ?_;refine zQ 2 ?_;refine qr (fun UB Sh=>?_) (hg:=wi rh);refine qf (fo:=0) (fun UA Sg=>?_) (hg:=wi rh);refine zQ 2 ?_;refine qr (fun Q8 Nn=>?_) (hg:=wi rh);refine qf (fo:=0) (fun Uy Se=>?_) (hg:=wi rh);refine zQ 2 ?_;refine ab.b_ (ax rfl rfl rfl ly) rfl rh (aa rfl _) ?_;refine zQ 2 ?_;refine zP (fun hgt=>?_) fun hgt=>?_
       ·rw[if_neg (by omega)] at rO;refine zQ 3 ?_;obtain⟨_,st,aG,rfl,s4,w1,hX,hH⟩:=hwr _ s3 h5 rO h1 h2 (by omega) h4 hH;refine qv aG ?_;refine zQ 10 ?_;refine qD rfl (by simp[w1]) ?_;refine zQ 4 ?_;refine ah.ret ⟨rx,_,_,_,rfl,ai (rfl),?_⟩;exact⟨s4,hX,cx.ay cw hH⟩
       ·rw[if_pos (by omega)] at rO;refine zQ 10 ?_;refine qE rfl (by simp[h5]) ?_;refine zQ 4 ?_;refine qr fun Q6 Nk=>?_;refine qf (fo:=0) fun Ut R_=>?_;refine zQ 2 ?_;refine qr fun Ur R8=>?_;refine qf (fo:=0) fun Uq R7=>?_;refine qR ?_;refine ab.gm (qs:=[(0,_),(1,_)]) rfl rfl rfl rfl ⟨rfl,(ev rfl),(by rfl),rfl,(ev rfl),(by rfl),trivial⟩ (by intro q hq;simp only[List.mem_cons,List.not_mem_nil,or_false] at hq;rcases hq with rfl|rfl<;>exact⟨rfl,by exact Nat.le_of_ble_eq_true rfl⟩) (by show List.foldl _ [_,_] _=_;dsimp only[List.foldl_cons,List.foldl_nil,u2,u1]<;>rfl) (aa rfl _) ?_;refine qh (s:=2) (vs:=[_]) hH fun k87 st SP hH=>?_;dsimp only[u2,u1,u3,u4,setMany,u5,u6,D.cells,Nat.reduceAdd,aL,aU,az,au] at hH;refine zQ 2 ?_;have hH:Has N S2 st (.aI (.win k87 0 0 1 2) 2 (([(q.1,q2.1)]:List Rg).map au)::.box k (.mem 0 false (aL gs bw s3))::.aI bw 1 (aN.map az)::H):=hH;have hfz:=oF hH aS (L:=s0.bs.length) (n:=16) (fun k hk=>by simp only[D.ref] at hk;rw[←cw];omega) (by decide);refine ah.ret ⟨rx,_,_,_,rfl,ai hfz,⟨s3,⟨h1,h2,by omega,h4,[(q.1,q2.1)],rfl,by simp,.inr ⟨h5,by omega,rO⟩⟩,cx.ay cw (hH.drop 1)⟩⟩
end Go.Proofs.Ytnleclohocdkaaa
