/-
 What the search comes to: it is closed, and nothing can be left out.
-/
import Derived.Test.YtkbacjpologjbaaGreatWGQe
import Derived.Test.YtkbacjpologjbaaGreatWGHr
import Derived.Test.YtkbacjpologjbaaGreatWGPh
import Derived.Test.YtkbacjpologjbaaGreatWM2
import Derived.Test.YtkbacjpologjbaaGreatWGUa
set_option maxRecDepth 100000
set_option linter.unusedSimpArgs false
set_option linter.unusedVariables false
set_option maxHeartbeats 4000000
set_option linter.unusedSectionVars false
open List renaming mem_cons→γ,length_cons→δ,not_mem_nil→ε,mem_append→η,length_append→θ,getElem?_append_left→ι,getElem?_append_right→μ,mem_cons_self→ν,getElem?_eq_getElem→ξ,mem_cons_of_mem→π,length_nil→ρ,append_assoc→τ,getElem?_of_mem→φ,getElem?_set_ne→χ,mem_of_getElem?→ψ,getElem?_set_self→ω,length_map→Θ,map_cons→Φ,mem_reverse→Ψ,drop_zero→wt,foldl→OF,getElem?_cons_succ→Pe,getElem?_replicate→AN,mem_map→AI,mem_append_right→Qa0,mem_append_left→Qa5,drop_succ_cons→Qa6,flatten_cons→Qaa,take_length→Qab,append_nil→Qac,length_set→Qad,map_append→Qae,nil_append→Qaf,map_nil→Qah,length→Qaj
open Go.V renaming byteCells→ζ,Rows→Qal,look→Qao
open Nat renaming le_refl→κ,le_of_ble_eq_true→ο,reduceAdd→Δ,zero_add→Ξ,pow_succ→BY,add_assoc→AT,div_div_eq_div_mul→Qa1,mul_comm→Qa2,succ_mul→Qa3,mul_le_mul_right→Qa7,zero_mul→Qak,add_mul→Qam
open UInt8 renaming ofNat→ς,toNat_ofNat'→Qa8
open Int renaming toNat_natCast→υ,fdiv→Qan
open Option renaming bind_some→Γ,some→IN,map→Qai
open Go.V.ab renaming nil→Ω,go→v8,len→GB,eo→Qa4,nD→Qap
open Bool renaming and_eq_true→IS,true_and→Qag
open Go.V.D renaming int→IT,cells→Pd,ref→Qa9
namespace Go.Proofs.YtkbacjpologjbaaGreat
open Go.V Go
theorem zjqa {A B:Prop} (h:A) (e:A→B:=by intro h;dsimp only[u2,u1,u3,u4,setMany,u5,u6,Pd,Δ,fw,tg,Pg.d,Pg.cs,sQ] at h;exact h):B:=e h
def kW (seen:List Bool) (v:Int):Prop:=0≤v∧seen[v.toNat]?=some true
structure DY (code:List aL) (start:Int) (seen:List Bool) (ga:List Int):Prop where
 a:∀u i,seen[u]?=some true→code[u]?=some i→∀w∈bR u i,kW seen w∨w∈ga
 b:∀v∈ga,v=start∨∃u i,seen[u]?=some true∧code[u]?=some i∧v∈bR u i
 c:∀v,kW seen v→v=start∨∃u i,seen[u]?=some true∧code[u]?=some i∧v∈bR u i∧v≠(u:Int)
 d:kW seen start∨start∈ga
variable{seen:List Bool}
theorem gx {k:Nat} (hk:k<seen.length) {v:Int}:kW (seen.set k true) v↔v=(k:Int)∨kW seen v:=by
 unfold kW;constructor
 ·rintro⟨h0,h⟩
  by_cases hv:v.toNat=k
  ·left;omega
  ·rw[χ (fun e=>hv e.symm)] at h;exact .inr ⟨h0,h⟩
 ·rintro(rfl|⟨h0,h⟩)
  ·exact⟨by omega,by rw[υ,ω hk]⟩
  ·refine⟨h0,?_⟩
   by_cases hv:v.toNat=k
   ·rw[hv,ω hk]
   ·rw[χ (fun e=>hv e.symm)];exact h
variable{u:Nat}
theorem ew:seen[u]?=some true↔kW seen (u:Int):=by
 unfold kW;rw[υ];exact⟨fun h=>⟨by omega,h⟩,fun h=>h.2⟩
theorem Dz {code:List aL} {start:Int} (hcl:jL code):∀(f:Nat) (seen:List Bool) (ga:List Int),seen.length=code.length→(∀v∈ga,0≤v∧v<(code.length:Int))→3*seen.count false+ga.length≤f→DY code start seen ga→DY code start (zM code f seen ga) []
 |0,seen,ga,_,_,hm,hi=>by
  have:ga=[]:=by cases ga with|nil=>rfl|cons _ _=>simp at hm
  subst this;exact hi
 |f+1,seen,[],_,_,_,hi=>hi
 |f+1,seen,v::ga,hl,hs,hm,hi=>by
  have hv:=hs v (ν ..);have nW:∀w∈ga,0≤w∧w<(code.length:Int):=fun w hw=>hs w (π _ hw);obtain⟨k,rfl⟩:=Int.eq_ofNat_of_zero_le hv.1;have hk:k<code.length:=by omega
  obtain⟨i,hci⟩:∃i,code[k]?=some i:=⟨code[k]'hk,ξ _⟩
  obtain⟨b,hb⟩:∃b,seen[k]?=some b:=⟨seen[k]' z0,ξ _⟩
  simp only[δ] at hm;have hp:∀w,w∈((k:Int)::ga)→w=(k:Int)∨w∈ga:=fun w hw=>γ.1 hw;unfold zM;simp only[υ,hb,hci]
  cases b with
  |true=>
   have kE:kW seen (k:Int):=ew.1 hb;refine Dz hcl f seen ga hl nW z0 ⟨fun u j hu hj w hw=>?_,fun w hw=>hi.b w (π _ hw),hi.c,?_⟩
   ·rcases hi.a u j hu hj w hw with h|h
    ·exact .inl h
    ·rcases hp w h with rfl|h
     ·exact .inl kE
     ·exact .inr h
   ·rcases hi.d with h|h
    ·exact .inl h
    ·rcases hp start h with h|h
     ·exact .inl (h▸kE)
     ·exact .inr h
  |false=>
   have Gf:=count_set hb;have jx:k<seen.length:=by omega
   have C_:=uU k i;refine Dz hcl f _ _ (by rw[Qad];exact hl) (fun w hw=>?_) (by simp only[θ,List.length_reverse];omega) ⟨fun u j hu hj w hw=>?_,fun w hw=>?_,fun w hw=>?_,?_⟩
   ·rcases η.1 hw with hw|hw
    ·exact hcl k i hci w (Ψ.1 hw)
    ·exact nW w hw
   ·rcases(gx jx).1 (ew.1 hu) with h|h
    ·have:u=k:=by omega
     subst this;rw[hci] at hj;cases hj;exact .inr (η.2 (.inl (Ψ.2 hw)))
    ·rcases hi.a u j (ew.2 h) hj w hw with h|h
     ·exact .inl ((gx jx).2 (.inr h))
     ·rcases hp w h with h|h
      ·exact .inl ((gx jx).2 (.inl h))
      ·exact .inr (η.2 (.inr h))
   ·rcases η.1 hw with hw|hw
    ·exact .inr ⟨k,i,ew.2 ((gx jx).2 (.inl rfl)),hci,Ψ.1 hw⟩
    ·rcases hi.b w (π _ hw) with h|⟨u,j,h1,h2,h3⟩
     ·exact .inl h
     ·exact .inr ⟨u,j,ew.2 ((gx jx).2 (.inr (ew.1 h1))),h2,h3⟩
   ·rcases(gx jx).1 hw with rfl|h
    ·rcases hi.b (k:Int) (ν ..) with h|⟨u,j,h1,h2,h3⟩
     ·exact .inl h
     ·refine .inr ⟨u,j,ew.2 ((gx jx).2 (.inr (ew.1 h1))),h2,h3,fun e=>?_⟩;have:k=u:=by omega
      subst this;rw[hb] at h1;cases h1
    ·rcases hi.c w h with h|⟨u,j,h1,h2,h3,h4⟩
     ·exact .inl h
     ·exact .inr ⟨u,j,ew.2 ((gx jx).2 (.inr (ew.1 h1))),h2,h3,h4⟩
   ·rcases hi.d with h|h
    ·exact .inl ((gx jx).2 (.inr h))
    ·rcases hp start h with h|h
     ·exact .inl ((gx jx).2 (.inl h))
     ·exact .inr (η.2 (.inr h))
variable{code:List aL}{start:Int}
theorem pq (hcl:jL code) (iA:0≤start∧start<(code.length:Int)):DY code start (br code start) []:=by
 have mK:∀v,¬kW (List.replicate code.length false) v:=by
  rintro v ⟨h0,h⟩;rw[AN] at h
  split at h<;>cases h
 refine Dz hcl _ _ _ (by simp) (fun v hv=>?_) (by simp) ⟨fun u i hu=>absurd (ew.1 hu) (mK _),fun v hv=>?_,fun v hv=>absurd hv (mK v),.inr (by simp)⟩
 ·simp only[γ,ε,or_false] at hv;subst hv;exact iA
 ·simp only[γ,ε,or_false] at hv;exact .inl hv
theorem lE:∀{L:List Bool} {s:Nat} {v:Int},v∈uP s L↔∃k:Nat,L[k]?=some true∧v=((s+k:Nat):Int)
 |[],s,v=>⟨fun h=>(by cases h),fun⟨k,h,_⟩=>by simp at h⟩
 |b::l,s,v=>by
  simp only[uP,η];constructor
  ·rintro(h|h)
   ·split at h
    ·rename_i hb;simp only[γ,ε,or_false] at h;exact⟨0,by simp[hb],by rw[h];simp⟩
    ·cases h
   ·obtain⟨k,h1,h2⟩:=lE.1 h;exact⟨k+1,by simpa using h1,by rw[h2];congr 1;omega⟩
  ·rintro⟨k,h1,h2⟩
   cases k with
   |zero=>simp at h1;subst h1;left;simp[h2]
   |succ k=>exact .inr (lE.2 ⟨k,by simpa using h1,by rw[h2];congr 1;omega⟩)
theorem xf : ∀ (L : List Bool) (s : Nat), (uP s L).Pairwise (· < ·)
 | [], s => .nil
 | b :: l, s => by
  simp only [uP];have ih := xf l (s + 1)
  split
  ·rw [List.singleton_append, List.pairwise_cons];refine ⟨fun v hv => ?_, ih⟩;obtain ⟨k, _, rfl⟩ := lE.1 hv;omega
  ·exact ih
def dU (lo hi:Nat) (i:aL):Prop:=
 (i.op=1∧i.x=0∧i.y=0∧eN i.rs=true)∨(i.op=2∧i.rs=[]∧((lo:Int)≤i.x∧i.x≤hi)∧(lo:Int)≤i.y∧i.y≤hi)∨(i.op=3∧i.rs=[]∧i.y=0∧(lo:Int)≤i.x∧i.x≤hi)∨(i.op=4∧i.rs=[]∧i.y=0∧0≤i.x∧i.x<10)∨((i.op=5∨i.op=6)∧i.rs=[]∧i.y=0∧i.x=0)
variable{lo hi:Nat}{i:aL}
theorem dU.mono {xy j7:Nat} (h:dU lo hi i) (h1:xy≤lo) (h2:hi≤j7):dU xy j7 i:=by
 rcases h with h|⟨a,b,c,d⟩|⟨a,b,c,d⟩|h|h
 ·exact .inl h
 ·exact .inr (.inl ⟨a,b,by omega,by omega⟩)
 ·exact .inr (.inr (.inl ⟨a,b,c,by omega⟩))
 ·exact .inr (.inr (.inr (.inl h)))
 ·exact .inr (.inr (.inr (.inr h)))
variable{s o:Nat}{lz:Bool}
theorem dU.sp (h1:lo≤s+1∧s+1≤hi) (h2:lo≤o∧o≤hi):dU lo hi (rh s o lz):=by
 refine .inr (.inl ?_);cases lz
 ·refine⟨rfl,rfl,?_⟩;show((lo:Int)≤((s+1:Nat):Int)∧((s+1:Nat):Int)≤hi)∧(lo:Int)≤(o:Int)∧(o:Int)≤hi;omega
 ·refine⟨rfl,rfl,?_⟩;show((lo:Int)≤(o:Int)∧(o:Int)≤hi)∧(lo:Int)≤((s+1:Nat):Int)∧((s+1:Nat):Int)≤hi;omega
variable{e:Nat}
theorem dU.jp (h1:lo≤e∧e≤hi):dU lo hi (pF e):=by
 refine .inr (.inr (.inl ⟨rfl,rfl,rfl,?_⟩));show(lo:Int)≤(e:Int)∧(e:Int)≤hi;omega
theorem dU.save {x:Int} (h:0≤x∧x<10):dU lo hi (dJ 4 x 0 []):=.inr (.inr (.inr (.inl ⟨rfl,rfl,rfl,h⟩)))
theorem rz {c:Nat→List aL} {z:Nat} (hc:∀b,∀i∈c b,dU b (b+z) i):∀k b,∀i∈gO c z k b,dU b (b+k*z) i
 |0,b,i,hi=>by cases hi
 |k+1,b,i,hi=>by
  simp only[gO] at hi;rw[Qa3]
  rcases η.1 hi with hi|hi
  ·exact(hc b i hi).mono (κ _) z0
  ·exact(rz hc k _ i hi).mono z0 z0
theorem xc {sp:Nat→aL} {c:Nat→List aL} {z lo hi:Nat} (hs:∀s,lo≤s→s+1≤hi→dU lo hi (sp s)) (hc:∀b,∀i∈c b,dU b (b+z) i):∀k b,lo≤b→b+k*(z+1)≤hi→∀i∈gA sp c z k b,dU lo hi i
 |0,b,_,_,i,j7=>by cases j7
 |k+1,b,h1,h2,i,j7=>by
  simp only[gA] at j7;rw[Qa3] at h2
  rcases γ.1 j7 with rfl|j7
  ·exact hs b h1 z0
  ·rcases η.1 j7 with j7|j7
   ·exact(hc _ i j7).mono z0 z0
   ·exact xc hs hc k _ z0 z0 i j7
def Kn (l:List eE):Prop:=∀n∈l,n.op=2→eN n.rs=true
mutual
theorem ml:∀(t:Tr) (b:Nat),t.ok→Kn t.flat→∀i∈aU t b,dU b (b+t.sz) i
 | .mk n ks,b,aT,pI,i,hi=>by
  simp only[Tr.ok] at aT;simp only[Tr.flat] at pI;have hc:=fun b=>x0 ks b aT.2 (fun n hn=>pI n (π _ hn));obtain⟨_,hq⟩:=aT.1;simp only[aU] at hi;simp only[Tr.sz]
  by_cases q2:n.op=2
  ·rw[if_pos q2] at hi;simp only[γ,ε,or_false] at hi;subst hi;exact .inl ⟨rfl,rfl,rfl,pI n (ν ..) q2⟩
  rw[if_neg q2] at hi
  by_cases q7:n.op=7
  ·rw[if_pos q7] at hi;simp only[γ,ε,or_false] at hi;subst hi;exact .inr (.inr (.inr (.inr ⟨.inl rfl,rfl,rfl,rfl⟩)))
  rw[if_neg q7] at hi
  by_cases q8:n.op=8
  ·rw[if_pos q8] at hi;simp only[γ,ε,or_false] at hi;subst hi;exact .inr (.inr (.inr (.inr ⟨.inr rfl,rfl,rfl,rfl⟩)))
  rw[if_neg q8] at hi
  have hz:∀s k,cg n s k=if n.op=4 then s+2*(k-1) else if n.op=6 then s+2 else if n.op=5 then(if n.mx=-1 then n.mn.toNat*s+s+2 else n.mn.toNat*s+(n.mx.toNat-n.mn.toNat)*(s+1)) else s:=by
   intro s k;unfold cg;rw[if_neg z0]
  by_cases q3:n.op=3
  ·rw[if_pos q3] at hi;rw[hz,if_neg z0,if_neg z0,if_neg z0];exact hc b i hi
  rw[if_neg q3] at hi
  by_cases q4:n.op=4
  ·rw[if_pos q4] at hi;have QC:cg n ks.sz ks.len=ks.sz+2*(ks.len-1):=by rw[hz,if_pos q4]
   rw[QC] at hi⊢;exact x_ ks b (b+(ks.sz+2*(ks.len-1))) aT.2 (fun n hn=>pI n (π _ hn)) (κ _) i hi
  rw[if_neg q4] at hi
  by_cases q5:n.op=5
  ·rw[if_pos q5] at hi;rw[hz,if_neg q4,if_neg z0,if_pos q5];unfold rr at hi
   by_cases qx:n.mx=-1
   ·rw[if_pos qx] at hi⊢
    rcases η.1 hi with hi|hi
    ·exact(rz hc _ _ i hi).mono (κ _) z0
    ·rcases γ.1 hi with rfl|hi
     ·exact dU.sp z0 z0
     ·rcases η.1 hi with hi|hi
      ·exact(hc _ i hi).mono z0 z0
      ·simp only[γ,ε,or_false] at hi;subst hi;exact dU.jp z0
   ·rw[if_neg qx] at hi⊢
    rcases η.1 hi with hi|hi
    ·exact(rz hc _ _ i hi).mono (κ _) z0
    ·exact xc (fun s h1 h2=>dU.sp z0 z0) hc _ _ z0 z0 i hi
  rw[if_neg q5] at hi
  by_cases q6:n.op=6
  ·rw[if_pos q6] at hi;rw[hz,if_neg q4,if_pos q6]
   rcases γ.1 hi with rfl|hi
   ·exact dU.save z0
   ·rcases η.1 hi with hi|hi
    ·exact(hc _ i hi).mono z0 z0
    ·simp only[γ,ε,or_false] at hi;subst hi;exact dU.save z0
  ·rw[if_neg q6] at hi;cases hi
theorem x0:∀(ts:bU) (b:Nat),ts.ok→Kn ts.flat→∀i∈iD ts b,dU b (b+ts.sz) i
 | .nil,b,_,_,i,hi=>by simp[iD] at hi
 | .cons t ts,b,aT,pI,i,hi=>by
  simp only[bU.ok] at aT;simp only[bU.flat] at pI;simp only[iD] at hi;simp only[bU.sz]
  rcases η.1 hi with hi|hi
  ·exact(ml t b aT.1 (fun n hn=>pI n (Qa5 _ hn)) i hi).mono (κ _) z0
  ·exact(x0 ts _ aT.2 (fun n hn=>pI n (Qa0 _ hn)) i hi).mono z0 z0
theorem x_:∀(ts:bU) (b e:Nat),ts.ok→Kn ts.flat→b+(ts.sz+2*(ts.len-1))≤e→∀i∈f_ (pF e) ts b,dU b e i
 | .nil,b,e,_,_,_,i,hi=>by simp[f_] at hi
 | .cons t ts,b,e,aT,pI,he,i,hi=>by
  simp only[bU.ok] at aT;simp only[bU.flat] at pI;simp only[f_] at hi;simp only[bU.sz,bU.len] at he;have h1:Kn t.flat:=fun n hn=>pI n (Qa5 _ hn);have h2:Kn ts.flat:=fun n hn=>pI n (Qa0 _ hn)
  by_cases q:ts.len=0
  ·rw[if_pos q] at hi;exact(ml t b aT.1 h1 i hi).mono (κ _) z0
  ·rw[if_neg q] at hi
   rcases γ.1 hi with rfl|hi
   ·exact dU.sp z0 z0
   ·rcases η.1 hi with hi|hi
    ·exact(ml t _ aT.1 h1 i hi).mono z0 z0
    ·rcases γ.1 hi with rfl|hi
     ·exact dU.jp z0
     ·exact(x_ ts _ e aT.2 h2 z0 i hi).mono z0 z0
end
inductive Path (C:List aL):Nat→Nat→Prop where
 |refl (u:Nat):Path C u u
 |step {u v w:Nat} {i:aL} (h:C[u]?=some i) (hn:(v:Int)∈bR u i) (p:Path C v w):Path C u w
variable{v:Nat}{C:List aL}
theorem Path.trans {w:Nat} (h:Path C u v) (g:Path C v w):Path C u w:=by
 induction h with
 |refl=>exact g
 |step h hn _ ih=>exact .step h hn (ih g)
theorem Path.Du (h:C[u]?=some i) (ho:i.op≠2∧i.op≠3∧i.op≠7):Path C u (u+1):=
 .step h (by unfold bR;rw[if_neg ho.1,if_neg ho.2.1,if_neg ho.2.2];exact ν ..) (.refl _)
theorem Path.jp (h:C[u]?=some (pF e)):Path C u e:=
 .step h (by show(e:Int)∈bR u (dJ 3 (e:Nat) 0 []);unfold bR;rw[if_neg (show¬(dJ 3 (e:Nat) 0 []).op=2 by show¬(3:Int)=2;decide),if_pos (show(dJ 3 (e:Nat) 0 []).op=3 from rfl)];exact ν ..) (.refl _)
theorem Path.sp (h:C[u]?=some (rh s o lz)):Path C u (s+1)∧Path C u o:=by
 have hn:bR u (rh s o lz)=[(rh s o lz).x,(rh s o lz).y]:=by
  unfold bR;rw[if_pos (by cases lz<;>rfl)]
 cases lz
 ·exact⟨.step h (by rw[hn];exact ν ..) (.refl _),.step h (by rw[hn];exact π _ (ν ..)) (.refl _)⟩
 ·exact⟨.step h (by rw[hn];exact π _ (ν ..)) (.refl _),.step h (by rw[hn];exact ν ..) (.refl _)⟩
theorem ry {C:List aL} {c:Nat→List aL} {z:Nat} (hl:∀b,(c b).length=z) (hc:∀b,h_ C b (c b)→Path C b (b+z)):∀k b,h_ C b (gO c z k b)→Path C b (b+k*z)
 |0,b,_=>by rw[Qak];exact .refl _
 |k+1,b,h=>by
  rw[gO] at h;have h2:=h.right;rw[hl] at h2;have:=ry hl hc k (b+z) h2;rw[Qa3,show b+(k*z+z)=b+z+k*z by omega];exact(hc b h.left).trans this
theorem Gy: ∀ (m : Nat) (t : Tr), t.flat.length ≤ m → ∀ b : Nat, t.ok → h_ C b (aU t b) → Path C b (b + t.sz) := by
  intro m
  induction m with
  | zero => intro t h; have := t.j_; omega
  | succ m ih =>
    rintro ⟨n, ks⟩ hm b aT h
    simp only [Tr.flat, δ] at hm
    simp only [Tr.ok] at aT
    have hcat : ∀ (ts : bU) (b : Nat), ts.flat.length ≤ m → ts.ok → h_ C b (iD ts b) → Path C b (b + ts.sz) := by
      intro ts
      induction ts using bU.rec (motive_1 := fun _ => True) with
      | mk => trivial
      | nil => intro b _ _ _; exact .refl _
      | cons t ts _ EL =>
        intro b h1 h2 h3
        simp only [bU.flat, θ] at h1
        simp only [bU.ok] at h2
        simp only [iD] at h3
        have h4 := h3.right
        rw [c8 t b h2.1] at h4
        have h5 := EL (b + t.sz) z0 h2.2 h4
        simp only [bU.sz]
        rw [← AT]
        exact (ih t z0 b h2.1 h3.left).trans h5
    obtain ⟨mK, kE⟩ := aT
    obtain ⟨_, hq⟩ := mK
    have jx := fun b => qG ks b kE
    simp only [aU] at h
    simp only [Tr.sz]
    have hz : ∀ s k, cg n s k = if n.op = 2 ∨ n.op = 7 ∨ n.op = 8 then 1 else if n.op = 4 then s + 2 * (k - 1) else if n.op = 6 then s + 2 else if n.op = 5 then (if n.mx = -1 then n.mn.toNat * s + s + 2 else n.mn.toNat * s + (n.mx.toNat - n.mn.toNat) * (s + 1)) else s := fun s k => rfl
    rw [hz]
    by_cases q2 : n.op = 2
    · rw [if_pos q2] at h
      rw [if_pos (.inl q2)]
      exact Path.Du h.head (by show (1 : Int) ≠ 2 ∧ (1 : Int) ≠ 3 ∧ (1 : Int) ≠ 7; decide)
    rw [if_neg q2] at h
    by_cases q7 : n.op = 7
    · rw [if_pos q7] at h
      rw [if_pos (.inr (.inl q7))]
      exact Path.Du h.head (by show (5 : Int) ≠ 2 ∧ (5 : Int) ≠ 3 ∧ (5 : Int) ≠ 7; decide)
    rw [if_neg q7] at h
    by_cases q8 : n.op = 8
    · rw [if_pos q8] at h
      rw [if_pos (.inr (.inr q8))]
      exact Path.Du h.head (by show (6 : Int) ≠ 2 ∧ (6 : Int) ≠ 3 ∧ (6 : Int) ≠ 7; decide)
    rw [if_neg q8] at h
    rw [if_neg z0]
    by_cases q3 : n.op = 3
    · rw [if_pos q3] at h
      rw [if_neg z0, if_neg z0, if_neg z0]
      exact hcat ks b z0 kE h
    rw [if_neg q3] at h
    by_cases q4 : n.op = 4
    · rw [if_pos q4] at h
      have QC : cg n ks.sz ks.len = ks.sz + 2 * (ks.len - 1) := by rw [hz, if_neg z0, if_pos q4]
      rw [QC] at h
      rw [if_pos q4]
      cases ks with
      | nil => simp only [bU.len] at hq; omega
      | cons t ts =>
        simp only [bU.len] at hq
        simp only [bU.flat, θ] at hm
        simp only [bU.ok] at kE
        simp only [f_] at h
        rw [if_neg z0] at h
        have h1 := (Path.sp h.head).1
        have h2 := ih t z0 (b + 1) kE.1 h.tail.left
        have h3 := h.tail.right
        rw [c8 t _ kE.1] at h3
        exact h1.trans (h2.trans (Path.jp h3.head))
    rw [if_neg q4] at h
    rw [if_neg q4]
    by_cases q5 : n.op = 5
    · rw [if_pos q5] at h
      rw [if_neg z0, if_pos q5]
      unfold rr at h
      by_cases qx : n.mx = -1
      · rw [if_pos qx] at h ⊢
        have h1 := ry jx (fun b hb => hcat ks b z0 kE hb) _ _ h.left
        have h2 := h.right
        rw [lB jx] at h2
        have h3 := (Path.sp h2.head).2
        rw [show b + (n.mn.toNat * ks.sz + ks.sz + 2) = b + n.mn.toNat * ks.sz + ks.sz + 2 by omega]
        exact h1.trans h3
      · rw [if_neg qx] at h ⊢
        have h1 := ry jx (fun b hb => hcat ks b z0 kE hb) _ _ h.left
        have h2 := h.right
        rw [lB jx] at h2
        by_cases hd : n.mx.toNat - n.mn.toNat = 0
        · rw [hd, Qak, Nat.add_zero]; exact h1
        · obtain ⟨d, hd2⟩ : ∃ d, n.mx.toNat - n.mn.toNat = d + 1 := ⟨n.mx.toNat - n.mn.toNat - 1, by omega⟩
          rw [hd2] at h2 ⊢
          rw [gA] at h2
          have h3 := (Path.sp h2.head).2
          rw [← AT]
          exact h1.trans h3
    rw [if_neg q5] at h
    by_cases q6 : n.op = 6
    · rw [if_pos q6] at h
      rw [if_pos q6]
      have h1 : Path C b (b + 1) := Path.Du h.head (by show (4 : Int) ≠ 2 ∧ (4 : Int) ≠ 3 ∧ (4 : Int) ≠ 7; decide)
      have h2 := hcat ks (b + 1) z0 kE h.tail.left
      have h3 := h.tail.right
      rw [jx] at h3
      have h4 : Path C (b + 1 + ks.sz) (b + 1 + ks.sz + 1) := Path.Du h3.head (by show (4 : Int) ≠ 2 ∧ (4 : Int) ≠ 3 ∧ (4 : Int) ≠ 7; decide)
      rw [show b + (ks.sz + 2) = b + 1 + ks.sz + 1 by omega]
      exact h1.trans (h2.trans h4)
    · have Bu : ks.len = 0 := by omega
      have := bU.len_nil Bu
      subst this
      rw [if_neg q6, if_neg q5]
      exact .refl _
theorem DA {code:List aL} {I:Nat→Prop} (hI:∀u i,I u→code[u]?=some i→∀v∈bR u i,I v.toNat):∀(f:Nat) (seen:List Bool) (ga:List Int),(∀v∈ga,I v.toNat)→(∀u:Nat,seen[u]?=some true→I u)→∀u:Nat,(zM code f seen ga)[u]?=some true→I u
 |0,seen,ga,_,h2,u,h=>h2 u h
 |f+1,seen,[],_,h2,u,h=>h2 u h
 |f+1,seen,v::ga,h1,h2,u,h=>by
  have hv:=h1 v (ν ..);have hs:∀w∈ga,I w.toNat:=fun w hw=>h1 w (π _ hw);unfold zM at h
  split at h
  ·split at h
   ·rename_i i hi;refine DA hI f _ _ (fun w hw=>?_) (fun w hw=>?_) u h
    ·rcases η.1 hw with hw|hw
     ·exact hI _ i hv hi w (Ψ.1 hw)
     ·exact hs w hw
    ·by_cases he:v.toNat=w
     ·rw[←he];exact hv
     ·rw[χ he] at hw;exact h2 w hw
   ·exact h2 u h
  ·exact DA hI f _ _ hs h2 u h
theorem FU (hcl:jL code) (iA:0≤start∧start<(code.length:Int)) (p:Path code u v):(br code start)[u]?=some true→(br code start)[v]?=some true:=by
 obtain⟨ha,_,_,_⟩:=pq hcl iA
 induction p with
 |refl=>exact id
 |@step u v w i h hn _ ih=>
  intro hu;refine ih ?_
  rcases ha u i hu h _ hn with hs|hs
  ·exact ew.2 hs
  ·cases hs
theorem AE (hcl:jL code) (hs:s<code.length):(br code (s:Nat))[s]?=some true:=by
 obtain⟨_,_,_,hd⟩:=pq (start:=((s:Nat):Int)) hcl ⟨by omega,by omega⟩
 rcases hd with hd|hd
 ·exact ew.2 hd
 ·cases hd
mutual
theorem Tr.Uz:∀t:Tr,True
 | .mk _ _=>trivial
theorem bU.Uz:∀t:bU,True
 | .nil=>trivial
 | .cons _ _=>trivial
end
theorem Ho {n:eE} {g:Int} (h:(gM n g).2=true) (h2:n.op=2):eN n.rs=true:=by
 unfold gM at h
 split at h
 ·cases h
 ·rw[if_neg (show¬(n.op=1∨n.op=7∨n.op=8) by omega)] at h;have h:(n.kids==0 &&eN n.rs)=true:=h;rw[IS] at h;exact h.2
theorem EG {l:List eE} {h:Nat→Nat→Option (Nat×Nat)} (ih:∀at_ g r,h at_ g=some r→at_≤r.1∧∀j n,at_≤j→j<r.1→l[j]?=some n→n.op=2→eN n.rs=true):∀k at_ g r,lI h k at_ g=some r→at_≤r.1∧∀j n,at_≤j→j<r.1→l[j]?=some n→n.op=2→eN n.rs=true
 |0,at_,g,r,e=>by
  simp only[lI,IN.injEq] at e;subst e;exact⟨κ _,fun j n h1 h2=>by simp only at h2;omega⟩
 |k+1,at_,g,r,e=>by
  unfold lI at e
  cases hq:h at_ g with
  |none=>rw[hq] at e;cases e
  |some q=>
   rw[hq] at e;obtain⟨t1,t2⟩:=ih _ _ _ hq;obtain⟨u1,u2⟩:=EG ih k _ _ _ e;refine⟨Nat.le_trans t1 u1,fun j n h1 h2 hj ho=>?_⟩
   by_cases hjq:j<q.1
   ·exact t2 j n h1 hjq hj ho
   ·exact u2 j n z0 h2 hj ho
theorem HX {l:List eE}:∀f at_ g r,jX l f at_ g=some r→at_≤r.1∧∀j n,at_≤j→j<r.1→l[j]?=some n→n.op=2→eN n.rs=true
 |0,_,_,_,e=>by simp[jX] at e
 |f+1,at_,g,r,e=>by
  unfold jX at e
  cases hn:l[at_]? with
  |none=>rw[hn] at e;cases e
  |some n=>
   rw[hn] at e;simp only at e
   split at e
   ·rename_i hs;obtain⟨u1,u2⟩:=EG (HX f) _ _ _ _ e;refine⟨by omega,fun j m h1 h2 hj ho=>?_⟩
    by_cases hja:j=at_
    ·subst hja;rw[hn] at hj;cases hj;exact Ho hs ho
    ·exact u2 j m z0 h2 hj ho
   ·cases e
theorem Hy {l:List eE} (h:iR l=true):Kn l:=by
 unfold iR at h;simp only[IS] at h;obtain⟨_,h⟩:=h
 split at h
 ·rename_i r hr;rw[decide_eq_true_eq] at h;obtain⟨_,h2⟩:=HX _ _ _ _ hr;intro n hn ho;obtain⟨j,hj⟩:=φ hn;exact h2 j n (Nat.zero_le _) (by rw[h];exact bc hj) hj ho
 ·cases h
structure Ps (n0 r0:Nat) (C:List aL) (B:List Int) (k:Nat):Prop where
 bl:B.length=k
 fs:0<k→B[0]?=some ((n0:Nat):Int)
 el:∀j,j<k→∃(t:Tr) (b:Nat),t.ok∧Kn t.flat∧B[j]?=some (b:Int)∧n0≤b∧(∀b':Int,B[j+1]?=some b'→b'=((b+t.sz+3:Nat):Int))∧(j+1=k→n0+C.length=b+t.sz+3)∧∃pre post,C=pre++gb t b (r0+j)++post∧n0+pre.length=b
 al:∀i q,C[i]?=some q→∃j,j<k∧∃(t:Tr) (b:Nat),B[j]?=some (b:Int)∧t.ok∧Kn t.flat∧b≤n0+i∧n0+i<b+t.sz+3∧b+t.sz+3≤n0+C.length∧q∈gb t b (r0+j)∧(gb t b (r0+j))[n0+i-b]?=some q
theorem vT:∀(ls:List (List eE)) (r:Nat) (c:List aL) (s:List Int),(gg ls r c s).e=0→∃C B,(gg ls r c s).code=c++C∧(gg ls r c s).ak=s++B∧Ps c.length r C B ls.length
 |[],r,c,s,h=>by
  rw[DH];exact⟨[],[],by simp,by simp,rfl,fun h=>by simp at h,fun j hj=>by simp at hj,fun i q hi=>by simp at hi⟩
 |l::ls,r,c,s,h=>by
  rw[gg] at h⊢
  by_cases hr:iR l=false
  ·rw[if_pos hr] at h;cases h
  rw[if_neg hr] at h⊢;rw[Bool.not_eq_false] at hr
  by_cases hb:400<c.length+min (dq l).sz 401+3
  ·rw[if_pos hb] at h;cases h
  rw[if_neg hb] at h⊢;obtain⟨t1,t2⟩:=yl hr;have pI:Kn (dq l).flat:=by rw[t2];exact Hy hr
  have hlen:=nN (b:=c.length) (r:=r) t1;obtain⟨C,B,h1,h2,h3⟩:=vT ls (r+1) _ _ h;rw[θ,hlen] at h3;refine⟨gb (dq l) c.length r++C,((c.length:Nat):Int)::B,by rw[h1,τ],by rw[h2,τ];rfl,by simp[h3.bl],fun _=>rfl,fun j hj=>?_,fun i q hi=>?_⟩
  ·cases j with
   |zero=>
    refine⟨dq l,c.length,t1,pI,rfl,κ _,fun b' eW=>?_,fun OO=>?_,[],C,by simp,by simp⟩
    ·simp only[Ξ,Pe] at eW;have hB:=h3.bl;have hlt:=bc eW;rw[h3.fs z0] at eW;cases eW
     congr 1
    ·simp only[δ] at OO;have Cc:ls.length=0:=by omega
     have hC:C=[]:=by
      cases hc:C with
      |nil=>rfl
      |cons q C'=>
       obtain⟨j,hj,_⟩:=h3.al 0 q (by rw[hc];rfl);omega
     rw[hC,Qac,hlen];omega
   |succ j=>
    simp only[δ] at hj;obtain⟨t,b,q1,q2,q3,q4,q5,q6,pre,post,q7,q8⟩:=h3.el j z0;refine⟨t,b,q1,q2,q3,by omega,q5,fun OO=>?_,gb (dq l) c.length r++pre,post,?_,?_⟩
    ·simp only[δ] at OO;have:=q6 z0;rw[θ,hlen];omega
    ·rw[q7,show r+1+j=r+(j+1) by omega];simp only[τ]
    ·rw[θ,hlen];omega
  ·by_cases hil:i<(gb (dq l) c.length r).length
   ·rw[ι hil] at hi;refine⟨0,by simp,dq l,c.length,rfl,t1,pI,by omega,by omega,by rw[θ,hlen];omega,ψ hi,?_⟩;rw[show c.length+i-c.length=i by omega];exact hi
   ·rw[μ z0] at hi;obtain⟨j,q1,t,b,q2,q3,q4,q5,q6,q7,q8,q9⟩:=h3.al _ q hi;rw[hlen] at q5 q6 q9 hil;refine⟨j+1,by simp only[δ];omega,t,b,q2,q3,q4,by omega,by omega,by rw[θ,hlen];omega,by rw[show r+(j+1)=r+1+j by omega];exact q8,?_⟩;rw[show r+(j+1)=r+1+j by omega,show c.length+i-b=c.length+((dq l).sz+3)+(i-((dq l).sz+3))-b by omega];exact q9
theorem Gi (h:dU lo hi i) (h1:lo≤u+1) (h2:u+1≤hi):∀v∈bR u i,(lo:Int)≤v∧v≤hi:=by
 intro v hv;unfold bR at hv
 rcases h with⟨a,_⟩|⟨a,_,c,d⟩|⟨a,_,_,d⟩|⟨a,_⟩|⟨a,_⟩
 ·rw[if_neg z0,if_neg z0,if_neg z0] at hv;simp only[γ,ε,or_false] at hv;omega
 ·rw[if_pos a] at hv;simp only[γ,ε,or_false] at hv
  rcases hv with rfl|rfl<;>omega
 ·rw[if_neg z0,if_pos a] at hv;simp only[γ,ε,or_false] at hv;omega
 ·rw[if_neg z0,if_neg z0,if_neg z0] at hv;simp only[γ,ε,or_false] at hv;omega
 ·rw[if_neg z0,if_neg z0,if_neg z0] at hv;simp only[γ,ε,or_false] at hv;omega
theorem BD {n ns pc:Nat} (h:dU lo hi i) (h1:hi<n) (h2:pc+1<n):cE n ns pc i=true:=by
 have o0:∀v:Int,(lo:Int)≤v→v≤hi→kC v n=true:=fun v a b=>ek.2 ⟨by omega,by omega⟩;have hd:decide (((pc+1:Nat):Int)<n)=true:=by rw[decide_eq_true_eq];omega
 unfold cE
 rcases h with⟨a,b,c,d⟩|⟨a,b,c,d⟩|⟨a,b,c,d⟩|⟨a,b,c,d⟩|⟨a,b,c,d⟩
 ·rw[if_pos a,hd,b,c,d];rfl
 ·rw[if_neg z0,if_pos a,b,o0 _ c.1 c.2,o0 _ d.1 d.2];rfl
 ·rw[if_neg z0,if_neg z0,if_pos a,b,c,o0 _ d.1 d.2];rfl
 ·rw[if_neg z0,if_neg z0,if_neg z0,if_pos a,b,c,hd,ek.2 ⟨d.1,d.2⟩];rfl
 ·rw[if_neg z0,if_neg z0,if_neg z0,if_neg z0,if_pos a,b,c,hd,d];rfl
theorem rq {t:Tr} {b r:Nat} {q:aL} (h1:t.ok) (h2:Kn t.flat) (h:(gb t b r)[o]?=some q):(o<t.sz+2∧dU b (b+t.sz+2) q)∨(o=t.sz+2∧q=dJ 7 (r:Nat) 0 []):=by
 have hl:=c8 t (b+1) h1;have hA:gb t b r=(dJ 4 0 0 []::(aU t (b+1)++[dJ 4 1 0 []]))++[dJ 7 (r:Nat) 0 []]:=by unfold gb;simp
 have hAl:(dJ 4 0 0 []::(aU t (b+1)++[dJ 4 1 0 []])).length=t.sz+2:=by simp[hl]
 rw[hA] at h
 by_cases ho:o<t.sz+2
 ·rw[ι z0] at h;refine .inl ⟨ho,?_⟩;have hm:=ψ h
  rcases γ.1 hm with rfl|hm
  ·exact dU.save z0
  ·rcases η.1 hm with hm|hm
   ·exact(ml t (b+1) h1 h2 q hm).mono z0 z0
   ·simp only[γ,ε,or_false] at hm;subst hm;exact dU.save z0
 ·rw[μ z0,hAl] at h;have h0:=bc h;simp only[δ,ρ] at h0;have zL:o=t.sz+2:=by omega
  refine .inr ⟨zL,?_⟩;rw[zL,Nat.sub_self] at h;exact(IN.inj h).symm
structure Tt (p:Pg) (r s e:Nat):Prop where
 st:p.ak[r]?=some (s:Int)
 se:s<e
 el:e≤p.code.length
 nx:∀b':Int,p.ak[r+1]?=some b'→b'=(e:Int)
 la:r+1=p.ak.length→p.code.length=e
 mt:p.code[e-1]?=some (dJ 7 (r:Nat) 0 [])
 fi:(uF p (r:Nat))[0]?=some (s:Int)
 lt:(uF p (r:Nat))[(uF p (r:Nat)).length-1]?=some ((e-1:Nat):Int)
theorem FN {X:List Int} {a b:Int} (hp:X.Pairwise (·<·)) (ha:a∈X) (hb:b∈X) (h:∀v∈X,a≤v∧v≤b):X[0]?=some a∧X[X.length-1]?=some b:=by
 obtain⟨i,hi⟩:=φ ha;obtain⟨j,hj⟩:=φ hb;have hil:=bc hi;have nX:=bc hj
 have hlt:∀u v (x y:Int),u<v→X[u]?=some x→X[v]?=some y→x<y:=fun u v x y huv hx hy=>by
  have:=List.pairwise_iff_getElem.1 hp u v (bc hx) (bc hy) huv;have ex:X[u]'(bc hx)=x:=IN.inj ((ξ _).symm.trans hx);have ey:X[v]'(bc hy)=y:=IN.inj ((ξ _).symm.trans hy);rw[ex,ey] at this;exact this
 constructor
 ·obtain⟨x,hx⟩:∃x,X[0]?=some x:=⟨X[0]' z0,ξ _⟩
  have:=h x (ψ hx)
  by_cases h0:i=0
  ·rw[←h0];exact hi
  ·have:=hlt 0 i x a z0 hx hi;omega
 ·obtain⟨x,hx⟩:∃x,X[X.length-1]?=some x:=⟨X[X.length-1]' z0,ξ _⟩
  have:=h x (ψ hx)
  by_cases h0:j=X.length-1
  ·rw[←h0];exact hj
  ·have:=hlt j (X.length-1) b x z0 hj hx;omega
theorem CQ {parts:List (List eE)} (hl:parts.length≤8) (he:(bE parts).e=0) (hcl:(bE parts).code.length≤400):
  a7 (sQ (bE parts).code (bE parts).ak)∧(bE parts).ak.length=parts.length∧∀r,r<parts.length→∃s e,Tt (sQ (bE parts).code (bE parts).ak) r s e:=by
 have kh:bE parts=gg parts 0 [] []:=by unfold bE;rw[if_neg z0]
 rw[kh] at he hcl⊢;obtain⟨C,B,h1,h2,h3⟩:=vT parts 0 [] [] he;simp only[Qaf] at h1 h2;simp only[ρ] at h3;rw[h1] at hcl;rw[h1,h2];have T7:=h3.bl
 have hsh:∀pc i,C[pc]?=some i→cE C.length B.length pc i=true:=by
  intro pc i hi;obtain⟨j,q1,t,b,q2,q3,q4,q5,q6,q7,q8,q9⟩:=h3.al pc i hi;rw[Ξ] at q9
  rcases rq q3 q4 q9 with⟨g1,g2⟩|⟨g1,g2⟩
  ·exact BD g2 z0 z0
  ·rw[g2];have:kC ((j:Nat):Int) B.length=true:=ek.2 ⟨by omega,by omega⟩;unfold cE dJ;simp[this]
 have RQ:jL C:=oh (p:=sQ C B) hsh
 have Iy:∀r,r<parts.length→∃s e:Nat,B[r]?=some (s:Int)∧s<e∧e≤C.length∧(∀b':Int,B[r+1]?=some b'→b'=(e:Int))∧(r+1=parts.length→C.length=e)∧C[e-1]?=some (dJ 7 (r:Nat) 0 [])∧(∀u:Nat,(br C (s:Nat))[u]?=some true→s≤u∧u<e)∧(br C (s:Nat))[s]?=some true∧(br C (s:Nat))[e-1]?=some true∧∀u i,s≤u→u<e→C[u]?=some i→i.op=7→i.x=(r:Int):=by
  intro r hr;obtain⟨t,b,q1,q2,q3,q4,q5,q6,pre,post,q7,q8⟩:=h3.el r hr;rw[Ξ] at q6 q8;rw[Ξ] at q7;have wv:=nN (b:=b) (r:=r) q1;have PX:C.length=b+(t.sz+3)+post.length:=by rw[q7,θ,θ,wv,q8]
  have kH:∀u,b≤u→u<b+t.sz+3→C[u]?=(gb t b r)[u-b]?:=fun u g1 g2=>by
   rw[q7,τ,μ z0,q8,ι z0]
  have mc:h_ C b (gb t b r):=⟨post,by rw[q7,τ,←q8,List.drop_left]⟩
  have o0:∀u:Nat,(br C (b:Nat))[u]?=some true→b≤u∧u<b+t.sz+3:=by
   unfold br;refine DA (I:=fun u=>b≤u∧u<b+t.sz+3) (fun u i hu hi v hv=>?_) _ _ _ (fun v hv=>?_) (fun u hu=>?_)
   ·rw[kH u hu.1 hu.2] at hi
    rcases rq q1 q2 hi with⟨g1,g2⟩|⟨g1,g2⟩
    ·have:=Gi (u:=u) g2 z0 z0 v hv;omega
    ·rw[g2] at hv;have:bR u (dJ 7 (r:Nat) 0 [])=[]:=by unfold bR dJ;simp
     rw[this] at hv;cases hv
   ·simp only[γ,ε,or_false] at hv;subst hv;rw[υ];omega
   ·rw[AN] at hu
    split at hu<;>cases hu
  have hs:=AE (s:=b) RQ z0
  have hmt:C[b+t.sz+3-1]?=some (dJ 7 (r:Nat) 0 []):=by
   rw[kH _ z0 z0];unfold gb;have za:=c8 t (b+1) q1;rw[show b+t.sz+3-1-b=(t.sz+1)+1 by omega,Pe,μ z0,za,show t.sz+1-t.sz=1 by omega]
   rfl
  have Q5:Path C b (b+t.sz+3-1):=by
   unfold gb at mc;have p1:Path C b (b+1):=Path.Du mc.head (by show(4:Int)≠2∧(4:Int)≠3∧(4:Int)≠7;decide);have p2:=Gy (C:=C) _ t (κ _) (b+1) q1 mc.tail.left;have h4:=mc.tail.right;rw[c8 t _ q1] at h4;have p3:Path C (b+1+t.sz) (b+1+t.sz+1):=Path.Du h4.head (by show(4:Int)≠2∧(4:Int)≠3∧(4:Int)≠7;decide);rw[show b+t.sz+3-1=b+1+t.sz+1 by omega];exact p1.trans (p2.trans p3)
  refine⟨b,b+t.sz+3,q3,by omega,by omega,fun b' eW=>q5 b' eW,q6,hmt,o0,hs,FU RQ ⟨by omega,by omega⟩ Q5 hs,fun u i g1 g2 hi ho=>?_⟩;rw[kH u g1 g2] at hi
  rcases rq q1 q2 hi with⟨_,g3⟩|⟨_,g3⟩
  ·rcases g3 with⟨a,_⟩|⟨a,_⟩|⟨a,_⟩|⟨a,_⟩|⟨a,_⟩<;>omega
  ·rw[g3];rfl
 have hR:a7 (sQ C B):=by
  refine⟨hcl,by show B.length≤8;omega,hsh,fun v hv=>?_,fun r s hs pc i B' QU hi ho=>?_⟩
  ·obtain⟨r,hr⟩:=φ (show v∈B from hv);obtain⟨s,e,g1,g2,g3,_⟩:=Iy r (by rw[←T7];exact bc hr);rw[g1] at hr;cases hr;show(0:Int)≤(s:Int)∧(s:Int)<(C.length:Int);omega
  ·have hs:B[r]?=some s:=hs;obtain⟨s',e,g1,g2,g3,g4,g5,g6,g7,g8,g9,g10⟩:=Iy r (by rw[←T7];exact bc hs);rw[g1] at hs;cases hs;obtain⟨k1,k2⟩:=g7 pc QU;exact g10 pc i k1 k2 hi ho
 refine⟨hR,by rw[T7],fun r hr=>?_⟩;obtain⟨s,e,g1,g2,g3,g4,g5,g6,g7,g8,g9,g10⟩:=Iy r hr
 have YY:uF (sQ C B) (r:Nat)=uP 0 (br C (s:Nat)):=by
  unfold uF;have hi:kC ((r:Nat):Int) (sQ C B).ak.length=true:=ek.2 ⟨by omega,by show((r:Nat):Int)<(B.length:Nat);omega⟩;rw[bY hR,hi]
  have PU:(sQ C B).ak.getD ((r:Nat):Int).toNat 0=(s:Int):=by
   rw[υ,List.getD_eq_getElem?_getD];show(B[r]?).getD 0=_;rw[g1];rfl
  rw[PU];rfl
 have M7:=FN (xf (br C (s:Nat)) 0) (a:=(s:Int)) (b:=((e-1:Nat):Int)) (lE.2 ⟨s,g8,by rw[Ξ]⟩) (lE.2 ⟨e-1,g9,by rw[Ξ]⟩) (fun v hv=>by
  obtain⟨k,k1,k2⟩:=lE.1 hv;have:=g7 k k1
  omega)
 exact⟨s,e,g1,g2,g3,fun b' eW=>g4 b' eW,fun fU=>g5 (by rw[←T7];exact fU),g6,by rw[YY];exact M7.1,by rw[YY];exact M7.2⟩
def oL (fr:Go.V.Fr) (k:Nat):Go.V.D:=Go.V.nth .bo fr.loc k
theorem xW:∀(ls:List (List eE)) (r:Nat) (c:List aL) (s:List Int),(gg ls r c s).e≠0→(gg ls r c s).code=[]∧(gg ls r c s).ak=[]
 |[],r,c,s,h=>by rw[sk] at h;exact absurd rfl h
 |l::ls,r,c,s,h=>by
  rw[gg] at h⊢
  split
  ·exact⟨rfl,rfl⟩
  ·rename_i h1;rw[if_neg h1] at h
   split
   ·exact⟨rfl,rfl⟩
   ·rename_i h2;rw[if_neg h2] at h;exact xW ls _ _ _ h
variable{ls:List (List eE)}
theorem tf (h:(bE ls).e≠0):(bE ls).code=[]∧(bE ls).ak=[]:=by
 unfold bE at h⊢
 split
 ·exact⟨rfl,rfl⟩
 ·rename_i h1;rw[if_neg h1] at h;exact xW _ _ _ _ h
theorem Cs:a7 (sQ [] []):=⟨by simp[sQ],by simp[sQ],fun pc i h=>by simp[sQ] at h,fun v h=>by simp[sQ] at h,fun r s h=>by simp[sQ] at h⟩
theorem wO (hl:ls.length≤8) (hcl:(bE ls).code.length≤400):a7 (sQ (bE ls).code (bE ls).ak):=by
 by_cases he:(bE ls).e=0
 ·exact(CQ hl he hcl).1
 ·rw[(tf he).1,(tf he).2];exact Cs
variable{x:D}{s0:St}{ps:List (List UInt8)}
theorem CS (hx:Qal s0 1 x (ps.map Ci)) (hl:ps.length≤1048576) (hb:∀b∈ps,b.length≤1048576):∃d,Ev pv 4 [x] s0 d s0∧∃(ls:List (List eE)) (R:wm),bE ls=R∧ls.length≤8∧R.code.length≤400∧d=.tup [(sQ R.code R.ak).d,.bool (R.e==0)]∧(sQ R.code R.ak).ok:=by
 refine Ev.CL rfl fi4 rfl rfl rfl ?_;refine zE ?_;obtain⟨aR,hF,hH⟩:=ri s0;generalize ae .ro s0=S at*;have hx:=Arg.of hx aR;refine zQ 2 ?_;refine qa hH fun k2 st hk2 hH=>?_;refine zQ 11 ?_;have hH:Has s0.bs.length S st (.aC .nul 1 (([]:List (List eE)).map fw)::.box k2 (.mem 0 false [.nul,.nul])::[]):=hH.fG 1;refine zQ 1 ?_;refine ag.loop (fun mm fr st=>∃(i:Nat) (ld:D) (parts:List (List eE)),fr.clean=⟨11,[x,oL fr 1,.ptr k2 0 0,.bool false,ld,.int .i64 (i:Nat),oL fr 6,oL fr 7,oL fr 8,oL fr 9,oL fr 10],[]⟩∧Has s0.bs.length S st [.aC ld 1 (parts.map fw),.box k2 (.mem 0 false [.nul,.nul])]∧(i+mm=8)∧(∀l∈parts,(∀n∈l,zT n)∧l.length≤500)∧(parts.length≤i)) (8) ?_ ?_
 ·exact⟨0,.nul,[],rfl,hH,by omega,fun l hl=>(by cases hl),by simp⟩
 rintro mm fr st ⟨i,ld,parts,hfr,hH,hi,hp,ia⟩;rw[hfr];clear hfr;generalize oL fr=ee;clear fr;refine zQ 2 ?_;refine ag.da 19 (.bool (decide (((i:Nat):Int)<((ps.length:Nat):Int)) &&decide (((i:Nat):Int)<8))) [] ?_ (fun ff tmp cI=>?_)
 ·refine zQ 2 ?_;refine qn ?_;simp only[Θ];refine zQ 2 ?_;refine ab.two 16 rfl (fun lR=>?_) (fun lR=>?_)
  ·refine zQ 3 ?_;refine Ω (aO ?_ ?_)
   ·dsimp only[aI,OF,nth,u2,u1]
    all_goals(first|rfl|simp)
   ·refine zF ?_
    all_goals(simp_all;done)
  ·refine zQ 3 ?_;refine Ω (aO ?_ ?_)
   ·dsimp only[aI,OF,nth,u2,u1]
    all_goals(first|rfl|simp)
   ·refine zF ?_
    all_goals(simp_all;omega)
 refine zG ?_
 by_cases hlt:i<ps.length∧i<8
 ·obtain⟨b,OZ⟩:∃b,ps[i]?=some b:=⟨ps[i]'hlt.1,ξ _⟩
  have fU:=KK OZ;have hbl:=hb b (ψ OZ);have nu:(decide (((i:Nat):Int)<((ps.length:Nat):Int)) &&decide (((i:Nat):Int)<8))=true:=by rw[IS,decide_eq_true_eq,decide_eq_true_eq];omega
  rw[nu] at cI;refine zQ 4 ?_;obtain⟨_,aA,l,e,w,rfl,hv,rY⟩:=HQ (s0:=st) hbl;refine zQ 4 ?_;refine qr fun PB Ga=>?_;refine qR ?_;refine qv (aA) ?_;refine zQ 13 ?_;refine zI (fun he=>?_) fun he=>?_
  ·refine zQ 3 ?_;refine qh (s:=1) (vs:=[_]) hH fun k35 st aa6 hH=>?_;refine ab.ck (s:=1) hH rfl z3 z3 (by exact bt) (by exact hH.rows (by exact aJ)) rfl rfl rfl rfl rfl rfl rfl ⟨(ο rfl),(ο rfl)⟩ (fun _=>(aa rfl _)) (by simp only[δ,ρ,Θ]<;>omega) (by exact .inl hF) (fun ZP st hH=>?_);have hH:=zjqa hH;refine zQ 2 ?_;have hH:=hH.drop 1;refine zQ 5 ?_;refine⟨mm-1,by omega,⟨i+1,ZP,parts++[l],rfl,(by rw[Qae];exact hH),by omega,?_,by rw[θ];simp only[δ,ρ];omega⟩⟩;intro l' ji
   rcases η.1 ji with ji|ji
   ·exact hp l' ji
   ·simp only[γ,ε,or_false] at ji;subst ji;exact⟨hv,rY⟩
  ·refine zQ 6 ?_;exact⟨mm-1,by omega,⟨i+1,ld,parts,rfl,hH,by omega,hp,by omega⟩⟩
 ·have nu:(decide (((i:Nat):Int)<((ps.length:Nat):Int)) &&decide (((i:Nat):Int)<8))=false:=by
   rw[Bool.and_eq_false_iff,decide_eq_false_iff_not,decide_eq_false_iff_not];omega
  rw[nu] at cI;refine zQ 2 ?_;obtain⟨aA,aT,hlen⟩:=DG hp z0 (hH.rows aJ);generalize hRR:bE parts=R at*;refine zQ 3 ?_;refine qv (aA) ?_;refine zQ 4 ?_;refine qa hH fun k9 st Rw hH=>?_;refine qS hH aJ fun st hH=>?_;have hH:=zjqa hH;refine zQ 5 ?_;refine ab.aH (m:=2) hH rfl z3 (by exact aJ) (by dsimp only[Qa6,wt,List.take_succ_cons,List.take_zero,fw,tg,Pg.d,Pg.cs,sQ]<;>rfl) rfl rfl (aa rfl _) ?_;refine zQ 2 ?_;refine qS hH cU fun st hH=>?_;have hH:=zjqa hH;refine zQ 2 ?_;refine ag.ret ⟨rx,_,_,hH.dR rfl cU rfl rfl,rl aR hH (show _=some (D.tup [(sQ R.code R.ak).d,.bool (R.e==0)]) from rfl),⟨parts,R,hRR,by omega,hlen,rfl,aT⟩⟩
theorem F2 (hx:Qal s0 1 x (ps.map Ci)) (hl:ps.length≤1048576) (hb:∀b∈ps,b.length≤1048576):∃d,Ev pv 4 [x] s0 d s0∧∃(p:Pg) (ok:Bool),d=.tup [p.d,.bool ok]∧p.ok∧a7 p:=by
 obtain⟨d,aA,ls,R,rfl,VB,hcl,rfl,aT⟩:=CS (s0:=s0) hx hl hb;exact⟨_,aA,_,_,rfl,aT,wO VB hcl⟩
def kF:Nat→Nat→Nat
 |0,_=>0
 |f+1,m=>if m=0 then 0 else kF f (m/256)+1
def kB (m:Nat):Nat:=kF 8 m
def Fg:Nat→Nat→List UInt8
 |0,_=>[]
 |k+1,m=>ς (m/256^k)::Fg k m
def aZ (n:Int):List UInt8:=ς (kB n.toNat)::Fg (kB n.toNat) n.toNat
theorem MS:∀f m,kF f m≤f
 |0,_=>κ _
 |f+1,m=>by
  unfold kF
  split
  ·omega
  ·have:=MS f (m/256);omega
theorem Im (m:Nat):kB m≤8:=MS 8 m
theorem tX:∀k m,(Fg k m).length=k
 |0,_=>rfl
 |k+1,m=>by simp only[Fg,δ,tX k m]
theorem A1 (n:Int):(aZ n).length=kB n.toNat+1:=by simp only[aZ,δ,tX]
theorem bj (n:Int):(aZ n).length≤9:=by rw[A1];have:=Im n.toNat;omega
theorem EH:∀f m,m<256^f→m/256^kF f m=0∧∀j,j<kF f m→0<m/256^j
 |0,m,h=>by
  have:m=0:=by simpa using h
  subst this;exact⟨by simp[kF],fun j hj=>by simp[kF] at hj⟩
 |f+1,m,h=>by
  unfold kF
  split
  ·rename_i h0;subst h0;exact⟨by simp,fun j hj=>by omega⟩
  ·rename_i h0
   have hd:m/256<256^f:=by
    rw[BY] at h;exact Nat.div_lt_of_lt_mul z0
   obtain⟨h1,h2⟩:=EH f (m/256) hd;refine⟨by rw[BY,Qa2,←Qa1];exact h1,fun j hj=>?_⟩
   cases j with
   |zero=>simp;omega
   |succ j=>rw[BY,Qa2,←Qa1];exact h2 j z0
theorem EI {m:Nat} (h:m<256^8):m/256^kB m=0∧∀j,j<kB m→0<m/256^j:=EH 8 m h
def gL (u:Nat):List UInt8→Nat
 |[]=>u
 |c::l=>gL (u*256+c.toNat) l
theorem yi:∀(l:List UInt8) (u:Nat),gL u l<(u+1)*256^l.length
 |[],u=>by simp[gL]
 |c::l,u=>by
  simp only[gL,δ];have h1:=yi l (u*256+c.toNat);have h2:c.toNat<256:=c.toNat_lt;rw[BY,Qa2 (256^l.length) 256,←Nat.mul_assoc];refine Nat.lt_of_lt_of_le h1 (Qa7 _ ?_);omega
structure dB where
 at_:Nat
 e:Int
def bk (b:List UInt8) (s:dB):Int×dB:=
 if s.e≠0 then(0,s) else
 match b.drop s.at_ with
 |[]=>(0,⟨s.at_,3⟩)
 |k::rest=>
  if 8<k.toNat then(0,⟨s.at_,4⟩)
  else if rest.length<k.toNat then(0,⟨s.at_,3⟩)
  else if(0<k.toNat∧rest.head?=some 0)∨9223372036854775808≤gL 0 (rest.take k.toNat) then(0,⟨s.at_,4⟩)
  else((gL 0 (rest.take k.toNat):Nat),⟨s.at_+1+k.toNat,0⟩)
def bJ (b:List UInt8) (most:Int) (s:dB):Int×dB:=
 if(bk b s).2.e=0∧(bk b s).1>most then(0,⟨s.at_,2⟩) else bk b s
def dG (b:List UInt8) (s:dB):Bool×dB:=
 if(bk b s).2.e=0∧(bk b s).1>1 then(false,⟨s.at_,4⟩)
 else(decide ((bk b s).2.e=0∧(bk b s).1=1),(bk b s).2)
def eY (b:List UInt8) (most:Int) (s:dB):List UInt8×dB:=
 if(bJ b most s).2.e≠0 then([],(bJ b most s).2)
 else if((b.length:Int)-(bJ b most s).2.at_)<(bJ b most s).1 then([],⟨s.at_,3⟩)
 else((b.drop (bJ b most s).2.at_).take (bJ b most s).1.toNat,⟨(bJ b most s).2.at_+(bJ b most s).1.toNat,0⟩)
def mG (b:List UInt8) (s:dB):dB:=if s.e=0∧s.at_<b.length then⟨s.at_,5⟩ else s
def bW (b:List UInt8) (most:Int) (s:dB):Int×dB:=
 if(bJ b most s).2.e=0∧(bJ b most s).1>(b.length:Int)-(bJ b most s).2.at_ then((bJ b most s).1,⟨s.at_,3⟩) else bJ b most s
def dB.ok (b:List UInt8) (s:dB):Prop:=s.at_≤b.length
theorem dI {b:List UInt8} {s:dB} (h:s.ok b):(bk b s).2.ok b∧s.at_≤(bk b s).2.at_∧0≤(bk b s).1∧(bk b s).1<9223372036854775808∧((bk b s).2.e≠0→(bk b s).1=0∧(bk b s).2.at_=s.at_):=by
 unfold bk dB.ok at*
 split
 ·exact⟨h,κ _,by simp,by simp,fun _=>⟨rfl,rfl⟩⟩
 ·split
  ·exact⟨h,κ _,by simp,by simp,fun _=>⟨rfl,rfl⟩⟩
  ·rename_i k rest hd;have hl:=congrArg Qaj hd;simp only[List.length_drop,δ] at hl
   split
   ·exact⟨h,κ _,by simp,by simp,fun _=>⟨rfl,rfl⟩⟩
   ·split
    ·exact⟨h,κ _,by simp,by simp,fun _=>⟨rfl,rfl⟩⟩
    ·split
     ·exact⟨h,κ _,by simp,by simp,fun _=>⟨rfl,rfl⟩⟩
     ·rename_i h5;have:¬9223372036854775808≤gL 0 (rest.take k.toNat):=fun h=>h5 (.inr h);exact⟨by show s.at_+1+k.toNat≤_;omega,by show s.at_≤s.at_+1+k.toNat;omega,by simp only;omega,by simp only;omega,fun h=>absurd rfl h⟩
end Go.Proofs.YtkbacjpologjbaaGreat
namespace Go.V
def rB (x:D) (l r:Nat):D:=match x with
 | .win k aB off _ s=>.win k aB (off+l*s) (r-l) s
 | .sl es=>.sl ((es.take r).drop l)
 |d=>d
variable{s l r:Nat}{x:D}{es:List (List D)}
theorem Rows.prt {P:Pv} {st:St} (h:Rows st s x es) {t e:TypeId} (ht:P.cy t=some (.slice e)) (hs:cz P e=some s) {lo hi:Option D} (hb:bZ es.length lo hi=some (l,r)) (rX:l≤r∧r≤es.length) (st2:St):
  fM P t x lo hi st2=some (rB x l r):=by
 cases h with
 |nul=>
  simp only[fM,ht,hs,Γ];simp only[ρ] at hb;rw[hb];rfl
 |sl es h=>
  simp only[fM,ht,hs,Γ]
  have:oQ s es=true:=by
   cases es with
   |nil=>rfl
   |cons e es=>obtain⟨h1,h2⟩:=h e (ν ..);simp[oQ,h1,h2]
  rw[if_pos this];simp only[Θ] at hb;rw[hb];rfl
 |win k aB off es ar c hm hl he=>
  simp only[fM,ht,hs,Γ,if_true,hb];rfl
theorem Rows.Qc {st:St} (h:Rows st s x es) (rX:l≤r∧r≤es.length):Rows st s (rB x l r) ((es.take r).drop l):=by
 cases h with
 |nul=>simp only[rB];simp;exact .nul
 |sl es h=>
  have:=Rows.sl (st:=st) (s:=s) ((es.take r).drop l) fun e he=>h e (List.mem_of_mem_take (List.mem_of_mem_drop he))
  simpa[rB,List.map_drop,List.map_take] using this
 |win k aB off es ar c hm hl he=>
  have hlen:((es.take r).drop l).length=r-l:=by simp;omega
  have h1:l*s+(r-l)*s≤es.length*s:=by rw[←Qam];exact Qa7 s z0
  have:=Rows.win (st:=st) (s:=s) k aB (off+l*s) ((es.take r).drop l) ar c hm (by rw[hlen];omega) fun i e hi=>by
   have hil:=(List.getElem?_eq_some_iff.1 hi).1;rw[hlen] at hil;rw[List.getElem?_drop,List.getElem?_take] at hi
   split at hi
   ·have:=he (l+i) e hi;rw[Qam,←AT] at this;exact this
   ·cases hi
  rw[hlen] at this;exact this
variable{P:Pv} {ops:Array Oper} {rest:List Oper} {fr aG:Fr} {st:St} {Q:Fr→St→Prop} {ty:TypeId} {pp:String} {a:Array Edge} {g:Option (Nat×Bool)} {dst:Nat}
variable{xo:Operand}
theorem ab.prt {t e:TypeId} {lo hi:Option Operand} (hg:aD ops fr ⟨some dst,.slice t xo lo hi none,ty,pp,a,g⟩=some true) (hx:fr.ev xo=x) (hR:Rows st s x es) (ht:P.cy t=some (.slice e)) (hs:cz P e=some s) (hb:bZ es.length (lo.map fr.ev) (hi.map fr.ev)=some (l,r)) (rX:l≤r∧r≤es.length) (hp:fr.put dst (rB x l r)=aG) (h:ab P ops rest aG st Q):ab P ops (⟨some dst,.slice t xo lo hi none,ty,pp,a,g⟩::rest) fr st Q:=by
 refine v8 hg rfl (d:=rB x l r) (st1:=st) ?_ hp h;simp only[dN,hx,hR.prt ht hs hb rX,Option.map_some]
variable{N:Nat} {S:St} {H:List a8}
variable{j:Nat}{y:D}{ys:List (List D)}{z:List D}
theorem Has.Fj (hH:Has N S st H) (hj:H[j]?=some (.aC x s es)) (jI:pk st y=some (ys.length,ys.flatten)) (B_:∀e∈ys,e.length=s) {t1 t2 e:TypeId} {td:TypeDesc} {inf:TypeInfo} (h1:P.cy t1=some (.slice e)) (h2:P.cy t2=some td) (h3:fh td=false) (h4:P.info e=some inf) (h5:dc P e=some z) (h6:inf.size=s) (h7:z.length=s) (h8:0<inf.bytes∧inf.bytes≤1024) (hb1:inf.bytes=1) (o6:es.length+ys.length≤1099511627776) (hw:S.flr≤N∨refs ys.flatten=0):
  ∃x' ah,bu P .append [t1,t2] [x,y] st=some (x',ah)∧Has N S ah (H.set j (.aC x' s (es++ys)))∧(ys=[]→x'=x):=by
 have hb:(es.length+ys.length)*inf.bytes≤1099511627776:=by rw[hb1,Nat.mul_one];exact o6
 have mi:=cX B_;have hown:=hH.own hj;have hkk:=(hH.ok j _ hj).2;have hS:=hH.len;have hNS:=hH.hN;subst h6;simp only[bu,iG,h1,h2,h3,Bool.false_eq_true,if_false,h4,h5,jI,Γ];rw[if_neg (by rintro(h|h|h);exact h mi;exact absurd h z0;exact h h7)]
 have gD:∀e,H[j]?=some e→H.set j e=H:=fun e he=>by
  apply List.ext_getElem?;intro i
  by_cases hij:i=j
  ·subst hij
   have:i<H.length:=by
    rcases Nat.lt_or_ge i H.length with h'|h'
    ·exact h'
    ·rw[List.getElem?_eq_none h'] at he;cases he
   rw[ω this,he]
  ·rw[χ (fun e=>hij e.symm)]
 cases hown with
 |nul=>
  simp only[Qaf]
  by_cases h0:ys.length=0
  ·rw[if_pos h0]
   have:ys=[]:=by cases ys with|nil=>rfl|cons _ _=>simp at h0
   subst this;exact⟨.nul,st,rfl,by rw[gD _ hj];exact hH,fun _=>rfl⟩
  ·rw[if_neg h0,if_pos (by simpa using hb)];refine⟨_,_,rfl,?_,fun e=>absurd (by rw[e];rfl) h0⟩;refine hH.D2 hj (fun k hk _=>by simp only[St.push];rw[ι hk]) (by simp[St.push]) rfl rfl ?_ (fun k hk=>?_) fun k hk=>?_
   ·exact i7.win _ 0 0 ys ys.flatten (ky st _) (by rw[mi];omega) (by rw[wt,←mi,Qab]) B_
   ·simp only[a8.aC,Qa9] at hk;right;omega
   ·simp only[a8.aC,Qa9] at hk;simp only[St.push,θ,δ,ρ];omega
 |win k aB off es c hm hl hc he=>
  have hk:=hkk k (by simp only[a8.aC,Qa9]);simp only[St.mem_of hm];rw[if_neg (by rintro(h|h);exact h rfl;omega)]
  by_cases h0:ys.length=0
  ·rw[if_pos h0]
   have:ys=[]:=by cases ys with|nil=>rfl|cons _ _=>simp at h0
   subst this;simp only[Qac];exact⟨_,st,rfl,by rw[gD _ hj];exact hH,fun _=>rfl⟩
  ·rw[if_neg h0,if_pos ⟨hb,iE hH hk.1 hw⟩];refine⟨_,_,rfl,?_,fun e=>absurd (by rw[e];rfl) h0⟩;have rY:es.length+ys.length=(es++ys).length:=by simp
   have jy:(c.take (off+es.length*inf.size)).drop off=es.flatten:=by rw[List.drop_take,←hc];congr 1;omega
   rw[rY,jy];refine hH.D2 hj (fun n hn hne=>by simp only;rw[χ (fun e=>hne (by simp only[a8.aC,Qa9];omega))]) (by simp) rfl rfl ?_ (fun n hn=>?_) fun n hn=>?_
   ·have tQ:∀e∈es++ys,e.length=inf.size:=fun e h=>by
     rcases η.1 h with h|h
     ·exact he e h
     ·exact B_ e h
    have I4:=cX tQ;refine i7.win k (aB+1) 0 (es++ys) (es++ys).flatten ?_ (by rw[I4];omega) (by rw[wt,←I4,Qab]) tQ;simp only;rw[ω hk.2,List.flatten_append]
   ·simp only[a8.aC,Qa9] at hn⊢;left;omega
   ·simp only[a8.aC,Qa9] at hn;simp only[Qad];omega
variable{yo:Operand}
theorem ab.iB {t1 t2 e:TypeId} {td:TypeDesc} {inf:TypeInfo} {aG:D→Fr} (hH:Has N S st H) (hg:aD ops fr ⟨some dst,.call ⟨.builtin .append,#[xo,yo],#[t1,t2]⟩,ty,pp,a,g⟩=some true) (hx:fr.ev xo=x) (hy:fr.ev yo=y) (hj:H[j]?=some (.aC x s es)) (kD:Rows st s y ys) (h1:P.cy t1=some (.slice e)) (h2:P.cy t2=some td) (h3:fh td=false) (h4:P.info e=some inf) (h5:dc P e=some z) (h6:inf.size=s) (h7:z.length=s) (h8:0<inf.bytes∧inf.bytes≤1024) (hp:∀x',fr.put dst x'=aG x') (hb1:inf.bytes=1) (hb:es.length+ys.length≤1099511627776) (hw:S.flr≤N∨refs ys.flatten=0) (h:∀x' ah,Has N S ah (H.set j (.aC x' s (es++ys)))→ab P ops rest (aG x') ah Q):
  ab P ops (⟨some dst,.call ⟨.builtin .append,#[xo,yo],#[t1,t2]⟩,ty,pp,a,g⟩::rest) fr st Q:=by
 obtain⟨x',ah,q1,q2,q3⟩:=hH.Fj hj kD.row (fun e he=>by obtain⟨i,hi⟩:=φ he;exact kD.vO i e hi) h1 h2 h3 h4 h5 h6 h7 h8 hb1 hb hw;refine v8 hg rfl (d:=x') (st1:=ah) ?_ (hp _) (h x' ah q2);simp only[dN,Φ,Qah,hx,hy];exact q1
theorem ab.Oz {t e:TypeId} {lo co:Operand} {k1 k2:IntKind} {m:Int} {inf:TypeInfo} {aG:Nat→Fr} (hH:Has N S st H) (hg:aD ops fr ⟨some dst,.makeSlice t lo co,ty,pp,a,g⟩=some true) (hl:fr.ev lo=.int k1 0) (hc:fr.ev co=.int k2 m) (ht:P.cy t=some (.slice e)) (hi:P.info e=some inf) (hz:dc P e=some z) (hsz:inf.size=s) (mz:z.length=s) (TS:inf.bytes≤1024) (j6:0≤m∧m≤137438953472) (hp:∀k,fr.put dst (.win k 0 0 0 s)=aG k) (h:∀k ah,S.bs.length≤k→Has N S ah (.aC (.win k 0 0 0 s) s []::H)→ab P ops rest (aG k) ah Q):ab P ops (⟨some dst,.makeSlice t lo co,ty,pp,a,g⟩::rest) fr st Q:=by
 subst hsz;have hb:m*(inf.bytes:Int)≤140737488355328:=Int.le_trans (Int.mul_le_mul j6.2 (show(inf.bytes:Int)≤1024 by omega) z0 z0) (by decide);refine v8 hg rfl (d:=.win st.bs.length 0 0 0 inf.size) (st1:=st.push (.mem 0 true [])) ?_ (hp _) (h _ _ hH.len (hH.tN rfl rfl (fun e he=>by cases he)));simp only[dN,hl,hc,gR,ht,hi,hz,Γ];rw[if_pos ⟨mz,by omega,by omega,by omega,hb⟩]
 rfl
theorem Has.fx {s0 S st:St} {H:List a8} (hS:S.bs=s0.bs) (db:s0.ro≤s0.bs.length) (h:Has s0.bs.length S st H):Has s0.bs.length s0 ⟨st.bs,s0.flr,s0.ro⟩ H:=by
 refine⟨⟨fun k hk=>?_,?_,rfl,rfl⟩,κ _,db,fun i e hi=>⟨@a8.loc e st ⟨st.bs,s0.flr,s0.ro⟩ (fun _ _=>rfl) (h.ok i e hi).1,(h.ok i e hi).2⟩,h.dis⟩
 ·rw[←hS];exact h.ex.low k hk
 ·rw[←hS];exact h.ex.len
theorem Has.lD {N:Nat} {S st ah:St} {H H2:List a8} (h:Has N S st H) (h2:Has st.bs.length st ah H2):Has N S ah (H2++H):=by
 have hN:=h.hN;have hl:=h.ex.len;have oZ:=h2.ex.len;refine⟨⟨fun k hk=>?_,by omega,h2.ex.flr.trans h.ex.flr,h2.ex.ro.trans h.ex.ro⟩,hN,h.db,fun i e hi=>?_,fun i j a b hij ha hb k pO jj=>?_⟩
 ·rw[h2.ex.low k z0];exact h.ex.low k hk
 ·by_cases hlt:i<H2.length
  ·rw[ι hlt] at hi;obtain⟨h3,h4⟩:=h2.ok i e hi;exact⟨h3,fun k hk=>⟨by have:=(h4 k hk).1;omega,(h4 k hk).2⟩⟩
  ·rw[μ z0] at hi;obtain⟨h3,h4⟩:=h.ok _ e hi;exact⟨e.loc (fun k hk=>h2.ex.low k (h4 k hk).2) h3,fun k hk=>⟨(h4 k hk).1,by have:=(h4 k hk).2;omega⟩⟩
 ·by_cases h1:i<H2.length<;>by_cases h3:j<H2.length
  ·rw[ι h1] at ha;rw[ι h3] at hb;exact h2.dis i j a b hij ha hb k pO jj
  ·rw[ι h1] at ha;rw[μ z0] at hb;have:=((h2.ok _ a ha).2 k pO).1;have:=((h.ok _ b hb).2 k jj).2;omega
  ·rw[μ z0] at ha;rw[ι h3] at hb;have:=((h2.ok _ b hb).2 k jj).1;have:=((h.ok _ a ha).2 k pO).2;omega
  ·rw[μ z0] at ha hb;exact h.dis _ _ a b z0 ha hb k pO jj
theorem ab.Ji {b:List UInt8} {t1 t2 e:TypeId} {td:TypeDesc} {inf:TypeInfo} {aG:D→Fr} (hH:Has N S st H) (hg:aD ops fr ⟨some dst,.call ⟨.builtin .append,#[xo,yo],#[t1,t2]⟩,ty,pp,a,g⟩=some true) (hx:fr.ev xo=x) (hy:fr.ev yo=.str b) (hj:H[j]?=some (.aC x 1 es)) (h1:P.cy t1=some (.slice e)) (h2:P.cy t2=some td) (h3:fh td=false) (h4:P.info e=some inf) (h5:dc P e=some z) (h6:inf.size=1) (h7:z.length=1) (h8:0<inf.bytes∧inf.bytes≤1024) (hp:∀x',fr.put dst x'=aG x') (hb1:inf.bytes=1) (hb:es.length+b.length≤1099511627776) (h:∀x' ah,Has N S ah (H.set j (.aC x' 1 (es++ζ b)))→ab P ops rest (aG x') ah Q):
  ab P ops (⟨some dst,.call ⟨.builtin .append,#[xo,yo],#[t1,t2]⟩,ty,pp,a,g⟩::rest) fr st Q:=by
 have mi:∀b:List UInt8,(ζ b).flatten=b.map fun y=>.int .u8 (y.toNat:Nat):=by
  intro b
  induction b with
  |nil=>rfl
  |cons y b ih=>simp only[ζ,Φ,Qaa] at ih⊢;rw[ih];rfl
 have TU:(ζ b).length=b.length:=by simp[ζ]
 have ia:∀b:List UInt8,refs (b.map fun y=>IT .u8 (y.toNat:Nat))=0:=by
  intro b
  induction b with
  |nil=>rfl
  |cons y b ih=>simp only[Φ,refs,Qa9,ih];rfl
 obtain⟨x',ah,q1,q2,q3⟩:=hH.Fj (y:=.str b) (ys:=ζ b) hj (by rw[TU,mi];rfl) (fun e he=>by obtain⟨y,_,rfl⟩:=AI.1 he;rfl) h1 h2 h3 h4 h5 h6 h7 h8 hb1 (by rw[TU];exact hb) (.inr (by rw[mi];exact ia b));refine v8 hg rfl (d:=x') (st1:=ah) ?_ (hp _) (h x' ah q2);simp only[dN,Φ,Qah,hx,hy];exact q1
theorem Has.eQ (hF:S.flr≤N) (hH:Has N S st H):st.flr≤st.bs.length∧st.ro≤st.bs.length:=by
 have h1:=hH.ex.flr;have h2:=hH.ex.ro;have h3:=hH.db;have h4:=hH.hN;have h5:=hH.ex.len;constructor<;>omega
end Go.V
namespace Go.Proofs.YtkbacjpologjbaaGreat
open Go.V Go
def iy (fr:Go.V.Fr) (k:Nat):Go.V.D:=Go.V.nth .bo fr.loc k
def nH (s0 st:St) (d:D) (b:List UInt8):Prop:=Has s0.bs.length s0 st [.aC d 1 (ζ b)]
variable{s0 st:St}{b:List UInt8}
theorem nH.over {N:Nat} {S:St} {H:List a8} {d:D} (h:nH s0 st d b) (hH:Has N S s0 H):Has N S st (.aC d 1 (ζ b)::H):=hH.lD h
theorem sy (a b:List UInt8):ζ (a++b)=ζ a++ζ b:=by unfold ζ;rw[Qae]
theorem JR (k:Nat) (hk:k<2^63) (st:St):iO pv 3 62 (.int .i64 (k:Nat)) st=some (.int .u64 (k:Nat),st):=by
 show some (IT .u64 (bp .u64 (k:Nat)),st)=_;rw[bI (by simp only[gh];omega)]
theorem Eu (k:Nat) (hk:k≤8) (st:St):(fp pv .mul 62 (.int .u64 8) (.int .u64 (k:Nat))).map (fun d=>(d,st))=some (.int .u64 ((8*k:Nat):Int),st):=by
 show Qai _ (some (IT .u64 (bp .u64 (8*(k:Nat)))))=_;rw[show(8:Int)*(k:Nat)=((8*k:Nat):Int) by omega,bI (by simp only[gh];omega)];rfl
theorem JB (m k:Nat):Qan (m:Nat) (2^(8*k))=((m/256^k:Nat):Int):=by
 have e:((2:Int)^(8*k))=((256^k:Nat):Int):=by
  rw[Int.pow_mul,Int.natCast_pow];rfl
 rw[e,Int.fdiv_eq_ediv_of_nonneg _ (Int.natCast_nonneg _)];rfl
theorem Ec (m k:Nat) (hk:k≤8) (st:St):(fp pv .shr 128 (.int .u64 (m:Nat)) (.int .u64 ((8*k:Nat):Int))).map (fun d=>(d,st))=some (.int .u64 ((m/256^k:Nat):Int),st):=by
 show Qai _ (if((8*k:Nat):Int)<0 then none else some (IT .u64 (Qan (m:Nat) (2^(min ((8*k:Nat):Int).toNat 64)))))=_;rw[if_neg z0,υ,Nat.min_eq_left z0,JB];rfl
variable{q:Nat}
theorem Nc (hq:q<256):ζ [ς q]=[[IT .u8 (q:Nat)]]:=by
 show[[IT .u8 ((ς q).toNat:Nat)]]=_;rw[Qa8,Nat.mod_eq_of_lt hq]
theorem J0:ζ [ς q]=[[IT .u8 ((q %256:Nat):Int)]]:=by
 show[[IT .u8 ((ς q).toNat:Nat)]]=_;rw[Qa8]
theorem GX (q:Nat):bp .u8 (q:Nat)=((q %256:Nat):Int):=by
 rw[ja];rfl
theorem Pb (q:Nat) (st:St):iO pv 128 5 (.int .u64 (q:Nat)) st=some (.int .u8 ((q %256:Nat):Int),st):=by
 show some (IT .u8 (bp .u8 (q:Nat)),st)=_;rw[GX]
variable{x:D}
theorem G0 (hF:s0.flr≤s0.bs.length) (db:s0.ro≤s0.bs.length) (hx:Qal s0 1 x (ζ b)) (hl:b.length≤68719476736) (room:Nat) (hr:room≤68719476736):
  ∃d ah,Ev pv 93 [x,.int .i64 (room:Nat)] s0 d ah∧nH s0 ah d b:=by
 have tS:=aw b;refine Ev.eH rfl WL rfl rfl rfl ?_;refine zE ?_;have aR:(ae .nw s0).bs=s0.bs:=rfl;have hF:(ae .nw s0).flr≤s0.bs.length:=hF;have hH:Has s0.bs.length (ae .nw s0) (ae .nw s0) []:=Has.start (κ _) (κ _);generalize ae .nw s0=S at*;have hx:=Arg.of hx aR;refine zQ 7 ?_;refine qn ?_;refine qm ?_;refine ab.dX (z:=((b.length+room:Nat):Int)) rfl z3 z3 (by rw[wrap_i64 z0 z0]<;>omega) (aa rfl _) ?_;refine ab.Oz (s:=1) hH rfl z3 z3 rfl rfl rfl rfl rfl (ο rfl) z0 (fun _=>(aa rfl _)) (fun k10 st RF hH=>?_);refine zQ 6 ?_;refine ab.iB (s:=1) hH rfl z3 z3 (by exact aJ) (by exact Arg.rows z5 hH) rfl rfl rfl rfl rfl rfl rfl ⟨(ο rfl),(ο rfl)⟩ (fun _=>(aa rfl _)) rfl (by simp only[ρ]<;>omega) (by exact .inl hF) (fun x13 st hH=>?_);dsimp only[u2,u1,u3,u4,setMany,u5,u6,Pd,Δ] at hH;refine zQ 2 ?_;refine ag.ret ⟨rx,_,_,_,rfl,rfl,?_⟩;exact hH.fx aR db
theorem jD (hF:s0.flr≤s0.bs.length) (db:s0.ro≤s0.bs.length) (hx:Qal s0 1 x (ζ b)) (hl:b.length≤60000000000) (n:Int) (hn:n<9223372036854775808):
  ∃d ah,Ev pv 54 [x,.int .i64 n] s0 d ah∧nH s0 ah d (b++aZ n):=by
 obtain⟨m,hm⟩:∃m,n.toNat=m:=⟨_,rfl⟩
 have Bt:m<256^8:=by omega
 obtain⟨oO,hk2⟩:=EI Bt;have LQ:=Im m;have PN:aZ n=ς (kB m)::Fg (kB m) m:=by unfold aZ;rw[hm]
 have tS:=aw b;rw[PN];refine Ev.eH rfl Xl rfl rfl rfl ?_;refine zE ?_;have aR:(ae .nw s0).bs=s0.bs:=rfl;have hF:(ae .nw s0).flr≤s0.bs.length:=hF;have hH:Has s0.bs.length (ae .nw s0) (ae .nw s0) []:=Has.start (κ _) (κ _);generalize ae .nw s0=S at*;have hx:=Arg.of hx aR;refine zQ 7 ?_;obtain⟨d5,st,aA,ho⟩:=G0 (s0:=S) (x:=x) (b:=b) (by rw[aR];exact hF) (by rw[aR];exact hH.db) (hx.rows hH) z0 9 z0;have hH:=hH.lD ho
 skip
 refine qv aA ?_;refine zQ 5 ?_;refine ab.Ie (t1:=0) (t2:=0) rfl z3 z3 (aa rfl _) ?_;refine v8 (d:=.int .u64 (m:Nat)) (st1:=_) rfl rfl (by show some (IT .u64 (bp .u64 (max n 0)),_)=_;rw[show max n 0=(m:Int) by omega,bI (by simp only[gh];omega)]) (aa rfl _) ?_;refine zQ 8 ?_;refine ag.loop (fun mm fr st=>∃(k:Nat),fr.clean=⟨9,[iy fr 0,iy fr 1,iy fr 2,iy fr 3,iy fr 4,d5,.int .u64 (m:Nat),.int .i64 (k:Nat),iy fr 8],[]⟩∧Has s0.bs.length S st [.aC d5 1 (ζ b)]∧(k+mm=kB m)) (kB m) ?_ ?_
 ·exact⟨0,rfl,hH,by omega⟩
 rintro mm fr st ⟨k,hfr,hH,hk⟩;rw[hfr];clear hfr;generalize iy fr=ee;clear fr;refine zQ 2 ?_;refine ag.da 23 (.bool (decide (((k:Nat):Int)<8) &&decide (((m/256^k:Nat):Int)>0))) [] ?_ (fun ff tmp cI=>?_)
 ·refine zQ 3 ?_;refine ab.two 16 rfl (fun cj=>?_) (fun cj=>?_)
  ·refine zQ 2 ?_;refine v8 (d:=.int .u64 (k:Nat)) (st1:=_) (aj rfl rfl rfl cj) rfl (by exact JR k z0 _) (aa rfl _) ?_;refine v8 (d:=.int .u64 ((8*k:Nat):Int)) (st1:=_) (aj rfl rfl rfl cj) rfl (by exact Eu k z0 _) (aa rfl _) ?_;refine v8 (d:=.int .u64 ((m/256^k:Nat):Int)) (st1:=_) (aj rfl rfl rfl cj) rfl (by exact Ec m k z0 _) (aa rfl _) ?_;refine zQ 2 ?_;refine Ω (aO ?_ ?_)
   ·dsimp only[aI,OF,nth,u2,u1]
    all_goals(first|rfl|simp)
   ·refine zF ?_
    all_goals(simp[cj];done)
  ·refine zQ 7 ?_;refine Ω (aO ?_ ?_)
   ·dsimp only[aI,OF,nth,u2,u1]
    all_goals(first|rfl|simp)
   ·refine zF ?_
    all_goals(simp[cj];done)
 refine zG ?_
 by_cases hlt:k<kB m
 ·have hp:=hk2 k hlt
  have TY:(decide (((k:Nat):Int)<8) &&decide (((m/256^k:Nat):Int)>0))=true:=by
   rw[decide_eq_true z0,decide_eq_true z0];rfl
  refine ag.cond (v:=true) (by dsimp only[Fr.ev,Fr.get,nth,Qao];exact cI.trans (congrArg D.bool TY)) (fun _=>?_) (fun h=>by cases h);refine zQ 7 ?_;exact⟨mm-1,by omega,⟨k+1,rfl,hH,by omega⟩⟩
 ·have Rv:k=kB m:=by omega
  subst Rv
  have fm:(decide (((kB m:Nat):Int)<8) &&decide (((m/256^kB m:Nat):Int)>0))=false:=by
   rw[oO];simp
  refine ag.cond (v:=false) (by dsimp only[Fr.ev,Fr.get,nth,Qao];exact cI.trans (congrArg D.bool fm)) (fun h=>by cases h) (fun _=>?_);refine zQ 5 ?_;refine v8 (d:=.int .u8 (kB m:Nat)) (st1:=_) rfl rfl (by show some (IT .u8 (bp .u8 (kB m:Nat)),_)=_;rw[bI (by simp only[gh];omega)]) (aa rfl _) ?_;refine qh (s:=1) (vs:=[_]) hH fun k29 st RC hH=>?_;refine ab.iB (s:=1) hH rfl z3 z3 (by exact bt) (by exact hH.rows (by exact aJ)) rfl rfl rfl rfl rfl rfl rfl ⟨(ο rfl),(ο rfl)⟩ (fun _=>(aa rfl _)) rfl (by simp only[δ,ρ,Θ]<;>omega) (by exact .inl hF) (fun Ud st hH=>?_);dsimp only[u2,u1,u3,u4,setMany,u5,u6,Pd,Δ] at hH;refine zQ 2 ?_
  have hH:Has s0.bs.length S st [.aC Ud 1 (ζ (b++[ς (kB m)]))]:=by
   rw[sy,Nc z0];exact hH.drop 1
  refine zQ 4 ?_;refine ab.Hc rfl z3 z3 z0 z0 (aa rfl _) ?_;refine zQ 2 ?_;have hbl:∀j,(Fg j m).length=j:=fun j=>tX j m
  obtain⟨T,hT⟩:∃T,b++ς (kB m)::Fg (kB m) m=T:=⟨_,rfl⟩
  have R3:T.length=b.length+kB m+1:=by rw[←hT];simp[hbl];omega
  refine zQ 1 ?_;refine ag.loop (fun mm fr st=>∃(j:Nat) (y:D) (pre:List UInt8),fr.clean=⟨9,[iy fr 0,iy fr 1,iy fr 2,iy fr 3,iy fr 4,y,.int .u64 (m:Nat),iy fr 7,.int .i64 ((j:Int)-1)],[]⟩∧Has s0.bs.length S st [.aC y 1 (ζ pre)]∧(j=mm)∧(j≤kB m)∧(pre++Fg j m=T)) (kB m) ?_ ?_
  ·exact⟨kB m,Ud,b++[ς (kB m)],rfl,hH,rfl,κ _,(by rw[←hT,τ];rfl)⟩
  rintro mm fr st ⟨j,y,pre,hfr,hH,hj,hjk,hp⟩;rw[hfr];clear hfr;generalize iy fr=ee;clear fr;have ia:pre.length+j=T.length:=by rw[←hp,θ,hbl]
  have hbp:=aw pre;refine zQ 6 ?_
  cases j with
  |succ j=>
   have hc:decide (((j+1:Nat):Int)-1≥0)=true:=by rw[decide_eq_true_eq];omega
   refine qD rfl (by rw[hc]) ?_;refine zQ 1 ?_;have ON:((j+1:Nat):Int)-1=(j:Nat):=by omega
   rw[ON];have hq:m/256^j %256<256:=Nat.mod_lt _ (by decide);refine zQ 6 ?_;refine v8 (d:=.int .u64 (j:Nat)) (st1:=_) rfl rfl (by exact JR j z0 _) (aa rfl _) ?_;refine v8 (d:=.int .u64 ((8*j:Nat):Int)) (st1:=_) rfl rfl (by exact Eu j z0 _) (aa rfl _) ?_;refine v8 (d:=.int .u64 ((m/256^j:Nat):Int)) (st1:=_) rfl rfl (by exact Ec m j z0 _) (aa rfl _) ?_;refine v8 (d:=.int .u8 ((m/256^j %256:Nat):Int)) (st1:=_) rfl rfl (by exact Pb _ _) (aa rfl _) ?_;refine qh (s:=1) (vs:=[_]) hH fun k44 st VO hH=>?_;refine ab.iB (s:=1) hH rfl z3 z3 (by exact bt) (by exact hH.rows (by exact aJ)) rfl rfl rfl rfl rfl rfl rfl ⟨(ο rfl),(ο rfl)⟩ (fun _=>(aa rfl _)) rfl (by simp only[δ,ρ,Θ]<;>omega) (by exact .inl hF) (fun Uc st hH=>?_);dsimp only[u2,u1,u3,u4,setMany,u5,u6,Pd,Δ] at hH;refine zQ 2 ?_
   have hH:Has s0.bs.length S st [.aC Uc 1 (ζ (pre++[ς (m/256^j)]))]:=by
    rw[sy,J0];exact hH.drop 1
   refine zQ 2 ?_;refine ab.eK (z:=((j:Int)-1)) rfl z3 z3 (by rw[wrap_i64 z0 z0]<;>omega) (aa rfl _) ?_;refine zQ 2 ?_;exact⟨j,by omega,⟨j,Uc,pre++[ς (m/256^j)],rfl,hH,rfl,by omega,(by rw[τ];exact hp)⟩⟩
  |zero=>
   have hc:decide (((0:Nat):Int)-1≥0)=false:=rfl;refine qE rfl (by rw[hc]) ?_;refine zQ 1 ?_;have Vc:pre=T:=by rw[←hp];simp[Fg]
   subst Vc;refine zQ 5 ?_;refine ag.ret ⟨rx,_,_,_,rfl,rfl,?_⟩;rw[hT];exact hH.fx aR db
def dE (c:Nat):Nat:=if c<128 then 1 else if c<194 then 0 else if c<224 then 2 else if c<240 then 3 else if c<245 then 4 else 0
theorem Et (c : Nat) (st : St) : Ev pv 132 [.int .u8 c] st (.int .i64 (dE c : Nat)) st := by
 refine Ev.iu rfl SP rfl rfl rfl ?_;refine zE ?_;unfold dE
 repeat' split
 ·(repeat (first | refine xT ?_ | refine xL ?_ | refine xN ?_ | refine xo ?_ | refine xp ?_ | (refine Ω ?_; try refine zF ?_) | refine qq ?_ | refine ag.ei ?_ | refine ag.cond (v := true) rfl (fun _ => ?_) (fun h => by cases h) | refine ag.cond (v := false) rfl (fun h => by cases h) (fun _ => ?_) | refine ag.skip ?_ | refine ag.block ?_ | simp (disch := omega) only [decide_eq_true, decide_eq_false, eU, gZ, eT, gY]));refine ag.ret ⟨rx, _, rfl, aP (by simp) (by simp [ae]) ?_⟩
  rfl
 ·(repeat (first | refine xT ?_ | refine xL ?_ | refine xN ?_ | refine xo ?_ | refine xp ?_ | (refine Ω ?_; try refine zF ?_) | refine qq ?_ | refine ag.ei ?_ | refine ag.cond (v := true) rfl (fun _ => ?_) (fun h => by cases h) | refine ag.cond (v := false) rfl (fun h => by cases h) (fun _ => ?_) | refine ag.skip ?_ | refine ag.block ?_ | simp (disch := omega) only [decide_eq_true, decide_eq_false, eU, gZ, eT, gY]));refine ag.ret ⟨rx, _, rfl, aP (by simp) (by simp [ae]) ?_⟩
  rfl
 ·(repeat (first | refine xT ?_ | refine xL ?_ | refine xN ?_ | refine xo ?_ | refine xp ?_ | (refine Ω ?_; try refine zF ?_) | refine qq ?_ | refine ag.ei ?_ | refine ag.cond (v := true) rfl (fun _ => ?_) (fun h => by cases h) | refine ag.cond (v := false) rfl (fun h => by cases h) (fun _ => ?_) | refine ag.skip ?_ | refine ag.block ?_ | simp (disch := omega) only [decide_eq_true, decide_eq_false, eU, gZ, eT, gY]));refine ag.ret ⟨rx, _, rfl, aP (by simp) (by simp [ae]) ?_⟩
  rfl
 ·(repeat (first | refine xT ?_ | refine xL ?_ | refine xN ?_ | refine xo ?_ | refine xp ?_ | (refine Ω ?_; try refine zF ?_) | refine qq ?_ | refine ag.ei ?_ | refine ag.cond (v := true) rfl (fun _ => ?_) (fun h => by cases h) | refine ag.cond (v := false) rfl (fun h => by cases h) (fun _ => ?_) | refine ag.skip ?_ | refine ag.block ?_ | simp (disch := omega) only [decide_eq_true, decide_eq_false, eU, gZ, eT, gY]));refine ag.ret ⟨rx, _, rfl, aP (by simp) (by simp [ae]) ?_⟩
  rfl
 ·(repeat (first | refine xT ?_ | refine xL ?_ | refine xN ?_ | refine xo ?_ | refine xp ?_ | (refine Ω ?_; try refine zF ?_) | refine qq ?_ | refine ag.ei ?_ | refine ag.cond (v := true) rfl (fun _ => ?_) (fun h => by cases h) | refine ag.cond (v := false) rfl (fun h => by cases h) (fun _ => ?_) | refine ag.skip ?_ | refine ag.block ?_ | simp (disch := omega) only [decide_eq_true, decide_eq_false, eU, gZ, eT, gY]));refine ag.ret ⟨rx, _, rfl, aP (by simp) (by simp [ae]) ?_⟩
  rfl
 ·(repeat (first | refine xT ?_ | refine xL ?_ | refine xN ?_ | refine xo ?_ | refine xp ?_ | (refine Ω ?_; try refine zF ?_) | refine qq ?_ | refine ag.ei ?_ | refine ag.cond (v := true) rfl (fun _ => ?_) (fun h => by cases h) | refine ag.cond (v := false) rfl (fun h => by cases h) (fun _ => ?_) | refine ag.skip ?_ | refine ag.block ?_ | simp (disch := omega) only [decide_eq_true, decide_eq_false, eU, gZ, eT, gY]));refine ag.ret ⟨rx, _, rfl, aP (by simp) (by simp [ae]) ?_⟩
  rfl
def CU (c:Nat):Nat:=if c=224 then 160 else if c=237 then 128 else if c=240 then 144 else 128
def EW (c:Nat):Nat:=if c=224 then 191 else if c=237 then 159 else if c=240 then 191 else if c=244 then 143 else 191
theorem FE (c d : Nat) (st : St) : Ev pv 133 [.int .u8 c, .int .u8 d] st (.bool (decide (CU c ≤ d ∧ d ≤ EW c))) st := by
 refine Ev.iu rfl SO rfl rfl rfl ?_;refine zE ?_
 have key : (c = 224 ∧ CU c = 160 ∧ EW c = 191) ∨ (c = 237 ∧ CU c = 128 ∧ EW c = 159) ∨ (c = 240 ∧ CU c = 144 ∧ EW c = 191) ∨ (c = 244 ∧ CU c = 128 ∧ EW c = 143) ∨ (c ≠ 224 ∧ c ≠ 237 ∧ c ≠ 240 ∧ c ≠ 244 ∧ CU c = 128 ∧ EW c = 191) := by
  unfold CU EW
  split
  ·omega
  split
  ·omega
  split
  ·omega
  split
  ·omega
  ·omega
 have UD : d < CU c ∨ (CU c ≤ d ∧ EW c < d) ∨ (CU c ≤ d ∧ d ≤ EW c) := by omega
 generalize CU c = lo at *;generalize EW c = hi at *
 rcases key with ⟨h, rfl, rfl⟩ | ⟨h, rfl, rfl⟩ | ⟨h, rfl, rfl⟩ | ⟨h, rfl, rfl⟩ | ⟨h1, h2, h3, h4, rfl, rfl⟩ <;> rcases UD with k | ⟨k1, k2⟩ | ⟨k1, k2⟩
 all_goals
  (repeat (first | refine xT ?_ | refine xL ?_ | refine xN ?_ | refine xo ?_ | refine xp ?_ | (refine Ω ?_; try refine zF ?_) | refine qq ?_ | refine ag.ei ?_ | refine ag.cond (v := true) rfl (fun _ => ?_) (fun h => by cases h) | refine ag.cond (v := false) rfl (fun h => by cases h) (fun _ => ?_) | refine ag.skip ?_ | refine ag.block ?_ | simp (disch := omega) only [decide_eq_true, decide_eq_false, eU, gZ, eT, gY]));refine ag.ret ⟨rx, _, rfl, aP (by simp) (by simp [ae]) ?_⟩;simp (disch := omega) only [decide_eq_true, decide_eq_false]
  rfl
def mC (c i y:Nat):Bool:=if i=1 then decide (CU c≤y∧y≤EW c) else decide (128≤y∧y≤191)
def jv (c:Nat):(left i:Nat)→List UInt8→Bool
 |0,_,_=>true
 |_+1,_,[]=>true
 |left+1,i,y::ys=>mC c i y.toNat &&jv c left (i+1) ys
def dt:List UInt8→Nat×Nat
 |[]=>(0,0)
 |c::xs=>if dE c.toNat=0 then(0,0) else if jv c.toNat (dE c.toNat-1) 1 xs=true then(if xs.length+1<dE c.toNat then(xs.length+1,dE c.toNat) else(dE c.toNat,dE c.toNat)) else(0,0)
theorem uX (c:Nat):dE c≤4:=by
 unfold dE
 repeat' split
 all_goals omega
theorem Mj (hb:Bytes st x b) (hlen:b.length≤1048576):Ev pv 96 [x] st (.tup [.int .i64 ((dt b).1:Nat),.int .i64 ((dt b).2:Nat)]) st:=by
 refine Ev.iu rfl WJ rfl rfl rfl ?_;refine zE ?_;have hb:=hb.enter .ro;have hbl:=aw b;refine zR ?_;refine zU ?_
 refine zW ?_
 refine GB rfl rfl rfl hb rfl ?_
 refine zW ?_
 refine zW ?_
 rw[hbl]
 cases b with
 |nil=>
  refine zY ?_;refine zN ?_;refine ag.cond (v:=true) rfl (fun _=>?_) (fun h=>by cases h);refine zR ?_;refine ag.ret ⟨rx,_,rfl,aP (by simp) (by simp[ae]) ?_⟩
  rfl
 |cons c xs=>
 simp only[δ] at hlen hbl;have hc:=D3 c;simp only[δ];simp(disch:=omega) only[decide_eq_true,decide_eq_false,eU,gZ,eT,gY]
 refine zW ?_
 refine Qa4 rfl rfl rfl (fun _=>rfl) rfl rfl hb rfl rfl z0 (i:=0) (r:=[.int .u8 (c.toNat:Nat)]) rfl rfl (fun p=>?_);refine Qap rfl rfl rfl (Et _ _) ?_;refine zX ?_;refine zN ?_;(repeat refine qq ?_);refine qc (fun h1=>?_) (fun h1=>?_)<;>try simp only[cs] at h1
 ·refine zR ?_;refine ag.ret ⟨rx,_,rfl,aP (by simp) (by simp[ae]) ?_⟩;rw[show dt (c::xs)=(0,0) by simp only[dt];rw[if_pos z0]];rfl
 have C_:=uX c.toNat;refine ag.skip<|zU ?_
 refine zW ?_
 refine Qa4 rfl rfl rfl (fun _=>rfl) rfl rfl hb rfl rfl z0 (i:=0) (r:=[.int .u8 (c.toNat:Nat)]) rfl rfl (fun p=>?_);refine Qap rfl rfl rfl (Et _ _) ?_;refine zX ?_;refine zN ?_;refine zR ?_;(repeat refine qq ?_);refine ag.block ?_;generalize hn:dE c.toNat=n at*;refine ag.loop (fun j fr ah=>∃(i:Nat),fr.clean=⟨6,[x,.tup [],.int .i64 0,.int .i64 0,.int .i64 (n:Nat),.int .i64 (i:Nat)],[]⟩∧ah=ae .ro st∧1≤i∧i+j=n∧jv c.toNat j i (xs.drop (i-1))=jv c.toNat (n-1) 1 xs∧i≤xs.length+1) (n-1) ⟨1,rfl,rfl,by omega,by omega,rfl,by omega⟩ ?_;rintro j fr ah ⟨i,hfr,rfl,OP,hij,hS,Zg⟩;rw[hfr]
 have fin:(n≤i∨xs.length+1≤i)→dt (c::xs)=if xs.length+1<n then(xs.length+1,n) else(n,n):=by
  intro h
  have ht:jv c.toNat (n-1) 1 xs=true:=by
   rw[←hS]
   rcases h with h|h
   ·have:j=0:=by omega
    subst this;rfl
   ·have:xs.drop (i-1)=[]:=List.drop_eq_nil_of_le z0;rw[this];cases j<;>rfl
  simp only[dt,hn];rw[if_neg z0,if_pos ht]
 by_cases h4:i<n
 ·by_cases h5:i<xs.length+1
  ·refine zU ?_
   refine zW ?_
   refine zW ?_
   refine zW ?_
   simp(disch:=omega) only[decide_eq_true,decide_eq_false,eU,gZ,eT,gY]
   refine zW ?_
   refine zW ?_
   refine zW ?_
   refine GB rfl rfl rfl hb rfl ?_;rw[hbl];refine zY ?_;refine zN ?_;refine ag.cond (v:=true) rfl (fun _=>?_) (fun h=>by cases h);refine ag.skip ?_;refine qy ?_;(repeat refine qq ?_);refine ag.block ?_
   obtain⟨j,rfl⟩:∃l,j=l+1:=⟨j-1,by omega⟩
   obtain⟨y,ys,Bk⟩:∃y ys,xs.drop (i-1)=y::ys:=by
    cases h:xs.drop (i-1) with
    |nil=>have:=congrArg Qaj h;simp at this;omega
    |cons y ys=>exact⟨y,ys,rfl⟩
   have hy:(c::xs)[i]?=some y:=by
    obtain⟨i,rfl⟩:∃i',i=i'+1:=⟨i-1,by omega⟩
    have:=congrArg (fun l=>l[0]?) Bk
    simpa using this
   have kD:xs.drop (i+1-1)=ys:=by
    have:=congrArg (fun l=>l.drop 1) Bk;simp only[List.drop_drop,Qa6,wt] at this;rw[←this];congr 1;omega
   have PG:=lh hy;have YR:=D3 y;rw[Bk] at hS;simp only[jv] at hS;generalize Mb:bS _ _ _ _=K0
   have step:mC c.toNat i y.toNat=true→∀m,K0 .next ⟨6,[x,.tup [],.int .i64 0,.int .i64 0,.int .i64 (n:Nat),.int .i64 (i:Nat)],m⟩ (ae .ro st):=by
    intro hg m;subst Mb;refine zR ?_;rw[wrap_i64 z0 z0];rw[hg,Qag] at hS;exact⟨j,by omega,i+1,rfl,rfl,by omega,by omega,by rw[kD];exact hS,by omega⟩
   by_cases xE:i=1
   ·subst xE;have hx0:xs=y::ys:=Bk;subst hx0;refine zU ?_
    refine zW ?_
    refine zW ?_
    refine zW ?_
    refine zW ?_
    refine Qa4 rfl rfl rfl (fun _=>rfl) rfl rfl hb rfl rfl z0 (i:=0) (r:=[.int .u8 (c.toNat:Nat)]) rfl rfl (fun p=>?_)
    refine zW ?_
    refine Qa4 rfl rfl rfl (fun _=>rfl) rfl rfl hb rfl rfl z0 (i:=1) (r:=[.int .u8 (y.toNat:Nat)]) rfl rfl (fun p=>?_);refine Qap rfl rfl rfl (FE _ _ _) ?_
    by_cases hg:CU c.toNat≤y.toNat∧y.toNat≤EW c.toNat
    ·rw[decide_eq_true hg];refine zX ?_;refine zN ?_;refine ag.cond (v:=false) rfl (fun h=>by cases h) fun _=>?_;refine ag.skip ?_;exact step (by unfold mC;rw[if_pos rfl,decide_eq_true hg]) _
    ·rw[decide_eq_false hg];refine zX ?_;refine zN ?_;refine ag.cond (v:=true) rfl (fun _=>?_) (fun h=>by cases h);refine zR ?_;subst Mb;refine ag.ret ⟨rx,_,rfl,aP (by simp) (by simp[ae]) ?_⟩;have:jv c.toNat (n-1) 1 (y::ys)=false:=by rw[←hS];unfold mC;rw[if_pos rfl,decide_eq_false hg];rfl
     rw[show dt (c::y::ys)=(0,0) by simp only[dt,hn];rw[if_neg z0,this];rfl];rfl
   ·refine zU ?_
    refine zW ?_
    refine zW ?_
    simp(disch:=omega) only[decide_eq_true,decide_eq_false,eU,gZ,eT,gY]
    refine zW ?_
    refine zW ?_
    refine zW ?_
    refine zW ?_
    refine zW ?_
    refine zW ?_
    refine zW ?_
    refine zW ?_
    refine zW ?_
    refine zW ?_
    refine zW ?_
    refine zW ?_
    refine zW ?_
    simp(disch:=omega) only[decide_eq_true,decide_eq_false,eU,gZ,eT,gY]
    refine zW ?_
    refine zW ?_
    refine zW ?_
    refine Qa4 rfl rfl rfl (fun _=>rfl) rfl rfl hb rfl rfl z0 PG rfl (fun p=>?_)
    by_cases Cb:y.toNat<128
    ·refine zY ?_;refine zN ?_;refine ag.cond (v:=true) rfl (fun _=>?_) (fun h=>by cases h);refine zR ?_;subst Mb;refine ag.ret ⟨rx,_,rfl,aP (by simp) (by simp[ae]) ?_⟩;have hf:mC c.toNat i y.toNat=false:=by unfold mC;rw[if_neg xE,decide_eq_false z0]
     have:jv c.toNat (n-1) 1 xs=false:=by rw[←hS,hf];rfl
     rw[show dt (c::xs)=(0,0) by simp only[dt,hn];rw[if_neg z0,this];rfl];rfl
    ·refine zW ?_
     simp(disch:=omega) only[decide_eq_true,decide_eq_false,eU,gZ,eT,gY]
     refine zW ?_
     refine zW ?_
     refine zW ?_
     refine Qa4 rfl rfl rfl (fun _=>rfl) rfl rfl hb rfl rfl z0 PG rfl (fun p=>?_)
     by_cases EX:191<y.toNat
     ·refine zY ?_;refine zN ?_;refine ag.cond (v:=true) rfl (fun _=>?_) (fun h=>by cases h);refine zR ?_;subst Mb;refine ag.ret ⟨rx,_,rfl,aP (by simp) (by simp[ae]) ?_⟩;have hf:mC c.toNat i y.toNat=false:=by unfold mC;rw[if_neg xE,decide_eq_false z0]
      have:jv c.toNat (n-1) 1 xs=false:=by rw[←hS,hf];rfl
      rw[show dt (c::xs)=(0,0) by simp only[dt,hn];rw[if_neg z0,this];rfl];rfl
     ·refine zY ?_;refine zN ?_;refine ag.cond (v:=false) rfl (fun h=>by cases h) fun _=>?_;refine ag.skip ?_;exact step (by unfold mC;rw[if_neg xE,decide_eq_true z0]) _
  ·refine zU ?_
   refine zW ?_
   refine zW ?_
   refine zW ?_
   simp(disch:=omega) only[decide_eq_true,decide_eq_false,eU,gZ,eT,gY]
   refine zW ?_
   refine zW ?_
   refine zW ?_
   refine GB rfl rfl rfl hb rfl ?_;rw[hbl];refine zY ?_;refine zN ?_;refine ag.cond (v:=false) rfl (fun h=>by cases h) fun _=>?_;refine ag.exit ?_;rw[fin z0];refine zU ?_
   refine zW ?_
   refine GB rfl rfl rfl hb rfl ?_;rw[hbl];refine zX ?_;refine zN ?_;refine ag.cond (v:=true) (by dsimp only[Fr.ev,Fr.get,Qao];rw[decide_eq_true z0]) (fun _=>?_) (fun h=>by cases h);refine zU ?_
   refine zW ?_
   refine GB rfl rfl rfl hb rfl ?_;rw[hbl];refine zX ?_;refine zN ?_;refine ag.ret ⟨rx,_,rfl,aP (by simp) (by simp[ae]) ?_⟩;rw[if_pos z0];rfl
 ·refine zU ?_
  refine zW ?_
  refine zW ?_
  refine zW ?_
  refine zY ?_;refine zN ?_;refine ag.cond (v:=false) rfl (fun h=>by cases h) fun _=>?_;refine ag.exit ?_;rw[fin z0];refine zU ?_
  refine zW ?_
  refine GB rfl rfl rfl hb rfl ?_;rw[hbl];refine zX ?_;refine zN ?_;(repeat refine qq ?_);refine qc (fun h9=>?_) (fun h9=>?_)<;>try simp only[cs] at h9
  ·refine zU ?_
   refine zW ?_
   refine GB rfl rfl rfl hb rfl ?_;rw[hbl];refine zX ?_;refine zN ?_;refine ag.ret ⟨rx,_,rfl,aP (by simp) (by simp[ae]) ?_⟩;rw[if_pos z0];rfl
  ·refine ag.skip<|zR ?_;refine ag.ret ⟨rx,_,rfl,aP (by simp) (by simp[ae]) ?_⟩;rw[if_neg z0];rfl
/- the plain law: the two ways to look at the first rune -/
theorem F1 (c:Nat):(dE c=0∧(cu c).1=-1)∨(dE c=1∧(cu c).1=0)∨(2≤dE c∧(cu c).1=(dE c:Int)-1∧(cu c).2.1=CU c∧(cu c).2.2=EW c):=by
 unfold dE cu CU EW
 by_cases h1:c<128
 ·simp[h1]
 by_cases h2:c<194
 ·simp[h1,h2]
 by_cases h0:245≤c
 ·left;rw[if_neg z0,if_neg z0,if_neg z0,if_neg z0,if_neg z0,if_neg z0,if_neg z0,if_neg z0,if_neg z0,if_neg z0,if_neg z0,if_neg z0,if_neg z0,if_neg z0];simp
 right;right
 by_cases h3:c<224
 ·simp only[h1,h2,h3,if_true,if_false];rw[if_neg z0,if_neg z0,if_neg z0,if_neg z0,if_neg z0,if_neg z0,if_neg z0];simp
 by_cases h4:c=224
 ·subst h4;simp
 by_cases h5:c=237
 ·subst h5;simp
 by_cases h6:c<240
 ·simp only[h1,h2,h3,h4,h5,h6,if_true,if_false];rw[if_neg z0,if_neg z0,if_neg z0];simp
 by_cases h7:c=240
 ·subst h7;simp
 by_cases h8:c<244
 ·simp only[h1,h2,h3,h4,h5,h6,h7,h8,if_true,if_false];rw[if_pos z0,if_neg z0];simp
 by_cases h9:c=244
 ·subst h9;simp
 omega
def vI (r:Nat):Nat→List UInt8→Nat
 |0,_=>r
 |_+1,[]=>r
 |left+1,y::ys=>vI (r*64+y.toNat %64) left ys
theorem wY (c n:Nat):∀(left i r lo hi:Nat) (xs:List UInt8),1≤i→(∀y,mC c i y=(decide (lo≤y∧y≤hi)))→
  iL left n r lo hi xs=if jv c left i xs=true then(if xs.length<left then(0,0,true) else(vI r left xs,n,false)) else(0,0,false)
 |0,i,r,lo,hi,xs,_,_=>by simp[iL,jv,vI]
 |left+1,i,r,lo,hi,[],_,_=>by simp[iL,jv]
 |left+1,i,r,lo,hi,y::ys,OP,hg=>by
  simp only[iL,jv,hg,vI]
  by_cases hb:lo≤y.toNat∧y.toNat≤hi
  ·rw[if_neg z0,decide_eq_true hb,Qag];rw[wY c n left (i+1) _ 128 191 ys z0 (fun z=>by unfold mC;rw[if_neg z0])];simp only[δ,Nat.add_lt_add_iff_right]
  ·rw[if_pos z0,decide_eq_false hb];simp
def ug (c n:Nat):Nat:=if n≤1 then c else c %(64/2^(n-1))
theorem Gp (c:UInt8) (xs:List UInt8):df (c::xs)=if dE c.toNat=0 then(0,0,false) else if jv c.toNat (dE c.toNat-1) 1 xs=true then(if xs.length<dE c.toNat-1 then(0,0,true) else(vI (ug c.toNat (dE c.toNat)) (dE c.toNat-1) xs,dE c.toNat,false)) else(0,0,false):=by
 simp only[df]
 rcases F1 c.toNat with⟨h1,h2⟩|⟨h1,h2⟩|⟨h1,h2,h3,h4⟩
 ·rw[h1,h2];simp
 ·rw[h1,h2];simp[iL,jv,vI,ug]
 ·have hk:(cu c.toNat).1.toNat=dE c.toNat-1:=by omega
  rw[if_neg (show¬(cu c.toNat).1<0 by omega),if_neg (show¬dE c.toNat=0 by omega),if_pos (show(cu c.toNat).1>0 by omega),hk,h3,h4];rw[wY c.toNat _ _ 1 _ _ _ _ z0 (fun y=>by unfold mC;rw[if_pos rfl])];have:dE c.toNat-1+1=dE c.toNat:=by omega
  rw[this];have h5:ug c.toNat (dE c.toNat)=c.toNat %(64/2^(dE c.toNat-1)):=by unfold ug;rw[if_neg z0]
  rw[h5]
def bH (b:List UInt8):Bool:=(df b).2.2
theorem vJ (b:List UInt8):(bH b=true↔(0<(dt b).1∧(dt b).1<(dt b).2∧(dt b).1=b.length))∧
  (((dt b).1=0∨(dt b).1<(dt b).2)→d_ b=(65533,1))∧
  (¬((dt b).1=0∨(dt b).1<(dt b).2)→∃c xs,b=c::xs∧1≤(dt b).2∧(dt b).2≤4∧(dt b).2-1≤xs.length∧d_ b=(vI (ug c.toNat (dt b).2) ((dt b).2-1) xs,(dt b).2)):=by
 cases b with
 |nil=>simp[bH,df,dt,d_]
 |cons c xs=>
  have hn:=uX c.toNat;simp only[bH,d_,Gp,dt]
  by_cases h1:dE c.toNat=0
  ·simp[h1]
  rw[if_neg h1,if_neg h1]
  by_cases h2:jv c.toNat (dE c.toNat-1) 1 xs=true
  ·rw[if_pos h2,if_pos h2]
   by_cases h3:xs.length+1<dE c.toNat
   ·rw[if_pos z0,if_pos h3];simp<;>omega
   ·rw[if_neg z0,if_neg h3];refine⟨by simp<;>omega,by simp<;>omega,fun _=>⟨c,xs,rfl,by simp only;omega,by simp only;omega,by simp only;omega,?_⟩⟩;simp only;rw[if_neg h1]
  ·rw[if_neg h2,if_neg h2];simp
theorem FI {y:D} {l:List UInt8} (hx:Bytes st x l) (hy:Bytes st y l) (hl:l.length<4611686018427387904):Ev pv 38 [x,y] st (.bool true) st:=by
 refine Ev.iu rfl XB rfl rfl rfl ?_;refine zE ?_;have hx:=hx.enter .ro;have hy:=hy.enter .ro;have hlen:(ζ l).length=l.length:=aw l;refine zR ?_;refine zU ?_
 refine zW ?_
 refine GB rfl rfl rfl hx rfl ?_
 refine zW ?_
 refine GB rfl rfl rfl hy rfl ?_;refine zX ?_;refine zN ?_;(repeat refine qq ?_);refine qc (fun h1=>?_) (fun h1=>?_)<;>try simp only[cs] at h1
 ·exact absurd trivial h1
 refine ag.skip<|zR ?_;(repeat refine qq ?_);refine ag.block<|ag.loop (fun j fr ah=>∃i:Nat,fr.clean=⟨6,[x,y,.tup [],.tup [],.bool false,.int .i64 (i:Nat)],[]⟩∧ah=ae .ro st∧i+j=l.length) l.length ⟨0,rfl,rfl,by omega⟩ ?_;rintro j fr ah ⟨i,hfr,rfl,hij⟩;rw[hfr];refine zU ?_
 refine zW ?_
 refine zW ?_
 refine GB rfl rfl rfl hx rfl ?_;refine zX ?_;refine zN ?_;rw[hlen];refine qy ?_;(repeat refine qq ?_);refine qc (fun h2=>?_) (fun h2=>?_)<;>try simp only[cs] at h2
 ·refine ag.skip ?_;refine qy ?_
  obtain⟨g,hg⟩:∃g,l[i]?=some g:=⟨l[i]' z0,ξ _⟩
  have hr:=lh hg;refine qy ?_;(repeat refine qq ?_);refine ag.block<|zU ?_
  refine zW ?_
  refine zW ?_
  refine Qa4 rfl rfl rfl (fun _=>rfl) rfl rfl hx rfl rfl z0 hr rfl (fun p=>?_)
  refine zW ?_
  refine zW ?_
  refine Qa4 rfl rfl rfl (fun _=>rfl) rfl rfl hy rfl rfl z0 hr rfl (fun p=>?_);refine zX ?_;refine zN ?_;(repeat refine qq ?_);refine qc (fun h3=>?_) (fun h3=>?_)<;>try simp only[cs] at h3
  ·exact absurd trivial h3
  refine ag.skip<|zR ?_;rw[wrap_i64 z0 z0];exact⟨j-1,by omega,i+1,rfl,rfl,by omega⟩
 ·refine ag.exit<|zR ?_;refine ag.ret ⟨rx,_,rfl,aP (by simp) (by simp[ae]) ?_⟩
  rfl
def cA (b:List UInt8):D:=.sl ((ζ b).map (kO 1))
theorem lg (b:List UInt8):∀e∈ζ b,e.length=1:=by
 intro e he;obtain⟨y,_,rfl⟩:=AI.1 he;rfl
theorem cS (b:List UInt8):∀e∈ζ b,∀d∈e,cD d=true:=by
 intro e he d hd;obtain⟨y,_,rfl⟩:=AI.1 he;simp only[γ,ε,or_false] at hd;subst hd;rfl
theorem x7 (st:St) (b:List UInt8):Bytes st (cA b) b:=Rows.px (lg b) (cS b)
def jG (y:UInt8):D:=.int .u8 (y.toNat:Nat)
theorem eD (b:List UInt8):(ζ b).flatten=b.map jG:=by
 induction b with
 |nil=>rfl
 |cons y b ih=>simp only[ζ,Φ,Qaa] at ih⊢;rw[ih];rfl
end Go.Proofs.YtkbacjpologjbaaGreat
