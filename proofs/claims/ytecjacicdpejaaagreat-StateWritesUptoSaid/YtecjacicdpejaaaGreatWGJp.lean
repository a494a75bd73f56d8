/-
 What the search comes to: it is closed, and nothing can be left out.
-/
import Derived.Test.YtecjacicdpejaaaGreatWGQe
import Derived.Test.YtecjacicdpejaaaGreatWGHr
import Derived.Test.YtecjacicdpejaaaGreatWGPh
import Derived.Test.YtecjacicdpejaaaGreatWM2
import Derived.Test.YtecjacicdpejaaaGreatWGUa
set_option maxRecDepth 100000
set_option linter.unusedSimpArgs false
set_option linter.unusedVariables false
set_option maxHeartbeats 4000000
set_option linter.unusedSectionVars false
open List renaming length_cons→γ,mem_cons→δ,length_append→ε,mem_append→ζ,not_mem_nil→η,getElem?_append_left→θ,getElem?_append_right→κ,mem_cons_self→μ,getElem?_eq_getElem→ξ,length_nil→ο,mem_cons_of_mem→π,append_assoc→ς,length_map→τ,getElem?_of_mem→φ,getElem?_set_ne→χ,mem_of_getElem?→ψ,getElem?_set_self→ω,mem_reverse→Ξ,length_set→Φ,drop_zero→Ω,length_reverse→Q5,map_cons→Z5,append_nil→Y',foldl→YH,getElem?_cons_succ→xw,getElem?_replicate→v8,mem_append_right→Ut,mem_append_left→GB,drop_succ_cons→Bv,take_length→IN,map_append→IS,nil_append→IT,map_nil→P8,length→Pd
open Nat renaming le_refl→ι,le_of_ble_eq_true→ν,reduceAdd→Δ,zero_add→Θ,pow_succ→ZD,add_assoc→ki,div_div_eq_div_mul→VQ,mul_comm→VM,succ_mul→VT,mul_le_mul_right→BY,zero_mul→Pe,add_mul→R2
open UInt8 renaming ofNat→ρ,toNat_ofNat'→Cf
open Int renaming toNat_natCast→υ,fdiv→R3
open Option renaming bind_some→Γ,some→Zn,map→PR
open Go.V.ab renaming nil→Ψ,go→Wh,len→wt,fp→LL,oF→AN
open Bool renaming and_eq_true→Zt,true_and→OF
open Go.V.D renaming int→YQ,cells→JS,ref→Cr
namespace Go.Proofs.YtecjacicdpejaaaGreat
open Go.V Go
def mN (seen:List Bool) (v:Int):Prop:=0≤v∧seen[v.toNat]?=some true
structure G_ (code:List aP) (start:Int) (seen:List Bool) (il:List Int):Prop where
 a:∀u i,seen[u]?=some true→code[u]?=some i→∀w∈cH u i,mN seen w∨w∈il
 b:∀v∈il,v=start∨∃u i,seen[u]?=some true∧code[u]?=some i∧v∈cH u i
 c:∀v,mN seen v→v=start∨∃u i,seen[u]?=some true∧code[u]?=some i∧v∈cH u i∧v≠(u:Int)
 d:mN seen start∨start∈il
variable{seen:List Bool}
theorem iH {k:Nat} (hk:k<seen.length) {v:Int}:mN (seen.set k true) v↔v=(k:Int)∨mN seen v:=by
 unfold mN;constructor
 ·rintro⟨h0,h⟩
  by_cases hv:v.toNat=k
  ·left;omega
  ·rw[χ (fun e=>hv e.symm)] at h;exact .inr ⟨h0,h⟩
 ·rintro(rfl|⟨h0,h⟩)
  ·exact⟨by omega,by rw[υ,ω hk]⟩
  ·refine⟨h0,?_⟩
   by_cases hv:v.toNat=k
   ·rw[hv,ω hk]
   ·rw[χ (fun e=>hv e.symm)];exact h
variable{u:Nat}
theorem fO:seen[u]?=some true↔mN seen (u:Int):=by
 unfold mN;rw[υ];exact⟨fun h=>⟨by omega,h⟩,fun h=>h.2⟩
theorem GH {code:List aP} {start:Int} (hcl:lF code):∀(f:Nat) (seen:List Bool) (il:List Int),seen.length=code.length→(∀v∈il,0≤v∧v<(code.length:Int))→3*seen.count false+il.length≤f→G_ code start seen il→G_ code start (CB code f seen il) []
 |0,seen,il,_,_,hm,hi=>by
  have:il=[]:=by cases il with|nil=>rfl|cons _ _=>simp at hm
  subst this;exact hi
 |f+1,seen,[],_,_,_,hi=>hi
 |f+1,seen,v::il,hl,hs,hm,hi=>by
  have hv:=hs v (μ ..);have qG:∀w∈il,0≤w∧w<(code.length:Int):=fun w hw=>hs w (π _ hw);obtain⟨k,rfl⟩:=Int.eq_ofNat_of_zero_le hv.1;have hk:k<code.length:=by omega
  obtain⟨i,hci⟩:∃i,code[k]?=some i:=⟨code[k]'hk,ξ _⟩
  obtain⟨b,hb⟩:∃b,seen[k]?=some b:=⟨seen[k]'(by omega),ξ _⟩
  simp only[γ] at hm;have hp:∀w,w∈((k:Int)::il)→w=(k:Int)∨w∈il:=fun w hw=>δ.1 hw;unfold CB;simp only[υ,hb,hci]
  cases b with
  |true=>
   have mA:mN seen (k:Int):=fO.1 hb;refine GH hcl f seen il hl qG (by omega) ⟨fun u j hu hj w hw=>?_,fun w hw=>hi.b w (π _ hw),hi.c,?_⟩
   ·rcases hi.a u j hu hj w hw with h|h
    ·exact .inl h
    ·rcases hp w h with rfl|h
     ·exact .inl mA
     ·exact .inr h
   ·rcases hi.d with h|h
    ·exact .inl h
    ·rcases hp start h with h|h
     ·exact .inl (h▸mA)
     ·exact .inr h
  |false=>
   have JB:=count_set hb;have kq:k<seen.length:=by omega
   have Ax:=xD k i;refine GH hcl f _ _ (by rw[Φ];exact hl) (fun w hw=>?_) (by simp only[ε,Q5];omega) ⟨fun u j hu hj w hw=>?_,fun w hw=>?_,fun w hw=>?_,?_⟩
   ·rcases ζ.1 hw with hw|hw
    ·exact hcl k i hci w (Ξ.1 hw)
    ·exact qG w hw
   ·rcases(iH kq).1 (fO.1 hu) with h|h
    ·have:u=k:=by omega
     subst this;rw[hci] at hj;cases hj;exact .inr (ζ.2 (.inl (Ξ.2 hw)))
    ·rcases hi.a u j (fO.2 h) hj w hw with h|h
     ·exact .inl ((iH kq).2 (.inr h))
     ·rcases hp w h with h|h
      ·exact .inl ((iH kq).2 (.inl h))
      ·exact .inr (ζ.2 (.inr h))
   ·rcases ζ.1 hw with hw|hw
    ·exact .inr ⟨k,i,fO.2 ((iH kq).2 (.inl rfl)),hci,Ξ.1 hw⟩
    ·rcases hi.b w (π _ hw) with h|⟨u,j,h1,h2,h3⟩
     ·exact .inl h
     ·exact .inr ⟨u,j,fO.2 ((iH kq).2 (.inr (fO.1 h1))),h2,h3⟩
   ·rcases(iH kq).1 hw with rfl|h
    ·rcases hi.b (k:Int) (μ ..) with h|⟨u,j,h1,h2,h3⟩
     ·exact .inl h
     ·refine .inr ⟨u,j,fO.2 ((iH kq).2 (.inr (fO.1 h1))),h2,h3,fun e=>?_⟩;have:k=u:=by omega
      subst this;rw[hb] at h1;cases h1
    ·rcases hi.c w h with h|⟨u,j,h1,h2,h3,h4⟩
     ·exact .inl h
     ·exact .inr ⟨u,j,fO.2 ((iH kq).2 (.inr (fO.1 h1))),h2,h3,h4⟩
   ·rcases hi.d with h|h
    ·exact .inl ((iH kq).2 (.inr h))
    ·rcases hp start h with h|h
     ·exact .inl ((iH kq).2 (.inl h))
     ·exact .inr (ζ.2 (.inr h))
variable{code:List aP}{start:Int}
theorem sx (hcl:lF code) (jO:0≤start∧start<(code.length:Int)):G_ code start (bR code start) []:=by
 have oQ:∀v,¬mN (List.replicate code.length false) v:=by
  rintro v ⟨h0,h⟩;rw[v8] at h
  split at h<;>cases h
 refine GH hcl _ _ _ (by simp) (fun v hv=>?_) (by simp) ⟨fun u i hu=>absurd (fO.1 hu) (oQ _),fun v hv=>?_,fun v hv=>absurd hv (oQ v),.inr (by simp)⟩
 ·simp only[δ,η,or_false] at hv;subst hv;exact jO
 ·simp only[δ,η,or_false] at hv;exact .inl hv
theorem nj:∀{L:List Bool} {s:Nat} {v:Int},v∈xy s L↔∃k:Nat,L[k]?=some true∧v=((s+k:Nat):Int)
 |[],s,v=>⟨fun h=>(by cases h),fun⟨k,h,_⟩=>by simp at h⟩
 |b::l,s,v=>by
  simp only[xy,ζ];constructor
  ·rintro(h|h)
   ·split at h
    ·rename_i hb;simp only[δ,η,or_false] at h;exact⟨0,by simp[hb],by rw[h];simp⟩
    ·cases h
   ·obtain⟨k,h1,h2⟩:=nj.1 h;exact⟨k+1,by simpa using h1,by rw[h2];congr 1;omega⟩
  ·rintro⟨k,h1,h2⟩
   cases k with
   |zero=>simp at h1;subst h1;left;simp[h2]
   |succ k=>exact .inr (nj.2 ⟨k,by simpa using h1,by rw[h2];congr 1;omega⟩)
theorem Aa : ∀ (L : List Bool) (s : Nat), (xy s L).Pairwise (· < ·)
 | [], s => .nil
 | b :: l, s => by
  simp only [xy];have ih := Aa l (s + 1)
  split
  ·rw [List.singleton_append, List.pairwise_cons];refine ⟨fun v hv => ?_, ih⟩;obtain ⟨k, _, rfl⟩ := nj.1 hv;omega
  ·exact ih
def ft (lo hi:Nat) (i:aP):Prop:=
 (i.op=1∧i.x=0∧i.y=0∧gh i.rs=true)∨(i.op=2∧i.rs=[]∧((lo:Int)≤i.x∧i.x≤hi)∧(lo:Int)≤i.y∧i.y≤hi)∨(i.op=3∧i.rs=[]∧i.y=0∧(lo:Int)≤i.x∧i.x≤hi)∨(i.op=4∧i.rs=[]∧i.y=0∧0≤i.x∧i.x<10)∨((i.op=5∨i.op=6)∧i.rs=[]∧i.y=0∧i.x=0)
variable{lo hi:Nat}{i:aP}
theorem ft.mono {Ao l4:Nat} (h:ft lo hi i) (h1:Ao≤lo) (h2:hi≤l4):ft Ao l4 i:=by
 rcases h with h|⟨a,b,c,d⟩|⟨a,b,c,d⟩|h|h
 ·exact .inl h
 ·exact .inr (.inl ⟨a,b,by omega,by omega⟩)
 ·exact .inr (.inr (.inl ⟨a,b,c,by omega⟩))
 ·exact .inr (.inr (.inr (.inl h)))
 ·exact .inr (.inr (.inr (.inr h)))
variable{s o:Nat}{lz:Bool}
theorem ft.sp (h1:lo≤s+1∧s+1≤hi) (h2:lo≤o∧o≤hi):ft lo hi (tU s o lz):=by
 refine .inr (.inl ?_);cases lz
 ·refine⟨rfl,rfl,?_⟩;show((lo:Int)≤((s+1:Nat):Int)∧((s+1:Nat):Int)≤hi)∧(lo:Int)≤(o:Int)∧(o:Int)≤hi;omega
 ·refine⟨rfl,rfl,?_⟩;show((lo:Int)≤(o:Int)∧(o:Int)≤hi)∧(lo:Int)≤((s+1:Nat):Int)∧((s+1:Nat):Int)≤hi;omega
variable{e:Nat}
theorem ft.jp (h1:lo≤e∧e≤hi):ft lo hi (sK e):=by
 refine .inr (.inr (.inl ⟨rfl,rfl,rfl,?_⟩));show(lo:Int)≤(e:Int)∧(e:Int)≤hi;omega
theorem ft.save {x:Int} (h:0≤x∧x<10):ft lo hi (eU 4 x 0 []):=.inr (.inr (.inr (.inl ⟨rfl,rfl,rfl,h⟩)))
theorem ub {c:Nat→List aP} {z:Nat} (hc:∀b,∀i∈c b,ft b (b+z) i):∀k b,∀i∈i_ c z k b,ft b (b+k*z) i
 |0,b,i,hi=>by cases hi
 |k+1,b,i,hi=>by
  simp only[i_] at hi;rw[VT]
  rcases ζ.1 hi with hi|hi
  ·exact(hc b i hi).mono (ι _) (by omega)
  ·exact(ub hc k _ i hi).mono (by omega) (by omega)
theorem z8 {sp:Nat→aP} {c:Nat→List aP} {z lo hi:Nat} (hs:∀s,lo≤s→s+1≤hi→ft lo hi (sp s)) (hc:∀b,∀i∈c b,ft b (b+z) i):∀k b,lo≤b→b+k*(z+1)≤hi→∀i∈iL sp c z k b,ft lo hi i
 |0,b,_,_,i,l4=>by cases l4
 |k+1,b,h1,h2,i,l4=>by
  simp only[iL] at l4;rw[VT] at h2
  rcases δ.1 l4 with rfl|l4
  ·exact hs b h1 (by omega)
  ·rcases ζ.1 l4 with l4|l4
   ·exact(hc _ i l4).mono (by omega) (by omega)
   ·exact z8 hs hc k _ (by omega) (by omega) i l4
def NX (l:List fX):Prop:=∀n∈l,n.op=2→gh n.rs=true
mutual
theorem ov:∀(t:Tr) (b:Nat),t.ok→NX t.flat→∀i∈bk t b,ft b (b+t.sz) i
 | .mk n ks,b,ba,rh,i,hi=>by
  simp only[Tr.ok] at ba;simp only[Tr.flat] at rh;have hc:=fun b=>A4 ks b ba.2 (fun n hn=>rh n (π _ hn));obtain⟨_,hq⟩:=ba.1;simp only[bk] at hi;simp only[Tr.sz]
  by_cases q2:n.op=2
  ·rw[if_pos q2] at hi;simp only[δ,η,or_false] at hi;subst hi;exact .inl ⟨rfl,rfl,rfl,rh n (μ ..) q2⟩
  rw[if_neg q2] at hi
  by_cases q7:n.op=7
  ·rw[if_pos q7] at hi;simp only[δ,η,or_false] at hi;subst hi;exact .inr (.inr (.inr (.inr ⟨.inl rfl,rfl,rfl,rfl⟩)))
  rw[if_neg q7] at hi
  by_cases q8:n.op=8
  ·rw[if_pos q8] at hi;simp only[δ,η,or_false] at hi;subst hi;exact .inr (.inr (.inr (.inr ⟨.inr rfl,rfl,rfl,rfl⟩)))
  rw[if_neg q8] at hi
  have hz:∀s k,cS n s k=if n.op=4 then s+2*(k-1) else if n.op=6 then s+2 else if n.op=5 then(if n.mx=-1 then n.mn.toNat*s+s+2 else n.mn.toNat*s+(n.mx.toNat-n.mn.toNat)*(s+1)) else s:=by
   intro s k;unfold cS;rw[if_neg (by omega)]
  by_cases q3:n.op=3
  ·rw[if_pos q3] at hi;rw[hz,if_neg (by omega),if_neg (by omega),if_neg (by omega)];exact hc b i hi
  rw[if_neg q3] at hi
  by_cases q4:n.op=4
  ·rw[if_pos q4] at hi;have UE:cS n ks.sz ks.len=ks.sz+2*(ks.len-1):=by rw[hz,if_pos q4]
   rw[UE] at hi⊢;exact A8 ks b (b+(ks.sz+2*(ks.len-1))) ba.2 (fun n hn=>rh n (π _ hn)) (ι _) i hi
  rw[if_neg q4] at hi
  by_cases q5:n.op=5
  ·rw[if_pos q5] at hi;rw[hz,if_neg q4,if_neg (by omega),if_pos q5];unfold t_ at hi
   by_cases qx:n.mx=-1
   ·rw[if_pos qx] at hi⊢
    rcases ζ.1 hi with hi|hi
    ·exact(ub hc _ _ i hi).mono (ι _) (by omega)
    ·rcases δ.1 hi with rfl|hi
     ·exact ft.sp (by omega) (by omega)
     ·rcases ζ.1 hi with hi|hi
      ·exact(hc _ i hi).mono (by omega) (by omega)
      ·simp only[δ,η,or_false] at hi;subst hi;exact ft.jp (by omega)
   ·rw[if_neg qx] at hi⊢
    rcases ζ.1 hi with hi|hi
    ·exact(ub hc _ _ i hi).mono (ι _) (by omega)
    ·exact z8 (fun s h1 h2=>ft.sp (by omega) (by omega)) hc _ _ (by omega) (by omega) i hi
  rw[if_neg q5] at hi
  by_cases q6:n.op=6
  ·rw[if_pos q6] at hi;rw[hz,if_neg q4,if_pos q6]
   rcases δ.1 hi with rfl|hi
   ·exact ft.save (by omega)
   ·rcases ζ.1 hi with hi|hi
    ·exact(hc _ i hi).mono (by omega) (by omega)
    ·simp only[δ,η,or_false] at hi;subst hi;exact ft.save (by omega)
  ·rw[if_neg q6] at hi;cases hi
theorem A4:∀(ts:cN) (b:Nat),ts.ok→NX ts.flat→∀i∈jR ts b,ft b (b+ts.sz) i
 | .nil,b,_,_,i,hi=>by simp[jR] at hi
 | .cons t ts,b,ba,rh,i,hi=>by
  simp only[cN.ok] at ba;simp only[cN.flat] at rh;simp only[jR] at hi;simp only[cN.sz]
  rcases ζ.1 hi with hi|hi
  ·exact(ov t b ba.1 (fun n hn=>rh n (GB _ hn)) i hi).mono (ι _) (by omega)
  ·exact(A4 ts _ ba.2 (fun n hn=>rh n (Ut _ hn)) i hi).mono (by omega) (by omega)
theorem A8:∀(ts:cN) (b e:Nat),ts.ok→NX ts.flat→b+(ts.sz+2*(ts.len-1))≤e→∀i∈ij (sK e) ts b,ft b e i
 | .nil,b,e,_,_,_,i,hi=>by simp[ij] at hi
 | .cons t ts,b,e,ba,rh,he,i,hi=>by
  simp only[cN.ok] at ba;simp only[cN.flat] at rh;simp only[ij] at hi;simp only[cN.sz,cN.len] at he;have h1:NX t.flat:=fun n hn=>rh n (GB _ hn);have h2:NX ts.flat:=fun n hn=>rh n (Ut _ hn)
  by_cases q:ts.len=0
  ·rw[if_pos q] at hi;exact(ov t b ba.1 h1 i hi).mono (ι _) (by omega)
  ·rw[if_neg q] at hi
   rcases δ.1 hi with rfl|hi
   ·exact ft.sp (by omega) (by omega)
   ·rcases ζ.1 hi with hi|hi
    ·exact(ov t _ ba.1 h1 i hi).mono (by omega) (by omega)
    ·rcases δ.1 hi with rfl|hi
     ·exact ft.jp (by omega)
     ·exact(A8 ts _ e ba.2 h2 (by omega) i hi).mono (by omega) (by omega)
end
inductive Path (C:List aP):Nat→Nat→Prop where
 |refl (u:Nat):Path C u u
 |step {u v w:Nat} {i:aP} (h:C[u]?=some i) (hn:(v:Int)∈cH u i) (p:Path C v w):Path C u w
variable{v:Nat}{C:List aP}
theorem Path.trans {w:Nat} (h:Path C u v) (g:Path C v w):Path C u w:=by
 induction h with
 |refl=>exact g
 |step h hn _ ih=>exact .step h hn (ih g)
theorem Path.GA (h:C[u]?=some i) (ho:i.op≠2∧i.op≠3∧i.op≠7):Path C u (u+1):=
 .step h (by unfold cH;rw[if_neg ho.1,if_neg ho.2.1,if_neg ho.2.2];exact μ ..) (.refl _)
theorem Path.jp (h:C[u]?=some (sK e)):Path C u e:=
 .step h (by show(e:Int)∈cH u (eU 3 (e:Nat) 0 []);unfold cH;rw[if_neg (show¬(eU 3 (e:Nat) 0 []).op=2 by show¬(3:Int)=2;decide),if_pos (show(eU 3 (e:Nat) 0 []).op=3 from rfl)];exact μ ..) (.refl _)
theorem Path.sp (h:C[u]?=some (tU s o lz)):Path C u (s+1)∧Path C u o:=by
 have hn:cH u (tU s o lz)=[(tU s o lz).x,(tU s o lz).y]:=by
  unfold cH;rw[if_pos (by cases lz<;>rfl)]
 cases lz
 ·exact⟨.step h (by rw[hn];exact μ ..) (.refl _),.step h (by rw[hn];exact π _ (μ ..)) (.refl _)⟩
 ·exact⟨.step h (by rw[hn];exact π _ (μ ..)) (.refl _),.step h (by rw[hn];exact μ ..) (.refl _)⟩
theorem ua {C:List aP} {c:Nat→List aP} {z:Nat} (hl:∀b,(c b).length=z) (hc:∀b,jC C b (c b)→Path C b (b+z)):∀k b,jC C b (i_ c z k b)→Path C b (b+k*z)
 |0,b,_=>by rw[Pe];exact .refl _
 |k+1,b,h=>by
  rw[i_] at h;have h2:=h.right;rw[hl] at h2;have:=ua hl hc k (b+z) h2;rw[VT,show b+(k*z+z)=b+z+k*z by omega];exact(hc b h.left).trans this
theorem JX: ∀ (m : Nat) (t : Tr), t.flat.length ≤ m → ∀ b : Nat, t.ok → jC C b (bk t b) → Path C b (b + t.sz) := by
  intro m
  induction m with
  | zero => intro t h; have := t.l7; omega
  | succ m ih =>
    rintro ⟨n, ks⟩ hm b ba h
    simp only [Tr.flat, γ] at hm
    simp only [Tr.ok] at ba
    have hcat : ∀ (ts : cN) (b : Nat), ts.flat.length ≤ m → ts.ok → jC C b (jR ts b) → Path C b (b + ts.sz) := by
      intro ts
      induction ts using cN.rec (motive_1 := fun _ => True) with
      | mk => trivial
      | nil => intro b _ _ _; exact .refl _
      | cons t ts _ HT =>
        intro b h1 h2 h3
        simp only [cN.flat, ε] at h1
        simp only [cN.ok] at h2
        simp only [jR] at h3
        have h4 := h3.right
        rw [dZ t b h2.1] at h4
        have h5 := HT (b + t.sz) (by omega) h2.2 h4
        simp only [cN.sz]
        rw [← ki]
        exact (ih t (by omega) b h2.1 h3.left).trans h5
    obtain ⟨oQ, mA⟩ := ba
    obtain ⟨_, hq⟩ := oQ
    have kq := fun b => tu ks b mA
    simp only [bk] at h
    simp only [Tr.sz]
    have hz : ∀ s k, cS n s k = if n.op = 2 ∨ n.op = 7 ∨ n.op = 8 then 1 else if n.op = 4 then s + 2 * (k - 1) else if n.op = 6 then s + 2 else if n.op = 5 then (if n.mx = -1 then n.mn.toNat * s + s + 2 else n.mn.toNat * s + (n.mx.toNat - n.mn.toNat) * (s + 1)) else s := fun s k => rfl
    rw [hz]
    by_cases q2 : n.op = 2
    · rw [if_pos q2] at h
      rw [if_pos (.inl q2)]
      exact Path.GA h.head (by show (1 : Int) ≠ 2 ∧ (1 : Int) ≠ 3 ∧ (1 : Int) ≠ 7; decide)
    rw [if_neg q2] at h
    by_cases q7 : n.op = 7
    · rw [if_pos q7] at h
      rw [if_pos (.inr (.inl q7))]
      exact Path.GA h.head (by show (5 : Int) ≠ 2 ∧ (5 : Int) ≠ 3 ∧ (5 : Int) ≠ 7; decide)
    rw [if_neg q7] at h
    by_cases q8 : n.op = 8
    · rw [if_pos q8] at h
      rw [if_pos (.inr (.inr q8))]
      exact Path.GA h.head (by show (6 : Int) ≠ 2 ∧ (6 : Int) ≠ 3 ∧ (6 : Int) ≠ 7; decide)
    rw [if_neg q8] at h
    rw [if_neg (by omega)]
    by_cases q3 : n.op = 3
    · rw [if_pos q3] at h
      rw [if_neg (by omega), if_neg (by omega), if_neg (by omega)]
      exact hcat ks b (by omega) mA h
    rw [if_neg q3] at h
    by_cases q4 : n.op = 4
    · rw [if_pos q4] at h
      have UE : cS n ks.sz ks.len = ks.sz + 2 * (ks.len - 1) := by rw [hz, if_neg (by omega), if_pos q4]
      rw [UE] at h
      rw [if_pos q4]
      cases ks with
      | nil => simp only [cN.len] at hq; omega
      | cons t ts =>
        simp only [cN.len] at hq
        simp only [cN.flat, ε] at hm
        simp only [cN.ok] at mA
        simp only [ij] at h
        rw [if_neg (by omega)] at h
        have h1 := (Path.sp h.head).1
        have h2 := ih t (by omega) (b + 1) mA.1 h.tail.left
        have h3 := h.tail.right
        rw [dZ t _ mA.1] at h3
        exact h1.trans (h2.trans (Path.jp h3.head))
    rw [if_neg q4] at h
    rw [if_neg q4]
    by_cases q5 : n.op = 5
    · rw [if_pos q5] at h
      rw [if_neg (by omega), if_pos q5]
      unfold t_ at h
      by_cases qx : n.mx = -1
      · rw [if_pos qx] at h ⊢
        have h1 := ua kq (fun b hb => hcat ks b (by omega) mA hb) _ _ h.left
        have h2 := h.right
        rw [nh kq] at h2
        have h3 := (Path.sp h2.head).2
        rw [show b + (n.mn.toNat * ks.sz + ks.sz + 2) = b + n.mn.toNat * ks.sz + ks.sz + 2 by omega]
        exact h1.trans h3
      · rw [if_neg qx] at h ⊢
        have h1 := ua kq (fun b hb => hcat ks b (by omega) mA hb) _ _ h.left
        have h2 := h.right
        rw [nh kq] at h2
        by_cases hd : n.mx.toNat - n.mn.toNat = 0
        · rw [hd, Pe, Nat.add_zero]; exact h1
        · obtain ⟨d, hd2⟩ : ∃ d, n.mx.toNat - n.mn.toNat = d + 1 := ⟨n.mx.toNat - n.mn.toNat - 1, by omega⟩
          rw [hd2] at h2 ⊢
          rw [iL] at h2
          have h3 := (Path.sp h2.head).2
          rw [← ki]
          exact h1.trans h3
    rw [if_neg q5] at h
    by_cases q6 : n.op = 6
    · rw [if_pos q6] at h
      rw [if_pos q6]
      have h1 : Path C b (b + 1) := Path.GA h.head (by show (4 : Int) ≠ 2 ∧ (4 : Int) ≠ 3 ∧ (4 : Int) ≠ 7; decide)
      have h2 := hcat ks (b + 1) (by omega) mA h.tail.left
      have h3 := h.tail.right
      rw [kq] at h3
      have h4 : Path C (b + 1 + ks.sz) (b + 1 + ks.sz + 1) := Path.GA h3.head (by show (4 : Int) ≠ 2 ∧ (4 : Int) ≠ 3 ∧ (4 : Int) ≠ 7; decide)
      rw [show b + (ks.sz + 2) = b + 1 + ks.sz + 1 by omega]
      exact h1.trans (h2.trans h4)
    · have D_ : ks.len = 0 := by omega
      have := cN.len_nil D_
      subst this
      rw [if_neg q6, if_neg q5]
      exact .refl _
theorem GI {code:List aP} {I:Nat→Prop} (hI:∀u i,I u→code[u]?=some i→∀v∈cH u i,I v.toNat):∀(f:Nat) (seen:List Bool) (il:List Int),(∀v∈il,I v.toNat)→(∀u:Nat,seen[u]?=some true→I u)→∀u:Nat,(CB code f seen il)[u]?=some true→I u
 |0,seen,il,_,h2,u,h=>h2 u h
 |f+1,seen,[],_,h2,u,h=>h2 u h
 |f+1,seen,v::il,h1,h2,u,h=>by
  have hv:=h1 v (μ ..);have hs:∀w∈il,I w.toNat:=fun w hw=>h1 w (π _ hw);unfold CB at h
  split at h
  ·split at h
   ·rename_i i hi;refine GI hI f _ _ (fun w hw=>?_) (fun w hw=>?_) u h
    ·rcases ζ.1 hw with hw|hw
     ·exact hI _ i hv hi w (Ξ.1 hw)
     ·exact hs w hw
    ·by_cases he:v.toNat=w
     ·rw[←he];exact hv
     ·rw[χ he] at hw;exact h2 w hw
   ·exact h2 u h
  ·exact GI hI f _ _ hs h2 u h
theorem I9 (hcl:lF code) (jO:0≤start∧start<(code.length:Int)) (p:Path code u v):(bR code start)[u]?=some true→(bR code start)[v]?=some true:=by
 obtain⟨ha,_,_,_⟩:=sx hcl jO
 induction p with
 |refl=>exact id
 |@step u v w i h hn _ ih=>
  intro hu;refine ih ?_
  rcases ha u i hu h _ hn with hs|hs
  ·exact fO.2 hs
  ·cases hs
theorem Dj (hcl:lF code) (hs:s<code.length):(bR code (s:Nat))[s]?=some true:=by
 obtain⟨_,_,_,hd⟩:=sx (start:=((s:Nat):Int)) hcl ⟨by omega,by omega⟩
 rcases hd with hd|hd
 ·exact fO.2 hd
 ·cases hd
mutual
theorem Tr.Zq:∀t:Tr,True
 | .mk _ _=>trivial
theorem cN.Zq:∀t:cN,True
 | .nil=>trivial
 | .cons _ _=>trivial
end
theorem KO {n:fX} {g:Int} (h:(iY n g).2=true) (h2:n.op=2):gh n.rs=true:=by
 unfold iY at h
 split at h
 ·cases h
 ·rw[if_neg (show¬(n.op=1∨n.op=7∨n.op=8) by omega)] at h;have h:(n.kids==0 &&gh n.rs)=true:=h;rw[Zt] at h;exact h.2
theorem HO {l:List fX} {h:Nat→Nat→Option (Nat×Nat)} (ih:∀at_ g r,h at_ g=some r→at_≤r.1∧∀j n,at_≤j→j<r.1→l[j]?=some n→n.op=2→gh n.rs=true):∀k at_ g r,nv h k at_ g=some r→at_≤r.1∧∀j n,at_≤j→j<r.1→l[j]?=some n→n.op=2→gh n.rs=true
 |0,at_,g,r,e=>by
  simp only[nv,Zn.injEq] at e;subst e;exact⟨ι _,fun j n h1 h2=>by simp only at h2;omega⟩
 |k+1,at_,g,r,e=>by
  unfold nv at e
  cases hq:h at_ g with
  |none=>rw[hq] at e;cases e
  |some q=>
   rw[hq] at e;obtain⟨t1,t2⟩:=ih _ _ _ hq;obtain⟨u1,u2⟩:=HO ih k _ _ _ e;refine⟨Nat.le_trans t1 u1,fun j n h1 h2 hj ho=>?_⟩
   by_cases hjq:j<q.1
   ·exact t2 j n h1 hjq hj ho
   ·exact u2 j n (by omega) h2 hj ho
theorem Ln {l:List fX}:∀f at_ g r,lV l f at_ g=some r→at_≤r.1∧∀j n,at_≤j→j<r.1→l[j]?=some n→n.op=2→gh n.rs=true
 |0,_,_,_,e=>by simp[lV] at e
 |f+1,at_,g,r,e=>by
  unfold lV at e
  cases hn:l[at_]? with
  |none=>rw[hn] at e;cases e
  |some n=>
   rw[hn] at e;simp only at e
   split at e
   ·rename_i hs;obtain⟨u1,u2⟩:=HO (Ln f) _ _ _ _ e;refine⟨by omega,fun j m h1 h2 hj ho=>?_⟩
    by_cases hja:j=at_
    ·subst hja;rw[hn] at hj;cases hj;exact KO hs ho
    ·exact u2 j m (by omega) h2 hj ho
   ·cases e
theorem KY {l:List fX} (h:kb l=true):NX l:=by
 unfold kb at h;simp only[Zt] at h;obtain⟨_,h⟩:=h
 split at h
 ·rename_i r hr;rw[decide_eq_true_eq] at h;obtain⟨_,h2⟩:=Ln _ _ _ _ hr;intro n hn ho;obtain⟨j,hj⟩:=φ hn;exact h2 j n (Nat.zero_le _) (by rw[h];exact bp hj) hj ho
 ·cases h
structure Tu (n0 r0:Nat) (C:List aP) (B:List Int) (k:Nat):Prop where
 bl:B.length=k
 fs:0<k→B[0]?=some ((n0:Nat):Int)
 el:∀j,j<k→∃(t:Tr) (b:Nat),t.ok∧NX t.flat∧B[j]?=some (b:Int)∧n0≤b∧(∀b':Int,B[j+1]?=some b'→b'=((b+t.sz+3:Nat):Int))∧(j+1=k→n0+C.length=b+t.sz+3)∧∃pre post,C=pre++iq t b (r0+j)++post∧n0+pre.length=b
 al:∀i q,C[i]?=some q→∃j,j<k∧∃(t:Tr) (b:Nat),B[j]?=some (b:Int)∧t.ok∧NX t.flat∧b≤n0+i∧n0+i<b+t.sz+3∧b+t.sz+3≤n0+C.length∧q∈iq t b (r0+j)∧(iq t b (r0+j))[n0+i-b]?=some q
theorem yJ:∀(ls:List (List fX)) (r:Nat) (c:List aP) (s:List Int),(iy ls r c s).e=0→∃C B,(iy ls r c s).code=c++C∧(iy ls r c s).ak=s++B∧Tu c.length r C B ls.length
 |[],r,c,s,h=>by
  rw[GQ];exact⟨[],[],by simp,by simp,rfl,fun h=>by simp at h,fun j hj=>by simp at hj,fun i q hi=>by simp at hi⟩
 |l::ls,r,c,s,h=>by
  rw[iy] at h⊢
  by_cases hr:kb l=false
  ·rw[if_pos hr] at h;cases h
  rw[if_neg hr] at h⊢;rw[Bool.not_eq_false] at hr
  by_cases hb:400<c.length+min (eC l).sz 401+3
  ·rw[if_pos hb] at h;cases h
  rw[if_neg hb] at h⊢;obtain⟨t1,t2⟩:=Bg hr;have rh:NX (eC l).flat:=by rw[t2];exact KY hr
  have hlen:=pW (b:=c.length) (r:=r) t1;obtain⟨C,B,h1,h2,h3⟩:=yJ ls (r+1) _ _ h;rw[ε,hlen] at h3;refine⟨iq (eC l) c.length r++C,((c.length:Nat):Int)::B,by rw[h1,ς],by rw[h2,ς];rfl,by simp[h3.bl],fun _=>rfl,fun j hj=>?_,fun i q hi=>?_⟩
  ·cases j with
   |zero=>
    refine⟨eC l,c.length,t1,rh,rfl,ι _,fun b' gx=>?_,fun SI=>?_,[],C,by simp,by simp⟩
    ·simp only[Θ,xw] at gx;have hB:=h3.bl;have hlt:=bp gx;rw[h3.fs (by omega)] at gx;cases gx
     congr 1
    ·simp only[γ] at SI;have Fa:ls.length=0:=by omega
     have hC:C=[]:=by
      cases hc:C with
      |nil=>rfl
      |cons q C'=>
       obtain⟨j,hj,_⟩:=h3.al 0 q (by rw[hc];rfl);omega
     rw[hC,Y',hlen];omega
   |succ j=>
    simp only[γ] at hj;obtain⟨t,b,q1,q2,q3,q4,q5,q6,pre,post,q7,q8⟩:=h3.el j (by omega);refine⟨t,b,q1,q2,q3,by omega,q5,fun SI=>?_,iq (eC l) c.length r++pre,post,?_,?_⟩
    ·simp only[γ] at SI;have:=q6 (by omega);rw[ε,hlen];omega
    ·rw[q7,show r+1+j=r+(j+1) by omega];simp only[ς]
    ·rw[ε,hlen];omega
  ·by_cases hil:i<(iq (eC l) c.length r).length
   ·rw[θ hil] at hi;refine⟨0,by simp,eC l,c.length,rfl,t1,rh,by omega,by omega,by rw[ε,hlen];omega,ψ hi,?_⟩;rw[show c.length+i-c.length=i by omega];exact hi
   ·rw[κ (by omega)] at hi;obtain⟨j,q1,t,b,q2,q3,q4,q5,q6,q7,q8,q9⟩:=h3.al _ q hi;rw[hlen] at q5 q6 q9 hil;refine⟨j+1,by simp only[γ];omega,t,b,q2,q3,q4,by omega,by omega,by rw[ε,hlen];omega,by rw[show r+(j+1)=r+1+j by omega];exact q8,?_⟩;rw[show r+(j+1)=r+1+j by omega,show c.length+i-b=c.length+((eC l).sz+3)+(i-((eC l).sz+3))-b by omega];exact q9
theorem JF (h:ft lo hi i) (h1:lo≤u+1) (h2:u+1≤hi):∀v∈cH u i,(lo:Int)≤v∧v≤hi:=by
 intro v hv;unfold cH at hv
 rcases h with⟨a,_⟩|⟨a,_,c,d⟩|⟨a,_,_,d⟩|⟨a,_⟩|⟨a,_⟩
 ·rw[if_neg (by omega),if_neg (by omega),if_neg (by omega)] at hv;simp only[δ,η,or_false] at hv;omega
 ·rw[if_pos a] at hv;simp only[δ,η,or_false] at hv
  rcases hv with rfl|rfl<;>omega
 ·rw[if_neg (by omega),if_pos a] at hv;simp only[δ,η,or_false] at hv;omega
 ·rw[if_neg (by omega),if_neg (by omega),if_neg (by omega)] at hv;simp only[δ,η,or_false] at hv;omega
 ·rw[if_neg (by omega),if_neg (by omega),if_neg (by omega)] at hv;simp only[δ,η,or_false] at hv;omega
theorem Eo {n ns pc:Nat} (h:ft lo hi i) (h1:hi<n) (h2:pc+1<n):dv n ns pc i=true:=by
 have rz:∀v:Int,(lo:Int)≤v→v≤hi→my v n=true:=fun v a b=>fK.2 ⟨by omega,by omega⟩;have hd:decide (((pc+1:Nat):Int)<n)=true:=by rw[decide_eq_true_eq];omega
 unfold dv
 rcases h with⟨a,b,c,d⟩|⟨a,b,c,d⟩|⟨a,b,c,d⟩|⟨a,b,c,d⟩|⟨a,b,c,d⟩
 ·rw[if_pos a,hd,b,c,d];rfl
 ·rw[if_neg (by omega),if_pos a,b,rz _ c.1 c.2,rz _ d.1 d.2];rfl
 ·rw[if_neg (by omega),if_neg (by omega),if_pos a,b,c,rz _ d.1 d.2];rfl
 ·rw[if_neg (by omega),if_neg (by omega),if_neg (by omega),if_pos a,b,c,hd,fK.2 ⟨d.1,d.2⟩];rfl
 ·rw[if_neg (by omega),if_neg (by omega),if_neg (by omega),if_neg (by omega),if_pos a,b,c,hd,d];rfl
theorem tZ {t:Tr} {b r:Nat} {q:aP} (h1:t.ok) (h2:NX t.flat) (h:(iq t b r)[o]?=some q):(o<t.sz+2∧ft b (b+t.sz+2) q)∨(o=t.sz+2∧q=eU 7 (r:Nat) 0 []):=by
 have hl:=dZ t (b+1) h1;have hA:iq t b r=(eU 4 0 0 []::(bk t (b+1)++[eU 4 1 0 []]))++[eU 7 (r:Nat) 0 []]:=by unfold iq;simp
 have hAl:(eU 4 0 0 []::(bk t (b+1)++[eU 4 1 0 []])).length=t.sz+2:=by simp[hl]
 rw[hA] at h
 by_cases ho:o<t.sz+2
 ·rw[θ (by omega)] at h;refine .inl ⟨ho,?_⟩;have hm:=ψ h
  rcases δ.1 hm with rfl|hm
  ·exact ft.save (by omega)
  ·rcases ζ.1 hm with hm|hm
   ·exact(ov t (b+1) h1 h2 q hm).mono (by omega) (by omega)
   ·simp only[δ,η,or_false] at hm;subst hm;exact ft.save (by omega)
 ·rw[κ (by omega),hAl] at h;have h0:=bp h;simp only[γ,ο] at h0;have Aw:o=t.sz+2:=by omega
  refine .inr ⟨Aw,?_⟩;rw[Aw,Nat.sub_self] at h;exact(Zn.inj h).symm
structure Yc (p:Pg) (r s e:Nat):Prop where
 st:p.ak[r]?=some (s:Int)
 se:s<e
 el:e≤p.code.length
 nx:∀b':Int,p.ak[r+1]?=some b'→b'=(e:Int)
 la:r+1=p.ak.length→p.code.length=e
 mt:p.code[e-1]?=some (eU 7 (r:Nat) 0 [])
 fi:(xe p (r:Nat))[0]?=some (s:Int)
 lt:(xe p (r:Nat))[(xe p (r:Nat)).length-1]?=some ((e-1:Nat):Int)
theorem I3 {X:List Int} {a b:Int} (hp:X.Pairwise (·<·)) (ha:a∈X) (hb:b∈X) (h:∀v∈X,a≤v∧v≤b):X[0]?=some a∧X[X.length-1]?=some b:=by
 obtain⟨i,hi⟩:=φ ha;obtain⟨j,hj⟩:=φ hb;have hil:=bp hi;have oH:=bp hj
 have hlt:∀u v (x y:Int),u<v→X[u]?=some x→X[v]?=some y→x<y:=fun u v x y huv hx hy=>by
  have:=List.pairwise_iff_getElem.1 hp u v (bp hx) (bp hy) huv;have ex:X[u]'(bp hx)=x:=Zn.inj ((ξ _).symm.trans hx);have ey:X[v]'(bp hy)=y:=Zn.inj ((ξ _).symm.trans hy);rw[ex,ey] at this;exact this
 constructor
 ·obtain⟨x,hx⟩:∃x,X[0]?=some x:=⟨X[0]'(by omega),ξ _⟩
  have:=h x (ψ hx)
  by_cases h0:i=0
  ·rw[←h0];exact hi
  ·have:=hlt 0 i x a (by omega) hx hi;omega
 ·obtain⟨x,hx⟩:∃x,X[X.length-1]?=some x:=⟨X[X.length-1]'(by omega),ξ _⟩
  have:=h x (ψ hx)
  by_cases h0:j=X.length-1
  ·rw[←h0];exact hj
  ·have:=hlt j (X.length-1) b x (by omega) hj hx;omega
theorem FW {parts:List (List fX)} (hl:parts.length≤8) (he:(cv parts).e=0) (hcl:(cv parts).code.length≤400):
  bm (ui (cv parts).code (cv parts).ak)∧(cv parts).ak.length=parts.length∧∀r,r<parts.length→∃s e,Yc (ui (cv parts).code (cv parts).ak) r s e:=by
 have kZ:cv parts=iy parts 0 [] []:=by unfold cv;rw[if_neg (by omega)]
 rw[kZ] at he hcl⊢;obtain⟨C,B,h1,h2,h3⟩:=yJ parts 0 [] [] he;simp only[IT] at h1 h2;simp only[ο] at h3;rw[h1] at hcl;rw[h1,h2];have Wl:=h3.bl
 have hsh:∀pc i,C[pc]?=some i→dv C.length B.length pc i=true:=by
  intro pc i hi;obtain⟨j,q1,t,b,q2,q3,q4,q5,q6,q7,q8,q9⟩:=h3.al pc i hi;rw[Θ] at q9
  rcases tZ q3 q4 q9 with⟨g1,g2⟩|⟨g1,g2⟩
  ·exact Eo g2 (by omega) (by omega)
  ·rw[g2];have:my ((j:Nat):Int) B.length=true:=fK.2 ⟨by omega,by omega⟩;unfold dv eU;simp[this]
 have V1:lF C:=qQ (p:=ui C B) hsh
 have L8:∀r,r<parts.length→∃s e:Nat,B[r]?=some (s:Int)∧s<e∧e≤C.length∧(∀b':Int,B[r+1]?=some b'→b'=(e:Int))∧(r+1=parts.length→C.length=e)∧C[e-1]?=some (eU 7 (r:Nat) 0 [])∧(∀u:Nat,(bR C (s:Nat))[u]?=some true→s≤u∧u<e)∧(bR C (s:Nat))[s]?=some true∧(bR C (s:Nat))[e-1]?=some true∧∀u i,s≤u→u<e→C[u]?=some i→i.op=7→i.x=(r:Int):=by
  intro r hr;obtain⟨t,b,q1,q2,q3,q4,q5,q6,pre,post,q7,q8⟩:=h3.el r hr;rw[Θ] at q6 q8;rw[Θ] at q7;have sQ:=pW (b:=b) (r:=r) q1;have TV:C.length=b+(t.sz+3)+post.length:=by rw[q7,ε,ε,sQ,q8]
  have mB:∀u,b≤u→u<b+t.sz+3→C[u]?=(iq t b r)[u-b]?:=fun u g1 g2=>by
   rw[q7,ς,κ (by omega),q8,θ (by omega)]
  have oa:jC C b (iq t b r):=⟨post,by rw[q7,ς,←q8,List.drop_left]⟩
  have rz:∀u:Nat,(bR C (b:Nat))[u]?=some true→b≤u∧u<b+t.sz+3:=by
   unfold bR;refine GI (I:=fun u=>b≤u∧u<b+t.sz+3) (fun u i hu hi v hv=>?_) _ _ _ (fun v hv=>?_) (fun u hu=>?_)
   ·rw[mB u hu.1 hu.2] at hi
    rcases tZ q1 q2 hi with⟨g1,g2⟩|⟨g1,g2⟩
    ·have:=JF (u:=u) g2 (by omega) (by omega) v hv;omega
    ·rw[g2] at hv;have:cH u (eU 7 (r:Nat) 0 [])=[]:=by unfold cH eU;simp
     rw[this] at hv;cases hv
   ·simp only[δ,η,or_false] at hv;subst hv;rw[υ];omega
   ·rw[v8] at hu
    split at hu<;>cases hu
  have hs:=Dj (s:=b) V1 (by omega)
  have hmt:C[b+t.sz+3-1]?=some (eU 7 (r:Nat) 0 []):=by
   rw[mB _ (by omega) (by omega)];unfold iq;have B4:=dZ t (b+1) q1;rw[show b+t.sz+3-1-b=(t.sz+1)+1 by omega,xw,κ (by omega),B4,show t.sz+1-t.sz=1 by omega]
   rfl
  have Vc:Path C b (b+t.sz+3-1):=by
   unfold iq at oa;have p1:Path C b (b+1):=Path.GA oa.head (by show(4:Int)≠2∧(4:Int)≠3∧(4:Int)≠7;decide);have p2:=JX (C:=C) _ t (ι _) (b+1) q1 oa.tail.left;have h4:=oa.tail.right;rw[dZ t _ q1] at h4;have p3:Path C (b+1+t.sz) (b+1+t.sz+1):=Path.GA h4.head (by show(4:Int)≠2∧(4:Int)≠3∧(4:Int)≠7;decide);rw[show b+t.sz+3-1=b+1+t.sz+1 by omega];exact p1.trans (p2.trans p3)
  refine⟨b,b+t.sz+3,q3,by omega,by omega,fun b' gx=>q5 b' gx,q6,hmt,rz,hs,I9 V1 ⟨by omega,by omega⟩ Vc hs,fun u i g1 g2 hi ho=>?_⟩;rw[mB u g1 g2] at hi
  rcases tZ q1 q2 hi with⟨_,g3⟩|⟨_,g3⟩
  ·rcases g3 with⟨a,_⟩|⟨a,_⟩|⟨a,_⟩|⟨a,_⟩|⟨a,_⟩<;>omega
  ·rw[g3];rfl
 have hR:bm (ui C B):=by
  refine⟨hcl,by show B.length≤8;omega,hsh,fun v hv=>?_,fun r s hs pc i E8 U0 hi ho=>?_⟩
  ·obtain⟨r,hr⟩:=φ (show v∈B from hv);obtain⟨s,e,g1,g2,g3,_⟩:=L8 r (by rw[←Wl];exact bp hr);rw[g1] at hr;cases hr;show(0:Int)≤(s:Int)∧(s:Int)<(C.length:Int);omega
  ·have hs:B[r]?=some s:=hs;obtain⟨s',e,g1,g2,g3,g4,g5,g6,g7,g8,g9,g10⟩:=L8 r (by rw[←Wl];exact bp hs);rw[g1] at hs;cases hs;obtain⟨k1,k2⟩:=g7 pc U0;exact g10 pc i k1 k2 hi ho
 refine⟨hR,by rw[Wl],fun r hr=>?_⟩;obtain⟨s,e,g1,g2,g3,g4,g5,g6,g7,g8,g9,g10⟩:=L8 r hr
 have hrn:xe (ui C B) (r:Nat)=xy 0 (bR C (s:Nat)):=by
  unfold xe;have hi:my ((r:Nat):Int) (ui C B).ak.length=true:=fK.2 ⟨by omega,by show((r:Nat):Int)<(B.length:Nat);omega⟩;rw[b_ hR,hi]
  have TP:(ui C B).ak.getD ((r:Nat):Int).toNat 0=(s:Int):=by
   rw[υ,List.getD_eq_getElem?_getD];show(B[r]?).getD 0=_;rw[g1];rfl
  rw[TP];rfl
 have QS:=I3 (Aa (bR C (s:Nat)) 0) (a:=(s:Int)) (b:=((e-1:Nat):Int)) (nj.2 ⟨s,g8,by rw[Θ]⟩) (nj.2 ⟨e-1,g9,by rw[Θ]⟩) (fun v hv=>by
  obtain⟨k,k1,k2⟩:=nj.1 hv;have:=g7 k k1
  omega)
 exact⟨s,e,g1,g2,g3,fun b' gx=>g4 b' gx,fun gw=>g5 (by rw[←Wl];exact gw),g6,by rw[hrn];exact QS.1,by rw[hrn];exact QS.2⟩
def rM (fr:Go.V.Fr) (k:Nat):Go.V.D:=Go.V.nth .bI fr.loc k
theorem A0:∀(ls:List (List fX)) (r:Nat) (c:List aP) (s:List Int),(iy ls r c s).e≠0→(iy ls r c s).code=[]∧(iy ls r c s).ak=[]
 |[],r,c,s,h=>by rw[uP] at h;exact absurd rfl h
 |l::ls,r,c,s,h=>by
  rw[iy] at h⊢
  split
  ·exact⟨rfl,rfl⟩
  ·rename_i h1;rw[if_neg h1] at h
   split
   ·exact⟨rfl,rfl⟩
   ·rename_i h2;rw[if_neg h2] at h;exact A0 ls _ _ _ h
variable{ls:List (List fX)}
theorem vF (h:(cv ls).e≠0):(cv ls).code=[]∧(cv ls).ak=[]:=by
 unfold cv at h⊢
 split
 ·exact⟨rfl,rfl⟩
 ·rename_i h1;rw[if_neg h1] at h;exact A0 _ _ _ _ h
theorem Fw:bm (ui [] []):=⟨by simp[ui],by simp[ui],fun pc i h=>by simp[ui] at h,fun v h=>by simp[ui] at h,fun r s h=>by simp[ui] at h⟩
theorem zu (hl:ls.length≤8) (hcl:(cv ls).code.length≤400):bm (ui (cv ls).code (cv ls).ak):=by
 by_cases he:(cv ls).e=0
 ·exact(FW hl he hcl).1
 ·rw[(vF he).1,(vF he).2];exact Fw
variable{x:D}{s0:St}{ps:List (List UInt8)}
theorem xK (hx:V.Rows s0 1 x (ps.map tQ)) (hl:ps.length≤1048576) (hb:∀b∈ps,b.length≤1048576):∃d,Ev pv 14 [x] s0 d s0∧∃(ls:List (List fX)) (R:y7),cv ls=R∧ls.length≤8∧R.code.length≤400∧d=.tup [(ui R.code R.ak).d,.bool (R.e==0)]∧(ui R.code R.ak).ok:=by
 refine Ev.FP rfl aca rfl rfl rfl ?_;refine zE ?_;obtain⟨aN,hF,hH⟩:=ri s0;generalize ae .ro s0=S at*;have hx:=Arg.of hx aN;refine zQ 2 ?_;refine qa hH fun k2 st hk2 hH=>?_;refine zQ 11 ?_;have hH:Has s0.bs.length S st (.aF .nul 1 (([]:List (List fX)).map gL)::.box k2 (.mem 0 false [.nul,.nul])::[]):=hH.fW 1;refine zQ 1 ?_;refine ag.loop (fun mm fr st=>∃(i:Nat) (ld:D) (parts:List (List fX)),fr.clean=⟨11,[x,rM fr 1,.ptr k2 0 0,.bool false,ld,.int .i64 (i:Nat),rM fr 6,rM fr 7,rM fr 8,rM fr 9,rM fr 10],[]⟩∧Has s0.bs.length S st [.aF ld 1 (parts.map gL),.box k2 (.mem 0 false [.nul,.nul])]∧(i+mm=8)∧(∀l∈parts,(∀n∈l,CC n)∧l.length≤500)∧(parts.length≤i)) (8) ?_ ?_
 ·exact⟨0,.nul,[],rfl,hH,by omega,fun l hl=>(by cases hl),by simp⟩
 rintro mm fr st ⟨i,ld,parts,hfr,hH,hi,hp,fT⟩;rw[hfr];clear hfr;generalize rM fr=ee;clear fr;refine zQ 2 ?_;refine ag.dM 19 (.bool (decide (((i:Nat):Int)<((ps.length:Nat):Int)) &&decide (((i:Nat):Int)<8))) [] ?_ (fun ff tmp dj=>?_)
 ·refine zQ 2 ?_;refine qn ?_;simp only[τ];refine zQ 2 ?_;refine ab.two 16 rfl (fun iN=>?_) (fun iN=>?_)
  ·refine zQ 3 ?_;refine Ψ (aR ?_ ?_)
   ·dsimp only[aK,YH,nth,u2,u1]
    all_goals(first|rfl|simp)
   ·refine zF ?_
    all_goals(simp_all;done)
  ·refine zQ 3 ?_;refine Ψ (aR ?_ ?_)
   ·dsimp only[aK,YH,nth,u2,u1]
    all_goals(first|rfl|simp)
   ·refine zF ?_
    all_goals(simp_all;omega)
 refine zG ?_
 by_cases hlt:i<ps.length∧i<8
 ·obtain⟨b,SV⟩:∃b,ps[i]?=some b:=⟨ps[i]'hlt.1,ξ _⟩
  have gw:=Ov SV;have hbl:=hb b (ψ SV);have oK:(decide (((i:Nat):Int)<((ps.length:Nat):Int)) &&decide (((i:Nat):Int)<8))=true:=by rw[Zt,decide_eq_true_eq,decide_eq_true_eq];omega
  rw[oK] at dj;refine zQ 4 ?_;obtain⟨_,ax,l,e,w,rfl,hv,px⟩:=Lf (s0:=st) hbl;refine zQ 4 ?_;refine qr fun Ro Gd=>?_;refine qR ?_;refine qv (ax) ?_;refine zQ 13 ?_;refine zI (fun he=>?_) fun he=>?_
  ·refine zQ 3 ?_;refine qh (s:=1) (vs:=[_]) hH fun k35 st adx hH=>?_;refine ab.cL (s:=1) hH rfl (ev rfl) (ev rfl) (by exact aO) (by exact hH.rows (by exact aB)) rfl rfl rfl rfl rfl rfl rfl ⟨(ν rfl),(ν rfl)⟩ (fun _=>(aa rfl _)) (by simp only[γ,ο,τ]<;>omega) (by exact .inl hF) (fun x36 st hH=>?_);dsimp only[u2,u1,u3,u4,setMany,u5,u6,JS,Δ,gL,vG,Pg.d,Pg.cs,ui] at hH;refine zQ 2 ?_;have hH:=hH.drop 1;refine zQ 5 ?_;refine⟨mm-1,by omega,⟨i+1,x36,parts++[l],rfl,(by rw[IS];exact hH),by omega,?_,by rw[ε];simp only[γ,ο];omega⟩⟩;intro l' j7
   rcases ζ.1 j7 with j7|j7
   ·exact hp l' j7
   ·simp only[δ,η,or_false] at j7;subst j7;exact⟨hv,px⟩
  ·refine zQ 6 ?_;exact⟨mm-1,by omega,⟨i+1,ld,parts,rfl,hH,by omega,hp,by omega⟩⟩
 ·have oK:(decide (((i:Nat):Int)<((ps.length:Nat):Int)) &&decide (((i:Nat):Int)<8))=false:=by
   rw[Bool.and_eq_false_iff,decide_eq_false_iff_not,decide_eq_false_iff_not];omega
  rw[oK] at dj;refine zQ 2 ?_;obtain⟨ax,ba,hlen⟩:=GP hp (by omega) (hH.rows aB);generalize hRR:cv parts=R at*;refine zQ 3 ?_;refine qv (ax) ?_;refine zQ 4 ?_;refine qa hH fun k9 st PB hH=>?_;refine qS hH aB fun st hH=>?_;dsimp only[u2,u1,u3,u4,setMany,u5,u6,JS,Δ,gL,vG,Pg.d,Pg.cs,ui] at hH;refine zQ 5 ?_;refine ab.av (m:=2) hH rfl (ev rfl) (by exact aB) (by dsimp only[Bv,Ω,List.take_succ_cons,List.take_zero,gL,vG,Pg.d,Pg.cs,ui]<;>rfl) rfl rfl (aa rfl _) ?_;refine zQ 2 ?_;refine qS hH a_ fun st hH=>?_;dsimp only[u2,u1,u3,u4,setMany,u5,u6,JS,Δ,gL,vG,Pg.d,Pg.cs,ui] at hH;refine zQ 2 ?_;refine ag.ret ⟨rx,_,_,hH.fm rfl a_ rfl rfl,rl aN hH (show _=some (D.tup [(ui R.code R.ak).d,.bool (R.e==0)]) from rfl),⟨parts,R,hRR,by omega,hlen,rfl,ba⟩⟩
theorem lL (hx:V.Rows s0 1 x (ps.map tQ)) (hl:ps.length≤1048576) (hb:∀b∈ps,b.length≤1048576):∃d,Ev pv 14 [x] s0 d s0∧∃(p:Pg) (ok:Bool),d=.tup [p.d,.bool ok]∧p.ok∧bm p:=by
 obtain⟨d,ax,ls,R,rfl,hls,hcl,rfl,ba⟩:=xK (s0:=s0) hx hl hb;exact⟨_,ax,_,_,rfl,ba,zu hls hcl⟩
def kF:Nat→Nat→Nat
 |0,_=>0
 |f+1,m=>if m=0 then 0 else kF f (m/256)+1
def kB (m:Nat):Nat:=kF 8 m
def tA:Nat→Nat→List UInt8
 |0,_=>[]
 |k+1,m=>ρ (m/256^k)::tA k m
def aQ (n:Int):List UInt8:=ρ (kB n.toNat)::tA (kB n.toNat) n.toNat
theorem QC:∀f m,kF f m≤f
 |0,_=>ι _
 |f+1,m=>by
  unfold kF
  split
  ·omega
  ·have:=QC f (m/256);omega
theorem HQ (m:Nat):kB m≤8:=QC 8 m
theorem q_:∀k m,(tA k m).length=k
 |0,_=>rfl
 |k+1,m=>by simp only[tA,γ,q_ k m]
theorem o_ (n:Int):(aQ n).length=kB n.toNat+1:=by simp only[aQ,γ,q_]
theorem aV (n:Int):(aQ n).length≤9:=by rw[o_];have:=HQ n.toNat;omega
theorem HP:∀f m,m<256^f→m/256^kF f m=0∧∀j,j<kF f m→0<m/256^j
 |0,m,h=>by
  have:m=0:=by simpa using h
  subst this;exact⟨by simp[kF],fun j hj=>by simp[kF] at hj⟩
 |f+1,m,h=>by
  unfold kF
  split
  ·rename_i h0;subst h0;exact⟨by simp,fun j hj=>by omega⟩
  ·rename_i h0
   have hd:m/256<256^f:=by
    rw[ZD] at h;exact Nat.div_lt_of_lt_mul (by omega)
   obtain⟨h1,h2⟩:=HP f (m/256) hd;refine⟨by rw[ZD,VM,←VQ];exact h1,fun j hj=>?_⟩
   cases j with
   |zero=>simp;omega
   |succ j=>rw[ZD,VM,←VQ];exact h2 j (by omega)
theorem wu {m:Nat} (h:m<256^8):m/256^kB m=0∧∀j,j<kB m→0<m/256^j:=HP 8 m h
structure df where
 at_:Nat
 e:Int
def df.ok (b:List UInt8) (s:df):Prop:=s.at_≤b.length
end Go.Proofs.YtecjacicdpejaaaGreat
namespace Go.V
def ue (x:D) (l r:Nat):D:=match x with
 | .win k aE off _ s=>.win k aE (off+l*s) (r-l) s
 | .sl es=>.sl ((es.take r).drop l)
 |d=>d
variable{s l r:Nat}{x:D}{es:List (List D)}
theorem Rows.prt {P:Pv} {st:St} (h:Rows st s x es) {t e:TypeId} (ht:P.db t=some (.slice e)) (hs:c9 P e=some s) {lo hi:Option D} (hb:cF es.length lo hi=some (l,r)) (sW:l≤r∧r≤es.length) (st2:St):
  fM P t x lo hi st2=some (ue x l r):=by
 cases h with
 |nul=>
  simp only[fM,ht,hs,Γ];simp only[ο] at hb;rw[hb];rfl
 |sl es h=>
  simp only[fM,ht,hs,Γ]
  have:rR s es=true:=by
   cases es with
   |nil=>rfl
   |cons e es=>obtain⟨h1,h2⟩:=h e (μ ..);simp[rR,h1,h2]
  rw[if_pos this];simp only[τ] at hb;rw[hb];rfl
 |win k aE off es ar c hm hl he=>
  simp only[fM,ht,hs,Γ,if_true,hb];rfl
variable{P:Pv} {ops:Array Oper} {rest:List Oper} {fr aM:Fr} {st:St} {Q:Fr→St→Prop} {ty:TypeId} {pp:String} {a:Array Edge} {g:Option (Nat×Bool)} {dst:Nat}
variable{xo:Operand}
theorem ab.prt {t e:TypeId} {lo hi:Option Operand} (hg:aH ops fr ⟨some dst,.slice t xo lo hi none,ty,pp,a,g⟩=some true) (hx:fr.ev xo=x) (hR:Rows st s x es) (ht:P.db t=some (.slice e)) (hs:c9 P e=some s) (hb:cF es.length (lo.map fr.ev) (hi.map fr.ev)=some (l,r)) (sW:l≤r∧r≤es.length) (hp:fr.put dst (ue x l r)=aM) (h:ab P ops rest aM st Q):ab P ops (⟨some dst,.slice t xo lo hi none,ty,pp,a,g⟩::rest) fr st Q:=by
 refine Wh hg rfl (d:=ue x l r) (st1:=st) ?_ hp h;simp only[eS,hx,hR.prt ht hs hb sW,Option.map_some]
variable{N:Nat} {S:St} {H:List bo}
variable{j:Nat}{y:D}{ys:List (List D)}{z:List D}
theorem Has.Iu (hH:Has N S st H) (hj:H[j]?=some (.aF x s es)) (kL:su st y=some (ys.length,ys.flatten)) (zj:∀e∈ys,e.length=s) {t1 t2 e:TypeId} {td:TypeDesc} {inf:TypeInfo} (h1:P.db t1=some (.slice e)) (h2:P.db t2=some td) (h3:gD td=false) (h4:P.info e=some inf) (h5:ec P e=some z) (h6:inf.size=s) (h7:z.length=s) (h8:0<inf.bytes∧inf.bytes≤1024) (hb1:inf.bytes=1) (nN:es.length+ys.length≤1099511627776) (hw:S.flr≤N∨refs ys.flatten=0):
  ∃x' ai,bW P .append [t1,t2] [x,y] st=some (x',ai)∧Has N S ai (H.set j (.aF x' s (es++ys)))∧(ys=[]→x'=x):=by
 have hb:(es.length+ys.length)*inf.bytes≤1099511627776:=by rw[hb1,Nat.mul_one];exact nN
 have mZ:=dV zj;have hown:=hH.own hj;have hkk:=(hH.ok j _ hj).2;have hS:=hH.len;have hNS:=hH.hN;subst h6;simp only[bW,jV,h1,h2,h3,Bool.false_eq_true,if_false,h4,h5,kL,Γ];rw[if_neg (by rintro(h|h|h);exact h mZ;exact absurd h (by omega);exact h h7)]
 have iM:∀e,H[j]?=some e→H.set j e=H:=fun e he=>by
  apply List.ext_getElem?;intro i
  by_cases hij:i=j
  ·subst hij
   have:i<H.length:=by
    rcases Nat.lt_or_ge i H.length with h'|h'
    ·exact h'
    ·rw[List.getElem?_eq_none h'] at he;cases he
   rw[ω this,he]
  ·rw[χ (fun e=>hij e.symm)]
 cases hown with
 |nul=>
  simp only[IT]
  by_cases h0:ys.length=0
  ·rw[if_pos h0]
   have:ys=[]:=by cases ys with|nil=>rfl|cons _ _=>simp at h0
   subst this;exact⟨.nul,st,rfl,by rw[iM _ hj];exact hH,fun _=>rfl⟩
  ·rw[if_neg h0,if_pos (by simpa using hb)];refine⟨_,_,rfl,?_,fun e=>absurd (by rw[e];rfl) h0⟩;refine hH.Fc hj (fun k hk _=>by simp only[St.push];rw[θ hk]) (by simp[St.push]) rfl rfl ?_ (fun k hk=>?_) fun k hk=>?_
   ·exact kA.win _ 0 0 ys ys.flatten (iS st _) (by rw[mZ];omega) (by rw[Ω,←mZ,IN]) zj
   ·simp only[bo.aF,Cr] at hk;right;omega
   ·simp only[bo.aF,Cr] at hk;simp only[St.push,ε,γ,ο];omega
 |win k aE off es c hm hl hc he=>
  have hk:=hkk k (by simp only[bo.aF,Cr]);simp only[St.mem_of hm];rw[if_neg (by rintro(h|h);exact h rfl;omega)]
  by_cases h0:ys.length=0
  ·rw[if_pos h0]
   have:ys=[]:=by cases ys with|nil=>rfl|cons _ _=>simp at h0
   subst this;simp only[Y'];exact⟨_,st,rfl,by rw[iM _ hj];exact hH,fun _=>rfl⟩
  ·rw[if_neg h0,if_pos ⟨hb,jT hH hk.1 hw⟩];refine⟨_,_,rfl,?_,fun e=>absurd (by rw[e];rfl) h0⟩;have px:es.length+ys.length=(es++ys).length:=by simp
   have lh:(c.take (off+es.length*inf.size)).drop off=es.flatten:=by rw[List.drop_take,←hc];congr 1;omega
   rw[px,lh];refine hH.Fc hj (fun n hn hne=>by simp only;rw[χ (fun e=>hne (by simp only[bo.aF,Cr];omega))]) (by simp) rfl rfl ?_ (fun n hn=>?_) fun n hn=>?_
   ·have tJ:∀e∈es++ys,e.length=inf.size:=fun e h=>by
     rcases ζ.1 h with h|h
     ·exact he e h
     ·exact zj e h
    have My:=dV tJ;refine kA.win k (aE+1) 0 (es++ys) (es++ys).flatten ?_ (by rw[My];omega) (by rw[Ω,←My,IN]) tJ;simp only;rw[ω hk.2,List.flatten_append]
   ·simp only[bo.aF,Cr] at hn⊢;left;omega
   ·simp only[bo.aF,Cr] at hn;simp only[Φ];omega
variable{yo:Operand}
theorem ab.iO {t1 t2 e:TypeId} {td:TypeDesc} {inf:TypeInfo} {aM:D→Fr} (hH:Has N S st H) (hg:aH ops fr ⟨some dst,.call ⟨.builtin .append,#[xo,yo],#[t1,t2]⟩,ty,pp,a,g⟩=some true) (hx:fr.ev xo=x) (hy:fr.ev yo=y) (hj:H[j]?=some (.aF x s es)) (mz:Rows st s y ys) (h1:P.db t1=some (.slice e)) (h2:P.db t2=some td) (h3:gD td=false) (h4:P.info e=some inf) (h5:ec P e=some z) (h6:inf.size=s) (h7:z.length=s) (h8:0<inf.bytes∧inf.bytes≤1024) (hp:∀x',fr.put dst x'=aM x') (hb1:inf.bytes=1) (hb:es.length+ys.length≤1099511627776) (hw:S.flr≤N∨refs ys.flatten=0) (h:∀x' ai,Has N S ai (H.set j (.aF x' s (es++ys)))→ab P ops rest (aM x') ai Q):
  ab P ops (⟨some dst,.call ⟨.builtin .append,#[xo,yo],#[t1,t2]⟩,ty,pp,a,g⟩::rest) fr st Q:=by
 obtain⟨x',ai,q1,q2,q3⟩:=hH.Iu hj mz.row (fun e he=>by obtain⟨i,hi⟩:=φ he;exact mz.yD i e hi) h1 h2 h3 h4 h5 h6 h7 h8 hb1 hb hw;refine Wh hg rfl (d:=x') (st1:=ai) ?_ (hp _) (h x' ai q2);simp only[eS,Z5,P8,hx,hy];exact q1
theorem ab.Sr {t e:TypeId} {lo co:Operand} {k1 k2:IntKind} {m:Int} {inf:TypeInfo} {aM:Nat→Fr} (hH:Has N S st H) (hg:aH ops fr ⟨some dst,.makeSlice t lo co,ty,pp,a,g⟩=some true) (hl:fr.ev lo=.int k1 0) (hc:fr.ev co=.int k2 m) (ht:P.db t=some (.slice e)) (hi:P.info e=some inf) (hz:ec P e=some z) (hsz:inf.size=s) (oB:z.length=s) (YG:inf.bytes≤1024) (lC:0≤m∧m≤137438953472) (hp:∀k,fr.put dst (.win k 0 0 0 s)=aM k) (h:∀k ai,S.bs.length≤k→Has N S ai (.aF (.win k 0 0 0 s) s []::H)→ab P ops rest (aM k) ai Q):ab P ops (⟨some dst,.makeSlice t lo co,ty,pp,a,g⟩::rest) fr st Q:=by
 subst hsz;have hb:m*(inf.bytes:Int)≤140737488355328:=Int.le_trans (Int.mul_le_mul lC.2 (show(inf.bytes:Int)≤1024 by omega) (by omega) (by omega)) (by decide);refine Wh hg rfl (d:=.win st.bs.length 0 0 0 inf.size) (st1:=st.push (.mem 0 true [])) ?_ (hp _) (h _ _ hH.len (hH.wj rfl rfl (fun e he=>by cases he)));simp only[eS,hl,hc,jf,ht,hi,hz,Γ];rw[if_pos ⟨oB,by omega,by omega,by omega,hb⟩]
 rfl
theorem Has.dU {s0 S st:St} {H:List bo} (hS:S.bs=s0.bs) (du:s0.ro≤s0.bs.length) (h:Has s0.bs.length S st H):Has s0.bs.length s0 ⟨st.bs,s0.flr,s0.ro⟩ H:=by
 refine⟨⟨fun k hk=>?_,?_,rfl,rfl⟩,ι _,du,fun i e hi=>⟨@bo.loc e st ⟨st.bs,s0.flr,s0.ro⟩ (fun _ _=>rfl) (h.ok i e hi).1,(h.ok i e hi).2⟩,h.dis⟩
 ·rw[←hS];exact h.ex.low k hk
 ·rw[←hS];exact h.ex.len
theorem Has.hY {N:Nat} {S st ai:St} {H H2:List bo} (h:Has N S st H) (h2:Has st.bs.length st ai H2):Has N S ai (H2++H):=by
 have hN:=h.hN;have hl:=h.ex.len;have ry:=h2.ex.len;refine⟨⟨fun k hk=>?_,by omega,h2.ex.flr.trans h.ex.flr,h2.ex.ro.trans h.ex.ro⟩,hN,h.du,fun i e hi=>?_,fun i j a b hij ha hb k sX kQ=>?_⟩
 ·rw[h2.ex.low k (by omega)];exact h.ex.low k hk
 ·by_cases hlt:i<H2.length
  ·rw[θ hlt] at hi;obtain⟨h3,h4⟩:=h2.ok i e hi;exact⟨h3,fun k hk=>⟨by have:=(h4 k hk).1;omega,(h4 k hk).2⟩⟩
  ·rw[κ (by omega)] at hi;obtain⟨h3,h4⟩:=h.ok _ e hi;exact⟨e.loc (fun k hk=>h2.ex.low k (h4 k hk).2) h3,fun k hk=>⟨(h4 k hk).1,by have:=(h4 k hk).2;omega⟩⟩
 ·by_cases h1:i<H2.length<;>by_cases h3:j<H2.length
  ·rw[θ h1] at ha;rw[θ h3] at hb;exact h2.dis i j a b hij ha hb k sX kQ
  ·rw[θ h1] at ha;rw[κ (by omega)] at hb;have:=((h2.ok _ a ha).2 k sX).1;have:=((h.ok _ b hb).2 k kQ).2;omega
  ·rw[κ (by omega)] at ha;rw[θ h3] at hb;have:=((h2.ok _ b hb).2 k kQ).1;have:=((h.ok _ a ha).2 k sX).2;omega
  ·rw[κ (by omega)] at ha hb;exact h.dis _ _ a b (by omega) ha hb k sX kQ
theorem ab.Ef {b:List UInt8} {t1 t2 e:TypeId} {td:TypeDesc} {inf:TypeInfo} {aM:D→Fr} (hH:Has N S st H) (hg:aH ops fr ⟨some dst,.call ⟨.builtin .append,#[xo,yo],#[t1,t2]⟩,ty,pp,a,g⟩=some true) (hx:fr.ev xo=x) (hy:fr.ev yo=.str b) (hj:H[j]?=some (.aF x 1 es)) (h1:P.db t1=some (.slice e)) (h2:P.db t2=some td) (h3:gD td=false) (h4:P.info e=some inf) (h5:ec P e=some z) (h6:inf.size=1) (h7:z.length=1) (h8:0<inf.bytes∧inf.bytes≤1024) (hp:∀x',fr.put dst x'=aM x') (hb1:inf.bytes=1) (hb:es.length+b.length≤1099511627776) (h:∀x' ai,Has N S ai (H.set j (.aF x' 1 (es++byteCells b)))→ab P ops rest (aM x') ai Q):
  ab P ops (⟨some dst,.call ⟨.builtin .append,#[xo,yo],#[t1,t2]⟩,ty,pp,a,g⟩::rest) fr st Q:=by
 have mZ:∀b:List UInt8,(byteCells b).flatten=b.map fun y=>.int .u8 (y.toNat:Nat):=by
  intro b
  induction b with
  |nil=>rfl
  |cons y b ih=>simp only[byteCells,Z5,List.flatten_cons] at ih⊢;rw[ih];rfl
 have YI:(byteCells b).length=b.length:=by simp[byteCells]
 have fT:∀b:List UInt8,refs (b.map fun y=>YQ .u8 (y.toNat:Nat))=0:=by
  intro b
  induction b with
  |nil=>rfl
  |cons y b ih=>simp only[Z5,refs,Cr,ih];rfl
 obtain⟨x',ai,q1,q2,q3⟩:=hH.Iu (y:=.str b) (ys:=byteCells b) hj (by rw[YI,mZ];rfl) (fun e he=>by obtain⟨y,_,rfl⟩:=List.mem_map.1 he;rfl) h1 h2 h3 h4 h5 h6 h7 h8 hb1 (by rw[YI];exact hb) (.inr (by rw[mZ];exact fT b));refine Wh hg rfl (d:=x') (st1:=ai) ?_ (hp _) (h x' ai q2);simp only[eS,Z5,P8,hx,hy];exact q1
theorem Has.de (hF:S.flr≤N) (hH:Has N S st H):st.flr≤st.bs.length∧st.ro≤st.bs.length:=by
 have h1:=hH.ex.flr;have h2:=hH.ex.ro;have h3:=hH.du;have h4:=hH.hN;have h5:=hH.ex.len;constructor<;>omega
end Go.V
namespace Go.Proofs.YtecjacicdpejaaaGreat
open Go.V Go
def jL (fr:Go.V.Fr) (k:Nat):Go.V.D:=Go.V.nth .bI fr.loc k
def kC (s0 st:St) (d:D) (b:List UInt8):Prop:=Has s0.bs.length s0 st [.aF d 1 (byteCells b)]
variable{s0 st:St}{b:List UInt8}
theorem kC.over {N:Nat} {S:St} {H:List bo} {d:D} (h:kC s0 st d b) (hH:Has N S s0 H):Has N S st (.aF d 1 (byteCells b)::H):=hH.hY h
theorem pN (a b:List UInt8):byteCells (a++b)=byteCells a++byteCells b:=by unfold byteCells;rw[IS]
theorem Nn (k:Nat) (hk:k<2^63) (st:St):j8 pv 3 123 (.int .i64 (k:Nat)) st=some (.int .u64 (k:Nat),st):=by
 show some (YQ .u64 (bJ .u64 (k:Nat)),st)=_;rw[ct (by simp only[ic];omega)]
theorem HH (k:Nat) (hk:k≤8) (st:St):(fw pv .mul 123 (.int .u64 8) (.int .u64 (k:Nat))).map (fun d=>(d,st))=some (.int .u64 ((8*k:Nat):Int),st):=by
 show PR _ (some (YQ .u64 (bJ .u64 (8*(k:Nat)))))=_;rw[show(8:Int)*(k:Nat)=((8*k:Nat):Int) by omega,ct (by simp only[ic];omega)];rfl
theorem M7 (m k:Nat):R3 (m:Nat) (2^(8*k))=((m/256^k:Nat):Int):=by
 have e:((2:Int)^(8*k))=((256^k:Nat):Int):=by
  rw[Int.pow_mul,Int.natCast_pow];rfl
 rw[e,Int.fdiv_eq_ediv_of_nonneg _ (Int.natCast_nonneg _)];rfl
theorem Hn (m k:Nat) (hk:k≤8) (st:St):(fw pv .shr 151 (.int .u64 (m:Nat)) (.int .u64 ((8*k:Nat):Int))).map (fun d=>(d,st))=some (.int .u64 ((m/256^k:Nat):Int),st):=by
 show PR _ (if((8*k:Nat):Int)<0 then none else some (YQ .u64 (R3 (m:Nat) (2^(min ((8*k:Nat):Int).toNat 64)))))=_;rw[if_neg (by omega),υ,Nat.min_eq_left (by omega),M7];rfl
variable{q:Nat}
theorem Q4 (hq:q<256):byteCells [ρ q]=[[YQ .u8 (q:Nat)]]:=by
 show[[YQ .u8 ((ρ q).toNat:Nat)]]=_;rw[Cf,Nat.mod_eq_of_lt hq]
theorem Nw:byteCells [ρ q]=[[YQ .u8 ((q %256:Nat):Int)]]:=by
 show[[YQ .u8 ((ρ q).toNat:Nat)]]=_;rw[Cf]
theorem Kk (q:Nat):bJ .u8 (q:Nat)=((q %256:Nat):Int):=by
 rw[kI];rfl
theorem Tf (q:Nat) (st:St):j8 pv 151 5 (.int .u64 (q:Nat)) st=some (.int .u8 ((q %256:Nat):Int),st):=by
 show some (YQ .u8 (bJ .u8 (q:Nat)),st)=_;rw[Kk]
variable{x:D}
theorem CJ (hF:s0.flr≤s0.bs.length) (du:s0.ro≤s0.bs.length) (hx:V.Rows s0 1 x (byteCells b)) (hl:b.length≤68719476736) (room:Nat) (hr:room≤68719476736):
  ∃d ai,Ev pv 140 [x,.int .i64 (room:Nat)] s0 d ai∧kC s0 ai d b:=by
 have uN:=au b;refine Ev.eN rfl XK rfl rfl rfl ?_;refine zE ?_;have aN:(ae .nw s0).bs=s0.bs:=rfl;have hF:(ae .nw s0).flr≤s0.bs.length:=hF;have hH:Has s0.bs.length (ae .nw s0) (ae .nw s0) []:=Has.start (ι _) (ι _);generalize ae .nw s0=S at*;have hx:=Arg.of hx aN;refine zQ 7 ?_;refine qn ?_;refine qm ?_;refine ab.e_ (z:=((b.length+room:Nat):Int)) rfl (ev rfl) (ev rfl) (by(try simp only[Q5,γ,ο,ε,τ,Φ]);rw[wrap_i64 (by omega) (by omega)]<;>omega) (aa rfl _) ?_;refine ab.Sr (s:=1) hH rfl (ev rfl) (ev rfl) rfl rfl rfl rfl rfl (ν rfl) (by omega) (fun _=>(aa rfl _)) (fun k10 st VI hH=>?_);refine zQ 6 ?_;refine ab.iO (s:=1) hH rfl (ev rfl) (ev rfl) (by exact aB) (by exact Arg.rows (by assumption) hH) rfl rfl rfl rfl rfl rfl rfl ⟨(ν rfl),(ν rfl)⟩ (fun _=>(aa rfl _)) rfl (by simp only[ο]<;>omega) (by exact .inl hF) (fun x13 st hH=>?_);dsimp only[u2,u1,u3,u4,setMany,u5,u6,JS,Δ] at hH;refine zQ 2 ?_;refine ag.ret ⟨rx,_,_,_,rfl,rfl,?_⟩;exact hH.dU aN du
theorem eR (hF:s0.flr≤s0.bs.length) (du:s0.ro≤s0.bs.length) (hx:V.Rows s0 1 x (byteCells b)) (hl:b.length≤60000000000) (n:Int) (hn:n<9223372036854775808):
  ∃d ai,Ev pv 73 [x,.int .i64 n] s0 d ai∧kC s0 ai d (b++aQ n):=by
 obtain⟨m,hm⟩:∃m,n.toNat=m:=⟨_,rfl⟩
 have D9:m<256^8:=by omega
 obtain⟨rj,hk2⟩:=wu D9;have N':=HQ m;have TM:aQ n=ρ (kB m)::tA (kB m) m:=by unfold aQ;rw[hm]
 have uN:=au b;rw[TM];refine Ev.eN rfl abA rfl rfl rfl ?_;refine zE ?_;have aN:(ae .nw s0).bs=s0.bs:=rfl;have hF:(ae .nw s0).flr≤s0.bs.length:=hF;have hH:Has s0.bs.length (ae .nw s0) (ae .nw s0) []:=Has.start (ι _) (ι _);generalize ae .nw s0=S at*;have hx:=Arg.of hx aN;refine zQ 7 ?_;obtain⟨d5,st,ax,ho⟩:=CJ (s0:=S) (x:=x) (b:=b) (by rw[aN];exact hF) (by rw[aN];exact hH.du) (hx.rows hH) (by omega) 9 (by omega);have hH:=hH.hY ho
 (try dsimp only[Y'] at hH)
 refine qv ax ?_;refine zQ 5 ?_;refine ab.Je (t1:=0) (t2:=0) rfl (ev rfl) (ev rfl) (aa rfl _) ?_;refine Wh (d:=.int .u64 (m:Nat)) (st1:=_) rfl rfl (by show some (YQ .u64 (bJ .u64 (max n 0)),_)=_;rw[show max n 0=(m:Int) by omega,ct (by simp only[ic];omega)]) (aa rfl _) ?_;refine zQ 8 ?_;refine ag.loop (fun mm fr st=>∃(k:Nat),fr.clean=⟨9,[jL fr 0,jL fr 1,jL fr 2,jL fr 3,jL fr 4,d5,.int .u64 (m:Nat),.int .i64 (k:Nat),jL fr 8],[]⟩∧Has s0.bs.length S st [.aF d5 1 (byteCells b)]∧(k+mm=kB m)) (kB m) ?_ ?_
 ·exact⟨0,rfl,hH,by omega⟩
 rintro mm fr st ⟨k,hfr,hH,hk⟩;rw[hfr];clear hfr;generalize jL fr=ee;clear fr;refine zQ 2 ?_;refine ag.dM 23 (.bool (decide (((k:Nat):Int)<8) &&decide (((m/256^k:Nat):Int)>0))) [] ?_ (fun ff tmp dj=>?_)
 ·refine zQ 3 ?_;refine ab.two 16 rfl (fun br=>?_) (fun br=>?_)
  ·refine zQ 2 ?_;refine Wh (d:=.int .u64 (k:Nat)) (st1:=_) (af rfl rfl rfl br) rfl (by exact Nn k (by omega) _) (aa rfl _) ?_;refine Wh (d:=.int .u64 ((8*k:Nat):Int)) (st1:=_) (af rfl rfl rfl br) rfl (by exact HH k (by omega) _) (aa rfl _) ?_;refine Wh (d:=.int .u64 ((m/256^k:Nat):Int)) (st1:=_) (af rfl rfl rfl br) rfl (by exact Hn m k (by omega) _) (aa rfl _) ?_;refine zQ 2 ?_;refine Ψ (aR ?_ ?_)
   ·dsimp only[aK,YH,nth,u2,u1]
    all_goals(first|rfl|simp)
   ·refine zF ?_
    all_goals(simp[br];done)
  ·refine zQ 7 ?_;refine Ψ (aR ?_ ?_)
   ·dsimp only[aK,YH,nth,u2,u1]
    all_goals(first|rfl|simp)
   ·refine zF ?_
    all_goals(simp[br];done)
 refine zG ?_
 by_cases hlt:k<kB m
 ·have hp:=hk2 k hlt
  have JA:(decide (((k:Nat):Int)<8) &&decide (((m/256^k:Nat):Int)>0))=true:=by
   rw[decide_eq_true (by omega),decide_eq_true (by omega)];rfl
  refine ag.cond (v:=true) (by dsimp only[Fr.ev,Fr.get,nth,V.look];exact dj.trans (congrArg D.bool JA)) (fun _=>?_) (fun h=>by cases h);refine zQ 7 ?_;exact⟨mm-1,by omega,⟨k+1,rfl,hH,by omega⟩⟩
 ·have Vz:k=kB m:=by omega
  subst Vz
  have gF:(decide (((kB m:Nat):Int)<8) &&decide (((m/256^kB m:Nat):Int)>0))=false:=by
   rw[rj];simp
  refine ag.cond (v:=false) (by dsimp only[Fr.ev,Fr.get,nth,V.look];exact dj.trans (congrArg D.bool gF)) (fun h=>by cases h) (fun _=>?_);refine zQ 5 ?_;refine Wh (d:=.int .u8 (kB m:Nat)) (st1:=_) rfl rfl (by show some (YQ .u8 (bJ .u8 (kB m:Nat)),_)=_;rw[ct (by simp only[ic];omega)]) (aa rfl _) ?_;refine qh (s:=1) (vs:=[_]) hH fun k29 st VE hH=>?_;refine ab.iO (s:=1) hH rfl (ev rfl) (ev rfl) (by exact aO) (by exact hH.rows (by exact aB)) rfl rfl rfl rfl rfl rfl rfl ⟨(ν rfl),(ν rfl)⟩ (fun _=>(aa rfl _)) rfl (by simp only[γ,ο,τ]<;>omega) (by exact .inl hF) (fun Y1 st hH=>?_);dsimp only[u2,u1,u3,u4,setMany,u5,u6,JS,Δ] at hH;refine zQ 2 ?_
  have hH:Has s0.bs.length S st [.aF Y1 1 (byteCells (b++[ρ (kB m)]))]:=by
   rw[pN,Q4 (by omega)];exact hH.drop 1
  refine zQ 4 ?_;refine ab.KB rfl (ev rfl) (ev rfl) (by omega) (by omega) (aa rfl _) ?_;refine zQ 2 ?_;have hbl:∀j,(tA j m).length=j:=fun j=>q_ j m
  obtain⟨T,hT⟩:∃T,b++ρ (kB m)::tA (kB m) m=T:=⟨_,rfl⟩
  have Wc:T.length=b.length+kB m+1:=by rw[←hT];simp[hbl];omega
  refine zQ 1 ?_;refine ag.loop (fun mm fr st=>∃(j:Nat) (y:D) (pre:List UInt8),fr.clean=⟨9,[jL fr 0,jL fr 1,jL fr 2,jL fr 3,jL fr 4,y,.int .u64 (m:Nat),jL fr 7,.int .i64 ((j:Int)-1)],[]⟩∧Has s0.bs.length S st [.aF y 1 (byteCells pre)]∧(j=mm)∧(j≤kB m)∧(pre++tA j m=T)) (kB m) ?_ ?_
  ·exact⟨kB m,Y1,b++[ρ (kB m)],rfl,hH,rfl,ι _,(by rw[←hT,ς];rfl)⟩
  rintro mm fr st ⟨j,y,pre,hfr,hH,hj,hjk,hp⟩;rw[hfr];clear hfr;generalize jL fr=ee;clear fr;have fT:pre.length+j=T.length:=by rw[←hp,ε,hbl]
  have hbp:=au pre;refine zQ 6 ?_
  cases j with
  |succ j=>
   have hc:decide (((j+1:Nat):Int)-1≥0)=true:=by rw[decide_eq_true_eq];omega
   refine qD rfl (by rw[hc]) ?_;refine zQ 1 ?_;have SG:((j+1:Nat):Int)-1=(j:Nat):=by omega
   rw[SG];have hq:m/256^j %256<256:=Nat.mod_lt _ (by decide);refine zQ 6 ?_;refine Wh (d:=.int .u64 (j:Nat)) (st1:=_) rfl rfl (by exact Nn j (by omega) _) (aa rfl _) ?_;refine Wh (d:=.int .u64 ((8*j:Nat):Int)) (st1:=_) rfl rfl (by exact HH j (by omega) _) (aa rfl _) ?_;refine Wh (d:=.int .u64 ((m/256^j:Nat):Int)) (st1:=_) rfl rfl (by exact Hn m j (by omega) _) (aa rfl _) ?_;refine Wh (d:=.int .u8 ((m/256^j %256:Nat):Int)) (st1:=_) rfl rfl (by exact Tf _ _) (aa rfl _) ?_;refine qh (s:=1) (vs:=[_]) hH fun k44 st aaB hH=>?_;refine ab.iO (s:=1) hH rfl (ev rfl) (ev rfl) (by exact aO) (by exact hH.rows (by exact aB)) rfl rfl rfl rfl rfl rfl rfl ⟨(ν rfl),(ν rfl)⟩ (fun _=>(aa rfl _)) rfl (by simp only[γ,ο,τ]<;>omega) (by exact .inl hF) (fun Y0 st hH=>?_);dsimp only[u2,u1,u3,u4,setMany,u5,u6,JS,Δ] at hH;refine zQ 2 ?_
   have hH:Has s0.bs.length S st [.aF Y0 1 (byteCells (pre++[ρ (m/256^j)]))]:=by
    rw[pN,Nw];exact hH.drop 1
   refine zQ 2 ?_;refine ab.gd (z:=((j:Int)-1)) rfl (ev rfl) (ev rfl) (by(try simp only[Q5,γ,ο,ε,τ,Φ]);rw[wrap_i64 (by omega) (by omega)]<;>omega) (aa rfl _) ?_;refine zQ 2 ?_;exact⟨j,by omega,⟨j,Y0,pre++[ρ (m/256^j)],rfl,hH,rfl,by omega,(by rw[ς];exact hp)⟩⟩
  |zero=>
   have hc:decide (((0:Nat):Int)-1≥0)=false:=rfl;refine qE rfl (by rw[hc]) ?_;refine zQ 1 ?_;have Z9:pre=T:=by rw[←hp];simp[tA]
   subst Z9;refine zQ 5 ?_;refine ag.ret ⟨rx,_,_,_,rfl,rfl,?_⟩;rw[hT];exact hH.dU aN du
def eP (c:Nat):Nat:=if c<128 then 1 else if c<194 then 0 else if c<224 then 2 else if c<240 then 3 else if c<245 then 4 else 0
theorem HG (c : Nat) (st : St) : Ev pv 223 [.int .u8 c] st (.int .i64 (eP c : Nat)) st := by
 refine Ev.gP rfl WW rfl rfl rfl ?_;refine zE ?_;unfold eP
 repeat' split
 ·(repeat (first | refine xT ?_ | refine xL ?_ | refine xN ?_ | refine xo ?_ | refine xp ?_ | (refine Ψ ?_; try refine zF ?_) | refine qq ?_ | refine ag.cT ?_ | refine ag.cond (v := true) rfl (fun _ => ?_) (fun h => by cases h) | refine ag.cond (v := false) rfl (fun h => by cases h) (fun _ => ?_) | refine ag.skip ?_ | refine ag.block ?_ | simp (disch := omega) only [decide_eq_true, decide_eq_false, gu, jr, gr, jq]));refine ag.ret ⟨rx, _, rfl, aU (by simp) (by simp [ae]) ?_⟩
  rfl
 ·(repeat (first | refine xT ?_ | refine xL ?_ | refine xN ?_ | refine xo ?_ | refine xp ?_ | (refine Ψ ?_; try refine zF ?_) | refine qq ?_ | refine ag.cT ?_ | refine ag.cond (v := true) rfl (fun _ => ?_) (fun h => by cases h) | refine ag.cond (v := false) rfl (fun h => by cases h) (fun _ => ?_) | refine ag.skip ?_ | refine ag.block ?_ | simp (disch := omega) only [decide_eq_true, decide_eq_false, gu, jr, gr, jq]));refine ag.ret ⟨rx, _, rfl, aU (by simp) (by simp [ae]) ?_⟩
  rfl
 ·(repeat (first | refine xT ?_ | refine xL ?_ | refine xN ?_ | refine xo ?_ | refine xp ?_ | (refine Ψ ?_; try refine zF ?_) | refine qq ?_ | refine ag.cT ?_ | refine ag.cond (v := true) rfl (fun _ => ?_) (fun h => by cases h) | refine ag.cond (v := false) rfl (fun h => by cases h) (fun _ => ?_) | refine ag.skip ?_ | refine ag.block ?_ | simp (disch := omega) only [decide_eq_true, decide_eq_false, gu, jr, gr, jq]));refine ag.ret ⟨rx, _, rfl, aU (by simp) (by simp [ae]) ?_⟩
  rfl
 ·(repeat (first | refine xT ?_ | refine xL ?_ | refine xN ?_ | refine xo ?_ | refine xp ?_ | (refine Ψ ?_; try refine zF ?_) | refine qq ?_ | refine ag.cT ?_ | refine ag.cond (v := true) rfl (fun _ => ?_) (fun h => by cases h) | refine ag.cond (v := false) rfl (fun h => by cases h) (fun _ => ?_) | refine ag.skip ?_ | refine ag.block ?_ | simp (disch := omega) only [decide_eq_true, decide_eq_false, gu, jr, gr, jq]));refine ag.ret ⟨rx, _, rfl, aU (by simp) (by simp [ae]) ?_⟩
  rfl
 ·(repeat (first | refine xT ?_ | refine xL ?_ | refine xN ?_ | refine xo ?_ | refine xp ?_ | (refine Ψ ?_; try refine zF ?_) | refine qq ?_ | refine ag.cT ?_ | refine ag.cond (v := true) rfl (fun _ => ?_) (fun h => by cases h) | refine ag.cond (v := false) rfl (fun h => by cases h) (fun _ => ?_) | refine ag.skip ?_ | refine ag.block ?_ | simp (disch := omega) only [decide_eq_true, decide_eq_false, gu, jr, gr, jq]));refine ag.ret ⟨rx, _, rfl, aU (by simp) (by simp [ae]) ?_⟩
  rfl
 ·(repeat (first | refine xT ?_ | refine xL ?_ | refine xN ?_ | refine xo ?_ | refine xp ?_ | (refine Ψ ?_; try refine zF ?_) | refine qq ?_ | refine ag.cT ?_ | refine ag.cond (v := true) rfl (fun _ => ?_) (fun h => by cases h) | refine ag.cond (v := false) rfl (fun h => by cases h) (fun _ => ?_) | refine ag.skip ?_ | refine ag.block ?_ | simp (disch := omega) only [decide_eq_true, decide_eq_false, gu, jr, gr, jq]));refine ag.ret ⟨rx, _, rfl, aU (by simp) (by simp [ae]) ?_⟩
  rfl
def FY (c:Nat):Nat:=if c=224 then 160 else if c=237 then 128 else if c=240 then 144 else 128
def HZ (c:Nat):Nat:=if c=224 then 191 else if c=237 then 159 else if c=240 then 191 else if c=244 then 143 else 191
theorem IW (c d : Nat) (st : St) : Ev pv 224 [.int .u8 c, .int .u8 d] st (.bool (decide (FY c ≤ d ∧ d ≤ HZ c))) st := by
 refine Ev.gP rfl WV rfl rfl rfl ?_;refine zE ?_
 have key : (c = 224 ∧ FY c = 160 ∧ HZ c = 191) ∨ (c = 237 ∧ FY c = 128 ∧ HZ c = 159) ∨ (c = 240 ∧ FY c = 144 ∧ HZ c = 191) ∨ (c = 244 ∧ FY c = 128 ∧ HZ c = 143) ∨ (c ≠ 224 ∧ c ≠ 237 ∧ c ≠ 240 ∧ c ≠ 244 ∧ FY c = 128 ∧ HZ c = 191) := by
  unfold FY HZ
  split
  ·omega
  split
  ·omega
  split
  ·omega
  split
  ·omega
  ·omega
 have Zu : d < FY c ∨ (FY c ≤ d ∧ HZ c < d) ∨ (FY c ≤ d ∧ d ≤ HZ c) := by omega
 generalize FY c = lo at *;generalize HZ c = hi at *
 rcases key with ⟨h, rfl, rfl⟩ | ⟨h, rfl, rfl⟩ | ⟨h, rfl, rfl⟩ | ⟨h, rfl, rfl⟩ | ⟨h1, h2, h3, h4, rfl, rfl⟩ <;> rcases Zu with k | ⟨k1, k2⟩ | ⟨k1, k2⟩
 all_goals
  (repeat (first | refine xT ?_ | refine xL ?_ | refine xN ?_ | refine xo ?_ | refine xp ?_ | (refine Ψ ?_; try refine zF ?_) | refine qq ?_ | refine ag.cT ?_ | refine ag.cond (v := true) rfl (fun _ => ?_) (fun h => by cases h) | refine ag.cond (v := false) rfl (fun h => by cases h) (fun _ => ?_) | refine ag.skip ?_ | refine ag.block ?_ | simp (disch := omega) only [decide_eq_true, decide_eq_false, gu, jr, gr, jq]));refine ag.ret ⟨rx, _, rfl, aU (by simp) (by simp [ae]) ?_⟩;simp (disch := omega) only [decide_eq_true, decide_eq_false]
  rfl
def oD (c i y:Nat):Bool:=if i=1 then decide (FY c≤y∧y≤HZ c) else decide (128≤y∧y≤191)
def lf (c:Nat):(left i:Nat)→List UInt8→Bool
 |0,_,_=>true
 |_+1,_,[]=>true
 |left+1,i,y::ys=>oD c i y.toNat &&lf c left (i+1) ys
def eE:List UInt8→Nat×Nat
 |[]=>(0,0)
 |c::xs=>if eP c.toNat=0 then(0,0) else if lf c.toNat (eP c.toNat-1) 1 xs=true then(if xs.length+1<eP c.toNat then(xs.length+1,eP c.toNat) else(eP c.toNat,eP c.toNat)) else(0,0)
theorem xG (c:Nat):eP c≤4:=by
 unfold eP
 repeat' split
 all_goals omega
theorem P5 (hb:Bytes st x b) (hlen:b.length≤1048576):Ev pv 194 [x] st (.tup [.int .i64 ((eE b).1:Nat),.int .i64 ((eE b).2:Nat)]) st:=by
 refine Ev.gP rfl Xc rfl rfl rfl ?_;refine zE ?_;have hb:=hb.enter .ro;have hbl:=au b;refine zR ?_;refine zU ?_
 refine zW ?_
 refine wt rfl rfl rfl hb rfl ?_
 refine zW ?_
 refine zW ?_
 rw[hbl]
 cases b with
 |nil=>
  refine zY ?_;refine zN ?_;refine ag.cond (v:=true) rfl (fun _=>?_) (fun h=>by cases h);refine zR ?_;refine ag.ret ⟨rx,_,rfl,aU (by simp) (by simp[ae]) ?_⟩
  rfl
 |cons c xs=>
 simp only[γ] at hlen hbl;have hc:=He c;simp only[γ];simp(disch:=omega) only[decide_eq_true,decide_eq_false,gu,jr,gr,jq]
 refine zW ?_
 refine LL rfl rfl rfl (fun _=>rfl) rfl rfl hb rfl rfl (by omega) (i:=0) (r:=[.int .u8 (c.toNat:Nat)]) rfl rfl (fun p=>?_);refine AN rfl rfl rfl (HG _ _) ?_;refine zX ?_;refine zN ?_;(repeat refine qq ?_);refine qc (fun h1=>?_) (fun h1=>?_)<;>try simp only[cs] at h1
 ·refine zR ?_;refine ag.ret ⟨rx,_,rfl,aU (by simp) (by simp[ae]) ?_⟩;rw[show eE (c::xs)=(0,0) by simp only[eE];rw[if_pos (by omega)]];rfl
 have Ax:=xG c.toNat;refine ag.skip<|zU ?_
 refine zW ?_
 refine LL rfl rfl rfl (fun _=>rfl) rfl rfl hb rfl rfl (by omega) (i:=0) (r:=[.int .u8 (c.toNat:Nat)]) rfl rfl (fun p=>?_);refine AN rfl rfl rfl (HG _ _) ?_;refine zX ?_;refine zN ?_;refine zR ?_;(repeat refine qq ?_);refine ag.block ?_;generalize hn:eP c.toNat=n at*;refine ag.loop (fun j fr ai=>∃(i:Nat),fr.clean=⟨6,[x,.tup [],.int .i64 0,.int .i64 0,.int .i64 (n:Nat),.int .i64 (i:Nat)],[]⟩∧ai=ae .ro st∧1≤i∧i+j=n∧lf c.toNat j i (xs.drop (i-1))=lf c.toNat (n-1) 1 xs∧i≤xs.length+1) (n-1) ⟨1,rfl,rfl,by omega,by omega,rfl,by omega⟩ ?_;rintro j fr ai ⟨i,hfr,rfl,SJ,hij,hS,hix⟩;rw[hfr]
 have fin:(n≤i∨xs.length+1≤i)→eE (c::xs)=if xs.length+1<n then(xs.length+1,n) else(n,n):=by
  intro h
  have ht:lf c.toNat (n-1) 1 xs=true:=by
   rw[←hS]
   rcases h with h|h
   ·have:j=0:=by omega
    subst this;rfl
   ·have:xs.drop (i-1)=[]:=List.drop_eq_nil_of_le (by omega);rw[this];cases j<;>rfl
  simp only[eE,hn];rw[if_neg (by omega),if_pos ht]
 by_cases h4:i<n
 ·by_cases h5:i<xs.length+1
  ·refine zU ?_
   refine zW ?_
   refine zW ?_
   refine zW ?_
   simp(disch:=omega) only[decide_eq_true,decide_eq_false,gu,jr,gr,jq]
   refine zW ?_
   refine zW ?_
   refine zW ?_
   refine wt rfl rfl rfl hb rfl ?_;rw[hbl];refine zY ?_;refine zN ?_;refine ag.cond (v:=true) rfl (fun _=>?_) (fun h=>by cases h);refine ag.skip ?_;(try refine qy ?_);(repeat refine qq ?_);refine ag.block ?_
   obtain⟨j,rfl⟩:∃l,j=l+1:=⟨j-1,by omega⟩
   obtain⟨y,ys,DX⟩:∃y ys,xs.drop (i-1)=y::ys:=by
    cases h:xs.drop (i-1) with
    |nil=>have:=congrArg Pd h;simp at this;omega
    |cons y ys=>exact⟨y,ys,rfl⟩
   have hy:(c::xs)[i]?=some y:=by
    obtain⟨i,rfl⟩:∃i',i=i'+1:=⟨i-1,by omega⟩
    have:=congrArg (fun l=>l[0]?) DX
    simpa using this
   have mz:xs.drop (i+1-1)=ys:=by
    have:=congrArg (fun l=>l.drop 1) DX;simp only[List.drop_drop,Bv,Ω] at this;rw[←this];congr 1;omega
   have TI:=kH hy;have hyb:=He y;rw[DX] at hS;simp only[lf] at hS;generalize PV:aZ _ _ _ _=K0
   have step:oD c.toNat i y.toNat=true→∀m,K0 .next ⟨6,[x,.tup [],.int .i64 0,.int .i64 0,.int .i64 (n:Nat),.int .i64 (i:Nat)],m⟩ (ae .ro st):=by
    intro hg m;subst PV;refine zR ?_;rw[wrap_i64 (by omega) (by omega)];rw[hg,OF] at hS;exact⟨j,by omega,i+1,rfl,rfl,by omega,by omega,by rw[mz];exact hS,by omega⟩
   by_cases AA:i=1
   ·subst AA;have hx0:xs=y::ys:=DX;subst hx0;refine zU ?_
    refine zW ?_
    refine zW ?_
    refine zW ?_
    refine zW ?_
    refine LL rfl rfl rfl (fun _=>rfl) rfl rfl hb rfl rfl (by omega) (i:=0) (r:=[.int .u8 (c.toNat:Nat)]) rfl rfl (fun p=>?_)
    refine zW ?_
    refine LL rfl rfl rfl (fun _=>rfl) rfl rfl hb rfl rfl (by omega) (i:=1) (r:=[.int .u8 (y.toNat:Nat)]) rfl rfl (fun p=>?_);refine AN rfl rfl rfl (IW _ _ _) ?_
    by_cases hg:FY c.toNat≤y.toNat∧y.toNat≤HZ c.toNat
    ·rw[decide_eq_true hg];refine zX ?_;refine zN ?_;refine ag.cond (v:=false) rfl (fun h=>by cases h) fun _=>?_;refine ag.skip ?_;exact step (by unfold oD;rw[if_pos rfl,decide_eq_true hg]) _
    ·rw[decide_eq_false hg];refine zX ?_;refine zN ?_;refine ag.cond (v:=true) rfl (fun _=>?_) (fun h=>by cases h);refine zR ?_;subst PV;refine ag.ret ⟨rx,_,rfl,aU (by simp) (by simp[ae]) ?_⟩;have:lf c.toNat (n-1) 1 (y::ys)=false:=by rw[←hS];unfold oD;rw[if_pos rfl,decide_eq_false hg];rfl
     rw[show eE (c::y::ys)=(0,0) by simp only[eE,hn];rw[if_neg (by omega),this];rfl];rfl
   ·refine zU ?_
    refine zW ?_
    refine zW ?_
    simp(disch:=omega) only[decide_eq_true,decide_eq_false,gu,jr,gr,jq]
    refine zW ?_
    refine zW ?_
    refine zW ?_
    refine zW ?_
    refine zW ?_
    refine zW ?_
    refine zW ?_
    refine zW ?_
    refine zW ?_
    refine zW ?_
    refine zW ?_
    refine zW ?_
    refine zW ?_
    simp(disch:=omega) only[decide_eq_true,decide_eq_false,gu,jr,gr,jq]
    refine zW ?_
    refine zW ?_
    refine zW ?_
    refine LL rfl rfl rfl (fun _=>rfl) rfl rfl hb rfl rfl (by omega) TI rfl (fun p=>?_)
    by_cases E_:y.toNat<128
    ·refine zY ?_;refine zN ?_;refine ag.cond (v:=true) rfl (fun _=>?_) (fun h=>by cases h);refine zR ?_;subst PV;refine ag.ret ⟨rx,_,rfl,aU (by simp) (by simp[ae]) ?_⟩;have hf:oD c.toNat i y.toNat=false:=by unfold oD;rw[if_neg AA,decide_eq_false (by omega)]
     have:lf c.toNat (n-1) 1 xs=false:=by rw[←hS,hf];rfl
     rw[show eE (c::xs)=(0,0) by simp only[eE,hn];rw[if_neg (by omega),this];rfl];rfl
    ·refine zW ?_
     simp(disch:=omega) only[decide_eq_true,decide_eq_false,gu,jr,gr,jq]
     refine zW ?_
     refine zW ?_
     refine zW ?_
     refine LL rfl rfl rfl (fun _=>rfl) rfl rfl hb rfl rfl (by omega) TI rfl (fun p=>?_)
     by_cases H0:191<y.toNat
     ·refine zY ?_;refine zN ?_;refine ag.cond (v:=true) rfl (fun _=>?_) (fun h=>by cases h);refine zR ?_;subst PV;refine ag.ret ⟨rx,_,rfl,aU (by simp) (by simp[ae]) ?_⟩;have hf:oD c.toNat i y.toNat=false:=by unfold oD;rw[if_neg AA,decide_eq_false (by omega)]
      have:lf c.toNat (n-1) 1 xs=false:=by rw[←hS,hf];rfl
      rw[show eE (c::xs)=(0,0) by simp only[eE,hn];rw[if_neg (by omega),this];rfl];rfl
     ·refine zY ?_;refine zN ?_;refine ag.cond (v:=false) rfl (fun h=>by cases h) fun _=>?_;refine ag.skip ?_;exact step (by unfold oD;rw[if_neg AA,decide_eq_true (by omega)]) _
  ·refine zU ?_
   refine zW ?_
   refine zW ?_
   refine zW ?_
   simp(disch:=omega) only[decide_eq_true,decide_eq_false,gu,jr,gr,jq]
   refine zW ?_
   refine zW ?_
   refine zW ?_
   refine wt rfl rfl rfl hb rfl ?_;rw[hbl];refine zY ?_;refine zN ?_;refine ag.cond (v:=false) rfl (fun h=>by cases h) fun _=>?_;refine ag.exit ?_;rw[fin (by omega)];refine zU ?_
   refine zW ?_
   refine wt rfl rfl rfl hb rfl ?_;rw[hbl];refine zX ?_;refine zN ?_;refine ag.cond (v:=true) (by dsimp only[Fr.ev,Fr.get,V.look];rw[decide_eq_true (by omega)]) (fun _=>?_) (fun h=>by cases h);refine zU ?_
   refine zW ?_
   refine wt rfl rfl rfl hb rfl ?_;rw[hbl];refine zX ?_;refine zN ?_;refine ag.ret ⟨rx,_,rfl,aU (by simp) (by simp[ae]) ?_⟩;rw[if_pos (by omega)];rfl
 ·refine zU ?_
  refine zW ?_
  refine zW ?_
  refine zW ?_
  refine zY ?_;refine zN ?_;refine ag.cond (v:=false) rfl (fun h=>by cases h) fun _=>?_;refine ag.exit ?_;rw[fin (by omega)];refine zU ?_
  refine zW ?_
  refine wt rfl rfl rfl hb rfl ?_;rw[hbl];refine zX ?_;refine zN ?_;(repeat refine qq ?_);refine qc (fun h9=>?_) (fun h9=>?_)<;>try simp only[cs] at h9
  ·refine zU ?_
   refine zW ?_
   refine wt rfl rfl rfl hb rfl ?_;rw[hbl];refine zX ?_;refine zN ?_;refine ag.ret ⟨rx,_,rfl,aU (by simp) (by simp[ae]) ?_⟩;rw[if_pos (by omega)];rfl
  ·refine ag.skip<|zR ?_;refine ag.ret ⟨rx,_,rfl,aU (by simp) (by simp[ae]) ?_⟩;rw[if_neg (by omega)];rfl
theorem Jd (c:Nat):(eP c=0∧(c7 c).1=-1)∨(eP c=1∧(c7 c).1=0)∨(2≤eP c∧(c7 c).1=(eP c:Int)-1∧(c7 c).2.1=FY c∧(c7 c).2.2=HZ c):=by
 unfold eP c7 FY HZ
 by_cases h1:c<128
 ·simp[h1]
 by_cases h2:c<194
 ·simp[h1,h2]
 by_cases h0:245≤c
 ·left;rw[if_neg (by omega),if_neg (by omega),if_neg (by omega),if_neg (by omega),if_neg (by omega),if_neg (by omega),if_neg (by omega),if_neg (by omega),if_neg (by omega),if_neg (by omega),if_neg (by omega),if_neg (by omega),if_neg (by omega),if_neg (by omega)];simp
 right;right
 by_cases h3:c<224
 ·simp only[h1,h2,h3,if_true,if_false];rw[if_neg (by omega),if_neg (by omega),if_neg (by omega),if_neg (by omega),if_neg (by omega),if_neg (by omega),if_neg (by omega)];simp
 by_cases h4:c=224
 ·subst h4;simp
 by_cases h5:c=237
 ·subst h5;simp
 by_cases h6:c<240
 ·simp only[h1,h2,h3,h4,h5,h6,if_true,if_false];rw[if_neg (by omega),if_neg (by omega),if_neg (by omega)];simp
 by_cases h7:c=240
 ·subst h7;simp
 by_cases h8:c<244
 ·simp only[h1,h2,h3,h4,h5,h6,h7,h8,if_true,if_false];rw[if_pos (by omega),if_neg (by omega)];simp
 by_cases h9:c=244
 ·subst h9;simp
 omega
def yv (r:Nat):Nat→List UInt8→Nat
 |0,_=>r
 |_+1,[]=>r
 |left+1,y::ys=>yv (r*64+y.toNat %64) left ys
theorem zL (c n:Nat):∀(left i r lo hi:Nat) (xs:List UInt8),1≤i→(∀y,oD c i y=(decide (lo≤y∧y≤hi)))→
  j5 left n r lo hi xs=if lf c left i xs=true then(if xs.length<left then(0,0,true) else(yv r left xs,n,false)) else(0,0,false)
 |0,i,r,lo,hi,xs,_,_=>by simp[j5,lf,yv]
 |left+1,i,r,lo,hi,[],_,_=>by simp[j5,lf]
 |left+1,i,r,lo,hi,y::ys,SJ,hg=>by
  simp only[j5,lf,hg,yv]
  by_cases hb:lo≤y.toNat∧y.toNat≤hi
  ·rw[if_neg (by omega),decide_eq_true hb,OF];rw[zL c n left (i+1) _ 128 191 ys (by omega) (fun z=>by unfold oD;rw[if_neg (by omega)])];simp only[γ,Nat.add_lt_add_iff_right]
  ·rw[if_pos (by omega),decide_eq_false hb];simp
def wM (c n:Nat):Nat:=if n≤1 then c else c %(64/2^(n-1))
theorem JM (c:UInt8) (xs:List UInt8):ef (c::xs)=if eP c.toNat=0 then(0,0,false) else if lf c.toNat (eP c.toNat-1) 1 xs=true then(if xs.length<eP c.toNat-1 then(0,0,true) else(yv (wM c.toNat (eP c.toNat)) (eP c.toNat-1) xs,eP c.toNat,false)) else(0,0,false):=by
 simp only[ef]
 rcases Jd c.toNat with⟨h1,h2⟩|⟨h1,h2⟩|⟨h1,h2,h3,h4⟩
 ·rw[h1,h2];simp
 ·rw[h1,h2];simp[j5,lf,yv,wM]
 ·have hk:(c7 c.toNat).1.toNat=eP c.toNat-1:=by omega
  rw[if_neg (show¬(c7 c.toNat).1<0 by omega),if_neg (show¬eP c.toNat=0 by omega),if_pos (show(c7 c.toNat).1>0 by omega),hk,h3,h4];rw[zL c.toNat _ _ 1 _ _ _ _ (by omega) (fun y=>by unfold oD;rw[if_pos rfl])];have:eP c.toNat-1+1=eP c.toNat:=by omega
  rw[this];have h5:wM c.toNat (eP c.toNat)=c.toNat %(64/2^(eP c.toNat-1)):=by unfold wM;rw[if_neg (by omega)]
  rw[h5]
def bO (b:List UInt8):Bool:=(ef b).2.2
theorem yx (b:List UInt8):(bO b=true↔(0<(eE b).1∧(eE b).1<(eE b).2∧(eE b).1=b.length))∧
  (((eE b).1=0∨(eE b).1<(eE b).2)→fF b=(65533,1))∧
  (¬((eE b).1=0∨(eE b).1<(eE b).2)→∃c xs,b=c::xs∧1≤(eE b).2∧(eE b).2≤4∧(eE b).2-1≤xs.length∧fF b=(yv (wM c.toNat (eE b).2) ((eE b).2-1) xs,(eE b).2)):=by
 cases b with
 |nil=>simp[bO,ef,eE,fF]
 |cons c xs=>
  have hn:=xG c.toNat;simp only[bO,fF,JM,eE]
  by_cases h1:eP c.toNat=0
  ·simp[h1]
  rw[if_neg h1,if_neg h1]
  by_cases h2:lf c.toNat (eP c.toNat-1) 1 xs=true
  ·rw[if_pos h2,if_pos h2]
   by_cases h3:xs.length+1<eP c.toNat
   ·rw[if_pos (by omega),if_pos h3];simp<;>omega
   ·rw[if_neg (by omega),if_neg h3];refine⟨by simp<;>omega,by simp<;>omega,fun _=>⟨c,xs,rfl,by simp only;omega,by simp only;omega,by simp only;omega,?_⟩⟩;simp only;rw[if_neg h1]
  ·rw[if_neg h2,if_neg h2];simp
end Go.Proofs.YtecjacicdpejaaaGreat
