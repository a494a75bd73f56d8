/-
 Programs of patterns are right; each rule reaches its start and its own IMatch, and no other rule's instructions.
-/
import Derived.Test.YtnleclohocdkaaaWGQs
import Derived.Test.YtnleclohocdkaaaWGQe
import Derived.Test.YtnleclohocdkaaaWGTg
set_option maxRecDepth 100000
set_option linter.unusedSimpArgs false
set_option linter.unusedVariables false
set_option maxHeartbeats 4000000
namespace Go.Proofs.Ytnleclohocdkaaa
open Go.V Go
def de (lo hi:Nat) (i:aN):Prop:=
 (i.op=1∧i.x=0∧i.y=0∧eO i.rs=true)∨(i.op=2∧i.rs=[]∧((lo:Int)≤i.x∧i.x≤hi)∧(lo:Int)≤i.y∧i.y≤hi)∨(i.op=3∧i.rs=[]∧i.y=0∧(lo:Int)≤i.x∧i.x≤hi)∨(i.op=4∧i.rs=[]∧i.y=0∧0≤i.x∧i.x<10)∨((i.op=5∨i.op=6)∧i.rs=[]∧i.y=0∧i.x=0)
theorem de.mono {lo hi sE iH:Nat} {i:aN} (h:de lo hi i) (h1:sE≤lo) (h2:hi≤iH):de sE iH i:=by
 rcases h with h|⟨a,b,c,d⟩|⟨a,b,c,d⟩|h|h
 ·exact .inl h
 ·exact .inr (.inl ⟨a,b,by omega,by omega⟩)
 ·exact .inr (.inr (.inl ⟨a,b,c,by omega⟩))
 ·exact .inr (.inr (.inr (.inl h)))
 ·exact .inr (.inr (.inr (.inr h)))
theorem de.sp {lo hi s o:Nat} {lz:Bool} (h1:lo≤s+1∧s+1≤hi) (h2:lo≤o∧o≤hi):de lo hi (kT s o lz):=by
 refine .inr (.inl ?_);cases lz
 ·refine⟨rfl,rfl,?_⟩;show((lo:Int)≤((s+1:Nat):Int)∧((s+1:Nat):Int)≤hi)∧(lo:Int)≤(o:Int)∧(o:Int)≤hi;omega
 ·refine⟨rfl,rfl,?_⟩;show((lo:Int)≤(o:Int)∧(o:Int)≤hi)∧(lo:Int)≤((s+1:Nat):Int)∧((s+1:Nat):Int)≤hi;omega
theorem de.jp {lo hi e:Nat} (h1:lo≤e∧e≤hi):de lo hi (jv e):=by
 refine .inr (.inr (.inl ⟨rfl,rfl,rfl,?_⟩));show(lo:Int)≤(e:Int)∧(e:Int)≤hi;omega
theorem de.save {lo hi:Nat} {x:Int} (h:0≤x∧x<10):de lo hi (cq 4 x 0 []):=.inr (.inr (.inr (.inl ⟨rfl,rfl,rfl,h⟩)))
theorem nj {c:Nat→List aN} {z:Nat} (hc:∀b,∀i∈c b,de b (b+z) i):∀k b,∀i∈eo c z k b,de b (b+k*z) i
 |0,b,i,hi=>by cases hi
 |k+1,b,i,hi=>by
  simp only[eo] at hi;rw[Nat.succ_mul]
  rcases List.mem_append.1 hi with hi|hi
  ·exact(hc b i hi).mono (Nat.le_refl _) (by omega)
  ·exact(nj hc k _ i hi).mono (by omega) (by omega)
theorem r_ {sp:Nat→aN} {c:Nat→List aN} {z lo hi:Nat} (hs:∀s,lo≤s→s+1≤hi→de lo hi (sp s)) (hc:∀b,∀i∈c b,de b (b+z) i):∀k b,lo≤b→b+k*(z+1)≤hi→∀i∈eu sp c z k b,de lo hi i
 |0,b,_,_,i,iH=>by cases iH
 |k+1,b,h1,h2,i,iH=>by
  simp only[eu] at iH;rw[Nat.succ_mul] at h2
  rcases List.mem_cons.1 iH with rfl|iH
  ·exact hs b h1 (by omega)
  ·rcases List.mem_append.1 iH with iH|iH
   ·exact(hc _ i iH).mono (by omega) (by omega)
   ·exact r_ hs hc k _ (by omega) (by omega) i iH
def Dz (l:List bF):Prop:=∀n∈l,n.op=2→eO n.rs=true
mutual
theorem jY:∀(t:Tr) (b:Nat),t.ok→Dz t.flat→∀i∈aD t b,de b (b+t.sz) i
 | .mk n ks,b,cH,rA,i,hi=>by
  simp only[Tr.ok] at cH;simp only[Tr.flat] at rA;have hc:=fun b=>s9 ks b cH.2 (fun n hn=>rA n (List.mem_cons_of_mem _ hn));obtain⟨_,hq⟩:=cH.1;simp only[aD] at hi;simp only[Tr.sz]
  by_cases q2:n.op=2
  ·rw[if_pos q2] at hi;simp only[List.mem_cons,List.not_mem_nil,or_false] at hi;subst hi;exact .inl ⟨rfl,rfl,rfl,rA n (List.mem_cons_self ..) q2⟩
  rw[if_neg q2] at hi
  by_cases q7:n.op=7
  ·rw[if_pos q7] at hi;simp only[List.mem_cons,List.not_mem_nil,or_false] at hi;subst hi;exact .inr (.inr (.inr (.inr ⟨.inl rfl,rfl,rfl,rfl⟩)))
  rw[if_neg q7] at hi
  by_cases q8:n.op=8
  ·rw[if_pos q8] at hi;simp only[List.mem_cons,List.not_mem_nil,or_false] at hi;subst hi;exact .inr (.inr (.inr (.inr ⟨.inr rfl,rfl,rfl,rfl⟩)))
  rw[if_neg q8] at hi
  have hz:∀s k,bD n s k=if n.op=4 then s+2*(k-1) else if n.op=6 then s+2 else if n.op=5 then(if n.mx=-1 then n.mn.toNat*s+s+2 else n.mn.toNat*s+(n.mx.toNat-n.mn.toNat)*(s+1)) else s:=by
   intro s k;unfold bD;rw[if_neg (by omega)]
  by_cases q3:n.op=3
  ·rw[if_pos q3] at hi;rw[hz,if_neg (by omega),if_neg (by omega),if_neg (by omega)];exact hc b i hi
  rw[if_neg q3] at hi
  by_cases q4:n.op=4
  ·rw[if_pos q4] at hi;have HZ:bD n ks.sz ks.len=ks.sz+2*(ks.len-1):=by rw[hz,if_pos q4]
   rw[HZ] at hi⊢;exact tb ks b (b+(ks.sz+2*(ks.len-1))) cH.2 (fun n hn=>rA n (List.mem_cons_of_mem _ hn)) (Nat.le_refl _) i hi
  rw[if_neg q4] at hi
  by_cases q5:n.op=5
  ·rw[if_pos q5] at hi;rw[hz,if_neg q4,if_neg (by omega),if_pos q5];unfold ke at hi
   by_cases qx:n.mx=-1
   ·rw[if_pos qx] at hi⊢
    rcases List.mem_append.1 hi with hi|hi
    ·exact(nj hc _ _ i hi).mono (Nat.le_refl _) (by omega)
    ·rcases List.mem_cons.1 hi with rfl|hi
     ·exact de.sp (by omega) (by omega)
     ·rcases List.mem_append.1 hi with hi|hi
      ·exact(hc _ i hi).mono (by omega) (by omega)
      ·simp only[List.mem_cons,List.not_mem_nil,or_false] at hi;subst hi;exact de.jp (by omega)
   ·rw[if_neg qx] at hi⊢
    rcases List.mem_append.1 hi with hi|hi
    ·exact(nj hc _ _ i hi).mono (Nat.le_refl _) (by omega)
    ·exact r_ (fun s h1 h2=>de.sp (by omega) (by omega)) hc _ _ (by omega) (by omega) i hi
  rw[if_neg q5] at hi
  by_cases q6:n.op=6
  ·rw[if_pos q6] at hi;rw[hz,if_neg q4,if_pos q6]
   rcases List.mem_cons.1 hi with rfl|hi
   ·exact de.save (by omega)
   ·rcases List.mem_append.1 hi with hi|hi
    ·exact(hc _ i hi).mono (by omega) (by omega)
    ·simp only[List.mem_cons,List.not_mem_nil,or_false] at hi;subst hi;exact de.save (by omega)
  ·rw[if_neg q6] at hi;cases hi
theorem s9:∀(ts:bf) (b:Nat),ts.ok→Dz ts.flat→∀i∈d_ ts b,de b (b+ts.sz) i
 | .nil,b,_,_,i,hi=>by simp[d_] at hi
 | .cons t ts,b,cH,rA,i,hi=>by
  simp only[bf.ok] at cH;simp only[bf.flat] at rA;simp only[d_] at hi;simp only[bf.sz]
  rcases List.mem_append.1 hi with hi|hi
  ·exact(jY t b cH.1 (fun n hn=>rA n (List.mem_append_left _ hn)) i hi).mono (Nat.le_refl _) (by omega)
  ·exact(s9 ts _ cH.2 (fun n hn=>rA n (List.mem_append_right _ hn)) i hi).mono (by omega) (by omega)
theorem tb:∀(ts:bf) (b e:Nat),ts.ok→Dz ts.flat→b+(ts.sz+2*(ts.len-1))≤e→∀i∈dz (jv e) ts b,de b e i
 | .nil,b,e,_,_,_,i,hi=>by simp[dz] at hi
 | .cons t ts,b,e,cH,rA,he,i,hi=>by
  simp only[bf.ok] at cH;simp only[bf.flat] at rA;simp only[dz] at hi;simp only[bf.sz,bf.len] at he;have h1:Dz t.flat:=fun n hn=>rA n (List.mem_append_left _ hn);have h2:Dz ts.flat:=fun n hn=>rA n (List.mem_append_right _ hn)
  by_cases q:ts.len=0
  ·rw[if_pos q] at hi;exact(jY t b cH.1 h1 i hi).mono (Nat.le_refl _) (by omega)
  ·rw[if_neg q] at hi
   rcases List.mem_cons.1 hi with rfl|hi
   ·exact de.sp (by omega) (by omega)
   ·rcases List.mem_append.1 hi with hi|hi
    ·exact(jY t _ cH.1 h1 i hi).mono (by omega) (by omega)
    ·rcases List.mem_cons.1 hi with rfl|hi
     ·exact de.jp (by omega)
     ·exact(tb ts _ e cH.2 h2 (by omega) i hi).mono (by omega) (by omega)
end
inductive Path (C:List aN):Nat→Nat→Prop where
 |refl (u:Nat):Path C u u
 |step {u v w:Nat} {i:aN} (h:C[u]?=some i) (hn:(v:Int)∈bP u i) (p:Path C v w):Path C u w
theorem Path.trans {C:List aN} {u v w:Nat} (h:Path C u v) (g:Path C v w):Path C u w:=by
 induction h with
 |refl=>exact g
 |step h hn _ ih=>exact .step h hn (ih g)
theorem Path.yf {C:List aN} {u:Nat} {i:aN} (h:C[u]?=some i) (ho:i.op≠2∧i.op≠3∧i.op≠7):Path C u (u+1):=
 .step h (by unfold bP;rw[if_neg ho.1,if_neg ho.2.1,if_neg ho.2.2];exact List.mem_cons_self ..) (.refl _)
theorem Path.jp {C:List aN} {u e:Nat} (h:C[u]?=some (jv e)):Path C u e:=
 .step h (by show(e:Int)∈bP u (cq 3 (e:Nat) 0 []);unfold bP;rw[if_neg (show¬(cq 3 (e:Nat) 0 []).op=2 by show¬(3:Int)=2;decide),if_pos (show(cq 3 (e:Nat) 0 []).op=3 from rfl)];exact List.mem_cons_self ..) (.refl _)
theorem Path.sp {C:List aN} {u s o:Nat} {lz:Bool} (h:C[u]?=some (kT s o lz)):Path C u (s+1)∧Path C u o:=by
 have hn:bP u (kT s o lz)=[(kT s o lz).x,(kT s o lz).y]:=by
  unfold bP;rw[if_pos (by cases lz<;>rfl)]
 cases lz
 ·exact⟨.step h (by rw[hn];exact List.mem_cons_self ..) (.refl _),.step h (by rw[hn];exact List.mem_cons_of_mem _ (List.mem_cons_self ..)) (.refl _)⟩
 ·exact⟨.step h (by rw[hn];exact List.mem_cons_of_mem _ (List.mem_cons_self ..)) (.refl _),.step h (by rw[hn];exact List.mem_cons_self ..) (.refl _)⟩
theorem ni {C:List aN} {c:Nat→List aN} {z:Nat} (hl:∀b,(c b).length=z) (hc:∀b,fG C b (c b)→Path C b (b+z)):∀k b,fG C b (eo c z k b)→Path C b (b+k*z)
 |0,b,_=>by rw[Nat.zero_mul];exact .refl _
 |k+1,b,h=>by
  rw[eo] at h;have h2:=h.right;rw[hl] at h2;have:=ni hl hc k (b+z) h2;rw[Nat.succ_mul,show b+(k*z+z)=b+z+k*z by omega];exact(hc b h.left).trans this
theorem Bf {C : List aN} : ∀ (m : Nat) (t : Tr), t.flat.length ≤ m → ∀ b : Nat, t.ok → fG C b (aD t b) → Path C b (b + t.sz) := by
  intro m
  induction m with
  | zero => intro t h; have := t.iD; omega
  | succ m ih =>
    rintro ⟨n, ks⟩ hm b cH h
    simp only [Tr.flat, List.length_cons] at hm
    simp only [Tr.ok] at cH
    have hcat : ∀ (ts : bf) (b : Nat), ts.flat.length ≤ m → ts.ok → fG C b (d_ ts b) → Path C b (b + ts.sz) := by
      intro ts
      induction ts using bf.rec (motive_1 := fun _ => True) with
      | mk => trivial
      | nil => intro b _ _ _; exact .refl _
      | cons t ts _ zn =>
        intro b h1 h2 h3
        simp only [bf.flat, List.length_append] at h1
        simp only [bf.ok] at h2
        simp only [d_] at h3
        have h4 := h3.right
        rw [bH t b h2.1] at h4
        have h5 := zn (b + t.sz) (by omega) h2.2 h4
        simp only [bf.sz]
        rw [← Nat.add_assoc]
        exact (ih t (by omega) b h2.1 h3.left).trans h5
    obtain ⟨lJ, l4⟩ := cH
    obtain ⟨_, hq⟩ := lJ
    have jy := fun b => kH ks b l4
    simp only [aD] at h
    simp only [Tr.sz]
    have hz : ∀ s k, bD n s k = if n.op = 2 ∨ n.op = 7 ∨ n.op = 8 then 1 else if n.op = 4 then s + 2 * (k - 1) else if n.op = 6 then s + 2 else if n.op = 5 then (if n.mx = -1 then n.mn.toNat * s + s + 2 else n.mn.toNat * s + (n.mx.toNat - n.mn.toNat) * (s + 1)) else s := fun s k => rfl
    rw [hz]
    by_cases q2 : n.op = 2
    · rw [if_pos q2] at h
      rw [if_pos (.inl q2)]
      exact Path.yf h.head (by show (1 : Int) ≠ 2 ∧ (1 : Int) ≠ 3 ∧ (1 : Int) ≠ 7; decide)
    rw [if_neg q2] at h
    by_cases q7 : n.op = 7
    · rw [if_pos q7] at h
      rw [if_pos (.inr (.inl q7))]
      exact Path.yf h.head (by show (5 : Int) ≠ 2 ∧ (5 : Int) ≠ 3 ∧ (5 : Int) ≠ 7; decide)
    rw [if_neg q7] at h
    by_cases q8 : n.op = 8
    · rw [if_pos q8] at h
      rw [if_pos (.inr (.inr q8))]
      exact Path.yf h.head (by show (6 : Int) ≠ 2 ∧ (6 : Int) ≠ 3 ∧ (6 : Int) ≠ 7; decide)
    rw [if_neg q8] at h
    rw [if_neg (by omega)]
    by_cases q3 : n.op = 3
    · rw [if_pos q3] at h
      rw [if_neg (by omega), if_neg (by omega), if_neg (by omega)]
      exact hcat ks b (by omega) l4 h
    rw [if_neg q3] at h
    by_cases q4 : n.op = 4
    · rw [if_pos q4] at h
      have HZ : bD n ks.sz ks.len = ks.sz + 2 * (ks.len - 1) := by rw [hz, if_neg (by omega), if_pos q4]
      rw [HZ] at h
      rw [if_pos q4]
      cases ks with
      | nil => simp only [bf.len] at hq; omega
      | cons t ts =>
        simp only [bf.len] at hq
        simp only [bf.flat, List.length_append] at hm
        simp only [bf.ok] at l4
        simp only [dz] at h
        rw [if_neg (by omega)] at h
        have h1 := (Path.sp h.head).1
        have h2 := ih t (by omega) (b + 1) l4.1 h.tail.left
        have h3 := h.tail.right
        rw [bH t _ l4.1] at h3
        exact h1.trans (h2.trans (Path.jp h3.head))
    rw [if_neg q4] at h
    rw [if_neg q4]
    by_cases q5 : n.op = 5
    · rw [if_pos q5] at h
      rw [if_neg (by omega), if_pos q5]
      unfold ke at h
      by_cases qx : n.mx = -1
      · rw [if_pos qx] at h ⊢
        have h1 := ni jy (fun b hb => hcat ks b (by omega) l4 hb) _ _ h.left
        have h2 := h.right
        rw [ie jy] at h2
        have h3 := (Path.sp h2.head).2
        rw [show b + (n.mn.toNat * ks.sz + ks.sz + 2) = b + n.mn.toNat * ks.sz + ks.sz + 2 by omega]
        exact h1.trans h3
      · rw [if_neg qx] at h ⊢
        have h1 := ni jy (fun b hb => hcat ks b (by omega) l4 hb) _ _ h.left
        have h2 := h.right
        rw [ie jy] at h2
        by_cases hd : n.mx.toNat - n.mn.toNat = 0
        · rw [hd, Nat.zero_mul, Nat.add_zero]; exact h1
        · obtain ⟨d, zy⟩ : ∃ d, n.mx.toNat - n.mn.toNat = d + 1 := ⟨n.mx.toNat - n.mn.toNat - 1, by omega⟩
          rw [zy] at h2 ⊢
          rw [eu] at h2
          have h3 := (Path.sp h2.head).2
          rw [← Nat.add_assoc]
          exact h1.trans h3
    rw [if_neg q5] at h
    by_cases q6 : n.op = 6
    · rw [if_pos q6] at h
      rw [if_pos q6]
      have h1 : Path C b (b + 1) := Path.yf h.head (by show (4 : Int) ≠ 2 ∧ (4 : Int) ≠ 3 ∧ (4 : Int) ≠ 7; decide)
      have h2 := hcat ks (b + 1) (by omega) l4 h.tail.left
      have h3 := h.tail.right
      rw [jy] at h3
      have h4 : Path C (b + 1 + ks.sz) (b + 1 + ks.sz + 1) := Path.yf h3.head (by show (4 : Int) ≠ 2 ∧ (4 : Int) ≠ 3 ∧ (4 : Int) ≠ 7; decide)
      rw [show b + (ks.sz + 2) = b + 1 + ks.sz + 1 by omega]
      exact h1.trans (h2.trans h4)
    · have x8 : ks.len = 0 := by omega
      have := bf.len_nil x8
      subst this
      rw [if_neg q6, if_neg q5]
      exact .refl _
theorem yl {code:List aN} {I:Nat→Prop} (hI:∀u i,I u→code[u]?=some i→∀v∈bP u i,I v.toNat):∀(f:Nat) (seen:List Bool) (c9:List Int),(∀v∈c9,I v.toNat)→(∀u:Nat,seen[u]?=some true→I u)→∀u:Nat,(Bx code f seen c9)[u]?=some true→I u
 |0,seen,c9,_,h2,u,h=>h2 u h
 |f+1,seen,[],_,h2,u,h=>h2 u h
 |f+1,seen,v::c9,h1,h2,u,h=>by
  have hv:=h1 v (List.mem_cons_self ..);have hs:∀w∈c9,I w.toNat:=fun w hw=>h1 w (List.mem_cons_of_mem _ hw);unfold Bx at h
  split at h
  ·split at h
   ·rename_i i hi;refine yl hI f _ _ (fun w hw=>?_) (fun w hw=>?_) u h
    ·rcases List.mem_append.1 hw with hw|hw
     ·exact hI _ i hv hi w (List.mem_reverse.1 hw)
     ·exact hs w hw
    ·by_cases he:v.toNat=w
     ·rw[←he];exact hv
     ·rw[List.getElem?_set_ne he] at hw;exact h2 w hw
   ·exact h2 u h
  ·exact yl hI f _ _ hs h2 u h
theorem As {code:List aN} {start:Int} (hcl:iW code) (gv:0≤start∧start<(code.length:Int)) {u v:Nat} (p:Path code u v):(cX code start)[u]?=some true→(cX code start)[v]?=some true:=by
 obtain⟨ha,_,_,_⟩:=vm hcl gv
 induction p with
 |refl=>exact id
 |@step u v w i h hn _ ih=>
  intro hu;refine ih ?_
  rcases ha u i hu h _ hn with hs|hs
  ·exact dr.2 hs
  ·cases hs
theorem vl {code:List aN} {s:Nat} (hcl:iW code) (hs:s<code.length):(cX code (s:Nat))[s]?=some true:=by
 obtain⟨_,_,_,hd⟩:=vm (start:=((s:Nat):Int)) hcl ⟨by omega,by omega⟩
 rcases hd with hd|hd
 ·exact dr.2 hd
 ·cases hd
mutual
theorem Tr.Kr:∀t:Tr,True
 | .mk _ _=>trivial
theorem bf.Kr:∀t:bf,True
 | .nil=>trivial
 | .cons _ _=>trivial
end
theorem BQ {n:bF} {g:Int} (h:(dp n g).2=true) (h2:n.op=2):eO n.rs=true:=by
 unfold dp at h
 split at h
 ·cases h
 ·rw[if_neg (show¬(n.op=1∨n.op=7∨n.op=8) by omega)] at h;have h:(n.kids==0 &&eO n.rs)=true:=h;rw[Bool.and_eq_true] at h;exact h.2
theorem zm {l:List bF} {h:Nat→Nat→Option (Nat×Nat)} (ih:∀at_ g r,h at_ g=some r→at_≤r.1∧∀j n,at_≤j→j<r.1→l[j]?=some n→n.op=2→eO n.rs=true):∀k at_ g r,gd h k at_ g=some r→at_≤r.1∧∀j n,at_≤j→j<r.1→l[j]?=some n→n.op=2→eO n.rs=true
 |0,at_,g,r,e=>by
  simp only[gd,Option.some.injEq] at e;subst e;exact⟨Nat.le_refl _,fun j n h1 h2=>by simp only at h2;omega⟩
 |k+1,at_,g,r,e=>by
  unfold gd at e
  cases hq:h at_ g with
  |none=>rw[hq] at e;cases e
  |some q=>
   rw[hq] at e;obtain⟨t1,t2⟩:=ih _ _ _ hq;obtain⟨u1,u2⟩:=zm ih k _ _ _ e;refine⟨Nat.le_trans t1 u1,fun j n h1 h2 hj ho=>?_⟩
   by_cases Qa:j<q.1
   ·exact t2 j n h1 Qa hj ho
   ·exact u2 j n (by omega) h2 hj ho
theorem Ca {l:List bF}:∀f at_ g r,fM l f at_ g=some r→at_≤r.1∧∀j n,at_≤j→j<r.1→l[j]?=some n→n.op=2→eO n.rs=true
 |0,_,_,_,e=>by simp[fM] at e
 |f+1,at_,g,r,e=>by
  unfold fM at e
  cases hn:l[at_]? with
  |none=>rw[hn] at e;cases e
  |some n=>
   rw[hn] at e;simp only at e
   split at e
   ·rename_i hs;obtain⟨u1,u2⟩:=zm (Ca f) _ _ _ _ e;refine⟨by omega,fun j m h1 h2 hj ho=>?_⟩
    by_cases Qd:j=at_
    ·subst Qd;rw[hn] at hj;cases hj;exact BQ hs ho
    ·exact u2 j m (by omega) h2 hj ho
   ·cases e
theorem BX {l:List bF} (h:bN l=true):Dz l:=by
 unfold bN at h;simp only[Bool.and_eq_true] at h;obtain⟨_,h⟩:=h
 split at h
 ·rename_i r hr;rw[decide_eq_true_eq] at h;obtain⟨_,h2⟩:=Ca _ _ _ _ hr;intro n hn ho;obtain⟨j,hj⟩:=List.getElem?_of_mem hn;exact h2 j n (Nat.zero_le _) (by rw[h];exact bn hj) hj ho
 ·cases h
structure G4 (n0 r0:Nat) (C:List aN) (B:List Int) (k:Nat):Prop where
 bl:B.length=k
 fs:0<k→B[0]?=some ((n0:Nat):Int)
 el:∀j,j<k→∃(t:Tr) (b:Nat),t.ok∧Dz t.flat∧B[j]?=some (b:Int)∧n0≤b∧(∀b':Int,B[j+1]?=some b'→b'=((b+t.sz+3:Nat):Int))∧(j+1=k→n0+C.length=b+t.sz+3)∧∃pre post,C=pre++cB t b (r0+j)++post∧n0+pre.length=b
 al:∀i q,C[i]?=some q→∃j,j<k∧∃(t:Tr) (b:Nat),B[j]?=some (b:Int)∧t.ok∧Dz t.flat∧b≤n0+i∧n0+i<b+t.sz+3∧b+t.sz+3≤n0+C.length∧q∈cB t b (r0+j)∧(cB t b (r0+j))[n0+i-b]?=some q
theorem qX:∀(ls:List (List bF)) (r:Nat) (c:List aN) (s:List Int),(eF ls r c s).e=0→∃C B,(eF ls r c s).code=c++C∧(eF ls r c s).aK=s++B∧G4 c.length r C B ls.length
 |[],r,c,s,h=>by
  rw[qY];exact⟨[],[],by simp,by simp,rfl,fun h=>by simp at h,fun j hj=>by simp at hj,fun i q hi=>by simp at hi⟩
 |l::ls,r,c,s,h=>by
  rw[eF] at h⊢
  by_cases hr:bN l=false
  ·rw[if_pos hr] at h;cases h
  rw[if_neg hr] at h⊢;rw[Bool.not_eq_false] at hr
  by_cases hb:400<c.length+min (bV l).sz 401+3
  ·rw[if_pos hb] at h;cases h
  rw[if_neg hb] at h⊢;obtain⟨t1,t2⟩:=l_ hr;have rA:Dz (bV l).flat:=by rw[t2];exact BX hr
  have hlen:=kW (b:=c.length) (r:=r) t1;obtain⟨C,B,h1,h2,h3⟩:=qX ls (r+1) _ _ h;rw[List.length_append,hlen] at h3;refine⟨cB (bV l) c.length r++C,((c.length:Nat):Int)::B,by rw[h1,List.append_assoc],by rw[h2,List.append_assoc];rfl,by simp[h3.bl],fun _=>rfl,fun j hj=>?_,fun i q hi=>?_⟩
  ·cases j with
   |zero=>
    refine⟨bV l,c.length,t1,rA,rfl,Nat.le_refl _,fun b' ec=>?_,fun Gl=>?_,[],C,by simp,by simp⟩
    ·simp only[Nat.zero_add,List.getElem?_cons_succ] at ec;have hB:=h3.bl;have hlt:=bn ec;rw[h3.fs (by omega)] at ec;cases ec
     congr 1
    ·simp only[List.length_cons] at Gl;have Hg:ls.length=0:=by omega
     have hC:C=[]:=by
      cases hc:C with
      |nil=>rfl
      |cons q C'=>
       obtain⟨j,hj,_⟩:=h3.al 0 q (by rw[hc];rfl);omega
     rw[hC,List.append_nil,hlen];omega
   |succ j=>
    simp only[List.length_cons] at hj;obtain⟨t,b,q1,q2,q3,q4,q5,q6,pre,post,q7,q8⟩:=h3.el j (by omega);refine⟨t,b,q1,q2,q3,by omega,q5,fun Gl=>?_,cB (bV l) c.length r++pre,post,?_,?_⟩
    ·simp only[List.length_cons] at Gl;have:=q6 (by omega);rw[List.length_append,hlen];omega
    ·rw[q7,show r+1+j=r+(j+1) by omega];simp only[List.append_assoc]
    ·rw[List.length_append,hlen];omega
  ·by_cases hil:i<(cB (bV l) c.length r).length
   ·rw[List.getElem?_append_left hil] at hi;refine⟨0,by simp,bV l,c.length,rfl,t1,rA,by omega,by omega,by rw[List.length_append,hlen];omega,List.mem_of_getElem? hi,?_⟩;rw[show c.length+i-c.length=i by omega];exact hi
   ·rw[List.getElem?_append_right (by omega)] at hi;obtain⟨j,q1,t,b,q2,q3,q4,q5,q6,q7,q8,q9⟩:=h3.al _ q hi;rw[hlen] at q5 q6 q9 hil;refine⟨j+1,by simp only[List.length_cons];omega,t,b,q2,q3,q4,by omega,by omega,by rw[List.length_append,hlen];omega,by rw[show r+(j+1)=r+1+j by omega];exact q8,?_⟩;rw[show r+(j+1)=r+1+j by omega,show c.length+i-b=c.length+((bV l).sz+3)+(i-((bV l).sz+3))-b by omega];exact q9
theorem A4 {lo hi u:Nat} {i:aN} (h:de lo hi i) (h1:lo≤u+1) (h2:u+1≤hi):∀v∈bP u i,(lo:Int)≤v∧v≤hi:=by
 intro v hv;unfold bP at hv
 rcases h with⟨a,_⟩|⟨a,_,c,d⟩|⟨a,_,_,d⟩|⟨a,_⟩|⟨a,_⟩
 ·rw[if_neg (by omega),if_neg (by omega),if_neg (by omega)] at hv;simp only[List.mem_cons,List.not_mem_nil,or_false] at hv;omega
 ·rw[if_pos a] at hv;simp only[List.mem_cons,List.not_mem_nil,or_false] at hv
  rcases hv with rfl|rfl<;>omega
 ·rw[if_neg (by omega),if_pos a] at hv;simp only[List.mem_cons,List.not_mem_nil,or_false] at hv;omega
 ·rw[if_neg (by omega),if_neg (by omega),if_neg (by omega)] at hv;simp only[List.mem_cons,List.not_mem_nil,or_false] at hv;omega
 ·rw[if_neg (by omega),if_neg (by omega),if_neg (by omega)] at hv;simp only[List.mem_cons,List.not_mem_nil,or_false] at hv;omega
theorem wC {lo hi n ns pc:Nat} {i:aN} (h:de lo hi i) (h1:hi<n) (h2:pc+1<n):dh n ns pc i=true:=by
 have x9:∀v:Int,(lo:Int)≤v→v≤hi→pY v n=true:=fun v a b=>dU.2 ⟨by omega,by omega⟩;have hd:decide (((pc+1:Nat):Int)<n)=true:=by rw[decide_eq_true_eq];omega
 unfold dh
 rcases h with⟨a,b,c,d⟩|⟨a,b,c,d⟩|⟨a,b,c,d⟩|⟨a,b,c,d⟩|⟨a,b,c,d⟩
 ·rw[if_pos a,hd,b,c,d];rfl
 ·rw[if_neg (by omega),if_pos a,b,x9 _ c.1 c.2,x9 _ d.1 d.2];rfl
 ·rw[if_neg (by omega),if_neg (by omega),if_pos a,b,c,x9 _ d.1 d.2];rfl
 ·rw[if_neg (by omega),if_neg (by omega),if_neg (by omega),if_pos a,b,c,hd,dU.2 ⟨d.1,d.2⟩];rfl
 ·rw[if_neg (by omega),if_neg (by omega),if_neg (by omega),if_neg (by omega),if_pos a,b,c,hd,d];rfl
theorem nh {t:Tr} {b r o:Nat} {q:aN} (h1:t.ok) (h2:Dz t.flat) (h:(cB t b r)[o]?=some q):(o<t.sz+2∧de b (b+t.sz+2) q)∨(o=t.sz+2∧q=cq 7 (r:Nat) 0 []):=by
 have hl:=bH t (b+1) h1;have hA:cB t b r=(cq 4 0 0 []::(aD t (b+1)++[cq 4 1 0 []]))++[cq 7 (r:Nat) 0 []]:=by unfold cB;simp
 have QK:(cq 4 0 0 []::(aD t (b+1)++[cq 4 1 0 []])).length=t.sz+2:=by simp[hl]
 rw[hA] at h
 by_cases ho:o<t.sz+2
 ·rw[List.getElem?_append_left (by omega)] at h;refine .inl ⟨ho,?_⟩;have hm:=List.mem_of_getElem? h
  rcases List.mem_cons.1 hm with rfl|hm
  ·exact de.save (by omega)
  ·rcases List.mem_append.1 hm with hm|hm
   ·exact(jY t (b+1) h1 h2 q hm).mono (by omega) (by omega)
   ·simp only[List.mem_cons,List.not_mem_nil,or_false] at hm;subst hm;exact de.save (by omega)
 ·rw[List.getElem?_append_right (by omega),QK] at h;have h0:=bn h;simp only[List.length_cons,List.length_nil] at h0;have uF:o=t.sz+2:=by omega
  refine .inr ⟨uF,?_⟩;rw[uF,Nat.sub_self] at h;exact(Option.some.inj h).symm
structure Jx (p:Pg) (r s e:Nat):Prop where
 st:p.aK[r]?=some (s:Int)
 se:s<e
 el:e≤p.code.length
 nx:∀b':Int,p.aK[r+1]?=some b'→b'=(e:Int)
 la:r+1=p.aK.length→p.code.length=e
 mt:p.code[e-1]?=some (cq 7 (r:Nat) 0 [])
 fi:(pw p (r:Nat))[0]?=some (s:Int)
 lt:(pw p (r:Nat))[(pw p (r:Nat)).length-1]?=some ((e-1:Nat):Int)
theorem Am {X:List Int} {a b:Int} (hp:X.Pairwise (·<·)) (ha:a∈X) (hb:b∈X) (h:∀v∈X,a≤v∧v≤b):X[0]?=some a∧X[X.length-1]?=some b:=by
 obtain⟨i,hi⟩:=List.getElem?_of_mem ha;obtain⟨j,hj⟩:=List.getElem?_of_mem hb;have hil:=bn hi;have lK:=bn hj
 have hlt:∀u v (x y:Int),u<v→X[u]?=some x→X[v]?=some y→x<y:=fun u v x y OO hx hy=>by
  have:=List.pairwise_iff_getElem.1 hp u v (bn hx) (bn hy) OO;have ex:X[u]'(bn hx)=x:=Option.some.inj ((List.getElem?_eq_getElem _).symm.trans hx);have ey:X[v]'(bn hy)=y:=Option.some.inj ((List.getElem?_eq_getElem _).symm.trans hy);rw[ex,ey] at this;exact this
 constructor
 ·obtain⟨x,hx⟩:∃x,X[0]?=some x:=⟨X[0]'(by omega),List.getElem?_eq_getElem _⟩
  have:=h x (List.mem_of_getElem? hx)
  by_cases h0:i=0
  ·rw[←h0];exact hi
  ·have:=hlt 0 i x a (by omega) hx hi;omega
 ·obtain⟨x,hx⟩:∃x,X[X.length-1]?=some x:=⟨X[X.length-1]'(by omega),List.getElem?_eq_getElem _⟩
  have:=h x (List.mem_of_getElem? hx)
  by_cases h0:j=X.length-1
  ·rw[←h0];exact hj
  ·have:=hlt j (X.length-1) b x (by omega) hj hx;omega
theorem xR {parts:List (List bF)} (hl:parts.length≤8) (he:(aH parts).e=0) (hcl:(aH parts).code.length≤400):
  fu (ly (aH parts).code (aH parts).aK)∧(aH parts).aK.length=parts.length∧∀r,r<parts.length→∃s e,Jx (ly (aH parts).code (aH parts).aK) r s e:=by
 have jF:aH parts=eF parts 0 [] []:=by unfold aH;rw[if_neg (by omega)]
 rw[jF] at he hcl⊢;obtain⟨C,B,h1,h2,h3⟩:=qX parts 0 [] [] he;simp only[List.nil_append] at h1 h2;simp only[List.length_nil] at h3;rw[h1] at hcl;rw[h1,h2];have J7:=h3.bl
 have hsh:∀pc i,C[pc]?=some i→dh C.length B.length pc i=true:=by
  intro pc i hi;obtain⟨j,q1,t,b,q2,q3,q4,q5,q6,q7,q8,q9⟩:=h3.al pc i hi;rw[Nat.zero_add] at q9
  rcases nh q3 q4 q9 with⟨g1,g2⟩|⟨g1,g2⟩
  ·exact wC g2 (by omega) (by omega)
  ·rw[g2];have:pY ((j:Nat):Int) B.length=true:=dU.2 ⟨by omega,by omega⟩;unfold dh cq;simp[this]
 have IL:iW C:=nO (p:=ly C B) hsh
 have CA:∀r,r<parts.length→∃s e:Nat,B[r]?=some (s:Int)∧s<e∧e≤C.length∧(∀b':Int,B[r+1]?=some b'→b'=(e:Int))∧(r+1=parts.length→C.length=e)∧C[e-1]?=some (cq 7 (r:Nat) 0 [])∧(∀u:Nat,(cX C (s:Nat))[u]?=some true→s≤u∧u<e)∧(cX C (s:Nat))[s]?=some true∧(cX C (s:Nat))[e-1]?=some true∧∀u i,s≤u→u<e→C[u]?=some i→i.op=7→i.x=(r:Int):=by
  intro r hr;obtain⟨t,b,q1,q2,q3,q4,q5,q6,pre,post,q7,q8⟩:=h3.el r hr;rw[Nat.zero_add] at q6 q8;rw[Nat.zero_add] at q7;have zq:=kW (b:=b) (r:=r) q1;have Hm:C.length=b+(t.sz+3)+post.length:=by rw[q7,List.length_append,List.length_append,zq,q8]
  have iB:∀u,b≤u→u<b+t.sz+3→C[u]?=(cB t b r)[u-b]?:=fun u g1 g2=>by
   rw[q7,List.append_assoc,List.getElem?_append_right (by omega),q8,List.getElem?_append_left (by omega)]
  have jS:fG C b (cB t b r):=⟨post,by rw[q7,List.append_assoc,←q8,List.drop_left]⟩
  have x9:∀u:Nat,(cX C (b:Nat))[u]?=some true→b≤u∧u<b+t.sz+3:=by
   unfold cX;refine yl (I:=fun u=>b≤u∧u<b+t.sz+3) (fun u i hu hi v hv=>?_) _ _ _ (fun v hv=>?_) (fun u hu=>?_)
   ·rw[iB u hu.1 hu.2] at hi
    rcases nh q1 q2 hi with⟨g1,g2⟩|⟨g1,g2⟩
    ·have:=A4 (u:=u) g2 (by omega) (by omega) v hv;omega
    ·rw[g2] at hv;have:bP u (cq 7 (r:Nat) 0 [])=[]:=by unfold bP cq;simp
     rw[this] at hv;cases hv
   ·simp only[List.mem_cons,List.not_mem_nil,or_false] at hv;subst hv;rw[Int.toNat_natCast];omega
   ·rw[List.getElem?_replicate] at hu
    split at hu<;>cases hu
  have hs:=vl (s:=b) IL (by omega)
  have PI:C[b+t.sz+3-1]?=some (cq 7 (r:Nat) 0 []):=by
   rw[iB _ (by omega) (by omega)];unfold cB;have uc:=bH t (b+1) q1;rw[show b+t.sz+3-1-b=(t.sz+1)+1 by omega,List.getElem?_cons_succ,List.getElem?_append_right (by omega),uc,show t.sz+1-t.sz=1 by omega]
   rfl
  have Ib:Path C b (b+t.sz+3-1):=by
   unfold cB at jS;have p1:Path C b (b+1):=Path.yf jS.head (by show(4:Int)≠2∧(4:Int)≠3∧(4:Int)≠7;decide);have p2:=Bf (C:=C) _ t (Nat.le_refl _) (b+1) q1 jS.tail.left;have h4:=jS.tail.right;rw[bH t _ q1] at h4;have p3:Path C (b+1+t.sz) (b+1+t.sz+1):=Path.yf h4.head (by show(4:Int)≠2∧(4:Int)≠3∧(4:Int)≠7;decide);rw[show b+t.sz+3-1=b+1+t.sz+1 by omega];exact p1.trans (p2.trans p3)
  refine⟨b,b+t.sz+3,q3,by omega,by omega,fun b' ec=>q5 b' ec,q6,PI,x9,hs,As IL ⟨by omega,by omega⟩ Ib hs,fun u i g1 g2 hi ho=>?_⟩;rw[iB u g1 g2] at hi
  rcases nh q1 q2 hi with⟨_,g3⟩|⟨_,g3⟩
  ·rcases g3 with⟨a,_⟩|⟨a,_⟩|⟨a,_⟩|⟨a,_⟩|⟨a,_⟩<;>omega
  ·rw[g3];rfl
 have hR:fu (ly C B):=by
  refine⟨hcl,by show B.length≤8;omega,hsh,fun v hv=>?_,fun r s hs pc i Ia H8 hi ho=>?_⟩
  ·obtain⟨r,hr⟩:=List.getElem?_of_mem (show v∈B from hv);obtain⟨s,e,g1,g2,g3,_⟩:=CA r (by rw[←J7];exact bn hr);rw[g1] at hr;cases hr;show(0:Int)≤(s:Int)∧(s:Int)<(C.length:Int);omega
  ·have hs:B[r]?=some s:=hs;obtain⟨s',e,g1,g2,g3,g4,g5,g6,g7,g8,g9,g10⟩:=CA r (by rw[←J7];exact bn hs);rw[g1] at hs;cases hs;obtain⟨k1,k2⟩:=g7 pc H8;exact g10 pc i k1 k2 hi ho
 refine⟨hR,by rw[J7],fun r hr=>?_⟩;obtain⟨s,e,g1,g2,g3,g4,g5,g6,g7,g8,g9,g10⟩:=CA r hr
 have Nr:pw (ly C B) (r:Nat)=pG 0 (cX C (s:Nat)):=by
  unfold pw;have hi:pY ((r:Nat):Int) (ly C B).aK.length=true:=dU.2 ⟨by omega,by show((r:Nat):Int)<(B.length:Nat);omega⟩;rw[uu hR,hi]
  have Gm:(ly C B).aK.getD ((r:Nat):Int).toNat 0=(s:Int):=by
   rw[Int.toNat_natCast,List.getD_eq_getElem?_getD];show(B[r]?).getD 0=_;rw[g1];rfl
  rw[Gm];rfl
 have Fp:=Am (sc (cX C (s:Nat)) 0) (a:=(s:Int)) (b:=((e-1:Nat):Int)) (jn.2 ⟨s,g8,by rw[Nat.zero_add]⟩) (jn.2 ⟨e-1,g9,by rw[Nat.zero_add]⟩) (fun v hv=>by
  obtain⟨k,k1,k2⟩:=jn.1 hv;have:=g7 k k1
  omega)
 exact⟨s,e,g1,g2,g3,fun b' ec=>g4 b' ec,fun jx=>g5 (by rw[←J7];exact jx),g6,by rw[Nr];exact Fp.1,by rw[Nr];exact Fp.2⟩
theorem sX:∀(ls:List (List bF)) (r:Nat) (c:List aN) (s:List Int),(eF ls r c s).e≠0→(eF ls r c s).code=[]∧(eF ls r c s).aK=[]
 |[],r,c,s,h=>by rw[nL] at h;exact absurd rfl h
 |l::ls,r,c,s,h=>by
  rw[eF] at h⊢
  split
  ·exact⟨rfl,rfl⟩
  ·rename_i h1;rw[if_neg h1] at h
   split
   ·exact⟨rfl,rfl⟩
   ·rename_i h2;rw[if_neg h2] at h;exact sX ls _ _ _ h
theorem oo {ls:List (List bF)} (h:(aH ls).e≠0):(aH ls).code=[]∧(aH ls).aK=[]:=by
 unfold aH at h⊢
 split
 ·exact⟨rfl,rfl⟩
 ·rename_i h1;rw[if_neg h1] at h;exact sX _ _ _ _ h
theorem xm:fu (ly [] []):=⟨by simp[ly],by simp[ly],fun pc i h=>by simp[ly] at h,fun v h=>by simp[ly] at h,fun r s h=>by simp[ly] at h⟩
theorem rL {ls:List (List bF)} (hl:ls.length≤8) (hcl:(aH ls).code.length≤400):fu (ly (aH ls).code (aH ls).aK):=by
 by_cases he:(aH ls).e=0
 ·exact(xR hl he hcl).1
 ·rw[(oo he).1,(oo he).2];exact xm
def lS (fr:Go.V.Fr) (k:Nat):Go.V.D:=Go.V.nth .bG fr.loc k
noncomputable def et (ps:List (List UInt8)):List (List bF):=ps.map fun b=>(aO b).1
theorem vw {ps:List (List UInt8)} {i:Nat} {b:List UInt8} (h:ps[i]?=some b):et (ps.take (i+1))=et (ps.take i)++[(aO b).1]:=by
 unfold et;rw[List.take_add_one,h,Option.toList_some,List.map_append];rfl
theorem xS {s0:St} {x:D} {ps:List (List UInt8)} (hx:V.Rows s0 1 x (ps.map DQ)) (hl:ps.length≤1048576) (hb:∀b∈ps,b.length≤1048576):∃d,Ev pv 25 [x] s0 d s0∧∃(p:Pg) (ok:Bool),d=.tup [p.d,.bool ok]∧p.ok∧p.code.length≤400∧(ok=true→(aH (et ps)).e=0∧p=ly (aH (et ps)).code (aH (et ps)).aK):=by
 refine Ev.Ec rfl My rfl rfl rfl ?_;dsimp only[u3,u4,List.length,Nat.reduceSub,Nat.reduceAdd,w1,w2];obtain⟨cE,hF,hH⟩:=ri s0;generalize aj .ro s0=S at*;have hx:=Arg.of hx cE;refine qq<|qj fun K hK=>qa hH fun k2 st hk2 hH=>?_;refine qm ?_;refine qe hK<|qq<|qj fun K hK=>qm ?_;refine qe hK<|qq<|qq<|qj fun K hK=>qm ?_;refine qe hK ?_;have hH:Has s0.bs.length S st (.aR .nul 1 ((et (ps.take 0)).map dN)::.box k2 (.mem 0 false [.nul,.nul])::[]):=hH.gH 1;refine af.block<|af.loop (fun mm fr st=>∃(i:Nat) (ld:D),fr.clean=⟨11,[x,lS fr 1,.ptr k2 0 0,.bool false,ld,.int .i64 (i:Nat),lS fr 6,lS fr 7,lS fr 8,lS fr 9,lS fr 10],[]⟩∧Has s0.bs.length S st [.aR ld 1 ((et (ps.take i)).map dN),.box k2 (.mem 0 false [.nul,.nul])]∧(i+mm=ps.length)∧(∀l∈et (ps.take i),(∀n∈l,rP n)∧l.length≤500)) (ps.length) ?_ ?_
 ·exact⟨0,.nul,rfl,hH,by omega,fun l hl=>(by cases hl)⟩
 rintro mm fr st ⟨i,ld,hfr,hH,hi,hp⟩;rw[hfr];clear hfr;generalize lS fr=ee;clear fr;refine qq<|qq<|qj fun K hK=>qm ?_;refine qm ?_;refine qn ?_;simp only[List.length_map];refine qg ?_;refine qe hK ?_
 by_cases hlt:i<ps.length
 ·obtain⟨b,Fs⟩:∃b,ps[i]?=some b:=⟨ps[i]'hlt,List.getElem?_eq_getElem _⟩
  have jx:=DP Fs;have hbl:=hb b (List.mem_of_getElem? Fs);have xc:decide (((i:Nat):Int)<((ps.length:Nat):Int))=true:=by rw[decide_eq_true_eq];omega
  refine qD rfl (by rw[xc]) ?_;refine af.skip<|qq<|af.block ?_;obtain⟨aM,hv,CF⟩:=rZ (s0:=st) hbl;have KL:=vw Fs;have O':(et (ps.take i)).length≤1048576:=by unfold et;rw[List.length_map,List.length_take];omega
  generalize aO b=X at*;obtain⟨l,e,w⟩:=X;dsimp only at hv CF KL;unfold jN at aM;dsimp only at aM;refine qq<|qj fun K hK=>qm ?_;refine qm ?_;refine qr fun JI Ep=>?_;refine qR ?_;refine qv (aM) ?_;refine qm ?_;refine qg ?_;refine qg ?_;refine qg ?_;refine qm ?_;refine qm ?_;refine qm ?_;refine qe hK<|qq<|qq<|qj fun K hK=>qm ?_;refine qg ?_;refine qe hK ?_;refine af.cond (by rfl) (fun he=>?_) (fun he=>?_)<;>try simp only[bne_iff_ne,bne_eq_false_iff_eq,ne_eq] at he
  ·refine qq<|qj fun K hK=>ab.go (d:=.agg [.nul,.nul]) (st1:=_) rfl rfl rfl (aa rfl _) ?_;refine qS hH cp fun st hH=>?_;dsimp only[u2,u1,u3,u4,setMany,u5,u6,D.cells,Nat.reduceAdd,dN,mF,Pg.d,Pg.cs,ly,jN] at hH;refine qm ?_;refine qe hK<|af.ret ⟨rx,_,_,hH.db rfl cp rfl rfl,rl cE hH (show _=some (D.tup [(ly [] []).d,.bool false]) from rfl),⟨_,_,rfl,xE (fun i hi=>(by cases hi)) (by simp) (by simp),by simp[ly],fun h=>(by cases h)⟩⟩
  ·refine af.skip<|qj fun K hK=>qm ?_;refine qm ?_;refine qh (s:=1) (vs:=[_]) hH fun k32 st Lw hH=>?_;refine ab.cT (s:=1) hH rfl (ev rfl) (ev rfl) (by exact cp) (by exact hH.rows (by exact aC)) rfl rfl rfl rfl rfl rfl rfl ⟨(Nat.le_of_ble_eq_true rfl),(Nat.le_of_ble_eq_true rfl)⟩ (fun _=>(aa rfl _)) (by simp only[List.length_cons,List.length_nil,List.length_map]<;>omega) (by exact .inl hF) (fun N6 st hH=>?_);dsimp only[u2,u1,u3,u4,setMany,u5,u6,D.cells,Nat.reduceAdd,dN,mF,Pg.d,Pg.cs,ly,jN] at hH;refine qm ?_;refine qe hK ?_;have hH:=hH.drop 1;refine qj fun K hK=>qm ?_;refine qA ?_;refine qm ?_;refine qe hK ?_;refine⟨mm-1,by omega,⟨i+1,N6,rfl,(by rw[KL,List.map_append];exact hH),by omega,?_⟩⟩;rw[KL];intro l' iR
   rcases List.mem_append.1 iR with iR|iR
   ·exact hp l' iR
   ·simp only[List.mem_cons,List.not_mem_nil,or_false] at iR;subst iR;exact⟨hv,CF⟩
 ·have xc:decide (((i:Nat):Int)<((ps.length:Nat):Int))=false:=by rw[decide_eq_false_iff_not];omega
  refine qE rfl (by rw[xc]) ?_;refine af.exit ?_;rw[List.take_of_length_le (by omega)] at hp hH;obtain⟨aM,cH,hlen⟩:=yt hp (by unfold et;rw[List.length_map];exact hl) (hH.rows aC)
  obtain⟨R,L3⟩:∃R,aH (et ps)=R:=⟨_,rfl⟩
  rw[L3] at aM cH hlen;refine qq<|qj fun K hK=>qm ?_;refine qv (aM) ?_;refine qm ?_;refine qg ?_;refine qg ?_;refine qg ?_;refine qa hH fun k9 st NA hH=>?_;refine qS hH aC fun st hH=>?_;dsimp only[u2,u1,u3,u4,setMany,u5,u6,D.cells,Nat.reduceAdd,dN,mF,Pg.d,Pg.cs,ly,jN] at hH;refine qm ?_;refine qm ?_;refine qe hK<|qq<|qj fun K hK=>?_;refine ab.cI (m:=2) hH rfl (ev rfl) (by exact aC) (by dsimp only[List.drop_succ_cons,List.drop_zero,List.take_succ_cons,List.take_zero,dN,mF,Pg.d,Pg.cs,ly,jN]<;>rfl) rfl rfl (aa rfl _) ?_;refine qm ?_;refine qg ?_;refine qS hH dx fun st hH=>?_;dsimp only[u2,u1,u3,u4,setMany,u5,u6,D.cells,Nat.reduceAdd,dN,mF,Pg.d,Pg.cs,ly,jN] at hH;refine qm ?_;refine qe hK<|af.ret ⟨rx,_,_,hH.db rfl dx rfl rfl,rl cE hH (show _=some (D.tup [(ly R.code R.aK).d,.bool (R.e==0)]) from rfl),⟨_,_,rfl,cH,hlen,fun h=>⟨by rw[L3];simpa using h,by rw[L3]⟩⟩⟩
theorem xU {s0:St} {x:D} {ps:List (List UInt8)} (hx:V.Rows s0 1 x (ps.map DQ)) (hl:ps.length≤8) (hb:∀b∈ps,b.length≤1048576):∃d,Ev pv 25 [x] s0 d s0∧∃(p:Pg) (ok:Bool),d=.tup [p.d,.bool ok]∧p.ok∧p.code.length≤400∧(ok=true→(aH (et ps)).e=0∧p=ly (aH (et ps)).code (aH (et ps)).aK∧fu p):=by
 obtain⟨d,h1,p,ok,h2,h3,h4,h5⟩:=xS (s0:=s0) hx (by omega) hb;refine⟨d,h1,p,ok,h2,h3,h4,fun h=>?_⟩;obtain⟨h6,h7⟩:=h5 h;refine⟨h6,h7,?_⟩;subst h7;exact rL (by unfold et;rw[List.length_map];exact hl) h4
end Go.Proofs.Ytnleclohocdkaaa
