/- own -/
import Derived.Test.YtnleclohocdkaaaTGBh
import Derived.Test.YtnleclohocdkaaaTGHr
import Derived.Test.YtnleclohocdkaaaTGQh
import Derived.Test.YtnleclohocdkaaaTGTe
set_option maxRecDepth 100000
set_option linter.unusedSimpArgs false
set_option linter.unusedVariables false
set_option maxHeartbeats 4000000
namespace Go.Proofs.Ytnleclohocdkaaa
open Go.V Go
def GoodI (lo hi : Nat) (i : PIns) : Prop :=
  (i.op = 1 /\ i.x = 0 /\ i.y = 0 /\ rightS i.rs = true) \/ (i.op = 2 /\ i.rs = [] /\ ((lo : Int) <= i.x /\ i.x <= hi) /\ (lo : Int) <= i.y /\ i.y <= hi) \/ (i.op = 3 /\ i.rs = [] /\ i.y = 0 /\ (lo : Int) <= i.x /\ i.x <= hi) \/ (i.op = 4 /\ i.rs = [] /\ i.y = 0 /\ 0 <= i.x /\ i.x < 10) \/ ((i.op = 5 \/ i.op = 6) /\ i.rs = [] /\ i.y = 0 /\ i.x = 0)
theorem GoodI.mono {lo hi lo' hi' : Nat} {i : PIns} (h : GoodI lo hi i) (h1 : lo' <= lo) (h2 : hi <= hi') : GoodI lo' hi' i := by
  rcases h with h | ⟨a,b,c,d⟩ | ⟨a,b,c,d⟩ | h | h
  · exact .inl h
  · exact .inr (.inl ⟨a,b,by omega,by omega⟩)
  · exact .inr (.inr (.inl ⟨a,b,c,by omega⟩))
  · exact .inr (.inr (.inr (.inl h)))
  · exact .inr (.inr (.inr (.inr h)))
theorem GoodI.sp {lo hi s o : Nat} {lz : Bool} (h1 : lo <= s + 1 /\ s + 1 <= hi) (h2 : lo <= o /\ o <= hi) : GoodI lo hi (spI s o lz) := by
  refine .inr (.inl ?_)
  cases lz
  · refine ⟨rfl,rfl,?_⟩
    show ((lo : Int) <= ((s + 1 : Nat) : Int) /\ ((s + 1 : Nat) : Int) <= hi) /\ (lo : Int) <= (o : Int) /\ (o : Int) <= hi
    omega
  · refine ⟨rfl,rfl,?_⟩
    show ((lo : Int) <= (o : Int) /\ (o : Int) <= hi) /\ (lo : Int) <= ((s + 1 : Nat) : Int) /\ ((s + 1 : Nat) : Int) <= hi
    omega
theorem GoodI.jp {lo hi e : Nat} (h1 : lo <= e /\ e <= hi) : GoodI lo hi (jpI e) := by
  refine .inr (.inr (.inl ⟨rfl,rfl,rfl,?_⟩))
  show (lo : Int) <= (e : Int) /\ (e : Int) <= hi
  omega
theorem GoodI.save {lo hi : Nat} {x : Int} (h : 0 <= x /\ x < 10) : GoodI lo hi (mkI 4 x 0 []) := .inr (.inr (.inr (.inl ⟨rfl,rfl,rfl,h⟩)))
theorem repC_good {c : Nat -> List PIns} {z : Nat} (hc : ∀ b, ∀ i ∈ c b,GoodI b (b + z) i) : ∀ k b, ∀ i ∈ repC c z k b,GoodI b (b + k * z) i
  | 0,b,i,hi => by cases hi
  | k + 1,b,i,hi => by
    simp only [repC] at hi
    rw [Nat.succ_mul]
    rcases List.mem_append.1 hi with hi | hi
    · exact (hc b i hi).mono (Nat.le_refl _) (by omega)
    · exact (repC_good hc k _ i hi).mono (by omega) (by omega)
theorem optC_good {sp : Nat -> PIns} {c : Nat -> List PIns} {z lo hi : Nat} (hs : ∀ s,lo <= s -> s + 1 <= hi -> GoodI lo hi (sp s)) (hc : ∀ b, ∀ i ∈ c b,GoodI b (b + z) i) : ∀ k b,lo <= b -> b + k * (z + 1) <= hi -> ∀ i ∈ optC sp c z k b,GoodI lo hi i
  | 0,b,_,_,i,hi' => by cases hi'
  | k + 1,b,h1,h2,i,hi' => by
    simp only [optC] at hi'
    rw [Nat.succ_mul] at h2
    rcases List.mem_cons.1 hi' with rfl | hi'
    · exact hs b h1 (by omega)
    · rcases List.mem_append.1 hi' with hi' | hi'
      · exact (hc _ i hi').mono (by omega) (by omega)
      · exact optC_good hs hc k _ (by omega) (by omega) i hi'
def rsR (l : List Nod) : Prop := ∀ n ∈ l,n.op = 2 -> rightS n.rs = true
mutual
theorem codeT_good : ∀ (t : Tr) (b : Nat),t.ok -> rsR t.flat -> ∀ i ∈ codeT t b,GoodI b (b + t.sz) i
  | .mk n ks,b,hok,hrs,i,hi => by
    simp only [Tr.ok] at hok
    simp only [Tr.flat] at hrs
    have hc := fun b => catT_good ks b hok.2 (fun n hn => hrs n (List.mem_cons_of_mem _ hn))
    obtain ⟨_,hq⟩ := hok.1
    simp only [codeT] at hi
    simp only [Tr.sz]
    by_cases q2 : n.op = 2
    · rw [if_pos q2] at hi
      simp only [List.mem_cons,List.not_mem_nil,or_false] at hi; subst hi; exact .inl ⟨rfl,rfl,rfl,hrs n (List.mem_cons_self ..) q2⟩
    rw [if_neg q2] at hi
    by_cases q7 : n.op = 7
    · rw [if_pos q7] at hi
      simp only [List.mem_cons,List.not_mem_nil,or_false] at hi; subst hi; exact .inr (.inr (.inr (.inr ⟨.inl rfl,rfl,rfl,rfl⟩)))
    rw [if_neg q7] at hi
    by_cases q8 : n.op = 8
    · rw [if_pos q8] at hi
      simp only [List.mem_cons,List.not_mem_nil,or_false] at hi; subst hi; exact .inr (.inr (.inr (.inr ⟨.inr rfl,rfl,rfl,rfl⟩)))
    rw [if_neg q8] at hi
    have hz : ∀ s k,nodSz n s k = if n.op = 4 then s + 2 * (k - 1) else if n.op = 6 then s + 2 else if n.op = 5 then (if n.mx = -1 then n.mn.toNat * s + s + 2 else n.mn.toNat * s + (n.mx.toNat - n.mn.toNat) * (s + 1)) else s := by
      intro s k; unfold nodSz; rw [if_neg (by omega)]
    by_cases q3 : n.op = 3
    · rw [if_pos q3] at hi
      rw [hz,if_neg (by omega),if_neg (by omega),if_neg (by omega)]
      exact hc b i hi
    rw [if_neg q3] at hi
    by_cases q4 : n.op = 4
    · rw [if_pos q4] at hi
      have hz4 : nodSz n ks.sz ks.len = ks.sz + 2 * (ks.len - 1) := by rw [hz,if_pos q4]
      rw [hz4] at hi ⊢
      exact altT_good ks b (b + (ks.sz + 2 * (ks.len - 1))) hok.2 (fun n hn => hrs n (List.mem_cons_of_mem _ hn)) (Nat.le_refl _) i hi
    rw [if_neg q4] at hi
    by_cases q5 : n.op = 5
    · rw [if_pos q5] at hi
      rw [hz,if_neg q4,if_neg (by omega),if_pos q5]
      unfold rptC at hi
      by_cases qx : n.mx = -1
      · rw [if_pos qx] at hi ⊢
        rcases List.mem_append.1 hi with hi | hi
        · exact (repC_good hc _ _ i hi).mono (Nat.le_refl _) (by omega)
        · rcases List.mem_cons.1 hi with rfl | hi
          · exact GoodI.sp (by omega) (by omega)
          · rcases List.mem_append.1 hi with hi | hi
            · exact (hc _ i hi).mono (by omega) (by omega)
            · simp only [List.mem_cons,List.not_mem_nil,or_false] at hi; subst hi; exact GoodI.jp (by omega)
      · rw [if_neg qx] at hi ⊢
        rcases List.mem_append.1 hi with hi | hi
        · exact (repC_good hc _ _ i hi).mono (Nat.le_refl _) (by omega)
        · exact optC_good (fun s h1 h2 => GoodI.sp (by omega) (by omega)) hc _ _ (by omega) (by omega) i hi
    rw [if_neg q5] at hi
    by_cases q6 : n.op = 6
    · rw [if_pos q6] at hi
      rw [hz,if_neg q4,if_pos q6]
      rcases List.mem_cons.1 hi with rfl | hi
      · exact GoodI.save (by omega)
      · rcases List.mem_append.1 hi with hi | hi
        · exact (hc _ i hi).mono (by omega) (by omega)
        · simp only [List.mem_cons,List.not_mem_nil,or_false] at hi; subst hi; exact GoodI.save (by omega)
    · rw [if_neg q6] at hi; cases hi
theorem catT_good : ∀ (ts : Trs) (b : Nat),ts.ok -> rsR ts.flat -> ∀ i ∈ catT ts b,GoodI b (b + ts.sz) i
  | .nil,b,_,_,i,hi => by simp [catT] at hi
  | .cons t ts,b,hok,hrs,i,hi => by
    simp only [Trs.ok] at hok
    simp only [Trs.flat] at hrs
    simp only [catT] at hi
    simp only [Trs.sz]
    rcases List.mem_append.1 hi with hi | hi
    · exact (codeT_good t b hok.1 (fun n hn => hrs n (List.mem_append_left _ hn)) i hi).mono (Nat.le_refl _) (by omega)
    · exact (catT_good ts _ hok.2 (fun n hn => hrs n (List.mem_append_right _ hn)) i hi).mono (by omega) (by omega)
theorem altT_good : ∀ (ts : Trs) (b e : Nat),ts.ok -> rsR ts.flat -> b + (ts.sz + 2 * (ts.len - 1)) <= e -> ∀ i ∈ altT (jpI e) ts b,GoodI b e i
  | .nil,b,e,_,_,_,i,hi => by simp [altT] at hi
  | .cons t ts,b,e,hok,hrs,he,i,hi => by
    simp only [Trs.ok] at hok
    simp only [Trs.flat] at hrs
    simp only [altT] at hi
    simp only [Trs.sz,Trs.len] at he
    have h1 : rsR t.flat := fun n hn => hrs n (List.mem_append_left _ hn)
    have h2 : rsR ts.flat := fun n hn => hrs n (List.mem_append_right _ hn)
    by_cases q : ts.len = 0
    · rw [if_pos q] at hi
      exact (codeT_good t b hok.1 h1 i hi).mono (Nat.le_refl _) (by omega)
    · rw [if_neg q] at hi
      rcases List.mem_cons.1 hi with rfl | hi
      · exact GoodI.sp (by omega) (by omega)
      · rcases List.mem_append.1 hi with hi | hi
        · exact (codeT_good t _ hok.1 h1 i hi).mono (by omega) (by omega)
        · rcases List.mem_cons.1 hi with rfl | hi
          · exact GoodI.jp (by omega)
          · exact (altT_good ts _ e hok.2 h2 (by omega) i hi).mono (by omega) (by omega)
end
inductive Path (C : List PIns) : Nat -> Nat -> Prop where
  | refl (u : Nat) : Path C u u
  | step {u v w : Nat} {i : PIns} (h : C[u]? = some i) (hn : (v : Int) ∈ nextS u i) (p : Path C v w) : Path C u w
theorem Path.trans {C : List PIns} {u v w : Nat} (h : Path C u v) (g : Path C v w) : Path C u w := by
  induction h with
  | refl => exact g
  | step h hn _ ih => exact .step h hn (ih g)
theorem Path.fall {C : List PIns} {u : Nat} {i : PIns} (h : C[u]? = some i) (ho : i.op ≠ 2 /\ i.op ≠ 3 /\ i.op ≠ 7) : Path C u (u + 1) :=
  .step h (by unfold nextS; rw [if_neg ho.1,if_neg ho.2.1,if_neg ho.2.2]; exact List.mem_cons_self ..) (.refl _)
theorem Path.jp {C : List PIns} {u e : Nat} (h : C[u]? = some (jpI e)) : Path C u e :=
  .step h (by show (e : Int) ∈ nextS u (mkI 3 (e : Nat) 0 []); unfold nextS; rw [if_neg (show ¬ (mkI 3 (e : Nat) 0 []).op = 2 by show ¬ (3 : Int) = 2; decide),if_pos (show (mkI 3 (e : Nat) 0 []).op = 3 from rfl)]; exact List.mem_cons_self ..) (.refl _)
theorem Path.sp {C : List PIns} {u s o : Nat} {lz : Bool} (h : C[u]? = some (spI s o lz)) : Path C u (s + 1) /\ Path C u o := by
  have hn : nextS u (spI s o lz) = [(spI s o lz).x,(spI s o lz).y] := by
    unfold nextS
    rw [if_pos (by cases lz <;> rfl)]
  cases lz
  · exact ⟨.step h (by rw [hn]; exact List.mem_cons_self ..) (.refl _), .step h (by rw [hn]; exact List.mem_cons_of_mem _ (List.mem_cons_self ..)) (.refl _)⟩
  · exact ⟨.step h (by rw [hn]; exact List.mem_cons_of_mem _ (List.mem_cons_self ..)) (.refl _), .step h (by rw [hn]; exact List.mem_cons_self ..) (.refl _)⟩
theorem repC_path {C : List PIns} {c : Nat -> List PIns} {z : Nat} (hl : ∀ b,(c b).length = z) (hc : ∀ b,Seg C b (c b) -> Path C b (b + z)) : ∀ k b,Seg C b (repC c z k b) -> Path C b (b + k * z)
  | 0,b,_ => by rw [Nat.zero_mul]; exact .refl _
  | k + 1,b,h => by
    rw [repC] at h
    have h2 := h.right
    rw [hl] at h2
    have := repC_path hl hc k (b + z) h2
    rw [Nat.succ_mul,show b + (k * z + z) = b + z + k * z by omega]
    exact (hc b h.left).trans this
theorem code_path {C : List PIns} : ∀ (m : Nat) (t : Tr),t.flat.length <= m -> ∀ b : Nat,t.ok -> Seg C b (codeT t b) -> Path C b (b + t.sz) := by
  intro m
  induction m with
  | zero => intro t h; have := t.flat_pos; omega
  | succ m ih =>
    rintro ⟨n,ks⟩ hm b hok h
    simp only [Tr.flat,List.length_cons] at hm
    simp only [Tr.ok] at hok
    have hcat : ∀ (ts : Trs) (b : Nat),ts.flat.length <= m -> ts.ok -> Seg C b (catT ts b) -> Path C b (b + ts.sz) := by
      intro ts
      induction ts using Trs.rec (motive_1 := fun _ => True) with
      | mk => trivial
      | nil => intro b _ _ _; exact .refl _
      | cons t ts _ ih2 =>
        intro b h1 h2 h3
        simp only [Trs.flat,List.length_append] at h1
        simp only [Trs.ok] at h2
        simp only [catT] at h3
        have h4 := h3.right
        rw [codeT_len t b h2.1] at h4
        have h5 := ih2 (b + t.sz) (by omega) h2.2 h4
        simp only [Trs.sz]
        rw [<- Nat.add_assoc]
        exact (ih t (by omega) b h2.1 h3.left).trans h5
    obtain ⟨hno,hks⟩ := hok
    obtain ⟨_,hq⟩ := hno
    have hkl := fun b => catT_len ks b hks
    simp only [codeT] at h
    simp only [Tr.sz]
    have hz : ∀ s k,nodSz n s k = if n.op = 2 \/ n.op = 7 \/ n.op = 8 then 1 else if n.op = 4 then s + 2 * (k - 1) else if n.op = 6 then s + 2 else if n.op = 5 then (if n.mx = -1 then n.mn.toNat * s + s + 2 else n.mn.toNat * s + (n.mx.toNat - n.mn.toNat) * (s + 1)) else s := fun s k => rfl
    rw [hz]
    by_cases q2 : n.op = 2
    · rw [if_pos q2] at h
      rw [if_pos (.inl q2)]
      exact Path.fall h.head (by show (1 : Int) ≠ 2 /\ (1 : Int) ≠ 3 /\ (1 : Int) ≠ 7; decide)
    rw [if_neg q2] at h
    by_cases q7 : n.op = 7
    · rw [if_pos q7] at h
      rw [if_pos (.inr (.inl q7))]
      exact Path.fall h.head (by show (5 : Int) ≠ 2 /\ (5 : Int) ≠ 3 /\ (5 : Int) ≠ 7; decide)
    rw [if_neg q7] at h
    by_cases q8 : n.op = 8
    · rw [if_pos q8] at h
      rw [if_pos (.inr (.inr q8))]
      exact Path.fall h.head (by show (6 : Int) ≠ 2 /\ (6 : Int) ≠ 3 /\ (6 : Int) ≠ 7; decide)
    rw [if_neg q8] at h
    rw [if_neg (by omega)]
    by_cases q3 : n.op = 3
    · rw [if_pos q3] at h
      rw [if_neg (by omega),if_neg (by omega),if_neg (by omega)]
      exact hcat ks b (by omega) hks h
    rw [if_neg q3] at h
    by_cases q4 : n.op = 4
    · rw [if_pos q4] at h
      have hz4 : nodSz n ks.sz ks.len = ks.sz + 2 * (ks.len - 1) := by rw [hz,if_neg (by omega),if_pos q4]
      rw [hz4] at h
      rw [if_pos q4]
      cases ks with
      | nil => simp only [Trs.len] at hq; omega
      | cons t ts =>
        simp only [Trs.len] at hq
        simp only [Trs.flat,List.length_append] at hm
        simp only [Trs.ok] at hks
        simp only [altT] at h
        rw [if_neg (by omega)] at h
        have h1 := (Path.sp h.head).1
        have h2 := ih t (by omega) (b + 1) hks.1 h.tail.left
        have h3 := h.tail.right
        rw [codeT_len t _ hks.1] at h3
        exact h1.trans (h2.trans (Path.jp h3.head))
    rw [if_neg q4] at h
    rw [if_neg q4]
    by_cases q5 : n.op = 5
    · rw [if_pos q5] at h
      rw [if_neg (by omega),if_pos q5]
      unfold rptC at h
      by_cases qx : n.mx = -1
      · rw [if_pos qx] at h ⊢
        have h1 := repC_path hkl (fun b hb => hcat ks b (by omega) hks hb) _ _ h.left
        have h2 := h.right
        rw [repC_len hkl] at h2
        have h3 := (Path.sp h2.head).2
        rw [show b + (n.mn.toNat * ks.sz + ks.sz + 2) = b + n.mn.toNat * ks.sz + ks.sz + 2 by omega]
        exact h1.trans h3
      · rw [if_neg qx] at h ⊢
        have h1 := repC_path hkl (fun b hb => hcat ks b (by omega) hks hb) _ _ h.left
        have h2 := h.right
        rw [repC_len hkl] at h2
        by_cases hd : n.mx.toNat - n.mn.toNat = 0
        · rw [hd,Nat.zero_mul,Nat.add_zero]; exact h1
        · obtain ⟨d,hd2⟩ : ∃ d,n.mx.toNat - n.mn.toNat = d + 1 := ⟨n.mx.toNat - n.mn.toNat - 1,by omega⟩
          rw [hd2] at h2 ⊢
          rw [optC] at h2
          have h3 := (Path.sp h2.head).2
          rw [<- Nat.add_assoc]
          exact h1.trans h3
    rw [if_neg q5] at h
    by_cases q6 : n.op = 6
    · rw [if_pos q6] at h
      rw [if_pos q6]
      have h1 : Path C b (b + 1) := Path.fall h.head (by show (4 : Int) ≠ 2 /\ (4 : Int) ≠ 3 /\ (4 : Int) ≠ 7; decide)
      have h2 := hcat ks (b + 1) (by omega) hks h.tail.left
      have h3 := h.tail.right
      rw [hkl] at h3
      have h4 : Path C (b + 1 + ks.sz) (b + 1 + ks.sz + 1) := Path.fall h3.head (by show (4 : Int) ≠ 2 /\ (4 : Int) ≠ 3 /\ (4 : Int) ≠ 7; decide)
      rw [show b + (ks.sz + 2) = b + 1 + ks.sz + 1 by omega]
      exact h1.trans (h2.trans h4)
    · have hk0 : ks.len = 0 := by omega
      have := Trs.len_nil hk0
      subst this
      rw [if_neg q6,if_neg q5]
      exact .refl _
theorem dfs_in {code : List PIns} {I : Nat -> Prop} (hI : ∀ u i,I u -> code[u]? = some i -> ∀ v ∈ nextS u i,I v.toNat) : ∀ (f : Nat) (seen : List Bool) (stk : List Int),(∀ v ∈ stk,I v.toNat) -> (∀ u : Nat,seen[u]? = some true -> I u) -> ∀ u : Nat,(dfs code f seen stk)[u]? = some true -> I u
  | 0,seen,stk,_,h2,u,h => h2 u h
  | f + 1,seen, [],_,h2,u,h => h2 u h
  | f + 1,seen,v :: stk,h1,h2,u,h => by
    have hv := h1 v (List.mem_cons_self ..)
    have hs : ∀ w ∈ stk,I w.toNat := fun w hw => h1 w (List.mem_cons_of_mem _ hw)
    unfold dfs at h
    split at h
    · split at h
      · rename_i i hi
        refine dfs_in hI f _ _ (fun w hw => ?_) (fun w hw => ?_) u h
        · rcases List.mem_append.1 hw with hw | hw
          · exact hI _ i hv hi w (List.mem_reverse.1 hw)
          · exact hs w hw
        · by_cases he : v.toNat = w
          · rw [<- he]; exact hv
          · rw [List.getElem?_set_ne he] at hw; exact h2 w hw
      · exact h2 u h
    · exact dfs_in hI f _ _ hs h2 u h
theorem path_seen {code : List PIns} {start : Int} (hcl : closedS code) (hst : 0 <= start /\ start < (code.length : Int)) {u v : Nat} (p : Path code u v) : (reachS code start)[u]? = some true -> (reachS code start)[v]? = some true := by
  obtain ⟨ha,_,_,_⟩ := reach_ok hcl hst
  induction p with
  | refl => exact id
  | @step u v w i h hn _ ih =>
    intro hu
    refine ih ?_
    rcases ha u i hu h _ hn with hs | hs
    · exact seen_nat.2 hs
    · cases hs
theorem reach_start {code : List PIns} {s : Nat} (hcl : closedS code) (hs : s < code.length) : (reachS code (s : Nat))[s]? = some true := by
  obtain ⟨_,_,_,hd⟩ := reach_ok (start := ((s : Nat) : Int)) hcl ⟨by omega,by omega⟩
  rcases hd with hd | hd
  · exact seen_nat.2 hd
  · cases hd
mutual
theorem Tr.noop : ∀ t : Tr,True
  | .mk _ _ => trivial
theorem Trs.noop : ∀ t : Trs,True
  | .nil => trivial
  | .cons _ _ => trivial
end
theorem shape_rs {n : Nod} {g : Int} (h : (shapeN n g).2 = true) (h2 : n.op = 2) : rightS n.rs = true := by
  unfold shapeN at h
  split at h
  · cases h
  · rw [if_neg (show ¬ (n.op = 1 \/ n.op = 7 \/ n.op = 8) by omega)] at h
    have h : (n.kids == 0 && rightS n.rs) = true := h
    rw [Bool.and_eq_true] at h
    exact h.2
theorem kids_rs {l : List Nod} {h : Nat -> Nat -> Option (Nat × Nat)} (ih : ∀ at_ g r,h at_ g = some r -> at_ <= r.1 /\ ∀ j n,at_ <= j -> j < r.1 -> l[j]? = some n -> n.op = 2 -> rightS n.rs = true) : ∀ k at_ g r,kidsS h k at_ g = some r -> at_ <= r.1 /\ ∀ j n,at_ <= j -> j < r.1 -> l[j]? = some n -> n.op = 2 -> rightS n.rs = true
  | 0,at_,g,r,e => by
    simp only [kidsS,Option.some.injEq] at e
    subst e
    exact ⟨Nat.le_refl _,fun j n h1 h2 => by simp only at h2; omega⟩
  | k + 1,at_,g,r,e => by
    unfold kidsS at e
    cases hq : h at_ g with
    | none => rw [hq] at e; cases e
    | some q =>
      rw [hq] at e
      obtain ⟨t1,t2⟩ := ih _ _ _ hq
      obtain ⟨u1,u2⟩ := kids_rs ih k _ _ _ e
      refine ⟨Nat.le_trans t1 u1,fun j n h1 h2 hj ho => ?_⟩
      by_cases hjq : j < q.1
      · exact t2 j n h1 hjq hj ho
      · exact u2 j n (by omega) h2 hj ho
theorem one_rs {l : List Nod} : ∀ f at_ g r,oneW l f at_ g = some r -> at_ <= r.1 /\ ∀ j n,at_ <= j -> j < r.1 -> l[j]? = some n -> n.op = 2 -> rightS n.rs = true
  | 0,_,_,_,e => by simp [oneW] at e
  | f + 1,at_,g,r,e => by
    unfold oneW at e
    cases hn : l[at_]? with
    | none => rw [hn] at e; cases e
    | some n =>
      rw [hn] at e
      simp only at e
      split at e
      · rename_i hs
        obtain ⟨u1,u2⟩ := kids_rs (one_rs f) _ _ _ _ e
        refine ⟨by omega,fun j m h1 h2 hj ho => ?_⟩
        by_cases hja : j = at_
        · subst hja
          rw [hn] at hj
          cases hj
          exact shape_rs hs ho
        · exact u2 j m (by omega) h2 hj ho
      · cases e
theorem right_rs {l : List Nod} (h : rightN l = true) : rsR l := by
  unfold rightN at h
  simp only [Bool.and_eq_true] at h
  obtain ⟨_,h⟩ := h
  split at h
  · rename_i r hr
    rw [decide_eq_true_eq] at h
    obtain ⟨_,h2⟩ := one_rs _ _ _ _ hr
    intro n hn ho
    obtain ⟨j,hj⟩ := List.getElem?_of_mem hn
    exact h2 j n (Nat.zero_le _) (by rw [h]; exact lt_get hj) hj ho
  · cases h
structure RulesQ (n0 r0 : Nat) (C : List PIns) (B : List Int) (k : Nat) : Prop where
  bl : B.length = k
  fs : 0 < k -> B[0]? = some ((n0 : Nat) : Int)
  el : ∀ j,j < k -> ∃ (t : Tr) (b : Nat),t.ok /\ rsR t.flat /\ B[j]? = some (b : Int) /\ n0 <= b /\ (∀ b' : Int,B[j + 1]? = some b' -> b' = ((b + t.sz + 3 : Nat) : Int)) /\ (j + 1 = k -> n0 + C.length = b + t.sz + 3) /\ ∃ pre post,C = pre ++ ruleC t b (r0 + j) ++ post /\ n0 + pre.length = b
  al : ∀ i q,C[i]? = some q -> ∃ j,j < k /\ ∃ (t : Tr) (b : Nat),B[j]? = some (b : Int) /\ t.ok /\ rsR t.flat /\ b <= n0 + i /\ n0 + i < b + t.sz + 3 /\ b + t.sz + 3 <= n0 + C.length /\ q ∈ ruleC t b (r0 + j) /\ (ruleC t b (r0 + j))[n0 + i - b]? = some q
theorem compS_spec : ∀ (ls : List (List Nod)) (r : Nat) (c : List PIns) (s : List Int),(compS ls r c s).e = 0 -> ∃ C B,(compS ls r c s).code = c ++ C /\ (compS ls r c s).starts = s ++ B /\ RulesQ c.length r C B ls.length
  | [],r,c,s,h => by
    rw [compS_nil']
    exact ⟨[], [],by simp,by simp,rfl,fun h => by simp at h,fun j hj => by simp at hj,fun i q hi => by simp at hi⟩
  | l :: ls,r,c,s,h => by
    rw [compS] at h ⊢
    by_cases hr : rightN l = false
    · rw [if_pos hr] at h; cases h
    rw [if_neg hr] at h ⊢
    rw [Bool.not_eq_false] at hr
    by_cases hb : 400 < c.length + min (treeN l).sz 401 + 3
    · rw [if_pos hb] at h; cases h
    rw [if_neg hb] at h ⊢
    obtain ⟨t1,t2⟩ := tree_is hr
    have hrs : rsR (treeN l).flat := by rw [t2]; exact right_rs hr
    have hlen := ruleC_len (b := c.length) (r := r) t1
    obtain ⟨C,B,h1,h2,h3⟩ := compS_spec ls (r + 1) _ _ h
    rw [List.length_append,hlen] at h3
    refine ⟨ruleC (treeN l) c.length r ++ C,((c.length : Nat) : Int) :: B,by rw [h1,List.append_assoc],by rw [h2,List.append_assoc]; rfl,by simp [h3.bl],fun _ => rfl,fun j hj => ?_,fun i q hi => ?_⟩
    · cases j with
      | zero =>
        refine ⟨treeN l,c.length,t1,hrs,rfl,Nat.le_refl _,fun b' hb' => ?_,fun hj1 => ?_, [],C,by simp,by simp⟩
        · simp only [Nat.zero_add,List.getElem?_cons_succ] at hb'
          have hB := h3.bl
          have hlt := lt_get hb'
          rw [h3.fs (by omega)] at hb'
          cases hb'
          congr 1
        · simp only [List.length_cons] at hj1
          have hl0 : ls.length = 0 := by omega
          have hC : C = [] := by
            cases hc : C with
            | nil => rfl
            | cons q C' =>
              obtain ⟨j,hj,_⟩ := h3.al 0 q (by rw [hc]; rfl)
              omega
          rw [hC,List.append_nil,hlen]; omega
      | succ j =>
        simp only [List.length_cons] at hj
        obtain ⟨t,b,q1,q2,q3,q4,q5,q6,pre,post,q7,q8⟩ := h3.el j (by omega)
        refine ⟨t,b,q1,q2,q3,by omega,q5,fun hj1 => ?_,ruleC (treeN l) c.length r ++ pre,post,?_,?_⟩
        · simp only [List.length_cons] at hj1
          have := q6 (by omega)
          rw [List.length_append,hlen]; omega
        · rw [q7,show r + 1 + j = r + (j + 1) by omega]; simp only [List.append_assoc]
        · rw [List.length_append,hlen]; omega
    · by_cases hil : i < (ruleC (treeN l) c.length r).length
      · rw [List.getElem?_append_left hil] at hi
        refine ⟨0,by simp,treeN l,c.length,rfl,t1,hrs,by omega,by omega,by rw [List.length_append,hlen]; omega,List.mem_of_getElem? hi,?_⟩
        rw [show c.length + i - c.length = i by omega]; exact hi
      · rw [List.getElem?_append_right (by omega)] at hi
        obtain ⟨j,q1,t,b,q2,q3,q4,q5,q6,q7,q8,q9⟩ := h3.al _ q hi
        rw [hlen] at q5 q6 q9 hil
        refine ⟨j + 1,by simp only [List.length_cons]; omega,t,b,q2,q3,q4,by omega,by omega,by rw [List.length_append,hlen]; omega,by rw [show r + (j + 1) = r + 1 + j by omega]; exact q8,?_⟩
        rw [show r + (j + 1) = r + 1 + j by omega,show c.length + i - b = c.length + ((treeN l).sz + 3) + (i - ((treeN l).sz + 3)) - b by omega]
        exact q9
theorem good_next {lo hi u : Nat} {i : PIns} (h : GoodI lo hi i) (h1 : lo <= u + 1) (h2 : u + 1 <= hi) : ∀ v ∈ nextS u i,(lo : Int) <= v /\ v <= hi := by
  intro v hv
  unfold nextS at hv
  rcases h with ⟨a,_⟩ | ⟨a,_,c,d⟩ | ⟨a,_,_,d⟩ | ⟨a,_⟩ | ⟨a,_⟩
  · rw [if_neg (by omega),if_neg (by omega),if_neg (by omega)] at hv
    simp only [List.mem_cons,List.not_mem_nil,or_false] at hv; omega
  · rw [if_pos a] at hv
    simp only [List.mem_cons,List.not_mem_nil,or_false] at hv
    rcases hv with rfl | rfl <;> omega
  · rw [if_neg (by omega),if_pos a] at hv
    simp only [List.mem_cons,List.not_mem_nil,or_false] at hv; omega
  · rw [if_neg (by omega),if_neg (by omega),if_neg (by omega)] at hv
    simp only [List.mem_cons,List.not_mem_nil,or_false] at hv; omega
  · rw [if_neg (by omega),if_neg (by omega),if_neg (by omega)] at hv
    simp only [List.mem_cons,List.not_mem_nil,or_false] at hv; omega
theorem good_shaped {lo hi n ns pc : Nat} {i : PIns} (h : GoodI lo hi i) (h1 : hi < n) (h2 : pc + 1 < n) : shapedS n ns pc i = true := by
  have hin : ∀ v : Int,(lo : Int) <= v -> v <= hi -> inS v n = true := fun v a b => inS_iff.2 ⟨by omega,by omega⟩
  have hd : decide (((pc + 1 : Nat) : Int) < n) = true := by rw [decide_eq_true_eq]; omega
  unfold shapedS
  rcases h with ⟨a,b,c,d⟩ | ⟨a,b,c,d⟩ | ⟨a,b,c,d⟩ | ⟨a,b,c,d⟩ | ⟨a,b,c,d⟩
  · rw [if_pos a,hd,b,c,d]; rfl
  · rw [if_neg (by omega),if_pos a,b,hin _ c.1 c.2,hin _ d.1 d.2]; rfl
  · rw [if_neg (by omega),if_neg (by omega),if_pos a,b,c,hin _ d.1 d.2]; rfl
  · rw [if_neg (by omega),if_neg (by omega),if_neg (by omega),if_pos a,b,c,hd,inS_iff.2 ⟨d.1,d.2⟩]; rfl
  · rw [if_neg (by omega),if_neg (by omega),if_neg (by omega),if_neg (by omega),if_pos a,b,c,hd,d]; rfl
theorem rule_good {t : Tr} {b r o : Nat} {q : PIns} (h1 : t.ok) (h2 : rsR t.flat) (h : (ruleC t b r)[o]? = some q) : (o < t.sz + 2 /\ GoodI b (b + t.sz + 2) q) \/ (o = t.sz + 2 /\ q = mkI 7 (r : Nat) 0 []) := by
  have hl := codeT_len t (b + 1) h1
  have hA : ruleC t b r = (mkI 4 0 0 [] :: (codeT t (b + 1) ++ [mkI 4 1 0 []])) ++ [mkI 7 (r : Nat) 0 []] := by unfold ruleC; simp
  have hAl : (mkI 4 0 0 [] :: (codeT t (b + 1) ++ [mkI 4 1 0 []])).length = t.sz + 2 := by simp [hl]
  rw [hA] at h
  by_cases ho : o < t.sz + 2
  · rw [List.getElem?_append_left (by omega)] at h
    refine .inl ⟨ho,?_⟩
    have hm := List.mem_of_getElem? h
    rcases List.mem_cons.1 hm with rfl | hm
    · exact GoodI.save (by omega)
    · rcases List.mem_append.1 hm with hm | hm
      · exact (codeT_good t (b + 1) h1 h2 q hm).mono (by omega) (by omega)
      · simp only [List.mem_cons,List.not_mem_nil,or_false] at hm; subst hm; exact GoodI.save (by omega)
  · rw [List.getElem?_append_right (by omega),hAl] at h
    have h0 := lt_get h
    simp only [List.length_cons,List.length_nil] at h0
    have ho2 : o = t.sz + 2 := by omega
    refine .inr ⟨ho2,?_⟩
    rw [ho2,Nat.sub_self] at h
    exact (Option.some.inj h).symm
structure RuleQ (p : Pg) (r s e : Nat) : Prop where
  st : p.starts[r]? = some (s : Int)
  se : s < e
  el : e <= p.code.length
  nx : ∀ b' : Int,p.starts[r + 1]? = some b' -> b' = (e : Int)
  la : r + 1 = p.starts.length -> p.code.length = e
  mt : p.code[e - 1]? = some (mkI 7 (r : Nat) 0 [])
  fi : (reachN p (r : Nat))[0]? = some (s : Int)
  lt : (reachN p (r : Nat))[(reachN p (r : Nat)).length - 1]? = some ((e - 1 : Nat) : Int)
theorem rise_ends {X : List Int} {a b : Int} (hp : X.Pairwise (· < ·)) (ha : a ∈ X) (hb : b ∈ X) (h : ∀ v ∈ X,a <= v /\ v <= b) : X[0]? = some a /\ X[X.length - 1]? = some b := by
  obtain ⟨i,hi⟩ := List.getElem?_of_mem ha
  obtain ⟨j,hj⟩ := List.getElem?_of_mem hb
  have hil := lt_get hi
  have hjl := lt_get hj
  have hlt : ∀ u v (x y : Int),u < v -> X[u]? = some x -> X[v]? = some y -> x < y := fun u v x y huv hx hy => by
    have := List.pairwise_iff_getElem.1 hp u v (lt_get hx) (lt_get hy) huv
    have ex : X[u]'(lt_get hx) = x := Option.some.inj ((List.getElem?_eq_getElem _).symm.trans hx)
    have ey : X[v]'(lt_get hy) = y := Option.some.inj ((List.getElem?_eq_getElem _).symm.trans hy)
    rw [ex,ey] at this; exact this
  constructor
  · obtain ⟨x,hx⟩ : ∃ x,X[0]? = some x := ⟨X[0]'(by omega),List.getElem?_eq_getElem _⟩
    have := h x (List.mem_of_getElem? hx)
    by_cases h0 : i = 0
    · rw [<- h0]; exact hi
    · have := hlt 0 i x a (by omega) hx hi
      omega
  · obtain ⟨x,hx⟩ : ∃ x,X[X.length - 1]? = some x := ⟨X[X.length - 1]'(by omega),List.getElem?_eq_getElem _⟩
    have := h x (List.mem_of_getElem? hx)
    by_cases h0 : j = X.length - 1
    · rw [<- h0]; exact hj
    · have := hlt j (X.length - 1) b x (by omega) hj hx
      omega
theorem made_right {parts : List (List Nod)} (hl : parts.length <= 8) (he : (compileS parts).e = 0) (hcl : (compileS parts).code.length <= 400) :
    RightQ (pgV (compileS parts).code (compileS parts).starts) /\ (compileS parts).starts.length = parts.length /\ ∀ r,r < parts.length -> ∃ s e,RuleQ (pgV (compileS parts).code (compileS parts).starts) r s e := by
  have hcs : compileS parts = compS parts 0 [] [] := by unfold compileS; rw [if_neg (by omega)]
  rw [hcs] at he hcl ⊢
  obtain ⟨C,B,h1,h2,h3⟩ := compS_spec parts 0 [] [] he
  simp only [List.nil_append] at h1 h2
  simp only [List.length_nil] at h3
  rw [h1] at hcl
  rw [h1,h2]
  have hBl := h3.bl
  have hsh : ∀ pc i,C[pc]? = some i -> shapedS C.length B.length pc i = true := by
    intro pc i hi
    obtain ⟨j,q1,t,b,q2,q3,q4,q5,q6,q7,q8,q9⟩ := h3.al pc i hi
    rw [Nat.zero_add] at q9
    rcases rule_good q3 q4 q9 with ⟨g1,g2⟩ | ⟨g1,g2⟩
    · exact good_shaped g2 (by omega) (by omega)
    · rw [g2]
      have : inS ((j : Nat) : Int) B.length = true := inS_iff.2 ⟨by omega,by omega⟩
      unfold shapedS mkI
      simp [this]
  have hclo : closedS C := closed_of (p := pgV C B) hsh
  have hrule : ∀ r,r < parts.length -> ∃ s e : Nat,B[r]? = some (s : Int) /\ s < e /\ e <= C.length /\ (∀ b' : Int,B[r + 1]? = some b' -> b' = (e : Int)) /\ (r + 1 = parts.length -> C.length = e) /\ C[e - 1]? = some (mkI 7 (r : Nat) 0 []) /\ (∀ u : Nat,(reachS C (s : Nat))[u]? = some true -> s <= u /\ u < e) /\ (reachS C (s : Nat))[s]? = some true /\ (reachS C (s : Nat))[e - 1]? = some true /\ ∀ u i,s <= u -> u < e -> C[u]? = some i -> i.op = 7 -> i.x = (r : Int) := by
    intro r hr
    obtain ⟨t,b,q1,q2,q3,q4,q5,q6,pre,post,q7,q8⟩ := h3.el r hr
    rw [Nat.zero_add] at q6 q8
    rw [Nat.zero_add] at q7
    have hrl := ruleC_len (b := b) (r := r) q1
    have hCl : C.length = b + (t.sz + 3) + post.length := by rw [q7,List.length_append,List.length_append,hrl,q8]
    have hat : ∀ u,b <= u -> u < b + t.sz + 3 -> C[u]? = (ruleC t b r)[u - b]? := fun u g1 g2 => by
      rw [q7,List.append_assoc,List.getElem?_append_right (by omega),q8,List.getElem?_append_left (by omega)]
    have hseg : Seg C b (ruleC t b r) := ⟨post,by rw [q7,List.append_assoc, <- q8,List.drop_left]⟩
    have hin : ∀ u : Nat,(reachS C (b : Nat))[u]? = some true -> b <= u /\ u < b + t.sz + 3 := by
      unfold reachS
      refine dfs_in (I := fun u => b <= u /\ u < b + t.sz + 3) (fun u i hu hi v hv => ?_) _ _ _ (fun v hv => ?_) (fun u hu => ?_)
      · rw [hat u hu.1 hu.2] at hi
        rcases rule_good q1 q2 hi with ⟨g1,g2⟩ | ⟨g1,g2⟩
        · have := good_next (u := u) g2 (by omega) (by omega) v hv
          omega
        · rw [g2] at hv
          have : nextS u (mkI 7 (r : Nat) 0 []) = [] := by unfold nextS mkI; simp
          rw [this] at hv; cases hv
      · simp only [List.mem_cons,List.not_mem_nil,or_false] at hv; subst hv
        rw [Int.toNat_natCast]; omega
      · rw [List.getElem?_replicate] at hu
        split at hu <;> cases hu
    have hs := reach_start (s := b) hclo (by omega)
    have hmt : C[b + t.sz + 3 - 1]? = some (mkI 7 (r : Nat) 0 []) := by
      rw [hat _ (by omega) (by omega)]
      unfold ruleC
      have hl1 := codeT_len t (b + 1) q1
      rw [show b + t.sz + 3 - 1 - b = (t.sz + 1) + 1 by omega,List.getElem?_cons_succ,List.getElem?_append_right (by omega),hl1,show t.sz + 1 - t.sz = 1 by omega]
      rfl
    have hpath : Path C b (b + t.sz + 3 - 1) := by
      unfold ruleC at hseg
      have p1 : Path C b (b + 1) := Path.fall hseg.head (by show (4 : Int) ≠ 2 /\ (4 : Int) ≠ 3 /\ (4 : Int) ≠ 7; decide)
      have p2 := code_path (C := C) _ t (Nat.le_refl _) (b + 1) q1 hseg.tail.left
      have h4 := hseg.tail.right
      rw [codeT_len t _ q1] at h4
      have p3 : Path C (b + 1 + t.sz) (b + 1 + t.sz + 1) := Path.fall h4.head (by show (4 : Int) ≠ 2 /\ (4 : Int) ≠ 3 /\ (4 : Int) ≠ 7; decide)
      rw [show b + t.sz + 3 - 1 = b + 1 + t.sz + 1 by omega]
      exact p1.trans (p2.trans p3)
    refine ⟨b,b + t.sz + 3,q3,by omega,by omega,fun b' hb' => q5 b' hb',q6,hmt,hin,hs,path_seen hclo ⟨by omega,by omega⟩ hpath hs,fun u i g1 g2 hi ho => ?_⟩
    rw [hat u g1 g2] at hi
    rcases rule_good q1 q2 hi with ⟨_,g3⟩ | ⟨_,g3⟩
    · rcases g3 with ⟨a,_⟩ | ⟨a,_⟩ | ⟨a,_⟩ | ⟨a,_⟩ | ⟨a,_⟩ <;> omega
    · rw [g3]; rfl
  have hR : RightQ (pgV C B) := by
    refine ⟨hcl,by show B.length <= 8; omega,hsh,fun v hv => ?_,fun r s hs pc i hpc hseen hi ho => ?_⟩
    · obtain ⟨r,hr⟩ := List.getElem?_of_mem (show v ∈ B from hv)
      obtain ⟨s,e,g1,g2,g3,_⟩ := hrule r (by rw [<- hBl]; exact lt_get hr)
      rw [g1] at hr
      cases hr
      show (0 : Int) <= (s : Int) /\ (s : Int) < (C.length : Int)
      omega
    · have hs : B[r]? = some s := hs
      obtain ⟨s',e,g1,g2,g3,g4,g5,g6,g7,g8,g9,g10⟩ := hrule r (by rw [<- hBl]; exact lt_get hs)
      rw [g1] at hs
      cases hs
      obtain ⟨k1,k2⟩ := g7 pc hseen
      exact g10 pc i k1 k2 hi ho
  refine ⟨hR,by rw [hBl],fun r hr => ?_⟩
  obtain ⟨s,e,g1,g2,g3,g4,g5,g6,g7,g8,g9,g10⟩ := hrule r hr
  have hrn : reachN (pgV C B) (r : Nat) = numsS 0 (reachS C (s : Nat)) := by
    unfold reachN
    have hi : inS ((r : Nat) : Int) (pgV C B).starts.length = true := inS_iff.2 ⟨by omega,by show ((r : Nat) : Int) < (B.length : Nat); omega⟩
    rw [dec_yes hR,hi]
    have hgd : (pgV C B).starts.getD ((r : Nat) : Int).toNat 0 = (s : Int) := by
      rw [Int.toNat_natCast,List.getD_eq_getElem?_getD]
      show (B[r]?).getD 0 = _
      rw [g1]; rfl
    rw [hgd]; rfl
  have hends := rise_ends (nums_rise (reachS C (s : Nat)) 0) (a := (s : Int)) (b := ((e - 1 : Nat) : Int)) (nums_mem.2 ⟨s,g8,by rw [Nat.zero_add]⟩) (nums_mem.2 ⟨e - 1,g9,by rw [Nat.zero_add]⟩) (fun v hv => by
    obtain ⟨k,k1,k2⟩ := nums_mem.1 hv
    have := g7 k k1
    omega)
  exact ⟨s,e,g1,g2,g3,fun b' hb' => g4 b' hb',fun hr1 => g5 (by rw [<- hBl]; exact hr1),g6,by rw [hrn]; exact hends.1,by rw [hrn]; exact hends.2⟩
def Trs.app : Trs -> Trs -> Trs
  | .nil,us => us
  | .cons t ts,us => .cons t (ts.app us)
theorem app_flat : ∀ ts us : Trs,(ts.app us).flat = ts.flat ++ us.flat
  | .nil,us => rfl
  | .cons t ts,us => by simp only [Trs.app,Trs.flat,app_flat ts us,List.append_assoc]
theorem app_len : ∀ ts us : Trs,(ts.app us).len = ts.len + us.len
  | .nil,us => by simp [Trs.app,Trs.len]
  | .cons t ts,us => by simp only [Trs.app,Trs.len,app_len ts us]; omega
theorem app_ok : ∀ {ts us : Trs},ts.ok -> us.ok -> (ts.app us).ok
  | .nil,us,_,h => h
  | .cons t ts,us,h1,h2 => by
    simp only [Trs.ok] at h1
    simp only [Trs.app,Trs.ok]
    exact ⟨h1.1,app_ok h1.2 h2⟩
def altN (k : Nat) : Nod := mkNd 4 0 0 false 0 (k : Nat) []
def altR : Trs -> Tr
  | .cons t .nil => t
  | ks => .mk (altN ks.len) ks
theorem altR_two (t u : Tr) (us : Trs) : altR (.cons t (.cons u us)) = .mk (altN (us.len + 2)) (.cons t (.cons u us)) := rfl
theorem altR_ok : ∀ {ks : Trs},ks ≠ .nil -> ks.ok -> (altR ks).ok
  | .nil,h,_ => absurd rfl h
  | .cons t .nil,_,h => by simp only [Trs.ok] at h; exact h.1
  | .cons t (.cons u us),_,h => by
    rw [altR_two]
    simp only [Tr.ok]
    exact ⟨⟨rfl, .inr (.inr (.inl ⟨.inr rfl,by simp only [Trs.len]; omega⟩))⟩,h⟩
theorem altR_rs : ∀ {ks : Trs},ks ≠ .nil -> rsR ks.flat -> rsR (altR ks).flat
  | .nil,h,_ => absurd rfl h
  | .cons t .nil,_,h => by simp only [Trs.flat,List.append_nil] at h; exact h
  | .cons t (.cons u us),_,h => by
    rw [altR_two]
    simp only [Tr.flat]
    intro n hn ho
    rcases List.mem_cons.1 hn with rfl | hn
    · exact absurd ho (by show ¬ (4 : Int) = 2; decide)
    · exact h n hn ho
theorem altR_sz : ∀ {ks : Trs},ks ≠ .nil -> (altR ks).sz = ks.sz + 2 * (ks.len - 1)
  | .nil,h => absurd rfl h
  | .cons t .nil,_ => by show t.sz = _; simp [Trs.sz,Trs.len]
  | .cons t (.cons u us),_ => by
    rw [altR_two]
    simp only [Tr.sz]
    unfold nodSz
    simp [altN,mkNd]
theorem altR_code : ∀ {ks : Trs},ks ≠ .nil -> ∀ b,codeT (altR ks) b = altT (jpI (b + (altR ks).sz)) ks b
  | .nil,h,_ => absurd rfl h
  | .cons t .nil,_,b => by
    show codeT t b = _
    simp only [altT]
    rw [if_pos (show Trs.nil.len = 0 from rfl)]
  | .cons t (.cons u us),_,b => by
    rw [altR_two]
    simp only [codeT,Tr.sz]
    simp [altN,mkNd]
theorem altR_er : ∀ {us us' : Trs},us'.er = us.er -> (altR us').er = (altR us).er
  | .nil, .nil,_ => rfl
  | .nil, .cons _ _,h => by simp only [Trs.er] at h; cases h
  | .cons _ _, .nil,h => by simp only [Trs.er] at h; cases h
  | .cons u .nil, .cons t .nil,h => by
    simp only [Trs.er,Trs.cons.injEq] at h
    exact h.1
  | .cons u .nil, .cons t (.cons a b),h => by
    simp only [Trs.er,Trs.cons.injEq] at h
    cases h.2
  | .cons u (.cons c d), .cons t .nil,h => by
    simp only [Trs.er,Trs.cons.injEq] at h
    cases h.2
  | .cons u (.cons c d), .cons t (.cons a b),h => by
    have hl : b.len = d.len := by
      have h2 := h
      simp only [Trs.er,Trs.cons.injEq] at h2
      rw [<- er_len b, <- er_len d,h2.2.2]
    rw [altR_two,altR_two]
    simp only [Tr.er]
    rw [h,hl]
theorem sI_of {d : Nat} {i i' : PIns} (h : cI i' = cI i) (h0 : ∀ i,i = i' \/ i = i -> True) (hx : i.op = 2 \/ i.op = 3 -> 0 <= i.x) (hy : i.op = 2 -> 0 <= i.y) (hs : i.op = 4 -> 2 <= i.x.toNat) (hs' : i'.op = 4 -> 2 <= i'.x.toNat) : SI d i (shI d i') := by
  have ho : i'.op = i.op := by
    unfold cI at h
    split at h
    · rename_i h1
      split at h
      · rename_i h2; rw [h1,h2]
      · rw [<- h]; exact h1
    · rename_i h1
      split at h
      · rename_i h2; rw [h,h2]; rfl
      · rw [h]
  by_cases h4 : i.op = 4
  · have e : shI d i' = i' := by unfold shI; rw [if_neg (by omega),if_neg (by omega)]
    rw [e]
    exact ⟨ho,fun h => absurd h4 h,fun h => absurd h (by omega),fun h => absurd h (by omega),fun _ => ⟨hs h4,hs' (by omega)⟩⟩
  · have e : i' = i := by
      unfold cI at h
      rw [if_neg (by omega),if_neg h4] at h
      exact h
    subst e
    unfold shI
    by_cases h2 : i'.op = 2
    · rw [if_pos h2]
      have a := hx (.inl h2)
      have b := hy h2
      exact ⟨h2.symm,fun _ => rfl,fun _ => ⟨by simp only; omega,by simp only; omega⟩,fun h => absurd h (by omega),fun h => absurd h h4⟩
    rw [if_neg h2]
    by_cases h3 : i'.op = 3
    · rw [if_pos h3]
      have a := hx (.inr h3)
      exact ⟨h3.symm,fun _ => rfl,fun h => absurd h h2,fun _ => by simp only; omega,fun h => absurd h h4⟩
    rw [if_neg h3]
    exact ⟨rfl,fun _ => rfl,fun h => absurd h h2,fun h => absurd h h3,fun h => absurd h h4⟩
theorem save_ge {t : Tr} (h : t.ok) {b : Nat} : ∀ i ∈ codeT t b,i.op = 4 -> 2 <= i.x.toNat := by
  intro i hi ho
  obtain ⟨g,hg⟩ := codeT_lab t b (fun _ => False) h
  obtain ⟨j,hj⟩ := List.getElem?_of_mem hi
  obtain ⟨k,h1,h2⟩ := (hg.st j i hj).2.2 ho
  omega
theorem rule_get {t : Tr} (h : t.ok) (r : Nat) : (ruleC t 0 r)[0]? = some (mkI 4 0 0 []) /\ (∀ pc,1 <= pc -> pc <= t.sz -> (ruleC t 0 r)[pc]? = (codeT t 1)[pc - 1]?) /\ (ruleC t 0 r)[t.sz + 1]? = some (mkI 4 1 0 []) /\ (ruleC t 0 r)[t.sz + 2]? = some (mkI 7 (r : Nat) 0 []) := by
  have hl := codeT_len t 1 h
  unfold ruleC
  refine ⟨rfl,fun pc h1 h2 => ?_,?_,?_⟩
  · obtain ⟨q,rfl⟩ : ∃ q,pc = q + 1 := ⟨pc - 1,by omega⟩
    rw [List.getElem?_cons_succ,List.getElem?_append_left (by rw [hl]; omega)]
    rfl
  · rw [List.getElem?_cons_succ,List.getElem?_append_right (by rw [hl]; omega),hl,Nat.sub_self]; rfl
  · rw [List.getElem?_cons_succ,List.getElem?_append_right (by rw [hl]; omega),hl,show t.sz + 1 - t.sz = 1 by omega]; rfl
theorem part_of {t t' : Tr} (h : t.ok) (h' : t'.ok) (he : t'.er = t.er) {C3 : List PIns} {d : Nat} (hC : ∀ k,k < t.sz -> C3[1 + k + d]? = (codeT t' (1 + d))[k]?) : Part (ruleC t 0 0) C3 t.sz d 0 := by
  obtain ⟨g0,g1,g2,g3⟩ := rule_get h 0
  refine ⟨fun pc i h1 h2 hi => ?_,g0,g2,g3⟩
  rw [g1 pc h1 h2] at hi
  have hmem := List.mem_of_getElem? hi
  have hin := codeT_in t 1 h i hmem
  obtain ⟨a,b,c⟩ := hin
  have hce : (codeT t' 1).map cI = (codeT t 1).map cI := by rw [<- codeT_er, <- codeT_er,he]
  have hl := codeT_len t 1 h
  have hl' := codeT_len t' 1 h'
  have hz : t'.sz = t.sz := by rw [<- er_sz t', <- er_sz t,he]
  obtain ⟨i',hi'⟩ : ∃ i',(codeT t' 1)[pc - 1]? = some i' := ⟨(codeT t' 1)[pc - 1]'(by omega),List.getElem?_eq_getElem _⟩
  have e1 : cI i' = cI i := by
    have h3 : ((codeT t' 1).map cI)[pc - 1]? = some (cI i') := by rw [List.getElem?_map,hi']; rfl
    rw [hce,List.getElem?_map,hi] at h3
    exact (Option.some.inj h3).symm
  refine ⟨⟨a,fun h => ?_,fun h => ?_⟩,shI d i',?_,?_⟩
  · have := b h; omega
  · have := c h; omega
  · have h4 := hC (pc - 1) (by omega)
    rw [show 1 + (pc - 1) + d = pc + d by omega,codeT_sh,List.getElem?_map,hi'] at h4
    exact h4
  · refine sI_of e1 (fun _ _ => trivial) (fun h => ?_) (fun h => ?_) (fun h => save_ge (by assumption) i hmem h) (fun h => save_ge h' i' (List.mem_of_getElem? hi') h)
    · rcases h with h | h
      · have := b h; omega
      · have := c h; omega
    · have := b h; omega
def WR (gs : List (Nat × Nat)) (t : Tr) (w : Option (Int × Int)) : Prop := ∃ r s',Run (stepS (ruleC t 0 0) gs (plS 0 gs)) (fun _ _ => false) (beg 0 (gs.length + 1)) r s' /\ wh r = w
theorem WR.one {gs : List (Nat × Nat)} {t : Tr} {w w' : Option (Int × Int)} (h : WR gs t w) (h' : WR gs t w') : w = w' := by
  obtain ⟨r,s,h1,h2⟩ := h
  obtain ⟨r',s',h3,h4⟩ := h'
  obtain ⟨rfl,_⟩ := h1.one h3
  rw [<- h2,h4]
theorem step_okr {C : List PIns} {ns : Nat} {gs : List (Nat × Nat)} {pl : List Int} (hsh : ∀ pc i,C[pc]? = some i -> shapedS C.length ns pc i = true) {t : Tr3} (ht : t.pc < C.length /\ t.at_ <= gs.length) : ∀ l,stepS C gs pl t = .more l -> ∀ u ∈ l,u.pc < C.length /\ u.at_ <= gs.length := by
  intro l h u hu
  obtain ⟨h1,h2⟩ := ht
  obtain ⟨i,hi⟩ : ∃ i,C[t.pc]? = some i := ⟨C[t.pc]'h1,List.getElem?_eq_getElem _⟩
  have hc := shaped_cases (hsh t.pc i hi)
  unfold stepS at h
  rw [hi] at h
  simp only at h
  repeat' (split at h)
  all_goals first
    | (cases h; done)
    | (cases h
       simp only [List.mem_cons,List.not_mem_nil,or_false] at hu
       rcases hu with rfl | rfl
       · exact ⟨by show i.x.toNat < _; omega,h2⟩
       · exact ⟨by show i.y.toNat < _; omega,h2⟩)
    | (cases h
       simp only [List.mem_cons,List.not_mem_nil,or_false] at hu
       subst hu
       first
         | exact ⟨by show i.x.toNat < _; omega,h2⟩
         | exact ⟨by show t.pc + 1 < _; omega,h2⟩
         | fail)
    | (cases h
       cases hu
       done)
    | (rename_i hq
       cases h
       simp only [List.mem_cons,List.not_mem_nil,or_false] at hu
       subst hu
       exact ⟨by show t.pc + 1 < _; omega,by have := hq.1; show t.at_ + 1 <= _; omega⟩)
theorem WR.ex {gs : List (Nat × Nat)} {t : Tr} (h1 : t.ok) (h2 : rsR t.flat) : ∃ w,WR gs t w := by
  have hl := ruleC_len (b := 0) (r := 0) h1
  have hsh : ∀ pc i,(ruleC t 0 0)[pc]? = some i -> shapedS (ruleC t 0 0).length 1 pc i = true := by
    intro pc i hi
    rcases rule_good h1 h2 hi with ⟨g1,g2⟩ | ⟨g1,g2⟩
    · exact good_shaped g2 (by omega) (by omega)
    · rw [g2]
      have : inS 0 1 = true := inS_iff.2 ⟨by omega,by omega⟩
      unfold shapedS mkI
      simp [this]
  obtain ⟨s',h⟩ := findP_run (idx := idxP (ruleC t 0 0).length) (ok := fun a b => a < (ruleC t 0 0).length /\ b <= gs.length) (stp := stepS (ruleC t 0 0) gs (plS 0 gs)) (fuel := 3 * ((gs.length + 1) * (ruleC t 0 0).length) + 1) (start := 0) (by
      rintro a b a' b' ⟨q1,q2⟩ ⟨q3,q4⟩ he
      obtain ⟨r1,r2⟩ := mul_inj q1 q3 he
      exact ⟨r2,r1⟩) (fun t l ht hl => ⟨step_len _ _ _ _ _ hl,fun u hu => step_okr hsh ht l hl u hu⟩) (gs.length + 1) 0 (List.replicate ((gs.length + 1) * (ruleC t 0 0).length) false) (fun _ _ => false) (by
      rintro a b ⟨q1,q2⟩
      unfold idxP
      rw [List.getElem?_replicate,if_pos (mul_lt (by omega) q1)]) (fun j hj => ⟨by omega,by omega⟩) (by rw [List.length_replicate]; exact Nat.le_refl _)
  exact ⟨_,_,s',h,rfl⟩
theorem either_step {gs : List (Nat × Nat)} (hg : ∀ g ∈ gs,1 <= g.2) {t : Tr} {us K : Trs} (hu : us ≠ .nil) (ht : t.ok) (hus : us.ok) (hK : K.ok) (he : K.er = (Trs.cons t us).er) {w1 w2 : Option (Int × Int)} (h1 : WR gs t w1) (h2 : WR gs (altR us) w2) : WR gs (altR K) (eith w1 w2) := by
  obtain ⟨r1,s1,h1,rfl⟩ := h1
  obtain ⟨r2,s2,h2,rfl⟩ := h2
  cases K with
  | nil => simp only [Trs.er] at he; cases he
  | cons t' us' =>
    simp only [Trs.er,Trs.cons.injEq] at he
    obtain ⟨e1,e2⟩ := he
    simp only [Trs.ok] at hK
    have hl : us'.len = us.len := by rw [<- er_len us', <- er_len us,e2]
    have hu' : us' ≠ .nil := by
      rintro rfl
      cases us with
      | nil => exact hu rfl
      | cons a b => simp [Trs.len] at hl
    have hn : 1 <= us.len := by
      cases us with
      | nil => exact absurd rfl hu
      | cons a b => simp only [Trs.len]; omega
    have z1 : t'.sz = t.sz := by rw [<- er_sz t', <- er_sz t,e1]
    have zs : us'.sz = us.sz := by rw [<- er_szs us', <- er_szs us,e2]
    have z2 := altR_sz hu
    have z2' := altR_sz hu'
    rw [zs,hl, <- z2] at z2'
    have hne : Trs.cons t' us' ≠ .nil := by rintro ⟨⟩
    have z3 := altR_sz hne
    simp only [Trs.sz,Trs.len] at z3
    have hK3 : (altR (.cons t' us')).ok := altR_ok hne (by simp only [Trs.ok]; exact hK)
    have z3 : (altR (.cons t' us')).sz = t.sz + (altR us).sz + 2 := by omega
    have hc : codeT (altR (.cons t' us')) 1 = spI 1 (t.sz + 3) false :: (codeT t' 2 ++ jpI (t.sz + (altR us).sz + 3) :: codeT (altR us') (t.sz + 3)) := by
      rw [altR_code hne,z3,altR_code hu',z2']
      simp only [altT]
      rw [if_neg (by omega),z1]
      rw [show 1 + (t.sz + (altR us).sz + 2) = t.sz + (altR us).sz + 3 by omega,show t.sz + 3 + (altR us).sz = t.sz + (altR us).sz + 3 by omega,show 1 + 1 + t.sz + 1 = t.sz + 3 by omega,show 1 + t.sz + 2 = t.sz + 3 by omega]
    obtain ⟨g0,g1,g2,g3⟩ := rule_get hK3 0
    have l1 := codeT_len t' 2 hK.1
    have hRu' := altR_ok hu' hK.2
    have l2 := codeT_len (altR us') (t.sz + 3) hRu'
    rw [z3] at g1 g2 g3
    have hE : Eith (ruleC t 0 0) (ruleC (altR us) 0 0) (ruleC (altR (.cons t' us')) 0 0) t.sz (altR us).sz 0 0 0 := by
      refine ⟨part_of ht hK.1 e1 fun k hk => ?_,part_of (t' := altR us') (altR_ok hu hus) hRu' ?_ fun k hk => ?_,g0,?_,?_,?_,?_⟩
      · rw [g1 _ (by omega) (by omega),hc,show 1 + k + 1 - 1 = k + 1 by omega,List.getElem?_cons_succ,List.getElem?_append_left (by omega)]
      · exact altR_er e2
      · rw [g1 _ (by omega) (by omega),hc,show 1 + k + (t.sz + 2) - 1 = (t.sz + 1 + k) + 1 by omega,List.getElem?_cons_succ,List.getElem?_append_right (by omega),l1,z1,show t.sz + 1 + k - t.sz = k + 1 by omega,List.getElem?_cons_succ,show 1 + (t.sz + 2) = t.sz + 3 by omega]
      · rw [g1 _ (by omega) (by omega),hc]; rfl
      · rw [g1 _ (by omega) (by omega),hc,show t.sz + 2 - 1 = t.sz + 1 by omega,List.getElem?_cons_succ,List.getElem?_append_right (by omega),l1,z1,Nat.sub_self]; rfl
      · rw [show t.sz + (altR us).sz + 3 = t.sz + (altR us).sz + 2 + 1 by omega]; exact g2
      · rw [show t.sz + (altR us).sz + 3 + 1 = t.sz + (altR us).sz + 2 + 2 by omega]; exact g3
    obtain ⟨r3,z',q1,q2⟩ := either_run hE hg (gs.length + 1) 0 (fun _ _ => false) (fun _ _ => false) (fun _ _ => false) s1 s2 r1 r2 (by omega) h1 h2 (fun _ _ _ _ => rfl) (fun _ _ _ _ => rfl) (fun _ => ⟨rfl,rfl⟩) (fun _ => ⟨rfl,rfl⟩) (fun _ _ _ => rfl) (fun _ _ => ⟨rfl,rfl,rfl,rfl⟩)
    exact ⟨r3,z',q1,q2⟩
theorem either_all {gs : List (Nat × Nat)} (hg : ∀ g ∈ gs,1 <= g.2) {B : Trs} (hB : B ≠ .nil) (hBo : B.ok) (hBr : rsR B.flat) {wB : Option (Int × Int)} (h2 : WR gs (altR B) wB) : ∀ (A K : Trs) (wA : Option (Int × Int)),A ≠ .nil -> A.ok -> rsR A.flat -> K.ok -> K.er = (A.app B).er -> WR gs (altR A) wA -> WR gs (altR K) (eith wA wB)
  | .nil,_,_,h,_,_,_,_,_ => absurd rfl h
  | .cons a .nil,K,wA,_,h3,_,h4,h5,h6 => by
    simp only [Trs.ok] at h3
    exact either_step hg hB h3.1 hBo h4 h5 h6 h2
  | .cons a (.cons c cs),K,wA,_,h3,h7,h4,h5,h6 => by
    simp only [Trs.ok] at h3
    have hne : Trs.cons c cs ≠ .nil := by rintro ⟨⟩
    have hco : (Trs.cons c cs).ok := by simp only [Trs.ok]; exact h3.2
    have hr1 : rsR a.flat := fun n hn => h7 n (by simp only [Trs.flat]; exact List.mem_append_left _ hn)
    have hr2 : rsR (Trs.cons c cs).flat := fun n hn => h7 n (by rw [Trs.flat]; exact List.mem_append_right _ hn)
    obtain ⟨wa,ha⟩ := WR.ex (gs := gs) h3.1 hr1
    obtain ⟨wc,hc⟩ := WR.ex (gs := gs) (altR_ok hne hco) (altR_rs hne hr2)
    have h8 := either_step hg hne h3.1 hco (by simp only [Trs.ok]; exact h3) rfl ha hc
    have h9 := h6.one h8
    have h10 := either_all hg hB hBo hBr h2 (.cons c cs) ((Trs.cons c cs).app B) wc hne hco hr2 (app_ok hco hBo) rfl hc
    rw [h9,eith_assoc]
    exact either_step hg (us := (Trs.cons c cs).app B) (by simp only [Trs.app]; rintro ⟨⟩) h3.1 (app_ok hco hBo) h4 h5 ha h10
structure EmT (gs gs' : List (Nat × Nat)) (p : Nat) : Prop where
  el : ∀ i,i < gs.length -> gs'[i + p]? = gs[i]?
  en : ∀ q,gs'[gs.length + p]? = some q -> q = (124,1)
  len : gs.length + p <= gs'.length
theorem EmT.is {gs gs' : List (Nat × Nat)} {p : Nat} (h : EmT gs gs' p) {i : Nat} {r : Int} (hr : r ≠ 124) (hi : i <= gs.length) : isS gs' (i + p) r = isS gs i r := by
  rcases Nat.lt_or_ge i gs.length with h1 | h1
  · unfold isS; rw [h.el i h1]
  · obtain rfl : i = gs.length := by omega
    rw [isS_ge (Nat.le_refl _)]
    unfold isS
    cases hq : gs'[gs.length + p]? with
    | none => rfl
    | some q =>
      rw [h.en q hq]
      simp only [beq_eq_false_iff_ne]
      exact fun h2 => hr h2.symm
theorem EmT.is1 {gs gs' : List (Nat × Nat)} {p : Nat} (h : EmT gs gs' p) {i : Nat} {r : Int} (hi : i < gs.length) : isS gs' (i + p) r = isS gs i r := by
  unfold isS; rw [h.el i hi]
theorem EmT.bad {gs gs' : List (Nat × Nat)} {p : Nat} (h : EmT gs gs' p) {i : Nat} (hi : i < gs.length) : badS gs' (i + p) = badS gs i := by
  unfold badS; rw [h.el i hi]
theorem sign_emT {gs gs' : List (Nat × Nat)} {p : Nat} (h : EmT gs gs' p) (f : Nat) : OkS gs p (signF gs f) (signF gs' (f + p)) := by
  intro v j e
  have hx : f + p + 1 = f + 1 + p := by omega
  have hy : f + p + 2 = f + 2 + p := by omega
  unfold signF at e ⊢
  cases hg : gs[f + 1]? with
  | none => rw [hg] at e; cases e
  | some g =>
    have hlt := lt_get hg
    rw [hg] at e
    rw [hx,hy,h.el _ hlt,hg]
    simp only at e ⊢
    rw [h.bad hlt]
    generalize (((g.1 : Nat) : Int)) = r at *
    repeat' (split at e)
    all_goals first
      | (cases e; done)
      | (cases e; exact ⟨by simp [*],by omega⟩)
theorem part_emT {gs gs' : List (Nat × Nat)} {p : Nat} (h : EmT gs gs' p) (i : Nat) : OkS gs p (partF gs i) (partF gs' (i + p)) := by
  intro v j e
  have hx : i + p + 1 = i + 1 + p := by omega
  unfold partF at e ⊢
  cases hg : gs[i]? with
  | none => rw [hg] at e; cases e
  | some g =>
    have hlt := lt_get hg
    rw [hg] at e
    rw [h.el _ hlt,hg]
    simp only at e ⊢
    rw [h.bad hlt]
    by_cases h1 : badS gs i = true
    · rw [if_pos h1] at e; cases e
    rw [if_neg h1] at e ⊢
    by_cases h2 : ((g.1 : Nat) : Int) = 92
    · rw [if_pos h2] at e ⊢
      cases hs : signF gs i with
      | er a b => rw [hs] at e; cases e
      | ok q k =>
        obtain ⟨h3,h4⟩ := sign_emT h i _ _ hs
        obtain ⟨a,b⟩ := q
        rw [hs] at e; cases e
        rw [h3]
        exact ⟨rfl,h4⟩
    rw [if_neg h2] at e ⊢
    by_cases h3 : ((g.1 : Nat) : Int) = 91 \/ ((g.1 : Nat) : Int) = 93 \/ ((g.1 : Nat) : Int) = 45
    · rw [if_pos h3] at e ⊢; cases e; exact ⟨rfl,by omega⟩
    · rw [if_neg h3] at e ⊢; cases e; exact ⟨by rw [hx],by omega⟩
theorem item_emT {gs gs' : List (Nat × Nat)} {p : Nat} (h : EmT gs gs' p) (i : Nat) : OkS gs p (itemF gs i) (itemF gs' (i + p)) := by
  intro v j e
  have hlen := h.len
  unfold itemF at e ⊢
  cases hp : partF gs i with
  | er a b => rw [hp] at e; cases e
  | ok q k =>
    obtain ⟨h1,h2⟩ := part_emT h i _ _ hp
    rw [hp] at e
    rw [h1]
    cases q with
    | none => cases e
    | some q =>
      obtain ⟨a,one⟩ := q
      simp only at e ⊢
      rw [h.is (by decide) h2]
      by_cases h3 : isS gs k 45 = true
      · rw [if_pos h3] at e ⊢
        by_cases h4 : k + 1 < gs.length
        · rw [if_pos h4] at e
          rw [if_pos (by omega)]
          have hx : k + p + 1 = k + 1 + p := by omega
          rw [hx]
          cases hp2 : partF gs (k + 1) with
          | er a b => rw [hp2] at e; cases e
          | ok q2 k2 =>
            obtain ⟨h5,h6⟩ := part_emT h _ _ _ hp2
            rw [hp2] at e
            rw [h5]
            cases q2 with
            | none => cases e
            | some q2 =>
              obtain ⟨b,two⟩ := q2
              simp only at e ⊢
              split at e
              · rename_i h7; cases e; rw [if_pos h7]; exact ⟨rfl,h6⟩
              · cases e
        · rw [if_neg h4] at e; cases e
      · rw [if_neg h3] at e ⊢; cases e; exact ⟨rfl,h2⟩
theorem classL_emT {gs gs' : List (Nat × Nat)} {p : Nat} (h : EmT gs gs' p) {f f' : Nat} : ∀ n n' i l nn v j,n <= n' -> classL gs f n i l nn = .ok v j -> classL gs' f' n' (i + p) l nn = .ok v (j + p) /\ j < gs.length
  | 0,_,_,_,_,_,_,_,e => by cases e
  | n + 1,n',i,l,nn,v,j,hn,e => by
    obtain ⟨n',rfl⟩ : ∃ m,n' = m + 1 := ⟨n' - 1,by omega⟩
    have hlen := h.len
    unfold classL at e ⊢
    by_cases h1 : isS gs i 93 = true
    · have hlt := isS_lt h1
      rw [if_pos h1] at e
      rw [h.is1 hlt,if_pos h1]
      split at e
      · cases e
      · rename_i h2; cases e; rw [if_neg h2]; exact ⟨rfl,hlt⟩
    · rw [if_neg h1] at e
      by_cases h2 : gs.length <= i
      · rw [if_pos h2] at e; cases e
      · rw [if_neg h2] at e
        rw [h.is1 (by omega),if_neg h1,if_neg (by omega)]
        cases hi : itemF gs i with
        | er a b => rw [hi] at e; cases e
        | ok a k =>
          obtain ⟨h3,h4⟩ := item_emT h i _ _ hi
          rw [hi] at e
          rw [h3]
          exact classL_emT h n n' k _ _ v j (by omega) e
theorem class_emT {gs gs' : List (Nat × Nat)} {p : Nat} (h : EmT gs gs' p) {i : Nat} (hi : i < gs.length) : OkS gs p (classF gs i) (classF gs' (i + p)) := by
  intro v j e
  have hlen := h.len
  unfold classF at e ⊢
  have hx : i + p + 1 = i + 1 + p := by omega
  have hy : i + p + 2 = i + 2 + p := by omega
  rw [hx,hy,h.is (by decide) (by omega)]
  have hz : (if isS gs (i + 1) 94 = true then i + 2 + p else i + 1 + p) = (if isS gs (i + 1) 94 = true then i + 2 else i + 1) + p := by split <;> rfl
  rw [hz]
  cases hc : classL gs i (gs.length + 1) (if isS gs (i + 1) 94 = true then i + 2 else i + 1) [] true with
  | er a b => rw [hc] at e; cases e
  | ok l k =>
    obtain ⟨h3,h4⟩ := classL_emT h (f' := i + p) _ (gs'.length + 1) _ _ _ _ _ (by omega) hc
    rw [hc] at e
    rw [h3]
    simp only at e ⊢
    cases e
    exact ⟨by rw [show k + p + 1 = k + 1 + p by omega],by omega⟩
theorem digS_endT : ∀ (l r : List Int) (acc : List UInt8),(∀ x,r[0]? = some x -> x = 124) -> digS (l ++ r) acc = digS l acc
  | [], [],acc,_ => rfl
  | [],x :: r,acc,h => by
    obtain rfl : x = 124 := h x rfl
    rw [List.nil_append]; unfold digS
    rw [if_neg (by omega)]
  | x :: l,r,acc,h => by
    rw [List.cons_append]; unfold digS
    simp only [digS_endT l r _ h]
theorem rsF_emT {gs gs' : List (Nat × Nat)} {p : Nat} (h : EmT gs gs' p) {i : Nat} (hi : i <= gs.length) : ∃ r,rsF gs' (i + p) = rsF gs i ++ r /\ ∀ x,r[0]? = some x -> x = 124 := by
  have hlen := h.len
  refine ⟨rsF gs' (gs.length + p),?_,fun x hx => ?_⟩
  · unfold rsF
    apply List.ext_getElem?
    intro k
    rw [List.getElem?_drop,List.getElem?_map]
    rcases Nat.lt_or_ge (i + k) gs.length with h1 | h1
    · rw [List.getElem?_append_left (by simp; omega),List.getElem?_drop,List.getElem?_map,show i + p + k = i + k + p by omega,h.el _ h1]
    · rw [List.getElem?_append_right (by simp; omega)]
      simp only [List.length_drop,List.length_map]
      rw [List.getElem?_drop,List.getElem?_map]
      congr 2; omega
  · unfold rsF at hx
    rw [List.getElem?_drop,List.getElem?_map,Nat.add_zero] at hx
    cases hq : gs'[gs.length + p]? with
    | none => rw [hq] at hx; cases hx
    | some q =>
      rw [hq,h.en q hq] at hx
      exact (Option.some.inj hx).symm
theorem dig_emT {gs gs' : List (Nat × Nat)} {p : Nat} (h : EmT gs gs' p) {i : Nat} (hi : i <= gs.length) : digS (rsF gs' (i + p)) [] = digS (rsF gs i) [] /\ i + (digS (rsF gs i) []).2 <= gs.length := by
  obtain ⟨r,hr,hr2⟩ := rsF_emT h hi
  refine ⟨by rw [hr,digS_endT _ _ _ hr2],?_⟩
  have h2 : (rsF gs i).length = gs.length - i := by unfold rsF; simp
  have h3 := digS_len (rsF gs i) []
  omega
theorem often_emT {gs gs' : List (Nat × Nat)} {p : Nat} (h : EmT gs gs' p) {f : Nat} (hf : f < gs.length) : OkS gs p (oftenF gs f) (oftenF gs' (f + p)) := by
  obtain ⟨d1,d2⟩ := dig_emT h (i := f + 1) (by omega)
  intro v j e
  have key : oftenF gs' (f + p) = shP p (oftenF gs f) := by
    unfold oftenF
    rw [show f + p + 1 = f + 1 + p by omega,d1]
    generalize hA : digS (rsF gs (f + 1)) [] = A at *
    rw [show f + 1 + p + A.2 = f + 1 + A.2 + p by omega,h.is (by decide) d2,h.is (by decide) d2]
    by_cases h0 : A.2 = 0
    · simp only [h0,if_true]; rfl
    simp only [h0,if_false]
    by_cases h1 : isS gs (f + 1 + A.2) 44 = true
    · have hlt := isS_lt h1
      obtain ⟨d3,d4⟩ := dig_emT h (i := f + 1 + A.2 + 1) (by omega)
      simp only [h1,if_true]
      rw [show f + 1 + A.2 + p + 1 = f + 1 + A.2 + 1 + p by omega,d3]
      generalize hB : digS (rsF gs (f + 1 + A.2 + 1)) [] = B at *
      rw [show f + 1 + A.2 + 1 + p + B.2 = f + 1 + A.2 + 1 + B.2 + p by omega,h.is (by decide) d4]
      simp only [apply_ite (shP p)]
      simp only [shP]
      rw [show f + 1 + A.2 + 1 + B.2 + p + 1 = f + 1 + A.2 + 1 + B.2 + 1 + p by omega]
    · simp only [h1,if_false]
      simp only [apply_ite (shP p)]
      simp only [shP]
      rw [show f + 1 + A.2 + p + 1 = f + 1 + A.2 + 1 + p by omega]
      rfl
  rw [key,e]
  refine ⟨rfl,?_⟩
  unfold oftenF at e
  generalize hA : digS (rsF gs (f + 1)) [] = A at *
  generalize hB : digS (rsF gs (f + 1 + A.2 + 1)) [] = B at *
  split at e
  · cases e
  split at e
  · split at e
    · rename_i h5
      have hlt := isS_lt h5
      repeat' (split at e)
      all_goals first | (cases e; omega) | (cases e; done)
    · cases e
  · split at e
    · rename_i h5
      have hlt := isS_lt h5
      repeat' (split at e)
      all_goals first | (cases e; omega) | (cases e; done)
    · cases e
def ErL (l l' : List Nod) : Prop := l'.map erN = l.map erN
def ErP (ps ps' : List (List Nod)) : Prop := ps'.map (List.map erN) = ps.map (List.map erN)
theorem ErP.len {ps ps' : List (List Nod)} (h : ErP ps ps') : ps'.length = ps.length := by
  have := congrArg List.length h
  simpa using this
theorem ErP.flat {ps ps' : List (List Nod)} (h : ErP ps ps') : ErL ps.flatten ps'.flatten := by
  unfold ErL
  rw [List.map_flatten,List.map_flatten,h]
theorem ErP.snoc {ps ps' : List (List Nod)} {l l' : List Nod} (h : ErP ps ps') (k : ErL l l') : ErP (ps ++ [l]) (ps' ++ [l']) := by
  unfold ErP ErL at *
  rw [List.map_append,List.map_append,h,List.map_cons,List.map_cons,k]
theorem joinS_er {op : Int} {ps ps' : List (List Nod)} (h : ErP ps ps') : ErL (joinS op ps) (joinS op ps') := by
  have hl := h.len
  match ps,ps',h,hl with
  | [], [],_,_ => rfl
  | [l], [l'],h,_ =>
    unfold ErP at h
    simp only [List.map_cons,List.map_nil,List.cons.injEq,and_true] at h
    exact h
  | a :: b :: ps,a' :: b' :: ps',h,hl =>
    have hf := h.flat
    unfold ErL at *
    show (mkNd op 0 0 false 0 ((a' :: b' :: ps').length : Nat) [] :: (a' :: b' :: ps').flatten).map erN = (mkNd op 0 0 false 0 ((a :: b :: ps).length : Nat) [] :: (a :: b :: ps).flatten).map erN
    rw [List.map_cons,List.map_cons,hf,hl]
def OkG (gs : List (Nat × Nat)) (p d : Nat) (R R' : PR (List Nod × Nat)) : Prop := ∀ l g2 j,R = .ok (l,g2) j -> ((∃ l',R' = .ok (l',g2 + d) (j + p) /\ ErL l l') \/ ∃ e w,R' = .er e w) /\ j <= gs.length
def PFg (gs gs' : List (Nat × Nat)) (p d : Nat) (A A' : PF) : Prop := ∀ i g l g2 j,i <= gs.length -> A i g = .ok (l,g2) j -> j <= gs.length /\ (j < gs.length -> (∃ l',A' (i + p) (g + d) = .ok (l',g2 + d) (j + p) /\ ErL l l') \/ ∃ e w,A' (i + p) (g + d) = .er e w)
section
variable {gs gs' : List (Nat × Nat)} {p d : Nat}
theorem clsR_emT (h : EmT gs gs' p) {i : Nat} (hi : i < gs.length) (g : Nat) : OkG gs p d (clsR gs i g) (clsR gs' (i + p) (g + d)) := by
  intro l g2 j e
  unfold clsR at e ⊢
  cases hc : classF gs i with
  | er a b => rw [hc] at e; cases e
  | ok a k =>
    obtain ⟨h3,h4⟩ := class_emT h hi _ _ hc
    rw [hc] at e
    rw [h3]
    cases e
    exact ⟨.inl ⟨_,rfl,rfl⟩,h4⟩
theorem groupB_emT (h : EmT gs gs' p) {A A' : PF} (hA : PFg gs gs' p d A A') {m i g : Nat} {free : Bool} {j : Nat} (hj : j <= gs.length) : OkG gs p d (groupB A gs m i g free j) (groupB A' gs' m (i + p) (g + d) free (j + p)) := by
  intro l g2 k e
  unfold groupB at e ⊢
  by_cases h1 : m = 0
  · rw [if_pos h1] at e; cases e
  rw [if_neg h1] at e
  rw [if_neg h1]
  by_cases h2 : free = false /\ 4 <= g
  · rw [if_pos h2] at e; cases e
  rw [if_neg h2] at e
  cases ha : A j (if free = true then g else g + 1) with
  | er a b => rw [ha] at e; cases e
  | ok q k2 =>
    obtain ⟨l1,g1⟩ := q
    obtain ⟨h4,h3⟩ := hA j _ _ _ _ hj ha
    rw [ha] at e
    simp only at e
    split at e
    · rename_i h5
      have hlt := isS_lt h5
      cases e
      refine ⟨?_,by omega⟩
      by_cases h6 : free = false /\ 4 <= g + d
      · exact .inr ⟨_,_,by rw [if_pos h6]⟩
      rw [if_neg h6]
      have e1 : (if free = true then g + d else g + d + 1) = (if free = true then g else g + 1) + d := by split <;> omega
      rw [e1]
      rcases h3 hlt with ⟨l',h3,h7⟩ | ⟨e,w,h3⟩
      · rw [h3]
        simp only
        rw [h.is1 hlt,if_pos h5]
        refine .inl ⟨_,by rw [show k2 + p + 1 = k2 + 1 + p by omega],?_⟩
        unfold ErL at *
        cases free
        · show (mkNd 6 0 0 false _ 1 [] :: l').map erN = (mkNd 6 0 0 false _ 1 [] :: l1).map erN
          rw [List.map_cons,List.map_cons,h7]; rfl
        · exact h7
      · rw [h3]; exact .inr ⟨e,w,rfl⟩
    · cases e
theorem group_emT (h : EmT gs gs' p) {A A' : PF} (hA : PFg gs gs' p d A A') {m i g : Nat} (hi : i < gs.length) : OkG gs p d (groupF A gs m i g) (groupF A' gs' m (i + p) (g + d)) := by
  intro l g2 k e
  unfold groupF at e ⊢
  rw [show i + p + 1 = i + 1 + p by omega,h.is (by decide) (by omega)]
  by_cases h1 : isS gs (i + 1) 63 = true
  · have hlt := isS_lt h1
    rw [if_pos h1] at e ⊢
    rw [show i + p + 2 = i + 2 + p by omega,h.is (by decide) (by omega)]
    by_cases h2 : isS gs (i + 2) 58 = true
    · have hlt2 := isS_lt h2
      rw [if_pos h2] at e ⊢
      rw [show i + p + 3 = i + 3 + p by omega]
      exact groupB_emT h hA (by omega) l g2 k e
    · rw [if_neg h2] at e; cases e
  · rw [if_neg h1] at e ⊢
    exact groupB_emT h hA (by omega) l g2 k e
theorem atom_emT (h : EmT gs gs' p) {A A' : PF} (hA : PFg gs gs' p d A A') {m i g : Nat} : OkG gs p d (atomF A gs m i g) (atomF A' gs' m (i + p) (g + d)) := by
  intro l g2 k e
  unfold atomF at e ⊢
  cases hg : gs[i]? with
  | none => rw [hg] at e; cases e
  | some q =>
    have hlt := lt_get hg
    rw [hg] at e
    rw [h.el _ hlt,hg]
    simp only at e ⊢
    rw [h.bad hlt]
    by_cases h1 : badS gs i = true
    · rw [if_pos h1] at e; cases e
    rw [if_neg h1] at e ⊢
    unfold atomG at e ⊢
    rw [show i + p + 1 = i + 1 + p by omega]
    split at e
    · rename_i h2; rw [if_pos h2]; exact group_emT h hA hlt l g2 k e
    rename_i h2; rw [if_neg h2]
    split at e
    · rename_i h3; rw [if_pos h3]; exact clsR_emT h hlt g l g2 k e
    rename_i h3; rw [if_neg h3]
    split at e
    · rename_i h4; rw [if_pos h4]
      cases hs : signF gs i with
      | er a b => rw [hs] at e; cases e
      | ok q2 k2 =>
        obtain ⟨h5,h6⟩ := sign_emT h i _ _ hs
        obtain ⟨a,b⟩ := q2
        rw [hs] at e
        cases e
        rw [h5]
        exact ⟨.inl ⟨_,rfl,rfl⟩,h6⟩
    rename_i h4; rw [if_neg h4]
    split at e
    · rename_i h5; rw [if_pos h5]; cases e; exact ⟨.inl ⟨_,rfl,rfl⟩,by omega⟩
    rename_i h5; rw [if_neg h5]
    split at e
    · rename_i h6; rw [if_pos h6]; cases e; exact ⟨.inl ⟨_,rfl,rfl⟩,by omega⟩
    rename_i h6; rw [if_neg h6]
    split at e
    · rename_i h7; rw [if_pos h7]; cases e; exact ⟨.inl ⟨_,rfl,rfl⟩,by omega⟩
    rename_i h7; rw [if_neg h7]
    split at e
    · cases e
    rename_i h8; rw [if_neg h8]; cases e; exact ⟨.inl ⟨_,rfl,rfl⟩,by omega⟩
theorem repB_emT (h : EmT gs gs' p) {l0 l0' : List Nod} (hl : ErL l0 l0') {g : Nat} {mn mx : Int} {j : Nat} (hj : j <= gs.length) : OkG gs p d (repB gs l0 g mn mx j) (repB gs' l0' (g + d) mn mx (j + p)) := by
  have hc : ∀ n : Nod,ErL (n :: l0) (n :: l0') := fun n => by unfold ErL at *; rw [List.map_cons,List.map_cons,hl]
  intro l g2 k e
  unfold repB at e ⊢
  rw [h.is (by decide) hj]
  by_cases h1 : isS gs j 63 = true
  · have hlt := isS_lt h1
    rw [if_pos h1] at e ⊢; cases e; exact ⟨.inl ⟨_,by rw [show j + p + 1 = j + 1 + p by omega],hc _⟩,by omega⟩
  · rw [if_neg h1] at e ⊢; cases e; exact ⟨.inl ⟨_,rfl,hc _⟩,hj⟩
theorem repG_emT (h : EmT gs gs' p) {l0 l0' : List Nod} (hl : ErL l0 l0') {g j : Nat} (hj : j <= gs.length) : OkG gs p d (repG gs l0 g j) (repG gs' l0' (g + d) (j + p)) := by
  intro l g2 k e
  unfold repG at e ⊢
  rw [h.is (by decide) hj,h.is (by decide) hj,h.is (by decide) hj,h.is (by decide) hj,show j + p + 1 = j + 1 + p by omega]
  split at e
  · rename_i h1; have := isS_lt h1; rw [if_pos h1]; exact repB_emT h hl (by omega) l g2 k e
  rename_i h1; rw [if_neg h1]
  split at e
  · rename_i h1; have := isS_lt h1; rw [if_pos h1]; exact repB_emT h hl (by omega) l g2 k e
  rename_i h1; rw [if_neg h1]
  split at e
  · rename_i h1; have := isS_lt h1; rw [if_pos h1]; exact repB_emT h hl (by omega) l g2 k e
  rename_i h1; rw [if_neg h1]
  split at e
  · rename_i h1
    have hlt := isS_lt h1
    rw [if_pos h1]
    cases ho : oftenF gs j with
    | er a b => rw [ho] at e; cases e
    | ok q k2 =>
      obtain ⟨h5,h6⟩ := often_emT h hlt _ _ ho
      obtain ⟨a,b⟩ := q
      rw [ho] at e
      rw [h5]
      exact repB_emT h hl h6 l g2 k e
  · rename_i h1; rw [if_neg h1]; cases e; exact ⟨.inl ⟨_,rfl,hl⟩,hj⟩
theorem rep_emT (h : EmT gs gs' p) {A A' : PF} (hA : PFg gs gs' p d A A') {m i g : Nat} : OkG gs p d (repF A gs m i g) (repF A' gs' m (i + p) (g + d)) := by
  intro l g2 k e
  unfold repF at e ⊢
  cases ha : atomF A gs m i g with
  | er a b => rw [ha] at e; cases e
  | ok q k2 =>
    obtain ⟨l1,g1⟩ := q
    obtain ⟨h1,h2⟩ := atom_emT (d := d) h hA l1 g1 k2 ha
    rw [ha] at e
    rcases h1 with ⟨l',h1,h3⟩ | ⟨e',w,h1⟩
    · rw [h1]; exact repG_emT h h3 h2 l g2 k e
    · rw [h1]
      exact ⟨.inr ⟨e',w,rfl⟩,(repG_emT (d := d) h (l0' := l1) rfl h2 l g2 k e).2⟩
theorem cat_emT (h : EmT gs gs' p) {A A' : PF} (hA : PFg gs gs' p d A A') {m : Nat} : ∀ n n' i g ps ps',ErP ps ps' -> n <= n' -> i <= gs.length -> gs.length < n + i -> (∀ i g v j,i < gs.length -> repF A gs m i g = .ok v j -> i < j) -> OkG gs p d (catL A gs m n i g ps) (catL A' gs' m n' (i + p) (g + d) ps')
  | 0,_,_,_,_,_,_,_,_,_,_ => by omega
  | n + 1,n',i,g,ps,ps',hps,hn,hi,hf,hp => by
    obtain ⟨n',rfl⟩ : ∃ m,n' = m + 1 := ⟨n' - 1,by omega⟩
    have hlen := h.len
    intro l g2 k e
    unfold catL at e ⊢
    by_cases h1 : i < gs.length /\ isS gs i 124 = false /\ (isS gs i 41 = false \/ m = 20)
    · rw [if_pos h1] at e
      rw [if_pos ⟨by omega,by rw [h.is1 h1.1]; exact h1.2.1,by rw [h.is1 h1.1]; exact h1.2.2⟩]
      cases hr : repF A gs m i g with
      | er a b => rw [hr] at e; cases e
      | ok q k2 =>
        obtain ⟨l1,g1⟩ := q
        obtain ⟨h2,h3⟩ := rep_emT (d := d) h hA _ _ _ hr
        have h4 := hp _ _ _ _ h1.1 hr
        rw [hr] at e
        simp only at e
        rcases h2 with ⟨l1',h2,h5⟩ | ⟨e',w,h2⟩
        · rw [h2]
          exact cat_emT h hA n n' k2 g1 (ps ++ [l1]) (ps' ++ [l1']) (hps.snoc h5) (by omega) h3 (by omega) hp l g2 k e
        · rw [h2]
          exact ⟨.inr ⟨e',w,rfl⟩,(cat_emT h hA n n' k2 g1 (ps ++ [l1]) (ps' ++ [l1]) (hps.snoc rfl) (by omega) h3 (by omega) hp l g2 k e).2⟩
    · rw [if_neg h1] at e
      cases e
      refine ⟨.inl ⟨_,?_,joinS_er hps⟩,hi⟩
      rw [if_neg ?_]
      rintro ⟨h2,h3,h4⟩
      rcases Nat.lt_or_ge i gs.length with h5 | h5
      · rw [h.is1 h5] at h3 h4
        exact h1 ⟨h5,h3,h4⟩
      · obtain rfl : i = gs.length := by omega
        obtain ⟨q,hq⟩ : ∃ q,gs'[gs.length + p]? = some q := ⟨gs'[gs.length + p]'h2,List.getElem?_eq_getElem _⟩
        unfold isS at h3
        rw [hq,h.en q hq] at h3
        simp at h3
theorem alt_emT (h : EmT gs gs' p) {A A' : PF} (hA : PFg gs gs' p d A A') (hv : ∀ i g v j,A i g = .ok v j -> i <= j) {m : Nat} : ∀ n i g ps l g2 j,i <= gs.length -> gs.length < n + i -> altL A gs m n i g ps = .ok (l,g2) j -> j <= gs.length /\ isS gs j 124 = false /\ ∃ qs qs',l = joinS 4 (ps ++ qs) /\ ErP qs qs' /\ qs.length + i <= j /\ ∀ n' ps',n <= n' -> (altL A' gs' m n' (i + p) (g + d) ps' = altL A' gs' m (n' - qs.length) (j + p) (g2 + d) (ps' ++ qs') \/ ∃ e w,altL A' gs' m n' (i + p) (g + d) ps' = .er e w)
  | 0,_,_,_,_,_,_,_,_,_ => by omega
  | n + 1,i,g,ps,l,g2,j,hi,hf,e => by
    have hlen := h.len
    unfold altL at e
    by_cases h1 : isS gs i 124 = true
    · have hlt := isS_lt h1
      rw [if_pos h1] at e
      cases hr : catF A gs m (i + 1) g with
      | er a b => rw [hr] at e; cases e
      | ok q k2 =>
        obtain ⟨l1,g1⟩ := q
        have h4 := catL_adv hv _ _ _ _ _ _ hr
        obtain ⟨h2,h3⟩ := cat_emT (d := d) h hA (m := m) (gs.length + 1) (gs'.length + 1) (i + 1) g [] [] rfl (by omega) (by omega) (by omega) (fun i g v j _ e => rep_adv hv e) _ _ _ hr
        rw [hr] at e
        simp only at e
        obtain ⟨a1,a2,qs,qs',a3,a4,a5,a6⟩ := alt_emT h hA hv n k2 g1 (ps ++ [l1]) l g2 j h3 (by omega) e
        rcases h2 with ⟨l1',h2,h5⟩ | ⟨e',w,h2⟩
        · refine ⟨a1,a2,l1 :: qs,l1' :: qs',by rw [a3,List.append_assoc]; rfl,?_,by simp only [List.length_cons]; omega,fun n' ps' hn => ?_⟩
          · unfold ErP ErL at *
            rw [List.map_cons,List.map_cons,a4,h5]
          · obtain ⟨n',rfl⟩ : ∃ m,n' = m + 1 := ⟨n' - 1,by omega⟩
            have hx : altL A' gs' m (n' + 1) (i + p) (g + d) ps' = altL A' gs' m n' (k2 + p) (g1 + d) (ps' ++ [l1']) := by
              rw [altL,h.is1 hlt,if_pos h1,show i + p + 1 = i + 1 + p by omega]
              unfold catF
              rw [h2]
            rw [hx]
            have := a6 n' (ps' ++ [l1']) (by omega)
            rw [List.append_assoc] at this
            rw [List.length_cons,show n' + 1 - (qs.length + 1) = n' - qs.length by omega]
            exact this
        · refine ⟨a1,a2,l1 :: qs,l1 :: qs',by rw [a3,List.append_assoc]; rfl,?_,by simp only [List.length_cons]; omega,fun n' ps' hn => .inr ?_⟩
          · unfold ErP at *
            rw [List.map_cons,List.map_cons,a4]
          · obtain ⟨n',rfl⟩ : ∃ m,n' = m + 1 := ⟨n' - 1,by omega⟩
            refine ⟨e',w,?_⟩
            rw [altL,h.is1 hlt,if_pos h1,show i + p + 1 = i + 1 + p by omega]
            unfold catF
            rw [h2]
    · rw [if_neg h1] at e
      cases e
      refine ⟨hi,by simpa using h1, [], [],by rw [List.append_nil],rfl,by simp,fun n' ps' hn => .inl ?_⟩
      rw [List.append_nil]; rfl
theorem altL_end {A : PF} {gs : List (Nat × Nat)} {m i : Nat} (h : isS gs i 124 = false) (n g : Nat) (ps : List (List Nod)) : altL A gs m n i g ps = .ok (joinS 4 ps,g) i := by
  cases n with
  | zero => rfl
  | succ n => rw [altL,h,if_neg (by simp)]
theorem altB_emT (h : EmT gs gs' p) {A A' : PF} (hA : PFg gs gs' p d A A') (hv : ∀ i g v j,A i g = .ok v j -> i <= j) {m : Nat} : PFg gs gs' p d (altB A gs m) (altB A' gs' m) := by
  intro i g l g2 j hi e
  have hlen := h.len
  unfold altB at e ⊢
  cases hr : catF A gs m i g with
  | er a b => rw [hr] at e; cases e
  | ok q k2 =>
    obtain ⟨l1,g1⟩ := q
    have h4 := catL_adv hv _ _ _ _ _ _ hr
    obtain ⟨h2,h3⟩ := cat_emT (d := d) h hA (m := m) (gs.length + 1) (gs'.length + 1) i g [] [] rfl (by omega) hi (by omega) (fun i g v j _ e => rep_adv hv e) _ _ _ hr
    rw [hr] at e
    simp only at e
    obtain ⟨a1,a2,qs,qs',a3,a4,a5,a6⟩ := alt_emT (d := d) h hA hv (gs.length + 1) k2 g1 [l1] l g2 j h3 (by omega) e
    refine ⟨a1,fun hj => ?_⟩
    unfold catF
    rcases h2 with ⟨l1',h2,h5⟩ | ⟨e',w,h2⟩
    · rw [h2]
      simp only
      rcases a6 (gs'.length + 1) [l1'] (by omega) with h6 | ⟨e',w,h6⟩
      · rw [h6,altL_end (by rw [h.is1 hj]; exact a2)]
        refine .inl ⟨_,rfl,?_⟩
        rw [a3]
        refine joinS_er ?_
        unfold ErP ErL at *
        rw [List.map_append,List.map_append,a4,List.map_cons,List.map_cons,h5]
      · rw [h6]; exact .inr ⟨e',w,rfl⟩
    · rw [h2]; exact .inr ⟨e',w,rfl⟩
theorem altF_emT (h : EmT gs gs' p) : ∀ m,PFg gs gs' p d (altF gs m) (altF gs' m)
  | 0 => altB_emT h (fun i g l g2 j _ e => by cases e) (fun _ _ _ _ e => by cases e)
  | m + 1 => altB_emT h (altF_emT h m) (altF_adv gs m)
end
theorem altF_all {gs gs' : List (Nat × Nat)} {p d i g : Nat} (h : EmT gs gs' p) {l : List Nod} {g2 j : Nat} (hi : i <= gs.length) (e : altF gs 20 i g = .ok (l,g2) j) : j <= gs.length /\ ∃ l1 l1' g1 k qs qs',l = joinS 4 (l1 :: qs) /\ ErL l1 l1' /\ ErP qs qs' /\ qs.length <= gs.length /\ ((∃ e w,catF (altF gs' 19) gs' 20 (i + p) (g + d) = .er e w) \/ (catF (altF gs' 19) gs' 20 (i + p) (g + d) = .ok (l1',g1) (k + p) /\ ∀ n' ps',gs.length + 1 <= n' -> (altL (altF gs' 19) gs' 20 n' (k + p) g1 ps' = altL (altF gs' 19) gs' 20 (n' - qs.length) (j + p) (g2 + d) (ps' ++ qs') \/ ∃ e w,altL (altF gs' 19) gs' 20 n' (k + p) g1 ps' = .er e w))) := by
  have hlen := h.len
  have e : altB (altF gs 19) gs 20 i g = .ok (l,g2) j := e
  unfold altB at e
  cases hr : catF (altF gs 19) gs 20 i g with
  | er a b => rw [hr] at e; cases e
  | ok q k2 =>
    obtain ⟨l1,g1⟩ := q
    have h4 := catL_adv (altF_adv gs 19) _ _ _ _ _ _ hr
    obtain ⟨h2,h3⟩ := cat_emT (d := d) h (altF_emT h 19) (m := 20) (gs.length + 1) (gs'.length + 1) i g [] [] rfl (by omega) hi (by omega) (fun i g v j _ e => rep_adv (altF_adv gs 19) e) _ _ _ hr
    rw [hr] at e
    simp only at e
    obtain ⟨a1,a2,qs,qs',a3,a4,a5,a6⟩ := alt_emT (d := d) h (altF_emT h 19) (altF_adv gs 19) (m := 20) (gs.length + 1) k2 g1 [l1] l g2 j h3 (by omega) e
    refine ⟨a1,?_⟩
    rcases h2 with ⟨l1',h2,h5⟩ | ⟨e',w,h2⟩
    · exact ⟨l1,l1',g1 + d,k2,qs,qs',a3,h5,a4,by omega, .inr ⟨h2,fun n' ps' hn => a6 n' ps' hn⟩⟩
    · exact ⟨l1,l1,g1 + d,k2,qs,qs',a3,rfl,a4,by omega, .inl ⟨e',w,h2⟩⟩
theorem alt_bar {ga gb gs' : List (Nat × Nat)} (hg : gs' = ga ++ (124,1) :: gb) {la lb : List Nod} {n1 n2 : Nat} (ha : altF ga 20 0 0 = .ok (la,n1) ga.length) (hb : altF gb 20 0 0 = .ok (lb,n2) gb.length) {l : List Nod} {g j : Nat} (h : altF gs' 20 0 0 = .ok (l,g) j) : ∃ ps ps' qs qs',ps ≠ [] /\ qs ≠ [] /\ la = joinS 4 ps /\ lb = joinS 4 qs /\ ErP ps ps' /\ ErP qs qs' /\ l = joinS 4 (ps' ++ qs') := by
  have hl : gs'.length = ga.length + 1 + gb.length := by rw [hg]; simp; omega
  have m1 : gs'[ga.length]? = some (124,1) := by rw [hg,List.getElem?_append_right (Nat.le_refl _),Nat.sub_self]; rfl
  have E1 : EmT ga gs' 0 := ⟨fun i hi => by rw [hg,Nat.add_zero,List.getElem?_append_left hi],fun q hq => by
    rw [Nat.add_zero,m1] at hq
    exact (Option.some.inj hq).symm,by omega⟩
  have E2 : EmT gb gs' (ga.length + 1) := ⟨fun i hi => by
    rw [hg,List.getElem?_append_right (by omega),show i + (ga.length + 1) - ga.length = i + 1 by omega,List.getElem?_cons_succ],fun q hq => by
    have := lt_get hq
    omega,by omega⟩
  obtain ⟨_,x1,x1',y1,k1,qs,qs',c1,c2,c3,c4,c5⟩ := altF_all (d := 0) E1 (by omega) ha
  obtain ⟨_,x2,x2',y2,k2,rs,rs',d1,d2,d3,d4,d5⟩ := altF_all (d := n1) E2 (by omega) hb
  have h : altB (altF gs' 19) gs' 20 0 0 = .ok (l,g) j := h
  unfold altB at h
  rcases c5 with ⟨e,w,c5⟩ | ⟨c5,c6⟩
  · rw [Nat.add_zero] at c5
    rw [c5] at h; cases h
  rw [Nat.add_zero] at c5
  rw [c5] at h
  simp only at h
  rcases c6 (gs'.length + 1) [x1'] (by omega) with c6 | ⟨e,w,c6⟩
  · rw [Nat.add_zero] at c6
    rw [c6] at h
    obtain ⟨f,hf⟩ : ∃ f,gs'.length + 1 - qs.length = f + 1 := ⟨gs'.length - qs.length,by omega⟩
    rw [hf] at h
    simp only [Nat.add_zero] at h
    have h124 : isS gs' ga.length 124 = true := by unfold isS; rw [m1]; rfl
    rw [altL,h124,if_pos rfl] at h
    rw [Nat.zero_add,Nat.zero_add] at d5
    rcases d5 with ⟨e,w,d5⟩ | ⟨d5,d6⟩
    · rw [d5] at h; cases h
    rw [d5] at h
    simp only at h
    rcases d6 f ([x1'] ++ qs' ++ [x2']) (by omega) with d6 | ⟨e,w,d6⟩
    · rw [d6,altL_end (isS_ge (by omega))] at h
      refine ⟨x1 :: qs,x1' :: qs',x2 :: rs,x2' :: rs',by simp,by simp,c1,d1,?_,?_,?_⟩
      · unfold ErP ErL at *; rw [List.map_cons,List.map_cons,c3,c2]
      · unfold ErP ErL at *; rw [List.map_cons,List.map_cons,d3,d2]
      · have := (Prod.mk.inj (PR.ok.inj h).1).1
        rw [<- this]; simp
    · rw [d6] at h; cases h
  · rw [Nat.add_zero] at c6
    rw [c6] at h; cases h
theorem kids_of {ps : List (List Nod)} (hn : ps ≠ []) (hr : rightN (joinS 4 ps) = true) : ∃ ks : Trs,ks ≠ .nil /\ ks.ok /\ ks.len = ps.length /\ ks.flat = ps.flatten /\ rsR ks.flat /\ treeN (joinS 4 ps) = altR ks := by
  obtain ⟨h1,h2⟩ := tree_is hr
  have h3 := right_rs hr
  match ps,hn with
  | [l],_ =>
    refine ⟨.cons (treeN l) .nil,by rintro ⟨⟩,?_,rfl,?_,?_,rfl⟩
    · simp only [Trs.ok]; exact ⟨h1,trivial⟩
    · have h2 : (treeN l).flat = l := h2
      simp only [Trs.flat,h2,List.append_nil,List.flatten_cons,List.flatten_nil]
    · have h2 : (treeN l).flat = l := h2
      simp only [Trs.flat,h2,List.append_nil]; exact h3
  | a :: b :: ps,_ =>
    have e : joinS 4 (a :: b :: ps) = altN (a :: b :: ps).length :: (a :: b :: ps).flatten := rfl
    rw [e] at h1 h2 h3
    generalize hT : treeN (altN (a :: b :: ps).length :: (a :: b :: ps).flatten) = T at *
    obtain ⟨n,ks⟩ := T
    simp only [Tr.flat,List.cons.injEq] at h2
    obtain ⟨rfl,h2⟩ := h2
    simp only [Tr.ok] at h1
    have hk := h1.1.1
    have hk : ks.len = (a :: b :: ps).length := by
      have : (((a :: b :: ps).length : Nat) : Int) = (ks.len : Int) := hk
      omega
    refine ⟨ks,?_,h1.2,hk,h2,fun x hx ho => h3 x (List.mem_cons_of_mem _ (by rw [<- h2]; exact hx)) ho,?_⟩
    · rintro rfl
      simp [Trs.len] at hk
    · rw [e,hT]
      match ks,hk with
      | .cons t (.cons u us),hk =>
        rw [altR_two]
        have : (a :: b :: ps).length = us.len + 2 := by rw [<- hk]; rfl
        rw [this]
      | .cons t .nil,hk => simp [Trs.len] at hk
      | .nil,hk => simp [Trs.len] at hk
theorem bar_find {gs ga gb gc : List (Nat × Nat)} (hg : ∀ g ∈ gs,1 <= g.2) (hc : gc = ga ++ (124,1) :: gb) {la lb lc : List Nod} {n1 n2 n3 j : Nat} (ha : altF ga 20 0 0 = .ok (la,n1) ga.length) (hb : altF gb 20 0 0 = .ok (lb,n2) gb.length) (h : altF gc 20 0 0 = .ok (lc,n3) j) (ra : rightN la = true) (rb : rightN lb = true) (rc : rightN lc = true) {w1 w2 : Option (Int × Int)} (h1 : WR gs (treeN la) w1) (h2 : WR gs (treeN lb) w2) : WR gs (treeN lc) (eith w1 w2) := by
  obtain ⟨ps,ps',qs,qs',e1,e2,rfl,rfl,e5,e6,rfl⟩ := alt_bar hc ha hb h
  obtain ⟨A,a1,a2,a3,a4,a5,a6⟩ := kids_of e1 ra
  obtain ⟨B,b1,b2,b3,b4,b5,b6⟩ := kids_of e2 rb
  obtain ⟨K,k1,k2,k3,k4,k5,k6⟩ := kids_of (by
    intro h
    have := congrArg List.length h
    rw [List.length_append,e5.len] at this
    have hne : ps.length ≠ 0 := fun h => e1 (List.length_eq_zero_iff.1 h)
    have e0 : ([] : List (List Nod)).length = 0 := rfl
    omega) rc
  rw [a6] at h1
  rw [b6] at h2
  rw [k6]
  refine either_all hg b1 b2 b5 h2 A K w1 a1 a2 a5 k2 ?_ h1
  refine (Trs.uniq K.er (A.app B).er [] [] (er_oks K k2) (er_oks _ (app_ok a2 b2)) ?_ ?_).1
  · rw [er_len,er_len,app_len,k3,a3,b3,List.length_append,e5.len,e6.len]
  · rw [List.append_nil,List.append_nil,er_flats,er_flats,app_flat,k4,a4,b4,List.flatten_append,List.map_append,List.map_append,e5.flat,e6.flat]
end Go.Proofs.Ytnleclohocdkaaa
namespace Go.Proofs.Ytnleclohocdkaaa
open Go.V Go
theorem compS_bad : ∀ (ls : List (List Nod)) (r : Nat) (c : List PIns) (s : List Int),(compS ls r c s).e ≠ 0 -> (compS ls r c s).code = [] /\ (compS ls r c s).starts = []
 | [],r,c,s,h => by rw [compS_nil] at h; exact absurd rfl h
 | l :: ls,r,c,s,h => by
  rw [compS] at h ⊢
  split
  ·exact ⟨rfl,rfl⟩
  ·rename_i h1;rw [if_neg h1] at h
   split
   ·exact ⟨rfl,rfl⟩
   ·rename_i h2;rw [if_neg h2] at h;exact compS_bad ls _ _ _ h
theorem compile_bad {ls : List (List Nod)} (h : (compileS ls).e ≠ 0) : (compileS ls).code = [] /\ (compileS ls).starts = [] := by
 unfold compileS at h ⊢
 split
 ·exact ⟨rfl,rfl⟩
 ·rename_i h1;rw [if_neg h1] at h;exact compS_bad _ _ _ _ h
theorem right_none : RightQ (pgV [] []) := ⟨by simp [pgV],by simp [pgV],fun pc i h => by simp [pgV] at h,fun v h => by simp [pgV] at h,fun r s h => by simp [pgV] at h⟩
theorem compile_right {ls : List (List Nod)} (hl : ls.length <= 8) (hcl : (compileS ls).code.length <= 400) : RightQ (pgV (compileS ls).code (compileS ls).starts) := by
 by_cases he : (compileS ls).e = 0
 ·exact (made_right hl he hcl).1
 ·rw [(compile_bad he).1,(compile_bad he).2]; exact right_none
end Go.Proofs.Ytnleclohocdkaaa
namespace Go.Proofs.Ytnleclohocdkaaa
open Go.V Go
def ixF_Bk (fr : Go.V.Fr) (k : Nat) : Go.V.D := Go.V.nth .junk fr.loc k
noncomputable def partsX (ps : List (List UInt8)) : List (List Nod) := ps.map fun b => (parseX b).1
theorem partsX_succ {ps : List (List UInt8)} {i : Nat} {b : List UInt8} (h : ps[i]? = some b) : partsX (ps.take (i + 1)) = partsX (ps.take i) ++ [(parseX b).1] := by
 unfold partsX;rw [List.take_add_one,h,Option.toList_some,List.map_append]; rfl
theorem made14x_ev {s0 : St} {x : D} {ps : List (List UInt8)} (hx : V.Rows s0 1 x (ps.map strC)) (hl : ps.length <= 1048576) (hb : ∀ b ∈ ps,b.length <= 1048576) : ∃ d,Ev pv 25 [x] s0 d s0 /\ ∃ (p : Pg) (ok : Bool),d = .tup [p.d, .bool ok] /\ p.ok /\ p.code.length <= 400 /\ (ok = true -> (compileS (partsX ps)).e = 0 /\ p = pgV (compileS (partsX ps)).code (compileS (partsX ps)).starts) := by
 refine Ev.mkR rfl fi25 rfl rfl rfl ?_;refine zE ?_;obtain ⟨hSb,hF,hH⟩ := ri s0;generalize enterSt .ro s0 = S at *;have hx := Arg.of hx hSb;refine zQ 2 ?_;refine qa hH fun k2 st hk2 hH => ?_;refine zQ 11 ?_;have hH : Has s0.bs.length S st (.lst .nul 1 ((partsX (ps.take 0)).map partC) :: .box k2 (.mem 0 false [.nul, .nul]) :: []) := hH.nulE 1;refine zQ 1 ?_;refine EvC.loop (fun mm fr st => ∃ (i : Nat) (ld : D),fr.clean = ⟨11, [x,ixF_Bk fr 1, .ptr k2 0 0, .bool false,ld, .int .i64 (i : Nat),ixF_Bk fr 6,ixF_Bk fr 7,ixF_Bk fr 8,ixF_Bk fr 9,ixF_Bk fr 10], []⟩ /\ Has s0.bs.length S st [.lst ld 1 ((partsX (ps.take i)).map partC), .box k2 (.mem 0 false [.nul, .nul])] /\ (i + mm = ps.length) /\ (∀ l ∈ partsX (ps.take i),(∀ n ∈ l,NdV n) /\ l.length <= 500)) (ps.length) ?_ ?_
 ·exact ⟨0, .nul,rfl,hH,by omega,fun l hl => (by cases hl)⟩
 rintro mm fr st ⟨i,ld,hfr,hH,hi,hp⟩;rw [hfr];clear hfr;generalize ixF_Bk fr = ee;clear fr;refine zQ 5 ?_;refine qn ?_;simp only [List.length_map];refine zQ 2 ?_
 by_cases hlt : i < ps.length
 ·obtain ⟨b,hbb⟩ : ∃ b,ps[i]? = some b := ⟨ps[i]'hlt,List.getElem?_eq_getElem _⟩
  have hr1 := str_get hbb;have hbl := hb b (List.mem_of_getElem? hbb);have hc2 : decide (((i : Nat) : Int) < ((ps.length : Nat) : Int)) = true := by rw [decide_eq_true_eq]; omega
  refine qD rfl (by rw [hc2]) ?_;refine zQ 3 ?_;obtain ⟨hev,hv,hll⟩ := parseX_ev (s0 := st) hbl;have hsu := partsX_succ hbb;have hpxl : (partsX (ps.take i)).length <= 1048576 := by unfold partsX; rw [List.length_map,List.length_take]; omega
  generalize parseX b = X at *;obtain ⟨l,e,w⟩ := X;dsimp only at hv hll hsu;unfold parseD at hev;dsimp only at hev;refine zQ 4 ?_;refine qr fun p21 hp21 => ?_;refine qR ?_;refine qv (hev) ?_;refine zQ 14 ?_;refine EvC.cond (by rfl) (fun he => ?_) (fun he => ?_) <;> try simp only [bne_iff_ne,bne_eq_false_iff_eq,ne_eq] at he
  ·refine zQ 2 ?_;refine EvO.go (d := .agg [.nul, .nul]) (st1 := _) rfl rfl rfl (put_T rfl _) ?_;refine qS hH at1 fun st hH => ?_;dsimp only [u2,u1,u3,u4,setMany,u5,u6,D.cells,Nat.reduceAdd,partC,compD,Pg.d,Pg.cs,pgV,parseD] at hH;refine zQ 2 ?_;refine EvC.ret ⟨rx,_,_,hH.resCellT rfl at1 rfl rfl,rl hSb hH (show _ = some (D.tup [(pgV [] []).d, .bool false]) from rfl),⟨_,_,rfl,pgV_ok (fun i hi => (by cases hi)) (by simp) (by simp),by simp [pgV],fun h => (by cases h)⟩⟩
  ·refine zQ 4 ?_;refine qh (s := 1) (vs := [_]) hH fun k32 st hk32 hH => ?_;refine EvO.happend (s := 1) hH rfl (ev rfl) (ev rfl) (by exact at1) (by exact hH.rows (by exact at0)) rfl rfl rfl rfl rfl rfl rfl ⟨(Nat.le_of_ble_eq_true rfl),(Nat.le_of_ble_eq_true rfl)⟩ (fun _ => (put_T rfl _)) (by simp only [List.length_cons,List.length_nil,List.length_map] <;> omega) (by exact .inl hF) (fun x33 st hH => ?_);dsimp only [u2,u1,u3,u4,setMany,u5,u6,D.cells,Nat.reduceAdd,partC,compD,Pg.d,Pg.cs,pgV,parseD] at hH;refine zQ 2 ?_;have hH := hH.drop 1;refine zQ 5 ?_;refine ⟨mm - 1,by omega,⟨i + 1,x33,rfl,(by rw [hsu,List.map_append]; exact hH),by omega,?_⟩⟩;rw [hsu];intro l' hl'
   rcases List.mem_append.1 hl' with hl' | hl'
   ·exact hp l' hl'
   ·simp only [List.mem_cons,List.not_mem_nil,or_false] at hl'; subst hl'; exact ⟨hv,hll⟩
 ·have hc2 : decide (((i : Nat) : Int) < ((ps.length : Nat) : Int)) = false := by rw [decide_eq_false_iff_not]; omega
  refine qE rfl (by rw [hc2]) ?_;refine zQ 1 ?_;rw [List.take_of_length_le (by omega)] at hp hH;obtain ⟨hev,hok,hlen⟩ := comp_parts hp (by unfold partsX; rw [List.length_map]; exact hl) (hH.rows at0)
  obtain ⟨R,hRe⟩ : ∃ R,compileS (partsX ps) = R := ⟨_,rfl⟩
  rw [hRe] at hev hok hlen;refine zQ 3 ?_;refine qv (hev) ?_;refine zQ 4 ?_;refine qa hH fun k9 st hk9 hH => ?_;refine qS hH at0 fun st hH => ?_;dsimp only [u2,u1,u3,u4,setMany,u5,u6,D.cells,Nat.reduceAdd,partC,compD,Pg.d,Pg.cs,pgV,parseD] at hH;refine zQ 5 ?_;refine EvO.hloadS (m := 2) hH rfl (ev rfl) (by exact at0) (by dsimp only [List.drop_succ_cons,List.drop_zero,List.take_succ_cons,List.take_zero,partC,compD,Pg.d,Pg.cs,pgV,parseD] <;> rfl) rfl rfl (put_T rfl _) ?_;refine zQ 2 ?_;refine qS hH at2 fun st hH => ?_;dsimp only [u2,u1,u3,u4,setMany,u5,u6,D.cells,Nat.reduceAdd,partC,compD,Pg.d,Pg.cs,pgV,parseD] at hH;refine zQ 2 ?_;refine EvC.ret ⟨rx,_,_,hH.resCellT rfl at2 rfl rfl,rl hSb hH (show _ = some (D.tup [(pgV R.code R.starts).d, .bool (R.e == 0)]) from rfl),⟨_,_,rfl,hok,hlen,fun h => ⟨by rw [hRe]; simpa using h,by rw [hRe]⟩⟩⟩
theorem made14r_ev {s0 : St} {x : D} {ps : List (List UInt8)} (hx : V.Rows s0 1 x (ps.map strC)) (hl : ps.length <= 8) (hb : ∀ b ∈ ps,b.length <= 1048576) : ∃ d,Ev pv 25 [x] s0 d s0 /\ ∃ (p : Pg) (ok : Bool),d = .tup [p.d, .bool ok] /\ p.ok /\ p.code.length <= 400 /\ (ok = true -> (compileS (partsX ps)).e = 0 /\ p = pgV (compileS (partsX ps)).code (compileS (partsX ps)).starts /\ RightQ p) := by
 obtain ⟨d,h1,p,ok,h2,h3,h4,h5⟩ := made14x_ev (s0 := s0) hx (by omega) hb;refine ⟨d,h1,p,ok,h2,h3,h4,fun h => ?_⟩;obtain ⟨h6,h7⟩ := h5 h;refine ⟨h6,h7,?_⟩;subst h7;exact compile_right (by unfold partsX; rw [List.length_map]; exact hl) h4
end Go.Proofs.Ytnleclohocdkaaa
