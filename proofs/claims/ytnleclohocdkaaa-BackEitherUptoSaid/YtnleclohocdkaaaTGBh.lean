/- own -/
import Derived.Test.YtnleclohocdkaaaTGBl
import Derived.Test.YtnleclohocdkaaaTGKb
import Derived.Test.YtnleclohocdkaaaTGQh
import Derived.Test.YtnleclohocdkaaaTGHr
import Derived.Test.YtnleclohocdkaaaTGCa
set_option maxRecDepth 100000
set_option linter.unusedSimpArgs false
set_option linter.unusedVariables false
set_option maxHeartbeats 4000000
set_option linter.unusedSectionVars false
namespace Go.Proofs.Ytnleclohocdkaaa
open Go.V Go
theorem dfsF_inv {I : Tr3 -> Prop} {idx : Nat -> Nat -> Nat} {stp : Tr3 -> Res} (hs : ∀ t l,I t -> stp t = .more l -> ∀ t' ∈ l,I t') : ∀ (f : Nat) (arr : List Bool) (stk : List Tr3),(∀ t ∈ stk,I t) -> ∀ c,(dfsF idx stp f arr stk).1 = some c -> ∃ t,I t /\ t.c = c /\ stp t = .found
  | 0,arr,stk,_,c,h => by simp [dfsF] at h
  | f + 1,arr, [],_,c,h => by simp [dfsF] at h
  | f + 1,arr,t :: stk,hi,c,h => by
    unfold dfsF at h
    have ht := hi t (List.mem_cons_self ..)
    have hk := fun t' h' => hi t' (List.mem_cons_of_mem _ h')
    split at h
    · split at h
      · rename_i hf
        simp only [Option.some.injEq] at h
        exact ⟨t,ht,h,hf⟩
      · rename_i l hl
        refine dfsF_inv hs f _ _ (fun t' h' => ?_) c h
        rcases List.mem_append.1 h' with h' | h'
        · exact hs t l ht hl t' h'
        · exact hk t' h'
    · exact dfsF_inv hs f _ _ hk c h
theorem findP_inv {I : Nat -> Tr3 -> Prop} {idx : Nat -> Nat -> Nat} {stp : Tr3 -> Res} {fuel start : Nat} (hs : ∀ i t l,I i t -> stp t = .more l -> ∀ t' ∈ l,I i t') (h0 : ∀ i,I i ⟨start,i,noCaps⟩) : ∀ (m i : Nat) (arr : List Bool) (c : Cps),findP idx stp fuel start m i arr = some c -> ∃ j t,i <= j /\ j < i + m /\ I j t /\ t.c = c /\ stp t = .found
  | 0,i,arr,c,h => by simp [findP] at h
  | m + 1,i,arr,c,h => by
    unfold findP at h
    split at h
    · rename_i c' hc
      cases h
      obtain ⟨t,h1,h2,h3⟩ := dfsF_inv (I := I i) (hs i) fuel arr [⟨start,i,noCaps⟩] (fun t ht => by simp only [List.mem_cons,List.not_mem_nil,or_false] at ht; subst ht; exact h0 i) _ hc
      exact ⟨i,t,Nat.le_refl _,by omega,h1,h2,h3⟩
    · obtain ⟨j,t,h1,h2,h3⟩ := findP_inv hs h0 m (i + 1) _ c h
      exact ⟨j,t,by omega,by omega,h3⟩
structure IP (gs : List (Nat × Nat)) (pl : List Int) (g : Nat -> Nat -> Prop) (n i : Nat) (t : Tr3) : Prop where
  le : i <= t.at_
  ml : t.at_ <= gs.length
  z : t.pc = 0 -> t.c = noCaps /\ t.at_ = i
  b0 : 1 <= t.pc -> t.c 0 = pl.getD i 0
  b1 : t.pc <= n + 1 -> t.c 1 = -1
  b2 : t.pc = n + 2 -> t.c 1 = pl.getD t.at_ 0
  ins : ∀ s,2 <= s -> t.c s = -1 \/ ∃ a,i <= a /\ a <= t.at_ /\ t.c s = pl.getD a 0
  gr : 1 <= t.pc -> t.pc <= n + 1 -> ∀ s,g t.pc s -> s ≠ 0 -> t.c s ≠ -1
  pr : ∀ k,1 <= k -> t.c (2 * k + 1) ≠ -1 -> t.c (2 * k) ≠ -1
theorem IP.init {gs : List (Nat × Nat)} {pl : List Int} {g : Nat -> Nat -> Prop} {n i : Nat} (hi : i <= gs.length) : IP gs pl g n i ⟨0,i,noCaps⟩ :=
  ⟨Nat.le_refl _,hi,fun _ => ⟨rfl,rfl⟩,fun h => absurd h (by simp),fun _ => rfl,fun h => by simp at h,fun s _ => .inl rfl,fun h => absurd h (by simp),fun k _ h => absurd rfl h⟩
theorem IP.go {gs : List (Nat × Nat)} {pl : List Int} {g : Nat -> Nat -> Prop} {n i : Nat} {t : Tr3} {m a : Nat} (h : IP gs pl g n i t) (h1 : 1 <= t.pc) (h2 : t.pc <= n) (hm : 1 <= m /\ m <= n + 1) (ha : t.at_ <= a /\ a <= gs.length) (hg : ∀ s,g m s -> g t.pc s) : IP gs pl g n i ⟨m,a,t.c⟩ := by
  refine ⟨Nat.le_trans h.le ha.1,ha.2,fun h0 => ?_,fun _ => h.b0 h1,fun _ => h.b1 (by omega),fun h0 => ?_,fun s hs => ?_,fun _ _ s hs h0 => h.gr h1 (by omega) s (hg s hs) h0,h.pr⟩
  · simp only at h0; omega
  · simp only at h0; omega
  · rcases h.ins s hs with h3 | ⟨b,h3,h4,h5⟩
    · exact .inl h3
    · exact .inr ⟨b,h3,Nat.le_trans h4 ha.1,h5⟩
theorem IP.save {gs : List (Nat × Nat)} {pl : List Int} {g : Nat -> Nat -> Prop} {n i : Nat} {t : Tr3} {x : Nat} (hpl : ∀ a,0 <= pl.getD a 0) (h : IP gs pl g n i t) (h1 : 1 <= t.pc) (h2 : t.pc <= n) (hx : ∃ k,1 <= k /\ (x = 2 * k \/ (x = 2 * k + 1 /\ g t.pc (2 * k)))) (hg : ∀ s,g (t.pc + 1) s -> g t.pc s \/ x = s) : IP gs pl g n i ⟨t.pc + 1,t.at_,setC t.c x (pl.getD t.at_ 0)⟩ := by
  obtain ⟨k,hk,hx⟩ := hx
  have hp := hpl t.at_
  refine ⟨h.le,h.ml,fun h0 => ?_,fun _ => ?_,fun _ => ?_,fun h0 => ?_,fun s hs => ?_,fun _ _ s hs h0 => ?_,fun q hq hn => ?_⟩
  · simp only at h0; omega
  · show setC t.c x _ 0 = _; unfold setC; rw [if_neg (by omega)]; exact h.b0 h1
  · show setC t.c x _ 1 = _; unfold setC; rw [if_neg (by omega)]; exact h.b1 (by omega)
  · simp only at h0; omega
  · show setC t.c x _ s = _ \/ _
    by_cases he : s = x
    · exact .inr ⟨t.at_,h.le,Nat.le_refl _,by show setC t.c x _ s = _; unfold setC; rw [if_pos he]⟩
    · unfold setC; rw [if_neg he]
      rcases h.ins s hs with h3 | h3
      · exact .inl h3
      · exact .inr (by simpa only [he,if_false] using h3)
  · show setC t.c x _ s ≠ _
    unfold setC
    split
    · omega
    · rename_i he
      rcases hg s hs with h3 | h3
      · exact h.gr h1 (by omega) s h3 h0
      · exact absurd h3.symm he
  · change setC t.c x _ (2 * q + 1) ≠ -1 at hn
    show setC t.c x _ (2 * q) ≠ -1
    unfold setC at hn ⊢
    split
    · omega
    · rename_i he
      split at hn
      · rename_i he2
        rcases hx with hx | ⟨hx,hgk⟩
        · omega
        · have : q = k := by omega
          subst this
          exact h.gr h1 (by omega) _ hgk (by omega)
      · exact h.pr q hq hn
theorem IP.step {tr : Tr} {r : Nat} {gs : List (Nat × Nat)} {pl : List Int} {g : Nat -> Nat -> Prop} {i : Nat} {t : Tr3} {l : List Tr3} (hpl : ∀ a,0 <= pl.getD a 0) (hL : Lab (fun _ => False) (codeT tr 1) 1 (fun s => s = 0) g)
    (h : IP gs pl g (codeT tr 1).length i t) (hs : stepS (ruleC tr 0 r) gs pl t = .more l) : ∀ t' ∈ l,IP gs pl g (codeT tr 1).length i t' := by
  generalize hn : (codeT tr 1).length = n at *
  have hn' : (codeT tr (0 + 1)).length = n := hn
  have hc0 : (ruleC tr 0 r)[0]? = some (mkI 4 0 0 []) := rfl
  have hc1 : ∀ j,j < n -> (ruleC tr 0 r)[j + 1]? = (codeT tr 1)[j]? := fun j hj => by
    show (mkI 4 0 0 [] :: (codeT tr (0 + 1) ++ _))[j + 1]? = _
    rw [List.getElem?_cons_succ,List.getElem?_append_left (by omega)]
  have hc2 : (ruleC tr 0 r)[n + 1]? = some (mkI 4 1 0 []) := by
    show (mkI 4 0 0 [] :: (codeT tr (0 + 1) ++ _))[n + 1]? = _
    rw [List.getElem?_cons_succ,List.getElem?_append_right (by omega),show n - (codeT tr (0 + 1)).length = 0 by omega]; rfl
  have hc3 : ∀ j,n + 1 <= j -> (ruleC tr 0 r)[j + 1]? = none \/ (ruleC tr 0 r)[j + 1]? = some (mkI 7 (r : Nat) 0 []) := fun j hj => by
    show (mkI 4 0 0 [] :: (codeT tr (0 + 1) ++ _))[j + 1]? = _ \/ (mkI 4 0 0 [] :: (codeT tr (0 + 1) ++ _))[j + 1]? = _
    rw [List.getElem?_cons_succ,List.getElem?_append_right (by omega)]
    obtain ⟨q,hq⟩ : ∃ q,j - (codeT tr (0 + 1)).length = q + 1 := ⟨j - (codeT tr (0 + 1)).length - 1,by omega⟩
    rw [hq,List.getElem?_cons_succ]
    cases q with
    | zero => exact .inr rfl
    | succ q => exact .inl rfl
  unfold stepS at hs
  obtain ⟨pc,at_,c⟩ := t
  simp only at hs
  rcases pc with _ | j
  · rw [hc0] at hs
    obtain ⟨hz,he⟩ := h.z rfl
    simp only at hz he
    subst hz; subst he
    change Res.more [⟨0 + 1,at_,setC noCaps (Int.toNat 0) (pl.getD at_ 0)⟩] = .more l at hs
    cases hs
    intro t' ht
    simp only [List.mem_cons,List.not_mem_nil,or_false] at ht
    subst ht
    refine ⟨Nat.le_refl _,h.ml,fun h0 => by simp at h0,fun _ => rfl,fun _ => rfl,fun h0 => by simp at h0,fun s hs => .inl ?_,fun _ _ s hs h0 => ?_,fun q hq hn => ?_⟩
    · show setC noCaps 0 _ s = -1; unfold setC; rw [if_neg (by omega)]; rfl
    · have h9 := hL.hd; change g 1 s at hs; rw [h9] at hs; exact absurd hs h0
    · exact absurd (show setC noCaps (Int.toNat 0) (pl.getD at_ 0) (2 * q + 1) = -1 by unfold setC; rw [if_neg (by simp)]; rfl) hn
  · by_cases hj : j < n
    · rw [hc1 j hj] at hs
      split at hs
      · cases hs; intro t' ht; cases ht
      · rename_i ins hi
        obtain ⟨hnx,h7,h4⟩ := hL.st j ins hi
        rw [show 1 + j = j + 1 by omega] at hnx h4
        have hsucc : ∀ v ∈ nextS (j + 1) ins, ∃ m : Nat,v = (m : Int) /\ (1 <= m /\ m <= n + 1) /\ ∀ s,g m s -> g (j + 1) s \/ (ins.op = 4 /\ ins.x = (s : Int)) := fun v hv => by
          obtain ⟨m,e,h1⟩ := hnx v hv
          rcases h1 with ⟨h1,h2,h3⟩ | ⟨h1,_⟩
          · exact ⟨m,e,⟨h1,by omega⟩,h3⟩
          · exact h1.elim
        have hgo : ins.op ≠ 4 -> ∀ v ∈ nextS (j + 1) ins, ∀ a,at_ <= a -> a <= gs.length -> IP gs pl g n i ⟨v.toNat,a,c⟩ := fun h4 v hv a h1 h2 => by
          obtain ⟨m,rfl,hm,hg⟩ := hsucc v hv
          exact h.go (by simp) (by simp; omega) (by simpa using hm) ⟨h1,h2⟩ fun s hs => (hg s (by simpa using hs)).elim id fun h => absurd h.1 h4
        rw [if_neg h7] at hs
        by_cases h2 : ins.op = 2
        · rw [if_pos h2] at hs; cases hs
          intro t' ht
          simp only [List.mem_cons,List.not_mem_nil,or_false] at ht
          have hn2 : nextS (j + 1) ins = [ins.x,ins.y] := by unfold nextS; rw [if_pos h2]
          rcases ht with rfl | rfl
          · exact hgo (by omega) _ (by rw [hn2]; simp) _ (Nat.le_refl _) h.ml
          · exact hgo (by omega) _ (by rw [hn2]; simp) _ (Nat.le_refl _) h.ml
        · rw [if_neg h2] at hs
          by_cases h3 : ins.op = 3
          · rw [if_pos h3] at hs; cases hs
            intro t' ht
            simp only [List.mem_cons,List.not_mem_nil,or_false] at ht
            subst ht
            exact hgo (by omega) ins.x (by unfold nextS; rw [if_neg h2,if_pos h3]; simp) _ (Nat.le_refl _) h.ml
          · rw [if_neg h3] at hs
            have hn1 : nextS (j + 1) ins = [((j + 1 + 1 : Nat) : Int)] := by unfold nextS; rw [if_neg h2,if_neg h3,if_neg h7]
            by_cases h4' : ins.op = 4
            · rw [if_pos h4'] at hs; cases hs
              intro t' ht
              simp only [List.mem_cons,List.not_mem_nil,or_false] at ht
              subst ht
              obtain ⟨k,hk,hx⟩ := h4 h4'
              obtain ⟨m,e,hm,hg⟩ := hsucc ((j + 1 + 1 : Nat) : Int) (by rw [hn1]; simp)
              have hm' : m = j + 1 + 1 := by omega
              subst hm'
              refine h.save hpl (by simp) (by simp; omega) ⟨k,hk,?_⟩ fun s hs => ?_
              · rcases hx with hx | ⟨hx,hgk⟩
                · exact .inl (by omega)
                · exact .inr ⟨by omega,hgk⟩
              · rcases hg s hs with h5 | ⟨_,h5⟩
                · exact .inl h5
                · exact .inr (by omega)
            · rw [if_neg h4'] at hs
              have hgo1 := hgo h4' ((j + 1 + 1 : Nat) : Int) (by rw [hn1]; simp)
              simp only [Int.toNat_natCast] at hgo1
              split at hs
              · cases hs
                intro t' ht
                split at ht
                · simp only [List.mem_cons,List.not_mem_nil,or_false] at ht; subst ht; exact hgo1 _ (Nat.le_refl _) h.ml
                · cases ht
              · split at hs
                · cases hs
                  intro t' ht
                  split at ht
                  · simp only [List.mem_cons,List.not_mem_nil,or_false] at ht; subst ht; exact hgo1 _ (Nat.le_refl _) h.ml
                  · cases ht
                · cases hs
                  intro t' ht
                  split at ht
                  · rename_i hlt
                    simp only [List.mem_cons,List.not_mem_nil,or_false] at ht; subst ht; exact hgo1 _ (by omega) (by omega)
                  · cases ht
    · by_cases hj2 : j = n
      · subst hj2
        rw [hc2] at hs
        change Res.more [⟨_ + 1,at_,setC c (Int.toNat 1) (pl.getD at_ 0)⟩] = .more l at hs
        cases hs
        intro t' ht
        simp only [List.mem_cons,List.not_mem_nil,or_false] at ht
        subst ht
        refine ⟨h.le,h.ml,fun h0 => by simp at h0,fun _ => ?_,fun h0 => (by change j + 1 + 1 <= j + 1 at h0; omega),fun _ => rfl,fun s hs => ?_,fun _ h0 => (by change j + 1 + 1 <= j + 1 at h0; omega),fun q hq hn => ?_⟩
        · exact h.b0 (by simp)
        · have := h.ins s hs
          show setC c 1 _ s = _ \/ ∃ a,_ /\ _ /\ setC c 1 _ s = _
          unfold setC; rw [if_neg (by omega)]; exact this
        · change setC c 1 _ (2 * q + 1) ≠ -1 at hn
          show setC c 1 _ (2 * q) ≠ -1
          unfold setC at hn ⊢
          rw [if_neg (by omega)] at hn ⊢
          exact h.pr q hq hn
      · rcases hc3 j (by omega) with h9 | h9
        · rw [h9] at hs; cases hs; intro t' ht; cases ht
        · rw [h9] at hs
          simp only [mkI,if_true] at hs
          cases hs
theorem IP.found {tr : Tr} {r : Nat} {gs : List (Nat × Nat)} {pl : List Int} {g : Nat -> Nat -> Prop} {i : Nat} {t : Tr3} (hL : Lab (fun _ => False) (codeT tr 1) 1 (fun s => s = 0) g)
    (h : IP gs pl g (codeT tr 1).length i t) (hs : stepS (ruleC tr 0 r) gs pl t = .found) : t.c 0 = pl.getD i 0 /\ t.c 1 = pl.getD t.at_ 0 := by
  have hop : ∃ q,(ruleC tr 0 r)[t.pc]? = some q /\ q.op = 7 := by
    unfold stepS at hs
    split at hs
    · cases hs
    · rename_i q hq
      refine ⟨q,hq,?_⟩
      split at hs
      · assumption
      · repeat' split at hs
        all_goals cases hs
  obtain ⟨q,hq,h7⟩ := hop
  have hlen : (ruleC tr 0 r).length = (codeT tr 1).length + 3 := by
    show (mkI 4 0 0 [] :: (codeT tr (0 + 1) ++ _)).length = _
    simp only [List.length_cons,List.length_append,List.length_nil]
  have hlt := lt_get hq
  have hpc : t.pc = (codeT tr 1).length + 2 := by
    rcases Nat.eq_zero_or_pos t.pc with h0 | h0
    · rw [h0] at hq; cases hq; cases h7
    · obtain ⟨j,hj⟩ : ∃ j,t.pc = j + 1 := ⟨t.pc - 1,by omega⟩
      rw [hj] at hq hlt
      by_cases h1 : j < (codeT tr 1).length
      · have hq2 : (codeT tr 1)[j]? = some q := by
          rw [<- hq]
          show _ = (mkI 4 0 0 [] :: (codeT tr (0 + 1) ++ _))[j + 1]?
          rw [List.getElem?_cons_succ,List.getElem?_append_left h1]
        exact absurd h7 (hL.st j q hq2).2.1
      · by_cases h2 : j = (codeT tr 1).length
        · have hq2 : (ruleC tr 0 r)[j + 1]? = some (mkI 4 1 0 []) := by
            show (mkI 4 0 0 [] :: (codeT tr (0 + 1) ++ _))[j + 1]? = _
            rw [List.getElem?_cons_succ,List.getElem?_append_right (by rw [h2]; exact Nat.le_refl _),show j - (codeT tr (0 + 1)).length = 0 by rw [h2]; exact Nat.sub_self _]; rfl
          rw [hq2] at hq; cases hq; cases h7
        · omega
  exact ⟨h.b0 (by omega),h.b2 hpc⟩
def shI (n : Nat) (i : PIns) : PIns := if i.op = 2 then ⟨2,i.x + n,i.y + n,i.rd,i.rs⟩ else if i.op = 3 then ⟨3,i.x + n,i.y,i.rd,i.rs⟩ else i
theorem shI_mk (n : Nat) {op : Int} (x y : Int) (rs : List Rg) (h2 : op ≠ 2) (h3 : op ≠ 3) : shI n (mkI op x y rs) = mkI op x y rs := by
  unfold shI mkI
  rw [if_neg h2,if_neg h3]
theorem shI_sp (n s o : Nat) (lz : Bool) : shI n (spI s o lz) = spI (s + n) (o + n) lz := by
  cases lz
  · show (⟨2,((s + 1 : Nat) : Int) + n,(o : Int) + n,_,_⟩ : PIns) = mkI 2 ((s + n + 1 : Nat) : Int) ((o + n : Nat) : Int) []
    unfold mkI
    congr 1; omega
  · show (⟨2,(o : Int) + n,((s + 1 : Nat) : Int) + n,_,_⟩ : PIns) = mkI 2 ((o + n : Nat) : Int) ((s + n + 1 : Nat) : Int) []
    unfold mkI
    congr 1; omega
theorem shI_jp (n e : Nat) : shI n (jpI e) = jpI (e + n) := by
  show (⟨3,(e : Int) + n,0,_,_⟩ : PIns) = mkI 3 ((e + n : Nat) : Int) 0 []
  unfold mkI
  congr 1
theorem repC_sh {c : Nat -> List PIns} {z n : Nat} (hc : ∀ b,c (b + n) = (c b).map (shI n)) : ∀ k b,repC c z k (b + n) = (repC c z k b).map (shI n)
  | 0,b => rfl
  | k + 1,b => by
    have h := repC_sh hc (z := z) k (b + z)
    rw [Nat.add_right_comm] at h
    rw [repC,repC,List.map_append,hc,h]
theorem optC_sh {sp sp' : Nat -> PIns} {c : Nat -> List PIns} {z n : Nat} (hs : ∀ s,sp' (s + n) = shI n (sp s)) (hc : ∀ b,c (b + n) = (c b).map (shI n)) : ∀ k b,optC sp' c z k (b + n) = (optC sp c z k b).map (shI n)
  | 0,b => rfl
  | k + 1,b => by
    have h := optC_sh hs hc (z := z) k (b + 1 + z)
    have e1 : b + 1 + z + n = b + n + 1 + z := by omega
    have e2 : b + n + 1 = b + 1 + n := by omega
    rw [e1] at h
    rw [optC,optC,List.map_cons,List.map_append,hs,h,e2,hc]
theorem rptC_sh {nd : Nod} {c : Nat -> List PIns} {z n b : Nat} (hc : ∀ b,c (b + n) = (c b).map (shI n)) : rptC nd c z (b + n) = (rptC nd c z b).map (shI n) := by
  unfold rptC
  split
  · rw [List.map_append,repC_sh hc,List.map_cons,List.map_append,shI_sp,List.map_cons,List.map_nil,shI_jp]
    have e1 : b + n + nd.mn.toNat * z = b + nd.mn.toNat * z + n := by omega
    have e2 : b + nd.mn.toNat * z + n + 1 = b + nd.mn.toNat * z + 1 + n := by omega
    have e3 : b + nd.mn.toNat * z + n + z + 2 = b + nd.mn.toNat * z + z + 2 + n := by omega
    rw [e1,e2,e3,hc]
  · rw [List.map_append,repC_sh hc]
    have e1 : b + n + nd.mn.toNat * z = b + nd.mn.toNat * z + n := by omega
    rw [e1]
    congr 1
    refine optC_sh (fun s => ?_) hc _ _
    rw [shI_sp]
    congr 1
    omega
mutual
theorem codeT_sh (n : Nat) : ∀ (t : Tr) (b : Nat),codeT t (b + n) = (codeT t b).map (shI n)
  | .mk nd ks,b => by
    have hc := fun b => catT_sh n ks b
    have ha := fun e b => altT_sh n e ks b
    simp only [codeT]
    split
    · rw [List.map_cons,List.map_nil,shI_mk _ _ _ _ (by decide) (by decide)]
    split
    · rw [List.map_cons,List.map_nil,shI_mk _ _ _ _ (by decide) (by decide)]
    split
    · rw [List.map_cons,List.map_nil,shI_mk _ _ _ _ (by decide) (by decide)]
    split
    · exact hc b
    split
    · rw [Nat.add_right_comm]; exact ha _ b
    split
    · exact rptC_sh hc
    split
    · rw [List.map_cons,List.map_append,List.map_cons,List.map_nil,shI_mk _ _ _ _ (by decide) (by decide),shI_mk _ _ _ _ (by decide) (by decide),Nat.add_right_comm,hc]
    · rfl
theorem catT_sh (n : Nat) : ∀ (ts : Trs) (b : Nat),catT ts (b + n) = (catT ts b).map (shI n)
  | .nil,b => by simp only [catT,List.map_nil]
  | .cons t ts,b => by
    have h := catT_sh n ts (b + t.sz)
    rw [Nat.add_right_comm] at h
    simp only [catT,List.map_append]
    rw [codeT_sh n t b,h]
theorem altT_sh (n : Nat) : ∀ (e : Nat) (ts : Trs) (b : Nat),altT (jpI (e + n)) ts (b + n) = (altT (jpI e) ts b).map (shI n)
  | e, .nil,b => by simp only [altT,List.map_nil]
  | e, .cons t ts,b => by
    have h := altT_sh n e ts (b + t.sz + 2)
    have h1 := codeT_sh n t (b + 1)
    have e1 : b + t.sz + 2 + n = b + n + t.sz + 2 := by omega
    have e2 : b + 1 + n = b + n + 1 := by omega
    have e3 : b + 1 + t.sz + 1 + n = b + n + 1 + t.sz + 1 := by omega
    rw [e1] at h
    rw [e2] at h1
    simp only [altT]
    split
    · exact codeT_sh n t b
    · rw [List.map_cons,List.map_append,List.map_cons,shI_sp,shI_jp,h1,h,e3]
end
def InI (lo hi : Nat) (i : PIns) : Prop := i.op ≠ 7 /\ (i.op = 2 -> ((lo : Int) <= i.x /\ i.x <= hi) /\ (lo : Int) <= i.y /\ i.y <= hi) /\ (i.op = 3 -> (lo : Int) <= i.x /\ i.x <= hi)
theorem InI.mono {lo hi lo' hi' : Nat} {i : PIns} (h : InI lo hi i) (h1 : lo' <= lo) (h2 : hi <= hi') : InI lo' hi' i :=
  ⟨h.1,fun e => by have := h.2.1 e; omega,fun e => by have := h.2.2 e; omega⟩
theorem InI.mk {lo hi : Nat} {op : Int} (x y : Int) (rs : List Rg) (h2 : op ≠ 2) (h3 : op ≠ 3) (h7 : op ≠ 7) : InI lo hi (mkI op x y rs) := ⟨h7,fun h => absurd h h2,fun h => absurd h h3⟩
theorem InI.sp {lo hi s o : Nat} {lz : Bool} (h1 : lo <= s + 1 /\ s + 1 <= hi) (h2 : lo <= o /\ o <= hi) : InI lo hi (spI s o lz) := by
  cases lz
  · exact ⟨by show (2 : Int) ≠ 7; decide,fun _ => by show ((lo : Int) <= ((s + 1 : Nat) : Int) /\ ((s + 1 : Nat) : Int) <= hi) /\ (lo : Int) <= (o : Int) /\ (o : Int) <= hi; omega,fun h => absurd h (by show ¬ (2 : Int) = 3; decide)⟩
  · exact ⟨by show (2 : Int) ≠ 7; decide,fun _ => by show ((lo : Int) <= (o : Int) /\ (o : Int) <= hi) /\ (lo : Int) <= ((s + 1 : Nat) : Int) /\ ((s + 1 : Nat) : Int) <= hi; omega,fun h => absurd h (by show ¬ (2 : Int) = 3; decide)⟩
theorem InI.jp {lo hi e : Nat} (h1 : lo <= e /\ e <= hi) : InI lo hi (jpI e) :=
  ⟨by show (3 : Int) ≠ 7; decide,fun h => absurd h (by show ¬ (3 : Int) = 2; decide),fun _ => by show (lo : Int) <= (e : Int) /\ (e : Int) <= hi; omega⟩
theorem repC_in {c : Nat -> List PIns} {z : Nat} (hc : ∀ b, ∀ i ∈ c b,InI b (b + z) i) : ∀ k b, ∀ i ∈ repC c z k b,InI b (b + k * z) i
  | 0,b,i,hi => by cases hi
  | k + 1,b,i,hi => by
    simp only [repC] at hi
    rw [Nat.succ_mul]
    rcases List.mem_append.1 hi with hi | hi
    · exact (hc b i hi).mono (Nat.le_refl _) (by omega)
    · exact (repC_in hc k _ i hi).mono (by omega) (by omega)
theorem optC_in {sp : Nat -> PIns} {c : Nat -> List PIns} {z lo hi : Nat} (hs : ∀ s,lo <= s -> s + 1 <= hi -> InI lo hi (sp s)) (hc : ∀ b, ∀ i ∈ c b,InI b (b + z) i) : ∀ k b,lo <= b -> b + k * (z + 1) <= hi -> ∀ i ∈ optC sp c z k b,InI lo hi i
  | 0,b,_,_,i,hi' => by cases hi'
  | k + 1,b,h1,h2,i,hi' => by
    simp only [optC] at hi'
    rw [Nat.succ_mul] at h2
    rcases List.mem_cons.1 hi' with rfl | hi'
    · exact hs b h1 (by omega)
    · rcases List.mem_append.1 hi' with hi' | hi'
      · exact (hc _ i hi').mono (by omega) (by omega)
      · exact optC_in hs hc k _ (by omega) (by omega) i hi'
mutual
theorem codeT_in : ∀ (t : Tr) (b : Nat),t.ok -> ∀ i ∈ codeT t b,InI b (b + t.sz) i
  | .mk n ks,b,hok,i,hi => by
    simp only [Tr.ok] at hok
    have hc := fun b => catT_in ks b hok.2
    obtain ⟨_,hq⟩ := hok.1
    simp only [codeT] at hi
    simp only [Tr.sz]
    by_cases q2 : n.op = 2
    · rw [if_pos q2] at hi
      simp only [List.mem_cons,List.not_mem_nil,or_false] at hi; subst hi; exact InI.mk _ _ _ (by decide) (by decide) (by decide)
    rw [if_neg q2] at hi
    by_cases q7 : n.op = 7
    · rw [if_pos q7] at hi
      simp only [List.mem_cons,List.not_mem_nil,or_false] at hi; subst hi; exact InI.mk _ _ _ (by decide) (by decide) (by decide)
    rw [if_neg q7] at hi
    by_cases q8 : n.op = 8
    · rw [if_pos q8] at hi
      simp only [List.mem_cons,List.not_mem_nil,or_false] at hi; subst hi; exact InI.mk _ _ _ (by decide) (by decide) (by decide)
    rw [if_neg q8] at hi
    have hz : ∀ s k,nodSz n s k = if n.op = 4 then s + 2 * (k - 1) else if n.op = 6 then s + 2 else if n.op = 5 then (if n.mx = -1 then n.mn.toNat * s + s + 2 else n.mn.toNat * s + (n.mx.toNat - n.mn.toNat) * (s + 1)) else s := by
      intro s k; unfold nodSz; rw [if_neg (by omega)]
    by_cases q3 : n.op = 3
    · rw [if_pos q3] at hi
      rw [hz,if_neg (by omega),if_neg (by omega),if_neg (by omega)]
      exact hc b i hi
    rw [if_neg q3] at hi
    by_cases q4 : n.op = 4
    · rw [if_pos q4] at hi
      have hz4 : nodSz n ks.sz ks.len = ks.sz + 2 * (ks.len - 1) := by rw [hz,if_pos q4]
      rw [hz4] at hi ⊢
      exact altT_in ks b (b + (ks.sz + 2 * (ks.len - 1))) hok.2 (Nat.le_refl _) i hi
    rw [if_neg q4] at hi
    by_cases q5 : n.op = 5
    · rw [if_pos q5] at hi
      rw [hz,if_neg q4,if_neg (by omega),if_pos q5]
      unfold rptC at hi
      by_cases qm : n.mx = -1
      · rw [if_pos qm] at hi ⊢
        rcases List.mem_append.1 hi with hi | hi
        · exact (repC_in hc _ _ i hi).mono (Nat.le_refl _) (by omega)
        · rcases List.mem_cons.1 hi with rfl | hi
          · exact InI.sp (by omega) (by omega)
          · rcases List.mem_append.1 hi with hi | hi
            · exact (hc _ i hi).mono (by omega) (by omega)
            · simp only [List.mem_cons,List.not_mem_nil,or_false] at hi; subst hi; exact InI.jp (by omega)
      · rw [if_neg qm] at hi ⊢
        rcases List.mem_append.1 hi with hi | hi
        · exact (repC_in hc _ _ i hi).mono (Nat.le_refl _) (by omega)
        · exact optC_in (fun s h1 h2 => InI.sp (by omega) (by omega)) hc _ _ (by omega) (by omega) i hi
    rw [if_neg q5] at hi
    by_cases q6 : n.op = 6
    · rw [if_pos q6] at hi
      rw [hz,if_neg q4,if_pos q6]
      rcases List.mem_cons.1 hi with rfl | hi
      · exact InI.mk _ _ _ (by decide) (by decide) (by decide)
      · rcases List.mem_append.1 hi with hi | hi
        · exact (hc _ i hi).mono (by omega) (by omega)
        · simp only [List.mem_cons,List.not_mem_nil,or_false] at hi; subst hi; exact InI.mk _ _ _ (by decide) (by decide) (by decide)
    · rw [if_neg q6] at hi; cases hi
theorem catT_in : ∀ (ts : Trs) (b : Nat),ts.ok -> ∀ i ∈ catT ts b,InI b (b + ts.sz) i
  | .nil,b,_,i,hi => by simp [catT] at hi
  | .cons t ts,b,hok,i,hi => by
    simp only [Trs.ok] at hok
    simp only [catT] at hi
    simp only [Trs.sz]
    rcases List.mem_append.1 hi with hi | hi
    · exact (codeT_in t b hok.1 i hi).mono (Nat.le_refl _) (by omega)
    · exact (catT_in ts _ hok.2 i hi).mono (by omega) (by omega)
theorem altT_in : ∀ (ts : Trs) (b e : Nat),ts.ok -> b + (ts.sz + 2 * (ts.len - 1)) <= e -> ∀ i ∈ altT (jpI e) ts b,InI b e i
  | .nil,b,e,_,_,i,hi => by simp [altT] at hi
  | .cons t ts,b,e,hok,he,i,hi => by
    simp only [Trs.ok] at hok
    simp only [altT] at hi
    simp only [Trs.sz,Trs.len] at he
    by_cases q : ts.len = 0
    · rw [if_pos q] at hi
      exact (codeT_in t b hok.1 i hi).mono (Nat.le_refl _) (by omega)
    · rw [if_neg q] at hi
      rcases List.mem_cons.1 hi with rfl | hi
      · exact InI.sp (by omega) (by omega)
      · rcases List.mem_append.1 hi with hi | hi
        · exact (codeT_in t _ hok.1 i hi).mono (by omega) (by omega)
        · rcases List.mem_cons.1 hi with rfl | hi
          · exact InI.jp (by omega)
          · exact (altT_in ts _ e hok.2 (by omega) i hi).mono (by omega) (by omega)
end
theorem compS_nil' (r : Nat) (c : List PIns) (s : List Int) : compS [] r c s = ⟨c,s,0,0⟩ := by simp only [compS]
theorem compile_one (a : List Nod) : compileS [a] = if rightN a = false then ⟨[], [],1,0⟩ else if 400 < min (treeN a).sz 401 + 3 then ⟨[], [],12,0⟩ else ⟨ruleC (treeN a) 0 0, [0],0,0⟩ := by
  unfold compileS
  rw [if_neg (by simp),compS]
  simp only [compS_nil',List.length_nil,List.nil_append,Nat.zero_add]
  rfl
theorem plS_at : ∀ (l : List (Nat × Nat)) (a : Int) (j : Nat),j <= l.length -> (plS a l)[j]? = some (a + (((l.take j).map (·.2)).sum : Nat))
  | [],a,j,h => by
    have : j = 0 := by simpa using h
    subst this; simp [plS]
  | g :: r,a,0,_ => by simp [plS]
  | g :: r,a,j + 1,h => by
    simp only [List.length_cons] at h
    simp only [plS,List.getElem?_cons_succ,List.take_succ_cons,List.map_cons,List.sum_cons]
    rw [plS_at r _ j (by omega)]
    congr 1; omega
theorem plS_getD (l : List (Nat × Nat)) (j : Nat) (h : j <= l.length) : (plS 0 l).getD j 0 = (((l.take j).map (·.2)).sum : Nat) := by
  rw [List.getD_eq_getElem?_getD,plS_at l 0 j h]; simp
theorem plS_past (l : List (Nat × Nat)) (j : Nat) (h : l.length < j) : (plS 0 l).getD j 0 = 0 := by
  rw [List.getD_eq_getElem?_getD,List.getElem?_eq_none (by rw [plS_len]; omega)]; rfl
theorem plS_ge (l : List (Nat × Nat)) (j : Nat) : 0 <= (plS 0 l).getD j 0 := by
  by_cases h : j <= l.length
  · rw [plS_getD l j h]; omega
  · rw [plS_past l j (by omega)]; omega
theorem sum_take_le : ∀ (l : List Nat) (i j : Nat),i <= j -> (l.take i).sum <= (l.take j).sum
  | [],i,j,_ => by simp
  | x :: l,0,j,_ => by simp
  | x :: l,i + 1,j + 1,h => by
    simp only [List.take_succ_cons,List.sum_cons]
    have := sum_take_le l i j (by omega)
    omega
theorem plS_mono (l : List (Nat × Nat)) (i j : Nat) (h : i <= j) (hj : j <= l.length) : (plS 0 l).getD i 0 <= (plS 0 l).getD j 0 := by
  rw [plS_getD l i (by omega),plS_getD l j hj]
  have := sum_take_le (l.map (·.2)) i j h
  simp only [List.map_take]
  omega
structure Plc (pl : List Int) (m : Nat) (c : Cps) : Prop where
  w : ∃ i a,i <= a /\ a <= m /\ c 0 = pl.getD i 0 /\ c 1 = pl.getD a 0 /\ ∀ s,2 <= s -> c s = -1 \/ ∃ b,i <= b /\ b <= a /\ c s = pl.getD b 0
  p : ∀ k,1 <= k -> c (2 * k + 1) ≠ -1 -> c (2 * k) ≠ -1
theorem find_places {t : Tr} (ht : t.ok) {cd sd : D} {r : Nat} {ru : Int} {b : List UInt8} {c : Cps} (h : progFind ⟨cd,ruleC t 0 r,sd, [0]⟩ ru b = some c) : Plc (plS 0 (allS b)) (allS b).length c := by
  unfold progFind at h
  split at h
  · rename_i hc
    obtain ⟨_,h0,h1⟩ := hc
    have hru : ru.toNat = 0 := by simp only [List.length_cons,List.length_nil] at h1; omega
    rw [hru] at h
    change findP _ _ _ 0 _ _ _ = _ at h
    obtain ⟨g,hg⟩ := codeT_lab t 1 (fun s => s = 0) ht
    have hpl := plS_ge (allS b)
    obtain ⟨j,t',_,hj,hI,he,hf⟩ := findP_inv (I := fun i t' => i <= (allS b).length -> IP (allS b) (plS 0 (allS b)) g (codeT t 1).length i t') (fun i t' l hI hs t2 h2 hi => IP.step (r := r) hpl hg (hI hi) hs t2 h2) (fun i hi => IP.init hi) _ _ _ _ h
    have hI := hI (by omega)
    obtain ⟨h2,h3⟩ := hI.found hg hf
    subst he
    exact ⟨⟨j,t'.at_,hI.le,hI.ml,h2,h3,hI.ins⟩,hI.pr⟩
  · cases h
theorem compile_one_ok {a : List Nod} (h : (compileS [a]).e = 0) : rightN a = true /\ (compileS [a]).code = ruleC (treeN a) 0 0 /\ (compileS [a]).starts = [0] := by
  rw [compile_one] at h ⊢
  split at h
  · cases h
  · rename_i h1
    split at h
    · cases h
    · rename_i h2
      rw [if_neg h1,if_neg h2]
      exact ⟨by cases hr : rightN a with | true => rfl | false => exact absurd hr h1,rfl,rfl⟩
mutual
theorem Tr.uniq : ∀ (t u : Tr) (x y : List Nod),t.ok -> u.ok -> t.flat ++ x = u.flat ++ y -> t = u /\ x = y
  | .mk n ks, .mk m js,x,y,h1,h2,e => by
    simp only [Tr.flat,List.cons_append,List.cons.injEq] at e
    obtain ⟨rfl,e⟩ := e
    simp only [Tr.ok] at h1 h2
    have k1 := h1.1.1
    have k2 := h2.1.1
    obtain ⟨rfl,e2⟩ := Trs.uniq ks js x y h1.2 h2.2 (by omega) e
    exact ⟨rfl,e2⟩
theorem Trs.uniq : ∀ (ts us : Trs) (x y : List Nod),ts.ok -> us.ok -> ts.len = us.len -> ts.flat ++ x = us.flat ++ y -> ts = us /\ x = y
  | .nil, .nil,x,y,_,_,_,e => ⟨rfl,by simpa [Trs.flat] using e⟩
  | .cons t ts, .cons u us,x,y,h1,h2,hl,e => by
    simp only [Trs.flat,List.append_assoc] at e
    simp only [Trs.ok] at h1 h2
    simp only [Trs.len] at hl
    obtain ⟨rfl,e2⟩ := Tr.uniq t u _ _ h1.1 h2.1 e
    obtain ⟨rfl,e3⟩ := Trs.uniq ts us x y h1.2 h2.2 (by omega) e2
    exact ⟨rfl,e3⟩
  | .nil, .cons _ _,_,_,_,_,hl,_ => by simp [Trs.len] at hl
  | .cons _ _, .nil,_,_,_,_,hl,_ => by simp [Trs.len] at hl
end
theorem one_ascii {c : UInt8} (h : c.toNat < 128) (y : List UInt8) : oneS (c :: y) = (c.toNat,1) := by
  have hm : moreS c.toNat = (0,0,0) := by unfold moreS; rw [if_pos h]
  have e : firstS (c :: y) = (c.toNat,1,false) := by
    show (if (moreS c.toNat).1 < 0 then (0,0,false) else scanS (moreS c.toNat).1.toNat ((moreS c.toNat).1.toNat + 1) (if (moreS c.toNat).1 > 0 then c.toNat % (64 / 2 ^ (moreS c.toNat).1.toNat) else c.toNat) (moreS c.toNat).2.1 (moreS c.toNat).2.2 y) = _
    rw [hm]; rfl
  unfold oneS; rw [e]; rfl
theorem all_ascii {c : UInt8} (h : c.toNat < 128) (y : List UInt8) : allS (c :: y) = (c.toNat,1) :: allS y := by
  rw [allS_cons (by simp),one_ascii h]; rfl
theorem scan_app {c : UInt8} (hc : c.toNat < 128) (y : List UInt8) : ∀ (left n r lo hi : Nat) (xs : List UInt8),128 <= lo -> (scanS left n r lo hi (xs ++ c :: y)).1 = (scanS left n r lo hi xs).1 /\ (scanS left n r lo hi (xs ++ c :: y)).2.1 = (scanS left n r lo hi xs).2.1
  | 0,_,_,_,_,xs,_ => by cases xs <;> exact ⟨rfl,rfl⟩
  | left + 1,n,r,lo,hi, [],h => by
    have e1 : scanS (left + 1) n r lo hi ([] ++ c :: y) = if c.toNat < lo \/ hi < c.toNat then (0,0,false) else scanS left n (r * 64 + c.toNat % 64) 128 191 y := rfl
    rw [e1,if_pos (.inl (by omega))]
    exact ⟨rfl,rfl⟩
  | left + 1,n,r,lo,hi,x :: xs,h => by
    have e1 : scanS (left + 1) n r lo hi ((x :: xs) ++ c :: y) = if x.toNat < lo \/ hi < x.toNat then (0,0,false) else scanS left n (r * 64 + x.toNat % 64) 128 191 (xs ++ c :: y) := rfl
    have e2 : scanS (left + 1) n r lo hi (x :: xs) = if x.toNat < lo \/ hi < x.toNat then (0,0,false) else scanS left n (r * 64 + x.toNat % 64) 128 191 xs := rfl
    rw [e1,e2]
    split
    · exact ⟨rfl,rfl⟩
    · exact scan_app hc y left n _ 128 191 xs (Nat.le_refl _)
theorem one_app {c : UInt8} (hc : c.toNat < 128) (y : List UInt8) {x : List UInt8} (hx : x ≠ []) : oneS (x ++ c :: y) = oneS x := by
  cases x with
  | nil => exact absurd rfl hx
  | cons h xs =>
    have key : (firstS ((h :: xs) ++ c :: y)).1 = (firstS (h :: xs)).1 /\ (firstS ((h :: xs) ++ c :: y)).2.1 = (firstS (h :: xs)).2.1 := by
      have e : ∀ z : List UInt8,firstS (h :: z) = if (moreS h.toNat).1 < 0 then (0,0,false) else scanS (moreS h.toNat).1.toNat ((moreS h.toNat).1.toNat + 1) (if (moreS h.toNat).1 > 0 then h.toNat % (64 / 2 ^ (moreS h.toNat).1.toNat) else h.toNat) (moreS h.toNat).2.1 (moreS h.toNat).2.2 z := fun z => rfl
      rw [List.cons_append,e,e]
      split
      · exact ⟨rfl,rfl⟩
      · by_cases h0 : (moreS h.toNat).1.toNat = 0
        · rw [h0]; cases xs <;> exact ⟨rfl,rfl⟩
        · have hlo : 128 <= (moreS h.toNat).2.1 := by
            unfold moreS at h0 ⊢
            repeat' (split at h0)
            all_goals first | (exfalso; exact h0 rfl) | skip
            all_goals simp only [*,if_true,if_false]
            all_goals first | omega | decide | simp
          exact scan_app hc y _ _ _ _ _ xs hlo
    unfold oneS
    rw [key.1,key.2]
theorem all_app {c : UInt8} (hc : c.toNat < 128) (y : List UInt8) : ∀ (n : Nat) (x : List UInt8),x.length <= n -> allS (x ++ c :: y) = allS x ++ allS (c :: y)
  | _, [],_ => rfl
  | 0,h :: xs,hl => by simp at hl
  | n + 1,h :: xs,hl => by
    have h1 := one_app hc y (x := h :: xs) (by simp)
    have h2 := oneS_le (b := h :: xs) (by simp)
    have h3 := oneS_pos (h :: xs)
    rw [allS_cons (b := (h :: xs) ++ c :: y) (by simp),allS_cons (b := h :: xs) (by simp),h1,List.drop_append_of_le_length h2,all_app hc y n _ (by rw [List.length_drop]; simp only [List.length_cons] at *; omega)]
    rfl
def brk (a z : List UInt8) : List UInt8 := 40 :: 63 :: 58 :: (a ++ 41 :: z)
def Ne0 {α : Type} (R : PR α) : Prop := ∀ e w,R = .er e w -> e ≠ 0
theorem sign_ne (gs : List (Nat × Nat)) (f : Nat) : Ne0 (signF gs f) := by
  intro e w h
  unfold signF at h
  split at h
  · cases h; decide
  · repeat' (split at h)
    all_goals first | (cases h; done) | (cases h; decide)
theorem part_ne (gs : List (Nat × Nat)) (i : Nat) : Ne0 (partF gs i) := by
  intro e w h
  unfold partF at h
  split at h
  · cases h; decide
  · split at h
    · cases h; decide
    · split at h
      · split at h
        · cases h
        · rename_i hs; cases h; exact sign_ne _ _ _ _ hs
      · split at h <;> cases h
theorem item_ne (gs : List (Nat × Nat)) (i : Nat) : Ne0 (itemF gs i) := by
  intro e w h
  unfold itemF at h
  split at h
  · rename_i hs; cases h; exact part_ne _ _ _ _ hs
  · cases h; decide
  · split at h
    · split at h
      · split at h
        · rename_i hs; cases h; exact part_ne _ _ _ _ hs
        · cases h; decide
        · split at h
          · cases h
          · cases h; decide
      · cases h; decide
    · cases h
theorem classL_ne (gs : List (Nat × Nat)) (f : Nat) : ∀ n i l nn,Ne0 (classL gs f n i l nn)
  | 0,_,_,_ => fun e w h => by cases h; decide
  | n + 1,i,l,nn => fun e w h => by
    unfold classL at h
    split at h
    · split at h
      · cases h; decide
      · cases h
    · split at h
      · cases h; decide
      · split at h
        · rename_i hs; cases h; exact item_ne _ _ _ _ hs
        · exact classL_ne gs f _ _ _ _ _ _ h
theorem clsR_ne (gs : List (Nat × Nat)) (i g : Nat) : Ne0 (clsR gs i g) := by
  intro e w h
  unfold clsR classF at h
  split at h
  · rename_i h1
    cases h
    split at h1
    · rename_i h2; cases h1; exact classL_ne _ _ _ _ _ _ _ _ h2
    · cases h1
  · cases h
theorem often_ne (gs : List (Nat × Nat)) (f : Nat) : Ne0 (oftenF gs f) := by
  intro e w h
  unfold oftenF at h
  repeat' (split at h)
  all_goals first | (cases h; done) | (cases h; decide)
theorem rep_ne {gs : List (Nat × Nat)} {A : PF} (hA : ∀ i g,Ne0 (A i g)) (m i g : Nat) : Ne0 (repF A gs m i g) := by
  intro e w h
  unfold repF at h
  split at h
  · rename_i h1
    cases h
    unfold atomF at h1
    split at h1
    · cases h1; decide
    · split at h1
      · cases h1; decide
      · unfold atomG at h1
        split at h1
        · have hB : ∀ {free : Bool} {j0 : Nat},Ne0 (groupB A gs m i g free j0) := by
            intro free j0 e w h
            unfold groupB at h
            split at h
            · cases h; decide
            · split at h
              · cases h; decide
              · split at h
                · rename_i h2; cases h; exact hA _ _ _ _ h2
                · split at h
                  · cases h
                  · cases h; decide
          unfold groupF at h1
          split at h1
          · split at h1
            · exact hB _ _ h1
            · cases h1; decide
          · exact hB _ _ h1
        · split at h1
          · exact clsR_ne _ _ _ _ _ h1
          · split at h1
            · split at h1
              · rename_i h2; cases h1; exact sign_ne _ _ _ _ h2
              · cases h1
            · repeat' (split at h1)
              all_goals first | (cases h1; done) | (cases h1; decide)
  · unfold repG repB at h
    repeat' (split at h)
    all_goals first | (cases h; done) | (rename_i h2; cases h; exact often_ne _ _ _ _ h2)
theorem catL_ne {gs : List (Nat × Nat)} {A : PF} (hA : ∀ i g,Ne0 (A i g)) (m : Nat) : ∀ n i g ps,Ne0 (catL A gs m n i g ps)
  | 0,_,_,_ => fun e w h => by cases h
  | n + 1,i,g,ps => fun e w h => by
    unfold catL at h
    split at h
    · split at h
      · rename_i h1; cases h; exact rep_ne hA _ _ _ _ _ h1
      · exact catL_ne hA m _ _ _ _ _ _ h
    · cases h
theorem altL_ne {gs : List (Nat × Nat)} {A : PF} (hA : ∀ i g,Ne0 (A i g)) (m : Nat) : ∀ n i g ps,Ne0 (altL A gs m n i g ps)
  | 0,_,_,_ => fun e w h => by cases h
  | n + 1,i,g,ps => fun e w h => by
    unfold altL at h
    split at h
    · split at h
      · rename_i h1; cases h; exact catL_ne hA _ _ _ _ _ _ _ h1
      · exact altL_ne hA m _ _ _ _ _ _ h
    · cases h
theorem altB_ne {gs : List (Nat × Nat)} {A : PF} (hA : ∀ i g,Ne0 (A i g)) (m : Nat) : ∀ i g,Ne0 (altB A gs m i g) := by
  intro i g e w h
  unfold altB at h
  split at h
  · rename_i h1; cases h; exact catL_ne hA _ _ _ _ _ _ _ h1
  · exact altL_ne hA _ _ _ _ _ _ _ h
theorem altF_ne (gs : List (Nat × Nat)) : ∀ m i g,Ne0 (altF gs m i g)
  | 0 => altB_ne (fun _ _ e w h => by cases h; decide) 0
  | m + 1 => altB_ne (altF_ne gs m) (m + 1)
theorem alt_le {gs : List (Nat × Nat)} {m i g : Nat} {v} {j : Nat} (hi : i <= gs.length) (h : altF gs m i g = .ok v j) : j <= gs.length := by
  have hE : Emb gs (gs ++ [(41,1)]) 0 := ⟨fun i hi => by rw [Nat.add_zero,List.getElem?_append_left hi],by simp⟩
  exact (altF_emb hE m 0 (by omega) i g hi v j h).2
theorem parse_ok {a : List UInt8} (h : (parseX a).2.1 = 0) : a.length <= 120 /\ ∃ l,altF (allS a) 20 0 0 = .ok (l,c6 l) (allS a).length /\ (parseX a).1 = l := by
  unfold parseX at h ⊢
  by_cases hl : 120 < a.length
  · rw [if_pos hl] at h; cases h
  rw [if_neg hl] at h ⊢
  refine ⟨by omega,?_⟩
  unfold parseR at h ⊢
  cases hR : altF (allS a) 20 0 0 with
  | er e w =>
    rw [hR] at h
    exact absurd h (altF_ne _ _ _ _ _ _ hR)
  | ok p j =>
    obtain ⟨l,g⟩ := p
    rw [hR] at h
    simp only at h ⊢
    have hc := altF_c6 (allS a) 20 _ _ _ _ _ hR
    have hle := alt_le (by omega) hR
    by_cases hj : j < (allS a).length
    · rw [if_pos hj] at h; cases h
    · rw [if_neg hj]
      have hjj : j = (allS a).length := by omega
      exact ⟨l,by rw [hc,hjj,Nat.zero_add],rfl⟩
abbrev Sn := Nat -> Nat -> Bool
def updS (s : Sn) (t : Tr3) : Sn := fun a b => if a = t.pc /\ b = t.at_ then true else s a b
inductive Run (stp : Tr3 -> Res) : Sn -> List Tr3 -> Option Cps -> Sn -> Prop
 | nil {s : Sn} : Run stp s [] none s
 | old {s s' : Sn} {t : Tr3} {stk : List Tr3} {r : Option Cps} : s t.pc t.at_ = true -> Run stp s stk r s' -> Run stp s (t :: stk) r s'
 | found {s : Sn} {t : Tr3} {stk : List Tr3} : s t.pc t.at_ = false -> stp t = .found -> Run stp s (t :: stk) (some t.c) (updS s t)
 | more {s s' : Sn} {t : Tr3} {stk l : List Tr3} {r : Option Cps} : s t.pc t.at_ = false -> stp t = .more l -> Run stp (updS s t) (l ++ stk) r s' -> Run stp s (t :: stk) r s'
theorem Run.one {stp : Tr3 -> Res} {s s1 s2 : Sn} {stk : List Tr3} {r1 r2 : Option Cps} (h1 : Run stp s stk r1 s1) : Run stp s stk r2 s2 -> r1 = r2 /\ s1 = s2 := by
 induction h1 with
 | nil => intro h; cases h; exact ⟨rfl,rfl⟩
 | old h _ ih =>
  intro h2
  cases h2 with
  | old _ h' => exact ih h'
  | found h' _ => rw [h] at h'; cases h'
  | more h' _ _ => rw [h] at h'; cases h'
 | found h hf =>
  intro h2
  cases h2 with
  | old h' _ => rw [h] at h'; cases h'
  | found _ _ => exact ⟨rfl,rfl⟩
  | more _ h' _ => rw [hf] at h'; cases h'
 | more h hm _ ih =>
  intro h2
  cases h2 with
  | old h' _ => rw [h] at h'; cases h'
  | found _ h' => rw [hm] at h'; cases h'
  | more _ h' h'' =>
   rw [hm] at h';cases h';exact ih h''
def RelS (idx : Nat -> Nat -> Nat) (ok : Nat -> Nat -> Prop) (arr : List Bool) (s : Sn) : Prop := ∀ a b,ok a b -> arr[idx a b]? = some (s a b)
def InjS (idx : Nat -> Nat -> Nat) (ok : Nat -> Nat -> Prop) : Prop := ∀ a b a' b',ok a b -> ok a' b' -> idx a b = idx a' b' -> a = a' /\ b = b'
def KeepS (stp : Tr3 -> Res) (ok : Nat -> Nat -> Prop) : Prop := ∀ t l,ok t.pc t.at_ -> stp t = .more l -> l.length <= 2 /\ ∀ u ∈ l,ok u.pc u.at_
theorem RelS.upd {idx : Nat -> Nat -> Nat} {ok : Nat -> Nat -> Prop} {arr : List Bool} {s : Sn} {t : Tr3} (hI : InjS idx ok) (ht : ok t.pc t.at_) (h : RelS idx ok arr s) : RelS idx ok (arr.set (idx t.pc t.at_) true) (updS s t) := by
 intro a b hab;unfold updS
 by_cases he : idx a b = idx t.pc t.at_
 ·rw [if_pos (hI _ _ _ _ hab ht he),he];have := lt_get (h _ _ ht);rw [List.getElem?_set_self this]
 ·rw [if_neg (by rintro ⟨rfl,rfl⟩; exact he rfl),List.getElem?_set_ne (fun e => he e.symm)];exact h a b hab
theorem dfsF_run {idx : Nat -> Nat -> Nat} {ok : Nat -> Nat -> Prop} {stp : Tr3 -> Res} (hI : InjS idx ok) (hK : KeepS stp ok) : ∀ (f : Nat) (arr : List Bool) (stk : List Tr3) (s : Sn),3 * arr.count false + stk.length <= f -> RelS idx ok arr s -> (∀ t ∈ stk,ok t.pc t.at_) -> ∃ s',Run stp s stk (dfsF idx stp f arr stk).1 s' /\ RelS idx ok (dfsF idx stp f arr stk).2 s' := by
 intro f
 induction f with
 | zero =>
  intro arr stk s h1 hr _;have : stk = [] := List.length_eq_zero_iff.1 (by omega);subst this;exact ⟨s, .nil,hr⟩
 | succ f ih =>
  intro arr stk s h1 hr hs
  cases stk with
  | nil => exact ⟨s, .nil,hr⟩
  | cons t stk =>
   have ht := hs t (List.mem_cons_self ..);have hs2 : ∀ u ∈ stk,ok u.pc u.at_ := fun u hu => hs u (List.mem_cons_of_mem _ hu);simp only [List.length_cons] at h1;have hb := hr _ _ ht;unfold dfsF;rw [hb]
   cases hst : s t.pc t.at_ with
   | true =>
    obtain ⟨s',h2,h3⟩ := ih arr stk s (by omega) hr hs2;exact ⟨s', .old hst h2,h3⟩
   | false =>
    rw [hst] at hb;have hcnt := count_set hb;simp only
    cases hS : stp t with
    | found => exact ⟨_, .found hst hS,hr.upd hI ht⟩
    | more l =>
     obtain ⟨hl,hok⟩ := hK t l ht hS
     obtain ⟨s',h2,h3⟩ := ih (arr.set (idx t.pc t.at_) true) (l ++ stk) (updS s t) (by rw [List.length_append]; omega) (hr.upd hI ht) (by
      intro u hu
      rcases List.mem_append.1 hu with hu | hu
      ·exact hok u hu
      ·exact hs2 u hu)
     exact ⟨s', .more hst hS h2,h3⟩
theorem mul_inj {n a b a' b' : Nat} (h1 : b < n) (h2 : b' < n) (h : a * n + b = a' * n + b') : a = a' /\ b = b' := by
 have hb : b = b' := by
  have := congrArg (· % n) h;simp only [Nat.mul_add_mod_self_right,Nat.mod_eq_of_lt h1,Nat.mod_eq_of_lt h2] at this;exact this
 subst hb;exact ⟨Nat.eq_of_mul_eq_mul_right (by omega) (by omega : a * n = a' * n),rfl⟩
theorem mul_lt {n m a b : Nat} (h1 : a < m) (h2 : b < n) : a * n + b < m * n := by
 have := Nat.mul_le_mul_right n (show a + 1 <= m by omega);rw [Nat.add_mul,Nat.one_mul] at this;omega
end Go.Proofs.Ytnleclohocdkaaa
namespace Go.V
variable {N : Nat} {S st : St} {H : List Ent}
theorem Has.rot (A B : List Ent) (h : Has N S st (A ++ (B ++ H))) : Has N S st (B ++ (A ++ H)) := by
  refine h.sub (fun i => if i < B.length then i + A.length else if i < B.length + A.length then i - B.length else i) (fun a b e => ?_) fun i e hi => ?_
  · have e' : (if a < B.length then a + A.length else if a < B.length + A.length then a - B.length else a) = (if b < B.length then b + A.length else if b < B.length + A.length then b - B.length else b) := e
    repeat' split at e'
    all_goals omega
  · show (A ++ (B ++ H))[if i < B.length then i + A.length else if i < B.length + A.length then i - B.length else i]? = some e
    by_cases h1 : i < B.length
    · rw [if_pos h1,List.getElem?_append_right (by omega),Nat.add_sub_cancel,List.getElem?_append_left h1]
      rwa [List.getElem?_append_left h1] at hi
    · rw [List.getElem?_append_right (by omega)] at hi
      by_cases h2 : i < B.length + A.length
      · rw [if_neg h1,if_pos h2,List.getElem?_append_left (by omega)]
        rwa [List.getElem?_append_left (by omega)] at hi
      · rw [if_neg h1,if_neg h2,List.getElem?_append_right (by omega),List.getElem?_append_right (by omega)]
        rw [List.getElem?_append_right (by omega)] at hi
        rw [<- hi]; congr 1; omega
theorem Has.repl {j : Nat} {e : Ent} (h : Has N S st (e :: H)) (hj : j < H.length) : Has N S st (H.set j e) :=
  Has.back (h.erase (j + 1)) hj
theorem Has.clear {P : Pv} {j : Nat} {x : D} {s : Nat} {es : List (List D)} {t e : TypeId} {z : List D} (h : Has N S st H) (hj : H[j]? = some (.lst x s es)) (ht : P.und t = some (.slice e)) (hz : zeroC P e = some z) (hzl : z.length = s) (hr : refs z = 0) :
    ∃ st',clearD P [t] x st = some (.tup [],st') /\ Has N S st' (H.set j (.lst x s (List.replicate es.length z))) := by
  have hk0 := (h.ok j _ hj).2
  have hown := h.own hj
  have hjl : j < H.length := by
    rcases Nat.lt_or_ge j H.length with h' | h'
    · exact h'
    · rw [List.getElem?_eq_none h'] at hj; cases hj
  cases hown with
  | nul =>
    refine ⟨st,by simp only [clearD,ht],?_⟩
    have : H.set j (.lst .nul s (List.replicate ([] : List (List D)).length z)) = H := by
      refine List.ext_getElem? fun i => ?_
      by_cases hi : i = j
      · subst hi; rw [List.getElem?_set_self hjl,hj]; rfl
      · rw [List.getElem?_set_ne (fun e => hi e.symm)]
    rw [this]; exact h
  | win k ver off es c hm hle hc he =>
    have hk := hk0 k (by simp only [Ent.lst,D.ref])
    have hrf : ∀ n,refs (Go.V.repl n z) = 0 := by
      intro n
      unfold Go.V.repl
      induction n with
      | zero => rfl
      | succ n ih =>
        rw [List.replicate_succ,List.flatten_cons]
        have happ : ∀ (a b : List D),refs a = 0 -> refs b = 0 -> refs (a ++ b) = 0 := by
          intro a
          induction a with
          | nil => intro b _ hb; exact hb
          | cons d a iha =>
            intro b ha hb
            simp only [refs,List.cons_append] at ha ⊢
            have := iha b (by omega) hb
            omega
        exact happ _ _ hr ih
    have hlr : (Go.V.repl es.length z).length = es.length * s := by
      unfold Go.V.repl
      rw [flat_len (s := s) (fun e he => by rw [(List.mem_replicate.1 he).2]; exact hzl),List.length_replicate]
    have hw : st.wr k ver off (Go.V.repl es.length z) = some ⟨st.bs.set k (.mem ver true (c.take off ++ Go.V.repl es.length z ++ c.drop (off + (Go.V.repl es.length z).length))),st.flr,st.ro⟩ := wr_own hm (by omega) (canW_has h hk.1 (.inr (hrf _)))
    refine ⟨_,by simp only [clearD,ht,hz,Option.bind_some]; rw [if_pos hzl,hw]; rfl,?_⟩
    refine h.upd hj (fun n hn hne => ?_) (by simp) rfl rfl ?_ (fun n hn => .inl hn) fun n hn => ?_
    · simp only; rw [List.getElem?_set_ne (fun e => hne (by simp only [Ent.lst,D.ref]; omega))]
    · have hlen' : ∀ e' ∈ List.replicate es.length z,e'.length = s := fun e' he' => by rw [(List.mem_replicate.1 he').2]; exact hzl
      have := OwnP.win (st := ⟨st.bs.set k (.mem ver true (c.take off ++ Go.V.repl es.length z ++ c.drop (off + (Go.V.repl es.length z).length))),st.flr,st.ro⟩) (s := s) k ver off (List.replicate es.length z) (c.take off ++ Go.V.repl es.length z ++ c.drop (off + (Go.V.repl es.length z).length))
        (by simp only; rw [List.getElem?_set_self hk.2]) (by rw [List.length_replicate]; simp; omega) ?_ hlen'
      · rw [List.length_replicate] at this; exact this
      · rw [List.length_replicate,List.append_assoc,List.drop_append_of_le_length (by simp; omega),List.drop_take,Nat.sub_self,List.take_zero,List.nil_append, <- hlr,List.take_left']
        · rfl
        · rfl
    · simp only [Ent.lst,D.ref] at hn
      have : n = k := by omega
      subst this
      simpa using hk.2
variable {P : Pv} {ops : Array Oper} {rest : List Oper} {fr fr' : Fr} {Q : Fr -> St -> Prop} {ty : TypeId} {pp : String} {a : Array Edge} {g : Option (Nat × Bool)} {dst : Nat}
end Go.V
namespace Go.Proofs.Ytnleclohocdkaaa
open Go.V Go
def numC (n : Nat) : List D := [.int .i64 (n : Nat)]
def itC (n : Nat) : List D := [.int .i64 (n : Nat), .bool true]
structure SetOk (P Q : List Nat) (seen : List Bool) : Prop where
 len : P.length = seen.length
 mem : ∀ (i p : Nat),P[i]? = some p -> seen[i]? = some (decide (Q[p]? = some i))
 cnt : Q.length = seen.count true
 small : seen.length <= 4096
theorem SetOk.get {P Q : List Nat} {seen : List Bool} (h : SetOk P Q seen) {i : Nat} {b : Bool} (hi : seen[i]? = some b) : ∃ p,P[i]? = some p /\ b = decide (Q[p]? = some i) := by
 have hl := lt_get hi;have hl2 := h.len;refine ⟨P[i]'(by omega),List.getElem?_eq_getElem _,?_⟩;have := h.mem i _ (List.getElem?_eq_getElem (by omega));rw [hi] at this; exact Option.some.inj this
theorem SetOk.add {P Q : List Nat} {seen : List Bool} (h : SetOk P Q seen) {i : Nat} (hi : seen[i]? = some false) : SetOk (P.set i Q.length) (Q ++ [i]) (seen.set i true) := by
 have hl := lt_get hi;have hl2 := h.len;refine ⟨by simp [hl2],fun j p hj => ?_,?_,by rw [List.length_set]; exact h.small⟩
 ·by_cases hij : j = i
  ·subst hij;rw [List.getElem?_set_self (by omega)] at hj ⊢;cases hj;simp
  ·rw [List.getElem?_set_ne (fun e => hij e.symm)] at hj ⊢;rw [h.mem j p hj]
   congr 2
   rcases Nat.lt_trichotomy p Q.length with hp | hp | hp
   ·rw [List.getElem?_append_left hp]
   ·subst hp;have hne : ¬ i = j := fun e => hij e.symm;simp [hne]
   ·rw [List.getElem?_eq_none (by omega),List.getElem?_eq_none (by simp; omega)]
 ·have h1 := List.length_eq_countP_add_countP (fun b => b == true) (l := seen);have h2 := List.length_eq_countP_add_countP (fun b => b == true) (l := seen.set i true);have h3 := count_set hi
  have e1 : ∀ l : List Bool,l.countP (fun a => decide (¬ (a == true) = true)) = l.count false := by
   intro l; unfold List.count; congr 1; funext b; cases b <;> rfl
  have e2 : ∀ l : List Bool,l.countP (fun a => a == true) = l.count true := fun l => rfl;rw [e1,e2] at h1 h2;rw [List.length_append,h.cnt];simp only [List.length_set,List.length_cons,List.length_nil] at h2 ⊢;omega
theorem SetOk.clear {P Q : List Nat} {seen : List Bool} (h : SetOk P Q seen) : SetOk P [] (List.replicate seen.length false) := by
 refine ⟨by rw [List.length_replicate]; exact h.len,fun i p hi => ?_,?_,by rw [List.length_replicate]; exact h.small⟩
 ·have := lt_get hi;have := h.len;rw [List.getElem?_replicate,if_pos (by omega)]; simp
 ·rw [List.count_replicate]; simp
theorem SetOk.len_le {P Q : List Nat} {seen : List Bool} (h : SetOk P Q seen) : Q.length <= 4096 := by
 have := h.cnt; have := h.small; have := List.count_le_length (a := true) (l := seen); omega
end Go.Proofs.Ytnleclohocdkaaa
namespace Go.Proofs.Ytnleclohocdkaaa
open Go.V Go
structure Thr where
 pc : Nat
 c : Cps
def thrC (t : Thr) : List D := [.int .i64 (t.pc : Nat), .int .i64 (t.c 0), .int .i64 (t.c 1), .int .i64 (t.c 2), .int .i64 (t.c 3), .int .i64 (t.c 4), .int .i64 (t.c 5), .int .i64 (t.c 6), .int .i64 (t.c 7), .int .i64 (t.c 8), .int .i64 (t.c 9)]
def lstC (dn : Bool) (f : Cps) (d : D) : List D := [.bool dn, .int .i64 (f 0), .int .i64 (f 1), .int .i64 (f 2), .int .i64 (f 3), .int .i64 (f 4), .int .i64 (f 5), .int .i64 (f 6), .int .i64 (f 7), .int .i64 (f 8), .int .i64 (f 9),d]
structure Wk where
 seen : List Bool
 dn : Bool
 best : Cps
 rdy : List Thr
def Good (code : List PIns) (w w' : Wk) : Prop :=
 w'.seen.length = w.seen.length /\ w'.seen.count false <= w.seen.count false /\ w'.rdy.length + w'.seen.count false <= w.rdy.length + w.seen.count false /\ ∀ t ∈ w'.rdy,t ∈ w.rdy \/ ∃ i,code[t.pc]? = some i /\ i.op = 1
theorem Good.refl {code : List PIns} {w : Wk} : Good code w w := ⟨rfl,Nat.le_refl _,Nat.le_refl _,fun t h => .inl h⟩
theorem Good.trans {code : List PIns} {a b c : Wk} (h : Good code a b) (k : Good code b c) : Good code a c :=
 ⟨k.1.trans h.1,Nat.le_trans k.2.1 h.2.1,Nat.le_trans k.2.2.1 h.2.2.1,fun t ht => by
  rcases k.2.2.2 t ht with q | q
  ·exact h.2.2.2 t q
  ·exact .inr q⟩
theorem Good.step {code : List PIns} {w w' : Wk} {j : Nat} (hj : w.seen[j]? = some false) (k : Good code ⟨w.seen.set j true,w.dn,w.best,w.rdy⟩ w') : Good code w w' := by
 have hc := count_set hj;refine Good.trans (b := ⟨w.seen.set j true,w.dn,w.best,w.rdy⟩) ⟨?_,?_,?_,fun t h => .inl h⟩ k
 ·simp
 ·show (w.seen.set j true).count false <= _; omega
 ·show w.rdy.length + (w.seen.set j true).count false <= _; omega
end Go.Proofs.Ytnleclohocdkaaa
namespace Go.Proofs.Ytnleclohocdkaaa
open Go.V Go
structure VL where
 dn : Bool
 best : Cps
 td : D
 ths : List Thr
def vlC (l : VL) : List D := lstC l.dn l.best l.td
def vlE (l : VL) : Ent := .lst l.td 11 (l.ths.map thrC)
def MH (A : List Ent) (N : Nat) (S st : St) (ks kv : Nat) (p : Pg) (pl : Nat) (ld : D) (L : List VL) (H : List Ent) : Prop :=
 ∃ pd qd P Q sn,Has N S st (A ++ (.box kv (.mem 0 false [p.cd,p.sd, .int .i64 (pl : Nat),ld, .ptr ks 0 0]) :: .box ks (.mem 0 false [pd,qd]) :: .lst pd 1 (P.map numC) :: .lst qd 2 (Q.map itC) :: .lst ld 12 (L.map vlC) :: (L.map vlE ++ H))) /\ SetOk P Q sn /\ sn.length = p.code.length
theorem MH.push (A B : List Ent) {N : Nat} {S st : St} {ks kv : Nat} {p : Pg} {pl : Nat} {ld : D} {L : List VL} {H : List Ent} (h : MH (A ++ B) N S st ks kv p pl ld L H) : MH B N S st ks kv p pl ld L (A ++ H) := by
 obtain ⟨pd,qd,P,Q,sn,hH,hok,hsn⟩ := h;refine ⟨pd,qd,P,Q,sn,?_,hok,hsn⟩;have := Has.rot (H := H) A (B ++ (.box kv (.mem 0 false [p.cd,p.sd, .int .i64 (pl : Nat),ld, .ptr ks 0 0]) :: .box ks (.mem 0 false [pd,qd]) :: .lst pd 1 (P.map numC) :: .lst qd 2 (Q.map itC) :: .lst ld 12 (L.map vlC) :: L.map vlE)) (by simpa only [List.append_assoc,List.cons_append] using hH)
 simpa only [List.append_assoc,List.cons_append] using this
end Go.Proofs.Ytnleclohocdkaaa
namespace Go.Proofs.Ytnleclohocdkaaa
open Go.V Go
structure PL where
 dn : Bool
 best : Cps
 ths : List Thr
def PL.ok (n : Nat) (l : PL) : Prop := (∀ t ∈ l.ths,t.pc < n) /\ l.ths.length <= 1000
end Go.Proofs.Ytnleclohocdkaaa
namespace Go.Proofs.Ytnleclohocdkaaa
open Go.V Go
def VL.pl (l : VL) : PL := ⟨l.dn,l.best,l.ths⟩
theorem MH.mono {A : List Ent} {N : Nat} {S st : St} {ks kv : Nat} {p : Pg} {pl : Nat} {ld : D} {L : List VL} {H : List Ent} (n : Nat) (h : MH A N S st ks kv p pl ld L H) : MH (A.drop n) N S st ks kv p pl ld L H := by
 obtain ⟨pd,qd,P,Q,sn,hH,hok,hsn⟩ := h;refine ⟨pd,qd,P,Q,sn,?_,hok,hsn⟩
 rcases Nat.le_total n A.length with hn | hn
 ·have := hH.drop n
  rwa [List.drop_append_of_le_length hn] at this
 ·have := hH.drop A.length;rw [List.drop_append_of_le_length (Nat.le_refl _),List.drop_length] at this;rw [List.drop_eq_nil_of_le hn]; exact this
end Go.Proofs.Ytnleclohocdkaaa
namespace Go.Proofs.Ytnleclohocdkaaa
open Go.V Go
section
variable {stp : Tr3 -> Res}
theorem run_app {s s1 : Sn} {A : List Tr3} {r1 : Option Cps} (h : Run stp s A r1 s1) : ∀ B,(∀ c,r1 = some c -> ∃ s2,Run stp s (A ++ B) (some c) s2) /\ (r1 = none -> ∀ r s2,Run stp s1 B r s2 -> Run stp s (A ++ B) r s2) := by
  induction h with
  | nil => exact fun B => ⟨fun c h => (by cases h),fun _ r s2 h => h⟩
  | old ht _ ih =>
    intro B
    obtain ⟨h1,h2⟩ := ih B
    exact ⟨fun c hc => (by obtain ⟨s2,h⟩ := h1 c hc; exact ⟨s2, .old ht h⟩),fun hn r s2 h => .old ht (h2 hn r s2 h)⟩
  | found ht hf => exact fun B => ⟨fun c hc => (by cases hc; exact ⟨_, .found ht hf⟩),fun hn => (by cases hn)⟩
  | @more s s' t stk l r ht hm _ ih =>
    intro B
    obtain ⟨h1,h2⟩ := ih B
    rw [List.append_assoc] at h1 h2
    exact ⟨fun c hc => (by obtain ⟨s2,h⟩ := h1 c hc; exact ⟨s2, .more ht hm h⟩),fun hn r s2 h => .more ht hm (h2 hn r s2 h)⟩
theorem run_split {s s2 : Sn} {X : List Tr3} {r : Option Cps} (h : Run stp s X r s2) : ∀ A B,X = A ++ B -> (∃ c s1,r = some c /\ Run stp s A (some c) s1) \/ ∃ s1,Run stp s A none s1 /\ Run stp s1 B r s2 := by
  induction h with
  | nil =>
    intro A B h
    obtain ⟨rfl,rfl⟩ := List.append_eq_nil_iff.1 h.symm
    exact .inr ⟨_, .nil, .nil⟩
  | @old s s' t stk r ht hr ih =>
    intro A B h
    cases A with
    | nil => rw [List.nil_append] at h; subst h; exact .inr ⟨_, .nil, .old ht hr⟩
    | cons a A =>
      rw [List.cons_append] at h
      obtain ⟨rfl,rfl⟩ := List.cons.inj h
      rcases ih A B rfl with ⟨c,s1,h1,h2⟩ | ⟨s1,h1,h2⟩
      · exact .inl ⟨c,s1,h1, .old ht h2⟩
      · exact .inr ⟨s1, .old ht h1,h2⟩
  | @found s t stk ht hf =>
    intro A B h
    cases A with
    | nil => rw [List.nil_append] at h; subst h; exact .inr ⟨_, .nil, .found ht hf⟩
    | cons a A =>
      rw [List.cons_append] at h
      obtain ⟨rfl,rfl⟩ := List.cons.inj h
      exact .inl ⟨_,_,rfl, .found ht hf⟩
  | @more s s' t stk l r ht hm hr ih =>
    intro A B h
    cases A with
    | nil => rw [List.nil_append] at h; subst h; exact .inr ⟨_, .nil, .more ht hm hr⟩
    | cons a A =>
      rw [List.cons_append] at h
      obtain ⟨rfl,rfl⟩ := List.cons.inj h
      rcases ih (l ++ A) B (by rw [List.append_assoc]) with ⟨c,s1,h1,h2⟩ | ⟨s1,h1,h2⟩
      · exact .inl ⟨c,s1,h1, .more ht hm h2⟩
      · exact .inr ⟨s1, .more ht hm h1,h2⟩
def Ag (k : Nat) (s s' : Sn) : Prop := ∀ a b,k < b -> s a b = s' a b
theorem Ag.symm {k : Nat} {s s' : Sn} (h : Ag k s s') : Ag k s' s := fun a b hb => (h a b hb).symm
theorem Ag.trans {k : Nat} {s s' s'' : Sn} (h : Ag k s s') (h2 : Ag k s' s'') : Ag k s s'' := fun a b hb => (h a b hb).trans (h2 a b hb)
theorem Ag.upd {k : Nat} {s : Sn} {t : Tr3} (ht : t.at_ = k) : Ag k s (updS s t) := fun a b hb => by
  unfold updS; rw [if_neg (by omega)]
end
section
variable {code : List PIns} {ns : Nat} {gs : List (Nat × Nat)} {pls : List Int} {k pl : Nat} {e : Bool}
end
theorem findP_run {idx : Nat -> Nat -> Nat} {ok : Nat -> Nat -> Prop} {stp : Tr3 -> Res} (hI : InjS idx ok) (hK : KeepS stp ok) {fuel start : Nat} : ∀ (m i : Nat) (arr : List Bool) (V : Sn),RelS idx ok arr V -> (∀ j,j < i + m -> ok start j) -> 3 * arr.length + 1 <= fuel -> ∃ s',Run stp V ((List.range' i m).map fun j => ⟨start,j,noCaps⟩) (findP idx stp fuel start m i arr) s'
  | 0,i,arr,V,_,_,_ => ⟨V, .nil⟩
  | m + 1,i,arr,V,hr,hst,hf => by
    have hc1 := List.count_le_length (a := false) (l := arr)
    obtain ⟨sP,hrun,hrel⟩ := dfsF_run hI hK fuel arr [⟨start,i,noCaps⟩] V (by simp only [List.length_cons,List.length_nil]; omega) hr (fun t ht => by
      simp only [List.mem_cons,List.not_mem_nil,or_false] at ht
      subst ht
      exact hst i (by omega))
    unfold findP
    rw [List.range'_succ,List.map_cons]
    cases hQ : (dfsF idx stp fuel arr [⟨start,i,noCaps⟩]).1 with
    | some c =>
      rw [hQ] at hrun
      exact (run_app hrun _).1 c rfl
    | none =>
      rw [hQ] at hrun
      obtain ⟨s',h⟩ := findP_run hI hK m (i + 1) _ sP hrel (fun j hj => hst j (by omega)) (by rw [dfsF_len]; exact hf)
      exact ⟨s',(run_app hrun _).2 rfl _ _ h⟩
end Go.Proofs.Ytnleclohocdkaaa
namespace Go.Proofs.Ytnleclohocdkaaa
open Go.V Go
theorem find_run {p : Pg} (hR : RightQ p) {r : Nat} {start : Int} (hs : p.starts[r]? = some start) (b : List UInt8) : ∃ s',Run (stepS p.code (allS b) (plS 0 (allS b))) (fun _ _ => false) ((List.range' 0 ((allS b).length + 1)).map fun j => ⟨start.toNat,j,noCaps⟩) (progFind p (r : Nat) b) s' := by
  have hst := hR.st start (List.mem_of_getElem? hs)
  have hlt := lt_get hs
  unfold progFind
  rw [if_pos ⟨dec_yes hR,by omega,by omega⟩]
  have hgd : (p.starts.getD ((r : Nat) : Int).toNat 0).toNat = start.toNat := by
    rw [Int.toNat_natCast,List.getD_eq_getElem?_getD,hs]; rfl
  rw [hgd]
  generalize allS b = gs at *
  exact findP_run (idx := idxP p.code.length) (ok := fun a b => a < p.code.length /\ b <= gs.length) (stp := stepS p.code gs (plS 0 gs)) (fuel := 3 * ((gs.length + 1) * p.code.length) + 1) (start := start.toNat) (by
      rintro a b a' b' ⟨q1,q2⟩ ⟨q3,q4⟩ he
      obtain ⟨r1,r2⟩ := mul_inj q1 q3 he
      exact ⟨r2,r1⟩) (fun t l ht hl => ⟨step_len _ _ _ _ _ hl,fun u hu => step_ok (p := p) hR ht l hl u hu⟩) (gs.length + 1) 0 (List.replicate ((gs.length + 1) * p.code.length) false) (fun _ _ => false) (by
      rintro a b ⟨q1,q2⟩
      unfold idxP
      rw [List.getElem?_replicate,if_pos (mul_lt (by omega) q1)]) (fun j hj => ⟨by omega,by omega⟩) (by rw [List.length_replicate]; exact Nat.le_refl _)
end Go.Proofs.Ytnleclohocdkaaa
namespace Go.Proofs.Ytnleclohocdkaaa
open Go.V Go
end Go.Proofs.Ytnleclohocdkaaa
namespace Go.Proofs.Ytnleclohocdkaaa
open Go.V Go
theorem parse_comp {b : List UInt8} (h : (compileS [(parseX b).1]).e = 0) : (parseX b).2.1 = 0 := by
  obtain ⟨h1,_,_⟩ := compile_one_ok h
  have hne : (parseX b).1 ≠ [] := by
    intro h2
    rw [h2] at h1
    unfold rightN at h1
    simp at h1
  unfold parseX at hne ⊢
  split
  · rename_i h3; rw [if_pos h3] at hne; exact absurd rfl hne
  · rename_i h3
    rw [if_neg h3] at hne
    unfold parseR at hne ⊢
    split
    · rename_i h4; rw [h4] at hne; exact absurd rfl hne
    · rename_i h4
      rw [h4] at hne
      simp only at hne
      split
      · rename_i h5; rw [if_pos h5] at hne; exact absurd rfl hne
      · rfl
end Go.Proofs.Ytnleclohocdkaaa
namespace Go.Proofs.Ytnleclohocdkaaa
open Go.V Go
def erN (n : Nod) : Nod := ⟨n.op,n.rd,n.rs,n.mn,n.mx,n.lz,1,n.kids⟩
mutual
def Tr.er : Tr -> Tr
  | .mk n ks => .mk (erN n) ks.er
def Trs.er : Trs -> Trs
  | .nil => .nil
  | .cons t ts => .cons t.er ts.er
end
theorem er_len : ∀ ts : Trs,ts.er.len = ts.len
  | .nil => rfl
  | .cons t ts => by simp only [Trs.er,Trs.len,er_len ts]
mutual
theorem er_sz : ∀ t : Tr,t.er.sz = t.sz
  | .mk n ks => by
    have h1 := er_szs ks
    have h2 := er_len ks
    simp only [Tr.er,Tr.sz,h1,h2]; rfl
theorem er_szs : ∀ ts : Trs,ts.er.sz = ts.sz
  | .nil => rfl
  | .cons t ts => by
    have h1 := er_sz t
    have h2 := er_szs ts
    simp only [Trs.er,Trs.sz,h1,h2]
end
mutual
theorem er_flat : ∀ t : Tr,t.er.flat = t.flat.map erN
  | .mk n ks => by
    have h1 := er_flats ks
    simp only [Tr.er,Tr.flat,h1,List.map_cons]
theorem er_flats : ∀ ts : Trs,ts.er.flat = ts.flat.map erN
  | .nil => rfl
  | .cons t ts => by
    have h1 := er_flat t
    have h2 := er_flats ts
    simp only [Trs.er,Trs.flat,h1,h2,List.map_append]
end
theorem erN_ok {n : Nod} {k : Nat} (h : nodOk n k) : nodOk (erN n) k := by
  obtain ⟨h1,h2⟩ := h
  refine ⟨h1,?_⟩
  rcases h2 with h2 | h2 | h2 | h2 | ⟨a,b,c,d⟩
  · exact .inl h2
  · exact .inr (.inl h2)
  · exact .inr (.inr (.inl h2))
  · exact .inr (.inr (.inr (.inl h2)))
  · exact .inr (.inr (.inr (.inr ⟨a,b,by show (1 : Int) <= 1; omega,by show (1 : Int) <= 4; omega⟩)))
mutual
theorem er_ok : ∀ t : Tr,t.ok -> t.er.ok
  | .mk n ks,h => by
    simp only [Tr.ok] at h
    simp only [Tr.er,Tr.ok]
    exact ⟨by rw [er_len]; exact erN_ok h.1,er_oks ks h.2⟩
theorem er_oks : ∀ ts : Trs,ts.ok -> ts.er.ok
  | .nil,h => h
  | .cons t ts,h => by
    simp only [Trs.ok] at h
    simp only [Trs.er,Trs.ok]
    exact ⟨er_ok t h.1,er_oks ts h.2⟩
end
def cI (i : PIns) : PIns := if i.op = 4 then mkI 4 (2 + i.x % 2) 0 [] else i
theorem cI_mk {op : Int} (x y : Int) (rs : List Rg) (h : op ≠ 4) : cI (mkI op x y rs) = mkI op x y rs := by
  unfold cI; rw [if_neg (show ¬ (mkI op x y rs).op = 4 from h)]
theorem cI_sp (s o : Nat) (lz : Bool) : cI (spI s o lz) = spI s o lz := by
  cases lz <;> exact cI_mk _ _ _ (by decide)
theorem cI_jp (e : Nat) : cI (jpI e) = jpI e := cI_mk _ _ _ (by decide)
theorem cI_sv (c : Int) : cI (mkI 4 (2 * c) 0 []) = mkI 4 (2 * 1) 0 [] /\ cI (mkI 4 (2 * c + 1) 0 []) = mkI 4 (2 * 1 + 1) 0 [] := by
  have e : ∀ x : Int,cI (mkI 4 x 0 []) = mkI 4 (2 + x % 2) 0 [] := fun x => by unfold cI; rw [if_pos (show (mkI 4 x 0 []).op = 4 from rfl)]; rfl
  rw [e,e]
  constructor
  · rw [show 2 + 2 * c % 2 = 2 * 1 by omega]
  · rw [show 2 + (2 * c + 1) % 2 = 2 * 1 + 1 by omega]
theorem repC_c {c c' : Nat -> List PIns} {z : Nat} (hc : ∀ b,c' b = (c b).map cI) : ∀ k b,repC c' z k b = (repC c z k b).map cI
  | 0,b => rfl
  | k + 1,b => by rw [repC,repC,List.map_append,hc,repC_c hc k]
theorem optC_c {sp : Nat -> PIns} {c c' : Nat -> List PIns} {z : Nat} (hs : ∀ s,cI (sp s) = sp s) (hc : ∀ b,c' b = (c b).map cI) : ∀ k b,optC sp c' z k b = (optC sp c z k b).map cI
  | 0,b => rfl
  | k + 1,b => by rw [optC,optC,List.map_cons,List.map_append,hs,hc,optC_c hs hc k]
theorem rptC_c {n : Nod} {c c' : Nat -> List PIns} {z b : Nat} (hc : ∀ b,c' b = (c b).map cI) : rptC (erN n) c' z b = (rptC n c z b).map cI := by
  unfold rptC
  show (if n.mx = -1 then _ else _) = _
  split
  · rw [List.map_append,List.map_cons,List.map_append,List.map_cons,List.map_nil,cI_sp,cI_jp,repC_c hc,hc]
    rfl
  · rw [List.map_append,repC_c hc, <- optC_c (fun s => cI_sp _ _ _) hc]
    rfl
mutual
theorem codeT_er : ∀ (t : Tr) (b : Nat),codeT t.er b = (codeT t b).map cI
  | .mk n ks,b => by
    have hc := fun b => catT_er ks b
    have ha := fun e b => altT_er e ks b
    have hz := er_szs ks
    have hl := er_len ks
    simp only [Tr.er,codeT]
    show (if n.op = 2 then _ else _) = _
    split
    · rw [List.map_cons,List.map_nil,cI_mk _ _ _ (by decide)]; rfl
    show (if n.op = 7 then _ else _) = _
    split
    · rw [List.map_cons,List.map_nil,cI_mk _ _ _ (by decide)]
    show (if n.op = 8 then _ else _) = _
    split
    · rw [List.map_cons,List.map_nil,cI_mk _ _ _ (by decide)]
    show (if n.op = 3 then _ else _) = _
    split
    · exact hc b
    show (if n.op = 4 then _ else _) = _
    split
    · have e : nodSz (erN n) ks.er.sz ks.er.len = nodSz n ks.sz ks.len := by rw [hz,hl]; rfl
      rw [e]; exact ha _ b
    show (if n.op = 5 then _ else _) = _
    split
    · rw [hz]; exact rptC_c hc
    show (if n.op = 6 then _ else _) = _
    split
    · rw [List.map_cons,List.map_append,List.map_cons,List.map_nil,(cI_sv n.cap).1,(cI_sv n.cap).2,hc]
      rfl
    · rfl
theorem catT_er : ∀ (ts : Trs) (b : Nat),catT ts.er b = (catT ts b).map cI
  | .nil,b => rfl
  | .cons t ts,b => by
    simp only [Trs.er,catT,List.map_append]
    rw [codeT_er t b,er_sz t,catT_er ts]
theorem altT_er : ∀ (e : Nat) (ts : Trs) (b : Nat),altT (jpI e) ts.er b = (altT (jpI e) ts b).map cI
  | e, .nil,b => rfl
  | e, .cons t ts,b => by
    have h := altT_er e ts (b + t.sz + 2)
    have h1 := fun b => codeT_er t b
    have hz := er_sz t
    have hl := er_len ts
    simp only [Trs.er,altT]
    rw [hl,hz]
    split
    · exact h1 b
    · rw [List.map_cons,List.map_append,List.map_cons,cI_sp,cI_jp,h1,h]
end
def SI (d : Nat) (i i' : PIns) : Prop := i'.op = i.op /\ (i.op ≠ 4 -> i'.rs = i.rs) /\ (i.op = 2 -> i'.x.toNat = i.x.toNat + d /\ i'.y.toNat = i.y.toNat + d) /\ (i.op = 3 -> i'.x.toNat = i.x.toNat + d) /\ (i.op = 4 -> 2 <= i.x.toNat /\ 2 <= i'.x.toNat)
def InP (n : Nat) (i : PIns) : Prop := i.op ≠ 7 /\ (i.op = 2 -> (1 <= i.x.toNat /\ i.x.toNat <= n + 1) /\ 1 <= i.y.toNat /\ i.y.toNat <= n + 1) /\ (i.op = 3 -> 1 <= i.x.toNat /\ i.x.toNat <= n + 1)
structure Part (C C3 : List PIns) (n d r : Nat) : Prop where
  ins : ∀ pc i,1 <= pc -> pc <= n -> C[pc]? = some i -> InP n i /\ ∃ i',C3[pc + d]? = some i' /\ SI d i i'
  b : C[0]? = some (mkI 4 0 0 [])
  sv : C[n + 1]? = some (mkI 4 1 0 [])
  mt : C[n + 2]? = some (mkI 7 (r : Nat) 0 [])
inductive ZR (n d : Nat) (v : Int) : List Tr3 -> List Tr3 -> Prop
  | nil : ZR n d v [] []
  | cons {t t' : Tr3} {l l' : List Tr3} : 1 <= t.pc -> t.pc <= n + 1 -> t'.pc = t.pc + d -> t'.at_ = t.at_ -> t.c 0 = v -> t'.c 0 = v -> ZR n d v l l' -> ZR n d v (t :: l) (t' :: l')
theorem ZR.app {n d : Nat} {v : Int} {l l' m m' : List Tr3} (h : ZR n d v l l') (k : ZR n d v m m') : ZR n d v (l ++ m) (l' ++ m') := by
  induction h with
  | nil => exact k
  | cons a b c e f g _ ih => exact .cons a b c e f g ih
theorem ZR.one {n d : Nat} {v : Int} {t t' : Tr3} (a : 1 <= t.pc) (b : t.pc <= n + 1) (c : t'.pc = t.pc + d) (e : t'.at_ = t.at_) (f : t.c 0 = v) (g : t'.c 0 = v) : ZR n d v [t] [t'] := .cons a b c e f g .nil
section
variable {C C3 : List PIns} {gs : List (Nat × Nat)} {pl : List Int} {n d r : Nat} {v : Int}
theorem set_other (c : Cps) {x : Nat} (h : 2 <= x) (w : Int) : setC c x w 0 = c 0 := by unfold setC; rw [if_neg (by omega)]
theorem part_step (hP : Part C C3 n d r) {t t' : Tr3} (h1 : 1 <= t.pc) (h2 : t.pc <= n) (e1 : t'.pc = t.pc + d) (e2 : t'.at_ = t.at_) (v1 : t.c 0 = v) (v2 : t'.c 0 = v) : ∃ l l',stepS C gs pl t = .more l /\ stepS C3 gs pl t' = .more l' /\ ZR n d v l l' := by
  have hlt : n + 2 < C.length := lt_get hP.mt
  obtain ⟨i,hi⟩ : ∃ i,C[t.pc]? = some i := ⟨C[t.pc]'(by omega),List.getElem?_eq_getElem _⟩
  obtain ⟨⟨q1,q2,q3⟩,i',hi',s1,s2,s3,s4,s5⟩ := hP.ins t.pc i h1 h2 hi
  obtain ⟨pc,at_,c⟩ := t
  obtain ⟨pc',at',c'⟩ := t'
  simp only at h1 h2 e1 e2 v1 v2 hi hi'
  subst e1; subst e2
  unfold stepS
  simp only [hi,hi',s1]
  rw [if_neg q1,if_neg q1]
  by_cases g2 : i.op = 2
  · rw [if_pos g2,if_pos g2]
    obtain ⟨a,b⟩ := s3 g2
    obtain ⟨a1,a2⟩ := q2 g2
    exact ⟨_,_,rfl,rfl, .cons a1.1 a1.2 a rfl v1 v2 (.cons a2.1 a2.2 b rfl v1 v2 .nil)⟩
  rw [if_neg g2,if_neg g2]
  by_cases g3 : i.op = 3
  · rw [if_pos g3,if_pos g3]
    exact ⟨_,_,rfl,rfl,ZR.one (q3 g3).1 (q3 g3).2 (s4 g3) rfl v1 v2⟩
  rw [if_neg g3,if_neg g3]
  have e : pc + d + 1 = pc + 1 + d := by omega
  by_cases g4 : i.op = 4
  · rw [if_pos g4,if_pos g4]
    obtain ⟨a,b⟩ := s5 g4
    exact ⟨_,_,rfl,rfl,ZR.one (by simp only; omega) (by simp only; omega) e rfl ((set_other _ a _).trans v1) ((set_other _ b _).trans v2)⟩
  rw [if_neg g4,if_neg g4]
  have opt : ∀ (q : Prop) [Decidable q] (x : Nat),ZR n d v (if q then [⟨pc + 1,x,c⟩] else []) (if q then [⟨pc + d + 1,x,c'⟩] else []) := by
    intro q _ x
    by_cases hq : q
    · rw [if_pos hq,if_pos hq]
      exact ZR.one (by simp only; omega) (by simp only; omega) e rfl v1 v2
    · rw [if_neg hq,if_neg hq]; exact .nil
  by_cases g5 : i.op = 5
  · rw [if_pos g5,if_pos g5]; exact ⟨_,_,rfl,rfl,opt _ _⟩
  rw [if_neg g5,if_neg g5]
  by_cases g6 : i.op = 6
  · rw [if_pos g6,if_pos g6]; exact ⟨_,_,rfl,rfl,opt _ _⟩
  rw [if_neg g6,if_neg g6,s2 g4]
  exact ⟨_,_,rfl,rfl,opt _ _⟩
theorem step_sv {pc x : Nat} (h : C[pc]? = some (mkI 4 (x : Nat) 0 [])) (a : Nat) (c : Cps) : stepS C gs pl ⟨pc,a,c⟩ = .more [⟨pc + 1,a,setC c x (pl.getD a 0)⟩] := by
  unfold stepS; rw [h]
  simp only [mkI,Int.reduceEq,if_false,if_true,Int.toNat_natCast]
theorem step_mt {pc : Nat} {x : Int} (h : C[pc]? = some (mkI 7 x 0 [])) (a : Nat) (c : Cps) : stepS C gs pl ⟨pc,a,c⟩ = .found := by
  unfold stepS; rw [h]
  simp only [mkI,if_true]
theorem step_jp {pc e : Nat} (h : C[pc]? = some (jpI e)) (a : Nat) (c : Cps) : stepS C gs pl ⟨pc,a,c⟩ = .more [⟨e,a,c⟩] := by
  unfold stepS; rw [h]
  simp only [jpI,mkI,Int.reduceEq,if_false,if_true,Int.toNat_natCast]
theorem step_sp {pc s o : Nat} (h : C[pc]? = some (spI s o false)) (a : Nat) (c : Cps) : stepS C gs pl ⟨pc,a,c⟩ = .more [⟨s + 1,a,c⟩,⟨o,a,c⟩] := by
  unfold stepS; rw [h]
  simp only [spI,mkI,Int.reduceEq,Bool.false_eq_true,if_false,if_true,Int.toNat_natCast]
theorem upd_ne {s : Sn} {t : Tr3} {a b : Nat} (h : a ≠ t.pc) : updS s t a b = s a b := by unfold updS; rw [if_neg (fun h2 => h h2.1)]
theorem upd_ne2 {s : Sn} {t : Tr3} {a b : Nat} (h : b ≠ t.at_) : updS s t a b = s a b := by unfold updS; rw [if_neg (fun h2 => h h2.2)]
theorem end_run {s : Sn} {a x y : Nat} {c : Cps} {rest : List Tr3} (h1 : C[x]? = some (mkI 4 1 0 [])) (h2 : C[x + 1]? = some (mkI 7 (y : Nat) 0 [])) (s1 : s x a = false) (s2 : s (x + 1) a = false) : ∃ s',Run (stepS C gs pl) s (⟨x,a,c⟩ :: rest) (some (setC c 1 (pl.getD a 0))) s' :=
  ⟨_, .more s1 (step_sv (x := 1) h1 a c) (.found (t := ⟨x + 1,a,_⟩) ((upd_ne (by simp only; omega)).trans s2) (step_mt h2 a _))⟩
theorem Run.inv_more {stp : Tr3 -> Res} {s s' : Sn} {t : Tr3} {stk l : List Tr3} {r : Option Cps} (h : Run stp s (t :: stk) r s') (h1 : s t.pc t.at_ = false) (h2 : stp t = .more l) : Run stp (updS s t) (l ++ stk) r s' := by
  cases h with
  | old h' _ => rw [h1] at h'; cases h'
  | found _ h' => rw [h2] at h'; cases h'
  | more _ h' h'' => rw [h2] at h'; cases h'; exact h''
theorem part_run (hP : Part C C3 n d r) {XR : Nat -> Prop} (hX : ∀ pc,XR pc -> pc < 1 + d \/ n + d < pc) (ext : ∀ (z : Sn) (a : Nat) (c : Cps) (rest : List Tr3),(∀ pc b,XR pc -> z pc b = false) -> ∃ z',Run (stepS C3 gs pl) z (⟨n + 1 + d,a,c⟩ :: rest) (some (setC c 1 (pl.getD a 0))) z') {s s1 : Sn} {stk : List Tr3} {ro : Option Cps} (hr : Run (stepS C gs pl) s stk ro s1) : ∀ (stk3 : List Tr3) (z : Sn) (rest : List Tr3),ZR n d v stk stk3 -> (∀ b,s (n + 1) b = false /\ s (n + 2) b = false) -> (∀ a b,1 <= a -> a <= n -> z (a + d) b = s a b) -> (∀ pc b,XR pc -> z pc b = false) ->
    (ro = none -> ∃ z',(∀ a b,1 <= a -> a <= n -> z' (a + d) b = s1 a b) /\ (∀ pc b,(pc < 1 + d \/ n + d < pc) -> z' pc b = z pc b) /\ (∀ b,s1 (n + 1) b = false /\ s1 (n + 2) b = false) /\ (∀ b,s1 0 b = s 0 b) /\ ∀ r3 z3,Run (stepS C3 gs pl) z' rest r3 z3 -> Run (stepS C3 gs pl) z (stk3 ++ rest) r3 z3) /\
    (∀ c,ro = some c -> c 0 = v /\ ∃ c' z',Run (stepS C3 gs pl) z (stk3 ++ rest) (some c') z' /\ c' 0 = v /\ c' 1 = c 1) := by
  induction hr with
  | nil =>
    intro stk3 z rest hz hs hzs hx
    cases hz
    exact ⟨fun _ => ⟨z,hzs,fun _ _ _ => rfl,hs,fun _ => rfl,fun _ _ h => h⟩,fun c h => by cases h⟩
  | @old s s1 t stk ro h1 _ ih =>
    intro stk3 z rest hz hs hzs hx
    cases hz with
    | cons a b c e f g hz =>
      have hn : t.pc <= n := by
        rcases Nat.lt_or_ge n t.pc with h | h
        · have : t.pc = n + 1 := by omega
          rw [this,(hs _).1] at h1; cases h1
        · exact h
      obtain ⟨i1,i2⟩ := ih _ z rest hz hs hzs hx
      rename_i t' l'
      have hold : z t'.pc t'.at_ = true := by rw [c,e,hzs _ _ a hn]; exact h1
      refine ⟨fun hr => ?_,fun c hc => ?_⟩
      · obtain ⟨z',q1,q2,q3,q4,q5⟩ := i1 hr
        exact ⟨z',q1,q2,q3,q4,fun r3 z3 h => .old hold (q5 r3 z3 h)⟩
      · obtain ⟨q1,c',z',q2,q3⟩ := i2 c hc
        exact ⟨q1,c',z', .old hold q2,q3⟩
  | @found s t stk h1 h2 =>
    intro stk3 z rest hz hs hzs hx
    cases hz with
    | cons a b c e f g hz =>
      exfalso
      rcases Nat.lt_or_ge n t.pc with h | h
      · have h3 : t.pc = n + 1 := by omega
        obtain ⟨pc,at_,cc⟩ := t
        simp only at h3
        subst h3
        rw [step_sv (x := 1) hP.sv] at h2; cases h2
      · obtain ⟨l,l',h3,_⟩ := part_step (gs := gs) (pl := pl) hP a h c e f g
        rw [h3] at h2; cases h2
  | @more s s1 t stk l ro h1 h2 hrun ih =>
    intro stk3 z rest hz hs hzs hx
    cases hz with
    | cons a b c e f g hz =>
      rename_i t' l'
      rcases Nat.lt_or_ge n t.pc with h | h
      · have h3 : t.pc = n + 1 := by omega
        obtain ⟨pc,at_,cc⟩ := t
        obtain ⟨pc',at',cc'⟩ := t'
        simp only at h3 c e f g h1
        subst h3; subst e
        rw [step_sv (x := 1) hP.sv] at h2
        cases h2
        have hm := step_mt (gs := gs) (pl := pl) hP.mt at' (setC cc 1 (pl.getD at' 0))
        have hu : updS s ⟨n + 1,at',cc⟩ (n + 2) at' = false := (upd_ne (by simp only; omega)).trans (hs _).2
        have hro : ro = some (setC cc 1 (pl.getD at' 0)) := by
          cases hrun with
          | old h' _ => rw [show n + 1 + 1 = n + 2 from rfl,hu] at h'; cases h'
          | found _ _ => rfl
          | more _ h' _ => rw [hm] at h'; cases h'
        subst hro
        refine ⟨fun h => (by cases h),fun c hc => ?_⟩
        cases hc
        obtain ⟨z',hz'⟩ := ext z at' cc' (l' ++ rest) hx
        refine ⟨by show setC cc 1 _ 0 = v; unfold setC; rw [if_neg (by decide)]; exact f,setC cc' 1 (pl.getD at' 0),z',by rw [c]; exact hz',by show setC cc' 1 _ 0 = v; unfold setC; rw [if_neg (by decide)]; exact g,rfl⟩
      · obtain ⟨l1,l3,h3,h4,h5⟩ := part_step (gs := gs) (pl := pl) hP a h c e f g
        rw [h3] at h2
        cases h2
        have hnew : z t'.pc t'.at_ = false := by rw [c,e,hzs _ _ a h]; exact h1
        obtain ⟨i1,i2⟩ := ih (l3 ++ l') (updS z t') rest (h5.app hz) (fun b => ⟨(upd_ne (by omega)).trans (hs b).1,(upd_ne (by omega)).trans (hs b).2⟩) (fun x b h6 h7 => by
          unfold updS
          by_cases hc : x = t.pc /\ b = t.at_
          · rw [if_pos ⟨by omega,by omega⟩,if_pos hc]
          · rw [if_neg (fun hq => hc ⟨by omega,by omega⟩),if_neg hc]; exact hzs x b h6 h7) (fun pc b hq => by
          have := hX pc hq
          exact (upd_ne (by omega)).trans (hx pc b hq))
        refine ⟨fun hr => ?_,fun c hc => ?_⟩
        · obtain ⟨z',q1,q2,q3,q4,q5⟩ := i1 hr
          refine ⟨z',q1,fun pc b hq => (q2 pc b hq).trans (upd_ne (by omega)),q3,fun b => (q4 b).trans (upd_ne (by omega)),fun r3 z3 hR => ?_⟩
          have h8 := q5 r3 z3 hR
          rw [List.append_assoc] at h8
          exact .more hnew h4 h8
        · obtain ⟨q1,c',z',q2,q3⟩ := i2 c hc
          rw [List.append_assoc] at q2
          exact ⟨q1,c',z', .more hnew h4 q2,q3⟩
theorem run_inv {stp : Tr3 -> Res} {P : Tr3 -> Prop} (hst : ∀ t l,P t -> stp t = .more l -> ∀ u ∈ l,P u) {s s' : Sn} {stk : List Tr3} {ro : Option Cps} (hr : Run stp s stk ro s') : (∀ t ∈ stk,P t) -> ∀ c,ro = some c -> ∃ t,P t /\ stp t = .found /\ t.c = c := by
  induction hr with
  | nil => intro _ c h; cases h
  | old _ _ ih => exact fun h c hc => ih (fun t ht => h t (List.mem_cons_of_mem _ ht)) c hc
  | found _ h2 => exact fun h c hc => ⟨_,h _ (List.mem_cons_self ..),h2,Option.some.inj hc⟩
  | more _ h2 _ ih => exact fun h c hc => ih (fun t ht => by
      rcases List.mem_append.1 ht with ht | ht
      · exact hst _ _ (h _ (List.mem_cons_self ..)) h2 t ht
      · exact h t (List.mem_cons_of_mem _ ht)) c hc
end
def beg (i m : Nat) : List Tr3 := (List.range' i m).map fun j => ⟨0,j,noCaps⟩
theorem beg_succ (i m : Nat) : beg i (m + 1) = ⟨0,i,noCaps⟩ :: beg (i + 1) m := by unfold beg; rw [List.range'_succ]; rfl
theorem run_low {C C3 : List PIns} {gs : List (Nat × Nat)} {n d r i m : Nat} (hP : Part C C3 n d r) (him : i + m <= gs.length + 1) {s s' : Sn} {c : Cps} (hr : Run (stepS C gs (plS 0 gs)) s (beg i m) (some c) s') : (plS 0 gs).getD i 0 <= c 0 := by
  obtain ⟨t,h1,h2,h3⟩ := run_inv (P := fun t => (t.pc = 0 /\ i <= t.at_ /\ t.at_ <= gs.length) \/ (1 <= t.pc /\ t.pc <= n + 2 /\ (plS 0 gs).getD i 0 <= t.c 0)) (fun t l ht hl u hu => by
    rcases ht with ⟨a,b,c⟩ | ⟨a,b,c⟩
    · obtain ⟨pc,at_,cc⟩ := t
      simp only at a b c
      subst a
      rw [step_sv (x := 0) hP.b] at hl
      cases hl
      simp only [List.mem_cons,List.not_mem_nil,or_false] at hu
      subst hu
      exact .inr ⟨by simp,by simp,plS_mono gs i at_ b c⟩
    · rcases Nat.lt_or_ge n t.pc with h | h
      · rcases Nat.lt_or_ge (n + 1) t.pc with h4 | h4
        · obtain ⟨pc,at_,cc⟩ := t
          simp only at a b c h h4
          obtain rfl : pc = n + 2 := by omega
          rw [step_mt hP.mt] at hl; cases hl
        · obtain ⟨pc,at_,cc⟩ := t
          simp only at a b c h h4
          obtain rfl : pc = n + 1 := by omega
          rw [step_sv (x := 1) hP.sv] at hl
          cases hl
          simp only [List.mem_cons,List.not_mem_nil,or_false] at hu
          subst hu
          exact .inr ⟨by simp,by simp,c⟩
      · obtain ⟨l1,l2,e1,_,hz⟩ := part_step (gs := gs) (pl := plS 0 gs) (v := t.c 0) hP (t := t) (t' := ⟨t.pc + d,t.at_,t.c⟩) a h rfl rfl rfl rfl
        rw [e1] at hl
        cases hl
        have key : ∀ {l l' : List Tr3},ZR n d (t.c 0) l l' -> ∀ u ∈ l,1 <= u.pc /\ u.pc <= n + 1 /\ u.c 0 = t.c 0 := by
          intro l l' hz
          induction hz with
          | nil => intro u hu; cases hu
          | cons a b _ _ f _ _ ih =>
            intro u hu
            rcases List.mem_cons.1 hu with rfl | hu
            · exact ⟨a,b,f⟩
            · exact ih u hu
        obtain ⟨k1,k2,k3⟩ := key hz u hu
        exact .inr ⟨k1,by omega,by rw [k3]; exact c⟩) hr (fun t ht => by
    unfold beg at ht
    obtain ⟨j,hj,rfl⟩ := List.mem_map.1 ht
    have := List.mem_range'_1.1 hj
    exact .inl ⟨rfl,by simp only; omega,by simp only; omega⟩) c rfl
  rcases h1 with ⟨a,_,_⟩ | ⟨_,_,h4⟩
  · obtain ⟨pc,at_,cc⟩ := t
    simp only at a
    subst a
    rw [step_sv (x := 0) hP.b] at h2; cases h2
  · rw [<- h3]; exact h4
def wh (r : Option Cps) : Option (Int × Int) := r.map fun c => (c 0,c 1)
def eith : Option (Int × Int) -> Option (Int × Int) -> Option (Int × Int)
  | none,y => y
  | x,none => x
  | some a,some b => if a.1 <= b.1 then some a else some b
theorem eith_none (x : Option (Int × Int)) : eith x none = x := by cases x <;> rfl
theorem eith_assoc (x y z : Option (Int × Int)) : eith (eith x y) z = eith x (eith y z) := by
  rcases x with _ | a <;> rcases y with _ | b <;> rcases z with _ | c <;> try rfl
  · rw [eith_none,eith_none]
  · simp only [eith]
    by_cases h1 : a.1 <= b.1
    · by_cases h2 : b.1 <= c.1
      · simp only [h1,h2,if_true,eith,if_pos (show a.1 <= c.1 by omega)]
      · simp only [h1,h2,if_true,if_false,eith]
    · by_cases h2 : b.1 <= c.1
      · simp only [h1,h2,if_true,if_false,eith]
      · simp only [h1,h2,if_false,eith,if_neg (show ¬ a.1 <= c.1 by omega)]
theorem plS_lt {gs : List (Nat × Nat)} (hg : ∀ g ∈ gs,1 <= g.2) {i j : Nat} (h : i < j) (hj : j <= gs.length) : (plS 0 gs).getD i 0 < (plS 0 gs).getD j 0 := by
  have h1 := plS_mono gs (i + 1) j (by omega) hj
  have h2 := plS_getD gs i (by omega)
  have h3 := plS_getD gs (i + 1) (by omega)
  obtain ⟨g,hgg⟩ : ∃ g,gs[i]? = some g := ⟨gs[i]'(by omega),List.getElem?_eq_getElem _⟩
  rw [List.take_add_one,hgg,Option.toList_some,List.map_append,List.sum_append] at h3
  have h4 := hg g (List.mem_of_getElem? hgg)
  simp only [List.map_cons,List.map_nil,List.sum_cons,List.sum_nil] at h3
  omega
structure Eith (C1 C2 C3 : List PIns) (n1 n2 r1 r2 r3 : Nat) : Prop where
  p1 : Part C1 C3 n1 1 r1
  p2 : Part C2 C3 n2 (n1 + 2) r2
  c0 : C3[0]? = some (mkI 4 0 0 [])
  c1 : C3[1]? = some (spI 1 (n1 + 3) false)
  cj : C3[n1 + 2]? = some (jpI (n1 + n2 + 3))
  ce : C3[n1 + n2 + 3]? = some (mkI 4 1 0 [])
  cm : C3[n1 + n2 + 3 + 1]? = some (mkI 7 (r3 : Nat) 0 [])
theorem either_run {C1 C2 C3 : List PIns} {n1 n2 q1 q2 q3 : Nat} {gs : List (Nat × Nat)} (hE : Eith C1 C2 C3 n1 n2 q1 q2 q3) (hg : ∀ g ∈ gs,1 <= g.2) : ∀ (m i : Nat) (s1 s2 z s1' s2' : Sn) (r1 r2 : Option Cps),i + m = gs.length + 1 ->
    Run (stepS C1 gs (plS 0 gs)) s1 (beg i m) r1 s1' -> Run (stepS C2 gs (plS 0 gs)) s2 (beg i m) r2 s2' ->
    (∀ a b,1 <= a -> a <= n1 -> z (a + 1) b = s1 a b) -> (∀ a b,1 <= a -> a <= n2 -> z (a + (n1 + 2)) b = s2 a b) ->
    (∀ b,s1 (n1 + 1) b = false /\ s1 (n1 + 2) b = false) -> (∀ b,s2 (n2 + 1) b = false /\ s2 (n2 + 2) b = false) ->
    (∀ pc b,(pc = n1 + 2 \/ pc = n1 + n2 + 3 \/ pc = n1 + n2 + 4) -> z pc b = false) ->
    (∀ b,i <= b -> s1 0 b = false /\ s2 0 b = false /\ z 0 b = false /\ z 1 b = false) ->
    ∃ r3 z',Run (stepS C3 gs (plS 0 gs)) z (beg i m) r3 z' /\ wh r3 = eith (wh r1) (wh r2)
  | 0,i,s1,s2,z,s1',s2',r1,r2,_,h1,h2,_,_,_,_,_,_ => by
    cases h1
    cases h2
    exact ⟨none,z, .nil,rfl⟩
  | m + 1,i,s1,s2,z,s1',s2',r1,r2,him,h1,h2,hz1,hz2,he1,he2,hx,h0 => by
    obtain ⟨z1,z2,z3,z4⟩ := h0 i (Nat.le_refl _)
    rw [beg_succ] at h1 h2
    have h1 := h1.inv_more z1 (step_sv (x := 0) hE.p1.b i noCaps)
    have h2 := h2.inv_more z2 (step_sv (x := 0) hE.p2.b i noCaps)
    have hv : setC noCaps 0 ((plS 0 gs).getD i 0) 0 = (plS 0 gs).getD i 0 := by unfold setC; rw [if_pos rfl]
    generalize hc0 : setC noCaps 0 ((plS 0 gs).getD i 0) = c0 at *
    generalize hvv : (plS 0 gs).getD i 0 = v at *
    have e3 : ∀ r3 z',Run (stepS C3 gs (plS 0 gs)) (updS (updS z ⟨0,i,noCaps⟩) ⟨1,i,c0⟩) ([⟨2,i,c0⟩] ++ (⟨n1 + 3,i,c0⟩ :: beg (i + 1) m)) r3 z' -> Run (stepS C3 gs (plS 0 gs)) z (beg i (m + 1)) r3 z' := fun r3 z' h => by
      rw [beg_succ]
      refine .more z3 (step_sv (x := 0) hE.c0 i noCaps) ?_
      rw [hvv,hc0]
      exact .more (t := ⟨0 + 1,i,c0⟩) ((upd_ne (by simp)).trans z4) (step_sp hE.c1 i c0) h
    have hxx : ∀ pc b,(pc = n1 + 2 \/ pc = n1 + n2 + 3 \/ pc = n1 + n2 + 4) -> updS (updS z ⟨0,i,noCaps⟩) ⟨1,i,c0⟩ pc b = false := fun pc b h => (upd_ne (by simp only; omega)).trans ((upd_ne (by simp only; omega)).trans (hx pc b h))
    have ext2 : ∀ (z : Sn) (a : Nat) (c : Cps) (rest : List Tr3),(∀ pc b,(pc = n1 + 2 \/ pc = n1 + n2 + 3 \/ pc = n1 + n2 + 4) -> z pc b = false) -> ∃ z',Run (stepS C3 gs (plS 0 gs)) z (⟨n2 + 1 + (n1 + 2),a,c⟩ :: rest) (some (setC c 1 ((plS 0 gs).getD a 0))) z' := fun z a c rest h => by
      rw [show n2 + 1 + (n1 + 2) = n1 + n2 + 3 by omega]
      exact end_run hE.ce hE.cm (h _ _ (.inr (.inl rfl))) (h _ _ (.inr (.inr rfl)))
    have ext1 : ∀ (z : Sn) (a : Nat) (c : Cps) (rest : List Tr3),(∀ pc b,(pc = n1 + 2 \/ pc = n1 + n2 + 3 \/ pc = n1 + n2 + 4) -> z pc b = false) -> ∃ z',Run (stepS C3 gs (plS 0 gs)) z (⟨n1 + 1 + 1,a,c⟩ :: rest) (some (setC c 1 ((plS 0 gs).getD a 0))) z' := fun z a c rest h => by
      obtain ⟨z',h'⟩ := end_run (gs := gs) (pl := plS 0 gs) (s := updS z ⟨n1 + 2,a,c⟩) (a := a) (c := c) (rest := rest) hE.ce hE.cm ((upd_ne (by simp only; omega)).trans (h _ _ (.inr (.inl rfl)))) ((upd_ne (by simp only; omega)).trans (h _ _ (.inr (.inr rfl))))
      exact ⟨z', .more (t := ⟨n1 + 2,a,c⟩) (h _ _ (.inl rfl)) (step_jp hE.cj a c) h'⟩
    have hA := fun {ra : Option Cps} {sa : Sn} (hr : Run (stepS C1 gs (plS 0 gs)) (updS s1 ⟨0,i,noCaps⟩) [⟨0 + 1,i,c0⟩] ra sa) => part_run (v := v) hE.p1 (XR := fun pc => pc = n1 + 2 \/ pc = n1 + n2 + 3 \/ pc = n1 + n2 + 4) (fun pc h => by omega) ext1 hr [⟨2,i,c0⟩] (updS (updS z ⟨0,i,noCaps⟩) ⟨1,i,c0⟩) (⟨n1 + 3,i,c0⟩ :: beg (i + 1) m) (ZR.one (by simp) (by simp) (by simp) rfl hv hv) (fun b => ⟨(upd_ne (by simp)).trans (he1 b).1,(upd_ne (by simp)).trans (he1 b).2⟩) (fun a b h3 h4 => ((upd_ne (by simp only; omega)).trans (upd_ne (by simp only; omega))).trans ((hz1 a b h3 h4).trans (upd_ne (by simp only; omega)).symm)) hxx
    rcases run_split h1 [⟨0 + 1,i,c0⟩] (beg (i + 1) m) rfl with ⟨c,u,rfl,hr1⟩ | ⟨u,hr1,hr2⟩
    ·
      obtain ⟨k1,c',z',k2,k3,k4⟩ := (hA hr1).2 c rfl
      refine ⟨some c',z',e3 _ _ k2,?_⟩
      have hlow : ∀ c2,r2 = some c2 -> v <= c2 0 := fun c2 hc2 => by
        subst hc2
        have h2' : Run (stepS C2 gs (plS 0 gs)) s2 (beg i (m + 1)) (some c2) s2' := by
          rw [beg_succ]
          refine .more z2 (step_sv (x := 0) hE.p2.b i noCaps) ?_
          rw [hvv,hc0]; exact h2
        have := run_low hE.p2 (by omega) h2'
        rw [hvv] at this; exact this
      cases r2 with
      | none => show some (c' 0,c' 1) = some (c 0,c 1); rw [k3,k4,k1]
      | some c2 =>
        have h5 := hlow c2 rfl
        show some (c' 0,c' 1) = if c 0 <= c2 0 then some (c 0,c 1) else some (c2 0,c2 1)
        rw [if_pos (by omega),k3,k4,k1]
    · obtain ⟨z',a1,a2,a3,a4,a5⟩ := (hA hr1).1 rfl
      have hxz : ∀ pc b,(pc = n1 + 2 \/ pc = n1 + n2 + 3 \/ pc = n1 + n2 + 4) -> z' pc b = false := fun pc b h => (a2 pc b (by omega)).trans (hxx pc b h)
      have hB := fun {ra : Option Cps} {sa : Sn} (hr : Run (stepS C2 gs (plS 0 gs)) (updS s2 ⟨0,i,noCaps⟩) [⟨0 + 1,i,c0⟩] ra sa) => part_run (v := v) hE.p2 (XR := fun pc => pc = n1 + 2 \/ pc = n1 + n2 + 3 \/ pc = n1 + n2 + 4) (fun pc h => by omega) ext2 hr [⟨n1 + 3,i,c0⟩] z' (beg (i + 1) m) (ZR.one (by simp) (by simp) (by simp only; omega) rfl hv hv) (fun b => ⟨(upd_ne (by simp)).trans (he2 b).1,(upd_ne (by simp)).trans (he2 b).2⟩) (fun a b h3 h4 => (a2 _ b (by omega)).trans (((upd_ne (by simp only; omega)).trans (upd_ne (by simp only; omega))).trans ((hz2 a b h3 h4).trans (upd_ne (by simp only; omega)).symm))) hxz
      rcases run_split h2 [⟨0 + 1,i,c0⟩] (beg (i + 1) m) rfl with ⟨c,w,rfl,hr3⟩ | ⟨w,hr3,hr4⟩
      · obtain ⟨k1,c',z'',k2,k3,k4⟩ := (hB hr3).2 c rfl
        refine ⟨some c',z'',e3 _ _ (a5 _ _ k2),?_⟩
        cases r1 with
        | none => show some (c' 0,c' 1) = some (c 0,c 1); rw [k3,k4,k1]
        | some c1 =>
          have h5 := run_low hE.p1 (by omega) hr2
          have h6 : v < (plS 0 gs).getD (i + 1) 0 := by
            rcases Nat.lt_or_ge gs.length (i + 1) with h | h
            · exfalso
              have : m = 0 := by omega
              subst this
              cases hr2
            · rw [<- hvv]; exact plS_lt hg (by omega) h
          show some (c' 0,c' 1) = if c1 0 <= c 0 then some (c1 0,c1 1) else some (c 0,c 1)
          rw [if_neg (by omega),k3,k4,k1]
      · obtain ⟨z'',b1,b2,b3,b4,b5⟩ := (hB hr3).1 rfl
        obtain ⟨r3,z3,g1,g2⟩ := either_run hE hg m (i + 1) u w z'' s1' s2' r1 r2 (by omega) hr2 hr4 (fun a b h3 h4 => (b2 _ b (by omega)).trans (a1 a b h3 h4)) b1 a3 b3 (fun pc b h => (b2 pc b (by omega)).trans (hxz pc b h)) (fun b hb => by
          obtain ⟨y1,y2,y3,y4⟩ := h0 b (by omega)
          have hzz : ∀ pc,pc = 0 \/ pc = 1 -> z'' pc b = z pc b := fun pc h => by
            rw [b2 pc b (by omega),a2 pc b (by omega),upd_ne2 (by simp only; omega),upd_ne2 (by simp only; omega)]
          exact ⟨by rw [a4,upd_ne2 (by simp only; omega)]; exact y1,by rw [b4,upd_ne2 (by simp only; omega)]; exact y2,(hzz 0 (.inl rfl)).trans y3,(hzz 1 (.inr rfl)).trans y4⟩)
        exact ⟨r3,z3,e3 _ _ (a5 _ _ (b5 _ _ g1)),g2⟩
end Go.Proofs.Ytnleclohocdkaaa
namespace Go.Proofs.Ytnleclohocdkaaa
open Go.V Go
def isSeen (seen : List Bool) (v : Int) : Prop := 0 <= v /\ seen[v.toNat]? = some true
structure DfsInv (code : List PIns) (start : Int) (seen : List Bool) (stk : List Int) : Prop where
 a : ∀ u i,seen[u]? = some true -> code[u]? = some i -> ∀ w ∈ nextS u i,isSeen seen w \/ w ∈ stk
 b : ∀ v ∈ stk,v = start \/ ∃ u i,seen[u]? = some true /\ code[u]? = some i /\ v ∈ nextS u i
 c : ∀ v,isSeen seen v -> v = start \/ ∃ u i,seen[u]? = some true /\ code[u]? = some i /\ v ∈ nextS u i /\ v ≠ (u : Int)
 d : isSeen seen start \/ start ∈ stk
theorem set_seen {seen : List Bool} {k : Nat} (hk : k < seen.length) {v : Int} : isSeen (seen.set k true) v ↔ v = (k : Int) \/ isSeen seen v := by
 unfold isSeen;constructor
 ·rintro ⟨h0,h⟩
  by_cases hv : v.toNat = k
  ·left; omega
  ·rw [List.getElem?_set_ne (fun e => hv e.symm)] at h; exact .inr ⟨h0,h⟩
 ·rintro (rfl | ⟨h0,h⟩)
  ·exact ⟨by omega,by rw [Int.toNat_natCast,List.getElem?_set_self hk]⟩
  ·refine ⟨h0,?_⟩
   by_cases hv : v.toNat = k
   ·rw [hv,List.getElem?_set_self hk]
   ·rw [List.getElem?_set_ne (fun e => hv e.symm)]; exact h
theorem seen_nat {seen : List Bool} {u : Nat} : seen[u]? = some true ↔ isSeen seen (u : Int) := by
 unfold isSeen; rw [Int.toNat_natCast]; exact ⟨fun h => ⟨by omega,h⟩,fun h => h.2⟩
theorem dfs_ok {code : List PIns} {start : Int} (hcl : closedS code) : ∀ (f : Nat) (seen : List Bool) (stk : List Int),seen.length = code.length -> (∀ v ∈ stk,0 <= v /\ v < (code.length : Int)) -> 3 * seen.count false + stk.length <= f -> DfsInv code start seen stk -> DfsInv code start (dfs code f seen stk) []
 | 0,seen,stk,_,_,hm,hi => by
  have : stk = [] := by cases stk with | nil => rfl | cons _ _ => simp at hm
  subst this; exact hi
 | f + 1,seen, [],_,_,_,hi => hi
 | f + 1,seen,v :: stk,hl,hs,hm,hi => by
  have hv := hs v (List.mem_cons_self ..);have hs' : ∀ w ∈ stk,0 <= w /\ w < (code.length : Int) := fun w hw => hs w (List.mem_cons_of_mem _ hw);obtain ⟨k,rfl⟩ := Int.eq_ofNat_of_zero_le hv.1;have hk : k < code.length := by omega
  obtain ⟨i,hci⟩ : ∃ i,code[k]? = some i := ⟨code[k]'hk,List.getElem?_eq_getElem _⟩
  obtain ⟨b,hb⟩ : ∃ b,seen[k]? = some b := ⟨seen[k]'(by omega),List.getElem?_eq_getElem _⟩
  simp only [List.length_cons] at hm;have hp : ∀ w,w ∈ ((k : Int) :: stk) -> w = (k : Int) \/ w ∈ stk := fun w hw => List.mem_cons.1 hw;unfold dfs;simp only [Int.toNat_natCast,hb,hci]
  cases b with
  | true =>
   have hks : isSeen seen (k : Int) := seen_nat.1 hb;refine dfs_ok hcl f seen stk hl hs' (by omega) ⟨fun u j hu hj w hw => ?_,fun w hw => hi.b w (List.mem_cons_of_mem _ hw),hi.c,?_⟩
   ·rcases hi.a u j hu hj w hw with h | h
    ·exact .inl h
    ·rcases hp w h with rfl | h
     ·exact .inl hks
     ·exact .inr h
   ·rcases hi.d with h | h
    ·exact .inl h
    ·rcases hp start h with h | h
     ·exact .inl (h ▸ hks)
     ·exact .inr h
  | false =>
   have hcnt := count_set hb;have hkl : k < seen.length := by omega
   have hnl := next_len k i;refine dfs_ok hcl f _ _ (by rw [List.length_set]; exact hl) (fun w hw => ?_) (by simp only [List.length_append,List.length_reverse]; omega) ⟨fun u j hu hj w hw => ?_,fun w hw => ?_,fun w hw => ?_,?_⟩
   ·rcases List.mem_append.1 hw with hw | hw
    ·exact hcl k i hci w (List.mem_reverse.1 hw)
    ·exact hs' w hw
   ·rcases (set_seen hkl).1 (seen_nat.1 hu) with h | h
    ·have : u = k := by omega
     subst this;rw [hci] at hj; cases hj;exact .inr (List.mem_append.2 (.inl (List.mem_reverse.2 hw)))
    ·rcases hi.a u j (seen_nat.2 h) hj w hw with h | h
     ·exact .inl ((set_seen hkl).2 (.inr h))
     ·rcases hp w h with h | h
      ·exact .inl ((set_seen hkl).2 (.inl h))
      ·exact .inr (List.mem_append.2 (.inr h))
   ·rcases List.mem_append.1 hw with hw | hw
    ·exact .inr ⟨k,i,seen_nat.2 ((set_seen hkl).2 (.inl rfl)),hci,List.mem_reverse.1 hw⟩
    ·rcases hi.b w (List.mem_cons_of_mem _ hw) with h | ⟨u,j,h1,h2,h3⟩
     ·exact .inl h
     ·exact .inr ⟨u,j,seen_nat.2 ((set_seen hkl).2 (.inr (seen_nat.1 h1))),h2,h3⟩
   ·rcases (set_seen hkl).1 hw with rfl | h
    ·rcases hi.b (k : Int) (List.mem_cons_self ..) with h | ⟨u,j,h1,h2,h3⟩
     ·exact .inl h
     ·refine .inr ⟨u,j,seen_nat.2 ((set_seen hkl).2 (.inr (seen_nat.1 h1))),h2,h3,fun e => ?_⟩;have : k = u := by omega
      subst this;rw [hb] at h1; cases h1
    ·rcases hi.c w h with h | ⟨u,j,h1,h2,h3,h4⟩
     ·exact .inl h
     ·exact .inr ⟨u,j,seen_nat.2 ((set_seen hkl).2 (.inr (seen_nat.1 h1))),h2,h3,h4⟩
   ·rcases hi.d with h | h
    ·exact .inl ((set_seen hkl).2 (.inr h))
    ·rcases hp start h with h | h
     ·exact .inl ((set_seen hkl).2 (.inl h))
     ·exact .inr (List.mem_append.2 (.inr h))
theorem reach_ok {code : List PIns} {start : Int} (hcl : closedS code) (hst : 0 <= start /\ start < (code.length : Int)) : DfsInv code start (reachS code start) [] := by
 have hno : ∀ v, ¬ isSeen (List.replicate code.length false) v := by
  rintro v ⟨h0,h⟩;rw [List.getElem?_replicate] at h
  split at h <;> cases h
 refine dfs_ok hcl _ _ _ (by simp) (fun v hv => ?_) (by simp) ⟨fun u i hu => absurd (seen_nat.1 hu) (hno _),fun v hv => ?_,fun v hv => absurd hv (hno v), .inr (by simp)⟩
 ·simp only [List.mem_cons,List.not_mem_nil,or_false] at hv; subst hv; exact hst
 ·simp only [List.mem_cons,List.not_mem_nil,or_false] at hv; exact .inl hv
theorem nums_mem : ∀ {L : List Bool} {s : Nat} {v : Int},v ∈ numsS s L ↔ ∃ k : Nat,L[k]? = some true /\ v = ((s + k : Nat) : Int)
 | [],s,v => ⟨fun h => (by cases h),fun ⟨k,h,_⟩ => by simp at h⟩
 | b :: l,s,v => by
  simp only [numsS,List.mem_append];constructor
  ·rintro (h | h)
   ·split at h
    ·rename_i hb;simp only [List.mem_cons,List.not_mem_nil,or_false] at h;exact ⟨0,by simp [hb],by rw [h]; simp⟩
    ·cases h
   ·obtain ⟨k,h1,h2⟩ := nums_mem.1 h;exact ⟨k + 1,by simpa using h1,by rw [h2]; congr 1; omega⟩
  ·rintro ⟨k,h1,h2⟩
   cases k with
   | zero => simp at h1; subst h1; left; simp [h2]
   | succ k => exact .inr (nums_mem.2 ⟨k,by simpa using h1,by rw [h2]; congr 1; omega⟩)
theorem nums_rise : ∀ (L : List Bool) (s : Nat),(numsS s L).Pairwise (· < ·)
 | [],s => .nil
 | b :: l,s => by
  simp only [numsS];have ih := nums_rise l (s + 1)
  split
  ·rw [List.singleton_append,List.pairwise_cons];refine ⟨fun v hv => ?_,ih⟩;obtain ⟨k,_,rfl⟩ := nums_mem.1 hv;omega
  ·exact ih
end Go.Proofs.Ytnleclohocdkaaa
